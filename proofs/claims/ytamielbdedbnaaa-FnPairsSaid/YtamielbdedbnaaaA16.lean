/- Ab, part 16: contracts at a store without objects, and slices that grow. -/
import Derived.Test.YtamielbdedbnaaaA15
import Derived.Laws.Strings
set_option linter.unusedSimpArgs false
set_option linter.unusedVariables false
namespace Go.Ab
open Go.RowKit
variable {P : Program} {T : Tab} {σ σ0 : St}
/-- A call of a function that is proved at a store without objects, its arguments read off the caller's. -/
theorem p_call {f : FuncId} {args args' : List AV} {r : AV} {K : AV → St → Prop} (h : ∀ n, ACall P f args' (St.emp n) (fun x _ => x = r)) (hfr : FrzL true σ args args') (hr : pureAV true r = true) (hK : K r σ) :
    ACall P f args σ K := acall_lend (R := fun x => x = r) (h σ.next) hfr (fun x hx => by subst hx; exact ⟨hr, hK⟩)
/-- The same, where the arguments lead to no object. -/
theorem p_same {f : FuncId} {args : List AV} {r : AV} {K : AV → St → Prop} (h : ∀ n, ACall P f args (St.emp n) (fun x _ => x = r)) (ha : pureAVs false args = true) (hr : pureAV true r = true) (hK : K r σ) :
    ACall P f args σ K := p_call h (FrzL.same ha) hr hK

/-- A slice that grows from nothing: its elements are xs; it is nil, or an object laid since σ0; nothing of σ0 is touched. -/
def Grow (σ0 : St) (ty sz : Nat) (xs : List AV) (x : AV) (σ : St) : Prop :=
  σ0.next ≤ σ.next ∧ (∀ k, k < σ0.next → σ.objs k = σ0.objs k) ∧
    ((xs = [] ∧ x = .lst false 0 []) ∨ ∃ o gen, σ0.next ≤ o ∧ o < σ.next ∧ x = .ref o gen 0 xs.length ∧ σ.objs o = some ⟨ty, sz, gen, xs⟩)
theorem Grow.start (σ0 : St) (ty sz : Nat) : Grow σ0 ty sz [] (.lst false 0 []) σ0 := ⟨Nat.le_refl _, fun _ _ => rfl, .inl ⟨rfl, rfl⟩⟩
theorem Grow.made (σ0 : St) (ty sz : Nat) : Grow σ0 ty sz [] (.ref σ0.next 0 0 0) (σ0.push ⟨ty, sz, 0, []⟩) :=
  ⟨by simp [St.push], fun k hk => by simp only [push_objs]; rw [if_neg (by omega)], .inr ⟨_, 0, Nat.le_refl _, by simp [St.push], rfl, by simp [push_objs]⟩⟩
theorem Grow.push {ty sz : Nat} {xs : List AV} {x : AV} (h : Grow σ0 ty sz xs x σ) (ob : AObj) : Grow σ0 ty sz xs x (σ.push ob) := by
  obtain ⟨h1, h2, h3⟩ := h
  refine ⟨by simp only [push_next]; omega, fun k hk => ?_, ?_⟩
  · rw [push_objs, if_neg (by omega)]; exact h2 k hk
  · rcases h3 with h3 | ⟨o, gen, a, b, c, d⟩
    · exact .inl h3
    · exact .inr ⟨o, gen, a, by simp only [push_next]; omega, c, by rw [push_objs, if_neg (by omega)]; exact d⟩
theorem Grow.setNew {ty sz : Nat} {xs : List AV} {x : AV} (h : Grow σ0 ty sz xs x σ) (ob ob' : AObj) : Grow σ0 ty sz xs x ((σ.push ob).set σ.next ob') := by
  obtain ⟨h1, h2, h3⟩ := h
  refine ⟨by simp only [push_next, set_next]; omega, fun k hk => ?_, ?_⟩
  · rw [set_objs, if_neg (by omega), push_objs, if_neg (by omega)]; exact h2 k hk
  · rcases h3 with h3 | ⟨o, gen, a, b, c, d⟩
    · exact .inl h3
    · exact .inr ⟨o, gen, a, by simp only [push_next, set_next]; omega, c, by rw [set_objs, if_neg (by omega), push_objs, if_neg (by omega)]; exact d⟩
theorem Grow.append {ty sz : Nat} {xs : List AV} {x : AV} {t : Nat} {news : List AV} {b : Bool} {s : Nat} {te : TI} {K : AV → St → Prop} (h : Grow σ0 ty sz xs x σ) (h1 : T t = some ⟨1, 24, .slice ty, .slice none 0 0⟩) (h2 : T ty = some te)
    (h3 : te.size = sz ∧ s = sz ∧ 0 < te.size ∧ te.zero.cells.size = te.size) (h4 : news.all valOk = true) (h5 : (xs.length + news.length) * te.bytes ≤ 140737488355328) (h6 : xs.length + news.length ≤ 9223372036854775807)
    (hK : ∀ x' σ', Grow σ0 ty sz (xs ++ news) x' σ' → K x' σ') : aAppend T t t x (.lst b s news) σ K := by
  obtain ⟨rfl, rfl, h0, hz⟩ := h3
  obtain ⟨g1, g2, h⟩ := h
  rcases h with ⟨rfl, rfl⟩ | ⟨o, gen, a, c, rfl, d⟩
  · simp only [aAppend, Tab.sl, h1, h2, aElems, h4]
    refine ⟨trivial, h0, hz, .inl trivial, trivial, by simpa using h5, by simpa using h6, hK _ _ ⟨by simp only [push_next]; omega, fun k hk => ?_, .inr ⟨σ.next, 0, g1, by simp [St.push], by simp, by simp [push_objs]⟩⟩⟩
    rw [push_objs, if_neg (by omega)]; exact g2 k hk
  · simp only [aAppend, Tab.sl, h1, h2, aElems, h4]
    refine ⟨trivial, h0, hz, .inl trivial, trivial, _, d, rfl, rfl, rfl, h5, h6, hK _ _ ⟨g1, fun k hk => ?_, .inr ⟨o, gen + 1, a, c, by simp, by simp [set_objs]⟩⟩⟩
    rw [set_objs, if_neg (by omega)]; exact g2 k hk
theorem Grow.len {ty sz : Nat} {xs : List AV} {x : AV} {t : Nat} {te : TI} {K : AV → Prop} (h : Grow σ0 ty sz xs x σ) (h1 : T t = some ⟨1, 24, .slice ty, .slice none 0 0⟩) (h2 : T ty = some te) (hK : K (i64 xs.length)) : aLen T t x K := by
  rcases h.2.2 with ⟨rfl, rfl⟩ | ⟨o, gen, a, c, rfl, d⟩ <;> simpa only [aLen, Tab.sl, h1, h2] using hK
theorem Grow.frz {b : Bool} {ty sz : Nat} {xs : List AV} {x : AV} (h : Grow σ0 ty sz xs x σ) (hp : pureAVs false xs = true) (hb : xs = [] → b = false) : Frz b σ x (.lst b sz xs) := by
  rcases h.2.2 with ⟨rfl, rfl⟩ | ⟨o, gen, a, c, rfl, d⟩
  · rw [hb rfl]; exact .nil
  · refine .ref (ob := ⟨ty, sz, gen, xs⟩) d rfl ?_
    simpa using FrzL.same hp
theorem is_append {t t2 : Nat} {s x : AV} {K : AV → St → Prop} (h : aAppend T t t2 s x σ K) : aAppend T t t2 s x σ K := h
theorem is_store {t : Nat} {p v : AV} {K : AV → St → Prop} (h : aStore T t p v σ K) : aStore T t p v σ K := h
theorem is_slice {t : Nat} {x : AV} {lo hi : Option AV} {K : AV → Prop} (h : aSlice T t x lo hi σ K) : aSlice T t x lo hi σ K := h
theorem is_ixaddr {t : Nat} {x ix : AV} {K : AV → Prop} (h : aIndexAddr T t x ix σ K) : aIndexAddr T t x ix σ K := h
theorem is_alloc {t : Nat} {K : AV → St → Prop} (h : aAlloc T t σ K) : aAlloc T t σ K := h
theorem is_box {t : Nat} {x : AV} {md : Bool} {K : AV → St → Prop} (h : aBox T t x md σ K) : aBox T t x md σ K := h
theorem is_make {t : Nat} {l c : AV} {K : AV → St → Prop} (h : aMake T t l c σ K) : aMake T t l c σ K := h
theorem is_bslice {t n : Nat} {ps : List (Nat × AV)} {md : Bool} {K : AV → St → Prop} (h : aBuildSlice T t n ps md σ K) : aBuildSlice T t n ps md σ K := h
theorem is_load {t : Nat} {x : AV} {K : AV → Prop} (h : aLoad T t x σ K) : aLoad T t x σ K := h
theorem is_conv {s d : Nat} {x : AV} {K : AV → Prop} (h : aConvS T s d x σ K) : aConvS T s d x σ K := h
theorem is_all {xs : List AV} (h : xs.all valOk = true) : xs.all valOk = true := h
theorem is_len {t : Nat} {x : AV} {K : AV → Prop} (h : aLen T t x K) : aLen T t x K := h
theorem ab_eq {Q : AV → St → Prop} {x y : AV} (h : Q x σ) (e : x = y) : Q y σ := e ▸ h
theorem bl_false {b : Bool} (h : b = false) : bl b = .sc (.bool false) := by rw [h]
theorem bl_true {b : Bool} (h : b = true) : bl b = .sc (.bool true) := by rw [h]
theorem str_empty (s : ByteArray) : (s.toList == ({data := #[]} : ByteArray).toList) = decide ((s.size : Int) = 0) := by
  rw [ByteArray.toList_eq, ByteArray.toList_eq]
  cases s with | mk d => cases d with | mk l => cases l <;> simp [ByteArray.size]; omega
theorem str_eq (a b : ByteArray) : (a.toList == b.toList) = decide (a = b) := by
  rw [ByteArray.toList_eq, ByteArray.toList_eq]
  cases a with | mk d => cases b with | mk c => cases d with | mk l => cases c with | mk k => by_cases h : l = k <;> simp [h]
theorem u8_tri (a b : UInt8) : a < b ∨ a = b ∨ b < a := by
  rcases Nat.lt_trichotomy a.toNat b.toNat with h | h | h
  · exact .inl h
  · exact .inr (.inl (UInt8.toNat_inj.1 h))
  · exact .inr (.inr h)
theorem bl_irr : ∀ x : List UInt8, Op.bytesLess x x = false
  | [] => rfl
  | a :: x => by simp [Op.bytesLess, bl_irr x]
theorem bl_tri : ∀ x y : List UInt8, (Op.bytesLess x y || x == y) = !Op.bytesLess y x
  | [], [] => rfl
  | [], _ :: _ => rfl
  | _ :: _, [] => rfl
  | a :: x, b :: y => by
    have ih := bl_tri x y
    rcases u8_tri a b with h | h | h
    · have h2 : ¬ b < a := fun k => absurd (Nat.lt_trans (show a.toNat < b.toNat from h) k) (Nat.lt_irrefl _)
      have h3 : b ≠ a := fun k => by subst k; exact absurd h (Nat.lt_irrefl _)
      simp [Op.bytesLess, h, h2, h3]
    · subst h; simpa [Op.bytesLess] using ih
    · have h2 : ¬ a < b := fun k => absurd (Nat.lt_trans (show b.toNat < a.toNat from h) k) (Nat.lt_irrefl _)
      have h3 : a ≠ b := fun k => by subst k; exact absurd h (Nat.lt_irrefl _)
      simp [Op.bytesLess, h, h2, h3]
theorem bl_trans : ∀ x y z : List UInt8, Op.bytesLess x y = true → Op.bytesLess y z = true → Op.bytesLess x z = true
  | [], _, [], _, h => by cases ‹List UInt8› <;> simp [Op.bytesLess] at h
  | [], _, _ :: _, _, _ => rfl
  | _ :: _, [], _, h, _ => by simp [Op.bytesLess] at h
  | _ :: _, _ :: _, [], _, h => by simp [Op.bytesLess] at h
  | a :: x, b :: y, c :: z, h, k => by
    simp only [Op.bytesLess, Bool.or_eq_true, decide_eq_true_eq, Bool.and_eq_true, beq_iff_eq] at h k ⊢
    rcases h with h | ⟨rfl, h⟩
    · rcases k with k | ⟨rfl, k⟩
      · exact .inl (Nat.lt_trans (show a.toNat < b.toNat from h) k)
      · exact .inl h
    · rcases k with k | ⟨rfl, k⟩
      · exact .inl k
      · exact .inr ⟨rfl, bl_trans x y z h k⟩
/-- the order of strings -/
def sLt (a b : ByteArray) : Bool := Op.bytesLess a.toList b.toList
theorem sLt_def (a b : ByteArray) : Op.bytesLess a.toList b.toList = sLt a b := rfl
theorem sLe_def (a b : ByteArray) : (sLt a b || a.toList == b.toList) = !sLt b a := bl_tri _ _
theorem sLt_irr (a : ByteArray) : sLt a a = false := bl_irr _
theorem sLt_trans {a b c : ByteArray} (h : sLt a b = true) (k : sLt b c = true) : sLt a c = true := bl_trans _ _ _ h k
theorem tdivE {a b : Int} (h : 0 ≤ a) : a.tdiv b = a / b := Int.tdiv_eq_ediv_of_nonneg h
theorem tmodE {a b : Int} (h : 0 ≤ a) : a.tmod b = a % b := Int.tmod_eq_emod_of_nonneg h
theorem tdivN {a b : Int} (h : a < 0) : a.tdiv b = -(-a / b) := by
  conv => lhs; rw [← Int.neg_neg a, Int.neg_tdiv]
  rw [Int.tdiv_eq_ediv_of_nonneg (by omega)]
theorem tmodN {a b : Int} (h : a < 0) : a.tmod b = -(-a % b) := by
  conv => lhs; rw [← Int.neg_neg a, Int.neg_tmod]
  rw [Int.tmod_eq_emod_of_nonneg (by omega)]
theorem pures_iff {c : Bool} : ∀ {xs : List AV}, pureAVs c xs = true ↔ ∀ x ∈ xs, pureAV c x = true
  | [] => by simp [pureAVs]
  | x :: xs => by simp [pureAVs, pures_iff (xs := xs)]
theorem pures_map {α : Type} {c : Bool} {f : α → AV} (xs : List α) (h : ∀ a, pureAV c (f a) = true) : pureAVs c (xs.map f) = true := by
  rw [pures_iff]; intro x hx; obtain ⟨a, _, rfl⟩ := List.mem_map.1 hx; exact h a
theorem obj_push {σ : St} {ob : AObj} {o : Nat} {r : Option AObj} (h : o ≠ σ.next) (k : σ.objs o = r) : (σ.push ob).objs o = r := by simp [push_objs, h, k]
theorem obj_set {σ : St} {x : Nat} {ob : AObj} {o : Nat} {r : Option AObj} (h : o ≠ x) (k : σ.objs o = r) : (σ.set x ob).objs o = r := by simp [set_objs, h, k]
theorem ex_and {α : Type} {p q : α → Prop} {w : α} (h : p w) (k : q w) : ∃ x, p x ∧ q x := ⟨w, h, k⟩
theorem is_prop {p : Prop} (h : p) : p := h
attribute [go_sem] sLe_def sLt_def str_empty List.length_map Bool.not_not
end Go.Ab
