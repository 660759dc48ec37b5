/- Ab, part 17: slices that are cut back and grow again. -/
import Derived.Test.YtamielbdedbnaaaA16
set_option linter.unusedSimpArgs false
set_option linter.unusedVariables false
namespace Go.Ab
open Go.RowKit
variable {P : Program} {T : Tab} {σ σ0 σ' : St}
theorem all_map {α : Type} {f : α → AV} (xs : List α) (h : ∀ a, valOk (f a) = true) : (xs.map f).all valOk = true := by
  rw [List.all_eq_true]; intro x hx; obtain ⟨a, _, rfl⟩ := List.mem_map.1 hx; exact h a
/-- xs are the first elements of the object that x leads to; o: which object, none: x is nil. -/
def Cut (ty sz : Nat) (xs : List AV) (x : AV) (o : Option Nat) (σ : St) : Prop :=
  match o with
  | none => xs = [] ∧ x = .lst false 0 []
  | some o => ∃ gen els, x = .ref o gen 0 xs.length ∧ σ.objs o = some ⟨ty, sz, gen, els⟩ ∧ els.take xs.length = xs ∧ o < σ.next
theorem Cut.nil (ty sz : Nat) (σ : St) : Cut ty sz [] (.lst false 0 []) none σ := ⟨rfl, rfl⟩
theorem Cut.frame {ty sz : Nat} {xs : List AV} {x : AV} {o : Option Nat} (h : Cut ty sz xs x o σ) (hf : ∀ k, o = some k → σ'.objs k = σ.objs k) (hn : σ.next ≤ σ'.next) : Cut ty sz xs x o σ' := by
  cases o with
  | none => exact h
  | some o =>
    obtain ⟨gen, els, h1, h2, h3, h4⟩ := h
    exact ⟨gen, els, h1, (hf o rfl).trans h2, h3, by omega⟩
theorem Cut.append {ty sz : Nat} {xs : List AV} {x : AV} {o : Option Nat} {t : Nat} {news : List AV} {b : Bool} {s : Nat} {te : TI} {K : AV → St → Prop} (h : Cut ty sz xs x o σ) (h1 : T t = some ⟨1, 24, .slice ty, .slice none 0 0⟩) (h2 : T ty = some te)
    (h3 : te.size = sz ∧ s = sz ∧ 0 < te.size ∧ te.zero.cells.size = te.size) (h4 : news.all valOk = true) (h5 : (xs.length + news.length) * te.bytes ≤ 140737488355328) (h6 : xs.length + news.length ≤ 9223372036854775807)
    (hK : ∀ x' o' σ', Cut ty sz (xs ++ news) x' o' σ' → (∀ k, k < σ.next → o ≠ some k → σ'.objs k = σ.objs k) → σ.next ≤ σ'.next → (o' = o ∨ o' = some σ.next) → K x' σ') : aAppend T t t x (.lst b s news) σ K := by
  obtain ⟨rfl, rfl, h0, hz⟩ := h3
  cases o with
  | none =>
    obtain ⟨rfl, rfl⟩ := h
    simp only [aAppend, Tab.sl, h1, h2, aElems, h4]
    refine ⟨trivial, h0, hz, .inl trivial, trivial, by simpa using h5, by simpa using h6, hK _ (some σ.next) _ ⟨0, news, by simp, by simp [push_objs], by simp, by simp [push_next]⟩ (fun k hk _ => ?_) (by simp [push_next]) (.inr rfl)⟩
    rw [push_objs, if_neg (by omega)]
  | some o =>
    obtain ⟨gen, els, rfl, c2, c3, c4⟩ := h
    simp only [aAppend, Tab.sl, h1, h2, aElems, h4]
    refine ⟨trivial, h0, hz, .inl trivial, trivial, _, c2, rfl, rfl, rfl, h5, h6, hK _ (some o) _ ⟨gen + 1, els.take xs.length ++ news, by simp, by simp [set_objs], ?_, c4⟩ (fun k hk hne => ?_) (Nat.le_refl _) (.inl rfl)⟩
    · rw [c3, List.length_append, ← List.length_append, List.take_length]
    · rw [set_objs, if_neg (fun hq => hne (by rw [hq]))]
theorem Cut.len {ty sz : Nat} {xs : List AV} {x : AV} {o : Option Nat} {t : Nat} {te : TI} {K : AV → Prop} (h : Cut ty sz xs x o σ) (h1 : T t = some ⟨1, 24, .slice ty, .slice none 0 0⟩) (h2 : T ty = some te) (hK : K (i64 xs.length)) : aLen T t x K := by
  cases o with
  | none => obtain ⟨rfl, rfl⟩ := h; simpa only [aLen, Tab.sl, h1, h2] using hK
  | some o => obtain ⟨gen, els, rfl, _⟩ := h; simpa only [aLen, Tab.sl, h1, h2] using hK
theorem Cut.slice {ty sz m : Nat} {xs : List AV} {x : AV} {o : Option Nat} {t : Nat} {te : TI} {k : IntKind} {K : AV → Prop} (h : Cut ty sz xs x o σ) (h1 : T t = some ⟨1, 24, .slice ty, .slice none 0 0⟩) (h2 : T ty = some te) (h3 : te.size = sz)
    (hx : xs ≠ []) (hm : m ≤ xs.length) (hK : ∀ x', Cut ty sz (xs.take m) x' o σ → K x') : aSlice T t x none (some (.sc (.int k (m : Int)))) σ K := by
  cases o with
  | none => exact absurd h.1 hx
  | some o =>
    obtain ⟨gen, els, rfl, c2, c3, c4⟩ := h
    simp only [aSlice, Tab.sl, h1, h2, optI]
    refine ⟨⟨_, c2, rfl, h3⟩, by omega, by simpa using hm, Nat.zero_le _, ?_⟩
    refine hK _ ⟨gen, els, ?_, c2, ?_, c4⟩
    · simp [List.length_take, Nat.min_eq_left hm]
    · rw [List.length_take, Nat.min_eq_left hm]
      conv => rhs; rw [← c3, List.take_take, Nat.min_eq_left hm]
theorem Cut.frz {b : Bool} {ty sz : Nat} {xs : List AV} {x : AV} {o : Option Nat} (h : Cut ty sz xs x o σ) (hp : pureAVs false xs = true) : ∃ c, Frz b σ x (.lst c sz xs) := by
  cases o with
  | none => obtain ⟨rfl, rfl⟩ := h; exact ⟨false, .nil⟩
  | some o =>
    obtain ⟨gen, els, rfl, c2, c3, c4⟩ := h
    refine ⟨b, .ref (ob := ⟨ty, sz, gen, els⟩) c2 rfl ?_⟩
    rw [List.drop_zero]; show FrzL b σ (els.take xs.length) xs
    rw [c3]; exact FrzL.same hp
end Go.Ab
