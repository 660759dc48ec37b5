/- Ab, part 7: operations that make or write memory: stores, boxes, structs and slices built, make, append. -/
import Derived.Test.YtamielbdedbnaaaA6
import Derived.Laws.MakeOwn
set_option linter.unusedSimpArgs false
set_option linter.unusedVariables false
namespace Go.Ab
open Go.RowKit

/-- cells j.. of a value replaced -/
def AV.put (x : AV) (j : Nat) (new : List AV) : AV :=
  match x with
  | .agg cs => .agg (cs.take j ++ new ++ cs.drop (j + new.length))
  | x => new.headD x

theorem splice_get {α : Type} (l m : List α) (a x : Nat) (h : a + m.length ≤ l.length) :
    (l.take a ++ m ++ l.drop (a + m.length))[x]? = if x < a then l[x]? else if x < a + m.length then m[x - a]? else l[x]? := by
  have h1 : (l.take a).length = a := by rw [List.length_take]; omega
  by_cases hx : x < a
  · rw [if_pos hx, List.append_assoc, List.getElem?_append_left (by omega), List.getElem?_take, if_pos hx]
  · rw [if_neg hx]
    by_cases hx2 : x < a + m.length
    · rw [if_pos hx2, List.getElem?_append_left (by rw [List.length_append]; omega), List.getElem?_append_right (by omega), h1]
    · rw [if_neg hx2, List.getElem?_append_right (by rw [List.length_append]; omega), List.length_append, h1, List.getElem?_drop]
      congr 1
      omega

section
variable {Γ Γ' : Ctx} {σ σ' : St} {w w' : World} {P : Program} {T : Tab}

theorem grownBy_setRow (w : World) (g : Nat) (cs : Array Value) : w.grownBy (w.setRow g cs) (some g) :=
  ⟨rfl, rfl, rfl, by simp [World.setRow], fun k _ hk => setRow_other w g k cs (fun e => hk (by rw [e]))⟩

theorem V_put {x : AV} {v : Value} {new : List AV} {nv : List Value} {j : Nat} (hx : valOk x = true) (hv : V Γ σ w x v) (hn : VL Γ σ w new nv) (hall : ∀ u ∈ nv, u.oneCell' = true) (hj : j + new.length ≤ x.cells.length) :
    ∃ v', V Γ σ w (x.put j new) v' ∧ v'.cells.toList = v.cells.toList.take j ++ nv ++ v.cells.toList.drop (j + nv.length) := by
  have hlen := hn.length
  rcases not_agg x with ⟨cs, rfl⟩ | ⟨e1, e2⟩
  · simp only [V] at hv
    obtain ⟨us, rfl, h⟩ := hv
    refine ⟨.agg (us.take j ++ nv ++ us.drop (j + nv.length)).toArray, ?_, by simp [Value.cells]⟩
    simp only [AV.put, V]
    refine ⟨_, rfl, ?_⟩
    rw [← hlen]
    exact ((h.take _).append hn).append (h.drop _)
  · rw [e2] at hj
    rw [e1] at hx
    obtain ⟨c1, c2⟩ := leaf_cells hx hv
    have hput : x.put j new = new.headD x := by cases x <;> simp_all [AV.put, leafOk]
    rw [hput]
    cases new with
    | nil =>
      simp only [VL] at hn
      subst hn
      refine ⟨v, hv, ?_⟩
      rw [c2]
      simp
    | cons y ys =>
      simp at hj
      obtain ⟨rfl, rfl⟩ : ys = [] ∧ j = 0 := ⟨List.eq_nil_of_length_eq_zero (by omega), by omega⟩
      simp only [VL] at hn
      obtain ⟨u, us, rfl, hV, rfl⟩ := hn
      refine ⟨u, hV, ?_⟩
      have : u.cells = #[u] := by have := hall u (by simp); cases u <;> simp_all [Value.cells, Value.oneCell']
      rw [c2, this]
      simp

theorem mul_lt_of {i n sz j : Nat} (hi : i < n) (hj : j < sz) : i * sz + j < n * sz := by
  have := Nat.mul_le_mul_right sz (show i + 1 ≤ n from hi)
  rw [Nat.add_mul, Nat.one_mul] at this
  omega

theorem EAt_splice {blk sz i j : Nat} {vs : List Value} {cur : Array Value} {ty : TypeId} {v v' : Value} {nv : List Value} (h : EAt w blk 0 sz vs)
    (hg : w.heap[blk]? = some (.cells cur ty (0, 0))) (hv : vs[i]? = some v) (hj : j + nv.length ≤ sz) (hsz : i * sz + sz ≤ cur.size)
    (hv' : v'.cells.toList = v.cells.toList.take j ++ nv ++ v.cells.toList.drop (j + nv.length)) :
    EAt (w.setRow blk (cur.toList.take (i * sz + j) ++ nv ++ cur.toList.drop (i * sz + j + nv.length)).toArray) blk 0 sz (vs.set i v') := by
  have hvs := (h i v hv).1
  have hcell : ∀ x, (w.setRow blk (cur.toList.take (i * sz + j) ++ nv ++ cur.toList.drop (i * sz + j + nv.length)).toArray).cell? ⟨blk, x, none⟩ =
      if x < i * sz + j then cur.toList[x]? else if x < i * sz + j + nv.length then nv[x - (i * sz + j)]? else cur.toList[x]? := fun x => by
    rw [cell_setRow_same w blk x cur _ ty (0, 0) hg, List.getElem?_toArray, splice_get _ _ _ _ (by have := Array.length_toList (xs := cur); omega)]
  have hold : ∀ x, w.cell? ⟨blk, x, none⟩ = cur.toList[x]? := fun x => by rw [cell_of_row w blk x cur ty (0, 0) hg]; simp
  have hsize' : v'.cells.size = sz := by
    have := congrArg List.length hv'
    simp only [List.length_append, List.length_take, List.length_drop, Array.length_toList] at this
    omega
  intro k u hu
  by_cases hk : k = i
  · subst hk
    have hlt : k < vs.length := (List.getElem?_eq_some_iff.1 hv).1
    rw [List.getElem?_set_self hlt] at hu
    cases hu
    refine ⟨hsize', fun q c hq => ?_⟩
    have hq1 : v'.cells.toList[q]? = some c := by simpa using hq
    rw [hv', splice_get _ _ _ _ (by have := Array.length_toList (xs := v.cells); omega)] at hq1
    rw [Nat.zero_add, hcell]
    have hqsz : q < sz := by
      have := (Array.getElem?_eq_some_iff.1 hq).1
      omega
    by_cases h1 : q < j
    · rw [if_pos h1] at hq1
      rw [if_pos (by omega), ← hold]
      have := (h k v hv).2 q c (by simpa using hq1)
      simpa using this
    · rw [if_neg h1] at hq1
      rw [if_neg (by omega)]
      by_cases h2 : q < j + nv.length
      · rw [if_pos h2] at hq1
        rw [if_pos (by omega), show k * sz + q - (k * sz + j) = q - j by omega]
        exact hq1
      · rw [if_neg h2] at hq1
        rw [if_neg (by omega), ← hold]
        have := (h k v hv).2 q c (by simpa using hq1)
        simpa using this
  · rw [List.getElem?_set_ne (Ne.symm hk)] at hu
    obtain ⟨f1, f2⟩ := h k u hu
    refine ⟨f1, fun q c hq => ?_⟩
    have hqsz : q < sz := by
      have := (Array.getElem?_eq_some_iff.1 hq).1
      omega
    have := f2 q c hq
    rw [Nat.zero_add] at this ⊢
    rw [hcell]
    rw [hold] at this
    rcases Nat.lt_or_gt_of_ne hk with hlt | hgt
    · have := mul_lt_of hlt hqsz
      rw [if_pos (by omega)]
      assumption
    · have h3 := Nat.mul_le_mul_right sz (show i + 1 ≤ k from hgt)
      rw [Nat.add_mul, Nat.one_mul] at h3
      rw [if_neg (by omega), if_neg (by omega)]
      assumption

def aStore (T : Tab) (t : Nat) (p v : AV) (σ : St) (K : AV → St → Prop) : Prop :=
  match p with
  | .ptr o g i j => ∃ ob, σ.objs o = some ob ∧ ob.gen = g ∧ ∃ el, ob.els[i]? = some el ∧ valOk el = true ∧ valOk v = true ∧
      T.ty t fun ti => v.cells.length = ti.size ∧ j + ti.size ≤ el.cells.length ∧ K (.tup []) (σ.set o { ob with els := ob.els.set i (el.put j v.cells) })
  | _ => False
theorem aStore_sound (hT : TabOk P T) (hM : Models Γ σ w) {t : Nat} {p v : AV} {K : AV → St → Prop} (h : aStore T t p v σ K) {u z : Value} (hu : V Γ σ w p u) (hz : V Γ σ w v z) :
    ∃ w' Γ' σ', (Instr.storeAt t u z).run P w = .ok () w' ∧ K (.tup []) σ' ∧ Step Γ σ w Γ' σ' w' ∧ Models Γ' σ' w' := by
  cases p <;> simp only [aStore] at h
  case ptr o g i j =>
    obtain ⟨ob, h1, h2, el, h3, h4, h5, h⟩ := h
    obtain ⟨ti, h6, h7, h8, hK⟩ := Tab.ty_out hT h
    simp only [V] at hu
    obtain ⟨_, _, hu⟩ := hu
    obtain ⟨_, hu⟩ := hu ob h1
    obtain ⟨hi, blk, cap, hr, rfl⟩ := hu h2
    have hl := hM.lives o ob h1
    obtain ⟨⟨cur, c1, c2⟩, c3, c4, c5⟩ := hl.cells blk cap hr
    obtain ⟨vs, d1, d2⟩ := hl.vals blk cap hr
    obtain ⟨vi, e1, e2⟩ := d1.get _ _ h3
    have e3 := (d2 i vi e1).1
    have e4 := val_size h4 e2
    obtain ⟨f1, f2⟩ := val_cells h5 hz
    have f3 := f1.length
    have hcap : i * ob.sz + ob.sz ≤ cur.size := by
      have := Nat.mul_le_mul_right ob.sz (show i + 1 ≤ cap by omega)
      rw [Nat.add_mul, Nat.one_mul] at this
      omega
    obtain ⟨v', g1, g2⟩ := V_put (new := v.cells) (j := j) h4 e2 f1 f2 (by omega)
    have hrun := run_storeCells_at P blk (i * ob.sz + j) ob.ty z.cells.toList 0 cur w c1 (by rw [f3]; omega) f2
    simp only [Nat.add_zero] at hrun
    have hgr : w.grownBy (w.setRow blk (cur.toList.take (i * ob.sz + j) ++ z.cells.toList ++ cur.toList.drop (i * ob.sz + j + z.cells.toList.length)).toArray) ((Γ.row o).map (·.1)) := by
      rw [hr]; exact grownBy_setRow _ _ _
    have hr' : ∀ g c, Γ.row o = some (g, c) → w.heap.size ≤ g ∨ ∃ c', Γ.row o = some (g, c') := fun g c h => .inr ⟨c, h⟩
    have hsame : ({ ob with els := ob.els.set i (el.put j v.cells) } : AObj).gen = ob.gen → Γ.row o = Γ.row o ∧
        ({ ob with els := ob.els.set i (el.put j v.cells) } : AObj).sz = ob.sz ∧ ({ ob with els := ob.els.set i (el.put j v.cells) } : AObj).els.length = ob.els.length := fun _ => ⟨rfl, rfl, by simp⟩
    have hs := step_set hM h1 (ob' := { ob with els := ob.els.set i (el.put j v.cells) }) (Γ.row o) hgr hr' (Nat.le_refl _) hsame
    refine ⟨_, _, _, ?_, hK, hs, models_set hM h1 (Γ.row o) hgr hr' (Nat.le_refl _) hsame ?_⟩
    · have hs1 : z.cells.size = ti.size := by have := f3; simp at this; omega
      simp [Instr.storeAt, Instr.sureAddr, storeVar, h6.sizeOf w, hs1, hrun]
    · refine ⟨hl.sz, fun hq => ?_, fun g' c' hq => ?_, fun g' c' hq => ?_⟩
      · rw [hr] at hq; cases hq
      · rw [hr] at hq
        cases hq
        exact ⟨⟨_, setRow_heap w blk cur _ ob.ty _ c1, by
          have q1 := Array.length_toList (xs := cur)
          simp only [List.size_toArray, List.length_append, List.length_take, List.length_drop]
          show _ = cap * ob.sz
          omega⟩, by simpa using c3, c4, c5⟩
      · rw [hr] at hq
        cases hq
        refine ⟨vs.set i v', (VL_step hM hs _ _ d1).set i (V_step hM hs _ _ g1), ?_⟩
        exact EAt_splice d2 c1 e1 (by rw [f3]; omega) hcap g2
  all_goals exact h.elim
end
end Go.Ab
