/- Ab, part 6: how the store of live objects goes on: new stable blocks, new objects, changed objects, objects let go. -/
import Derived.Test.YtamielbdedbnaaaA5
set_option linter.unusedSimpArgs false
set_option linter.unusedVariables false
namespace Go.Ab
open Go.RowKit

def Ctx.addS (Γ : Ctx) (g : Nat) : Ctx := { Γ with S := fun k => k = g ∨ Γ.S k, B := fun k => k = g ∨ Γ.B k }
def Ctx.setRow (Γ : Ctx) (o : Nat) (r : Option (Nat × Nat)) : Ctx := { Γ with row := fun k => if k = o then r else Γ.row k }
def St.set (σ : St) (o : Nat) (ob : AObj) : St := { σ with objs := fun k => if k = o then some ob else σ.objs k }
def St.push (σ : St) (ob : AObj) : St := { objs := fun k => if k = σ.next then some ob else σ.objs k, next := σ.next + 1 }

theorem St.set_same (σ : St) (o : Nat) (ob : AObj) : (σ.set o ob).objs o = some ob := by simp [St.set]
theorem St.set_other (σ : St) {o k : Nat} (ob : AObj) (h : k ≠ o) : (σ.set o ob).objs k = σ.objs k := by simp [St.set, h]
theorem St.set_next (σ : St) (o : Nat) (ob : AObj) : (σ.set o ob).next = σ.next := rfl
theorem St.push_same (σ : St) (ob : AObj) : (σ.push ob).objs σ.next = some ob := by simp [St.push]
theorem St.push_other (σ : St) {k : Nat} (ob : AObj) (h : k ≠ σ.next) : (σ.push ob).objs k = σ.objs k := by simp [St.push, h]
theorem St.push_next (σ : St) (ob : AObj) : (σ.push ob).next = σ.next + 1 := rfl

section
variable {Γ Γ' : Ctx} {σ σ' : St} {w w' : World}

/-- What Lives says goes over a step that leaves the object's block alone. -/
theorem Lives.over (hM : Models Γ σ w) (hs : Step Γ σ w Γ' σ' w') {ob : AObj} {r : Option (Nat × Nat)} (h : Lives Γ σ w ob r) (hk : ∀ g c, r = some (g, c) → w'.heap[g]? = w.heap[g]?)
    (hB : ∀ g c, r = some (g, c) → ¬ Γ'.B g) : Lives Γ' σ' w' ob r := by
  refine ⟨h.sz, h.nil, fun g c hr => ?_, fun g c hr => ?_⟩
  · obtain ⟨⟨cur, h1, h2⟩, h3, h4, h5⟩ := h.cells g c hr
    exact ⟨⟨cur, by rw [hk g c hr]; exact h1, h2⟩, h3, h4, hB g c hr⟩
  · obtain ⟨vs, h1, h2⟩ := h.vals g c hr
    exact ⟨vs, VL_step hM hs _ _ h1, h2.keep (hk g c hr)⟩

theorem Lives.lt {ob : AObj} {g c : Nat} (h : Lives Γ σ w ob (some (g, c))) : g < w.heap.size := by
  obtain ⟨⟨cur, h1, _⟩, _⟩ := h.cells g c rfl
  exact (Array.getElem?_eq_some_iff.1 h1).1

/-! ### a draw -/
theorem step_drew (Γ : Ctx) (σ : St) (w : World) : Step Γ σ w Γ σ { w with drawn := w.drawn + 1 } :=
  ⟨rfl, rfl, rfl, Nat.le_refl _, fun _ _ _ => rfl, fun _ h => h, fun _ h => h, fun _ h => .inl h, Nat.le_refl _,
    fun _ ob' _ h => ⟨ob', h, Nat.le_refl _, fun _ => ⟨rfl, rfl, rfl⟩⟩, fun _ h => .inr h⟩
theorem models_drew (hM : Models Γ σ w) : Models Γ σ { w with drawn := w.drawn + 1 } :=
  ⟨hM.lt, fun o ob ho => (hM.lives o ob ho).over hM (step_drew Γ σ w) (fun _ _ _ => rfl) (fun g c hr => by
    have := hM.lives o ob ho
    exact (this.cells g c hr).2.2.2), hM.inj, hM.sub, hM.size⟩

/-! ### a new stable block -/
theorem step_stable (hM : Models Γ σ w) (ob : Obj) : Step Γ σ w (Γ.addS w.heap.size) σ (w.alloc ob) where
  os := rfl
  tape := rfl
  output := rfl
  size := by simp
  keep := fun g hg _ => Below.heap_alloc w ob g hg
  S := fun g h => .inr h
  B := fun g h => .inr h
  newS := fun g h => by
    rcases h with rfl | h
    · exact .inr (.inl (Nat.le_refl _))
    · exact .inl h
  next := Nat.le_refl _
  obj := fun _ ob' _ h => ⟨ob', h, Nat.le_refl _, fun _ => ⟨rfl, rfl, rfl⟩⟩
  fresh := fun _ h => .inr h
theorem models_stable (hM : Models Γ σ w) (ob : Obj) : Models (Γ.addS w.heap.size) σ (w.alloc ob) where
  lt := hM.lt
  lives := fun o a ho => by
    have hl := hM.lives o a ho
    refine hl.over hM (step_stable hM ob) (fun g c hr => ?_) (fun g c hr hq => ?_)
    · have hr' : Γ.row o = some (g, c) := hr
      rw [hr'] at hl
      exact Below.heap_alloc w ob g hl.lt
    · have hr' : Γ.row o = some (g, c) := hr
      rcases hq with rfl | hq
      · rw [hr'] at hl
        exact absurd hl.lt (Nat.lt_irrefl _)
      · exact (hl.cells g c hr').2.2.2 hq
  inj := hM.inj
  sub := fun g h => by
    rcases h with rfl | h
    · exact .inl rfl
    · exact .inr (hM.sub g h)
  size := fun g h => by
    rcases h with rfl | h
    · simp
    · have := hM.size g h; simp; omega

/-! ### a new object -/
/-- The step of a new object, its block (if any) new. -/
theorem step_push (hM : Models Γ σ w) (ob : AObj) (r : Option (Nat × Nat)) (hg : w.grownBy w' none) (hr : ∀ g c, r = some (g, c) → w.heap.size ≤ g) :
    Step Γ σ w (Γ.setRow σ.next r) (σ.push ob) w' where
  os := hg.os
  tape := hg.tape
  output := hg.output
  size := hg.size
  keep := fun g h _ => hg.block g h (by simp)
  S := fun g h => h
  B := fun g h => h
  newS := fun g h => .inl h
  next := Nat.le_succ _
  obj := fun o ob' ho h => by
    rw [St.push_other σ ob (by omega)] at h
    exact ⟨ob', h, Nat.le_refl _, fun _ => ⟨by simp [Ctx.setRow]; omega, rfl, rfl⟩⟩
  fresh := fun g ⟨o, a, c, h1, h2⟩ => by
    by_cases hq : o = σ.next
    · subst hq
      simp only [Ctx.setRow, if_true] at h2
      exact .inl (hr g c h2)
    · rw [St.push_other σ ob hq] at h1
      simp only [Ctx.setRow, if_neg hq] at h2
      exact .inr ⟨o, a, c, h1, h2⟩
theorem models_push (hM : Models Γ σ w) (ob : AObj) (r : Option (Nat × Nat)) (hg : w.grownBy w' none) (hr : ∀ g c, r = some (g, c) → w.heap.size ≤ g)
    (hnew : Lives (Γ.setRow σ.next r) (σ.push ob) w' ob r) : Models (Γ.setRow σ.next r) (σ.push ob) w' := by
  have hs := step_push (w' := w') hM ob r hg hr
  refine ⟨fun o a h => ?_, fun o a h => ?_, fun o o' a a' g c c' h1 h2 h3 h4 => ?_, hM.sub, fun g h => Nat.lt_of_lt_of_le (hM.size g h) hg.size⟩
  · by_cases hq : o = σ.next
    · subst hq; exact Nat.lt_succ_self _
    · rw [St.push_other σ ob hq] at h
      exact Nat.lt_succ_of_lt (hM.lt o a h)
  · by_cases hq : o = σ.next
    · subst hq
      rw [St.push_same] at h
      cases h
      simpa [Ctx.setRow] using hnew
    · rw [St.push_other σ ob hq] at h
      have hl := hM.lives o a h
      simp only [Ctx.setRow, if_neg hq]
      refine hl.over hM hs (fun g c hr' => ?_) (fun g c hr' => (hl.cells g c hr').2.2.2)
      rw [hr'] at hl
      exact hg.block g hl.lt (by simp)
  · by_cases hq : o = σ.next
    · by_cases hq' : o' = σ.next
      · omega
      · rw [St.push_other σ ob hq'] at h2
        simp only [Ctx.setRow, if_neg hq', if_pos hq] at h3 h4
        have hl := hM.lives o' a' h2
        rw [h4] at hl
        have := hr g c h3
        have := hl.lt
        omega
    · rw [St.push_other σ ob hq] at h1
      by_cases hq' : o' = σ.next
      · simp only [Ctx.setRow, if_neg hq, if_pos hq'] at h3 h4
        have hl := hM.lives o a h1
        rw [h3] at hl
        have := hr g c' h4
        have := hl.lt
        omega
      · rw [St.push_other σ ob hq'] at h2
        simp only [Ctx.setRow, if_neg hq, if_neg hq'] at h3 h4
        exact hM.inj o o' a a' g c c' h1 h2 h3 h4

/-! ### an object changed -/
theorem step_set (hM : Models Γ σ w) {o : Nat} {ob ob' : AObj} (ho : σ.objs o = some ob) (r : Option (Nat × Nat))
    (hg : w.grownBy w' ((Γ.row o).map (·.1))) (hr : ∀ g c, r = some (g, c) → w.heap.size ≤ g ∨ ∃ c', Γ.row o = some (g, c'))
    (hgen : ob.gen ≤ ob'.gen) (hsame : ob'.gen = ob.gen → r = Γ.row o ∧ ob'.sz = ob.sz ∧ ob'.els.length = ob.els.length) :
    Step Γ σ w (Γ.setRow o r) (σ.set o ob') w' where
  os := hg.os
  tape := hg.tape
  output := hg.output
  size := hg.size
  keep := fun g h hl => hg.block g h (fun hq => hl (by
    cases hro : Γ.row o with
    | none => rw [hro] at hq; cases hq
    | some p => rw [hro] at hq; cases hq; exact ⟨o, ob, p.2, ho, hro⟩))
  S := fun g h => h
  B := fun g h => h
  newS := fun g h => .inl h
  next := Nat.le_refl _
  obj := fun k a _ h => by
    by_cases hq : k = o
    · subst hq
      rw [St.set_same] at h
      cases h
      refine ⟨ob, ho, hgen, fun he => ?_⟩
      obtain ⟨h1, h2, h3⟩ := hsame he
      exact ⟨by simp [Ctx.setRow, h1], h2, h3⟩
    · rw [St.set_other σ ob' hq] at h
      exact ⟨a, h, Nat.le_refl _, fun _ => ⟨by simp [Ctx.setRow, hq], rfl, rfl⟩⟩
  fresh := fun g ⟨k, a, c, h1, h2⟩ => by
    by_cases hq : k = o
    · subst hq
      simp only [Ctx.setRow, if_true] at h2
      rcases hr g c h2 with h | ⟨c', h⟩
      · exact .inl h
      · exact .inr ⟨k, ob, c', ho, h⟩
    · rw [St.set_other σ ob' hq] at h1
      simp only [Ctx.setRow, if_neg hq] at h2
      exact .inr ⟨k, a, c, h1, h2⟩
theorem models_set (hM : Models Γ σ w) {o : Nat} {ob ob' : AObj} (ho : σ.objs o = some ob) (r : Option (Nat × Nat))
    (hg : w.grownBy w' ((Γ.row o).map (·.1))) (hr : ∀ g c, r = some (g, c) → w.heap.size ≤ g ∨ ∃ c', Γ.row o = some (g, c'))
    (hgen : ob.gen ≤ ob'.gen) (hsame : ob'.gen = ob.gen → r = Γ.row o ∧ ob'.sz = ob.sz ∧ ob'.els.length = ob.els.length)
    (hnew : Lives (Γ.setRow o r) (σ.set o ob') w' ob' r) : Models (Γ.setRow o r) (σ.set o ob') w' := by
  have hs := step_set (w' := w') hM ho r hg hr hgen hsame
  refine ⟨fun k a h => ?_, fun k a h => ?_, fun k k' a a' g c c' h1 h2 h3 h4 => ?_, hM.sub, fun g h => Nat.lt_of_lt_of_le (hM.size g h) hg.size⟩
  · by_cases hq : k = o
    · subst hq; exact hM.lt k ob ho
    · rw [St.set_other σ ob' hq] at h
      exact hM.lt k a h
  · by_cases hq : k = o
    · subst hq
      rw [St.set_same] at h
      cases h
      simpa [Ctx.setRow] using hnew
    · rw [St.set_other σ ob' hq] at h
      have hl := hM.lives k a h
      simp only [Ctx.setRow, if_neg hq]
      refine hl.over hM hs (fun g c hr' => ?_) (fun g c hr' => (hl.cells g c hr').2.2.2)
      have hl' := hl
      rw [hr'] at hl'
      refine hg.block g hl'.lt (fun hq2 => hq ?_)
      cases hro : Γ.row o with
      | none => rw [hro] at hq2; cases hq2
      | some p => rw [hro] at hq2; cases hq2; exact hM.inj k o a ob p.1 c p.2 h ho hr' hro
  · have key : ∀ k a g c c', k ≠ o → (σ.objs k = some a) → Γ.row k = some (g, c) → r = some (g, c') → False := fun k a g c c' hk h1 h2 h3 => by
      have hl := hM.lives k a h1
      rw [h2] at hl
      rcases hr g c' h3 with h | ⟨c2, h⟩
      · have := hl.lt; omega
      · exact hk (hM.inj k o a ob g c c2 h1 ho h2 h)
    by_cases hq : k = o
    · by_cases hq' : k' = o
      · omega
      · rw [St.set_other σ ob' hq'] at h2
        simp only [Ctx.setRow, if_neg hq', if_pos hq] at h3 h4
        exact (key k' a' g c' c hq' h2 h4 h3).elim
    · rw [St.set_other σ ob' hq] at h1
      by_cases hq' : k' = o
      · simp only [Ctx.setRow, if_neg hq, if_pos hq'] at h3 h4
        exact (key k a g c c' hq h1 h3 h4).elim
      · rw [St.set_other σ ob' hq'] at h2
        simp only [Ctx.setRow, if_neg hq, if_neg hq'] at h3 h4
        exact hM.inj k k' a a' g c c' h1 h2 h3 h4
end
end Go.Ab
