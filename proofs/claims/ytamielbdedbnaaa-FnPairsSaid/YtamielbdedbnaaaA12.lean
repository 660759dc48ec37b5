/- Ab, part 12: calls that see none of the caller's objects; objects let go at a function's end. -/
import Derived.Test.YtamielbdedbnaaaA11
set_option linter.unusedSimpArgs false
set_option linter.unusedVariables false
namespace Go.Ab
open Go.RowKit

def St.emp (n : Nat) : St := { objs := fun _ => none, next := n }
section
variable {P : Program} {T : Tab} {σ : St} {f : FuncId} {args args' : List AV}

theorem emp_models {Γ : Ctx} {w : World} {n : Nat} (h1 : ∀ g, Γ.S g → Γ.B g) (h2 : ∀ g, Γ.B g → g < w.heap.size) : Models Γ (St.emp n) w :=
  ⟨(fun o ob h => by cases h), (fun o ob h => by cases h), (fun o o' ob ob' g c c' h => by cases h), h1, h2⟩
theorem emp_live {Γ : Ctx} {n g : Nat} : ¬ (St.emp n).isLive Γ g := fun ⟨o, ob, c, h, _⟩ => by cases h

/-- A call that is lent what the caller's objects read as, and hands back a value that leads to no object. -/
theorem acall_lend {R : AV → Prop} {K : AV → St → Prop} (h : ACall P f args' (St.emp σ.next) (fun r _ => R r)) (hfr : FrzL true σ args args')
    (hR : ∀ r, R r → pureAV true r = true ∧ K r σ) : ACall P f args σ K := by
  refine ⟨h.1, fun Γ w vs hM hv => ?_⟩
  let Γc : Ctx := { S := Γ.S, B := fun g => g < w.heap.size, row := Γ.row }
  have hMc : Models Γc (St.emp σ.next) w := emp_models (fun g hg => hM.size g (hM.sub g hg)) (fun g hg => hg)
  have hvc : VL Γc (St.emp σ.next) w args' vs := FrzL_sound (Γ' := Γc) (σ' := St.emp σ.next) hM (fun g hg => hg) (fun g hg => hM.size g hg) (fun g ⟨o, ob, c, h1, h2⟩ => by
    have hl := hM.lives o ob h1
    rw [h2] at hl
    exact hl.lt) hfr vs hv
  refine (h.2 Γc w vs hMc hvc).mono ?_
  rintro en w' ⟨r, v, Γ', σ', h1, h2, h3, h4, h5⟩
  let Γ2 : Ctx := { S := fun g => Γ.S g ∨ (w.heap.size ≤ g ∧ g < w'.heap.size), B := fun g => Γ.B g ∨ (w.heap.size ≤ g ∧ g < w'.heap.size), row := Γ.row }
  have hkeep : ∀ g, g < w.heap.size → w'.heap[g]? = w.heap[g]? := fun g hg => h3.keep g hg emp_live
  have hs : Step Γ σ w Γ2 σ w' :=
    { os := h3.os, tape := h3.tape, output := h3.output, size := h3.size, keep := fun g hg _ => hkeep g hg, S := fun g hg => .inl hg, B := fun g hg => .inl hg
      newS := fun g hg => by
        rcases hg with hg | hg
        · exact .inl hg
        · exact .inr (.inl hg.1)
      next := Nat.le_refl _
      obj := fun _ ob' _ h => ⟨ob', h, Nat.le_refl _, fun _ => ⟨rfl, rfl, rfl⟩⟩
      fresh := fun _ h => .inr h }
  have hM2 : Models Γ2 σ w' := by
    refine ⟨hM.lt, fun o ob ho => ?_, hM.inj, fun g hg => ?_, fun g hg => ?_⟩
    · have hl := hM.lives o ob ho
      refine hl.over hM hs (fun g c hr => ?_) (fun g c hr hq => ?_)
      · have hr' : Γ.row o = some (g, c) := hr
        rw [hr'] at hl
        exact hkeep g hl.lt
      · have hr' : Γ.row o = some (g, c) := hr
        rcases hq with hq | hq
        · exact (hl.cells g c hr').2.2.2 hq
        · rw [hr'] at hl
          have := hl.lt
          omega
    · rcases hg with hg | hg
      · exact .inl (hM.sub g hg)
      · exact .inr hg
    · rcases hg with hg | hg
      · exact Nat.lt_of_lt_of_le (hM.size g hg) h3.size
      · exact hg.2
  obtain ⟨hp, hK⟩ := hR r h2
  refine ⟨r, v, Γ2, σ, h1, hK, hs, hM2, ?_⟩
  refine V_pure (Γ := Γ') (σ := σ') (c := true) (fun g hg => ?_) (fun hq => by cases hq) r v hp h5
  rcases h3.newS g hg with hg' | hg' | hg'
  · exact .inl hg'
  · exact .inr ⟨hg', h4.size g (h4.sub g hg)⟩
  · exact absurd hg' emp_live

/-- At a function's end its objects may be let go: what the result reads as is the result. -/
theorem acall_freeze {n : Nat} {Q : AV → St → Prop} (h : ACall P f args (St.emp n) (fun r σ' => ∃ r', Frz false σ' r r' ∧ ∀ m, Q r' (St.emp m))) : ACall P f args (St.emp n) Q := by
  refine ⟨h.1, fun Γ w vs hM hv => (h.2 Γ w vs hM hv).mono ?_⟩
  rintro en w' ⟨r, v, Γ', σ', h1, ⟨r', hf, hQ⟩, h3, h4, h5⟩
  let Γ2 : Ctx := { S := fun g => Γ'.S g ∨ σ'.isLive Γ' g, B := fun g => Γ'.B g ∨ σ'.isLive Γ' g, row := Γ'.row }
  have hlt : ∀ g, σ'.isLive Γ' g → g < w'.heap.size := fun g ⟨o, ob, c, e1, e2⟩ => by
    have hl := h4.lives o ob e1
    rw [e2] at hl
    exact hl.lt
  refine ⟨r', v, Γ2, St.emp n, h1, hQ n, ?_, ?_, ?_⟩
  · exact { os := h3.os, tape := h3.tape, output := h3.output, size := h3.size, keep := fun g hg _ => h3.keep g hg emp_live, S := fun g hg => .inl (h3.S g hg), B := fun g hg => .inl (h3.B g hg)
            newS := fun g hg => by
              rcases hg with hg | hg
              · exact h3.newS g hg
              · rcases h3.fresh g hg with h | h
                · exact .inr (.inl h)
                · exact absurd h emp_live
            next := Nat.le_refl _
            obj := fun _ ob' _ h => by cases h
            fresh := fun _ h => absurd h emp_live }
  · exact emp_models (fun g hg => hg.imp (h4.sub g) id) (fun g hg => hg.elim (h4.size g) (hlt g))
  · exact Frz_sound (Γ' := Γ2) (b := false) h4 (fun g hg => .inl hg) (fun g hg => .inl hg) (fun g hg => show Γ2.S g from .inr hg) hf v h5
end
end Go.Ab
