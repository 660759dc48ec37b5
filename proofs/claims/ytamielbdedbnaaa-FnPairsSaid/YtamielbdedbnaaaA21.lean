/- Ab, part 21: the walk's steps through a chosen order. -/
import Derived.Test.YtamielbdedbnaaaA20
set_option linter.unusedSimpArgs false
set_option linter.unusedVariables false
namespace Go.Ab
open Go.RowKit
section
variable {P : Program} {T : Tab} {md : Nat → Bool} {ds : List (Option Nat)} {C : St → Prop} {K : Env → St → Prop} {o : Oper} {r : List (Oper × Bool)} {e : Env} {σ : St}
theorem is_ord {l : List (Oper × Bool)} (h : aOrd P T md ds C K l e σ) : aOrd P T md ds C K l e σ := h
theorem aord_nil (h : K e σ) : aOrd P T md ds C K [] e σ := h
theorem aord_steady {v : AV} (hg : o.guard = none) (h : ∀ σ, C σ → aOp P T md e σ o.dst o.op fun r σ' => r = v ∧ σ' = σ) (k : aOrd P T md ds C K r (e.put o.dst v) σ) : aOrd P T md ds C K ((o, true) :: r) e σ :=
  ⟨v, fun σ hc => by unfold yieldsA stepV; rw [hg]; exact h σ hc, k⟩
theorem aord_wanted {v : AV} {j : Nat} {want t : Bool} (hg : o.guard = some (j, want)) (hj : gval ds e j = .sc (.bool t)) (ht : t = want) (h : ∀ σ, C σ → aOp P T md e σ o.dst o.op fun r σ' => r = v ∧ σ' = σ) (k : aOrd P T md ds C K r (e.put o.dst v) σ) : aOrd P T md ds C K ((o, true) :: r) e σ :=
  ⟨v, fun σ hc => by unfold yieldsA stepV; rw [hg]; simp only [hj]; exact ⟨fun _ => h σ hc, fun hq => by subst ht; cases t <;> simp at hq⟩, k⟩
theorem aord_unwanted {j : Nat} {want t : Bool} (hg : o.guard = some (j, want)) (hj : gval ds e j = .sc (.bool t)) (ht : t = !want) (k : aOrd P T md ds C K r (e.put o.dst (.tup [])) σ) : aOrd P T md ds C K ((o, true) :: r) e σ :=
  ⟨.tup [], fun σ hc => by unfold yieldsA stepV; rw [hg]; simp only [hj]; exact ⟨fun hq => by subst ht; cases want <;> simp at hq, fun _ => by simp⟩, k⟩
theorem aord_skip {j : Nat} {want : Bool} (hg : o.guard = some (j, want)) (hj : gval ds e j = .tup []) (k : aOrd P T md ds C K r (e.put o.dst (.tup [])) σ) : aOrd P T md ds C K ((o, true) :: r) e σ :=
  ⟨.tup [], fun σ hc => by unfold yieldsA stepV; rw [hg]; simp only [hj]; simp, k⟩
theorem aord_eff (hg : o.guard = none) (h : ∀ K1 : AV → St → Prop, (∀ v σ', C σ' → aOrd P T md ds C K r (e.put o.dst v) σ' → K1 v σ') → aOp P T md e σ o.dst o.op K1) : aOrd P T md ds C K ((o, false) :: r) e σ := by
  unfold aOrd stepV; rw [hg]
  exact h _ fun v σ' hc hk => ⟨hc, hk⟩
theorem ord_use {K1 : AV → St → Prop} {d : Option Nat} (h : ∀ v σ', C σ' → aOrd P T md ds C K r (e.put d v) σ' → K1 v σ') (v : AV) (σ' : St) (hc : C σ') (hk : aOrd P T md ds C K r (e.put d v) σ') : K1 v σ' := h v σ' hc hk
end
end Go.Ab
