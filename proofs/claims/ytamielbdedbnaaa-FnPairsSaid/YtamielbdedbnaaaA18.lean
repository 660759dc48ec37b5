/- Ab, part 18: drawn regions at the end of a block. -/
import Derived.Test.YtamielbdedbnaaaA17
set_option linter.unusedSimpArgs false
set_option linter.unusedVariables false
namespace Go.Ab
open Go.RowKit
section
variable {Γ : Ctx} {σ : St} {w : World} {P : Program} {T : Tab} {N : Nat} {md : Nat → Bool}
theorem aw_draw_tail_end {Q : Exit → Env → St → Prop} {e : Env} {id : Nat} {l : List Oper} (n : Nat) (hm : P.follows .mixedOrders = true) (hT : TabOk P T) (md : Nat → Bool) (ds : List (Option Nat)) (hds : l.map (·.dst) = ds) (hd : dstsOk N ds = true)
    (hB : Region.lexTailB .any l.toArray n = true)
    (h : aQs P T md ds σ (fun e' => aOps P T md ds (l.drop n) e' σ fun e2 σ2 => Q .normal e2 σ2) (l.take n) e) : AW P N (.region id l.toArray true) Q e σ := by
  subst hds
  intro Γ w a hM hE
  simp only [Region.lexTailB, Bool.and_eq_true, decide_eq_true_eq] at hB
  obtain ⟨⟨⟨⟨hsel, hn⟩, hs⟩, hc⟩, hlex⟩ := hB
  have hn' : n < l.length := by simpa using hn
  have htl : (l.take n).length = n := by simp; omega
  have hdl : (l.drop n).length = l.toArray.size - n := by simp
  have inv0 : HeadInv .any l.toArray n (Array.replicate l.toArray.size false) :=
    ⟨by simp, fun j oj _ hl => (by rw [getD_replicate_false] at hl; cases hl), fun t _ ht => getD_in (by simpa using ht) (getD_replicate_false _ _)⟩
  have hnt : ∀ i, i < n → ∀ listed, HeadInv .any l.toArray n listed → listed.getD i true = false → ∀ j ∈ Region.ready .any l.toArray listed, j < n := fun i hi listed inv hun j hj => by
    rcases Nat.lt_or_ge j n with h | h
    · exact h
    · exact absurd hj (tail_waits hs hc hn inv _ i rfl hi hun j h)
  have H := anyH_lex (P := P) (T := T) (md := md) (σ := σ) (g := l.toArray.size - n) (HeadInv .any l.toArray n) hnt (fun listed j inv hj hjn => inv.set hj hjn) (l.take n) 0 _ e (fun j hj => by
    have hj' : j < n := by rw [htl] at hj; exact hj
    simp [hj']) (by simpa using htl) inv0 (by rw [htl]; exact hlex) h
  refine wp_region_any hm ?_
  have hM' := models_drew hM
  have hE' := hE.step hM (step_drew Γ σ w)
  have := wpAny_of_anyH (Q := fun ex a' w' => ∃ Γ' σ' e', Q ex e' σ' ∧ Step Γ σ w Γ' σ' w' ∧ Models Γ' σ' w' ∧ EnvOk Γ' σ' w' N e' a')
    (g := l.toArray.size - n) hT hd _ _ e Γ _ a hM' hE' (fun listed e2 Γ2 w2 a2 hL hs2 hM2 hE2 => by
    have := wpAny_of_seq (md := .any) (Q' := fun ex a' w' => ∃ Γ' σ' e', Q ex e' σ' ∧ Step Γ σ w Γ' σ' w' ∧ Models Γ' σ' w' ∧ EnvOk Γ' σ' w' N e' a')
      (l.drop n) n listed a2 w2 (fun j => by simp [List.getElem?_drop]) (by rw [hdl]; exact hL.1)
      (aOps_sound hT hd hL.2 (by
        simp only [dstsOk, List.all_eq_true, List.mem_map] at hd ⊢
        intro x hx
        obtain ⟨o, ho, rfl⟩ := hx
        exact hd _ ⟨o, List.mem_of_mem_drop ho, rfl⟩) hM2 hE2 fun e3 σ3 Γ3 w3 a3 k1 k2 k3 k4 => ?_)
    · rwa [hdl] at this
    · exact ⟨Γ3, σ3, e3, k1, ((step_drew Γ σ w).trans hs2).trans k2, k3, k4⟩) H
  rw [htl, show n + (l.toArray.size - n) = l.toArray.size by omega] at this
  exact this

theorem aw_quiet_end {Q : Exit → Env → St → Prop} {e : Env} {id : Nat} {l : List Oper} (hm : P.follows .mixedOrders = true) (hT : TabOk P T) (md : Nat → Bool) (ds : List (Option Nat)) (hds : l.map (·.dst) = ds) (hd : dstsOk N ds = true)
    (hB : Region.lexB .any l.toArray = true) (h : aQs P T md ds σ (fun e' => Q .normal e' σ) l e) : AW P N (.region id l.toArray true) Q e σ := by
  subst hds
  intro Γ w a hM hE
  simp only [Region.lexB, Bool.and_eq_true] at hB
  obtain ⟨hsel, hlex⟩ := hB
  have conv : ∀ (f k : Nat) (listed : Array Bool), Region.lexFrom .any l.toArray f k listed = Region.lexHead .any l.toArray 0 f k listed := by
    intro f
    induction f with
    | zero => intro k listed; rfl
    | succ f ih => intro k listed; simp only [Region.lexFrom, Region.lexHead, ih]
  rw [conv] at hlex
  have H := anyH_lex (P := P) (T := T) (md := md) (σ := σ) (n := l.length) (g := 0) (fun _ => True) (fun i hi listed _ _ j hj => by
    obtain ⟨_, o, ho, _⟩ := mem_ready.1 hj
    have := (Array.getElem?_eq_some_iff.1 ho).1
    simpa using this) (fun _ _ _ _ _ => trivial) l 0 (Array.replicate l.toArray.size false) e (fun j hj => by simp) (by simp) trivial (by simpa using hlex) h
  refine wp_region_any hm ?_
  have hM' := models_drew hM
  have hE' := hE.step hM (step_drew Γ σ w)
  have := wpAny_of_anyH (Q := fun ex a' w' => ∃ Γ' σ' e', Q ex e' σ' ∧ Step Γ σ w Γ' σ' w' ∧ Models Γ' σ' w' ∧ EnvOk Γ' σ' w' N e' a')
    (g := 0) hT hd _ _ e Γ _ a hM' hE' (fun listed e2 Γ2 w2 a2 hL hs2 hM2 hE2 => by
    refine ⟨by have := hL.1; simpa [Region.seqB] using this, ?_⟩
    exact ⟨Γ2, σ, e2, hL.2, (step_drew Γ σ w).trans hs2, hM2, hE2⟩) H
  simpa using this
end
end Go.Ab
