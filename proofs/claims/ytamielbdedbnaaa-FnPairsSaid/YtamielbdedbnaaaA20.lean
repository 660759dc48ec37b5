/- Ab, part 20: regions that draw their order, with effects among steady operations: the rules. -/
import Derived.Test.YtamielbdedbnaaaA19
set_option linter.unusedSimpArgs false
set_option linter.unusedVariables false
namespace Go.Ab
open Go.RowKit
section
variable {P : Program} {T : Tab} {N : Nat} {md : Nat → Bool}
theorem wpAny_of_anyS (hT : TabOk P T) {ops : List Oper} (hd : dstsOk N (ops.map (·.dst)) = true) {C : St → Prop} {n g : Nat} {L : Array Bool → Env → St → Prop} {Q : Exit → Act → World → Prop} :
    ∀ (f : Nat) (listed : Array Bool) (e : Env) (σ : St) (Γ : Ctx) (w : World) (a : Act), Models Γ σ w → EnvOk Γ σ w N e a →
    (∀ listed e' σ' Γ' w' a', L listed e' σ' → Step Γ σ w Γ' σ' w' → Models Γ' σ' w' → EnvOk Γ' σ' w' N e' a' → wpAny P .any ops.toArray Q g listed a' w') →
    anyS P T md ops C n L f listed e σ → wpAny P .any ops.toArray Q (f + g) listed a w
  | 0, listed, e, σ, Γ, w, a, hM, hE, hL, h => by
    rw [Nat.zero_add]
    exact hL listed e σ Γ w a h (Step.refl _ _ _) hM hE
  | f + 1, listed, e, σ, Γ, w, a, hM, hE, hL, h => by
    rw [show f + 1 + g = (f + g) + 1 by omega]
    obtain ⟨h1, h2⟩ := h
    refine ⟨fun h => absurd h h1, fun j hj => ?_⟩
    obtain ⟨_, o, R, ho, hy, h3⟩ := h2 j hj
    have hdo : ∀ t, o.dst = some t → t < N := fun t ht => by
      have := List.all_eq_true.1 hd o.dst (List.mem_map.2 ⟨o, List.mem_of_getElem? ho, rfl⟩)
      simpa [ht] using this
    have ho' : ops.toArray[j]? = some o := by simpa using ho
    have fin : ∀ (v : AV) (u : Value) (Γ' : Ctx) (σ' : St) (w' : World), R v σ' → Step Γ σ w Γ' σ' w' → Models Γ' σ' w' → V Γ' σ' w' v u → wpAny P .any ops.toArray Q (f + g) (listed.setIfInBounds j true) (a.put o.dst u) w' := fun v u Γ' σ' w' hR hs hM' hv =>
      wpAny_of_anyS hT hd f _ (e.put o.dst v) σ' Γ' w' _ hM' ((hE.step hM hs).put hdo hv) (fun l e2 σ2 Γ2 w2 a2 k1 k2 k3 k4 => hL l e2 σ2 Γ2 w2 a2 k1 (hs.trans k2) k3 k4) (h3 v σ' hR).2
    unfold wpOp
    simp only [ho']
    unfold stepV at hy
    have go : aOp P T md e σ o.dst o.op R → o.wp P a w (wpAny P .any ops.toArray Q (f + g) (listed.setIfInBounds j true)) Q := fun h =>
      aOp_sound hT hM hE h fun r u Γ' σ' w' hR hs hM' hv => fin r u Γ' σ' w' hR hs hM' hv
    have skip : R (.tup []) σ → wpAny P .any ops.toArray Q (f + g) (listed.setIfInBounds j true) (a.put o.dst undef) w := fun h =>
      fin (.tup []) undef Γ σ w h (Step.refl _ _ _) hM V_undef
    split at hy
    · rename_i hg
      rw [if_pos (by simp [Region.wanted, hg])]
      exact .inl (go hy)
    · rename_i q want hg
      obtain ⟨g1, g2⟩ := gval_sound hE (j := q) hd
      split at hy
      · rename_i t ht
        have hyl := g1 t ht
        by_cases hw : t = want
        · rw [if_pos (by simp [Region.wanted, hg, hyl, hw])]
          exact .inl (go (hy.1 hw))
        · rw [if_neg (by simp [Region.wanted, hg, hyl, hw])]
          exact skip (hy.2 (by cases t <;> cases want <;> simp_all))
      · rename_i ht
        have hyl := g2 ht
        rw [if_neg (by simp [Region.wanted, hg, hyl])]
        exact skip hy
      · exact hy.elim
/-- the steady ones and the effects, in the order π of the first n; then those that stand in a row -/
def ordTailB (ops : Array Oper) (n : Nat) (π : List (Nat × Bool)) : Bool :=
  Region.noSelect ops && decide (n < ops.size) && Region.sinkB .any ops n && Region.chainB .any ops n && decide (π.length = n) && ordB ops (ops.size - n) n π (Array.replicate ops.size false)
theorem aw_ord_any {Q : Exit → Env → St → Prop} {e : Env} {σ : St} {id : Nat} {l : List Oper} {y : Option Code} (C : St → Prop) (n : Nat) (π : List (Nat × Bool)) (ls : List (Oper × Bool)) (hm : P.follows .mixedOrders = true) (hT : TabOk P T) (md : Nat → Bool) (ds : List (Option Nat)) (hds : l.map (·.dst) = ds) (hd : dstsOk N ds = true)
    (hls : π.map (fun x => (l[x.1]?).map fun o => (o, x.2)) = ls.map some) (hC : C σ) (hB : ordTailB l.toArray n π = true)
    (Z : Env → St → Prop) (h : aOrd P T md ds C (fun e' σ' => aOps P T md ds (l.drop n) e' σ' Z) ls e σ) :
    ∀ Γ w a, Models Γ σ w → EnvOk Γ σ w N e a → (Code.region id l.toArray true).wp P (fun ex a' w' => ∃ Γ' σ' e', ex = .normal ∧ Z e' σ' ∧ Step Γ σ w Γ' σ' w' ∧ Models Γ' σ' w' ∧ EnvOk Γ' σ' w' N e' a') a w := by
  subst hds
  intro Γ w a hM hE
  simp only [ordTailB, Bool.and_eq_true, decide_eq_true_eq] at hB
  obtain ⟨⟨⟨⟨⟨hsel, hn⟩, hs⟩, hc⟩, hlen⟩, hlex⟩ := hB
  have hn' : n < l.length := by simpa using hn
  have hdl : (l.drop n).length = l.toArray.size - n := by simp
  have inv0 : HeadInv .any l.toArray n (Array.replicate l.toArray.size false) :=
    ⟨by simp, fun j oj _ hl => (by rw [getD_replicate_false] at hl; cases hl), fun t _ ht => getD_in (by simpa using ht) (getD_replicate_false _ _)⟩
  have hnt : ∀ i, i < n → ∀ listed, HeadInv .any l.toArray n listed → listed.getD i true = false → ∀ j ∈ Region.ready .any l.toArray listed, j < n := fun i hi listed inv hun j hj => by
    rcases Nat.lt_or_ge j n with h | h
    · exact h
    · exact absurd hj (tail_waits hs hc hn inv _ i rfl hi hun j h)
  have H := anyS_ord (P := P) (T := T) (md := md) (C := C) (g := l.toArray.size - n) (HeadInv .any l.toArray n) hnt (fun listed j inv hj hjn => inv.set hj hjn) π ls _ e σ hC hls inv0 hlex h
  refine wp_region_any hm ?_
  have hM' := models_drew hM
  have hE' := hE.step hM (step_drew Γ σ w)
  have := wpAny_of_anyS (Q := fun ex a' w' => ∃ Γ' σ' e', ex = .normal ∧ Z e' σ' ∧ Step Γ σ w Γ' σ' w' ∧ Models Γ' σ' w' ∧ EnvOk Γ' σ' w' N e' a')
    (g := l.toArray.size - n) hT hd _ _ e σ Γ _ a hM' hE' (fun listed e2 σ2 Γ2 w2 a2 hL hs2 hM2 hE2 => by
    have := wpAny_of_seq (md := .any) (Q' := fun ex a' w' => ∃ Γ' σ' e', ex = .normal ∧ Z e' σ' ∧ Step Γ σ w Γ' σ' w' ∧ Models Γ' σ' w' ∧ EnvOk Γ' σ' w' N e' a')
      (l.drop n) n listed a2 w2 (fun j => by simp [List.getElem?_drop]) (by rw [hdl]; exact hL.1)
      (aOps_sound hT hd hL.2 (by
        simp only [dstsOk, List.all_eq_true, List.mem_map] at hd ⊢
        intro x hx
        obtain ⟨o, ho, rfl⟩ := hx
        exact hd _ ⟨o, List.mem_of_mem_drop ho, rfl⟩) hM2 hE2 fun e3 σ3 Γ3 w3 a3 k1 k2 k3 k4 => ⟨Γ3, σ3, e3, rfl, k1, ((step_drew Γ σ w).trans hs2).trans k2, k3, k4⟩)
    rwa [hdl] at this) H
  rw [hlen, show n + (l.toArray.size - n) = l.toArray.size by omega] at this
  exact this
/-- the operations in a chosen order -/
def pickO (l : List Oper) : List (Nat × Bool) → Option (List (Oper × Bool))
  | [] => some []
  | (i, b) :: r => match l[i]?, pickO l r with
    | some o, some s => some ((o, b) :: s)
    | _, _ => none
theorem pickO_map {l : List Oper} : ∀ {π : List (Nat × Bool)} {ls : List (Oper × Bool)}, pickO l π = some ls → π.map (fun x => (l[x.1]?).map fun o => (o, x.2)) = ls.map some
  | [], ls, h => by simp only [pickO, Option.some.injEq] at h; subst h; rfl
  | (i, b) :: r, ls, h => by
    unfold pickO at h
    split at h
    · rename_i o s h1 h2
      simp only [Option.some.injEq] at h; subst h
      simp only [List.map_cons, h1, Option.map_some, pickO_map h2]
    · cases h
theorem aw_ord {Q : Exit → Env → St → Prop} {e : Env} {σ : St} {id : Nat} {l : List Oper} {y : Code} (C : St → Prop) (n : Nat) (π : List (Nat × Bool)) (ls : List (Oper × Bool)) (hm : P.follows .mixedOrders = true) (hT : TabOk P T) (md : Nat → Bool) (ds : List (Option Nat)) (hds : l.map (·.dst) = ds) (hd : dstsOk N ds = true)
    (hls : pickO l π = some ls) (hB : ordTailB l.toArray n π = true) (hC : C σ)
    (h : aOrd P T md ds C (fun e' σ' => aOps P T md ds (l.drop n) e' σ' fun e2 σ2 => AW P N y Q e2 σ2) ls e σ) : AW P N (.seq (.region id l.toArray true) y) Q e σ := by
  intro Γ w a hM hE
  refine wp_seq (wp_mono (aw_ord_any (Q := Q) (y := none) C n π ls hm hT md ds hds hd (pickO_map hls) hC hB _ h Γ w a hM hE) ?_)
  rintro ex a' w' ⟨Γ', σ', e', rfl, h1, h2, h3, h4⟩
  refine wp_mono (h1 Γ' w' a' h3 h4) ?_
  rintro ex a2 w2 ⟨Γ2, σ2, e2, k1, k2, k3, k4⟩
  exact ⟨Γ2, σ2, e2, k1, h2.trans k2, k3, k4⟩
theorem aw_ord_end {Q : Exit → Env → St → Prop} {e : Env} {σ : St} {id : Nat} {l : List Oper} (C : St → Prop) (n : Nat) (π : List (Nat × Bool)) (ls : List (Oper × Bool)) (hm : P.follows .mixedOrders = true) (hT : TabOk P T) (md : Nat → Bool) (ds : List (Option Nat)) (hds : l.map (·.dst) = ds) (hd : dstsOk N ds = true)
    (hls : pickO l π = some ls) (hB : ordTailB l.toArray n π = true) (hC : C σ)
    (h : aOrd P T md ds C (fun e' σ' => aOps P T md ds (l.drop n) e' σ' fun e2 σ2 => Q .normal e2 σ2) ls e σ) : AW P N (.region id l.toArray true) Q e σ := by
  intro Γ w a hM hE
  refine wp_mono (aw_ord_any (Q := Q) (y := none) C n π ls hm hT md ds hds hd (pickO_map hls) hC hB _ h Γ w a hM hE) ?_
  rintro ex a' w' ⟨Γ', σ', e', rfl, h1, h2, h3, h4⟩
  exact ⟨Γ', σ', e', h1, h2, h3, h4⟩
end
end Go.Ab
