/- laws.FnPairs: the second loop, and the end. -/
import Derived.Test.YtamielbdedbnaaaP3a
set_option linter.unusedSimpArgs false
set_option linter.unusedVariables false
set_option maxHeartbeats 8000000
namespace Go.Proofs.Ytamielbdedbnaaa
open Go.Ab Go.RowKit
theorem pairs_end {gl2 : List Grp} {lv2 most : Int} {bs : List (List Int)} {e : Env} {τ τ2 : St} {xc2 : AV} {Q : Exit → Env → St → Prop} (hgs : gsOk gl2 = true) (hlv2 : inR lv2 1 5 = true) (h8 : gl2.length ≤ 8) (hMW : MW gl2.length bs) (hbl : bs.length ≤ 8) (hmost : most = tot gl2 lv2 bs gl2.length) (hle : sumA gl2 lv2 [] gl2.length ≤ most)
    (g15 : e 15 = gsAV false gl2) (g16 : e 16 = i64 lv2) (g19 : e 19 = i64 most) (g21 : e 21 = xc2) (g22 : e 22 = i64 ((bs.map (vPair gl2 lv2)).sum)) (k2 : Own τ [] [.sl xc2 2 1 ((cntOf gl2.length bs.flatten).map i64)] τ2)
    (hQ : ∀ e' σ', e' 4 = bl true → Q .ret e' σ') : AW Try.prog 328 (subC [1, 1, 1, 1, 1, 1, 1, 1, 1, 1, 1] (bodyOf Try.f3)) Q e τ2 := by
  have hn1 : ∀ z : Int, bs.flatten.count z ≤ 1 := List.nodup_iff_count.1 hMW.nd
  have hsum := sumP_le (l := gl2) (lv := lv2) bs
  repeat' first
    | (with_reducible refine is_ops ?_); first
      | refine aops_nil ?_
      | refine aops_cons rfl fun K1 h1 => ?_
      | refine aops_wanted rfl rfl (by first | rfl | assumption) fun K1 h1 => ?_
      | refine aops_unwanted rfl rfl (by first | rfl | assumption) ?_
      | refine aops_skip rfl rfl ?_
      | refine aops_guard rfl rfl (fun hg K1 h1 => ?_) (fun hg => ?_) <;> (try (have hw := hg; simp only [Bool.not_eq_true', Bool.not_eq_false', Bool.not_true, Bool.not_false, decide_eq_true_eq, decide_eq_false_iff_not, Int.not_lt, Int.not_le, Bool.or_eq_true, Bool.or_eq_false_iff, Bool.and_eq_true, Bool.and_eq_false_iff, not_true, not_false_eq_true, ne_eq, Decidable.not_not, reduceCtorEq] at hw)) <;> (try (exfalso; omega))
    | (with_reducible refine is_qs ?_); first
      | refine aqs_nil ?_
      | refine aqs_cons (v := ?_) rfl ?_ ?_
      | refine aqs_wanted (v := ?_) rfl rfl (by first | rfl | assumption) ?_ ?_
      | refine aqs_unwanted rfl rfl (by first | rfl | assumption) ?_
      | refine aqs_skip rfl rfl ?_
      | refine aqs_part rfl rfl (fun hg => ?_) (fun hg => ?_) <;> (try (have hw := hg; simp only [Bool.not_eq_true', Bool.not_eq_false', Bool.not_true, Bool.not_false, decide_eq_true_eq, decide_eq_false_iff_not, Int.not_lt, Int.not_le, Bool.or_eq_true, Bool.or_eq_false_iff, Bool.and_eq_true, Bool.and_eq_false_iff, not_true, not_false_eq_true, ne_eq, Decidable.not_not, reduceCtorEq] at hw)) <;> (try (exfalso; omega))
    | (with_reducible refine is_aw ?_); first
      | refine aw_rs tabOk (fun _ => false) _ rfl rfl ?_
      | refine aw_quiet rfl tabOk (fun _ => false) _ rfl rfl (by decide +kernel) ?_
      | refine aw_quiet_end rfl tabOk (fun _ => false) _ rfl rfl (by decide +kernel) ?_
      | refine aw_region tabOk (fun _ => false) _ rfl rfl ?_
      | refine aw_ret ?_
      | refine aw_skip ?_
      | refine aw_exit ?_
      | refine aw_block ?_
      | refine aw_label ?_
      | refine aw_cond_t rfl (by first | rfl | assumption) ?_
      | refine aw_cond_f rfl (by first | rfl | assumption) ?_
      | refine aw_cond rfl (fun hg => ?_) (fun hg => ?_) <;> (try (have hw := hg; simp only [Bool.not_eq_true', Bool.not_eq_false', Bool.not_true, Bool.not_false, decide_eq_true_eq, decide_eq_false_iff_not, Int.not_lt, Int.not_le, Bool.or_eq_true, Bool.or_eq_false_iff, Bool.and_eq_true, Bool.and_eq_false_iff, not_true, not_false_eq_true, ne_eq, Decidable.not_not, reduceCtorEq] at hw)) <;> (try (exfalso; omega))
      | refine aw_seq fun K hK => ?_
    | (with_reducible refine aPick_t ?_ ?_); first | rfl | assumption
    | (with_reducible refine aPick_f ?_ ?_); first | rfl | assumption
    | (with_reducible refine h1 _ _ ?_); clear h1 K1
    | (with_reducible refine hK _ _ ?_); clear hK K
    | with_reducible refine k_use (by assumption) _ _ ?_
    | with_reducible refine k1_use (by assumption) _ _ ?_
    | (with_reducible refine is_store ?_); first
      | simp only [g15, g16, g19, g21, g22, aStore, go_sem, ↓reduceIte]
    | (with_reducible refine is_load ?_); first
      | simp only [g15, g16, g19, g21, g22, aLoad, go_sem, ↓reduceIte]
    | (with_reducible refine is_alloc ?_); first
      | simp only [g15, g16, g19, g21, g22, aAlloc, go_sem, ↓reduceIte]
    | (with_reducible refine is_box ?_); first
      | simp only [g15, g16, g19, g21, g22, aBox, go_sem, ↓reduceIte]
    | (with_reducible refine is_make ?_); first
      | simp only [g15, g16, g19, g21, g22, aMake, go_sem, ↓reduceIte]
    | (with_reducible refine is_bslice ?_); first
      | simp only [g15, g16, g19, g21, g22, aBuildSlice, go_sem, ↓reduceIte]
    | (with_reducible refine is_conv ?_); first
      | simp only [g15, g16, g19, g21, g22, aConvS, go_sem, ↓reduceIte]
    | (with_reducible refine is_append ?_); first
      | refine Grow.append (by (first | assumption | exact Grow.setNew (by assumption) _ _ | exact Grow.push (by assumption) _ | exact Grow.setNew (Grow.setNew (by assumption) _ _) _ _ | exact Grow.push (Grow.setNew (by assumption) _ _) _)) rfl rfl ⟨rfl, rfl, by decide, rfl⟩ ?_ ?_ ?_ (fun x' σ' hG => ?_)
      | simp only [g15, g16, g19, g21, g22, aAppend, go_sem, ↓reduceIte]
    | (with_reducible refine is_len ?_); first
      | refine Grow.len (by (first | assumption | exact Grow.setNew (by assumption) _ _ | exact Grow.push (by assumption) _ | exact Grow.setNew (Grow.setNew (by assumption) _ _) _ _ | exact Grow.push (Grow.setNew (by assumption) _ _) _)) rfl rfl ?_
      | simp only [g15, g16, g19, g21, g22, aLen, go_sem, ↓reduceIte]
    | (with_reducible refine is_all ?_); rfl
    | with_reducible exact ⟨rfl, rfl⟩
    | with_reducible exact rfl
    | (with_reducible refine And.intro ?_ ?_); · (first | assumption | exact St.push_same _ _ | exact St.set_same _ _ _ | (repeat (first | refine obj_push (by first | omega | (simp only [push_next, set_next]; omega)) ?_ | refine obj_set (by first | omega | (simp only [push_next, set_next]; omega)) ?_)); (first | exact St.push_same _ _ | exact St.set_same _ _ _ | assumption) | omega | (simp only [push_objs, push_next, set_objs, set_next, ↓reduceIte]; done) | (simp only [push_objs, push_next, set_objs, set_next, ↓reduceIte]; omega) | rfl | (refine And.intro ?_ ?_ <;> (simp only [push_objs, push_next, set_objs, set_next, ↓reduceIte]; done)))
    | (with_reducible apply ex_and); · (first | assumption | exact St.push_same _ _ | exact St.set_same _ _ _ | (repeat (first | refine obj_push (by first | omega | (simp only [push_next, set_next]; omega)) ?_ | refine obj_set (by first | omega | (simp only [push_next, set_next]; omega)) ?_)); (first | exact St.push_same _ _ | exact St.set_same _ _ _ | assumption) | omega | (simp only [push_objs, push_next, set_objs, set_next, ↓reduceIte]; done) | (simp only [push_objs, push_next, set_objs, set_next, ↓reduceIte]; omega) | rfl | (refine And.intro ?_ ?_ <;> (simp only [push_objs, push_next, set_objs, set_next, ↓reduceIte]; done)))
    | simp (disch := omega) only [tdivE, tmodE, tdivN, tmodN, wrapI, wrapU8]
    | simp only [g15, g16, g19, g21, g22, go_sem, ↓reduceIte]
    | (refine is_prop ?_; omega)
  refine aw_count gl2.length (fun i e τ3 => Own τ [] [.sl xc2 2 1 ((cntOf gl2.length bs.flatten).map i64)] τ3 ∧ e 15 = gsAV false gl2 ∧ e 16 = i64 lv2 ∧ e 19 = i64 most ∧ e 21 = xc2 ∧ e 22 = i64 (tot gl2 lv2 bs i) ∧ e 28 = i64 (sumA gl2 lv2 [] i) ∧ e 29 = i64 i) ⟨k2, by simp [Env.upd, g15], by simp [Env.upd, g16], by simp [Env.upd, g19], by simp [Env.upd, g21], by simp [Env.upd, g22, tot, sumA], by simp [Env.upd, sumA], by simp [Env.upd]⟩ ?_
  rintro i e3 τ3 ⟨k3, g15, g16, g19, g21, g22, g28, g29⟩ hi
  rcases Nat.lt_or_ge i gl2.length with hlt | hge
  · have hx := map_at hlt
    have hok := gsOk_at hgs hlt
    have hne : (cntOf gl2.length bs.flatten).map i64 ≠ [] := by intro h; have := congrArg List.length h; rw [List.length_map, cntOf_len] at this; simp only [List.length_nil] at this; omega
    obtain ⟨oc, gc, els, hxc, _, _⟩ := k3.isRef (i := 0) rfl hne
    rw [List.length_map, cntOf_len] at hxc
    subst hxc
    have hpe : 0 ≤ (gAt gl2 i).pe ∧ (gAt gl2 i).pe ≤ 30 := by
      have hW2 := hok
      simp only [gOk, inR, Bool.and_eq_true, decide_eq_true_eq] at hW2; omega
    have hca := cntOf_at (F := bs.flatten) hlt
    have hn2 := hn1 (i : Int)
    have hb1 := sumA_le (l := gl2) (lv := lv2) (F := bs.flatten) i
    have hb2 := sumA_le (l := gl2) (lv := lv2) (F := []) i
    have ht1 : tot gl2 lv2 bs (i + 1) = tot gl2 lv2 bs i + if (i : Int) ∈ bs.flatten then 0 else gVal lv2 (gAt gl2 i) := by unfold tot; rw [sumA]; omega
    have hs1 : sumA gl2 lv2 [] (i + 1) = sumA gl2 lv2 [] i + gVal lv2 (gAt gl2 i) := by rw [sumA, if_neg (by simp)]
    have htb : 0 ≤ tot gl2 lv2 bs i ∧ tot gl2 lv2 bs i ≤ 1000000 := by unfold tot; omega
    cases hG : gGoes (gAt gl2 i) lv2 with
    | false =>
      have hv : gVal lv2 (gAt gl2 i) = 0 := by unfold gVal; rw [hok, hG]; rfl
      have hM : gMay (gAt gl2 i) lv2 = false := by unfold gMay; rw [hok, hlv2, hG]; rfl
      have hc1 : decide (1 < ((bs.flatten.count (i : Int) : Nat) : Int)) = false := by simp only [decide_eq_false_iff_not]; omega
      repeat' first
        | (with_reducible refine is_ops ?_); first
          | refine aops_nil ?_
          | refine aops_cons rfl fun K1 h1 => ?_
          | refine aops_wanted rfl rfl (by first | rfl | assumption) fun K1 h1 => ?_
          | refine aops_unwanted rfl rfl (by first | rfl | assumption) ?_
          | refine aops_skip rfl rfl ?_
          | refine aops_guard rfl rfl (fun hg K1 h1 => ?_) (fun hg => ?_) <;> (try (have hw := hg; simp only [Bool.not_eq_true', Bool.not_eq_false', Bool.not_true, Bool.not_false, decide_eq_true_eq, decide_eq_false_iff_not, Int.not_lt, Int.not_le, Bool.or_eq_true, Bool.or_eq_false_iff, Bool.and_eq_true, Bool.and_eq_false_iff, not_true, not_false_eq_true, ne_eq, Decidable.not_not, reduceCtorEq] at hw)) <;> (try (exfalso; omega))
        | (with_reducible refine is_qs ?_); first
          | refine aqs_nil ?_
          | refine aqs_cons (v := ?_) rfl ?_ ?_
          | refine aqs_wanted (v := ?_) rfl rfl (by first | rfl | assumption) ?_ ?_
          | refine aqs_unwanted rfl rfl (by first | rfl | assumption) ?_
          | refine aqs_skip rfl rfl ?_
          | refine aqs_part rfl rfl (fun hg => ?_) (fun hg => ?_) <;> (try (have hw := hg; simp only [Bool.not_eq_true', Bool.not_eq_false', Bool.not_true, Bool.not_false, decide_eq_true_eq, decide_eq_false_iff_not, Int.not_lt, Int.not_le, Bool.or_eq_true, Bool.or_eq_false_iff, Bool.and_eq_true, Bool.and_eq_false_iff, not_true, not_false_eq_true, ne_eq, Decidable.not_not, reduceCtorEq] at hw)) <;> (try (exfalso; omega))
        | (with_reducible refine is_aw ?_); first
          | refine aw_rs tabOk (fun _ => false) _ rfl rfl ?_
          | refine aw_quiet rfl tabOk (fun _ => false) _ rfl rfl (by decide +kernel) ?_
          | refine aw_quiet_end rfl tabOk (fun _ => false) _ rfl rfl (by decide +kernel) ?_
          | refine aw_region tabOk (fun _ => false) _ rfl rfl ?_
          | refine aw_ret ?_
          | refine aw_skip ?_
          | refine aw_exit ?_
          | refine aw_block ?_
          | refine aw_label ?_
          | refine aw_cond_t rfl (by first | rfl | assumption) ?_
          | refine aw_cond_f rfl (by first | rfl | assumption) ?_
          | refine aw_cond rfl (fun hg => ?_) (fun hg => ?_) <;> (try (have hw := hg; simp only [Bool.not_eq_true', Bool.not_eq_false', Bool.not_true, Bool.not_false, decide_eq_true_eq, decide_eq_false_iff_not, Int.not_lt, Int.not_le, Bool.or_eq_true, Bool.or_eq_false_iff, Bool.and_eq_true, Bool.and_eq_false_iff, not_true, not_false_eq_true, ne_eq, Decidable.not_not, reduceCtorEq] at hw)) <;> (try (exfalso; omega))
          | refine aw_seq fun K hK => ?_
        | (with_reducible refine aPick_t ?_ ?_); first | rfl | assumption
        | (with_reducible refine aPick_f ?_ ?_); first | rfl | assumption
        | (with_reducible refine h1 _ _ ?_); clear h1 K1
        | (with_reducible refine hK _ _ ?_); clear hK K
        | with_reducible refine k_use (by assumption) _ _ ?_
        | with_reducible refine k1_use (by assumption) _ _ ?_
        | (with_reducible refine is_call ?_); first
          | refine c_sMayGo _ _ ?_
        | (with_reducible refine is_store ?_); first
          | simp only [g15, g16, g19, g21, g22, g28, g29, hM, hca, hc1, aStore, go_sem, ↓reduceIte]
        | (with_reducible refine is_load ?_); first
          | refine own_loadM (f := i64) (0 : Int) 0 (by assumption) (by rfl) (by simp [cntOf_len] <;> omega) (fun _ => rfl) rfl rfl rfl ?_
          | simp only [g15, g16, g19, g21, g22, g28, g29, hM, hca, hc1, aLoad, go_sem, ↓reduceIte]
        | (with_reducible refine is_alloc ?_); first
          | simp only [g15, g16, g19, g21, g22, g28, g29, hM, hca, hc1, aAlloc, go_sem, ↓reduceIte]
        | (with_reducible refine is_box ?_); first
          | simp only [g15, g16, g19, g21, g22, g28, g29, hM, hca, hc1, aBox, go_sem, ↓reduceIte]
        | (with_reducible refine is_make ?_); first
          | simp only [g15, g16, g19, g21, g22, g28, g29, hM, hca, hc1, aMake, go_sem, ↓reduceIte]
        | (with_reducible refine is_bslice ?_); first
          | simp only [g15, g16, g19, g21, g22, g28, g29, hM, hca, hc1, aBuildSlice, go_sem, ↓reduceIte]
        | (with_reducible refine is_conv ?_); first
          | simp only [g15, g16, g19, g21, g22, g28, g29, hM, hca, hc1, aConvS, go_sem, ↓reduceIte]
        | (with_reducible refine is_append ?_); first
          | refine Grow.append (by (first | assumption | exact Grow.setNew (by assumption) _ _ | exact Grow.push (by assumption) _ | exact Grow.setNew (Grow.setNew (by assumption) _ _) _ _ | exact Grow.push (Grow.setNew (by assumption) _ _) _)) rfl rfl ⟨rfl, rfl, by decide, rfl⟩ ?_ ?_ ?_ (fun x' σ' hG => ?_)
          | simp only [g15, g16, g19, g21, g22, g28, g29, hM, hca, hc1, aAppend, go_sem, ↓reduceIte]
        | (with_reducible refine is_len ?_); first
          | refine Grow.len (by (first | assumption | exact Grow.setNew (by assumption) _ _ | exact Grow.push (by assumption) _ | exact Grow.setNew (Grow.setNew (by assumption) _ _) _ _ | exact Grow.push (Grow.setNew (by assumption) _ _) _)) rfl rfl ?_
          | simp only [g15, g16, g19, g21, g22, g28, g29, hM, hca, hc1, aLen, go_sem, ↓reduceIte]
        | (with_reducible refine is_all ?_); rfl
        | with_reducible exact ⟨rfl, rfl⟩
        | with_reducible exact rfl
        | (with_reducible refine And.intro ?_ ?_); · (first | assumption | exact own_slob 0 (by assumption) (by rfl) | exact St.push_same _ _ | exact St.set_same _ _ _ | (repeat (first | refine obj_push (by first | omega | (simp only [push_next, set_next]; omega)) ?_ | refine obj_set (by first | omega | (simp only [push_next, set_next]; omega)) ?_)); (first | exact St.push_same _ _ | exact St.set_same _ _ _ | assumption) | omega | (simp only [push_objs, push_next, set_objs, set_next, ↓reduceIte]; done) | (simp only [push_objs, push_next, set_objs, set_next, ↓reduceIte]; omega) | rfl | (refine And.intro ?_ ?_ <;> (simp only [push_objs, push_next, set_objs, set_next, ↓reduceIte]; done)))
        | (with_reducible apply ex_and); · (first | assumption | exact own_slob 0 (by assumption) (by rfl) | exact St.push_same _ _ | exact St.set_same _ _ _ | (repeat (first | refine obj_push (by first | omega | (simp only [push_next, set_next]; omega)) ?_ | refine obj_set (by first | omega | (simp only [push_next, set_next]; omega)) ?_)); (first | exact St.push_same _ _ | exact St.set_same _ _ _ | assumption) | omega | (simp only [push_objs, push_next, set_objs, set_next, ↓reduceIte]; done) | (simp only [push_objs, push_next, set_objs, set_next, ↓reduceIte]; omega) | rfl | (refine And.intro ?_ ?_ <;> (simp only [push_objs, push_next, set_objs, set_next, ↓reduceIte]; done)))
        | simp (disch := omega) only [tdivE, tmodE, tdivN, tmodN, wrapI, wrapU8]
        | simp only [g15, g16, g19, g21, g22, g28, g29, hM, hca, hc1, go_sem, ↓reduceIte]
        | (refine is_prop ?_; omega)
      all_goals (rw [ht1, hs1, hv]; simp)
    | true =>
      have hv : gVal lv2 (gAt gl2 i) = (gAt gl2 i).pe := by unfold gVal; rw [hok, hG]; rfl
      have hM : gMay (gAt gl2 i) lv2 = true := by unfold gMay; rw [hok, hlv2, hG]; rfl
      by_cases hm : (i : Int) ∈ bs.flatten
      · have hcp := List.count_pos_iff.2 hm
        have hc1 : ((bs.flatten.count (i : Int) : Nat) : Int) = 1 := by omega
        rw [hc1] at hca
        repeat' first
          | (with_reducible refine is_ops ?_); first
            | refine aops_nil ?_
            | refine aops_cons rfl fun K1 h1 => ?_
            | refine aops_wanted rfl rfl (by first | rfl | assumption) fun K1 h1 => ?_
            | refine aops_unwanted rfl rfl (by first | rfl | assumption) ?_
            | refine aops_skip rfl rfl ?_
            | refine aops_guard rfl rfl (fun hg K1 h1 => ?_) (fun hg => ?_) <;> (try (have hw := hg; simp only [Bool.not_eq_true', Bool.not_eq_false', Bool.not_true, Bool.not_false, decide_eq_true_eq, decide_eq_false_iff_not, Int.not_lt, Int.not_le, Bool.or_eq_true, Bool.or_eq_false_iff, Bool.and_eq_true, Bool.and_eq_false_iff, not_true, not_false_eq_true, ne_eq, Decidable.not_not, reduceCtorEq] at hw)) <;> (try (exfalso; omega))
          | (with_reducible refine is_qs ?_); first
            | refine aqs_nil ?_
            | refine aqs_cons (v := ?_) rfl ?_ ?_
            | refine aqs_wanted (v := ?_) rfl rfl (by first | rfl | assumption) ?_ ?_
            | refine aqs_unwanted rfl rfl (by first | rfl | assumption) ?_
            | refine aqs_skip rfl rfl ?_
            | refine aqs_part rfl rfl (fun hg => ?_) (fun hg => ?_) <;> (try (have hw := hg; simp only [Bool.not_eq_true', Bool.not_eq_false', Bool.not_true, Bool.not_false, decide_eq_true_eq, decide_eq_false_iff_not, Int.not_lt, Int.not_le, Bool.or_eq_true, Bool.or_eq_false_iff, Bool.and_eq_true, Bool.and_eq_false_iff, not_true, not_false_eq_true, ne_eq, Decidable.not_not, reduceCtorEq] at hw)) <;> (try (exfalso; omega))
          | (with_reducible refine is_aw ?_); first
            | refine aw_rs tabOk (fun _ => false) _ rfl rfl ?_
            | refine aw_quiet rfl tabOk (fun _ => false) _ rfl rfl (by decide +kernel) ?_
            | refine aw_quiet_end rfl tabOk (fun _ => false) _ rfl rfl (by decide +kernel) ?_
            | refine aw_region tabOk (fun _ => false) _ rfl rfl ?_
            | refine aw_ret ?_
            | refine aw_skip ?_
            | refine aw_exit ?_
            | refine aw_block ?_
            | refine aw_label ?_
            | refine aw_cond_t rfl (by first | rfl | assumption) ?_
            | refine aw_cond_f rfl (by first | rfl | assumption) ?_
            | refine aw_cond rfl (fun hg => ?_) (fun hg => ?_) <;> (try (have hw := hg; simp only [Bool.not_eq_true', Bool.not_eq_false', Bool.not_true, Bool.not_false, decide_eq_true_eq, decide_eq_false_iff_not, Int.not_lt, Int.not_le, Bool.or_eq_true, Bool.or_eq_false_iff, Bool.and_eq_true, Bool.and_eq_false_iff, not_true, not_false_eq_true, ne_eq, Decidable.not_not, reduceCtorEq] at hw)) <;> (try (exfalso; omega))
            | refine aw_seq fun K hK => ?_
          | (with_reducible refine aPick_t ?_ ?_); first | rfl | assumption
          | (with_reducible refine aPick_f ?_ ?_); first | rfl | assumption
          | (with_reducible refine h1 _ _ ?_); clear h1 K1
          | (with_reducible refine hK _ _ ?_); clear hK K
          | with_reducible refine k_use (by assumption) _ _ ?_
          | with_reducible refine k1_use (by assumption) _ _ ?_
          | (with_reducible refine is_call ?_); first
            | refine c_sMayGo _ _ ?_
          | (with_reducible refine is_store ?_); first
            | simp only [g15, g16, g19, g21, g22, g28, g29, hM, hca, aStore, go_sem, ↓reduceIte]
          | (with_reducible refine is_load ?_); first
            | refine own_loadM (f := i64) (0 : Int) 0 (by assumption) (by rfl) (by simp [cntOf_len] <;> omega) (fun _ => rfl) rfl rfl rfl ?_
            | simp only [g15, g16, g19, g21, g22, g28, g29, hM, hca, aLoad, go_sem, ↓reduceIte]
          | (with_reducible refine is_alloc ?_); first
            | simp only [g15, g16, g19, g21, g22, g28, g29, hM, hca, aAlloc, go_sem, ↓reduceIte]
          | (with_reducible refine is_box ?_); first
            | simp only [g15, g16, g19, g21, g22, g28, g29, hM, hca, aBox, go_sem, ↓reduceIte]
          | (with_reducible refine is_make ?_); first
            | simp only [g15, g16, g19, g21, g22, g28, g29, hM, hca, aMake, go_sem, ↓reduceIte]
          | (with_reducible refine is_bslice ?_); first
            | simp only [g15, g16, g19, g21, g22, g28, g29, hM, hca, aBuildSlice, go_sem, ↓reduceIte]
          | (with_reducible refine is_conv ?_); first
            | simp only [g15, g16, g19, g21, g22, g28, g29, hM, hca, aConvS, go_sem, ↓reduceIte]
          | (with_reducible refine is_append ?_); first
            | refine Grow.append (by (first | assumption | exact Grow.setNew (by assumption) _ _ | exact Grow.push (by assumption) _ | exact Grow.setNew (Grow.setNew (by assumption) _ _) _ _ | exact Grow.push (Grow.setNew (by assumption) _ _) _)) rfl rfl ⟨rfl, rfl, by decide, rfl⟩ ?_ ?_ ?_ (fun x' σ' hG => ?_)
            | simp only [g15, g16, g19, g21, g22, g28, g29, hM, hca, aAppend, go_sem, ↓reduceIte]
          | (with_reducible refine is_len ?_); first
            | refine Grow.len (by (first | assumption | exact Grow.setNew (by assumption) _ _ | exact Grow.push (by assumption) _ | exact Grow.setNew (Grow.setNew (by assumption) _ _) _ _ | exact Grow.push (Grow.setNew (by assumption) _ _) _)) rfl rfl ?_
            | simp only [g15, g16, g19, g21, g22, g28, g29, hM, hca, aLen, go_sem, ↓reduceIte]
          | (with_reducible refine is_all ?_); rfl
          | with_reducible exact ⟨rfl, rfl⟩
          | with_reducible exact rfl
          | (with_reducible refine And.intro ?_ ?_); · (first | assumption | exact own_slob 0 (by assumption) (by rfl) | exact St.push_same _ _ | exact St.set_same _ _ _ | (repeat (first | refine obj_push (by first | omega | (simp only [push_next, set_next]; omega)) ?_ | refine obj_set (by first | omega | (simp only [push_next, set_next]; omega)) ?_)); (first | exact St.push_same _ _ | exact St.set_same _ _ _ | assumption) | omega | (simp only [push_objs, push_next, set_objs, set_next, ↓reduceIte]; done) | (simp only [push_objs, push_next, set_objs, set_next, ↓reduceIte]; omega) | rfl | (refine And.intro ?_ ?_ <;> (simp only [push_objs, push_next, set_objs, set_next, ↓reduceIte]; done)))
          | (with_reducible apply ex_and); · (first | assumption | exact own_slob 0 (by assumption) (by rfl) | exact St.push_same _ _ | exact St.set_same _ _ _ | (repeat (first | refine obj_push (by first | omega | (simp only [push_next, set_next]; omega)) ?_ | refine obj_set (by first | omega | (simp only [push_next, set_next]; omega)) ?_)); (first | exact St.push_same _ _ | exact St.set_same _ _ _ | assumption) | omega | (simp only [push_objs, push_next, set_objs, set_next, ↓reduceIte]; done) | (simp only [push_objs, push_next, set_objs, set_next, ↓reduceIte]; omega) | rfl | (refine And.intro ?_ ?_ <;> (simp only [push_objs, push_next, set_objs, set_next, ↓reduceIte]; done)))
          | simp (disch := omega) only [tdivE, tmodE, tdivN, tmodN, wrapI, wrapU8]
          | simp only [g15, g16, g19, g21, g22, g28, g29, hM, hca, go_sem, ↓reduceIte]
          | (refine is_prop ?_; omega)
        all_goals (rw [ht1, hs1, hv, if_pos hm]; simp)
      · have hc0 := List.count_eq_zero.2 hm
        have hc1 : ((bs.flatten.count (i : Int) : Nat) : Int) = 0 := by omega
        rw [hc1] at hca
        repeat' first
          | (with_reducible refine is_ops ?_); first
            | refine aops_nil ?_
            | refine aops_cons rfl fun K1 h1 => ?_
            | refine aops_wanted rfl rfl (by first | rfl | assumption) fun K1 h1 => ?_
            | refine aops_unwanted rfl rfl (by first | rfl | assumption) ?_
            | refine aops_skip rfl rfl ?_
            | refine aops_guard rfl rfl (fun hg K1 h1 => ?_) (fun hg => ?_) <;> (try (have hw := hg; simp only [Bool.not_eq_true', Bool.not_eq_false', Bool.not_true, Bool.not_false, decide_eq_true_eq, decide_eq_false_iff_not, Int.not_lt, Int.not_le, Bool.or_eq_true, Bool.or_eq_false_iff, Bool.and_eq_true, Bool.and_eq_false_iff, not_true, not_false_eq_true, ne_eq, Decidable.not_not, reduceCtorEq] at hw)) <;> (try (exfalso; omega))
          | (with_reducible refine is_qs ?_); first
            | refine aqs_nil ?_
            | refine aqs_cons (v := ?_) rfl ?_ ?_
            | refine aqs_wanted (v := ?_) rfl rfl (by first | rfl | assumption) ?_ ?_
            | refine aqs_unwanted rfl rfl (by first | rfl | assumption) ?_
            | refine aqs_skip rfl rfl ?_
            | refine aqs_part rfl rfl (fun hg => ?_) (fun hg => ?_) <;> (try (have hw := hg; simp only [Bool.not_eq_true', Bool.not_eq_false', Bool.not_true, Bool.not_false, decide_eq_true_eq, decide_eq_false_iff_not, Int.not_lt, Int.not_le, Bool.or_eq_true, Bool.or_eq_false_iff, Bool.and_eq_true, Bool.and_eq_false_iff, not_true, not_false_eq_true, ne_eq, Decidable.not_not, reduceCtorEq] at hw)) <;> (try (exfalso; omega))
          | (with_reducible refine is_aw ?_); first
            | refine aw_rs tabOk (fun _ => false) _ rfl rfl ?_
            | refine aw_quiet rfl tabOk (fun _ => false) _ rfl rfl (by decide +kernel) ?_
            | refine aw_quiet_end rfl tabOk (fun _ => false) _ rfl rfl (by decide +kernel) ?_
            | refine aw_region tabOk (fun _ => false) _ rfl rfl ?_
            | refine aw_ret ?_
            | refine aw_skip ?_
            | refine aw_exit ?_
            | refine aw_block ?_
            | refine aw_label ?_
            | refine aw_cond_t rfl (by first | rfl | assumption) ?_
            | refine aw_cond_f rfl (by first | rfl | assumption) ?_
            | refine aw_cond rfl (fun hg => ?_) (fun hg => ?_) <;> (try (have hw := hg; simp only [Bool.not_eq_true', Bool.not_eq_false', Bool.not_true, Bool.not_false, decide_eq_true_eq, decide_eq_false_iff_not, Int.not_lt, Int.not_le, Bool.or_eq_true, Bool.or_eq_false_iff, Bool.and_eq_true, Bool.and_eq_false_iff, not_true, not_false_eq_true, ne_eq, Decidable.not_not, reduceCtorEq] at hw)) <;> (try (exfalso; omega))
            | refine aw_seq fun K hK => ?_
          | (with_reducible refine aPick_t ?_ ?_); first | rfl | assumption
          | (with_reducible refine aPick_f ?_ ?_); first | rfl | assumption
          | (with_reducible refine h1 _ _ ?_); clear h1 K1
          | (with_reducible refine hK _ _ ?_); clear hK K
          | with_reducible refine k_use (by assumption) _ _ ?_
          | with_reducible refine k1_use (by assumption) _ _ ?_
          | (with_reducible refine is_call ?_); first
            | refine c_sMayGo _ _ ?_
          | (with_reducible refine is_store ?_); first
            | simp only [g15, g16, g19, g21, g22, g28, g29, hM, hca, aStore, go_sem, ↓reduceIte]
          | (with_reducible refine is_load ?_); first
            | refine own_loadM (f := i64) (0 : Int) 0 (by assumption) (by rfl) (by simp [cntOf_len] <;> omega) (fun _ => rfl) rfl rfl rfl ?_
            | simp only [g15, g16, g19, g21, g22, g28, g29, hM, hca, aLoad, go_sem, ↓reduceIte]
          | (with_reducible refine is_alloc ?_); first
            | simp only [g15, g16, g19, g21, g22, g28, g29, hM, hca, aAlloc, go_sem, ↓reduceIte]
          | (with_reducible refine is_box ?_); first
            | simp only [g15, g16, g19, g21, g22, g28, g29, hM, hca, aBox, go_sem, ↓reduceIte]
          | (with_reducible refine is_make ?_); first
            | simp only [g15, g16, g19, g21, g22, g28, g29, hM, hca, aMake, go_sem, ↓reduceIte]
          | (with_reducible refine is_bslice ?_); first
            | simp only [g15, g16, g19, g21, g22, g28, g29, hM, hca, aBuildSlice, go_sem, ↓reduceIte]
          | (with_reducible refine is_conv ?_); first
            | simp only [g15, g16, g19, g21, g22, g28, g29, hM, hca, aConvS, go_sem, ↓reduceIte]
          | (with_reducible refine is_append ?_); first
            | refine Grow.append (by (first | assumption | exact Grow.setNew (by assumption) _ _ | exact Grow.push (by assumption) _ | exact Grow.setNew (Grow.setNew (by assumption) _ _) _ _ | exact Grow.push (Grow.setNew (by assumption) _ _) _)) rfl rfl ⟨rfl, rfl, by decide, rfl⟩ ?_ ?_ ?_ (fun x' σ' hG => ?_)
            | simp only [g15, g16, g19, g21, g22, g28, g29, hM, hca, aAppend, go_sem, ↓reduceIte]
          | (with_reducible refine is_len ?_); first
            | refine Grow.len (by (first | assumption | exact Grow.setNew (by assumption) _ _ | exact Grow.push (by assumption) _ | exact Grow.setNew (Grow.setNew (by assumption) _ _) _ _ | exact Grow.push (Grow.setNew (by assumption) _ _) _)) rfl rfl ?_
            | simp only [g15, g16, g19, g21, g22, g28, g29, hM, hca, aLen, go_sem, ↓reduceIte]
          | (with_reducible refine is_all ?_); rfl
          | with_reducible exact ⟨rfl, rfl⟩
          | with_reducible exact rfl
          | (with_reducible refine And.intro ?_ ?_); · (first | assumption | exact own_slob 0 (by assumption) (by rfl) | exact St.push_same _ _ | exact St.set_same _ _ _ | (repeat (first | refine obj_push (by first | omega | (simp only [push_next, set_next]; omega)) ?_ | refine obj_set (by first | omega | (simp only [push_next, set_next]; omega)) ?_)); (first | exact St.push_same _ _ | exact St.set_same _ _ _ | assumption) | omega | (simp only [push_objs, push_next, set_objs, set_next, ↓reduceIte]; done) | (simp only [push_objs, push_next, set_objs, set_next, ↓reduceIte]; omega) | rfl | (refine And.intro ?_ ?_ <;> (simp only [push_objs, push_next, set_objs, set_next, ↓reduceIte]; done)))
          | (with_reducible apply ex_and); · (first | assumption | exact own_slob 0 (by assumption) (by rfl) | exact St.push_same _ _ | exact St.set_same _ _ _ | (repeat (first | refine obj_push (by first | omega | (simp only [push_next, set_next]; omega)) ?_ | refine obj_set (by first | omega | (simp only [push_next, set_next]; omega)) ?_)); (first | exact St.push_same _ _ | exact St.set_same _ _ _ | assumption) | omega | (simp only [push_objs, push_next, set_objs, set_next, ↓reduceIte]; done) | (simp only [push_objs, push_next, set_objs, set_next, ↓reduceIte]; omega) | rfl | (refine And.intro ?_ ?_ <;> (simp only [push_objs, push_next, set_objs, set_next, ↓reduceIte]; done)))
          | simp (disch := omega) only [tdivE, tmodE, tdivN, tmodN, wrapI, wrapU8]
          | simp only [g15, g16, g19, g21, g22, g28, g29, hM, hca, go_sem, ↓reduceIte]
          | (refine is_prop ?_; omega)
        all_goals (rw [ht1, hs1, hv, if_neg hm]; simp)
  · obtain rfl : i = gl2.length := by omega
    have e1 : decide (tot gl2 lv2 bs gl2.length = most) = true := by simp only [decide_eq_true_eq]; omega
    have e2 : decide (sumA gl2 lv2 [] gl2.length ≤ most) = true := by simp only [decide_eq_true_eq]; omega
    repeat' first
      | (with_reducible refine is_ops ?_); first
        | refine aops_nil ?_
        | refine aops_cons rfl fun K1 h1 => ?_
        | refine aops_wanted rfl rfl (by first | rfl | assumption) fun K1 h1 => ?_
        | refine aops_unwanted rfl rfl (by first | rfl | assumption) ?_
        | refine aops_skip rfl rfl ?_
        | refine aops_guard rfl rfl (fun hg K1 h1 => ?_) (fun hg => ?_) <;> (try (have hw := hg; simp only [Bool.not_eq_true', Bool.not_eq_false', Bool.not_true, Bool.not_false, decide_eq_true_eq, decide_eq_false_iff_not, Int.not_lt, Int.not_le, Bool.or_eq_true, Bool.or_eq_false_iff, Bool.and_eq_true, Bool.and_eq_false_iff, not_true, not_false_eq_true, ne_eq, Decidable.not_not, reduceCtorEq] at hw)) <;> (try (exfalso; omega))
      | (with_reducible refine is_qs ?_); first
        | refine aqs_nil ?_
        | refine aqs_cons (v := ?_) rfl ?_ ?_
        | refine aqs_wanted (v := ?_) rfl rfl (by first | rfl | assumption) ?_ ?_
        | refine aqs_unwanted rfl rfl (by first | rfl | assumption) ?_
        | refine aqs_skip rfl rfl ?_
        | refine aqs_part rfl rfl (fun hg => ?_) (fun hg => ?_) <;> (try (have hw := hg; simp only [Bool.not_eq_true', Bool.not_eq_false', Bool.not_true, Bool.not_false, decide_eq_true_eq, decide_eq_false_iff_not, Int.not_lt, Int.not_le, Bool.or_eq_true, Bool.or_eq_false_iff, Bool.and_eq_true, Bool.and_eq_false_iff, not_true, not_false_eq_true, ne_eq, Decidable.not_not, reduceCtorEq] at hw)) <;> (try (exfalso; omega))
      | (with_reducible refine is_aw ?_); first
        | refine aw_rs tabOk (fun _ => false) _ rfl rfl ?_
        | refine aw_quiet rfl tabOk (fun _ => false) _ rfl rfl (by decide +kernel) ?_
        | refine aw_quiet_end rfl tabOk (fun _ => false) _ rfl rfl (by decide +kernel) ?_
        | refine aw_region tabOk (fun _ => false) _ rfl rfl ?_
        | refine aw_ret ?_
        | refine aw_skip ?_
        | refine aw_exit ?_
        | refine aw_block ?_
        | refine aw_label ?_
        | refine aw_cond_t rfl (by first | rfl | assumption) ?_
        | refine aw_cond_f rfl (by first | rfl | assumption) ?_
        | refine aw_cond rfl (fun hg => ?_) (fun hg => ?_) <;> (try (have hw := hg; simp only [Bool.not_eq_true', Bool.not_eq_false', Bool.not_true, Bool.not_false, decide_eq_true_eq, decide_eq_false_iff_not, Int.not_lt, Int.not_le, Bool.or_eq_true, Bool.or_eq_false_iff, Bool.and_eq_true, Bool.and_eq_false_iff, not_true, not_false_eq_true, ne_eq, Decidable.not_not, reduceCtorEq] at hw)) <;> (try (exfalso; omega))
        | refine aw_seq fun K hK => ?_
      | (with_reducible refine aPick_t ?_ ?_); first | rfl | assumption
      | (with_reducible refine aPick_f ?_ ?_); first | rfl | assumption
      | (with_reducible refine h1 _ _ ?_); clear h1 K1
      | (with_reducible refine hK _ _ ?_); clear hK K
      | with_reducible refine k_use (by assumption) _ _ ?_
      | with_reducible refine k1_use (by assumption) _ _ ?_
      | (with_reducible refine is_store ?_); first
        | simp only [g15, g16, g19, g21, g22, g28, g29, e1, e2, aStore, go_sem, ↓reduceIte]
      | (with_reducible refine is_load ?_); first
        | simp only [g15, g16, g19, g21, g22, g28, g29, e1, e2, aLoad, go_sem, ↓reduceIte]
      | (with_reducible refine is_alloc ?_); first
        | simp only [g15, g16, g19, g21, g22, g28, g29, e1, e2, aAlloc, go_sem, ↓reduceIte]
      | (with_reducible refine is_box ?_); first
        | simp only [g15, g16, g19, g21, g22, g28, g29, e1, e2, aBox, go_sem, ↓reduceIte]
      | (with_reducible refine is_make ?_); first
        | simp only [g15, g16, g19, g21, g22, g28, g29, e1, e2, aMake, go_sem, ↓reduceIte]
      | (with_reducible refine is_bslice ?_); first
        | simp only [g15, g16, g19, g21, g22, g28, g29, e1, e2, aBuildSlice, go_sem, ↓reduceIte]
      | (with_reducible refine is_conv ?_); first
        | simp only [g15, g16, g19, g21, g22, g28, g29, e1, e2, aConvS, go_sem, ↓reduceIte]
      | (with_reducible refine is_append ?_); first
        | refine Grow.append (by (first | assumption | exact Grow.setNew (by assumption) _ _ | exact Grow.push (by assumption) _ | exact Grow.setNew (Grow.setNew (by assumption) _ _) _ _ | exact Grow.push (Grow.setNew (by assumption) _ _) _)) rfl rfl ⟨rfl, rfl, by decide, rfl⟩ ?_ ?_ ?_ (fun x' σ' hG => ?_)
        | simp only [g15, g16, g19, g21, g22, g28, g29, e1, e2, aAppend, go_sem, ↓reduceIte]
      | (with_reducible refine is_len ?_); first
        | refine Grow.len (by (first | assumption | exact Grow.setNew (by assumption) _ _ | exact Grow.push (by assumption) _ | exact Grow.setNew (Grow.setNew (by assumption) _ _) _ _ | exact Grow.push (Grow.setNew (by assumption) _ _) _)) rfl rfl ?_
        | simp only [g15, g16, g19, g21, g22, g28, g29, e1, e2, aLen, go_sem, ↓reduceIte]
      | (with_reducible refine is_all ?_); rfl
      | with_reducible exact ⟨rfl, rfl⟩
      | with_reducible exact rfl
      | (with_reducible refine And.intro ?_ ?_); · (first | assumption | exact St.push_same _ _ | exact St.set_same _ _ _ | (repeat (first | refine obj_push (by first | omega | (simp only [push_next, set_next]; omega)) ?_ | refine obj_set (by first | omega | (simp only [push_next, set_next]; omega)) ?_)); (first | exact St.push_same _ _ | exact St.set_same _ _ _ | assumption) | omega | (simp only [push_objs, push_next, set_objs, set_next, ↓reduceIte]; done) | (simp only [push_objs, push_next, set_objs, set_next, ↓reduceIte]; omega) | rfl | (refine And.intro ?_ ?_ <;> (simp only [push_objs, push_next, set_objs, set_next, ↓reduceIte]; done)))
      | (with_reducible apply ex_and); · (first | assumption | exact St.push_same _ _ | exact St.set_same _ _ _ | (repeat (first | refine obj_push (by first | omega | (simp only [push_next, set_next]; omega)) ?_ | refine obj_set (by first | omega | (simp only [push_next, set_next]; omega)) ?_)); (first | exact St.push_same _ _ | exact St.set_same _ _ _ | assumption) | omega | (simp only [push_objs, push_next, set_objs, set_next, ↓reduceIte]; done) | (simp only [push_objs, push_next, set_objs, set_next, ↓reduceIte]; omega) | rfl | (refine And.intro ?_ ?_ <;> (simp only [push_objs, push_next, set_objs, set_next, ↓reduceIte]; done)))
      | simp (disch := omega) only [tdivE, tmodE, tdivN, tmodN, wrapI, wrapU8]
      | simp only [g15, g16, g19, g21, g22, g28, g29, e1, e2, go_sem, ↓reduceIte]
      | (refine is_prop ?_; omega)
    exact hQ _ _ (by simp [Env.upd])
end Go.Proofs.Ytamielbdedbnaaa
