/- laws.FnPairs: a pair. -/
import Derived.Test.YtamielbdedbnaaaP3a
set_option linter.unusedSimpArgs false
set_option linter.unusedVariables false
set_option maxHeartbeats 8000000
namespace Go.Proofs.Ytamielbdedbnaaa
open Go.Ab Go.RowKit
theorem pairs_body {gl2 : List Grp} {lv2 S most : Int} {bs : List (List Int)} {F : List Int} {t a b oc gc : Nat} {e : Env} {τ τ2 : St} {Q : Exit → Env → St → Prop} (hgs : gsOk gl2 = true) (hlv2 : inR lv2 1 5 = true) (hab1 : a < b) (hb : b < gl2.length) (hx : (bs.map pAV)[t]? = some (.lst false 1 [i64 a, i64 b]))
    (hca : 0 ≤ (cntOf gl2.length F).getD a 0 ∧ (cntOf gl2.length F).getD a 0 ≤ 1) (hcb : 0 ≤ (cntOf gl2.length F).getD b 0 ∧ (cntOf gl2.length F).getD b 0 ≤ 1) (hsum : 0 ≤ S ∧ S ≤ 100000) (htl : t < bs.length ∧ bs.length ≤ 8)
    (f15 : e 15 = gsAV false gl2) (f16 : e 16 = i64 lv2) (f18 : e 18 = .lst false 1 (bs.map pAV)) (f19 : e 19 = i64 most) (f21 : e 21 = .ref oc gc 0 gl2.length) (f22 : e 22 = i64 S) (f23 : e 23 = i64 t) (k2 : Own τ [] [.sl (.ref oc gc 0 gl2.length) 2 1 ((cntOf gl2.length F).map i64)] τ2)
    (hQ : ∀ e' σ', Own τ [] [.sl (.ref oc gc 0 gl2.length) 2 1 ((cntOf gl2.length (F ++ [(a : Int), (b : Int)])).map i64)] σ' → e' 15 = gsAV false gl2 → e' 16 = i64 lv2 → e' 18 = .lst false 1 (bs.map pAV) → e' 19 = i64 most → e' 21 = .ref oc gc 0 gl2.length → e' 22 = i64 (S + gVal lv2 (gWith (gAt gl2 a) (gAt gl2 b) (gAt gl2 a).id)) → e' 23 = i64 t → Q .normal e' σ') :
    AW Try.prog 328 (subC [1, 1, 1, 1, 1, 1, 1, 1, 1, 1, 0, 1, 0, 0, 1, 0, 0, 1] (bodyOf Try.f3)) Q e τ2 := by
  have hga := map_at (l := gl2) (i := a) (by omega)
  have hgb := map_at (l := gl2) hb
  have hset : ((cntOf gl2.length F).set a ((cntOf gl2.length F).getD a 0 + 1)).getD b 0 = (cntOf gl2.length F).getD b 0 := by
    simp only [List.getD_eq_getElem?_getD]; rw [List.getElem?_set_ne (by omega)]
  have hoa := gsOk_at hgs (show a < gl2.length by omega)
  have hob := gsOk_at hgs hb
  have hnm : isName (gAt gl2 a).id = true := by simp only [gOk, Bool.and_eq_true] at hoa; exact hoa.1.1.1.1
  cases hW : gOk (gWith (gAt gl2 a) (gAt gl2 b) (gAt gl2 a).id) with
  | false =>
    have hv : gVal lv2 (gWith (gAt gl2 a) (gAt gl2 b) (gAt gl2 a).id) = 0 := by unfold gVal; rw [hW]; rfl
    have hJ : gJoin (gAt gl2 a) (gAt gl2 b) (gAt gl2 a).id = .tup [gAV gZero, i64 6] := by unfold gJoin; rw [hoa, hob, hnm, hW]; rfl
    repeat' first
      | (with_reducible refine is_ops ?_); first
        | refine aops_nil ?_
        | refine aops_cons rfl fun K1 h1 => ?_
        | refine aops_wanted rfl rfl (by first | rfl | assumption) fun K1 h1 => ?_
        | refine aops_unwanted rfl rfl (by first | rfl | assumption) ?_
        | refine aops_skip rfl rfl ?_
        | refine aops_guard rfl rfl (fun hg K1 h1 => ?_) (fun hg => ?_) <;> (try (have hw := hg; simp only [Bool.not_eq_true', Bool.not_eq_false', Bool.not_true, Bool.not_false, decide_eq_true_eq, decide_eq_false_iff_not, Int.not_lt, Int.not_le, Bool.or_eq_true, Bool.or_eq_false_iff, Bool.and_eq_true, Bool.and_eq_false_iff, not_true, not_false_eq_true, ne_eq, Decidable.not_not, reduceCtorEq] at hw)) <;> (try (exfalso; omega))
      | (with_reducible refine is_qs ?_); first
        | refine aqs_nil ?_
        | refine aqs_cons (v := ?_) rfl ?_ ?_
        | refine aqs_wanted (v := ?_) rfl rfl (by first | rfl | assumption) ?_ ?_
        | refine aqs_unwanted rfl rfl (by first | rfl | assumption) ?_
        | refine aqs_skip rfl rfl ?_
        | refine aqs_part rfl rfl (fun hg => ?_) (fun hg => ?_) <;> (try (have hw := hg; simp only [Bool.not_eq_true', Bool.not_eq_false', Bool.not_true, Bool.not_false, decide_eq_true_eq, decide_eq_false_iff_not, Int.not_lt, Int.not_le, Bool.or_eq_true, Bool.or_eq_false_iff, Bool.and_eq_true, Bool.and_eq_false_iff, not_true, not_false_eq_true, ne_eq, Decidable.not_not, reduceCtorEq] at hw)) <;> (try (exfalso; omega))
      | (with_reducible refine is_aw ?_); first
        | refine aw_rs tabOk (fun _ => false) _ rfl rfl ?_
        | refine aw_quiet rfl tabOk (fun _ => false) _ rfl rfl (by decide +kernel) ?_
        | refine aw_quiet_end rfl tabOk (fun _ => false) _ rfl rfl (by decide +kernel) ?_
        | refine aw_region tabOk (fun _ => false) _ rfl rfl ?_
        | refine aw_ret ?_
        | refine aw_skip ?_
        | refine aw_exit ?_
        | refine aw_block ?_
        | refine aw_label ?_
        | refine aw_cond_t rfl (by first | rfl | assumption) ?_
        | refine aw_cond_f rfl (by first | rfl | assumption) ?_
        | refine aw_cond rfl (fun hg => ?_) (fun hg => ?_) <;> (try (have hw := hg; simp only [Bool.not_eq_true', Bool.not_eq_false', Bool.not_true, Bool.not_false, decide_eq_true_eq, decide_eq_false_iff_not, Int.not_lt, Int.not_le, Bool.or_eq_true, Bool.or_eq_false_iff, Bool.and_eq_true, Bool.and_eq_false_iff, not_true, not_false_eq_true, ne_eq, Decidable.not_not, reduceCtorEq] at hw)) <;> (try (exfalso; omega))
        | refine aw_seq fun K hK => ?_
      | (with_reducible refine aPick_t ?_ ?_); first | rfl | assumption
      | (with_reducible refine aPick_f ?_ ?_); first | rfl | assumption
      | (with_reducible refine h1 _ _ ?_); clear h1 K1
      | (with_reducible refine hK _ _ ?_); clear hK K
      | with_reducible refine k_use (by assumption) _ _ ?_
      | with_reducible refine k1_use (by assumption) _ _ ?_
      | (with_reducible refine is_call ?_); first
        | refine c_join _ _ _ ?_
        | refine c_sMayGo _ _ ?_
      | (with_reducible refine is_store ?_); first
        | refine own_storeW 1 (by assumption) (by rfl) rfl (by rfl) (by rfl) (by rfl) (by rfl) (fun σ' k => ?_)
        | refine own_storeW 2 (by assumption) (by rfl) rfl (by rfl) (by rfl) (by rfl) (by rfl) (fun σ' k => ?_)
        | refine own_storeW 3 (by assumption) (by rfl) rfl (by rfl) (by rfl) (by rfl) (by rfl) (fun σ' k => ?_)
        | refine own_storeM (f := i64) 0 (by assumption) (by rfl) (by simp [cntOf_len] <;> omega) (fun _ => rfl) rfl rfl (fun σ' k => ?_)
        | simp only [f15, f16, f18, f19, f21, f22, f23, hset, hJ, aStore, go_sem, ↓reduceIte]
      | (with_reducible refine is_load ?_); first
        | refine own_loadM (f := i64) (0 : Int) 0 (by assumption) (by rfl) (by simp [cntOf_len] <;> omega) (fun _ => rfl) rfl rfl rfl ?_
        | simp only [f15, f16, f18, f19, f21, f22, f23, hset, hJ, aLoad, go_sem, ↓reduceIte]
      | (with_reducible refine is_alloc ?_); first
        | refine own_alloc (by assumption) rfl ⟨by decide, rfl, rfl⟩ (fun σ' o k => ?_)
        | simp only [f15, f16, f18, f19, f21, f22, f23, hset, hJ, aAlloc, go_sem, ↓reduceIte]
      | (with_reducible refine is_box ?_); first
        | simp only [f15, f16, f18, f19, f21, f22, f23, hset, hJ, aBox, go_sem, ↓reduceIte]
      | (with_reducible refine is_make ?_); first
        | simp only [f15, f16, f18, f19, f21, f22, f23, hset, hJ, aMake, go_sem, ↓reduceIte]
      | (with_reducible refine is_bslice ?_); first
        | simp only [f15, f16, f18, f19, f21, f22, f23, hset, hJ, aBuildSlice, go_sem, ↓reduceIte]
      | (with_reducible refine is_conv ?_); first
        | simp only [f15, f16, f18, f19, f21, f22, f23, hset, hJ, aConvS, go_sem, ↓reduceIte]
      | (with_reducible refine is_append ?_); first
        | refine Grow.append (by (first | assumption | exact Grow.setNew (by assumption) _ _ | exact Grow.push (by assumption) _ | exact Grow.setNew (Grow.setNew (by assumption) _ _) _ _ | exact Grow.push (Grow.setNew (by assumption) _ _) _)) rfl rfl ⟨rfl, rfl, by decide, rfl⟩ ?_ ?_ ?_ (fun x' σ' hG => ?_)
        | simp only [f15, f16, f18, f19, f21, f22, f23, hset, hJ, aAppend, go_sem, ↓reduceIte]
      | (with_reducible refine is_len ?_); first
        | refine Grow.len (by (first | assumption | exact Grow.setNew (by assumption) _ _ | exact Grow.push (by assumption) _ | exact Grow.setNew (Grow.setNew (by assumption) _ _) _ _ | exact Grow.push (Grow.setNew (by assumption) _ _) _)) rfl rfl ?_
        | simp only [f15, f16, f18, f19, f21, f22, f23, hset, hJ, aLen, go_sem, ↓reduceIte]
      | (with_reducible refine is_all ?_); rfl
      | with_reducible exact ⟨rfl, rfl⟩
      | with_reducible exact rfl
      | (with_reducible refine And.intro ?_ ?_); · (first | assumption | exact own_slob 0 (by assumption) (by rfl) | exact Own.at 1 (by assumption) (by rfl) | exact Own.at 2 (by assumption) (by rfl) | exact Own.at 3 (by assumption) (by rfl) | exact St.push_same _ _ | exact St.set_same _ _ _ | (repeat (first | refine obj_push (by first | omega | (simp only [push_next, set_next]; omega)) ?_ | refine obj_set (by first | omega | (simp only [push_next, set_next]; omega)) ?_)); (first | exact St.push_same _ _ | exact St.set_same _ _ _ | assumption) | omega | (simp only [push_objs, push_next, set_objs, set_next, ↓reduceIte]; done) | (simp only [push_objs, push_next, set_objs, set_next, ↓reduceIte]; omega) | rfl | (refine And.intro ?_ ?_ <;> (simp only [push_objs, push_next, set_objs, set_next, ↓reduceIte]; done)))
      | (with_reducible apply ex_and); · (first | assumption | exact own_slob 0 (by assumption) (by rfl) | exact Own.at 1 (by assumption) (by rfl) | exact Own.at 2 (by assumption) (by rfl) | exact Own.at 3 (by assumption) (by rfl) | exact St.push_same _ _ | exact St.set_same _ _ _ | (repeat (first | refine obj_push (by first | omega | (simp only [push_next, set_next]; omega)) ?_ | refine obj_set (by first | omega | (simp only [push_next, set_next]; omega)) ?_)); (first | exact St.push_same _ _ | exact St.set_same _ _ _ | assumption) | omega | (simp only [push_objs, push_next, set_objs, set_next, ↓reduceIte]; done) | (simp only [push_objs, push_next, set_objs, set_next, ↓reduceIte]; omega) | rfl | (refine And.intro ?_ ?_ <;> (simp only [push_objs, push_next, set_objs, set_next, ↓reduceIte]; done)))
      | simp (disch := omega) only [tdivE, tmodE, tdivN, tmodN, wrapI, wrapU8]
      | simp only [f15, f16, f18, f19, f21, f22, f23, hset, hJ, go_sem, ↓reduceIte]
      | (refine is_prop ?_; omega)
    all_goals exact hQ _ _ (by have k' := k.head rfl; rw [cntOf_pair hab1 hb] at k'; exact k') (by simp [Env.upd, f15]) (by simp [Env.upd, f16]) (by simp [Env.upd, f18]) (by simp [Env.upd, f19]) (by simp [Env.upd, f21]) (by simp [Env.upd, f22, hv]) (by simp [Env.upd, f23])
  | true =>
    have hJ : gJoin (gAt gl2 a) (gAt gl2 b) (gAt gl2 a).id = .tup [gAV (gWith (gAt gl2 a) (gAt gl2 b) (gAt gl2 a).id), i64 0] := by unfold gJoin; rw [hoa, hob, hnm, hW]; rfl
    have hpe : 0 ≤ (gWith (gAt gl2 a) (gAt gl2 b) (gAt gl2 a).id).pe ∧ (gWith (gAt gl2 a) (gAt gl2 b) (gAt gl2 a).id).pe ≤ 30 := by
      have hW2 := hW
      simp only [gOk, inR, Bool.and_eq_true, decide_eq_true_eq] at hW2; omega
    cases hG : gGoes (gWith (gAt gl2 a) (gAt gl2 b) (gAt gl2 a).id) lv2 with
    | false =>
      have hv : gVal lv2 (gWith (gAt gl2 a) (gAt gl2 b) (gAt gl2 a).id) = 0 := by unfold gVal; rw [hW, hG]; rfl
      have hM : gMay (gWith (gAt gl2 a) (gAt gl2 b) (gAt gl2 a).id) lv2 = false := by unfold gMay; rw [hW, hlv2, hG]; rfl
      repeat' first
        | (with_reducible refine is_ops ?_); first
          | refine aops_nil ?_
          | refine aops_cons rfl fun K1 h1 => ?_
          | refine aops_wanted rfl rfl (by first | rfl | assumption) fun K1 h1 => ?_
          | refine aops_unwanted rfl rfl (by first | rfl | assumption) ?_
          | refine aops_skip rfl rfl ?_
          | refine aops_guard rfl rfl (fun hg K1 h1 => ?_) (fun hg => ?_) <;> (try (have hw := hg; simp only [Bool.not_eq_true', Bool.not_eq_false', Bool.not_true, Bool.not_false, decide_eq_true_eq, decide_eq_false_iff_not, Int.not_lt, Int.not_le, Bool.or_eq_true, Bool.or_eq_false_iff, Bool.and_eq_true, Bool.and_eq_false_iff, not_true, not_false_eq_true, ne_eq, Decidable.not_not, reduceCtorEq] at hw)) <;> (try (exfalso; omega))
        | (with_reducible refine is_qs ?_); first
          | refine aqs_nil ?_
          | refine aqs_cons (v := ?_) rfl ?_ ?_
          | refine aqs_wanted (v := ?_) rfl rfl (by first | rfl | assumption) ?_ ?_
          | refine aqs_unwanted rfl rfl (by first | rfl | assumption) ?_
          | refine aqs_skip rfl rfl ?_
          | refine aqs_part rfl rfl (fun hg => ?_) (fun hg => ?_) <;> (try (have hw := hg; simp only [Bool.not_eq_true', Bool.not_eq_false', Bool.not_true, Bool.not_false, decide_eq_true_eq, decide_eq_false_iff_not, Int.not_lt, Int.not_le, Bool.or_eq_true, Bool.or_eq_false_iff, Bool.and_eq_true, Bool.and_eq_false_iff, not_true, not_false_eq_true, ne_eq, Decidable.not_not, reduceCtorEq] at hw)) <;> (try (exfalso; omega))
        | (with_reducible refine is_aw ?_); first
          | refine aw_rs tabOk (fun _ => false) _ rfl rfl ?_
          | refine aw_quiet rfl tabOk (fun _ => false) _ rfl rfl (by decide +kernel) ?_
          | refine aw_quiet_end rfl tabOk (fun _ => false) _ rfl rfl (by decide +kernel) ?_
          | refine aw_region tabOk (fun _ => false) _ rfl rfl ?_
          | refine aw_ret ?_
          | refine aw_skip ?_
          | refine aw_exit ?_
          | refine aw_block ?_
          | refine aw_label ?_
          | refine aw_cond_t rfl (by first | rfl | assumption) ?_
          | refine aw_cond_f rfl (by first | rfl | assumption) ?_
          | refine aw_cond rfl (fun hg => ?_) (fun hg => ?_) <;> (try (have hw := hg; simp only [Bool.not_eq_true', Bool.not_eq_false', Bool.not_true, Bool.not_false, decide_eq_true_eq, decide_eq_false_iff_not, Int.not_lt, Int.not_le, Bool.or_eq_true, Bool.or_eq_false_iff, Bool.and_eq_true, Bool.and_eq_false_iff, not_true, not_false_eq_true, ne_eq, Decidable.not_not, reduceCtorEq] at hw)) <;> (try (exfalso; omega))
          | refine aw_seq fun K hK => ?_
        | (with_reducible refine aPick_t ?_ ?_); first | rfl | assumption
        | (with_reducible refine aPick_f ?_ ?_); first | rfl | assumption
        | (with_reducible refine h1 _ _ ?_); clear h1 K1
        | (with_reducible refine hK _ _ ?_); clear hK K
        | with_reducible refine k_use (by assumption) _ _ ?_
        | with_reducible refine k1_use (by assumption) _ _ ?_
        | (with_reducible refine is_call ?_); first
          | refine c_join _ _ _ ?_
          | refine c_sMayGo _ _ ?_
        | (with_reducible refine is_store ?_); first
          | refine own_storeW 1 (by assumption) (by rfl) rfl (by rfl) (by rfl) (by rfl) (by rfl) (fun σ' k => ?_)
          | refine own_storeW 2 (by assumption) (by rfl) rfl (by rfl) (by rfl) (by rfl) (by rfl) (fun σ' k => ?_)
          | refine own_storeW 3 (by assumption) (by rfl) rfl (by rfl) (by rfl) (by rfl) (by rfl) (fun σ' k => ?_)
          | refine own_storeM (f := i64) 0 (by assumption) (by rfl) (by simp [cntOf_len] <;> omega) (fun _ => rfl) rfl rfl (fun σ' k => ?_)
          | simp only [f15, f16, f18, f19, f21, f22, f23, hset, hJ, hM, aStore, go_sem, ↓reduceIte]
        | (with_reducible refine is_load ?_); first
          | refine own_loadM (f := i64) (0 : Int) 0 (by assumption) (by rfl) (by simp [cntOf_len] <;> omega) (fun _ => rfl) rfl rfl rfl ?_
          | simp only [f15, f16, f18, f19, f21, f22, f23, hset, hJ, hM, aLoad, go_sem, ↓reduceIte]
        | (with_reducible refine is_alloc ?_); first
          | refine own_alloc (by assumption) rfl ⟨by decide, rfl, rfl⟩ (fun σ' o k => ?_)
          | simp only [f15, f16, f18, f19, f21, f22, f23, hset, hJ, hM, aAlloc, go_sem, ↓reduceIte]
        | (with_reducible refine is_box ?_); first
          | simp only [f15, f16, f18, f19, f21, f22, f23, hset, hJ, hM, aBox, go_sem, ↓reduceIte]
        | (with_reducible refine is_make ?_); first
          | simp only [f15, f16, f18, f19, f21, f22, f23, hset, hJ, hM, aMake, go_sem, ↓reduceIte]
        | (with_reducible refine is_bslice ?_); first
          | simp only [f15, f16, f18, f19, f21, f22, f23, hset, hJ, hM, aBuildSlice, go_sem, ↓reduceIte]
        | (with_reducible refine is_conv ?_); first
          | simp only [f15, f16, f18, f19, f21, f22, f23, hset, hJ, hM, aConvS, go_sem, ↓reduceIte]
        | (with_reducible refine is_append ?_); first
          | refine Grow.append (by (first | assumption | exact Grow.setNew (by assumption) _ _ | exact Grow.push (by assumption) _ | exact Grow.setNew (Grow.setNew (by assumption) _ _) _ _ | exact Grow.push (Grow.setNew (by assumption) _ _) _)) rfl rfl ⟨rfl, rfl, by decide, rfl⟩ ?_ ?_ ?_ (fun x' σ' hG => ?_)
          | simp only [f15, f16, f18, f19, f21, f22, f23, hset, hJ, hM, aAppend, go_sem, ↓reduceIte]
        | (with_reducible refine is_len ?_); first
          | refine Grow.len (by (first | assumption | exact Grow.setNew (by assumption) _ _ | exact Grow.push (by assumption) _ | exact Grow.setNew (Grow.setNew (by assumption) _ _) _ _ | exact Grow.push (Grow.setNew (by assumption) _ _) _)) rfl rfl ?_
          | simp only [f15, f16, f18, f19, f21, f22, f23, hset, hJ, hM, aLen, go_sem, ↓reduceIte]
        | (with_reducible refine is_all ?_); rfl
        | with_reducible exact ⟨rfl, rfl⟩
        | with_reducible exact rfl
        | (with_reducible refine And.intro ?_ ?_); · (first | assumption | exact own_slob 0 (by assumption) (by rfl) | exact Own.at 1 (by assumption) (by rfl) | exact Own.at 2 (by assumption) (by rfl) | exact Own.at 3 (by assumption) (by rfl) | exact St.push_same _ _ | exact St.set_same _ _ _ | (repeat (first | refine obj_push (by first | omega | (simp only [push_next, set_next]; omega)) ?_ | refine obj_set (by first | omega | (simp only [push_next, set_next]; omega)) ?_)); (first | exact St.push_same _ _ | exact St.set_same _ _ _ | assumption) | omega | (simp only [push_objs, push_next, set_objs, set_next, ↓reduceIte]; done) | (simp only [push_objs, push_next, set_objs, set_next, ↓reduceIte]; omega) | rfl | (refine And.intro ?_ ?_ <;> (simp only [push_objs, push_next, set_objs, set_next, ↓reduceIte]; done)))
        | (with_reducible apply ex_and); · (first | assumption | exact own_slob 0 (by assumption) (by rfl) | exact Own.at 1 (by assumption) (by rfl) | exact Own.at 2 (by assumption) (by rfl) | exact Own.at 3 (by assumption) (by rfl) | exact St.push_same _ _ | exact St.set_same _ _ _ | (repeat (first | refine obj_push (by first | omega | (simp only [push_next, set_next]; omega)) ?_ | refine obj_set (by first | omega | (simp only [push_next, set_next]; omega)) ?_)); (first | exact St.push_same _ _ | exact St.set_same _ _ _ | assumption) | omega | (simp only [push_objs, push_next, set_objs, set_next, ↓reduceIte]; done) | (simp only [push_objs, push_next, set_objs, set_next, ↓reduceIte]; omega) | rfl | (refine And.intro ?_ ?_ <;> (simp only [push_objs, push_next, set_objs, set_next, ↓reduceIte]; done)))
        | simp (disch := omega) only [tdivE, tmodE, tdivN, tmodN, wrapI, wrapU8]
        | simp only [f15, f16, f18, f19, f21, f22, f23, hset, hJ, hM, go_sem, ↓reduceIte]
        | (refine is_prop ?_; omega)
      all_goals exact hQ _ _ (by have k' := k.head rfl; rw [cntOf_pair hab1 hb] at k'; exact k') (by simp [Env.upd, f15]) (by simp [Env.upd, f16]) (by simp [Env.upd, f18]) (by simp [Env.upd, f19]) (by simp [Env.upd, f21]) (by simp [Env.upd, f22, hv]) (by simp [Env.upd, f23])
    | true =>
      have hv : gVal lv2 (gWith (gAt gl2 a) (gAt gl2 b) (gAt gl2 a).id) = (gWith (gAt gl2 a) (gAt gl2 b) (gAt gl2 a).id).pe := by unfold gVal; rw [hW, hG]; rfl
      have hM : gMay (gWith (gAt gl2 a) (gAt gl2 b) (gAt gl2 a).id) lv2 = true := by unfold gMay; rw [hW, hlv2, hG]; rfl
      repeat' first
        | (with_reducible refine is_ops ?_); first
          | refine aops_nil ?_
          | refine aops_cons rfl fun K1 h1 => ?_
          | refine aops_wanted rfl rfl (by first | rfl | assumption) fun K1 h1 => ?_
          | refine aops_unwanted rfl rfl (by first | rfl | assumption) ?_
          | refine aops_skip rfl rfl ?_
          | refine aops_guard rfl rfl (fun hg K1 h1 => ?_) (fun hg => ?_) <;> (try (have hw := hg; simp only [Bool.not_eq_true', Bool.not_eq_false', Bool.not_true, Bool.not_false, decide_eq_true_eq, decide_eq_false_iff_not, Int.not_lt, Int.not_le, Bool.or_eq_true, Bool.or_eq_false_iff, Bool.and_eq_true, Bool.and_eq_false_iff, not_true, not_false_eq_true, ne_eq, Decidable.not_not, reduceCtorEq] at hw)) <;> (try (exfalso; omega))
        | (with_reducible refine is_qs ?_); first
          | refine aqs_nil ?_
          | refine aqs_cons (v := ?_) rfl ?_ ?_
          | refine aqs_wanted (v := ?_) rfl rfl (by first | rfl | assumption) ?_ ?_
          | refine aqs_unwanted rfl rfl (by first | rfl | assumption) ?_
          | refine aqs_skip rfl rfl ?_
          | refine aqs_part rfl rfl (fun hg => ?_) (fun hg => ?_) <;> (try (have hw := hg; simp only [Bool.not_eq_true', Bool.not_eq_false', Bool.not_true, Bool.not_false, decide_eq_true_eq, decide_eq_false_iff_not, Int.not_lt, Int.not_le, Bool.or_eq_true, Bool.or_eq_false_iff, Bool.and_eq_true, Bool.and_eq_false_iff, not_true, not_false_eq_true, ne_eq, Decidable.not_not, reduceCtorEq] at hw)) <;> (try (exfalso; omega))
        | (with_reducible refine is_aw ?_); first
          | refine aw_rs tabOk (fun _ => false) _ rfl rfl ?_
          | refine aw_quiet rfl tabOk (fun _ => false) _ rfl rfl (by decide +kernel) ?_
          | refine aw_quiet_end rfl tabOk (fun _ => false) _ rfl rfl (by decide +kernel) ?_
          | refine aw_region tabOk (fun _ => false) _ rfl rfl ?_
          | refine aw_ret ?_
          | refine aw_skip ?_
          | refine aw_exit ?_
          | refine aw_block ?_
          | refine aw_label ?_
          | refine aw_cond_t rfl (by first | rfl | assumption) ?_
          | refine aw_cond_f rfl (by first | rfl | assumption) ?_
          | refine aw_cond rfl (fun hg => ?_) (fun hg => ?_) <;> (try (have hw := hg; simp only [Bool.not_eq_true', Bool.not_eq_false', Bool.not_true, Bool.not_false, decide_eq_true_eq, decide_eq_false_iff_not, Int.not_lt, Int.not_le, Bool.or_eq_true, Bool.or_eq_false_iff, Bool.and_eq_true, Bool.and_eq_false_iff, not_true, not_false_eq_true, ne_eq, Decidable.not_not, reduceCtorEq] at hw)) <;> (try (exfalso; omega))
          | refine aw_seq fun K hK => ?_
        | (with_reducible refine aPick_t ?_ ?_); first | rfl | assumption
        | (with_reducible refine aPick_f ?_ ?_); first | rfl | assumption
        | (with_reducible refine h1 _ _ ?_); clear h1 K1
        | (with_reducible refine hK _ _ ?_); clear hK K
        | with_reducible refine k_use (by assumption) _ _ ?_
        | with_reducible refine k1_use (by assumption) _ _ ?_
        | (with_reducible refine is_call ?_); first
          | refine c_join _ _ _ ?_
          | refine c_sMayGo _ _ ?_
        | (with_reducible refine is_store ?_); first
          | refine own_storeW 1 (by assumption) (by rfl) rfl (by rfl) (by rfl) (by rfl) (by rfl) (fun σ' k => ?_)
          | refine own_storeW 2 (by assumption) (by rfl) rfl (by rfl) (by rfl) (by rfl) (by rfl) (fun σ' k => ?_)
          | refine own_storeW 3 (by assumption) (by rfl) rfl (by rfl) (by rfl) (by rfl) (by rfl) (fun σ' k => ?_)
          | refine own_storeM (f := i64) 0 (by assumption) (by rfl) (by simp [cntOf_len] <;> omega) (fun _ => rfl) rfl rfl (fun σ' k => ?_)
          | simp only [f15, f16, f18, f19, f21, f22, f23, hset, hJ, hM, aStore, go_sem, ↓reduceIte]
        | (with_reducible refine is_load ?_); first
          | refine own_loadM (f := i64) (0 : Int) 0 (by assumption) (by rfl) (by simp [cntOf_len] <;> omega) (fun _ => rfl) rfl rfl rfl ?_
          | simp only [f15, f16, f18, f19, f21, f22, f23, hset, hJ, hM, aLoad, go_sem, ↓reduceIte]
        | (with_reducible refine is_alloc ?_); first
          | refine own_alloc (by assumption) rfl ⟨by decide, rfl, rfl⟩ (fun σ' o k => ?_)
          | simp only [f15, f16, f18, f19, f21, f22, f23, hset, hJ, hM, aAlloc, go_sem, ↓reduceIte]
        | (with_reducible refine is_box ?_); first
          | simp only [f15, f16, f18, f19, f21, f22, f23, hset, hJ, hM, aBox, go_sem, ↓reduceIte]
        | (with_reducible refine is_make ?_); first
          | simp only [f15, f16, f18, f19, f21, f22, f23, hset, hJ, hM, aMake, go_sem, ↓reduceIte]
        | (with_reducible refine is_bslice ?_); first
          | simp only [f15, f16, f18, f19, f21, f22, f23, hset, hJ, hM, aBuildSlice, go_sem, ↓reduceIte]
        | (with_reducible refine is_conv ?_); first
          | simp only [f15, f16, f18, f19, f21, f22, f23, hset, hJ, hM, aConvS, go_sem, ↓reduceIte]
        | (with_reducible refine is_append ?_); first
          | refine Grow.append (by (first | assumption | exact Grow.setNew (by assumption) _ _ | exact Grow.push (by assumption) _ | exact Grow.setNew (Grow.setNew (by assumption) _ _) _ _ | exact Grow.push (Grow.setNew (by assumption) _ _) _)) rfl rfl ⟨rfl, rfl, by decide, rfl⟩ ?_ ?_ ?_ (fun x' σ' hG => ?_)
          | simp only [f15, f16, f18, f19, f21, f22, f23, hset, hJ, hM, aAppend, go_sem, ↓reduceIte]
        | (with_reducible refine is_len ?_); first
          | refine Grow.len (by (first | assumption | exact Grow.setNew (by assumption) _ _ | exact Grow.push (by assumption) _ | exact Grow.setNew (Grow.setNew (by assumption) _ _) _ _ | exact Grow.push (Grow.setNew (by assumption) _ _) _)) rfl rfl ?_
          | simp only [f15, f16, f18, f19, f21, f22, f23, hset, hJ, hM, aLen, go_sem, ↓reduceIte]
        | (with_reducible refine is_all ?_); rfl
        | with_reducible exact ⟨rfl, rfl⟩
        | with_reducible exact rfl
        | (with_reducible refine And.intro ?_ ?_); · (first | assumption | exact own_slob 0 (by assumption) (by rfl) | exact Own.at 1 (by assumption) (by rfl) | exact Own.at 2 (by assumption) (by rfl) | exact Own.at 3 (by assumption) (by rfl) | exact St.push_same _ _ | exact St.set_same _ _ _ | (repeat (first | refine obj_push (by first | omega | (simp only [push_next, set_next]; omega)) ?_ | refine obj_set (by first | omega | (simp only [push_next, set_next]; omega)) ?_)); (first | exact St.push_same _ _ | exact St.set_same _ _ _ | assumption) | omega | (simp only [push_objs, push_next, set_objs, set_next, ↓reduceIte]; done) | (simp only [push_objs, push_next, set_objs, set_next, ↓reduceIte]; omega) | rfl | (refine And.intro ?_ ?_ <;> (simp only [push_objs, push_next, set_objs, set_next, ↓reduceIte]; done)))
        | (with_reducible apply ex_and); · (first | assumption | exact own_slob 0 (by assumption) (by rfl) | exact Own.at 1 (by assumption) (by rfl) | exact Own.at 2 (by assumption) (by rfl) | exact Own.at 3 (by assumption) (by rfl) | exact St.push_same _ _ | exact St.set_same _ _ _ | (repeat (first | refine obj_push (by first | omega | (simp only [push_next, set_next]; omega)) ?_ | refine obj_set (by first | omega | (simp only [push_next, set_next]; omega)) ?_)); (first | exact St.push_same _ _ | exact St.set_same _ _ _ | assumption) | omega | (simp only [push_objs, push_next, set_objs, set_next, ↓reduceIte]; done) | (simp only [push_objs, push_next, set_objs, set_next, ↓reduceIte]; omega) | rfl | (refine And.intro ?_ ?_ <;> (simp only [push_objs, push_next, set_objs, set_next, ↓reduceIte]; done)))
        | simp (disch := omega) only [tdivE, tmodE, tdivN, tmodN, wrapI, wrapU8]
        | simp only [f15, f16, f18, f19, f21, f22, f23, hset, hJ, hM, go_sem, ↓reduceIte]
        | (refine is_prop ?_; omega)
      all_goals exact hQ _ _ (by have k' := k.head rfl; rw [cntOf_pair hab1 hb] at k'; exact k') (by simp [Env.upd, f15]) (by simp [Env.upd, f16]) (by simp [Env.upd, f18]) (by simp [Env.upd, f19]) (by simp [Env.upd, f21]) (by simp [Env.upd, f22, hv]) (by simp [Env.upd, f23])

end Go.Proofs.Ytamielbdedbnaaa
