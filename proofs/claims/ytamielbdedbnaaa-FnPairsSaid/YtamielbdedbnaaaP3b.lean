/- laws.FnPairs: a round of the first loop. -/
import Derived.Test.YtamielbdedbnaaaP3a
set_option linter.unusedSimpArgs false
set_option linter.unusedVariables false
set_option maxHeartbeats 8000000
namespace Go.Proofs.Ytamielbdedbnaaa
open Go.Ab Go.RowKit
theorem pairs_round1 {gl : List Grp} {lv : Int} {i : Nat} {e : Env} {τ : St} {x1 : AV} {Q : Exit → Env → St → Prop} (h1 : gsOk gl = true) (h2 : inR lv 1 5 = true) (hlt : i < gl.length) (g1 : e 1 = x1) (g5 : e 5 = gsAV false gl) (g6 : e 6 = i64 lv) (g7 : e 7 = .lst false 1 ((goIds gl lv gl.length).map str)) (g9 : e 9 = i64 i)
    (hQ : ∀ e' σ', σ' = τ → e' 1 = x1 → e' 5 = gsAV false gl → e' 6 = i64 lv → e' 7 = .lst false 1 ((goIds gl lv gl.length).map str) → e' 9 = i64 ((i + 1 : Nat) : Int) → Q .normal e' σ') :
    AW Try.prog 328 (subC [1, 1, 1, 1, 0, 1, 0, 1, 0, 0] (bodyOf Try.f3)) Q e τ := by
  have h8 := gsOk_len h1
  have hlv : 1 ≤ lv ∧ lv ≤ 5 := by simpa [inR] using h2
  have hx := map_at hlt
  have hin := inside_goes (lv := lv) h1 hlt
  have hok := gsOk_at h1 hlt
  have hmono := goes_mono (g := gAt gl i) h2
  have hmay : gMay (gAt gl i) lv = gGoes (gAt gl i) lv := by unfold gMay; rw [hok, h2]; rfl
  have hgd : gGoes (gAt gl i) lv = (decide (((lacksN (gAt gl i) 3).length : Int) = 0) && decide (need (gAt gl i).pe lv ≤ (gAt gl i).gu) && decide (lv ≤ (gAt gl i).sk)) := by unfold gGoes; rw [isEmpty_len]
  have hpe : inR (gAt gl i).pe 1 30 = true := by
    simp only [gOk, Bool.and_eq_true] at hok; exact hok.1.1.1.2
  have hil := Nat.le_trans (goIds_len gl lv gl.length) h8
  have hid : (goIds gl lv gl.length).length ≤ 1000000 := by omega
  cases hA : decide (((lacksN (gAt gl i) 3).length : Int) = 0) with
  | false =>
    have hgg : gGoes (gAt gl i) lv = false := by rw [hgd, hA]; rfl
    have hm1 : gMay (gAt gl i) (lv + 1) = false := by cases hq : gMay (gAt gl i) (lv + 1) with
      | false => rfl
      | true => have := hmono hq; rw [hgg] at this; cases this
    repeat' first
      | (with_reducible refine is_ops ?_); first
        | refine aops_nil ?_
        | refine aops_cons rfl fun K1 h1 => ?_
        | refine aops_wanted rfl rfl (by first | rfl | assumption) fun K1 h1 => ?_
        | refine aops_unwanted rfl rfl (by first | rfl | assumption) ?_
        | refine aops_skip rfl rfl ?_
        | refine aops_guard rfl rfl (fun hg K1 h1 => ?_) (fun hg => ?_) <;> (try (have hw := hg; simp only [Bool.not_eq_true', Bool.not_eq_false', Bool.not_true, Bool.not_false, decide_eq_true_eq, decide_eq_false_iff_not, Int.not_lt, Int.not_le, Bool.or_eq_true, Bool.or_eq_false_iff, Bool.and_eq_true, Bool.and_eq_false_iff, not_true, not_false_eq_true, ne_eq, Decidable.not_not, reduceCtorEq] at hw)) <;> (try (exfalso; omega))
      | (with_reducible refine is_qs ?_); first
        | refine aqs_nil ?_
        | refine aqs_cons (v := ?_) rfl ?_ ?_
        | refine aqs_wanted (v := ?_) rfl rfl (by first | rfl | assumption) ?_ ?_
        | refine aqs_unwanted rfl rfl (by first | rfl | assumption) ?_
        | refine aqs_skip rfl rfl ?_
        | refine aqs_part rfl rfl (fun hg => ?_) (fun hg => ?_) <;> (try (have hw := hg; simp only [Bool.not_eq_true', Bool.not_eq_false', Bool.not_true, Bool.not_false, decide_eq_true_eq, decide_eq_false_iff_not, Int.not_lt, Int.not_le, Bool.or_eq_true, Bool.or_eq_false_iff, Bool.and_eq_true, Bool.and_eq_false_iff, not_true, not_false_eq_true, ne_eq, Decidable.not_not, reduceCtorEq] at hw)) <;> (try (exfalso; omega))
      | (with_reducible refine is_aw ?_); first
        | refine aw_rs tabOk (fun _ => false) _ rfl rfl ?_
        | refine aw_quiet rfl tabOk (fun _ => false) _ rfl rfl (by decide +kernel) ?_
        | refine aw_quiet_end rfl tabOk (fun _ => false) _ rfl rfl (by decide +kernel) ?_
        | refine aw_region tabOk (fun _ => false) _ rfl rfl ?_
        | refine aw_ret ?_
        | refine aw_skip ?_
        | refine aw_exit ?_
        | refine aw_block ?_
        | refine aw_label ?_
        | refine aw_cond_t rfl (by first | rfl | assumption) ?_
        | refine aw_cond_f rfl (by first | rfl | assumption) ?_
        | refine aw_cond rfl (fun hg => ?_) (fun hg => ?_) <;> (try (have hw := hg; simp only [Bool.not_eq_true', Bool.not_eq_false', Bool.not_true, Bool.not_false, decide_eq_true_eq, decide_eq_false_iff_not, Int.not_lt, Int.not_le, Bool.or_eq_true, Bool.or_eq_false_iff, Bool.and_eq_true, Bool.and_eq_false_iff, not_true, not_false_eq_true, ne_eq, Decidable.not_not, reduceCtorEq] at hw)) <;> (try (exfalso; omega))
        | refine aw_seq fun K hK => ?_
      | (with_reducible refine aPick_t ?_ ?_); first | rfl | assumption
      | (with_reducible refine aPick_f ?_ ?_); first | rfl | assumption
      | (with_reducible refine h1 _ _ ?_); clear h1 K1
      | (with_reducible refine hK _ _ ?_); clear hK K
      | with_reducible refine k_use (by assumption) _ _ ?_
      | with_reducible refine k1_use (by assumption) _ _ ?_
      | (with_reducible refine is_call ?_); first
        | refine c_MayGo _ _ ?_
        | refine c_b10Inside _ _ _ hid ?_
        | refine c_NeededGuides _ _ ?_
        | refine c_GroupProblems _ ?_
      | (with_reducible refine is_store ?_); first
        | simp only [g1, g5, g6, g7, g9, hin, hmay, hgg, hm1, hok, hpe, h2, hA, aStore, go_sem, ↓reduceIte]
      | (with_reducible refine is_load ?_); first
        | simp only [g1, g5, g6, g7, g9, hin, hmay, hgg, hm1, hok, hpe, h2, hA, aLoad, go_sem, ↓reduceIte]
      | (with_reducible refine is_alloc ?_); first
        | simp only [g1, g5, g6, g7, g9, hin, hmay, hgg, hm1, hok, hpe, h2, hA, aAlloc, go_sem, ↓reduceIte]
      | (with_reducible refine is_box ?_); first
        | simp only [g1, g5, g6, g7, g9, hin, hmay, hgg, hm1, hok, hpe, h2, hA, aBox, go_sem, ↓reduceIte]
      | (with_reducible refine is_make ?_); first
        | simp only [g1, g5, g6, g7, g9, hin, hmay, hgg, hm1, hok, hpe, h2, hA, aMake, go_sem, ↓reduceIte]
      | (with_reducible refine is_bslice ?_); first
        | simp only [g1, g5, g6, g7, g9, hin, hmay, hgg, hm1, hok, hpe, h2, hA, aBuildSlice, go_sem, ↓reduceIte]
      | (with_reducible refine is_conv ?_); first
        | simp only [g1, g5, g6, g7, g9, hin, hmay, hgg, hm1, hok, hpe, h2, hA, aConvS, go_sem, ↓reduceIte]
      | (with_reducible refine is_append ?_); first
        | refine Grow.append (by (first | assumption | exact Grow.setNew (by assumption) _ _ | exact Grow.push (by assumption) _ | exact Grow.setNew (Grow.setNew (by assumption) _ _) _ _ | exact Grow.push (Grow.setNew (by assumption) _ _) _)) rfl rfl ⟨rfl, rfl, by decide, rfl⟩ ?_ ?_ ?_ (fun x' σ' hG => ?_)
        | simp only [g1, g5, g6, g7, g9, hin, hmay, hgg, hm1, hok, hpe, h2, hA, aAppend, go_sem, ↓reduceIte]
      | (with_reducible refine is_len ?_); first
        | refine Grow.len (by (first | assumption | exact Grow.setNew (by assumption) _ _ | exact Grow.push (by assumption) _ | exact Grow.setNew (Grow.setNew (by assumption) _ _) _ _ | exact Grow.push (Grow.setNew (by assumption) _ _) _)) rfl rfl ?_
        | simp only [g1, g5, g6, g7, g9, hin, hmay, hgg, hm1, hok, hpe, h2, hA, aLen, go_sem, ↓reduceIte]
      | (with_reducible refine is_all ?_); rfl
      | with_reducible exact ⟨rfl, rfl⟩
      | with_reducible exact rfl
      | (with_reducible refine And.intro ?_ ?_); · (first | assumption | exact St.push_same _ _ | exact St.set_same _ _ _ | (repeat (first | refine obj_push (by first | omega | (simp only [push_next, set_next]; omega)) ?_ | refine obj_set (by first | omega | (simp only [push_next, set_next]; omega)) ?_)); (first | exact St.push_same _ _ | exact St.set_same _ _ _ | assumption) | omega | (simp only [push_objs, push_next, set_objs, set_next, ↓reduceIte]; done) | (simp only [push_objs, push_next, set_objs, set_next, ↓reduceIte]; omega) | rfl | (refine And.intro ?_ ?_ <;> (simp only [push_objs, push_next, set_objs, set_next, ↓reduceIte]; done)))
      | (with_reducible apply ex_and); · (first | assumption | exact St.push_same _ _ | exact St.set_same _ _ _ | (repeat (first | refine obj_push (by first | omega | (simp only [push_next, set_next]; omega)) ?_ | refine obj_set (by first | omega | (simp only [push_next, set_next]; omega)) ?_)); (first | exact St.push_same _ _ | exact St.set_same _ _ _ | assumption) | omega | (simp only [push_objs, push_next, set_objs, set_next, ↓reduceIte]; done) | (simp only [push_objs, push_next, set_objs, set_next, ↓reduceIte]; omega) | rfl | (refine And.intro ?_ ?_ <;> (simp only [push_objs, push_next, set_objs, set_next, ↓reduceIte]; done)))
      | simp (disch := omega) only [tdivE, tmodE, tdivN, tmodN, wrapI, wrapU8]
      | simp only [g1, g5, g6, g7, g9, hin, hmay, hgg, hm1, hok, hpe, h2, hA, go_sem, ↓reduceIte]
      | (refine is_prop ?_; omega)
    all_goals exact hQ _ _ rfl (by simp [Env.upd, g1]) (by simp [Env.upd, g5]) (by simp [Env.upd, g6]) (by simp [Env.upd, g7]) (by simp [Env.upd])
  | true =>
    cases hB : decide (need (gAt gl i).pe lv ≤ (gAt gl i).gu) with
    | false =>
      have hgg : gGoes (gAt gl i) lv = false := by rw [hgd, hA, hB]; rfl
      have hm1 : gMay (gAt gl i) (lv + 1) = false := by cases hq : gMay (gAt gl i) (lv + 1) with
        | false => rfl
        | true => have := hmono hq; rw [hgg] at this; cases this
      repeat' first
        | (with_reducible refine is_ops ?_); first
          | refine aops_nil ?_
          | refine aops_cons rfl fun K1 h1 => ?_
          | refine aops_wanted rfl rfl (by first | rfl | assumption) fun K1 h1 => ?_
          | refine aops_unwanted rfl rfl (by first | rfl | assumption) ?_
          | refine aops_skip rfl rfl ?_
          | refine aops_guard rfl rfl (fun hg K1 h1 => ?_) (fun hg => ?_) <;> (try (have hw := hg; simp only [Bool.not_eq_true', Bool.not_eq_false', Bool.not_true, Bool.not_false, decide_eq_true_eq, decide_eq_false_iff_not, Int.not_lt, Int.not_le, Bool.or_eq_true, Bool.or_eq_false_iff, Bool.and_eq_true, Bool.and_eq_false_iff, not_true, not_false_eq_true, ne_eq, Decidable.not_not, reduceCtorEq] at hw)) <;> (try (exfalso; omega))
        | (with_reducible refine is_qs ?_); first
          | refine aqs_nil ?_
          | refine aqs_cons (v := ?_) rfl ?_ ?_
          | refine aqs_wanted (v := ?_) rfl rfl (by first | rfl | assumption) ?_ ?_
          | refine aqs_unwanted rfl rfl (by first | rfl | assumption) ?_
          | refine aqs_skip rfl rfl ?_
          | refine aqs_part rfl rfl (fun hg => ?_) (fun hg => ?_) <;> (try (have hw := hg; simp only [Bool.not_eq_true', Bool.not_eq_false', Bool.not_true, Bool.not_false, decide_eq_true_eq, decide_eq_false_iff_not, Int.not_lt, Int.not_le, Bool.or_eq_true, Bool.or_eq_false_iff, Bool.and_eq_true, Bool.and_eq_false_iff, not_true, not_false_eq_true, ne_eq, Decidable.not_not, reduceCtorEq] at hw)) <;> (try (exfalso; omega))
        | (with_reducible refine is_aw ?_); first
          | refine aw_rs tabOk (fun _ => false) _ rfl rfl ?_
          | refine aw_quiet rfl tabOk (fun _ => false) _ rfl rfl (by decide +kernel) ?_
          | refine aw_quiet_end rfl tabOk (fun _ => false) _ rfl rfl (by decide +kernel) ?_
          | refine aw_region tabOk (fun _ => false) _ rfl rfl ?_
          | refine aw_ret ?_
          | refine aw_skip ?_
          | refine aw_exit ?_
          | refine aw_block ?_
          | refine aw_label ?_
          | refine aw_cond_t rfl (by first | rfl | assumption) ?_
          | refine aw_cond_f rfl (by first | rfl | assumption) ?_
          | refine aw_cond rfl (fun hg => ?_) (fun hg => ?_) <;> (try (have hw := hg; simp only [Bool.not_eq_true', Bool.not_eq_false', Bool.not_true, Bool.not_false, decide_eq_true_eq, decide_eq_false_iff_not, Int.not_lt, Int.not_le, Bool.or_eq_true, Bool.or_eq_false_iff, Bool.and_eq_true, Bool.and_eq_false_iff, not_true, not_false_eq_true, ne_eq, Decidable.not_not, reduceCtorEq] at hw)) <;> (try (exfalso; omega))
          | refine aw_seq fun K hK => ?_
        | (with_reducible refine aPick_t ?_ ?_); first | rfl | assumption
        | (with_reducible refine aPick_f ?_ ?_); first | rfl | assumption
        | (with_reducible refine h1 _ _ ?_); clear h1 K1
        | (with_reducible refine hK _ _ ?_); clear hK K
        | with_reducible refine k_use (by assumption) _ _ ?_
        | with_reducible refine k1_use (by assumption) _ _ ?_
        | (with_reducible refine is_call ?_); first
          | refine c_MayGo _ _ ?_
          | refine c_b10Inside _ _ _ hid ?_
          | refine c_NeededGuides _ _ ?_
          | refine c_GroupProblems _ ?_
        | (with_reducible refine is_store ?_); first
          | simp only [g1, g5, g6, g7, g9, hin, hmay, hgg, hm1, hok, hpe, h2, hA, hB, aStore, go_sem, ↓reduceIte]
        | (with_reducible refine is_load ?_); first
          | simp only [g1, g5, g6, g7, g9, hin, hmay, hgg, hm1, hok, hpe, h2, hA, hB, aLoad, go_sem, ↓reduceIte]
        | (with_reducible refine is_alloc ?_); first
          | simp only [g1, g5, g6, g7, g9, hin, hmay, hgg, hm1, hok, hpe, h2, hA, hB, aAlloc, go_sem, ↓reduceIte]
        | (with_reducible refine is_box ?_); first
          | simp only [g1, g5, g6, g7, g9, hin, hmay, hgg, hm1, hok, hpe, h2, hA, hB, aBox, go_sem, ↓reduceIte]
        | (with_reducible refine is_make ?_); first
          | simp only [g1, g5, g6, g7, g9, hin, hmay, hgg, hm1, hok, hpe, h2, hA, hB, aMake, go_sem, ↓reduceIte]
        | (with_reducible refine is_bslice ?_); first
          | simp only [g1, g5, g6, g7, g9, hin, hmay, hgg, hm1, hok, hpe, h2, hA, hB, aBuildSlice, go_sem, ↓reduceIte]
        | (with_reducible refine is_conv ?_); first
          | simp only [g1, g5, g6, g7, g9, hin, hmay, hgg, hm1, hok, hpe, h2, hA, hB, aConvS, go_sem, ↓reduceIte]
        | (with_reducible refine is_append ?_); first
          | refine Grow.append (by (first | assumption | exact Grow.setNew (by assumption) _ _ | exact Grow.push (by assumption) _ | exact Grow.setNew (Grow.setNew (by assumption) _ _) _ _ | exact Grow.push (Grow.setNew (by assumption) _ _) _)) rfl rfl ⟨rfl, rfl, by decide, rfl⟩ ?_ ?_ ?_ (fun x' σ' hG => ?_)
          | simp only [g1, g5, g6, g7, g9, hin, hmay, hgg, hm1, hok, hpe, h2, hA, hB, aAppend, go_sem, ↓reduceIte]
        | (with_reducible refine is_len ?_); first
          | refine Grow.len (by (first | assumption | exact Grow.setNew (by assumption) _ _ | exact Grow.push (by assumption) _ | exact Grow.setNew (Grow.setNew (by assumption) _ _) _ _ | exact Grow.push (Grow.setNew (by assumption) _ _) _)) rfl rfl ?_
          | simp only [g1, g5, g6, g7, g9, hin, hmay, hgg, hm1, hok, hpe, h2, hA, hB, aLen, go_sem, ↓reduceIte]
        | (with_reducible refine is_all ?_); rfl
        | with_reducible exact ⟨rfl, rfl⟩
        | with_reducible exact rfl
        | (with_reducible refine And.intro ?_ ?_); · (first | assumption | exact St.push_same _ _ | exact St.set_same _ _ _ | (repeat (first | refine obj_push (by first | omega | (simp only [push_next, set_next]; omega)) ?_ | refine obj_set (by first | omega | (simp only [push_next, set_next]; omega)) ?_)); (first | exact St.push_same _ _ | exact St.set_same _ _ _ | assumption) | omega | (simp only [push_objs, push_next, set_objs, set_next, ↓reduceIte]; done) | (simp only [push_objs, push_next, set_objs, set_next, ↓reduceIte]; omega) | rfl | (refine And.intro ?_ ?_ <;> (simp only [push_objs, push_next, set_objs, set_next, ↓reduceIte]; done)))
        | (with_reducible apply ex_and); · (first | assumption | exact St.push_same _ _ | exact St.set_same _ _ _ | (repeat (first | refine obj_push (by first | omega | (simp only [push_next, set_next]; omega)) ?_ | refine obj_set (by first | omega | (simp only [push_next, set_next]; omega)) ?_)); (first | exact St.push_same _ _ | exact St.set_same _ _ _ | assumption) | omega | (simp only [push_objs, push_next, set_objs, set_next, ↓reduceIte]; done) | (simp only [push_objs, push_next, set_objs, set_next, ↓reduceIte]; omega) | rfl | (refine And.intro ?_ ?_ <;> (simp only [push_objs, push_next, set_objs, set_next, ↓reduceIte]; done)))
        | simp (disch := omega) only [tdivE, tmodE, tdivN, tmodN, wrapI, wrapU8]
        | simp only [g1, g5, g6, g7, g9, hin, hmay, hgg, hm1, hok, hpe, h2, hA, hB, go_sem, ↓reduceIte]
        | (refine is_prop ?_; omega)
      all_goals exact hQ _ _ rfl (by simp [Env.upd, g1]) (by simp [Env.upd, g5]) (by simp [Env.upd, g6]) (by simp [Env.upd, g7]) (by simp [Env.upd])
    | true =>
      cases hC : decide (lv ≤ (gAt gl i).sk) with
      | false =>
        have hgg : gGoes (gAt gl i) lv = false := by rw [hgd, hA, hB, hC]; rfl
        have hm1 : gMay (gAt gl i) (lv + 1) = false := by cases hq : gMay (gAt gl i) (lv + 1) with
          | false => rfl
          | true => have := hmono hq; rw [hgg] at this; cases this
        repeat' first
          | (with_reducible refine is_ops ?_); first
            | refine aops_nil ?_
            | refine aops_cons rfl fun K1 h1 => ?_
            | refine aops_wanted rfl rfl (by first | rfl | assumption) fun K1 h1 => ?_
            | refine aops_unwanted rfl rfl (by first | rfl | assumption) ?_
            | refine aops_skip rfl rfl ?_
            | refine aops_guard rfl rfl (fun hg K1 h1 => ?_) (fun hg => ?_) <;> (try (have hw := hg; simp only [Bool.not_eq_true', Bool.not_eq_false', Bool.not_true, Bool.not_false, decide_eq_true_eq, decide_eq_false_iff_not, Int.not_lt, Int.not_le, Bool.or_eq_true, Bool.or_eq_false_iff, Bool.and_eq_true, Bool.and_eq_false_iff, not_true, not_false_eq_true, ne_eq, Decidable.not_not, reduceCtorEq] at hw)) <;> (try (exfalso; omega))
          | (with_reducible refine is_qs ?_); first
            | refine aqs_nil ?_
            | refine aqs_cons (v := ?_) rfl ?_ ?_
            | refine aqs_wanted (v := ?_) rfl rfl (by first | rfl | assumption) ?_ ?_
            | refine aqs_unwanted rfl rfl (by first | rfl | assumption) ?_
            | refine aqs_skip rfl rfl ?_
            | refine aqs_part rfl rfl (fun hg => ?_) (fun hg => ?_) <;> (try (have hw := hg; simp only [Bool.not_eq_true', Bool.not_eq_false', Bool.not_true, Bool.not_false, decide_eq_true_eq, decide_eq_false_iff_not, Int.not_lt, Int.not_le, Bool.or_eq_true, Bool.or_eq_false_iff, Bool.and_eq_true, Bool.and_eq_false_iff, not_true, not_false_eq_true, ne_eq, Decidable.not_not, reduceCtorEq] at hw)) <;> (try (exfalso; omega))
          | (with_reducible refine is_aw ?_); first
            | refine aw_rs tabOk (fun _ => false) _ rfl rfl ?_
            | refine aw_quiet rfl tabOk (fun _ => false) _ rfl rfl (by decide +kernel) ?_
            | refine aw_quiet_end rfl tabOk (fun _ => false) _ rfl rfl (by decide +kernel) ?_
            | refine aw_region tabOk (fun _ => false) _ rfl rfl ?_
            | refine aw_ret ?_
            | refine aw_skip ?_
            | refine aw_exit ?_
            | refine aw_block ?_
            | refine aw_label ?_
            | refine aw_cond_t rfl (by first | rfl | assumption) ?_
            | refine aw_cond_f rfl (by first | rfl | assumption) ?_
            | refine aw_cond rfl (fun hg => ?_) (fun hg => ?_) <;> (try (have hw := hg; simp only [Bool.not_eq_true', Bool.not_eq_false', Bool.not_true, Bool.not_false, decide_eq_true_eq, decide_eq_false_iff_not, Int.not_lt, Int.not_le, Bool.or_eq_true, Bool.or_eq_false_iff, Bool.and_eq_true, Bool.and_eq_false_iff, not_true, not_false_eq_true, ne_eq, Decidable.not_not, reduceCtorEq] at hw)) <;> (try (exfalso; omega))
            | refine aw_seq fun K hK => ?_
          | (with_reducible refine aPick_t ?_ ?_); first | rfl | assumption
          | (with_reducible refine aPick_f ?_ ?_); first | rfl | assumption
          | (with_reducible refine h1 _ _ ?_); clear h1 K1
          | (with_reducible refine hK _ _ ?_); clear hK K
          | with_reducible refine k_use (by assumption) _ _ ?_
          | with_reducible refine k1_use (by assumption) _ _ ?_
          | (with_reducible refine is_call ?_); first
            | refine c_MayGo _ _ ?_
            | refine c_b10Inside _ _ _ hid ?_
            | refine c_NeededGuides _ _ ?_
            | refine c_GroupProblems _ ?_
          | (with_reducible refine is_store ?_); first
            | simp only [g1, g5, g6, g7, g9, hin, hmay, hgg, hm1, hok, hpe, h2, hA, hB, hC, aStore, go_sem, ↓reduceIte]
          | (with_reducible refine is_load ?_); first
            | simp only [g1, g5, g6, g7, g9, hin, hmay, hgg, hm1, hok, hpe, h2, hA, hB, hC, aLoad, go_sem, ↓reduceIte]
          | (with_reducible refine is_alloc ?_); first
            | simp only [g1, g5, g6, g7, g9, hin, hmay, hgg, hm1, hok, hpe, h2, hA, hB, hC, aAlloc, go_sem, ↓reduceIte]
          | (with_reducible refine is_box ?_); first
            | simp only [g1, g5, g6, g7, g9, hin, hmay, hgg, hm1, hok, hpe, h2, hA, hB, hC, aBox, go_sem, ↓reduceIte]
          | (with_reducible refine is_make ?_); first
            | simp only [g1, g5, g6, g7, g9, hin, hmay, hgg, hm1, hok, hpe, h2, hA, hB, hC, aMake, go_sem, ↓reduceIte]
          | (with_reducible refine is_bslice ?_); first
            | simp only [g1, g5, g6, g7, g9, hin, hmay, hgg, hm1, hok, hpe, h2, hA, hB, hC, aBuildSlice, go_sem, ↓reduceIte]
          | (with_reducible refine is_conv ?_); first
            | simp only [g1, g5, g6, g7, g9, hin, hmay, hgg, hm1, hok, hpe, h2, hA, hB, hC, aConvS, go_sem, ↓reduceIte]
          | (with_reducible refine is_append ?_); first
            | refine Grow.append (by (first | assumption | exact Grow.setNew (by assumption) _ _ | exact Grow.push (by assumption) _ | exact Grow.setNew (Grow.setNew (by assumption) _ _) _ _ | exact Grow.push (Grow.setNew (by assumption) _ _) _)) rfl rfl ⟨rfl, rfl, by decide, rfl⟩ ?_ ?_ ?_ (fun x' σ' hG => ?_)
            | simp only [g1, g5, g6, g7, g9, hin, hmay, hgg, hm1, hok, hpe, h2, hA, hB, hC, aAppend, go_sem, ↓reduceIte]
          | (with_reducible refine is_len ?_); first
            | refine Grow.len (by (first | assumption | exact Grow.setNew (by assumption) _ _ | exact Grow.push (by assumption) _ | exact Grow.setNew (Grow.setNew (by assumption) _ _) _ _ | exact Grow.push (Grow.setNew (by assumption) _ _) _)) rfl rfl ?_
            | simp only [g1, g5, g6, g7, g9, hin, hmay, hgg, hm1, hok, hpe, h2, hA, hB, hC, aLen, go_sem, ↓reduceIte]
          | (with_reducible refine is_all ?_); rfl
          | with_reducible exact ⟨rfl, rfl⟩
          | with_reducible exact rfl
          | (with_reducible refine And.intro ?_ ?_); · (first | assumption | exact St.push_same _ _ | exact St.set_same _ _ _ | (repeat (first | refine obj_push (by first | omega | (simp only [push_next, set_next]; omega)) ?_ | refine obj_set (by first | omega | (simp only [push_next, set_next]; omega)) ?_)); (first | exact St.push_same _ _ | exact St.set_same _ _ _ | assumption) | omega | (simp only [push_objs, push_next, set_objs, set_next, ↓reduceIte]; done) | (simp only [push_objs, push_next, set_objs, set_next, ↓reduceIte]; omega) | rfl | (refine And.intro ?_ ?_ <;> (simp only [push_objs, push_next, set_objs, set_next, ↓reduceIte]; done)))
          | (with_reducible apply ex_and); · (first | assumption | exact St.push_same _ _ | exact St.set_same _ _ _ | (repeat (first | refine obj_push (by first | omega | (simp only [push_next, set_next]; omega)) ?_ | refine obj_set (by first | omega | (simp only [push_next, set_next]; omega)) ?_)); (first | exact St.push_same _ _ | exact St.set_same _ _ _ | assumption) | omega | (simp only [push_objs, push_next, set_objs, set_next, ↓reduceIte]; done) | (simp only [push_objs, push_next, set_objs, set_next, ↓reduceIte]; omega) | rfl | (refine And.intro ?_ ?_ <;> (simp only [push_objs, push_next, set_objs, set_next, ↓reduceIte]; done)))
          | simp (disch := omega) only [tdivE, tmodE, tdivN, tmodN, wrapI, wrapU8]
          | simp only [g1, g5, g6, g7, g9, hin, hmay, hgg, hm1, hok, hpe, h2, hA, hB, hC, go_sem, ↓reduceIte]
          | (refine is_prop ?_; omega)
        all_goals exact hQ _ _ rfl (by simp [Env.upd, g1]) (by simp [Env.upd, g5]) (by simp [Env.upd, g6]) (by simp [Env.upd, g7]) (by simp [Env.upd])
      | true =>
        have hgg : gGoes (gAt gl i) lv = true := by rw [hgd, hA, hB, hC]; rfl
        repeat' first
          | (with_reducible refine is_ops ?_); first
            | refine aops_nil ?_
            | refine aops_cons rfl fun K1 h1 => ?_
            | refine aops_wanted rfl rfl (by first | rfl | assumption) fun K1 h1 => ?_
            | refine aops_unwanted rfl rfl (by first | rfl | assumption) ?_
            | refine aops_skip rfl rfl ?_
            | refine aops_guard rfl rfl (fun hg K1 h1 => ?_) (fun hg => ?_) <;> (try (have hw := hg; simp only [Bool.not_eq_true', Bool.not_eq_false', Bool.not_true, Bool.not_false, decide_eq_true_eq, decide_eq_false_iff_not, Int.not_lt, Int.not_le, Bool.or_eq_true, Bool.or_eq_false_iff, Bool.and_eq_true, Bool.and_eq_false_iff, not_true, not_false_eq_true, ne_eq, Decidable.not_not, reduceCtorEq] at hw)) <;> (try (exfalso; omega))
          | (with_reducible refine is_qs ?_); first
            | refine aqs_nil ?_
            | refine aqs_cons (v := ?_) rfl ?_ ?_
            | refine aqs_wanted (v := ?_) rfl rfl (by first | rfl | assumption) ?_ ?_
            | refine aqs_unwanted rfl rfl (by first | rfl | assumption) ?_
            | refine aqs_skip rfl rfl ?_
            | refine aqs_part rfl rfl (fun hg => ?_) (fun hg => ?_) <;> (try (have hw := hg; simp only [Bool.not_eq_true', Bool.not_eq_false', Bool.not_true, Bool.not_false, decide_eq_true_eq, decide_eq_false_iff_not, Int.not_lt, Int.not_le, Bool.or_eq_true, Bool.or_eq_false_iff, Bool.and_eq_true, Bool.and_eq_false_iff, not_true, not_false_eq_true, ne_eq, Decidable.not_not, reduceCtorEq] at hw)) <;> (try (exfalso; omega))
          | (with_reducible refine is_aw ?_); first
            | refine aw_rs tabOk (fun _ => false) _ rfl rfl ?_
            | refine aw_quiet rfl tabOk (fun _ => false) _ rfl rfl (by decide +kernel) ?_
            | refine aw_quiet_end rfl tabOk (fun _ => false) _ rfl rfl (by decide +kernel) ?_
            | refine aw_region tabOk (fun _ => false) _ rfl rfl ?_
            | refine aw_ret ?_
            | refine aw_skip ?_
            | refine aw_exit ?_
            | refine aw_block ?_
            | refine aw_label ?_
            | refine aw_cond_t rfl (by first | rfl | assumption) ?_
            | refine aw_cond_f rfl (by first | rfl | assumption) ?_
            | refine aw_cond rfl (fun hg => ?_) (fun hg => ?_) <;> (try (have hw := hg; simp only [Bool.not_eq_true', Bool.not_eq_false', Bool.not_true, Bool.not_false, decide_eq_true_eq, decide_eq_false_iff_not, Int.not_lt, Int.not_le, Bool.or_eq_true, Bool.or_eq_false_iff, Bool.and_eq_true, Bool.and_eq_false_iff, not_true, not_false_eq_true, ne_eq, Decidable.not_not, reduceCtorEq] at hw)) <;> (try (exfalso; omega))
            | refine aw_seq fun K hK => ?_
          | (with_reducible refine aPick_t ?_ ?_); first | rfl | assumption
          | (with_reducible refine aPick_f ?_ ?_); first | rfl | assumption
          | (with_reducible refine h1 _ _ ?_); clear h1 K1
          | (with_reducible refine hK _ _ ?_); clear hK K
          | with_reducible refine k_use (by assumption) _ _ ?_
          | with_reducible refine k1_use (by assumption) _ _ ?_
          | (with_reducible refine is_call ?_); first
            | refine c_MayGo _ _ ?_
            | refine c_b10Inside _ _ _ hid ?_
            | refine c_NeededGuides _ _ ?_
            | refine c_GroupProblems _ ?_
          | (with_reducible refine is_store ?_); first
            | simp only [g1, g5, g6, g7, g9, hin, hmay, hgg, hok, hpe, h2, hA, hB, hC, aStore, go_sem, ↓reduceIte]
          | (with_reducible refine is_load ?_); first
            | simp only [g1, g5, g6, g7, g9, hin, hmay, hgg, hok, hpe, h2, hA, hB, hC, aLoad, go_sem, ↓reduceIte]
          | (with_reducible refine is_alloc ?_); first
            | simp only [g1, g5, g6, g7, g9, hin, hmay, hgg, hok, hpe, h2, hA, hB, hC, aAlloc, go_sem, ↓reduceIte]
          | (with_reducible refine is_box ?_); first
            | simp only [g1, g5, g6, g7, g9, hin, hmay, hgg, hok, hpe, h2, hA, hB, hC, aBox, go_sem, ↓reduceIte]
          | (with_reducible refine is_make ?_); first
            | simp only [g1, g5, g6, g7, g9, hin, hmay, hgg, hok, hpe, h2, hA, hB, hC, aMake, go_sem, ↓reduceIte]
          | (with_reducible refine is_bslice ?_); first
            | simp only [g1, g5, g6, g7, g9, hin, hmay, hgg, hok, hpe, h2, hA, hB, hC, aBuildSlice, go_sem, ↓reduceIte]
          | (with_reducible refine is_conv ?_); first
            | simp only [g1, g5, g6, g7, g9, hin, hmay, hgg, hok, hpe, h2, hA, hB, hC, aConvS, go_sem, ↓reduceIte]
          | (with_reducible refine is_append ?_); first
            | refine Grow.append (by (first | assumption | exact Grow.setNew (by assumption) _ _ | exact Grow.push (by assumption) _ | exact Grow.setNew (Grow.setNew (by assumption) _ _) _ _ | exact Grow.push (Grow.setNew (by assumption) _ _) _)) rfl rfl ⟨rfl, rfl, by decide, rfl⟩ ?_ ?_ ?_ (fun x' σ' hG => ?_)
            | simp only [g1, g5, g6, g7, g9, hin, hmay, hgg, hok, hpe, h2, hA, hB, hC, aAppend, go_sem, ↓reduceIte]
          | (with_reducible refine is_len ?_); first
            | refine Grow.len (by (first | assumption | exact Grow.setNew (by assumption) _ _ | exact Grow.push (by assumption) _ | exact Grow.setNew (Grow.setNew (by assumption) _ _) _ _ | exact Grow.push (Grow.setNew (by assumption) _ _) _)) rfl rfl ?_
            | simp only [g1, g5, g6, g7, g9, hin, hmay, hgg, hok, hpe, h2, hA, hB, hC, aLen, go_sem, ↓reduceIte]
          | (with_reducible refine is_all ?_); rfl
          | with_reducible exact ⟨rfl, rfl⟩
          | with_reducible exact rfl
          | (with_reducible refine And.intro ?_ ?_); · (first | assumption | exact St.push_same _ _ | exact St.set_same _ _ _ | (repeat (first | refine obj_push (by first | omega | (simp only [push_next, set_next]; omega)) ?_ | refine obj_set (by first | omega | (simp only [push_next, set_next]; omega)) ?_)); (first | exact St.push_same _ _ | exact St.set_same _ _ _ | assumption) | omega | (simp only [push_objs, push_next, set_objs, set_next, ↓reduceIte]; done) | (simp only [push_objs, push_next, set_objs, set_next, ↓reduceIte]; omega) | rfl | (refine And.intro ?_ ?_ <;> (simp only [push_objs, push_next, set_objs, set_next, ↓reduceIte]; done)))
          | (with_reducible apply ex_and); · (first | assumption | exact St.push_same _ _ | exact St.set_same _ _ _ | (repeat (first | refine obj_push (by first | omega | (simp only [push_next, set_next]; omega)) ?_ | refine obj_set (by first | omega | (simp only [push_next, set_next]; omega)) ?_)); (first | exact St.push_same _ _ | exact St.set_same _ _ _ | assumption) | omega | (simp only [push_objs, push_next, set_objs, set_next, ↓reduceIte]; done) | (simp only [push_objs, push_next, set_objs, set_next, ↓reduceIte]; omega) | rfl | (refine And.intro ?_ ?_ <;> (simp only [push_objs, push_next, set_objs, set_next, ↓reduceIte]; done)))
          | simp (disch := omega) only [tdivE, tmodE, tdivN, tmodN, wrapI, wrapU8]
          | simp only [g1, g5, g6, g7, g9, hin, hmay, hgg, hok, hpe, h2, hA, hB, hC, go_sem, ↓reduceIte]
          | (refine is_prop ?_; omega)
        all_goals exact hQ _ _ rfl (by simp [Env.upd, g1]) (by simp [Env.upd, g5]) (by simp [Env.upd, g6]) (by simp [Env.upd, g7]) (by simp [Env.upd])

end Go.Proofs.Ytamielbdedbnaaa
