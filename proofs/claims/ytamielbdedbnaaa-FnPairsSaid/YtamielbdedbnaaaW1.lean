/- First functions: bounds, names, groups. -/
import Derived.Test.YtamielbdedbnaaaT
set_option linter.unusedSimpArgs false
set_option linter.unusedVariables false
namespace Go.Proofs.Ytamielbdedbnaaa
open Go.Ab Go.RowKit
variable {σ : St} {Q : AV → St → Prop}

/-- impl.within -/
def inR (a lo hi : Int) : Bool := decide (lo ≤ a ∧ a ≤ hi)
theorem c_within (a lo hi : Int) (hQ : Q (bl (inR a lo hi)) σ) : ACall Try.prog 31 [i64 a, i64 lo, i64 hi] σ Q := by
  refine acall_intro (N := 15) (rs := [.tmp 6]) T tabOk Try.func31 (by decide +kernel) rfl Try.ntmps31 Try.results31 (by simp) ?_
  repeat' first
    | (with_reducible refine is_ops ?_); first
      | refine aops_nil ?_
      | refine aops_cons rfl fun K1 h1 => ?_
      | refine aops_wanted rfl rfl (by first | rfl | assumption) fun K1 h1 => ?_
      | refine aops_unwanted rfl rfl (by first | rfl | assumption) ?_
      | refine aops_skip rfl rfl ?_
      | refine aops_guard rfl rfl (fun hg K1 h1 => ?_) (fun hg => ?_) <;> (try (have hw := hg; simp only [Bool.not_eq_true', Bool.not_eq_false', Bool.not_true, Bool.not_false, decide_eq_true_eq, decide_eq_false_iff_not, Int.not_lt, Int.not_le, Bool.or_eq_true, Bool.or_eq_false_iff, Bool.and_eq_true, Bool.and_eq_false_iff, not_true, not_false_eq_true, ne_eq, Decidable.not_not, reduceCtorEq] at hw)) <;> (try (exfalso; omega))
    | (with_reducible refine is_qs ?_); first
      | refine aqs_nil ?_
      | refine aqs_cons (v := ?_) rfl ?_ ?_
      | refine aqs_wanted (v := ?_) rfl rfl (by first | rfl | assumption) ?_ ?_
      | refine aqs_unwanted rfl rfl (by first | rfl | assumption) ?_
      | refine aqs_skip rfl rfl ?_
      | refine aqs_part rfl rfl (fun hg => ?_) (fun hg => ?_) <;> (try (have hw := hg; simp only [Bool.not_eq_true', Bool.not_eq_false', Bool.not_true, Bool.not_false, decide_eq_true_eq, decide_eq_false_iff_not, Int.not_lt, Int.not_le, Bool.or_eq_true, Bool.or_eq_false_iff, Bool.and_eq_true, Bool.and_eq_false_iff, not_true, not_false_eq_true, ne_eq, Decidable.not_not, reduceCtorEq] at hw)) <;> (try (exfalso; omega))
    | (with_reducible refine is_aw ?_); first
      | refine aw_rs tabOk (fun _ => false) _ rfl rfl ?_
      | refine aw_quiet rfl tabOk (fun _ => false) _ rfl rfl (by decide +kernel) ?_
      | refine aw_quiet_end rfl tabOk (fun _ => false) _ rfl rfl (by decide +kernel) ?_
      | refine aw_region tabOk (fun _ => false) _ rfl rfl ?_
      | refine aw_ret ?_
      | refine aw_skip ?_
      | refine aw_exit ?_
      | refine aw_block ?_
      | refine aw_label ?_
      | refine aw_cond_t rfl (by first | rfl | assumption) ?_
      | refine aw_cond_f rfl (by first | rfl | assumption) ?_
      | refine aw_cond rfl (fun hg => ?_) (fun hg => ?_) <;> (try (have hw := hg; simp only [Bool.not_eq_true', Bool.not_eq_false', Bool.not_true, Bool.not_false, decide_eq_true_eq, decide_eq_false_iff_not, Int.not_lt, Int.not_le, Bool.or_eq_true, Bool.or_eq_false_iff, Bool.and_eq_true, Bool.and_eq_false_iff, not_true, not_false_eq_true, ne_eq, Decidable.not_not, reduceCtorEq] at hw)) <;> (try (exfalso; omega))
      | refine aw_seq fun K hK => ?_
    | (with_reducible refine aPick_t ?_ ?_); first | rfl | assumption
    | (with_reducible refine aPick_f ?_ ?_); first | rfl | assumption
    | (with_reducible refine h1 _ _ ?_); clear h1 K1
    | (with_reducible refine hK _ _ ?_); clear hK K
    | with_reducible refine k_use (by assumption) _ _ ?_
    | with_reducible refine k1_use (by assumption) _ _ ?_
    | (with_reducible refine is_store ?_); first
      | simp only [aStore, go_sem, ↓reduceIte]
    | (with_reducible refine is_load ?_); first
      | simp only [aLoad, go_sem, ↓reduceIte]
    | (with_reducible refine is_alloc ?_); first
      | simp only [aAlloc, go_sem, ↓reduceIte]
    | (with_reducible refine is_box ?_); first
      | simp only [aBox, go_sem, ↓reduceIte]
    | (with_reducible refine is_make ?_); first
      | simp only [aMake, go_sem, ↓reduceIte]
    | (with_reducible refine is_bslice ?_); first
      | simp only [aBuildSlice, go_sem, ↓reduceIte]
    | (with_reducible refine is_conv ?_); first
      | simp only [aConvS, go_sem, ↓reduceIte]
    | (with_reducible refine is_append ?_); first
      | refine Grow.append (by (first | assumption | exact Grow.setNew (by assumption) _ _ | exact Grow.push (by assumption) _ | exact Grow.setNew (Grow.setNew (by assumption) _ _) _ _ | exact Grow.push (Grow.setNew (by assumption) _ _) _)) rfl rfl ⟨rfl, rfl, by decide, rfl⟩ ?_ ?_ ?_ (fun x' σ' hG => ?_)
      | simp only [aAppend, go_sem, ↓reduceIte]
    | (with_reducible refine is_len ?_); first
      | refine Grow.len (by (first | assumption | exact Grow.setNew (by assumption) _ _ | exact Grow.push (by assumption) _ | exact Grow.setNew (Grow.setNew (by assumption) _ _) _ _ | exact Grow.push (Grow.setNew (by assumption) _ _) _)) rfl rfl ?_
      | simp only [aLen, go_sem, ↓reduceIte]
    | (with_reducible refine is_all ?_); rfl
    | with_reducible exact ⟨rfl, rfl⟩
    | with_reducible exact rfl
    | (with_reducible refine And.intro ?_ ?_); · (first | assumption | exact St.push_same _ _ | exact St.set_same _ _ _ | (repeat (first | refine obj_push (by first | omega | (simp only [push_next, set_next]; omega)) ?_ | refine obj_set (by first | omega | (simp only [push_next, set_next]; omega)) ?_)); (first | exact St.push_same _ _ | exact St.set_same _ _ _ | assumption) | omega | (simp only [push_objs, push_next, set_objs, set_next, ↓reduceIte]; done) | (simp only [push_objs, push_next, set_objs, set_next, ↓reduceIte]; omega) | rfl | (refine And.intro ?_ ?_ <;> (simp only [push_objs, push_next, set_objs, set_next, ↓reduceIte]; done)))
    | (with_reducible apply ex_and); · (first | assumption | exact St.push_same _ _ | exact St.set_same _ _ _ | (repeat (first | refine obj_push (by first | omega | (simp only [push_next, set_next]; omega)) ?_ | refine obj_set (by first | omega | (simp only [push_next, set_next]; omega)) ?_)); (first | exact St.push_same _ _ | exact St.set_same _ _ _ | assumption) | omega | (simp only [push_objs, push_next, set_objs, set_next, ↓reduceIte]; done) | (simp only [push_objs, push_next, set_objs, set_next, ↓reduceIte]; omega) | rfl | (refine And.intro ?_ ?_ <;> (simp only [push_objs, push_next, set_objs, set_next, ↓reduceIte]; done)))
    | simp (disch := omega) only [tdivE, tmodE, tdivN, tmodN, wrapI, wrapU8]
    | simp only [go_sem, ↓reduceIte]
    | (refine is_prop ?_; omega)
  all_goals (unfold inR at hQ; simp_all)

/-- spec.l00In -/
theorem c_l00In (a lo hi : Int) (hQ : Q (bl (inR a lo hi)) σ) : ACall Try.prog 66 [i64 a, i64 lo, i64 hi] σ Q := by
  refine acall_intro (N := 15) (rs := [.tmp 6]) T tabOk Try.func66 (by decide +kernel) rfl Try.ntmps66 Try.results66 (by simp) ?_
  repeat' first
    | (with_reducible refine is_ops ?_); first
      | refine aops_nil ?_
      | refine aops_cons rfl fun K1 h1 => ?_
      | refine aops_wanted rfl rfl (by first | rfl | assumption) fun K1 h1 => ?_
      | refine aops_unwanted rfl rfl (by first | rfl | assumption) ?_
      | refine aops_skip rfl rfl ?_
      | refine aops_guard rfl rfl (fun hg K1 h1 => ?_) (fun hg => ?_) <;> (try (have hw := hg; simp only [Bool.not_eq_true', Bool.not_eq_false', Bool.not_true, Bool.not_false, decide_eq_true_eq, decide_eq_false_iff_not, Int.not_lt, Int.not_le, Bool.or_eq_true, Bool.or_eq_false_iff, Bool.and_eq_true, Bool.and_eq_false_iff, not_true, not_false_eq_true, ne_eq, Decidable.not_not, reduceCtorEq] at hw)) <;> (try (exfalso; omega))
    | (with_reducible refine is_qs ?_); first
      | refine aqs_nil ?_
      | refine aqs_cons (v := ?_) rfl ?_ ?_
      | refine aqs_wanted (v := ?_) rfl rfl (by first | rfl | assumption) ?_ ?_
      | refine aqs_unwanted rfl rfl (by first | rfl | assumption) ?_
      | refine aqs_skip rfl rfl ?_
      | refine aqs_part rfl rfl (fun hg => ?_) (fun hg => ?_) <;> (try (have hw := hg; simp only [Bool.not_eq_true', Bool.not_eq_false', Bool.not_true, Bool.not_false, decide_eq_true_eq, decide_eq_false_iff_not, Int.not_lt, Int.not_le, Bool.or_eq_true, Bool.or_eq_false_iff, Bool.and_eq_true, Bool.and_eq_false_iff, not_true, not_false_eq_true, ne_eq, Decidable.not_not, reduceCtorEq] at hw)) <;> (try (exfalso; omega))
    | (with_reducible refine is_aw ?_); first
      | refine aw_rs tabOk (fun _ => false) _ rfl rfl ?_
      | refine aw_quiet rfl tabOk (fun _ => false) _ rfl rfl (by decide +kernel) ?_
      | refine aw_quiet_end rfl tabOk (fun _ => false) _ rfl rfl (by decide +kernel) ?_
      | refine aw_region tabOk (fun _ => false) _ rfl rfl ?_
      | refine aw_ret ?_
      | refine aw_skip ?_
      | refine aw_exit ?_
      | refine aw_block ?_
      | refine aw_label ?_
      | refine aw_cond_t rfl (by first | rfl | assumption) ?_
      | refine aw_cond_f rfl (by first | rfl | assumption) ?_
      | refine aw_cond rfl (fun hg => ?_) (fun hg => ?_) <;> (try (have hw := hg; simp only [Bool.not_eq_true', Bool.not_eq_false', Bool.not_true, Bool.not_false, decide_eq_true_eq, decide_eq_false_iff_not, Int.not_lt, Int.not_le, Bool.or_eq_true, Bool.or_eq_false_iff, Bool.and_eq_true, Bool.and_eq_false_iff, not_true, not_false_eq_true, ne_eq, Decidable.not_not, reduceCtorEq] at hw)) <;> (try (exfalso; omega))
      | refine aw_seq fun K hK => ?_
    | (with_reducible refine aPick_t ?_ ?_); first | rfl | assumption
    | (with_reducible refine aPick_f ?_ ?_); first | rfl | assumption
    | (with_reducible refine h1 _ _ ?_); clear h1 K1
    | (with_reducible refine hK _ _ ?_); clear hK K
    | with_reducible refine k_use (by assumption) _ _ ?_
    | with_reducible refine k1_use (by assumption) _ _ ?_
    | (with_reducible refine is_store ?_); first
      | simp only [aStore, go_sem, ↓reduceIte]
    | (with_reducible refine is_load ?_); first
      | simp only [aLoad, go_sem, ↓reduceIte]
    | (with_reducible refine is_alloc ?_); first
      | simp only [aAlloc, go_sem, ↓reduceIte]
    | (with_reducible refine is_box ?_); first
      | simp only [aBox, go_sem, ↓reduceIte]
    | (with_reducible refine is_make ?_); first
      | simp only [aMake, go_sem, ↓reduceIte]
    | (with_reducible refine is_bslice ?_); first
      | simp only [aBuildSlice, go_sem, ↓reduceIte]
    | (with_reducible refine is_conv ?_); first
      | simp only [aConvS, go_sem, ↓reduceIte]
    | (with_reducible refine is_append ?_); first
      | refine Grow.append (by (first | assumption | exact Grow.setNew (by assumption) _ _ | exact Grow.push (by assumption) _ | exact Grow.setNew (Grow.setNew (by assumption) _ _) _ _ | exact Grow.push (Grow.setNew (by assumption) _ _) _)) rfl rfl ⟨rfl, rfl, by decide, rfl⟩ ?_ ?_ ?_ (fun x' σ' hG => ?_)
      | simp only [aAppend, go_sem, ↓reduceIte]
    | (with_reducible refine is_len ?_); first
      | refine Grow.len (by (first | assumption | exact Grow.setNew (by assumption) _ _ | exact Grow.push (by assumption) _ | exact Grow.setNew (Grow.setNew (by assumption) _ _) _ _ | exact Grow.push (Grow.setNew (by assumption) _ _) _)) rfl rfl ?_
      | simp only [aLen, go_sem, ↓reduceIte]
    | (with_reducible refine is_all ?_); rfl
    | with_reducible exact ⟨rfl, rfl⟩
    | with_reducible exact rfl
    | (with_reducible refine And.intro ?_ ?_); · (first | assumption | exact St.push_same _ _ | exact St.set_same _ _ _ | (repeat (first | refine obj_push (by first | omega | (simp only [push_next, set_next]; omega)) ?_ | refine obj_set (by first | omega | (simp only [push_next, set_next]; omega)) ?_)); (first | exact St.push_same _ _ | exact St.set_same _ _ _ | assumption) | omega | (simp only [push_objs, push_next, set_objs, set_next, ↓reduceIte]; done) | (simp only [push_objs, push_next, set_objs, set_next, ↓reduceIte]; omega) | rfl | (refine And.intro ?_ ?_ <;> (simp only [push_objs, push_next, set_objs, set_next, ↓reduceIte]; done)))
    | (with_reducible apply ex_and); · (first | assumption | exact St.push_same _ _ | exact St.set_same _ _ _ | (repeat (first | refine obj_push (by first | omega | (simp only [push_next, set_next]; omega)) ?_ | refine obj_set (by first | omega | (simp only [push_next, set_next]; omega)) ?_)); (first | exact St.push_same _ _ | exact St.set_same _ _ _ | assumption) | omega | (simp only [push_objs, push_next, set_objs, set_next, ↓reduceIte]; done) | (simp only [push_objs, push_next, set_objs, set_next, ↓reduceIte]; omega) | rfl | (refine And.intro ?_ ?_ <;> (simp only [push_objs, push_next, set_objs, set_next, ↓reduceIte]; done)))
    | simp (disch := omega) only [tdivE, tmodE, tdivN, tmodN, wrapI, wrapU8]
    | simp only [go_sem, ↓reduceIte]
    | (refine is_prop ?_; omega)
  all_goals (unfold inR at hQ; simp_all)

/-- impl.levelOk -/
theorem c_levelOk (a : Int) (hQ : Q (bl (inR a 1 5)) σ) : ACall Try.prog 28 [i64 a] σ Q := by
  refine acall_intro (N := 5) (rs := [.tmp 2]) T tabOk Try.func28 (by decide +kernel) rfl Try.ntmps28 Try.results28 (by simp) ?_
  repeat' first
    | (with_reducible refine is_ops ?_); first
      | refine aops_nil ?_
      | refine aops_cons rfl fun K1 h1 => ?_
      | refine aops_wanted rfl rfl (by first | rfl | assumption) fun K1 h1 => ?_
      | refine aops_unwanted rfl rfl (by first | rfl | assumption) ?_
      | refine aops_skip rfl rfl ?_
      | refine aops_guard rfl rfl (fun hg K1 h1 => ?_) (fun hg => ?_) <;> (try (have hw := hg; simp only [Bool.not_eq_true', Bool.not_eq_false', Bool.not_true, Bool.not_false, decide_eq_true_eq, decide_eq_false_iff_not, Int.not_lt, Int.not_le, Bool.or_eq_true, Bool.or_eq_false_iff, Bool.and_eq_true, Bool.and_eq_false_iff, not_true, not_false_eq_true, ne_eq, Decidable.not_not, reduceCtorEq] at hw)) <;> (try (exfalso; omega))
    | (with_reducible refine is_qs ?_); first
      | refine aqs_nil ?_
      | refine aqs_cons (v := ?_) rfl ?_ ?_
      | refine aqs_wanted (v := ?_) rfl rfl (by first | rfl | assumption) ?_ ?_
      | refine aqs_unwanted rfl rfl (by first | rfl | assumption) ?_
      | refine aqs_skip rfl rfl ?_
      | refine aqs_part rfl rfl (fun hg => ?_) (fun hg => ?_) <;> (try (have hw := hg; simp only [Bool.not_eq_true', Bool.not_eq_false', Bool.not_true, Bool.not_false, decide_eq_true_eq, decide_eq_false_iff_not, Int.not_lt, Int.not_le, Bool.or_eq_true, Bool.or_eq_false_iff, Bool.and_eq_true, Bool.and_eq_false_iff, not_true, not_false_eq_true, ne_eq, Decidable.not_not, reduceCtorEq] at hw)) <;> (try (exfalso; omega))
    | (with_reducible refine is_aw ?_); first
      | refine aw_rs tabOk (fun _ => false) _ rfl rfl ?_
      | refine aw_quiet rfl tabOk (fun _ => false) _ rfl rfl (by decide +kernel) ?_
      | refine aw_quiet_end rfl tabOk (fun _ => false) _ rfl rfl (by decide +kernel) ?_
      | refine aw_region tabOk (fun _ => false) _ rfl rfl ?_
      | refine aw_ret ?_
      | refine aw_skip ?_
      | refine aw_exit ?_
      | refine aw_block ?_
      | refine aw_label ?_
      | refine aw_cond_t rfl (by first | rfl | assumption) ?_
      | refine aw_cond_f rfl (by first | rfl | assumption) ?_
      | refine aw_cond rfl (fun hg => ?_) (fun hg => ?_) <;> (try (have hw := hg; simp only [Bool.not_eq_true', Bool.not_eq_false', Bool.not_true, Bool.not_false, decide_eq_true_eq, decide_eq_false_iff_not, Int.not_lt, Int.not_le, Bool.or_eq_true, Bool.or_eq_false_iff, Bool.and_eq_true, Bool.and_eq_false_iff, not_true, not_false_eq_true, ne_eq, Decidable.not_not, reduceCtorEq] at hw)) <;> (try (exfalso; omega))
      | refine aw_seq fun K hK => ?_
    | (with_reducible refine aPick_t ?_ ?_); first | rfl | assumption
    | (with_reducible refine aPick_f ?_ ?_); first | rfl | assumption
    | (with_reducible refine h1 _ _ ?_); clear h1 K1
    | (with_reducible refine hK _ _ ?_); clear hK K
    | with_reducible refine k_use (by assumption) _ _ ?_
    | with_reducible refine k1_use (by assumption) _ _ ?_
    | (with_reducible refine is_call ?_); first
      | refine c_within _ _ _ ?_
    | (with_reducible refine is_store ?_); first
      | simp only [aStore, go_sem, ↓reduceIte]
    | (with_reducible refine is_load ?_); first
      | simp only [aLoad, go_sem, ↓reduceIte]
    | (with_reducible refine is_alloc ?_); first
      | simp only [aAlloc, go_sem, ↓reduceIte]
    | (with_reducible refine is_box ?_); first
      | simp only [aBox, go_sem, ↓reduceIte]
    | (with_reducible refine is_make ?_); first
      | simp only [aMake, go_sem, ↓reduceIte]
    | (with_reducible refine is_bslice ?_); first
      | simp only [aBuildSlice, go_sem, ↓reduceIte]
    | (with_reducible refine is_conv ?_); first
      | simp only [aConvS, go_sem, ↓reduceIte]
    | (with_reducible refine is_append ?_); first
      | refine Grow.append (by (first | assumption | exact Grow.setNew (by assumption) _ _ | exact Grow.push (by assumption) _ | exact Grow.setNew (Grow.setNew (by assumption) _ _) _ _ | exact Grow.push (Grow.setNew (by assumption) _ _) _)) rfl rfl ⟨rfl, rfl, by decide, rfl⟩ ?_ ?_ ?_ (fun x' σ' hG => ?_)
      | simp only [aAppend, go_sem, ↓reduceIte]
    | (with_reducible refine is_len ?_); first
      | refine Grow.len (by (first | assumption | exact Grow.setNew (by assumption) _ _ | exact Grow.push (by assumption) _ | exact Grow.setNew (Grow.setNew (by assumption) _ _) _ _ | exact Grow.push (Grow.setNew (by assumption) _ _) _)) rfl rfl ?_
      | simp only [aLen, go_sem, ↓reduceIte]
    | (with_reducible refine is_all ?_); rfl
    | with_reducible exact ⟨rfl, rfl⟩
    | with_reducible exact rfl
    | (with_reducible refine And.intro ?_ ?_); · (first | assumption | exact St.push_same _ _ | exact St.set_same _ _ _ | (repeat (first | refine obj_push (by first | omega | (simp only [push_next, set_next]; omega)) ?_ | refine obj_set (by first | omega | (simp only [push_next, set_next]; omega)) ?_)); (first | exact St.push_same _ _ | exact St.set_same _ _ _ | assumption) | omega | (simp only [push_objs, push_next, set_objs, set_next, ↓reduceIte]; done) | (simp only [push_objs, push_next, set_objs, set_next, ↓reduceIte]; omega) | rfl | (refine And.intro ?_ ?_ <;> (simp only [push_objs, push_next, set_objs, set_next, ↓reduceIte]; done)))
    | (with_reducible apply ex_and); · (first | assumption | exact St.push_same _ _ | exact St.set_same _ _ _ | (repeat (first | refine obj_push (by first | omega | (simp only [push_next, set_next]; omega)) ?_ | refine obj_set (by first | omega | (simp only [push_next, set_next]; omega)) ?_)); (first | exact St.push_same _ _ | exact St.set_same _ _ _ | assumption) | omega | (simp only [push_objs, push_next, set_objs, set_next, ↓reduceIte]; done) | (simp only [push_objs, push_next, set_objs, set_next, ↓reduceIte]; omega) | rfl | (refine And.intro ?_ ?_ <;> (simp only [push_objs, push_next, set_objs, set_next, ↓reduceIte]; done)))
    | simp (disch := omega) only [tdivE, tmodE, tdivN, tmodN, wrapI, wrapU8]
    | simp only [go_sem, ↓reduceIte]
    | (refine is_prop ?_; omega)
  all_goals exact hQ

/-- spec.l17Is -/
theorem c_l17Is (a : Int) (hQ : Q (bl (inR a 1 5)) σ) : ACall Try.prog 40 [i64 a] σ Q := by
  refine acall_intro (N := 5) (rs := [.tmp 2]) T tabOk Try.func40 (by decide +kernel) rfl Try.ntmps40 Try.results40 (by simp) ?_
  repeat' first
    | (with_reducible refine is_ops ?_); first
      | refine aops_nil ?_
      | refine aops_cons rfl fun K1 h1 => ?_
      | refine aops_wanted rfl rfl (by first | rfl | assumption) fun K1 h1 => ?_
      | refine aops_unwanted rfl rfl (by first | rfl | assumption) ?_
      | refine aops_skip rfl rfl ?_
      | refine aops_guard rfl rfl (fun hg K1 h1 => ?_) (fun hg => ?_) <;> (try (have hw := hg; simp only [Bool.not_eq_true', Bool.not_eq_false', Bool.not_true, Bool.not_false, decide_eq_true_eq, decide_eq_false_iff_not, Int.not_lt, Int.not_le, Bool.or_eq_true, Bool.or_eq_false_iff, Bool.and_eq_true, Bool.and_eq_false_iff, not_true, not_false_eq_true, ne_eq, Decidable.not_not, reduceCtorEq] at hw)) <;> (try (exfalso; omega))
    | (with_reducible refine is_qs ?_); first
      | refine aqs_nil ?_
      | refine aqs_cons (v := ?_) rfl ?_ ?_
      | refine aqs_wanted (v := ?_) rfl rfl (by first | rfl | assumption) ?_ ?_
      | refine aqs_unwanted rfl rfl (by first | rfl | assumption) ?_
      | refine aqs_skip rfl rfl ?_
      | refine aqs_part rfl rfl (fun hg => ?_) (fun hg => ?_) <;> (try (have hw := hg; simp only [Bool.not_eq_true', Bool.not_eq_false', Bool.not_true, Bool.not_false, decide_eq_true_eq, decide_eq_false_iff_not, Int.not_lt, Int.not_le, Bool.or_eq_true, Bool.or_eq_false_iff, Bool.and_eq_true, Bool.and_eq_false_iff, not_true, not_false_eq_true, ne_eq, Decidable.not_not, reduceCtorEq] at hw)) <;> (try (exfalso; omega))
    | (with_reducible refine is_aw ?_); first
      | refine aw_rs tabOk (fun _ => false) _ rfl rfl ?_
      | refine aw_quiet rfl tabOk (fun _ => false) _ rfl rfl (by decide +kernel) ?_
      | refine aw_quiet_end rfl tabOk (fun _ => false) _ rfl rfl (by decide +kernel) ?_
      | refine aw_region tabOk (fun _ => false) _ rfl rfl ?_
      | refine aw_ret ?_
      | refine aw_skip ?_
      | refine aw_exit ?_
      | refine aw_block ?_
      | refine aw_label ?_
      | refine aw_cond_t rfl (by first | rfl | assumption) ?_
      | refine aw_cond_f rfl (by first | rfl | assumption) ?_
      | refine aw_cond rfl (fun hg => ?_) (fun hg => ?_) <;> (try (have hw := hg; simp only [Bool.not_eq_true', Bool.not_eq_false', Bool.not_true, Bool.not_false, decide_eq_true_eq, decide_eq_false_iff_not, Int.not_lt, Int.not_le, Bool.or_eq_true, Bool.or_eq_false_iff, Bool.and_eq_true, Bool.and_eq_false_iff, not_true, not_false_eq_true, ne_eq, Decidable.not_not, reduceCtorEq] at hw)) <;> (try (exfalso; omega))
      | refine aw_seq fun K hK => ?_
    | (with_reducible refine aPick_t ?_ ?_); first | rfl | assumption
    | (with_reducible refine aPick_f ?_ ?_); first | rfl | assumption
    | (with_reducible refine h1 _ _ ?_); clear h1 K1
    | (with_reducible refine hK _ _ ?_); clear hK K
    | with_reducible refine k_use (by assumption) _ _ ?_
    | with_reducible refine k1_use (by assumption) _ _ ?_
    | (with_reducible refine is_call ?_); first
      | refine c_l00In _ _ _ ?_
    | (with_reducible refine is_store ?_); first
      | simp only [aStore, go_sem, ↓reduceIte]
    | (with_reducible refine is_load ?_); first
      | simp only [aLoad, go_sem, ↓reduceIte]
    | (with_reducible refine is_alloc ?_); first
      | simp only [aAlloc, go_sem, ↓reduceIte]
    | (with_reducible refine is_box ?_); first
      | simp only [aBox, go_sem, ↓reduceIte]
    | (with_reducible refine is_make ?_); first
      | simp only [aMake, go_sem, ↓reduceIte]
    | (with_reducible refine is_bslice ?_); first
      | simp only [aBuildSlice, go_sem, ↓reduceIte]
    | (with_reducible refine is_conv ?_); first
      | simp only [aConvS, go_sem, ↓reduceIte]
    | (with_reducible refine is_append ?_); first
      | refine Grow.append (by (first | assumption | exact Grow.setNew (by assumption) _ _ | exact Grow.push (by assumption) _ | exact Grow.setNew (Grow.setNew (by assumption) _ _) _ _ | exact Grow.push (Grow.setNew (by assumption) _ _) _)) rfl rfl ⟨rfl, rfl, by decide, rfl⟩ ?_ ?_ ?_ (fun x' σ' hG => ?_)
      | simp only [aAppend, go_sem, ↓reduceIte]
    | (with_reducible refine is_len ?_); first
      | refine Grow.len (by (first | assumption | exact Grow.setNew (by assumption) _ _ | exact Grow.push (by assumption) _ | exact Grow.setNew (Grow.setNew (by assumption) _ _) _ _ | exact Grow.push (Grow.setNew (by assumption) _ _) _)) rfl rfl ?_
      | simp only [aLen, go_sem, ↓reduceIte]
    | (with_reducible refine is_all ?_); rfl
    | with_reducible exact ⟨rfl, rfl⟩
    | with_reducible exact rfl
    | (with_reducible refine And.intro ?_ ?_); · (first | assumption | exact St.push_same _ _ | exact St.set_same _ _ _ | (repeat (first | refine obj_push (by first | omega | (simp only [push_next, set_next]; omega)) ?_ | refine obj_set (by first | omega | (simp only [push_next, set_next]; omega)) ?_)); (first | exact St.push_same _ _ | exact St.set_same _ _ _ | assumption) | omega | (simp only [push_objs, push_next, set_objs, set_next, ↓reduceIte]; done) | (simp only [push_objs, push_next, set_objs, set_next, ↓reduceIte]; omega) | rfl | (refine And.intro ?_ ?_ <;> (simp only [push_objs, push_next, set_objs, set_next, ↓reduceIte]; done)))
    | (with_reducible apply ex_and); · (first | assumption | exact St.push_same _ _ | exact St.set_same _ _ _ | (repeat (first | refine obj_push (by first | omega | (simp only [push_next, set_next]; omega)) ?_ | refine obj_set (by first | omega | (simp only [push_next, set_next]; omega)) ?_)); (first | exact St.push_same _ _ | exact St.set_same _ _ _ | assumption) | omega | (simp only [push_objs, push_next, set_objs, set_next, ↓reduceIte]; done) | (simp only [push_objs, push_next, set_objs, set_next, ↓reduceIte]; omega) | rfl | (refine And.intro ?_ ?_ <;> (simp only [push_objs, push_next, set_objs, set_next, ↓reduceIte]; done)))
    | simp (disch := omega) only [tdivE, tmodE, tdivN, tmodN, wrapI, wrapU8]
    | simp only [go_sem, ↓reduceIte]
    | (refine is_prop ?_; omega)
  all_goals exact hQ

def smallB (b : Int) : Bool := decide (97 ≤ b ∧ b ≤ 122)
def digitB (b : Int) : Bool := decide (48 ≤ b ∧ b ≤ 57)
def nameB (b : Int) : Bool := smallB b || digitB b
def nameBytes (s : ByteArray) (n : Nat) : Bool := (List.range n).all fun i => nameB (byteAt s i)
theorem nb_succ {s : ByteArray} {i : Nat} (h : nameBytes s i = true) (k : nameB (byteAt s i) = true) : nameBytes s (i + 1) = true := by
  unfold nameBytes at h ⊢
  rw [List.range_succ, List.all_append, h]; simp [k]
theorem nb_false {s : ByteArray} {i n : Nat} (h : i < n) (k : nameB (byteAt s i) = false) : nameBytes s n = false := by
  unfold nameBytes
  rw [List.all_eq_false]
  exact ⟨i, List.mem_range.2 h, by simp [k]⟩
/-- impl.onlyNameBytes -/
theorem c_onlyName (s : ByteArray) (hs : s.size ≤ 100) (hQ : Q (bl (nameBytes s s.size)) σ) : ACall Try.prog 77 [str s] σ Q := by
  refine acall_intro (N := 28) (rs := [.tmp 2]) T tabOk Try.func77 (by decide +kernel) rfl Try.ntmps77 Try.results77 (by simp) ?_
  repeat' first
    | (with_reducible refine is_ops ?_); first
      | refine aops_nil ?_
      | refine aops_cons rfl fun K1 h1 => ?_
      | refine aops_wanted rfl rfl (by first | rfl | assumption) fun K1 h1 => ?_
      | refine aops_unwanted rfl rfl (by first | rfl | assumption) ?_
      | refine aops_skip rfl rfl ?_
      | refine aops_guard rfl rfl (fun hg K1 h1 => ?_) (fun hg => ?_) <;> (try (have hw := hg; simp only [Bool.not_eq_true', Bool.not_eq_false', Bool.not_true, Bool.not_false, decide_eq_true_eq, decide_eq_false_iff_not, Int.not_lt, Int.not_le, Bool.or_eq_true, Bool.or_eq_false_iff, Bool.and_eq_true, Bool.and_eq_false_iff, not_true, not_false_eq_true, ne_eq, Decidable.not_not, reduceCtorEq] at hw)) <;> (try (exfalso; omega))
    | (with_reducible refine is_qs ?_); first
      | refine aqs_nil ?_
      | refine aqs_cons (v := ?_) rfl ?_ ?_
      | refine aqs_wanted (v := ?_) rfl rfl (by first | rfl | assumption) ?_ ?_
      | refine aqs_unwanted rfl rfl (by first | rfl | assumption) ?_
      | refine aqs_skip rfl rfl ?_
      | refine aqs_part rfl rfl (fun hg => ?_) (fun hg => ?_) <;> (try (have hw := hg; simp only [Bool.not_eq_true', Bool.not_eq_false', Bool.not_true, Bool.not_false, decide_eq_true_eq, decide_eq_false_iff_not, Int.not_lt, Int.not_le, Bool.or_eq_true, Bool.or_eq_false_iff, Bool.and_eq_true, Bool.and_eq_false_iff, not_true, not_false_eq_true, ne_eq, Decidable.not_not, reduceCtorEq] at hw)) <;> (try (exfalso; omega))
    | (with_reducible refine is_aw ?_); first
      | refine aw_rs tabOk (fun _ => false) _ rfl rfl ?_
      | refine aw_quiet rfl tabOk (fun _ => false) _ rfl rfl (by decide +kernel) ?_
      | refine aw_quiet_end rfl tabOk (fun _ => false) _ rfl rfl (by decide +kernel) ?_
      | refine aw_region tabOk (fun _ => false) _ rfl rfl ?_
      | refine aw_ret ?_
      | refine aw_skip ?_
      | refine aw_exit ?_
      | refine aw_block ?_
      | refine aw_label ?_
      | refine aw_cond_t rfl (by first | rfl | assumption) ?_
      | refine aw_cond_f rfl (by first | rfl | assumption) ?_
      | refine aw_cond rfl (fun hg => ?_) (fun hg => ?_) <;> (try (have hw := hg; simp only [Bool.not_eq_true', Bool.not_eq_false', Bool.not_true, Bool.not_false, decide_eq_true_eq, decide_eq_false_iff_not, Int.not_lt, Int.not_le, Bool.or_eq_true, Bool.or_eq_false_iff, Bool.and_eq_true, Bool.and_eq_false_iff, not_true, not_false_eq_true, ne_eq, Decidable.not_not, reduceCtorEq] at hw)) <;> (try (exfalso; omega))
      | refine aw_seq fun K hK => ?_
    | (with_reducible refine aPick_t ?_ ?_); first | rfl | assumption
    | (with_reducible refine aPick_f ?_ ?_); first | rfl | assumption
    | (with_reducible refine h1 _ _ ?_); clear h1 K1
    | (with_reducible refine hK _ _ ?_); clear hK K
    | with_reducible refine k_use (by assumption) _ _ ?_
    | with_reducible refine k1_use (by assumption) _ _ ?_
    | (with_reducible refine is_store ?_); first
      | simp only [aStore, go_sem, ↓reduceIte]
    | (with_reducible refine is_load ?_); first
      | simp only [aLoad, go_sem, ↓reduceIte]
    | (with_reducible refine is_alloc ?_); first
      | simp only [aAlloc, go_sem, ↓reduceIte]
    | (with_reducible refine is_box ?_); first
      | simp only [aBox, go_sem, ↓reduceIte]
    | (with_reducible refine is_make ?_); first
      | simp only [aMake, go_sem, ↓reduceIte]
    | (with_reducible refine is_bslice ?_); first
      | simp only [aBuildSlice, go_sem, ↓reduceIte]
    | (with_reducible refine is_conv ?_); first
      | simp only [aConvS, go_sem, ↓reduceIte]
    | (with_reducible refine is_append ?_); first
      | refine Grow.append (by (first | assumption | exact Grow.setNew (by assumption) _ _ | exact Grow.push (by assumption) _ | exact Grow.setNew (Grow.setNew (by assumption) _ _) _ _ | exact Grow.push (Grow.setNew (by assumption) _ _) _)) rfl rfl ⟨rfl, rfl, by decide, rfl⟩ ?_ ?_ ?_ (fun x' σ' hG => ?_)
      | simp only [aAppend, go_sem, ↓reduceIte]
    | (with_reducible refine is_len ?_); first
      | refine Grow.len (by (first | assumption | exact Grow.setNew (by assumption) _ _ | exact Grow.push (by assumption) _ | exact Grow.setNew (Grow.setNew (by assumption) _ _) _ _ | exact Grow.push (Grow.setNew (by assumption) _ _) _)) rfl rfl ?_
      | simp only [aLen, go_sem, ↓reduceIte]
    | (with_reducible refine is_all ?_); rfl
    | with_reducible exact ⟨rfl, rfl⟩
    | with_reducible exact rfl
    | (with_reducible refine And.intro ?_ ?_); · (first | assumption | exact St.push_same _ _ | exact St.set_same _ _ _ | (repeat (first | refine obj_push (by first | omega | (simp only [push_next, set_next]; omega)) ?_ | refine obj_set (by first | omega | (simp only [push_next, set_next]; omega)) ?_)); (first | exact St.push_same _ _ | exact St.set_same _ _ _ | assumption) | omega | (simp only [push_objs, push_next, set_objs, set_next, ↓reduceIte]; done) | (simp only [push_objs, push_next, set_objs, set_next, ↓reduceIte]; omega) | rfl | (refine And.intro ?_ ?_ <;> (simp only [push_objs, push_next, set_objs, set_next, ↓reduceIte]; done)))
    | (with_reducible apply ex_and); · (first | assumption | exact St.push_same _ _ | exact St.set_same _ _ _ | (repeat (first | refine obj_push (by first | omega | (simp only [push_next, set_next]; omega)) ?_ | refine obj_set (by first | omega | (simp only [push_next, set_next]; omega)) ?_)); (first | exact St.push_same _ _ | exact St.set_same _ _ _ | assumption) | omega | (simp only [push_objs, push_next, set_objs, set_next, ↓reduceIte]; done) | (simp only [push_objs, push_next, set_objs, set_next, ↓reduceIte]; omega) | rfl | (refine And.intro ?_ ?_ <;> (simp only [push_objs, push_next, set_objs, set_next, ↓reduceIte]; done)))
    | simp (disch := omega) only [tdivE, tmodE, tdivN, tmodN, wrapI, wrapU8]
    | simp only [go_sem, ↓reduceIte]
    | (refine is_prop ?_; omega)
  refine aw_count s.size (fun i e τ => τ = σ ∧ nameBytes s i = true ∧ e 0 = str s ∧ e 6 = i64 s.size ∧ e 7 = i64 i) ⟨rfl, rfl, rfl, rfl, rfl⟩ ?_
  rintro i e τ ⟨rfl, hp, h0, h6, h7⟩ hi
  repeat' first
    | (with_reducible refine is_ops ?_); first
      | refine aops_nil ?_
      | refine aops_cons rfl fun K1 h1 => ?_
      | refine aops_wanted rfl rfl (by first | rfl | assumption) fun K1 h1 => ?_
      | refine aops_unwanted rfl rfl (by first | rfl | assumption) ?_
      | refine aops_skip rfl rfl ?_
      | refine aops_guard rfl rfl (fun hg K1 h1 => ?_) (fun hg => ?_) <;> (try (have hw := hg; simp only [Bool.not_eq_true', Bool.not_eq_false', Bool.not_true, Bool.not_false, decide_eq_true_eq, decide_eq_false_iff_not, Int.not_lt, Int.not_le, Bool.or_eq_true, Bool.or_eq_false_iff, Bool.and_eq_true, Bool.and_eq_false_iff, not_true, not_false_eq_true, ne_eq, Decidable.not_not, reduceCtorEq] at hw)) <;> (try (exfalso; omega))
    | (with_reducible refine is_qs ?_); first
      | refine aqs_nil ?_
      | refine aqs_cons (v := ?_) rfl ?_ ?_
      | refine aqs_wanted (v := ?_) rfl rfl (by first | rfl | assumption) ?_ ?_
      | refine aqs_unwanted rfl rfl (by first | rfl | assumption) ?_
      | refine aqs_skip rfl rfl ?_
      | refine aqs_part rfl rfl (fun hg => ?_) (fun hg => ?_) <;> (try (have hw := hg; simp only [Bool.not_eq_true', Bool.not_eq_false', Bool.not_true, Bool.not_false, decide_eq_true_eq, decide_eq_false_iff_not, Int.not_lt, Int.not_le, Bool.or_eq_true, Bool.or_eq_false_iff, Bool.and_eq_true, Bool.and_eq_false_iff, not_true, not_false_eq_true, ne_eq, Decidable.not_not, reduceCtorEq] at hw)) <;> (try (exfalso; omega))
    | (with_reducible refine is_aw ?_); first
      | refine aw_rs tabOk (fun _ => false) _ rfl rfl ?_
      | refine aw_quiet rfl tabOk (fun _ => false) _ rfl rfl (by decide +kernel) ?_
      | refine aw_quiet_end rfl tabOk (fun _ => false) _ rfl rfl (by decide +kernel) ?_
      | refine aw_region tabOk (fun _ => false) _ rfl rfl ?_
      | refine aw_ret ?_
      | refine aw_skip ?_
      | refine aw_exit ?_
      | refine aw_block ?_
      | refine aw_label ?_
      | refine aw_cond_t rfl (by first | rfl | assumption) ?_
      | refine aw_cond_f rfl (by first | rfl | assumption) ?_
      | refine aw_cond rfl (fun hg => ?_) (fun hg => ?_) <;> (try (have hw := hg; simp only [Bool.not_eq_true', Bool.not_eq_false', Bool.not_true, Bool.not_false, decide_eq_true_eq, decide_eq_false_iff_not, Int.not_lt, Int.not_le, Bool.or_eq_true, Bool.or_eq_false_iff, Bool.and_eq_true, Bool.and_eq_false_iff, not_true, not_false_eq_true, ne_eq, Decidable.not_not, reduceCtorEq] at hw)) <;> (try (exfalso; omega))
      | refine aw_seq fun K hK => ?_
    | (with_reducible refine aPick_t ?_ ?_); first | rfl | assumption
    | (with_reducible refine aPick_f ?_ ?_); first | rfl | assumption
    | (with_reducible refine h1 _ _ ?_); clear h1 K1
    | (with_reducible refine hK _ _ ?_); clear hK K
    | with_reducible refine k_use (by assumption) _ _ ?_
    | with_reducible refine k1_use (by assumption) _ _ ?_
    | (with_reducible refine is_store ?_); first
      | simp only [h0, h6, h7, aStore, go_sem, ↓reduceIte]
    | (with_reducible refine is_load ?_); first
      | simp only [h0, h6, h7, aLoad, go_sem, ↓reduceIte]
    | (with_reducible refine is_alloc ?_); first
      | simp only [h0, h6, h7, aAlloc, go_sem, ↓reduceIte]
    | (with_reducible refine is_box ?_); first
      | simp only [h0, h6, h7, aBox, go_sem, ↓reduceIte]
    | (with_reducible refine is_make ?_); first
      | simp only [h0, h6, h7, aMake, go_sem, ↓reduceIte]
    | (with_reducible refine is_bslice ?_); first
      | simp only [h0, h6, h7, aBuildSlice, go_sem, ↓reduceIte]
    | (with_reducible refine is_conv ?_); first
      | simp only [h0, h6, h7, aConvS, go_sem, ↓reduceIte]
    | (with_reducible refine is_append ?_); first
      | refine Grow.append (by (first | assumption | exact Grow.setNew (by assumption) _ _ | exact Grow.push (by assumption) _ | exact Grow.setNew (Grow.setNew (by assumption) _ _) _ _ | exact Grow.push (Grow.setNew (by assumption) _ _) _)) rfl rfl ⟨rfl, rfl, by decide, rfl⟩ ?_ ?_ ?_ (fun x' σ' hG => ?_)
      | simp only [h0, h6, h7, aAppend, go_sem, ↓reduceIte]
    | (with_reducible refine is_len ?_); first
      | refine Grow.len (by (first | assumption | exact Grow.setNew (by assumption) _ _ | exact Grow.push (by assumption) _ | exact Grow.setNew (Grow.setNew (by assumption) _ _) _ _ | exact Grow.push (Grow.setNew (by assumption) _ _) _)) rfl rfl ?_
      | simp only [h0, h6, h7, aLen, go_sem, ↓reduceIte]
    | (with_reducible refine is_all ?_); rfl
    | with_reducible exact ⟨rfl, rfl⟩
    | with_reducible exact rfl
    | (with_reducible refine And.intro ?_ ?_); · (first | assumption | exact St.push_same _ _ | exact St.set_same _ _ _ | (repeat (first | refine obj_push (by first | omega | (simp only [push_next, set_next]; omega)) ?_ | refine obj_set (by first | omega | (simp only [push_next, set_next]; omega)) ?_)); (first | exact St.push_same _ _ | exact St.set_same _ _ _ | assumption) | omega | (simp only [push_objs, push_next, set_objs, set_next, ↓reduceIte]; done) | (simp only [push_objs, push_next, set_objs, set_next, ↓reduceIte]; omega) | rfl | (refine And.intro ?_ ?_ <;> (simp only [push_objs, push_next, set_objs, set_next, ↓reduceIte]; done)))
    | (with_reducible apply ex_and); · (first | assumption | exact St.push_same _ _ | exact St.set_same _ _ _ | (repeat (first | refine obj_push (by first | omega | (simp only [push_next, set_next]; omega)) ?_ | refine obj_set (by first | omega | (simp only [push_next, set_next]; omega)) ?_)); (first | exact St.push_same _ _ | exact St.set_same _ _ _ | assumption) | omega | (simp only [push_objs, push_next, set_objs, set_next, ↓reduceIte]; done) | (simp only [push_objs, push_next, set_objs, set_next, ↓reduceIte]; omega) | rfl | (refine And.intro ?_ ?_ <;> (simp only [push_objs, push_next, set_objs, set_next, ↓reduceIte]; done)))
    | simp (disch := omega) only [tdivE, tmodE, tdivN, tmodN, wrapI, wrapU8]
    | simp only [h0, h6, h7, go_sem, ↓reduceIte]
    | (refine is_prop ?_; omega)
  all_goals first
    | (have : i = s.size := by omega
       subst this; rw [hp] at hQ; exact hQ)
    | (have hb : nameB (byteAt s i) = false := by
         simp only [nameB, smallB, digitB, Bool.or_eq_false_iff, decide_eq_false_iff_not]; omega
       rw [nb_false (by omega) hb] at hQ; exact hQ)
    | (have hb : nameB (byteAt s i) = true := by
         simp only [nameB, smallB, digitB, Bool.or_eq_true, decide_eq_true_eq]; omega
       exact ⟨nb_succ hp hb, rfl⟩)
    | rfl

def isName (s : ByteArray) : Bool := decide (1 ≤ s.size ∧ s.size ≤ 10) && smallB (byteAt s 0) && nameBytes s s.size
/-- impl.IsName -/
theorem c_IsName (s : ByteArray) (hQ : Q (bl (isName s)) σ) : ACall Try.prog 57 [str s] σ Q := by
  refine acall_intro (N := 23) (rs := [.tmp 2]) T tabOk Try.func57 (by decide +kernel) rfl Try.ntmps57 Try.results57 (by simp) ?_
  repeat' first
    | (with_reducible refine is_ops ?_); first
      | refine aops_nil ?_
      | refine aops_cons rfl fun K1 h1 => ?_
      | refine aops_wanted rfl rfl (by first | rfl | assumption) fun K1 h1 => ?_
      | refine aops_unwanted rfl rfl (by first | rfl | assumption) ?_
      | refine aops_skip rfl rfl ?_
      | refine aops_guard rfl rfl (fun hg K1 h1 => ?_) (fun hg => ?_) <;> (try (have hw := hg; simp only [Bool.not_eq_true', Bool.not_eq_false', Bool.not_true, Bool.not_false, decide_eq_true_eq, decide_eq_false_iff_not, Int.not_lt, Int.not_le, Bool.or_eq_true, Bool.or_eq_false_iff, Bool.and_eq_true, Bool.and_eq_false_iff, not_true, not_false_eq_true, ne_eq, Decidable.not_not, reduceCtorEq] at hw)) <;> (try (exfalso; omega))
    | (with_reducible refine is_qs ?_); first
      | refine aqs_nil ?_
      | refine aqs_cons (v := ?_) rfl ?_ ?_
      | refine aqs_wanted (v := ?_) rfl rfl (by first | rfl | assumption) ?_ ?_
      | refine aqs_unwanted rfl rfl (by first | rfl | assumption) ?_
      | refine aqs_skip rfl rfl ?_
      | refine aqs_part rfl rfl (fun hg => ?_) (fun hg => ?_) <;> (try (have hw := hg; simp only [Bool.not_eq_true', Bool.not_eq_false', Bool.not_true, Bool.not_false, decide_eq_true_eq, decide_eq_false_iff_not, Int.not_lt, Int.not_le, Bool.or_eq_true, Bool.or_eq_false_iff, Bool.and_eq_true, Bool.and_eq_false_iff, not_true, not_false_eq_true, ne_eq, Decidable.not_not, reduceCtorEq] at hw)) <;> (try (exfalso; omega))
    | (with_reducible refine is_aw ?_); first
      | refine aw_rs tabOk (fun _ => false) _ rfl rfl ?_
      | refine aw_quiet rfl tabOk (fun _ => false) _ rfl rfl (by decide +kernel) ?_
      | refine aw_quiet_end rfl tabOk (fun _ => false) _ rfl rfl (by decide +kernel) ?_
      | refine aw_region tabOk (fun _ => false) _ rfl rfl ?_
      | refine aw_ret ?_
      | refine aw_skip ?_
      | refine aw_exit ?_
      | refine aw_block ?_
      | refine aw_label ?_
      | refine aw_cond_t rfl (by first | rfl | assumption) ?_
      | refine aw_cond_f rfl (by first | rfl | assumption) ?_
      | refine aw_cond rfl (fun hg => ?_) (fun hg => ?_) <;> (try (have hw := hg; simp only [Bool.not_eq_true', Bool.not_eq_false', Bool.not_true, Bool.not_false, decide_eq_true_eq, decide_eq_false_iff_not, Int.not_lt, Int.not_le, Bool.or_eq_true, Bool.or_eq_false_iff, Bool.and_eq_true, Bool.and_eq_false_iff, not_true, not_false_eq_true, ne_eq, Decidable.not_not, reduceCtorEq] at hw)) <;> (try (exfalso; omega))
      | refine aw_seq fun K hK => ?_
    | (with_reducible refine aPick_t ?_ ?_); first | rfl | assumption
    | (with_reducible refine aPick_f ?_ ?_); first | rfl | assumption
    | (with_reducible refine h1 _ _ ?_); clear h1 K1
    | (with_reducible refine hK _ _ ?_); clear hK K
    | with_reducible refine k_use (by assumption) _ _ ?_
    | with_reducible refine k1_use (by assumption) _ _ ?_
    | (with_reducible refine is_call ?_); first
      | refine c_onlyName s (by omega) ?_
    | (with_reducible refine is_store ?_); first
      | simp only [aStore, go_sem, ↓reduceIte]
    | (with_reducible refine is_load ?_); first
      | simp only [aLoad, go_sem, ↓reduceIte]
    | (with_reducible refine is_alloc ?_); first
      | simp only [aAlloc, go_sem, ↓reduceIte]
    | (with_reducible refine is_box ?_); first
      | simp only [aBox, go_sem, ↓reduceIte]
    | (with_reducible refine is_make ?_); first
      | simp only [aMake, go_sem, ↓reduceIte]
    | (with_reducible refine is_bslice ?_); first
      | simp only [aBuildSlice, go_sem, ↓reduceIte]
    | (with_reducible refine is_conv ?_); first
      | simp only [aConvS, go_sem, ↓reduceIte]
    | (with_reducible refine is_append ?_); first
      | refine Grow.append (by (first | assumption | exact Grow.setNew (by assumption) _ _ | exact Grow.push (by assumption) _ | exact Grow.setNew (Grow.setNew (by assumption) _ _) _ _ | exact Grow.push (Grow.setNew (by assumption) _ _) _)) rfl rfl ⟨rfl, rfl, by decide, rfl⟩ ?_ ?_ ?_ (fun x' σ' hG => ?_)
      | simp only [aAppend, go_sem, ↓reduceIte]
    | (with_reducible refine is_len ?_); first
      | refine Grow.len (by (first | assumption | exact Grow.setNew (by assumption) _ _ | exact Grow.push (by assumption) _ | exact Grow.setNew (Grow.setNew (by assumption) _ _) _ _ | exact Grow.push (Grow.setNew (by assumption) _ _) _)) rfl rfl ?_
      | simp only [aLen, go_sem, ↓reduceIte]
    | (with_reducible refine is_all ?_); rfl
    | with_reducible exact ⟨rfl, rfl⟩
    | with_reducible exact rfl
    | (with_reducible refine And.intro ?_ ?_); · (first | assumption | exact St.push_same _ _ | exact St.set_same _ _ _ | (repeat (first | refine obj_push (by first | omega | (simp only [push_next, set_next]; omega)) ?_ | refine obj_set (by first | omega | (simp only [push_next, set_next]; omega)) ?_)); (first | exact St.push_same _ _ | exact St.set_same _ _ _ | assumption) | omega | (simp only [push_objs, push_next, set_objs, set_next, ↓reduceIte]; done) | (simp only [push_objs, push_next, set_objs, set_next, ↓reduceIte]; omega) | rfl | (refine And.intro ?_ ?_ <;> (simp only [push_objs, push_next, set_objs, set_next, ↓reduceIte]; done)))
    | (with_reducible apply ex_and); · (first | assumption | exact St.push_same _ _ | exact St.set_same _ _ _ | (repeat (first | refine obj_push (by first | omega | (simp only [push_next, set_next]; omega)) ?_ | refine obj_set (by first | omega | (simp only [push_next, set_next]; omega)) ?_)); (first | exact St.push_same _ _ | exact St.set_same _ _ _ | assumption) | omega | (simp only [push_objs, push_next, set_objs, set_next, ↓reduceIte]; done) | (simp only [push_objs, push_next, set_objs, set_next, ↓reduceIte]; omega) | rfl | (refine And.intro ?_ ?_ <;> (simp only [push_objs, push_next, set_objs, set_next, ↓reduceIte]; done)))
    | simp (disch := omega) only [tdivE, tmodE, tdivN, tmodN, wrapI, wrapU8]
    | simp only [go_sem, ↓reduceIte]
    | (refine is_prop ?_; omega)
  all_goals refine ab_eq hQ ?_
  all_goals first
    | (refine bl_false ?_; simp only [isName, smallB, Bool.and_eq_false_iff, decide_eq_false_iff_not]; omega)
    | (refine congrArg bl ?_
       have : smallB (byteAt s 0) = true := by simp only [smallB, decide_eq_true_eq]; omega
       have h2 : decide (1 ≤ s.size ∧ s.size ≤ 10) = true := by simp only [decide_eq_true_eq]; omega
       simp only [isName, this, h2, Bool.true_and])

/-- spec.l01Small, spec.l01Digit -/
theorem c_small (b : Int) (hQ : Q (bl (smallB b)) σ) : ACall Try.prog 67 [.sc (.int .u8 b)] σ Q := by
  refine acall_intro (N := 9) (rs := [.tmp 2]) T tabOk Try.func67 (by decide +kernel) rfl Try.ntmps67 Try.results67 (by simp) ?_
  repeat' first
    | (with_reducible refine is_ops ?_); first
      | refine aops_nil ?_
      | refine aops_cons rfl fun K1 h1 => ?_
      | refine aops_wanted rfl rfl (by first | rfl | assumption) fun K1 h1 => ?_
      | refine aops_unwanted rfl rfl (by first | rfl | assumption) ?_
      | refine aops_skip rfl rfl ?_
      | refine aops_guard rfl rfl (fun hg K1 h1 => ?_) (fun hg => ?_) <;> (try (have hw := hg; simp only [Bool.not_eq_true', Bool.not_eq_false', Bool.not_true, Bool.not_false, decide_eq_true_eq, decide_eq_false_iff_not, Int.not_lt, Int.not_le, Bool.or_eq_true, Bool.or_eq_false_iff, Bool.and_eq_true, Bool.and_eq_false_iff, not_true, not_false_eq_true, ne_eq, Decidable.not_not, reduceCtorEq] at hw)) <;> (try (exfalso; omega))
    | (with_reducible refine is_qs ?_); first
      | refine aqs_nil ?_
      | refine aqs_cons (v := ?_) rfl ?_ ?_
      | refine aqs_wanted (v := ?_) rfl rfl (by first | rfl | assumption) ?_ ?_
      | refine aqs_unwanted rfl rfl (by first | rfl | assumption) ?_
      | refine aqs_skip rfl rfl ?_
      | refine aqs_part rfl rfl (fun hg => ?_) (fun hg => ?_) <;> (try (have hw := hg; simp only [Bool.not_eq_true', Bool.not_eq_false', Bool.not_true, Bool.not_false, decide_eq_true_eq, decide_eq_false_iff_not, Int.not_lt, Int.not_le, Bool.or_eq_true, Bool.or_eq_false_iff, Bool.and_eq_true, Bool.and_eq_false_iff, not_true, not_false_eq_true, ne_eq, Decidable.not_not, reduceCtorEq] at hw)) <;> (try (exfalso; omega))
    | (with_reducible refine is_aw ?_); first
      | refine aw_rs tabOk (fun _ => false) _ rfl rfl ?_
      | refine aw_quiet rfl tabOk (fun _ => false) _ rfl rfl (by decide +kernel) ?_
      | refine aw_quiet_end rfl tabOk (fun _ => false) _ rfl rfl (by decide +kernel) ?_
      | refine aw_region tabOk (fun _ => false) _ rfl rfl ?_
      | refine aw_ret ?_
      | refine aw_skip ?_
      | refine aw_exit ?_
      | refine aw_block ?_
      | refine aw_label ?_
      | refine aw_cond_t rfl (by first | rfl | assumption) ?_
      | refine aw_cond_f rfl (by first | rfl | assumption) ?_
      | refine aw_cond rfl (fun hg => ?_) (fun hg => ?_) <;> (try (have hw := hg; simp only [Bool.not_eq_true', Bool.not_eq_false', Bool.not_true, Bool.not_false, decide_eq_true_eq, decide_eq_false_iff_not, Int.not_lt, Int.not_le, Bool.or_eq_true, Bool.or_eq_false_iff, Bool.and_eq_true, Bool.and_eq_false_iff, not_true, not_false_eq_true, ne_eq, Decidable.not_not, reduceCtorEq] at hw)) <;> (try (exfalso; omega))
      | refine aw_seq fun K hK => ?_
    | (with_reducible refine aPick_t ?_ ?_); first | rfl | assumption
    | (with_reducible refine aPick_f ?_ ?_); first | rfl | assumption
    | (with_reducible refine h1 _ _ ?_); clear h1 K1
    | (with_reducible refine hK _ _ ?_); clear hK K
    | with_reducible refine k_use (by assumption) _ _ ?_
    | with_reducible refine k1_use (by assumption) _ _ ?_
    | (with_reducible refine is_store ?_); first
      | simp only [aStore, go_sem, ↓reduceIte]
    | (with_reducible refine is_load ?_); first
      | simp only [aLoad, go_sem, ↓reduceIte]
    | (with_reducible refine is_alloc ?_); first
      | simp only [aAlloc, go_sem, ↓reduceIte]
    | (with_reducible refine is_box ?_); first
      | simp only [aBox, go_sem, ↓reduceIte]
    | (with_reducible refine is_make ?_); first
      | simp only [aMake, go_sem, ↓reduceIte]
    | (with_reducible refine is_bslice ?_); first
      | simp only [aBuildSlice, go_sem, ↓reduceIte]
    | (with_reducible refine is_conv ?_); first
      | simp only [aConvS, go_sem, ↓reduceIte]
    | (with_reducible refine is_append ?_); first
      | refine Grow.append (by (first | assumption | exact Grow.setNew (by assumption) _ _ | exact Grow.push (by assumption) _ | exact Grow.setNew (Grow.setNew (by assumption) _ _) _ _ | exact Grow.push (Grow.setNew (by assumption) _ _) _)) rfl rfl ⟨rfl, rfl, by decide, rfl⟩ ?_ ?_ ?_ (fun x' σ' hG => ?_)
      | simp only [aAppend, go_sem, ↓reduceIte]
    | (with_reducible refine is_len ?_); first
      | refine Grow.len (by (first | assumption | exact Grow.setNew (by assumption) _ _ | exact Grow.push (by assumption) _ | exact Grow.setNew (Grow.setNew (by assumption) _ _) _ _ | exact Grow.push (Grow.setNew (by assumption) _ _) _)) rfl rfl ?_
      | simp only [aLen, go_sem, ↓reduceIte]
    | (with_reducible refine is_all ?_); rfl
    | with_reducible exact ⟨rfl, rfl⟩
    | with_reducible exact rfl
    | (with_reducible refine And.intro ?_ ?_); · (first | assumption | exact St.push_same _ _ | exact St.set_same _ _ _ | (repeat (first | refine obj_push (by first | omega | (simp only [push_next, set_next]; omega)) ?_ | refine obj_set (by first | omega | (simp only [push_next, set_next]; omega)) ?_)); (first | exact St.push_same _ _ | exact St.set_same _ _ _ | assumption) | omega | (simp only [push_objs, push_next, set_objs, set_next, ↓reduceIte]; done) | (simp only [push_objs, push_next, set_objs, set_next, ↓reduceIte]; omega) | rfl | (refine And.intro ?_ ?_ <;> (simp only [push_objs, push_next, set_objs, set_next, ↓reduceIte]; done)))
    | (with_reducible apply ex_and); · (first | assumption | exact St.push_same _ _ | exact St.set_same _ _ _ | (repeat (first | refine obj_push (by first | omega | (simp only [push_next, set_next]; omega)) ?_ | refine obj_set (by first | omega | (simp only [push_next, set_next]; omega)) ?_)); (first | exact St.push_same _ _ | exact St.set_same _ _ _ | assumption) | omega | (simp only [push_objs, push_next, set_objs, set_next, ↓reduceIte]; done) | (simp only [push_objs, push_next, set_objs, set_next, ↓reduceIte]; omega) | rfl | (refine And.intro ?_ ?_ <;> (simp only [push_objs, push_next, set_objs, set_next, ↓reduceIte]; done)))
    | simp (disch := omega) only [tdivE, tmodE, tdivN, tmodN, wrapI, wrapU8]
    | simp only [go_sem, ↓reduceIte]
    | (refine is_prop ?_; omega)
  all_goals (unfold smallB at hQ; simp_all)
theorem c_digit (b : Int) (hQ : Q (bl (digitB b)) σ) : ACall Try.prog 68 [.sc (.int .u8 b)] σ Q := by
  refine acall_intro (N := 9) (rs := [.tmp 2]) T tabOk Try.func68 (by decide +kernel) rfl Try.ntmps68 Try.results68 (by simp) ?_
  repeat' first
    | (with_reducible refine is_ops ?_); first
      | refine aops_nil ?_
      | refine aops_cons rfl fun K1 h1 => ?_
      | refine aops_wanted rfl rfl (by first | rfl | assumption) fun K1 h1 => ?_
      | refine aops_unwanted rfl rfl (by first | rfl | assumption) ?_
      | refine aops_skip rfl rfl ?_
      | refine aops_guard rfl rfl (fun hg K1 h1 => ?_) (fun hg => ?_) <;> (try (have hw := hg; simp only [Bool.not_eq_true', Bool.not_eq_false', Bool.not_true, Bool.not_false, decide_eq_true_eq, decide_eq_false_iff_not, Int.not_lt, Int.not_le, Bool.or_eq_true, Bool.or_eq_false_iff, Bool.and_eq_true, Bool.and_eq_false_iff, not_true, not_false_eq_true, ne_eq, Decidable.not_not, reduceCtorEq] at hw)) <;> (try (exfalso; omega))
    | (with_reducible refine is_qs ?_); first
      | refine aqs_nil ?_
      | refine aqs_cons (v := ?_) rfl ?_ ?_
      | refine aqs_wanted (v := ?_) rfl rfl (by first | rfl | assumption) ?_ ?_
      | refine aqs_unwanted rfl rfl (by first | rfl | assumption) ?_
      | refine aqs_skip rfl rfl ?_
      | refine aqs_part rfl rfl (fun hg => ?_) (fun hg => ?_) <;> (try (have hw := hg; simp only [Bool.not_eq_true', Bool.not_eq_false', Bool.not_true, Bool.not_false, decide_eq_true_eq, decide_eq_false_iff_not, Int.not_lt, Int.not_le, Bool.or_eq_true, Bool.or_eq_false_iff, Bool.and_eq_true, Bool.and_eq_false_iff, not_true, not_false_eq_true, ne_eq, Decidable.not_not, reduceCtorEq] at hw)) <;> (try (exfalso; omega))
    | (with_reducible refine is_aw ?_); first
      | refine aw_rs tabOk (fun _ => false) _ rfl rfl ?_
      | refine aw_quiet rfl tabOk (fun _ => false) _ rfl rfl (by decide +kernel) ?_
      | refine aw_quiet_end rfl tabOk (fun _ => false) _ rfl rfl (by decide +kernel) ?_
      | refine aw_region tabOk (fun _ => false) _ rfl rfl ?_
      | refine aw_ret ?_
      | refine aw_skip ?_
      | refine aw_exit ?_
      | refine aw_block ?_
      | refine aw_label ?_
      | refine aw_cond_t rfl (by first | rfl | assumption) ?_
      | refine aw_cond_f rfl (by first | rfl | assumption) ?_
      | refine aw_cond rfl (fun hg => ?_) (fun hg => ?_) <;> (try (have hw := hg; simp only [Bool.not_eq_true', Bool.not_eq_false', Bool.not_true, Bool.not_false, decide_eq_true_eq, decide_eq_false_iff_not, Int.not_lt, Int.not_le, Bool.or_eq_true, Bool.or_eq_false_iff, Bool.and_eq_true, Bool.and_eq_false_iff, not_true, not_false_eq_true, ne_eq, Decidable.not_not, reduceCtorEq] at hw)) <;> (try (exfalso; omega))
      | refine aw_seq fun K hK => ?_
    | (with_reducible refine aPick_t ?_ ?_); first | rfl | assumption
    | (with_reducible refine aPick_f ?_ ?_); first | rfl | assumption
    | (with_reducible refine h1 _ _ ?_); clear h1 K1
    | (with_reducible refine hK _ _ ?_); clear hK K
    | with_reducible refine k_use (by assumption) _ _ ?_
    | with_reducible refine k1_use (by assumption) _ _ ?_
    | (with_reducible refine is_store ?_); first
      | simp only [aStore, go_sem, ↓reduceIte]
    | (with_reducible refine is_load ?_); first
      | simp only [aLoad, go_sem, ↓reduceIte]
    | (with_reducible refine is_alloc ?_); first
      | simp only [aAlloc, go_sem, ↓reduceIte]
    | (with_reducible refine is_box ?_); first
      | simp only [aBox, go_sem, ↓reduceIte]
    | (with_reducible refine is_make ?_); first
      | simp only [aMake, go_sem, ↓reduceIte]
    | (with_reducible refine is_bslice ?_); first
      | simp only [aBuildSlice, go_sem, ↓reduceIte]
    | (with_reducible refine is_conv ?_); first
      | simp only [aConvS, go_sem, ↓reduceIte]
    | (with_reducible refine is_append ?_); first
      | refine Grow.append (by (first | assumption | exact Grow.setNew (by assumption) _ _ | exact Grow.push (by assumption) _ | exact Grow.setNew (Grow.setNew (by assumption) _ _) _ _ | exact Grow.push (Grow.setNew (by assumption) _ _) _)) rfl rfl ⟨rfl, rfl, by decide, rfl⟩ ?_ ?_ ?_ (fun x' σ' hG => ?_)
      | simp only [aAppend, go_sem, ↓reduceIte]
    | (with_reducible refine is_len ?_); first
      | refine Grow.len (by (first | assumption | exact Grow.setNew (by assumption) _ _ | exact Grow.push (by assumption) _ | exact Grow.setNew (Grow.setNew (by assumption) _ _) _ _ | exact Grow.push (Grow.setNew (by assumption) _ _) _)) rfl rfl ?_
      | simp only [aLen, go_sem, ↓reduceIte]
    | (with_reducible refine is_all ?_); rfl
    | with_reducible exact ⟨rfl, rfl⟩
    | with_reducible exact rfl
    | (with_reducible refine And.intro ?_ ?_); · (first | assumption | exact St.push_same _ _ | exact St.set_same _ _ _ | (repeat (first | refine obj_push (by first | omega | (simp only [push_next, set_next]; omega)) ?_ | refine obj_set (by first | omega | (simp only [push_next, set_next]; omega)) ?_)); (first | exact St.push_same _ _ | exact St.set_same _ _ _ | assumption) | omega | (simp only [push_objs, push_next, set_objs, set_next, ↓reduceIte]; done) | (simp only [push_objs, push_next, set_objs, set_next, ↓reduceIte]; omega) | rfl | (refine And.intro ?_ ?_ <;> (simp only [push_objs, push_next, set_objs, set_next, ↓reduceIte]; done)))
    | (with_reducible apply ex_and); · (first | assumption | exact St.push_same _ _ | exact St.set_same _ _ _ | (repeat (first | refine obj_push (by first | omega | (simp only [push_next, set_next]; omega)) ?_ | refine obj_set (by first | omega | (simp only [push_next, set_next]; omega)) ?_)); (first | exact St.push_same _ _ | exact St.set_same _ _ _ | assumption) | omega | (simp only [push_objs, push_next, set_objs, set_next, ↓reduceIte]; done) | (simp only [push_objs, push_next, set_objs, set_next, ↓reduceIte]; omega) | rfl | (refine And.intro ?_ ?_ <;> (simp only [push_objs, push_next, set_objs, set_next, ↓reduceIte]; done)))
    | simp (disch := omega) only [tdivE, tmodE, tdivN, tmodN, wrapI, wrapU8]
    | simp only [go_sem, ↓reduceIte]
    | (refine is_prop ?_; omega)
  all_goals (unfold digitB at hQ; simp_all)

/-- spec.l01Name -/
theorem c_l01Name (s : ByteArray) (hQ : Q (bl (isName s)) σ) : ACall Try.prog 38 [str s] σ Q := by
  refine acall_intro (N := 35) (rs := [.tmp 2]) T tabOk Try.func38 (by decide +kernel) rfl Try.ntmps38 Try.results38 (by simp) ?_
  repeat' first
    | (with_reducible refine is_ops ?_); first
      | refine aops_nil ?_
      | refine aops_cons rfl fun K1 h1 => ?_
      | refine aops_wanted rfl rfl (by first | rfl | assumption) fun K1 h1 => ?_
      | refine aops_unwanted rfl rfl (by first | rfl | assumption) ?_
      | refine aops_skip rfl rfl ?_
      | refine aops_guard rfl rfl (fun hg K1 h1 => ?_) (fun hg => ?_) <;> (try (have hw := hg; simp only [Bool.not_eq_true', Bool.not_eq_false', Bool.not_true, Bool.not_false, decide_eq_true_eq, decide_eq_false_iff_not, Int.not_lt, Int.not_le, Bool.or_eq_true, Bool.or_eq_false_iff, Bool.and_eq_true, Bool.and_eq_false_iff, not_true, not_false_eq_true, ne_eq, Decidable.not_not, reduceCtorEq] at hw)) <;> (try (exfalso; omega))
    | (with_reducible refine is_qs ?_); first
      | refine aqs_nil ?_
      | refine aqs_cons (v := ?_) rfl ?_ ?_
      | refine aqs_wanted (v := ?_) rfl rfl (by first | rfl | assumption) ?_ ?_
      | refine aqs_unwanted rfl rfl (by first | rfl | assumption) ?_
      | refine aqs_skip rfl rfl ?_
      | refine aqs_part rfl rfl (fun hg => ?_) (fun hg => ?_) <;> (try (have hw := hg; simp only [Bool.not_eq_true', Bool.not_eq_false', Bool.not_true, Bool.not_false, decide_eq_true_eq, decide_eq_false_iff_not, Int.not_lt, Int.not_le, Bool.or_eq_true, Bool.or_eq_false_iff, Bool.and_eq_true, Bool.and_eq_false_iff, not_true, not_false_eq_true, ne_eq, Decidable.not_not, reduceCtorEq] at hw)) <;> (try (exfalso; omega))
    | (with_reducible refine is_aw ?_); first
      | refine aw_rs tabOk (fun _ => false) _ rfl rfl ?_
      | refine aw_quiet rfl tabOk (fun _ => false) _ rfl rfl (by decide +kernel) ?_
      | refine aw_quiet_end rfl tabOk (fun _ => false) _ rfl rfl (by decide +kernel) ?_
      | refine aw_region tabOk (fun _ => false) _ rfl rfl ?_
      | refine aw_ret ?_
      | refine aw_skip ?_
      | refine aw_exit ?_
      | refine aw_block ?_
      | refine aw_label ?_
      | refine aw_cond_t rfl (by first | rfl | assumption) ?_
      | refine aw_cond_f rfl (by first | rfl | assumption) ?_
      | refine aw_cond rfl (fun hg => ?_) (fun hg => ?_) <;> (try (have hw := hg; simp only [Bool.not_eq_true', Bool.not_eq_false', Bool.not_true, Bool.not_false, decide_eq_true_eq, decide_eq_false_iff_not, Int.not_lt, Int.not_le, Bool.or_eq_true, Bool.or_eq_false_iff, Bool.and_eq_true, Bool.and_eq_false_iff, not_true, not_false_eq_true, ne_eq, Decidable.not_not, reduceCtorEq] at hw)) <;> (try (exfalso; omega))
      | refine aw_seq fun K hK => ?_
    | (with_reducible refine aPick_t ?_ ?_); first | rfl | assumption
    | (with_reducible refine aPick_f ?_ ?_); first | rfl | assumption
    | (with_reducible refine h1 _ _ ?_); clear h1 K1
    | (with_reducible refine hK _ _ ?_); clear hK K
    | with_reducible refine k_use (by assumption) _ _ ?_
    | with_reducible refine k1_use (by assumption) _ _ ?_
    | (with_reducible refine is_call ?_); first
      | refine c_small _ ?_
    | (with_reducible refine is_store ?_); first
      | simp only [aStore, go_sem, ↓reduceIte]
    | (with_reducible refine is_load ?_); first
      | simp only [aLoad, go_sem, ↓reduceIte]
    | (with_reducible refine is_alloc ?_); first
      | simp only [aAlloc, go_sem, ↓reduceIte]
    | (with_reducible refine is_box ?_); first
      | simp only [aBox, go_sem, ↓reduceIte]
    | (with_reducible refine is_make ?_); first
      | simp only [aMake, go_sem, ↓reduceIte]
    | (with_reducible refine is_bslice ?_); first
      | simp only [aBuildSlice, go_sem, ↓reduceIte]
    | (with_reducible refine is_conv ?_); first
      | simp only [aConvS, go_sem, ↓reduceIte]
    | (with_reducible refine is_append ?_); first
      | refine Grow.append (by (first | assumption | exact Grow.setNew (by assumption) _ _ | exact Grow.push (by assumption) _ | exact Grow.setNew (Grow.setNew (by assumption) _ _) _ _ | exact Grow.push (Grow.setNew (by assumption) _ _) _)) rfl rfl ⟨rfl, rfl, by decide, rfl⟩ ?_ ?_ ?_ (fun x' σ' hG => ?_)
      | simp only [aAppend, go_sem, ↓reduceIte]
    | (with_reducible refine is_len ?_); first
      | refine Grow.len (by (first | assumption | exact Grow.setNew (by assumption) _ _ | exact Grow.push (by assumption) _ | exact Grow.setNew (Grow.setNew (by assumption) _ _) _ _ | exact Grow.push (Grow.setNew (by assumption) _ _) _)) rfl rfl ?_
      | simp only [aLen, go_sem, ↓reduceIte]
    | (with_reducible refine is_all ?_); rfl
    | with_reducible exact ⟨rfl, rfl⟩
    | with_reducible exact rfl
    | (with_reducible refine And.intro ?_ ?_); · (first | assumption | exact St.push_same _ _ | exact St.set_same _ _ _ | (repeat (first | refine obj_push (by first | omega | (simp only [push_next, set_next]; omega)) ?_ | refine obj_set (by first | omega | (simp only [push_next, set_next]; omega)) ?_)); (first | exact St.push_same _ _ | exact St.set_same _ _ _ | assumption) | omega | (simp only [push_objs, push_next, set_objs, set_next, ↓reduceIte]; done) | (simp only [push_objs, push_next, set_objs, set_next, ↓reduceIte]; omega) | rfl | (refine And.intro ?_ ?_ <;> (simp only [push_objs, push_next, set_objs, set_next, ↓reduceIte]; done)))
    | (with_reducible apply ex_and); · (first | assumption | exact St.push_same _ _ | exact St.set_same _ _ _ | (repeat (first | refine obj_push (by first | omega | (simp only [push_next, set_next]; omega)) ?_ | refine obj_set (by first | omega | (simp only [push_next, set_next]; omega)) ?_)); (first | exact St.push_same _ _ | exact St.set_same _ _ _ | assumption) | omega | (simp only [push_objs, push_next, set_objs, set_next, ↓reduceIte]; done) | (simp only [push_objs, push_next, set_objs, set_next, ↓reduceIte]; omega) | rfl | (refine And.intro ?_ ?_ <;> (simp only [push_objs, push_next, set_objs, set_next, ↓reduceIte]; done)))
    | simp (disch := omega) only [tdivE, tmodE, tdivN, tmodN, wrapI, wrapU8]
    | simp only [go_sem, ↓reduceIte]
    | (refine is_prop ?_; omega)
  all_goals try (refine ab_eq hQ (bl_false ?_); simp only [isName, *, Bool.and_false, Bool.false_and]; done)
  all_goals try (refine ab_eq hQ (bl_false ?_); simp only [isName, Bool.and_eq_false_iff, decide_eq_false_iff_not]; omega)
  have hb : smallB (byteAt s 0) = true := by assumption
  have hE : isName s = nameBytes s s.size := by
    have h2 : decide (1 ≤ s.size ∧ s.size ≤ 10) = true := by simp only [decide_eq_true_eq]; omega
    simp only [isName, hb, h2, Bool.true_and]
  rw [hE] at hQ
  refine aw_count s.size (fun i e τ => τ = σ ∧ nameBytes s i = true ∧ e 0 = str s ∧ e 3 = i64 i) ⟨rfl, rfl, rfl, rfl⟩ ?_
  rintro i e τ ⟨rfl, hp, h0, h3⟩ hi
  repeat' first
    | (with_reducible refine is_ops ?_); first
      | refine aops_nil ?_
      | refine aops_cons rfl fun K1 h1 => ?_
      | refine aops_wanted rfl rfl (by first | rfl | assumption) fun K1 h1 => ?_
      | refine aops_unwanted rfl rfl (by first | rfl | assumption) ?_
      | refine aops_skip rfl rfl ?_
      | refine aops_guard rfl rfl (fun hg K1 h1 => ?_) (fun hg => ?_) <;> (try (have hw := hg; simp only [Bool.not_eq_true', Bool.not_eq_false', Bool.not_true, Bool.not_false, decide_eq_true_eq, decide_eq_false_iff_not, Int.not_lt, Int.not_le, Bool.or_eq_true, Bool.or_eq_false_iff, Bool.and_eq_true, Bool.and_eq_false_iff, not_true, not_false_eq_true, ne_eq, Decidable.not_not, reduceCtorEq] at hw)) <;> (try (exfalso; omega))
    | (with_reducible refine is_qs ?_); first
      | refine aqs_nil ?_
      | refine aqs_cons (v := ?_) rfl ?_ ?_
      | refine aqs_wanted (v := ?_) rfl rfl (by first | rfl | assumption) ?_ ?_
      | refine aqs_unwanted rfl rfl (by first | rfl | assumption) ?_
      | refine aqs_skip rfl rfl ?_
      | refine aqs_part rfl rfl (fun hg => ?_) (fun hg => ?_) <;> (try (have hw := hg; simp only [Bool.not_eq_true', Bool.not_eq_false', Bool.not_true, Bool.not_false, decide_eq_true_eq, decide_eq_false_iff_not, Int.not_lt, Int.not_le, Bool.or_eq_true, Bool.or_eq_false_iff, Bool.and_eq_true, Bool.and_eq_false_iff, not_true, not_false_eq_true, ne_eq, Decidable.not_not, reduceCtorEq] at hw)) <;> (try (exfalso; omega))
    | (with_reducible refine is_aw ?_); first
      | refine aw_rs tabOk (fun _ => false) _ rfl rfl ?_
      | refine aw_quiet rfl tabOk (fun _ => false) _ rfl rfl (by decide +kernel) ?_
      | refine aw_quiet_end rfl tabOk (fun _ => false) _ rfl rfl (by decide +kernel) ?_
      | refine aw_region tabOk (fun _ => false) _ rfl rfl ?_
      | refine aw_ret ?_
      | refine aw_skip ?_
      | refine aw_exit ?_
      | refine aw_block ?_
      | refine aw_label ?_
      | refine aw_cond_t rfl (by first | rfl | assumption) ?_
      | refine aw_cond_f rfl (by first | rfl | assumption) ?_
      | refine aw_cond rfl (fun hg => ?_) (fun hg => ?_) <;> (try (have hw := hg; simp only [Bool.not_eq_true', Bool.not_eq_false', Bool.not_true, Bool.not_false, decide_eq_true_eq, decide_eq_false_iff_not, Int.not_lt, Int.not_le, Bool.or_eq_true, Bool.or_eq_false_iff, Bool.and_eq_true, Bool.and_eq_false_iff, not_true, not_false_eq_true, ne_eq, Decidable.not_not, reduceCtorEq] at hw)) <;> (try (exfalso; omega))
      | refine aw_seq fun K hK => ?_
    | (with_reducible refine aPick_t ?_ ?_); first | rfl | assumption
    | (with_reducible refine aPick_f ?_ ?_); first | rfl | assumption
    | (with_reducible refine h1 _ _ ?_); clear h1 K1
    | (with_reducible refine hK _ _ ?_); clear hK K
    | with_reducible refine k_use (by assumption) _ _ ?_
    | with_reducible refine k1_use (by assumption) _ _ ?_
    | (with_reducible refine is_call ?_); first
      | refine c_small _ ?_
      | refine c_digit _ ?_
    | (with_reducible refine is_store ?_); first
      | simp only [h0, h3, aStore, go_sem, ↓reduceIte]
    | (with_reducible refine is_load ?_); first
      | simp only [h0, h3, aLoad, go_sem, ↓reduceIte]
    | (with_reducible refine is_alloc ?_); first
      | simp only [h0, h3, aAlloc, go_sem, ↓reduceIte]
    | (with_reducible refine is_box ?_); first
      | simp only [h0, h3, aBox, go_sem, ↓reduceIte]
    | (with_reducible refine is_make ?_); first
      | simp only [h0, h3, aMake, go_sem, ↓reduceIte]
    | (with_reducible refine is_bslice ?_); first
      | simp only [h0, h3, aBuildSlice, go_sem, ↓reduceIte]
    | (with_reducible refine is_conv ?_); first
      | simp only [h0, h3, aConvS, go_sem, ↓reduceIte]
    | (with_reducible refine is_append ?_); first
      | refine Grow.append (by (first | assumption | exact Grow.setNew (by assumption) _ _ | exact Grow.push (by assumption) _ | exact Grow.setNew (Grow.setNew (by assumption) _ _) _ _ | exact Grow.push (Grow.setNew (by assumption) _ _) _)) rfl rfl ⟨rfl, rfl, by decide, rfl⟩ ?_ ?_ ?_ (fun x' σ' hG => ?_)
      | simp only [h0, h3, aAppend, go_sem, ↓reduceIte]
    | (with_reducible refine is_len ?_); first
      | refine Grow.len (by (first | assumption | exact Grow.setNew (by assumption) _ _ | exact Grow.push (by assumption) _ | exact Grow.setNew (Grow.setNew (by assumption) _ _) _ _ | exact Grow.push (Grow.setNew (by assumption) _ _) _)) rfl rfl ?_
      | simp only [h0, h3, aLen, go_sem, ↓reduceIte]
    | (with_reducible refine is_all ?_); rfl
    | with_reducible exact ⟨rfl, rfl⟩
    | with_reducible exact rfl
    | (with_reducible refine And.intro ?_ ?_); · (first | assumption | exact St.push_same _ _ | exact St.set_same _ _ _ | (repeat (first | refine obj_push (by first | omega | (simp only [push_next, set_next]; omega)) ?_ | refine obj_set (by first | omega | (simp only [push_next, set_next]; omega)) ?_)); (first | exact St.push_same _ _ | exact St.set_same _ _ _ | assumption) | omega | (simp only [push_objs, push_next, set_objs, set_next, ↓reduceIte]; done) | (simp only [push_objs, push_next, set_objs, set_next, ↓reduceIte]; omega) | rfl | (refine And.intro ?_ ?_ <;> (simp only [push_objs, push_next, set_objs, set_next, ↓reduceIte]; done)))
    | (with_reducible apply ex_and); · (first | assumption | exact St.push_same _ _ | exact St.set_same _ _ _ | (repeat (first | refine obj_push (by first | omega | (simp only [push_next, set_next]; omega)) ?_ | refine obj_set (by first | omega | (simp only [push_next, set_next]; omega)) ?_)); (first | exact St.push_same _ _ | exact St.set_same _ _ _ | assumption) | omega | (simp only [push_objs, push_next, set_objs, set_next, ↓reduceIte]; done) | (simp only [push_objs, push_next, set_objs, set_next, ↓reduceIte]; omega) | rfl | (refine And.intro ?_ ?_ <;> (simp only [push_objs, push_next, set_objs, set_next, ↓reduceIte]; done)))
    | simp (disch := omega) only [tdivE, tmodE, tdivN, tmodN, wrapI, wrapU8]
    | simp only [h0, h3, go_sem, ↓reduceIte]
    | (refine is_prop ?_; omega)
  all_goals first
    | (have : i = s.size := by omega
       subst this; rw [hp] at hQ; exact hQ)
    | (have hb : nameB (byteAt s i) = false := by simp only [nameB, *, Bool.or_self]
       rw [nb_false (by omega) hb] at hQ; exact hQ)
    | (have hb : nameB (byteAt s i) = true := by simp only [nameB, *, Bool.true_or, Bool.or_true]
       exact ⟨nb_succ hp hb, rfl⟩)
/-- impl.divUp -/
theorem c_divUp (a b : Int) (ha : 0 ≤ a ∧ a ≤ 1000) (hb : 1 ≤ b ∧ b ≤ 1000) (hQ : Q (i64 ((a + b - 1) / b)) σ) : ACall Try.prog 59 [i64 a, i64 b] σ Q := by
  have h1 : 0 ≤ (a + b - 1) / b := Int.ediv_nonneg (by omega) (by omega)
  have h2 : (a + b - 1) / b ≤ a + b - 1 := Int.ediv_le_self _ (by omega)
  refine acall_intro (N := 11) (rs := [.tmp 4]) T tabOk Try.func59 (by decide +kernel) rfl Try.ntmps59 Try.results59 (by simp) ?_
  repeat' first
    | (with_reducible refine is_ops ?_); first
      | refine aops_nil ?_
      | refine aops_cons rfl fun K1 h1 => ?_
      | refine aops_wanted rfl rfl (by first | rfl | assumption) fun K1 h1 => ?_
      | refine aops_unwanted rfl rfl (by first | rfl | assumption) ?_
      | refine aops_skip rfl rfl ?_
      | refine aops_guard rfl rfl (fun hg K1 h1 => ?_) (fun hg => ?_) <;> (try (have hw := hg; simp only [Bool.not_eq_true', Bool.not_eq_false', Bool.not_true, Bool.not_false, decide_eq_true_eq, decide_eq_false_iff_not, Int.not_lt, Int.not_le, Bool.or_eq_true, Bool.or_eq_false_iff, Bool.and_eq_true, Bool.and_eq_false_iff, not_true, not_false_eq_true, ne_eq, Decidable.not_not, reduceCtorEq] at hw)) <;> (try (exfalso; omega))
    | (with_reducible refine is_qs ?_); first
      | refine aqs_nil ?_
      | refine aqs_cons (v := ?_) rfl ?_ ?_
      | refine aqs_wanted (v := ?_) rfl rfl (by first | rfl | assumption) ?_ ?_
      | refine aqs_unwanted rfl rfl (by first | rfl | assumption) ?_
      | refine aqs_skip rfl rfl ?_
      | refine aqs_part rfl rfl (fun hg => ?_) (fun hg => ?_) <;> (try (have hw := hg; simp only [Bool.not_eq_true', Bool.not_eq_false', Bool.not_true, Bool.not_false, decide_eq_true_eq, decide_eq_false_iff_not, Int.not_lt, Int.not_le, Bool.or_eq_true, Bool.or_eq_false_iff, Bool.and_eq_true, Bool.and_eq_false_iff, not_true, not_false_eq_true, ne_eq, Decidable.not_not, reduceCtorEq] at hw)) <;> (try (exfalso; omega))
    | (with_reducible refine is_aw ?_); first
      | refine aw_rs tabOk (fun _ => false) _ rfl rfl ?_
      | refine aw_quiet rfl tabOk (fun _ => false) _ rfl rfl (by decide +kernel) ?_
      | refine aw_quiet_end rfl tabOk (fun _ => false) _ rfl rfl (by decide +kernel) ?_
      | refine aw_region tabOk (fun _ => false) _ rfl rfl ?_
      | refine aw_ret ?_
      | refine aw_skip ?_
      | refine aw_exit ?_
      | refine aw_block ?_
      | refine aw_label ?_
      | refine aw_cond_t rfl (by first | rfl | assumption) ?_
      | refine aw_cond_f rfl (by first | rfl | assumption) ?_
      | refine aw_cond rfl (fun hg => ?_) (fun hg => ?_) <;> (try (have hw := hg; simp only [Bool.not_eq_true', Bool.not_eq_false', Bool.not_true, Bool.not_false, decide_eq_true_eq, decide_eq_false_iff_not, Int.not_lt, Int.not_le, Bool.or_eq_true, Bool.or_eq_false_iff, Bool.and_eq_true, Bool.and_eq_false_iff, not_true, not_false_eq_true, ne_eq, Decidable.not_not, reduceCtorEq] at hw)) <;> (try (exfalso; omega))
      | refine aw_seq fun K hK => ?_
    | (with_reducible refine aPick_t ?_ ?_); first | rfl | assumption
    | (with_reducible refine aPick_f ?_ ?_); first | rfl | assumption
    | (with_reducible refine h1 _ _ ?_); clear h1 K1
    | (with_reducible refine hK _ _ ?_); clear hK K
    | with_reducible refine k_use (by assumption) _ _ ?_
    | with_reducible refine k1_use (by assumption) _ _ ?_
    | (with_reducible refine is_store ?_); first
      | simp only [aStore, go_sem, ↓reduceIte]
    | (with_reducible refine is_load ?_); first
      | simp only [aLoad, go_sem, ↓reduceIte]
    | (with_reducible refine is_alloc ?_); first
      | simp only [aAlloc, go_sem, ↓reduceIte]
    | (with_reducible refine is_box ?_); first
      | simp only [aBox, go_sem, ↓reduceIte]
    | (with_reducible refine is_make ?_); first
      | simp only [aMake, go_sem, ↓reduceIte]
    | (with_reducible refine is_bslice ?_); first
      | simp only [aBuildSlice, go_sem, ↓reduceIte]
    | (with_reducible refine is_conv ?_); first
      | simp only [aConvS, go_sem, ↓reduceIte]
    | (with_reducible refine is_append ?_); first
      | refine Grow.append (by (first | assumption | exact Grow.setNew (by assumption) _ _ | exact Grow.push (by assumption) _ | exact Grow.setNew (Grow.setNew (by assumption) _ _) _ _ | exact Grow.push (Grow.setNew (by assumption) _ _) _)) rfl rfl ⟨rfl, rfl, by decide, rfl⟩ ?_ ?_ ?_ (fun x' σ' hG => ?_)
      | simp only [aAppend, go_sem, ↓reduceIte]
    | (with_reducible refine is_len ?_); first
      | refine Grow.len (by (first | assumption | exact Grow.setNew (by assumption) _ _ | exact Grow.push (by assumption) _ | exact Grow.setNew (Grow.setNew (by assumption) _ _) _ _ | exact Grow.push (Grow.setNew (by assumption) _ _) _)) rfl rfl ?_
      | simp only [aLen, go_sem, ↓reduceIte]
    | (with_reducible refine is_all ?_); rfl
    | with_reducible exact ⟨rfl, rfl⟩
    | with_reducible exact rfl
    | (with_reducible refine And.intro ?_ ?_); · (first | assumption | exact St.push_same _ _ | exact St.set_same _ _ _ | (repeat (first | refine obj_push (by first | omega | (simp only [push_next, set_next]; omega)) ?_ | refine obj_set (by first | omega | (simp only [push_next, set_next]; omega)) ?_)); (first | exact St.push_same _ _ | exact St.set_same _ _ _ | assumption) | omega | (simp only [push_objs, push_next, set_objs, set_next, ↓reduceIte]; done) | (simp only [push_objs, push_next, set_objs, set_next, ↓reduceIte]; omega) | rfl | (refine And.intro ?_ ?_ <;> (simp only [push_objs, push_next, set_objs, set_next, ↓reduceIte]; done)))
    | (with_reducible apply ex_and); · (first | assumption | exact St.push_same _ _ | exact St.set_same _ _ _ | (repeat (first | refine obj_push (by first | omega | (simp only [push_next, set_next]; omega)) ?_ | refine obj_set (by first | omega | (simp only [push_next, set_next]; omega)) ?_)); (first | exact St.push_same _ _ | exact St.set_same _ _ _ | assumption) | omega | (simp only [push_objs, push_next, set_objs, set_next, ↓reduceIte]; done) | (simp only [push_objs, push_next, set_objs, set_next, ↓reduceIte]; omega) | rfl | (refine And.intro ?_ ?_ <;> (simp only [push_objs, push_next, set_objs, set_next, ↓reduceIte]; done)))
    | simp (disch := omega) only [tdivE, tmodE, tdivN, tmodN, wrapI, wrapU8]
    | simp only [go_sem, ↓reduceIte]
    | (refine is_prop ?_; omega)
  all_goals exact hQ
/-- impl.neededGuides -/
def need (p l : Int) : Int := if l = 1 then 0 else if l = 2 then (p + 11) / 12 else if l = 3 then (p + 7) / 8 else if l = 4 then (p + 3) / 4 else p
theorem c_need (p l : Int) (ha : 0 ≤ p ∧ p ≤ 1000) (hQ : Q (i64 (need p l)) σ) : ACall Try.prog 32 [i64 p, i64 l] σ Q := by
  refine acall_intro (N := 21) (rs := [.tmp 4]) T tabOk Try.func32 (by decide +kernel) rfl Try.ntmps32 Try.results32 (by simp) ?_
  repeat' first
    | (with_reducible refine is_ops ?_); first
      | refine aops_nil ?_
      | refine aops_cons rfl fun K1 h1 => ?_
      | refine aops_wanted rfl rfl (by first | rfl | assumption) fun K1 h1 => ?_
      | refine aops_unwanted rfl rfl (by first | rfl | assumption) ?_
      | refine aops_skip rfl rfl ?_
      | refine aops_guard rfl rfl (fun hg K1 h1 => ?_) (fun hg => ?_) <;> (try (have hw := hg; simp only [Bool.not_eq_true', Bool.not_eq_false', Bool.not_true, Bool.not_false, decide_eq_true_eq, decide_eq_false_iff_not, Int.not_lt, Int.not_le, Bool.or_eq_true, Bool.or_eq_false_iff, Bool.and_eq_true, Bool.and_eq_false_iff, not_true, not_false_eq_true, ne_eq, Decidable.not_not, reduceCtorEq] at hw)) <;> (try (exfalso; omega))
    | (with_reducible refine is_qs ?_); first
      | refine aqs_nil ?_
      | refine aqs_cons (v := ?_) rfl ?_ ?_
      | refine aqs_wanted (v := ?_) rfl rfl (by first | rfl | assumption) ?_ ?_
      | refine aqs_unwanted rfl rfl (by first | rfl | assumption) ?_
      | refine aqs_skip rfl rfl ?_
      | refine aqs_part rfl rfl (fun hg => ?_) (fun hg => ?_) <;> (try (have hw := hg; simp only [Bool.not_eq_true', Bool.not_eq_false', Bool.not_true, Bool.not_false, decide_eq_true_eq, decide_eq_false_iff_not, Int.not_lt, Int.not_le, Bool.or_eq_true, Bool.or_eq_false_iff, Bool.and_eq_true, Bool.and_eq_false_iff, not_true, not_false_eq_true, ne_eq, Decidable.not_not, reduceCtorEq] at hw)) <;> (try (exfalso; omega))
    | (with_reducible refine is_aw ?_); first
      | refine aw_rs tabOk (fun _ => false) _ rfl rfl ?_
      | refine aw_quiet rfl tabOk (fun _ => false) _ rfl rfl (by decide +kernel) ?_
      | refine aw_quiet_end rfl tabOk (fun _ => false) _ rfl rfl (by decide +kernel) ?_
      | refine aw_region tabOk (fun _ => false) _ rfl rfl ?_
      | refine aw_ret ?_
      | refine aw_skip ?_
      | refine aw_exit ?_
      | refine aw_block ?_
      | refine aw_label ?_
      | refine aw_cond_t rfl (by first | rfl | assumption) ?_
      | refine aw_cond_f rfl (by first | rfl | assumption) ?_
      | refine aw_cond rfl (fun hg => ?_) (fun hg => ?_) <;> (try (have hw := hg; simp only [Bool.not_eq_true', Bool.not_eq_false', Bool.not_true, Bool.not_false, decide_eq_true_eq, decide_eq_false_iff_not, Int.not_lt, Int.not_le, Bool.or_eq_true, Bool.or_eq_false_iff, Bool.and_eq_true, Bool.and_eq_false_iff, not_true, not_false_eq_true, ne_eq, Decidable.not_not, reduceCtorEq] at hw)) <;> (try (exfalso; omega))
      | refine aw_seq fun K hK => ?_
    | (with_reducible refine aPick_t ?_ ?_); first | rfl | assumption
    | (with_reducible refine aPick_f ?_ ?_); first | rfl | assumption
    | (with_reducible refine h1 _ _ ?_); clear h1 K1
    | (with_reducible refine hK _ _ ?_); clear hK K
    | with_reducible refine k_use (by assumption) _ _ ?_
    | with_reducible refine k1_use (by assumption) _ _ ?_
    | (with_reducible refine is_call ?_); first
      | refine c_divUp _ _ ha (by decide) ?_
    | (with_reducible refine is_store ?_); first
      | simp only [aStore, go_sem, ↓reduceIte]
    | (with_reducible refine is_load ?_); first
      | simp only [aLoad, go_sem, ↓reduceIte]
    | (with_reducible refine is_alloc ?_); first
      | simp only [aAlloc, go_sem, ↓reduceIte]
    | (with_reducible refine is_box ?_); first
      | simp only [aBox, go_sem, ↓reduceIte]
    | (with_reducible refine is_make ?_); first
      | simp only [aMake, go_sem, ↓reduceIte]
    | (with_reducible refine is_bslice ?_); first
      | simp only [aBuildSlice, go_sem, ↓reduceIte]
    | (with_reducible refine is_conv ?_); first
      | simp only [aConvS, go_sem, ↓reduceIte]
    | (with_reducible refine is_append ?_); first
      | refine Grow.append (by (first | assumption | exact Grow.setNew (by assumption) _ _ | exact Grow.push (by assumption) _ | exact Grow.setNew (Grow.setNew (by assumption) _ _) _ _ | exact Grow.push (Grow.setNew (by assumption) _ _) _)) rfl rfl ⟨rfl, rfl, by decide, rfl⟩ ?_ ?_ ?_ (fun x' σ' hG => ?_)
      | simp only [aAppend, go_sem, ↓reduceIte]
    | (with_reducible refine is_len ?_); first
      | refine Grow.len (by (first | assumption | exact Grow.setNew (by assumption) _ _ | exact Grow.push (by assumption) _ | exact Grow.setNew (Grow.setNew (by assumption) _ _) _ _ | exact Grow.push (Grow.setNew (by assumption) _ _) _)) rfl rfl ?_
      | simp only [aLen, go_sem, ↓reduceIte]
    | (with_reducible refine is_all ?_); rfl
    | with_reducible exact ⟨rfl, rfl⟩
    | with_reducible exact rfl
    | (with_reducible refine And.intro ?_ ?_); · (first | assumption | exact St.push_same _ _ | exact St.set_same _ _ _ | (repeat (first | refine obj_push (by first | omega | (simp only [push_next, set_next]; omega)) ?_ | refine obj_set (by first | omega | (simp only [push_next, set_next]; omega)) ?_)); (first | exact St.push_same _ _ | exact St.set_same _ _ _ | assumption) | omega | (simp only [push_objs, push_next, set_objs, set_next, ↓reduceIte]; done) | (simp only [push_objs, push_next, set_objs, set_next, ↓reduceIte]; omega) | rfl | (refine And.intro ?_ ?_ <;> (simp only [push_objs, push_next, set_objs, set_next, ↓reduceIte]; done)))
    | (with_reducible apply ex_and); · (first | assumption | exact St.push_same _ _ | exact St.set_same _ _ _ | (repeat (first | refine obj_push (by first | omega | (simp only [push_next, set_next]; omega)) ?_ | refine obj_set (by first | omega | (simp only [push_next, set_next]; omega)) ?_)); (first | exact St.push_same _ _ | exact St.set_same _ _ _ | assumption) | omega | (simp only [push_objs, push_next, set_objs, set_next, ↓reduceIte]; done) | (simp only [push_objs, push_next, set_objs, set_next, ↓reduceIte]; omega) | rfl | (refine And.intro ?_ ?_ <;> (simp only [push_objs, push_next, set_objs, set_next, ↓reduceIte]; done)))
    | simp (disch := omega) only [tdivE, tmodE, tdivN, tmodN, wrapI, wrapU8]
    | simp only [go_sem, ↓reduceIte]
    | (refine is_prop ?_; omega)
  all_goals (refine ab_eq hQ ?_; simp [need, *]; try omega)
theorem c_l24Guides (p l : Int) (ha : 0 ≤ p ∧ p ≤ 1000) (hQ : Q (i64 (need p l)) σ) : ACall Try.prog 71 [i64 p, i64 l] σ Q := by
  refine acall_intro (N := 24) (rs := [.tmp 4]) T tabOk Try.func71 (by decide +kernel) rfl Try.ntmps71 Try.results71 (by simp) ?_
  repeat' first
    | (with_reducible refine is_ops ?_); first
      | refine aops_nil ?_
      | refine aops_cons rfl fun K1 h1 => ?_
      | refine aops_wanted rfl rfl (by first | rfl | assumption) fun K1 h1 => ?_
      | refine aops_unwanted rfl rfl (by first | rfl | assumption) ?_
      | refine aops_skip rfl rfl ?_
      | refine aops_guard rfl rfl (fun hg K1 h1 => ?_) (fun hg => ?_) <;> (try (have hw := hg; simp only [Bool.not_eq_true', Bool.not_eq_false', Bool.not_true, Bool.not_false, decide_eq_true_eq, decide_eq_false_iff_not, Int.not_lt, Int.not_le, Bool.or_eq_true, Bool.or_eq_false_iff, Bool.and_eq_true, Bool.and_eq_false_iff, not_true, not_false_eq_true, ne_eq, Decidable.not_not, reduceCtorEq] at hw)) <;> (try (exfalso; omega))
    | (with_reducible refine is_qs ?_); first
      | refine aqs_nil ?_
      | refine aqs_cons (v := ?_) rfl ?_ ?_
      | refine aqs_wanted (v := ?_) rfl rfl (by first | rfl | assumption) ?_ ?_
      | refine aqs_unwanted rfl rfl (by first | rfl | assumption) ?_
      | refine aqs_skip rfl rfl ?_
      | refine aqs_part rfl rfl (fun hg => ?_) (fun hg => ?_) <;> (try (have hw := hg; simp only [Bool.not_eq_true', Bool.not_eq_false', Bool.not_true, Bool.not_false, decide_eq_true_eq, decide_eq_false_iff_not, Int.not_lt, Int.not_le, Bool.or_eq_true, Bool.or_eq_false_iff, Bool.and_eq_true, Bool.and_eq_false_iff, not_true, not_false_eq_true, ne_eq, Decidable.not_not, reduceCtorEq] at hw)) <;> (try (exfalso; omega))
    | (with_reducible refine is_aw ?_); first
      | refine aw_rs tabOk (fun _ => false) _ rfl rfl ?_
      | refine aw_quiet rfl tabOk (fun _ => false) _ rfl rfl (by decide +kernel) ?_
      | refine aw_quiet_end rfl tabOk (fun _ => false) _ rfl rfl (by decide +kernel) ?_
      | refine aw_region tabOk (fun _ => false) _ rfl rfl ?_
      | refine aw_ret ?_
      | refine aw_skip ?_
      | refine aw_exit ?_
      | refine aw_block ?_
      | refine aw_label ?_
      | refine aw_cond_t rfl (by first | rfl | assumption) ?_
      | refine aw_cond_f rfl (by first | rfl | assumption) ?_
      | refine aw_cond rfl (fun hg => ?_) (fun hg => ?_) <;> (try (have hw := hg; simp only [Bool.not_eq_true', Bool.not_eq_false', Bool.not_true, Bool.not_false, decide_eq_true_eq, decide_eq_false_iff_not, Int.not_lt, Int.not_le, Bool.or_eq_true, Bool.or_eq_false_iff, Bool.and_eq_true, Bool.and_eq_false_iff, not_true, not_false_eq_true, ne_eq, Decidable.not_not, reduceCtorEq] at hw)) <;> (try (exfalso; omega))
      | refine aw_seq fun K hK => ?_
    | (with_reducible refine aPick_t ?_ ?_); first | rfl | assumption
    | (with_reducible refine aPick_f ?_ ?_); first | rfl | assumption
    | (with_reducible refine h1 _ _ ?_); clear h1 K1
    | (with_reducible refine hK _ _ ?_); clear hK K
    | with_reducible refine k_use (by assumption) _ _ ?_
    | with_reducible refine k1_use (by assumption) _ _ ?_
    | (with_reducible refine is_store ?_); first
      | simp only [aStore, go_sem, ↓reduceIte]
    | (with_reducible refine is_load ?_); first
      | simp only [aLoad, go_sem, ↓reduceIte]
    | (with_reducible refine is_alloc ?_); first
      | simp only [aAlloc, go_sem, ↓reduceIte]
    | (with_reducible refine is_box ?_); first
      | simp only [aBox, go_sem, ↓reduceIte]
    | (with_reducible refine is_make ?_); first
      | simp only [aMake, go_sem, ↓reduceIte]
    | (with_reducible refine is_bslice ?_); first
      | simp only [aBuildSlice, go_sem, ↓reduceIte]
    | (with_reducible refine is_conv ?_); first
      | simp only [aConvS, go_sem, ↓reduceIte]
    | (with_reducible refine is_append ?_); first
      | refine Grow.append (by (first | assumption | exact Grow.setNew (by assumption) _ _ | exact Grow.push (by assumption) _ | exact Grow.setNew (Grow.setNew (by assumption) _ _) _ _ | exact Grow.push (Grow.setNew (by assumption) _ _) _)) rfl rfl ⟨rfl, rfl, by decide, rfl⟩ ?_ ?_ ?_ (fun x' σ' hG => ?_)
      | simp only [aAppend, go_sem, ↓reduceIte]
    | (with_reducible refine is_len ?_); first
      | refine Grow.len (by (first | assumption | exact Grow.setNew (by assumption) _ _ | exact Grow.push (by assumption) _ | exact Grow.setNew (Grow.setNew (by assumption) _ _) _ _ | exact Grow.push (Grow.setNew (by assumption) _ _) _)) rfl rfl ?_
      | simp only [aLen, go_sem, ↓reduceIte]
    | (with_reducible refine is_all ?_); rfl
    | with_reducible exact ⟨rfl, rfl⟩
    | with_reducible exact rfl
    | (with_reducible refine And.intro ?_ ?_); · (first | assumption | exact St.push_same _ _ | exact St.set_same _ _ _ | (repeat (first | refine obj_push (by first | omega | (simp only [push_next, set_next]; omega)) ?_ | refine obj_set (by first | omega | (simp only [push_next, set_next]; omega)) ?_)); (first | exact St.push_same _ _ | exact St.set_same _ _ _ | assumption) | omega | (simp only [push_objs, push_next, set_objs, set_next, ↓reduceIte]; done) | (simp only [push_objs, push_next, set_objs, set_next, ↓reduceIte]; omega) | rfl | (refine And.intro ?_ ?_ <;> (simp only [push_objs, push_next, set_objs, set_next, ↓reduceIte]; done)))
    | (with_reducible apply ex_and); · (first | assumption | exact St.push_same _ _ | exact St.set_same _ _ _ | (repeat (first | refine obj_push (by first | omega | (simp only [push_next, set_next]; omega)) ?_ | refine obj_set (by first | omega | (simp only [push_next, set_next]; omega)) ?_)); (first | exact St.push_same _ _ | exact St.set_same _ _ _ | assumption) | omega | (simp only [push_objs, push_next, set_objs, set_next, ↓reduceIte]; done) | (simp only [push_objs, push_next, set_objs, set_next, ↓reduceIte]; omega) | rfl | (refine And.intro ?_ ?_ <;> (simp only [push_objs, push_next, set_objs, set_next, ↓reduceIte]; done)))
    | simp (disch := omega) only [tdivE, tmodE, tdivN, tmodN, wrapI, wrapU8]
    | simp only [go_sem, ↓reduceIte]
    | (refine is_prop ?_; omega)
  all_goals (refine ab_eq hQ ?_; simp [need, *])

/-- impl.allWithin$1: outside -/
theorem c_outside (a lo hi : Int) (hQ : Q (bl (!inR a lo hi)) σ) : ACall Try.prog 79 [i64 a, .rp false [i64 lo], .rp false [i64 hi]] σ Q := by
  refine acall_intro (N := 10) (rs := [.tmp 4]) T tabOk Try.func79 (by decide +kernel) rfl Try.ntmps79 Try.results79 (by simp) ?_
  repeat' first
    | (with_reducible refine is_ops ?_); first
      | refine aops_nil ?_
      | refine aops_cons rfl fun K1 h1 => ?_
      | refine aops_wanted rfl rfl (by first | rfl | assumption) fun K1 h1 => ?_
      | refine aops_unwanted rfl rfl (by first | rfl | assumption) ?_
      | refine aops_skip rfl rfl ?_
      | refine aops_guard rfl rfl (fun hg K1 h1 => ?_) (fun hg => ?_) <;> (try (have hw := hg; simp only [Bool.not_eq_true', Bool.not_eq_false', Bool.not_true, Bool.not_false, decide_eq_true_eq, decide_eq_false_iff_not, Int.not_lt, Int.not_le, Bool.or_eq_true, Bool.or_eq_false_iff, Bool.and_eq_true, Bool.and_eq_false_iff, not_true, not_false_eq_true, ne_eq, Decidable.not_not, reduceCtorEq] at hw)) <;> (try (exfalso; omega))
    | (with_reducible refine is_qs ?_); first
      | refine aqs_nil ?_
      | refine aqs_cons (v := ?_) rfl ?_ ?_
      | refine aqs_wanted (v := ?_) rfl rfl (by first | rfl | assumption) ?_ ?_
      | refine aqs_unwanted rfl rfl (by first | rfl | assumption) ?_
      | refine aqs_skip rfl rfl ?_
      | refine aqs_part rfl rfl (fun hg => ?_) (fun hg => ?_) <;> (try (have hw := hg; simp only [Bool.not_eq_true', Bool.not_eq_false', Bool.not_true, Bool.not_false, decide_eq_true_eq, decide_eq_false_iff_not, Int.not_lt, Int.not_le, Bool.or_eq_true, Bool.or_eq_false_iff, Bool.and_eq_true, Bool.and_eq_false_iff, not_true, not_false_eq_true, ne_eq, Decidable.not_not, reduceCtorEq] at hw)) <;> (try (exfalso; omega))
    | (with_reducible refine is_aw ?_); first
      | refine aw_rs tabOk (fun _ => false) _ rfl rfl ?_
      | refine aw_quiet rfl tabOk (fun _ => false) _ rfl rfl (by decide +kernel) ?_
      | refine aw_quiet_end rfl tabOk (fun _ => false) _ rfl rfl (by decide +kernel) ?_
      | refine aw_region tabOk (fun _ => false) _ rfl rfl ?_
      | refine aw_ret ?_
      | refine aw_skip ?_
      | refine aw_exit ?_
      | refine aw_block ?_
      | refine aw_label ?_
      | refine aw_cond_t rfl (by first | rfl | assumption) ?_
      | refine aw_cond_f rfl (by first | rfl | assumption) ?_
      | refine aw_cond rfl (fun hg => ?_) (fun hg => ?_) <;> (try (have hw := hg; simp only [Bool.not_eq_true', Bool.not_eq_false', Bool.not_true, Bool.not_false, decide_eq_true_eq, decide_eq_false_iff_not, Int.not_lt, Int.not_le, Bool.or_eq_true, Bool.or_eq_false_iff, Bool.and_eq_true, Bool.and_eq_false_iff, not_true, not_false_eq_true, ne_eq, Decidable.not_not, reduceCtorEq] at hw)) <;> (try (exfalso; omega))
      | refine aw_seq fun K hK => ?_
    | (with_reducible refine aPick_t ?_ ?_); first | rfl | assumption
    | (with_reducible refine aPick_f ?_ ?_); first | rfl | assumption
    | (with_reducible refine h1 _ _ ?_); clear h1 K1
    | (with_reducible refine hK _ _ ?_); clear hK K
    | with_reducible refine k_use (by assumption) _ _ ?_
    | with_reducible refine k1_use (by assumption) _ _ ?_
    | (with_reducible refine is_call ?_); first
      | refine c_within _ _ _ ?_
    | (with_reducible refine is_store ?_); first
      | simp only [aStore, go_sem, ↓reduceIte]
    | (with_reducible refine is_load ?_); first
      | simp only [aLoad, go_sem, ↓reduceIte]
    | (with_reducible refine is_alloc ?_); first
      | simp only [aAlloc, go_sem, ↓reduceIte]
    | (with_reducible refine is_box ?_); first
      | simp only [aBox, go_sem, ↓reduceIte]
    | (with_reducible refine is_make ?_); first
      | simp only [aMake, go_sem, ↓reduceIte]
    | (with_reducible refine is_bslice ?_); first
      | simp only [aBuildSlice, go_sem, ↓reduceIte]
    | (with_reducible refine is_conv ?_); first
      | simp only [aConvS, go_sem, ↓reduceIte]
    | (with_reducible refine is_append ?_); first
      | refine Grow.append (by (first | assumption | exact Grow.setNew (by assumption) _ _ | exact Grow.push (by assumption) _ | exact Grow.setNew (Grow.setNew (by assumption) _ _) _ _ | exact Grow.push (Grow.setNew (by assumption) _ _) _)) rfl rfl ⟨rfl, rfl, by decide, rfl⟩ ?_ ?_ ?_ (fun x' σ' hG => ?_)
      | simp only [aAppend, go_sem, ↓reduceIte]
    | (with_reducible refine is_len ?_); first
      | refine Grow.len (by (first | assumption | exact Grow.setNew (by assumption) _ _ | exact Grow.push (by assumption) _ | exact Grow.setNew (Grow.setNew (by assumption) _ _) _ _ | exact Grow.push (Grow.setNew (by assumption) _ _) _)) rfl rfl ?_
      | simp only [aLen, go_sem, ↓reduceIte]
    | (with_reducible refine is_all ?_); rfl
    | with_reducible exact ⟨rfl, rfl⟩
    | with_reducible exact rfl
    | (with_reducible refine And.intro ?_ ?_); · (first | assumption | exact St.push_same _ _ | exact St.set_same _ _ _ | (repeat (first | refine obj_push (by first | omega | (simp only [push_next, set_next]; omega)) ?_ | refine obj_set (by first | omega | (simp only [push_next, set_next]; omega)) ?_)); (first | exact St.push_same _ _ | exact St.set_same _ _ _ | assumption) | omega | (simp only [push_objs, push_next, set_objs, set_next, ↓reduceIte]; done) | (simp only [push_objs, push_next, set_objs, set_next, ↓reduceIte]; omega) | rfl | (refine And.intro ?_ ?_ <;> (simp only [push_objs, push_next, set_objs, set_next, ↓reduceIte]; done)))
    | (with_reducible apply ex_and); · (first | assumption | exact St.push_same _ _ | exact St.set_same _ _ _ | (repeat (first | refine obj_push (by first | omega | (simp only [push_next, set_next]; omega)) ?_ | refine obj_set (by first | omega | (simp only [push_next, set_next]; omega)) ?_)); (first | exact St.push_same _ _ | exact St.set_same _ _ _ | assumption) | omega | (simp only [push_objs, push_next, set_objs, set_next, ↓reduceIte]; done) | (simp only [push_objs, push_next, set_objs, set_next, ↓reduceIte]; omega) | rfl | (refine And.intro ?_ ?_ <;> (simp only [push_objs, push_next, set_objs, set_next, ↓reduceIte]; done)))
    | simp (disch := omega) only [tdivE, tmodE, tdivN, tmodN, wrapI, wrapU8]
    | simp only [go_sem, ↓reduceIte]
    | (refine is_prop ?_; omega)
  all_goals exact hQ

/-- slices.IndexFunc, of numbers and with the test above -/
theorem c_index (xs : List Int) (hl : xs.length ≤ 100) (lo hi : Int) (hQ : ∀ k : Int, decide (0 ≤ k) = (!xs.all fun a => inR a lo hi) → Q (i64 k) σ) : ACall Try.prog 81 [.lst false 1 (xs.map i64), .fn 79 [] [.rp false [i64 lo], .rp false [i64 hi]]] σ Q := by
  refine acall_intro (N := 19) (rs := [.tmp 4]) T tabOk Try.func81 (by decide +kernel) rfl Try.ntmps81 Try.results81 (by simp) ?_
  repeat' first
    | (with_reducible refine is_ops ?_); first
      | refine aops_nil ?_
      | refine aops_cons rfl fun K1 h1 => ?_
      | refine aops_wanted rfl rfl (by first | rfl | assumption) fun K1 h1 => ?_
      | refine aops_unwanted rfl rfl (by first | rfl | assumption) ?_
      | refine aops_skip rfl rfl ?_
      | refine aops_guard rfl rfl (fun hg K1 h1 => ?_) (fun hg => ?_) <;> (try (have hw := hg; simp only [Bool.not_eq_true', Bool.not_eq_false', Bool.not_true, Bool.not_false, decide_eq_true_eq, decide_eq_false_iff_not, Int.not_lt, Int.not_le, Bool.or_eq_true, Bool.or_eq_false_iff, Bool.and_eq_true, Bool.and_eq_false_iff, not_true, not_false_eq_true, ne_eq, Decidable.not_not, reduceCtorEq] at hw)) <;> (try (exfalso; omega))
    | (with_reducible refine is_qs ?_); first
      | refine aqs_nil ?_
      | refine aqs_cons (v := ?_) rfl ?_ ?_
      | refine aqs_wanted (v := ?_) rfl rfl (by first | rfl | assumption) ?_ ?_
      | refine aqs_unwanted rfl rfl (by first | rfl | assumption) ?_
      | refine aqs_skip rfl rfl ?_
      | refine aqs_part rfl rfl (fun hg => ?_) (fun hg => ?_) <;> (try (have hw := hg; simp only [Bool.not_eq_true', Bool.not_eq_false', Bool.not_true, Bool.not_false, decide_eq_true_eq, decide_eq_false_iff_not, Int.not_lt, Int.not_le, Bool.or_eq_true, Bool.or_eq_false_iff, Bool.and_eq_true, Bool.and_eq_false_iff, not_true, not_false_eq_true, ne_eq, Decidable.not_not, reduceCtorEq] at hw)) <;> (try (exfalso; omega))
    | (with_reducible refine is_aw ?_); first
      | refine aw_rs tabOk (fun _ => false) _ rfl rfl ?_
      | refine aw_quiet rfl tabOk (fun _ => false) _ rfl rfl (by decide +kernel) ?_
      | refine aw_quiet_end rfl tabOk (fun _ => false) _ rfl rfl (by decide +kernel) ?_
      | refine aw_region tabOk (fun _ => false) _ rfl rfl ?_
      | refine aw_ret ?_
      | refine aw_skip ?_
      | refine aw_exit ?_
      | refine aw_block ?_
      | refine aw_label ?_
      | refine aw_cond_t rfl (by first | rfl | assumption) ?_
      | refine aw_cond_f rfl (by first | rfl | assumption) ?_
      | refine aw_cond rfl (fun hg => ?_) (fun hg => ?_) <;> (try (have hw := hg; simp only [Bool.not_eq_true', Bool.not_eq_false', Bool.not_true, Bool.not_false, decide_eq_true_eq, decide_eq_false_iff_not, Int.not_lt, Int.not_le, Bool.or_eq_true, Bool.or_eq_false_iff, Bool.and_eq_true, Bool.and_eq_false_iff, not_true, not_false_eq_true, ne_eq, Decidable.not_not, reduceCtorEq] at hw)) <;> (try (exfalso; omega))
      | refine aw_seq fun K hK => ?_
    | (with_reducible refine aPick_t ?_ ?_); first | rfl | assumption
    | (with_reducible refine aPick_f ?_ ?_); first | rfl | assumption
    | (with_reducible refine h1 _ _ ?_); clear h1 K1
    | (with_reducible refine hK _ _ ?_); clear hK K
    | with_reducible refine k_use (by assumption) _ _ ?_
    | with_reducible refine k1_use (by assumption) _ _ ?_
    | (with_reducible refine is_store ?_); first
      | simp only [aStore, go_sem, ↓reduceIte]
    | (with_reducible refine is_load ?_); first
      | simp only [aLoad, go_sem, ↓reduceIte]
    | (with_reducible refine is_alloc ?_); first
      | simp only [aAlloc, go_sem, ↓reduceIte]
    | (with_reducible refine is_box ?_); first
      | simp only [aBox, go_sem, ↓reduceIte]
    | (with_reducible refine is_make ?_); first
      | simp only [aMake, go_sem, ↓reduceIte]
    | (with_reducible refine is_bslice ?_); first
      | simp only [aBuildSlice, go_sem, ↓reduceIte]
    | (with_reducible refine is_conv ?_); first
      | simp only [aConvS, go_sem, ↓reduceIte]
    | (with_reducible refine is_append ?_); first
      | refine Grow.append (by (first | assumption | exact Grow.setNew (by assumption) _ _ | exact Grow.push (by assumption) _ | exact Grow.setNew (Grow.setNew (by assumption) _ _) _ _ | exact Grow.push (Grow.setNew (by assumption) _ _) _)) rfl rfl ⟨rfl, rfl, by decide, rfl⟩ ?_ ?_ ?_ (fun x' σ' hG => ?_)
      | simp only [aAppend, go_sem, ↓reduceIte]
    | (with_reducible refine is_len ?_); first
      | refine Grow.len (by (first | assumption | exact Grow.setNew (by assumption) _ _ | exact Grow.push (by assumption) _ | exact Grow.setNew (Grow.setNew (by assumption) _ _) _ _ | exact Grow.push (Grow.setNew (by assumption) _ _) _)) rfl rfl ?_
      | simp only [aLen, go_sem, ↓reduceIte]
    | (with_reducible refine is_all ?_); rfl
    | with_reducible exact ⟨rfl, rfl⟩
    | with_reducible exact rfl
    | (with_reducible refine And.intro ?_ ?_); · (first | assumption | exact St.push_same _ _ | exact St.set_same _ _ _ | (repeat (first | refine obj_push (by first | omega | (simp only [push_next, set_next]; omega)) ?_ | refine obj_set (by first | omega | (simp only [push_next, set_next]; omega)) ?_)); (first | exact St.push_same _ _ | exact St.set_same _ _ _ | assumption) | omega | (simp only [push_objs, push_next, set_objs, set_next, ↓reduceIte]; done) | (simp only [push_objs, push_next, set_objs, set_next, ↓reduceIte]; omega) | rfl | (refine And.intro ?_ ?_ <;> (simp only [push_objs, push_next, set_objs, set_next, ↓reduceIte]; done)))
    | (with_reducible apply ex_and); · (first | assumption | exact St.push_same _ _ | exact St.set_same _ _ _ | (repeat (first | refine obj_push (by first | omega | (simp only [push_next, set_next]; omega)) ?_ | refine obj_set (by first | omega | (simp only [push_next, set_next]; omega)) ?_)); (first | exact St.push_same _ _ | exact St.set_same _ _ _ | assumption) | omega | (simp only [push_objs, push_next, set_objs, set_next, ↓reduceIte]; done) | (simp only [push_objs, push_next, set_objs, set_next, ↓reduceIte]; omega) | rfl | (refine And.intro ?_ ?_ <;> (simp only [push_objs, push_next, set_objs, set_next, ↓reduceIte]; done)))
    | simp (disch := omega) only [tdivE, tmodE, tdivN, tmodN, wrapI, wrapU8]
    | simp only [go_sem, ↓reduceIte]
    | (refine is_prop ?_; omega)
  refine aw_count xs.length (fun i e τ => τ = σ ∧ ((xs.take i).all fun a => inR a lo hi) = true ∧ e 0 = .lst false 1 (xs.map i64) ∧ e 1 = .fn 79 [] [.rp false [i64 lo], .rp false [i64 hi]] ∧ e 7 = i64 xs.length ∧ e 8 = i64 i) ⟨rfl, rfl, rfl, rfl, rfl, rfl⟩ ?_
  rintro i e τ ⟨rfl, hp, h0, g1, h7, h8⟩ hi'
  rcases Nat.lt_or_ge i xs.length with hlt | hge
  · have hx : (xs.map i64)[i]? = some (i64 xs[i]) := by simp [hlt]
    repeat' first
      | (with_reducible refine is_ops ?_); first
        | refine aops_nil ?_
        | refine aops_cons rfl fun K1 h1 => ?_
        | refine aops_wanted rfl rfl (by first | rfl | assumption) fun K1 h1 => ?_
        | refine aops_unwanted rfl rfl (by first | rfl | assumption) ?_
        | refine aops_skip rfl rfl ?_
        | refine aops_guard rfl rfl (fun hg K1 h1 => ?_) (fun hg => ?_) <;> (try (have hw := hg; simp only [Bool.not_eq_true', Bool.not_eq_false', Bool.not_true, Bool.not_false, decide_eq_true_eq, decide_eq_false_iff_not, Int.not_lt, Int.not_le, Bool.or_eq_true, Bool.or_eq_false_iff, Bool.and_eq_true, Bool.and_eq_false_iff, not_true, not_false_eq_true, ne_eq, Decidable.not_not, reduceCtorEq] at hw)) <;> (try (exfalso; omega))
      | (with_reducible refine is_qs ?_); first
        | refine aqs_nil ?_
        | refine aqs_cons (v := ?_) rfl ?_ ?_
        | refine aqs_wanted (v := ?_) rfl rfl (by first | rfl | assumption) ?_ ?_
        | refine aqs_unwanted rfl rfl (by first | rfl | assumption) ?_
        | refine aqs_skip rfl rfl ?_
        | refine aqs_part rfl rfl (fun hg => ?_) (fun hg => ?_) <;> (try (have hw := hg; simp only [Bool.not_eq_true', Bool.not_eq_false', Bool.not_true, Bool.not_false, decide_eq_true_eq, decide_eq_false_iff_not, Int.not_lt, Int.not_le, Bool.or_eq_true, Bool.or_eq_false_iff, Bool.and_eq_true, Bool.and_eq_false_iff, not_true, not_false_eq_true, ne_eq, Decidable.not_not, reduceCtorEq] at hw)) <;> (try (exfalso; omega))
      | (with_reducible refine is_aw ?_); first
        | refine aw_rs tabOk (fun _ => false) _ rfl rfl ?_
        | refine aw_quiet rfl tabOk (fun _ => false) _ rfl rfl (by decide +kernel) ?_
        | refine aw_quiet_end rfl tabOk (fun _ => false) _ rfl rfl (by decide +kernel) ?_
        | refine aw_region tabOk (fun _ => false) _ rfl rfl ?_
        | refine aw_ret ?_
        | refine aw_skip ?_
        | refine aw_exit ?_
        | refine aw_block ?_
        | refine aw_label ?_
        | refine aw_cond_t rfl (by first | rfl | assumption) ?_
        | refine aw_cond_f rfl (by first | rfl | assumption) ?_
        | refine aw_cond rfl (fun hg => ?_) (fun hg => ?_) <;> (try (have hw := hg; simp only [Bool.not_eq_true', Bool.not_eq_false', Bool.not_true, Bool.not_false, decide_eq_true_eq, decide_eq_false_iff_not, Int.not_lt, Int.not_le, Bool.or_eq_true, Bool.or_eq_false_iff, Bool.and_eq_true, Bool.and_eq_false_iff, not_true, not_false_eq_true, ne_eq, Decidable.not_not, reduceCtorEq] at hw)) <;> (try (exfalso; omega))
        | refine aw_seq fun K hK => ?_
      | (with_reducible refine aPick_t ?_ ?_); first | rfl | assumption
      | (with_reducible refine aPick_f ?_ ?_); first | rfl | assumption
      | (with_reducible refine h1 _ _ ?_); clear h1 K1
      | (with_reducible refine hK _ _ ?_); clear hK K
      | with_reducible refine k_use (by assumption) _ _ ?_
      | with_reducible refine k1_use (by assumption) _ _ ?_
      | (with_reducible refine is_call ?_); first
        | refine c_outside _ _ _ ?_
      | (with_reducible refine is_store ?_); first
        | simp only [h0, g1, h7, h8, aStore, go_sem, ↓reduceIte]
      | (with_reducible refine is_load ?_); first
        | simp only [h0, g1, h7, h8, aLoad, go_sem, ↓reduceIte]
      | (with_reducible refine is_alloc ?_); first
        | simp only [h0, g1, h7, h8, aAlloc, go_sem, ↓reduceIte]
      | (with_reducible refine is_box ?_); first
        | simp only [h0, g1, h7, h8, aBox, go_sem, ↓reduceIte]
      | (with_reducible refine is_make ?_); first
        | simp only [h0, g1, h7, h8, aMake, go_sem, ↓reduceIte]
      | (with_reducible refine is_bslice ?_); first
        | simp only [h0, g1, h7, h8, aBuildSlice, go_sem, ↓reduceIte]
      | (with_reducible refine is_conv ?_); first
        | simp only [h0, g1, h7, h8, aConvS, go_sem, ↓reduceIte]
      | (with_reducible refine is_append ?_); first
        | refine Grow.append (by (first | assumption | exact Grow.setNew (by assumption) _ _ | exact Grow.push (by assumption) _ | exact Grow.setNew (Grow.setNew (by assumption) _ _) _ _ | exact Grow.push (Grow.setNew (by assumption) _ _) _)) rfl rfl ⟨rfl, rfl, by decide, rfl⟩ ?_ ?_ ?_ (fun x' σ' hG => ?_)
        | simp only [h0, g1, h7, h8, aAppend, go_sem, ↓reduceIte]
      | (with_reducible refine is_len ?_); first
        | refine Grow.len (by (first | assumption | exact Grow.setNew (by assumption) _ _ | exact Grow.push (by assumption) _ | exact Grow.setNew (Grow.setNew (by assumption) _ _) _ _ | exact Grow.push (Grow.setNew (by assumption) _ _) _)) rfl rfl ?_
        | simp only [h0, g1, h7, h8, aLen, go_sem, ↓reduceIte]
      | (with_reducible refine is_all ?_); rfl
      | with_reducible exact ⟨rfl, rfl⟩
      | with_reducible exact rfl
      | (with_reducible refine And.intro ?_ ?_); · (first | assumption | exact St.push_same _ _ | exact St.set_same _ _ _ | (repeat (first | refine obj_push (by first | omega | (simp only [push_next, set_next]; omega)) ?_ | refine obj_set (by first | omega | (simp only [push_next, set_next]; omega)) ?_)); (first | exact St.push_same _ _ | exact St.set_same _ _ _ | assumption) | omega | (simp only [push_objs, push_next, set_objs, set_next, ↓reduceIte]; done) | (simp only [push_objs, push_next, set_objs, set_next, ↓reduceIte]; omega) | rfl | (refine And.intro ?_ ?_ <;> (simp only [push_objs, push_next, set_objs, set_next, ↓reduceIte]; done)))
      | (with_reducible apply ex_and); · (first | assumption | exact St.push_same _ _ | exact St.set_same _ _ _ | (repeat (first | refine obj_push (by first | omega | (simp only [push_next, set_next]; omega)) ?_ | refine obj_set (by first | omega | (simp only [push_next, set_next]; omega)) ?_)); (first | exact St.push_same _ _ | exact St.set_same _ _ _ | assumption) | omega | (simp only [push_objs, push_next, set_objs, set_next, ↓reduceIte]; done) | (simp only [push_objs, push_next, set_objs, set_next, ↓reduceIte]; omega) | rfl | (refine And.intro ?_ ?_ <;> (simp only [push_objs, push_next, set_objs, set_next, ↓reduceIte]; done)))
      | simp (disch := omega) only [tdivE, tmodE, tdivN, tmodN, wrapI, wrapU8]
      | simp only [h0, g1, h7, h8, go_sem, ↓reduceIte]
      | (refine is_prop ?_; omega)
    · refine hQ _ ?_
      have : (xs.all fun a => inR a lo hi) = false := List.all_eq_false.2 ⟨xs[i], List.getElem_mem hlt, by simp_all⟩
      simp [this]
    · refine ⟨?_, rfl⟩
      rw [List.take_add_one, List.all_append, hp, List.getElem?_eq_getElem hlt]; simp_all
  · repeat' first
      | (with_reducible refine is_ops ?_); first
        | refine aops_nil ?_
        | refine aops_cons rfl fun K1 h1 => ?_
        | refine aops_wanted rfl rfl (by first | rfl | assumption) fun K1 h1 => ?_
        | refine aops_unwanted rfl rfl (by first | rfl | assumption) ?_
        | refine aops_skip rfl rfl ?_
        | refine aops_guard rfl rfl (fun hg K1 h1 => ?_) (fun hg => ?_) <;> (try (have hw := hg; simp only [Bool.not_eq_true', Bool.not_eq_false', Bool.not_true, Bool.not_false, decide_eq_true_eq, decide_eq_false_iff_not, Int.not_lt, Int.not_le, Bool.or_eq_true, Bool.or_eq_false_iff, Bool.and_eq_true, Bool.and_eq_false_iff, not_true, not_false_eq_true, ne_eq, Decidable.not_not, reduceCtorEq] at hw)) <;> (try (exfalso; omega))
      | (with_reducible refine is_qs ?_); first
        | refine aqs_nil ?_
        | refine aqs_cons (v := ?_) rfl ?_ ?_
        | refine aqs_wanted (v := ?_) rfl rfl (by first | rfl | assumption) ?_ ?_
        | refine aqs_unwanted rfl rfl (by first | rfl | assumption) ?_
        | refine aqs_skip rfl rfl ?_
        | refine aqs_part rfl rfl (fun hg => ?_) (fun hg => ?_) <;> (try (have hw := hg; simp only [Bool.not_eq_true', Bool.not_eq_false', Bool.not_true, Bool.not_false, decide_eq_true_eq, decide_eq_false_iff_not, Int.not_lt, Int.not_le, Bool.or_eq_true, Bool.or_eq_false_iff, Bool.and_eq_true, Bool.and_eq_false_iff, not_true, not_false_eq_true, ne_eq, Decidable.not_not, reduceCtorEq] at hw)) <;> (try (exfalso; omega))
      | (with_reducible refine is_aw ?_); first
        | refine aw_rs tabOk (fun _ => false) _ rfl rfl ?_
        | refine aw_quiet rfl tabOk (fun _ => false) _ rfl rfl (by decide +kernel) ?_
        | refine aw_quiet_end rfl tabOk (fun _ => false) _ rfl rfl (by decide +kernel) ?_
        | refine aw_region tabOk (fun _ => false) _ rfl rfl ?_
        | refine aw_ret ?_
        | refine aw_skip ?_
        | refine aw_exit ?_
        | refine aw_block ?_
        | refine aw_label ?_
        | refine aw_cond_t rfl (by first | rfl | assumption) ?_
        | refine aw_cond_f rfl (by first | rfl | assumption) ?_
        | refine aw_cond rfl (fun hg => ?_) (fun hg => ?_) <;> (try (have hw := hg; simp only [Bool.not_eq_true', Bool.not_eq_false', Bool.not_true, Bool.not_false, decide_eq_true_eq, decide_eq_false_iff_not, Int.not_lt, Int.not_le, Bool.or_eq_true, Bool.or_eq_false_iff, Bool.and_eq_true, Bool.and_eq_false_iff, not_true, not_false_eq_true, ne_eq, Decidable.not_not, reduceCtorEq] at hw)) <;> (try (exfalso; omega))
        | refine aw_seq fun K hK => ?_
      | (with_reducible refine aPick_t ?_ ?_); first | rfl | assumption
      | (with_reducible refine aPick_f ?_ ?_); first | rfl | assumption
      | (with_reducible refine h1 _ _ ?_); clear h1 K1
      | (with_reducible refine hK _ _ ?_); clear hK K
      | with_reducible refine k_use (by assumption) _ _ ?_
      | with_reducible refine k1_use (by assumption) _ _ ?_
      | (with_reducible refine is_store ?_); first
        | simp only [h0, g1, h7, h8, aStore, go_sem, ↓reduceIte]
      | (with_reducible refine is_load ?_); first
        | simp only [h0, g1, h7, h8, aLoad, go_sem, ↓reduceIte]
      | (with_reducible refine is_alloc ?_); first
        | simp only [h0, g1, h7, h8, aAlloc, go_sem, ↓reduceIte]
      | (with_reducible refine is_box ?_); first
        | simp only [h0, g1, h7, h8, aBox, go_sem, ↓reduceIte]
      | (with_reducible refine is_make ?_); first
        | simp only [h0, g1, h7, h8, aMake, go_sem, ↓reduceIte]
      | (with_reducible refine is_bslice ?_); first
        | simp only [h0, g1, h7, h8, aBuildSlice, go_sem, ↓reduceIte]
      | (with_reducible refine is_conv ?_); first
        | simp only [h0, g1, h7, h8, aConvS, go_sem, ↓reduceIte]
      | (with_reducible refine is_append ?_); first
        | refine Grow.append (by (first | assumption | exact Grow.setNew (by assumption) _ _ | exact Grow.push (by assumption) _ | exact Grow.setNew (Grow.setNew (by assumption) _ _) _ _ | exact Grow.push (Grow.setNew (by assumption) _ _) _)) rfl rfl ⟨rfl, rfl, by decide, rfl⟩ ?_ ?_ ?_ (fun x' σ' hG => ?_)
        | simp only [h0, g1, h7, h8, aAppend, go_sem, ↓reduceIte]
      | (with_reducible refine is_len ?_); first
        | refine Grow.len (by (first | assumption | exact Grow.setNew (by assumption) _ _ | exact Grow.push (by assumption) _ | exact Grow.setNew (Grow.setNew (by assumption) _ _) _ _ | exact Grow.push (Grow.setNew (by assumption) _ _) _)) rfl rfl ?_
        | simp only [h0, g1, h7, h8, aLen, go_sem, ↓reduceIte]
      | (with_reducible refine is_all ?_); rfl
      | with_reducible exact ⟨rfl, rfl⟩
      | with_reducible exact rfl
      | (with_reducible refine And.intro ?_ ?_); · (first | assumption | exact St.push_same _ _ | exact St.set_same _ _ _ | (repeat (first | refine obj_push (by first | omega | (simp only [push_next, set_next]; omega)) ?_ | refine obj_set (by first | omega | (simp only [push_next, set_next]; omega)) ?_)); (first | exact St.push_same _ _ | exact St.set_same _ _ _ | assumption) | omega | (simp only [push_objs, push_next, set_objs, set_next, ↓reduceIte]; done) | (simp only [push_objs, push_next, set_objs, set_next, ↓reduceIte]; omega) | rfl | (refine And.intro ?_ ?_ <;> (simp only [push_objs, push_next, set_objs, set_next, ↓reduceIte]; done)))
      | (with_reducible apply ex_and); · (first | assumption | exact St.push_same _ _ | exact St.set_same _ _ _ | (repeat (first | refine obj_push (by first | omega | (simp only [push_next, set_next]; omega)) ?_ | refine obj_set (by first | omega | (simp only [push_next, set_next]; omega)) ?_)); (first | exact St.push_same _ _ | exact St.set_same _ _ _ | assumption) | omega | (simp only [push_objs, push_next, set_objs, set_next, ↓reduceIte]; done) | (simp only [push_objs, push_next, set_objs, set_next, ↓reduceIte]; omega) | rfl | (refine And.intro ?_ ?_ <;> (simp only [push_objs, push_next, set_objs, set_next, ↓reduceIte]; done)))
      | simp (disch := omega) only [tdivE, tmodE, tdivN, tmodN, wrapI, wrapU8]
      | simp only [h0, g1, h7, h8, go_sem, ↓reduceIte]
      | (refine is_prop ?_; omega)
    refine hQ _ ?_
    rw [List.take_of_length_le hge] at hp
    simp [hp]
theorem c_contains (xs : List Int) (hl : xs.length ≤ 100) (lo hi : Int) (hQ : Q (bl (!xs.all fun a => inR a lo hi)) σ) : ACall Try.prog 78 [.lst false 1 (xs.map i64), .fn 79 [] [.rp false [i64 lo], .rp false [i64 hi]]] σ Q := by
  refine acall_intro (N := 9) (rs := [.tmp 4]) T tabOk Try.func78 (by decide +kernel) rfl Try.ntmps78 Try.results78 (by simp) ?_
  repeat' first
    | (with_reducible refine is_ops ?_); first
      | refine aops_nil ?_
      | refine aops_cons rfl fun K1 h1 => ?_
      | refine aops_wanted rfl rfl (by first | rfl | assumption) fun K1 h1 => ?_
      | refine aops_unwanted rfl rfl (by first | rfl | assumption) ?_
      | refine aops_skip rfl rfl ?_
      | refine aops_guard rfl rfl (fun hg K1 h1 => ?_) (fun hg => ?_) <;> (try (have hw := hg; simp only [Bool.not_eq_true', Bool.not_eq_false', Bool.not_true, Bool.not_false, decide_eq_true_eq, decide_eq_false_iff_not, Int.not_lt, Int.not_le, Bool.or_eq_true, Bool.or_eq_false_iff, Bool.and_eq_true, Bool.and_eq_false_iff, not_true, not_false_eq_true, ne_eq, Decidable.not_not, reduceCtorEq] at hw)) <;> (try (exfalso; omega))
    | (with_reducible refine is_qs ?_); first
      | refine aqs_nil ?_
      | refine aqs_cons (v := ?_) rfl ?_ ?_
      | refine aqs_wanted (v := ?_) rfl rfl (by first | rfl | assumption) ?_ ?_
      | refine aqs_unwanted rfl rfl (by first | rfl | assumption) ?_
      | refine aqs_skip rfl rfl ?_
      | refine aqs_part rfl rfl (fun hg => ?_) (fun hg => ?_) <;> (try (have hw := hg; simp only [Bool.not_eq_true', Bool.not_eq_false', Bool.not_true, Bool.not_false, decide_eq_true_eq, decide_eq_false_iff_not, Int.not_lt, Int.not_le, Bool.or_eq_true, Bool.or_eq_false_iff, Bool.and_eq_true, Bool.and_eq_false_iff, not_true, not_false_eq_true, ne_eq, Decidable.not_not, reduceCtorEq] at hw)) <;> (try (exfalso; omega))
    | (with_reducible refine is_aw ?_); first
      | refine aw_rs tabOk (fun _ => false) _ rfl rfl ?_
      | refine aw_quiet rfl tabOk (fun _ => false) _ rfl rfl (by decide +kernel) ?_
      | refine aw_quiet_end rfl tabOk (fun _ => false) _ rfl rfl (by decide +kernel) ?_
      | refine aw_region tabOk (fun _ => false) _ rfl rfl ?_
      | refine aw_ret ?_
      | refine aw_skip ?_
      | refine aw_exit ?_
      | refine aw_block ?_
      | refine aw_label ?_
      | refine aw_cond_t rfl (by first | rfl | assumption) ?_
      | refine aw_cond_f rfl (by first | rfl | assumption) ?_
      | refine aw_cond rfl (fun hg => ?_) (fun hg => ?_) <;> (try (have hw := hg; simp only [Bool.not_eq_true', Bool.not_eq_false', Bool.not_true, Bool.not_false, decide_eq_true_eq, decide_eq_false_iff_not, Int.not_lt, Int.not_le, Bool.or_eq_true, Bool.or_eq_false_iff, Bool.and_eq_true, Bool.and_eq_false_iff, not_true, not_false_eq_true, ne_eq, Decidable.not_not, reduceCtorEq] at hw)) <;> (try (exfalso; omega))
      | refine aw_seq fun K hK => ?_
    | (with_reducible refine aPick_t ?_ ?_); first | rfl | assumption
    | (with_reducible refine aPick_f ?_ ?_); first | rfl | assumption
    | (with_reducible refine h1 _ _ ?_); clear h1 K1
    | (with_reducible refine hK _ _ ?_); clear hK K
    | with_reducible refine k_use (by assumption) _ _ ?_
    | with_reducible refine k1_use (by assumption) _ _ ?_
    | (with_reducible refine is_call ?_); first
      | refine c_index xs hl lo hi fun k hk => ?_
    | (with_reducible refine is_store ?_); first
      | simp only [aStore, go_sem, ↓reduceIte]
    | (with_reducible refine is_load ?_); first
      | simp only [aLoad, go_sem, ↓reduceIte]
    | (with_reducible refine is_alloc ?_); first
      | simp only [aAlloc, go_sem, ↓reduceIte]
    | (with_reducible refine is_box ?_); first
      | simp only [aBox, go_sem, ↓reduceIte]
    | (with_reducible refine is_make ?_); first
      | simp only [aMake, go_sem, ↓reduceIte]
    | (with_reducible refine is_bslice ?_); first
      | simp only [aBuildSlice, go_sem, ↓reduceIte]
    | (with_reducible refine is_conv ?_); first
      | simp only [aConvS, go_sem, ↓reduceIte]
    | (with_reducible refine is_append ?_); first
      | refine Grow.append (by (first | assumption | exact Grow.setNew (by assumption) _ _ | exact Grow.push (by assumption) _ | exact Grow.setNew (Grow.setNew (by assumption) _ _) _ _ | exact Grow.push (Grow.setNew (by assumption) _ _) _)) rfl rfl ⟨rfl, rfl, by decide, rfl⟩ ?_ ?_ ?_ (fun x' σ' hG => ?_)
      | simp only [aAppend, go_sem, ↓reduceIte]
    | (with_reducible refine is_len ?_); first
      | refine Grow.len (by (first | assumption | exact Grow.setNew (by assumption) _ _ | exact Grow.push (by assumption) _ | exact Grow.setNew (Grow.setNew (by assumption) _ _) _ _ | exact Grow.push (Grow.setNew (by assumption) _ _) _)) rfl rfl ?_
      | simp only [aLen, go_sem, ↓reduceIte]
    | (with_reducible refine is_all ?_); rfl
    | with_reducible exact ⟨rfl, rfl⟩
    | with_reducible exact rfl
    | (with_reducible refine And.intro ?_ ?_); · (first | assumption | exact St.push_same _ _ | exact St.set_same _ _ _ | (repeat (first | refine obj_push (by first | omega | (simp only [push_next, set_next]; omega)) ?_ | refine obj_set (by first | omega | (simp only [push_next, set_next]; omega)) ?_)); (first | exact St.push_same _ _ | exact St.set_same _ _ _ | assumption) | omega | (simp only [push_objs, push_next, set_objs, set_next, ↓reduceIte]; done) | (simp only [push_objs, push_next, set_objs, set_next, ↓reduceIte]; omega) | rfl | (refine And.intro ?_ ?_ <;> (simp only [push_objs, push_next, set_objs, set_next, ↓reduceIte]; done)))
    | (with_reducible apply ex_and); · (first | assumption | exact St.push_same _ _ | exact St.set_same _ _ _ | (repeat (first | refine obj_push (by first | omega | (simp only [push_next, set_next]; omega)) ?_ | refine obj_set (by first | omega | (simp only [push_next, set_next]; omega)) ?_)); (first | exact St.push_same _ _ | exact St.set_same _ _ _ | assumption) | omega | (simp only [push_objs, push_next, set_objs, set_next, ↓reduceIte]; done) | (simp only [push_objs, push_next, set_objs, set_next, ↓reduceIte]; omega) | rfl | (refine And.intro ?_ ?_ <;> (simp only [push_objs, push_next, set_objs, set_next, ↓reduceIte]; done)))
    | simp (disch := omega) only [tdivE, tmodE, tdivN, tmodN, wrapI, wrapU8]
    | simp only [go_sem, ↓reduceIte]
    | (refine is_prop ?_; omega)
  all_goals (rw [← hk] at hQ; exact hQ)
theorem c_allWithin (xs : List Int) (hl : xs.length ≤ 100) (lo hi : Int) (hQ : Q (bl (xs.all fun a => inR a lo hi)) σ) : ACall Try.prog 58 [.lst false 1 (xs.map i64), i64 lo, i64 hi] σ Q := by
  refine acall_intro (N := 11) (rs := [.tmp 6]) T tabOk Try.func58 (by decide +kernel) rfl Try.ntmps58 Try.results58 (by simp) ?_
  repeat' first
    | (with_reducible refine is_ops ?_); first
      | refine aops_nil ?_
      | refine aops_cons rfl fun K1 h1 => ?_
      | refine aops_wanted rfl rfl (by first | rfl | assumption) fun K1 h1 => ?_
      | refine aops_unwanted rfl rfl (by first | rfl | assumption) ?_
      | refine aops_skip rfl rfl ?_
      | refine aops_guard rfl rfl (fun hg K1 h1 => ?_) (fun hg => ?_) <;> (try (have hw := hg; simp only [Bool.not_eq_true', Bool.not_eq_false', Bool.not_true, Bool.not_false, decide_eq_true_eq, decide_eq_false_iff_not, Int.not_lt, Int.not_le, Bool.or_eq_true, Bool.or_eq_false_iff, Bool.and_eq_true, Bool.and_eq_false_iff, not_true, not_false_eq_true, ne_eq, Decidable.not_not, reduceCtorEq] at hw)) <;> (try (exfalso; omega))
    | (with_reducible refine is_qs ?_); first
      | refine aqs_nil ?_
      | refine aqs_cons (v := ?_) rfl ?_ ?_
      | refine aqs_wanted (v := ?_) rfl rfl (by first | rfl | assumption) ?_ ?_
      | refine aqs_unwanted rfl rfl (by first | rfl | assumption) ?_
      | refine aqs_skip rfl rfl ?_
      | refine aqs_part rfl rfl (fun hg => ?_) (fun hg => ?_) <;> (try (have hw := hg; simp only [Bool.not_eq_true', Bool.not_eq_false', Bool.not_true, Bool.not_false, decide_eq_true_eq, decide_eq_false_iff_not, Int.not_lt, Int.not_le, Bool.or_eq_true, Bool.or_eq_false_iff, Bool.and_eq_true, Bool.and_eq_false_iff, not_true, not_false_eq_true, ne_eq, Decidable.not_not, reduceCtorEq] at hw)) <;> (try (exfalso; omega))
    | (with_reducible refine is_aw ?_); first
      | refine aw_rs tabOk (fun _ => false) _ rfl rfl ?_
      | refine aw_quiet rfl tabOk (fun _ => false) _ rfl rfl (by decide +kernel) ?_
      | refine aw_quiet_end rfl tabOk (fun _ => false) _ rfl rfl (by decide +kernel) ?_
      | refine aw_region tabOk (fun _ => false) _ rfl rfl ?_
      | refine aw_ret ?_
      | refine aw_skip ?_
      | refine aw_exit ?_
      | refine aw_block ?_
      | refine aw_label ?_
      | refine aw_cond_t rfl (by first | rfl | assumption) ?_
      | refine aw_cond_f rfl (by first | rfl | assumption) ?_
      | refine aw_cond rfl (fun hg => ?_) (fun hg => ?_) <;> (try (have hw := hg; simp only [Bool.not_eq_true', Bool.not_eq_false', Bool.not_true, Bool.not_false, decide_eq_true_eq, decide_eq_false_iff_not, Int.not_lt, Int.not_le, Bool.or_eq_true, Bool.or_eq_false_iff, Bool.and_eq_true, Bool.and_eq_false_iff, not_true, not_false_eq_true, ne_eq, Decidable.not_not, reduceCtorEq] at hw)) <;> (try (exfalso; omega))
      | refine aw_seq fun K hK => ?_
    | (with_reducible refine aPick_t ?_ ?_); first | rfl | assumption
    | (with_reducible refine aPick_f ?_ ?_); first | rfl | assumption
    | (with_reducible refine h1 _ _ ?_); clear h1 K1
    | (with_reducible refine hK _ _ ?_); clear hK K
    | with_reducible refine k_use (by assumption) _ _ ?_
    | with_reducible refine k1_use (by assumption) _ _ ?_
    | (with_reducible refine is_call ?_); first
      | refine c_contains xs hl lo hi ?_
    | (with_reducible refine is_store ?_); first
      | simp only [aStore, go_sem, ↓reduceIte]
    | (with_reducible refine is_load ?_); first
      | simp only [aLoad, go_sem, ↓reduceIte]
    | (with_reducible refine is_alloc ?_); first
      | simp only [aAlloc, go_sem, ↓reduceIte]
    | (with_reducible refine is_box ?_); first
      | simp only [aBox, go_sem, ↓reduceIte]
    | (with_reducible refine is_make ?_); first
      | simp only [aMake, go_sem, ↓reduceIte]
    | (with_reducible refine is_bslice ?_); first
      | simp only [aBuildSlice, go_sem, ↓reduceIte]
    | (with_reducible refine is_conv ?_); first
      | simp only [aConvS, go_sem, ↓reduceIte]
    | (with_reducible refine is_append ?_); first
      | refine Grow.append (by (first | assumption | exact Grow.setNew (by assumption) _ _ | exact Grow.push (by assumption) _ | exact Grow.setNew (Grow.setNew (by assumption) _ _) _ _ | exact Grow.push (Grow.setNew (by assumption) _ _) _)) rfl rfl ⟨rfl, rfl, by decide, rfl⟩ ?_ ?_ ?_ (fun x' σ' hG => ?_)
      | simp only [aAppend, go_sem, ↓reduceIte]
    | (with_reducible refine is_len ?_); first
      | refine Grow.len (by (first | assumption | exact Grow.setNew (by assumption) _ _ | exact Grow.push (by assumption) _ | exact Grow.setNew (Grow.setNew (by assumption) _ _) _ _ | exact Grow.push (Grow.setNew (by assumption) _ _) _)) rfl rfl ?_
      | simp only [aLen, go_sem, ↓reduceIte]
    | (with_reducible refine is_all ?_); rfl
    | with_reducible exact ⟨rfl, rfl⟩
    | with_reducible exact rfl
    | (with_reducible refine And.intro ?_ ?_); · (first | assumption | exact St.push_same _ _ | exact St.set_same _ _ _ | (repeat (first | refine obj_push (by first | omega | (simp only [push_next, set_next]; omega)) ?_ | refine obj_set (by first | omega | (simp only [push_next, set_next]; omega)) ?_)); (first | exact St.push_same _ _ | exact St.set_same _ _ _ | assumption) | omega | (simp only [push_objs, push_next, set_objs, set_next, ↓reduceIte]; done) | (simp only [push_objs, push_next, set_objs, set_next, ↓reduceIte]; omega) | rfl | (refine And.intro ?_ ?_ <;> (simp only [push_objs, push_next, set_objs, set_next, ↓reduceIte]; done)))
    | (with_reducible apply ex_and); · (first | assumption | exact St.push_same _ _ | exact St.set_same _ _ _ | (repeat (first | refine obj_push (by first | omega | (simp only [push_next, set_next]; omega)) ?_ | refine obj_set (by first | omega | (simp only [push_next, set_next]; omega)) ?_)); (first | exact St.push_same _ _ | exact St.set_same _ _ _ | assumption) | omega | (simp only [push_objs, push_next, set_objs, set_next, ↓reduceIte]; done) | (simp only [push_objs, push_next, set_objs, set_next, ↓reduceIte]; omega) | rfl | (refine And.intro ?_ ?_ <;> (simp only [push_objs, push_next, set_objs, set_next, ↓reduceIte]; done)))
    | simp (disch := omega) only [tdivE, tmodE, tdivN, tmodN, wrapI, wrapU8]
    | simp only [go_sem, ↓reduceIte]
    | (refine is_prop ?_; omega)
  all_goals exact hQ
end Go.Proofs.Ytamielbdedbnaaa
