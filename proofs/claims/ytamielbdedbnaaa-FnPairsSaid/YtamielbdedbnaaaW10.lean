/- impl.BestPairs. -/
import Derived.Test.YtamielbdedbnaaaW9
set_option linter.unusedSimpArgs false
set_option linter.unusedVariables false
set_option maxHeartbeats 4000000
namespace Go.Proofs.Ytamielbdedbnaaa
open Go.Ab Go.RowKit
variable {σ : St} {Q : AV → St → Prop}
def bestS (l : List Grp) (lv bu : Int) : SS := visS l lv (l.length + 1) ⟨bu, List.replicate l.length false, [], [], -1⟩ 0 0
/-- why it fails: 0 if it does not -/
def bestC (l : List Grp) (lv bu : Int) : Int := if !gsOk l then 1 else if !inR lv 1 5 || !inR bu 1 20000 then 2 else if (bestS l lv bu).bud < 0 then 5 else 0
/-- rows that live behind n, each an object of its own, in the slice x -/
structure LiveRows (bs : List (List Int)) (x : AV) (τ : St) : Prop where
  ex : ∃ o rs, Cut 42 1 (rowsAV rs bs) x o τ ∧ RowsAt τ rs bs ∧ (rs.map (·.1)).Nodup ∧ ∀ r ∈ rs, o ≠ some r.1
theorem p_best (l : List Grp) (lv bu : Int) (b : Bool) (n : Nat) : ACall Try.prog 13 [gsAV b l, i64 lv, i64 bu] (St.emp n) (fun r τ =>
    if bestC l lv bu = 0 then ∃ x, r = .tup [x, i64 (bestS l lv bu).most, i64 0] ∧ LiveRows (bestS l lv bu).best x τ ∧ (∀ p ∈ (bestS l lv bu).best, p.length = 2) ∧ (bestS l lv bu).best.length ≤ 8 else r = .tup [.lst false 0 [], i64 0, i64 (bestC l lv bu)]) := by
  cases q1 : gsOk l with
  | false =>
    have hC : bestC l lv bu = 1 := by unfold bestC; rw [q1]; rfl
    refine ACall.mono (Q := fun r _ => r = .tup [.lst false 0 [], i64 0, i64 1]) ?_ (fun r τ h => by rw [if_neg (by rw [hC]; decide), hC]; exact h)
    refine acall_intro (N := 38) (rs := [.tmp 6, .tmp 7, .tmp 8]) T tabOk Try.func13 (by decide +kernel) rfl Try.ntmps13 Try.results13 (by simp) ?_
    repeat' first
      | (with_reducible refine is_ops ?_); first
        | refine aops_nil ?_
        | refine aops_cons rfl fun K1 h1 => ?_
        | refine aops_wanted rfl rfl (by first | rfl | assumption) fun K1 h1 => ?_
        | refine aops_unwanted rfl rfl (by first | rfl | assumption) ?_
        | refine aops_skip rfl rfl ?_
        | refine aops_guard rfl rfl (fun hg K1 h1 => ?_) (fun hg => ?_) <;> (try (have hw := hg; simp only [Bool.not_eq_true', Bool.not_eq_false', Bool.not_true, Bool.not_false, decide_eq_true_eq, decide_eq_false_iff_not, Int.not_lt, Int.not_le, Bool.or_eq_true, Bool.or_eq_false_iff, Bool.and_eq_true, Bool.and_eq_false_iff, not_true, not_false_eq_true, ne_eq, Decidable.not_not, reduceCtorEq] at hw)) <;> (try (exfalso; omega))
      | (with_reducible refine is_qs ?_); first
        | refine aqs_nil ?_
        | refine aqs_cons (v := ?_) rfl ?_ ?_
        | refine aqs_wanted (v := ?_) rfl rfl (by first | rfl | assumption) ?_ ?_
        | refine aqs_unwanted rfl rfl (by first | rfl | assumption) ?_
        | refine aqs_skip rfl rfl ?_
        | refine aqs_part rfl rfl (fun hg => ?_) (fun hg => ?_) <;> (try (have hw := hg; simp only [Bool.not_eq_true', Bool.not_eq_false', Bool.not_true, Bool.not_false, decide_eq_true_eq, decide_eq_false_iff_not, Int.not_lt, Int.not_le, Bool.or_eq_true, Bool.or_eq_false_iff, Bool.and_eq_true, Bool.and_eq_false_iff, not_true, not_false_eq_true, ne_eq, Decidable.not_not, reduceCtorEq] at hw)) <;> (try (exfalso; omega))
      | (with_reducible refine is_aw ?_); first
        | refine aw_rs tabOk (fun _ => false) _ rfl rfl ?_
        | refine aw_quiet rfl tabOk (fun _ => false) _ rfl rfl (by decide +kernel) ?_
        | refine aw_quiet_end rfl tabOk (fun _ => false) _ rfl rfl (by decide +kernel) ?_
        | refine aw_region tabOk (fun _ => false) _ rfl rfl ?_
        | refine aw_ret ?_
        | refine aw_skip ?_
        | refine aw_exit ?_
        | refine aw_block ?_
        | refine aw_label ?_
        | refine aw_cond_t rfl (by first | rfl | assumption) ?_
        | refine aw_cond_f rfl (by first | rfl | assumption) ?_
        | refine aw_cond rfl (fun hg => ?_) (fun hg => ?_) <;> (try (have hw := hg; simp only [Bool.not_eq_true', Bool.not_eq_false', Bool.not_true, Bool.not_false, decide_eq_true_eq, decide_eq_false_iff_not, Int.not_lt, Int.not_le, Bool.or_eq_true, Bool.or_eq_false_iff, Bool.and_eq_true, Bool.and_eq_false_iff, not_true, not_false_eq_true, ne_eq, Decidable.not_not, reduceCtorEq] at hw)) <;> (try (exfalso; omega))
        | refine aw_seq fun K hK => ?_
      | (with_reducible refine aPick_t ?_ ?_); first | rfl | assumption
      | (with_reducible refine aPick_f ?_ ?_); first | rfl | assumption
      | (with_reducible refine h1 _ _ ?_); clear h1 K1
      | (with_reducible refine hK _ _ ?_); clear hK K
      | with_reducible refine k_use (by assumption) _ _ ?_
      | with_reducible refine k1_use (by assumption) _ _ ?_
      | (with_reducible refine is_call ?_); first
        | refine c_ValidGroups l b ?_
      | (with_reducible refine is_store ?_); first
        | simp only [q1, aStore, go_sem, ↓reduceIte]
      | (with_reducible refine is_load ?_); first
        | simp only [q1, aLoad, go_sem, ↓reduceIte]
      | (with_reducible refine is_alloc ?_); first
        | simp only [q1, aAlloc, go_sem, ↓reduceIte]
      | (with_reducible refine is_box ?_); first
        | simp only [q1, aBox, go_sem, ↓reduceIte]
      | (with_reducible refine is_make ?_); first
        | simp only [q1, aMake, go_sem, ↓reduceIte]
      | (with_reducible refine is_bslice ?_); first
        | simp only [q1, aBuildSlice, go_sem, ↓reduceIte]
      | (with_reducible refine is_conv ?_); first
        | simp only [q1, aConvS, go_sem, ↓reduceIte]
      | (with_reducible refine is_append ?_); first
        | refine Grow.append (by (first | assumption | exact Grow.setNew (by assumption) _ _ | exact Grow.push (by assumption) _ | exact Grow.setNew (Grow.setNew (by assumption) _ _) _ _ | exact Grow.push (Grow.setNew (by assumption) _ _) _)) rfl rfl ⟨rfl, rfl, by decide, rfl⟩ ?_ ?_ ?_ (fun x' σ' hG => ?_)
        | simp only [q1, aAppend, go_sem, ↓reduceIte]
      | (with_reducible refine is_len ?_); first
        | refine Grow.len (by (first | assumption | exact Grow.setNew (by assumption) _ _ | exact Grow.push (by assumption) _ | exact Grow.setNew (Grow.setNew (by assumption) _ _) _ _ | exact Grow.push (Grow.setNew (by assumption) _ _) _)) rfl rfl ?_
        | simp only [q1, aLen, go_sem, ↓reduceIte]
      | (with_reducible refine is_all ?_); rfl
      | with_reducible exact ⟨rfl, rfl⟩
      | with_reducible exact rfl
      | (with_reducible refine And.intro ?_ ?_); · (first | assumption | exact St.push_same _ _ | exact St.set_same _ _ _ | (repeat (first | refine obj_push (by first | omega | (simp only [push_next, set_next]; omega)) ?_ | refine obj_set (by first | omega | (simp only [push_next, set_next]; omega)) ?_)); (first | exact St.push_same _ _ | exact St.set_same _ _ _ | assumption) | omega | (simp only [push_objs, push_next, set_objs, set_next, ↓reduceIte]; done) | (simp only [push_objs, push_next, set_objs, set_next, ↓reduceIte]; omega) | rfl | (refine And.intro ?_ ?_ <;> (simp only [push_objs, push_next, set_objs, set_next, ↓reduceIte]; done)))
      | (with_reducible apply ex_and); · (first | assumption | exact St.push_same _ _ | exact St.set_same _ _ _ | (repeat (first | refine obj_push (by first | omega | (simp only [push_next, set_next]; omega)) ?_ | refine obj_set (by first | omega | (simp only [push_next, set_next]; omega)) ?_)); (first | exact St.push_same _ _ | exact St.set_same _ _ _ | assumption) | omega | (simp only [push_objs, push_next, set_objs, set_next, ↓reduceIte]; done) | (simp only [push_objs, push_next, set_objs, set_next, ↓reduceIte]; omega) | rfl | (refine And.intro ?_ ?_ <;> (simp only [push_objs, push_next, set_objs, set_next, ↓reduceIte]; done)))
      | simp (disch := omega) only [tdivE, tmodE, tdivN, tmodN, wrapI, wrapU8]
      | simp only [q1, go_sem, ↓reduceIte]
      | (refine is_prop ?_; omega)
  | true =>
    have h8 := gsOk_len q1
    cases q2 : (!inR lv 1 5 || !inR bu 1 20000) with
    | true =>
      have hC : bestC l lv bu = 2 := by unfold bestC; rw [q1, q2]; rfl
      refine ACall.mono (Q := fun r _ => r = .tup [.lst false 0 [], i64 0, i64 2]) ?_ (fun r τ h => by rw [if_neg (by rw [hC]; decide), hC]; exact h)
      refine acall_intro (N := 38) (rs := [.tmp 6, .tmp 7, .tmp 8]) T tabOk Try.func13 (by decide +kernel) rfl Try.ntmps13 Try.results13 (by simp) ?_
      cases q3 : inR lv 1 5 with
      | false =>
        repeat' first
          | (with_reducible refine is_ops ?_); first
            | refine aops_nil ?_
            | refine aops_cons rfl fun K1 h1 => ?_
            | refine aops_wanted rfl rfl (by first | rfl | assumption) fun K1 h1 => ?_
            | refine aops_unwanted rfl rfl (by first | rfl | assumption) ?_
            | refine aops_skip rfl rfl ?_
            | refine aops_guard rfl rfl (fun hg K1 h1 => ?_) (fun hg => ?_) <;> (try (have hw := hg; simp only [Bool.not_eq_true', Bool.not_eq_false', Bool.not_true, Bool.not_false, decide_eq_true_eq, decide_eq_false_iff_not, Int.not_lt, Int.not_le, Bool.or_eq_true, Bool.or_eq_false_iff, Bool.and_eq_true, Bool.and_eq_false_iff, not_true, not_false_eq_true, ne_eq, Decidable.not_not, reduceCtorEq] at hw)) <;> (try (exfalso; omega))
          | (with_reducible refine is_qs ?_); first
            | refine aqs_nil ?_
            | refine aqs_cons (v := ?_) rfl ?_ ?_
            | refine aqs_wanted (v := ?_) rfl rfl (by first | rfl | assumption) ?_ ?_
            | refine aqs_unwanted rfl rfl (by first | rfl | assumption) ?_
            | refine aqs_skip rfl rfl ?_
            | refine aqs_part rfl rfl (fun hg => ?_) (fun hg => ?_) <;> (try (have hw := hg; simp only [Bool.not_eq_true', Bool.not_eq_false', Bool.not_true, Bool.not_false, decide_eq_true_eq, decide_eq_false_iff_not, Int.not_lt, Int.not_le, Bool.or_eq_true, Bool.or_eq_false_iff, Bool.and_eq_true, Bool.and_eq_false_iff, not_true, not_false_eq_true, ne_eq, Decidable.not_not, reduceCtorEq] at hw)) <;> (try (exfalso; omega))
          | (with_reducible refine is_aw ?_); first
            | refine aw_rs tabOk (fun _ => false) _ rfl rfl ?_
            | refine aw_quiet rfl tabOk (fun _ => false) _ rfl rfl (by decide +kernel) ?_
            | refine aw_quiet_end rfl tabOk (fun _ => false) _ rfl rfl (by decide +kernel) ?_
            | refine aw_region tabOk (fun _ => false) _ rfl rfl ?_
            | refine aw_ret ?_
            | refine aw_skip ?_
            | refine aw_exit ?_
            | refine aw_block ?_
            | refine aw_label ?_
            | refine aw_cond_t rfl (by first | rfl | assumption) ?_
            | refine aw_cond_f rfl (by first | rfl | assumption) ?_
            | refine aw_cond rfl (fun hg => ?_) (fun hg => ?_) <;> (try (have hw := hg; simp only [Bool.not_eq_true', Bool.not_eq_false', Bool.not_true, Bool.not_false, decide_eq_true_eq, decide_eq_false_iff_not, Int.not_lt, Int.not_le, Bool.or_eq_true, Bool.or_eq_false_iff, Bool.and_eq_true, Bool.and_eq_false_iff, not_true, not_false_eq_true, ne_eq, Decidable.not_not, reduceCtorEq] at hw)) <;> (try (exfalso; omega))
            | refine aw_seq fun K hK => ?_
          | (with_reducible refine aPick_t ?_ ?_); first | rfl | assumption
          | (with_reducible refine aPick_f ?_ ?_); first | rfl | assumption
          | (with_reducible refine h1 _ _ ?_); clear h1 K1
          | (with_reducible refine hK _ _ ?_); clear hK K
          | with_reducible refine k_use (by assumption) _ _ ?_
          | with_reducible refine k1_use (by assumption) _ _ ?_
          | (with_reducible refine is_call ?_); first
            | refine c_ValidGroups l b ?_
            | refine c_levelOk lv ?_
            | refine c_budgetValid bu ?_
          | (with_reducible refine is_store ?_); first
            | simp only [q1, q3, aStore, go_sem, ↓reduceIte]
          | (with_reducible refine is_load ?_); first
            | simp only [q1, q3, aLoad, go_sem, ↓reduceIte]
          | (with_reducible refine is_alloc ?_); first
            | simp only [q1, q3, aAlloc, go_sem, ↓reduceIte]
          | (with_reducible refine is_box ?_); first
            | simp only [q1, q3, aBox, go_sem, ↓reduceIte]
          | (with_reducible refine is_make ?_); first
            | simp only [q1, q3, aMake, go_sem, ↓reduceIte]
          | (with_reducible refine is_bslice ?_); first
            | simp only [q1, q3, aBuildSlice, go_sem, ↓reduceIte]
          | (with_reducible refine is_conv ?_); first
            | simp only [q1, q3, aConvS, go_sem, ↓reduceIte]
          | (with_reducible refine is_append ?_); first
            | refine Grow.append (by (first | assumption | exact Grow.setNew (by assumption) _ _ | exact Grow.push (by assumption) _ | exact Grow.setNew (Grow.setNew (by assumption) _ _) _ _ | exact Grow.push (Grow.setNew (by assumption) _ _) _)) rfl rfl ⟨rfl, rfl, by decide, rfl⟩ ?_ ?_ ?_ (fun x' σ' hG => ?_)
            | simp only [q1, q3, aAppend, go_sem, ↓reduceIte]
          | (with_reducible refine is_len ?_); first
            | refine Grow.len (by (first | assumption | exact Grow.setNew (by assumption) _ _ | exact Grow.push (by assumption) _ | exact Grow.setNew (Grow.setNew (by assumption) _ _) _ _ | exact Grow.push (Grow.setNew (by assumption) _ _) _)) rfl rfl ?_
            | simp only [q1, q3, aLen, go_sem, ↓reduceIte]
          | (with_reducible refine is_all ?_); rfl
          | with_reducible exact ⟨rfl, rfl⟩
          | with_reducible exact rfl
          | (with_reducible refine And.intro ?_ ?_); · (first | assumption | exact St.push_same _ _ | exact St.set_same _ _ _ | (repeat (first | refine obj_push (by first | omega | (simp only [push_next, set_next]; omega)) ?_ | refine obj_set (by first | omega | (simp only [push_next, set_next]; omega)) ?_)); (first | exact St.push_same _ _ | exact St.set_same _ _ _ | assumption) | omega | (simp only [push_objs, push_next, set_objs, set_next, ↓reduceIte]; done) | (simp only [push_objs, push_next, set_objs, set_next, ↓reduceIte]; omega) | rfl | (refine And.intro ?_ ?_ <;> (simp only [push_objs, push_next, set_objs, set_next, ↓reduceIte]; done)))
          | (with_reducible apply ex_and); · (first | assumption | exact St.push_same _ _ | exact St.set_same _ _ _ | (repeat (first | refine obj_push (by first | omega | (simp only [push_next, set_next]; omega)) ?_ | refine obj_set (by first | omega | (simp only [push_next, set_next]; omega)) ?_)); (first | exact St.push_same _ _ | exact St.set_same _ _ _ | assumption) | omega | (simp only [push_objs, push_next, set_objs, set_next, ↓reduceIte]; done) | (simp only [push_objs, push_next, set_objs, set_next, ↓reduceIte]; omega) | rfl | (refine And.intro ?_ ?_ <;> (simp only [push_objs, push_next, set_objs, set_next, ↓reduceIte]; done)))
          | simp (disch := omega) only [tdivE, tmodE, tdivN, tmodN, wrapI, wrapU8]
          | simp only [q1, q3, go_sem, ↓reduceIte]
          | (refine is_prop ?_; omega)
      | true =>
        have q4 : inR bu 1 20000 = false := by simpa [q3] using q2
        repeat' first
          | (with_reducible refine is_ops ?_); first
            | refine aops_nil ?_
            | refine aops_cons rfl fun K1 h1 => ?_
            | refine aops_wanted rfl rfl (by first | rfl | assumption) fun K1 h1 => ?_
            | refine aops_unwanted rfl rfl (by first | rfl | assumption) ?_
            | refine aops_skip rfl rfl ?_
            | refine aops_guard rfl rfl (fun hg K1 h1 => ?_) (fun hg => ?_) <;> (try (have hw := hg; simp only [Bool.not_eq_true', Bool.not_eq_false', Bool.not_true, Bool.not_false, decide_eq_true_eq, decide_eq_false_iff_not, Int.not_lt, Int.not_le, Bool.or_eq_true, Bool.or_eq_false_iff, Bool.and_eq_true, Bool.and_eq_false_iff, not_true, not_false_eq_true, ne_eq, Decidable.not_not, reduceCtorEq] at hw)) <;> (try (exfalso; omega))
          | (with_reducible refine is_qs ?_); first
            | refine aqs_nil ?_
            | refine aqs_cons (v := ?_) rfl ?_ ?_
            | refine aqs_wanted (v := ?_) rfl rfl (by first | rfl | assumption) ?_ ?_
            | refine aqs_unwanted rfl rfl (by first | rfl | assumption) ?_
            | refine aqs_skip rfl rfl ?_
            | refine aqs_part rfl rfl (fun hg => ?_) (fun hg => ?_) <;> (try (have hw := hg; simp only [Bool.not_eq_true', Bool.not_eq_false', Bool.not_true, Bool.not_false, decide_eq_true_eq, decide_eq_false_iff_not, Int.not_lt, Int.not_le, Bool.or_eq_true, Bool.or_eq_false_iff, Bool.and_eq_true, Bool.and_eq_false_iff, not_true, not_false_eq_true, ne_eq, Decidable.not_not, reduceCtorEq] at hw)) <;> (try (exfalso; omega))
          | (with_reducible refine is_aw ?_); first
            | refine aw_rs tabOk (fun _ => false) _ rfl rfl ?_
            | refine aw_quiet rfl tabOk (fun _ => false) _ rfl rfl (by decide +kernel) ?_
            | refine aw_quiet_end rfl tabOk (fun _ => false) _ rfl rfl (by decide +kernel) ?_
            | refine aw_region tabOk (fun _ => false) _ rfl rfl ?_
            | refine aw_ret ?_
            | refine aw_skip ?_
            | refine aw_exit ?_
            | refine aw_block ?_
            | refine aw_label ?_
            | refine aw_cond_t rfl (by first | rfl | assumption) ?_
            | refine aw_cond_f rfl (by first | rfl | assumption) ?_
            | refine aw_cond rfl (fun hg => ?_) (fun hg => ?_) <;> (try (have hw := hg; simp only [Bool.not_eq_true', Bool.not_eq_false', Bool.not_true, Bool.not_false, decide_eq_true_eq, decide_eq_false_iff_not, Int.not_lt, Int.not_le, Bool.or_eq_true, Bool.or_eq_false_iff, Bool.and_eq_true, Bool.and_eq_false_iff, not_true, not_false_eq_true, ne_eq, Decidable.not_not, reduceCtorEq] at hw)) <;> (try (exfalso; omega))
            | refine aw_seq fun K hK => ?_
          | (with_reducible refine aPick_t ?_ ?_); first | rfl | assumption
          | (with_reducible refine aPick_f ?_ ?_); first | rfl | assumption
          | (with_reducible refine h1 _ _ ?_); clear h1 K1
          | (with_reducible refine hK _ _ ?_); clear hK K
          | with_reducible refine k_use (by assumption) _ _ ?_
          | with_reducible refine k1_use (by assumption) _ _ ?_
          | (with_reducible refine is_call ?_); first
            | refine c_ValidGroups l b ?_
            | refine c_levelOk lv ?_
            | refine c_budgetValid bu ?_
          | (with_reducible refine is_store ?_); first
            | simp only [q1, q3, q4, aStore, go_sem, ↓reduceIte]
          | (with_reducible refine is_load ?_); first
            | simp only [q1, q3, q4, aLoad, go_sem, ↓reduceIte]
          | (with_reducible refine is_alloc ?_); first
            | simp only [q1, q3, q4, aAlloc, go_sem, ↓reduceIte]
          | (with_reducible refine is_box ?_); first
            | simp only [q1, q3, q4, aBox, go_sem, ↓reduceIte]
          | (with_reducible refine is_make ?_); first
            | simp only [q1, q3, q4, aMake, go_sem, ↓reduceIte]
          | (with_reducible refine is_bslice ?_); first
            | simp only [q1, q3, q4, aBuildSlice, go_sem, ↓reduceIte]
          | (with_reducible refine is_conv ?_); first
            | simp only [q1, q3, q4, aConvS, go_sem, ↓reduceIte]
          | (with_reducible refine is_append ?_); first
            | refine Grow.append (by (first | assumption | exact Grow.setNew (by assumption) _ _ | exact Grow.push (by assumption) _ | exact Grow.setNew (Grow.setNew (by assumption) _ _) _ _ | exact Grow.push (Grow.setNew (by assumption) _ _) _)) rfl rfl ⟨rfl, rfl, by decide, rfl⟩ ?_ ?_ ?_ (fun x' σ' hG => ?_)
            | simp only [q1, q3, q4, aAppend, go_sem, ↓reduceIte]
          | (with_reducible refine is_len ?_); first
            | refine Grow.len (by (first | assumption | exact Grow.setNew (by assumption) _ _ | exact Grow.push (by assumption) _ | exact Grow.setNew (Grow.setNew (by assumption) _ _) _ _ | exact Grow.push (Grow.setNew (by assumption) _ _) _)) rfl rfl ?_
            | simp only [q1, q3, q4, aLen, go_sem, ↓reduceIte]
          | (with_reducible refine is_all ?_); rfl
          | with_reducible exact ⟨rfl, rfl⟩
          | with_reducible exact rfl
          | (with_reducible refine And.intro ?_ ?_); · (first | assumption | exact St.push_same _ _ | exact St.set_same _ _ _ | (repeat (first | refine obj_push (by first | omega | (simp only [push_next, set_next]; omega)) ?_ | refine obj_set (by first | omega | (simp only [push_next, set_next]; omega)) ?_)); (first | exact St.push_same _ _ | exact St.set_same _ _ _ | assumption) | omega | (simp only [push_objs, push_next, set_objs, set_next, ↓reduceIte]; done) | (simp only [push_objs, push_next, set_objs, set_next, ↓reduceIte]; omega) | rfl | (refine And.intro ?_ ?_ <;> (simp only [push_objs, push_next, set_objs, set_next, ↓reduceIte]; done)))
          | (with_reducible apply ex_and); · (first | assumption | exact St.push_same _ _ | exact St.set_same _ _ _ | (repeat (first | refine obj_push (by first | omega | (simp only [push_next, set_next]; omega)) ?_ | refine obj_set (by first | omega | (simp only [push_next, set_next]; omega)) ?_)); (first | exact St.push_same _ _ | exact St.set_same _ _ _ | assumption) | omega | (simp only [push_objs, push_next, set_objs, set_next, ↓reduceIte]; done) | (simp only [push_objs, push_next, set_objs, set_next, ↓reduceIte]; omega) | rfl | (refine And.intro ?_ ?_ <;> (simp only [push_objs, push_next, set_objs, set_next, ↓reduceIte]; done)))
          | simp (disch := omega) only [tdivE, tmodE, tdivN, tmodN, wrapI, wrapU8]
          | simp only [q1, q3, q4, go_sem, ↓reduceIte]
          | (refine is_prop ?_; omega)
    | false =>
      have hC : bestC l lv bu = if (bestS l lv bu).bud < 0 then 5 else 0 := by unfold bestC; rw [q1, q2]; rfl
      simp only [Bool.or_eq_false_iff, Bool.not_eq_false'] at q2
      obtain ⟨q3, q4⟩ := q2
      have hbt : (1 : Int) * (l.length : Int) ≤ 281474976710656 ∧ (l.length : Int) ≤ 9223372036854775807 := by omega
      have hbt1 : ((1 : Nat) : Int) * (l.length : Int) ≤ 281474976710656 := by omega
      have hbt2 : (l.length : Int) ≤ 9223372036854775807 := by omega
      have hw0 : SW l ⟨bu, List.replicate l.length false, [], [], -1⟩ := ⟨by simp, by simp, by simp, by simp⟩
      have hok : ∀ i, i < l.length → gIn (gAt l i) := fun i hi => gOk_in (gsOk_at q1 hi)
      obtain ⟨hk1, hk2, hk3⟩ := visS_keep l lv h8 (l.length + 1) ⟨bu, List.replicate l.length false, [], [], -1⟩ 0 0 hw0 (Nat.zero_le _) (Nat.zero_le _)
      refine acall_intro (N := 38) (rs := [.tmp 6, .tmp 7, .tmp 8]) T tabOk Try.func13 (by decide +kernel) rfl Try.ntmps13 Try.results13 (by simp) ?_
      repeat' first
        | (with_reducible refine is_ops ?_); first
          | refine aops_nil ?_
          | refine aops_cons rfl fun K1 h1 => ?_
          | refine aops_wanted rfl rfl (by first | rfl | assumption) fun K1 h1 => ?_
          | refine aops_unwanted rfl rfl (by first | rfl | assumption) ?_
          | refine aops_skip rfl rfl ?_
          | refine aops_guard rfl rfl (fun hg K1 h1 => ?_) (fun hg => ?_) <;> (try (have hw := hg; simp only [Bool.not_eq_true', Bool.not_eq_false', Bool.not_true, Bool.not_false, decide_eq_true_eq, decide_eq_false_iff_not, Int.not_lt, Int.not_le, Bool.or_eq_true, Bool.or_eq_false_iff, Bool.and_eq_true, Bool.and_eq_false_iff, not_true, not_false_eq_true, ne_eq, Decidable.not_not, reduceCtorEq] at hw)) <;> (try (exfalso; omega))
        | (with_reducible refine is_qs ?_); first
          | refine aqs_nil ?_
          | refine aqs_cons (v := ?_) rfl ?_ ?_
          | refine aqs_wanted (v := ?_) rfl rfl (by first | rfl | assumption) ?_ ?_
          | refine aqs_unwanted rfl rfl (by first | rfl | assumption) ?_
          | refine aqs_skip rfl rfl ?_
          | refine aqs_part rfl rfl (fun hg => ?_) (fun hg => ?_) <;> (try (have hw := hg; simp only [Bool.not_eq_true', Bool.not_eq_false', Bool.not_true, Bool.not_false, decide_eq_true_eq, decide_eq_false_iff_not, Int.not_lt, Int.not_le, Bool.or_eq_true, Bool.or_eq_false_iff, Bool.and_eq_true, Bool.and_eq_false_iff, not_true, not_false_eq_true, ne_eq, Decidable.not_not, reduceCtorEq] at hw)) <;> (try (exfalso; omega))
        | (with_reducible refine is_aw ?_); first
          | refine aw_rs tabOk (fun _ => false) _ rfl rfl ?_
          | refine aw_quiet rfl tabOk (fun _ => false) _ rfl rfl (by decide +kernel) ?_
          | refine aw_quiet_end rfl tabOk (fun _ => false) _ rfl rfl (by decide +kernel) ?_
          | refine aw_region tabOk (fun _ => false) _ rfl rfl ?_
          | refine aw_ret ?_
          | refine aw_skip ?_
          | refine aw_exit ?_
          | refine aw_block ?_
          | refine aw_label ?_
          | refine aw_cond_t rfl (by first | rfl | assumption) ?_
          | refine aw_cond_f rfl (by first | rfl | assumption) ?_
          | refine aw_cond rfl (fun hg => ?_) (fun hg => ?_) <;> (try (have hw := hg; simp only [Bool.not_eq_true', Bool.not_eq_false', Bool.not_true, Bool.not_false, decide_eq_true_eq, decide_eq_false_iff_not, Int.not_lt, Int.not_le, Bool.or_eq_true, Bool.or_eq_false_iff, Bool.and_eq_true, Bool.and_eq_false_iff, not_true, not_false_eq_true, ne_eq, Decidable.not_not, reduceCtorEq] at hw)) <;> (try (exfalso; omega))
          | refine aw_seq fun K hK => ?_
        | (with_reducible refine aPick_t ?_ ?_); first | rfl | assumption
        | (with_reducible refine aPick_f ?_ ?_); first | rfl | assumption
        | (with_reducible refine h1 _ _ ?_); clear h1 K1
        | (with_reducible refine hK _ _ ?_); clear hK K
        | with_reducible refine k_use (by assumption) _ _ ?_
        | with_reducible refine k1_use (by assumption) _ _ ?_
        | (with_reducible refine is_call ?_); first
          | refine c_ValidGroups l b ?_
          | refine c_levelOk lv ?_
          | refine c_budgetValid bu ?_
        | (with_reducible refine is_store ?_); first
          | simp only [q1, q3, q4, aStore, go_sem, ↓reduceIte]
        | (with_reducible refine is_load ?_); first
          | simp only [q1, q3, q4, aLoad, go_sem, ↓reduceIte]
        | (with_reducible refine is_alloc ?_); first
          | simp only [q1, q3, q4, aAlloc, go_sem, ↓reduceIte]
        | (with_reducible refine is_box ?_); first
          | simp only [q1, q3, q4, aBox, go_sem, ↓reduceIte]
        | (with_reducible refine is_make ?_); first
          | simp only [q1, q3, q4, aMake, go_sem, ↓reduceIte]
        | (with_reducible refine is_bslice ?_); first
          | simp only [q1, q3, q4, aBuildSlice, go_sem, ↓reduceIte]
        | (with_reducible refine is_conv ?_); first
          | simp only [q1, q3, q4, aConvS, go_sem, ↓reduceIte]
        | (with_reducible refine is_append ?_); first
          | refine Grow.append (by (first | assumption | exact Grow.setNew (by assumption) _ _ | exact Grow.push (by assumption) _ | exact Grow.setNew (Grow.setNew (by assumption) _ _) _ _ | exact Grow.push (Grow.setNew (by assumption) _ _) _)) rfl rfl ⟨rfl, rfl, by decide, rfl⟩ ?_ ?_ ?_ (fun x' σ' hG => ?_)
          | simp only [q1, q3, q4, aAppend, go_sem, ↓reduceIte]
        | (with_reducible refine is_len ?_); first
          | refine Grow.len (by (first | assumption | exact Grow.setNew (by assumption) _ _ | exact Grow.push (by assumption) _ | exact Grow.setNew (Grow.setNew (by assumption) _ _) _ _ | exact Grow.push (Grow.setNew (by assumption) _ _) _)) rfl rfl ?_
          | simp only [q1, q3, q4, aLen, go_sem, ↓reduceIte]
        | (with_reducible refine is_all ?_); rfl
        | with_reducible exact ⟨rfl, rfl⟩
        | with_reducible exact rfl
        | (with_reducible refine And.intro ?_ ?_); · (first | assumption | exact St.push_same _ _ | exact St.set_same _ _ _ | (repeat (first | refine obj_push (by first | omega | (simp only [push_next, set_next]; omega)) ?_ | refine obj_set (by first | omega | (simp only [push_next, set_next]; omega)) ?_)); (first | exact St.push_same _ _ | exact St.set_same _ _ _ | assumption) | omega | (simp only [push_objs, push_next, set_objs, set_next, ↓reduceIte]; done) | (simp only [push_objs, push_next, set_objs, set_next, ↓reduceIte]; omega) | rfl | (refine And.intro ?_ ?_ <;> (simp only [push_objs, push_next, set_objs, set_next, ↓reduceIte]; done)))
        | (with_reducible apply ex_and); · (first | assumption | exact St.push_same _ _ | exact St.set_same _ _ _ | (repeat (first | refine obj_push (by first | omega | (simp only [push_next, set_next]; omega)) ?_ | refine obj_set (by first | omega | (simp only [push_next, set_next]; omega)) ?_)); (first | exact St.push_same _ _ | exact St.set_same _ _ _ | assumption) | omega | (simp only [push_objs, push_next, set_objs, set_next, ↓reduceIte]; done) | (simp only [push_objs, push_next, set_objs, set_next, ↓reduceIte]; omega) | rfl | (refine And.intro ?_ ?_ <;> (simp only [push_objs, push_next, set_objs, set_next, ↓reduceIte]; done)))
        | simp (disch := omega) only [tdivE, tmodE, tdivN, tmodN, wrapI, wrapU8]
        | simp only [q1, q3, q4, go_sem, ↓reduceIte]
        | (refine is_prop ?_; omega)
      refine ACall.mono (a_visit (n + 1) 0 n 0 b l lv h8 hok (l.length + 1) ⟨bu, List.replicate l.length false, [], [], -1⟩ 0 0 _ hw0 ⟨none, .lst false 0 [], none, [], .lst false 0 [], ?_⟩ (Nat.zero_le _) (Nat.zero_le _) (by omega)) (fun r τ hS => ?_)
      · refine ⟨by rw [set_objs]; exact if_pos rfl, ?_, Cut.nil _ _ _, Cut.nil _ _ _, trivial, by omega, ⟨by simp, by simp⟩, ⟨by simp, by simp⟩, .inl rfl, ⟨by show n + 1 < n + 2; omega, by show n < n + 2; omega⟩, (fun r hr => by cases hr), by simp, rfl⟩
        rw [set_objs, if_neg (by show ¬ n = n + 1; omega), push_objs, if_neg (by show ¬ n = n + 1; omega), push_objs, if_pos (show n = (St.emp n).next from rfl), List.map_replicate]; rfl
      · change Sr (n + 1) 0 n 0 b l lv (bestS l lv bu) τ at hS
        obtain ⟨op, xp, ob, rs, xb, m⟩ := hS
        repeat' first
          | (with_reducible refine is_ops ?_); first
            | refine aops_nil ?_
            | refine aops_cons rfl fun K1 h1 => ?_
            | refine aops_wanted rfl rfl (by first | rfl | assumption) fun K1 h1 => ?_
            | refine aops_unwanted rfl rfl (by first | rfl | assumption) ?_
            | refine aops_skip rfl rfl ?_
            | refine aops_guard rfl rfl (fun hg K1 h1 => ?_) (fun hg => ?_) <;> (try (have hw := hg; simp only [Bool.not_eq_true', Bool.not_eq_false', Bool.not_true, Bool.not_false, decide_eq_true_eq, decide_eq_false_iff_not, Int.not_lt, Int.not_le, Bool.or_eq_true, Bool.or_eq_false_iff, Bool.and_eq_true, Bool.and_eq_false_iff, not_true, not_false_eq_true, ne_eq, Decidable.not_not, reduceCtorEq] at hw)) <;> (try (exfalso; omega))
          | (with_reducible refine is_qs ?_); first
            | refine aqs_nil ?_
            | refine aqs_cons (v := ?_) rfl ?_ ?_
            | refine aqs_wanted (v := ?_) rfl rfl (by first | rfl | assumption) ?_ ?_
            | refine aqs_unwanted rfl rfl (by first | rfl | assumption) ?_
            | refine aqs_skip rfl rfl ?_
            | refine aqs_part rfl rfl (fun hg => ?_) (fun hg => ?_) <;> (try (have hw := hg; simp only [Bool.not_eq_true', Bool.not_eq_false', Bool.not_true, Bool.not_false, decide_eq_true_eq, decide_eq_false_iff_not, Int.not_lt, Int.not_le, Bool.or_eq_true, Bool.or_eq_false_iff, Bool.and_eq_true, Bool.and_eq_false_iff, not_true, not_false_eq_true, ne_eq, Decidable.not_not, reduceCtorEq] at hw)) <;> (try (exfalso; omega))
          | (with_reducible refine is_aw ?_); first
            | refine aw_rs tabOk (fun _ => false) _ rfl rfl ?_
            | refine aw_quiet rfl tabOk (fun _ => false) _ rfl rfl (by decide +kernel) ?_
            | refine aw_quiet_end rfl tabOk (fun _ => false) _ rfl rfl (by decide +kernel) ?_
            | refine aw_region tabOk (fun _ => false) _ rfl rfl ?_
            | refine aw_ret ?_
            | refine aw_skip ?_
            | refine aw_exit ?_
            | refine aw_block ?_
            | refine aw_label ?_
            | refine aw_cond_t rfl (by first | rfl | assumption) ?_
            | refine aw_cond_f rfl (by first | rfl | assumption) ?_
            | refine aw_cond rfl (fun hg => ?_) (fun hg => ?_) <;> (try (have hw := hg; simp only [Bool.not_eq_true', Bool.not_eq_false', Bool.not_true, Bool.not_false, decide_eq_true_eq, decide_eq_false_iff_not, Int.not_lt, Int.not_le, Bool.or_eq_true, Bool.or_eq_false_iff, Bool.and_eq_true, Bool.and_eq_false_iff, not_true, not_false_eq_true, ne_eq, Decidable.not_not, reduceCtorEq] at hw)) <;> (try (exfalso; omega))
            | refine aw_seq fun K hK => ?_
          | (with_reducible refine aPick_t ?_ ?_); first | rfl | assumption
          | (with_reducible refine aPick_f ?_ ?_); first | rfl | assumption
          | (with_reducible refine h1 _ _ ?_); clear h1 K1
          | (with_reducible refine hK _ _ ?_); clear hK K
          | with_reducible refine k_use (by assumption) _ _ ?_
          | with_reducible refine k1_use (by assumption) _ _ ?_
          | (with_reducible refine is_store ?_); first
            | simp only [q1, q3, q4, aStore, go_sem, ↓reduceIte]
          | (with_reducible refine is_load ?_); first
            | simp only [q1, q3, q4, aLoad, go_sem, ↓reduceIte]
          | (with_reducible refine is_alloc ?_); first
            | simp only [q1, q3, q4, aAlloc, go_sem, ↓reduceIte]
          | (with_reducible refine is_box ?_); first
            | simp only [q1, q3, q4, aBox, go_sem, ↓reduceIte]
          | (with_reducible refine is_make ?_); first
            | simp only [q1, q3, q4, aMake, go_sem, ↓reduceIte]
          | (with_reducible refine is_bslice ?_); first
            | simp only [q1, q3, q4, aBuildSlice, go_sem, ↓reduceIte]
          | (with_reducible refine is_conv ?_); first
            | simp only [q1, q3, q4, aConvS, go_sem, ↓reduceIte]
          | (with_reducible refine is_append ?_); first
            | refine Grow.append (by (first | assumption | exact Grow.setNew (by assumption) _ _ | exact Grow.push (by assumption) _ | exact Grow.setNew (Grow.setNew (by assumption) _ _) _ _ | exact Grow.push (Grow.setNew (by assumption) _ _) _)) rfl rfl ⟨rfl, rfl, by decide, rfl⟩ ?_ ?_ ?_ (fun x' σ' hG => ?_)
            | simp only [q1, q3, q4, aAppend, go_sem, ↓reduceIte]
          | (with_reducible refine is_len ?_); first
            | refine Grow.len (by (first | assumption | exact Grow.setNew (by assumption) _ _ | exact Grow.push (by assumption) _ | exact Grow.setNew (Grow.setNew (by assumption) _ _) _ _ | exact Grow.push (Grow.setNew (by assumption) _ _) _)) rfl rfl ?_
            | simp only [q1, q3, q4, aLen, go_sem, ↓reduceIte]
          | (with_reducible refine is_all ?_); rfl
          | with_reducible exact ⟨rfl, rfl⟩
          | with_reducible exact rfl
          | (with_reducible refine And.intro ?_ ?_); · (first | assumption | exact Mem.hS (by assumption) | exact Mem.ok (by assumption) | exact St.push_same _ _ | exact St.set_same _ _ _ | (repeat (first | refine obj_push (by first | omega | (simp only [push_next, set_next]; omega)) ?_ | refine obj_set (by first | omega | (simp only [push_next, set_next]; omega)) ?_)); (first | exact St.push_same _ _ | exact St.set_same _ _ _ | assumption) | omega | (simp only [push_objs, push_next, set_objs, set_next, ↓reduceIte]; done) | (simp only [push_objs, push_next, set_objs, set_next, ↓reduceIte]; omega) | rfl | (refine And.intro ?_ ?_ <;> (simp only [push_objs, push_next, set_objs, set_next, ↓reduceIte]; done)))
          | (with_reducible apply ex_and); · (first | assumption | exact Mem.hS (by assumption) | exact Mem.ok (by assumption) | exact St.push_same _ _ | exact St.set_same _ _ _ | (repeat (first | refine obj_push (by first | omega | (simp only [push_next, set_next]; omega)) ?_ | refine obj_set (by first | omega | (simp only [push_next, set_next]; omega)) ?_)); (first | exact St.push_same _ _ | exact St.set_same _ _ _ | assumption) | omega | (simp only [push_objs, push_next, set_objs, set_next, ↓reduceIte]; done) | (simp only [push_objs, push_next, set_objs, set_next, ↓reduceIte]; omega) | rfl | (refine And.intro ?_ ?_ <;> (simp only [push_objs, push_next, set_objs, set_next, ↓reduceIte]; done)))
          | simp (disch := omega) only [tdivE, tmodE, tdivN, tmodN, wrapI, wrapU8]
          | simp only [q1, q3, q4, go_sem, ↓reduceIte]
          | (refine is_prop ?_; omega)
        · have hC5 : bestC l lv bu = 5 := by rw [hC, if_pos (by assumption)]
          rw [hC5, if_neg (show ¬ ((5 : Int) = 0) by decide)]
        · have hC0 : bestC l lv bu = 0 := by rw [hC, if_neg (by omega)]
          rw [if_pos hC0]
          exact ⟨xb, rfl, ⟨ob, rs, m.hB, m.hR, m.nd, fun r hr => (m.dr r hr).2.2.2⟩, hk1.bs, hk1.bl⟩
theorem Cut.frzF {ty sz : Nat} {xs ys : List AV} {x : AV} {o : Option Nat} (h : Cut ty sz xs x o σ) (hp : FrzL false σ xs ys) : Frz false σ x (.lst false sz ys) := by
  cases o with
  | none => obtain ⟨rfl, rfl⟩ := h; cases hp; exact .nil
  | some o =>
    obtain ⟨gen, els, rfl, c2, c3, c4⟩ := h
    refine .ref (ob := ⟨ty, sz, gen, els⟩) c2 rfl ?_
    rw [List.drop_zero]; show FrzL false σ (els.take xs.length) ys
    rw [c3]; exact hp
def bestR (l : List Grp) (lv bu : Int) : AV := if bestC l lv bu = 0 then .tup [.lst false 1 ((bestS l lv bu).best.map pAV), i64 (bestS l lv bu).most, i64 0] else .tup [.lst false 0 [], i64 0, i64 (bestC l lv bu)]
theorem c_best (l : List Grp) (lv bu : Int) (b : Bool) (hQ : Q (bestR l lv bu) σ) : ACall Try.prog 13 [gsAV b l, i64 lv, i64 bu] σ Q := by
  refine p_same (r := bestR l lv bu) (fun n => ?_) (by simp only [pureAVs, pureAV, Bool.false_and, Bool.not_false, Bool.true_and, Bool.and_true]; exact pures_map _ fun g => rfl) ?_ hQ
  · refine acall_freeze (ACall.mono (p_best l lv bu b n) fun r τ h => ?_)
    by_cases hC : bestC l lv bu = 0
    · rw [if_pos hC] at h
      obtain ⟨x, rfl, ⟨o, rs, k1, k2, k3, k4⟩, _, _⟩ := h
      exact ⟨_, .tup (.cons (Cut.frzF k1 k2.frz) (.cons (.same rfl) (.cons (.same rfl) .nil))), fun _ => by unfold bestR; rw [if_pos hC]⟩
    · rw [if_neg hC] at h
      exact ⟨_, .same (by rw [h]; rfl), fun _ => by unfold bestR; rw [if_neg hC]; exact h⟩
  · unfold bestR
    split
    · simp only [pureAV, pureAVs, Bool.and_false, Bool.not_false, Bool.true_and, Bool.and_true]
      exact pures_map _ fun p => by simp only [pureAV, Bool.and_false, Bool.not_false, Bool.true_and]; exact pures_map _ fun _ => rfl
    · rfl
end Go.Proofs.Ytamielbdedbnaaa
