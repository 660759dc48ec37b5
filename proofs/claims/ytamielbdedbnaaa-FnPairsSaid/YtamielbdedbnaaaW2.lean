/- Groups: valid, problems, may go. -/
import Derived.Test.YtamielbdedbnaaaW1
set_option linter.unusedSimpArgs false
set_option linter.unusedVariables false
namespace Go.Proofs.Ytamielbdedbnaaa
open Go.Ab Go.RowKit
variable {σ : St} {Q : AV → St → Prop}

structure Grp where
  id : ByteArray
  pe : Int
  gu : Int
  be : Int
  sh : Int
  pr : Int
  sk : Int
abbrev gCs (g : Grp) : List AV := [str g.id, i64 g.pe, i64 g.gu, i64 g.be, i64 g.sh, i64 g.pr, i64 g.sk]
abbrev gAV (g : Grp) : AV := .agg (gCs g)
def gOk (g : Grp) : Bool := isName g.id && inR g.pe 1 30 && inR g.gu 0 g.pe && (inR g.be 0 30 && inR g.sh 0 30 && inR g.pr 0 30) && inR g.sk 1 5

/-- (impl.Group).valid -/
theorem c_valid (g : Grp) (hQ : Q (bl (gOk g)) σ) : ACall Try.prog 30 [gAV g] σ Q := by
  refine acall_intro (N := 33) (rs := [.tmp 2]) T tabOk Try.func30 (by decide +kernel) rfl Try.ntmps30 Try.results30 (by simp) ?_
  repeat' first
    | (with_reducible refine is_ops ?_); first
      | refine aops_nil ?_
      | refine aops_cons rfl fun K1 h1 => ?_
      | refine aops_wanted rfl rfl (by first | rfl | assumption) fun K1 h1 => ?_
      | refine aops_unwanted rfl rfl (by first | rfl | assumption) ?_
      | refine aops_skip rfl rfl ?_
      | refine aops_guard rfl rfl (fun hg K1 h1 => ?_) (fun hg => ?_) <;> (try (have hw := hg; simp only [Bool.not_eq_true', Bool.not_eq_false', Bool.not_true, Bool.not_false, decide_eq_true_eq, decide_eq_false_iff_not, Int.not_lt, Int.not_le, Bool.or_eq_true, Bool.or_eq_false_iff, Bool.and_eq_true, Bool.and_eq_false_iff, not_true, not_false_eq_true, ne_eq, Decidable.not_not, reduceCtorEq] at hw)) <;> (try (exfalso; omega))
    | (with_reducible refine is_qs ?_); first
      | refine aqs_nil ?_
      | refine aqs_cons (v := ?_) rfl ?_ ?_
      | refine aqs_wanted (v := ?_) rfl rfl (by first | rfl | assumption) ?_ ?_
      | refine aqs_unwanted rfl rfl (by first | rfl | assumption) ?_
      | refine aqs_skip rfl rfl ?_
      | refine aqs_part rfl rfl (fun hg => ?_) (fun hg => ?_) <;> (try (have hw := hg; simp only [Bool.not_eq_true', Bool.not_eq_false', Bool.not_true, Bool.not_false, decide_eq_true_eq, decide_eq_false_iff_not, Int.not_lt, Int.not_le, Bool.or_eq_true, Bool.or_eq_false_iff, Bool.and_eq_true, Bool.and_eq_false_iff, not_true, not_false_eq_true, ne_eq, Decidable.not_not, reduceCtorEq] at hw)) <;> (try (exfalso; omega))
    | (with_reducible refine is_aw ?_); first
      | refine aw_rs tabOk (fun _ => false) _ rfl rfl ?_
      | refine aw_quiet rfl tabOk (fun _ => false) _ rfl rfl (by decide +kernel) ?_
      | refine aw_quiet_end rfl tabOk (fun _ => false) _ rfl rfl (by decide +kernel) ?_
      | refine aw_region tabOk (fun _ => false) _ rfl rfl ?_
      | refine aw_ret ?_
      | refine aw_skip ?_
      | refine aw_exit ?_
      | refine aw_block ?_
      | refine aw_label ?_
      | refine aw_cond_t rfl (by first | rfl | assumption) ?_
      | refine aw_cond_f rfl (by first | rfl | assumption) ?_
      | refine aw_cond rfl (fun hg => ?_) (fun hg => ?_) <;> (try (have hw := hg; simp only [Bool.not_eq_true', Bool.not_eq_false', Bool.not_true, Bool.not_false, decide_eq_true_eq, decide_eq_false_iff_not, Int.not_lt, Int.not_le, Bool.or_eq_true, Bool.or_eq_false_iff, Bool.and_eq_true, Bool.and_eq_false_iff, not_true, not_false_eq_true, ne_eq, Decidable.not_not, reduceCtorEq] at hw)) <;> (try (exfalso; omega))
      | refine aw_seq fun K hK => ?_
    | (with_reducible refine aPick_t ?_ ?_); first | rfl | assumption
    | (with_reducible refine aPick_f ?_ ?_); first | rfl | assumption
    | (with_reducible refine h1 _ _ ?_); clear h1 K1
    | (with_reducible refine hK _ _ ?_); clear hK K
    | with_reducible refine k_use (by assumption) _ _ ?_
    | with_reducible refine k1_use (by assumption) _ _ ?_
    | (with_reducible refine is_call ?_); first
      | refine c_IsName _ ?_
      | refine c_within _ _ _ ?_
      | refine c_allWithin [g.be, g.sh, g.pr] (by simp) _ _ ?_
    | (with_reducible refine is_store ?_); first
      | simp only [aStore, go_sem, ↓reduceIte]
    | (with_reducible refine is_load ?_); first
      | simp only [aLoad, go_sem, ↓reduceIte]
    | (with_reducible refine is_alloc ?_); first
      | simp only [aAlloc, go_sem, ↓reduceIte]
    | (with_reducible refine is_box ?_); first
      | simp only [aBox, go_sem, ↓reduceIte]
    | (with_reducible refine is_make ?_); first
      | simp only [aMake, go_sem, ↓reduceIte]
    | (with_reducible refine is_bslice ?_); first
      | simp only [aBuildSlice, go_sem, ↓reduceIte]
    | (with_reducible refine is_conv ?_); first
      | simp only [aConvS, go_sem, ↓reduceIte]
    | (with_reducible refine is_append ?_); first
      | refine Grow.append (by (first | assumption | exact Grow.setNew (by assumption) _ _ | exact Grow.push (by assumption) _ | exact Grow.setNew (Grow.setNew (by assumption) _ _) _ _ | exact Grow.push (Grow.setNew (by assumption) _ _) _)) rfl rfl ⟨rfl, rfl, by decide, rfl⟩ ?_ ?_ ?_ (fun x' σ' hG => ?_)
      | simp only [aAppend, go_sem, ↓reduceIte]
    | (with_reducible refine is_len ?_); first
      | refine Grow.len (by (first | assumption | exact Grow.setNew (by assumption) _ _ | exact Grow.push (by assumption) _ | exact Grow.setNew (Grow.setNew (by assumption) _ _) _ _ | exact Grow.push (Grow.setNew (by assumption) _ _) _)) rfl rfl ?_
      | simp only [aLen, go_sem, ↓reduceIte]
    | (with_reducible refine is_all ?_); rfl
    | with_reducible exact ⟨rfl, rfl⟩
    | with_reducible exact rfl
    | (with_reducible refine And.intro ?_ ?_); · (first | assumption | exact St.push_same _ _ | exact St.set_same _ _ _ | (repeat (first | refine obj_push (by first | omega | (simp only [push_next, set_next]; omega)) ?_ | refine obj_set (by first | omega | (simp only [push_next, set_next]; omega)) ?_)); (first | exact St.push_same _ _ | exact St.set_same _ _ _ | assumption) | omega | (simp only [push_objs, push_next, set_objs, set_next, ↓reduceIte]; done) | (simp only [push_objs, push_next, set_objs, set_next, ↓reduceIte]; omega) | rfl | (refine And.intro ?_ ?_ <;> (simp only [push_objs, push_next, set_objs, set_next, ↓reduceIte]; done)))
    | (with_reducible apply ex_and); · (first | assumption | exact St.push_same _ _ | exact St.set_same _ _ _ | (repeat (first | refine obj_push (by first | omega | (simp only [push_next, set_next]; omega)) ?_ | refine obj_set (by first | omega | (simp only [push_next, set_next]; omega)) ?_)); (first | exact St.push_same _ _ | exact St.set_same _ _ _ | assumption) | omega | (simp only [push_objs, push_next, set_objs, set_next, ↓reduceIte]; done) | (simp only [push_objs, push_next, set_objs, set_next, ↓reduceIte]; omega) | rfl | (refine And.intro ?_ ?_ <;> (simp only [push_objs, push_next, set_objs, set_next, ↓reduceIte]; done)))
    | simp (disch := omega) only [tdivE, tmodE, tdivN, tmodN, wrapI, wrapU8]
    | simp only [go_sem, ↓reduceIte]
    | (refine is_prop ?_; omega)
  all_goals (refine ab_eq hQ ?_; first | refine bl_false ?_ | refine bl_true ?_ | refine congrArg bl ?_)
  all_goals (clear hQ; simp_all [gOk])

/-- (*impl.Group).kit -/
theorem p_kit (g : Grp) (n : Nat) : ACall Try.prog 60 [.rp false (gCs g)] (St.emp n) (fun r _ => r = .agg [.rp false [i64 g.be, i64 g.sh, i64 g.pr, i64 g.sk], .rp false [i64 g.sh, i64 g.pr, i64 g.sk], .rp false [i64 g.pr, i64 g.sk]]) := by
  refine acall_intro (N := 13) (rs := [.cell 2 94]) T tabOk Try.func60 (by decide +kernel) rfl Try.ntmps60 Try.results60 (by simp) ?_
  repeat' first
    | (with_reducible refine is_ops ?_); first
      | refine aops_nil ?_
      | refine aops_cons rfl fun K1 h1 => ?_
      | refine aops_wanted rfl rfl (by first | rfl | assumption) fun K1 h1 => ?_
      | refine aops_unwanted rfl rfl (by first | rfl | assumption) ?_
      | refine aops_skip rfl rfl ?_
      | refine aops_guard rfl rfl (fun hg K1 h1 => ?_) (fun hg => ?_) <;> (try (have hw := hg; simp only [Bool.not_eq_true', Bool.not_eq_false', Bool.not_true, Bool.not_false, decide_eq_true_eq, decide_eq_false_iff_not, Int.not_lt, Int.not_le, Bool.or_eq_true, Bool.or_eq_false_iff, Bool.and_eq_true, Bool.and_eq_false_iff, not_true, not_false_eq_true, ne_eq, Decidable.not_not, reduceCtorEq] at hw)) <;> (try (exfalso; omega))
    | (with_reducible refine is_qs ?_); first
      | refine aqs_nil ?_
      | refine aqs_cons (v := ?_) rfl ?_ ?_
      | refine aqs_wanted (v := ?_) rfl rfl (by first | rfl | assumption) ?_ ?_
      | refine aqs_unwanted rfl rfl (by first | rfl | assumption) ?_
      | refine aqs_skip rfl rfl ?_
      | refine aqs_part rfl rfl (fun hg => ?_) (fun hg => ?_) <;> (try (have hw := hg; simp only [Bool.not_eq_true', Bool.not_eq_false', Bool.not_true, Bool.not_false, decide_eq_true_eq, decide_eq_false_iff_not, Int.not_lt, Int.not_le, Bool.or_eq_true, Bool.or_eq_false_iff, Bool.and_eq_true, Bool.and_eq_false_iff, not_true, not_false_eq_true, ne_eq, Decidable.not_not, reduceCtorEq] at hw)) <;> (try (exfalso; omega))
    | (with_reducible refine is_aw ?_); first
      | refine aw_rs tabOk (fun t => t == 2) _ rfl rfl ?_
      | refine aw_draw_tail 10 rfl tabOk (fun t => t == 2) _ rfl rfl (by decide +kernel) ?_
      | refine aw_quiet rfl tabOk (fun t => t == 2) _ rfl rfl (by decide +kernel) ?_
      | refine aw_draw_tail_end 10 rfl tabOk (fun t => t == 2) _ rfl rfl (by decide +kernel) ?_
      | refine aw_quiet_end rfl tabOk (fun t => t == 2) _ rfl rfl (by decide +kernel) ?_
      | refine aw_region tabOk (fun t => t == 2) _ rfl rfl ?_
      | refine aw_ret ?_
      | refine aw_skip ?_
      | refine aw_exit ?_
      | refine aw_block ?_
      | refine aw_label ?_
      | refine aw_cond_t rfl (by first | rfl | assumption) ?_
      | refine aw_cond_f rfl (by first | rfl | assumption) ?_
      | refine aw_cond rfl (fun hg => ?_) (fun hg => ?_) <;> (try (have hw := hg; simp only [Bool.not_eq_true', Bool.not_eq_false', Bool.not_true, Bool.not_false, decide_eq_true_eq, decide_eq_false_iff_not, Int.not_lt, Int.not_le, Bool.or_eq_true, Bool.or_eq_false_iff, Bool.and_eq_true, Bool.and_eq_false_iff, not_true, not_false_eq_true, ne_eq, Decidable.not_not, reduceCtorEq] at hw)) <;> (try (exfalso; omega))
      | refine aw_seq fun K hK => ?_
    | (with_reducible refine aPick_t ?_ ?_); first | rfl | assumption
    | (with_reducible refine aPick_f ?_ ?_); first | rfl | assumption
    | (with_reducible refine h1 _ _ ?_); clear h1 K1
    | (with_reducible refine hK _ _ ?_); clear hK K
    | with_reducible refine k_use (by assumption) _ _ ?_
    | with_reducible refine k1_use (by assumption) _ _ ?_
    | (with_reducible refine is_store ?_); first
      | simp only [aStore, go_sem, ↓reduceIte]
    | (with_reducible refine is_load ?_); first
      | simp only [aLoad, go_sem, ↓reduceIte]
    | (with_reducible refine is_alloc ?_); first
      | simp only [aAlloc, go_sem, ↓reduceIte]
    | (with_reducible refine is_box ?_); first
      | simp only [aBox, go_sem, ↓reduceIte]
    | (with_reducible refine is_make ?_); first
      | simp only [aMake, go_sem, ↓reduceIte]
    | (with_reducible refine is_bslice ?_); first
      | simp only [aBuildSlice, go_sem, ↓reduceIte]
    | (with_reducible refine is_conv ?_); first
      | simp only [aConvS, go_sem, ↓reduceIte]
    | (with_reducible refine is_append ?_); first
      | refine Grow.append (by (first | assumption | exact Grow.setNew (by assumption) _ _ | exact Grow.push (by assumption) _ | exact Grow.setNew (Grow.setNew (by assumption) _ _) _ _ | exact Grow.push (Grow.setNew (by assumption) _ _) _)) rfl rfl ⟨rfl, rfl, by decide, rfl⟩ ?_ ?_ ?_ (fun x' σ' hG => ?_)
      | simp only [aAppend, go_sem, ↓reduceIte]
    | (with_reducible refine is_len ?_); first
      | refine Grow.len (by (first | assumption | exact Grow.setNew (by assumption) _ _ | exact Grow.push (by assumption) _ | exact Grow.setNew (Grow.setNew (by assumption) _ _) _ _ | exact Grow.push (Grow.setNew (by assumption) _ _) _)) rfl rfl ?_
      | simp only [aLen, go_sem, ↓reduceIte]
    | (with_reducible refine is_all ?_); rfl
    | with_reducible exact ⟨rfl, rfl⟩
    | with_reducible exact rfl
    | (with_reducible refine And.intro ?_ ?_); · (first | assumption | exact St.push_same _ _ | exact St.set_same _ _ _ | (repeat (first | refine obj_push (by first | omega | (simp only [push_next, set_next]; omega)) ?_ | refine obj_set (by first | omega | (simp only [push_next, set_next]; omega)) ?_)); (first | exact St.push_same _ _ | exact St.set_same _ _ _ | assumption) | omega | (simp only [push_objs, push_next, set_objs, set_next, ↓reduceIte]; done) | (simp only [push_objs, push_next, set_objs, set_next, ↓reduceIte]; omega) | rfl | (refine And.intro ?_ ?_ <;> (simp only [push_objs, push_next, set_objs, set_next, ↓reduceIte]; done)))
    | (with_reducible apply ex_and); · (first | assumption | exact St.push_same _ _ | exact St.set_same _ _ _ | (repeat (first | refine obj_push (by first | omega | (simp only [push_next, set_next]; omega)) ?_ | refine obj_set (by first | omega | (simp only [push_next, set_next]; omega)) ?_)); (first | exact St.push_same _ _ | exact St.set_same _ _ _ | assumption) | omega | (simp only [push_objs, push_next, set_objs, set_next, ↓reduceIte]; done) | (simp only [push_objs, push_next, set_objs, set_next, ↓reduceIte]; omega) | rfl | (refine And.intro ?_ ?_ <;> (simp only [push_objs, push_next, set_objs, set_next, ↓reduceIte]; done)))
    | simp (disch := omega) only [tdivE, tmodE, tdivN, tmodN, wrapI, wrapU8]
    | simp only [go_sem, ↓reduceIte]
    | (refine is_prop ?_; omega)

def has (g : Grp) (k : Nat) : Int := if k = 0 then g.be else if k = 1 then g.sh else g.pr
def kitName (k : Nat) : AV := if k = 0 then str ⟨#[98, 101, 97, 99, 111, 110, 115]⟩ else if k = 1 then str ⟨#[115, 104, 111, 118, 101, 108, 115]⟩ else str ⟨#[112, 114, 111, 98, 101, 115]⟩
def lacksN (g : Grp) (n : Nat) : List AV := ((List.range n).filter fun k => decide (has g k < g.pe)).map kitName
theorem kitName_pure (k : Nat) : pureAV false (kitName k) = true := by
  unfold kitName; repeat' split
  all_goals rfl
theorem lacksN_pure (g : Grp) (n : Nat) : pureAVs false (lacksN g n) = true := pures_map _ kitName_pure
theorem lacksN_len (g : Grp) (n : Nat) : (lacksN g n).length ≤ n := by
  unfold lacksN; rw [List.length_map]; exact Nat.le_trans (List.length_filter_le _ _) (by simp)
theorem lacksN_yes {g : Grp} {k : Nat} (h : has g k < g.pe) : lacksN g (k + 1) = lacksN g k ++ [kitName k] := by
  unfold lacksN; rw [List.range_succ, List.filter_append, List.map_append]; simp [h]
theorem lacksN_no {g : Grp} {k : Nat} (h : ¬ has g k < g.pe) : lacksN g (k + 1) = lacksN g k := by
  unfold lacksN; rw [List.range_succ, List.filter_append, List.map_append]; simp [h]
/-- (impl.Group).problems -/
theorem p_problems (g : Grp) (n : Nat) : ACall Try.prog 33 [gAV g] (St.emp n) (fun r _ => r = .lst false 1 (lacksN g 3)) := by
  refine acall_freeze ?_
  refine acall_intro (N := 25) (rs := [.tmp 2]) T tabOk Try.func33 (by decide +kernel) rfl Try.ntmps33 Try.results33 (by simp) ?_
  repeat' first
    | (with_reducible refine is_ops ?_); first
      | refine aops_nil ?_
      | refine aops_cons rfl fun K1 h1 => ?_
      | refine aops_wanted rfl rfl (by first | rfl | assumption) fun K1 h1 => ?_
      | refine aops_unwanted rfl rfl (by first | rfl | assumption) ?_
      | refine aops_skip rfl rfl ?_
      | refine aops_guard rfl rfl (fun hg K1 h1 => ?_) (fun hg => ?_) <;> (try (have hw := hg; simp only [Bool.not_eq_true', Bool.not_eq_false', Bool.not_true, Bool.not_false, decide_eq_true_eq, decide_eq_false_iff_not, Int.not_lt, Int.not_le, Bool.or_eq_true, Bool.or_eq_false_iff, Bool.and_eq_true, Bool.and_eq_false_iff, not_true, not_false_eq_true, ne_eq, Decidable.not_not, reduceCtorEq] at hw)) <;> (try (exfalso; omega))
    | (with_reducible refine is_qs ?_); first
      | refine aqs_nil ?_
      | refine aqs_cons (v := ?_) rfl ?_ ?_
      | refine aqs_wanted (v := ?_) rfl rfl (by first | rfl | assumption) ?_ ?_
      | refine aqs_unwanted rfl rfl (by first | rfl | assumption) ?_
      | refine aqs_skip rfl rfl ?_
      | refine aqs_part rfl rfl (fun hg => ?_) (fun hg => ?_) <;> (try (have hw := hg; simp only [Bool.not_eq_true', Bool.not_eq_false', Bool.not_true, Bool.not_false, decide_eq_true_eq, decide_eq_false_iff_not, Int.not_lt, Int.not_le, Bool.or_eq_true, Bool.or_eq_false_iff, Bool.and_eq_true, Bool.and_eq_false_iff, not_true, not_false_eq_true, ne_eq, Decidable.not_not, reduceCtorEq] at hw)) <;> (try (exfalso; omega))
    | (with_reducible refine is_aw ?_); first
      | refine aw_rs tabOk (fun _ => false) _ rfl rfl ?_
      | refine aw_quiet rfl tabOk (fun _ => false) _ rfl rfl (by decide +kernel) ?_
      | refine aw_quiet_end rfl tabOk (fun _ => false) _ rfl rfl (by decide +kernel) ?_
      | refine aw_region tabOk (fun _ => false) _ rfl rfl ?_
      | refine aw_ret ?_
      | refine aw_skip ?_
      | refine aw_exit ?_
      | refine aw_block ?_
      | refine aw_label ?_
      | refine aw_cond_t rfl (by first | rfl | assumption) ?_
      | refine aw_cond_f rfl (by first | rfl | assumption) ?_
      | refine aw_cond rfl (fun hg => ?_) (fun hg => ?_) <;> (try (have hw := hg; simp only [Bool.not_eq_true', Bool.not_eq_false', Bool.not_true, Bool.not_false, decide_eq_true_eq, decide_eq_false_iff_not, Int.not_lt, Int.not_le, Bool.or_eq_true, Bool.or_eq_false_iff, Bool.and_eq_true, Bool.and_eq_false_iff, not_true, not_false_eq_true, ne_eq, Decidable.not_not, reduceCtorEq] at hw)) <;> (try (exfalso; omega))
      | refine aw_seq fun K hK => ?_
    | (with_reducible refine aPick_t ?_ ?_); first | rfl | assumption
    | (with_reducible refine aPick_f ?_ ?_); first | rfl | assumption
    | (with_reducible refine h1 _ _ ?_); clear h1 K1
    | (with_reducible refine hK _ _ ?_); clear hK K
    | with_reducible refine k_use (by assumption) _ _ ?_
    | with_reducible refine k1_use (by assumption) _ _ ?_
    | (with_reducible refine is_call ?_); first
      | refine p_same (p_kit g) rfl rfl ?_
    | (with_reducible refine is_store ?_); first
      | simp only [aStore, go_sem, ↓reduceIte]
    | (with_reducible refine is_load ?_); first
      | simp only [aLoad, go_sem, ↓reduceIte]
    | (with_reducible refine is_alloc ?_); first
      | simp only [aAlloc, go_sem, ↓reduceIte]
    | (with_reducible refine is_box ?_); first
      | simp only [aBox, go_sem, ↓reduceIte]
    | (with_reducible refine is_make ?_); first
      | simp only [aMake, go_sem, ↓reduceIte]
    | (with_reducible refine is_bslice ?_); first
      | simp only [aBuildSlice, go_sem, ↓reduceIte]
    | (with_reducible refine is_conv ?_); first
      | simp only [aConvS, go_sem, ↓reduceIte]
    | (with_reducible refine is_append ?_); first
      | refine Grow.append (by (first | assumption | exact Grow.setNew (by assumption) _ _ | exact Grow.push (by assumption) _ | exact Grow.setNew (Grow.setNew (by assumption) _ _) _ _ | exact Grow.push (Grow.setNew (by assumption) _ _) _)) rfl rfl ⟨rfl, rfl, by decide, rfl⟩ ?_ ?_ ?_ (fun x' σ' hG => ?_)
      | simp only [aAppend, go_sem, ↓reduceIte]
    | (with_reducible refine is_len ?_); first
      | refine Grow.len (by (first | assumption | exact Grow.setNew (by assumption) _ _ | exact Grow.push (by assumption) _ | exact Grow.setNew (Grow.setNew (by assumption) _ _) _ _ | exact Grow.push (Grow.setNew (by assumption) _ _) _)) rfl rfl ?_
      | simp only [aLen, go_sem, ↓reduceIte]
    | (with_reducible refine is_all ?_); rfl
    | with_reducible exact ⟨rfl, rfl⟩
    | with_reducible exact rfl
    | (with_reducible refine And.intro ?_ ?_); · (first | assumption | exact St.push_same _ _ | exact St.set_same _ _ _ | (repeat (first | refine obj_push (by first | omega | (simp only [push_next, set_next]; omega)) ?_ | refine obj_set (by first | omega | (simp only [push_next, set_next]; omega)) ?_)); (first | exact St.push_same _ _ | exact St.set_same _ _ _ | assumption) | omega | (simp only [push_objs, push_next, set_objs, set_next, ↓reduceIte]; done) | (simp only [push_objs, push_next, set_objs, set_next, ↓reduceIte]; omega) | rfl | (refine And.intro ?_ ?_ <;> (simp only [push_objs, push_next, set_objs, set_next, ↓reduceIte]; done)))
    | (with_reducible apply ex_and); · (first | assumption | exact St.push_same _ _ | exact St.set_same _ _ _ | (repeat (first | refine obj_push (by first | omega | (simp only [push_next, set_next]; omega)) ?_ | refine obj_set (by first | omega | (simp only [push_next, set_next]; omega)) ?_)); (first | exact St.push_same _ _ | exact St.set_same _ _ _ | assumption) | omega | (simp only [push_objs, push_next, set_objs, set_next, ↓reduceIte]; done) | (simp only [push_objs, push_next, set_objs, set_next, ↓reduceIte]; omega) | rfl | (refine And.intro ?_ ?_ <;> (simp only [push_objs, push_next, set_objs, set_next, ↓reduceIte]; done)))
    | simp (disch := omega) only [tdivE, tmodE, tdivN, tmodN, wrapI, wrapU8]
    | simp only [go_sem, ↓reduceIte]
    | (refine is_prop ?_; omega)
  refine aw_count 3 (fun i e τ => Grow (St.emp n) 9 1 (lacksN g i) (e 3) τ ∧ e 1 = .rp false (gCs g) ∧ e 6 = .agg [.rp false [i64 g.be, i64 g.sh, i64 g.pr, i64 g.sk], .rp false [i64 g.sh, i64 g.pr, i64 g.sk], .rp false [i64 g.pr, i64 g.sk]] ∧ e 7 = i64 i)
    ⟨Grow.start _ _ _, rfl, rfl, rfl⟩ ?_
  rintro i e τ ⟨hG0, g1, g6, g7⟩ hi
  have hL := lacksN_len g i
  rcases (by omega : i = 0 ∨ i = 1 ∨ i = 2 ∨ i = 3) with rfl | rfl | rfl | rfl
  all_goals
    repeat' first
      | (with_reducible refine is_ops ?_); first
        | refine aops_nil ?_
        | refine aops_cons rfl fun K1 h1 => ?_
        | refine aops_wanted rfl rfl (by first | rfl | assumption) fun K1 h1 => ?_
        | refine aops_unwanted rfl rfl (by first | rfl | assumption) ?_
        | refine aops_skip rfl rfl ?_
        | refine aops_guard rfl rfl (fun hg K1 h1 => ?_) (fun hg => ?_) <;> (try (have hw := hg; simp only [Bool.not_eq_true', Bool.not_eq_false', Bool.not_true, Bool.not_false, decide_eq_true_eq, decide_eq_false_iff_not, Int.not_lt, Int.not_le, Bool.or_eq_true, Bool.or_eq_false_iff, Bool.and_eq_true, Bool.and_eq_false_iff, not_true, not_false_eq_true, ne_eq, Decidable.not_not, reduceCtorEq] at hw)) <;> (try (exfalso; omega))
      | (with_reducible refine is_qs ?_); first
        | refine aqs_nil ?_
        | refine aqs_cons (v := ?_) rfl ?_ ?_
        | refine aqs_wanted (v := ?_) rfl rfl (by first | rfl | assumption) ?_ ?_
        | refine aqs_unwanted rfl rfl (by first | rfl | assumption) ?_
        | refine aqs_skip rfl rfl ?_
        | refine aqs_part rfl rfl (fun hg => ?_) (fun hg => ?_) <;> (try (have hw := hg; simp only [Bool.not_eq_true', Bool.not_eq_false', Bool.not_true, Bool.not_false, decide_eq_true_eq, decide_eq_false_iff_not, Int.not_lt, Int.not_le, Bool.or_eq_true, Bool.or_eq_false_iff, Bool.and_eq_true, Bool.and_eq_false_iff, not_true, not_false_eq_true, ne_eq, Decidable.not_not, reduceCtorEq] at hw)) <;> (try (exfalso; omega))
      | (with_reducible refine is_aw ?_); first
        | refine aw_rs tabOk (fun _ => false) _ rfl rfl ?_
        | refine aw_quiet rfl tabOk (fun _ => false) _ rfl rfl (by decide +kernel) ?_
        | refine aw_quiet_end rfl tabOk (fun _ => false) _ rfl rfl (by decide +kernel) ?_
        | refine aw_region tabOk (fun _ => false) _ rfl rfl ?_
        | refine aw_ret ?_
        | refine aw_skip ?_
        | refine aw_exit ?_
        | refine aw_block ?_
        | refine aw_label ?_
        | refine aw_cond_t rfl (by first | rfl | assumption) ?_
        | refine aw_cond_f rfl (by first | rfl | assumption) ?_
        | refine aw_cond rfl (fun hg => ?_) (fun hg => ?_) <;> (try (have hw := hg; simp only [Bool.not_eq_true', Bool.not_eq_false', Bool.not_true, Bool.not_false, decide_eq_true_eq, decide_eq_false_iff_not, Int.not_lt, Int.not_le, Bool.or_eq_true, Bool.or_eq_false_iff, Bool.and_eq_true, Bool.and_eq_false_iff, not_true, not_false_eq_true, ne_eq, Decidable.not_not, reduceCtorEq] at hw)) <;> (try (exfalso; omega))
        | refine aw_seq fun K hK => ?_
      | (with_reducible refine aPick_t ?_ ?_); first | rfl | assumption
      | (with_reducible refine aPick_f ?_ ?_); first | rfl | assumption
      | (with_reducible refine h1 _ _ ?_); clear h1 K1
      | (with_reducible refine hK _ _ ?_); clear hK K
      | with_reducible refine k_use (by assumption) _ _ ?_
      | with_reducible refine k1_use (by assumption) _ _ ?_
      | (with_reducible refine is_store ?_); first
        | simp only [g1, g6, g7, aStore, go_sem, ↓reduceIte]
      | (with_reducible refine is_load ?_); first
        | simp only [g1, g6, g7, aLoad, go_sem, ↓reduceIte]
      | (with_reducible refine is_alloc ?_); first
        | simp only [g1, g6, g7, aAlloc, go_sem, ↓reduceIte]
      | (with_reducible refine is_box ?_); first
        | simp only [g1, g6, g7, aBox, go_sem, ↓reduceIte]
      | (with_reducible refine is_make ?_); first
        | simp only [g1, g6, g7, aMake, go_sem, ↓reduceIte]
      | (with_reducible refine is_bslice ?_); first
        | simp only [g1, g6, g7, aBuildSlice, go_sem, ↓reduceIte]
      | (with_reducible refine is_conv ?_); first
        | simp only [g1, g6, g7, aConvS, go_sem, ↓reduceIte]
      | (with_reducible refine is_append ?_); first
        | refine Grow.append (by (first | assumption | exact Grow.setNew (by assumption) _ _ | exact Grow.push (by assumption) _ | exact Grow.setNew (Grow.setNew (by assumption) _ _) _ _ | exact Grow.push (Grow.setNew (by assumption) _ _) _)) rfl rfl ⟨rfl, rfl, by decide, rfl⟩ ?_ ?_ ?_ (fun x' σ' hG => ?_)
        | simp only [g1, g6, g7, aAppend, go_sem, ↓reduceIte]
      | (with_reducible refine is_len ?_); first
        | refine Grow.len (by (first | assumption | exact Grow.setNew (by assumption) _ _ | exact Grow.push (by assumption) _ | exact Grow.setNew (Grow.setNew (by assumption) _ _) _ _ | exact Grow.push (Grow.setNew (by assumption) _ _) _)) rfl rfl ?_
        | simp only [g1, g6, g7, aLen, go_sem, ↓reduceIte]
      | (with_reducible refine is_all ?_); rfl
      | with_reducible exact ⟨rfl, rfl⟩
      | with_reducible exact rfl
      | (with_reducible refine And.intro ?_ ?_); · (first | assumption | exact St.push_same _ _ | exact St.set_same _ _ _ | (repeat (first | refine obj_push (by first | omega | (simp only [push_next, set_next]; omega)) ?_ | refine obj_set (by first | omega | (simp only [push_next, set_next]; omega)) ?_)); (first | exact St.push_same _ _ | exact St.set_same _ _ _ | assumption) | omega | (simp only [push_objs, push_next, set_objs, set_next, ↓reduceIte]; done) | (simp only [push_objs, push_next, set_objs, set_next, ↓reduceIte]; omega) | rfl | (refine And.intro ?_ ?_ <;> (simp only [push_objs, push_next, set_objs, set_next, ↓reduceIte]; done)))
      | (with_reducible apply ex_and); · (first | assumption | exact St.push_same _ _ | exact St.set_same _ _ _ | (repeat (first | refine obj_push (by first | omega | (simp only [push_next, set_next]; omega)) ?_ | refine obj_set (by first | omega | (simp only [push_next, set_next]; omega)) ?_)); (first | exact St.push_same _ _ | exact St.set_same _ _ _ | assumption) | omega | (simp only [push_objs, push_next, set_objs, set_next, ↓reduceIte]; done) | (simp only [push_objs, push_next, set_objs, set_next, ↓reduceIte]; omega) | rfl | (refine And.intro ?_ ?_ <;> (simp only [push_objs, push_next, set_objs, set_next, ↓reduceIte]; done)))
      | simp (disch := omega) only [tdivE, tmodE, tdivN, tmodN, wrapI, wrapU8]
      | simp only [g1, g6, g7, go_sem, ↓reduceIte]
      | (refine is_prop ?_; omega)
  all_goals first
    | (refine ⟨?_, rfl⟩; rw [lacksN_yes (by exact hw)]; exact hG)
    | (refine ⟨?_, rfl⟩; rw [lacksN_no (by exact Int.not_lt.2 hw)]; exact hG0)
    | exact ⟨_, hG0.frz (lacksN_pure g 3) (fun _ => rfl), fun _ => rfl⟩

theorem c_problems (g : Grp) (hQ : Q (.lst false 1 (lacksN g 3)) σ) : ACall Try.prog 33 [gAV g] σ Q :=
  p_same (p_problems g) rfl (by simp only [pureAV, Bool.and_false, Bool.not_false, Bool.true_and]; exact pures_map _ fun k => by unfold kitName; (repeat' split) <;> rfl) hQ

/-- (impl.Group).mayGo -/
def gGoes (g : Grp) (l : Int) : Bool := (lacksN g 3).isEmpty && decide (need g.pe l ≤ g.gu) && decide (l ≤ g.sk)
theorem isEmpty_len (xs : List AV) : xs.isEmpty = decide ((xs.length : Int) = 0) := by cases xs <;> simp; omega
theorem c_goes (g : Grp) (l : Int) (hp : 0 ≤ g.pe ∧ g.pe ≤ 1000) (hQ : Q (bl (gGoes g l)) σ) : ACall Try.prog 29 [gAV g, i64 l] σ Q := by
  refine acall_intro (N := 24) (rs := [.tmp 4]) T tabOk Try.func29 (by decide +kernel) rfl Try.ntmps29 Try.results29 (by simp) ?_
  repeat' first
    | (with_reducible refine is_ops ?_); first
      | refine aops_nil ?_
      | refine aops_cons rfl fun K1 h1 => ?_
      | refine aops_wanted rfl rfl (by first | rfl | assumption) fun K1 h1 => ?_
      | refine aops_unwanted rfl rfl (by first | rfl | assumption) ?_
      | refine aops_skip rfl rfl ?_
      | refine aops_guard rfl rfl (fun hg K1 h1 => ?_) (fun hg => ?_) <;> (try (have hw := hg; simp only [Bool.not_eq_true', Bool.not_eq_false', Bool.not_true, Bool.not_false, decide_eq_true_eq, decide_eq_false_iff_not, Int.not_lt, Int.not_le, Bool.or_eq_true, Bool.or_eq_false_iff, Bool.and_eq_true, Bool.and_eq_false_iff, not_true, not_false_eq_true, ne_eq, Decidable.not_not, reduceCtorEq] at hw)) <;> (try (exfalso; omega))
    | (with_reducible refine is_qs ?_); first
      | refine aqs_nil ?_
      | refine aqs_cons (v := ?_) rfl ?_ ?_
      | refine aqs_wanted (v := ?_) rfl rfl (by first | rfl | assumption) ?_ ?_
      | refine aqs_unwanted rfl rfl (by first | rfl | assumption) ?_
      | refine aqs_skip rfl rfl ?_
      | refine aqs_part rfl rfl (fun hg => ?_) (fun hg => ?_) <;> (try (have hw := hg; simp only [Bool.not_eq_true', Bool.not_eq_false', Bool.not_true, Bool.not_false, decide_eq_true_eq, decide_eq_false_iff_not, Int.not_lt, Int.not_le, Bool.or_eq_true, Bool.or_eq_false_iff, Bool.and_eq_true, Bool.and_eq_false_iff, not_true, not_false_eq_true, ne_eq, Decidable.not_not, reduceCtorEq] at hw)) <;> (try (exfalso; omega))
    | (with_reducible refine is_aw ?_); first
      | refine aw_rs tabOk (fun _ => false) _ rfl rfl ?_
      | refine aw_quiet rfl tabOk (fun _ => false) _ rfl rfl (by decide +kernel) ?_
      | refine aw_quiet_end rfl tabOk (fun _ => false) _ rfl rfl (by decide +kernel) ?_
      | refine aw_region tabOk (fun _ => false) _ rfl rfl ?_
      | refine aw_ret ?_
      | refine aw_skip ?_
      | refine aw_exit ?_
      | refine aw_block ?_
      | refine aw_label ?_
      | refine aw_cond_t rfl (by first | rfl | assumption) ?_
      | refine aw_cond_f rfl (by first | rfl | assumption) ?_
      | refine aw_cond rfl (fun hg => ?_) (fun hg => ?_) <;> (try (have hw := hg; simp only [Bool.not_eq_true', Bool.not_eq_false', Bool.not_true, Bool.not_false, decide_eq_true_eq, decide_eq_false_iff_not, Int.not_lt, Int.not_le, Bool.or_eq_true, Bool.or_eq_false_iff, Bool.and_eq_true, Bool.and_eq_false_iff, not_true, not_false_eq_true, ne_eq, Decidable.not_not, reduceCtorEq] at hw)) <;> (try (exfalso; omega))
      | refine aw_seq fun K hK => ?_
    | (with_reducible refine aPick_t ?_ ?_); first | rfl | assumption
    | (with_reducible refine aPick_f ?_ ?_); first | rfl | assumption
    | (with_reducible refine h1 _ _ ?_); clear h1 K1
    | (with_reducible refine hK _ _ ?_); clear hK K
    | with_reducible refine k_use (by assumption) _ _ ?_
    | with_reducible refine k1_use (by assumption) _ _ ?_
    | (with_reducible refine is_call ?_); first
      | refine c_problems g ?_
      | refine c_need _ _ hp ?_
    | (with_reducible refine is_store ?_); first
      | simp only [aStore, go_sem, ↓reduceIte]
    | (with_reducible refine is_load ?_); first
      | simp only [aLoad, go_sem, ↓reduceIte]
    | (with_reducible refine is_alloc ?_); first
      | simp only [aAlloc, go_sem, ↓reduceIte]
    | (with_reducible refine is_box ?_); first
      | simp only [aBox, go_sem, ↓reduceIte]
    | (with_reducible refine is_make ?_); first
      | simp only [aMake, go_sem, ↓reduceIte]
    | (with_reducible refine is_bslice ?_); first
      | simp only [aBuildSlice, go_sem, ↓reduceIte]
    | (with_reducible refine is_conv ?_); first
      | simp only [aConvS, go_sem, ↓reduceIte]
    | (with_reducible refine is_append ?_); first
      | refine Grow.append (by (first | assumption | exact Grow.setNew (by assumption) _ _ | exact Grow.push (by assumption) _ | exact Grow.setNew (Grow.setNew (by assumption) _ _) _ _ | exact Grow.push (Grow.setNew (by assumption) _ _) _)) rfl rfl ⟨rfl, rfl, by decide, rfl⟩ ?_ ?_ ?_ (fun x' σ' hG => ?_)
      | simp only [aAppend, go_sem, ↓reduceIte]
    | (with_reducible refine is_len ?_); first
      | refine Grow.len (by (first | assumption | exact Grow.setNew (by assumption) _ _ | exact Grow.push (by assumption) _ | exact Grow.setNew (Grow.setNew (by assumption) _ _) _ _ | exact Grow.push (Grow.setNew (by assumption) _ _) _)) rfl rfl ?_
      | simp only [aLen, go_sem, ↓reduceIte]
    | (with_reducible refine is_all ?_); rfl
    | with_reducible exact ⟨rfl, rfl⟩
    | with_reducible exact rfl
    | (with_reducible refine And.intro ?_ ?_); · (first | assumption | exact St.push_same _ _ | exact St.set_same _ _ _ | (repeat (first | refine obj_push (by first | omega | (simp only [push_next, set_next]; omega)) ?_ | refine obj_set (by first | omega | (simp only [push_next, set_next]; omega)) ?_)); (first | exact St.push_same _ _ | exact St.set_same _ _ _ | assumption) | omega | (simp only [push_objs, push_next, set_objs, set_next, ↓reduceIte]; done) | (simp only [push_objs, push_next, set_objs, set_next, ↓reduceIte]; omega) | rfl | (refine And.intro ?_ ?_ <;> (simp only [push_objs, push_next, set_objs, set_next, ↓reduceIte]; done)))
    | (with_reducible apply ex_and); · (first | assumption | exact St.push_same _ _ | exact St.set_same _ _ _ | (repeat (first | refine obj_push (by first | omega | (simp only [push_next, set_next]; omega)) ?_ | refine obj_set (by first | omega | (simp only [push_next, set_next]; omega)) ?_)); (first | exact St.push_same _ _ | exact St.set_same _ _ _ | assumption) | omega | (simp only [push_objs, push_next, set_objs, set_next, ↓reduceIte]; done) | (simp only [push_objs, push_next, set_objs, set_next, ↓reduceIte]; omega) | rfl | (refine And.intro ?_ ?_ <;> (simp only [push_objs, push_next, set_objs, set_next, ↓reduceIte]; done)))
    | simp (disch := omega) only [tdivE, tmodE, tdivN, tmodN, wrapI, wrapU8]
    | simp only [go_sem, ↓reduceIte]
    | (refine is_prop ?_; omega)
  all_goals (refine ab_eq hQ ?_; clear hQ; simp_all [gGoes, isEmpty_len] <;> omega)

/-- impl.MayGo -/
def gMay (g : Grp) (l : Int) : Bool := gOk g && inR l 1 5 && gGoes g l
theorem gOk_pe {g : Grp} (h : gOk g = true) : 0 ≤ g.pe ∧ g.pe ≤ 1000 := by
  simp only [gOk, inR, Bool.and_eq_true, decide_eq_true_eq] at h; omega
theorem c_MayGo (g : Grp) (l : Int) (hQ : Q (bl (gMay g l)) σ) : ACall Try.prog 8 [gAV g, i64 l] σ Q := by
  refine acall_intro (N := 16) (rs := [.tmp 4]) T tabOk Try.func8 (by decide +kernel) rfl Try.ntmps8 Try.results8 (by simp) ?_
  repeat' first
    | (with_reducible refine is_ops ?_); first
      | refine aops_nil ?_
      | refine aops_cons rfl fun K1 h1 => ?_
      | refine aops_wanted rfl rfl (by first | rfl | assumption) fun K1 h1 => ?_
      | refine aops_unwanted rfl rfl (by first | rfl | assumption) ?_
      | refine aops_skip rfl rfl ?_
      | refine aops_guard rfl rfl (fun hg K1 h1 => ?_) (fun hg => ?_) <;> (try (have hw := hg; simp only [Bool.not_eq_true', Bool.not_eq_false', Bool.not_true, Bool.not_false, decide_eq_true_eq, decide_eq_false_iff_not, Int.not_lt, Int.not_le, Bool.or_eq_true, Bool.or_eq_false_iff, Bool.and_eq_true, Bool.and_eq_false_iff, not_true, not_false_eq_true, ne_eq, Decidable.not_not, reduceCtorEq] at hw)) <;> (try (exfalso; omega))
    | (with_reducible refine is_qs ?_); first
      | refine aqs_nil ?_
      | refine aqs_cons (v := ?_) rfl ?_ ?_
      | refine aqs_wanted (v := ?_) rfl rfl (by first | rfl | assumption) ?_ ?_
      | refine aqs_unwanted rfl rfl (by first | rfl | assumption) ?_
      | refine aqs_skip rfl rfl ?_
      | refine aqs_part rfl rfl (fun hg => ?_) (fun hg => ?_) <;> (try (have hw := hg; simp only [Bool.not_eq_true', Bool.not_eq_false', Bool.not_true, Bool.not_false, decide_eq_true_eq, decide_eq_false_iff_not, Int.not_lt, Int.not_le, Bool.or_eq_true, Bool.or_eq_false_iff, Bool.and_eq_true, Bool.and_eq_false_iff, not_true, not_false_eq_true, ne_eq, Decidable.not_not, reduceCtorEq] at hw)) <;> (try (exfalso; omega))
    | (with_reducible refine is_aw ?_); first
      | refine aw_rs tabOk (fun _ => false) _ rfl rfl ?_
      | refine aw_quiet rfl tabOk (fun _ => false) _ rfl rfl (by decide +kernel) ?_
      | refine aw_quiet_end rfl tabOk (fun _ => false) _ rfl rfl (by decide +kernel) ?_
      | refine aw_region tabOk (fun _ => false) _ rfl rfl ?_
      | refine aw_ret ?_
      | refine aw_skip ?_
      | refine aw_exit ?_
      | refine aw_block ?_
      | refine aw_label ?_
      | refine aw_cond_t rfl (by first | rfl | assumption) ?_
      | refine aw_cond_f rfl (by first | rfl | assumption) ?_
      | refine aw_cond rfl (fun hg => ?_) (fun hg => ?_) <;> (try (have hw := hg; simp only [Bool.not_eq_true', Bool.not_eq_false', Bool.not_true, Bool.not_false, decide_eq_true_eq, decide_eq_false_iff_not, Int.not_lt, Int.not_le, Bool.or_eq_true, Bool.or_eq_false_iff, Bool.and_eq_true, Bool.and_eq_false_iff, not_true, not_false_eq_true, ne_eq, Decidable.not_not, reduceCtorEq] at hw)) <;> (try (exfalso; omega))
      | refine aw_seq fun K hK => ?_
    | (with_reducible refine aPick_t ?_ ?_); first | rfl | assumption
    | (with_reducible refine aPick_f ?_ ?_); first | rfl | assumption
    | (with_reducible refine h1 _ _ ?_); clear h1 K1
    | (with_reducible refine hK _ _ ?_); clear hK K
    | with_reducible refine k_use (by assumption) _ _ ?_
    | with_reducible refine k1_use (by assumption) _ _ ?_
    | (with_reducible refine is_call ?_); first
      | refine c_valid g ?_
      | refine c_levelOk _ ?_
      | refine c_goes g l (gOk_pe (by assumption)) ?_
    | (with_reducible refine is_store ?_); first
      | simp only [aStore, go_sem, ↓reduceIte]
    | (with_reducible refine is_load ?_); first
      | simp only [aLoad, go_sem, ↓reduceIte]
    | (with_reducible refine is_alloc ?_); first
      | simp only [aAlloc, go_sem, ↓reduceIte]
    | (with_reducible refine is_box ?_); first
      | simp only [aBox, go_sem, ↓reduceIte]
    | (with_reducible refine is_make ?_); first
      | simp only [aMake, go_sem, ↓reduceIte]
    | (with_reducible refine is_bslice ?_); first
      | simp only [aBuildSlice, go_sem, ↓reduceIte]
    | (with_reducible refine is_conv ?_); first
      | simp only [aConvS, go_sem, ↓reduceIte]
    | (with_reducible refine is_append ?_); first
      | refine Grow.append (by (first | assumption | exact Grow.setNew (by assumption) _ _ | exact Grow.push (by assumption) _ | exact Grow.setNew (Grow.setNew (by assumption) _ _) _ _ | exact Grow.push (Grow.setNew (by assumption) _ _) _)) rfl rfl ⟨rfl, rfl, by decide, rfl⟩ ?_ ?_ ?_ (fun x' σ' hG => ?_)
      | simp only [aAppend, go_sem, ↓reduceIte]
    | (with_reducible refine is_len ?_); first
      | refine Grow.len (by (first | assumption | exact Grow.setNew (by assumption) _ _ | exact Grow.push (by assumption) _ | exact Grow.setNew (Grow.setNew (by assumption) _ _) _ _ | exact Grow.push (Grow.setNew (by assumption) _ _) _)) rfl rfl ?_
      | simp only [aLen, go_sem, ↓reduceIte]
    | (with_reducible refine is_all ?_); rfl
    | with_reducible exact ⟨rfl, rfl⟩
    | with_reducible exact rfl
    | (with_reducible refine And.intro ?_ ?_); · (first | assumption | exact St.push_same _ _ | exact St.set_same _ _ _ | (repeat (first | refine obj_push (by first | omega | (simp only [push_next, set_next]; omega)) ?_ | refine obj_set (by first | omega | (simp only [push_next, set_next]; omega)) ?_)); (first | exact St.push_same _ _ | exact St.set_same _ _ _ | assumption) | omega | (simp only [push_objs, push_next, set_objs, set_next, ↓reduceIte]; done) | (simp only [push_objs, push_next, set_objs, set_next, ↓reduceIte]; omega) | rfl | (refine And.intro ?_ ?_ <;> (simp only [push_objs, push_next, set_objs, set_next, ↓reduceIte]; done)))
    | (with_reducible apply ex_and); · (first | assumption | exact St.push_same _ _ | exact St.set_same _ _ _ | (repeat (first | refine obj_push (by first | omega | (simp only [push_next, set_next]; omega)) ?_ | refine obj_set (by first | omega | (simp only [push_next, set_next]; omega)) ?_)); (first | exact St.push_same _ _ | exact St.set_same _ _ _ | assumption) | omega | (simp only [push_objs, push_next, set_objs, set_next, ↓reduceIte]; done) | (simp only [push_objs, push_next, set_objs, set_next, ↓reduceIte]; omega) | rfl | (refine And.intro ?_ ?_ <;> (simp only [push_objs, push_next, set_objs, set_next, ↓reduceIte]; done)))
    | simp (disch := omega) only [tdivE, tmodE, tdivN, tmodN, wrapI, wrapU8]
    | simp only [go_sem, ↓reduceIte]
    | (refine is_prop ?_; omega)
  all_goals (refine ab_eq hQ ?_; clear hQ; simp_all [gMay])
theorem in1000 {p : Int} (h : inR p 1 30 = true) : 0 ≤ p ∧ p ≤ 1000 := by
  simp only [inR, decide_eq_true_eq] at h; omega
/-- impl.NeededGuides -/
theorem c_NeededGuides (p l : Int) (hQ : Q (if inR p 1 30 && inR l 1 5 then .tup [i64 (need p l), i64 0] else .tup [i64 0, i64 2]) σ) : ACall Try.prog 10 [i64 p, i64 l] σ Q := by
  refine acall_intro (N := 17) (rs := [.tmp 4, .tmp 5]) T tabOk Try.func10 (by decide +kernel) rfl Try.ntmps10 Try.results10 (by simp) ?_
  repeat' first
    | (with_reducible refine is_ops ?_); first
      | refine aops_nil ?_
      | refine aops_cons rfl fun K1 h1 => ?_
      | refine aops_wanted rfl rfl (by first | rfl | assumption) fun K1 h1 => ?_
      | refine aops_unwanted rfl rfl (by first | rfl | assumption) ?_
      | refine aops_skip rfl rfl ?_
      | refine aops_guard rfl rfl (fun hg K1 h1 => ?_) (fun hg => ?_) <;> (try (have hw := hg; simp only [Bool.not_eq_true', Bool.not_eq_false', Bool.not_true, Bool.not_false, decide_eq_true_eq, decide_eq_false_iff_not, Int.not_lt, Int.not_le, Bool.or_eq_true, Bool.or_eq_false_iff, Bool.and_eq_true, Bool.and_eq_false_iff, not_true, not_false_eq_true, ne_eq, Decidable.not_not, reduceCtorEq] at hw)) <;> (try (exfalso; omega))
    | (with_reducible refine is_qs ?_); first
      | refine aqs_nil ?_
      | refine aqs_cons (v := ?_) rfl ?_ ?_
      | refine aqs_wanted (v := ?_) rfl rfl (by first | rfl | assumption) ?_ ?_
      | refine aqs_unwanted rfl rfl (by first | rfl | assumption) ?_
      | refine aqs_skip rfl rfl ?_
      | refine aqs_part rfl rfl (fun hg => ?_) (fun hg => ?_) <;> (try (have hw := hg; simp only [Bool.not_eq_true', Bool.not_eq_false', Bool.not_true, Bool.not_false, decide_eq_true_eq, decide_eq_false_iff_not, Int.not_lt, Int.not_le, Bool.or_eq_true, Bool.or_eq_false_iff, Bool.and_eq_true, Bool.and_eq_false_iff, not_true, not_false_eq_true, ne_eq, Decidable.not_not, reduceCtorEq] at hw)) <;> (try (exfalso; omega))
    | (with_reducible refine is_aw ?_); first
      | refine aw_rs tabOk (fun _ => false) _ rfl rfl ?_
      | refine aw_quiet rfl tabOk (fun _ => false) _ rfl rfl (by decide +kernel) ?_
      | refine aw_quiet_end rfl tabOk (fun _ => false) _ rfl rfl (by decide +kernel) ?_
      | refine aw_region tabOk (fun _ => false) _ rfl rfl ?_
      | refine aw_ret ?_
      | refine aw_skip ?_
      | refine aw_exit ?_
      | refine aw_block ?_
      | refine aw_label ?_
      | refine aw_cond_t rfl (by first | rfl | assumption) ?_
      | refine aw_cond_f rfl (by first | rfl | assumption) ?_
      | refine aw_cond rfl (fun hg => ?_) (fun hg => ?_) <;> (try (have hw := hg; simp only [Bool.not_eq_true', Bool.not_eq_false', Bool.not_true, Bool.not_false, decide_eq_true_eq, decide_eq_false_iff_not, Int.not_lt, Int.not_le, Bool.or_eq_true, Bool.or_eq_false_iff, Bool.and_eq_true, Bool.and_eq_false_iff, not_true, not_false_eq_true, ne_eq, Decidable.not_not, reduceCtorEq] at hw)) <;> (try (exfalso; omega))
      | refine aw_seq fun K hK => ?_
    | (with_reducible refine aPick_t ?_ ?_); first | rfl | assumption
    | (with_reducible refine aPick_f ?_ ?_); first | rfl | assumption
    | (with_reducible refine h1 _ _ ?_); clear h1 K1
    | (with_reducible refine hK _ _ ?_); clear hK K
    | with_reducible refine k_use (by assumption) _ _ ?_
    | with_reducible refine k1_use (by assumption) _ _ ?_
    | (with_reducible refine is_call ?_); first
      | refine c_within _ _ _ ?_
      | refine c_levelOk _ ?_
      | refine c_need p l (in1000 (by assumption)) ?_
    | (with_reducible refine is_store ?_); first
      | simp only [aStore, go_sem, ↓reduceIte]
    | (with_reducible refine is_load ?_); first
      | simp only [aLoad, go_sem, ↓reduceIte]
    | (with_reducible refine is_alloc ?_); first
      | simp only [aAlloc, go_sem, ↓reduceIte]
    | (with_reducible refine is_box ?_); first
      | simp only [aBox, go_sem, ↓reduceIte]
    | (with_reducible refine is_make ?_); first
      | simp only [aMake, go_sem, ↓reduceIte]
    | (with_reducible refine is_bslice ?_); first
      | simp only [aBuildSlice, go_sem, ↓reduceIte]
    | (with_reducible refine is_conv ?_); first
      | simp only [aConvS, go_sem, ↓reduceIte]
    | (with_reducible refine is_append ?_); first
      | refine Grow.append (by (first | assumption | exact Grow.setNew (by assumption) _ _ | exact Grow.push (by assumption) _ | exact Grow.setNew (Grow.setNew (by assumption) _ _) _ _ | exact Grow.push (Grow.setNew (by assumption) _ _) _)) rfl rfl ⟨rfl, rfl, by decide, rfl⟩ ?_ ?_ ?_ (fun x' σ' hG => ?_)
      | simp only [aAppend, go_sem, ↓reduceIte]
    | (with_reducible refine is_len ?_); first
      | refine Grow.len (by (first | assumption | exact Grow.setNew (by assumption) _ _ | exact Grow.push (by assumption) _ | exact Grow.setNew (Grow.setNew (by assumption) _ _) _ _ | exact Grow.push (Grow.setNew (by assumption) _ _) _)) rfl rfl ?_
      | simp only [aLen, go_sem, ↓reduceIte]
    | (with_reducible refine is_all ?_); rfl
    | with_reducible exact ⟨rfl, rfl⟩
    | with_reducible exact rfl
    | (with_reducible refine And.intro ?_ ?_); · (first | assumption | exact St.push_same _ _ | exact St.set_same _ _ _ | (repeat (first | refine obj_push (by first | omega | (simp only [push_next, set_next]; omega)) ?_ | refine obj_set (by first | omega | (simp only [push_next, set_next]; omega)) ?_)); (first | exact St.push_same _ _ | exact St.set_same _ _ _ | assumption) | omega | (simp only [push_objs, push_next, set_objs, set_next, ↓reduceIte]; done) | (simp only [push_objs, push_next, set_objs, set_next, ↓reduceIte]; omega) | rfl | (refine And.intro ?_ ?_ <;> (simp only [push_objs, push_next, set_objs, set_next, ↓reduceIte]; done)))
    | (with_reducible apply ex_and); · (first | assumption | exact St.push_same _ _ | exact St.set_same _ _ _ | (repeat (first | refine obj_push (by first | omega | (simp only [push_next, set_next]; omega)) ?_ | refine obj_set (by first | omega | (simp only [push_next, set_next]; omega)) ?_)); (first | exact St.push_same _ _ | exact St.set_same _ _ _ | assumption) | omega | (simp only [push_objs, push_next, set_objs, set_next, ↓reduceIte]; done) | (simp only [push_objs, push_next, set_objs, set_next, ↓reduceIte]; omega) | rfl | (refine And.intro ?_ ?_ <;> (simp only [push_objs, push_next, set_objs, set_next, ↓reduceIte]; done)))
    | simp (disch := omega) only [tdivE, tmodE, tdivN, tmodN, wrapI, wrapU8]
    | simp only [go_sem, ↓reduceIte]
    | (refine is_prop ?_; omega)
  all_goals (refine ab_eq hQ ?_; clear hQ; simp_all)
theorem c_GroupProblems (g : Grp) (hQ : Q (if gOk g then .tup [.lst false 1 (lacksN g 3), i64 0] else .tup [.lst false 0 [], i64 1]) σ) : ACall Try.prog 11 [gAV g] σ Q := by
  refine acall_intro (N := 9) (rs := [.tmp 2, .tmp 3]) T tabOk Try.func11 (by decide +kernel) rfl Try.ntmps11 Try.results11 (by simp) ?_
  repeat' first
    | (with_reducible refine is_ops ?_); first
      | refine aops_nil ?_
      | refine aops_cons rfl fun K1 h1 => ?_
      | refine aops_wanted rfl rfl (by first | rfl | assumption) fun K1 h1 => ?_
      | refine aops_unwanted rfl rfl (by first | rfl | assumption) ?_
      | refine aops_skip rfl rfl ?_
      | refine aops_guard rfl rfl (fun hg K1 h1 => ?_) (fun hg => ?_) <;> (try (have hw := hg; simp only [Bool.not_eq_true', Bool.not_eq_false', Bool.not_true, Bool.not_false, decide_eq_true_eq, decide_eq_false_iff_not, Int.not_lt, Int.not_le, Bool.or_eq_true, Bool.or_eq_false_iff, Bool.and_eq_true, Bool.and_eq_false_iff, not_true, not_false_eq_true, ne_eq, Decidable.not_not, reduceCtorEq] at hw)) <;> (try (exfalso; omega))
    | (with_reducible refine is_qs ?_); first
      | refine aqs_nil ?_
      | refine aqs_cons (v := ?_) rfl ?_ ?_
      | refine aqs_wanted (v := ?_) rfl rfl (by first | rfl | assumption) ?_ ?_
      | refine aqs_unwanted rfl rfl (by first | rfl | assumption) ?_
      | refine aqs_skip rfl rfl ?_
      | refine aqs_part rfl rfl (fun hg => ?_) (fun hg => ?_) <;> (try (have hw := hg; simp only [Bool.not_eq_true', Bool.not_eq_false', Bool.not_true, Bool.not_false, decide_eq_true_eq, decide_eq_false_iff_not, Int.not_lt, Int.not_le, Bool.or_eq_true, Bool.or_eq_false_iff, Bool.and_eq_true, Bool.and_eq_false_iff, not_true, not_false_eq_true, ne_eq, Decidable.not_not, reduceCtorEq] at hw)) <;> (try (exfalso; omega))
    | (with_reducible refine is_aw ?_); first
      | refine aw_rs tabOk (fun _ => false) _ rfl rfl ?_
      | refine aw_quiet rfl tabOk (fun _ => false) _ rfl rfl (by decide +kernel) ?_
      | refine aw_quiet_end rfl tabOk (fun _ => false) _ rfl rfl (by decide +kernel) ?_
      | refine aw_region tabOk (fun _ => false) _ rfl rfl ?_
      | refine aw_ret ?_
      | refine aw_skip ?_
      | refine aw_exit ?_
      | refine aw_block ?_
      | refine aw_label ?_
      | refine aw_cond_t rfl (by first | rfl | assumption) ?_
      | refine aw_cond_f rfl (by first | rfl | assumption) ?_
      | refine aw_cond rfl (fun hg => ?_) (fun hg => ?_) <;> (try (have hw := hg; simp only [Bool.not_eq_true', Bool.not_eq_false', Bool.not_true, Bool.not_false, decide_eq_true_eq, decide_eq_false_iff_not, Int.not_lt, Int.not_le, Bool.or_eq_true, Bool.or_eq_false_iff, Bool.and_eq_true, Bool.and_eq_false_iff, not_true, not_false_eq_true, ne_eq, Decidable.not_not, reduceCtorEq] at hw)) <;> (try (exfalso; omega))
      | refine aw_seq fun K hK => ?_
    | (with_reducible refine aPick_t ?_ ?_); first | rfl | assumption
    | (with_reducible refine aPick_f ?_ ?_); first | rfl | assumption
    | (with_reducible refine h1 _ _ ?_); clear h1 K1
    | (with_reducible refine hK _ _ ?_); clear hK K
    | with_reducible refine k_use (by assumption) _ _ ?_
    | with_reducible refine k1_use (by assumption) _ _ ?_
    | (with_reducible refine is_call ?_); first
      | refine c_valid g ?_
      | refine c_problems g ?_
    | (with_reducible refine is_store ?_); first
      | simp only [aStore, go_sem, ↓reduceIte]
    | (with_reducible refine is_load ?_); first
      | simp only [aLoad, go_sem, ↓reduceIte]
    | (with_reducible refine is_alloc ?_); first
      | simp only [aAlloc, go_sem, ↓reduceIte]
    | (with_reducible refine is_box ?_); first
      | simp only [aBox, go_sem, ↓reduceIte]
    | (with_reducible refine is_make ?_); first
      | simp only [aMake, go_sem, ↓reduceIte]
    | (with_reducible refine is_bslice ?_); first
      | simp only [aBuildSlice, go_sem, ↓reduceIte]
    | (with_reducible refine is_conv ?_); first
      | simp only [aConvS, go_sem, ↓reduceIte]
    | (with_reducible refine is_append ?_); first
      | refine Grow.append (by (first | assumption | exact Grow.setNew (by assumption) _ _ | exact Grow.push (by assumption) _ | exact Grow.setNew (Grow.setNew (by assumption) _ _) _ _ | exact Grow.push (Grow.setNew (by assumption) _ _) _)) rfl rfl ⟨rfl, rfl, by decide, rfl⟩ ?_ ?_ ?_ (fun x' σ' hG => ?_)
      | simp only [aAppend, go_sem, ↓reduceIte]
    | (with_reducible refine is_len ?_); first
      | refine Grow.len (by (first | assumption | exact Grow.setNew (by assumption) _ _ | exact Grow.push (by assumption) _ | exact Grow.setNew (Grow.setNew (by assumption) _ _) _ _ | exact Grow.push (Grow.setNew (by assumption) _ _) _)) rfl rfl ?_
      | simp only [aLen, go_sem, ↓reduceIte]
    | (with_reducible refine is_all ?_); rfl
    | with_reducible exact ⟨rfl, rfl⟩
    | with_reducible exact rfl
    | (with_reducible refine And.intro ?_ ?_); · (first | assumption | exact St.push_same _ _ | exact St.set_same _ _ _ | (repeat (first | refine obj_push (by first | omega | (simp only [push_next, set_next]; omega)) ?_ | refine obj_set (by first | omega | (simp only [push_next, set_next]; omega)) ?_)); (first | exact St.push_same _ _ | exact St.set_same _ _ _ | assumption) | omega | (simp only [push_objs, push_next, set_objs, set_next, ↓reduceIte]; done) | (simp only [push_objs, push_next, set_objs, set_next, ↓reduceIte]; omega) | rfl | (refine And.intro ?_ ?_ <;> (simp only [push_objs, push_next, set_objs, set_next, ↓reduceIte]; done)))
    | (with_reducible apply ex_and); · (first | assumption | exact St.push_same _ _ | exact St.set_same _ _ _ | (repeat (first | refine obj_push (by first | omega | (simp only [push_next, set_next]; omega)) ?_ | refine obj_set (by first | omega | (simp only [push_next, set_next]; omega)) ?_)); (first | exact St.push_same _ _ | exact St.set_same _ _ _ | assumption) | omega | (simp only [push_objs, push_next, set_objs, set_next, ↓reduceIte]; done) | (simp only [push_objs, push_next, set_objs, set_next, ↓reduceIte]; omega) | rfl | (refine And.intro ?_ ?_ <;> (simp only [push_objs, push_next, set_objs, set_next, ↓reduceIte]; done)))
    | simp (disch := omega) only [tdivE, tmodE, tdivN, tmodN, wrapI, wrapU8]
    | simp only [go_sem, ↓reduceIte]
    | (refine is_prop ?_; omega)
  all_goals (refine ab_eq hQ ?_; clear hQ; simp_all)
end Go.Proofs.Ytamielbdedbnaaa
