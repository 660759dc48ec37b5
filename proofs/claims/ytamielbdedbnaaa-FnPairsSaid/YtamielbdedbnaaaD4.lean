/- Draws: lists of groups. -/
import Derived.Test.YtamielbdedbnaaaD3
import Derived.Test.YtamielbdedbnaaaN1
import Derived.Test.YtamielbdedbnaaaW5
set_option linter.unusedSimpArgs false
set_option linter.unusedVariables false
set_option maxHeartbeats 4000000
namespace Go.Proofs.Ytamielbdedbnaaa
open Go.Ab Go.RowKit
variable {σ σ0 τ : St} {Q : AV → St → Prop} {so gs i : Nat} {b : Bool} {code : List UInt8} {a s : Int} {X : List Nat} {ls : List Ent}
abbrev glE (x : AV) (gl : List Grp) : Ent := .sl x 32 7 (gl.map gAV)
theorem glE_app (x : AV) (gl : List Grp) (g : Grp) : glE x (gl ++ [g]) = .sl x 32 7 (gl.map gAV ++ [gAV g]) := by simp [glE]
def nms : List ByteArray := [⟨#[97, 110, 116, 115]⟩, ⟨#[98, 101, 97, 114, 115]⟩, ⟨#[99, 114, 111, 119, 115]⟩, ⟨#[100, 101, 101, 114]⟩, ⟨#[101, 108, 107, 115]⟩]
/-- spec.l24Draw -/
theorem c_draw (ho : σ.objs so = some (srcO gs b code a s)) (hlt : so < σ.next) (ha : 0 ≤ a ∧ a ≤ 800000) (hc : code.length ≤ 2000000)
    (hQ : ∀ (gl : List Grp) (x : AV) (a' s' : Int) σ', gl.length ≤ 9 → (a ≤ a' ∧ a' ≤ a + 120) → Own σ [so] [srcE so gs b code a' s', glE x gl] σ' → Q x σ') : ACall Try.prog 25 [.ptr so gs 0 0] σ Q := by
  have h0 := Own.one ho hlt
  refine acall_intro (N := 60) (rs := [.tmp 2]) T tabOk Try.func25 (by decide +kernel) rfl Try.ntmps25 Try.results25 (by simp) ?_
  repeat' first
    | (with_reducible refine is_ops ?_); first
      | refine aops_nil ?_
      | refine aops_cons rfl fun K1 h1 => ?_
      | refine aops_wanted rfl rfl (by first | rfl | assumption) fun K1 h1 => ?_
      | refine aops_unwanted rfl rfl (by first | rfl | assumption) ?_
      | refine aops_skip rfl rfl ?_
      | refine aops_guard rfl rfl (fun hg K1 h1 => ?_) (fun hg => ?_) <;> (try (have hw := hg; simp only [Bool.not_eq_true', Bool.not_eq_false', Bool.not_true, Bool.not_false, decide_eq_true_eq, decide_eq_false_iff_not, Int.not_lt, Int.not_le, Bool.or_eq_true, Bool.or_eq_false_iff, Bool.and_eq_true, Bool.and_eq_false_iff, not_true, not_false_eq_true, ne_eq, Decidable.not_not, reduceCtorEq] at hw)) <;> (try (exfalso; omega))
    | (with_reducible refine is_qs ?_); first
      | refine aqs_nil ?_
      | refine aqs_cons (v := ?_) rfl ?_ ?_
      | refine aqs_wanted (v := ?_) rfl rfl (by first | rfl | assumption) ?_ ?_
      | refine aqs_unwanted rfl rfl (by first | rfl | assumption) ?_
      | refine aqs_skip rfl rfl ?_
      | refine aqs_part rfl rfl (fun hg => ?_) (fun hg => ?_) <;> (try (have hw := hg; simp only [Bool.not_eq_true', Bool.not_eq_false', Bool.not_true, Bool.not_false, decide_eq_true_eq, decide_eq_false_iff_not, Int.not_lt, Int.not_le, Bool.or_eq_true, Bool.or_eq_false_iff, Bool.and_eq_true, Bool.and_eq_false_iff, not_true, not_false_eq_true, ne_eq, Decidable.not_not, reduceCtorEq] at hw)) <;> (try (exfalso; omega))
    | (with_reducible refine is_aw ?_); first
      | refine aw_rs tabOk (fun t => if t = 9 then true else false) _ rfl rfl ?_
      | refine aw_quiet rfl tabOk (fun t => if t = 9 then true else false) _ rfl rfl (by decide +kernel) ?_
      | refine aw_quiet_end rfl tabOk (fun t => if t = 9 then true else false) _ rfl rfl (by decide +kernel) ?_
      | refine aw_region tabOk (fun t => if t = 9 then true else false) _ rfl rfl ?_
      | refine aw_ret ?_
      | refine aw_skip ?_
      | refine aw_exit ?_
      | refine aw_block ?_
      | refine aw_label ?_
      | refine aw_cond_t rfl (by first | rfl | assumption) ?_
      | refine aw_cond_f rfl (by first | rfl | assumption) ?_
      | refine aw_cond rfl (fun hg => ?_) (fun hg => ?_) <;> (try (have hw := hg; simp only [Bool.not_eq_true', Bool.not_eq_false', Bool.not_true, Bool.not_false, decide_eq_true_eq, decide_eq_false_iff_not, Int.not_lt, Int.not_le, Bool.or_eq_true, Bool.or_eq_false_iff, Bool.and_eq_true, Bool.and_eq_false_iff, not_true, not_false_eq_true, ne_eq, Decidable.not_not, reduceCtorEq] at hw)) <;> (try (exfalso; omega))
      | refine aw_seq fun K hK => ?_
    | (with_reducible refine aPick_t ?_ ?_); first | rfl | assumption
    | (with_reducible refine aPick_f ?_ ?_); first | rfl | assumption
    | (with_reducible refine h1 _ _ ?_); clear h1 K1
    | (with_reducible refine hK _ _ ?_); clear hK K
    | with_reducible refine k_use (by assumption) _ _ ?_
    | with_reducible refine k1_use (by assumption) _ _ ?_
    | (with_reducible refine is_store ?_); first
      | simp only [aStore, go_sem, ↓reduceIte]
    | (with_reducible refine is_load ?_); first
      | simp only [aLoad, go_sem, ↓reduceIte]
    | (with_reducible refine is_alloc ?_); first
      | simp only [aAlloc, go_sem, ↓reduceIte]
    | (with_reducible refine is_box ?_); first
      | simp only [aBox, go_sem, ↓reduceIte]
    | (with_reducible refine is_make ?_); first
      | simp only [aMake, go_sem, ↓reduceIte]
    | (with_reducible refine is_bslice ?_); first
      | refine own_bslice h0 rfl rfl ⟨by decide, rfl, by decide⟩ rfl rfl (fun σ' x k hx => ?_)
      | simp only [aBuildSlice, go_sem, ↓reduceIte]
    | (with_reducible refine is_conv ?_); first
      | simp only [aConvS, go_sem, ↓reduceIte]
    | (with_reducible refine is_append ?_); first
      | refine Grow.append (by (first | assumption | exact Grow.setNew (by assumption) _ _ | exact Grow.push (by assumption) _ | exact Grow.setNew (Grow.setNew (by assumption) _ _) _ _ | exact Grow.push (Grow.setNew (by assumption) _ _) _)) rfl rfl ⟨rfl, rfl, by decide, rfl⟩ ?_ ?_ ?_ (fun x' σ' hG => ?_)
      | simp only [aAppend, go_sem, ↓reduceIte]
    | (with_reducible refine is_len ?_); first
      | refine Grow.len (by (first | assumption | exact Grow.setNew (by assumption) _ _ | exact Grow.push (by assumption) _ | exact Grow.setNew (Grow.setNew (by assumption) _ _) _ _ | exact Grow.push (Grow.setNew (by assumption) _ _) _)) rfl rfl ?_
      | simp only [aLen, go_sem, ↓reduceIte]
    | (with_reducible refine is_all ?_); rfl
    | with_reducible exact ⟨rfl, rfl⟩
    | with_reducible exact rfl
    | (with_reducible refine And.intro ?_ ?_); · (first | assumption | exact St.push_same _ _ | exact St.set_same _ _ _ | (repeat (first | refine obj_push (by first | omega | (simp only [push_next, set_next]; omega)) ?_ | refine obj_set (by first | omega | (simp only [push_next, set_next]; omega)) ?_)); (first | exact St.push_same _ _ | exact St.set_same _ _ _ | assumption) | omega | (simp only [push_objs, push_next, set_objs, set_next, ↓reduceIte]; done) | (simp only [push_objs, push_next, set_objs, set_next, ↓reduceIte]; omega) | rfl | (refine And.intro ?_ ?_ <;> (simp only [push_objs, push_next, set_objs, set_next, ↓reduceIte]; done)))
    | (with_reducible apply ex_and); · (first | assumption | exact St.push_same _ _ | exact St.set_same _ _ _ | (repeat (first | refine obj_push (by first | omega | (simp only [push_next, set_next]; omega)) ?_ | refine obj_set (by first | omega | (simp only [push_next, set_next]; omega)) ?_)); (first | exact St.push_same _ _ | exact St.set_same _ _ _ | assumption) | omega | (simp only [push_objs, push_next, set_objs, set_next, ↓reduceIte]; done) | (simp only [push_objs, push_next, set_objs, set_next, ↓reduceIte]; omega) | rfl | (refine And.intro ?_ ?_ <;> (simp only [push_objs, push_next, set_objs, set_next, ↓reduceIte]; done)))
    | simp (disch := omega) only [tdivE, tmodE, tdivN, tmodN, wrapI, wrapU8]
    | simp only [go_sem, ↓reduceIte]
    | (refine is_prop ?_; omega)
  refine aw_count 5 (fun i e τ => ∃ (gl : List Grp) (x4 : AV) (a' s' : Int), gl.length ≤ i ∧ (a ≤ a' ∧ a' ≤ a + 16 * i) ∧ Own σ [so] [srcE so gs b code a' s', glE x4 gl] τ ∧ e 0 = .ptr so gs 0 0 ∧ e 3 = .lst false 1 (nms.map str) ∧ e 4 = x4 ∧ e 5 = i64 i) ⟨[], x, a, s, Nat.le_refl _, by omega, k, rfl, rfl, rfl, rfl⟩ ?_
  rintro i e τ ⟨gl, x4, a', s', hgl, ha', k4, g0, g3, g4, g5⟩ hi
  by_cases hi5 : i < 5
  · have hx : (nms.map str)[i]? = some (str (nms.getD i ⟨#[]⟩)) := by
      have : i < nms.length := hi5
      simp [this]
    have hnl : (nms.map str).length = 5 := rfl
    have hgl' : (gl.map gAV).length ≤ 5 := by rw [List.length_map]; omega
    repeat' first
      | (with_reducible refine is_ops ?_); first
        | refine aops_nil ?_
        | refine aops_cons rfl fun K1 h1 => ?_
        | refine aops_wanted rfl rfl (by first | rfl | assumption) fun K1 h1 => ?_
        | refine aops_unwanted rfl rfl (by first | rfl | assumption) ?_
        | refine aops_skip rfl rfl ?_
        | refine aops_guard rfl rfl (fun hg K1 h1 => ?_) (fun hg => ?_) <;> (try (have hw := hg; simp only [Bool.not_eq_true', Bool.not_eq_false', Bool.not_true, Bool.not_false, decide_eq_true_eq, decide_eq_false_iff_not, Int.not_lt, Int.not_le, Bool.or_eq_true, Bool.or_eq_false_iff, Bool.and_eq_true, Bool.and_eq_false_iff, not_true, not_false_eq_true, ne_eq, Decidable.not_not, reduceCtorEq] at hw)) <;> (try (exfalso; omega))
      | (with_reducible refine is_qs ?_); first
        | refine aqs_nil ?_
        | refine aqs_cons (v := ?_) rfl ?_ ?_
        | refine aqs_wanted (v := ?_) rfl rfl (by first | rfl | assumption) ?_ ?_
        | refine aqs_unwanted rfl rfl (by first | rfl | assumption) ?_
        | refine aqs_skip rfl rfl ?_
        | refine aqs_part rfl rfl (fun hg => ?_) (fun hg => ?_) <;> (try (have hw := hg; simp only [Bool.not_eq_true', Bool.not_eq_false', Bool.not_true, Bool.not_false, decide_eq_true_eq, decide_eq_false_iff_not, Int.not_lt, Int.not_le, Bool.or_eq_true, Bool.or_eq_false_iff, Bool.and_eq_true, Bool.and_eq_false_iff, not_true, not_false_eq_true, ne_eq, Decidable.not_not, reduceCtorEq] at hw)) <;> (try (exfalso; omega))
      | (with_reducible refine is_aw ?_); first
        | refine aw_rs tabOk (fun _ => false) _ rfl rfl ?_
        | refine aw_quiet rfl tabOk (fun _ => false) _ rfl rfl (by decide +kernel) ?_
        | refine aw_quiet_end rfl tabOk (fun _ => false) _ rfl rfl (by decide +kernel) ?_
        | refine aw_region tabOk (fun _ => false) _ rfl rfl ?_
        | refine aw_ret ?_
        | refine aw_skip ?_
        | refine aw_exit ?_
        | refine aw_block ?_
        | refine aw_label ?_
        | refine aw_cond_t rfl (by first | rfl | assumption) ?_
        | refine aw_cond_f rfl (by first | rfl | assumption) ?_
        | refine aw_cond rfl (fun hg => ?_) (fun hg => ?_) <;> (try (have hw := hg; simp only [Bool.not_eq_true', Bool.not_eq_false', Bool.not_true, Bool.not_false, decide_eq_true_eq, decide_eq_false_iff_not, Int.not_lt, Int.not_le, Bool.or_eq_true, Bool.or_eq_false_iff, Bool.and_eq_true, Bool.and_eq_false_iff, not_true, not_false_eq_true, ne_eq, Decidable.not_not, reduceCtorEq] at hw)) <;> (try (exfalso; omega))
        | refine aw_seq fun K hK => ?_
      | (with_reducible refine aPick_t ?_ ?_); first | rfl | assumption
      | (with_reducible refine aPick_f ?_ ?_); first | rfl | assumption
      | (with_reducible refine h1 _ _ ?_); clear h1 K1
      | (with_reducible refine hK _ _ ?_); clear hK K
      | with_reducible refine k_use (by assumption) _ _ ?_
      | with_reducible refine k1_use (by assumption) _ _ ?_
      | (with_reducible refine is_call ?_); first
        | refine g_one _ (by assumption) 0 (by rfl) (by omega) hc (fun v a1 s1 σ1 q1 q2 => ?_)
        | refine g_drawOne _ (by assumption) 0 (by rfl) (by omega) hc (fun gd a2 s2 σ2 p1 p2 p3 => ?_)
      | (with_reducible refine is_store ?_); first
        | simp only [g0, g3, g4, g5, hnl, aStore, go_sem, ↓reduceIte]
      | (with_reducible refine is_load ?_); first
        | simp only [g0, g3, g4, g5, hnl, aLoad, go_sem, ↓reduceIte]
      | (with_reducible refine is_alloc ?_); first
        | simp only [g0, g3, g4, g5, hnl, aAlloc, go_sem, ↓reduceIte]
      | (with_reducible refine is_box ?_); first
        | simp only [g0, g3, g4, g5, hnl, aBox, go_sem, ↓reduceIte]
      | (with_reducible refine is_make ?_); first
        | simp only [g0, g3, g4, g5, hnl, aMake, go_sem, ↓reduceIte]
      | (with_reducible refine is_bslice ?_); first
        | simp only [g0, g3, g4, g5, hnl, aBuildSlice, go_sem, ↓reduceIte]
      | (with_reducible refine is_conv ?_); first
        | simp only [g0, g3, g4, g5, hnl, aConvS, go_sem, ↓reduceIte]
      | (with_reducible refine is_append ?_); first
        | refine own_append 1 (by assumption) (by rfl) rfl rfl ⟨rfl, rfl, by decide, rfl⟩ rfl (by simp; omega) (by simp; omega) (fun x' σ' k hx' => ?_)
        | refine Grow.append (by (first | assumption | exact Grow.setNew (by assumption) _ _ | exact Grow.push (by assumption) _ | exact Grow.setNew (Grow.setNew (by assumption) _ _) _ _ | exact Grow.push (Grow.setNew (by assumption) _ _) _)) rfl rfl ⟨rfl, rfl, by decide, rfl⟩ ?_ ?_ ?_ (fun x' σ' hG => ?_)
        | simp only [g0, g3, g4, g5, hnl, aAppend, go_sem, ↓reduceIte]
      | (with_reducible refine is_len ?_); first
        | refine Grow.len (by (first | assumption | exact Grow.setNew (by assumption) _ _ | exact Grow.push (by assumption) _ | exact Grow.setNew (Grow.setNew (by assumption) _ _) _ _ | exact Grow.push (Grow.setNew (by assumption) _ _) _)) rfl rfl ?_
        | simp only [g0, g3, g4, g5, hnl, aLen, go_sem, ↓reduceIte]
      | (with_reducible refine is_all ?_); rfl
      | with_reducible exact ⟨rfl, rfl⟩
      | with_reducible exact rfl
      | (with_reducible refine And.intro ?_ ?_); · (first | assumption | exact St.push_same _ _ | exact St.set_same _ _ _ | (repeat (first | refine obj_push (by first | omega | (simp only [push_next, set_next]; omega)) ?_ | refine obj_set (by first | omega | (simp only [push_next, set_next]; omega)) ?_)); (first | exact St.push_same _ _ | exact St.set_same _ _ _ | assumption) | omega | (simp only [push_objs, push_next, set_objs, set_next, ↓reduceIte]; done) | (simp only [push_objs, push_next, set_objs, set_next, ↓reduceIte]; omega) | rfl | (refine And.intro ?_ ?_ <;> (simp only [push_objs, push_next, set_objs, set_next, ↓reduceIte]; done)))
      | (with_reducible apply ex_and); · (first | assumption | exact St.push_same _ _ | exact St.set_same _ _ _ | (repeat (first | refine obj_push (by first | omega | (simp only [push_next, set_next]; omega)) ?_ | refine obj_set (by first | omega | (simp only [push_next, set_next]; omega)) ?_)); (first | exact St.push_same _ _ | exact St.set_same _ _ _ | assumption) | omega | (simp only [push_objs, push_next, set_objs, set_next, ↓reduceIte]; done) | (simp only [push_objs, push_next, set_objs, set_next, ↓reduceIte]; omega) | rfl | (refine And.intro ?_ ?_ <;> (simp only [push_objs, push_next, set_objs, set_next, ↓reduceIte]; done)))
      | simp (disch := omega) only [tdivE, tmodE, tdivN, tmodN, wrapI, wrapU8]
      | simp only [g0, g3, g4, g5, hnl, go_sem, ↓reduceIte]
      | (refine is_prop ?_; omega)
    · exact ⟨gl ++ [gd], x', a2, s2, by simp; omega, by omega, by rw [glE_app]; exact k, rfl, rfl⟩
    · exact ⟨gl, x4, a1, s1, by omega, by omega, q2, rfl, rfl⟩
  · have hnl : nms.length = 5 := rfl
    have hi' : i = 5 := by omega
    subst hi'
    have hgl' : (gl.map gAV).length ≤ 5 := by rw [List.length_map]; omega
    repeat' first
      | (with_reducible refine is_ops ?_); first
        | refine aops_nil ?_
        | refine aops_cons rfl fun K1 h1 => ?_
        | refine aops_wanted rfl rfl (by first | rfl | assumption) fun K1 h1 => ?_
        | refine aops_unwanted rfl rfl (by first | rfl | assumption) ?_
        | refine aops_skip rfl rfl ?_
        | refine aops_guard rfl rfl (fun hg K1 h1 => ?_) (fun hg => ?_) <;> (try (have hw := hg; simp only [Bool.not_eq_true', Bool.not_eq_false', Bool.not_true, Bool.not_false, decide_eq_true_eq, decide_eq_false_iff_not, Int.not_lt, Int.not_le, Bool.or_eq_true, Bool.or_eq_false_iff, Bool.and_eq_true, Bool.and_eq_false_iff, not_true, not_false_eq_true, ne_eq, Decidable.not_not, reduceCtorEq] at hw)) <;> (try (exfalso; omega))
      | (with_reducible refine is_qs ?_); first
        | refine aqs_nil ?_
        | refine aqs_cons (v := ?_) rfl ?_ ?_
        | refine aqs_wanted (v := ?_) rfl rfl (by first | rfl | assumption) ?_ ?_
        | refine aqs_unwanted rfl rfl (by first | rfl | assumption) ?_
        | refine aqs_skip rfl rfl ?_
        | refine aqs_part rfl rfl (fun hg => ?_) (fun hg => ?_) <;> (try (have hw := hg; simp only [Bool.not_eq_true', Bool.not_eq_false', Bool.not_true, Bool.not_false, decide_eq_true_eq, decide_eq_false_iff_not, Int.not_lt, Int.not_le, Bool.or_eq_true, Bool.or_eq_false_iff, Bool.and_eq_true, Bool.and_eq_false_iff, not_true, not_false_eq_true, ne_eq, Decidable.not_not, reduceCtorEq] at hw)) <;> (try (exfalso; omega))
      | (with_reducible refine is_aw ?_); first
        | refine aw_rs tabOk (fun t => if t = 44 then true else false) _ rfl rfl ?_
        | refine aw_quiet rfl tabOk (fun t => if t = 44 then true else false) _ rfl rfl (by decide +kernel) ?_
        | refine aw_quiet_end rfl tabOk (fun t => if t = 44 then true else false) _ rfl rfl (by decide +kernel) ?_
        | refine aw_region tabOk (fun t => if t = 44 then true else false) _ rfl rfl ?_
        | refine aw_ret ?_
        | refine aw_skip ?_
        | refine aw_exit ?_
        | refine aw_block ?_
        | refine aw_label ?_
        | refine aw_cond_t rfl (by first | rfl | assumption) ?_
        | refine aw_cond_f rfl (by first | rfl | assumption) ?_
        | refine aw_cond rfl (fun hg => ?_) (fun hg => ?_) <;> (try (have hw := hg; simp only [Bool.not_eq_true', Bool.not_eq_false', Bool.not_true, Bool.not_false, decide_eq_true_eq, decide_eq_false_iff_not, Int.not_lt, Int.not_le, Bool.or_eq_true, Bool.or_eq_false_iff, Bool.and_eq_true, Bool.and_eq_false_iff, not_true, not_false_eq_true, ne_eq, Decidable.not_not, reduceCtorEq] at hw)) <;> (try (exfalso; omega))
        | refine aw_seq fun K hK => ?_
      | (with_reducible refine aPick_t ?_ ?_); first | rfl | assumption
      | (with_reducible refine aPick_f ?_ ?_); first | rfl | assumption
      | (with_reducible refine h1 _ _ ?_); clear h1 K1
      | (with_reducible refine hK _ _ ?_); clear hK K
      | with_reducible refine k_use (by assumption) _ _ ?_
      | with_reducible refine k1_use (by assumption) _ _ ?_
      | (with_reducible refine is_call ?_); first
        | refine g_pick _ (by assumption) 0 (by rfl) (by omega) hc (fun v a1 s1 σ1 q1 q2 q3 => ?_)
        | refine g_drawOne _ (by assumption) 0 (by rfl) (by omega) hc (fun gd a2 s2 σ2 p1 p2 p3 => ?_)
        | refine g_bend _ (by assumption) 0 (by rfl) (by omega) hc (fun gb a3 s3 σ3 t1 t2 => ?_)
        | refine g_among [8, 9] _ (by decide) (by assumption) 0 (by rfl) (by omega) hc (fun v2 a2 s2 σ2 p1 p2 p3 => ?_)
      | (with_reducible refine is_store ?_); first
        | simp only [g0, g3, g4, g5, hnl, aStore, go_sem, ↓reduceIte]
      | (with_reducible refine is_load ?_); first
        | simp only [g0, g3, g4, g5, hnl, aLoad, go_sem, ↓reduceIte]
      | (with_reducible refine is_alloc ?_); first
        | simp only [g0, g3, g4, g5, hnl, aAlloc, go_sem, ↓reduceIte]
      | (with_reducible refine is_box ?_); first
        | simp only [g0, g3, g4, g5, hnl, aBox, go_sem, ↓reduceIte]
      | (with_reducible refine is_make ?_); first
        | simp only [g0, g3, g4, g5, hnl, aMake, go_sem, ↓reduceIte]
      | (with_reducible refine is_bslice ?_); first
        | refine own_bslice (by assumption) rfl rfl ⟨by decide, rfl, by decide⟩ rfl rfl (fun σ' x k hx => ?_)
        | simp only [g0, g3, g4, g5, hnl, aBuildSlice, go_sem, ↓reduceIte]
      | (with_reducible refine is_conv ?_); first
        | simp only [g0, g3, g4, g5, hnl, aConvS, go_sem, ↓reduceIte]
      | (with_reducible refine is_append ?_); first
        | refine own_append 1 (by assumption) (by rfl) rfl rfl ⟨rfl, rfl, by decide, rfl⟩ rfl (by simp; omega) (by simp; omega) (fun x' σ' k hx' => ?_)
        | refine Grow.append (by (first | assumption | exact Grow.setNew (by assumption) _ _ | exact Grow.push (by assumption) _ | exact Grow.setNew (Grow.setNew (by assumption) _ _) _ _ | exact Grow.push (Grow.setNew (by assumption) _ _) _)) rfl rfl ⟨rfl, rfl, by decide, rfl⟩ ?_ ?_ ?_ (fun x' σ' hG => ?_)
        | simp only [g0, g3, g4, g5, hnl, aAppend, go_sem, ↓reduceIte]
      | (with_reducible refine is_len ?_); first
        | refine Grow.len (by (first | assumption | exact Grow.setNew (by assumption) _ _ | exact Grow.push (by assumption) _ | exact Grow.setNew (Grow.setNew (by assumption) _ _) _ _ | exact Grow.push (Grow.setNew (by assumption) _ _) _)) rfl rfl ?_
        | simp only [g0, g3, g4, g5, hnl, aLen, go_sem, ↓reduceIte]
      | (with_reducible refine is_all ?_); rfl
      | with_reducible exact ⟨rfl, rfl⟩
      | with_reducible exact rfl
      | (with_reducible refine And.intro ?_ ?_); · (first | assumption | exact St.push_same _ _ | exact St.set_same _ _ _ | (repeat (first | refine obj_push (by first | omega | (simp only [push_next, set_next]; omega)) ?_ | refine obj_set (by first | omega | (simp only [push_next, set_next]; omega)) ?_)); (first | exact St.push_same _ _ | exact St.set_same _ _ _ | assumption) | omega | (simp only [push_objs, push_next, set_objs, set_next, ↓reduceIte]; done) | (simp only [push_objs, push_next, set_objs, set_next, ↓reduceIte]; omega) | rfl | (refine And.intro ?_ ?_ <;> (simp only [push_objs, push_next, set_objs, set_next, ↓reduceIte]; done)))
      | (with_reducible apply ex_and); · (first | assumption | exact St.push_same _ _ | exact St.set_same _ _ _ | (repeat (first | refine obj_push (by first | omega | (simp only [push_next, set_next]; omega)) ?_ | refine obj_set (by first | omega | (simp only [push_next, set_next]; omega)) ?_)); (first | exact St.push_same _ _ | exact St.set_same _ _ _ | assumption) | omega | (simp only [push_objs, push_next, set_objs, set_next, ↓reduceIte]; done) | (simp only [push_objs, push_next, set_objs, set_next, ↓reduceIte]; omega) | rfl | (refine And.intro ?_ ?_ <;> (simp only [push_objs, push_next, set_objs, set_next, ↓reduceIte]; done)))
      | simp (disch := omega) only [tdivE, tmodE, tdivN, tmodN, wrapI, wrapU8]
      | simp only [g0, g3, g4, g5, hnl, go_sem, ↓reduceIte]
      | (refine is_prop ?_; omega)
    · exact hQ (gl ++ [gb]) x' a3 s3 _ (by simp; omega) (by omega) (by rw [glE_app]; exact k)
    · rename_i hx
      have hv2 : v2 = 8 ∨ v2 = 9 := by simpa using p1
      refine aw_count v2.toNat (fun i e τ => ∃ (gl2 : List Grp) (x5 : AV), gl2.length ≤ i ∧ Own σ [so] [srcE so gs b code a2 s2, glE x4 gl, glE x5 gl2] τ ∧ e 4 = x5 ∧ e 6 = i64 v2 ∧ e 7 = i64 i) ⟨[], x, Nat.le_refl _, k, rfl, rfl, rfl⟩ ?_
      rintro j e2 τ2 ⟨gl2, x5, hj, k5, g4', g6, g7⟩ hj2
      have hok : i64Ok j := by unfold i64Ok; omega
      have hsz : (⟨#[110]⟩ : ByteArray).size + (decS j).size ≤ 9223372036854775807 := by
        have := decS_size hok; have h2 : (⟨#[110]⟩ : ByteArray).size = 1 := rfl; omega
      have hgl2 : (gl2.map gAV).length ≤ 9 := by rw [List.length_map]; omega
      repeat' first
        | (with_reducible refine is_ops ?_); first
          | refine aops_nil ?_
          | refine aops_cons rfl fun K1 h1 => ?_
          | refine aops_wanted rfl rfl (by first | rfl | assumption) fun K1 h1 => ?_
          | refine aops_unwanted rfl rfl (by first | rfl | assumption) ?_
          | refine aops_skip rfl rfl ?_
          | refine aops_guard rfl rfl (fun hg K1 h1 => ?_) (fun hg => ?_) <;> (try (have hw := hg; simp only [Bool.not_eq_true', Bool.not_eq_false', Bool.not_true, Bool.not_false, decide_eq_true_eq, decide_eq_false_iff_not, Int.not_lt, Int.not_le, Bool.or_eq_true, Bool.or_eq_false_iff, Bool.and_eq_true, Bool.and_eq_false_iff, not_true, not_false_eq_true, ne_eq, Decidable.not_not, reduceCtorEq] at hw)) <;> (try (exfalso; omega))
        | (with_reducible refine is_qs ?_); first
          | refine aqs_nil ?_
          | refine aqs_cons (v := ?_) rfl ?_ ?_
          | refine aqs_wanted (v := ?_) rfl rfl (by first | rfl | assumption) ?_ ?_
          | refine aqs_unwanted rfl rfl (by first | rfl | assumption) ?_
          | refine aqs_skip rfl rfl ?_
          | refine aqs_part rfl rfl (fun hg => ?_) (fun hg => ?_) <;> (try (have hw := hg; simp only [Bool.not_eq_true', Bool.not_eq_false', Bool.not_true, Bool.not_false, decide_eq_true_eq, decide_eq_false_iff_not, Int.not_lt, Int.not_le, Bool.or_eq_true, Bool.or_eq_false_iff, Bool.and_eq_true, Bool.and_eq_false_iff, not_true, not_false_eq_true, ne_eq, Decidable.not_not, reduceCtorEq] at hw)) <;> (try (exfalso; omega))
        | (with_reducible refine is_aw ?_); first
          | refine aw_rs tabOk (fun _ => false) _ rfl rfl ?_
          | refine aw_quiet rfl tabOk (fun _ => false) _ rfl rfl (by decide +kernel) ?_
          | refine aw_quiet_end rfl tabOk (fun _ => false) _ rfl rfl (by decide +kernel) ?_
          | refine aw_region tabOk (fun _ => false) _ rfl rfl ?_
          | refine aw_ret ?_
          | refine aw_skip ?_
          | refine aw_exit ?_
          | refine aw_block ?_
          | refine aw_label ?_
          | refine aw_cond_t rfl (by first | rfl | assumption) ?_
          | refine aw_cond_f rfl (by first | rfl | assumption) ?_
          | refine aw_cond rfl (fun hg => ?_) (fun hg => ?_) <;> (try (have hw := hg; simp only [Bool.not_eq_true', Bool.not_eq_false', Bool.not_true, Bool.not_false, decide_eq_true_eq, decide_eq_false_iff_not, Int.not_lt, Int.not_le, Bool.or_eq_true, Bool.or_eq_false_iff, Bool.and_eq_true, Bool.and_eq_false_iff, not_true, not_false_eq_true, ne_eq, Decidable.not_not, reduceCtorEq] at hw)) <;> (try (exfalso; omega))
          | refine aw_seq fun K hK => ?_
        | (with_reducible refine aPick_t ?_ ?_); first | rfl | assumption
        | (with_reducible refine aPick_f ?_ ?_); first | rfl | assumption
        | (with_reducible refine h1 _ _ ?_); clear h1 K1
        | (with_reducible refine hK _ _ ?_); clear hK K
        | with_reducible refine k_use (by assumption) _ _ ?_
        | with_reducible refine k1_use (by assumption) _ _ ?_
        | (with_reducible refine is_call ?_); first
          | refine c_dec _ hok ?_
        | (with_reducible refine is_store ?_); first
          | simp only [g4', g6, g7, aStore, go_sem, ↓reduceIte]
        | (with_reducible refine is_load ?_); first
          | simp only [g4', g6, g7, aLoad, go_sem, ↓reduceIte]
        | (with_reducible refine is_alloc ?_); first
          | simp only [g4', g6, g7, aAlloc, go_sem, ↓reduceIte]
        | (with_reducible refine is_box ?_); first
          | simp only [g4', g6, g7, aBox, go_sem, ↓reduceIte]
        | (with_reducible refine is_make ?_); first
          | simp only [g4', g6, g7, aMake, go_sem, ↓reduceIte]
        | (with_reducible refine is_bslice ?_); first
          | simp only [g4', g6, g7, aBuildSlice, go_sem, ↓reduceIte]
        | (with_reducible refine is_conv ?_); first
          | simp only [g4', g6, g7, aConvS, go_sem, ↓reduceIte]
        | (with_reducible refine is_append ?_); first
          | refine own_append 2 (by assumption) (by rfl) rfl rfl ⟨rfl, rfl, by decide, rfl⟩ rfl (by simp; omega) (by simp; omega) (fun x' σ' k hx' => ?_)
          | refine Grow.append (by (first | assumption | exact Grow.setNew (by assumption) _ _ | exact Grow.push (by assumption) _ | exact Grow.setNew (Grow.setNew (by assumption) _ _) _ _ | exact Grow.push (Grow.setNew (by assumption) _ _) _)) rfl rfl ⟨rfl, rfl, by decide, rfl⟩ ?_ ?_ ?_ (fun x' σ' hG => ?_)
          | simp only [g4', g6, g7, aAppend, go_sem, ↓reduceIte]
        | (with_reducible refine is_len ?_); first
          | refine Grow.len (by (first | assumption | exact Grow.setNew (by assumption) _ _ | exact Grow.push (by assumption) _ | exact Grow.setNew (Grow.setNew (by assumption) _ _) _ _ | exact Grow.push (Grow.setNew (by assumption) _ _) _)) rfl rfl ?_
          | simp only [g4', g6, g7, aLen, go_sem, ↓reduceIte]
        | (with_reducible refine is_all ?_); rfl
        | with_reducible exact ⟨rfl, rfl⟩
        | with_reducible exact rfl
        | (with_reducible refine And.intro ?_ ?_); · (first | assumption | exact St.push_same _ _ | exact St.set_same _ _ _ | (repeat (first | refine obj_push (by first | omega | (simp only [push_next, set_next]; omega)) ?_ | refine obj_set (by first | omega | (simp only [push_next, set_next]; omega)) ?_)); (first | exact St.push_same _ _ | exact St.set_same _ _ _ | assumption) | omega | (simp only [push_objs, push_next, set_objs, set_next, ↓reduceIte]; done) | (simp only [push_objs, push_next, set_objs, set_next, ↓reduceIte]; omega) | rfl | (refine And.intro ?_ ?_ <;> (simp only [push_objs, push_next, set_objs, set_next, ↓reduceIte]; done)))
        | (with_reducible apply ex_and); · (first | assumption | exact St.push_same _ _ | exact St.set_same _ _ _ | (repeat (first | refine obj_push (by first | omega | (simp only [push_next, set_next]; omega)) ?_ | refine obj_set (by first | omega | (simp only [push_next, set_next]; omega)) ?_)); (first | exact St.push_same _ _ | exact St.set_same _ _ _ | assumption) | omega | (simp only [push_objs, push_next, set_objs, set_next, ↓reduceIte]; done) | (simp only [push_objs, push_next, set_objs, set_next, ↓reduceIte]; omega) | rfl | (refine And.intro ?_ ?_ <;> (simp only [push_objs, push_next, set_objs, set_next, ↓reduceIte]; done)))
        | simp (disch := omega) only [tdivE, tmodE, tdivN, tmodN, wrapI, wrapU8]
        | simp only [g4', g6, g7, go_sem, ↓reduceIte]
        | (refine is_prop ?_; omega)
      · exact ⟨gl2 ++ [⟨⟨#[110]⟩ ++ decS j, 1 + j, 0, 0, 0, 0, 3⟩], x', by simp; omega, by rw [glE_app]; exact k, rfl, rfl⟩
      · exact hQ gl2 x5 a2 s2 _ (by omega) (by omega) (k5.sub (List.Sublist.cons_cons _ (List.Sublist.cons _ (List.Sublist.refl _))))
    · exact hQ gl x4 a1 s1 _ (by omega) (by omega) q3
/-- spec.DrawGoingGroups -/
theorem p_drawGoing (b : Bool) (code : List UInt8) (hc : code.length ≤ 2000000) (n : Nat) : ACall Try.prog 6 [.lst b 1 (code.map byteAV)] (St.emp n) (fun r _ => ∃ (gl : List Grp) (lv : Int), r = .tup [gsAV false gl, i64 lv]) := by
  refine acall_freeze ?_
  have h0 := Own.nil (St.emp n)
  refine acall_intro (N := 13) (rs := [.tmp 2, .tmp 3]) T tabOk Try.func6 (by decide +kernel) rfl Try.ntmps6 Try.results6 (by simp) ?_
  repeat' first
    | (with_reducible refine is_ops ?_); first
      | refine aops_nil ?_
      | refine aops_cons rfl fun K1 h1 => ?_
      | refine aops_wanted rfl rfl (by first | rfl | assumption) fun K1 h1 => ?_
      | refine aops_unwanted rfl rfl (by first | rfl | assumption) ?_
      | refine aops_skip rfl rfl ?_
      | refine aops_guard rfl rfl (fun hg K1 h1 => ?_) (fun hg => ?_) <;> (try (have hw := hg; simp only [Bool.not_eq_true', Bool.not_eq_false', Bool.not_true, Bool.not_false, decide_eq_true_eq, decide_eq_false_iff_not, Int.not_lt, Int.not_le, Bool.or_eq_true, Bool.or_eq_false_iff, Bool.and_eq_true, Bool.and_eq_false_iff, not_true, not_false_eq_true, ne_eq, Decidable.not_not, reduceCtorEq] at hw)) <;> (try (exfalso; omega))
    | (with_reducible refine is_qs ?_); first
      | refine aqs_nil ?_
      | refine aqs_cons (v := ?_) rfl ?_ ?_
      | refine aqs_wanted (v := ?_) rfl rfl (by first | rfl | assumption) ?_ ?_
      | refine aqs_unwanted rfl rfl (by first | rfl | assumption) ?_
      | refine aqs_skip rfl rfl ?_
      | refine aqs_part rfl rfl (fun hg => ?_) (fun hg => ?_) <;> (try (have hw := hg; simp only [Bool.not_eq_true', Bool.not_eq_false', Bool.not_true, Bool.not_false, decide_eq_true_eq, decide_eq_false_iff_not, Int.not_lt, Int.not_le, Bool.or_eq_true, Bool.or_eq_false_iff, Bool.and_eq_true, Bool.and_eq_false_iff, not_true, not_false_eq_true, ne_eq, Decidable.not_not, reduceCtorEq] at hw)) <;> (try (exfalso; omega))
    | (with_reducible refine is_aw ?_); first
      | refine aw_rs tabOk (fun _ => false) _ rfl rfl ?_
      | refine aw_quiet rfl tabOk (fun _ => false) _ rfl rfl (by decide +kernel) ?_
      | refine aw_quiet_end rfl tabOk (fun _ => false) _ rfl rfl (by decide +kernel) ?_
      | refine aw_region tabOk (fun _ => false) _ rfl rfl ?_
      | refine aw_ret ?_
      | refine aw_skip ?_
      | refine aw_exit ?_
      | refine aw_block ?_
      | refine aw_label ?_
      | refine aw_cond_t rfl (by first | rfl | assumption) ?_
      | refine aw_cond_f rfl (by first | rfl | assumption) ?_
      | refine aw_cond rfl (fun hg => ?_) (fun hg => ?_) <;> (try (have hw := hg; simp only [Bool.not_eq_true', Bool.not_eq_false', Bool.not_true, Bool.not_false, decide_eq_true_eq, decide_eq_false_iff_not, Int.not_lt, Int.not_le, Bool.or_eq_true, Bool.or_eq_false_iff, Bool.and_eq_true, Bool.and_eq_false_iff, not_true, not_false_eq_true, ne_eq, Decidable.not_not, reduceCtorEq] at hw)) <;> (try (exfalso; omega))
      | refine aw_seq fun K hK => ?_
    | (with_reducible refine aPick_t ?_ ?_); first | rfl | assumption
    | (with_reducible refine aPick_f ?_ ?_); first | rfl | assumption
    | (with_reducible refine h1 _ _ ?_); clear h1 K1
    | (with_reducible refine hK _ _ ?_); clear hK K
    | with_reducible refine k_use (by assumption) _ _ ?_
    | with_reducible refine k1_use (by assumption) _ _ ?_
    | (with_reducible refine is_call ?_); first
      | refine g_from b code h0 (fun so σ' k => ?_)
      | refine c_draw (k.at 0 rfl) (Own.ltA (i := 0) k rfl) (by omega) hc (fun gl x a1 s1 σ1 q1 q2 q3 => ?_)
      | refine g_drawLevel q3 0 rfl (by omega) hc (fun v a2 s2 σ2 p1 p2 => ?_)
    | (with_reducible refine is_store ?_); first
      | simp only [aStore, go_sem, ↓reduceIte]
    | (with_reducible refine is_load ?_); first
      | simp only [aLoad, go_sem, ↓reduceIte]
    | (with_reducible refine is_alloc ?_); first
      | simp only [aAlloc, go_sem, ↓reduceIte]
    | (with_reducible refine is_box ?_); first
      | simp only [aBox, go_sem, ↓reduceIte]
    | (with_reducible refine is_make ?_); first
      | simp only [aMake, go_sem, ↓reduceIte]
    | (with_reducible refine is_bslice ?_); first
      | simp only [aBuildSlice, go_sem, ↓reduceIte]
    | (with_reducible refine is_conv ?_); first
      | simp only [aConvS, go_sem, ↓reduceIte]
    | (with_reducible refine is_append ?_); first
      | refine Grow.append (by (first | assumption | exact Grow.setNew (by assumption) _ _ | exact Grow.push (by assumption) _ | exact Grow.setNew (Grow.setNew (by assumption) _ _) _ _ | exact Grow.push (Grow.setNew (by assumption) _ _) _)) rfl rfl ⟨rfl, rfl, by decide, rfl⟩ ?_ ?_ ?_ (fun x' σ' hG => ?_)
      | simp only [aAppend, go_sem, ↓reduceIte]
    | (with_reducible refine is_len ?_); first
      | refine Grow.len (by (first | assumption | exact Grow.setNew (by assumption) _ _ | exact Grow.push (by assumption) _ | exact Grow.setNew (Grow.setNew (by assumption) _ _) _ _ | exact Grow.push (Grow.setNew (by assumption) _ _) _)) rfl rfl ?_
      | simp only [aLen, go_sem, ↓reduceIte]
    | (with_reducible refine is_all ?_); rfl
    | with_reducible exact ⟨rfl, rfl⟩
    | with_reducible exact rfl
    | (with_reducible refine And.intro ?_ ?_); · (first | assumption | exact St.push_same _ _ | exact St.set_same _ _ _ | (repeat (first | refine obj_push (by first | omega | (simp only [push_next, set_next]; omega)) ?_ | refine obj_set (by first | omega | (simp only [push_next, set_next]; omega)) ?_)); (first | exact St.push_same _ _ | exact St.set_same _ _ _ | assumption) | omega | (simp only [push_objs, push_next, set_objs, set_next, ↓reduceIte]; done) | (simp only [push_objs, push_next, set_objs, set_next, ↓reduceIte]; omega) | rfl | (refine And.intro ?_ ?_ <;> (simp only [push_objs, push_next, set_objs, set_next, ↓reduceIte]; done)))
    | (with_reducible apply ex_and); · (first | assumption | exact St.push_same _ _ | exact St.set_same _ _ _ | (repeat (first | refine obj_push (by first | omega | (simp only [push_next, set_next]; omega)) ?_ | refine obj_set (by first | omega | (simp only [push_next, set_next]; omega)) ?_)); (first | exact St.push_same _ _ | exact St.set_same _ _ _ | assumption) | omega | (simp only [push_objs, push_next, set_objs, set_next, ↓reduceIte]; done) | (simp only [push_objs, push_next, set_objs, set_next, ↓reduceIte]; omega) | rfl | (refine And.intro ?_ ?_ <;> (simp only [push_objs, push_next, set_objs, set_next, ↓reduceIte]; done)))
    | simp (disch := omega) only [tdivE, tmodE, tdivN, tmodN, wrapI, wrapU8]
    | simp only [go_sem, ↓reduceIte]
    | (refine is_prop ?_; omega)
  exact ⟨_, .tup (.cons (p2.frzS (b := false) 1 rfl (FrzL.same (pures_map _ fun _ => rfl)) (fun _ => rfl)) (.cons (.same rfl) .nil)), fun _ => ⟨gl, v, rfl⟩⟩
/-- spec.DrawBestPairs -/
theorem p_drawBest (b : Bool) (code : List UInt8) (hc : code.length ≤ 2000000) (n : Nat) : ACall Try.prog 12 [.lst b 1 (code.map byteAV)] (St.emp n) (fun r _ => ∃ (gl : List Grp) (lv bu : Int), r = .tup [gsAV false gl, i64 lv, i64 bu]) := by
  refine acall_freeze ?_
  have h0 := Own.nil (St.emp n)
  refine acall_intro (N := 19) (rs := [.tmp 2, .tmp 3, .tmp 4]) T tabOk Try.func12 (by decide +kernel) rfl Try.ntmps12 Try.results12 (by simp) ?_
  repeat' first
    | (with_reducible refine is_ops ?_); first
      | refine aops_nil ?_
      | refine aops_cons rfl fun K1 h1 => ?_
      | refine aops_wanted rfl rfl (by first | rfl | assumption) fun K1 h1 => ?_
      | refine aops_unwanted rfl rfl (by first | rfl | assumption) ?_
      | refine aops_skip rfl rfl ?_
      | refine aops_guard rfl rfl (fun hg K1 h1 => ?_) (fun hg => ?_) <;> (try (have hw := hg; simp only [Bool.not_eq_true', Bool.not_eq_false', Bool.not_true, Bool.not_false, decide_eq_true_eq, decide_eq_false_iff_not, Int.not_lt, Int.not_le, Bool.or_eq_true, Bool.or_eq_false_iff, Bool.and_eq_true, Bool.and_eq_false_iff, not_true, not_false_eq_true, ne_eq, Decidable.not_not, reduceCtorEq] at hw)) <;> (try (exfalso; omega))
    | (with_reducible refine is_qs ?_); first
      | refine aqs_nil ?_
      | refine aqs_cons (v := ?_) rfl ?_ ?_
      | refine aqs_wanted (v := ?_) rfl rfl (by first | rfl | assumption) ?_ ?_
      | refine aqs_unwanted rfl rfl (by first | rfl | assumption) ?_
      | refine aqs_skip rfl rfl ?_
      | refine aqs_part rfl rfl (fun hg => ?_) (fun hg => ?_) <;> (try (have hw := hg; simp only [Bool.not_eq_true', Bool.not_eq_false', Bool.not_true, Bool.not_false, decide_eq_true_eq, decide_eq_false_iff_not, Int.not_lt, Int.not_le, Bool.or_eq_true, Bool.or_eq_false_iff, Bool.and_eq_true, Bool.and_eq_false_iff, not_true, not_false_eq_true, ne_eq, Decidable.not_not, reduceCtorEq] at hw)) <;> (try (exfalso; omega))
    | (with_reducible refine is_aw ?_); first
      | refine aw_rs tabOk (fun _ => false) _ rfl rfl ?_
      | refine aw_quiet rfl tabOk (fun _ => false) _ rfl rfl (by decide +kernel) ?_
      | refine aw_quiet_end rfl tabOk (fun _ => false) _ rfl rfl (by decide +kernel) ?_
      | refine aw_region tabOk (fun _ => false) _ rfl rfl ?_
      | refine aw_ret ?_
      | refine aw_skip ?_
      | refine aw_exit ?_
      | refine aw_block ?_
      | refine aw_label ?_
      | refine aw_cond_t rfl (by first | rfl | assumption) ?_
      | refine aw_cond_f rfl (by first | rfl | assumption) ?_
      | refine aw_cond rfl (fun hg => ?_) (fun hg => ?_) <;> (try (have hw := hg; simp only [Bool.not_eq_true', Bool.not_eq_false', Bool.not_true, Bool.not_false, decide_eq_true_eq, decide_eq_false_iff_not, Int.not_lt, Int.not_le, Bool.or_eq_true, Bool.or_eq_false_iff, Bool.and_eq_true, Bool.and_eq_false_iff, not_true, not_false_eq_true, ne_eq, Decidable.not_not, reduceCtorEq] at hw)) <;> (try (exfalso; omega))
      | refine aw_seq fun K hK => ?_
    | (with_reducible refine aPick_t ?_ ?_); first | rfl | assumption
    | (with_reducible refine aPick_f ?_ ?_); first | rfl | assumption
    | (with_reducible refine h1 _ _ ?_); clear h1 K1
    | (with_reducible refine hK _ _ ?_); clear hK K
    | with_reducible refine k_use (by assumption) _ _ ?_
    | with_reducible refine k1_use (by assumption) _ _ ?_
    | (with_reducible refine is_call ?_); first
      | refine g_from b code h0 (fun so σ' k => ?_)
      | refine c_draw (k.at 0 rfl) (Own.ltA (i := 0) k rfl) (by omega) hc (fun gl x a1 s1 σ1 q1 q2 q3 => ?_)
      | refine g_drawLevel q3 0 rfl (by omega) hc (fun v a2 s2 σ2 p1 p2 => ?_)
      | refine g_among [1, 10, 40, 100, 2000, 0, 20001, 400] _ (by decide) p2 0 rfl (by omega) hc (fun v2 a3 s3 σ3 t1 t2 t3 => ?_)
    | (with_reducible refine is_store ?_); first
      | simp only [aStore, go_sem, ↓reduceIte]
    | (with_reducible refine is_load ?_); first
      | simp only [aLoad, go_sem, ↓reduceIte]
    | (with_reducible refine is_alloc ?_); first
      | simp only [aAlloc, go_sem, ↓reduceIte]
    | (with_reducible refine is_box ?_); first
      | simp only [aBox, go_sem, ↓reduceIte]
    | (with_reducible refine is_make ?_); first
      | simp only [aMake, go_sem, ↓reduceIte]
    | (with_reducible refine is_bslice ?_); first
      | simp only [aBuildSlice, go_sem, ↓reduceIte]
    | (with_reducible refine is_conv ?_); first
      | simp only [aConvS, go_sem, ↓reduceIte]
    | (with_reducible refine is_append ?_); first
      | refine Grow.append (by (first | assumption | exact Grow.setNew (by assumption) _ _ | exact Grow.push (by assumption) _ | exact Grow.setNew (Grow.setNew (by assumption) _ _) _ _ | exact Grow.push (Grow.setNew (by assumption) _ _) _)) rfl rfl ⟨rfl, rfl, by decide, rfl⟩ ?_ ?_ ?_ (fun x' σ' hG => ?_)
      | simp only [aAppend, go_sem, ↓reduceIte]
    | (with_reducible refine is_len ?_); first
      | refine Grow.len (by (first | assumption | exact Grow.setNew (by assumption) _ _ | exact Grow.push (by assumption) _ | exact Grow.setNew (Grow.setNew (by assumption) _ _) _ _ | exact Grow.push (Grow.setNew (by assumption) _ _) _)) rfl rfl ?_
      | simp only [aLen, go_sem, ↓reduceIte]
    | (with_reducible refine is_all ?_); rfl
    | with_reducible exact ⟨rfl, rfl⟩
    | with_reducible exact rfl
    | (with_reducible refine And.intro ?_ ?_); · (first | assumption | exact St.push_same _ _ | exact St.set_same _ _ _ | (repeat (first | refine obj_push (by first | omega | (simp only [push_next, set_next]; omega)) ?_ | refine obj_set (by first | omega | (simp only [push_next, set_next]; omega)) ?_)); (first | exact St.push_same _ _ | exact St.set_same _ _ _ | assumption) | omega | (simp only [push_objs, push_next, set_objs, set_next, ↓reduceIte]; done) | (simp only [push_objs, push_next, set_objs, set_next, ↓reduceIte]; omega) | rfl | (refine And.intro ?_ ?_ <;> (simp only [push_objs, push_next, set_objs, set_next, ↓reduceIte]; done)))
    | (with_reducible apply ex_and); · (first | assumption | exact St.push_same _ _ | exact St.set_same _ _ _ | (repeat (first | refine obj_push (by first | omega | (simp only [push_next, set_next]; omega)) ?_ | refine obj_set (by first | omega | (simp only [push_next, set_next]; omega)) ?_)); (first | exact St.push_same _ _ | exact St.set_same _ _ _ | assumption) | omega | (simp only [push_objs, push_next, set_objs, set_next, ↓reduceIte]; done) | (simp only [push_objs, push_next, set_objs, set_next, ↓reduceIte]; omega) | rfl | (refine And.intro ?_ ?_ <;> (simp only [push_objs, push_next, set_objs, set_next, ↓reduceIte]; done)))
    | simp (disch := omega) only [tdivE, tmodE, tdivN, tmodN, wrapI, wrapU8]
    | simp only [go_sem, ↓reduceIte]
    | (refine is_prop ?_; omega)
  exact ⟨_, .tup (.cons (t3.frzS (b := false) 1 rfl (FrzL.same (pures_map _ fun _ => rfl)) (fun _ => rfl)) (.cons (.same rfl) (.cons (.same rfl) .nil))), fun _ => ⟨gl, v, v2, rfl⟩⟩
end Go.Proofs.Ytamielbdedbnaaa
