/- Draws: groups. -/
import Derived.Test.YtamielbdedbnaaaD1
import Derived.Test.YtamielbdedbnaaaW3
set_option linter.unusedSimpArgs false
set_option linter.unusedVariables false
set_option maxHeartbeats 4000000
namespace Go.Proofs.Ytamielbdedbnaaa
open Go.Ab Go.RowKit
variable {σ σ0 τ : St} {Q : AV → St → Prop} {so gs i : Nat} {b : Bool} {code : List UInt8} {a s : Int} {X : List Nat} {ls : List Ent}
/-- spec.l24DrawOne -/
theorem c_drawOne (id : ByteArray) (ho : σ.objs so = some (srcO gs b code a s)) (hlt : so < σ.next) (ha : 0 ≤ a ∧ a ≤ 900000) (hc : code.length ≤ 2000000)
    (hQ : ∀ (g : Grp) (a' s' : Int) σ', g.id = id → (a ≤ a' ∧ a' ≤ a + 14) → Own σ [so] [srcE so gs b code a' s'] σ' → Q (gAV g) σ') : ACall Try.prog 53 [.ptr so gs 0 0, str id] σ Q := by
  have h0 := Own.one ho hlt
  refine acall_intro (N := 47) (rs := [.cell 4 32]) T tabOk Try.func53 (by decide +kernel) rfl Try.ntmps53 Try.results53 (by simp) ?_
  repeat' first
    | (with_reducible refine is_ops ?_); first
      | refine aops_nil ?_
      | refine aops_cons rfl fun K1 h1 => ?_
      | refine aops_wanted rfl rfl (by first | rfl | assumption) fun K1 h1 => ?_
      | refine aops_unwanted rfl rfl (by first | rfl | assumption) ?_
      | refine aops_skip rfl rfl ?_
      | refine aops_guard rfl rfl (fun hg K1 h1 => ?_) (fun hg => ?_) <;> (try (have hw := hg; simp only [Bool.not_eq_true', Bool.not_eq_false', Bool.not_true, Bool.not_false, decide_eq_true_eq, decide_eq_false_iff_not, Int.not_lt, Int.not_le, Bool.or_eq_true, Bool.or_eq_false_iff, Bool.and_eq_true, Bool.and_eq_false_iff, not_true, not_false_eq_true, ne_eq, Decidable.not_not, reduceCtorEq] at hw)) <;> (try (exfalso; omega))
    | (with_reducible refine is_qs ?_); first
      | refine aqs_nil ?_
      | refine aqs_cons (v := ?_) rfl ?_ ?_
      | refine aqs_wanted (v := ?_) rfl rfl (by first | rfl | assumption) ?_ ?_
      | refine aqs_unwanted rfl rfl (by first | rfl | assumption) ?_
      | refine aqs_skip rfl rfl ?_
      | refine aqs_part rfl rfl (fun hg => ?_) (fun hg => ?_) <;> (try (have hw := hg; simp only [Bool.not_eq_true', Bool.not_eq_false', Bool.not_true, Bool.not_false, decide_eq_true_eq, decide_eq_false_iff_not, Int.not_lt, Int.not_le, Bool.or_eq_true, Bool.or_eq_false_iff, Bool.and_eq_true, Bool.and_eq_false_iff, not_true, not_false_eq_true, ne_eq, Decidable.not_not, reduceCtorEq] at hw)) <;> (try (exfalso; omega))
    | (with_reducible refine is_ord ?_); first
      | refine aord_nil ?_
      | refine aord_steady (v := ?_) rfl (fun τ hC => ?_) ?_
      | refine aord_wanted (v := ?_) rfl rfl (by first | rfl | assumption) (fun τ hC => ?_) ?_
      | refine aord_unwanted rfl rfl (by first | rfl | assumption) ?_
      | refine aord_skip rfl rfl ?_
      | refine aord_eff rfl fun K1 h1 => ?_
    | (with_reducible refine h1 _ _ ?_ ?_); clear h1 K1
    | (with_reducible refine is_aw ?_); first
      | refine aw_ord_obj (Own.at 2 (by assumption) (by rfl)) 8 [(0, true), (1, true), (2, true), (3, false), (4, true), (5, true), (6, true), (7, true)] _ rfl tabOk (fun _ => false) _ rfl rfl rfl (by decide +kernel) ?_
      | refine aw_rs tabOk (fun _ => false) _ rfl rfl ?_
      | refine aw_quiet rfl tabOk (fun _ => false) _ rfl rfl (by decide +kernel) ?_
      | refine aw_quiet_end rfl tabOk (fun _ => false) _ rfl rfl (by decide +kernel) ?_
      | refine aw_region tabOk (fun _ => false) _ rfl rfl ?_
      | refine aw_ret ?_
      | refine aw_skip ?_
      | refine aw_exit ?_
      | refine aw_block ?_
      | refine aw_label ?_
      | refine aw_cond_t rfl (by first | rfl | assumption) ?_
      | refine aw_cond_f rfl (by first | rfl | assumption) ?_
      | refine aw_cond rfl (fun hg => ?_) (fun hg => ?_) <;> (try (have hw := hg; simp only [Bool.not_eq_true', Bool.not_eq_false', Bool.not_true, Bool.not_false, decide_eq_true_eq, decide_eq_false_iff_not, Int.not_lt, Int.not_le, Bool.or_eq_true, Bool.or_eq_false_iff, Bool.and_eq_true, Bool.and_eq_false_iff, not_true, not_false_eq_true, ne_eq, Decidable.not_not, reduceCtorEq] at hw)) <;> (try (exfalso; omega))
      | refine aw_seq fun K hK => ?_
    | (with_reducible refine aPick_t ?_ ?_); first | rfl | assumption
    | (with_reducible refine aPick_f ?_ ?_); first | rfl | assumption
    | (with_reducible refine h1 _ _ ?_); clear h1 K1
    | (with_reducible refine hK _ _ ?_); clear hK K
    | with_reducible refine k_use (by assumption) _ _ ?_
    | with_reducible refine k1_use (by assumption) _ _ ?_
    | (with_reducible refine is_call ?_); first
      | refine g_pick _ (by assumption) 0 (by rfl) (by omega) hc (fun v a1 s1 σ1 q1 q2 q3 => ?_)
      | refine c_l00Min _ _ ?_
      | refine c_l00Max _ _ ?_
    | (with_reducible refine is_store ?_); first
      | refine own_storeW 2 (by assumption) (by rfl) rfl (by rfl) (by rfl) (by rfl) (by rfl) (fun σ' k => ?_)
      | refine own_store 2 (by assumption) (by rfl) rfl rfl rfl (by rfl) (by simp) (fun σ' k => ?_)
      | refine own_storeW 1 (by assumption) (by rfl) rfl (by rfl) (by rfl) (by rfl) (by rfl) (fun σ' k => ?_)
      | simp only [aStore, go_sem, ↓reduceIte]
    | (with_reducible refine is_load ?_); first
      | simp only [aLoad, go_sem, ↓reduceIte]
    | (with_reducible refine is_alloc ?_); first
      | refine own_alloc (by assumption) rfl ⟨by decide, rfl, rfl⟩ (fun σ' o k => ?_)
      | simp only [aAlloc, go_sem, ↓reduceIte]
    | (with_reducible refine is_box ?_); first
      | simp only [aBox, go_sem, ↓reduceIte]
    | (with_reducible refine is_make ?_); first
      | simp only [aMake, go_sem, ↓reduceIte]
    | (with_reducible refine is_bslice ?_); first
      | simp only [aBuildSlice, go_sem, ↓reduceIte]
    | (with_reducible refine is_conv ?_); first
      | simp only [aConvS, go_sem, ↓reduceIte]
    | (with_reducible refine is_append ?_); first
      | refine Grow.append (by (first | assumption | exact Grow.setNew (by assumption) _ _ | exact Grow.push (by assumption) _ | exact Grow.setNew (Grow.setNew (by assumption) _ _) _ _ | exact Grow.push (Grow.setNew (by assumption) _ _) _)) rfl rfl ⟨rfl, rfl, by decide, rfl⟩ ?_ ?_ ?_ (fun x' σ' hG => ?_)
      | simp only [aAppend, go_sem, ↓reduceIte]
    | (with_reducible refine is_len ?_); first
      | refine Grow.len (by (first | assumption | exact Grow.setNew (by assumption) _ _ | exact Grow.push (by assumption) _ | exact Grow.setNew (Grow.setNew (by assumption) _ _) _ _ | exact Grow.push (Grow.setNew (by assumption) _ _) _)) rfl rfl ?_
      | simp only [aLen, go_sem, ↓reduceIte]
    | exact Own.at 2 (by assumption) (by rfl)
    | (with_reducible refine is_all ?_); rfl
    | with_reducible exact ⟨rfl, rfl⟩
    | with_reducible exact rfl
    | (with_reducible refine And.intro ?_ ?_); · (first | assumption | exact Own.at 2 (by assumption) (by rfl) | exact Own.at 1 (by assumption) (by rfl) | exact St.push_same _ _ | exact St.set_same _ _ _ | (repeat (first | refine obj_push (by first | omega | (simp only [push_next, set_next]; omega)) ?_ | refine obj_set (by first | omega | (simp only [push_next, set_next]; omega)) ?_)); (first | exact St.push_same _ _ | exact St.set_same _ _ _ | assumption) | omega | (simp only [push_objs, push_next, set_objs, set_next, ↓reduceIte]; done) | (simp only [push_objs, push_next, set_objs, set_next, ↓reduceIte]; omega) | rfl | (refine And.intro ?_ ?_ <;> (simp only [push_objs, push_next, set_objs, set_next, ↓reduceIte]; done)))
    | (with_reducible apply ex_and); · (first | assumption | exact Own.at 2 (by assumption) (by rfl) | exact Own.at 1 (by assumption) (by rfl) | exact St.push_same _ _ | exact St.set_same _ _ _ | (repeat (first | refine obj_push (by first | omega | (simp only [push_next, set_next]; omega)) ?_ | refine obj_set (by first | omega | (simp only [push_next, set_next]; omega)) ?_)); (first | exact St.push_same _ _ | exact St.set_same _ _ _ | assumption) | omega | (simp only [push_objs, push_next, set_objs, set_next, ↓reduceIte]; done) | (simp only [push_objs, push_next, set_objs, set_next, ↓reduceIte]; omega) | rfl | (refine And.intro ?_ ?_ <;> (simp only [push_objs, push_next, set_objs, set_next, ↓reduceIte]; done)))
    | simp (disch := omega) only [tdivE, tmodE, tdivN, tmodN, wrapI, wrapU8]
    | simp only [go_sem, ↓reduceIte]
    | (refine is_prop ?_; omega)

  all_goals exact hQ ⟨id, _, _, _, _, _, _⟩ _ _ _ rfl (by omega) (k.head rfl)
theorem g_drawOne (id : ByteArray) (h : Own σ0 X ls σ) (i : Nat) (hi : ls[i]? = some (srcE so gs b code a s)) (ha : 0 ≤ a ∧ a ≤ 900000) (hc : code.length ≤ 2000000)
    (hQ : ∀ (g : Grp) (a' s' : Int) σ', g.id = id → (a ≤ a' ∧ a' ≤ a + 14) → Own σ0 X (ls.set i (srcE so gs b code a' s')) σ' → Q (gAV g) σ') : ACall Try.prog 53 [.ptr so gs 0 0, str id] σ Q :=
  c_drawOne id (h.at i hi) (Own.ltA h hi) ha hc (fun v a' s' σ' q1 q2 k => hQ v a' s' σ' q1 q2 (h.comp1 hi k (by simp [Ent.ids])))
end Go.Proofs.Ytamielbdedbnaaa
