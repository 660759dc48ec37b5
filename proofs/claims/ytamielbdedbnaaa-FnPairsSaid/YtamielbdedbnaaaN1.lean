/- Numbers as text: spec.l01Dec. -/
import Derived.Test.YtamielbdedbnaaaW1
import Derived.Test.YtamielbdedbnaaaA23
set_option linter.unusedSimpArgs false
set_option linter.unusedVariables false
set_option maxHeartbeats 4000000
namespace Go.Proofs.Ytamielbdedbnaaa
open Go.Ab Go.RowKit
variable {σ σ0 τ : St} {Q : AV → St → Prop}
/-- the digits of a number, the lowest first -/
def decR (n : Nat) : List UInt8 := if h : n = 0 then [] else UInt8.ofNat (48 + n % 10) :: decR (n / 10)
termination_by n
decreasing_by omega
theorem decR_zero : decR 0 = [] := by rw [decR]; rfl
theorem decR_pos {n : Nat} (h : n ≠ 0) : decR n = UInt8.ofNat (48 + n % 10) :: decR (n / 10) := by rw [decR, dif_neg h]
theorem decR_len : ∀ (k n : Nat), n < 10 ^ k → (decR n).length ≤ k
  | 0, n, h => by have : n = 0 := by simpa using h
                  rw [this, decR_zero]; exact Nat.le_refl _
  | k + 1, n, h => by
    by_cases h0 : n = 0
    · rw [h0, decR_zero]; exact Nat.zero_le _
    · rw [decR_pos h0, List.length_cons]
      have := decR_len k (n / 10) (by rw [Nat.pow_succ] at h; omega)
      omega
def decL (m : Int) : List UInt8 := decR m.natAbs ++ (if m < 0 then [45] else [])
def decS (m : Int) : ByteArray := ⟨(if m = 0 then [48] else (decL m).reverse).toArray⟩
def i64Ok (m : Int) : Prop := -9223372036854775808 ≤ m ∧ m ≤ 9223372036854775807
theorem decL_len {m : Int} (h : i64Ok m) : (decL m).length ≤ 20 := by
  have h1 := decR_len 19 m.natAbs (by unfold i64Ok at h; omega)
  unfold decL; rw [List.length_append]; split <;> simp <;> omega
theorem digit8 {d : Nat} (h : d < 10) : byteAV (UInt8.ofNat (48 + d)) = .sc (.int .u8 (48 + d : Int)) := by
  unfold byteAV
  rw [UInt8.toNat_ofNat']
  have : (48 + d) % 2 ^ 8 = 48 + d := by omega
  rw [this]; simp
theorem p_dec (m : Int) (hm : i64Ok m) (n : Nat) : ACall Try.prog 56 [i64 m] (St.emp n) (fun r _ => r = str (decS m)) := by
  obtain ⟨hm1, hm2⟩ := hm
  have hL20 := decL_len ⟨hm1, hm2⟩
  refine acall_freeze ?_
  refine acall_intro (N := 50) (rs := [.tmp 2]) T tabOk Try.func56 (by decide +kernel) rfl Try.ntmps56 Try.results56 (by simp) ?_
  by_cases hz : m = 0
  · subst hz
    repeat' first
      | (with_reducible refine is_ops ?_); first
        | refine aops_nil ?_
        | refine aops_cons rfl fun K1 h1 => ?_
        | refine aops_wanted rfl rfl (by first | rfl | assumption) fun K1 h1 => ?_
        | refine aops_unwanted rfl rfl (by first | rfl | assumption) ?_
        | refine aops_skip rfl rfl ?_
        | refine aops_guard rfl rfl (fun hg K1 h1 => ?_) (fun hg => ?_) <;> (try (have hw := hg; simp only [Bool.not_eq_true', Bool.not_eq_false', Bool.not_true, Bool.not_false, decide_eq_true_eq, decide_eq_false_iff_not, Int.not_lt, Int.not_le, Bool.or_eq_true, Bool.or_eq_false_iff, Bool.and_eq_true, Bool.and_eq_false_iff, not_true, not_false_eq_true, ne_eq, Decidable.not_not, reduceCtorEq] at hw)) <;> (try (exfalso; omega))
      | (with_reducible refine is_qs ?_); first
        | refine aqs_nil ?_
        | refine aqs_cons (v := ?_) rfl ?_ ?_
        | refine aqs_wanted (v := ?_) rfl rfl (by first | rfl | assumption) ?_ ?_
        | refine aqs_unwanted rfl rfl (by first | rfl | assumption) ?_
        | refine aqs_skip rfl rfl ?_
        | refine aqs_part rfl rfl (fun hg => ?_) (fun hg => ?_) <;> (try (have hw := hg; simp only [Bool.not_eq_true', Bool.not_eq_false', Bool.not_true, Bool.not_false, decide_eq_true_eq, decide_eq_false_iff_not, Int.not_lt, Int.not_le, Bool.or_eq_true, Bool.or_eq_false_iff, Bool.and_eq_true, Bool.and_eq_false_iff, not_true, not_false_eq_true, ne_eq, Decidable.not_not, reduceCtorEq] at hw)) <;> (try (exfalso; omega))
      | (with_reducible refine is_aw ?_); first
        | refine aw_rs tabOk (fun _ => false) _ rfl rfl ?_
        | refine aw_quiet rfl tabOk (fun _ => false) _ rfl rfl (by decide +kernel) ?_
        | refine aw_quiet_end rfl tabOk (fun _ => false) _ rfl rfl (by decide +kernel) ?_
        | refine aw_region tabOk (fun _ => false) _ rfl rfl ?_
        | refine aw_ret ?_
        | refine aw_skip ?_
        | refine aw_exit ?_
        | refine aw_block ?_
        | refine aw_label ?_
        | refine aw_cond_t rfl (by first | rfl | assumption) ?_
        | refine aw_cond_f rfl (by first | rfl | assumption) ?_
        | refine aw_cond rfl (fun hg => ?_) (fun hg => ?_) <;> (try (have hw := hg; simp only [Bool.not_eq_true', Bool.not_eq_false', Bool.not_true, Bool.not_false, decide_eq_true_eq, decide_eq_false_iff_not, Int.not_lt, Int.not_le, Bool.or_eq_true, Bool.or_eq_false_iff, Bool.and_eq_true, Bool.and_eq_false_iff, not_true, not_false_eq_true, ne_eq, Decidable.not_not, reduceCtorEq] at hw)) <;> (try (exfalso; omega))
        | refine aw_seq fun K hK => ?_
      | (with_reducible refine aPick_t ?_ ?_); first | rfl | assumption
      | (with_reducible refine aPick_f ?_ ?_); first | rfl | assumption
      | (with_reducible refine h1 _ _ ?_); clear h1 K1
      | (with_reducible refine hK _ _ ?_); clear hK K
      | with_reducible refine k_use (by assumption) _ _ ?_
      | with_reducible refine k1_use (by assumption) _ _ ?_
      | (with_reducible refine is_store ?_); first
        | simp only [aStore, go_sem, ↓reduceIte]
      | (with_reducible refine is_load ?_); first
        | simp only [aLoad, go_sem, ↓reduceIte]
      | (with_reducible refine is_alloc ?_); first
        | simp only [aAlloc, go_sem, ↓reduceIte]
      | (with_reducible refine is_box ?_); first
        | simp only [aBox, go_sem, ↓reduceIte]
      | (with_reducible refine is_make ?_); first
        | simp only [aMake, go_sem, ↓reduceIte]
      | (with_reducible refine is_bslice ?_); first
        | simp only [aBuildSlice, go_sem, ↓reduceIte]
      | (with_reducible refine is_conv ?_); first
        | simp only [aConvS, go_sem, ↓reduceIte]
      | (with_reducible refine is_append ?_); first
        | refine Grow.append (by (first | assumption | exact Grow.setNew (by assumption) _ _ | exact Grow.push (by assumption) _ | exact Grow.setNew (Grow.setNew (by assumption) _ _) _ _ | exact Grow.push (Grow.setNew (by assumption) _ _) _)) rfl rfl ⟨rfl, rfl, by decide, rfl⟩ ?_ ?_ ?_ (fun x' σ' hG => ?_)
        | simp only [aAppend, go_sem, ↓reduceIte]
      | (with_reducible refine is_len ?_); first
        | refine Grow.len (by (first | assumption | exact Grow.setNew (by assumption) _ _ | exact Grow.push (by assumption) _ | exact Grow.setNew (Grow.setNew (by assumption) _ _) _ _ | exact Grow.push (Grow.setNew (by assumption) _ _) _)) rfl rfl ?_
        | simp only [aLen, go_sem, ↓reduceIte]
      | (with_reducible refine is_all ?_); rfl
      | with_reducible exact ⟨rfl, rfl⟩
      | with_reducible exact rfl
      | (with_reducible refine And.intro ?_ ?_); · (first | assumption | exact St.push_same _ _ | exact St.set_same _ _ _ | (repeat (first | refine obj_push (by first | omega | (simp only [push_next, set_next]; omega)) ?_ | refine obj_set (by first | omega | (simp only [push_next, set_next]; omega)) ?_)); (first | exact St.push_same _ _ | exact St.set_same _ _ _ | assumption) | omega | (simp only [push_objs, push_next, set_objs, set_next, ↓reduceIte]; done) | (simp only [push_objs, push_next, set_objs, set_next, ↓reduceIte]; omega) | rfl | (refine And.intro ?_ ?_ <;> (simp only [push_objs, push_next, set_objs, set_next, ↓reduceIte]; done)))
      | (with_reducible apply ex_and); · (first | assumption | exact St.push_same _ _ | exact St.set_same _ _ _ | (repeat (first | refine obj_push (by first | omega | (simp only [push_next, set_next]; omega)) ?_ | refine obj_set (by first | omega | (simp only [push_next, set_next]; omega)) ?_)); (first | exact St.push_same _ _ | exact St.set_same _ _ _ | assumption) | omega | (simp only [push_objs, push_next, set_objs, set_next, ↓reduceIte]; done) | (simp only [push_objs, push_next, set_objs, set_next, ↓reduceIte]; omega) | rfl | (refine And.intro ?_ ?_ <;> (simp only [push_objs, push_next, set_objs, set_next, ↓reduceIte]; done)))
      | simp (disch := omega) only [tdivE, tmodE, tdivN, tmodN, wrapI, wrapU8]
      | simp only [go_sem, ↓reduceIte]
      | (refine is_prop ?_; omega)
    exact ⟨_, .same rfl, fun _ => rfl⟩
  · have h0 := Own.nil (St.emp n)
    repeat' first
      | (with_reducible refine is_ops ?_); first
        | refine aops_nil ?_
        | refine aops_cons rfl fun K1 h1 => ?_
        | refine aops_wanted rfl rfl (by first | rfl | assumption) fun K1 h1 => ?_
        | refine aops_unwanted rfl rfl (by first | rfl | assumption) ?_
        | refine aops_skip rfl rfl ?_
        | refine aops_guard rfl rfl (fun hg K1 h1 => ?_) (fun hg => ?_) <;> (try (have hw := hg; simp only [Bool.not_eq_true', Bool.not_eq_false', Bool.not_true, Bool.not_false, decide_eq_true_eq, decide_eq_false_iff_not, Int.not_lt, Int.not_le, Bool.or_eq_true, Bool.or_eq_false_iff, Bool.and_eq_true, Bool.and_eq_false_iff, not_true, not_false_eq_true, ne_eq, Decidable.not_not, reduceCtorEq] at hw)) <;> (try (exfalso; omega))
      | (with_reducible refine is_qs ?_); first
        | refine aqs_nil ?_
        | refine aqs_cons (v := ?_) rfl ?_ ?_
        | refine aqs_wanted (v := ?_) rfl rfl (by first | rfl | assumption) ?_ ?_
        | refine aqs_unwanted rfl rfl (by first | rfl | assumption) ?_
        | refine aqs_skip rfl rfl ?_
        | refine aqs_part rfl rfl (fun hg => ?_) (fun hg => ?_) <;> (try (have hw := hg; simp only [Bool.not_eq_true', Bool.not_eq_false', Bool.not_true, Bool.not_false, decide_eq_true_eq, decide_eq_false_iff_not, Int.not_lt, Int.not_le, Bool.or_eq_true, Bool.or_eq_false_iff, Bool.and_eq_true, Bool.and_eq_false_iff, not_true, not_false_eq_true, ne_eq, Decidable.not_not, reduceCtorEq] at hw)) <;> (try (exfalso; omega))
      | (with_reducible refine is_aw ?_); first
        | refine aw_rs tabOk (fun t => if t = 10 then true else if t = 33 then true else false) _ rfl rfl ?_
        | refine aw_quiet rfl tabOk (fun t => if t = 10 then true else if t = 33 then true else false) _ rfl rfl (by decide +kernel) ?_
        | refine aw_quiet_end rfl tabOk (fun t => if t = 10 then true else if t = 33 then true else false) _ rfl rfl (by decide +kernel) ?_
        | refine aw_region tabOk (fun t => if t = 10 then true else if t = 33 then true else false) _ rfl rfl ?_
        | refine aw_ret ?_
        | refine aw_skip ?_
        | refine aw_exit ?_
        | refine aw_block ?_
        | refine aw_label ?_
        | refine aw_cond_t rfl (by first | rfl | assumption) ?_
        | refine aw_cond_f rfl (by first | rfl | assumption) ?_
        | refine aw_cond rfl (fun hg => ?_) (fun hg => ?_) <;> (try (have hw := hg; simp only [Bool.not_eq_true', Bool.not_eq_false', Bool.not_true, Bool.not_false, decide_eq_true_eq, decide_eq_false_iff_not, Int.not_lt, Int.not_le, Bool.or_eq_true, Bool.or_eq_false_iff, Bool.and_eq_true, Bool.and_eq_false_iff, not_true, not_false_eq_true, ne_eq, Decidable.not_not, reduceCtorEq] at hw)) <;> (try (exfalso; omega))
        | refine aw_seq fun K hK => ?_
      | (with_reducible refine aPick_t ?_ ?_); first | rfl | assumption
      | (with_reducible refine aPick_f ?_ ?_); first | rfl | assumption
      | (with_reducible refine h1 _ _ ?_); clear h1 K1
      | (with_reducible refine hK _ _ ?_); clear hK K
      | with_reducible refine k_use (by assumption) _ _ ?_
      | with_reducible refine k1_use (by assumption) _ _ ?_
      | (with_reducible refine is_store ?_); first
        | simp only [aStore, go_sem, ↓reduceIte]
      | (with_reducible refine is_load ?_); first
        | simp only [aLoad, go_sem, ↓reduceIte]
      | (with_reducible refine is_alloc ?_); first
        | simp only [aAlloc, go_sem, ↓reduceIte]
      | (with_reducible refine is_box ?_); first
        | simp only [aBox, go_sem, ↓reduceIte]
      | (with_reducible refine is_make ?_); first
        | simp only [aMake, go_sem, ↓reduceIte]
      | (with_reducible refine is_bslice ?_); first
        | refine own_bslice (by assumption) rfl rfl ⟨by decide, rfl, by decide⟩ rfl rfl (fun σ' x k hx => ?_)
        | simp only [aBuildSlice, go_sem, ↓reduceIte]
      | (with_reducible refine is_conv ?_); first
        | simp only [aConvS, go_sem, ↓reduceIte]
      | (with_reducible refine is_append ?_); first
        | refine Grow.append (by (first | assumption | exact Grow.setNew (by assumption) _ _ | exact Grow.push (by assumption) _ | exact Grow.setNew (Grow.setNew (by assumption) _ _) _ _ | exact Grow.push (Grow.setNew (by assumption) _ _) _)) rfl rfl ⟨rfl, rfl, by decide, rfl⟩ ?_ ?_ ?_ (fun x' σ' hG => ?_)
        | simp only [aAppend, go_sem, ↓reduceIte]
      | (with_reducible refine is_len ?_); first
        | refine Grow.len (by (first | assumption | exact Grow.setNew (by assumption) _ _ | exact Grow.push (by assumption) _ | exact Grow.setNew (Grow.setNew (by assumption) _ _) _ _ | exact Grow.push (Grow.setNew (by assumption) _ _) _)) rfl rfl ?_
        | simp only [aLen, go_sem, ↓reduceIte]
      | (with_reducible refine is_all ?_); rfl
      | with_reducible exact ⟨rfl, rfl⟩
      | with_reducible exact rfl
      | (with_reducible refine And.intro ?_ ?_); · (first | assumption | exact St.push_same _ _ | exact St.set_same _ _ _ | (repeat (first | refine obj_push (by first | omega | (simp only [push_next, set_next]; omega)) ?_ | refine obj_set (by first | omega | (simp only [push_next, set_next]; omega)) ?_)); (first | exact St.push_same _ _ | exact St.set_same _ _ _ | assumption) | omega | (simp only [push_objs, push_next, set_objs, set_next, ↓reduceIte]; done) | (simp only [push_objs, push_next, set_objs, set_next, ↓reduceIte]; omega) | rfl | (refine And.intro ?_ ?_ <;> (simp only [push_objs, push_next, set_objs, set_next, ↓reduceIte]; done)))
      | (with_reducible apply ex_and); · (first | assumption | exact St.push_same _ _ | exact St.set_same _ _ _ | (repeat (first | refine obj_push (by first | omega | (simp only [push_next, set_next]; omega)) ?_ | refine obj_set (by first | omega | (simp only [push_next, set_next]; omega)) ?_)); (first | exact St.push_same _ _ | exact St.set_same _ _ _ | assumption) | omega | (simp only [push_objs, push_next, set_objs, set_next, ↓reduceIte]; done) | (simp only [push_objs, push_next, set_objs, set_next, ↓reduceIte]; omega) | rfl | (refine And.intro ?_ ?_ <;> (simp only [push_objs, push_next, set_objs, set_next, ↓reduceIte]; done)))
      | simp (disch := omega) only [tdivE, tmodE, tdivN, tmodN, wrapI, wrapU8]
      | simp only [go_sem, ↓reduceIte]
      | (refine is_prop ?_; omega)
    refine aw_loop (fun n1 e τ => ∃ (cur : Int) (acc : List UInt8) (x : AV), cur.natAbs = n1 ∧ cur.natAbs ≤ m.natAbs ∧ acc ++ decR cur.natAbs = decR m.natAbs ∧ (0 ≤ m → 0 ≤ cur) ∧ (m ≤ 0 → cur ≤ 0) ∧ Own (St.emp n) [] [.sl x 5 1 (acc.map byteAV)] τ ∧ e 0 = i64 m ∧ e 3 = x ∧ e 4 = i64 cur) m.natAbs ⟨m, [], x, rfl, Nat.le_refl _, rfl, id, id, k, rfl, rfl, rfl⟩ ?_
    rintro n1 e τ ⟨cur, acc, x1, hn1, hle, hacc, hs1, hs2, k1, g0, g3, g4⟩
    have hal : acc.length ≤ 19 := by
      have h1 := decR_len 19 m.natAbs (by omega)
      rw [← hacc, List.length_append] at h1; omega
    by_cases hc0 : cur = 0
    · subst hc0
      rw [show (0 : Int).natAbs = 0 from rfl, decR_zero, List.append_nil] at hacc
      rcases (by omega : m < 0 ∨ 0 < m) with hneg | hpos
      · have hD : decL m = acc ++ [45] := by unfold decL; rw [if_pos hneg, hacc]
        repeat' first
          | (with_reducible refine is_ops ?_); first
            | refine aops_nil ?_
            | refine aops_cons rfl fun K1 h1 => ?_
            | refine aops_wanted rfl rfl (by first | rfl | assumption) fun K1 h1 => ?_
            | refine aops_unwanted rfl rfl (by first | rfl | assumption) ?_
            | refine aops_skip rfl rfl ?_
            | refine aops_guard rfl rfl (fun hg K1 h1 => ?_) (fun hg => ?_) <;> (try (have hw := hg; simp only [Bool.not_eq_true', Bool.not_eq_false', Bool.not_true, Bool.not_false, decide_eq_true_eq, decide_eq_false_iff_not, Int.not_lt, Int.not_le, Bool.or_eq_true, Bool.or_eq_false_iff, Bool.and_eq_true, Bool.and_eq_false_iff, not_true, not_false_eq_true, ne_eq, Decidable.not_not, reduceCtorEq] at hw)) <;> (try (exfalso; omega))
          | (with_reducible refine is_qs ?_); first
            | refine aqs_nil ?_
            | refine aqs_cons (v := ?_) rfl ?_ ?_
            | refine aqs_wanted (v := ?_) rfl rfl (by first | rfl | assumption) ?_ ?_
            | refine aqs_unwanted rfl rfl (by first | rfl | assumption) ?_
            | refine aqs_skip rfl rfl ?_
            | refine aqs_part rfl rfl (fun hg => ?_) (fun hg => ?_) <;> (try (have hw := hg; simp only [Bool.not_eq_true', Bool.not_eq_false', Bool.not_true, Bool.not_false, decide_eq_true_eq, decide_eq_false_iff_not, Int.not_lt, Int.not_le, Bool.or_eq_true, Bool.or_eq_false_iff, Bool.and_eq_true, Bool.and_eq_false_iff, not_true, not_false_eq_true, ne_eq, Decidable.not_not, reduceCtorEq] at hw)) <;> (try (exfalso; omega))
          | (with_reducible refine is_aw ?_); first
            | refine aw_rs tabOk (fun t => if t = 33 then true else false) _ rfl rfl ?_
            | refine aw_quiet rfl tabOk (fun t => if t = 33 then true else false) _ rfl rfl (by decide +kernel) ?_
            | refine aw_quiet_end rfl tabOk (fun t => if t = 33 then true else false) _ rfl rfl (by decide +kernel) ?_
            | refine aw_region tabOk (fun t => if t = 33 then true else false) _ rfl rfl ?_
            | refine aw_ret ?_
            | refine aw_skip ?_
            | refine aw_exit ?_
            | refine aw_block ?_
            | refine aw_label ?_
            | refine aw_cond_t rfl (by first | rfl | assumption) ?_
            | refine aw_cond_f rfl (by first | rfl | assumption) ?_
            | refine aw_cond rfl (fun hg => ?_) (fun hg => ?_) <;> (try (have hw := hg; simp only [Bool.not_eq_true', Bool.not_eq_false', Bool.not_true, Bool.not_false, decide_eq_true_eq, decide_eq_false_iff_not, Int.not_lt, Int.not_le, Bool.or_eq_true, Bool.or_eq_false_iff, Bool.and_eq_true, Bool.and_eq_false_iff, not_true, not_false_eq_true, ne_eq, Decidable.not_not, reduceCtorEq] at hw)) <;> (try (exfalso; omega))
            | refine aw_seq fun K hK => ?_
          | (with_reducible refine aPick_t ?_ ?_); first | rfl | assumption
          | (with_reducible refine aPick_f ?_ ?_); first | rfl | assumption
          | (with_reducible refine h1 _ _ ?_); clear h1 K1
          | (with_reducible refine hK _ _ ?_); clear hK K
          | with_reducible refine k_use (by assumption) _ _ ?_
          | with_reducible refine k1_use (by assumption) _ _ ?_
          | (with_reducible refine is_store ?_); first
            | simp only [g0, g3, g4, List.length_append, aStore, go_sem, ↓reduceIte]
          | (with_reducible refine is_load ?_); first
            | simp only [g0, g3, g4, List.length_append, aLoad, go_sem, ↓reduceIte]
          | (with_reducible refine is_alloc ?_); first
            | simp only [g0, g3, g4, List.length_append, aAlloc, go_sem, ↓reduceIte]
          | (with_reducible refine is_box ?_); first
            | simp only [g0, g3, g4, List.length_append, aBox, go_sem, ↓reduceIte]
          | (with_reducible refine is_make ?_); first
            | simp only [g0, g3, g4, List.length_append, aMake, go_sem, ↓reduceIte]
          | (with_reducible refine is_bslice ?_); first
            | refine own_bslice (by assumption) rfl rfl ⟨by decide, rfl, by decide⟩ rfl rfl (fun σ' x k hx => ?_)
            | simp only [g0, g3, g4, List.length_append, aBuildSlice, go_sem, ↓reduceIte]
          | (with_reducible refine is_conv ?_); first
            | simp only [g0, g3, g4, List.length_append, aConvS, go_sem, ↓reduceIte]
          | (with_reducible refine is_append ?_); first
            | refine own_append 0 (by assumption) (by rfl) rfl rfl ⟨rfl, rfl, by decide, rfl⟩ rfl (by simp; omega) (by simp; omega) (fun x' σ' k hx' => ?_)
            | refine Grow.append (by (first | assumption | exact Grow.setNew (by assumption) _ _ | exact Grow.push (by assumption) _ | exact Grow.setNew (Grow.setNew (by assumption) _ _) _ _ | exact Grow.push (Grow.setNew (by assumption) _ _) _)) rfl rfl ⟨rfl, rfl, by decide, rfl⟩ ?_ ?_ ?_ (fun x' σ' hG => ?_)
            | simp only [g0, g3, g4, List.length_append, aAppend, go_sem, ↓reduceIte]
          | (with_reducible refine is_len ?_); first
            | refine own_len 0 (by assumption) (by rfl) rfl rfl ?_
            | refine Grow.len (by (first | assumption | exact Grow.setNew (by assumption) _ _ | exact Grow.push (by assumption) _ | exact Grow.setNew (Grow.setNew (by assumption) _ _) _ _ | exact Grow.push (Grow.setNew (by assumption) _ _) _)) rfl rfl ?_
            | simp only [g0, g3, g4, List.length_append, aLen, go_sem, ↓reduceIte]
          | (with_reducible refine is_all ?_); rfl
          | with_reducible exact ⟨rfl, rfl⟩
          | with_reducible exact rfl
          | (with_reducible refine And.intro ?_ ?_); · (first | assumption | exact St.push_same _ _ | exact St.set_same _ _ _ | (repeat (first | refine obj_push (by first | omega | (simp only [push_next, set_next]; omega)) ?_ | refine obj_set (by first | omega | (simp only [push_next, set_next]; omega)) ?_)); (first | exact St.push_same _ _ | exact St.set_same _ _ _ | assumption) | omega | (simp only [push_objs, push_next, set_objs, set_next, ↓reduceIte]; done) | (simp only [push_objs, push_next, set_objs, set_next, ↓reduceIte]; omega) | rfl | (refine And.intro ?_ ?_ <;> (simp only [push_objs, push_next, set_objs, set_next, ↓reduceIte]; done)))
          | (with_reducible apply ex_and); · (first | assumption | exact St.push_same _ _ | exact St.set_same _ _ _ | (repeat (first | refine obj_push (by first | omega | (simp only [push_next, set_next]; omega)) ?_ | refine obj_set (by first | omega | (simp only [push_next, set_next]; omega)) ?_)); (first | exact St.push_same _ _ | exact St.set_same _ _ _ | assumption) | omega | (simp only [push_objs, push_next, set_objs, set_next, ↓reduceIte]; done) | (simp only [push_objs, push_next, set_objs, set_next, ↓reduceIte]; omega) | rfl | (refine And.intro ?_ ?_ <;> (simp only [push_objs, push_next, set_objs, set_next, ↓reduceIte]; done)))
          | simp (disch := omega) only [tdivE, tmodE, tdivN, tmodN, wrapI, wrapU8]
          | simp only [g0, g3, g4, List.length_append, go_sem, ↓reduceIte]
          | (refine is_prop ?_; omega)
        have kk : Own (St.emp n) [] [.sl x' 5 1 ((decL m).map byteAV), .sl x 5 1 []] σ' := by rw [hD]; simpa [byteAV] using k
        refine aw_count (decL m).length (fun i e τ => ∃ x6, Own (St.emp n) [] [.sl x' 5 1 ((decL m).map byteAV), .sl x6 5 1 (((decL m).reverse.take i).map byteAV)] τ ∧ e 3 = x' ∧ e 6 = x6 ∧ e 7 = i64 ((decL m).length - 1 - i)) ⟨x, kk, by simp [Env.upd, g3], by simp [Env.upd], by simp [Env.upd, hD] <;> omega⟩ ?_
        rintro i e2 τ2 ⟨x6, k6, g3', g6, g7⟩ hi
        by_cases hlt : i < (decL m).length
        · have hne : (decL m).map byteAV ≠ [] := by intro h; have := congrArg List.length h; rw [List.length_map] at this; simp only [List.length_nil] at this; omega
          obtain ⟨oL, gL, eL, hxL, hoL, hat⟩ := k6.isRef (i := 0) rfl hne
          have hx : eL[((decL m).length - 1 - i : Int).toNat]? = some (byteAV ((decL m)[(decL m).length - 1 - i]'(by omega))) := by
            rw [show ((decL m).length - 1 - i : Int).toNat = (decL m).length - 1 - i by omega]
            exact hat _ _ (by rw [List.getElem?_map, List.getElem?_eq_getElem (by omega)]; rfl)
          have hT : (decL m).reverse.take (i + 1) = (decL m).reverse.take i ++ [(decL m)[(decL m).length - 1 - i]'(by omega)] := by
            rw [List.take_add_one, List.getElem?_reverse hlt, List.getElem?_eq_getElem (by omega)]; rfl
          have hl6 : ((decL m).reverse.take i).length = i := by simp; omega
          unfold byteAV at hx
          rw [hxL] at g3'
          rw [List.length_map] at g3'
          repeat' first
            | (with_reducible refine is_ops ?_); first
              | refine aops_nil ?_
              | refine aops_cons rfl fun K1 h1 => ?_
              | refine aops_wanted rfl rfl (by first | rfl | assumption) fun K1 h1 => ?_
              | refine aops_unwanted rfl rfl (by first | rfl | assumption) ?_
              | refine aops_skip rfl rfl ?_
              | refine aops_guard rfl rfl (fun hg K1 h1 => ?_) (fun hg => ?_) <;> (try (have hw := hg; simp only [Bool.not_eq_true', Bool.not_eq_false', Bool.not_true, Bool.not_false, decide_eq_true_eq, decide_eq_false_iff_not, Int.not_lt, Int.not_le, Bool.or_eq_true, Bool.or_eq_false_iff, Bool.and_eq_true, Bool.and_eq_false_iff, not_true, not_false_eq_true, ne_eq, Decidable.not_not, reduceCtorEq] at hw)) <;> (try (exfalso; omega))
            | (with_reducible refine is_qs ?_); first
              | refine aqs_nil ?_
              | refine aqs_cons (v := ?_) rfl ?_ ?_
              | refine aqs_wanted (v := ?_) rfl rfl (by first | rfl | assumption) ?_ ?_
              | refine aqs_unwanted rfl rfl (by first | rfl | assumption) ?_
              | refine aqs_skip rfl rfl ?_
              | refine aqs_part rfl rfl (fun hg => ?_) (fun hg => ?_) <;> (try (have hw := hg; simp only [Bool.not_eq_true', Bool.not_eq_false', Bool.not_true, Bool.not_false, decide_eq_true_eq, decide_eq_false_iff_not, Int.not_lt, Int.not_le, Bool.or_eq_true, Bool.or_eq_false_iff, Bool.and_eq_true, Bool.and_eq_false_iff, not_true, not_false_eq_true, ne_eq, Decidable.not_not, reduceCtorEq] at hw)) <;> (try (exfalso; omega))
            | (with_reducible refine is_aw ?_); first
              | refine aw_rs tabOk (fun _ => false) _ rfl rfl ?_
              | refine aw_quiet rfl tabOk (fun _ => false) _ rfl rfl (by decide +kernel) ?_
              | refine aw_quiet_end rfl tabOk (fun _ => false) _ rfl rfl (by decide +kernel) ?_
              | refine aw_region tabOk (fun _ => false) _ rfl rfl ?_
              | refine aw_ret ?_
              | refine aw_skip ?_
              | refine aw_exit ?_
              | refine aw_block ?_
              | refine aw_label ?_
              | refine aw_cond_t rfl (by first | rfl | assumption) ?_
              | refine aw_cond_f rfl (by first | rfl | assumption) ?_
              | refine aw_cond rfl (fun hg => ?_) (fun hg => ?_) <;> (try (have hw := hg; simp only [Bool.not_eq_true', Bool.not_eq_false', Bool.not_true, Bool.not_false, decide_eq_true_eq, decide_eq_false_iff_not, Int.not_lt, Int.not_le, Bool.or_eq_true, Bool.or_eq_false_iff, Bool.and_eq_true, Bool.and_eq_false_iff, not_true, not_false_eq_true, ne_eq, Decidable.not_not, reduceCtorEq] at hw)) <;> (try (exfalso; omega))
              | refine aw_seq fun K hK => ?_
            | (with_reducible refine aPick_t ?_ ?_); first | rfl | assumption
            | (with_reducible refine aPick_f ?_ ?_); first | rfl | assumption
            | (with_reducible refine h1 _ _ ?_); clear h1 K1
            | (with_reducible refine hK _ _ ?_); clear hK K
            | with_reducible refine k_use (by assumption) _ _ ?_
            | with_reducible refine k1_use (by assumption) _ _ ?_
            | (with_reducible refine is_store ?_); first
              | simp only [g3', g6, g7, aStore, go_sem, ↓reduceIte]
            | (with_reducible refine is_load ?_); first
              | simp only [g3', g6, g7, aLoad, go_sem, ↓reduceIte]
            | (with_reducible refine is_alloc ?_); first
              | simp only [g3', g6, g7, aAlloc, go_sem, ↓reduceIte]
            | (with_reducible refine is_box ?_); first
              | simp only [g3', g6, g7, aBox, go_sem, ↓reduceIte]
            | (with_reducible refine is_make ?_); first
              | simp only [g3', g6, g7, aMake, go_sem, ↓reduceIte]
            | (with_reducible refine is_bslice ?_); first
              | simp only [g3', g6, g7, aBuildSlice, go_sem, ↓reduceIte]
            | (with_reducible refine is_conv ?_); first
              | simp only [g3', g6, g7, aConvS, go_sem, ↓reduceIte]
            | (with_reducible refine is_append ?_); first
              | refine own_append 1 (by assumption) (by rfl) rfl rfl ⟨rfl, rfl, by decide, rfl⟩ rfl (by simp; omega) (by simp; omega) (fun x' σ' k hx' => ?_)
              | refine Grow.append (by (first | assumption | exact Grow.setNew (by assumption) _ _ | exact Grow.push (by assumption) _ | exact Grow.setNew (Grow.setNew (by assumption) _ _) _ _ | exact Grow.push (Grow.setNew (by assumption) _ _) _)) rfl rfl ⟨rfl, rfl, by decide, rfl⟩ ?_ ?_ ?_ (fun x' σ' hG => ?_)
              | simp only [g3', g6, g7, aAppend, go_sem, ↓reduceIte]
            | (with_reducible refine is_len ?_); first
              | refine Grow.len (by (first | assumption | exact Grow.setNew (by assumption) _ _ | exact Grow.push (by assumption) _ | exact Grow.setNew (Grow.setNew (by assumption) _ _) _ _ | exact Grow.push (Grow.setNew (by assumption) _ _) _)) rfl rfl ?_
              | simp only [g3', g6, g7, aLen, go_sem, ↓reduceIte]
            | (with_reducible refine is_all ?_); rfl
            | with_reducible exact ⟨rfl, rfl⟩
            | with_reducible exact rfl
            | (with_reducible refine And.intro ?_ ?_); · (first | assumption | exact ⟨_, hoL, rfl, rfl⟩ | exact hoL | exact St.push_same _ _ | exact St.set_same _ _ _ | (repeat (first | refine obj_push (by first | omega | (simp only [push_next, set_next]; omega)) ?_ | refine obj_set (by first | omega | (simp only [push_next, set_next]; omega)) ?_)); (first | exact St.push_same _ _ | exact St.set_same _ _ _ | assumption) | omega | (simp only [push_objs, push_next, set_objs, set_next, ↓reduceIte]; done) | (simp only [push_objs, push_next, set_objs, set_next, ↓reduceIte]; omega) | rfl | (refine And.intro ?_ ?_ <;> (simp only [push_objs, push_next, set_objs, set_next, ↓reduceIte]; done)))
            | (with_reducible apply ex_and); · (first | assumption | exact ⟨_, hoL, rfl, rfl⟩ | exact hoL | exact St.push_same _ _ | exact St.set_same _ _ _ | (repeat (first | refine obj_push (by first | omega | (simp only [push_next, set_next]; omega)) ?_ | refine obj_set (by first | omega | (simp only [push_next, set_next]; omega)) ?_)); (first | exact St.push_same _ _ | exact St.set_same _ _ _ | assumption) | omega | (simp only [push_objs, push_next, set_objs, set_next, ↓reduceIte]; done) | (simp only [push_objs, push_next, set_objs, set_next, ↓reduceIte]; omega) | rfl | (refine And.intro ?_ ?_ <;> (simp only [push_objs, push_next, set_objs, set_next, ↓reduceIte]; done)))
            | simp (disch := omega) only [tdivE, tmodE, tdivN, tmodN, wrapI, wrapU8]
            | simp only [g3', g6, g7, go_sem, ↓reduceIte]
            | (refine is_prop ?_; omega)
          all_goals refine ⟨x', ?_, by rw [hxL, List.length_map], rfl, by simp only [AV.sc.injEq, Value.int.injEq, true_and]; omega⟩
          all_goals (rw [hT, List.map_append]; exact k)
        · repeat' first
            | (with_reducible refine is_ops ?_); first
              | refine aops_nil ?_
              | refine aops_cons rfl fun K1 h1 => ?_
              | refine aops_wanted rfl rfl (by first | rfl | assumption) fun K1 h1 => ?_
              | refine aops_unwanted rfl rfl (by first | rfl | assumption) ?_
              | refine aops_skip rfl rfl ?_
              | refine aops_guard rfl rfl (fun hg K1 h1 => ?_) (fun hg => ?_) <;> (try (have hw := hg; simp only [Bool.not_eq_true', Bool.not_eq_false', Bool.not_true, Bool.not_false, decide_eq_true_eq, decide_eq_false_iff_not, Int.not_lt, Int.not_le, Bool.or_eq_true, Bool.or_eq_false_iff, Bool.and_eq_true, Bool.and_eq_false_iff, not_true, not_false_eq_true, ne_eq, Decidable.not_not, reduceCtorEq] at hw)) <;> (try (exfalso; omega))
            | (with_reducible refine is_qs ?_); first
              | refine aqs_nil ?_
              | refine aqs_cons (v := ?_) rfl ?_ ?_
              | refine aqs_wanted (v := ?_) rfl rfl (by first | rfl | assumption) ?_ ?_
              | refine aqs_unwanted rfl rfl (by first | rfl | assumption) ?_
              | refine aqs_skip rfl rfl ?_
              | refine aqs_part rfl rfl (fun hg => ?_) (fun hg => ?_) <;> (try (have hw := hg; simp only [Bool.not_eq_true', Bool.not_eq_false', Bool.not_true, Bool.not_false, decide_eq_true_eq, decide_eq_false_iff_not, Int.not_lt, Int.not_le, Bool.or_eq_true, Bool.or_eq_false_iff, Bool.and_eq_true, Bool.and_eq_false_iff, not_true, not_false_eq_true, ne_eq, Decidable.not_not, reduceCtorEq] at hw)) <;> (try (exfalso; omega))
            | (with_reducible refine is_aw ?_); first
              | refine aw_rs tabOk (fun _ => false) _ rfl rfl ?_
              | refine aw_quiet rfl tabOk (fun _ => false) _ rfl rfl (by decide +kernel) ?_
              | refine aw_quiet_end rfl tabOk (fun _ => false) _ rfl rfl (by decide +kernel) ?_
              | refine aw_region tabOk (fun _ => false) _ rfl rfl ?_
              | refine aw_ret ?_
              | refine aw_skip ?_
              | refine aw_exit ?_
              | refine aw_block ?_
              | refine aw_label ?_
              | refine aw_cond_t rfl (by first | rfl | assumption) ?_
              | refine aw_cond_f rfl (by first | rfl | assumption) ?_
              | refine aw_cond rfl (fun hg => ?_) (fun hg => ?_) <;> (try (have hw := hg; simp only [Bool.not_eq_true', Bool.not_eq_false', Bool.not_true, Bool.not_false, decide_eq_true_eq, decide_eq_false_iff_not, Int.not_lt, Int.not_le, Bool.or_eq_true, Bool.or_eq_false_iff, Bool.and_eq_true, Bool.and_eq_false_iff, not_true, not_false_eq_true, ne_eq, Decidable.not_not, reduceCtorEq] at hw)) <;> (try (exfalso; omega))
              | refine aw_seq fun K hK => ?_
            | (with_reducible refine aPick_t ?_ ?_); first | rfl | assumption
            | (with_reducible refine aPick_f ?_ ?_); first | rfl | assumption
            | (with_reducible refine h1 _ _ ?_); clear h1 K1
            | (with_reducible refine hK _ _ ?_); clear hK K
            | with_reducible refine k_use (by assumption) _ _ ?_
            | with_reducible refine k1_use (by assumption) _ _ ?_
            | (with_reducible refine is_store ?_); first
              | simp only [g3', g6, g7, aStore, go_sem, ↓reduceIte]
            | (with_reducible refine is_load ?_); first
              | simp only [g3', g6, g7, aLoad, go_sem, ↓reduceIte]
            | (with_reducible refine is_alloc ?_); first
              | simp only [g3', g6, g7, aAlloc, go_sem, ↓reduceIte]
            | (with_reducible refine is_box ?_); first
              | simp only [g3', g6, g7, aBox, go_sem, ↓reduceIte]
            | (with_reducible refine is_make ?_); first
              | simp only [g3', g6, g7, aMake, go_sem, ↓reduceIte]
            | (with_reducible refine is_bslice ?_); first
              | simp only [g3', g6, g7, aBuildSlice, go_sem, ↓reduceIte]
            | (with_reducible refine is_conv ?_); first
              | refine own_conv 1 (by assumption) (by rfl) rfl rfl rfl rfl rfl ?_
              | simp only [g3', g6, g7, aConvS, go_sem, ↓reduceIte]
            | (with_reducible refine is_append ?_); first
              | refine Grow.append (by (first | assumption | exact Grow.setNew (by assumption) _ _ | exact Grow.push (by assumption) _ | exact Grow.setNew (Grow.setNew (by assumption) _ _) _ _ | exact Grow.push (Grow.setNew (by assumption) _ _) _)) rfl rfl ⟨rfl, rfl, by decide, rfl⟩ ?_ ?_ ?_ (fun x' σ' hG => ?_)
              | simp only [g3', g6, g7, aAppend, go_sem, ↓reduceIte]
            | (with_reducible refine is_len ?_); first
              | refine Grow.len (by (first | assumption | exact Grow.setNew (by assumption) _ _ | exact Grow.push (by assumption) _ | exact Grow.setNew (Grow.setNew (by assumption) _ _) _ _ | exact Grow.push (Grow.setNew (by assumption) _ _) _)) rfl rfl ?_
              | simp only [g3', g6, g7, aLen, go_sem, ↓reduceIte]
            | (with_reducible refine is_all ?_); rfl
            | with_reducible exact ⟨rfl, rfl⟩
            | with_reducible exact rfl
            | (with_reducible refine And.intro ?_ ?_); · (first | assumption | exact St.push_same _ _ | exact St.set_same _ _ _ | (repeat (first | refine obj_push (by first | omega | (simp only [push_next, set_next]; omega)) ?_ | refine obj_set (by first | omega | (simp only [push_next, set_next]; omega)) ?_)); (first | exact St.push_same _ _ | exact St.set_same _ _ _ | assumption) | omega | (simp only [push_objs, push_next, set_objs, set_next, ↓reduceIte]; done) | (simp only [push_objs, push_next, set_objs, set_next, ↓reduceIte]; omega) | rfl | (refine And.intro ?_ ?_ <;> (simp only [push_objs, push_next, set_objs, set_next, ↓reduceIte]; done)))
            | (with_reducible apply ex_and); · (first | assumption | exact St.push_same _ _ | exact St.set_same _ _ _ | (repeat (first | refine obj_push (by first | omega | (simp only [push_next, set_next]; omega)) ?_ | refine obj_set (by first | omega | (simp only [push_next, set_next]; omega)) ?_)); (first | exact St.push_same _ _ | exact St.set_same _ _ _ | assumption) | omega | (simp only [push_objs, push_next, set_objs, set_next, ↓reduceIte]; done) | (simp only [push_objs, push_next, set_objs, set_next, ↓reduceIte]; omega) | rfl | (refine And.intro ?_ ?_ <;> (simp only [push_objs, push_next, set_objs, set_next, ↓reduceIte]; done)))
            | simp (disch := omega) only [tdivE, tmodE, tdivN, tmodN, wrapI, wrapU8]
            | simp only [g3', g6, g7, go_sem, ↓reduceIte]
            | (refine is_prop ?_; omega)
          obtain rfl : i = (decL m).length := by omega
          refine ⟨_, .same rfl, fun _ => ?_⟩
          rw [List.take_of_length_le (by simp)]
          unfold decS; rw [if_neg hz]
      · have hD : decL m = acc := by unfold decL; rw [if_neg (by omega), hacc, List.append_nil]
        repeat' first
          | (with_reducible refine is_ops ?_); first
            | refine aops_nil ?_
            | refine aops_cons rfl fun K1 h1 => ?_
            | refine aops_wanted rfl rfl (by first | rfl | assumption) fun K1 h1 => ?_
            | refine aops_unwanted rfl rfl (by first | rfl | assumption) ?_
            | refine aops_skip rfl rfl ?_
            | refine aops_guard rfl rfl (fun hg K1 h1 => ?_) (fun hg => ?_) <;> (try (have hw := hg; simp only [Bool.not_eq_true', Bool.not_eq_false', Bool.not_true, Bool.not_false, decide_eq_true_eq, decide_eq_false_iff_not, Int.not_lt, Int.not_le, Bool.or_eq_true, Bool.or_eq_false_iff, Bool.and_eq_true, Bool.and_eq_false_iff, not_true, not_false_eq_true, ne_eq, Decidable.not_not, reduceCtorEq] at hw)) <;> (try (exfalso; omega))
          | (with_reducible refine is_qs ?_); first
            | refine aqs_nil ?_
            | refine aqs_cons (v := ?_) rfl ?_ ?_
            | refine aqs_wanted (v := ?_) rfl rfl (by first | rfl | assumption) ?_ ?_
            | refine aqs_unwanted rfl rfl (by first | rfl | assumption) ?_
            | refine aqs_skip rfl rfl ?_
            | refine aqs_part rfl rfl (fun hg => ?_) (fun hg => ?_) <;> (try (have hw := hg; simp only [Bool.not_eq_true', Bool.not_eq_false', Bool.not_true, Bool.not_false, decide_eq_true_eq, decide_eq_false_iff_not, Int.not_lt, Int.not_le, Bool.or_eq_true, Bool.or_eq_false_iff, Bool.and_eq_true, Bool.and_eq_false_iff, not_true, not_false_eq_true, ne_eq, Decidable.not_not, reduceCtorEq] at hw)) <;> (try (exfalso; omega))
          | (with_reducible refine is_aw ?_); first
            | refine aw_rs tabOk (fun t => if t = 33 then true else false) _ rfl rfl ?_
            | refine aw_quiet rfl tabOk (fun t => if t = 33 then true else false) _ rfl rfl (by decide +kernel) ?_
            | refine aw_quiet_end rfl tabOk (fun t => if t = 33 then true else false) _ rfl rfl (by decide +kernel) ?_
            | refine aw_region tabOk (fun t => if t = 33 then true else false) _ rfl rfl ?_
            | refine aw_ret ?_
            | refine aw_skip ?_
            | refine aw_exit ?_
            | refine aw_block ?_
            | refine aw_label ?_
            | refine aw_cond_t rfl (by first | rfl | assumption) ?_
            | refine aw_cond_f rfl (by first | rfl | assumption) ?_
            | refine aw_cond rfl (fun hg => ?_) (fun hg => ?_) <;> (try (have hw := hg; simp only [Bool.not_eq_true', Bool.not_eq_false', Bool.not_true, Bool.not_false, decide_eq_true_eq, decide_eq_false_iff_not, Int.not_lt, Int.not_le, Bool.or_eq_true, Bool.or_eq_false_iff, Bool.and_eq_true, Bool.and_eq_false_iff, not_true, not_false_eq_true, ne_eq, Decidable.not_not, reduceCtorEq] at hw)) <;> (try (exfalso; omega))
            | refine aw_seq fun K hK => ?_
          | (with_reducible refine aPick_t ?_ ?_); first | rfl | assumption
          | (with_reducible refine aPick_f ?_ ?_); first | rfl | assumption
          | (with_reducible refine h1 _ _ ?_); clear h1 K1
          | (with_reducible refine hK _ _ ?_); clear hK K
          | with_reducible refine k_use (by assumption) _ _ ?_
          | with_reducible refine k1_use (by assumption) _ _ ?_
          | (with_reducible refine is_store ?_); first
            | simp only [g0, g3, g4, List.length_append, aStore, go_sem, ↓reduceIte]
          | (with_reducible refine is_load ?_); first
            | simp only [g0, g3, g4, List.length_append, aLoad, go_sem, ↓reduceIte]
          | (with_reducible refine is_alloc ?_); first
            | simp only [g0, g3, g4, List.length_append, aAlloc, go_sem, ↓reduceIte]
          | (with_reducible refine is_box ?_); first
            | simp only [g0, g3, g4, List.length_append, aBox, go_sem, ↓reduceIte]
          | (with_reducible refine is_make ?_); first
            | simp only [g0, g3, g4, List.length_append, aMake, go_sem, ↓reduceIte]
          | (with_reducible refine is_bslice ?_); first
            | refine own_bslice (by assumption) rfl rfl ⟨by decide, rfl, by decide⟩ rfl rfl (fun σ' x k hx => ?_)
            | simp only [g0, g3, g4, List.length_append, aBuildSlice, go_sem, ↓reduceIte]
          | (with_reducible refine is_conv ?_); first
            | simp only [g0, g3, g4, List.length_append, aConvS, go_sem, ↓reduceIte]
          | (with_reducible refine is_append ?_); first
            | refine own_append 0 (by assumption) (by rfl) rfl rfl ⟨rfl, rfl, by decide, rfl⟩ rfl (by simp; omega) (by simp; omega) (fun x' σ' k hx' => ?_)
            | refine Grow.append (by (first | assumption | exact Grow.setNew (by assumption) _ _ | exact Grow.push (by assumption) _ | exact Grow.setNew (Grow.setNew (by assumption) _ _) _ _ | exact Grow.push (Grow.setNew (by assumption) _ _) _)) rfl rfl ⟨rfl, rfl, by decide, rfl⟩ ?_ ?_ ?_ (fun x' σ' hG => ?_)
            | simp only [g0, g3, g4, List.length_append, aAppend, go_sem, ↓reduceIte]
          | (with_reducible refine is_len ?_); first
            | refine own_len 0 (by assumption) (by rfl) rfl rfl ?_
            | refine Grow.len (by (first | assumption | exact Grow.setNew (by assumption) _ _ | exact Grow.push (by assumption) _ | exact Grow.setNew (Grow.setNew (by assumption) _ _) _ _ | exact Grow.push (Grow.setNew (by assumption) _ _) _)) rfl rfl ?_
            | simp only [g0, g3, g4, List.length_append, aLen, go_sem, ↓reduceIte]
          | (with_reducible refine is_all ?_); rfl
          | with_reducible exact ⟨rfl, rfl⟩
          | with_reducible exact rfl
          | (with_reducible refine And.intro ?_ ?_); · (first | assumption | exact St.push_same _ _ | exact St.set_same _ _ _ | (repeat (first | refine obj_push (by first | omega | (simp only [push_next, set_next]; omega)) ?_ | refine obj_set (by first | omega | (simp only [push_next, set_next]; omega)) ?_)); (first | exact St.push_same _ _ | exact St.set_same _ _ _ | assumption) | omega | (simp only [push_objs, push_next, set_objs, set_next, ↓reduceIte]; done) | (simp only [push_objs, push_next, set_objs, set_next, ↓reduceIte]; omega) | rfl | (refine And.intro ?_ ?_ <;> (simp only [push_objs, push_next, set_objs, set_next, ↓reduceIte]; done)))
          | (with_reducible apply ex_and); · (first | assumption | exact St.push_same _ _ | exact St.set_same _ _ _ | (repeat (first | refine obj_push (by first | omega | (simp only [push_next, set_next]; omega)) ?_ | refine obj_set (by first | omega | (simp only [push_next, set_next]; omega)) ?_)); (first | exact St.push_same _ _ | exact St.set_same _ _ _ | assumption) | omega | (simp only [push_objs, push_next, set_objs, set_next, ↓reduceIte]; done) | (simp only [push_objs, push_next, set_objs, set_next, ↓reduceIte]; omega) | rfl | (refine And.intro ?_ ?_ <;> (simp only [push_objs, push_next, set_objs, set_next, ↓reduceIte]; done)))
          | simp (disch := omega) only [tdivE, tmodE, tdivN, tmodN, wrapI, wrapU8]
          | simp only [g0, g3, g4, List.length_append, go_sem, ↓reduceIte]
          | (refine is_prop ?_; omega)
        have kk : Own (St.emp n) [] [.sl x1 5 1 ((decL m).map byteAV), .sl x 5 1 []] σ' := by rw [hD]; simpa [byteAV] using k
        refine aw_count (decL m).length (fun i e τ => ∃ x6, Own (St.emp n) [] [.sl x1 5 1 ((decL m).map byteAV), .sl x6 5 1 (((decL m).reverse.take i).map byteAV)] τ ∧ e 3 = x1 ∧ e 6 = x6 ∧ e 7 = i64 ((decL m).length - 1 - i)) ⟨x, kk, by simp [Env.upd, g3], by simp [Env.upd], by simp [Env.upd, hD] <;> omega⟩ ?_
        rintro i e2 τ2 ⟨x6, k6, g3', g6, g7⟩ hi
        by_cases hlt : i < (decL m).length
        · have hne : (decL m).map byteAV ≠ [] := by intro h; have := congrArg List.length h; rw [List.length_map] at this; simp only [List.length_nil] at this; omega
          obtain ⟨oL, gL, eL, hxL, hoL, hat⟩ := k6.isRef (i := 0) rfl hne
          have hx : eL[((decL m).length - 1 - i : Int).toNat]? = some (byteAV ((decL m)[(decL m).length - 1 - i]'(by omega))) := by
            rw [show ((decL m).length - 1 - i : Int).toNat = (decL m).length - 1 - i by omega]
            exact hat _ _ (by rw [List.getElem?_map, List.getElem?_eq_getElem (by omega)]; rfl)
          have hT : (decL m).reverse.take (i + 1) = (decL m).reverse.take i ++ [(decL m)[(decL m).length - 1 - i]'(by omega)] := by
            rw [List.take_add_one, List.getElem?_reverse hlt, List.getElem?_eq_getElem (by omega)]; rfl
          have hl6 : ((decL m).reverse.take i).length = i := by simp; omega
          unfold byteAV at hx
          rw [hxL] at g3'
          rw [List.length_map] at g3'
          repeat' first
            | (with_reducible refine is_ops ?_); first
              | refine aops_nil ?_
              | refine aops_cons rfl fun K1 h1 => ?_
              | refine aops_wanted rfl rfl (by first | rfl | assumption) fun K1 h1 => ?_
              | refine aops_unwanted rfl rfl (by first | rfl | assumption) ?_
              | refine aops_skip rfl rfl ?_
              | refine aops_guard rfl rfl (fun hg K1 h1 => ?_) (fun hg => ?_) <;> (try (have hw := hg; simp only [Bool.not_eq_true', Bool.not_eq_false', Bool.not_true, Bool.not_false, decide_eq_true_eq, decide_eq_false_iff_not, Int.not_lt, Int.not_le, Bool.or_eq_true, Bool.or_eq_false_iff, Bool.and_eq_true, Bool.and_eq_false_iff, not_true, not_false_eq_true, ne_eq, Decidable.not_not, reduceCtorEq] at hw)) <;> (try (exfalso; omega))
            | (with_reducible refine is_qs ?_); first
              | refine aqs_nil ?_
              | refine aqs_cons (v := ?_) rfl ?_ ?_
              | refine aqs_wanted (v := ?_) rfl rfl (by first | rfl | assumption) ?_ ?_
              | refine aqs_unwanted rfl rfl (by first | rfl | assumption) ?_
              | refine aqs_skip rfl rfl ?_
              | refine aqs_part rfl rfl (fun hg => ?_) (fun hg => ?_) <;> (try (have hw := hg; simp only [Bool.not_eq_true', Bool.not_eq_false', Bool.not_true, Bool.not_false, decide_eq_true_eq, decide_eq_false_iff_not, Int.not_lt, Int.not_le, Bool.or_eq_true, Bool.or_eq_false_iff, Bool.and_eq_true, Bool.and_eq_false_iff, not_true, not_false_eq_true, ne_eq, Decidable.not_not, reduceCtorEq] at hw)) <;> (try (exfalso; omega))
            | (with_reducible refine is_aw ?_); first
              | refine aw_rs tabOk (fun _ => false) _ rfl rfl ?_
              | refine aw_quiet rfl tabOk (fun _ => false) _ rfl rfl (by decide +kernel) ?_
              | refine aw_quiet_end rfl tabOk (fun _ => false) _ rfl rfl (by decide +kernel) ?_
              | refine aw_region tabOk (fun _ => false) _ rfl rfl ?_
              | refine aw_ret ?_
              | refine aw_skip ?_
              | refine aw_exit ?_
              | refine aw_block ?_
              | refine aw_label ?_
              | refine aw_cond_t rfl (by first | rfl | assumption) ?_
              | refine aw_cond_f rfl (by first | rfl | assumption) ?_
              | refine aw_cond rfl (fun hg => ?_) (fun hg => ?_) <;> (try (have hw := hg; simp only [Bool.not_eq_true', Bool.not_eq_false', Bool.not_true, Bool.not_false, decide_eq_true_eq, decide_eq_false_iff_not, Int.not_lt, Int.not_le, Bool.or_eq_true, Bool.or_eq_false_iff, Bool.and_eq_true, Bool.and_eq_false_iff, not_true, not_false_eq_true, ne_eq, Decidable.not_not, reduceCtorEq] at hw)) <;> (try (exfalso; omega))
              | refine aw_seq fun K hK => ?_
            | (with_reducible refine aPick_t ?_ ?_); first | rfl | assumption
            | (with_reducible refine aPick_f ?_ ?_); first | rfl | assumption
            | (with_reducible refine h1 _ _ ?_); clear h1 K1
            | (with_reducible refine hK _ _ ?_); clear hK K
            | with_reducible refine k_use (by assumption) _ _ ?_
            | with_reducible refine k1_use (by assumption) _ _ ?_
            | (with_reducible refine is_store ?_); first
              | simp only [g3', g6, g7, aStore, go_sem, ↓reduceIte]
            | (with_reducible refine is_load ?_); first
              | simp only [g3', g6, g7, aLoad, go_sem, ↓reduceIte]
            | (with_reducible refine is_alloc ?_); first
              | simp only [g3', g6, g7, aAlloc, go_sem, ↓reduceIte]
            | (with_reducible refine is_box ?_); first
              | simp only [g3', g6, g7, aBox, go_sem, ↓reduceIte]
            | (with_reducible refine is_make ?_); first
              | simp only [g3', g6, g7, aMake, go_sem, ↓reduceIte]
            | (with_reducible refine is_bslice ?_); first
              | simp only [g3', g6, g7, aBuildSlice, go_sem, ↓reduceIte]
            | (with_reducible refine is_conv ?_); first
              | simp only [g3', g6, g7, aConvS, go_sem, ↓reduceIte]
            | (with_reducible refine is_append ?_); first
              | refine own_append 1 (by assumption) (by rfl) rfl rfl ⟨rfl, rfl, by decide, rfl⟩ rfl (by simp; omega) (by simp; omega) (fun x' σ' k hx' => ?_)
              | refine Grow.append (by (first | assumption | exact Grow.setNew (by assumption) _ _ | exact Grow.push (by assumption) _ | exact Grow.setNew (Grow.setNew (by assumption) _ _) _ _ | exact Grow.push (Grow.setNew (by assumption) _ _) _)) rfl rfl ⟨rfl, rfl, by decide, rfl⟩ ?_ ?_ ?_ (fun x' σ' hG => ?_)
              | simp only [g3', g6, g7, aAppend, go_sem, ↓reduceIte]
            | (with_reducible refine is_len ?_); first
              | refine Grow.len (by (first | assumption | exact Grow.setNew (by assumption) _ _ | exact Grow.push (by assumption) _ | exact Grow.setNew (Grow.setNew (by assumption) _ _) _ _ | exact Grow.push (Grow.setNew (by assumption) _ _) _)) rfl rfl ?_
              | simp only [g3', g6, g7, aLen, go_sem, ↓reduceIte]
            | (with_reducible refine is_all ?_); rfl
            | with_reducible exact ⟨rfl, rfl⟩
            | with_reducible exact rfl
            | (with_reducible refine And.intro ?_ ?_); · (first | assumption | exact ⟨_, hoL, rfl, rfl⟩ | exact hoL | exact St.push_same _ _ | exact St.set_same _ _ _ | (repeat (first | refine obj_push (by first | omega | (simp only [push_next, set_next]; omega)) ?_ | refine obj_set (by first | omega | (simp only [push_next, set_next]; omega)) ?_)); (first | exact St.push_same _ _ | exact St.set_same _ _ _ | assumption) | omega | (simp only [push_objs, push_next, set_objs, set_next, ↓reduceIte]; done) | (simp only [push_objs, push_next, set_objs, set_next, ↓reduceIte]; omega) | rfl | (refine And.intro ?_ ?_ <;> (simp only [push_objs, push_next, set_objs, set_next, ↓reduceIte]; done)))
            | (with_reducible apply ex_and); · (first | assumption | exact ⟨_, hoL, rfl, rfl⟩ | exact hoL | exact St.push_same _ _ | exact St.set_same _ _ _ | (repeat (first | refine obj_push (by first | omega | (simp only [push_next, set_next]; omega)) ?_ | refine obj_set (by first | omega | (simp only [push_next, set_next]; omega)) ?_)); (first | exact St.push_same _ _ | exact St.set_same _ _ _ | assumption) | omega | (simp only [push_objs, push_next, set_objs, set_next, ↓reduceIte]; done) | (simp only [push_objs, push_next, set_objs, set_next, ↓reduceIte]; omega) | rfl | (refine And.intro ?_ ?_ <;> (simp only [push_objs, push_next, set_objs, set_next, ↓reduceIte]; done)))
            | simp (disch := omega) only [tdivE, tmodE, tdivN, tmodN, wrapI, wrapU8]
            | simp only [g3', g6, g7, go_sem, ↓reduceIte]
            | (refine is_prop ?_; omega)
          all_goals refine ⟨x', ?_, by rw [hxL, List.length_map], rfl, by simp only [AV.sc.injEq, Value.int.injEq, true_and]; omega⟩
          all_goals (rw [hT, List.map_append]; exact k)
        · repeat' first
            | (with_reducible refine is_ops ?_); first
              | refine aops_nil ?_
              | refine aops_cons rfl fun K1 h1 => ?_
              | refine aops_wanted rfl rfl (by first | rfl | assumption) fun K1 h1 => ?_
              | refine aops_unwanted rfl rfl (by first | rfl | assumption) ?_
              | refine aops_skip rfl rfl ?_
              | refine aops_guard rfl rfl (fun hg K1 h1 => ?_) (fun hg => ?_) <;> (try (have hw := hg; simp only [Bool.not_eq_true', Bool.not_eq_false', Bool.not_true, Bool.not_false, decide_eq_true_eq, decide_eq_false_iff_not, Int.not_lt, Int.not_le, Bool.or_eq_true, Bool.or_eq_false_iff, Bool.and_eq_true, Bool.and_eq_false_iff, not_true, not_false_eq_true, ne_eq, Decidable.not_not, reduceCtorEq] at hw)) <;> (try (exfalso; omega))
            | (with_reducible refine is_qs ?_); first
              | refine aqs_nil ?_
              | refine aqs_cons (v := ?_) rfl ?_ ?_
              | refine aqs_wanted (v := ?_) rfl rfl (by first | rfl | assumption) ?_ ?_
              | refine aqs_unwanted rfl rfl (by first | rfl | assumption) ?_
              | refine aqs_skip rfl rfl ?_
              | refine aqs_part rfl rfl (fun hg => ?_) (fun hg => ?_) <;> (try (have hw := hg; simp only [Bool.not_eq_true', Bool.not_eq_false', Bool.not_true, Bool.not_false, decide_eq_true_eq, decide_eq_false_iff_not, Int.not_lt, Int.not_le, Bool.or_eq_true, Bool.or_eq_false_iff, Bool.and_eq_true, Bool.and_eq_false_iff, not_true, not_false_eq_true, ne_eq, Decidable.not_not, reduceCtorEq] at hw)) <;> (try (exfalso; omega))
            | (with_reducible refine is_aw ?_); first
              | refine aw_rs tabOk (fun _ => false) _ rfl rfl ?_
              | refine aw_quiet rfl tabOk (fun _ => false) _ rfl rfl (by decide +kernel) ?_
              | refine aw_quiet_end rfl tabOk (fun _ => false) _ rfl rfl (by decide +kernel) ?_
              | refine aw_region tabOk (fun _ => false) _ rfl rfl ?_
              | refine aw_ret ?_
              | refine aw_skip ?_
              | refine aw_exit ?_
              | refine aw_block ?_
              | refine aw_label ?_
              | refine aw_cond_t rfl (by first | rfl | assumption) ?_
              | refine aw_cond_f rfl (by first | rfl | assumption) ?_
              | refine aw_cond rfl (fun hg => ?_) (fun hg => ?_) <;> (try (have hw := hg; simp only [Bool.not_eq_true', Bool.not_eq_false', Bool.not_true, Bool.not_false, decide_eq_true_eq, decide_eq_false_iff_not, Int.not_lt, Int.not_le, Bool.or_eq_true, Bool.or_eq_false_iff, Bool.and_eq_true, Bool.and_eq_false_iff, not_true, not_false_eq_true, ne_eq, Decidable.not_not, reduceCtorEq] at hw)) <;> (try (exfalso; omega))
              | refine aw_seq fun K hK => ?_
            | (with_reducible refine aPick_t ?_ ?_); first | rfl | assumption
            | (with_reducible refine aPick_f ?_ ?_); first | rfl | assumption
            | (with_reducible refine h1 _ _ ?_); clear h1 K1
            | (with_reducible refine hK _ _ ?_); clear hK K
            | with_reducible refine k_use (by assumption) _ _ ?_
            | with_reducible refine k1_use (by assumption) _ _ ?_
            | (with_reducible refine is_store ?_); first
              | simp only [g3', g6, g7, aStore, go_sem, ↓reduceIte]
            | (with_reducible refine is_load ?_); first
              | simp only [g3', g6, g7, aLoad, go_sem, ↓reduceIte]
            | (with_reducible refine is_alloc ?_); first
              | simp only [g3', g6, g7, aAlloc, go_sem, ↓reduceIte]
            | (with_reducible refine is_box ?_); first
              | simp only [g3', g6, g7, aBox, go_sem, ↓reduceIte]
            | (with_reducible refine is_make ?_); first
              | simp only [g3', g6, g7, aMake, go_sem, ↓reduceIte]
            | (with_reducible refine is_bslice ?_); first
              | simp only [g3', g6, g7, aBuildSlice, go_sem, ↓reduceIte]
            | (with_reducible refine is_conv ?_); first
              | refine own_conv 1 (by assumption) (by rfl) rfl rfl rfl rfl rfl ?_
              | simp only [g3', g6, g7, aConvS, go_sem, ↓reduceIte]
            | (with_reducible refine is_append ?_); first
              | refine Grow.append (by (first | assumption | exact Grow.setNew (by assumption) _ _ | exact Grow.push (by assumption) _ | exact Grow.setNew (Grow.setNew (by assumption) _ _) _ _ | exact Grow.push (Grow.setNew (by assumption) _ _) _)) rfl rfl ⟨rfl, rfl, by decide, rfl⟩ ?_ ?_ ?_ (fun x' σ' hG => ?_)
              | simp only [g3', g6, g7, aAppend, go_sem, ↓reduceIte]
            | (with_reducible refine is_len ?_); first
              | refine Grow.len (by (first | assumption | exact Grow.setNew (by assumption) _ _ | exact Grow.push (by assumption) _ | exact Grow.setNew (Grow.setNew (by assumption) _ _) _ _ | exact Grow.push (Grow.setNew (by assumption) _ _) _)) rfl rfl ?_
              | simp only [g3', g6, g7, aLen, go_sem, ↓reduceIte]
            | (with_reducible refine is_all ?_); rfl
            | with_reducible exact ⟨rfl, rfl⟩
            | with_reducible exact rfl
            | (with_reducible refine And.intro ?_ ?_); · (first | assumption | exact St.push_same _ _ | exact St.set_same _ _ _ | (repeat (first | refine obj_push (by first | omega | (simp only [push_next, set_next]; omega)) ?_ | refine obj_set (by first | omega | (simp only [push_next, set_next]; omega)) ?_)); (first | exact St.push_same _ _ | exact St.set_same _ _ _ | assumption) | omega | (simp only [push_objs, push_next, set_objs, set_next, ↓reduceIte]; done) | (simp only [push_objs, push_next, set_objs, set_next, ↓reduceIte]; omega) | rfl | (refine And.intro ?_ ?_ <;> (simp only [push_objs, push_next, set_objs, set_next, ↓reduceIte]; done)))
            | (with_reducible apply ex_and); · (first | assumption | exact St.push_same _ _ | exact St.set_same _ _ _ | (repeat (first | refine obj_push (by first | omega | (simp only [push_next, set_next]; omega)) ?_ | refine obj_set (by first | omega | (simp only [push_next, set_next]; omega)) ?_)); (first | exact St.push_same _ _ | exact St.set_same _ _ _ | assumption) | omega | (simp only [push_objs, push_next, set_objs, set_next, ↓reduceIte]; done) | (simp only [push_objs, push_next, set_objs, set_next, ↓reduceIte]; omega) | rfl | (refine And.intro ?_ ?_ <;> (simp only [push_objs, push_next, set_objs, set_next, ↓reduceIte]; done)))
            | simp (disch := omega) only [tdivE, tmodE, tdivN, tmodN, wrapI, wrapU8]
            | simp only [g3', g6, g7, go_sem, ↓reduceIte]
            | (refine is_prop ?_; omega)
          obtain rfl : i = (decL m).length := by omega
          refine ⟨_, .same rfl, fun _ => ?_⟩
          rw [List.take_of_length_le (by simp)]
          unfold decS; rw [if_neg hz]
    · have hstep : decR cur.natAbs = UInt8.ofNat (48 + cur.natAbs % 10) :: decR (cur.natAbs / 10) := decR_pos (by omega)
      rcases (by omega : 0 < cur ∨ cur < 0) with hpos | hneg
      · have hd := digit8 (d := cur.natAbs % 10) (by omega)
        have hd2 : ((48 : Int) + (cur.natAbs % 10 : Nat)) = 48 + cur % 10 := by omega
        have hq : cur.natAbs / 10 = (cur / 10).natAbs := by omega
        rw [hstep, hq] at hacc
        repeat' first
          | (with_reducible refine is_ops ?_); first
            | refine aops_nil ?_
            | refine aops_cons rfl fun K1 h1 => ?_
            | refine aops_wanted rfl rfl (by first | rfl | assumption) fun K1 h1 => ?_
            | refine aops_unwanted rfl rfl (by first | rfl | assumption) ?_
            | refine aops_skip rfl rfl ?_
            | refine aops_guard rfl rfl (fun hg K1 h1 => ?_) (fun hg => ?_) <;> (try (have hw := hg; simp only [Bool.not_eq_true', Bool.not_eq_false', Bool.not_true, Bool.not_false, decide_eq_true_eq, decide_eq_false_iff_not, Int.not_lt, Int.not_le, Bool.or_eq_true, Bool.or_eq_false_iff, Bool.and_eq_true, Bool.and_eq_false_iff, not_true, not_false_eq_true, ne_eq, Decidable.not_not, reduceCtorEq] at hw)) <;> (try (exfalso; omega))
          | (with_reducible refine is_qs ?_); first
            | refine aqs_nil ?_
            | refine aqs_cons (v := ?_) rfl ?_ ?_
            | refine aqs_wanted (v := ?_) rfl rfl (by first | rfl | assumption) ?_ ?_
            | refine aqs_unwanted rfl rfl (by first | rfl | assumption) ?_
            | refine aqs_skip rfl rfl ?_
            | refine aqs_part rfl rfl (fun hg => ?_) (fun hg => ?_) <;> (try (have hw := hg; simp only [Bool.not_eq_true', Bool.not_eq_false', Bool.not_true, Bool.not_false, decide_eq_true_eq, decide_eq_false_iff_not, Int.not_lt, Int.not_le, Bool.or_eq_true, Bool.or_eq_false_iff, Bool.and_eq_true, Bool.and_eq_false_iff, not_true, not_false_eq_true, ne_eq, Decidable.not_not, reduceCtorEq] at hw)) <;> (try (exfalso; omega))
          | (with_reducible refine is_aw ?_); first
            | refine aw_rs tabOk (fun _ => false) _ rfl rfl ?_
            | refine aw_quiet rfl tabOk (fun _ => false) _ rfl rfl (by decide +kernel) ?_
            | refine aw_quiet_end rfl tabOk (fun _ => false) _ rfl rfl (by decide +kernel) ?_
            | refine aw_region tabOk (fun _ => false) _ rfl rfl ?_
            | refine aw_ret ?_
            | refine aw_skip ?_
            | refine aw_exit ?_
            | refine aw_block ?_
            | refine aw_label ?_
            | refine aw_cond_t rfl (by first | rfl | assumption) ?_
            | refine aw_cond_f rfl (by first | rfl | assumption) ?_
            | refine aw_cond rfl (fun hg => ?_) (fun hg => ?_) <;> (try (have hw := hg; simp only [Bool.not_eq_true', Bool.not_eq_false', Bool.not_true, Bool.not_false, decide_eq_true_eq, decide_eq_false_iff_not, Int.not_lt, Int.not_le, Bool.or_eq_true, Bool.or_eq_false_iff, Bool.and_eq_true, Bool.and_eq_false_iff, not_true, not_false_eq_true, ne_eq, Decidable.not_not, reduceCtorEq] at hw)) <;> (try (exfalso; omega))
            | refine aw_seq fun K hK => ?_
          | (with_reducible refine aPick_t ?_ ?_); first | rfl | assumption
          | (with_reducible refine aPick_f ?_ ?_); first | rfl | assumption
          | (with_reducible refine h1 _ _ ?_); clear h1 K1
          | (with_reducible refine hK _ _ ?_); clear hK K
          | with_reducible refine k_use (by assumption) _ _ ?_
          | with_reducible refine k1_use (by assumption) _ _ ?_
          | (with_reducible refine is_store ?_); first
            | simp only [g0, g3, g4, aStore, go_sem, ↓reduceIte]
          | (with_reducible refine is_load ?_); first
            | simp only [g0, g3, g4, aLoad, go_sem, ↓reduceIte]
          | (with_reducible refine is_alloc ?_); first
            | simp only [g0, g3, g4, aAlloc, go_sem, ↓reduceIte]
          | (with_reducible refine is_box ?_); first
            | simp only [g0, g3, g4, aBox, go_sem, ↓reduceIte]
          | (with_reducible refine is_make ?_); first
            | simp only [g0, g3, g4, aMake, go_sem, ↓reduceIte]
          | (with_reducible refine is_bslice ?_); first
            | simp only [g0, g3, g4, aBuildSlice, go_sem, ↓reduceIte]
          | (with_reducible refine is_conv ?_); first
            | simp only [g0, g3, g4, aConvS, go_sem, ↓reduceIte]
          | (with_reducible refine is_append ?_); first
            | refine own_append 0 (by assumption) (by rfl) rfl rfl ⟨rfl, rfl, by decide, rfl⟩ rfl (by simp; omega) (by simp; omega) (fun x' σ' k hx' => ?_)
            | refine Grow.append (by (first | assumption | exact Grow.setNew (by assumption) _ _ | exact Grow.push (by assumption) _ | exact Grow.setNew (Grow.setNew (by assumption) _ _) _ _ | exact Grow.push (Grow.setNew (by assumption) _ _) _)) rfl rfl ⟨rfl, rfl, by decide, rfl⟩ ?_ ?_ ?_ (fun x' σ' hG => ?_)
            | simp only [g0, g3, g4, aAppend, go_sem, ↓reduceIte]
          | (with_reducible refine is_len ?_); first
            | refine Grow.len (by (first | assumption | exact Grow.setNew (by assumption) _ _ | exact Grow.push (by assumption) _ | exact Grow.setNew (Grow.setNew (by assumption) _ _) _ _ | exact Grow.push (Grow.setNew (by assumption) _ _) _)) rfl rfl ?_
            | simp only [g0, g3, g4, aLen, go_sem, ↓reduceIte]
          | (with_reducible refine is_all ?_); rfl
          | with_reducible exact ⟨rfl, rfl⟩
          | with_reducible exact rfl
          | (with_reducible refine And.intro ?_ ?_); · (first | assumption | exact St.push_same _ _ | exact St.set_same _ _ _ | (repeat (first | refine obj_push (by first | omega | (simp only [push_next, set_next]; omega)) ?_ | refine obj_set (by first | omega | (simp only [push_next, set_next]; omega)) ?_)); (first | exact St.push_same _ _ | exact St.set_same _ _ _ | assumption) | omega | (simp only [push_objs, push_next, set_objs, set_next, ↓reduceIte]; done) | (simp only [push_objs, push_next, set_objs, set_next, ↓reduceIte]; omega) | rfl | (refine And.intro ?_ ?_ <;> (simp only [push_objs, push_next, set_objs, set_next, ↓reduceIte]; done)))
          | (with_reducible apply ex_and); · (first | assumption | exact St.push_same _ _ | exact St.set_same _ _ _ | (repeat (first | refine obj_push (by first | omega | (simp only [push_next, set_next]; omega)) ?_ | refine obj_set (by first | omega | (simp only [push_next, set_next]; omega)) ?_)); (first | exact St.push_same _ _ | exact St.set_same _ _ _ | assumption) | omega | (simp only [push_objs, push_next, set_objs, set_next, ↓reduceIte]; done) | (simp only [push_objs, push_next, set_objs, set_next, ↓reduceIte]; omega) | rfl | (refine And.intro ?_ ?_ <;> (simp only [push_objs, push_next, set_objs, set_next, ↓reduceIte]; done)))
          | simp (disch := omega) only [tdivE, tmodE, tdivN, tmodN, wrapI, wrapU8]
          | simp only [g0, g3, g4, go_sem, ↓reduceIte]
          | (refine is_prop ?_; omega)
        all_goals refine ⟨(cur / 10).natAbs, by omega, cur / 10, acc ++ [UInt8.ofNat (48 + cur.natAbs % 10)], x', rfl, by omega, by rw [List.append_assoc]; exact hacc, fun _ => by omega, fun h => by omega, ?_, rfl, rfl⟩
        all_goals (rw [List.map_append, List.map_cons, List.map_nil, hd, hd2]; exact k)
      · have hd := digit8 (d := cur.natAbs % 10) (by omega)
        have hd2 : ((48 : Int) + (cur.natAbs % 10 : Nat)) = 48 + -cur % 10 := by omega
        have hq : cur.natAbs / 10 = (-(-cur / 10)).natAbs := by omega
        rw [hstep, hq] at hacc
        repeat' first
          | (with_reducible refine is_ops ?_); first
            | refine aops_nil ?_
            | refine aops_cons rfl fun K1 h1 => ?_
            | refine aops_wanted rfl rfl (by first | rfl | assumption) fun K1 h1 => ?_
            | refine aops_unwanted rfl rfl (by first | rfl | assumption) ?_
            | refine aops_skip rfl rfl ?_
            | refine aops_guard rfl rfl (fun hg K1 h1 => ?_) (fun hg => ?_) <;> (try (have hw := hg; simp only [Bool.not_eq_true', Bool.not_eq_false', Bool.not_true, Bool.not_false, decide_eq_true_eq, decide_eq_false_iff_not, Int.not_lt, Int.not_le, Bool.or_eq_true, Bool.or_eq_false_iff, Bool.and_eq_true, Bool.and_eq_false_iff, not_true, not_false_eq_true, ne_eq, Decidable.not_not, reduceCtorEq] at hw)) <;> (try (exfalso; omega))
          | (with_reducible refine is_qs ?_); first
            | refine aqs_nil ?_
            | refine aqs_cons (v := ?_) rfl ?_ ?_
            | refine aqs_wanted (v := ?_) rfl rfl (by first | rfl | assumption) ?_ ?_
            | refine aqs_unwanted rfl rfl (by first | rfl | assumption) ?_
            | refine aqs_skip rfl rfl ?_
            | refine aqs_part rfl rfl (fun hg => ?_) (fun hg => ?_) <;> (try (have hw := hg; simp only [Bool.not_eq_true', Bool.not_eq_false', Bool.not_true, Bool.not_false, decide_eq_true_eq, decide_eq_false_iff_not, Int.not_lt, Int.not_le, Bool.or_eq_true, Bool.or_eq_false_iff, Bool.and_eq_true, Bool.and_eq_false_iff, not_true, not_false_eq_true, ne_eq, Decidable.not_not, reduceCtorEq] at hw)) <;> (try (exfalso; omega))
          | (with_reducible refine is_aw ?_); first
            | refine aw_rs tabOk (fun _ => false) _ rfl rfl ?_
            | refine aw_quiet rfl tabOk (fun _ => false) _ rfl rfl (by decide +kernel) ?_
            | refine aw_quiet_end rfl tabOk (fun _ => false) _ rfl rfl (by decide +kernel) ?_
            | refine aw_region tabOk (fun _ => false) _ rfl rfl ?_
            | refine aw_ret ?_
            | refine aw_skip ?_
            | refine aw_exit ?_
            | refine aw_block ?_
            | refine aw_label ?_
            | refine aw_cond_t rfl (by first | rfl | assumption) ?_
            | refine aw_cond_f rfl (by first | rfl | assumption) ?_
            | refine aw_cond rfl (fun hg => ?_) (fun hg => ?_) <;> (try (have hw := hg; simp only [Bool.not_eq_true', Bool.not_eq_false', Bool.not_true, Bool.not_false, decide_eq_true_eq, decide_eq_false_iff_not, Int.not_lt, Int.not_le, Bool.or_eq_true, Bool.or_eq_false_iff, Bool.and_eq_true, Bool.and_eq_false_iff, not_true, not_false_eq_true, ne_eq, Decidable.not_not, reduceCtorEq] at hw)) <;> (try (exfalso; omega))
            | refine aw_seq fun K hK => ?_
          | (with_reducible refine aPick_t ?_ ?_); first | rfl | assumption
          | (with_reducible refine aPick_f ?_ ?_); first | rfl | assumption
          | (with_reducible refine h1 _ _ ?_); clear h1 K1
          | (with_reducible refine hK _ _ ?_); clear hK K
          | with_reducible refine k_use (by assumption) _ _ ?_
          | with_reducible refine k1_use (by assumption) _ _ ?_
          | (with_reducible refine is_store ?_); first
            | simp only [g0, g3, g4, aStore, go_sem, ↓reduceIte]
          | (with_reducible refine is_load ?_); first
            | simp only [g0, g3, g4, aLoad, go_sem, ↓reduceIte]
          | (with_reducible refine is_alloc ?_); first
            | simp only [g0, g3, g4, aAlloc, go_sem, ↓reduceIte]
          | (with_reducible refine is_box ?_); first
            | simp only [g0, g3, g4, aBox, go_sem, ↓reduceIte]
          | (with_reducible refine is_make ?_); first
            | simp only [g0, g3, g4, aMake, go_sem, ↓reduceIte]
          | (with_reducible refine is_bslice ?_); first
            | simp only [g0, g3, g4, aBuildSlice, go_sem, ↓reduceIte]
          | (with_reducible refine is_conv ?_); first
            | simp only [g0, g3, g4, aConvS, go_sem, ↓reduceIte]
          | (with_reducible refine is_append ?_); first
            | refine own_append 0 (by assumption) (by rfl) rfl rfl ⟨rfl, rfl, by decide, rfl⟩ rfl (by simp; omega) (by simp; omega) (fun x' σ' k hx' => ?_)
            | refine Grow.append (by (first | assumption | exact Grow.setNew (by assumption) _ _ | exact Grow.push (by assumption) _ | exact Grow.setNew (Grow.setNew (by assumption) _ _) _ _ | exact Grow.push (Grow.setNew (by assumption) _ _) _)) rfl rfl ⟨rfl, rfl, by decide, rfl⟩ ?_ ?_ ?_ (fun x' σ' hG => ?_)
            | simp only [g0, g3, g4, aAppend, go_sem, ↓reduceIte]
          | (with_reducible refine is_len ?_); first
            | refine Grow.len (by (first | assumption | exact Grow.setNew (by assumption) _ _ | exact Grow.push (by assumption) _ | exact Grow.setNew (Grow.setNew (by assumption) _ _) _ _ | exact Grow.push (Grow.setNew (by assumption) _ _) _)) rfl rfl ?_
            | simp only [g0, g3, g4, aLen, go_sem, ↓reduceIte]
          | (with_reducible refine is_all ?_); rfl
          | with_reducible exact ⟨rfl, rfl⟩
          | with_reducible exact rfl
          | (with_reducible refine And.intro ?_ ?_); · (first | assumption | exact St.push_same _ _ | exact St.set_same _ _ _ | (repeat (first | refine obj_push (by first | omega | (simp only [push_next, set_next]; omega)) ?_ | refine obj_set (by first | omega | (simp only [push_next, set_next]; omega)) ?_)); (first | exact St.push_same _ _ | exact St.set_same _ _ _ | assumption) | omega | (simp only [push_objs, push_next, set_objs, set_next, ↓reduceIte]; done) | (simp only [push_objs, push_next, set_objs, set_next, ↓reduceIte]; omega) | rfl | (refine And.intro ?_ ?_ <;> (simp only [push_objs, push_next, set_objs, set_next, ↓reduceIte]; done)))
          | (with_reducible apply ex_and); · (first | assumption | exact St.push_same _ _ | exact St.set_same _ _ _ | (repeat (first | refine obj_push (by first | omega | (simp only [push_next, set_next]; omega)) ?_ | refine obj_set (by first | omega | (simp only [push_next, set_next]; omega)) ?_)); (first | exact St.push_same _ _ | exact St.set_same _ _ _ | assumption) | omega | (simp only [push_objs, push_next, set_objs, set_next, ↓reduceIte]; done) | (simp only [push_objs, push_next, set_objs, set_next, ↓reduceIte]; omega) | rfl | (refine And.intro ?_ ?_ <;> (simp only [push_objs, push_next, set_objs, set_next, ↓reduceIte]; done)))
          | simp (disch := omega) only [tdivE, tmodE, tdivN, tmodN, wrapI, wrapU8]
          | simp only [g0, g3, g4, go_sem, ↓reduceIte]
          | (refine is_prop ?_; omega)
        all_goals refine ⟨(-(-cur / 10)).natAbs, by omega, -(-cur / 10), acc ++ [UInt8.ofNat (48 + cur.natAbs % 10)], x', rfl, by omega, by rw [List.append_assoc]; exact hacc, fun _ => by omega, fun h => by omega, ?_, rfl, rfl⟩
        · rw [List.map_append, List.map_cons, List.map_nil, hd, hd2]; simpa using k
        · have h0 : -cur % 10 = 0 := by omega
          rw [List.map_append, List.map_cons, List.map_nil, hd, hd2, h0]; simpa [h0] using k
theorem c_dec (m : Int) (hm : i64Ok m) (hQ : Q (str (decS m)) σ) : ACall Try.prog 56 [i64 m] σ Q := p_same (p_dec m hm) rfl rfl hQ
theorem decS_size {m : Int} (hm : i64Ok m) : (decS m).size ≤ 20 := by
  have := decL_len hm
  unfold decS
  split
  · decide
  · show ((decL m).reverse.toArray).size ≤ 20
    simpa using this
end Go.Proofs.Ytamielbdedbnaaa
