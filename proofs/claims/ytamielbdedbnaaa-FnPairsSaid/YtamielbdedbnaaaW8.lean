/- The search: one node. -/
import Derived.Test.YtamielbdedbnaaaW7
set_option linter.unusedSimpArgs false
set_option linter.unusedVariables false
namespace Go.Proofs.Ytamielbdedbnaaa
open Go.Ab Go.RowKit
variable {σ : St} {Q : AV → St → Prop}
abbrev sCs (oq gq : Nat) (b : Bool) (l : List Grp) (lv : Int) (s : SS) (xp xb : AV) : List AV := [gsAV b l, i64 lv, i64 s.bud, .ref oq gq 0 l.length, xp, xb, i64 s.most]
structure SW (l : List Grp) (s : SS) : Prop where
  pd : s.paired.length = l.length
  ps : ∀ x ∈ s.pairs, x.length = 2
  bs : ∀ x ∈ s.best, x.length = 2
  bl : s.best.length ≤ 8
def Sr (os gs oq gq : Nat) (b : Bool) (l : List Grp) (lv : Int) (s : SS) (σ : St) : Prop :=
  ∃ op xp ob rs xb, Mem os gs oq gq (sCs oq gq b l lv s xp xb) s.paired op s.pairs xp ob rs s.best xb σ
theorem take_push (xs : List (List Int)) (a : List Int) : (xs ++ [a]).take ((xs ++ [a]).length - 1) = xs := by simp
theorem set_back {p : List Bool} {k : Nat} (h : p.getD k false = false) (hk : k < p.length) : (p.set k true).set k false = p := by
  rw [List.set_set]
  have : p[k] = false := by simpa [hk] using h
  rw [← this, List.set_getElem_self]
/-- what the search leaves as it was -/
theorem nodeS_keep {vis : SS → Nat → Int → SS} {l : List Grp} {lv : Int} (hv : ∀ s i p, SW l s → s.pairs.length ≤ i → i ≤ l.length → SW l (vis s i p) ∧ (vis s i p).pairs = s.pairs ∧ (vis s i p).paired = s.paired)
    (s : SS) (i : Nat) (p : Int) (g : Grp) (hs : SW l s) (hp : s.pairs.length ≤ i + 1) (hi : i < l.length) : SW l (nodeS vis lv s i p g) ∧ (nodeS vis lv s i p g).pairs = s.pairs ∧ (nodeS vis lv s i p g).paired = s.paired := by
  unfold nodeS
  split
  · exact ⟨⟨hs.pd, hs.ps, hs.bs, hs.bl⟩, rfl, rfl⟩
  · exact hv _ _ _ ⟨hs.pd, hs.ps, hs.bs, hs.bl⟩ hp hi
theorem pairS_keep {vis : SS → Nat → Int → SS} {l : List Grp} {lv : Int} (hv : ∀ s i p, SW l s → s.pairs.length ≤ i → i ≤ l.length → SW l (vis s i p) ∧ (vis s i p).pairs = s.pairs ∧ (vis s i p).paired = s.paired)
    (i : Nat) (p : Int) (s : SS) (k : Nat) (hs : SW l s) (hp : s.pairs.length ≤ i) (hi : i < l.length) (hk : k < l.length) :
    SW l (pairS vis l lv i p s k) ∧ (pairS vis l lv i p s k).pairs = s.pairs ∧ (pairS vis l lv i p s k).paired = s.paired := by
  unfold pairS
  split
  · exact ⟨hs, rfl, rfl⟩
  · rename_i h
    have h' : s.paired.getD k false = false := by simpa using h
    obtain ⟨h1, h2, h3⟩ := nodeS_keep hv { s with paired := s.paired.set k true, pairs := s.pairs ++ [[(i : Int), (k : Int)]] } i p (gWith (gAt l i) (gAt l k) (gAt l i).id)
      ⟨by simp [hs.pd], fun x hx => by rcases List.mem_append.1 hx with h | h; · exact hs.ps x h
                                       · rw [List.mem_singleton.1 h]; rfl, hs.bs, hs.bl⟩ (by simp; omega) hi
    have e1 := set_back h' (by rw [hs.pd]; exact hk)
    refine ⟨⟨?_, ?_, h1.bs, h1.bl⟩, ?_, ?_⟩
    · show List.length (List.set _ k false) = _; rw [h3, List.length_set, List.length_set, hs.pd]
    · intro x hx; exact h1.ps x (List.mem_of_mem_take hx)
    · show List.take _ _ = _; rw [h2]; exact take_push _ _
    · show List.set _ k false = _; rw [h3]; exact e1
theorem visS_keep (l : List Grp) (lv : Int) (h8 : l.length ≤ 8) : ∀ (f : Nat) (s : SS) (i : Nat) (p : Int), SW l s → s.pairs.length ≤ i → i ≤ l.length → SW l (visS l lv f s i p) ∧ (visS l lv f s i p).pairs = s.pairs ∧ (visS l lv f s i p).paired = s.paired
  | 0, s, _, _, hs, _, _ => ⟨hs, rfl, rfl⟩
  | f + 1, s, i, p, hs, hp, hi => by
    have ih := visS_keep l lv h8 f
    have hk := skip_le (p := s.paired) (i := i) (by rw [hs.pd]; exact hi)
    rw [hs.pd] at hk
    unfold visS
    split
    · unfold leafS; split
      · exact ⟨⟨hs.pd, hs.ps, hs.ps, show s.pairs.length ≤ 8 by omega⟩, rfl, rfl⟩
      · exact ⟨hs, rfl, rfl⟩
    · rename_i hne
      have hj : skip s.paired i < l.length := by omega
      have key : ∀ (ks : List Nat) (s' : SS), (∀ k ∈ ks, k < l.length) → SW l s' → s'.pairs = s.pairs → s'.paired = s.paired →
          SW l (ks.foldl (pairS (visS l lv f) l lv (skip s.paired i) p) s') ∧ (ks.foldl (pairS (visS l lv f) l lv (skip s.paired i) p) s').pairs = s.pairs ∧ (ks.foldl (pairS (visS l lv f) l lv (skip s.paired i) p) s').paired = s.paired := by
        intro ks
        induction ks with
        | nil => intro s' _ h1 h2 h3; exact ⟨h1, h2, h3⟩
        | cons k ks ihk =>
          intro s' hks h1 h2 h3
          obtain ⟨a1, a2, a3⟩ := pairS_keep ih (skip s.paired i) p s' k h1 (by rw [h2]; omega) hj (hks k (by simp))
          exact ihk _ (fun k' hk' => hks k' (by simp [hk'])) a1 (a2.trans h2) (a3.trans h3)
      obtain ⟨b1, b2, b3⟩ := key (List.range' (skip s.paired i + 1) (l.length - (skip s.paired i + 1))) s (fun k hk' => by rw [List.mem_range'_1] at hk'; omega) hs rfl rfl
      obtain ⟨c1, c2, c3⟩ := nodeS_keep ih _ (skip s.paired i) p (gAt l (skip s.paired i)) b1 (by rw [b2]; omega) hj
      exact ⟨c1, c2.trans b2, c3.trans b3⟩

/-- (*impl.pairSearch).node, if the search beneath is as told -/
theorem a_node (os gs oq gq : Nat) (b : Bool) (l : List Grp) (lv : Int) (f : Nat)
    (hv : ∀ (s : SS) (i : Nat) (p : Int) (σ : St), SW l s → Sr os gs oq gq b l lv s σ → s.pairs.length ≤ i → i ≤ l.length → l.length < f + i → ACall Try.prog 36 [.ptr os gs 0 0, i64 i, i64 p] σ (fun r σ' => Sr os gs oq gq b l lv (visS l lv f s i p) σ'))
    (s : SS) (i : Nat) (p : Int) (g : Grp) (σ : St) (hw0 : SW l s) (hs : Sr os gs oq gq b l lv s σ) (hp : s.pairs.length ≤ i + 1) (hi : i < l.length) (hf : l.length < f + (i + 1)) (h8 : l.length ≤ 8) :
    ACall Try.prog 64 [.ptr os gs 0 0, i64 i, i64 p, gAV g] σ (fun r σ' => Sr os gs oq gq b l lv (nodeS (visS l lv f) lv s i p g) σ') := by
  obtain ⟨op, xp, ob, rs, xb, m⟩ := hs
  refine acall_intro (N := 39) (rs := []) T tabOk Try.func64 (by decide +kernel) rfl Try.ntmps64 Try.results64 (by simp) ?_
  repeat' first
    | (with_reducible refine is_ops ?_); first
      | refine aops_nil ?_
      | refine aops_cons rfl fun K1 h1 => ?_
      | refine aops_wanted rfl rfl (by first | rfl | assumption) fun K1 h1 => ?_
      | refine aops_unwanted rfl rfl (by first | rfl | assumption) ?_
      | refine aops_skip rfl rfl ?_
      | refine aops_guard rfl rfl (fun hg K1 h1 => ?_) (fun hg => ?_) <;> (try (have hw := hg; simp only [Bool.not_eq_true', Bool.not_eq_false', Bool.not_true, Bool.not_false, decide_eq_true_eq, decide_eq_false_iff_not, Int.not_lt, Int.not_le, Bool.or_eq_true, Bool.or_eq_false_iff, Bool.and_eq_true, Bool.and_eq_false_iff, not_true, not_false_eq_true, ne_eq, Decidable.not_not, reduceCtorEq] at hw)) <;> (try (exfalso; omega))
    | (with_reducible refine is_qs ?_); first
      | refine aqs_nil ?_
      | refine aqs_cons (v := ?_) rfl ?_ ?_
      | refine aqs_wanted (v := ?_) rfl rfl (by first | rfl | assumption) ?_ ?_
      | refine aqs_unwanted rfl rfl (by first | rfl | assumption) ?_
      | refine aqs_skip rfl rfl ?_
      | refine aqs_part rfl rfl (fun hg => ?_) (fun hg => ?_) <;> (try (have hw := hg; simp only [Bool.not_eq_true', Bool.not_eq_false', Bool.not_true, Bool.not_false, decide_eq_true_eq, decide_eq_false_iff_not, Int.not_lt, Int.not_le, Bool.or_eq_true, Bool.or_eq_false_iff, Bool.and_eq_true, Bool.and_eq_false_iff, not_true, not_false_eq_true, ne_eq, Decidable.not_not, reduceCtorEq] at hw)) <;> (try (exfalso; omega))
    | (with_reducible refine is_aw ?_); first
      | refine aw_rs tabOk (fun _ => false) _ rfl rfl ?_
      | refine aw_quiet rfl tabOk (fun _ => false) _ rfl rfl (by decide +kernel) ?_
      | refine aw_quiet_end rfl tabOk (fun _ => false) _ rfl rfl (by decide +kernel) ?_
      | refine aw_region tabOk (fun _ => false) _ rfl rfl ?_
      | refine aw_ret ?_
      | refine aw_skip ?_
      | refine aw_exit ?_
      | refine aw_block ?_
      | refine aw_label ?_
      | refine aw_cond_t rfl (by first | rfl | assumption) ?_
      | refine aw_cond_f rfl (by first | rfl | assumption) ?_
      | refine aw_cond rfl (fun hg => ?_) (fun hg => ?_) <;> (try (have hw := hg; simp only [Bool.not_eq_true', Bool.not_eq_false', Bool.not_true, Bool.not_false, decide_eq_true_eq, decide_eq_false_iff_not, Int.not_lt, Int.not_le, Bool.or_eq_true, Bool.or_eq_false_iff, Bool.and_eq_true, Bool.and_eq_false_iff, not_true, not_false_eq_true, ne_eq, Decidable.not_not, reduceCtorEq] at hw)) <;> (try (exfalso; omega))
      | refine aw_seq fun K hK => ?_
    | (with_reducible refine aPick_t ?_ ?_); first | rfl | assumption
    | (with_reducible refine aPick_f ?_ ?_); first | rfl | assumption
    | (with_reducible refine h1 _ _ ?_); clear h1 K1
    | (with_reducible refine hK _ _ ?_); clear hK K
    | with_reducible refine k_use (by assumption) _ _ ?_
    | with_reducible refine k1_use (by assumption) _ _ ?_
    | (with_reducible refine is_call ?_); first
      | refine c_valid _ ?_
      | refine c_goes _ _ (gOk_pe (by assumption)) ?_
    | (with_reducible refine is_store ?_); first
      | refine Mem.store (by assumption) rfl rfl rfl (by simp) (fun σ' m' hn => ?_)
      | simp only [aStore, go_sem, ↓reduceIte]
    | (with_reducible refine is_load ?_); first
      | simp only [aLoad, go_sem, ↓reduceIte]
    | (with_reducible refine is_alloc ?_); first
      | simp only [aAlloc, go_sem, ↓reduceIte]
    | (with_reducible refine is_box ?_); first
      | simp only [aBox, go_sem, ↓reduceIte]
    | (with_reducible refine is_make ?_); first
      | simp only [aMake, go_sem, ↓reduceIte]
    | (with_reducible refine is_bslice ?_); first
      | simp only [aBuildSlice, go_sem, ↓reduceIte]
    | (with_reducible refine is_conv ?_); first
      | simp only [aConvS, go_sem, ↓reduceIte]
    | (with_reducible refine is_append ?_); first
      | refine Grow.append (by (first | assumption | exact Grow.setNew (by assumption) _ _ | exact Grow.push (by assumption) _ | exact Grow.setNew (Grow.setNew (by assumption) _ _) _ _ | exact Grow.push (Grow.setNew (by assumption) _ _) _)) rfl rfl ⟨rfl, rfl, by decide, rfl⟩ ?_ ?_ ?_ (fun x' σ' hG => ?_)
      | simp only [aAppend, go_sem, ↓reduceIte]
    | (with_reducible refine is_len ?_); first
      | refine Grow.len (by (first | assumption | exact Grow.setNew (by assumption) _ _ | exact Grow.push (by assumption) _ | exact Grow.setNew (Grow.setNew (by assumption) _ _) _ _ | exact Grow.push (Grow.setNew (by assumption) _ _) _)) rfl rfl ?_
      | simp only [aLen, go_sem, ↓reduceIte]
    | (with_reducible refine is_all ?_); rfl
    | with_reducible exact ⟨rfl, rfl⟩
    | with_reducible exact rfl
    | (with_reducible refine And.intro ?_ ?_); · (first | assumption | exact Mem.hS (by assumption) | exact Mem.ok (by assumption) | exact St.push_same _ _ | exact St.set_same _ _ _ | (repeat (first | refine obj_push (by first | omega | (simp only [push_next, set_next]; omega)) ?_ | refine obj_set (by first | omega | (simp only [push_next, set_next]; omega)) ?_)); (first | exact St.push_same _ _ | exact St.set_same _ _ _ | assumption) | omega | (simp only [push_objs, push_next, set_objs, set_next, ↓reduceIte]; done) | (simp only [push_objs, push_next, set_objs, set_next, ↓reduceIte]; omega) | rfl | (refine And.intro ?_ ?_ <;> (simp only [push_objs, push_next, set_objs, set_next, ↓reduceIte]; done)))
    | (with_reducible apply ex_and); · (first | assumption | exact Mem.hS (by assumption) | exact Mem.ok (by assumption) | exact St.push_same _ _ | exact St.set_same _ _ _ | (repeat (first | refine obj_push (by first | omega | (simp only [push_next, set_next]; omega)) ?_ | refine obj_set (by first | omega | (simp only [push_next, set_next]; omega)) ?_)); (first | exact St.push_same _ _ | exact St.set_same _ _ _ | assumption) | omega | (simp only [push_objs, push_next, set_objs, set_next, ↓reduceIte]; done) | (simp only [push_objs, push_next, set_objs, set_next, ↓reduceIte]; omega) | rfl | (refine And.intro ?_ ?_ <;> (simp only [push_objs, push_next, set_objs, set_next, ↓reduceIte]; done)))
    | simp (disch := omega) only [tdivE, tmodE, tdivN, tmodN, wrapI, wrapU8]
    | simp only [go_sem, ↓reduceIte]
    | (refine is_prop ?_; omega)
  all_goals try
    have hneg : IntKind.i64.wrap (s.bud - 1) < 0 := by assumption
    unfold nodeS; rw [if_pos hneg]; exact ⟨op, xp, ob, rs, xb, m'⟩
  all_goals
    have hpos : ¬ IntKind.i64.wrap (s.bud - 1) < 0 := by omega
    have hc : ACall Try.prog 36 [.ptr os gs 0 0, i64 ((i + 1 : Nat) : Int), i64 (addS lv p g)] σ' (fun r σ2 => Sr os gs oq gq b l lv (nodeS (visS l lv f) lv s i p g) σ2) := by
      unfold nodeS; rw [if_neg hpos]
      exact hv ⟨IntKind.i64.wrap (s.bud - 1), s.paired, s.pairs, s.best, s.most⟩ (i + 1) (addS lv p g) σ' ⟨hw0.pd, hw0.ps, hw0.bs, hw0.bl⟩ ⟨op, xp, ob, rs, xb, m'⟩ hp hi hf
  · rw [show addS lv p g = IntKind.i64.wrap (p + g.pe) by simp [addS, *]] at hc
    refine ACall.mono hc fun r σ2 h => ?_
    repeat' first
      | (with_reducible refine is_ops ?_); first
        | refine aops_nil ?_
        | refine aops_cons rfl fun K1 h1 => ?_
        | refine aops_wanted rfl rfl (by first | rfl | assumption) fun K1 h1 => ?_
        | refine aops_unwanted rfl rfl (by first | rfl | assumption) ?_
        | refine aops_skip rfl rfl ?_
        | refine aops_guard rfl rfl (fun hg K1 h1 => ?_) (fun hg => ?_) <;> (try (have hw := hg; simp only [Bool.not_eq_true', Bool.not_eq_false', Bool.not_true, Bool.not_false, decide_eq_true_eq, decide_eq_false_iff_not, Int.not_lt, Int.not_le, Bool.or_eq_true, Bool.or_eq_false_iff, Bool.and_eq_true, Bool.and_eq_false_iff, not_true, not_false_eq_true, ne_eq, Decidable.not_not, reduceCtorEq] at hw)) <;> (try (exfalso; omega))
      | (with_reducible refine is_qs ?_); first
        | refine aqs_nil ?_
        | refine aqs_cons (v := ?_) rfl ?_ ?_
        | refine aqs_wanted (v := ?_) rfl rfl (by first | rfl | assumption) ?_ ?_
        | refine aqs_unwanted rfl rfl (by first | rfl | assumption) ?_
        | refine aqs_skip rfl rfl ?_
        | refine aqs_part rfl rfl (fun hg => ?_) (fun hg => ?_) <;> (try (have hw := hg; simp only [Bool.not_eq_true', Bool.not_eq_false', Bool.not_true, Bool.not_false, decide_eq_true_eq, decide_eq_false_iff_not, Int.not_lt, Int.not_le, Bool.or_eq_true, Bool.or_eq_false_iff, Bool.and_eq_true, Bool.and_eq_false_iff, not_true, not_false_eq_true, ne_eq, Decidable.not_not, reduceCtorEq] at hw)) <;> (try (exfalso; omega))
      | (with_reducible refine is_aw ?_); first
        | refine aw_rs tabOk (fun _ => false) _ rfl rfl ?_
        | refine aw_quiet rfl tabOk (fun _ => false) _ rfl rfl (by decide +kernel) ?_
        | refine aw_quiet_end rfl tabOk (fun _ => false) _ rfl rfl (by decide +kernel) ?_
        | refine aw_region tabOk (fun _ => false) _ rfl rfl ?_
        | refine aw_ret ?_
        | refine aw_skip ?_
        | refine aw_exit ?_
        | refine aw_block ?_
        | refine aw_label ?_
        | refine aw_cond_t rfl (by first | rfl | assumption) ?_
        | refine aw_cond_f rfl (by first | rfl | assumption) ?_
        | refine aw_cond rfl (fun hg => ?_) (fun hg => ?_) <;> (try (have hw := hg; simp only [Bool.not_eq_true', Bool.not_eq_false', Bool.not_true, Bool.not_false, decide_eq_true_eq, decide_eq_false_iff_not, Int.not_lt, Int.not_le, Bool.or_eq_true, Bool.or_eq_false_iff, Bool.and_eq_true, Bool.and_eq_false_iff, not_true, not_false_eq_true, ne_eq, Decidable.not_not, reduceCtorEq] at hw)) <;> (try (exfalso; omega))
        | refine aw_seq fun K hK => ?_
      | (with_reducible refine aPick_t ?_ ?_); first | rfl | assumption
      | (with_reducible refine aPick_f ?_ ?_); first | rfl | assumption
      | (with_reducible refine h1 _ _ ?_); clear h1 K1
      | (with_reducible refine hK _ _ ?_); clear hK K
      | with_reducible refine k_use (by assumption) _ _ ?_
      | with_reducible refine k1_use (by assumption) _ _ ?_
      | (with_reducible refine is_store ?_); first
        | simp only [aStore, go_sem, ↓reduceIte]
      | (with_reducible refine is_load ?_); first
        | simp only [aLoad, go_sem, ↓reduceIte]
      | (with_reducible refine is_alloc ?_); first
        | simp only [aAlloc, go_sem, ↓reduceIte]
      | (with_reducible refine is_box ?_); first
        | simp only [aBox, go_sem, ↓reduceIte]
      | (with_reducible refine is_make ?_); first
        | simp only [aMake, go_sem, ↓reduceIte]
      | (with_reducible refine is_bslice ?_); first
        | simp only [aBuildSlice, go_sem, ↓reduceIte]
      | (with_reducible refine is_conv ?_); first
        | simp only [aConvS, go_sem, ↓reduceIte]
      | (with_reducible refine is_append ?_); first
        | refine Grow.append (by (first | assumption | exact Grow.setNew (by assumption) _ _ | exact Grow.push (by assumption) _ | exact Grow.setNew (Grow.setNew (by assumption) _ _) _ _ | exact Grow.push (Grow.setNew (by assumption) _ _) _)) rfl rfl ⟨rfl, rfl, by decide, rfl⟩ ?_ ?_ ?_ (fun x' σ' hG => ?_)
        | simp only [aAppend, go_sem, ↓reduceIte]
      | (with_reducible refine is_len ?_); first
        | refine Grow.len (by (first | assumption | exact Grow.setNew (by assumption) _ _ | exact Grow.push (by assumption) _ | exact Grow.setNew (Grow.setNew (by assumption) _ _) _ _ | exact Grow.push (Grow.setNew (by assumption) _ _) _)) rfl rfl ?_
        | simp only [aLen, go_sem, ↓reduceIte]
      | (with_reducible refine is_all ?_); rfl
      | with_reducible exact ⟨rfl, rfl⟩
      | with_reducible exact rfl
      | (with_reducible refine And.intro ?_ ?_); · (first | assumption | exact St.push_same _ _ | exact St.set_same _ _ _ | (repeat (first | refine obj_push (by first | omega | (simp only [push_next, set_next]; omega)) ?_ | refine obj_set (by first | omega | (simp only [push_next, set_next]; omega)) ?_)); (first | exact St.push_same _ _ | exact St.set_same _ _ _ | assumption) | omega | (simp only [push_objs, push_next, set_objs, set_next, ↓reduceIte]; done) | (simp only [push_objs, push_next, set_objs, set_next, ↓reduceIte]; omega) | rfl | (refine And.intro ?_ ?_ <;> (simp only [push_objs, push_next, set_objs, set_next, ↓reduceIte]; done)))
      | (with_reducible apply ex_and); · (first | assumption | exact St.push_same _ _ | exact St.set_same _ _ _ | (repeat (first | refine obj_push (by first | omega | (simp only [push_next, set_next]; omega)) ?_ | refine obj_set (by first | omega | (simp only [push_next, set_next]; omega)) ?_)); (first | exact St.push_same _ _ | exact St.set_same _ _ _ | assumption) | omega | (simp only [push_objs, push_next, set_objs, set_next, ↓reduceIte]; done) | (simp only [push_objs, push_next, set_objs, set_next, ↓reduceIte]; omega) | rfl | (refine And.intro ?_ ?_ <;> (simp only [push_objs, push_next, set_objs, set_next, ↓reduceIte]; done)))
      | simp (disch := omega) only [tdivE, tmodE, tdivN, tmodN, wrapI, wrapU8]
      | simp only [go_sem, ↓reduceIte]
      | (refine is_prop ?_; omega)
    all_goals exact h
  all_goals rw [show addS lv p g = p by simp [addS, *]] at hc
  all_goals refine ACall.mono hc fun r σ2 h => ?_
  all_goals
    repeat' first
      | (with_reducible refine is_ops ?_); first
        | refine aops_nil ?_
        | refine aops_cons rfl fun K1 h1 => ?_
        | refine aops_wanted rfl rfl (by first | rfl | assumption) fun K1 h1 => ?_
        | refine aops_unwanted rfl rfl (by first | rfl | assumption) ?_
        | refine aops_skip rfl rfl ?_
        | refine aops_guard rfl rfl (fun hg K1 h1 => ?_) (fun hg => ?_) <;> (try (have hw := hg; simp only [Bool.not_eq_true', Bool.not_eq_false', Bool.not_true, Bool.not_false, decide_eq_true_eq, decide_eq_false_iff_not, Int.not_lt, Int.not_le, Bool.or_eq_true, Bool.or_eq_false_iff, Bool.and_eq_true, Bool.and_eq_false_iff, not_true, not_false_eq_true, ne_eq, Decidable.not_not, reduceCtorEq] at hw)) <;> (try (exfalso; omega))
      | (with_reducible refine is_qs ?_); first
        | refine aqs_nil ?_
        | refine aqs_cons (v := ?_) rfl ?_ ?_
        | refine aqs_wanted (v := ?_) rfl rfl (by first | rfl | assumption) ?_ ?_
        | refine aqs_unwanted rfl rfl (by first | rfl | assumption) ?_
        | refine aqs_skip rfl rfl ?_
        | refine aqs_part rfl rfl (fun hg => ?_) (fun hg => ?_) <;> (try (have hw := hg; simp only [Bool.not_eq_true', Bool.not_eq_false', Bool.not_true, Bool.not_false, decide_eq_true_eq, decide_eq_false_iff_not, Int.not_lt, Int.not_le, Bool.or_eq_true, Bool.or_eq_false_iff, Bool.and_eq_true, Bool.and_eq_false_iff, not_true, not_false_eq_true, ne_eq, Decidable.not_not, reduceCtorEq] at hw)) <;> (try (exfalso; omega))
      | (with_reducible refine is_aw ?_); first
        | refine aw_rs tabOk (fun _ => false) _ rfl rfl ?_
        | refine aw_quiet rfl tabOk (fun _ => false) _ rfl rfl (by decide +kernel) ?_
        | refine aw_quiet_end rfl tabOk (fun _ => false) _ rfl rfl (by decide +kernel) ?_
        | refine aw_region tabOk (fun _ => false) _ rfl rfl ?_
        | refine aw_ret ?_
        | refine aw_skip ?_
        | refine aw_exit ?_
        | refine aw_block ?_
        | refine aw_label ?_
        | refine aw_cond_t rfl (by first | rfl | assumption) ?_
        | refine aw_cond_f rfl (by first | rfl | assumption) ?_
        | refine aw_cond rfl (fun hg => ?_) (fun hg => ?_) <;> (try (have hw := hg; simp only [Bool.not_eq_true', Bool.not_eq_false', Bool.not_true, Bool.not_false, decide_eq_true_eq, decide_eq_false_iff_not, Int.not_lt, Int.not_le, Bool.or_eq_true, Bool.or_eq_false_iff, Bool.and_eq_true, Bool.and_eq_false_iff, not_true, not_false_eq_true, ne_eq, Decidable.not_not, reduceCtorEq] at hw)) <;> (try (exfalso; omega))
        | refine aw_seq fun K hK => ?_
      | (with_reducible refine aPick_t ?_ ?_); first | rfl | assumption
      | (with_reducible refine aPick_f ?_ ?_); first | rfl | assumption
      | (with_reducible refine h1 _ _ ?_); clear h1 K1
      | (with_reducible refine hK _ _ ?_); clear hK K
      | with_reducible refine k_use (by assumption) _ _ ?_
      | with_reducible refine k1_use (by assumption) _ _ ?_
      | (with_reducible refine is_store ?_); first
        | simp only [aStore, go_sem, ↓reduceIte]
      | (with_reducible refine is_load ?_); first
        | simp only [aLoad, go_sem, ↓reduceIte]
      | (with_reducible refine is_alloc ?_); first
        | simp only [aAlloc, go_sem, ↓reduceIte]
      | (with_reducible refine is_box ?_); first
        | simp only [aBox, go_sem, ↓reduceIte]
      | (with_reducible refine is_make ?_); first
        | simp only [aMake, go_sem, ↓reduceIte]
      | (with_reducible refine is_bslice ?_); first
        | simp only [aBuildSlice, go_sem, ↓reduceIte]
      | (with_reducible refine is_conv ?_); first
        | simp only [aConvS, go_sem, ↓reduceIte]
      | (with_reducible refine is_append ?_); first
        | refine Grow.append (by (first | assumption | exact Grow.setNew (by assumption) _ _ | exact Grow.push (by assumption) _ | exact Grow.setNew (Grow.setNew (by assumption) _ _) _ _ | exact Grow.push (Grow.setNew (by assumption) _ _) _)) rfl rfl ⟨rfl, rfl, by decide, rfl⟩ ?_ ?_ ?_ (fun x' σ' hG => ?_)
        | simp only [aAppend, go_sem, ↓reduceIte]
      | (with_reducible refine is_len ?_); first
        | refine Grow.len (by (first | assumption | exact Grow.setNew (by assumption) _ _ | exact Grow.push (by assumption) _ | exact Grow.setNew (Grow.setNew (by assumption) _ _) _ _ | exact Grow.push (Grow.setNew (by assumption) _ _) _)) rfl rfl ?_
        | simp only [aLen, go_sem, ↓reduceIte]
      | (with_reducible refine is_all ?_); rfl
      | with_reducible exact ⟨rfl, rfl⟩
      | with_reducible exact rfl
      | (with_reducible refine And.intro ?_ ?_); · (first | assumption | exact St.push_same _ _ | exact St.set_same _ _ _ | (repeat (first | refine obj_push (by first | omega | (simp only [push_next, set_next]; omega)) ?_ | refine obj_set (by first | omega | (simp only [push_next, set_next]; omega)) ?_)); (first | exact St.push_same _ _ | exact St.set_same _ _ _ | assumption) | omega | (simp only [push_objs, push_next, set_objs, set_next, ↓reduceIte]; done) | (simp only [push_objs, push_next, set_objs, set_next, ↓reduceIte]; omega) | rfl | (refine And.intro ?_ ?_ <;> (simp only [push_objs, push_next, set_objs, set_next, ↓reduceIte]; done)))
      | (with_reducible apply ex_and); · (first | assumption | exact St.push_same _ _ | exact St.set_same _ _ _ | (repeat (first | refine obj_push (by first | omega | (simp only [push_next, set_next]; omega)) ?_ | refine obj_set (by first | omega | (simp only [push_next, set_next]; omega)) ?_)); (first | exact St.push_same _ _ | exact St.set_same _ _ _ | assumption) | omega | (simp only [push_objs, push_next, set_objs, set_next, ↓reduceIte]; done) | (simp only [push_objs, push_next, set_objs, set_next, ↓reduceIte]; omega) | rfl | (refine And.intro ?_ ?_ <;> (simp only [push_objs, push_next, set_objs, set_next, ↓reduceIte]; done)))
      | simp (disch := omega) only [tdivE, tmodE, tdivN, tmodN, wrapI, wrapU8]
      | simp only [go_sem, ↓reduceIte]
      | (refine is_prop ?_; omega)
  all_goals exact h
end Go.Proofs.Ytamielbdedbnaaa
