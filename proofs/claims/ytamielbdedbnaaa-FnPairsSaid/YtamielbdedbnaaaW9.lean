/- The search: a visit. -/
import Derived.Test.YtamielbdedbnaaaW8
import Derived.Test.YtamielbdedbnaaaA21
set_option linter.unusedSimpArgs false
set_option linter.unusedVariables false
set_option maxHeartbeats 4000000
namespace Go.Proofs.Ytamielbdedbnaaa
open Go.Ab Go.RowKit
variable {σ : St} {Q : AV → St → Prop}
theorem Mem.pdAt {os gs oq gq : Nat} {cs : List AV} {pd : List Bool} {op : Option Nat} {ps : List (List Int)} {xp : AV} {ob : Option Nat} {rs : List (Nat × Nat)} {bs : List (List Int)} {xb : AV} (m : Mem os gs oq gq cs pd op ps xp ob rs bs xb σ) {i : Nat} (h : i < pd.length) :
    (pd.map bl)[i]? = some (bl (pd.getD i false)) := by simp [h]
theorem Cut_leaf {ty sz : Nat} {xs : List AV} {x : AV} {o : Option Nat} (h : Cut ty sz xs x o σ) : leafOk x = true := by
  cases o with
  | none => obtain ⟨_, rfl⟩ := h; rfl
  | some o => obtain ⟨_, _, rfl, _⟩ := h; rfl
theorem Mem.cmp {os gs oq gq : Nat} {cs : List AV} {pd : List Bool} {op : Option Nat} {ps : List (List Int)} {xp : AV} {ob : Option Nat} {rs : List (Nat × Nat)} {bs : List (List Int)} {xb : AV} (m : Mem os gs oq gq cs pd op ps xp ob rs bs xb σ)
    (h1 : ps.length ≤ 1000) (h2 : bs.length ≤ 1000) (h3 : ∀ x ∈ ps, x.length = 2) (h4 : ∀ x ∈ bs, x.length = 2) (hQ : Q (i64 (lexC (lexC cmpI) ps bs)) σ) : ACall Try.prog 61 [xp, xb, .fn 62 [] []] σ Q := by
  obtain ⟨c1, f1⟩ := m.hP.frz (b := true) (pures_map _ fun p => by simp only [pureAV, Bool.false_and, Bool.not_false, Bool.true_and]; exact pures_map _ fun _ => rfl)
  obtain ⟨c2, f2⟩ := m.hB.frzL (b := true) m.hR.frz
  exact p_call (fun n => c_CompareFunc ps bs c1 c2 false true h1 h2 (fun x hx => by rw [h3 x hx]; decide) (fun x hx => by rw [h4 x hx]; decide) rfl) (.cons f1 (.cons f2 (.cons (.same rfl) .nil))) rfl hQ
theorem Mem.cloned {os gs oq gq : Nat} {cs : List AV} {pd : List Bool} {op : Option Nat} {ps : List (List Int)} {xp : AV} {ob : Option Nat} {rs : List (Nat × Nat)} {bs : List (List Int)} {xb : AV} (m : Mem os gs oq gq cs pd op ps xp ob rs bs xb σ)
    {x : List Int} {r : AV} {σ2 : St} (hG : Grow σ 2 1 (x.map i64) r σ2) (hne : x ≠ []) {G : AV → St → Prop}
    (h : ∀ o g, Mem os gs oq gq cs pd op ps xp ob rs bs xb σ2 → σ2.objs o = some ⟨2, 1, g, x.map i64⟩ → o < σ2.next → (o ≠ os ∧ o ≠ oq ∧ op ≠ some o ∧ ob ≠ some o ∧ ∀ r ∈ rs, r.1 ≠ o) → G (.ref o g 0 x.length) σ2) : G r σ2 := by
  obtain ⟨h1, h2, h3⟩ := hG
  rcases h3 with ⟨h3, _⟩ | ⟨o, g, a, c, rfl, d⟩
  · exact absurd (List.map_eq_nil_iff.1 h3) hne
  · rw [List.length_map]
    have := m.lt
    refine h o g (m.frame h2 h1) d c ⟨by omega, by omega, fun hq => ?_, fun hq => ?_, fun r hr => ?_⟩
    · have h5 := m.hP; rw [hq] at h5; have := h5.lt; omega
    · have h5 := m.hB; rw [hq] at h5; have := h5.lt; omega
    · have := m.hR.lt r hr; omega
theorem Mem.cutTo {os gs oq gq : Nat} {cs : List AV} {pd : List Bool} {o gen : Nat} {ps : List (List Int)} {xp : AV} {ob : Option Nat} {rs : List (Nat × Nat)} {bs : List (List Int)} {xb : AV} (m : Mem os gs oq gq cs pd (some o) ps xp ob rs bs xb σ)
    (hx : xp = .ref o gen 0 ps.length) {k : Nat} (hk : k ≤ ps.length) : Mem os gs oq gq cs pd (some o) (ps.take k) (.ref o gen 0 k) ob rs bs xb σ := by
  refine ⟨m.hS, m.hQ, ?_, m.hB, m.hR, m.d1, m.dp, m.db, m.dd, m.lt, m.dr, m.nd, m.ok⟩
  obtain ⟨gen', els, h1, h2, h3, h4⟩ := m.hP
  rw [hx] at h1
  simp only [List.length_map, AV.ref.injEq, true_and, and_true] at h1
  subst h1
  refine ⟨gen, els, by simp [Nat.min_eq_left hk], h2, ?_, h4⟩
  rw [List.length_map] at h3
  rw [List.length_map, List.length_take, Nat.min_eq_left hk, List.map_take, ← h3, List.take_take, Nat.min_eq_left hk]
/-- (*impl.pairSearch).visit -/
theorem a_visit (os gs oq gq : Nat) (b : Bool) (l : List Grp) (lv : Int) (h8 : l.length ≤ 8) (hok : ∀ i, i < l.length → gIn (gAt l i)) (f : Nat) : ∀ (s : SS) (i : Nat) (p : Int) (σ : St), SW l s → Sr os gs oq gq b l lv s σ → s.pairs.length ≤ i → i ≤ l.length → l.length < f + i →
    ACall Try.prog 36 [.ptr os gs 0 0, i64 i, i64 p] σ (fun r σ' => Sr os gs oq gq b l lv (visS l lv f s i p) σ') := by
  induction f with
  | zero => intro s i p σ _ _ _ h1 h2; omega
  | succ f ih =>
    intro s i p σ hw0 hs hp hi hf
    have hnode := a_node os gs oq gq b l lv f ih
    obtain ⟨op, xp, ob, rs, xb, m⟩ := hs
    have hsk := skip_le (p := s.paired) (i := i) (by rw [hw0.pd]; exact hi)
    rw [hw0.pd] at hsk
    refine acall_intro (N := 182) (rs := []) T tabOk Try.func36 (by decide +kernel) rfl Try.ntmps36 Try.results36 (by simp) ?_
    repeat' first
      | (with_reducible refine is_ops ?_); first
        | refine aops_nil ?_
        | refine aops_cons rfl fun K1 h1 => ?_
        | refine aops_wanted rfl rfl (by first | rfl | assumption) fun K1 h1 => ?_
        | refine aops_unwanted rfl rfl (by first | rfl | assumption) ?_
        | refine aops_skip rfl rfl ?_
        | refine aops_guard rfl rfl (fun hg K1 h1 => ?_) (fun hg => ?_) <;> (try (have hw := hg; simp only [Bool.not_eq_true', Bool.not_eq_false', Bool.not_true, Bool.not_false, decide_eq_true_eq, decide_eq_false_iff_not, Int.not_lt, Int.not_le, Bool.or_eq_true, Bool.or_eq_false_iff, Bool.and_eq_true, Bool.and_eq_false_iff, not_true, not_false_eq_true, ne_eq, Decidable.not_not, reduceCtorEq] at hw)) <;> (try (exfalso; omega))
      | (with_reducible refine is_qs ?_); first
        | refine aqs_nil ?_
        | refine aqs_cons (v := ?_) rfl ?_ ?_
        | refine aqs_wanted (v := ?_) rfl rfl (by first | rfl | assumption) ?_ ?_
        | refine aqs_unwanted rfl rfl (by first | rfl | assumption) ?_
        | refine aqs_skip rfl rfl ?_
        | refine aqs_part rfl rfl (fun hg => ?_) (fun hg => ?_) <;> (try (have hw := hg; simp only [Bool.not_eq_true', Bool.not_eq_false', Bool.not_true, Bool.not_false, decide_eq_true_eq, decide_eq_false_iff_not, Int.not_lt, Int.not_le, Bool.or_eq_true, Bool.or_eq_false_iff, Bool.and_eq_true, Bool.and_eq_false_iff, not_true, not_false_eq_true, ne_eq, Decidable.not_not, reduceCtorEq] at hw)) <;> (try (exfalso; omega))
      | (with_reducible refine is_aw ?_); first
        | refine aw_rs tabOk (fun _ => false) _ rfl rfl ?_
        | refine aw_quiet rfl tabOk (fun _ => false) _ rfl rfl (by decide +kernel) ?_
        | refine aw_quiet_end rfl tabOk (fun _ => false) _ rfl rfl (by decide +kernel) ?_
        | refine aw_region tabOk (fun _ => false) _ rfl rfl ?_
        | refine aw_ret ?_
        | refine aw_skip ?_
        | refine aw_exit ?_
        | refine aw_block ?_
        | refine aw_label ?_
        | refine aw_cond_t rfl (by first | rfl | assumption) ?_
        | refine aw_cond_f rfl (by first | rfl | assumption) ?_
        | refine aw_cond rfl (fun hg => ?_) (fun hg => ?_) <;> (try (have hw := hg; simp only [Bool.not_eq_true', Bool.not_eq_false', Bool.not_true, Bool.not_false, decide_eq_true_eq, decide_eq_false_iff_not, Int.not_lt, Int.not_le, Bool.or_eq_true, Bool.or_eq_false_iff, Bool.and_eq_true, Bool.and_eq_false_iff, not_true, not_false_eq_true, ne_eq, Decidable.not_not, reduceCtorEq] at hw)) <;> (try (exfalso; omega))
        | refine aw_seq fun K hK => ?_
      | (with_reducible refine aPick_t ?_ ?_); first | rfl | assumption
      | (with_reducible refine aPick_f ?_ ?_); first | rfl | assumption
      | (with_reducible refine h1 _ _ ?_); clear h1 K1
      | (with_reducible refine hK _ _ ?_); clear hK K
      | with_reducible refine k_use (by assumption) _ _ ?_
      | with_reducible refine k1_use (by assumption) _ _ ?_
      | (with_reducible refine is_store ?_); first
        | simp only [aStore, go_sem, ↓reduceIte]
      | (with_reducible refine is_load ?_); first
        | simp only [aLoad, go_sem, ↓reduceIte]
      | (with_reducible refine is_alloc ?_); first
        | simp only [aAlloc, go_sem, ↓reduceIte]
      | (with_reducible refine is_box ?_); first
        | simp only [aBox, go_sem, ↓reduceIte]
      | (with_reducible refine is_make ?_); first
        | simp only [aMake, go_sem, ↓reduceIte]
      | (with_reducible refine is_bslice ?_); first
        | simp only [aBuildSlice, go_sem, ↓reduceIte]
      | (with_reducible refine is_conv ?_); first
        | simp only [aConvS, go_sem, ↓reduceIte]
      | (with_reducible refine is_append ?_); first
        | refine Grow.append (by (first | assumption | exact Grow.setNew (by assumption) _ _ | exact Grow.push (by assumption) _ | exact Grow.setNew (Grow.setNew (by assumption) _ _) _ _ | exact Grow.push (Grow.setNew (by assumption) _ _) _)) rfl rfl ⟨rfl, rfl, by decide, rfl⟩ ?_ ?_ ?_ (fun x' σ' hG => ?_)
        | simp only [aAppend, go_sem, ↓reduceIte]
      | (with_reducible refine is_len ?_); first
        | refine Grow.len (by (first | assumption | exact Grow.setNew (by assumption) _ _ | exact Grow.push (by assumption) _ | exact Grow.setNew (Grow.setNew (by assumption) _ _) _ _ | exact Grow.push (Grow.setNew (by assumption) _ _) _)) rfl rfl ?_
        | simp only [aLen, go_sem, ↓reduceIte]
      | (with_reducible refine is_all ?_); rfl
      | with_reducible exact ⟨rfl, rfl⟩
      | with_reducible exact rfl
      | (with_reducible refine And.intro ?_ ?_); · (first | assumption | exact St.push_same _ _ | exact St.set_same _ _ _ | (repeat (first | refine obj_push (by first | omega | (simp only [push_next, set_next]; omega)) ?_ | refine obj_set (by first | omega | (simp only [push_next, set_next]; omega)) ?_)); (first | exact St.push_same _ _ | exact St.set_same _ _ _ | assumption) | omega | (simp only [push_objs, push_next, set_objs, set_next, ↓reduceIte]; done) | (simp only [push_objs, push_next, set_objs, set_next, ↓reduceIte]; omega) | rfl | (refine And.intro ?_ ?_ <;> (simp only [push_objs, push_next, set_objs, set_next, ↓reduceIte]; done)))
      | (with_reducible apply ex_and); · (first | assumption | exact St.push_same _ _ | exact St.set_same _ _ _ | (repeat (first | refine obj_push (by first | omega | (simp only [push_next, set_next]; omega)) ?_ | refine obj_set (by first | omega | (simp only [push_next, set_next]; omega)) ?_)); (first | exact St.push_same _ _ | exact St.set_same _ _ _ | assumption) | omega | (simp only [push_objs, push_next, set_objs, set_next, ↓reduceIte]; done) | (simp only [push_objs, push_next, set_objs, set_next, ↓reduceIte]; omega) | rfl | (refine And.intro ?_ ?_ <;> (simp only [push_objs, push_next, set_objs, set_next, ↓reduceIte]; done)))
      | simp (disch := omega) only [tdivE, tmodE, tdivN, tmodN, wrapI, wrapU8]
      | simp only [go_sem, ↓reduceIte]
      | (refine is_prop ?_; omega)
    have hrest : ∀ e, e 0 = .ptr os gs 0 0 → e 1 = i64 (skip s.paired i) → e 2 = i64 p → K e σ := by
      intro e g0 g1 g2
      refine hK _ _ ?_
      rcases Nat.lt_or_ge (skip s.paired i) l.length with hlt | hge
      · repeat' first
          | (with_reducible refine is_ops ?_); first
            | refine aops_nil ?_
            | refine aops_cons rfl fun K1 h1 => ?_
            | refine aops_wanted rfl rfl (by first | rfl | assumption) fun K1 h1 => ?_
            | refine aops_unwanted rfl rfl (by first | rfl | assumption) ?_
            | refine aops_skip rfl rfl ?_
            | refine aops_guard rfl rfl (fun hg K1 h1 => ?_) (fun hg => ?_) <;> (try (have hw := hg; simp only [Bool.not_eq_true', Bool.not_eq_false', Bool.not_true, Bool.not_false, decide_eq_true_eq, decide_eq_false_iff_not, Int.not_lt, Int.not_le, Bool.or_eq_true, Bool.or_eq_false_iff, Bool.and_eq_true, Bool.and_eq_false_iff, not_true, not_false_eq_true, ne_eq, Decidable.not_not, reduceCtorEq] at hw)) <;> (try (exfalso; omega))
          | (with_reducible refine is_qs ?_); first
            | refine aqs_nil ?_
            | refine aqs_cons (v := ?_) rfl ?_ ?_
            | refine aqs_wanted (v := ?_) rfl rfl (by first | rfl | assumption) ?_ ?_
            | refine aqs_unwanted rfl rfl (by first | rfl | assumption) ?_
            | refine aqs_skip rfl rfl ?_
            | refine aqs_part rfl rfl (fun hg => ?_) (fun hg => ?_) <;> (try (have hw := hg; simp only [Bool.not_eq_true', Bool.not_eq_false', Bool.not_true, Bool.not_false, decide_eq_true_eq, decide_eq_false_iff_not, Int.not_lt, Int.not_le, Bool.or_eq_true, Bool.or_eq_false_iff, Bool.and_eq_true, Bool.and_eq_false_iff, not_true, not_false_eq_true, ne_eq, Decidable.not_not, reduceCtorEq] at hw)) <;> (try (exfalso; omega))
          | (with_reducible refine is_aw ?_); first
            | refine aw_rs tabOk (fun _ => false) _ rfl rfl ?_
            | refine aw_quiet rfl tabOk (fun _ => false) _ rfl rfl (by decide +kernel) ?_
            | refine aw_quiet_end rfl tabOk (fun _ => false) _ rfl rfl (by decide +kernel) ?_
            | refine aw_region tabOk (fun _ => false) _ rfl rfl ?_
            | refine aw_ret ?_
            | refine aw_skip ?_
            | refine aw_exit ?_
            | refine aw_block ?_
            | refine aw_label ?_
            | refine aw_cond_t rfl (by first | rfl | assumption) ?_
            | refine aw_cond_f rfl (by first | rfl | assumption) ?_
            | refine aw_cond rfl (fun hg => ?_) (fun hg => ?_) <;> (try (have hw := hg; simp only [Bool.not_eq_true', Bool.not_eq_false', Bool.not_true, Bool.not_false, decide_eq_true_eq, decide_eq_false_iff_not, Int.not_lt, Int.not_le, Bool.or_eq_true, Bool.or_eq_false_iff, Bool.and_eq_true, Bool.and_eq_false_iff, not_true, not_false_eq_true, ne_eq, Decidable.not_not, reduceCtorEq] at hw)) <;> (try (exfalso; omega))
            | refine aw_seq fun K hK => ?_
          | (with_reducible refine aPick_t ?_ ?_); first | rfl | assumption
          | (with_reducible refine aPick_f ?_ ?_); first | rfl | assumption
          | (with_reducible refine h1 _ _ ?_); clear h1 K1
          | (with_reducible refine hK _ _ ?_); clear hK K
          | with_reducible refine k_use (by assumption) _ _ ?_
          | with_reducible refine k1_use (by assumption) _ _ ?_
          | (with_reducible refine is_store ?_); first
            | simp only [g0, g1, g2, aStore, go_sem, ↓reduceIte]
          | (with_reducible refine is_load ?_); first
            | simp only [g0, g1, g2, aLoad, go_sem, ↓reduceIte]
          | (with_reducible refine is_alloc ?_); first
            | simp only [g0, g1, g2, aAlloc, go_sem, ↓reduceIte]
          | (with_reducible refine is_box ?_); first
            | simp only [g0, g1, g2, aBox, go_sem, ↓reduceIte]
          | (with_reducible refine is_make ?_); first
            | simp only [g0, g1, g2, aMake, go_sem, ↓reduceIte]
          | (with_reducible refine is_bslice ?_); first
            | simp only [g0, g1, g2, aBuildSlice, go_sem, ↓reduceIte]
          | (with_reducible refine is_conv ?_); first
            | simp only [g0, g1, g2, aConvS, go_sem, ↓reduceIte]
          | (with_reducible refine is_append ?_); first
            | refine Grow.append (by (first | assumption | exact Grow.setNew (by assumption) _ _ | exact Grow.push (by assumption) _ | exact Grow.setNew (Grow.setNew (by assumption) _ _) _ _ | exact Grow.push (Grow.setNew (by assumption) _ _) _)) rfl rfl ⟨rfl, rfl, by decide, rfl⟩ ?_ ?_ ?_ (fun x' σ' hG => ?_)
            | simp only [g0, g1, g2, aAppend, go_sem, ↓reduceIte]
          | (with_reducible refine is_len ?_); first
            | refine Grow.len (by (first | assumption | exact Grow.setNew (by assumption) _ _ | exact Grow.push (by assumption) _ | exact Grow.setNew (Grow.setNew (by assumption) _ _) _ _ | exact Grow.push (Grow.setNew (by assumption) _ _) _)) rfl rfl ?_
            | simp only [g0, g1, g2, aLen, go_sem, ↓reduceIte]
          | (with_reducible refine is_all ?_); rfl
          | with_reducible exact ⟨rfl, rfl⟩
          | with_reducible exact rfl
          | (with_reducible refine And.intro ?_ ?_); · (first | assumption | exact Mem.hS (by assumption) | exact Mem.ok (by assumption) | exact St.push_same _ _ | exact St.set_same _ _ _ | (repeat (first | refine obj_push (by first | omega | (simp only [push_next, set_next]; omega)) ?_ | refine obj_set (by first | omega | (simp only [push_next, set_next]; omega)) ?_)); (first | exact St.push_same _ _ | exact St.set_same _ _ _ | assumption) | omega | (simp only [push_objs, push_next, set_objs, set_next, ↓reduceIte]; done) | (simp only [push_objs, push_next, set_objs, set_next, ↓reduceIte]; omega) | rfl | (refine And.intro ?_ ?_ <;> (simp only [push_objs, push_next, set_objs, set_next, ↓reduceIte]; done)))
          | (with_reducible apply ex_and); · (first | assumption | exact Mem.hS (by assumption) | exact Mem.ok (by assumption) | exact St.push_same _ _ | exact St.set_same _ _ _ | (repeat (first | refine obj_push (by first | omega | (simp only [push_next, set_next]; omega)) ?_ | refine obj_set (by first | omega | (simp only [push_next, set_next]; omega)) ?_)); (first | exact St.push_same _ _ | exact St.set_same _ _ _ | assumption) | omega | (simp only [push_objs, push_next, set_objs, set_next, ↓reduceIte]; done) | (simp only [push_objs, push_next, set_objs, set_next, ↓reduceIte]; omega) | rfl | (refine And.intro ?_ ?_ <;> (simp only [push_objs, push_next, set_objs, set_next, ↓reduceIte]; done)))
          | simp (disch := omega) only [tdivE, tmodE, tdivN, tmodN, wrapI, wrapU8]
          | simp only [g0, g1, g2, go_sem, ↓reduceIte]
          | (refine is_prop ?_; omega)
        generalize hj : skip s.paired i = j at *
        have hfold : ∀ c, j + 1 + c ≤ l.length → SW l ((List.range' (j + 1) c).foldl (pairS (visS l lv f) l lv j p) s) ∧ ((List.range' (j + 1) c).foldl (pairS (visS l lv f) l lv j p) s).pairs = s.pairs ∧ ((List.range' (j + 1) c).foldl (pairS (visS l lv f) l lv j p) s).paired = s.paired := by
          intro c
          induction c with
          | zero => intro _; exact ⟨hw0, rfl, rfl⟩
          | succ c ihc =>
            intro hc
            obtain ⟨a1, a2, a3⟩ := ihc (by omega)
            rw [List.range'_concat, List.foldl_append]
            obtain ⟨b1, b2, b3⟩ := pairS_keep (visS_keep l lv h8 f) j p _ (j + 1 + 1 * c) a1 (by rw [a2]; omega) hlt (by omega)
            exact ⟨b1, b2.trans a2, b3.trans a3⟩
        have hrest2 : ∀ e τ, e 0 = .ptr os gs 0 0 → e 1 = i64 j → e 2 = i64 p → Sr os gs oq gq b l lv ((List.range' (j + 1) (l.length - (j + 1))).foldl (pairS (visS l lv f) l lv j p) s) τ → K e τ := by
          intro e τ g0 g1 g2 hS
          refine hK _ _ ?_
          obtain ⟨a1, a2, a3⟩ := hfold (l.length - (j + 1)) (by omega)
          have hEv : visS l lv (f + 1) s i p = nodeS (visS l lv f) lv ((List.range' (j + 1) (l.length - (j + 1))).foldl (pairS (visS l lv f) l lv j p) s) j p (gAt l j) := by
            rw [visS, hj, if_neg (by omega)]
          have hc := hnode _ j p (gAt l j) τ a1 hS (by rw [a2]; omega) hlt (by omega) h8
          obtain ⟨op2, xp2, ob2, rs2, xb2, m2⟩ := hS
          have hx := map_at hlt
          repeat' first
            | (with_reducible refine is_ops ?_); first
              | refine aops_nil ?_
              | refine aops_cons rfl fun K1 h1 => ?_
              | refine aops_wanted rfl rfl (by first | rfl | assumption) fun K1 h1 => ?_
              | refine aops_unwanted rfl rfl (by first | rfl | assumption) ?_
              | refine aops_skip rfl rfl ?_
              | refine aops_guard rfl rfl (fun hg K1 h1 => ?_) (fun hg => ?_) <;> (try (have hw := hg; simp only [Bool.not_eq_true', Bool.not_eq_false', Bool.not_true, Bool.not_false, decide_eq_true_eq, decide_eq_false_iff_not, Int.not_lt, Int.not_le, Bool.or_eq_true, Bool.or_eq_false_iff, Bool.and_eq_true, Bool.and_eq_false_iff, not_true, not_false_eq_true, ne_eq, Decidable.not_not, reduceCtorEq] at hw)) <;> (try (exfalso; omega))
            | (with_reducible refine is_qs ?_); first
              | refine aqs_nil ?_
              | refine aqs_cons (v := ?_) rfl ?_ ?_
              | refine aqs_wanted (v := ?_) rfl rfl (by first | rfl | assumption) ?_ ?_
              | refine aqs_unwanted rfl rfl (by first | rfl | assumption) ?_
              | refine aqs_skip rfl rfl ?_
              | refine aqs_part rfl rfl (fun hg => ?_) (fun hg => ?_) <;> (try (have hw := hg; simp only [Bool.not_eq_true', Bool.not_eq_false', Bool.not_true, Bool.not_false, decide_eq_true_eq, decide_eq_false_iff_not, Int.not_lt, Int.not_le, Bool.or_eq_true, Bool.or_eq_false_iff, Bool.and_eq_true, Bool.and_eq_false_iff, not_true, not_false_eq_true, ne_eq, Decidable.not_not, reduceCtorEq] at hw)) <;> (try (exfalso; omega))
            | (with_reducible refine is_aw ?_); first
              | refine aw_rs tabOk (fun _ => false) _ rfl rfl ?_
              | refine aw_quiet rfl tabOk (fun _ => false) _ rfl rfl (by decide +kernel) ?_
              | refine aw_quiet_end rfl tabOk (fun _ => false) _ rfl rfl (by decide +kernel) ?_
              | refine aw_region tabOk (fun _ => false) _ rfl rfl ?_
              | refine aw_ret ?_
              | refine aw_skip ?_
              | refine aw_exit ?_
              | refine aw_block ?_
              | refine aw_label ?_
              | refine aw_cond_t rfl (by first | rfl | assumption) ?_
              | refine aw_cond_f rfl (by first | rfl | assumption) ?_
              | refine aw_cond rfl (fun hg => ?_) (fun hg => ?_) <;> (try (have hw := hg; simp only [Bool.not_eq_true', Bool.not_eq_false', Bool.not_true, Bool.not_false, decide_eq_true_eq, decide_eq_false_iff_not, Int.not_lt, Int.not_le, Bool.or_eq_true, Bool.or_eq_false_iff, Bool.and_eq_true, Bool.and_eq_false_iff, not_true, not_false_eq_true, ne_eq, Decidable.not_not, reduceCtorEq] at hw)) <;> (try (exfalso; omega))
              | refine aw_seq fun K hK => ?_
            | (with_reducible refine aPick_t ?_ ?_); first | rfl | assumption
            | (with_reducible refine aPick_f ?_ ?_); first | rfl | assumption
            | (with_reducible refine h1 _ _ ?_); clear h1 K1
            | (with_reducible refine hK _ _ ?_); clear hK K
            | with_reducible refine k_use (by assumption) _ _ ?_
            | with_reducible refine k1_use (by assumption) _ _ ?_
            | (with_reducible refine is_call ?_); first
              | refine ACall.mono hc (fun r σ2 h => ?_)
            | (with_reducible refine is_store ?_); first
              | simp only [g0, g1, g2, aStore, go_sem, ↓reduceIte]
            | (with_reducible refine is_load ?_); first
              | simp only [g0, g1, g2, aLoad, go_sem, ↓reduceIte]
            | (with_reducible refine is_alloc ?_); first
              | simp only [g0, g1, g2, aAlloc, go_sem, ↓reduceIte]
            | (with_reducible refine is_box ?_); first
              | simp only [g0, g1, g2, aBox, go_sem, ↓reduceIte]
            | (with_reducible refine is_make ?_); first
              | simp only [g0, g1, g2, aMake, go_sem, ↓reduceIte]
            | (with_reducible refine is_bslice ?_); first
              | simp only [g0, g1, g2, aBuildSlice, go_sem, ↓reduceIte]
            | (with_reducible refine is_conv ?_); first
              | simp only [g0, g1, g2, aConvS, go_sem, ↓reduceIte]
            | (with_reducible refine is_append ?_); first
              | refine Grow.append (by (first | assumption | exact Grow.setNew (by assumption) _ _ | exact Grow.push (by assumption) _ | exact Grow.setNew (Grow.setNew (by assumption) _ _) _ _ | exact Grow.push (Grow.setNew (by assumption) _ _) _)) rfl rfl ⟨rfl, rfl, by decide, rfl⟩ ?_ ?_ ?_ (fun x' σ' hG => ?_)
              | simp only [g0, g1, g2, aAppend, go_sem, ↓reduceIte]
            | (with_reducible refine is_len ?_); first
              | refine Grow.len (by (first | assumption | exact Grow.setNew (by assumption) _ _ | exact Grow.push (by assumption) _ | exact Grow.setNew (Grow.setNew (by assumption) _ _) _ _ | exact Grow.push (Grow.setNew (by assumption) _ _) _)) rfl rfl ?_
              | simp only [g0, g1, g2, aLen, go_sem, ↓reduceIte]
            | (with_reducible refine is_all ?_); rfl
            | with_reducible exact ⟨rfl, rfl⟩
            | with_reducible exact rfl
            | (with_reducible refine And.intro ?_ ?_); · (first | assumption | exact Mem.hS (by assumption) | exact Mem.ok (by assumption) | exact St.push_same _ _ | exact St.set_same _ _ _ | (repeat (first | refine obj_push (by first | omega | (simp only [push_next, set_next]; omega)) ?_ | refine obj_set (by first | omega | (simp only [push_next, set_next]; omega)) ?_)); (first | exact St.push_same _ _ | exact St.set_same _ _ _ | assumption) | omega | (simp only [push_objs, push_next, set_objs, set_next, ↓reduceIte]; done) | (simp only [push_objs, push_next, set_objs, set_next, ↓reduceIte]; omega) | rfl | (refine And.intro ?_ ?_ <;> (simp only [push_objs, push_next, set_objs, set_next, ↓reduceIte]; done)))
            | (with_reducible apply ex_and); · (first | assumption | exact Mem.hS (by assumption) | exact Mem.ok (by assumption) | exact St.push_same _ _ | exact St.set_same _ _ _ | (repeat (first | refine obj_push (by first | omega | (simp only [push_next, set_next]; omega)) ?_ | refine obj_set (by first | omega | (simp only [push_next, set_next]; omega)) ?_)); (first | exact St.push_same _ _ | exact St.set_same _ _ _ | assumption) | omega | (simp only [push_objs, push_next, set_objs, set_next, ↓reduceIte]; done) | (simp only [push_objs, push_next, set_objs, set_next, ↓reduceIte]; omega) | rfl | (refine And.intro ?_ ?_ <;> (simp only [push_objs, push_next, set_objs, set_next, ↓reduceIte]; done)))
            | simp (disch := omega) only [tdivE, tmodE, tdivN, tmodN, wrapI, wrapU8]
            | simp only [g0, g1, g2, go_sem, ↓reduceIte]
            | (refine is_prop ?_; omega)
          all_goals (rw [hEv]; exact h)
        clear hK
        refine aw_count (l.length - (j + 1)) (fun c e τ => Sr os gs oq gq b l lv ((List.range' (j + 1) c).foldl (pairS (visS l lv f) l lv j p) s) τ ∧ e 0 = .ptr os gs 0 0 ∧ e 1 = i64 j ∧ e 2 = i64 p ∧ e 8 = i64 ((j + 1 + c : Nat) : Int)) ⟨⟨op, xp, ob, rs, xb, m⟩, g0, g1, g2, rfl⟩ ?_
        rintro c e' τ ⟨hS, g0', g1', g2', g8⟩ hc
        obtain ⟨a1, a2, a3⟩ := hfold c (by omega)
        generalize hs' : (List.range' (j + 1) c).foldl (pairS (visS l lv f) l lv j p) s = s' at *
        have hstep : (List.range' (j + 1) (c + 1)).foldl (pairS (visS l lv f) l lv j p) s = pairS (visS l lv f) l lv j p s' (j + 1 + c) := by
          rw [List.range'_concat, List.foldl_append, hs', Nat.one_mul]; rfl
        obtain ⟨op2, xp2, ob2, rs2, xb2, m2⟩ := hS
        rcases Nat.lt_or_ge (j + 1 + c) l.length with hlt2 | hge2
        · have hk2 : j + 1 + c < s'.paired.length := by rw [a3, hw0.pd]; exact hlt2
          have hx := m2.pdAt hk2
          have hxj := map_at hlt
          have hxk := map_at hlt2
          have hlen : s'.pairs.length ≤ 1000 := by rw [a2]; omega
          repeat' first
            | (with_reducible refine is_ops ?_); first
              | refine aops_nil ?_
              | refine aops_cons rfl fun K1 h1 => ?_
              | refine aops_wanted rfl rfl (by first | rfl | assumption) fun K1 h1 => ?_
              | refine aops_unwanted rfl rfl (by first | rfl | assumption) ?_
              | refine aops_skip rfl rfl ?_
              | refine aops_guard rfl rfl (fun hg K1 h1 => ?_) (fun hg => ?_) <;> (try (have hw := hg; simp only [Bool.not_eq_true', Bool.not_eq_false', Bool.not_true, Bool.not_false, decide_eq_true_eq, decide_eq_false_iff_not, Int.not_lt, Int.not_le, Bool.or_eq_true, Bool.or_eq_false_iff, Bool.and_eq_true, Bool.and_eq_false_iff, not_true, not_false_eq_true, ne_eq, Decidable.not_not, reduceCtorEq] at hw)) <;> (try (exfalso; omega))
            | (with_reducible refine is_qs ?_); first
              | refine aqs_nil ?_
              | refine aqs_cons (v := ?_) rfl ?_ ?_
              | refine aqs_wanted (v := ?_) rfl rfl (by first | rfl | assumption) ?_ ?_
              | refine aqs_unwanted rfl rfl (by first | rfl | assumption) ?_
              | refine aqs_skip rfl rfl ?_
              | refine aqs_part rfl rfl (fun hg => ?_) (fun hg => ?_) <;> (try (have hw := hg; simp only [Bool.not_eq_true', Bool.not_eq_false', Bool.not_true, Bool.not_false, decide_eq_true_eq, decide_eq_false_iff_not, Int.not_lt, Int.not_le, Bool.or_eq_true, Bool.or_eq_false_iff, Bool.and_eq_true, Bool.and_eq_false_iff, not_true, not_false_eq_true, ne_eq, Decidable.not_not, reduceCtorEq] at hw)) <;> (try (exfalso; omega))
            | (with_reducible refine is_aw ?_); first
              | refine aw_rs tabOk (fun _ => false) _ rfl rfl ?_
              | refine aw_draw_tail 26 rfl tabOk (fun _ => false) _ rfl rfl (by decide +kernel) ?_
              | refine aw_draw_tail 14 rfl tabOk (fun _ => false) _ rfl rfl (by decide +kernel) ?_
              | refine aw_quiet rfl tabOk (fun _ => false) _ rfl rfl (by decide +kernel) ?_
              | refine aw_draw_tail_end 26 rfl tabOk (fun _ => false) _ rfl rfl (by decide +kernel) ?_
              | refine aw_draw_tail_end 14 rfl tabOk (fun _ => false) _ rfl rfl (by decide +kernel) ?_
              | refine aw_quiet_end rfl tabOk (fun _ => false) _ rfl rfl (by decide +kernel) ?_
              | refine aw_region tabOk (fun _ => false) _ rfl rfl ?_
              | refine aw_ret ?_
              | refine aw_skip ?_
              | refine aw_exit ?_
              | refine aw_block ?_
              | refine aw_label ?_
              | refine aw_cond_t rfl (by first | rfl | assumption) ?_
              | refine aw_cond_f rfl (by first | rfl | assumption) ?_
              | refine aw_cond rfl (fun hg => ?_) (fun hg => ?_) <;> (try (have hw := hg; simp only [Bool.not_eq_true', Bool.not_eq_false', Bool.not_true, Bool.not_false, decide_eq_true_eq, decide_eq_false_iff_not, Int.not_lt, Int.not_le, Bool.or_eq_true, Bool.or_eq_false_iff, Bool.and_eq_true, Bool.and_eq_false_iff, not_true, not_false_eq_true, ne_eq, Decidable.not_not, reduceCtorEq] at hw)) <;> (try (exfalso; omega))
              | refine aw_seq fun K hK => ?_
            | (with_reducible refine aPick_t ?_ ?_); first | rfl | assumption
            | (with_reducible refine aPick_f ?_ ?_); first | rfl | assumption
            | (with_reducible refine h1 _ _ ?_); clear h1 K1
            | (with_reducible refine hK _ _ ?_); clear hK K
            | with_reducible refine k_use (by assumption) _ _ ?_
            | with_reducible refine k1_use (by assumption) _ _ ?_
            | (with_reducible refine is_call ?_); first
              | refine c_with _ _ _ (hok _ hlt) (hok _ hlt2) ?_
            | (with_reducible refine is_store ?_); first
              | refine Mem.mark (by assumption) rfl rfl hk2 (fun σ' m' hn => ?_)
              | refine Mem.store (by assumption) rfl rfl (by first | rfl | exact Cut_leaf (Mem.hB (by assumption)) | exact Cut_leaf (Mem.hP (by assumption))) (by simp) (fun σ' m' hn => ?_)
              | simp only [g0', g1', g2', g8, aStore, go_sem, ↓reduceIte]
            | (with_reducible refine is_load ?_); first
              | simp only [g0', g1', g2', g8, aLoad, go_sem, ↓reduceIte]
            | (with_reducible refine is_alloc ?_); first
              | simp only [g0', g1', g2', g8, aAlloc, go_sem, ↓reduceIte]
            | (with_reducible refine is_box ?_); first
              | simp only [g0', g1', g2', g8, aBox, go_sem, ↓reduceIte]
            | (with_reducible refine is_make ?_); first
              | simp only [g0', g1', g2', g8, aMake, go_sem, ↓reduceIte]
            | (with_reducible refine is_bslice ?_); first
              | simp only [g0', g1', g2', g8, aBuildSlice, go_sem, ↓reduceIte]
            | (with_reducible refine is_conv ?_); first
              | simp only [g0', g1', g2', g8, aConvS, go_sem, ↓reduceIte]
            | (with_reducible refine is_append ?_); first
              | refine Mem.growP (new := [(j : Int), ((j + 1 + c : Nat) : Int)]) (by assumption) hlen (fun xp3 op3 σ3 m3 => ?_)
              | refine Grow.append (by (first | assumption | exact Grow.setNew (by assumption) _ _ | exact Grow.push (by assumption) _ | exact Grow.setNew (Grow.setNew (by assumption) _ _) _ _ | exact Grow.push (Grow.setNew (by assumption) _ _) _)) rfl rfl ⟨rfl, rfl, by decide, rfl⟩ ?_ ?_ ?_ (fun x' σ' hG => ?_)
              | simp only [g0', g1', g2', g8, aAppend, go_sem, ↓reduceIte]
            | (with_reducible refine is_len ?_); first
              | refine Grow.len (by (first | assumption | exact Grow.setNew (by assumption) _ _ | exact Grow.push (by assumption) _ | exact Grow.setNew (Grow.setNew (by assumption) _ _) _ _ | exact Grow.push (Grow.setNew (by assumption) _ _) _)) rfl rfl ?_
              | simp only [g0', g1', g2', g8, aLen, go_sem, ↓reduceIte]
            | (with_reducible refine is_all ?_); rfl
            | with_reducible exact ⟨rfl, rfl⟩
            | with_reducible exact rfl
            | (with_reducible refine And.intro ?_ ?_); · (first | assumption | exact Mem.hS (by assumption) | exact Mem.ok (by assumption) | exact Mem.hQ (by assumption) | exact ⟨_, Mem.hQ (by assumption), rfl, rfl⟩ | exact St.push_same _ _ | exact St.set_same _ _ _ | (repeat (first | refine obj_push (by first | omega | (simp only [push_next, set_next]; omega)) ?_ | refine obj_set (by first | omega | (simp only [push_next, set_next]; omega)) ?_)); (first | exact St.push_same _ _ | exact St.set_same _ _ _ | assumption) | omega | (simp only [push_objs, push_next, set_objs, set_next, ↓reduceIte]; done) | (simp only [push_objs, push_next, set_objs, set_next, ↓reduceIte]; omega) | rfl | (refine And.intro ?_ ?_ <;> (simp only [push_objs, push_next, set_objs, set_next, ↓reduceIte]; done)))
            | (with_reducible apply ex_and); · (first | assumption | exact Mem.hS (by assumption) | exact Mem.ok (by assumption) | exact Mem.hQ (by assumption) | exact ⟨_, Mem.hQ (by assumption), rfl, rfl⟩ | exact St.push_same _ _ | exact St.set_same _ _ _ | (repeat (first | refine obj_push (by first | omega | (simp only [push_next, set_next]; omega)) ?_ | refine obj_set (by first | omega | (simp only [push_next, set_next]; omega)) ?_)); (first | exact St.push_same _ _ | exact St.set_same _ _ _ | assumption) | omega | (simp only [push_objs, push_next, set_objs, set_next, ↓reduceIte]; done) | (simp only [push_objs, push_next, set_objs, set_next, ↓reduceIte]; omega) | rfl | (refine And.intro ?_ ?_ <;> (simp only [push_objs, push_next, set_objs, set_next, ↓reduceIte]; done)))
            | simp (disch := omega) only [tdivE, tmodE, tdivN, tmodN, wrapI, wrapU8]
            | simp only [g0', g1', g2', g8, go_sem, ↓reduceIte]
            | (refine is_prop ?_; omega)
          · have hg' : s'.paired.getD (j + 1 + c) false = true := by assumption
            rw [hstep]; refine ⟨?_, by simp only [AV.sc.injEq, Value.int.injEq, true_and]; omega⟩
            unfold pairS; rw [if_pos hg']; exact ⟨op2, xp2, ob2, rs2, xb2, m2⟩
          · have hg' : s'.paired.getD (j + 1 + c) false = false := by assumption
            have hg2 : ¬ s'.paired.getD (j + 1 + c) false = true := by rw [hg']; decide
            have hw2 : SW l { s' with paired := s'.paired.set (j + 1 + c) true, pairs := s'.pairs ++ [[(j : Int), ((j + 1 + c : Nat) : Int)]] } :=
              ⟨by simp [a1.pd], fun x hx => by rcases List.mem_append.1 hx with h | h; · exact a1.ps x h
                                               · rw [List.mem_singleton.1 h]; rfl, a1.bs, a1.bl⟩
            obtain ⟨b1, b2, b3⟩ := nodeS_keep (lv := lv) (visS_keep l lv h8 f) _ j p (gWith (gAt l j) (gAt l (j + 1 + c)) (gAt l j).id) hw2 (by simp [a2]; omega) hlt
            refine ACall.mono (hnode _ j p (gWith (gAt l j) (gAt l (j + 1 + c)) (gAt l j).id) _ hw2 ⟨_, _, _, _, _, m'⟩ (by simp [a2]; omega) hlt (by omega) h8) (fun r σ4 hS4 => ?_)
            generalize hs4 : nodeS (visS l lv f) lv { s' with paired := s'.paired.set (j + 1 + c) true, pairs := s'.pairs ++ [[(j : Int), ((j + 1 + c : Nat) : Int)]] } j p (gWith (gAt l j) (gAt l (j + 1 + c)) (gAt l j).id) = s4 at *
            obtain ⟨op4, xp4, ob4, rs4, xb4, m4⟩ := hS4
            have hP := m4.hP
            have hl4 : s4.pairs.length = s'.pairs.length + 1 := by rw [b2]; simp
            cases op4 with
            | none => exact absurd hP.1 (by simp; intro h; rw [h] at hl4; simp at hl4)
            | some o4 =>
              obtain ⟨gen4, els4, hx4, ho4, ht4, hol4⟩ := hP
              rw [List.length_map] at hx4
              have hk4 : j + 1 + c < s4.paired.length := by rw [b1.pd]; exact hlt2
              have hend : pairS (visS l lv f) l lv j p s' (j + 1 + c) = { s4 with pairs := s4.pairs.take (s4.pairs.length - 1), paired := s4.paired.set (j + 1 + c) false } := by
                unfold pairS; rw [if_neg hg2]; simp only [hs4]
              subst hx4
              repeat' first
                | (with_reducible refine is_ops ?_); first
                  | refine aops_nil ?_
                  | refine aops_cons rfl fun K1 h1 => ?_
                  | refine aops_wanted rfl rfl (by first | rfl | assumption) fun K1 h1 => ?_
                  | refine aops_unwanted rfl rfl (by first | rfl | assumption) ?_
                  | refine aops_skip rfl rfl ?_
                  | refine aops_guard rfl rfl (fun hg K1 h1 => ?_) (fun hg => ?_) <;> (try (have hw := hg; simp only [Bool.not_eq_true', Bool.not_eq_false', Bool.not_true, Bool.not_false, decide_eq_true_eq, decide_eq_false_iff_not, Int.not_lt, Int.not_le, Bool.or_eq_true, Bool.or_eq_false_iff, Bool.and_eq_true, Bool.and_eq_false_iff, not_true, not_false_eq_true, ne_eq, Decidable.not_not, reduceCtorEq] at hw)) <;> (try (exfalso; omega))
                | (with_reducible refine is_qs ?_); first
                  | refine aqs_nil ?_
                  | refine aqs_cons (v := ?_) rfl ?_ ?_
                  | refine aqs_wanted (v := ?_) rfl rfl (by first | rfl | assumption) ?_ ?_
                  | refine aqs_unwanted rfl rfl (by first | rfl | assumption) ?_
                  | refine aqs_skip rfl rfl ?_
                  | refine aqs_part rfl rfl (fun hg => ?_) (fun hg => ?_) <;> (try (have hw := hg; simp only [Bool.not_eq_true', Bool.not_eq_false', Bool.not_true, Bool.not_false, decide_eq_true_eq, decide_eq_false_iff_not, Int.not_lt, Int.not_le, Bool.or_eq_true, Bool.or_eq_false_iff, Bool.and_eq_true, Bool.and_eq_false_iff, not_true, not_false_eq_true, ne_eq, Decidable.not_not, reduceCtorEq] at hw)) <;> (try (exfalso; omega))
                | (with_reducible refine is_aw ?_); first
                  | refine aw_rs tabOk (fun _ => false) _ rfl rfl ?_
                  | refine aw_draw_tail 14 rfl tabOk (fun _ => false) _ rfl rfl (by decide +kernel) ?_
                  | refine aw_quiet rfl tabOk (fun _ => false) _ rfl rfl (by decide +kernel) ?_
                  | refine aw_draw_tail_end 14 rfl tabOk (fun _ => false) _ rfl rfl (by decide +kernel) ?_
                  | refine aw_quiet_end rfl tabOk (fun _ => false) _ rfl rfl (by decide +kernel) ?_
                  | refine aw_region tabOk (fun _ => false) _ rfl rfl ?_
                  | refine aw_ret ?_
                  | refine aw_skip ?_
                  | refine aw_exit ?_
                  | refine aw_block ?_
                  | refine aw_label ?_
                  | refine aw_cond_t rfl (by first | rfl | assumption) ?_
                  | refine aw_cond_f rfl (by first | rfl | assumption) ?_
                  | refine aw_cond rfl (fun hg => ?_) (fun hg => ?_) <;> (try (have hw := hg; simp only [Bool.not_eq_true', Bool.not_eq_false', Bool.not_true, Bool.not_false, decide_eq_true_eq, decide_eq_false_iff_not, Int.not_lt, Int.not_le, Bool.or_eq_true, Bool.or_eq_false_iff, Bool.and_eq_true, Bool.and_eq_false_iff, not_true, not_false_eq_true, ne_eq, Decidable.not_not, reduceCtorEq] at hw)) <;> (try (exfalso; omega))
                  | refine aw_seq fun K hK => ?_
                | (with_reducible refine aPick_t ?_ ?_); first | rfl | assumption
                | (with_reducible refine aPick_f ?_ ?_); first | rfl | assumption
                | (with_reducible refine h1 _ _ ?_); clear h1 K1
                | (with_reducible refine hK _ _ ?_); clear hK K
                | with_reducible refine k_use (by assumption) _ _ ?_
                | with_reducible refine k1_use (by assumption) _ _ ?_
                | (with_reducible refine is_store ?_); first
                  | refine Mem.mark (by assumption) rfl rfl hk4 (fun σ' m' hn => ?_)
                  | refine Mem.store (by assumption) rfl rfl (by first | rfl | exact Cut_leaf (Mem.hB (by assumption)) | exact Cut_leaf (Mem.hP (by assumption))) (by simp) (fun σ' m' hn => ?_)
                  | simp only [g0', g1', g2', g8, aStore, go_sem, ↓reduceIte]
                | (with_reducible refine is_load ?_); first
                  | simp only [g0', g1', g2', g8, aLoad, go_sem, ↓reduceIte]
                | (with_reducible refine is_alloc ?_); first
                  | simp only [g0', g1', g2', g8, aAlloc, go_sem, ↓reduceIte]
                | (with_reducible refine is_box ?_); first
                  | simp only [g0', g1', g2', g8, aBox, go_sem, ↓reduceIte]
                | (with_reducible refine is_make ?_); first
                  | simp only [g0', g1', g2', g8, aMake, go_sem, ↓reduceIte]
                | (with_reducible refine is_bslice ?_); first
                  | simp only [g0', g1', g2', g8, aBuildSlice, go_sem, ↓reduceIte]
                | (with_reducible refine is_conv ?_); first
                  | simp only [g0', g1', g2', g8, aConvS, go_sem, ↓reduceIte]
                | (with_reducible refine is_append ?_); first
                  | refine Grow.append (by (first | assumption | exact Grow.setNew (by assumption) _ _ | exact Grow.push (by assumption) _ | exact Grow.setNew (Grow.setNew (by assumption) _ _) _ _ | exact Grow.push (Grow.setNew (by assumption) _ _) _)) rfl rfl ⟨rfl, rfl, by decide, rfl⟩ ?_ ?_ ?_ (fun x' σ' hG => ?_)
                  | simp only [g0', g1', g2', g8, aAppend, go_sem, ↓reduceIte]
                | (with_reducible refine is_len ?_); first
                  | refine Grow.len (by (first | assumption | exact Grow.setNew (by assumption) _ _ | exact Grow.push (by assumption) _ | exact Grow.setNew (Grow.setNew (by assumption) _ _) _ _ | exact Grow.push (Grow.setNew (by assumption) _ _) _)) rfl rfl ?_
                  | simp only [g0', g1', g2', g8, aLen, go_sem, ↓reduceIte]
                | (with_reducible refine is_all ?_); rfl
                | with_reducible exact ⟨rfl, rfl⟩
                | with_reducible exact rfl
                | (with_reducible refine And.intro ?_ ?_); · (first | assumption | exact Mem.hS (by assumption) | exact Mem.ok (by assumption) | exact Mem.hQ (by assumption) | exact ⟨_, Mem.hQ (by assumption), rfl, rfl⟩ | exact ⟨_, ho4, rfl, rfl⟩ | exact St.push_same _ _ | exact St.set_same _ _ _ | (repeat (first | refine obj_push (by first | omega | (simp only [push_next, set_next]; omega)) ?_ | refine obj_set (by first | omega | (simp only [push_next, set_next]; omega)) ?_)); (first | exact St.push_same _ _ | exact St.set_same _ _ _ | assumption) | omega | (simp only [push_objs, push_next, set_objs, set_next, ↓reduceIte]; done) | (simp only [push_objs, push_next, set_objs, set_next, ↓reduceIte]; omega) | rfl | (refine And.intro ?_ ?_ <;> (simp only [push_objs, push_next, set_objs, set_next, ↓reduceIte]; done)))
                | (with_reducible apply ex_and); · (first | assumption | exact Mem.hS (by assumption) | exact Mem.ok (by assumption) | exact Mem.hQ (by assumption) | exact ⟨_, Mem.hQ (by assumption), rfl, rfl⟩ | exact ⟨_, ho4, rfl, rfl⟩ | exact St.push_same _ _ | exact St.set_same _ _ _ | (repeat (first | refine obj_push (by first | omega | (simp only [push_next, set_next]; omega)) ?_ | refine obj_set (by first | omega | (simp only [push_next, set_next]; omega)) ?_)); (first | exact St.push_same _ _ | exact St.set_same _ _ _ | assumption) | omega | (simp only [push_objs, push_next, set_objs, set_next, ↓reduceIte]; done) | (simp only [push_objs, push_next, set_objs, set_next, ↓reduceIte]; omega) | rfl | (refine And.intro ?_ ?_ <;> (simp only [push_objs, push_next, set_objs, set_next, ↓reduceIte]; done)))
                | simp (disch := omega) only [tdivE, tmodE, tdivN, tmodN, wrapI, wrapU8]
                | simp only [g0', g1', g2', g8, go_sem, ↓reduceIte]
                | (refine is_prop ?_; omega)
              rw [hstep, hend]; refine ⟨?_, by simp only [AV.sc.injEq, Value.int.injEq, true_and]; omega⟩
              have m5 := m'.cutTo rfl (Nat.sub_le s4.pairs.length 1)
              refine ⟨some o4, .ref o4 gen4 0 (s4.pairs.length - 1), ob4, rs4, xb4, ?_⟩
              rw [show ((s4.pairs.length : Int) - 1).toNat = s4.pairs.length - 1 by omega] at m5
              exact m5
        · repeat' first
            | (with_reducible refine is_ops ?_); first
              | refine aops_nil ?_
              | refine aops_cons rfl fun K1 h1 => ?_
              | refine aops_wanted rfl rfl (by first | rfl | assumption) fun K1 h1 => ?_
              | refine aops_unwanted rfl rfl (by first | rfl | assumption) ?_
              | refine aops_skip rfl rfl ?_
              | refine aops_guard rfl rfl (fun hg K1 h1 => ?_) (fun hg => ?_) <;> (try (have hw := hg; simp only [Bool.not_eq_true', Bool.not_eq_false', Bool.not_true, Bool.not_false, decide_eq_true_eq, decide_eq_false_iff_not, Int.not_lt, Int.not_le, Bool.or_eq_true, Bool.or_eq_false_iff, Bool.and_eq_true, Bool.and_eq_false_iff, not_true, not_false_eq_true, ne_eq, Decidable.not_not, reduceCtorEq] at hw)) <;> (try (exfalso; omega))
            | (with_reducible refine is_qs ?_); first
              | refine aqs_nil ?_
              | refine aqs_cons (v := ?_) rfl ?_ ?_
              | refine aqs_wanted (v := ?_) rfl rfl (by first | rfl | assumption) ?_ ?_
              | refine aqs_unwanted rfl rfl (by first | rfl | assumption) ?_
              | refine aqs_skip rfl rfl ?_
              | refine aqs_part rfl rfl (fun hg => ?_) (fun hg => ?_) <;> (try (have hw := hg; simp only [Bool.not_eq_true', Bool.not_eq_false', Bool.not_true, Bool.not_false, decide_eq_true_eq, decide_eq_false_iff_not, Int.not_lt, Int.not_le, Bool.or_eq_true, Bool.or_eq_false_iff, Bool.and_eq_true, Bool.and_eq_false_iff, not_true, not_false_eq_true, ne_eq, Decidable.not_not, reduceCtorEq] at hw)) <;> (try (exfalso; omega))
            | (with_reducible refine is_aw ?_); first
              | refine aw_rs tabOk (fun _ => false) _ rfl rfl ?_
              | refine aw_quiet rfl tabOk (fun _ => false) _ rfl rfl (by decide +kernel) ?_
              | refine aw_quiet_end rfl tabOk (fun _ => false) _ rfl rfl (by decide +kernel) ?_
              | refine aw_region tabOk (fun _ => false) _ rfl rfl ?_
              | refine aw_ret ?_
              | refine aw_skip ?_
              | refine aw_exit ?_
              | refine aw_block ?_
              | refine aw_label ?_
              | refine aw_cond_t rfl (by first | rfl | assumption) ?_
              | refine aw_cond_f rfl (by first | rfl | assumption) ?_
              | refine aw_cond rfl (fun hg => ?_) (fun hg => ?_) <;> (try (have hw := hg; simp only [Bool.not_eq_true', Bool.not_eq_false', Bool.not_true, Bool.not_false, decide_eq_true_eq, decide_eq_false_iff_not, Int.not_lt, Int.not_le, Bool.or_eq_true, Bool.or_eq_false_iff, Bool.and_eq_true, Bool.and_eq_false_iff, not_true, not_false_eq_true, ne_eq, Decidable.not_not, reduceCtorEq] at hw)) <;> (try (exfalso; omega))
              | refine aw_seq fun K hK => ?_
            | (with_reducible refine aPick_t ?_ ?_); first | rfl | assumption
            | (with_reducible refine aPick_f ?_ ?_); first | rfl | assumption
            | (with_reducible refine h1 _ _ ?_); clear h1 K1
            | (with_reducible refine hK _ _ ?_); clear hK K
            | with_reducible refine k_use (by assumption) _ _ ?_
            | with_reducible refine k1_use (by assumption) _ _ ?_
            | (with_reducible refine is_store ?_); first
              | simp only [g0', g1', g2', g8, aStore, go_sem, ↓reduceIte]
            | (with_reducible refine is_load ?_); first
              | simp only [g0', g1', g2', g8, aLoad, go_sem, ↓reduceIte]
            | (with_reducible refine is_alloc ?_); first
              | simp only [g0', g1', g2', g8, aAlloc, go_sem, ↓reduceIte]
            | (with_reducible refine is_box ?_); first
              | simp only [g0', g1', g2', g8, aBox, go_sem, ↓reduceIte]
            | (with_reducible refine is_make ?_); first
              | simp only [g0', g1', g2', g8, aMake, go_sem, ↓reduceIte]
            | (with_reducible refine is_bslice ?_); first
              | simp only [g0', g1', g2', g8, aBuildSlice, go_sem, ↓reduceIte]
            | (with_reducible refine is_conv ?_); first
              | simp only [g0', g1', g2', g8, aConvS, go_sem, ↓reduceIte]
            | (with_reducible refine is_append ?_); first
              | refine Grow.append (by (first | assumption | exact Grow.setNew (by assumption) _ _ | exact Grow.push (by assumption) _ | exact Grow.setNew (Grow.setNew (by assumption) _ _) _ _ | exact Grow.push (Grow.setNew (by assumption) _ _) _)) rfl rfl ⟨rfl, rfl, by decide, rfl⟩ ?_ ?_ ?_ (fun x' σ' hG => ?_)
              | simp only [g0', g1', g2', g8, aAppend, go_sem, ↓reduceIte]
            | (with_reducible refine is_len ?_); first
              | refine Grow.len (by (first | assumption | exact Grow.setNew (by assumption) _ _ | exact Grow.push (by assumption) _ | exact Grow.setNew (Grow.setNew (by assumption) _ _) _ _ | exact Grow.push (Grow.setNew (by assumption) _ _) _)) rfl rfl ?_
              | simp only [g0', g1', g2', g8, aLen, go_sem, ↓reduceIte]
            | (with_reducible refine is_all ?_); rfl
            | with_reducible exact ⟨rfl, rfl⟩
            | with_reducible exact rfl
            | (with_reducible refine And.intro ?_ ?_); · (first | assumption | exact Mem.hS (by assumption) | exact Mem.ok (by assumption) | exact St.push_same _ _ | exact St.set_same _ _ _ | (repeat (first | refine obj_push (by first | omega | (simp only [push_next, set_next]; omega)) ?_ | refine obj_set (by first | omega | (simp only [push_next, set_next]; omega)) ?_)); (first | exact St.push_same _ _ | exact St.set_same _ _ _ | assumption) | omega | (simp only [push_objs, push_next, set_objs, set_next, ↓reduceIte]; done) | (simp only [push_objs, push_next, set_objs, set_next, ↓reduceIte]; omega) | rfl | (refine And.intro ?_ ?_ <;> (simp only [push_objs, push_next, set_objs, set_next, ↓reduceIte]; done)))
            | (with_reducible apply ex_and); · (first | assumption | exact Mem.hS (by assumption) | exact Mem.ok (by assumption) | exact St.push_same _ _ | exact St.set_same _ _ _ | (repeat (first | refine obj_push (by first | omega | (simp only [push_next, set_next]; omega)) ?_ | refine obj_set (by first | omega | (simp only [push_next, set_next]; omega)) ?_)); (first | exact St.push_same _ _ | exact St.set_same _ _ _ | assumption) | omega | (simp only [push_objs, push_next, set_objs, set_next, ↓reduceIte]; done) | (simp only [push_objs, push_next, set_objs, set_next, ↓reduceIte]; omega) | rfl | (refine And.intro ?_ ?_ <;> (simp only [push_objs, push_next, set_objs, set_next, ↓reduceIte]; done)))
            | simp (disch := omega) only [tdivE, tmodE, tdivN, tmodN, wrapI, wrapU8]
            | simp only [g0', g1', g2', g8, go_sem, ↓reduceIte]
            | (refine is_prop ?_; omega)
          all_goals (obtain rfl : c = l.length - (j + 1) := by omega)
          all_goals exact hrest2 _ _ (by simp [Env.upd, g0']) (by simp [Env.upd, g1']) (by simp [Env.upd, g2']) (by rw [hs']; exact ⟨op2, xp2, ob2, rs2, xb2, m2⟩)
      · have b1 : s.pairs.length ≤ 1000 := by omega
        have b2 : s.best.length ≤ 1000 := by have := hw0.bl; omega
        repeat' first
          | (with_reducible refine is_ops ?_); first
            | refine aops_nil ?_
            | refine aops_cons rfl fun K1 h1 => ?_
            | refine aops_wanted rfl rfl (by first | rfl | assumption) fun K1 h1 => ?_
            | refine aops_unwanted rfl rfl (by first | rfl | assumption) ?_
            | refine aops_skip rfl rfl ?_
            | refine aops_guard rfl rfl (fun hg K1 h1 => ?_) (fun hg => ?_) <;> (try (have hw := hg; simp only [Bool.not_eq_true', Bool.not_eq_false', Bool.not_true, Bool.not_false, decide_eq_true_eq, decide_eq_false_iff_not, Int.not_lt, Int.not_le, Bool.or_eq_true, Bool.or_eq_false_iff, Bool.and_eq_true, Bool.and_eq_false_iff, not_true, not_false_eq_true, ne_eq, Decidable.not_not, reduceCtorEq] at hw)) <;> (try (exfalso; omega))
          | (with_reducible refine is_qs ?_); first
            | refine aqs_nil ?_
            | refine aqs_cons (v := ?_) rfl ?_ ?_
            | refine aqs_wanted (v := ?_) rfl rfl (by first | rfl | assumption) ?_ ?_
            | refine aqs_unwanted rfl rfl (by first | rfl | assumption) ?_
            | refine aqs_skip rfl rfl ?_
            | refine aqs_part rfl rfl (fun hg => ?_) (fun hg => ?_) <;> (try (have hw := hg; simp only [Bool.not_eq_true', Bool.not_eq_false', Bool.not_true, Bool.not_false, decide_eq_true_eq, decide_eq_false_iff_not, Int.not_lt, Int.not_le, Bool.or_eq_true, Bool.or_eq_false_iff, Bool.and_eq_true, Bool.and_eq_false_iff, not_true, not_false_eq_true, ne_eq, Decidable.not_not, reduceCtorEq] at hw)) <;> (try (exfalso; omega))
          | (with_reducible refine is_aw ?_); first
            | refine aw_rs tabOk (fun _ => false) _ rfl rfl ?_
            | refine aw_quiet rfl tabOk (fun _ => false) _ rfl rfl (by decide +kernel) ?_
            | refine aw_quiet_end rfl tabOk (fun _ => false) _ rfl rfl (by decide +kernel) ?_
            | refine aw_region tabOk (fun _ => false) _ rfl rfl ?_
            | refine aw_ret ?_
            | refine aw_skip ?_
            | refine aw_exit ?_
            | refine aw_block ?_
            | refine aw_label ?_
            | refine aw_cond_t rfl (by first | rfl | assumption) ?_
            | refine aw_cond_f rfl (by first | rfl | assumption) ?_
            | refine aw_cond rfl (fun hg => ?_) (fun hg => ?_) <;> (try (have hw := hg; simp only [Bool.not_eq_true', Bool.not_eq_false', Bool.not_true, Bool.not_false, decide_eq_true_eq, decide_eq_false_iff_not, Int.not_lt, Int.not_le, Bool.or_eq_true, Bool.or_eq_false_iff, Bool.and_eq_true, Bool.and_eq_false_iff, not_true, not_false_eq_true, ne_eq, Decidable.not_not, reduceCtorEq] at hw)) <;> (try (exfalso; omega))
            | refine aw_seq fun K hK => ?_
          | (with_reducible refine aPick_t ?_ ?_); first | rfl | assumption
          | (with_reducible refine aPick_f ?_ ?_); first | rfl | assumption
          | (with_reducible refine h1 _ _ ?_); clear h1 K1
          | (with_reducible refine hK _ _ ?_); clear hK K
          | with_reducible refine k_use (by assumption) _ _ ?_
          | with_reducible refine k1_use (by assumption) _ _ ?_
          | (with_reducible refine is_call ?_); first
            | refine m.cmp b1 b2 hw0.ps hw0.bs ?_
          | (with_reducible refine is_store ?_); first
            | refine Mem.store (by assumption) rfl rfl (by first | rfl | exact Cut_leaf (Mem.hB (by assumption)) | exact Cut_leaf (Mem.hP (by assumption))) (by simp) (fun σ' m' hn => ?_)
            | simp only [g0, g1, g2, aStore, go_sem, ↓reduceIte]
          | (with_reducible refine is_load ?_); first
            | simp only [g0, g1, g2, aLoad, go_sem, ↓reduceIte]
          | (with_reducible refine is_alloc ?_); first
            | simp only [g0, g1, g2, aAlloc, go_sem, ↓reduceIte]
          | (with_reducible refine is_box ?_); first
            | simp only [g0, g1, g2, aBox, go_sem, ↓reduceIte]
          | (with_reducible refine is_make ?_); first
            | simp only [g0, g1, g2, aMake, go_sem, ↓reduceIte]
          | (with_reducible refine is_bslice ?_); first
            | simp only [g0, g1, g2, aBuildSlice, go_sem, ↓reduceIte]
          | (with_reducible refine is_conv ?_); first
            | simp only [g0, g1, g2, aConvS, go_sem, ↓reduceIte]
          | (with_reducible refine is_append ?_); first
            | refine Grow.append (by (first | assumption | exact Grow.setNew (by assumption) _ _ | exact Grow.push (by assumption) _ | exact Grow.setNew (Grow.setNew (by assumption) _ _) _ _ | exact Grow.push (Grow.setNew (by assumption) _ _) _)) rfl rfl ⟨rfl, rfl, by decide, rfl⟩ ?_ ?_ ?_ (fun x' σ' hG => ?_)
            | simp only [g0, g1, g2, aAppend, go_sem, ↓reduceIte]
          | (with_reducible refine is_len ?_); first
            | refine (Mem.hP (by assumption)).len rfl rfl ?_
            | refine Grow.len (by (first | assumption | exact Grow.setNew (by assumption) _ _ | exact Grow.push (by assumption) _ | exact Grow.setNew (Grow.setNew (by assumption) _ _) _ _ | exact Grow.push (Grow.setNew (by assumption) _ _) _)) rfl rfl ?_
            | simp only [g0, g1, g2, aLen, go_sem, ↓reduceIte]
          | (with_reducible refine is_all ?_); rfl
          | with_reducible exact ⟨rfl, rfl⟩
          | with_reducible exact rfl
          | (with_reducible refine And.intro ?_ ?_); · (first | assumption | exact Mem.hS (by assumption) | exact Mem.ok (by assumption) | exact St.push_same _ _ | exact St.set_same _ _ _ | (repeat (first | refine obj_push (by first | omega | (simp only [push_next, set_next]; omega)) ?_ | refine obj_set (by first | omega | (simp only [push_next, set_next]; omega)) ?_)); (first | exact St.push_same _ _ | exact St.set_same _ _ _ | assumption) | omega | (simp only [push_objs, push_next, set_objs, set_next, ↓reduceIte]; done) | (simp only [push_objs, push_next, set_objs, set_next, ↓reduceIte]; omega) | rfl | (refine And.intro ?_ ?_ <;> (simp only [push_objs, push_next, set_objs, set_next, ↓reduceIte]; done)))
          | (with_reducible apply ex_and); · (first | assumption | exact Mem.hS (by assumption) | exact Mem.ok (by assumption) | exact St.push_same _ _ | exact St.set_same _ _ _ | (repeat (first | refine obj_push (by first | omega | (simp only [push_next, set_next]; omega)) ?_ | refine obj_set (by first | omega | (simp only [push_next, set_next]; omega)) ?_)); (first | exact St.push_same _ _ | exact St.set_same _ _ _ | assumption) | omega | (simp only [push_objs, push_next, set_objs, set_next, ↓reduceIte]; done) | (simp only [push_objs, push_next, set_objs, set_next, ↓reduceIte]; omega) | rfl | (refine And.intro ?_ ?_ <;> (simp only [push_objs, push_next, set_objs, set_next, ↓reduceIte]; done)))
          | simp (disch := omega) only [tdivE, tmodE, tdivN, tmodN, wrapI, wrapU8]
          | simp only [g0, g1, g2, go_sem, ↓reduceIte]
          | (refine is_prop ?_; omega)
        all_goals first
          | (have hE : visS l lv (f + 1) s i p = s := by
               unfold visS leafS; rw [if_pos (by omega), if_neg (by omega)]
             rw [hE]; exact ⟨op, xp, ob, rs, xb, m⟩)
          | skip
        all_goals
          have hE : visS l lv (f + 1) s i p = { s with best := s.pairs, most := p } := by
            unfold visS leafS; rw [if_pos (by omega), if_pos (by omega)]
          rw [hE]
          refine aw_count s.pairs.length (fun c e τ => (∃ ob' rs' xb', Mem os gs oq gq (sCs oq gq b l lv { s with best := s.pairs, most := p } xp xb') s.paired op s.pairs xp ob' rs' (s.pairs.take c) xb' τ) ∧ e 0 = .ptr os gs 0 0 ∧ e 70 = xp ∧ e 71 = i64 s.pairs.length ∧ e 72 = i64 c)
            ⟨⟨none, [], .lst false 0 [], m'.clearB⟩, g0, rfl, by first | rfl | simp, rfl⟩ ?_
          rintro c e' τ ⟨⟨ob', rs', xb', m2⟩, g0', g70, g71, g72⟩ hc
          rcases Nat.lt_or_ge c s.pairs.length with hlt | hge2
          · have hP := m2.hP
            cases op with
            | none => exact absurd hP.1 (by simp; intro h; rw [h] at hlt; simp at hlt)
            | some o =>
              obtain ⟨gen, els, hx, ho, ht, hol⟩ := hP
              rw [List.length_map] at hx
              subst hx
              have hel : els[c]? = some (pAV s.pairs[c]) := by
                have h1 : (els.take (s.pairs.map pAV).length)[c]? = some (pAV s.pairs[c]) := by rw [ht]; simp [hlt]
                rw [List.getElem?_take] at h1
                simpa [hlt] using h1
              have hne : s.pairs[c] ≠ [] := by
                have := hw0.ps _ (List.getElem_mem hlt); intro h; rw [h] at this; simp at this
              have hl3 : s.pairs[c].length ≤ 1000 := by rw [hw0.ps _ (List.getElem_mem hlt)]; decide
              have hlen : (s.pairs.take c).length ≤ 1000 := by rw [List.length_take]; omega
              repeat' first
                | (with_reducible refine is_ops ?_); first
                  | refine aops_nil ?_
                  | refine aops_cons rfl fun K1 h1 => ?_
                  | refine aops_wanted rfl rfl (by first | rfl | assumption) fun K1 h1 => ?_
                  | refine aops_unwanted rfl rfl (by first | rfl | assumption) ?_
                  | refine aops_skip rfl rfl ?_
                  | refine aops_guard rfl rfl (fun hg K1 h1 => ?_) (fun hg => ?_) <;> (try (have hw := hg; simp only [Bool.not_eq_true', Bool.not_eq_false', Bool.not_true, Bool.not_false, decide_eq_true_eq, decide_eq_false_iff_not, Int.not_lt, Int.not_le, Bool.or_eq_true, Bool.or_eq_false_iff, Bool.and_eq_true, Bool.and_eq_false_iff, not_true, not_false_eq_true, ne_eq, Decidable.not_not, reduceCtorEq] at hw)) <;> (try (exfalso; omega))
                | (with_reducible refine is_qs ?_); first
                  | refine aqs_nil ?_
                  | refine aqs_cons (v := ?_) rfl ?_ ?_
                  | refine aqs_wanted (v := ?_) rfl rfl (by first | rfl | assumption) ?_ ?_
                  | refine aqs_unwanted rfl rfl (by first | rfl | assumption) ?_
                  | refine aqs_skip rfl rfl ?_
                  | refine aqs_part rfl rfl (fun hg => ?_) (fun hg => ?_) <;> (try (have hw := hg; simp only [Bool.not_eq_true', Bool.not_eq_false', Bool.not_true, Bool.not_false, decide_eq_true_eq, decide_eq_false_iff_not, Int.not_lt, Int.not_le, Bool.or_eq_true, Bool.or_eq_false_iff, Bool.and_eq_true, Bool.and_eq_false_iff, not_true, not_false_eq_true, ne_eq, Decidable.not_not, reduceCtorEq] at hw)) <;> (try (exfalso; omega))
                | (with_reducible refine is_ord ?_); first
                  | refine aord_nil ?_
                  | refine aord_steady (v := ?_) rfl (fun τ hC => ?_) ?_
                  | refine aord_wanted (v := ?_) rfl rfl (by first | rfl | assumption) (fun τ hC => ?_) ?_
                  | refine aord_unwanted rfl rfl (by first | rfl | assumption) ?_
                  | refine aord_skip rfl rfl ?_
                  | refine aord_eff rfl fun K1 h1 => ?_
                | (with_reducible refine h1 _ _ ?_ ?_); clear h1 K1
                | (with_reducible refine is_aw ?_); first
                  | refine aw_ord_end (fun τ' => τ'.objs os = some ⟨67, 7, gs, [.agg (sCs oq gq b l lv ⟨s.bud, s.paired, s.pairs, s.pairs, p⟩ (.ref o gen 0 s.pairs.length) xb')]⟩) 11 [(0, true), (1, true), (2, true), (3, true), (4, true), (5, true), (6, false), (7, true), (8, false), (9, true), (10, true)] _ rfl tabOk (fun _ => false) _ rfl rfl rfl (by decide +kernel) m2.hS ?_
                  | refine aw_rs tabOk (fun _ => false) _ rfl rfl ?_
                  | refine aw_quiet rfl tabOk (fun _ => false) _ rfl rfl (by decide +kernel) ?_
                  | refine aw_quiet_end rfl tabOk (fun _ => false) _ rfl rfl (by decide +kernel) ?_
                  | refine aw_region tabOk (fun _ => false) _ rfl rfl ?_
                  | refine aw_ret ?_
                  | refine aw_skip ?_
                  | refine aw_exit ?_
                  | refine aw_block ?_
                  | refine aw_label ?_
                  | refine aw_cond_t rfl (by first | rfl | assumption) ?_
                  | refine aw_cond_f rfl (by first | rfl | assumption) ?_
                  | refine aw_cond rfl (fun hg => ?_) (fun hg => ?_) <;> (try (have hw := hg; simp only [Bool.not_eq_true', Bool.not_eq_false', Bool.not_true, Bool.not_false, decide_eq_true_eq, decide_eq_false_iff_not, Int.not_lt, Int.not_le, Bool.or_eq_true, Bool.or_eq_false_iff, Bool.and_eq_true, Bool.and_eq_false_iff, not_true, not_false_eq_true, ne_eq, Decidable.not_not, reduceCtorEq] at hw)) <;> (try (exfalso; omega))
                  | refine aw_seq fun K hK => ?_
                | (with_reducible refine aPick_t ?_ ?_); first | rfl | assumption
                | (with_reducible refine aPick_f ?_ ?_); first | rfl | assumption
                | (with_reducible refine h1 _ _ ?_); clear h1 K1
                | (with_reducible refine hK _ _ ?_); clear hK K
                | with_reducible refine k_use (by assumption) _ _ ?_
                | with_reducible refine k1_use (by assumption) _ _ ?_
                | (with_reducible refine is_call ?_); first
                  | refine ACall.mono (a_Clone _ _ hne hl3 _) (fun r σ2 hG => m2.cloned hG hne (fun o2 gn2 m3 hob hol2 hne2 => ?_))
                | (with_reducible refine is_store ?_); first
                  | refine Mem.store (by assumption) rfl rfl (by first | rfl | exact Cut_leaf (Mem.hB (by assumption)) | exact Cut_leaf (Mem.hP (by assumption))) (by simp) (fun σ' m' hn => ?_)
                  | simp only [g0', g70, g71, g72, aStore, go_sem, ↓reduceIte]
                | (with_reducible refine is_load ?_); first
                  | simp only [g0', g70, g71, g72, aLoad, go_sem, ↓reduceIte]
                | (with_reducible refine is_alloc ?_); first
                  | simp only [g0', g70, g71, g72, aAlloc, go_sem, ↓reduceIte]
                | (with_reducible refine is_box ?_); first
                  | simp only [g0', g70, g71, g72, aBox, go_sem, ↓reduceIte]
                | (with_reducible refine is_make ?_); first
                  | simp only [g0', g70, g71, g72, aMake, go_sem, ↓reduceIte]
                | (with_reducible refine is_bslice ?_); first
                  | simp only [g0', g70, g71, g72, aBuildSlice, go_sem, ↓reduceIte]
                | (with_reducible refine is_conv ?_); first
                  | simp only [g0', g70, g71, g72, aConvS, go_sem, ↓reduceIte]
                | (with_reducible refine is_append ?_); first
                  | refine Mem.growB (by assumption) hlen hob hol2 hne2 (fun xb2 ob2 σ2 m4 => ?_)
                  | refine Grow.append (by (first | assumption | exact Grow.setNew (by assumption) _ _ | exact Grow.push (by assumption) _ | exact Grow.setNew (Grow.setNew (by assumption) _ _) _ _ | exact Grow.push (Grow.setNew (by assumption) _ _) _)) rfl rfl ⟨rfl, rfl, by decide, rfl⟩ ?_ ?_ ?_ (fun x' σ' hG => ?_)
                  | simp only [g0', g70, g71, g72, aAppend, go_sem, ↓reduceIte]
                | (with_reducible refine is_len ?_); first
                  | refine Grow.len (by (first | assumption | exact Grow.setNew (by assumption) _ _ | exact Grow.push (by assumption) _ | exact Grow.setNew (Grow.setNew (by assumption) _ _) _ _ | exact Grow.push (Grow.setNew (by assumption) _ _) _)) rfl rfl ?_
                  | simp only [g0', g70, g71, g72, aLen, go_sem, ↓reduceIte]
                | exact Mem.hS (by assumption)
                | (with_reducible refine is_all ?_); rfl
                | with_reducible exact ⟨rfl, rfl⟩
                | with_reducible exact rfl
                | (with_reducible refine And.intro ?_ ?_); · (first | assumption | exact Mem.hS (by assumption) | exact Mem.ok (by assumption) | exact ⟨_, ho, rfl, rfl⟩ | exact ho | exact hel | exact St.push_same _ _ | exact St.set_same _ _ _ | (repeat (first | refine obj_push (by first | omega | (simp only [push_next, set_next]; omega)) ?_ | refine obj_set (by first | omega | (simp only [push_next, set_next]; omega)) ?_)); (first | exact St.push_same _ _ | exact St.set_same _ _ _ | assumption) | omega | (simp only [push_objs, push_next, set_objs, set_next, ↓reduceIte]; done) | (simp only [push_objs, push_next, set_objs, set_next, ↓reduceIte]; omega) | rfl | (refine And.intro ?_ ?_ <;> (simp only [push_objs, push_next, set_objs, set_next, ↓reduceIte]; done)))
                | (with_reducible apply ex_and); · (first | assumption | exact Mem.hS (by assumption) | exact Mem.ok (by assumption) | exact ⟨_, ho, rfl, rfl⟩ | exact ho | exact hel | exact St.push_same _ _ | exact St.set_same _ _ _ | (repeat (first | refine obj_push (by first | omega | (simp only [push_next, set_next]; omega)) ?_ | refine obj_set (by first | omega | (simp only [push_next, set_next]; omega)) ?_)); (first | exact St.push_same _ _ | exact St.set_same _ _ _ | assumption) | omega | (simp only [push_objs, push_next, set_objs, set_next, ↓reduceIte]; done) | (simp only [push_objs, push_next, set_objs, set_next, ↓reduceIte]; omega) | rfl | (refine And.intro ?_ ?_ <;> (simp only [push_objs, push_next, set_objs, set_next, ↓reduceIte]; done)))
                | simp (disch := omega) only [tdivE, tmodE, tdivN, tmodN, wrapI, wrapU8]
                | simp only [g0', g70, g71, g72, go_sem, ↓reduceIte]
                | (refine is_prop ?_; omega)
              all_goals
                have hT : s.pairs.take (c + 1) = s.pairs.take c ++ [s.pairs[c]] := by rw [List.take_add_one, List.getElem?_eq_getElem hlt]; rfl
                rw [hT]; exact ⟨⟨_, _, _, m'⟩, rfl⟩
          · repeat' first
              | (with_reducible refine is_ops ?_); first
                | refine aops_nil ?_
                | refine aops_cons rfl fun K1 h1 => ?_
                | refine aops_wanted rfl rfl (by first | rfl | assumption) fun K1 h1 => ?_
                | refine aops_unwanted rfl rfl (by first | rfl | assumption) ?_
                | refine aops_skip rfl rfl ?_
                | refine aops_guard rfl rfl (fun hg K1 h1 => ?_) (fun hg => ?_) <;> (try (have hw := hg; simp only [Bool.not_eq_true', Bool.not_eq_false', Bool.not_true, Bool.not_false, decide_eq_true_eq, decide_eq_false_iff_not, Int.not_lt, Int.not_le, Bool.or_eq_true, Bool.or_eq_false_iff, Bool.and_eq_true, Bool.and_eq_false_iff, not_true, not_false_eq_true, ne_eq, Decidable.not_not, reduceCtorEq] at hw)) <;> (try (exfalso; omega))
              | (with_reducible refine is_qs ?_); first
                | refine aqs_nil ?_
                | refine aqs_cons (v := ?_) rfl ?_ ?_
                | refine aqs_wanted (v := ?_) rfl rfl (by first | rfl | assumption) ?_ ?_
                | refine aqs_unwanted rfl rfl (by first | rfl | assumption) ?_
                | refine aqs_skip rfl rfl ?_
                | refine aqs_part rfl rfl (fun hg => ?_) (fun hg => ?_) <;> (try (have hw := hg; simp only [Bool.not_eq_true', Bool.not_eq_false', Bool.not_true, Bool.not_false, decide_eq_true_eq, decide_eq_false_iff_not, Int.not_lt, Int.not_le, Bool.or_eq_true, Bool.or_eq_false_iff, Bool.and_eq_true, Bool.and_eq_false_iff, not_true, not_false_eq_true, ne_eq, Decidable.not_not, reduceCtorEq] at hw)) <;> (try (exfalso; omega))
              | (with_reducible refine is_aw ?_); first
                | refine aw_rs tabOk (fun _ => false) _ rfl rfl ?_
                | refine aw_quiet rfl tabOk (fun _ => false) _ rfl rfl (by decide +kernel) ?_
                | refine aw_quiet_end rfl tabOk (fun _ => false) _ rfl rfl (by decide +kernel) ?_
                | refine aw_region tabOk (fun _ => false) _ rfl rfl ?_
                | refine aw_ret ?_
                | refine aw_skip ?_
                | refine aw_exit ?_
                | refine aw_block ?_
                | refine aw_label ?_
                | refine aw_cond_t rfl (by first | rfl | assumption) ?_
                | refine aw_cond_f rfl (by first | rfl | assumption) ?_
                | refine aw_cond rfl (fun hg => ?_) (fun hg => ?_) <;> (try (have hw := hg; simp only [Bool.not_eq_true', Bool.not_eq_false', Bool.not_true, Bool.not_false, decide_eq_true_eq, decide_eq_false_iff_not, Int.not_lt, Int.not_le, Bool.or_eq_true, Bool.or_eq_false_iff, Bool.and_eq_true, Bool.and_eq_false_iff, not_true, not_false_eq_true, ne_eq, Decidable.not_not, reduceCtorEq] at hw)) <;> (try (exfalso; omega))
                | refine aw_seq fun K hK => ?_
              | (with_reducible refine aPick_t ?_ ?_); first | rfl | assumption
              | (with_reducible refine aPick_f ?_ ?_); first | rfl | assumption
              | (with_reducible refine h1 _ _ ?_); clear h1 K1
              | (with_reducible refine hK _ _ ?_); clear hK K
              | with_reducible refine k_use (by assumption) _ _ ?_
              | with_reducible refine k1_use (by assumption) _ _ ?_
              | (with_reducible refine is_store ?_); first
                | simp only [g0', g70, g71, g72, aStore, go_sem, ↓reduceIte]
              | (with_reducible refine is_load ?_); first
                | simp only [g0', g70, g71, g72, aLoad, go_sem, ↓reduceIte]
              | (with_reducible refine is_alloc ?_); first
                | simp only [g0', g70, g71, g72, aAlloc, go_sem, ↓reduceIte]
              | (with_reducible refine is_box ?_); first
                | simp only [g0', g70, g71, g72, aBox, go_sem, ↓reduceIte]
              | (with_reducible refine is_make ?_); first
                | simp only [g0', g70, g71, g72, aMake, go_sem, ↓reduceIte]
              | (with_reducible refine is_bslice ?_); first
                | simp only [g0', g70, g71, g72, aBuildSlice, go_sem, ↓reduceIte]
              | (with_reducible refine is_conv ?_); first
                | simp only [g0', g70, g71, g72, aConvS, go_sem, ↓reduceIte]
              | (with_reducible refine is_append ?_); first
                | refine Grow.append (by (first | assumption | exact Grow.setNew (by assumption) _ _ | exact Grow.push (by assumption) _ | exact Grow.setNew (Grow.setNew (by assumption) _ _) _ _ | exact Grow.push (Grow.setNew (by assumption) _ _) _)) rfl rfl ⟨rfl, rfl, by decide, rfl⟩ ?_ ?_ ?_ (fun x' σ' hG => ?_)
                | simp only [g0', g70, g71, g72, aAppend, go_sem, ↓reduceIte]
              | (with_reducible refine is_len ?_); first
                | refine Grow.len (by (first | assumption | exact Grow.setNew (by assumption) _ _ | exact Grow.push (by assumption) _ | exact Grow.setNew (Grow.setNew (by assumption) _ _) _ _ | exact Grow.push (Grow.setNew (by assumption) _ _) _)) rfl rfl ?_
                | simp only [g0', g70, g71, g72, aLen, go_sem, ↓reduceIte]
              | (with_reducible refine is_all ?_); rfl
              | with_reducible exact ⟨rfl, rfl⟩
              | with_reducible exact rfl
              | (with_reducible refine And.intro ?_ ?_); · (first | assumption | exact St.push_same _ _ | exact St.set_same _ _ _ | (repeat (first | refine obj_push (by first | omega | (simp only [push_next, set_next]; omega)) ?_ | refine obj_set (by first | omega | (simp only [push_next, set_next]; omega)) ?_)); (first | exact St.push_same _ _ | exact St.set_same _ _ _ | assumption) | omega | (simp only [push_objs, push_next, set_objs, set_next, ↓reduceIte]; done) | (simp only [push_objs, push_next, set_objs, set_next, ↓reduceIte]; omega) | rfl | (refine And.intro ?_ ?_ <;> (simp only [push_objs, push_next, set_objs, set_next, ↓reduceIte]; done)))
              | (with_reducible apply ex_and); · (first | assumption | exact St.push_same _ _ | exact St.set_same _ _ _ | (repeat (first | refine obj_push (by first | omega | (simp only [push_next, set_next]; omega)) ?_ | refine obj_set (by first | omega | (simp only [push_next, set_next]; omega)) ?_)); (first | exact St.push_same _ _ | exact St.set_same _ _ _ | assumption) | omega | (simp only [push_objs, push_next, set_objs, set_next, ↓reduceIte]; done) | (simp only [push_objs, push_next, set_objs, set_next, ↓reduceIte]; omega) | rfl | (refine And.intro ?_ ?_ <;> (simp only [push_objs, push_next, set_objs, set_next, ↓reduceIte]; done)))
              | simp (disch := omega) only [tdivE, tmodE, tdivN, tmodN, wrapI, wrapU8]
              | simp only [g0', g70, g71, g72, go_sem, ↓reduceIte]
              | (refine is_prop ?_; omega)
            all_goals (obtain rfl : c = s.pairs.length := by omega)
            all_goals rw [List.take_length] at m2
            all_goals (rw [hE]; exact ⟨op, xp, ob', rs', xb', m2⟩)
    clear hK
    refine aw_count (l.length - i) (fun c e τ => τ = σ ∧ skip s.paired i = skip s.paired (i + c) ∧ e 0 = .ptr os gs 0 0 ∧ e 1 = i64 ((i + c : Nat) : Int) ∧ e 2 = i64 p) ⟨rfl, rfl, rfl, rfl, rfl⟩ ?_
    rintro c e τ ⟨rfl, hk, g0, g1, g2⟩ hc
    rcases Nat.lt_or_ge (i + c) l.length with hlt | hge
    · have hx := m.pdAt (i := i + c) (by rw [hw0.pd]; exact hlt)
      repeat' first
        | (with_reducible refine is_ops ?_); first
          | refine aops_nil ?_
          | refine aops_cons rfl fun K1 h1 => ?_
          | refine aops_wanted rfl rfl (by first | rfl | assumption) fun K1 h1 => ?_
          | refine aops_unwanted rfl rfl (by first | rfl | assumption) ?_
          | refine aops_skip rfl rfl ?_
          | refine aops_guard rfl rfl (fun hg K1 h1 => ?_) (fun hg => ?_) <;> (try (have hw := hg; simp only [Bool.not_eq_true', Bool.not_eq_false', Bool.not_true, Bool.not_false, decide_eq_true_eq, decide_eq_false_iff_not, Int.not_lt, Int.not_le, Bool.or_eq_true, Bool.or_eq_false_iff, Bool.and_eq_true, Bool.and_eq_false_iff, not_true, not_false_eq_true, ne_eq, Decidable.not_not, reduceCtorEq] at hw)) <;> (try (exfalso; omega))
        | (with_reducible refine is_qs ?_); first
          | refine aqs_nil ?_
          | refine aqs_cons (v := ?_) rfl ?_ ?_
          | refine aqs_wanted (v := ?_) rfl rfl (by first | rfl | assumption) ?_ ?_
          | refine aqs_unwanted rfl rfl (by first | rfl | assumption) ?_
          | refine aqs_skip rfl rfl ?_
          | refine aqs_part rfl rfl (fun hg => ?_) (fun hg => ?_) <;> (try (have hw := hg; simp only [Bool.not_eq_true', Bool.not_eq_false', Bool.not_true, Bool.not_false, decide_eq_true_eq, decide_eq_false_iff_not, Int.not_lt, Int.not_le, Bool.or_eq_true, Bool.or_eq_false_iff, Bool.and_eq_true, Bool.and_eq_false_iff, not_true, not_false_eq_true, ne_eq, Decidable.not_not, reduceCtorEq] at hw)) <;> (try (exfalso; omega))
        | (with_reducible refine is_aw ?_); first
          | refine aw_rs tabOk (fun _ => false) _ rfl rfl ?_
          | refine aw_quiet rfl tabOk (fun _ => false) _ rfl rfl (by decide +kernel) ?_
          | refine aw_quiet_end rfl tabOk (fun _ => false) _ rfl rfl (by decide +kernel) ?_
          | refine aw_region tabOk (fun _ => false) _ rfl rfl ?_
          | refine aw_ret ?_
          | refine aw_skip ?_
          | refine aw_exit ?_
          | refine aw_block ?_
          | refine aw_label ?_
          | refine aw_cond_t rfl (by first | rfl | assumption) ?_
          | refine aw_cond_f rfl (by first | rfl | assumption) ?_
          | refine aw_cond rfl (fun hg => ?_) (fun hg => ?_) <;> (try (have hw := hg; simp only [Bool.not_eq_true', Bool.not_eq_false', Bool.not_true, Bool.not_false, decide_eq_true_eq, decide_eq_false_iff_not, Int.not_lt, Int.not_le, Bool.or_eq_true, Bool.or_eq_false_iff, Bool.and_eq_true, Bool.and_eq_false_iff, not_true, not_false_eq_true, ne_eq, Decidable.not_not, reduceCtorEq] at hw)) <;> (try (exfalso; omega))
          | refine aw_seq fun K hK => ?_
        | (with_reducible refine aPick_t ?_ ?_); first | rfl | assumption
        | (with_reducible refine aPick_f ?_ ?_); first | rfl | assumption
        | (with_reducible refine h1 _ _ ?_); clear h1 K1
        | (with_reducible refine hK _ _ ?_); clear hK K
        | with_reducible refine k_use (by assumption) _ _ ?_
        | with_reducible refine k1_use (by assumption) _ _ ?_
        | (with_reducible refine is_store ?_); first
          | simp only [g0, g1, g2, aStore, go_sem, ↓reduceIte]
        | (with_reducible refine is_load ?_); first
          | simp only [g0, g1, g2, aLoad, go_sem, ↓reduceIte]
        | (with_reducible refine is_alloc ?_); first
          | simp only [g0, g1, g2, aAlloc, go_sem, ↓reduceIte]
        | (with_reducible refine is_box ?_); first
          | simp only [g0, g1, g2, aBox, go_sem, ↓reduceIte]
        | (with_reducible refine is_make ?_); first
          | simp only [g0, g1, g2, aMake, go_sem, ↓reduceIte]
        | (with_reducible refine is_bslice ?_); first
          | simp only [g0, g1, g2, aBuildSlice, go_sem, ↓reduceIte]
        | (with_reducible refine is_conv ?_); first
          | simp only [g0, g1, g2, aConvS, go_sem, ↓reduceIte]
        | (with_reducible refine is_append ?_); first
          | refine Grow.append (by (first | assumption | exact Grow.setNew (by assumption) _ _ | exact Grow.push (by assumption) _ | exact Grow.setNew (Grow.setNew (by assumption) _ _) _ _ | exact Grow.push (Grow.setNew (by assumption) _ _) _)) rfl rfl ⟨rfl, rfl, by decide, rfl⟩ ?_ ?_ ?_ (fun x' σ' hG => ?_)
          | simp only [g0, g1, g2, aAppend, go_sem, ↓reduceIte]
        | (with_reducible refine is_len ?_); first
          | refine Grow.len (by (first | assumption | exact Grow.setNew (by assumption) _ _ | exact Grow.push (by assumption) _ | exact Grow.setNew (Grow.setNew (by assumption) _ _) _ _ | exact Grow.push (Grow.setNew (by assumption) _ _) _)) rfl rfl ?_
          | simp only [g0, g1, g2, aLen, go_sem, ↓reduceIte]
        | (with_reducible refine is_all ?_); rfl
        | with_reducible exact ⟨rfl, rfl⟩
        | with_reducible exact rfl
        | (with_reducible refine And.intro ?_ ?_); · (first | assumption | exact Mem.hS (by assumption) | exact Mem.ok (by assumption) | exact Mem.hQ (by assumption) | exact ⟨_, Mem.hQ (by assumption), rfl, rfl⟩ | exact St.push_same _ _ | exact St.set_same _ _ _ | (repeat (first | refine obj_push (by first | omega | (simp only [push_next, set_next]; omega)) ?_ | refine obj_set (by first | omega | (simp only [push_next, set_next]; omega)) ?_)); (first | exact St.push_same _ _ | exact St.set_same _ _ _ | assumption) | omega | (simp only [push_objs, push_next, set_objs, set_next, ↓reduceIte]; done) | (simp only [push_objs, push_next, set_objs, set_next, ↓reduceIte]; omega) | rfl | (refine And.intro ?_ ?_ <;> (simp only [push_objs, push_next, set_objs, set_next, ↓reduceIte]; done)))
        | (with_reducible apply ex_and); · (first | assumption | exact Mem.hS (by assumption) | exact Mem.ok (by assumption) | exact Mem.hQ (by assumption) | exact ⟨_, Mem.hQ (by assumption), rfl, rfl⟩ | exact St.push_same _ _ | exact St.set_same _ _ _ | (repeat (first | refine obj_push (by first | omega | (simp only [push_next, set_next]; omega)) ?_ | refine obj_set (by first | omega | (simp only [push_next, set_next]; omega)) ?_)); (first | exact St.push_same _ _ | exact St.set_same _ _ _ | assumption) | omega | (simp only [push_objs, push_next, set_objs, set_next, ↓reduceIte]; done) | (simp only [push_objs, push_next, set_objs, set_next, ↓reduceIte]; omega) | rfl | (refine And.intro ?_ ?_ <;> (simp only [push_objs, push_next, set_objs, set_next, ↓reduceIte]; done)))
        | simp (disch := omega) only [tdivE, tmodE, tdivN, tmodN, wrapI, wrapU8]
        | simp only [g0, g1, g2, go_sem, ↓reduceIte]
        | (refine is_prop ?_; omega)
      all_goals first
        | (have hb : s.paired[i + c]'(by rw [hw0.pd]; exact hlt) = true := by
             have h1 : s.paired.getD (i + c) false = true := by assumption
             simpa [hw0.pd, hlt] using h1
           exact ⟨hk.trans (skip_step (by rw [hw0.pd]; exact hlt) hb), rfl⟩)
        | (have hb : s.paired[i + c]'(by rw [hw0.pd]; exact hlt) = false := by
             have h1 : s.paired.getD (i + c) false = false := by assumption
             simpa [hw0.pd, hlt] using h1
           have hE := hk.trans (skip_stop (by rw [hw0.pd]; exact hlt) hb)
           exact hrest _ (by simp [Env.upd, g0]) (by rw [hE]; simp [Env.upd, g1]) (by simp [Env.upd, g2]))
    · repeat' first
        | (with_reducible refine is_ops ?_); first
          | refine aops_nil ?_
          | refine aops_cons rfl fun K1 h1 => ?_
          | refine aops_wanted rfl rfl (by first | rfl | assumption) fun K1 h1 => ?_
          | refine aops_unwanted rfl rfl (by first | rfl | assumption) ?_
          | refine aops_skip rfl rfl ?_
          | refine aops_guard rfl rfl (fun hg K1 h1 => ?_) (fun hg => ?_) <;> (try (have hw := hg; simp only [Bool.not_eq_true', Bool.not_eq_false', Bool.not_true, Bool.not_false, decide_eq_true_eq, decide_eq_false_iff_not, Int.not_lt, Int.not_le, Bool.or_eq_true, Bool.or_eq_false_iff, Bool.and_eq_true, Bool.and_eq_false_iff, not_true, not_false_eq_true, ne_eq, Decidable.not_not, reduceCtorEq] at hw)) <;> (try (exfalso; omega))
        | (with_reducible refine is_qs ?_); first
          | refine aqs_nil ?_
          | refine aqs_cons (v := ?_) rfl ?_ ?_
          | refine aqs_wanted (v := ?_) rfl rfl (by first | rfl | assumption) ?_ ?_
          | refine aqs_unwanted rfl rfl (by first | rfl | assumption) ?_
          | refine aqs_skip rfl rfl ?_
          | refine aqs_part rfl rfl (fun hg => ?_) (fun hg => ?_) <;> (try (have hw := hg; simp only [Bool.not_eq_true', Bool.not_eq_false', Bool.not_true, Bool.not_false, decide_eq_true_eq, decide_eq_false_iff_not, Int.not_lt, Int.not_le, Bool.or_eq_true, Bool.or_eq_false_iff, Bool.and_eq_true, Bool.and_eq_false_iff, not_true, not_false_eq_true, ne_eq, Decidable.not_not, reduceCtorEq] at hw)) <;> (try (exfalso; omega))
        | (with_reducible refine is_aw ?_); first
          | refine aw_rs tabOk (fun _ => false) _ rfl rfl ?_
          | refine aw_quiet rfl tabOk (fun _ => false) _ rfl rfl (by decide +kernel) ?_
          | refine aw_quiet_end rfl tabOk (fun _ => false) _ rfl rfl (by decide +kernel) ?_
          | refine aw_region tabOk (fun _ => false) _ rfl rfl ?_
          | refine aw_ret ?_
          | refine aw_skip ?_
          | refine aw_exit ?_
          | refine aw_block ?_
          | refine aw_label ?_
          | refine aw_cond_t rfl (by first | rfl | assumption) ?_
          | refine aw_cond_f rfl (by first | rfl | assumption) ?_
          | refine aw_cond rfl (fun hg => ?_) (fun hg => ?_) <;> (try (have hw := hg; simp only [Bool.not_eq_true', Bool.not_eq_false', Bool.not_true, Bool.not_false, decide_eq_true_eq, decide_eq_false_iff_not, Int.not_lt, Int.not_le, Bool.or_eq_true, Bool.or_eq_false_iff, Bool.and_eq_true, Bool.and_eq_false_iff, not_true, not_false_eq_true, ne_eq, Decidable.not_not, reduceCtorEq] at hw)) <;> (try (exfalso; omega))
          | refine aw_seq fun K hK => ?_
        | (with_reducible refine aPick_t ?_ ?_); first | rfl | assumption
        | (with_reducible refine aPick_f ?_ ?_); first | rfl | assumption
        | (with_reducible refine h1 _ _ ?_); clear h1 K1
        | (with_reducible refine hK _ _ ?_); clear hK K
        | with_reducible refine k_use (by assumption) _ _ ?_
        | with_reducible refine k1_use (by assumption) _ _ ?_
        | (with_reducible refine is_store ?_); first
          | simp only [g0, g1, g2, aStore, go_sem, ↓reduceIte]
        | (with_reducible refine is_load ?_); first
          | simp only [g0, g1, g2, aLoad, go_sem, ↓reduceIte]
        | (with_reducible refine is_alloc ?_); first
          | simp only [g0, g1, g2, aAlloc, go_sem, ↓reduceIte]
        | (with_reducible refine is_box ?_); first
          | simp only [g0, g1, g2, aBox, go_sem, ↓reduceIte]
        | (with_reducible refine is_make ?_); first
          | simp only [g0, g1, g2, aMake, go_sem, ↓reduceIte]
        | (with_reducible refine is_bslice ?_); first
          | simp only [g0, g1, g2, aBuildSlice, go_sem, ↓reduceIte]
        | (with_reducible refine is_conv ?_); first
          | simp only [g0, g1, g2, aConvS, go_sem, ↓reduceIte]
        | (with_reducible refine is_append ?_); first
          | refine Grow.append (by (first | assumption | exact Grow.setNew (by assumption) _ _ | exact Grow.push (by assumption) _ | exact Grow.setNew (Grow.setNew (by assumption) _ _) _ _ | exact Grow.push (Grow.setNew (by assumption) _ _) _)) rfl rfl ⟨rfl, rfl, by decide, rfl⟩ ?_ ?_ ?_ (fun x' σ' hG => ?_)
          | simp only [g0, g1, g2, aAppend, go_sem, ↓reduceIte]
        | (with_reducible refine is_len ?_); first
          | refine Grow.len (by (first | assumption | exact Grow.setNew (by assumption) _ _ | exact Grow.push (by assumption) _ | exact Grow.setNew (Grow.setNew (by assumption) _ _) _ _ | exact Grow.push (Grow.setNew (by assumption) _ _) _)) rfl rfl ?_
          | simp only [g0, g1, g2, aLen, go_sem, ↓reduceIte]
        | (with_reducible refine is_all ?_); rfl
        | with_reducible exact ⟨rfl, rfl⟩
        | with_reducible exact rfl
        | (with_reducible refine And.intro ?_ ?_); · (first | assumption | exact Mem.hS (by assumption) | exact Mem.ok (by assumption) | exact St.push_same _ _ | exact St.set_same _ _ _ | (repeat (first | refine obj_push (by first | omega | (simp only [push_next, set_next]; omega)) ?_ | refine obj_set (by first | omega | (simp only [push_next, set_next]; omega)) ?_)); (first | exact St.push_same _ _ | exact St.set_same _ _ _ | assumption) | omega | (simp only [push_objs, push_next, set_objs, set_next, ↓reduceIte]; done) | (simp only [push_objs, push_next, set_objs, set_next, ↓reduceIte]; omega) | rfl | (refine And.intro ?_ ?_ <;> (simp only [push_objs, push_next, set_objs, set_next, ↓reduceIte]; done)))
        | (with_reducible apply ex_and); · (first | assumption | exact Mem.hS (by assumption) | exact Mem.ok (by assumption) | exact St.push_same _ _ | exact St.set_same _ _ _ | (repeat (first | refine obj_push (by first | omega | (simp only [push_next, set_next]; omega)) ?_ | refine obj_set (by first | omega | (simp only [push_next, set_next]; omega)) ?_)); (first | exact St.push_same _ _ | exact St.set_same _ _ _ | assumption) | omega | (simp only [push_objs, push_next, set_objs, set_next, ↓reduceIte]; done) | (simp only [push_objs, push_next, set_objs, set_next, ↓reduceIte]; omega) | rfl | (refine And.intro ?_ ?_ <;> (simp only [push_objs, push_next, set_objs, set_next, ↓reduceIte]; done)))
        | simp (disch := omega) only [tdivE, tmodE, tdivN, tmodN, wrapI, wrapU8]
        | simp only [g0, g1, g2, go_sem, ↓reduceIte]
        | (refine is_prop ?_; omega)
      have hE := hk.trans (skip_end (by rw [hw0.pd]; exact hge))
      all_goals exact hrest _ (by simp [Env.upd, g0]) (by rw [hE]; simp [Env.upd, g1]) (by simp [Env.upd, g2])
end Go.Proofs.Ytamielbdedbnaaa
