/- Draws: the source of choices. -/
import Derived.Test.YtamielbdedbnaaaW1
import Derived.Test.YtamielbdedbnaaaA23
set_option linter.unusedSimpArgs false
set_option linter.unusedVariables false
namespace Go.Proofs.Ytamielbdedbnaaa
open Go.Ab Go.RowKit
variable {σ σ0 τ : St} {Q : AV → St → Prop} {so gs i : Nat} {b : Bool} {code : List UInt8} {a s : Int} {X : List Nat} {ls : List Ent}
abbrev u64 (n : Int) : AV := .sc (.int .u64 n)
abbrev srcCs (b : Bool) (code : List UInt8) (a s : Int) : List AV := [.lst b 1 (code.map byteAV), i64 a, u64 s]
/-- the source: it has been asked a times -/
abbrev srcO (gs : Nat) (b : Bool) (code : List UInt8) (a s : Int) : AObj := ⟨87, 3, gs, [.agg (srcCs b code a s)]⟩
abbrev srcE (so gs : Nat) (b : Bool) (code : List UInt8) (a s : Int) : Ent := .ob so (srcO gs b code a s)
theorem and255 (x : BitVec 64) : 0 ≤ IntKind.u64.wrap ((x &&& BitVec.ofInt 64 255).toNat : Nat) ∧ IntKind.u64.wrap ((x &&& BitVec.ofInt 64 255).toNat : Nat) ≤ 255 := by
  have h : (x &&& BitVec.ofInt 64 255).toNat ≤ 255 := by
    rw [BitVec.toNat_and]
    exact Nat.le_trans Nat.and_le_right (by decide)
  rw [wrapU64 (by omega) (by omega)]; omega
theorem iand255 (x : BitVec 64) : 0 ≤ IntKind.i64.wrap (IntKind.u64.wrap ((x &&& BitVec.ofInt 64 255).toNat : Nat)) ∧ IntKind.i64.wrap (IntKind.u64.wrap ((x &&& BitVec.ofInt 64 255).toNat : Nat)) ≤ 255 := by
  have h := and255 x
  rw [wrapI (by omega) (by omega)]; exact h
theorem byteAV_at {code : List UInt8} {i : Nat} (h : i < code.length) : (code.map byteAV)[i]? = some (.sc (.int .u8 ((code.getD i 0).toNat : Int))) := by
  simp [h, byteAV]
/-- (*spec.l00Src).next -/
theorem c_next (ho : σ.objs so = some (srcO gs b code a s)) (hlt : so < σ.next) (ha : 0 ≤ a ∧ a ≤ 1000000) (hc : code.length ≤ 2000000)
    (hQ : ∀ (v a' s' : Int) σ', (0 ≤ v ∧ v ≤ 255) → (a ≤ a' ∧ a' ≤ a + 1) → Own σ [so] [srcE so gs b code a' s'] σ' → Q (i64 v) σ') : ACall Try.prog 76 [.ptr so gs 0 0] σ Q := by
  have hlen : (code.map byteAV).length = code.length := List.length_map ..
  have fin : ∀ s2 : Int, Own σ [so] [srcE so gs b code (a + 1) s2] ((σ.set so (srcO gs b code (a + 1) s)).set so (srcO gs b code (a + 1) s2)) := fun s2 =>
    own_set (i := 0) (a := srcO gs b code (a + 1) s) (own_set (i := 0) (a := srcO gs b code a s) (Own.one ho hlt) rfl) rfl
  refine acall_intro (N := 62) (rs := [.tmp 2]) T tabOk Try.func76 (by decide +kernel) rfl Try.ntmps76 Try.results76 (by simp) ?_
  rcases (by omega : a < code.length ∨ (code.length : Int) ≤ a) with hlt2 | hge
  · have hi : a.toNat < code.length := by omega
    have hx := byteAV_at hi
    have hb : ((code.getD a.toNat 0).toNat : Int) < 256 := by have := UInt8.toNat_lt (code.getD a.toNat 0); omega
    have hb0 : 0 ≤ ((code.getD a.toNat 0).toNat : Int) := Int.natCast_nonneg _
    generalize ((code.getD a.toNat 0).toNat : Int) = v0 at *
    repeat' first
      | (with_reducible refine is_ops ?_); first
        | refine aops_nil ?_
        | refine aops_cons rfl fun K1 h1 => ?_
        | refine aops_wanted rfl rfl (by first | rfl | assumption) fun K1 h1 => ?_
        | refine aops_unwanted rfl rfl (by first | rfl | assumption) ?_
        | refine aops_skip rfl rfl ?_
        | refine aops_guard rfl rfl (fun hg K1 h1 => ?_) (fun hg => ?_) <;> (try (have hw := hg; simp only [Bool.not_eq_true', Bool.not_eq_false', Bool.not_true, Bool.not_false, decide_eq_true_eq, decide_eq_false_iff_not, Int.not_lt, Int.not_le, Bool.or_eq_true, Bool.or_eq_false_iff, Bool.and_eq_true, Bool.and_eq_false_iff, not_true, not_false_eq_true, ne_eq, Decidable.not_not, reduceCtorEq] at hw)) <;> (try (exfalso; omega))
      | (with_reducible refine is_qs ?_); first
        | refine aqs_nil ?_
        | refine aqs_cons (v := ?_) rfl ?_ ?_
        | refine aqs_wanted (v := ?_) rfl rfl (by first | rfl | assumption) ?_ ?_
        | refine aqs_unwanted rfl rfl (by first | rfl | assumption) ?_
        | refine aqs_skip rfl rfl ?_
        | refine aqs_part rfl rfl (fun hg => ?_) (fun hg => ?_) <;> (try (have hw := hg; simp only [Bool.not_eq_true', Bool.not_eq_false', Bool.not_true, Bool.not_false, decide_eq_true_eq, decide_eq_false_iff_not, Int.not_lt, Int.not_le, Bool.or_eq_true, Bool.or_eq_false_iff, Bool.and_eq_true, Bool.and_eq_false_iff, not_true, not_false_eq_true, ne_eq, Decidable.not_not, reduceCtorEq] at hw)) <;> (try (exfalso; omega))
      | (with_reducible refine is_aw ?_); first
        | refine aw_rs tabOk (fun _ => false) _ rfl rfl ?_
        | refine aw_quiet rfl tabOk (fun _ => false) _ rfl rfl (by decide +kernel) ?_
        | refine aw_quiet_end rfl tabOk (fun _ => false) _ rfl rfl (by decide +kernel) ?_
        | refine aw_region tabOk (fun _ => false) _ rfl rfl ?_
        | refine aw_ret ?_
        | refine aw_skip ?_
        | refine aw_exit ?_
        | refine aw_block ?_
        | refine aw_label ?_
        | refine aw_cond_t rfl (by first | rfl | assumption) ?_
        | refine aw_cond_f rfl (by first | rfl | assumption) ?_
        | refine aw_cond rfl (fun hg => ?_) (fun hg => ?_) <;> (try (have hw := hg; simp only [Bool.not_eq_true', Bool.not_eq_false', Bool.not_true, Bool.not_false, decide_eq_true_eq, decide_eq_false_iff_not, Int.not_lt, Int.not_le, Bool.or_eq_true, Bool.or_eq_false_iff, Bool.and_eq_true, Bool.and_eq_false_iff, not_true, not_false_eq_true, ne_eq, Decidable.not_not, reduceCtorEq] at hw)) <;> (try (exfalso; omega))
        | refine aw_seq fun K hK => ?_
      | (with_reducible refine aPick_t ?_ ?_); first | rfl | assumption
      | (with_reducible refine aPick_f ?_ ?_); first | rfl | assumption
      | (with_reducible refine h1 _ _ ?_); clear h1 K1
      | (with_reducible refine hK _ _ ?_); clear hK K
      | with_reducible refine k_use (by assumption) _ _ ?_
      | with_reducible refine k1_use (by assumption) _ _ ?_
      | (with_reducible refine is_store ?_); first
        | simp only [aStore, go_sem, ↓reduceIte]
      | (with_reducible refine is_load ?_); first
        | simp only [aLoad, go_sem, ↓reduceIte]
      | (with_reducible refine is_alloc ?_); first
        | simp only [aAlloc, go_sem, ↓reduceIte]
      | (with_reducible refine is_box ?_); first
        | simp only [aBox, go_sem, ↓reduceIte]
      | (with_reducible refine is_make ?_); first
        | simp only [aMake, go_sem, ↓reduceIte]
      | (with_reducible refine is_bslice ?_); first
        | simp only [aBuildSlice, go_sem, ↓reduceIte]
      | (with_reducible refine is_conv ?_); first
        | simp only [aConvS, go_sem, ↓reduceIte]
      | (with_reducible refine is_append ?_); first
        | refine Grow.append (by (first | assumption | exact Grow.setNew (by assumption) _ _ | exact Grow.push (by assumption) _ | exact Grow.setNew (Grow.setNew (by assumption) _ _) _ _ | exact Grow.push (Grow.setNew (by assumption) _ _) _)) rfl rfl ⟨rfl, rfl, by decide, rfl⟩ ?_ ?_ ?_ (fun x' σ' hG => ?_)
        | simp only [aAppend, go_sem, ↓reduceIte]
      | (with_reducible refine is_len ?_); first
        | refine Grow.len (by (first | assumption | exact Grow.setNew (by assumption) _ _ | exact Grow.push (by assumption) _ | exact Grow.setNew (Grow.setNew (by assumption) _ _) _ _ | exact Grow.push (Grow.setNew (by assumption) _ _) _)) rfl rfl ?_
        | simp only [aLen, go_sem, ↓reduceIte]
      | (with_reducible refine is_all ?_); rfl
      | with_reducible exact ⟨rfl, rfl⟩
      | with_reducible exact rfl
      | (with_reducible refine And.intro ?_ ?_); · (first | assumption | exact ho | exact St.push_same _ _ | exact St.set_same _ _ _ | (repeat (first | refine obj_push (by first | omega | (simp only [push_next, set_next]; omega)) ?_ | refine obj_set (by first | omega | (simp only [push_next, set_next]; omega)) ?_)); (first | exact St.push_same _ _ | exact St.set_same _ _ _ | assumption) | omega | (simp only [push_objs, push_next, set_objs, set_next, ↓reduceIte]; done) | (simp only [push_objs, push_next, set_objs, set_next, ↓reduceIte]; omega) | rfl | (refine And.intro ?_ ?_ <;> (simp only [push_objs, push_next, set_objs, set_next, ↓reduceIte]; done)))
      | (with_reducible apply ex_and); · (first | assumption | exact ho | exact St.push_same _ _ | exact St.set_same _ _ _ | (repeat (first | refine obj_push (by first | omega | (simp only [push_next, set_next]; omega)) ?_ | refine obj_set (by first | omega | (simp only [push_next, set_next]; omega)) ?_)); (first | exact St.push_same _ _ | exact St.set_same _ _ _ | assumption) | omega | (simp only [push_objs, push_next, set_objs, set_next, ↓reduceIte]; done) | (simp only [push_objs, push_next, set_objs, set_next, ↓reduceIte]; omega) | rfl | (refine And.intro ?_ ?_ <;> (simp only [push_objs, push_next, set_objs, set_next, ↓reduceIte]; done)))
      | simp (disch := omega) only [tdivE, tmodE, tdivN, tmodN, wrapI, wrapU8]
      | simp only [go_sem, ↓reduceIte]
      | (refine is_prop ?_; omega)
    all_goals exact hQ _ _ _ _ ⟨hb0, by omega⟩ ⟨by omega, Int.le_refl _⟩ (fin _)
  · repeat' first
      | (with_reducible refine is_ops ?_); first
        | refine aops_nil ?_
        | refine aops_cons rfl fun K1 h1 => ?_
        | refine aops_wanted rfl rfl (by first | rfl | assumption) fun K1 h1 => ?_
        | refine aops_unwanted rfl rfl (by first | rfl | assumption) ?_
        | refine aops_skip rfl rfl ?_
        | refine aops_guard rfl rfl (fun hg K1 h1 => ?_) (fun hg => ?_) <;> (try (have hw := hg; simp only [Bool.not_eq_true', Bool.not_eq_false', Bool.not_true, Bool.not_false, decide_eq_true_eq, decide_eq_false_iff_not, Int.not_lt, Int.not_le, Bool.or_eq_true, Bool.or_eq_false_iff, Bool.and_eq_true, Bool.and_eq_false_iff, not_true, not_false_eq_true, ne_eq, Decidable.not_not, reduceCtorEq] at hw)) <;> (try (exfalso; omega))
      | (with_reducible refine is_qs ?_); first
        | refine aqs_nil ?_
        | refine aqs_cons (v := ?_) rfl ?_ ?_
        | refine aqs_wanted (v := ?_) rfl rfl (by first | rfl | assumption) ?_ ?_
        | refine aqs_unwanted rfl rfl (by first | rfl | assumption) ?_
        | refine aqs_skip rfl rfl ?_
        | refine aqs_part rfl rfl (fun hg => ?_) (fun hg => ?_) <;> (try (have hw := hg; simp only [Bool.not_eq_true', Bool.not_eq_false', Bool.not_true, Bool.not_false, decide_eq_true_eq, decide_eq_false_iff_not, Int.not_lt, Int.not_le, Bool.or_eq_true, Bool.or_eq_false_iff, Bool.and_eq_true, Bool.and_eq_false_iff, not_true, not_false_eq_true, ne_eq, Decidable.not_not, reduceCtorEq] at hw)) <;> (try (exfalso; omega))
      | (with_reducible refine is_aw ?_); first
        | refine aw_rs tabOk (fun _ => false) _ rfl rfl ?_
        | refine aw_quiet rfl tabOk (fun _ => false) _ rfl rfl (by decide +kernel) ?_
        | refine aw_quiet_end rfl tabOk (fun _ => false) _ rfl rfl (by decide +kernel) ?_
        | refine aw_region tabOk (fun _ => false) _ rfl rfl ?_
        | refine aw_ret ?_
        | refine aw_skip ?_
        | refine aw_exit ?_
        | refine aw_block ?_
        | refine aw_label ?_
        | refine aw_cond_t rfl (by first | rfl | assumption) ?_
        | refine aw_cond_f rfl (by first | rfl | assumption) ?_
        | refine aw_cond rfl (fun hg => ?_) (fun hg => ?_) <;> (try (have hw := hg; simp only [Bool.not_eq_true', Bool.not_eq_false', Bool.not_true, Bool.not_false, decide_eq_true_eq, decide_eq_false_iff_not, Int.not_lt, Int.not_le, Bool.or_eq_true, Bool.or_eq_false_iff, Bool.and_eq_true, Bool.and_eq_false_iff, not_true, not_false_eq_true, ne_eq, Decidable.not_not, reduceCtorEq] at hw)) <;> (try (exfalso; omega))
        | refine aw_seq fun K hK => ?_
      | (with_reducible refine aPick_t ?_ ?_); first | rfl | assumption
      | (with_reducible refine aPick_f ?_ ?_); first | rfl | assumption
      | (with_reducible refine h1 _ _ ?_); clear h1 K1
      | (with_reducible refine hK _ _ ?_); clear hK K
      | with_reducible refine k_use (by assumption) _ _ ?_
      | with_reducible refine k1_use (by assumption) _ _ ?_
      | (with_reducible refine is_store ?_); first
        | simp only [aStore, go_sem, ↓reduceIte]
      | (with_reducible refine is_load ?_); first
        | simp only [aLoad, go_sem, ↓reduceIte]
      | (with_reducible refine is_alloc ?_); first
        | simp only [aAlloc, go_sem, ↓reduceIte]
      | (with_reducible refine is_box ?_); first
        | simp only [aBox, go_sem, ↓reduceIte]
      | (with_reducible refine is_make ?_); first
        | simp only [aMake, go_sem, ↓reduceIte]
      | (with_reducible refine is_bslice ?_); first
        | simp only [aBuildSlice, go_sem, ↓reduceIte]
      | (with_reducible refine is_conv ?_); first
        | simp only [aConvS, go_sem, ↓reduceIte]
      | (with_reducible refine is_append ?_); first
        | refine Grow.append (by (first | assumption | exact Grow.setNew (by assumption) _ _ | exact Grow.push (by assumption) _ | exact Grow.setNew (Grow.setNew (by assumption) _ _) _ _ | exact Grow.push (Grow.setNew (by assumption) _ _) _)) rfl rfl ⟨rfl, rfl, by decide, rfl⟩ ?_ ?_ ?_ (fun x' σ' hG => ?_)
        | simp only [aAppend, go_sem, ↓reduceIte]
      | (with_reducible refine is_len ?_); first
        | refine Grow.len (by (first | assumption | exact Grow.setNew (by assumption) _ _ | exact Grow.push (by assumption) _ | exact Grow.setNew (Grow.setNew (by assumption) _ _) _ _ | exact Grow.push (Grow.setNew (by assumption) _ _) _)) rfl rfl ?_
        | simp only [aLen, go_sem, ↓reduceIte]
      | (with_reducible refine is_all ?_); rfl
      | with_reducible exact ⟨rfl, rfl⟩
      | with_reducible exact rfl
      | (with_reducible refine And.intro ?_ ?_); · (first | assumption | exact ho | exact St.push_same _ _ | exact St.set_same _ _ _ | (repeat (first | refine obj_push (by first | omega | (simp only [push_next, set_next]; omega)) ?_ | refine obj_set (by first | omega | (simp only [push_next, set_next]; omega)) ?_)); (first | exact St.push_same _ _ | exact St.set_same _ _ _ | assumption) | omega | (simp only [push_objs, push_next, set_objs, set_next, ↓reduceIte]; done) | (simp only [push_objs, push_next, set_objs, set_next, ↓reduceIte]; omega) | rfl | (refine And.intro ?_ ?_ <;> (simp only [push_objs, push_next, set_objs, set_next, ↓reduceIte]; done)))
      | (with_reducible apply ex_and); · (first | assumption | exact ho | exact St.push_same _ _ | exact St.set_same _ _ _ | (repeat (first | refine obj_push (by first | omega | (simp only [push_next, set_next]; omega)) ?_ | refine obj_set (by first | omega | (simp only [push_next, set_next]; omega)) ?_)); (first | exact St.push_same _ _ | exact St.set_same _ _ _ | assumption) | omega | (simp only [push_objs, push_next, set_objs, set_next, ↓reduceIte]; done) | (simp only [push_objs, push_next, set_objs, set_next, ↓reduceIte]; omega) | rfl | (refine And.intro ?_ ?_ <;> (simp only [push_objs, push_next, set_objs, set_next, ↓reduceIte]; done)))
      | simp (disch := omega) only [tdivE, tmodE, tdivN, tmodN, wrapI, wrapU8]
      | simp only [go_sem, ↓reduceIte]
      | (refine is_prop ?_; omega)
    all_goals exact hQ _ _ _ _ (iand255 _) ⟨by omega, Int.le_refl _⟩ (fin _)
theorem modB {x m : Int} (h1 : 0 ≤ x) (h2 : x ≤ 65535) (h3 : 1 < m) : 0 ≤ x % m ∧ x % m < m ∧ x % m ≤ 65535 :=
  ⟨Int.emod_nonneg _ (by omega), Int.emod_lt_of_pos _ (by omega), by
    have e1 := Int.mul_ediv_add_emod x m
    have e2 : 0 ≤ m * (x / m) := Int.mul_nonneg (by omega) (Int.ediv_nonneg h1 (by omega))
    omega⟩
theorem Own.ltA (h : Own σ0 X ls τ) {o : Nat} {a : AObj} (hi : ls[i]? = some (.ob o a)) : o < τ.next := (h.hd _ (List.mem_of_getElem? hi)).2
theorem g_next (h : Own σ0 X ls σ) (i : Nat) (hi : ls[i]? = some (srcE so gs b code a s)) (ha : 0 ≤ a ∧ a ≤ 1000000) (hc : code.length ≤ 2000000)
    (hQ : ∀ (v a' s' : Int) σ', (0 ≤ v ∧ v ≤ 255) → (a ≤ a' ∧ a' ≤ a + 1) → Own σ0 X (ls.set i (srcE so gs b code a' s')) σ' → Q (i64 v) σ') : ACall Try.prog 76 [.ptr so gs 0 0] σ Q :=
  c_next (h.at i hi) (Own.ltA h hi) ha hc (fun v a' s' σ' q1 q2 k => hQ v a' s' σ' q1 q2 (h.comp1 hi k (by simp [Ent.ids])))
/-- (*spec.l00Src).pick -/
theorem g_pick (m : Int) (h : Own σ0 X ls σ) (i : Nat) (hi : ls[i]? = some (srcE so gs b code a s)) (ha : 0 ≤ a ∧ a ≤ 999999) (hc : code.length ≤ 2000000)
    (hQ : ∀ (v a' s' : Int) σ', (0 ≤ v ∧ v ≤ 65535 ∧ (v < m ∨ v = 0)) → (a ≤ a' ∧ a' ≤ a + 2) → Own σ0 X (ls.set i (srcE so gs b code a' s')) σ' → Q (i64 v) σ') : ACall Try.prog 54 [.ptr so gs 0 0, i64 m] σ Q := by
  have hil : i < ls.length := (List.getElem?_eq_some_iff.1 hi).1
  have hself : ls.set i (srcE so gs b code a s) = ls := by
    obtain ⟨h1, h2⟩ := List.getElem?_eq_some_iff.1 hi
    rw [← h2, List.set_getElem_self]
  refine acall_intro (N := 20) (rs := [.tmp 4]) T tabOk Try.func54 (by decide +kernel) rfl Try.ntmps54 Try.results54 (by simp) ?_
  repeat' first
    | (with_reducible refine is_ops ?_); first
      | refine aops_nil ?_
      | refine aops_cons rfl fun K1 h1 => ?_
      | refine aops_wanted rfl rfl (by first | rfl | assumption) fun K1 h1 => ?_
      | refine aops_unwanted rfl rfl (by first | rfl | assumption) ?_
      | refine aops_skip rfl rfl ?_
      | refine aops_guard rfl rfl (fun hg K1 h1 => ?_) (fun hg => ?_) <;> (try (have hw := hg; simp only [Bool.not_eq_true', Bool.not_eq_false', Bool.not_true, Bool.not_false, decide_eq_true_eq, decide_eq_false_iff_not, Int.not_lt, Int.not_le, Bool.or_eq_true, Bool.or_eq_false_iff, Bool.and_eq_true, Bool.and_eq_false_iff, not_true, not_false_eq_true, ne_eq, Decidable.not_not, reduceCtorEq] at hw)) <;> (try (exfalso; omega))
    | (with_reducible refine is_qs ?_); first
      | refine aqs_nil ?_
      | refine aqs_cons (v := ?_) rfl ?_ ?_
      | refine aqs_wanted (v := ?_) rfl rfl (by first | rfl | assumption) ?_ ?_
      | refine aqs_unwanted rfl rfl (by first | rfl | assumption) ?_
      | refine aqs_skip rfl rfl ?_
      | refine aqs_part rfl rfl (fun hg => ?_) (fun hg => ?_) <;> (try (have hw := hg; simp only [Bool.not_eq_true', Bool.not_eq_false', Bool.not_true, Bool.not_false, decide_eq_true_eq, decide_eq_false_iff_not, Int.not_lt, Int.not_le, Bool.or_eq_true, Bool.or_eq_false_iff, Bool.and_eq_true, Bool.and_eq_false_iff, not_true, not_false_eq_true, ne_eq, Decidable.not_not, reduceCtorEq] at hw)) <;> (try (exfalso; omega))
    | (with_reducible refine is_aw ?_); first
      | refine aw_rs tabOk (fun _ => false) _ rfl rfl ?_
      | refine aw_quiet rfl tabOk (fun _ => false) _ rfl rfl (by decide +kernel) ?_
      | refine aw_quiet_end rfl tabOk (fun _ => false) _ rfl rfl (by decide +kernel) ?_
      | refine aw_region tabOk (fun _ => false) _ rfl rfl ?_
      | refine aw_ret ?_
      | refine aw_skip ?_
      | refine aw_exit ?_
      | refine aw_block ?_
      | refine aw_label ?_
      | refine aw_cond_t rfl (by first | rfl | assumption) ?_
      | refine aw_cond_f rfl (by first | rfl | assumption) ?_
      | refine aw_cond rfl (fun hg => ?_) (fun hg => ?_) <;> (try (have hw := hg; simp only [Bool.not_eq_true', Bool.not_eq_false', Bool.not_true, Bool.not_false, decide_eq_true_eq, decide_eq_false_iff_not, Int.not_lt, Int.not_le, Bool.or_eq_true, Bool.or_eq_false_iff, Bool.and_eq_true, Bool.and_eq_false_iff, not_true, not_false_eq_true, ne_eq, Decidable.not_not, reduceCtorEq] at hw)) <;> (try (exfalso; omega))
      | refine aw_seq fun K hK => ?_
    | (with_reducible refine aPick_t ?_ ?_); first | rfl | assumption
    | (with_reducible refine aPick_f ?_ ?_); first | rfl | assumption
    | (with_reducible refine h1 _ _ ?_); clear h1 K1
    | (with_reducible refine hK _ _ ?_); clear hK K
    | with_reducible refine k_use (by assumption) _ _ ?_
    | with_reducible refine k1_use (by assumption) _ _ ?_
    | (with_reducible refine is_call ?_); first
      | refine g_next h i hi (by omega) hc (fun v1 a1 s1 σ1 p1 p2 p3 => ?_)
      | refine g_next p3 i (List.getElem?_set_self hil) (by omega) hc (fun v2 a2 s2 σ2 q1 q2 q3 => ?_)
    | (with_reducible refine is_store ?_); first
      | simp only [aStore, go_sem, ↓reduceIte]
    | (with_reducible refine is_load ?_); first
      | simp only [aLoad, go_sem, ↓reduceIte]
    | (with_reducible refine is_alloc ?_); first
      | simp only [aAlloc, go_sem, ↓reduceIte]
    | (with_reducible refine is_box ?_); first
      | simp only [aBox, go_sem, ↓reduceIte]
    | (with_reducible refine is_make ?_); first
      | simp only [aMake, go_sem, ↓reduceIte]
    | (with_reducible refine is_bslice ?_); first
      | simp only [aBuildSlice, go_sem, ↓reduceIte]
    | (with_reducible refine is_conv ?_); first
      | simp only [aConvS, go_sem, ↓reduceIte]
    | (with_reducible refine is_append ?_); first
      | refine Grow.append (by (first | assumption | exact Grow.setNew (by assumption) _ _ | exact Grow.push (by assumption) _ | exact Grow.setNew (Grow.setNew (by assumption) _ _) _ _ | exact Grow.push (Grow.setNew (by assumption) _ _) _)) rfl rfl ⟨rfl, rfl, by decide, rfl⟩ ?_ ?_ ?_ (fun x' σ' hG => ?_)
      | simp only [aAppend, go_sem, ↓reduceIte]
    | (with_reducible refine is_len ?_); first
      | refine Grow.len (by (first | assumption | exact Grow.setNew (by assumption) _ _ | exact Grow.push (by assumption) _ | exact Grow.setNew (Grow.setNew (by assumption) _ _) _ _ | exact Grow.push (Grow.setNew (by assumption) _ _) _)) rfl rfl ?_
      | simp only [aLen, go_sem, ↓reduceIte]
    | (with_reducible refine is_all ?_); rfl
    | with_reducible exact ⟨rfl, rfl⟩
    | with_reducible exact rfl
    | (with_reducible refine And.intro ?_ ?_); · (first | assumption | exact St.push_same _ _ | exact St.set_same _ _ _ | (repeat (first | refine obj_push (by first | omega | (simp only [push_next, set_next]; omega)) ?_ | refine obj_set (by first | omega | (simp only [push_next, set_next]; omega)) ?_)); (first | exact St.push_same _ _ | exact St.set_same _ _ _ | assumption) | omega | (simp only [push_objs, push_next, set_objs, set_next, ↓reduceIte]; done) | (simp only [push_objs, push_next, set_objs, set_next, ↓reduceIte]; omega) | rfl | (refine And.intro ?_ ?_ <;> (simp only [push_objs, push_next, set_objs, set_next, ↓reduceIte]; done)))
    | (with_reducible apply ex_and); · (first | assumption | exact St.push_same _ _ | exact St.set_same _ _ _ | (repeat (first | refine obj_push (by first | omega | (simp only [push_next, set_next]; omega)) ?_ | refine obj_set (by first | omega | (simp only [push_next, set_next]; omega)) ?_)); (first | exact St.push_same _ _ | exact St.set_same _ _ _ | assumption) | omega | (simp only [push_objs, push_next, set_objs, set_next, ↓reduceIte]; done) | (simp only [push_objs, push_next, set_objs, set_next, ↓reduceIte]; omega) | rfl | (refine And.intro ?_ ?_ <;> (simp only [push_objs, push_next, set_objs, set_next, ↓reduceIte]; done)))
    | simp (disch := omega) only [tdivE, tmodE, tdivN, tmodN, wrapI, wrapU8]
    | simp only [go_sem, ↓reduceIte]
    | (refine is_prop ?_; omega)
  · exact hQ 0 a s _ ⟨by omega, by omega, .inr rfl⟩ (by omega) (by rw [hself]; exact h)
  · obtain ⟨b1, b2, b3⟩ := modB (x := v1 * 256 + v2) (m := m) (by omega) (by omega) (by omega)
    rw [List.set_set] at q3
    exact hQ _ _ _ _ ⟨b1, b3, .inl b2⟩ (by omega) q3
  · obtain ⟨b1, b2, b3⟩ := modB (x := v1) (m := m) (by omega) (by omega) (by omega)
    exact hQ _ _ _ _ ⟨b1, b3, .inl b2⟩ (by omega) p3
/-- (*spec.l00Src).one -/
theorem g_one (m : Int) (h : Own σ0 X ls σ) (i : Nat) (hi : ls[i]? = some (srcE so gs b code a s)) (ha : 0 ≤ a ∧ a ≤ 999999) (hc : code.length ≤ 2000000)
    (hQ : ∀ (v : Bool) (a' s' : Int) σ', (a ≤ a' ∧ a' ≤ a + 2) → Own σ0 X (ls.set i (srcE so gs b code a' s')) σ' → Q (bl v) σ') : ACall Try.prog 52 [.ptr so gs 0 0, i64 m] σ Q := by
  refine acall_intro (N := 9) (rs := [.tmp 4]) T tabOk Try.func52 (by decide +kernel) rfl Try.ntmps52 Try.results52 (by simp) ?_
  repeat' first
    | (with_reducible refine is_ops ?_); first
      | refine aops_nil ?_
      | refine aops_cons rfl fun K1 h1 => ?_
      | refine aops_wanted rfl rfl (by first | rfl | assumption) fun K1 h1 => ?_
      | refine aops_unwanted rfl rfl (by first | rfl | assumption) ?_
      | refine aops_skip rfl rfl ?_
      | refine aops_guard rfl rfl (fun hg K1 h1 => ?_) (fun hg => ?_) <;> (try (have hw := hg; simp only [Bool.not_eq_true', Bool.not_eq_false', Bool.not_true, Bool.not_false, decide_eq_true_eq, decide_eq_false_iff_not, Int.not_lt, Int.not_le, Bool.or_eq_true, Bool.or_eq_false_iff, Bool.and_eq_true, Bool.and_eq_false_iff, not_true, not_false_eq_true, ne_eq, Decidable.not_not, reduceCtorEq] at hw)) <;> (try (exfalso; omega))
    | (with_reducible refine is_qs ?_); first
      | refine aqs_nil ?_
      | refine aqs_cons (v := ?_) rfl ?_ ?_
      | refine aqs_wanted (v := ?_) rfl rfl (by first | rfl | assumption) ?_ ?_
      | refine aqs_unwanted rfl rfl (by first | rfl | assumption) ?_
      | refine aqs_skip rfl rfl ?_
      | refine aqs_part rfl rfl (fun hg => ?_) (fun hg => ?_) <;> (try (have hw := hg; simp only [Bool.not_eq_true', Bool.not_eq_false', Bool.not_true, Bool.not_false, decide_eq_true_eq, decide_eq_false_iff_not, Int.not_lt, Int.not_le, Bool.or_eq_true, Bool.or_eq_false_iff, Bool.and_eq_true, Bool.and_eq_false_iff, not_true, not_false_eq_true, ne_eq, Decidable.not_not, reduceCtorEq] at hw)) <;> (try (exfalso; omega))
    | (with_reducible refine is_aw ?_); first
      | refine aw_rs tabOk (fun _ => false) _ rfl rfl ?_
      | refine aw_quiet rfl tabOk (fun _ => false) _ rfl rfl (by decide +kernel) ?_
      | refine aw_quiet_end rfl tabOk (fun _ => false) _ rfl rfl (by decide +kernel) ?_
      | refine aw_region tabOk (fun _ => false) _ rfl rfl ?_
      | refine aw_ret ?_
      | refine aw_skip ?_
      | refine aw_exit ?_
      | refine aw_block ?_
      | refine aw_label ?_
      | refine aw_cond_t rfl (by first | rfl | assumption) ?_
      | refine aw_cond_f rfl (by first | rfl | assumption) ?_
      | refine aw_cond rfl (fun hg => ?_) (fun hg => ?_) <;> (try (have hw := hg; simp only [Bool.not_eq_true', Bool.not_eq_false', Bool.not_true, Bool.not_false, decide_eq_true_eq, decide_eq_false_iff_not, Int.not_lt, Int.not_le, Bool.or_eq_true, Bool.or_eq_false_iff, Bool.and_eq_true, Bool.and_eq_false_iff, not_true, not_false_eq_true, ne_eq, Decidable.not_not, reduceCtorEq] at hw)) <;> (try (exfalso; omega))
      | refine aw_seq fun K hK => ?_
    | (with_reducible refine aPick_t ?_ ?_); first | rfl | assumption
    | (with_reducible refine aPick_f ?_ ?_); first | rfl | assumption
    | (with_reducible refine h1 _ _ ?_); clear h1 K1
    | (with_reducible refine hK _ _ ?_); clear hK K
    | with_reducible refine k_use (by assumption) _ _ ?_
    | with_reducible refine k1_use (by assumption) _ _ ?_
    | (with_reducible refine is_call ?_); first
      | refine g_pick _ h i hi (by omega) hc (fun v a1 s1 σ1 q1 q2 q3 => ?_)
    | (with_reducible refine is_store ?_); first
      | simp only [aStore, go_sem, ↓reduceIte]
    | (with_reducible refine is_load ?_); first
      | simp only [aLoad, go_sem, ↓reduceIte]
    | (with_reducible refine is_alloc ?_); first
      | simp only [aAlloc, go_sem, ↓reduceIte]
    | (with_reducible refine is_box ?_); first
      | simp only [aBox, go_sem, ↓reduceIte]
    | (with_reducible refine is_make ?_); first
      | simp only [aMake, go_sem, ↓reduceIte]
    | (with_reducible refine is_bslice ?_); first
      | simp only [aBuildSlice, go_sem, ↓reduceIte]
    | (with_reducible refine is_conv ?_); first
      | simp only [aConvS, go_sem, ↓reduceIte]
    | (with_reducible refine is_append ?_); first
      | refine Grow.append (by (first | assumption | exact Grow.setNew (by assumption) _ _ | exact Grow.push (by assumption) _ | exact Grow.setNew (Grow.setNew (by assumption) _ _) _ _ | exact Grow.push (Grow.setNew (by assumption) _ _) _)) rfl rfl ⟨rfl, rfl, by decide, rfl⟩ ?_ ?_ ?_ (fun x' σ' hG => ?_)
      | simp only [aAppend, go_sem, ↓reduceIte]
    | (with_reducible refine is_len ?_); first
      | refine Grow.len (by (first | assumption | exact Grow.setNew (by assumption) _ _ | exact Grow.push (by assumption) _ | exact Grow.setNew (Grow.setNew (by assumption) _ _) _ _ | exact Grow.push (Grow.setNew (by assumption) _ _) _)) rfl rfl ?_
      | simp only [aLen, go_sem, ↓reduceIte]
    | (with_reducible refine is_all ?_); rfl
    | with_reducible exact ⟨rfl, rfl⟩
    | with_reducible exact rfl
    | (with_reducible refine And.intro ?_ ?_); · (first | assumption | exact St.push_same _ _ | exact St.set_same _ _ _ | (repeat (first | refine obj_push (by first | omega | (simp only [push_next, set_next]; omega)) ?_ | refine obj_set (by first | omega | (simp only [push_next, set_next]; omega)) ?_)); (first | exact St.push_same _ _ | exact St.set_same _ _ _ | assumption) | omega | (simp only [push_objs, push_next, set_objs, set_next, ↓reduceIte]; done) | (simp only [push_objs, push_next, set_objs, set_next, ↓reduceIte]; omega) | rfl | (refine And.intro ?_ ?_ <;> (simp only [push_objs, push_next, set_objs, set_next, ↓reduceIte]; done)))
    | (with_reducible apply ex_and); · (first | assumption | exact St.push_same _ _ | exact St.set_same _ _ _ | (repeat (first | refine obj_push (by first | omega | (simp only [push_next, set_next]; omega)) ?_ | refine obj_set (by first | omega | (simp only [push_next, set_next]; omega)) ?_)); (first | exact St.push_same _ _ | exact St.set_same _ _ _ | assumption) | omega | (simp only [push_objs, push_next, set_objs, set_next, ↓reduceIte]; done) | (simp only [push_objs, push_next, set_objs, set_next, ↓reduceIte]; omega) | rfl | (refine And.intro ?_ ?_ <;> (simp only [push_objs, push_next, set_objs, set_next, ↓reduceIte]; done)))
    | simp (disch := omega) only [tdivE, tmodE, tdivN, tmodN, wrapI, wrapU8]
    | simp only [go_sem, ↓reduceIte]
    | (refine is_prop ?_; omega)
  all_goals exact hQ _ _ _ _ q2 q3
/-- (*spec.l00Src).among -/
theorem g_among (xs : List Int) (c : Bool) (hx : 0 < xs.length ∧ xs.length ≤ 1000) (h : Own σ0 X ls σ) (i : Nat) (hi : ls[i]? = some (srcE so gs b code a s)) (ha : 0 ≤ a ∧ a ≤ 999999) (hc : code.length ≤ 2000000)
    (hQ : ∀ (v a' s' : Int) σ', v ∈ xs → (a ≤ a' ∧ a' ≤ a + 2) → Own σ0 X (ls.set i (srcE so gs b code a' s')) σ' → Q (i64 v) σ') : ACall Try.prog 34 [.ptr so gs 0 0, .lst c 1 (xs.map i64)] σ Q := by
  refine acall_intro (N := 12) (rs := [.tmp 4]) T tabOk Try.func34 (by decide +kernel) rfl Try.ntmps34 Try.results34 (by simp) ?_
  have hat : ∀ v : Int, (0 ≤ v ∧ v ≤ 65535 ∧ (v < xs.length ∨ v = 0)) → (xs.map i64)[v.toNat]? = some (i64 (xs.getD v.toNat 0)) := fun v hv => by
    have : v.toNat < xs.length := by omega
    simp [this]
  have hmem : ∀ v : Int, (0 ≤ v ∧ v ≤ 65535 ∧ (v < xs.length ∨ v = 0)) → xs.getD v.toNat 0 ∈ xs := fun v hv => by
    have : v.toNat < xs.length := by omega
    simp [this]
  repeat' first
    | (with_reducible refine is_ops ?_); first
      | refine aops_nil ?_
      | refine aops_cons rfl fun K1 h1 => ?_
      | refine aops_wanted rfl rfl (by first | rfl | assumption) fun K1 h1 => ?_
      | refine aops_unwanted rfl rfl (by first | rfl | assumption) ?_
      | refine aops_skip rfl rfl ?_
      | refine aops_guard rfl rfl (fun hg K1 h1 => ?_) (fun hg => ?_) <;> (try (have hw := hg; simp only [Bool.not_eq_true', Bool.not_eq_false', Bool.not_true, Bool.not_false, decide_eq_true_eq, decide_eq_false_iff_not, Int.not_lt, Int.not_le, Bool.or_eq_true, Bool.or_eq_false_iff, Bool.and_eq_true, Bool.and_eq_false_iff, not_true, not_false_eq_true, ne_eq, Decidable.not_not, reduceCtorEq] at hw)) <;> (try (exfalso; omega))
    | (with_reducible refine is_qs ?_); first
      | refine aqs_nil ?_
      | refine aqs_cons (v := ?_) rfl ?_ ?_
      | refine aqs_wanted (v := ?_) rfl rfl (by first | rfl | assumption) ?_ ?_
      | refine aqs_unwanted rfl rfl (by first | rfl | assumption) ?_
      | refine aqs_skip rfl rfl ?_
      | refine aqs_part rfl rfl (fun hg => ?_) (fun hg => ?_) <;> (try (have hw := hg; simp only [Bool.not_eq_true', Bool.not_eq_false', Bool.not_true, Bool.not_false, decide_eq_true_eq, decide_eq_false_iff_not, Int.not_lt, Int.not_le, Bool.or_eq_true, Bool.or_eq_false_iff, Bool.and_eq_true, Bool.and_eq_false_iff, not_true, not_false_eq_true, ne_eq, Decidable.not_not, reduceCtorEq] at hw)) <;> (try (exfalso; omega))
    | (with_reducible refine is_aw ?_); first
      | refine aw_rs tabOk (fun _ => false) _ rfl rfl ?_
      | refine aw_quiet rfl tabOk (fun _ => false) _ rfl rfl (by decide +kernel) ?_
      | refine aw_quiet_end rfl tabOk (fun _ => false) _ rfl rfl (by decide +kernel) ?_
      | refine aw_region tabOk (fun _ => false) _ rfl rfl ?_
      | refine aw_ret ?_
      | refine aw_skip ?_
      | refine aw_exit ?_
      | refine aw_block ?_
      | refine aw_label ?_
      | refine aw_cond_t rfl (by first | rfl | assumption) ?_
      | refine aw_cond_f rfl (by first | rfl | assumption) ?_
      | refine aw_cond rfl (fun hg => ?_) (fun hg => ?_) <;> (try (have hw := hg; simp only [Bool.not_eq_true', Bool.not_eq_false', Bool.not_true, Bool.not_false, decide_eq_true_eq, decide_eq_false_iff_not, Int.not_lt, Int.not_le, Bool.or_eq_true, Bool.or_eq_false_iff, Bool.and_eq_true, Bool.and_eq_false_iff, not_true, not_false_eq_true, ne_eq, Decidable.not_not, reduceCtorEq] at hw)) <;> (try (exfalso; omega))
      | refine aw_seq fun K hK => ?_
    | (with_reducible refine aPick_t ?_ ?_); first | rfl | assumption
    | (with_reducible refine aPick_f ?_ ?_); first | rfl | assumption
    | (with_reducible refine h1 _ _ ?_); clear h1 K1
    | (with_reducible refine hK _ _ ?_); clear hK K
    | with_reducible refine k_use (by assumption) _ _ ?_
    | with_reducible refine k1_use (by assumption) _ _ ?_
    | (with_reducible refine is_call ?_); first
      | refine g_pick _ h i hi (by omega) hc (fun v a1 s1 σ1 q1 q2 q3 => ?_)
    | (with_reducible refine is_store ?_); first
      | simp only [aStore, go_sem, ↓reduceIte]
    | (with_reducible refine is_load ?_); first
      | simp only [aLoad, go_sem, ↓reduceIte]
    | (with_reducible refine is_alloc ?_); first
      | simp only [aAlloc, go_sem, ↓reduceIte]
    | (with_reducible refine is_box ?_); first
      | simp only [aBox, go_sem, ↓reduceIte]
    | (with_reducible refine is_make ?_); first
      | simp only [aMake, go_sem, ↓reduceIte]
    | (with_reducible refine is_bslice ?_); first
      | simp only [aBuildSlice, go_sem, ↓reduceIte]
    | (with_reducible refine is_conv ?_); first
      | simp only [aConvS, go_sem, ↓reduceIte]
    | (with_reducible refine is_append ?_); first
      | refine Grow.append (by (first | assumption | exact Grow.setNew (by assumption) _ _ | exact Grow.push (by assumption) _ | exact Grow.setNew (Grow.setNew (by assumption) _ _) _ _ | exact Grow.push (Grow.setNew (by assumption) _ _) _)) rfl rfl ⟨rfl, rfl, by decide, rfl⟩ ?_ ?_ ?_ (fun x' σ' hG => ?_)
      | simp only [aAppend, go_sem, ↓reduceIte]
    | (with_reducible refine is_len ?_); first
      | refine Grow.len (by (first | assumption | exact Grow.setNew (by assumption) _ _ | exact Grow.push (by assumption) _ | exact Grow.setNew (Grow.setNew (by assumption) _ _) _ _ | exact Grow.push (Grow.setNew (by assumption) _ _) _)) rfl rfl ?_
      | simp only [aLen, go_sem, ↓reduceIte]
    | (with_reducible refine is_all ?_); rfl
    | with_reducible exact ⟨rfl, rfl⟩
    | with_reducible exact rfl
    | (with_reducible refine And.intro ?_ ?_); · (first | assumption | exact hat _ q1 | exact St.push_same _ _ | exact St.set_same _ _ _ | (repeat (first | refine obj_push (by first | omega | (simp only [push_next, set_next]; omega)) ?_ | refine obj_set (by first | omega | (simp only [push_next, set_next]; omega)) ?_)); (first | exact St.push_same _ _ | exact St.set_same _ _ _ | assumption) | omega | (simp only [push_objs, push_next, set_objs, set_next, ↓reduceIte]; done) | (simp only [push_objs, push_next, set_objs, set_next, ↓reduceIte]; omega) | rfl | (refine And.intro ?_ ?_ <;> (simp only [push_objs, push_next, set_objs, set_next, ↓reduceIte]; done)))
    | (with_reducible apply ex_and); · (first | assumption | exact hat _ q1 | exact St.push_same _ _ | exact St.set_same _ _ _ | (repeat (first | refine obj_push (by first | omega | (simp only [push_next, set_next]; omega)) ?_ | refine obj_set (by first | omega | (simp only [push_next, set_next]; omega)) ?_)); (first | exact St.push_same _ _ | exact St.set_same _ _ _ | assumption) | omega | (simp only [push_objs, push_next, set_objs, set_next, ↓reduceIte]; done) | (simp only [push_objs, push_next, set_objs, set_next, ↓reduceIte]; omega) | rfl | (refine And.intro ?_ ?_ <;> (simp only [push_objs, push_next, set_objs, set_next, ↓reduceIte]; done)))
    | simp (disch := omega) only [tdivE, tmodE, tdivN, tmodN, wrapI, wrapU8]
    | simp only [go_sem, ↓reduceIte]
    | (refine is_prop ?_; omega)
  all_goals exact hQ _ _ _ _ (hmem _ q1) q2 q3
/-- spec.l00From -/
theorem g_from (b : Bool) (code : List UInt8) (h : Own σ0 X ls σ) (hQ : ∀ (so : Nat) (σ' : St), Own σ0 X (ls ++ [srcE so 0 b code 0 0]) σ' → Q (.ptr so 0 0 0) σ') :
    ACall Try.prog 24 [.lst b 1 (code.map byteAV)] σ Q := by
  refine acall_intro (N := 6) (rs := [.tmp 2]) T tabOk Try.func24 (by decide +kernel) rfl Try.ntmps24 Try.results24 (by simp) ?_
  repeat' first
    | (with_reducible refine is_ops ?_); first
      | refine aops_nil ?_
      | refine aops_cons rfl fun K1 h1 => ?_
      | refine aops_wanted rfl rfl (by first | rfl | assumption) fun K1 h1 => ?_
      | refine aops_unwanted rfl rfl (by first | rfl | assumption) ?_
      | refine aops_skip rfl rfl ?_
      | refine aops_guard rfl rfl (fun hg K1 h1 => ?_) (fun hg => ?_) <;> (try (have hw := hg; simp only [Bool.not_eq_true', Bool.not_eq_false', Bool.not_true, Bool.not_false, decide_eq_true_eq, decide_eq_false_iff_not, Int.not_lt, Int.not_le, Bool.or_eq_true, Bool.or_eq_false_iff, Bool.and_eq_true, Bool.and_eq_false_iff, not_true, not_false_eq_true, ne_eq, Decidable.not_not, reduceCtorEq] at hw)) <;> (try (exfalso; omega))
    | (with_reducible refine is_qs ?_); first
      | refine aqs_nil ?_
      | refine aqs_cons (v := ?_) rfl ?_ ?_
      | refine aqs_wanted (v := ?_) rfl rfl (by first | rfl | assumption) ?_ ?_
      | refine aqs_unwanted rfl rfl (by first | rfl | assumption) ?_
      | refine aqs_skip rfl rfl ?_
      | refine aqs_part rfl rfl (fun hg => ?_) (fun hg => ?_) <;> (try (have hw := hg; simp only [Bool.not_eq_true', Bool.not_eq_false', Bool.not_true, Bool.not_false, decide_eq_true_eq, decide_eq_false_iff_not, Int.not_lt, Int.not_le, Bool.or_eq_true, Bool.or_eq_false_iff, Bool.and_eq_true, Bool.and_eq_false_iff, not_true, not_false_eq_true, ne_eq, Decidable.not_not, reduceCtorEq] at hw)) <;> (try (exfalso; omega))
    | (with_reducible refine is_aw ?_); first
      | refine aw_rs tabOk (fun t => if t = 5 then true else false) _ rfl rfl ?_
      | refine aw_quiet rfl tabOk (fun t => if t = 5 then true else false) _ rfl rfl (by decide +kernel) ?_
      | refine aw_quiet_end rfl tabOk (fun t => if t = 5 then true else false) _ rfl rfl (by decide +kernel) ?_
      | refine aw_region tabOk (fun t => if t = 5 then true else false) _ rfl rfl ?_
      | refine aw_ret ?_
      | refine aw_skip ?_
      | refine aw_exit ?_
      | refine aw_block ?_
      | refine aw_label ?_
      | refine aw_cond_t rfl (by first | rfl | assumption) ?_
      | refine aw_cond_f rfl (by first | rfl | assumption) ?_
      | refine aw_cond rfl (fun hg => ?_) (fun hg => ?_) <;> (try (have hw := hg; simp only [Bool.not_eq_true', Bool.not_eq_false', Bool.not_true, Bool.not_false, decide_eq_true_eq, decide_eq_false_iff_not, Int.not_lt, Int.not_le, Bool.or_eq_true, Bool.or_eq_false_iff, Bool.and_eq_true, Bool.and_eq_false_iff, not_true, not_false_eq_true, ne_eq, Decidable.not_not, reduceCtorEq] at hw)) <;> (try (exfalso; omega))
      | refine aw_seq fun K hK => ?_
    | (with_reducible refine aPick_t ?_ ?_); first | rfl | assumption
    | (with_reducible refine aPick_f ?_ ?_); first | rfl | assumption
    | (with_reducible refine h1 _ _ ?_); clear h1 K1
    | (with_reducible refine hK _ _ ?_); clear hK K
    | with_reducible refine k_use (by assumption) _ _ ?_
    | with_reducible refine k1_use (by assumption) _ _ ?_
    | (with_reducible refine is_store ?_); first
      | simp only [aStore, go_sem, ↓reduceIte]
    | (with_reducible refine is_load ?_); first
      | simp only [aLoad, go_sem, ↓reduceIte]
    | (with_reducible refine is_alloc ?_); first
      | simp only [aAlloc, go_sem, ↓reduceIte]
    | (with_reducible refine is_box ?_); first
      | refine own_box h rfl rfl ⟨by decide, rfl⟩ (fun σ' o k => ?_)
      | simp only [aBox, go_sem, ↓reduceIte]
    | (with_reducible refine is_make ?_); first
      | simp only [aMake, go_sem, ↓reduceIte]
    | (with_reducible refine is_bslice ?_); first
      | simp only [aBuildSlice, go_sem, ↓reduceIte]
    | (with_reducible refine is_conv ?_); first
      | simp only [aConvS, go_sem, ↓reduceIte]
    | (with_reducible refine is_append ?_); first
      | refine Grow.append (by (first | assumption | exact Grow.setNew (by assumption) _ _ | exact Grow.push (by assumption) _ | exact Grow.setNew (Grow.setNew (by assumption) _ _) _ _ | exact Grow.push (Grow.setNew (by assumption) _ _) _)) rfl rfl ⟨rfl, rfl, by decide, rfl⟩ ?_ ?_ ?_ (fun x' σ' hG => ?_)
      | simp only [aAppend, go_sem, ↓reduceIte]
    | (with_reducible refine is_len ?_); first
      | refine Grow.len (by (first | assumption | exact Grow.setNew (by assumption) _ _ | exact Grow.push (by assumption) _ | exact Grow.setNew (Grow.setNew (by assumption) _ _) _ _ | exact Grow.push (Grow.setNew (by assumption) _ _) _)) rfl rfl ?_
      | simp only [aLen, go_sem, ↓reduceIte]
    | (with_reducible refine is_all ?_); rfl
    | with_reducible exact ⟨rfl, rfl⟩
    | with_reducible exact rfl
    | (with_reducible refine And.intro ?_ ?_); · (first | assumption | exact St.push_same _ _ | exact St.set_same _ _ _ | (repeat (first | refine obj_push (by first | omega | (simp only [push_next, set_next]; omega)) ?_ | refine obj_set (by first | omega | (simp only [push_next, set_next]; omega)) ?_)); (first | exact St.push_same _ _ | exact St.set_same _ _ _ | assumption) | omega | (simp only [push_objs, push_next, set_objs, set_next, ↓reduceIte]; done) | (simp only [push_objs, push_next, set_objs, set_next, ↓reduceIte]; omega) | rfl | (refine And.intro ?_ ?_ <;> (simp only [push_objs, push_next, set_objs, set_next, ↓reduceIte]; done)))
    | (with_reducible apply ex_and); · (first | assumption | exact St.push_same _ _ | exact St.set_same _ _ _ | (repeat (first | refine obj_push (by first | omega | (simp only [push_next, set_next]; omega)) ?_ | refine obj_set (by first | omega | (simp only [push_next, set_next]; omega)) ?_)); (first | exact St.push_same _ _ | exact St.set_same _ _ _ | assumption) | omega | (simp only [push_objs, push_next, set_objs, set_next, ↓reduceIte]; done) | (simp only [push_objs, push_next, set_objs, set_next, ↓reduceIte]; omega) | rfl | (refine And.intro ?_ ?_ <;> (simp only [push_objs, push_next, set_objs, set_next, ↓reduceIte]; done)))
    | simp (disch := omega) only [tdivE, tmodE, tdivN, tmodN, wrapI, wrapU8]
    | simp only [go_sem, ↓reduceIte]
    | (refine is_prop ?_; omega)
  all_goals exact hQ _ _ k
end Go.Proofs.Ytamielbdedbnaaa
