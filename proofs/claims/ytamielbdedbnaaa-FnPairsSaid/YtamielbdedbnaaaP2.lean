/- The plain law of groups that go, and of the best pairs. -/
import Derived.Test.YtamielbdedbnaaaP1
import Derived.Test.YtamielbdedbnaaaW10
set_option linter.unusedSimpArgs false
set_option linter.unusedVariables false
namespace Go.Proofs.Ytamielbdedbnaaa
open Go.Ab Go.RowKit
theorem best_ok {l : List Grp} {lv bu : Int} (h : bestC l lv bu = 0) : MW l.length (bestS l lv bu).best ∧ (bestS l lv bu).most = tot l lv (bestS l lv bu).best l.length ∧ sumA l lv [] l.length ≤ (bestS l lv bu).most ∧ gsOk l = true ∧ inR lv 1 5 = true := by
  unfold bestC at h
  cases q1 : gsOk l with
  | false => rw [q1] at h; simp at h
  | true =>
    cases q2 : (!inR lv 1 5 || !inR bu 1 20000) with
    | true => rw [q1, q2] at h; simp at h
    | false =>
      rw [q1, q2] at h
      have hb : ¬ (bestS l lv bu).bud < 0 := fun hq => by simp [hq] at h
      have h8 := gsOk_len q1
      simp only [Bool.or_eq_false_iff, Bool.not_eq_false'] at q2
      have hbu : 1 ≤ bu ∧ bu ≤ 20000 := by have := q2.2; simp only [inR, decide_eq_true_eq] at this; exact this
      have hw0 : SW l ⟨bu, List.replicate l.length false, [], [], -1⟩ := ⟨by simp, by simp, by simp, by simp⟩
      have hp0 : PV l lv ⟨bu, List.replicate l.length false, [], [], -1⟩ 0 0 := ⟨⟨by simp, by simp, by simp⟩, by simp, fun k hk => by simp [List.getElem?_replicate, hk], by simp [tot, sumA], by simp⟩
      have hnb : nB (l.length + 1) ≤ 500000000 := by
        have : l.length = 0 ∨ l.length = 1 ∨ l.length = 2 ∨ l.length = 3 ∨ l.length = 4 ∨ l.length = 5 ∨ l.length = 6 ∨ l.length = 7 ∨ l.length = 8 := by omega
        rcases this with e | e | e | e | e | e | e | e | e <;> rw [e] <;> decide
      obtain ⟨r1, r2, r3, r4, r5⟩ := vis_ok (lv := lv) h8 (l.length + 1) ⟨bu, List.replicate l.length false, [], [], -1⟩ 0 0 hw0 (Nat.zero_le _) hp0 (.inl ⟨rfl, rfl⟩) (by show _ ≤ bu ∧ bu ≤ _; omega) (by omega) (Nat.zero_le _)
      change BI l lv (bestS l lv bu) at r1
      have r5' := r5 (Int.not_lt.1 hb)
      change 0 + (sumA l lv [] l.length - 0) ≤ (bestS l lv bu).most at r5'
      have hs : ∀ n, 0 ≤ sumA l lv [] n := by
        intro n
        induction n with
        | zero => exact Int.le_refl _
        | succ n ih => have := gVal_le lv (gAt l n); simp only [sumA]; split <;> omega
      have := hs l.length
      rcases r1 with ⟨_, r1⟩ | ⟨m1, m2⟩
      · omega
      · exact ⟨m1, m2, by omega, rfl, q2.1⟩
theorem best_len {l : List Grp} {lv bu : Int} (h8 : l.length ≤ 8) : (bestS l lv bu).best.length ≤ 8 :=
  (visS_keep l lv h8 (l.length + 1) ⟨bu, List.replicate l.length false, [], [], -1⟩ 0 0 ⟨by simp, by simp, by simp, by simp⟩ (Nat.zero_le _) (Nat.zero_le _)).1.bl
theorem sumA_le {l : List Grp} {lv : Int} {F : List Int} : ∀ n, 0 ≤ sumA l lv F n ∧ sumA l lv F n ≤ 30 * n
  | 0 => by simp [sumA]
  | n + 1 => by have := sumA_le (l := l) (lv := lv) (F := F) n; have := gVal_le lv (gAt l n); simp only [sumA]; split <;> omega
theorem sumP_le {l : List Grp} {lv : Int} : ∀ ps : List (List Int), 0 ≤ (ps.map (vPair l lv)).sum ∧ (ps.map (vPair l lv)).sum ≤ 30 * ps.length
  | [] => by simp
  | x :: ps => by
    have := sumP_le (l := l) (lv := lv) ps
    have : 0 ≤ vPair l lv x ∧ vPair l lv x ≤ 30 := gVal_le _ _
    simp only [List.map_cons, List.sum_cons, List.length_cons]; omega
theorem need_mono {p l : Int} (hp : 1 ≤ p) (hl : 1 ≤ l ∧ l ≤ 4) : need p l ≤ need p (l + 1) := by
  have : l = 1 ∨ l = 2 ∨ l = 3 ∨ l = 4 := by omega
  rcases this with rfl | rfl | rfl | rfl <;> simp [need] <;> omega
/-- more danger never lets more go -/
theorem goes_mono {g : Grp} {lv : Int} (hl : inR lv 1 5 = true) (h : gMay g (lv + 1) = true) : gGoes g lv = true := by
  simp only [gMay, gOk, gGoes, inR, Bool.and_eq_true, decide_eq_true_eq] at h hl ⊢
  have := need_mono (p := g.pe) (l := lv) (by omega) (by omega)
  refine ⟨⟨h.2.1.1, ?_⟩, ?_⟩ <;> omega
theorem ids_lt {l : List Grp} (h : gsOk l = true) : ∀ {j i : Nat}, i < j → j < l.length → sLt (gAt l i).id (gAt l j).id = true
  | j + 1, i, hij, hj => by
    have hN : gsN l l.length = true := by simp only [gsOk, Bool.and_eq_true] at h; exact h.2
    have hb := gsN_at hN hj
    simp only [gsB, Bool.and_eq_true, Bool.or_eq_true] at hb
    have h1 : sLt (gAt l j).id (gAt l (j + 1)).id = true := by
      rcases hb.2 with h2 | h2
      · simp at h2
      · simpa using h2
    rcases Nat.lt_or_ge i j with hlt | hge
    · exact sLt_trans (ids_lt h hlt (by omega)) h1
    · have : i = j := by omega
      rw [this]; exact h1
theorem ids_inj {l : List Grp} (h : gsOk l = true) {i j : Nat} (hi : i < l.length) (hj : j < l.length) (he : (gAt l i).id = (gAt l j).id) : i = j := by
  rcases Nat.lt_trichotomy i j with hlt | heq | hgt
  · have := ids_lt h hlt hj; rw [he, sLt_irr] at this; cases this
  · exact heq
  · have := ids_lt h hgt hi; rw [he, sLt_irr] at this; cases this
theorem inside_goes {l : List Grp} {lv : Int} (h : gsOk l = true) {i : Nat} (hi : i < l.length) : ((goIds l lv l.length).any fun x => decide (x = (gAt l i).id)) = gGoes (gAt l i) lv := by
  rw [Bool.eq_iff_iff, List.any_eq_true]
  unfold goIds
  constructor
  · rintro ⟨x, hx, he⟩
    obtain ⟨j, hj, rfl⟩ := List.mem_map.1 hx
    obtain ⟨hj1, hj2⟩ := List.mem_filter.1 hj
    rw [List.mem_range] at hj1
    have := ids_inj h hj1 hi (by simpa using he)
    rw [← this]; exact hj2
  · intro hg
    exact ⟨_, List.mem_map.2 ⟨i, List.mem_filter.2 ⟨List.mem_range.2 hi, hg⟩, rfl⟩, by simp⟩
end Go.Proofs.Ytamielbdedbnaaa
