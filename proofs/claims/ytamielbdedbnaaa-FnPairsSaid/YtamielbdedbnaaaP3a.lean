/- laws.FnPairs: contracts for its walk. -/
import Derived.Test.YtamielbdedbnaaaP2
import Derived.Test.YtamielbdedbnaaaD4
import Derived.Test.YtamielbdedbnaaaA26
set_option linter.unusedSimpArgs false
set_option linter.unusedVariables false
set_option maxHeartbeats 8000000
namespace Go.Proofs.Ytamielbdedbnaaa
open Go.Ab Go.RowKit
variable {σ : St} {Q : AV → St → Prop}
theorem pure_bytes (c : Bool) (code : List UInt8) : pureAV false (.lst c 1 (code.map byteAV)) = true := by
  simp only [pureAV, Bool.false_and, Bool.not_false, Bool.true_and]; exact pures_map _ fun _ => rfl
theorem pure_gs (l : List Grp) : pureAV true (gsAV false l) = true := by
  simp only [pureAV, Bool.and_false, Bool.not_false, Bool.true_and]; exact pures_map _ fun _ => rfl
theorem c_drawGoing (b : Bool) (code : List UInt8) (hc : code.length ≤ 2000000) (hQ : ∀ (gl : List Grp) (lv : Int), Q (.tup [gsAV false gl, i64 lv]) σ) : ACall Try.prog 6 [.lst b 1 (code.map byteAV)] σ Q :=
  acall_lend (p_drawGoing b code hc _) (FrzL.same (by simp only [pureAVs, Bool.and_true]; exact pure_bytes _ _)) (fun r hr => by
    obtain ⟨gl, lv, rfl⟩ := hr
    exact ⟨by simp only [pureAV, pureAVs, Bool.and_true]; exact pure_gs gl, hQ gl lv⟩)
theorem c_drawBest (b : Bool) (code : List UInt8) (hc : code.length ≤ 2000000) (hQ : ∀ (gl : List Grp) (lv bu : Int), Q (.tup [gsAV false gl, i64 lv, i64 bu]) σ) : ACall Try.prog 12 [.lst b 1 (code.map byteAV)] σ Q :=
  acall_lend (p_drawBest b code hc _) (FrzL.same (by simp only [pureAVs, Bool.and_true]; exact pure_bytes _ _)) (fun r hr => by
    obtain ⟨gl, lv, bu, rfl⟩ := hr
    exact ⟨by simp only [pureAV, pureAVs, Bool.and_true]; exact pure_gs gl, hQ gl lv bu⟩)
theorem c_going (l : List Grp) (lv : Int) (b : Bool) (hQ : ∀ (x : AV) (c : Int), (c = 0 → gsOk l = true ∧ inR lv 1 5 = true ∧ x = .lst false 1 ((goIds l lv l.length).map str)) → Q (.tup [x, i64 c]) σ) : ACall Try.prog 7 [gsAV b l, i64 lv] σ Q := by
  refine p_same (p_going l lv b) (by simp only [pureAVs, pureAV, Bool.false_and, Bool.not_false, Bool.true_and, Bool.and_true]; exact pures_map _ fun g => rfl) ?_ ?_
  · unfold goingR
    repeat' split
    · rfl
    · rfl
    · simp only [pureAV, pureAVs, Bool.and_false, Bool.not_false, Bool.true_and, Bool.and_true]
      exact pures_map _ fun _ => rfl
  · unfold goingR
    split
    · exact hQ _ 1 (fun h => by cases h)
    · rename_i h1
      split
      · exact hQ _ 2 (fun h => by cases h)
      · rename_i h2
        exact hQ _ 0 (fun _ => ⟨by simpa using h1, by simpa using h2, rfl⟩)
theorem c_best2 (l : List Grp) (lv bu : Int) (b : Bool) (h0 : bestC l lv bu = 0 → Q (.tup [.lst false 1 ((bestS l lv bu).best.map pAV), i64 (bestS l lv bu).most, i64 0]) σ) (h1 : bestC l lv bu ≠ 0 → Q (.tup [.lst false 0 [], i64 0, i64 (bestC l lv bu)]) σ) :
    ACall Try.prog 13 [gsAV b l, i64 lv, i64 bu] σ Q := by
  refine c_best l lv bu b ?_
  unfold bestR
  split
  · rename_i h; exact h0 h
  · rename_i h; exact h1 h
def cntOf (n : Nat) (F : List Int) : List Int := (List.range n).map fun (j : Nat) => ((F.count (j : Int) : Nat) : Int)
theorem cntOf_at {n j : Nat} {F : List Int} (h : j < n) : (cntOf n F).getD j 0 = (F.count (j : Int) : Int) := by simp [cntOf, h]
theorem cntOf_len (n : Nat) (F : List Int) : (cntOf n F).length = n := by simp [cntOf]
theorem cntOf_pair {n a b : Nat} {F : List Int} (hab : a < b) (hb : b < n) : ((cntOf n F).set a ((cntOf n F).getD a 0 + 1)).set b ((cntOf n F).getD b 0 + 1) = cntOf n (F ++ [(a : Int), (b : Int)]) := by
  apply List.ext_getElem
  · simp [cntOf]
  · intro i h1 h2
    have hi : i < n := by simpa [cntOf] using h2
    have e0 := cntOf_at (F := F) hb
    have e1 := cntOf_at (F := F) (show a < n by omega)
    rw [List.getElem_set, List.getElem_set]
    simp only [e0, e1]
    simp only [cntOf, List.getElem_map, List.getElem_range, List.count_append, List.count_cons, List.count_nil]
    by_cases h3 : b = i
    · subst h3
      have : ¬ ((a : Int) = b) := by omega
      simp [this]
    · by_cases h4 : a = i
      · subst h4
        have : ¬ ((b : Int) = a) := by omega
        simp [h3, this]
      · have e1 : ¬ ((a : Int) = i) := by omega
        have e2 : ¬ ((b : Int) = i) := by omega
        simp [h3, h4, e1, e2]
end Go.Proofs.Ytamielbdedbnaaa
