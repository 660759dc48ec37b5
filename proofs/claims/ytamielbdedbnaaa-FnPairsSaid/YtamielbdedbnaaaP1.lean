/- The plain law of the search for the best pairs. -/
import Derived.Test.YtamielbdedbnaaaW8
set_option linter.unusedSimpArgs false
set_option linter.unusedVariables false
namespace Go.Proofs.Ytamielbdedbnaaa
open Go.Ab Go.RowKit
def gVal (lv : Int) (g : Grp) : Int := if gOk g && gGoes g lv then g.pe else 0
theorem gVal_le (lv : Int) (g : Grp) : 0 ≤ gVal lv g ∧ gVal lv g ≤ 30 := by
  unfold gVal
  split
  · rename_i h
    simp only [Bool.and_eq_true] at h
    have := h.1
    simp only [gOk, inR, Bool.and_eq_true, decide_eq_true_eq] at this
    omega
  · omega
theorem addS_val {lv p : Int} (g : Grp) (h : 0 ≤ p ∧ p ≤ 1000000) : addS lv p g = p + gVal lv g := by
  have hv := gVal_le lv g
  unfold addS gVal at *
  split
  · rename_i hg
    rw [if_pos hg] at hv
    rw [wrapI (by omega) (by omega)]
  · omega
/-- what a pair is worth -/
def vPair (l : List Grp) (lv : Int) (x : List Int) : Int := gVal lv (gWith (gAt l (x.getD 0 0).toNat) (gAt l (x.getD 1 0).toNat) (gAt l (x.getD 0 0).toNat).id)
/-- what those below i are worth that are not in F -/
def sumA (l : List Grp) (lv : Int) (F : List Int) : Nat → Int
  | 0 => 0
  | i + 1 => sumA l lv F i + if (i : Int) ∈ F then 0 else gVal lv (gAt l i)
theorem sumA_app {l : List Grp} {lv : Int} {F : List Int} {a b : Int} : ∀ {i : Nat}, (i : Int) ≤ a → (i : Int) ≤ b → sumA l lv (F ++ [a, b]) i = sumA l lv F i
  | 0, _, _ => rfl
  | i + 1, h1, h2 => by
    have e : ((i : Int) ∈ F ++ [a, b]) ↔ (i : Int) ∈ F := by
      simp only [List.mem_append, List.mem_cons, List.not_mem_nil, or_false]
      constructor
      · rintro (h | h | h)
        · exact h
        · omega
        · omega
      · exact .inl
    simp only [sumA]
    rw [sumA_app (by omega) (by omega)]
    by_cases h : (i : Int) ∈ F
    · rw [if_pos h, if_pos (e.2 h)]
    · rw [if_neg h, if_neg (fun q => h (e.1 q))]
theorem sumA_all {l : List Grp} {lv : Int} {F : List Int} {i : Nat} : ∀ {d : Nat}, (∀ k, i ≤ k → k < i + d → (k : Int) ∈ F) → sumA l lv F (i + d) = sumA l lv F i
  | 0, _ => rfl
  | d + 1, h => by
    rw [← Nat.add_assoc, sumA, if_pos (h (i + d) (by omega) (by omega)), sumA_all (fun k h1 h2 => h k h1 (by omega))]
    omega
structure MW (n : Nat) (ps : List (List Int)) : Prop where
  wf : ∀ x ∈ ps, ∃ a b : Nat, x = [(a : Int), (b : Int)] ∧ a < b ∧ b < n
  so : (ps.map fun x => x.getD 0 0).Pairwise (· < ·)
  nd : ps.flatten.Nodup
def tot (l : List Grp) (lv : Int) (ps : List (List Int)) (i : Nat) : Int := (ps.map (vPair l lv)).sum + sumA l lv ps.flatten i
/-- what holds of the search's state in a visit at i -/
structure PV (l : List Grp) (lv : Int) (s : SS) (i : Nat) (p : Int) : Prop where
  mw : MW l.length s.pairs
  lo : ∀ x ∈ s.pairs, x.getD 0 0 < (i : Int)
  pd : ∀ k, k < l.length → (s.paired.getD k false = true ↔ ∃ x ∈ s.pairs, x.getD 1 0 = (k : Int))
  pv : p = tot l lv s.pairs i
  pb : 0 ≤ p ∧ p ≤ 30 * i
/-- what holds of the best pairs -/
def BI (l : List Grp) (lv : Int) (s : SS) : Prop := (s.best = [] ∧ s.most = -1) ∨ (MW l.length s.best ∧ s.most = tot l lv s.best l.length)
theorem skip_all {p : List Bool} : ∀ (d i : Nat), p.length ≤ i + d → (∀ k, i ≤ k → k < skip p i → p.getD k false = true) ∧ (skip p i < p.length → p.getD (skip p i) false = false)
  | 0, i, h => by rw [skip_end (by omega)]; exact ⟨fun k h1 h2 => by omega, fun h2 => by omega⟩
  | d + 1, i, h => by
    by_cases hi : i < p.length
    · cases hb : p[i] with
      | true =>
        rw [skip_step hi hb]
        obtain ⟨h1, h2⟩ := skip_all (p := p) d (i + 1) (by omega)
        refine ⟨fun k hk1 hk2 => ?_, h2⟩
        rcases Nat.lt_or_ge i k with hlt | hge
        · exact h1 k hlt hk2
        · have : k = i := by omega
          subst this; simp [hi, hb]
      | false =>
        rw [skip_stop hi hb]
        exact ⟨fun k h1 h2 => by omega, fun _ => by simp [hi, hb]⟩
    · rw [skip_end (by omega)]; exact ⟨fun k h1 h2 => by omega, fun h2 => by omega⟩
theorem mem_flat {n : Nat} {ps : List (List Int)} (h : MW n ps) (z : Int) : z ∈ ps.flatten ↔ ∃ x ∈ ps, x.getD 0 0 = z ∨ x.getD 1 0 = z := by
  rw [List.mem_flatten]
  constructor
  · rintro ⟨x, hx, hz⟩
    obtain ⟨a, b, rfl, _, _⟩ := h.wf x hx
    refine ⟨_, hx, ?_⟩
    simp only [List.mem_cons, List.not_mem_nil, or_false] at hz
    rcases hz with rfl | rfl
    · exact .inl rfl
    · exact .inr rfl
  · rintro ⟨x, hx, hz⟩
    obtain ⟨a, b, rfl, _, _⟩ := h.wf x hx
    refine ⟨_, hx, ?_⟩
    simp only [List.getD_cons_zero, List.getD_cons_succ] at hz
    rcases hz with rfl | rfl <;> simp
/-- how many nodes there are at most -/
def nB : Nat → Int
  | 0 => 0
  | f + 1 => 9 * (1 + nB f)
theorem nB_pos : ∀ f, 0 ≤ nB f
  | 0 => by decide
  | f + 1 => by have := nB_pos f; simp only [nB]; omega
section
variable {l : List Grp} {lv : Int}
theorem PV.next {s : SS} {i : Nat} {p : Int} (h : PV l lv s i p) (hpl : s.paired.length = l.length) (hi : i ≤ l.length) :
    PV l lv s (skip s.paired i) p ∧ i ≤ skip s.paired i ∧ skip s.paired i ≤ l.length ∧ tot l lv s.pairs (skip s.paired i) = tot l lv s.pairs i := by
  have hk := skip_le (p := s.paired) (i := i) (by rw [hpl]; exact hi)
  rw [hpl] at hk
  obtain ⟨a1, a2⟩ := skip_all (p := s.paired) s.paired.length i (by omega)
  have ht : sumA l lv s.pairs.flatten (skip s.paired i) = sumA l lv s.pairs.flatten i := by
    obtain ⟨d, hd⟩ : ∃ d, skip s.paired i = i + d := ⟨skip s.paired i - i, by omega⟩
    rw [hd]
    refine sumA_all fun k h1 h2 => ?_
    obtain ⟨x, hx, hxk⟩ := (h.pd k (by omega)).1 (a1 k h1 (by omega))
    exact (mem_flat h.mw _).2 ⟨x, hx, .inr hxk⟩
  have htot : tot l lv s.pairs (skip s.paired i) = tot l lv s.pairs i := by unfold tot; rw [ht]
  exact ⟨⟨h.mw, fun x hx => by have := h.lo x hx; omega, h.pd, by rw [htot]; exact h.pv, by have := h.pb; omega⟩, hk.1, hk.2, htot⟩
/-- j goes alone -/
theorem PV.alone {s : SS} {j : Nat} {p b : Int} (h : PV l lv s j p) (hj : j < l.length) (h8 : l.length ≤ 8) (hf : s.paired.getD j false = false) : PV l lv { s with bud := b } (j + 1) (addS lv p (gAt l j)) ∧
    addS lv p (gAt l j) = p + gVal lv (gAt l j) ∧ sumA l lv s.pairs.flatten (j + 1) = sumA l lv s.pairs.flatten j + gVal lv (gAt l j) := by
  have hpb := h.pb
  have hv := gVal_le lv (gAt l j)
  have ha := addS_val (lv := lv) (gAt l j) (p := p) (by omega)
  have hn : ¬ (j : Int) ∈ s.pairs.flatten := by
    rw [mem_flat h.mw]
    rintro ⟨x, hx, hz | hz⟩
    · have := h.lo x hx; omega
    · have := (h.pd j hj).2 ⟨x, hx, hz⟩; rw [hf] at this; cases this
  have hs : sumA l lv s.pairs.flatten (j + 1) = sumA l lv s.pairs.flatten j + gVal lv (gAt l j) := by rw [sumA, if_neg hn]
  refine ⟨⟨h.mw, fun x hx => by have := h.lo x hx; omega, h.pd, ?_, by omega⟩, ha, hs⟩
  have := h.pv
  show _ = tot l lv s.pairs (j + 1)
  unfold tot at this ⊢
  rw [hs, ha]; omega
/-- j goes with k -/
theorem PV.pair {s : SS} {j k : Nat} {p b : Int} (h : PV l lv s j p) (hk : k < l.length) (hjk : j < k) (h8 : l.length ≤ 8) (hfj : s.paired.getD j false = false) (hf : s.paired.getD k false = false) (hpl : s.paired.length = l.length) :
    PV l lv { s with bud := b, paired := s.paired.set k true, pairs := s.pairs ++ [[(j : Int), (k : Int)]] } (j + 1) (addS lv p (gWith (gAt l j) (gAt l k) (gAt l j).id)) := by
  have hpb := h.pb
  have hv := gVal_le lv (gWith (gAt l j) (gAt l k) (gAt l j).id)
  have ha := addS_val (lv := lv) (gWith (gAt l j) (gAt l k) (gAt l j).id) (p := p) (by omega)
  have hnj : ¬ (j : Int) ∈ s.pairs.flatten := by
    rw [mem_flat h.mw]
    rintro ⟨x, hx, hz | hz⟩
    · have := h.lo x hx; omega
    · have := (h.pd j (by omega)).2 ⟨x, hx, hz⟩; rw [hfj] at this; cases this
  have hnk : ¬ (k : Int) ∈ s.pairs.flatten := by
    rw [mem_flat h.mw]
    rintro ⟨x, hx, hz | hz⟩
    · have := h.lo x hx; omega
    · have := (h.pd k hk).2 ⟨x, hx, hz⟩; rw [hf] at this; cases this
  refine ⟨⟨fun x hx => ?_, ?_, ?_⟩, fun x hx => ?_, fun q hq => ?_, ?_, by omega⟩
  · rcases List.mem_append.1 hx with hx | hx
    · exact h.mw.wf x hx
    · rw [List.mem_singleton.1 hx]; exact ⟨j, k, rfl, hjk, hk⟩
  · rw [List.map_append, List.pairwise_append]
    refine ⟨h.mw.so, by simp, fun a ha b hb => ?_⟩
    obtain ⟨x, hx, rfl⟩ := List.mem_map.1 ha
    simp only [List.map_cons, List.map_nil, List.mem_singleton, List.getD_cons_zero] at hb
    rw [hb]; exact h.lo x hx
  · rw [List.flatten_append, List.nodup_append]
    refine ⟨h.mw.nd, by simp; omega, fun a ha b hb => ?_⟩
    simp only [List.flatten_cons, List.flatten_nil, List.append_nil, List.mem_cons, List.not_mem_nil, or_false] at hb
    rcases hb with rfl | rfl
    · exact fun he => hnj (he ▸ ha)
    · exact fun he => hnk (he ▸ ha)
  · rcases List.mem_append.1 hx with hx | hx
    · have := h.lo x hx; omega
    · rw [List.mem_singleton.1 hx]; simp only [List.getD_cons_zero]; omega
  · show (s.paired.set k true).getD q false = true ↔ _
    by_cases hqk : q = k
    · subst hqk
      have : (s.paired.set q true).getD q false = true := by simp [hpl, hq]
      rw [this]
      refine ⟨fun _ => ⟨[(j : Int), (q : Int)], by simp, rfl⟩, fun _ => rfl⟩
    · have : (s.paired.set k true).getD q false = s.paired.getD q false := by
        simp only [List.getD_eq_getElem?_getD]; rw [List.getElem?_set_ne (Ne.symm hqk)]
      rw [this, h.pd q hq]
      constructor
      · rintro ⟨x, hx, hz⟩; exact ⟨x, List.mem_append_left _ hx, hz⟩
      · rintro ⟨x, hx, hz⟩
        rcases List.mem_append.1 hx with hx | hx
        · exact ⟨x, hx, hz⟩
        · rw [List.mem_singleton.1 hx] at hz
          simp only [List.getD_cons_succ, List.getD_cons_zero] at hz
          omega
  · have hpv := h.pv
    show _ = tot l lv (s.pairs ++ [[(j : Int), (k : Int)]]) (j + 1)
    unfold tot at hpv ⊢
    rw [List.map_append, List.sum_append, List.flatten_append]
    simp only [List.flatten_cons, List.flatten_nil, List.append_nil, List.map_cons, List.map_nil, List.sum_cons, List.sum_nil]
    rw [sumA, if_pos (by simp), sumA_app (by omega) (by omega), ha]
    have : vPair l lv [(j : Int), (k : Int)] = gVal lv (gWith (gAt l j) (gAt l k) (gAt l j).id) := by simp [vPair]
    rw [this]; omega
/-- what a visit, or a node, leads to -/
structure VR (l : List Grp) (lv : Int) (s s' : SS) (B : Int) (i : Nat) (p : Int) : Prop where
  bi : BI l lv s'
  mo : s.most ≤ s'.most
  lo : s.bud - B ≤ s'.bud
  hi : s'.bud ≤ s.bud
  al : 0 ≤ s'.bud → p + (sumA l lv s.pairs.flatten l.length - sumA l lv s.pairs.flatten i) ≤ s'.most
def VH (l : List Grp) (lv : Int) (B : Int) (vis : SS → Nat → Int → SS) (f : Nat) : Prop :=
  ∀ s i p, SW l s → s.pairs.length ≤ i → PV l lv s i p → BI l lv s → (-1000000000000 + B ≤ s.bud ∧ s.bud ≤ 1000000) → l.length < f + i → i ≤ l.length → VR l lv s (vis s i p) B i p
theorem node_ok {vis : SS → Nat → Int → SS} {B : Int} {f : Nat} (hB : 0 ≤ B) (hv : VH l lv B vis f) (s : SS) (i : Nat) (p : Int) (g : Grp) (hw : SW l s) (hp : s.pairs.length ≤ i + 1) (hpv : ∀ b, PV l lv { s with bud := b } (i + 1) (addS lv p g)) (hb : BI l lv s)
    (hbud : -1000000000000 + (1 + B) ≤ s.bud ∧ s.bud ≤ 1000000) (hf : l.length < f + (i + 1)) (hi : i < l.length) : VR l lv s (nodeS vis lv s i p g) (1 + B) (i + 1) (addS lv p g) := by
  have hwr : IntKind.i64.wrap (s.bud - 1) = s.bud - 1 := wrapI (by omega) (by omega)
  unfold nodeS
  rw [hwr]
  split
  · rename_i hneg
    exact ⟨hb, Int.le_refl _, by show s.bud - (1 + B) ≤ s.bud - 1; omega, by show s.bud - 1 ≤ s.bud; omega, fun h => by have : (0 : Int) ≤ s.bud - 1 := h; omega⟩
  · obtain ⟨a1, a2, a3, a4, a5⟩ := hv { s with bud := s.bud - 1 } (i + 1) (addS lv p g) ⟨hw.pd, hw.ps, hw.bs, hw.bl⟩ hp (hpv _) hb (by show -1000000000000 + B ≤ s.bud - 1 ∧ s.bud - 1 ≤ 1000000; omega) hf hi
    have b3 : s.bud - 1 - B ≤ _ := a3
    have b4 : _ ≤ s.bud - 1 := a4
    exact ⟨a1, a2, by omega, by omega, a5⟩
theorem vis_ok (h8 : l.length ≤ 8) : ∀ f, VH l lv (nB f) (visS l lv f) f
  | 0 => fun s i p _ _ _ _ _ hf hi => by omega
  | f + 1 => fun s i p hw hp hpv hb hbud hf hi => by
    have ih := vis_ok h8 f
    have hnb := nB_pos f
    have hB1 : nB (f + 1) = 9 * (1 + nB f) := rfl
    obtain ⟨n1, n2, n3, n4⟩ := hpv.next hw.pd hi
    have hna : sumA l lv s.pairs.flatten (skip s.paired i) = sumA l lv s.pairs.flatten i := by unfold tot at n4; omega
    unfold visS
    generalize hj : skip s.paired i = j at *
    split
    · rename_i hjl
      subst hjl
      unfold leafS
      split
      · rename_i hbetter
        refine ⟨.inr ⟨hpv.mw, n1.pv⟩, ?_, by show s.bud - _ ≤ s.bud; omega, Int.le_refl _, fun _ => by show _ ≤ p; omega⟩
        show s.most ≤ p
        rcases hbetter with h | h
        · omega
        · omega
      · rename_i hnb
        refine ⟨hb, Int.le_refl _, by omega, Int.le_refl _, fun _ => ?_⟩
        have : p ≤ s.most := by
          rcases Int.lt_or_le s.most p with h | h
          · exact absurd (.inl h) hnb
          · exact h
        omega
    · rename_i hjl
      have hjlt : j < l.length := by omega
      have hfj : s.paired.getD j false = false := by
        obtain ⟨_, a2⟩ := skip_all (p := s.paired) s.paired.length i (by omega)
        rw [hj, hw.pd] at a2
        exact a2 hjlt
      have key : ∀ c, c ≤ l.length - (j + 1) → SW l ((List.range' (j + 1) c).foldl (pairS (visS l lv f) l lv j p) s) ∧ ((List.range' (j + 1) c).foldl (pairS (visS l lv f) l lv j p) s).pairs = s.pairs ∧ ((List.range' (j + 1) c).foldl (pairS (visS l lv f) l lv j p) s).paired = s.paired ∧
          BI l lv ((List.range' (j + 1) c).foldl (pairS (visS l lv f) l lv j p) s) ∧ s.most ≤ ((List.range' (j + 1) c).foldl (pairS (visS l lv f) l lv j p) s).most ∧ s.bud - c * (1 + nB f) ≤ ((List.range' (j + 1) c).foldl (pairS (visS l lv f) l lv j p) s).bud ∧ ((List.range' (j + 1) c).foldl (pairS (visS l lv f) l lv j p) s).bud ≤ s.bud := by
        intro c
        induction c with
        | zero => intro _; exact ⟨hw, rfl, rfl, hb, Int.le_refl _, by simp, Int.le_refl _⟩
        | succ c ihc =>
          intro hc
          obtain ⟨a1, a2, a3, a4, a5, a6, a7⟩ := ihc (by omega)
          rw [List.range'_concat, List.foldl_append, Nat.one_mul]
          generalize (List.range' (j + 1) c).foldl (pairS (visS l lv f) l lv j p) s = s1 at *
          show SW l (pairS (visS l lv f) l lv j p s1 (j + 1 + c)) ∧ (pairS (visS l lv f) l lv j p s1 (j + 1 + c)).pairs = s.pairs ∧ (pairS (visS l lv f) l lv j p s1 (j + 1 + c)).paired = s.paired ∧ BI l lv (pairS (visS l lv f) l lv j p s1 (j + 1 + c)) ∧ s.most ≤ (pairS (visS l lv f) l lv j p s1 (j + 1 + c)).most ∧ s.bud - (c + 1 : Nat) * (1 + nB f) ≤ (pairS (visS l lv f) l lv j p s1 (j + 1 + c)).bud ∧ (pairS (visS l lv f) l lv j p s1 (j + 1 + c)).bud ≤ s.bud
          have hmul : ((c + 1 : Nat) : Int) * (1 + nB f) = c * (1 + nB f) + (1 + nB f) := by rw [Int.natCast_add, Int.add_mul]; simp
          have hc8 : (c : Int) * (1 + nB f) ≤ 8 * (1 + nB f) := Int.mul_le_mul_of_nonneg_right (by omega) (by omega)
          obtain ⟨k1, k2, k3⟩ := pairS_keep (visS_keep l lv h8 f) j p s1 (j + 1 + c) a1 (by rw [a2]; omega) hjlt (by omega)
          refine ⟨k1, k2.trans a2, k3.trans a3, ?_⟩
          have hpv1 : PV l lv s1 j p := ⟨by rw [a2]; exact n1.mw, by rw [a2]; exact n1.lo, by rw [a2, a3]; exact n1.pd, by rw [a2]; exact n1.pv, n1.pb⟩
          unfold pairS
          split
          · exact ⟨a4, a5, by omega, a7⟩
          · rename_i hg
            have hg' : s1.paired.getD (j + 1 + c) false = false := by simpa using hg
            have hr := node_ok (l := l) (lv := lv) hnb ih { s1 with paired := s1.paired.set (j + 1 + c) true, pairs := s1.pairs ++ [[(j : Int), ((j + 1 + c : Nat) : Int)]] } j p (gWith (gAt l j) (gAt l (j + 1 + c)) (gAt l j).id)
              ⟨by simp [a1.pd], fun x hx => by rcases List.mem_append.1 hx with h | h; · exact a1.ps x h
                                               · rw [List.mem_singleton.1 h]; rfl, a1.bs, a1.bl⟩ (by simp [a2]; omega) (fun b => hpv1.pair (by omega) (by omega) h8 (by rw [a3]; exact hfj) hg' a1.pd) a4 (by show _ ≤ s1.bud ∧ s1.bud ≤ _; omega) (by omega) hjlt
            obtain ⟨r1, r2, r3, r4, _⟩ := hr
            have r2' : s1.most ≤ _ := r2
            have r3' : s1.bud - (1 + nB f) ≤ _ := r3
            have r4' : _ ≤ s1.bud := r4
            exact ⟨r1, Int.le_trans a5 r2', by rw [hmul]; exact Int.le_trans (by omega) r3', Int.le_trans r4' a7⟩
      obtain ⟨a1, a2, a3, a4, a5, a6, a7⟩ := key (l.length - (j + 1)) (Nat.le_refl _)
      generalize (List.range' (j + 1) (l.length - (j + 1))).foldl (pairS (visS l lv f) l lv j p) s = s1 at *
      have hc8 : ((l.length - (j + 1) : Nat) : Int) * (1 + nB f) ≤ 8 * (1 + nB f) := Int.mul_le_mul_of_nonneg_right (by omega) (by omega)
      have hpv1 : PV l lv s1 j p := ⟨by rw [a2]; exact n1.mw, by rw [a2]; exact n1.lo, by rw [a2, a3]; exact n1.pd, by rw [a2]; exact n1.pv, n1.pb⟩
      have hal := fun b => hpv1.alone (b := b) hjlt h8 (by rw [a3]; exact hfj)
      obtain ⟨r1, r2, r3, r4, r5⟩ := node_ok hnb ih s1 j p (gAt l j) a1 (by rw [a2]; omega) (fun b => (hal b).1) a4 (by omega) (by omega) hjlt
      refine ⟨r1, by omega, by omega, by omega, fun h => ?_⟩
      have := r5 h
      obtain ⟨_, e1, e2⟩ := hal 0
      rw [a2] at this e2
      omega
end
end Go.Proofs.Ytamielbdedbnaaa
