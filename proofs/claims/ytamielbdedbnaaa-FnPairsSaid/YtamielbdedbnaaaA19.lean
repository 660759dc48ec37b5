/- Ab, part 19: regions that draw their order, with effects among steady operations. -/
import Derived.Test.YtamielbdedbnaaaA18
set_option linter.unusedSimpArgs false
set_option linter.unusedVariables false
namespace Go.Ab
open Go.RowKit
section
variable {P : Program} {T : Tab} {md : Nat → Bool} {ds : List (Option Nat)}
/-- Whatever order is picked among the first n; C holds all along; L holds behind them. -/
def anyS (P : Program) (T : Tab) (md : Nat → Bool) (ops : List Oper) (C : St → Prop) (n : Nat) (L : Array Bool → Env → St → Prop) : Nat → Array Bool → Env → St → Prop
  | 0, listed, e, σ => L listed e σ
  | f + 1, listed, e, σ => Region.ready .any ops.toArray listed ≠ [] ∧ ∀ j ∈ Region.ready .any ops.toArray listed, j < n ∧
      ∃ o R, ops[j]? = some o ∧ stepV P T md (ops.map (·.dst)) o e σ R ∧ ∀ v σ', R v σ' → C σ' ∧ anyS P T md ops C n L f (listed.setIfInBounds j true) (e.put o.dst v) σ'
/-- It yields v at every store of C, and leaves it. -/
def steadyA (P : Program) (T : Tab) (md : Nat → Bool) (ds : List (Option Nat)) (C : St → Prop) (o : Oper) (v : AV) (e : Env) : Prop := ∀ σ, C σ → yieldsA P T md ds σ o v e
theorem steadyA_put {ops : List Oper} {C : St → Prop} {o : Oper} {u v : AV} {e : Env} {d : Option Nat} (h : ∀ t, d = some t → t ∉ o.looksAt ops.toArray) :
    steadyA P T md (ops.map (·.dst)) C o u (e.put d v) ↔ steadyA P T md (ops.map (·.dst)) C o u e := by
  unfold steadyA
  constructor
  · intro k σ hc; exact (yieldsA_put h).1 (k σ hc)
  · intro k σ hc; exact (yieldsA_put h).2 (k σ hc)

theorem anyS_first {ops : List Oper} {C : St → Prop} {n i : Nat} {oi : Oper} {v : AV} {L : Array Bool → Env → St → Prop} (Inv : Array Bool → Prop) (hi : ops[i]? = some oi) (hin : i < n)
    (hnt : ∀ listed, Inv listed → listed.getD i true = false → ∀ j ∈ Region.ready .any ops.toArray listed, j < n)
    (hset : ∀ listed j, Inv listed → j ∈ Region.ready .any ops.toArray listed → j < n → Inv (listed.setIfInBounds j true))
    (hdone : ∀ listed e σ, L listed e σ → ∀ j ∈ Region.ready .any ops.toArray listed, n ≤ j) :
    ∀ (f : Nat) (listed : Array Bool) (e : Env) (σ : St), C σ → Inv listed →
      (∀ j oj, ops[j]? = some oj → j ≠ i → listed.getD j true = false → (∀ x ∈ oj.after, Region.binds .any x = true → x.on ≠ i) → oi.apart ops.toArray oj = true) →
      i ∈ Region.ready .any ops.toArray listed → steadyA P T md (ops.map (·.dst)) C oi v e →
      anyS P T md ops C n L f (listed.setIfInBounds i true) (e.put oi.dst v) σ → anyS P T md ops C n L (f + 1) listed e σ := by
  intro f
  induction f with
  | zero =>
    intro listed e σ hC inv hfree hr hy H
    have hun := (mem_ready.1 hr).1
    refine ⟨fun h => (by rw [h] at hr; cases hr), fun j hj => ?_⟩
    have hjn := hnt listed inv hun j hj
    refine ⟨hjn, ?_⟩
    by_cases hji : j = i
    · subst hji; exact ⟨oi, _, hi, hy σ hC, fun r σ' ⟨h1, h2⟩ => by subst h1; subst h2; exact ⟨hC, H⟩⟩
    · have := hdone _ _ _ H j (ready_mono hj hji)
      omega
  | succ f ih =>
    intro listed e σ hC inv hfree hr hy H
    have hun := (mem_ready.1 hr).1
    refine ⟨fun h => (by rw [h] at hr; cases hr), fun j hj => ?_⟩
    have hjn := hnt listed inv hun j hj
    refine ⟨hjn, ?_⟩
    by_cases hji : j = i
    · subst hji; exact ⟨oi, _, hi, hy σ hC, fun r σ' ⟨h1, h2⟩ => by subst h1; subst h2; exact ⟨hC, H⟩⟩
    · obtain ⟨_, oj, R, hoj, hyj, H2⟩ := H.2 j (ready_mono hj hji)
      obtain ⟨hjun, oj', hoj', hall⟩ := mem_ready.1 hj
      have : oj' = oj := by
        have : ops.toArray[j]? = some oj := by simpa using hoj
        exact Option.some.inj (hoj'.symm.trans this)
      subst this
      have hnot : ∀ x ∈ oj'.after, Region.binds .any x = true → x.on ≠ i := fun x hx hb heq => by
        have h1 := hall x hx hb
        rw [heq, getD_both hun] at h1
        cases h1
      have hap := hfree j oj' hoj hji hjun hnot
      obtain ⟨a1, a2, a3⟩ := Oper.apart_spec hap
      rw [stepV_put a1] at hyj
      refine ⟨oj', R, hoj, hyj, fun u σ' hR => ?_⟩
      obtain ⟨hC', H3⟩ := H2 u σ' hR
      refine ⟨hC', ?_⟩
      have hfree' : ∀ k ok, ops[k]? = some ok → k ≠ i → (listed.setIfInBounds j true).getD k true = false →
          (∀ x ∈ ok.after, Region.binds .any x = true → x.on ≠ i) → oi.apart ops.toArray ok = true := fun k ok hk hki hun hno => by
        refine hfree k ok hk hki ?_ hno
        by_cases hjk : j = k
        · subst hjk; exact hjun
        · rw [getD_set_ne true hjk] at hun; exact hun
      refine ih (listed.setIfInBounds j true) (e.put oj'.dst u) σ' hC' (hset listed j inv hj hjn) hfree' (ready_mono hr (Ne.symm hji)) ((steadyA_put a3).2 hy) ?_
      rw [Array.setIfInBounds_comm _ _ hji, ← Env.put_comm e v u a2]
      exact H3

/-- the walk in a chosen order: steady operations (true), and others, each alone when its turn comes -/
def aOrd (P : Program) (T : Tab) (md : Nat → Bool) (ds : List (Option Nat)) (C : St → Prop) (K : Env → St → Prop) : List (Oper × Bool) → Env → St → Prop
  | [], e, σ => K e σ
  | (o, true) :: r, e, σ => ∃ v, steadyA P T md ds C o v e ∧ aOrd P T md ds C K r (e.put o.dst v) σ
  | (o, false) :: r, e, σ => stepV P T md ds o e σ fun v σ' => C σ' ∧ aOrd P T md ds C K r (e.put o.dst v) σ'
/-- the order is fit: each is ready at its turn; a steady one is apart from all it may be swapped with; another is alone -/
def ordB (ops : Array Oper) (g n : Nat) : List (Nat × Bool) → Array Bool → Bool
  | [], listed => Region.seqB .any ops g n listed
  | (i, b) :: r, listed => (Region.ready .any ops listed).contains i && decide (i < n) && (if b then Region.free .any ops listed i else decide (Region.ready .any ops listed = [i])) && ordB ops g n r (listed.setIfInBounds i true)
theorem anyS_ord {ops : List Oper} {C : St → Prop} {n g : Nat} {Lq : Env → St → Prop} (Inv : Array Bool → Prop)
    (hnt : ∀ i, i < n → ∀ listed, Inv listed → listed.getD i true = false → ∀ j ∈ Region.ready .any ops.toArray listed, j < n)
    (hset : ∀ listed j, Inv listed → j ∈ Region.ready .any ops.toArray listed → j < n → Inv (listed.setIfInBounds j true)) :
    ∀ (π : List (Nat × Bool)) (l : List (Oper × Bool)) (listed : Array Bool) (e : Env) (σ : St), C σ → π.map (fun x => (ops[x.1]?).map fun o => (o, x.2)) = l.map some → Inv listed →
    ordB ops.toArray g n π listed = true → aOrd P T md (ops.map (·.dst)) C Lq l e σ →
    anyS P T md ops C n (fun listed' e' σ' => Region.seqB .any ops.toArray g n listed' = true ∧ Lq e' σ') π.length listed e σ
  | [], l, listed, e, σ, hC, hl, inv, hB, h => by
    cases l with
    | nil => exact ⟨by simpa [ordB] using hB, h⟩
    | cons a r => simp at hl
  | (i, b) :: π, l, listed, e, σ, hC, hl, inv, hB, h => by
    cases l with
    | nil => simp at hl
    | cons ob r =>
      obtain ⟨o, b'⟩ := ob
      simp only [List.map_cons, List.cons.injEq] at hl
      obtain ⟨hl1, hl2⟩ := hl
      obtain ⟨o', ho, he⟩ := Option.map_eq_some_iff.1 hl1
      cases he
      simp only [ordB, Bool.and_eq_true, decide_eq_true_eq] at hB
      obtain ⟨⟨⟨hr, hin⟩, hf⟩, hB'⟩ := hB
      have hr' : i ∈ Region.ready .any ops.toArray listed := by simpa using hr
      cases b with
      | true =>
        obtain ⟨v, hy, hK⟩ := h
        exact anyS_first Inv ho hin (hnt i hin) hset (fun listed' e' σ' hL => seqB_ready hL.1) π.length listed e σ hC inv
          (fun j oj hj => Region.free_spec (by simpa using ho) (by simpa using hf) j oj (by simpa using hj)) hr' hy
          (anyS_ord Inv hnt hset π r _ _ σ hC hl2 (hset _ _ inv hr' hin) hB' hK)
      | false =>
        have hone : Region.ready .any ops.toArray listed = [i] := by simpa using hf
        refine ⟨by rw [hone]; simp, fun j hj => ?_⟩
        rw [hone] at hj
        have hji : j = i := by simpa using hj
        subst hji
        exact ⟨hin, _, _, ho, h, fun v σ' ⟨hC', hK⟩ => ⟨hC', anyS_ord Inv hnt hset π r _ _ σ' hC' hl2 (hset _ _ inv hr' hin) hB' hK⟩⟩
end
end Go.Ab
