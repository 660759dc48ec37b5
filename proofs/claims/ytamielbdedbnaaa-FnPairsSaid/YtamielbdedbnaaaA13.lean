/- Ab, part 13: regions that draw their order: reads and quiet calls in whatever order, then what is left in the text's order. -/
import Derived.Test.YtamielbdedbnaaaA12
import Derived.StillTail
import Derived.Deep.Quiet
set_option linter.unusedSimpArgs false
set_option linter.unusedVariables false
namespace Go.Ab
open Go.RowKit
section
variable {P : Program} {T : Tab} {md : Nat → Bool} {ds : List (Option Nat)}

/-- one operation, guard and all -/
def stepV (P : Program) (T : Tab) (md : Nat → Bool) (ds : List (Option Nat)) (o : Oper) (e : Env) (σ : St) (K : AV → St → Prop) : Prop :=
  match o.guard with
  | none => aOp P T md e σ o.dst o.op K
  | some (j, want) => match gval ds e j with
    | .sc (.bool t) => (t = want → aOp P T md e σ o.dst o.op K) ∧ (t = !want → K (.tup []) σ)
    | .tup [] => K (.tup []) σ
    | _ => False
/-- The operation yields v, and the store stays. -/
def yieldsA (P : Program) (T : Tab) (md : Nat → Bool) (ds : List (Option Nat)) (σ : St) (o : Oper) (v : AV) (e : Env) : Prop := stepV P T md ds o e σ fun r σ' => r = v ∧ σ' = σ

theorem ev_put {e : Env} {d : Option Nat} {v : AV} {x : Operand} (h : ∀ t, d = some t → x ≠ .tmp t) : ev (e.put d v) x = ev e x := by
  cases d with
  | none => rfl
  | some d =>
    cases x with
    | tmp t =>
      have : t ≠ d := fun hq => h d rfl (by rw [hq])
      simp [ev, Env.put, Env.upd, this]
    | _ => rfl
theorem Env.put_comm (e : Env) {x y : Option Nat} (v u : AV) (h : ∀ d, x = some d → y ≠ some d) : (e.put x v).put y u = (e.put y u).put x v := by
  cases x with
  | none => cases y <;> rfl
  | some d =>
    cases y with
    | none => rfl
    | some d' =>
      have hne : d ≠ d' := fun hq => h d rfl (by rw [hq])
      funext t
      simp only [Env.put, Env.upd]
      by_cases h1 : t = d
      · subst h1; simp [hne]
      · by_cases h2 : t = d'
        · subst h2; simp [h1]
        · simp [h1, h2]

theorem aOp_congr {e e' : Env} {σ : St} {dst : Option Nat} {op : Op} {K : AV → St → Prop} (h : ∀ x ∈ op.operands, ev e x = ev e' x) :
    aOp P T md e σ dst op K = aOp P T md e' σ dst op K := by
  have one : ∀ {x y : Operand} {r : Array Operand}, op.operands = r → x ∈ r → ev e x = ev e' x := fun hr hx => h _ (by rw [hr]; exact hx)
  cases op <;> simp only [aOp]
  case move x => rw [h x (by simp [Op.operands])]
  case assign x => rw [h x (by simp [Op.operands])]
  case pick c a b => rw [h c (by simp [Op.operands]), h a (by simp [Op.operands]), h b (by simp [Op.operands])]
  case box t x => rw [h x (by simp [Op.operands])]
  case build t parts =>
    rw [List.map_congr_left (fun p hp => by rw [h p.2 (by simp [Op.operands]; exact ⟨p.1, by simpa using hp⟩)])]
  case buildSlice t n parts =>
    rw [List.map_congr_left (fun p hp => by rw [h p.2 (by simp [Op.operands]; exact ⟨p.1, by simpa using hp⟩)])]
  case load t x => rw [h x (by simp [Op.operands])]
  case store t x v => rw [h x (by simp [Op.operands]), h v (by simp [Op.operands])]
  case nilCheck x => rw [h x (by simp [Op.operands])]
  case binOp op t x y ty => rw [h x (by simp [Op.operands]), h y (by simp [Op.operands])]
  case unOp op t x => rw [h x (by simp [Op.operands])]
  case convert s d x => rw [h x (by simp [Op.operands])]
  case makeInterface t x => rw [h x (by simp [Op.operands])]
  case makeFunc fn first caps =>
    cases fn <;> simp only
    rw [List.map_congr_left (fun p hp => h p (by simp [Op.operands]; exact .inl (by simpa using hp))), List.map_congr_left (l := caps.toList) (fun p hp => h p (by simp [Op.operands]; exact .inr (by simpa using hp)))]
  case makeSlice t l c => rw [h l (by simp [Op.operands]), h c (by simp [Op.operands])]
  case slice t x lo hi mx =>
    cases mx <;> simp only
    rw [h x (by simp [Op.operands])]
    have h1 : lo.map (ev e) = lo.map (ev e') := by cases lo with
      | none => rfl
      | some y => simp [h y (by simp [Op.operands])]
    have h2 : hi.map (ev e) = hi.map (ev e') := by cases hi with
      | none => rfl
      | some y => simp [h y (by simp [Op.operands])]
    rw [h1, h2]
  case fieldAddr t x f => rw [h x (by simp [Op.operands])]
  case field t x f => rw [h x (by simp [Op.operands])]
  case indexAddr t x i => rw [h x (by simp [Op.operands]), h i (by simp [Op.operands])]
  case index t x i => rw [h x (by simp [Op.operands]), h i (by simp [Op.operands])]
  case extract x i => rw [h x (by simp [Op.operands])]
  case call c =>
    have hargs : ∀ x ∈ c.args, ev e x = ev e' x := fun x hx => h x (by simp only [Op.operands, Call.operands, Array.mem_append]; exact .inr hx)
    have hmap : c.args.toList.map (ev e) = c.args.toList.map (ev e') := List.map_congr_left fun x hx => hargs x (by simpa using hx)
    unfold aCall
    cases hc : c.callee with
    | value f =>
      simp only
      rw [h f (by simp [Op.operands, Call.operands, hc]), hmap]
    | invoke r m => rfl
    | builtin b =>
      cases b <;> simp only
      all_goals
        have hl : ∀ x ∈ c.args.toList, ev e x = ev e' x := fun x hx => hargs x (by simpa using hx)
        generalize c.args.toList = l at hl
        first
        | rfl
        | (split
           · rename_i x y _ _
             first
             | rw [hl _ (by simp), hl _ (by simp)]
             | rw [hl _ (by simp)]
           · rfl)
        | (cases l with
           | nil => rfl
           | cons x r => simp only; rw [hl x (by simp), List.map_congr_left (fun y hy => hl y (by simp [hy]))])

theorem stepV_put {ops : List Oper} {o : Oper} {e : Env} {σ : St} {d : Option Nat} {v : AV} {K : AV → St → Prop} (h : ∀ t, d = some t → t ∉ o.looksAt ops.toArray) :
    stepV P T md (ops.map (·.dst)) o (e.put d v) σ K = stepV P T md (ops.map (·.dst)) o e σ K := by
  have h1 : ∀ x ∈ o.op.operands, ev (e.put d v) x = ev e x := fun x hx => ev_put fun t ht hxt => h t ht (by
    subst hxt
    exact List.mem_append_left _ (List.mem_filterMap.2 ⟨.tmp t, by simpa using hx, rfl⟩))
  have h2 : ∀ K, aOp P T md (e.put d v) σ o.dst o.op K = aOp P T md e σ o.dst o.op K := fun K => aOp_congr h1
  unfold stepV
  cases hg : o.guard with
  | none => exact h2 K
  | some jw =>
    obtain ⟨j, want⟩ := jw
    have h3 : gval (ops.map (·.dst)) (e.put d v) j = gval (ops.map (·.dst)) e j := by
      unfold gval
      rw [List.getElem?_map]
      cases ho : ops[j]? with
      | none => rfl
      | some oj =>
        cases hdst : oj.dst with
        | none => simp [hdst]
        | some dj =>
          simp only [Option.map_some, hdst]
          refine ev_put (x := .tmp dj) fun t ht hxt => h t ht ?_
          cases hxt
          refine List.mem_append_right _ ?_
          simp [hg, ho, hdst]
    simp only [h3, h2]
theorem yieldsA_put {ops : List Oper} {o : Oper} {u v : AV} {e : Env} {σ : St} {d : Option Nat} (h : ∀ t, d = some t → t ∉ o.looksAt ops.toArray) :
    yieldsA P T md (ops.map (·.dst)) σ o u (e.put d v) ↔ yieldsA P T md (ops.map (·.dst)) σ o u e := by
  unfold yieldsA
  rw [stepV_put h]

/-- Whatever order is picked among the first n; L holds behind them. -/
def anyH (P : Program) (T : Tab) (md : Nat → Bool) (ops : List Oper) (σ : St) (n : Nat) (L : Array Bool → Env → Prop) : Nat → Array Bool → Env → Prop
  | 0, listed, e => L listed e
  | f + 1, listed, e => Region.ready .any ops.toArray listed ≠ [] ∧ ∀ j ∈ Region.ready .any ops.toArray listed, j < n ∧
      ∃ o v, ops[j]? = some o ∧ yieldsA P T md (ops.map (·.dst)) σ o v e ∧ anyH P T md ops σ n L f (listed.setIfInBounds j true) (e.put o.dst v)

theorem anyH_first {ops : List Oper} {σ : St} {n i : Nat} {oi : Oper} {v : AV} {L : Array Bool → Env → Prop} (Inv : Array Bool → Prop) (hi : ops[i]? = some oi) (hin : i < n)
    (hnt : ∀ listed, Inv listed → listed.getD i true = false → ∀ j ∈ Region.ready .any ops.toArray listed, j < n)
    (hset : ∀ listed j, Inv listed → j ∈ Region.ready .any ops.toArray listed → j < n → Inv (listed.setIfInBounds j true))
    (hdone : ∀ listed e, L listed e → ∀ j ∈ Region.ready .any ops.toArray listed, n ≤ j) :
    ∀ (f : Nat) (listed : Array Bool) (e : Env), Inv listed →
      (∀ j oj, ops[j]? = some oj → j ≠ i → listed.getD j true = false → (∀ x ∈ oj.after, Region.binds .any x = true → x.on ≠ i) → oi.apart ops.toArray oj = true) →
      i ∈ Region.ready .any ops.toArray listed → yieldsA P T md (ops.map (·.dst)) σ oi v e →
      anyH P T md ops σ n L f (listed.setIfInBounds i true) (e.put oi.dst v) → anyH P T md ops σ n L (f + 1) listed e := by
  intro f
  induction f with
  | zero =>
    intro listed e inv hfree hr hy H
    have hun := (mem_ready.1 hr).1
    refine ⟨fun h => (by rw [h] at hr; cases hr), fun j hj => ?_⟩
    have hjn := hnt listed inv hun j hj
    refine ⟨hjn, ?_⟩
    by_cases hji : j = i
    · subst hji; exact ⟨oi, v, hi, hy, H⟩
    · have := hdone _ _ H j (ready_mono hj hji)
      omega
  | succ f ih =>
    intro listed e inv hfree hr hy H
    have hun := (mem_ready.1 hr).1
    refine ⟨fun h => (by rw [h] at hr; cases hr), fun j hj => ?_⟩
    have hjn := hnt listed inv hun j hj
    refine ⟨hjn, ?_⟩
    by_cases hji : j = i
    · subst hji; exact ⟨oi, v, hi, hy, H⟩
    · obtain ⟨_, oj, u, hoj, hyj, H2⟩ := H.2 j (ready_mono hj hji)
      obtain ⟨hjun, oj', hoj', hall⟩ := mem_ready.1 hj
      have : oj' = oj := by
        have : ops.toArray[j]? = some oj := by simpa using hoj
        exact Option.some.inj (hoj'.symm.trans this)
      subst this
      have hnot : ∀ x ∈ oj'.after, Region.binds .any x = true → x.on ≠ i := fun x hx hb heq => by
        have h1 := hall x hx hb
        rw [heq, getD_both hun] at h1
        cases h1
      have hap := hfree j oj' hoj hji hjun hnot
      obtain ⟨a1, a2, a3⟩ := Oper.apart_spec hap
      refine ⟨oj', u, hoj, (yieldsA_put a1).1 hyj, ?_⟩
      have hfree' : ∀ k ok, ops[k]? = some ok → k ≠ i → (listed.setIfInBounds j true).getD k true = false →
          (∀ x ∈ ok.after, Region.binds .any x = true → x.on ≠ i) → oi.apart ops.toArray ok = true := fun k ok hk hki hun hno => by
        refine hfree k ok hk hki ?_ hno
        by_cases hjk : j = k
        · subst hjk; exact hjun
        · rw [getD_set_ne true hjk] at hun; exact hun
      refine ih (listed.setIfInBounds j true) (e.put oj'.dst u) (hset listed j inv hj hjn) hfree' (ready_mono hr (Ne.symm hji)) ((yieldsA_put a3).2 hy) ?_
      rw [Array.setIfInBounds_comm _ _ hji, ← Env.put_comm e v u a2]
      exact H2

/-- the walk in the text's order: reads and quiet calls -/
def aQs (P : Program) (T : Tab) (md : Nat → Bool) (ds : List (Option Nat)) (σ : St) (K : Env → Prop) : List Oper → Env → Prop
  | [], e => K e
  | o :: r, e => ∃ v, yieldsA P T md ds σ o v e ∧ aQs P T md ds σ K r (e.put o.dst v)

theorem anyH_lex {ops : List Oper} {σ : St} {n g : Nat} {Lq : Env → Prop} (Inv : Array Bool → Prop)
    (hnt : ∀ i, i < n → ∀ listed, Inv listed → listed.getD i true = false → ∀ j ∈ Region.ready .any ops.toArray listed, j < n)
    (hset : ∀ listed j, Inv listed → j ∈ Region.ready .any ops.toArray listed → j < n → Inv (listed.setIfInBounds j true)) :
    ∀ (l : List Oper) (k : Nat) (listed : Array Bool) (e : Env), (∀ j, j < l.length → l[j]? = ops[k + j]?) → k + l.length = n → Inv listed →
    Region.lexHead .any ops.toArray g l.length k listed = true → aQs P T md (ops.map (·.dst)) σ Lq l e →
    anyH P T md ops σ n (fun listed' e' => Region.seqB .any ops.toArray g n listed' = true ∧ Lq e') l.length listed e
  | [], k, listed, e, _, hk, _, hB, h => by
    have : k = n := by simpa using hk
    subst this
    exact ⟨by simpa [Region.lexHead] using hB, h⟩
  | o :: l, k, listed, e, hl, hk, inv, hB, h => by
    have h0 : ops[k]? = some o := by simpa using (hl 0 (by simp)).symm
    simp only [List.length_cons, Region.lexHead, Bool.and_eq_true] at hB
    obtain ⟨⟨hr, hf⟩, hB'⟩ := hB
    have hkn : k < n := by simp only [List.length_cons] at hk; omega
    have hr' : k ∈ Region.ready .any ops.toArray listed := by simpa using hr
    obtain ⟨v, hy, hK⟩ := h
    exact anyH_first Inv h0 hkn (hnt k hkn) hset (fun listed' e' hL => seqB_ready hL.1) l.length listed e inv
      (fun j oj hj => Region.free_spec (by simpa using h0) hf j oj (by simpa using hj)) hr' hy
      (anyH_lex Inv hnt hset l (k + 1) _ _ (fun j hj => by have := hl (j + 1) (by simp; omega); simpa [Nat.add_assoc, Nat.add_comm 1 j] using this) (by simp only [List.length_cons] at hk; omega) (hset _ _ inv hr' hkn) hB' hK)
end

section
variable {Γ : Ctx} {σ : St} {w : World} {P : Program} {T : Tab} {N : Nat} {md : Nat → Bool}
/-- It is a wpAny. -/
theorem wpAny_of_anyH (hT : TabOk P T) {ops : List Oper} (hd : dstsOk N (ops.map (·.dst)) = true) {n g : Nat} {L : Array Bool → Env → Prop} {Q : Exit → Act → World → Prop} :
    ∀ (f : Nat) (listed : Array Bool) (e : Env) (Γ : Ctx) (w : World) (a : Act), Models Γ σ w → EnvOk Γ σ w N e a →
    (∀ listed e' Γ' w' a', L listed e' → Step Γ σ w Γ' σ w' → Models Γ' σ w' → EnvOk Γ' σ w' N e' a' → wpAny P .any ops.toArray Q g listed a' w') →
    anyH P T md ops σ n L f listed e → wpAny P .any ops.toArray Q (f + g) listed a w
  | 0, listed, e, Γ, w, a, hM, hE, hL, h => by
    rw [Nat.zero_add]
    exact hL listed e Γ w a h (Step.refl _ _ _) hM hE
  | f + 1, listed, e, Γ, w, a, hM, hE, hL, h => by
    rw [show f + 1 + g = (f + g) + 1 by omega]
    obtain ⟨h1, h2⟩ := h
    refine ⟨fun h => absurd h h1, fun j hj => ?_⟩
    obtain ⟨_, o, v, ho, hy, h3⟩ := h2 j hj
    have hdo : ∀ t, o.dst = some t → t < N := fun t ht => by
      have := List.all_eq_true.1 hd o.dst (List.mem_map.2 ⟨o, List.mem_of_getElem? ho, rfl⟩)
      simpa [ht] using this
    have ho' : ops.toArray[j]? = some o := by simpa using ho
    have fin : ∀ (u : Value) (Γ' : Ctx) (w' : World), Step Γ σ w Γ' σ w' → Models Γ' σ w' → V Γ' σ w' v u → wpAny P .any ops.toArray Q (f + g) (listed.setIfInBounds j true) (a.put o.dst u) w' := fun u Γ' w' hs hM' hv =>
      wpAny_of_anyH hT hd f _ (e.put o.dst v) Γ' w' _ hM' ((hE.step hM hs).put hdo hv) (fun l e2 Γ2 w2 a2 k1 k2 k3 k4 => hL l e2 Γ2 w2 a2 k1 (hs.trans k2) k3 k4) h3
    unfold wpOp
    simp only [ho']
    unfold yieldsA stepV at hy
    have go : aOp P T md e σ o.dst o.op (fun r σ' => r = v ∧ σ' = σ) → o.wp P a w (wpAny P .any ops.toArray Q (f + g) (listed.setIfInBounds j true)) Q := fun h =>
      aOp_sound hT hM hE h fun r u Γ' σ' w' ⟨e1, e2⟩ hs hM' hv => by subst e1; subst e2; exact fin u Γ' w' hs hM' hv
    have skip : v = .tup [] → wpAny P .any ops.toArray Q (f + g) (listed.setIfInBounds j true) (a.put o.dst undef) w := fun h =>
      fin undef Γ w (Step.refl _ _ _) hM (by rw [h]; exact V_undef)
    split at hy
    · rename_i hg
      rw [if_pos (by simp [Region.wanted, hg])]
      exact .inl (go hy)
    · rename_i q want hg
      obtain ⟨g1, g2⟩ := gval_sound hE (j := q) hd
      split at hy
      · rename_i t ht
        have hyl := g1 t ht
        by_cases hw : t = want
        · rw [if_pos (by simp [Region.wanted, hg, hyl, hw])]
          exact .inl (go (hy.1 hw))
        · rw [if_neg (by simp [Region.wanted, hg, hyl, hw])]
          exact skip (hy.2 (by cases t <;> cases want <;> simp_all)).1.symm
      · rename_i ht
        have hyl := g2 ht
        rw [if_neg (by simp [Region.wanted, hg, hyl])]
        exact skip hy.1.symm
      · exact hy.elim

/-- A region that draws its order: the first n operations read or call quietly, the others stand in a row. -/
theorem aw_draw_tail {Q : Exit → Env → St → Prop} {e : Env} {id : Nat} {l : List Oper} {y : Code} (n : Nat) (hm : P.follows .mixedOrders = true) (hT : TabOk P T) (md : Nat → Bool) (ds : List (Option Nat)) (hds : l.map (·.dst) = ds) (hd : dstsOk N ds = true)
    (hB : Region.lexTailB .any l.toArray n = true)
    (h : aQs P T md ds σ (fun e' => aOps P T md ds (l.drop n) e' σ fun e2 σ2 => AW P N y Q e2 σ2) (l.take n) e) : AW P N (.seq (.region id l.toArray true) y) Q e σ := by
  subst hds
  intro Γ w a hM hE
  refine wp_seq ?_
  simp only [Region.lexTailB, Bool.and_eq_true, decide_eq_true_eq] at hB
  obtain ⟨⟨⟨⟨hsel, hn⟩, hs⟩, hc⟩, hlex⟩ := hB
  have hn' : n < l.length := by simpa using hn
  have htl : (l.take n).length = n := by simp; omega
  have hdl : (l.drop n).length = l.toArray.size - n := by simp
  have inv0 : HeadInv .any l.toArray n (Array.replicate l.toArray.size false) :=
    ⟨by simp, fun j oj _ hl => (by rw [getD_replicate_false] at hl; cases hl), fun t _ ht => getD_in (by simpa using ht) (getD_replicate_false _ _)⟩
  have hnt : ∀ i, i < n → ∀ listed, HeadInv .any l.toArray n listed → listed.getD i true = false → ∀ j ∈ Region.ready .any l.toArray listed, j < n := fun i hi listed inv hun j hj => by
    rcases Nat.lt_or_ge j n with h | h
    · exact h
    · exact absurd hj (tail_waits hs hc hn inv _ i rfl hi hun j h)
  have H := anyH_lex (P := P) (T := T) (md := md) (σ := σ) (g := l.toArray.size - n) (HeadInv .any l.toArray n) hnt (fun listed j inv hj hjn => inv.set hj hjn) (l.take n) 0 _ e (fun j hj => by
    have hj' : j < n := by rw [htl] at hj; exact hj
    simp [hj']) (by simpa using htl) inv0 (by rw [htl]; exact hlex) h
  refine wp_region_any hm ?_
  have hM' := models_drew hM
  have hE' := hE.step hM (step_drew Γ σ w)
  have := wpAny_of_anyH (Q := Exit.then (y.wp P fun ex a' w' => ∃ Γ' σ' e', Q ex e' σ' ∧ Step Γ σ w Γ' σ' w' ∧ Models Γ' σ' w' ∧ EnvOk Γ' σ' w' N e' a') fun ex a' w' => ∃ Γ' σ' e', Q ex e' σ' ∧ Step Γ σ w Γ' σ' w' ∧ Models Γ' σ' w' ∧ EnvOk Γ' σ' w' N e' a')
    (g := l.toArray.size - n) hT hd _ _ e Γ _ a hM' hE' (fun listed e2 Γ2 w2 a2 hL hs2 hM2 hE2 => by
    have := wpAny_of_seq (md := .any) (Q' := Exit.then (y.wp P fun ex a' w' => ∃ Γ' σ' e', Q ex e' σ' ∧ Step Γ σ w Γ' σ' w' ∧ Models Γ' σ' w' ∧ EnvOk Γ' σ' w' N e' a') fun ex a' w' => ∃ Γ' σ' e', Q ex e' σ' ∧ Step Γ σ w Γ' σ' w' ∧ Models Γ' σ' w' ∧ EnvOk Γ' σ' w' N e' a')
      (l.drop n) n listed a2 w2 (fun j => by simp [List.getElem?_drop]) (by rw [hdl]; exact hL.1)
      (aOps_sound hT hd hL.2 (by
        simp only [dstsOk, List.all_eq_true, List.mem_map] at hd ⊢
        intro x hx
        obtain ⟨o, ho, rfl⟩ := hx
        exact hd _ ⟨o, List.mem_of_mem_drop ho, rfl⟩) hM2 hE2 fun e3 σ3 Γ3 w3 a3 k1 k2 k3 k4 => ?_)
    · rwa [hdl] at this
    · refine wp_mono (k1 Γ3 w3 a3 k3 k4) ?_
      rintro ex a4 w4 ⟨Γ4, σ4, e4, m1, m2, m3, m4⟩
      exact ⟨Γ4, σ4, e4, m1, (((step_drew Γ σ w).trans hs2).trans k2).trans m2, m3, m4⟩) H
  rw [htl, show n + (l.toArray.size - n) = l.toArray.size by omega] at this
  exact this

/-- A region that draws its order and only reads or calls quietly. -/
theorem aw_quiet {Q : Exit → Env → St → Prop} {e : Env} {id : Nat} {l : List Oper} {y : Code} (hm : P.follows .mixedOrders = true) (hT : TabOk P T) (md : Nat → Bool) (ds : List (Option Nat)) (hds : l.map (·.dst) = ds) (hd : dstsOk N ds = true)
    (hB : Region.lexB .any l.toArray = true) (h : aQs P T md ds σ (fun e' => AW P N y Q e' σ) l e) : AW P N (.seq (.region id l.toArray true) y) Q e σ := by
  subst hds
  intro Γ w a hM hE
  refine wp_seq ?_
  simp only [Region.lexB, Bool.and_eq_true] at hB
  obtain ⟨hsel, hlex⟩ := hB
  have conv : ∀ (f k : Nat) (listed : Array Bool), Region.lexFrom .any l.toArray f k listed = Region.lexHead .any l.toArray 0 f k listed := by
    intro f
    induction f with
    | zero => intro k listed; rfl
    | succ f ih => intro k listed; simp only [Region.lexFrom, Region.lexHead, ih]
  rw [conv] at hlex
  have H := anyH_lex (P := P) (T := T) (md := md) (σ := σ) (n := l.length) (g := 0) (fun _ => True) (fun i hi listed _ _ j hj => by
    obtain ⟨_, o, ho, _⟩ := mem_ready.1 hj
    have := (Array.getElem?_eq_some_iff.1 ho).1
    simpa using this) (fun _ _ _ _ _ => trivial) l 0 (Array.replicate l.toArray.size false) e (fun j hj => by simp) (by simp) trivial (by simpa using hlex) h
  refine wp_region_any hm ?_
  have hM' := models_drew hM
  have hE' := hE.step hM (step_drew Γ σ w)
  have := wpAny_of_anyH (Q := Exit.then (y.wp P fun ex a' w' => ∃ Γ' σ' e', Q ex e' σ' ∧ Step Γ σ w Γ' σ' w' ∧ Models Γ' σ' w' ∧ EnvOk Γ' σ' w' N e' a') fun ex a' w' => ∃ Γ' σ' e', Q ex e' σ' ∧ Step Γ σ w Γ' σ' w' ∧ Models Γ' σ' w' ∧ EnvOk Γ' σ' w' N e' a')
    (g := 0) hT hd _ _ e Γ _ a hM' hE' (fun listed e2 Γ2 w2 a2 hL hs2 hM2 hE2 => by
    refine ⟨by have := hL.1; simpa [Region.seqB] using this, ?_⟩
    refine wp_mono (hL.2 Γ2 w2 a2 hM2 hE2) ?_
    rintro ex a4 w4 ⟨Γ4, σ4, e4, m1, m2, m3, m4⟩
    exact ⟨Γ4, σ4, e4, m1, ((step_drew Γ σ w).trans hs2).trans m2, m3, m4⟩) H
  simpa using this
end
section
variable {P : Program} {T : Tab} {md : Nat → Bool} {ds : List (Option Nat)} {σ : St} {K : Env → Prop} {o : Oper} {r : List Oper} {e : Env}
theorem is_qs {l : List Oper} (h : aQs P T md ds σ K l e) : aQs P T md ds σ K l e := h
theorem aqs_nil (h : K e) : aQs P T md ds σ K [] e := h
theorem aqs_cons {v : AV} (hg : o.guard = none) (h : aOp P T md e σ o.dst o.op fun r σ' => r = v ∧ σ' = σ) (k : aQs P T md ds σ K r (e.put o.dst v)) : aQs P T md ds σ K (o :: r) e :=
  ⟨v, by unfold yieldsA stepV; rw [hg]; exact h, k⟩
theorem aqs_wanted {v : AV} {j : Nat} {want t : Bool} (hg : o.guard = some (j, want)) (hj : gval ds e j = .sc (.bool t)) (ht : t = want)
    (h : aOp P T md e σ o.dst o.op fun r σ' => r = v ∧ σ' = σ) (k : aQs P T md ds σ K r (e.put o.dst v)) : aQs P T md ds σ K (o :: r) e :=
  ⟨v, by unfold yieldsA stepV; simp only [hg, hj]; exact ⟨(fun _ => h), (fun hq => by subst ht; cases t <;> cases hq)⟩, k⟩
theorem aqs_unwanted {j : Nat} {want t : Bool} (hg : o.guard = some (j, want)) (hj : gval ds e j = .sc (.bool t)) (ht : t = !want)
    (k : aQs P T md ds σ K r (e.put o.dst (.tup []))) : aQs P T md ds σ K (o :: r) e :=
  ⟨.tup [], by unfold yieldsA stepV; simp only [hg, hj]; exact ⟨(fun hq => by subst hq; cases t <;> cases ht), (fun _ => by simp)⟩, k⟩
theorem aqs_skip {j : Nat} {want : Bool} (hg : o.guard = some (j, want)) (hj : gval ds e j = .tup [])
    (k : aQs P T md ds σ K r (e.put o.dst (.tup []))) : aQs P T md ds σ K (o :: r) e :=
  ⟨.tup [], by unfold yieldsA stepV; simp only [hg, hj]; simp, k⟩
/-- a guard that is not known: part -/
theorem aqs_part {j : Nat} {want t : Bool} (hg : o.guard = some (j, want)) (hj : gval ds e j = .sc (.bool t)) (h1 : t = want → aQs P T md ds σ K (o :: r) e) (h2 : t = !want → aQs P T md ds σ K (o :: r) e) :
    aQs P T md ds σ K (o :: r) e := by
  by_cases h : t = want
  · exact h1 h
  · exact h2 (by cases t <;> cases want <;> simp_all)
theorem is_call {f : FuncId} {args : List AV} {Q : AV → St → Prop} (h : ACall P f args σ Q) : ACall P f args σ Q := h
end
end Go.Ab
