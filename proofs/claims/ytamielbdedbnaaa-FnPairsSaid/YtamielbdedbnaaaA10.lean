/- Ab, part 10: all operations together; regions in the text's order. -/
import Derived.Test.YtamielbdedbnaaaA24
set_option linter.unusedSimpArgs false
set_option linter.unusedVariables false
namespace Go.Ab
open Go.RowKit

def mdOf (md : Nat → Bool) : Option Nat → Bool
  | some d => md d
  | none => false
/-- min and max of whole numbers -/
def aMM (mx : Bool) : AV → List AV → (AV → Prop) → Prop
  | x, [], K => K x
  | .sc (.int k a), .sc (.int k' b) :: r, K => k = k' ∧ aMM mx (.sc (.int k (if mx then (if a < b then b else a) else (if b < a then b else a)))) r K
  | _, _, _ => False
def aNil (x : AV) (K : AV → Prop) : Prop :=
  match x with
  | .rp b cs => K (.rp b cs)
  | .ptr o g i j => K (.ptr o g i j)
  | .fn f u v => K (.fn f u v)
  | _ => False
def aPick (c a b : AV) (K : AV → Prop) : Prop :=
  match c with
  | .sc (.bool t) => (t = true → K a) ∧ (t = false → K b)
  | _ => False
def aCallV (P : Program) (f : AV) (args : List AV) (σ : St) (K : AV → St → Prop) : Prop :=
  match f with
  | .fn g first caps => ACall P g (first ++ args ++ caps) σ K
  | _ => False
def aCall (P : Program) (T : Tab) (e : Env) (σ : St) (c : Call) (K : AV → St → Prop) : Prop :=
  match c.callee with
  | .value f => aCallV P (ev e f) (c.args.toList.map (ev e)) σ K
  | .builtin .len => (match c.args.toList, c.argTypes.toList with | [x], [t] => aLen T t (ev e x) fun v => K v σ | _, _ => False)
  | .builtin .append => (match c.args.toList, c.argTypes.toList with | [s, x], [t, u] => aAppend T t u (ev e s) (ev e x) σ K | _, _ => False)
  | .builtin .min => (match c.args.toList with | x :: r => aMM false (ev e x) (r.map (ev e)) fun v => K v σ | _ => False)
  | .builtin .max => (match c.args.toList with | x :: r => aMM true (ev e x) (r.map (ev e)) fun v => K v σ | _ => False)
  | _ => False
def aOp (P : Program) (T : Tab) (md : Nat → Bool) (e : Env) (σ : St) (dst : Option Nat) (op : Op) (K : AV → St → Prop) : Prop :=
  match op with
  | .move x => K (ev e x) σ
  | .assign x => K (ev e x) σ
  | .pick c a b => aPick (ev e c) (ev e a) (ev e b) fun v => K v σ
  | .alloc t => aAlloc T t σ K
  | .box t x => aBox T t (ev e x) (mdOf md dst) σ K
  | .build t parts => aBuild T t (parts.toList.map fun p => (p.1, ev e p.2)) fun v => K v σ
  | .buildSlice t n parts => aBuildSlice T t n (parts.toList.map fun p => (p.1, ev e p.2)) (mdOf md dst) σ K
  | .load t x => aLoad T t (ev e x) σ fun v => K v σ
  | .store t x v => aStore T t (ev e x) (ev e v) σ K
  | .nilCheck x => aNil (ev e x) fun v => K v σ
  | .binOp op t x y _ => aBin T op t (ev e x) (ev e y) σ fun v => K v σ
  | .unOp op _ x => aUn op (ev e x) fun v => K v σ
  | .convert s d x => aConvS T s d (ev e x) σ fun v => K v σ
  | .makeInterface t x => T.ty t fun ti => ti.k ≠ .iface ∧ K (.ifc t (ev e x)) σ
  | .makeFunc (.func f) first caps => K (.fn f (first.toList.map (ev e)) (caps.toList.map (ev e))) σ
  | .makeSlice t l c => aMake T t (ev e l) (ev e c) σ K
  | .slice t x lo hi none => aSlice T t (ev e x) (lo.map (ev e)) (hi.map (ev e)) σ fun v => K v σ
  | .fieldAddr s x f => aFieldAddr T s f (ev e x) fun v => K v σ
  | .field t x f => aField T t f (ev e x) fun v => K v σ
  | .indexAddr t x i => aIndexAddr T t (ev e x) (ev e i) σ fun v => K v σ
  | .index t x i => aIndex T t (ev e x) (ev e i) fun v => K v σ
  | .extract x i => aExtract i (ev e x) fun v => K v σ
  | .call c => aCall P T e σ c K
  | _ => False

section
variable {Γ Γ' : Ctx} {σ σ' : St} {w w' : World} {P : Program} {T : Tab} {N : Nat} {e : Env} {a : Act}

theorem wp_val {o : Oper} {v : Value} {next : Act → World → Prop} {Q : Exit → Act → World → Prop} (h : (execOp a.eval o).run P w = .ok (.value v) w') (hn : next (a.put o.dst v) w') : o.wp P a w next Q := by
  unfold Oper.wp
  rw [h]
  exact hn
theorem EnvOk.vp (h : EnvOk Γ σ w N e a) : ∀ (ps : List (Nat × Operand)), VP Γ σ w (ps.map fun p => (p.1, Go.Ab.ev e p.2)) (ps.map fun p => (p.1, a.eval p.2))
  | [] => by simp [VP]
  | p :: ps => by simp only [List.map_cons, VP]; exact ⟨trivial, h.ev _, h.vp ps⟩
theorem EnvOk.vo (h : EnvOk Γ σ w N e a) (x : Option Operand) : VO Γ σ w (x.map (Go.Ab.ev e)) (x.map a.eval) := by
  cases x with
  | none => simp [VO]
  | some x => exact h.ev x
theorem aMM_min : ∀ {r : List AV} {vs : List Value} {x : AV} {u : Value} {K : AV → Prop}, aMM false x r K → V Γ σ w x u → VL Γ σ w r vs → ∃ v y, (vs.foldlM Builtin.min2 u).run P w = .ok v w ∧ K y ∧ V Γ σ w y v
  | [], vs, x, u, K, h, hx, hr => by
    simp only [VL] at hr
    subst hr
    simp only [aMM] at h
    exact ⟨u, x, by simp, h, hx⟩
  | y :: r, vs, x, u, K, h, hx, hr => by
    simp only [VL] at hr
    obtain ⟨z, zs, rfl, hz, hr⟩ := hr
    unfold aMM at h
    split at h
    · rename_i heq; cases heq
    · rename_i k b r' _ heq
      cases heq
      obtain ⟨rfl, h⟩ := h
      simp only [V] at hx hz
      subst hx hz
      obtain ⟨v, y, h1, h2, h3⟩ := aMM_min h (V_sc _) hr
      exact ⟨v, y, by simp only [List.foldlM_cons, Builtin.min2]; simpa using h1, h2, h3⟩
    · exact h.elim
theorem aMM_max : ∀ {r : List AV} {vs : List Value} {x : AV} {u : Value} {K : AV → Prop}, aMM true x r K → V Γ σ w x u → VL Γ σ w r vs → ∃ v y, (vs.foldlM Builtin.max2 u).run P w = .ok v w ∧ K y ∧ V Γ σ w y v
  | [], vs, x, u, K, h, hx, hr => by
    simp only [VL] at hr
    subst hr
    simp only [aMM] at h
    exact ⟨u, x, by simp, h, hx⟩
  | y :: r, vs, x, u, K, h, hx, hr => by
    simp only [VL] at hr
    obtain ⟨z, zs, rfl, hz, hr⟩ := hr
    unfold aMM at h
    split at h
    · rename_i heq; cases heq
    · rename_i k b r' _ heq
      cases heq
      obtain ⟨rfl, h⟩ := h
      simp only [V] at hx hz
      subst hx hz
      obtain ⟨v, y, h1, h2, h3⟩ := aMM_max h (V_sc _) hr
      exact ⟨v, y, by simp only [List.foldlM_cons, Builtin.max2]; simpa using h1, h2, h3⟩
    · exact h.elim

theorem run_enter {f : FuncId} {fn : Func} (hf : P.funcs[f]? = some fn) (hname : (fn.name == "runtime.NumGoroutine") = false) (hb : fn.body.isNone = false) (args : Array Value) :
    (callFunc f args).run P w = .ok (.enter f args) w := by
  cases hbd : fn.body with
  | none => simp [hbd] at hb
  | some c =>
    have hn : ¬ fn.name = "runtime.NumGoroutine" := by simpa using hname
    simp [callFunc, hf, hn, hbd]

theorem aOp_sound (hT : TabOk P T) {md : Nat → Bool} (hM : Models Γ σ w) (hE : EnvOk Γ σ w N e a) {o : Oper} {K : AV → St → Prop} (h : aOp P T md e σ o.dst o.op K)
    {next : Act → World → Prop} {Q : Exit → Act → World → Prop}
    (hn : ∀ r v Γ' σ' w', K r σ' → Step Γ σ w Γ' σ' w' → Models Γ' σ' w' → V Γ' σ' w' r v → next (a.put o.dst v) w') : o.wp P a w next Q := by
  have quiet : ∀ {s : Sem Value}, (∃ v r, s.run P w = .ok v w ∧ K r σ ∧ V Γ σ w r v) → execOp a.eval o = (do pure (.value (← s))) → o.wp P a w next Q := fun ⟨v, r, h1, h2, h3⟩ he =>
    wp_val (by rw [he]; simp [h1]) (hn r v Γ σ w h2 (Step.refl _ _ _) hM h3)
  have quiet' : ∀ {s : Sem Value} {K' : AV → Prop}, (∀ r, K' r → K r σ) → (∃ v r, s.run P w = .ok v w ∧ K' r ∧ V Γ σ w r v) → execOp a.eval o = (do pure (.value (← s))) → o.wp P a w next Q := fun hk ⟨v, r, h1, h2, h3⟩ he =>
    quiet ⟨v, r, h1, hk r h2, h3⟩ he
  have loud : ∀ {s : Sem Value}, (∃ v w', s.run P w = .ok v w' ∧ Out Γ σ w K v w') → execOp a.eval o = (do pure (.value (← s))) → o.wp P a w next Q := fun ⟨v, w', h1, r, Γ', σ', h2, h3, h4, h5⟩ he =>
    wp_val (by rw [he]; simp [h1]) (hn r v Γ' σ' w' h2 h3 h4 h5)
  unfold aOp at h
  split at h <;> rename_i hop
  · exact wp_val (v := a.eval _) (by unfold execOp; rw [hop]; rfl) (hn _ _ _ _ _ h (Step.refl _ _ _) hM (hE.ev _))
  · exact wp_val (v := a.eval _) (by unfold execOp; rw [hop]; rfl) (hn _ _ _ _ _ h (Step.refl _ _ _) hM (hE.ev _))
  · rename_i c x y
    have hc := hE.ev c
    unfold aPick at h
    split at h
    · rename_i t ht
      rw [ht] at hc
      simp only [V] at hc
      cases t
      · exact wp_val (v := a.eval y) (by unfold execOp; rw [hop]; simp [hc, asBool]) (hn _ _ _ _ _ (h.2 rfl) (Step.refl _ _ _) hM (hE.ev _))
      · exact wp_val (v := a.eval x) (by unfold execOp; rw [hop]; simp [hc, asBool]) (hn _ _ _ _ _ (h.1 rfl) (Step.refl _ _ _) hM (hE.ev _))
    · exact h.elim
  · exact loud (aAlloc_sound hT hM h) (by unfold execOp; rw [hop])
  · exact loud (aBox_sound hT hM h (hE.ev _)) (by unfold execOp; rw [hop])
  · rename_i t parts
    exact quiet' (fun _ h => h) (aBuild_sound hT h (parts' := parts.map fun p => (p.1, a.eval p.2)) (by simpa using hE.vp parts.toList)) (by unfold execOp; rw [hop])
  · rename_i t n parts
    exact loud (aBuildSlice_sound hT hM h (parts' := parts.map fun p => (p.1, a.eval p.2)) (by simpa using hE.vp parts.toList)) (by unfold execOp; rw [hop])
  · exact quiet' (fun _ h => h) (aLoad_sound hT hM h (hE.ev _)) (by unfold execOp; rw [hop])
  · rename_i t x v
    obtain ⟨w', Γ', σ', h1, h2, h3, h4⟩ := aStore_sound hT hM h (hE.ev x) (hE.ev v)
    unfold Oper.wp
    have : (execOp a.eval o).run P w = .ok .skip w' := by unfold execOp; rw [hop]; simp [h1]
    rw [this]
    exact hn _ undef Γ' σ' w' h2 h3 h4 V_undef
  · rename_i x
    have hx := hE.ev x
    have : ∃ v, (execOp a.eval o).run P w = .ok (.value v) w ∧ v = a.eval x ∧ K (ev e x) σ := by
      unfold aNil at h
      split at h
      · rename_i b cs hq
        rw [hq] at hx
        simp only [V] at hx
        obtain ⟨g, off, us, h1, _⟩ := hx
        exact ⟨_, by unfold execOp; rw [hop]; simp only [h1]; rfl, rfl, by rw [hq]; exact h⟩
      · rename_i hq
        rw [hq] at hx
        simp only [V] at hx
        obtain ⟨⟨b, h1⟩, _⟩ := hx
        exact ⟨_, by unfold execOp; rw [hop]; simp only [h1]; rfl, rfl, by rw [hq]; exact h⟩
      · rename_i hq
        rw [hq] at hx
        simp only [V] at hx
        obtain ⟨us, ws, h1, _⟩ := hx
        exact ⟨_, by unfold execOp; rw [hop]; simp only [h1]; rfl, rfl, by rw [hq]; exact h⟩
      · exact h.elim
    obtain ⟨v, h1, h2, h3⟩ := this
    subst h2
    exact wp_val h1 (hn _ _ _ _ _ h3 (Step.refl _ _ _) hM hx)
  · rename_i op t x y ty
    exact quiet' (fun _ h => h) (aBin_sound hT h (hE.ev x) (hE.ev y) x y) (by unfold execOp; rw [hop])
  · exact quiet' (fun _ h => h) (aUn_sound h (hE.ev _)) (by unfold execOp; rw [hop])
  · exact quiet' (fun _ h => h) (aConvS_sound hT hM h (hE.ev _)) (by unfold execOp; rw [hop])
  · rename_i t x
    obtain ⟨ti, h1, h2, h3⟩ := Tab.ty_out hT h
    obtain ⟨d, hd, _⟩ := h1.some
    refine quiet (s := Instr.makeInterface t (a.eval x)) ⟨.iface t (a.eval x), _, ?_, h3, by simp only [V]; exact ⟨_, rfl, hE.ev x⟩⟩ (by unfold execOp; rw [hop])
    unfold Instr.makeInterface
    rw [Sem.run_bind, run_underlying hd w]
    simp only [Result.andThen_ok]
    split
    · rename_i ms
      exact absurd (by have := h1.2; unfold kindOf at this; rw [hd] at this; simpa using this.symm) h2
    · simp
  · rename_i f first caps
    exact quiet (s := Instr.makeFunc (.func f) (first.map a.eval) (caps.map a.eval)) ⟨.func (.func f) (first.map a.eval) (caps.map a.eval), _, by simp [Instr.makeFunc], h, by
      simp only [V]
      exact ⟨first.toList.map a.eval, caps.toList.map a.eval, by simp only [← Array.toList_map, Array.toArray_toList], hE.evs _, hE.evs _⟩⟩ (by unfold execOp; rw [hop])
  · exact loud (aMake_sound hT hM h (hE.ev _) (hE.ev _)) (by unfold execOp; rw [hop])
  · exact quiet' (fun _ h => h) (aSlice_sound hT hM h (hE.ev _) (hE.vo _) (hE.vo _)) (by unfold execOp; rw [hop]; rfl)
  · exact quiet' (fun _ h => h) (aFieldAddr_sound hT h (hE.ev _)) (by unfold execOp; rw [hop])
  · exact quiet' (fun _ h => h) (aField_sound hT h (hE.ev _)) (by unfold execOp; rw [hop])
  · exact quiet' (fun _ h => h) (aIndexAddr_sound hT h (hE.ev _) (hE.ev _)) (by unfold execOp; rw [hop])
  · exact quiet' (fun _ h => h) (aIndex_sound hT h (hE.ev _) (hE.ev _)) (by unfold execOp; rw [hop])
  · exact quiet' (fun _ h => h) (aExtract_sound h (hE.ev _)) (by unfold execOp; rw [hop])
  · rename_i c
    have hargs := hE.evs c.args.toList
    have hmap : c.args.map a.eval = (c.args.toList.map a.eval).toArray := by simp only [← Array.toList_map, Array.toArray_toList]
    unfold aCall at h
    split at h
    · rename_i f hf
      unfold aCallV at h
      split at h
      · rename_i g first caps hq
        have hx := hE.ev f
        rw [hq] at hx
        simp only [V] at hx
        obtain ⟨us, ws, h1, h2, h3⟩ := hx
        obtain ⟨⟨fn, g1, g2, g3⟩, hcall⟩ := h
        have hrun : (execOp a.eval o).run P w = .ok (.enter g (us ++ c.args.toList.map a.eval ++ ws).toArray) w := by
          unfold execOp
          rw [hop]
          simp only [resolve, hf, h1, Deferred.ofValue, Sem.run_bind, Sem.run_pure, Result.andThen_ok, invoke]
          rw [run_enter g1 g2 g3, hmap]
          simp
        unfold Oper.wp
        rw [hrun]
        exact (hcall Γ w _ hM ((h2.append hargs).append h3)).mono fun en w' ⟨r, v, Γ', σ', k1, k2, k3, k4, k5⟩ => by subst k1; exact hn r v Γ' σ' w' k2 k3 k4 k5
      · exact h.elim
    · rename_i hf
      split at h
      · rename_i x t h1 h2
        have e1 : c.args = #[x] := by rw [← Array.toArray_toList (xs := c.args), h1]
        have e2 : c.argTypes = #[t] := by rw [← Array.toArray_toList (xs := c.argTypes), h2]
        obtain ⟨v, r, k1, k2, k3⟩ := aLen_sound (ty := o.type) hT h (hE.ev x)
        exact wp_val (v := v) (by unfold execOp; rw [hop]; simp [resolve, hf, invoke, builtin, e1, e2, k1]) (hn r v Γ σ w k2 (Step.refl _ _ _) hM k3)
      · exact h.elim
    · rename_i hf
      split at h
      · rename_i s x t u h1 h2
        have e1 : c.args = #[s, x] := by rw [← Array.toArray_toList (xs := c.args), h1]
        have e2 : c.argTypes = #[t, u] := by rw [← Array.toArray_toList (xs := c.argTypes), h2]
        obtain ⟨v, w', k1, r, Γ', σ', k2, k3, k4, k5⟩ := aAppend_sound (ty := o.type) hT hM h (hE.ev s) (hE.ev x)
        exact wp_val (v := v) (by unfold execOp; rw [hop]; simp [resolve, hf, invoke, builtin, e1, e2, k1]) (hn r v Γ' σ' w' k2 k3 k4 k5)
      · exact h.elim
    · rename_i hf
      split at h
      · rename_i x r' h1
        have hr : VL Γ σ w (r'.map (ev e)) (r'.map a.eval) := hE.evs r'
        obtain ⟨v, y, k1, k2, k3⟩ := aMM_min (P := P) h (hE.ev x) hr
        exact wp_val (v := v) (by unfold execOp; rw [hop]; simp [resolve, hf, invoke, builtin, Builtin.min_, h1, k1]) (hn y v Γ σ w k2 (Step.refl _ _ _) hM k3)
      · exact h.elim
    · rename_i hf
      split at h
      · rename_i x r' h1
        have hr : VL Γ σ w (r'.map (ev e)) (r'.map a.eval) := hE.evs r'
        obtain ⟨v, y, k1, k2, k3⟩ := aMM_max (P := P) h (hE.ev x) hr
        exact wp_val (v := v) (by unfold execOp; rw [hop]; simp [resolve, hf, invoke, builtin, Builtin.max_, h1, k1]) (hn y v Γ σ w k2 (Step.refl _ _ _) hM k3)
      · exact h.elim
    · exact h.elim
  · exact h.elim

/-! ### regions in the text's order -/
/-- what a guard's operation has yielded; ds: the slots that the region's operations write -/
def gval (ds : List (Option Nat)) (e : Env) (j : Nat) : AV :=
  match ds[j]? with
  | some (some d) => e d
  | _ => .junk
def aOps (P : Program) (T : Tab) (md : Nat → Bool) (ds : List (Option Nat)) : List Oper → Env → St → (Env → St → Prop) → Prop
  | [], e, σ, K => K e σ
  | o :: r, e, σ, K =>
    match o.guard with
    | none => aOp P T md e σ o.dst o.op fun v σ' => aOps P T md ds r (e.put o.dst v) σ' K
    | some (j, want) => match gval ds e j with
      | .sc (.bool t) => (t = want → aOp P T md e σ o.dst o.op fun v σ' => aOps P T md ds r (e.put o.dst v) σ' K) ∧ (t = !want → aOps P T md ds r (e.put o.dst (.tup [])) σ K)
      | .tup [] => aOps P T md ds r (e.put o.dst (.tup [])) σ K
      | _ => False
def dstsOk (N : Nat) (ds : List (Option Nat)) : Bool := ds.all fun o => match o with | some d => decide (d < N) | none => true

theorem gval_sound (hE : EnvOk Γ σ w N e a) {ops : List Oper} {j : Nat} (hd : dstsOk N (ops.map (·.dst)) = true) :
    (∀ t, gval (ops.map (·.dst)) e j = .sc (.bool t) → yielded ops.toArray a.tmps j = some t) ∧ (gval (ops.map (·.dst)) e j = .tup [] → yielded ops.toArray a.tmps j = none) := by
  unfold gval
  rw [List.getElem?_map]
  cases ho : ops[j]? with
  | none => simp
  | some o =>
    cases hdst : o.dst with
    | none => simp [hdst]
    | some d =>
      have hlt : d < N := by
        have := List.all_eq_true.1 hd o.dst (List.mem_map.2 ⟨o, List.mem_of_getElem? ho, rfl⟩)
        simpa [hdst] using this
      have hv := hE.vals d
      have hsz := hE.size
      have hget : a.tmps[d]? = some (a.tmps.getD d undef) := by simp [hsz, hlt]
      simp only [hdst, Option.map_some]
      refine ⟨fun t ht => ?_, fun ht => ?_⟩
      · rw [ht] at hv
        simp only [V] at hv
        unfold yielded
        simp [ho, hdst, hget, hv]
      · rw [ht] at hv
        simp only [V, VL] at hv
        obtain ⟨us, hu, rfl⟩ := hv
        unfold yielded
        simp [ho, hdst, hget, hu]

theorem aOps_sound (hT : TabOk P T) {md : Nat → Bool} {ops : List Oper} (hall : dstsOk N (ops.map (·.dst)) = true) : ∀ {l : List Oper} {e : Env} {σ : St} {Γ : Ctx} {w : World} {a : Act} {K : Env → St → Prop},
    aOps P T md (ops.map (·.dst)) l e σ K → dstsOk N (l.map (·.dst)) = true → Models Γ σ w → EnvOk Γ σ w N e a →
    ∀ {Q : Exit → Act → World → Prop}, (∀ e' σ' Γ' w' a', K e' σ' → Step Γ σ w Γ' σ' w' → Models Γ' σ' w' → EnvOk Γ' σ' w' N e' a' → Q .normal a' w') → wpList P ops.toArray Q l a w
  | [], e, σ, Γ, w, a, K, h, _, hM, hE, Q, hQ => wpList_nil (hQ e σ Γ w a h (Step.refl _ _ _) hM hE)
  | o :: l, e, σ, Γ, w, a, K, h, hd, hM, hE, Q, hQ => by
    simp only [dstsOk, List.map_cons, List.all_cons, Bool.and_eq_true] at hd
    obtain ⟨hd1, hd2⟩ := hd
    have hdo : ∀ t, o.dst = some t → t < N := fun t ht => by rw [ht] at hd1; simpa using hd1
    have go : aOp P T md e σ o.dst o.op (fun v σ' => aOps P T md (ops.map (·.dst)) l (e.put o.dst v) σ' K) → o.wp P a w (wpList P ops.toArray Q l) Q := fun h =>
      aOp_sound hT hM hE h fun r v Γ' σ' w' h1 h2 h3 h4 =>
        aOps_sound hT hall h1 hd2 h3 ((hE.step hM h2).put hdo h4) fun e2 σ2 Γ2 w2 a2 k1 k2 k3 k4 => hQ e2 σ2 Γ2 w2 a2 k1 (h2.trans k2) k3 k4
    have skip : aOps P T md (ops.map (·.dst)) l (e.put o.dst (.tup [])) σ K → wpList P ops.toArray Q l (a.put o.dst undef) w := fun h =>
      aOps_sound hT hall h hd2 hM (hE.put hdo V_undef) hQ
    unfold wpList
    simp only [aOps] at h
    split at h
    · rename_i hg
      rw [if_pos (by simp [Region.wanted, hg])]
      exact .inl (go h)
    · rename_i j want hg
      obtain ⟨g1, g2⟩ := gval_sound hE (j := j) hall
      split at h
      · rename_i t ht
        have hy := g1 t ht
        by_cases hw : t = want
        · rw [if_pos (by simp [Region.wanted, hg, hy, hw])]
          exact .inl (go (h.1 hw))
        · rw [if_neg (by simp [Region.wanted, hg, hy, hw])]
          exact skip (h.2 (by cases t <;> cases want <;> simp_all))
      · rename_i ht
        have hy := g2 ht
        rw [if_neg (by simp [Region.wanted, hg, hy])]
        exact skip h
      · exact h.elim

section rules
variable {md : Nat → Bool} {ds : List (Option Nat)} {Q : Exit → Env → St → Prop} {K : Env → St → Prop} {o : Oper} {r : List Oper}
theorem aw_region {id : Nat} {l : List Oper} {T : Tab} (hT : TabOk P T) (md : Nat → Bool) (ds : List (Option Nat)) (hds : l.map (·.dst) = ds) (hd : dstsOk N ds = true)
    (h : aOps P T md ds l e σ fun e' σ' => Q .normal e' σ') : AW P N (.region id l.toArray false) Q e σ := fun Γ w a hM hE => by
  subst hds
  exact wp_region_lit (aOps_sound hT hd h hd hM hE fun e' σ' Γ' w' a' h1 h2 h3 h4 => ⟨Γ', σ', e', h1, h2, h3, h4⟩)
/-- a region, and what stands behind it -/
theorem aw_rs {id : Nat} {l : List Oper} {y : Code} {T : Tab} (hT : TabOk P T) (md : Nat → Bool) (ds : List (Option Nat)) (hds : l.map (·.dst) = ds) (hd : dstsOk N ds = true)
    (h : aOps P T md ds l e σ fun e' σ' => AW P N y Q e' σ') : AW P N (.seq (.region id l.toArray false) y) Q e σ := fun Γ w a hM hE => by
  subst hds
  refine wp_seq (wp_region_lit (aOps_sound hT hd h hd hM hE fun e' σ' Γ' w' a' h1 h2 h3 h4 => ?_))
  refine wp_mono (h1 Γ' w' a' h3 h4) ?_
  rintro ex a2 w2 ⟨Γ2, σ2, e2, k1, k2, k3, k4⟩
  exact ⟨Γ2, σ2, e2, k1, h2.trans k2, k3, k4⟩
theorem aops_nil (h : K e σ) : aOps P T md ds [] e σ K := h
theorem aops_cons (hg : o.guard = none) (h : ∀ K1 : AV → St → Prop, (∀ v σ', aOps P T md ds r (e.put o.dst v) σ' K → K1 v σ') → aOp P T md e σ o.dst o.op K1) : aOps P T md ds (o :: r) e σ K := by
  simp only [aOps, hg]
  exact h _ fun _ _ h => h
/-- a guarded operation: wanted or not -/
theorem aops_guard {j : Nat} {want t : Bool} (hg : o.guard = some (j, want)) (hj : gval ds e j = .sc (.bool t))
    (h1 : t = want → ∀ K1 : AV → St → Prop, (∀ v σ', aOps P T md ds r (e.put o.dst v) σ' K → K1 v σ') → aOp P T md e σ o.dst o.op K1)
    (h2 : t = !want → aOps P T md ds r (e.put o.dst (.tup [])) σ K) : aOps P T md ds (o :: r) e σ K := by
  simp only [aOps, hg, hj]
  exact ⟨fun h => h1 h _ fun _ _ h => h, h2⟩
theorem aops_wanted {j : Nat} {want t : Bool} (hg : o.guard = some (j, want)) (hj : gval ds e j = .sc (.bool t)) (ht : t = want)
    (h1 : ∀ K1 : AV → St → Prop, (∀ v σ', aOps P T md ds r (e.put o.dst v) σ' K → K1 v σ') → aOp P T md e σ o.dst o.op K1) : aOps P T md ds (o :: r) e σ K :=
  aops_guard hg hj (fun _ => h1) (fun h => by subst ht; cases t <;> cases h)
theorem aops_unwanted {j : Nat} {want t : Bool} (hg : o.guard = some (j, want)) (hj : gval ds e j = .sc (.bool t)) (ht : t = !want)
    (h2 : aOps P T md ds r (e.put o.dst (.tup [])) σ K) : aOps P T md ds (o :: r) e σ K :=
  aops_guard hg hj (fun h => by subst h; cases t <;> cases ht) (fun _ => h2)
theorem is_ops {l : List Oper} (h : aOps P T md ds l e σ K) : aOps P T md ds l e σ K := h
theorem is_op {d : Option Nat} {op : Op} {K : AV → St → Prop} (h : aOp P T md e σ d op K) : aOp P T md e σ d op K := h
theorem is_aw {c : Code} (h : AW P N c Q e σ) : AW P N c Q e σ := h
theorem aPick_t {t : Bool} {x y : AV} {K : AV → Prop} (ht : t = true) (h : K x) : aPick (.sc (.bool t)) x y K := ⟨(fun _ => h), (fun h => by rw [ht] at h; cases h)⟩
theorem aPick_f {t : Bool} {x y : AV} {K : AV → Prop} (ht : t = false) (h : K y) : aPick (.sc (.bool t)) x y K := ⟨(fun h => by rw [ht] at h; cases h), (fun _ => h)⟩
theorem aPick_s {t : Bool} {x y : AV} {K : AV → Prop} (h : t = true → K x) (k : t = false → K y) : aPick (.sc (.bool t)) x y K := ⟨h, k⟩
theorem aw_cond_t {c : Operand} {x y : Code} {t : Bool} (hc : ev e c = .sc (.bool t)) (ht : t = true) (h : AW P N x Q e σ) : AW P N (.cond c x y) Q e σ := aw_cond hc (fun _ => h) (fun hf => by rw [ht] at hf; cases hf)
theorem aw_cond_f {c : Operand} {x y : Code} {t : Bool} (hc : ev e c = .sc (.bool t)) (ht : t = false) (h : AW P N y Q e σ) : AW P N (.cond c x y) Q e σ := aw_cond hc (fun hf => by rw [ht] at hf; cases hf) (fun _ => h)
theorem aops_skip {j : Nat} {want : Bool} (hg : o.guard = some (j, want)) (hj : gval ds e j = .tup []) (h2 : aOps P T md ds r (e.put o.dst (.tup [])) σ K) : aOps P T md ds (o :: r) e σ K := by
  simp only [aOps, hg, hj]
  exact h2
end rules
end
end Go.Ab
