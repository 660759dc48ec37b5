/- Ab, part 2: frames, the weakest precondition of code over abstract states, calls, and the rules that take code apart. -/
import Derived.Test.YtamielbdedbnaaaA1
namespace Go.Ab
open Go.RowKit

abbrev Env := Nat → AV
def Env.upd (e : Env) (d : Nat) (v : AV) : Env := fun t => if t = d then v else e t
def Env.put (e : Env) : Option Nat → AV → Env
  | some d, v => e.upd d v
  | none, _ => e

/-- a constant of the code -/
def cv1 : Value → AV
  | .slice none 0 0 => .lst false 0 []
  | v => .sc v
def cv : Value → AV
  | .agg cs => .agg (cs.toList.map cv1)
  | v => cv1 v
def ev (e : Env) : Operand → AV
  | .tmp t => e t
  | .const v => cv v
  | .global g => .sc (.pointer (some ⟨g, 0, none⟩))
  | .func f => .fn f [] []

structure EnvOk (Γ : Ctx) (σ : St) (w : World) (N : Nat) (e : Env) (a : Act) : Prop where
  size : a.tmps.size = N
  vals : ∀ t, V Γ σ w (e t) (a.tmps.getD t undef)
  defers : a.defers = []

section
variable {Γ Γ' : Ctx} {σ σ' : St} {w w' : World} {N : Nat} {e : Env} {a : Act} {P : Program}

theorem V_undef : V Γ σ w (.tup []) undef := by simp only [V]; exact ⟨[], rfl, by simp [VL]⟩
theorem V_cv1 (v : Value) : V Γ σ w (cv1 v) v := by
  unfold cv1
  split
  · simp only [V]; exact ⟨none, 0, rfl, Nat.le_refl _, by unfold maxLen; omega, ⟨fun _ => rfl, fun _ => rfl⟩, fun h => absurd rfl h⟩
  · simp only [V]
theorem VL_cv1 : ∀ (vs : List Value), VL Γ σ w (vs.map cv1) vs
  | [] => by simp [VL]
  | v :: vs => by simp only [List.map_cons, VL]; exact ⟨v, vs, rfl, V_cv1 v, VL_cv1 vs⟩
theorem V_cv (v : Value) : V Γ σ w (cv v) v := by
  unfold cv
  split
  · simp only [V]; exact ⟨_, by simp, VL_cv1 _⟩
  · exact V_cv1 _
theorem EnvOk.ev (h : EnvOk Γ σ w N e a) (x : Operand) : V Γ σ w (ev e x) (a.eval x) := by
  cases x with
  | tmp t => exact h.vals t
  | const v => exact V_cv v
  | global g => simp [Go.Ab.ev, Act.eval, V]
  | func f => simp only [Go.Ab.ev, Act.eval, V]; exact ⟨[], [], rfl, by simp [VL], by simp [VL]⟩
theorem EnvOk.evs (h : EnvOk Γ σ w N e a) : ∀ (xs : List Operand), VL Γ σ w (xs.map (Go.Ab.ev e)) (xs.map a.eval)
  | [] => by simp [VL]
  | x :: xs => by simp only [List.map_cons, VL]; exact ⟨_, _, rfl, h.ev x, h.evs xs⟩
theorem EnvOk.step (h : EnvOk Γ σ w N e a) (hM : Models Γ σ w) (hs : Step Γ σ w Γ' σ' w') : EnvOk Γ' σ' w' N e a :=
  ⟨h.size, fun t => V_step hM hs _ _ (h.vals t), h.defers⟩
theorem EnvOk.put (h : EnvOk Γ σ w N e a) {d : Option Nat} (hd : ∀ t, d = some t → t < N) {x : AV} {v : Value} (hv : V Γ σ w x v) :
    EnvOk Γ σ w N (e.put d x) (a.put d v) := by
  cases d with
  | none => exact h
  | some d =>
    have hlt := hd d rfl
    refine ⟨by simp [Act.put, h.size], fun t => ?_, h.defers⟩
    have ht := h.vals t
    simp only [Env.put, Env.upd, Act.put]
    by_cases hq : t = d
    · subst hq
      rw [if_pos rfl]
      simpa [h.size, hlt] using hv
    · rw [if_neg hq]
      simpa [Array.getElem?_setIfInBounds, Ne.symm hq] using ht

/-- What code is to do, over abstract states. -/
def AW (P : Program) (N : Nat) (c : Code) (Q : Exit → Env → St → Prop) (e : Env) (σ : St) : Prop :=
  ∀ Γ w a, Models Γ σ w → EnvOk Γ σ w N e a →
    c.wp P (fun ex a' w' => ∃ Γ' σ' e', Q ex e' σ' ∧ Step Γ σ w Γ' σ' w' ∧ Models Γ' σ' w' ∧ EnvOk Γ' σ' w' N e' a') a w

def Enterable (P : Program) (f : FuncId) : Prop := ∃ fn, P.funcs[f]? = some fn ∧ (fn.name == "runtime.NumGoroutine") = false ∧ fn.body.isNone = false

/-- A call, over abstract states. -/
def ACall (P : Program) (f : FuncId) (args : List AV) (σ : St) (Q : AV → St → Prop) : Prop :=
  Enterable P f ∧ ∀ Γ w (vs : List Value), Models Γ σ w → VL Γ σ w args vs →
    Calls P f vs.toArray w fun en w' => ∃ r v Γ' σ', en = .returned v ∧ Q r σ' ∧ Step Γ σ w Γ' σ' w' ∧ Models Γ' σ' w' ∧ V Γ' σ' w' r v

theorem ACall.mono {f : FuncId} {args : List AV} {Q Q' : AV → St → Prop} (h : ACall P f args σ Q) (hq : ∀ r σ', Q r σ' → Q' r σ') : ACall P f args σ Q' :=
  ⟨h.1, fun Γ w vs hM hv => (h.2 Γ w vs hM hv).mono fun _ _ ⟨r, v, Γ', σ', h1, h2, h3⟩ => ⟨r, v, Γ', σ', h1, hq _ _ h2, h3⟩⟩

section rules
variable {Q : Exit → Env → St → Prop}
theorem AW.mono {c : Code} {Q' : Exit → Env → St → Prop} (h : AW P N c Q e σ) (hq : ∀ ex e σ, Q ex e σ → Q' ex e σ) : AW P N c Q' e σ :=
  fun Γ w a hM hE => wp_mono (h Γ w a hM hE) fun _ _ _ ⟨Γ', σ', e', h1, h2⟩ => ⟨Γ', σ', e', hq _ _ _ h1, h2⟩
theorem aw_skip (h : Q .normal e σ) : AW P N .skip Q e σ := fun Γ w _ hM hE => wp_skip ⟨Γ, σ, e, h, Step.refl Γ σ w, hM, hE⟩
theorem aw_label {l : Nat} (h : Q .normal e σ) : AW P N (.label l) Q e σ := fun Γ w _ hM hE => wp_label ⟨Γ, σ, e, h, Step.refl Γ σ w, hM, hE⟩
theorem aw_exit {id : Nat} (h : Q (.exit id) e σ) : AW P N (.exit id) Q e σ := fun Γ w _ hM hE => wp_exit ⟨Γ, σ, e, h, Step.refl Γ σ w, hM, hE⟩
theorem aw_ret (h : Q .ret e σ) : AW P N .ret Q e σ := fun Γ w _ hM hE => wp_ret ⟨Γ, σ, e, h, Step.refl Γ σ w, hM, hE⟩
/-- K behind a normal end, Q behind all others -/
def thenA (K : Env → St → Prop) (Q : Exit → Env → St → Prop) : Exit → Env → St → Prop
  | .normal, e, σ => K e σ
  | ex, e, σ => Q ex e σ
theorem aw_seq {x y : Code} (h : ∀ K : Env → St → Prop, (∀ e σ, AW P N y Q e σ → K e σ) → AW P N x (thenA K Q) e σ) : AW P N (.seq x y) Q e σ := by
  intro Γ w a hM hE
  refine wp_seq (wp_mono (h _ (fun _ _ h => h) Γ w a hM hE) ?_)
  rintro ex a' w' ⟨Γ', σ', e', h1, h2, h3, h4⟩
  cases ex with
  | normal =>
    refine wp_mono (h1 Γ' w' a' h3 h4) ?_
    rintro ex a2 w2 ⟨Γ2, σ2, e2, k1, k2, k3, k4⟩
    exact ⟨Γ2, σ2, e2, k1, h2.trans k2, k3, k4⟩
  | _ => exact ⟨Γ', σ', e', h1, h2, h3, h4⟩
theorem aw_cond {c : Operand} {x y : Code} {t : Bool} (hc : ev e c = .sc (.bool t)) (ht : t = true → AW P N x Q e σ) (hf : t = false → AW P N y Q e σ) :
    AW P N (.cond c x y) Q e σ := by
  intro Γ w a hM hE
  have := hE.ev c
  rw [hc] at this
  simp only [V] at this
  exact wp_cond_split this (fun h => ht h Γ w a hM hE) (fun h => hf h Γ w a hM hE)
def inBlockA (id : Nat) (Q : Exit → Env → St → Prop) : Exit → Env → St → Prop
  | .exit id', e, σ => if id' = id then Q .normal e σ else Q (.exit id') e σ
  | ex, e, σ => Q ex e σ
theorem aw_block {id : Nat} {c : Code} (h : AW P N c (inBlockA id Q) e σ) : AW P N (.block id c) Q e σ := by
  intro Γ w a hM hE
  refine wp_block (wp_mono (h Γ w a hM hE) ?_)
  rintro ex a' w' ⟨Γ', σ', e', h1, h2⟩
  cases ex with
  | exit id' =>
    simp only [inBlockA, Exit.inBlock] at h1 ⊢
    split
    · rename_i hq; rw [if_pos hq] at h1; exact ⟨Γ', σ', e', h1, h2⟩
    · rename_i hq; rw [if_neg hq] at h1; exact ⟨Γ', σ', e', h1, h2⟩
  | _ => exact ⟨Γ', σ', e', h1, h2⟩
/-- A loop: what holds at each round's head, and a number that each round lowers. -/
theorem aw_loop {c : Code} (I : Nat → Env → St → Prop) (n : Nat) (h0 : I n e σ)
    (round : ∀ n e σ, I n e σ → AW P N c (thenA (fun e' σ' => ∃ m, m < n ∧ I m e' σ') Q) e σ) : AW P N (.loop c) Q e σ := by
  have key : ∀ n e σ, I n e σ → ∀ Γ w a, Models Γ σ w → EnvOk Γ σ w N e a → ∀ (b : Frame) (k : List Item) (cs : List Frame),
      ∃ ex a' w', (∃ Γ' σ' e', Q ex e' σ' ∧ Step Γ σ w Γ' σ' w' ∧ Models Γ' σ' w' ∧ EnvOk Γ' σ' w' N e' a') ∧
        Arrives P (lone (b.at a (.code c :: .inLoop c :: k)) cs w) b k cs ex a' w' := by
    intro n
    induction n using Nat.strongRecOn with
    | _ n ih =>
      intro e σ hI Γ w a hM hE b k cs
      obtain ⟨ex, a1, w1, ⟨Γ1, σ1, e1, hq, hs1, hM1, hE1⟩, harr⟩ := round n e σ hI Γ w a hM hE b (.inLoop c :: k) cs
      cases ex with
      | normal =>
        obtain ⟨m, hlt, hI1⟩ := hq
        obtain ⟨ex2, a2, w2, ⟨Γ2, σ2, e2, hq2, hs2, hM2, hE2⟩, harr2⟩ := ih m hlt e1 σ1 hI1 Γ1 w1 a1 hM1 hE1 b k cs
        exact ⟨ex2, a2, w2, ⟨Γ2, σ2, e2, hq2, hs1.trans hs2, hM2, hE2⟩, .of_steps (Steps.trans harr (.one step_inLoop)) harr2⟩
      | exit id => exact ⟨_, a1, w1, ⟨Γ1, σ1, e1, hq, hs1, hM1, hE1⟩, .pass (x := .inLoop c) rfl (fun _ _ => .inl (by simp)) harr⟩
      | goto l => exact ⟨_, a1, w1, ⟨Γ1, σ1, e1, hq, hs1, hM1, hE1⟩, .pass (x := .inLoop c) rfl (fun _ _ => .inl (by simp)) harr⟩
      | ret => exact ⟨_, a1, w1, ⟨Γ1, σ1, e1, hq, hs1, hM1, hE1⟩, .pass (x := .inLoop c) rfl (fun _ _ => .inl (by simp)) harr⟩
      | panic ch => exact ⟨_, a1, w1, ⟨Γ1, σ1, e1, hq, hs1, hM1, hE1⟩, .pass (x := .inLoop c) rfl (fun _ _ => .inl (by simp)) harr⟩
      | outgrown => exact ⟨_, a1, w1, ⟨Γ1, σ1, e1, hq, hs1, hM1, hE1⟩, .pass (x := .inLoop c) rfl (fun _ _ => .inl (by simp)) harr⟩
  intro Γ w a hM hE b k cs
  obtain ⟨ex, a', w', hq, harr⟩ := key n e σ h0 Γ w a hM hE b k cs
  exact ⟨ex, a', w', hq, .of_steps (.one step_loop) harr⟩
end rules
end
end Go.Ab
