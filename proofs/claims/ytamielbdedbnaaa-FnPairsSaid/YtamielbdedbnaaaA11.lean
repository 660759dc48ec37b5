/- Ab, part 11: functions entered, results, objects let go, calls that see none of the caller's objects. -/
import Derived.Test.YtamielbdedbnaaaA10
set_option linter.unusedSimpArgs false
set_option linter.unusedVariables false
namespace Go.Ab
open Go.RowKit

def env0 (args : List AV) : Env := fun t => args.getD t (.tup [])
def aRes1 (T : Tab) (e : Env) (σ : St) (r : ResultVar) (K : AV → Prop) : Prop :=
  match r with
  | .tmp t => K (e t)
  | .cell a t => aLoad T t (e a) σ K
def aRess (T : Tab) (e : Env) (σ : St) : List ResultVar → (List AV → Prop) → Prop
  | [], K => K []
  | r :: rs, K => aRes1 T e σ r fun v => aRess T e σ rs fun vs => K (v :: vs)
def aRes (T : Tab) (e : Env) (σ : St) (rs : List ResultVar) (K : AV → Prop) : Prop :=
  match rs with
  | [r] => aRes1 T e σ r K
  | rs => aRess T e σ rs fun vs => K (.tup vs)
/-- what holds at a function's end -/
def Ends (T : Tab) (rs : List ResultVar) (Q : AV → St → Prop) : Exit → Env → St → Prop
  | .normal, e, σ | .ret, e, σ => aRes T e σ rs fun r => Q r σ
  | _, _, _ => False

section
variable {Γ Γ' : Ctx} {σ σ' : St} {w w' : World} {P : Program} {T : Tab} {N : Nat} {e : Env} {a : Act}

theorem VL_getD : ∀ {xs : List AV} {vs : List Value}, VL Γ σ w xs vs → ∀ t, V Γ σ w (xs.getD t (.tup [])) (vs.getD t undef)
  | [], vs, h, t => by simp only [VL] at h; subst h; simpa using V_undef
  | x :: xs, vs, h, t => by
    simp only [VL] at h
    obtain ⟨u, us, rfl, h1, h2⟩ := h
    cases t with
    | zero => simpa using h1
    | succ t => simpa using VL_getD h2 t
theorem envOk0 {args : List AV} {vs : List Value} (h : VL Γ σ w args vs) (hl : args.length ≤ N) :
    EnvOk Γ σ w N (env0 args) { tmps := vs.toArray ++ Array.replicate (N - vs.toArray.size) undef, defers := [] } := by
  have hlen := h.length
  refine ⟨by simp; omega, fun t => ?_, rfl⟩
  have := VL_getD h t
  have e2 : (vs.toArray ++ Array.replicate (N - vs.toArray.size) undef).getD t undef = vs.getD t undef := by
    simp only [Array.getD_eq_getD_getElem?, List.getD_eq_getElem?_getD]
    by_cases ht : t < vs.length
    · rw [Array.getElem?_append_left (by simpa using ht)]; simp
    · rw [Array.getElem?_append_right (by simp; omega), List.getElem?_eq_none (by omega)]
      rw [Array.getElem?_replicate]
      split <;> rfl
  rw [e2]
  exact this

def resOne (tmps : Array Value) : ResultVar → Sem Value
  | .tmp t => pure (tmps.getD t undef)
  | .cell a t => do loadVar t (← asAddr (tmps.getD a undef))
theorem results_eq (fn : Func) (tmps : Array Value) : results fn tmps = (do
    let vs ← fn.results.mapM (resOne tmps)
    pure (if h : vs.size = 1 then vs[0] else .tuple vs)) := rfl
theorem aRes1_sound (hT : TabOk P T) (hM : Models Γ σ w) (hE : EnvOk Γ σ w N e a) {r : ResultVar} {K : AV → Prop} (h : aRes1 T e σ r K) :
    ∃ v y, (resOne a.tmps r).run P w = .ok v w ∧ K y ∧ V Γ σ w y v := by
  cases r with
  | tmp t => exact ⟨a.tmps.getD t undef, _, by simp [resOne], h, hE.vals t⟩
  | cell x t =>
    obtain ⟨v, y, h1, h2, h3⟩ := aLoad_sound (P := P) hT hM h (hE.vals x)
    have hp : ∃ p, a.tmps.getD x undef = .pointer (some p) := by
      have hx := hE.vals x
      simp only [aRes1] at h
      cases hq : e x <;> rw [hq] at h hx <;> simp only [aLoad] at h
      · simp only [V] at hx; obtain ⟨g, off, us, h1, _⟩ := hx; exact ⟨_, h1⟩
      · simp only [V] at hx; exact hx.1
    obtain ⟨p, hp⟩ := hp
    rw [hp] at h1
    refine ⟨v, y, ?_, h2, h3⟩
    rw [← h1]
    simp only [resOne]
    rw [hp]
    simp [Instr.loadAt, Instr.sureAddr, asAddr]
theorem aRess_sound (hT : TabOk P T) (hM : Models Γ σ w) (hE : EnvOk Γ σ w N e a) : ∀ {rs : List ResultVar} {K : List AV → Prop}, aRess T e σ rs K →
    ∃ vs ys, (rs.mapM (resOne a.tmps)).run P w = .ok vs w ∧ K ys ∧ VL Γ σ w ys vs ∧ vs.length = rs.length
  | [], K, h => ⟨[], [], by simp, h, by simp [VL], rfl⟩
  | r :: rs, K, h => by
    simp only [aRess] at h
    obtain ⟨v, y, h1, h2, h3⟩ := aRes1_sound hT hM hE h
    obtain ⟨vs, ys, k1, k2, k3, k4⟩ := aRess_sound hT hM hE h2
    refine ⟨v :: vs, y :: ys, ?_, k2, by simp only [VL]; exact ⟨v, vs, rfl, h3, k3⟩, by simp [k4]⟩
    rw [List.mapM_cons, Sem.run_bind, h1]
    simp only [Result.andThen_ok, Sem.run_bind, k1, Sem.run_pure]
theorem aRes_sound (hT : TabOk P T) (hM : Models Γ σ w) (hE : EnvOk Γ σ w N e a) {fn : Func} {K : AV → Prop} (h : aRes T e σ fn.results.toList K) :
    ∃ v y, (results fn a.tmps).run P w = .ok v w ∧ K y ∧ V Γ σ w y v := by
  rw [results_eq, Sem.run_bind, Array.mapM_eq_mapM_toList]
  unfold aRes at h
  split at h
  · rename_i r hr
    obtain ⟨v, y, h1, h2, h3⟩ := aRes1_sound hT hM hE h
    refine ⟨v, y, ?_, h2, h3⟩
    rw [hr]
    simp [h1]
  · rename_i hne
    obtain ⟨vs, ys, h1, h2, h3, h4⟩ := aRess_sound hT hM hE h
    have hlen : vs.length ≠ 1 := fun hq => by
      rw [hq] at h4
      match hm : fn.results.toList, h4 with
      | [r], _ => exact hne r hm
    refine ⟨.tuple vs.toArray, _, ?_, h2, by simp only [V]; exact ⟨vs, rfl, h3⟩⟩
    simp [h1, hlen]

/-- A function entered. -/
theorem acall_intro {f : FuncId} {fn : Func} {c : Code} {args : List AV} {rs : List ResultVar} {Q : AV → St → Prop} (T : Tab) (hT : TabOk P T) (hf : P.funcs[f]? = some fn)
    (hname : (fn.name == "runtime.NumGoroutine") = false) (hb : fn.body = some c) (hN : fn.ntmps = N) (hr : fn.results = rs.toArray) (hl : args.length ≤ N)
    (h : AW P N c (Ends T rs Q) (env0 args) σ) : ACall P f args σ Q := by
  refine ⟨⟨fn, hf, hname, by rw [hb]; rfl⟩, fun Γ w vs hM hv => ?_⟩
  refine calls_of_wp hf hb ?_
  rw [hN]
  refine wp_mono (h Γ w _ hM (envOk0 hv hl)) ?_
  rintro ex a' w' ⟨Γ', σ', e', h1, h2, h3, h4⟩
  have key : aRes T e' σ' rs (fun r => Q r σ') → a'.defers = [] ∧ ∃ v, (results fn a'.tmps).run P w' = .ok v w' ∧
      ∃ r v' Γ' σ', Ending.returned v = Ending.returned v' ∧ Q r σ' ∧ Step Γ σ w Γ' σ' w' ∧ Models Γ' σ' w' ∧ V Γ' σ' w' r v' := fun hk => by
    obtain ⟨v, y, k1, k2, k3⟩ := aRes_sound (fn := fn) hT h3 h4 (by rw [hr]; exact hk)
    exact ⟨h4.defers, v, k1, y, v, Γ', σ', rfl, k2, h2, h3, k3⟩
  cases ex with
  | normal => exact key h1
  | ret => exact key h1
  | _ => exact h1.elim

end
end Go.Ab
