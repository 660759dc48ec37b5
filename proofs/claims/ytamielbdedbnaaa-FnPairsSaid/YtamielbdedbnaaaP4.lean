/- For all bytes 'code' and 'more' that can be read, laws.FnPairs returns true, and both read behind the call as they read before. Conditions: none. -/
import Derived.Test.YtamielbdedbnaaaP3
import Derived.Test.YtamielbdedbnaaaR1
import Derived.Test.YtamielbdedbnaaaRows
set_option linter.unusedSimpArgs false
set_option linter.unusedVariables false
namespace Go.Proofs.Ytamielbdedbnaaa
open Go.ChangeShapes Go.WideShapes Go.ChangeAt Go.RowKit Go.Ab
theorem own_none : ownKnob Try.prog.godebug = none := by kernel_rfl
theorem cells_u8 : Try.prog.cellsOf 5 = 1 := by kernel_rfl
theorem kids : Kids Try.prog (· < Try.prog.types.size) := kids_rows (by kernel_rfl) (by kernel_rfl)
theorem full : ∀ t e, t < Try.prog.types.size → Try.prog.underlying t = some (.slice e) → 0 < Try.prog.cellsOf e := slices_full_of Try.prog (by kernel_rfl)
theorem params_FnPairs : Try.f3.params.toList = [22, 22] := by kernel_rfl
set_option maxRecDepth 100000 in
theorem fnPairs_lifted (os : Os) (started : os.Started) (H : Type) (enc : TypeId × Value → H) :
    ReturnsInHanded {} Try.checked os 3 .any (Rows.fnPairsSpec.pre6 enc Try.prog Try.f3 Rows.fnPairsRow.domain false) (Rows.fnPairsSpec.post enc Try.prog Try.f3 false true false false) := by
  refine returnsInHanded_of_change (C := Try.checked) own_none started (by kernel_rfl) Try.func3
    (ChangeSpec.witness6 (enc := enc) (C := Try.checked) false ⟨#[], #[.slice none 0 0, .slice none 0 0], []⟩ 8 (by kernel_rfl) (by kernel_rfl) (by kernel_rfl) (by kernel_rfl)) ?_
  intro W base args ds gs before hval hW _ _
  have hlt := hW.lt
  obtain ⟨p, q, hA, hV, rfl, _, _⟩ := id hW
  have hA' := hA
  have hval' : ∀ (j : Nat) t v, Try.f3.params[j]? = some t → args[j]? = some v → Value.okWide Try.prog W .any base t v := hval
  rw [params_FnPairs] at hA'
  obtain ⟨v0, v1, d0, d1, p0, p1, rfl, rfl, rfl, h0, h1⟩ := trodAll_two hA'
  have u8 : Try.prog.underlying 22 = some (.slice 5) := TEntry.slice E_22 rfl
  have u1 : Try.prog.underlying 5 = some (.int .u8) := TEntry.int E_5 rfl
  obtain ⟨c0, k0⟩ := V_bytes u8 u1 cells_u8 (okWide_slice u8 (hval' 0 22 v0 (by kernel_rfl) rfl)) h0 (fun x hx => hlt x (by simp [hx]))
  obtain ⟨c1, k1⟩ := V_bytes u8 u1 cells_u8 (okWide_slice u8 (hval' 1 22 v1 (by kernel_rfl) rfl)) h1 (fun x hx => hlt x (by simp [hx]))
  refine law_calls (T := (· < Try.prog.types.size)) (xs := [.lst true 1 (c0.map byteAV), .lst true 1 (c1.map byteAV)]) kids full (by rw [params_FnPairs]; decide +kernel) rfl (tb := 4) (by kernel_rfl) (TEntry.bool E_4 rfl) hW rfl ?_ (p_FnPairs true true c0 c1 0)
  simp only [VL]
  exact ⟨v0, [v1], rfl, k0, v1, [], rfl, k1, rfl⟩
/-- For all bytes code and more, laws.FnPairs returns true, and leaves both as they were. -/
theorem fnPairs_holds : Rows.FnPairsSaid :=
  OpenClaim.holds_of_wide 3 Try.f3 rfl rfl rfl rfl rfl rfl rfl ⟨rfl, rfl, rfl, rfl, rfl⟩ rfl rfl rfl rfl rfl (by kernel_rfl) Try.func3 (by kernel_rfl)
    (of_decide_eq_true (by kernel_rfl)) (by unfold Func.isWrapper; rw [if_neg (of_decide_eq_false (by kernel_rfl))]; exact ⟨rfl, rfl⟩)
    (fun os started H enc _ => fnPairs_lifted os started H enc)
#print axioms fnPairs_holds
end Go.Proofs.Ytamielbdedbnaaa
