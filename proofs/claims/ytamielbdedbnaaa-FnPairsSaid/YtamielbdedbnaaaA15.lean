/- Ab, part 15: rounds that count up, and small closers of the walk. -/
import Derived.Test.YtamielbdedbnaaaA14
set_option linter.unusedSimpArgs false
set_option linter.unusedVariables false
namespace Go.Ab
open Go.RowKit
variable {P : Program} {N : Nat} {e : Env} {σ : St} {Q : Exit → Env → St → Prop}
theorem aw_count {c : Code} (len : Nat) (I : Nat → Env → St → Prop) (h0 : I 0 e σ)
    (round : ∀ i e σ, I i e σ → i ≤ len → AW P N c (thenA (fun e' σ' => i < len ∧ I (i + 1) e' σ') Q) e σ) : AW P N (.loop c) Q e σ := by
  refine aw_loop (fun n e σ => ∃ i, i + n = len ∧ I i e σ) len ⟨0, by omega, h0⟩ ?_
  rintro n e σ ⟨i, hi, h⟩
  refine (round i e σ h (by omega)).mono ?_
  intro ex e' σ' hq
  cases ex with
  | normal => obtain ⟨h1, h2⟩ := hq; exact ⟨n - 1, by omega, i + 1, by omega, h2⟩
  | _ => exact hq
theorem wrapI {x : Int} (h1 : -9223372036854775808 ≤ x) (h2 : x ≤ 9223372036854775807) : IntKind.i64.wrap x = x := by
  have h : IntKind.i64.wrap x = (x + 9223372036854775808) % 18446744073709551616 - 9223372036854775808 := by
    simp only [IntKind.wrap, IntKind.bits, IntKind.signed]; simp; split <;> omega
  rw [h]; omega
theorem wrapU64 {x : Int} (h1 : 0 ≤ x) (h2 : x < 18446744073709551616) : IntKind.u64.wrap x = x := by
  have h : IntKind.u64.wrap x = x % 18446744073709551616 := by simp [IntKind.wrap, IntKind.bits, IntKind.signed]
  rw [h]; omega
theorem wrapU8 {x : Int} (h1 : 0 ≤ x) (h2 : x < 256) : IntKind.u8.wrap x = x := by
  have h : IntKind.u8.wrap x = x % 256 := by simp [IntKind.wrap, IntKind.bits, IntKind.signed]
  rw [h]; omega
theorem push_objs (σ : St) (ob : AObj) (o : Nat) : (σ.push ob).objs o = if o = σ.next then some ob else σ.objs o := rfl
theorem push_next (σ : St) (ob : AObj) : (σ.push ob).next = σ.next + 1 := rfl
theorem set_objs (σ : St) (x : Nat) (ob : AObj) (o : Nat) : (σ.set x ob).objs o = if o = x then some ob else σ.objs o := rfl
theorem set_next (σ : St) (x : Nat) (ob : AObj) : (σ.set x ob).next = σ.next := rfl
theorem byteAt_nn (s : ByteArray) (i : Nat) : 0 ≤ byteAt s i := Int.natCast_nonneg _
theorem byteAt_lt (s : ByteArray) (i : Nat) : byteAt s i < 256 := by
  have := UInt8.toNat_lt (s.data.toList.getD i 0)
  unfold byteAt; omega
theorem mtrue {p : Prop} [Decidable p] (h : decide p = true) : p := of_decide_eq_true h
theorem k_use {y : Code} {K : Env → St → Prop} (h : ∀ e σ, AW P N y Q e σ → K e σ) (e : Env) (σ : St) (hh : AW P N y Q e σ) : K e σ := h e σ hh
theorem k1_use {T : Tab} {md : Nat → Bool} {ds : List (Option Nat)} {r : List Oper} {d : Option Nat} {e : Env} {K : Env → St → Prop} {K1 : AV → St → Prop} (h : ∀ v σ', aOps P T md ds r (e.put d v) σ' K → K1 v σ') (v : AV) (σ' : St) (hh : aOps P T md ds r (e.put d v) σ' K) : K1 v σ' := h v σ' hh
attribute [go_sem] Int.toNat_natCast Int.toNat_zero Int.toNat_one
end Go.Ab
