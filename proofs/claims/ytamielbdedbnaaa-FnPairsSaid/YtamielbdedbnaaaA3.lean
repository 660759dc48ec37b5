/- Ab, part 3: the table of types, and the operations that touch no memory. -/
import Derived.Test.YtamielbdedbnaaaA2
set_option linter.unusedSimpArgs false
set_option linter.unusedVariables false
namespace Go.Ab
open Go.RowKit

inductive TK where
  | bool | int (k : IntKind) | str | ptr (e : Nat) | slice (e : Nat) | arr (n e : Nat)
  | struct (fs : List (Nat × Nat × Nat))   -- offset, size, type
  | iface | func | other
  deriving DecidableEq

structure TI where
  size : Nat
  bytes : Nat
  k : TK
  zero : Value

abbrev Tab := Nat → Option TI

def TK.agg : TK → Bool
  | .arr _ _ | .struct _ => true
  | _ => false

def kindOf (P : Program) (t : TypeId) : Option TK :=
  match P.underlying t with
  | none => none
  | some .bool => some .bool
  | some (.int k) => some (.int k)
  | some .string => some .str
  | some (.pointer e) => some (.ptr e)
  | some (.slice e) => some (.slice e)
  | some (.array n e) => some (.arr n e)
  | some (.struct fs) => some (.struct (fs.toList.map fun f => (f.offset, P.cellsOf f.type, f.type)))
  | some (.interface _) => some .iface
  | some (.func _ _ _) => some .func
  | some _ => some .other

def TEntry (P : Program) (t : TypeId) (ti : TI) : Prop :=
  (P.info? t).map (fun i => (i.size, i.bytes, i.zero)) = some (ti.size, ti.bytes, some ti.zero) ∧ kindOf P t = some ti.k

def TabOk (P : Program) (T : Tab) : Prop := ∀ t ti, T t = some ti → TEntry P t ti

section
variable {P : Program} {t : TypeId} {ti : TI}
theorem TEntry.info (h : TEntry P t ti) : ∃ i, P.info? t = some i ∧ i.size = ti.size ∧ i.bytes = ti.bytes ∧ i.zero = some ti.zero := by
  obtain ⟨h, _⟩ := h
  cases hq : P.info? t with
  | none => simp [hq] at h
  | some i => simp [hq] at h; exact ⟨i, rfl, h⟩
theorem TEntry.slice (h : TEntry P t ti) {e : Nat} (hk : ti.k = .slice e) : P.underlying t = some (.slice e) := by
  have h := h.2
  rw [hk] at h
  unfold kindOf at h
  split at h <;> simp_all
theorem TEntry.arr (h : TEntry P t ti) {n e : Nat} (hk : ti.k = .arr n e) : P.underlying t = some (.array n e) := by
  have h := h.2
  rw [hk] at h
  unfold kindOf at h
  split at h <;> simp_all
theorem TEntry.struct (h : TEntry P t ti) {fs : List (Nat × Nat × Nat)} (hk : ti.k = .struct fs) :
    ∃ fields : Array Field, P.underlying t = some (.struct fields) ∧ fields.toList.map (fun f => (f.offset, P.cellsOf f.type, f.type)) = fs := by
  have h := h.2
  rw [hk] at h
  unfold kindOf at h
  split at h <;> simp_all
theorem TEntry.bool (h : TEntry P t ti) (hk : ti.k = .bool) : P.underlying t = some .bool := by
  have h := h.2
  rw [hk] at h
  unfold kindOf at h
  split at h <;> simp_all
theorem TEntry.int (h : TEntry P t ti) {k : IntKind} (hk : ti.k = .int k) : P.underlying t = some (.int k) := by
  have h := h.2
  rw [hk] at h
  unfold kindOf at h
  split at h <;> simp_all
theorem TEntry.str (h : TEntry P t ti) (hk : ti.k = .str) : P.underlying t = some .string := by
  have h := h.2
  rw [hk] at h
  unfold kindOf at h
  split at h <;> simp_all
theorem TEntry.ptr (h : TEntry P t ti) {e : Nat} (hk : ti.k = .ptr e) : P.underlying t = some (.pointer e) := by
  have h := h.2
  rw [hk] at h
  unfold kindOf at h
  split at h <;> simp_all
theorem TEntry.some (h : TEntry P t ti) : ∃ d, P.underlying t = some d ∧ (match d with | .struct _ | .array _ _ => true | _ => false) = ti.k.agg := by
  have h := h.2
  unfold kindOf at h
  split at h
  · cases h
  all_goals
    first
    | (rename_i hu; simp at h; rw [← h, hu]; exact ⟨_, rfl, rfl⟩)
    | (rename_i d _ _ _ _ _ _ _ _ _ _ hu; simp at h; rw [← h, hu]; refine ⟨_, rfl, ?_⟩; cases d <;> simp_all [TK.agg])
    | (simp at h; rename_i d hu; rw [← h, hu]; refine ⟨_, rfl, ?_⟩; cases d <;> simp_all [TK.agg])
theorem TEntry.isAgg (h : TEntry P t ti) (w : World) : (isAgg t).run P w = .ok ti.k.agg w := by
  obtain ⟨d, hu, hd⟩ := h.some
  unfold Go.isAgg
  rw [Sem.run_bind, run_underlying hu w]
  rw [← hd]
  cases d <;> simp
theorem TEntry.sizeOf (h : TEntry P t ti) (w : World) : (Go.sizeOf t).run P w = .ok ti.size w := by
  obtain ⟨i, hi, h1, _⟩ := h.info
  simp [Go.sizeOf, typeInfo, hi, h1]
theorem TEntry.zeroValue (h : TEntry P t ti) (w : World) : (Go.zeroValue t).run P w = .ok ti.zero w := by
  obtain ⟨i, hi, _, _, h1⟩ := h.info
  simp [Go.zeroValue, typeInfo, hi, h1]
theorem TEntry.cellsOf (h : TEntry P t ti) : P.cellsOf t = ti.size := by
  obtain ⟨i, hi, h1, _⟩ := h.info
  simp [Program.cellsOf, hi, h1]
end

/-! ### scalars -/
def aIBin (op : BinOp) (k : IntKind) (a : Int) (k' : IntKind) (b : Int) (K : Value → Prop) : Prop :=
  match op with
  | .add => k = k' ∧ K (.int k (k.wrap (a + b)))
  | .sub => k = k' ∧ K (.int k (k.wrap (a - b)))
  | .mul => k = k' ∧ K (.int k (k.wrap (a * b)))
  | .quo => k = k' ∧ b ≠ 0 ∧ K (.int k (k.wrap (a.tdiv b)))
  | .rem => k = k' ∧ b ≠ 0 ∧ K (.int k (a.tmod b))
  | .eql => k = k' ∧ K (.bool (decide (a = b)))
  | .neq => k = k' ∧ K (.bool (decide (a ≠ b)))
  | .lss => k = k' ∧ K (.bool (decide (a < b)))
  | .leq => k = k' ∧ K (.bool (decide (a ≤ b)))
  | .gtr => k = k' ∧ K (.bool (decide (b < a)))
  | .geq => k = k' ∧ K (.bool (decide (b ≤ a)))
  | .shr => 0 ≤ b ∧ K (.int k (a.fdiv (2 ^ (min b.toNat k.bits))))
  | .shl => 0 ≤ b ∧ K (.int k (k.wrap (a * 2 ^ (min b.toNat k.bits))))
  | .and => k = k' ∧ K (.int k (k.wrap (BitVec.ofInt k.bits a &&& BitVec.ofInt k.bits b).toNat))
  | _ => False

def aSBin (op : BinOp) (a b : ByteArray) (K : Value → Prop) : Prop :=
  match op with
  | .add => a.size + b.size ≤ 9223372036854775807 ∧ K (.string (a ++ b))
  | .eql => K (.bool (a.toList == b.toList))
  | .neq => K (.bool (!(a.toList == b.toList)))
  | .lss => K (.bool (Op.bytesLess a.toList b.toList))
  | .leq => K (.bool (Op.bytesLess a.toList b.toList || a.toList == b.toList))
  | .gtr => K (.bool (!(Op.bytesLess a.toList b.toList || a.toList == b.toList)))
  | .geq => K (.bool (!Op.bytesLess a.toList b.toList))
  | _ => False

theorem aIBin_sound {P : Program} {w : World} {op : BinOp} {k k' : IntKind} {a b : Int} {K : Value → Prop} (h : aIBin op k a k' b K) (t : TypeId) :
    ∃ v, (binOp op t (.int k a) (.int k' b)).run P w = .ok v w ∧ K v := by
  have hbd : ∀ (x y : Int), (x == y) = decide (x = y) := fun x y => by by_cases h : x = y <;> simp [h]
  have hbn : ∀ (x y : Int), (x != y) = decide (x ≠ y) := fun x y => by by_cases h : x = y <;> simp [h]
  cases op <;> simp only [aIBin] at h
  case neq => obtain ⟨rfl, h⟩ := h; rw [← hbn] at h; exact ⟨_, by simp [binOp, Op.intCmp], h⟩
  case quo => obtain ⟨rfl, hb, h⟩ := h; exact ⟨_, by simp [binOp, Op.intDiv, hb], h⟩
  case rem => obtain ⟨rfl, hb, h⟩ := h; exact ⟨_, by simp [binOp, Op.intDiv, hb], h⟩
  case shl => obtain ⟨hb, h⟩ := h; exact ⟨_, by simp [binOp, Op.shift, Int.not_lt.2 hb], h⟩
  case shr => obtain ⟨hb, h⟩ := h; exact ⟨_, by simp [binOp, Op.shift, Int.not_lt.2 hb], h⟩
  all_goals first
    | exact h.elim
    | (obtain ⟨rfl, h⟩ := h; exact ⟨_, by simp [binOp, Op.intArith, Op.intCmp, Op.intBits, hbd], h⟩)

theorem aSBin_sound {P : Program} {w : World} {op : BinOp} {a b : ByteArray} {K : Value → Prop} (h : aSBin op a b K) (t : TypeId) :
    ∃ v, (binOp op t (.string a) (.string b)).run P w = .ok v w ∧ K v := by
  cases op <;> simp only [aSBin] at h
  all_goals first
    | exact h.elim
    | exact ⟨_, by simp [binOp, Op.stringOp], h⟩
    | (obtain ⟨hb, h⟩ := h; exact ⟨_, by
        have hq : (a.size : Int) + (b.size : Int) ≤ 9223372036854775807 := by omega
        simp [binOp, Op.stringOp, hq], h⟩)
end Go.Ab
