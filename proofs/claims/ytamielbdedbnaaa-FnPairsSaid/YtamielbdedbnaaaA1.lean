/- Ab, part 1: abstract values, the relation V to the machine's values, stores of live objects, and how facts live on when the machine goes on. -/
import Derived.Below
import Derived.OwnWalk
import Derived.Laws.OwnMore
import Derived.Laws.AppendOwn
import Derived.Still
import Derived.WalkKit
namespace Go.Ab
open Go.RowKit

inductive AV where
  | junk
  | sc (v : Value)
  | agg (cs : List AV)
  | tup (cs : List AV)
  | lst (b : Bool) (sz : Nat) (xs : List AV)
  | ref (o g off len : Nat)
  | rp (b : Bool) (cs : List AV)
  | ptr (o g i j : Nat)
  | fn (f : FuncId) (first caps : List AV)
  | ifc (t : TypeId) (x : AV)
  deriving Inhabited

/-- S: blocks that nobody writes any more; B: blocks that this call does not write; row: where a live object lies now (its block and its capacity), none: it is nil. -/
structure Ctx where
  S : Nat → Prop
  B : Nat → Prop
  row : Nat → Option (Nat × Nat)

structure AObj where
  ty : TypeId
  sz : Nat
  gen : Nat
  els : List AV

structure St where
  objs : Nat → Option AObj
  next : Nat

/-- The elements vs lie one after the other, each of sz cells, from the cell off of block g on. -/
def EAt (w : World) (g off sz : Nat) (vs : List Value) : Prop :=
  ∀ i v, vs[i]? = some v → v.cells.size = sz ∧ ∀ j u, v.cells[j]? = some u → w.cell? ⟨g, off + i * sz + j, none⟩ = some u

/-- The cells us lie from the cell off of block g on. -/
def CAt (w : World) (g off : Nat) (us : List Value) : Prop := ∀ j u, us[j]? = some u → w.cell? ⟨g, off + j, none⟩ = some u

def Ctx.inn (Γ : Ctx) (b : Bool) (g : Nat) : Prop := if b then Γ.B g else Γ.S g

mutual
def V (Γ : Ctx) (σ : St) (w : World) : AV → Value → Prop
  | .junk, _ => True
  | .sc v, u => u = v
  | .agg cs, u => ∃ us : List Value, u = .agg us.toArray ∧ VL Γ σ w cs us
  | .tup cs, u => ∃ us : List Value, u = .tuple us.toArray ∧ VL Γ σ w cs us
  | .lst b sz xs, u => ∃ a cap, u = .slice a xs.length cap ∧ xs.length ≤ cap ∧ cap ≤ maxLen ∧ ((a = none → cap = 0) ∧ (sz = 0 → a = none)) ∧
      (xs ≠ [] → ∃ g off vs, a = some ⟨g, off, none⟩ ∧ Γ.inn b g ∧ VL Γ σ w xs vs ∧ EAt w g off sz vs)
  | .ref o g off len, u => (∃ a c, u = .slice a len c) ∧ o < σ.next ∧ ∀ ob, σ.objs o = some ob → g ≤ ob.gen ∧ (ob.gen = g → off + len ≤ ob.els.length ∧
      match Γ.row o with
      | none => u = .slice none 0 0
      | some (blk, cap) => ∃ a, u = .slice (some a) len (cap - off) ∧ (off = 0 → a = ⟨blk, 0, none⟩) ∧ (0 < len → a = ⟨blk, off * ob.sz, none⟩))
  | .rp b cs, u => ∃ g off us, u = .pointer (some ⟨g, off, none⟩) ∧ Γ.inn b g ∧ VL Γ σ w cs us ∧ CAt w g off us
  | .ptr o g i j, u => (∃ a, u = .pointer (some a)) ∧ o < σ.next ∧ ∀ ob, σ.objs o = some ob → g ≤ ob.gen ∧ (ob.gen = g → i < ob.els.length ∧
      ∃ blk cap, Γ.row o = some (blk, cap) ∧ u = .pointer (some ⟨blk, i * ob.sz + j, none⟩))
  | .fn f first caps, u => ∃ us ws : List Value, u = .func (.func f) us.toArray ws.toArray ∧ VL Γ σ w first us ∧ VL Γ σ w caps ws
  | .ifc t x, u => ∃ y, u = .iface t y ∧ V Γ σ w x y
def VL (Γ : Ctx) (σ : St) (w : World) : List AV → List Value → Prop
  | [], us => us = []
  | c :: cs, us => ∃ u us', us = u :: us' ∧ V Γ σ w c u ∧ VL Γ σ w cs us'
end

/-- A live object. -/
structure Lives (Γ : Ctx) (σ : St) (w : World) (ob : AObj) (r : Option (Nat × Nat)) : Prop where
  sz : 0 < ob.sz
  nil : r = none → ob.els = []
  cells : ∀ g cap, r = some (g, cap) → (∃ cur, w.heap[g]? = some (.cells cur ob.ty (0, 0)) ∧ cur.size = cap * ob.sz) ∧ ob.els.length ≤ cap ∧ cap ≤ maxLen ∧ ¬ Γ.B g
  vals : ∀ g cap, r = some (g, cap) → ∃ vs, VL Γ σ w ob.els vs ∧ EAt w g 0 ob.sz vs

structure Models (Γ : Ctx) (σ : St) (w : World) : Prop where
  lt : ∀ o ob, σ.objs o = some ob → o < σ.next
  lives : ∀ o ob, σ.objs o = some ob → Lives Γ σ w ob (Γ.row o)
  inj : ∀ o o' ob ob' g c c', σ.objs o = some ob → σ.objs o' = some ob' → Γ.row o = some (g, c) → Γ.row o' = some (g, c') → o = o'
  sub : ∀ g, Γ.S g → Γ.B g
  size : ∀ g, Γ.B g → g < w.heap.size

/-- Block g is the row of a live object. -/
def St.isLive (σ : St) (Γ : Ctx) (g : Nat) : Prop := ∃ o ob c, σ.objs o = some ob ∧ Γ.row o = some (g, c)

structure Step (Γ : Ctx) (σ : St) (w : World) (Γ' : Ctx) (σ' : St) (w' : World) : Prop where
  os : w'.os = w.os
  tape : w'.tape = w.tape
  output : w'.output = w.output
  size : w.heap.size ≤ w'.heap.size
  keep : ∀ g, g < w.heap.size → ¬ σ.isLive Γ g → w'.heap[g]? = w.heap[g]?
  S : ∀ g, Γ.S g → Γ'.S g
  B : ∀ g, Γ.B g → Γ'.B g
  newS : ∀ g, Γ'.S g → Γ.S g ∨ w.heap.size ≤ g ∨ σ.isLive Γ g
  next : σ.next ≤ σ'.next
  obj : ∀ o ob', o < σ.next → σ'.objs o = some ob' → ∃ ob, σ.objs o = some ob ∧ ob.gen ≤ ob'.gen ∧
    (ob'.gen = ob.gen → Γ'.row o = Γ.row o ∧ ob'.sz = ob.sz ∧ ob'.els.length = ob.els.length)
  fresh : ∀ g, σ'.isLive Γ' g → w.heap.size ≤ g ∨ σ.isLive Γ g

theorem Step.refl (Γ : Ctx) (σ : St) (w : World) : Step Γ σ w Γ σ w :=
  ⟨rfl, rfl, rfl, Nat.le_refl _, fun _ _ _ => rfl, fun _ h => h, fun _ h => h, fun _ h => .inl h, Nat.le_refl _,
    fun _ ob' _ h => ⟨ob', h, Nat.le_refl _, fun _ => ⟨rfl, rfl, rfl⟩⟩, fun _ h => .inr h⟩

theorem Step.trans {Γ σ w Γ' σ' w' Γ'' σ'' w''} (h : Step Γ σ w Γ' σ' w') (k : Step Γ' σ' w' Γ'' σ'' w'') : Step Γ σ w Γ'' σ'' w'' where
  os := k.os.trans h.os
  tape := k.tape.trans h.tape
  output := k.output.trans h.output
  size := Nat.le_trans h.size k.size
  keep := fun g hg hl => (k.keep g (Nat.lt_of_lt_of_le hg h.size) (fun hl' => by
    rcases h.fresh g hl' with h1 | h1
    · omega
    · exact hl h1)).trans (h.keep g hg hl)
  S := fun g hg => k.S g (h.S g hg)
  B := fun g hg => k.B g (h.B g hg)
  newS := fun g hg => by
    rcases k.newS g hg with h1 | h1 | h1
    · exact h.newS g h1
    · exact .inr (.inl (Nat.le_trans h.size h1))
    · exact .inr (h.fresh g h1)
  next := Nat.le_trans h.next k.next
  obj := fun o ob'' ho hob => by
    obtain ⟨ob', h1, h2, h3⟩ := k.obj o ob'' (Nat.lt_of_lt_of_le ho h.next) hob
    obtain ⟨ob, g1, g2, g3⟩ := h.obj o ob' ho h1
    refine ⟨ob, g1, Nat.le_trans g2 h2, fun he => ?_⟩
    obtain ⟨a1, a2, a3⟩ := h3 (by omega)
    obtain ⟨b1, b2, b3⟩ := g3 (by omega)
    exact ⟨a1.trans b1, a2.trans b2, a3.trans b3⟩
  fresh := fun g hg => by
    rcases k.fresh g hg with h1 | h1
    · exact .inl (Nat.le_trans h.size h1)
    · exact h.fresh g h1

theorem Models.noLive {Γ σ w} (h : Models Γ σ w) {g : Nat} (hb : Γ.B g) : ¬ σ.isLive Γ g := by
  rintro ⟨o, ob, c, ho, hr⟩
  exact ((h.lives o ob ho).cells g c hr).2.2.2 hb

theorem Models.inB {Γ σ w} (h : Models Γ σ w) {b : Bool} {g : Nat} (hb : Γ.inn b g) : Γ.B g := by
  cases b
  · exact h.sub g hb
  · exact hb

theorem cell_keep {w w' : World} {g off : Nat} (h : w'.heap[g]? = w.heap[g]?) : w'.cell? ⟨g, off, none⟩ = w.cell? ⟨g, off, none⟩ := World.cell?_of_block (w := w) h

theorem EAt.keep {w w' : World} {g off sz : Nat} {vs : List Value} (h : EAt w g off sz vs) (hk : w'.heap[g]? = w.heap[g]?) : EAt w' g off sz vs :=
  fun i v hv => ⟨(h i v hv).1, fun j u hu => (cell_keep hk).trans ((h i v hv).2 j u hu)⟩
theorem CAt.keep {w w' : World} {g off : Nat} {us : List Value} (h : CAt w g off us) (hk : w'.heap[g]? = w.heap[g]?) : CAt w' g off us :=
  fun j u hu => (cell_keep hk).trans (h j u hu)

section
variable {Γ Γ' : Ctx} {σ σ' : St} {w w' : World}
mutual
theorem V_step (hM : Models Γ σ w) (hs : Step Γ σ w Γ' σ' w') : ∀ (x : AV) (v : Value), V Γ σ w x v → V Γ' σ' w' x v
  | .junk, _, _ => by simp only [V]
  | .sc v, u, h => by simp only [V] at h ⊢; exact h
  | .agg cs, u, h => by
    simp only [V] at h ⊢
    obtain ⟨us, h1, h2⟩ := h
    exact ⟨us, h1, VL_step hM hs cs us h2⟩
  | .tup cs, u, h => by
    simp only [V] at h ⊢
    obtain ⟨us, h1, h2⟩ := h
    exact ⟨us, h1, VL_step hM hs cs us h2⟩
  | .lst b sz xs, u, h => by
    simp only [V] at h ⊢
    obtain ⟨a, cap, h1, h2, h3, h4, h5⟩ := h
    refine ⟨a, cap, h1, h2, h3, h4, fun hx => ?_⟩
    obtain ⟨g, off, vs, e1, e2, e3, e4⟩ := h5 hx
    have hB := hM.inB e2
    refine ⟨g, off, vs, e1, ?_, VL_step hM hs xs vs e3, e4.keep (hs.keep g (hM.size g hB) (hM.noLive hB))⟩
    cases b
    · exact hs.S g e2
    · exact hs.B g e2
  | .ref o g off len, u, h => by
    simp only [V] at h ⊢
    obtain ⟨h0, h1, h2⟩ := h
    refine ⟨h0, Nat.lt_of_lt_of_le h1 hs.next, fun ob' hob' => ?_⟩
    obtain ⟨ob, g1, g2, g3⟩ := hs.obj o ob' h1 hob'
    obtain ⟨k1, k2⟩ := h2 ob g1
    refine ⟨Nat.le_trans k1 g2, fun he => ?_⟩
    have hge : ob.gen = g := by omega
    obtain ⟨r1, r2, r3⟩ := g3 (by omega)
    obtain ⟨m1, m2⟩ := k2 hge
    rw [r1, r2, r3]
    exact ⟨m1, m2⟩
  | .rp b cs, u, h => by
    simp only [V] at h ⊢
    obtain ⟨g, off, us, h1, h2, h3, h4⟩ := h
    have hB := hM.inB h2
    refine ⟨g, off, us, h1, ?_, VL_step hM hs cs us h3, h4.keep (hs.keep g (hM.size g hB) (hM.noLive hB))⟩
    cases b
    · exact hs.S g h2
    · exact hs.B g h2
  | .ptr o g i j, u, h => by
    simp only [V] at h ⊢
    obtain ⟨h0, h1, h2⟩ := h
    refine ⟨h0, Nat.lt_of_lt_of_le h1 hs.next, fun ob' hob' => ?_⟩
    obtain ⟨ob, g1, g2, g3⟩ := hs.obj o ob' h1 hob'
    obtain ⟨k1, k2⟩ := h2 ob g1
    refine ⟨Nat.le_trans k1 g2, fun he => ?_⟩
    have hge : ob.gen = g := by omega
    obtain ⟨r1, r2, r3⟩ := g3 (by omega)
    obtain ⟨m1, m2⟩ := k2 hge
    rw [r1, r2, r3]
    exact ⟨m1, m2⟩
  | .fn f first caps, u, h => by
    simp only [V] at h ⊢
    obtain ⟨us, ws, h1, h2, h3⟩ := h
    exact ⟨us, ws, h1, VL_step hM hs first us h2, VL_step hM hs caps ws h3⟩
  | .ifc t x, u, h => by
    simp only [V] at h ⊢
    obtain ⟨y, h1, h2⟩ := h
    exact ⟨y, h1, V_step hM hs x y h2⟩
theorem VL_step (hM : Models Γ σ w) (hs : Step Γ σ w Γ' σ' w') : ∀ (xs : List AV) (vs : List Value), VL Γ σ w xs vs → VL Γ' σ' w' xs vs
  | [], us, h => by simp only [VL] at h ⊢; exact h
  | c :: cs, us, h => by
    simp only [VL] at h ⊢
    obtain ⟨u, us', h1, h2, h3⟩ := h
    exact ⟨u, us', h1, V_step hM hs c u h2, VL_step hM hs cs us' h3⟩
end
end

/-! ### lists -/
section
variable {Γ : Ctx} {σ : St} {w : World}
theorem VL.length : ∀ {xs : List AV} {vs : List Value}, VL Γ σ w xs vs → vs.length = xs.length
  | [], vs, h => by simp only [VL] at h; subst h; rfl
  | c :: cs, vs, h => by
    simp only [VL] at h
    obtain ⟨u, us', rfl, _, h3⟩ := h
    simp [h3.length]
theorem VL.get : ∀ {xs : List AV} {vs : List Value}, VL Γ σ w xs vs → ∀ (i : Nat) (x : AV), xs[i]? = some x → ∃ v, vs[i]? = some v ∧ V Γ σ w x v
  | [], _, _, _, _, hx => by simp at hx
  | c :: cs, vs, h, i, x, hx => by
    simp only [VL] at h
    obtain ⟨u, us', rfl, h2, h3⟩ := h
    cases i with
    | zero => simp at hx; subst hx; exact ⟨u, by simp, h2⟩
    | succ i =>
      obtain ⟨v, hv, hV⟩ := h3.get i x (by simpa using hx)
      exact ⟨v, by simpa using hv, hV⟩
theorem VL.append : ∀ {xs ys : List AV} {us vs : List Value}, VL Γ σ w xs us → VL Γ σ w ys vs → VL Γ σ w (xs ++ ys) (us ++ vs)
  | [], ys, us, vs, h, k => by simp only [VL] at h; subst h; simpa using k
  | c :: cs, ys, us, vs, h, k => by
    simp only [VL] at h
    obtain ⟨u, us', rfl, h2, h3⟩ := h
    simp only [List.cons_append, VL]
    exact ⟨u, us' ++ vs, rfl, h2, VL.append h3 k⟩
theorem VL.take : ∀ {xs : List AV} {vs : List Value} (n : Nat), VL Γ σ w xs vs → VL Γ σ w (xs.take n) (vs.take n)
  | [], vs, n, h => by simp only [VL] at h; subst h; simp [VL]
  | c :: cs, vs, 0, h => by simp [VL]
  | c :: cs, vs, n + 1, h => by
    simp only [VL] at h
    obtain ⟨u, us', rfl, h2, h3⟩ := h
    simp only [List.take_succ_cons, VL]
    exact ⟨u, _, rfl, h2, h3.take n⟩
theorem VL.drop : ∀ {xs : List AV} {vs : List Value} (n : Nat), VL Γ σ w xs vs → VL Γ σ w (xs.drop n) (vs.drop n)
  | [], vs, n, h => by simp only [VL] at h; subst h; simp [VL]
  | c :: cs, vs, 0, h => by simpa using h
  | c :: cs, vs, n + 1, h => by
    simp only [VL] at h
    obtain ⟨u, us', rfl, h2, h3⟩ := h
    simpa using h3.drop n
theorem VL.set : ∀ {xs : List AV} {vs : List Value} (n : Nat) {x : AV} {v : Value}, VL Γ σ w xs vs → V Γ σ w x v → VL Γ σ w (xs.set n x) (vs.set n v)
  | [], vs, n, x, v, h, _ => by simp only [VL] at h; subst h; simp [VL]
  | c :: cs, vs, 0, x, v, h, k => by
    simp only [VL] at h
    obtain ⟨u, us', rfl, h2, h3⟩ := h
    simp only [List.set_cons_zero, VL]
    exact ⟨v, us', rfl, k, h3⟩
  | c :: cs, vs, n + 1, x, v, h, k => by
    simp only [VL] at h
    obtain ⟨u, us', rfl, h2, h3⟩ := h
    simp only [List.set_cons_succ, VL]
    exact ⟨u, _, rfl, h2, h3.set n k⟩
theorem VL.replicate (n : Nat) {x : AV} {v : Value} (h : V Γ σ w x v) : VL Γ σ w (List.replicate n x) (List.replicate n v) := by
  induction n with
  | zero => simp [VL]
  | succ n ih => simp only [List.replicate_succ, VL]; exact ⟨v, _, rfl, h, ih⟩
theorem VL.one {x : AV} {v : Value} (h : V Γ σ w x v) : VL Γ σ w [x] [v] := by simp only [VL]; exact ⟨v, [], rfl, h, rfl⟩
end
end Go.Ab
