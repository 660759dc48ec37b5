/- Ab, part 5: the other operations that leave memory alone: slices of slices, sums, comparisons, conversions, structs built. -/
import Derived.Test.YtamielbdedbnaaaA4
import Derived.Laws.BytesArg
set_option linter.unusedSimpArgs false
set_option linter.unusedVariables false
namespace Go.Ab
open Go.RowKit
section
variable {Γ : Ctx} {σ : St} {w : World} {P : Program} {T : Tab}

def optI (x : Option AV) (d : Nat) (K : Nat → Prop) : Prop :=
  match x with
  | none => K d
  | some (.sc (.int _ i)) => 0 ≤ i ∧ K i.toNat
  | _ => False
def VO (Γ : Ctx) (σ : St) (w : World) : Option AV → Option Value → Prop
  | none, none => True
  | some x, some v => V Γ σ w x v
  | _, _ => False

def aSlice (T : Tab) (t : Nat) (x : AV) (low high : Option AV) (σ : St) (K : AV → Prop) : Prop :=
  match x with
  | .sc (.string s) => T.ty t fun ti => ti.k = .str ∧ optI high s.size fun h => h ≤ s.size ∧ optI low 0 fun l => l ≤ h ∧ K (.sc (.string (s.extract l h)))
  | .lst b sz xs => T.sl t fun _ te => te.size = sz ∧ optI high xs.length fun h => h ≤ xs.length ∧ optI low 0 fun l => l ≤ h ∧ K (.lst b sz ((xs.take h).drop l))
  | .ref o g off len => T.sl t fun _ te => (∃ ob, σ.objs o = some ob ∧ ob.gen = g ∧ te.size = ob.sz) ∧
      optI high len fun h => h ≤ len ∧ optI low 0 fun l => l ≤ h ∧ K (.ref o g (off + l) (h - l))
  | _ => False

theorem sliceBounds_run {isS : Bool} {len cap : Nat} {lo hi : Option AV} {lo' hi' : Option Value} (hlo : VO Γ σ w lo lo') (hhi : VO Γ σ w hi hi') (hlc : len ≤ cap) {K : Nat → Nat → Prop}
    (h : optI hi len fun h => h ≤ len ∧ optI lo 0 fun l => l ≤ h ∧ K l h) :
    ∃ l h, (Instr.sliceBounds isS len cap lo' hi' none).run P w = .ok (l, h, cap) w ∧ l ≤ h ∧ h ≤ len ∧ K l h := by
  have bound : ∀ {x : Option AV} {x' : Option Value} {d y : Nat} {c : BoundsCode} {G : Nat → Prop}, VO Γ σ w x x' → optI x d G → (∀ n, G n → n ≤ y) → d ≤ y →
      ∃ n, (match x' with | some v => Instr.sliceBound v y c | none => (pure d : Sem Nat)).run P w = .ok n w ∧ n ≤ y ∧ G n := by
    intro x x' d y c G hx hg hy hd
    cases x <;> cases x' <;> simp only [VO] at hx
    · exact ⟨d, by simp, hd, hg⟩
    · unfold optI at hg
      split at hg
      · rename_i e; cases e
      · rename_i k i e
        cases e
        simp only [V] at hx
        subst hx
        have := hy _ hg.2
        refine ⟨i.toNat, ?_, this, hg.2⟩
        have h2 : i ≤ y := by omega
        simp [Instr.sliceBound, asIntOf, hg.1, h2]
      · exact hg.elim
  obtain ⟨hh, h1, h2, h3, h4⟩ := bound (c := if isS then .sliceAcap else .sliceAlen) (y := cap) (d := len) (G := fun h => h ≤ len ∧ optI lo 0 fun l => l ≤ h ∧ K l h) hhi h (fun n hn => Nat.le_trans hn.1 hlc) hlc
  obtain ⟨l, k1, k2, k3, k4⟩ := bound (c := .sliceB) (y := hh) (d := 0) (G := fun l => l ≤ hh ∧ K l hh) hlo h4 (fun n hn => hn.1) (Nat.zero_le _)
  refine ⟨l, hh, ?_, k3, h3, k4⟩
  unfold Instr.sliceBounds
  cases hi' <;> cases lo' <;> simp_all

theorem aSlice_sound (hT : TabOk P T) (hM : Models Γ σ w) {t : Nat} {x : AV} {lo hi : Option AV} {lo' hi' : Option Value} {K : AV → Prop} (h : aSlice T t x lo hi σ K) {u : Value}
    (hu : V Γ σ w x u) (hlo : VO Γ σ w lo lo') (hhi : VO Γ σ w hi hi') :
    ∃ v r, (Instr.sliceAt t u lo' hi' none).run P w = .ok v w ∧ K r ∧ V Γ σ w r v := by
  unfold aSlice at h
  split at h
  · rename_i s
    obtain ⟨ti, h1, h2, h3⟩ := Tab.ty_out hT h
    simp only [V] at hu
    subst hu
    obtain ⟨l, hh, k1, k2, k3, k4⟩ := sliceBounds_run (P := P) (isS := false) hlo hhi (Nat.le_refl _) h3
    refine ⟨_, _, ?_, k4, V_sc _⟩
    simp [Instr.sliceAt, Instr.slice, run_underlying (h1.str h2), k1]
  · rename_i b sz xs
    obtain ⟨e, te, h1, h2, rfl, h3⟩ := Tab.sl_out hT h
    simp only [V] at hu
    obtain ⟨a, cap, rfl, e1, e2, e3, e4⟩ := hu
    obtain ⟨l, hh, k1, k2, k3, k4⟩ := sliceBounds_run (P := P) (isS := true) hlo hhi e1 h3
    refine ⟨.slice (if cap = l then a else a.map (·.add (l * te.size))) (hh - l) (cap - l), _, ?_, k4, ?_⟩
    · simp [Instr.sliceAt, Instr.slice, run_underlying h1, k1, h2.sizeOf w]
    · simp only [V]
      refine ⟨if cap = l then a else a.map (·.add (l * te.size)), cap - l, ?_, ?_, ?_, ?_, ?_⟩
      · simp; omega
      · simp; omega
      · omega
      · refine ⟨fun hq => ?_, fun hq => ?_⟩
        · split at hq
          · omega
          · cases a with
            | none => have := e3.1 rfl; omega
            | some a => simp at hq
        · obtain rfl := e3.2 hq
          simp
      · intro hne
        have hlt : l < hh := by
          refine Nat.lt_of_not_le fun hq => hne ?_
          rw [List.drop_eq_nil_iff, List.length_take]; omega
        obtain ⟨g, off, vs, rfl, m2, m3, m4⟩ := e4 (by intro hq; subst hq; simp at k3; omega)
        refine ⟨g, off + l * te.size, (vs.take hh).drop l, ?_, m2, (m3.take _).drop _, fun i v hv => ?_⟩
        · rw [if_neg (by omega)]; simp [add_lit]
        · rw [List.getElem?_drop, List.getElem?_take] at hv
          split at hv
          · obtain ⟨f1, f2⟩ := m4 _ _ hv
            refine ⟨f1, fun j u hu => ?_⟩
            have := f2 j u hu
            rwa [Nat.add_mul, ← Nat.add_assoc] at this
          · cases hv
  · rename_i o g off len
    obtain ⟨e, te, h1, h2, ⟨ob, h3, h4, h5⟩, h6⟩ := Tab.sl_out hT h
    simp only [V] at hu
    obtain ⟨⟨a, c, rfl⟩, e1, e2⟩ := hu
    obtain ⟨e3, e4⟩ := e2 ob h3
    obtain ⟨e5, e6⟩ := e4 h4
    have hlc : len ≤ c := by
      cases hr : Γ.row o with
      | none => simp only [hr, Value.slice.injEq] at e6; omega
      | some bc =>
        obtain ⟨blk, cap⟩ := bc
        simp only [hr, Value.slice.injEq] at e6
        obtain ⟨a', ⟨_, _, rfl⟩, _⟩ := e6
        have := ((hM.lives o ob h3).cells blk cap hr).2.1
        omega
    obtain ⟨l, hh, k1, k2, k3, k4⟩ := sliceBounds_run (P := P) (isS := true) hlo hhi hlc h6
    refine ⟨.slice (if c = l then a else a.map (·.add (l * te.size))) (hh - l) (c - l), _, ?_, k4, ?_⟩
    · simp [Instr.sliceAt, Instr.slice, run_underlying h1, k1, h2.sizeOf w]
    · simp only [V]
      refine ⟨⟨_, _, rfl⟩, e1, fun ob' hob' => ?_⟩
      rw [h3] at hob'
      cases hob'
      refine ⟨e3, fun _ => ⟨by omega, ?_⟩⟩
      cases hr : Γ.row o with
      | none =>
        simp only [hr, Value.slice.injEq] at e6 ⊢
        obtain ⟨rfl, rfl, rfl⟩ := e6
        have : hh = 0 := by omega
        subst this
        have : l = 0 := by omega
        subst this
        simp
      | some bc =>
        obtain ⟨blk, cap⟩ := bc
        simp only [hr, Value.slice.injEq] at e6 ⊢
        obtain ⟨a', ⟨rfl, _, rfl⟩, m1, m2⟩ := e6
        by_cases hcl : cap - off = l
        · refine ⟨a', ⟨by simp [hcl], trivial, by omega⟩, ?_, ?_⟩
          · intro hq; exact m1 (by omega)
          · intro hq; omega
        · refine ⟨a'.add (l * te.size), ⟨by simp [hcl], trivial, by omega⟩, ?_, ?_⟩
          · intro hq
            have h0 : off = 0 := by omega
            have h0' : l = 0 := by omega
            rw [m1 h0, h0', add_lit]; simp
          · intro hq
            rw [m2 (by omega), add_lit, h5, Nat.add_mul]
  · exact h.elim

/-! ### operators -/
theorem eqGuard_sc {op : BinOp} {t : Nat} {xo yo : Operand} {a b : Value} (h1 : a ≠ .nilIface) (h2 : ∀ cs, a ≠ .agg cs) :
    (eqGuard op t xo yo a b).run P w = .ok () w := by
  have hm : ∀ (x : Sem PUnit), (do x : Sem Unit).run P w = x.run P w := fun x => rfl
  cases op <;> first | rfl | (cases a <;> first | rfl | exact absurd rfl h1 | exact absurd rfl (h2 _))

def aBin (T : Tab) (op : BinOp) (t : Nat) (x y : AV) (σ : St) (K : AV → Prop) : Prop :=
  match x, y with
  | .sc (.int k a), .sc (.int k' b) => aIBin op k a k' b fun v => K (.sc v)
  | .sc (.string a), .sc (.string b) => aSBin op a b fun v => K (.sc v)
  | .sc (.bool a), .sc (.bool b) => T.ty t fun ti => ti.k = .bool ∧ (match op with
      | .eql => K (.sc (.bool (a == b)))
      | .neq => K (.sc (.bool (!(a == b))))
      | _ => False)
  | .lst _ _ xs, .lst _ 0 [] => T.sl t fun _ _ => ∀ q : Bool, (q = true → xs = []) → (match op with
      | .eql => K (.sc (.bool q))
      | .neq => K (.sc (.bool (!q)))
      | _ => False)
  | .ref o g _ len, .lst _ 0 [] => (∃ ob, σ.objs o = some ob ∧ ob.gen = g) ∧ T.sl t fun _ _ => ∀ q : Bool, (q = true → len = 0) → (match op with
      | .eql => K (.sc (.bool q))
      | .neq => K (.sc (.bool (!q)))
      | _ => False)
  | .rp _ _, .sc (.pointer none) => T.ty t fun ti => (∃ e, ti.k = .ptr e) ∧ (match op with
      | .eql => K (.sc (.bool false))
      | .neq => K (.sc (.bool true))
      | _ => False)
  | .ptr _ _ _ _, .sc (.pointer none) => T.ty t fun ti => (∃ e, ti.k = .ptr e) ∧ (match op with
      | .eql => K (.sc (.bool false))
      | .neq => K (.sc (.bool true))
      | _ => False)
  | _, _ => False
theorem run_equal_bool {t : Nat} (ht : P.underlying t = some .bool) (a b : Bool) : (Op.equal t (.bool a) (.bool b)).run P w = .ok (a == b) w := by
  have : ∀ d, (Op.equalIn (d + 1) t (.bool a) (.bool b)).run P w = .ok (a == b) w := fun d => by simp [Op.equalIn, run_underlying ht]
  exact this 9999
theorem run_equal_slice {t e : Nat} (ht : P.underlying t = some (.slice e)) (a : Option Addr) (n c m d : Nat) : (Op.equal t (.slice a n c) (.slice none m d)).run P w = .ok a.isNone w := by
  have : ∀ q, (Op.equalIn (q + 1) t (.slice a n c) (.slice none m d)).run P w = .ok a.isNone w := fun q => by cases a <;> simp [Op.equalIn, run_underlying ht]
  exact this 9999
theorem run_equal_ptr {t e : Nat} (ht : P.underlying t = some (.pointer e)) (a : Addr) : (Op.equal t (.pointer (some a)) (.pointer none)).run P w = .ok false w := by
  have : ∀ q, (Op.equalIn (q + 1) t (.pointer (some a)) (.pointer none)).run P w = .ok false w := fun q => by simp [Op.equalIn, run_underlying ht]
  exact this 9999
theorem aBin_sound (hT : TabOk P T) {op : BinOp} {t : Nat} {x y : AV} {K : AV → Prop} (h : aBin T op t x y σ K) {u v : Value} (hu : V Γ σ w x u) (hv : V Γ σ w y v) (xo yo : Operand) :
    ∃ z r, (do eqGuard op t xo yo u v; binOp op t u v : Sem Value).run P w = .ok z w ∧ K r ∧ V Γ σ w r z := by
  unfold aBin at h
  split at h
  · simp only [V] at hu hv
    subst hu hv
    obtain ⟨z, h1, h2⟩ := aIBin_sound (P := P) (w := w) h t
    exact ⟨z, _, by rw [Sem.run_bind, eqGuard_sc (by simp) (by simp)]; exact h1, h2, V_sc _⟩
  · simp only [V] at hu hv
    subst hu hv
    obtain ⟨z, h1, h2⟩ := aSBin_sound (P := P) (w := w) h t
    exact ⟨z, _, by rw [Sem.run_bind, eqGuard_sc (by simp) (by simp)]; exact h1, h2, V_sc _⟩
  · simp only [V] at hu hv
    subst hu hv
    obtain ⟨ti, h1, h2, h3⟩ := Tab.ty_out hT h
    split at h3
    · exact ⟨_, _, by rw [Sem.run_bind, eqGuard_sc (by simp) (by simp)]; simp [binOp, run_equal_bool (h1.bool h2)], h3, V_sc _⟩
    · exact ⟨_, _, by rw [Sem.run_bind, eqGuard_sc (by simp) (by simp)]; simp [binOp, run_equal_bool (h1.bool h2)], h3, V_sc _⟩
    · exact h3.elim
  · rename_i b sz xs b'
    obtain ⟨e, te, h1, h2, h3⟩ := Tab.sl_out hT h
    simp only [V] at hu hv
    obtain ⟨av, cv, rfl, _, _, ⟨hv1, hv2⟩, _⟩ := hv
    obtain rfl : av = none := hv2 trivial
    obtain rfl : cv = 0 := hv1 rfl
    obtain ⟨a, cap, rfl, e1, e2, e3, e4⟩ := hu
    have hq : a.isNone = true → xs = [] := fun hq => by
      have := e3.1 (by simpa using hq)
      subst this
      exact List.eq_nil_of_length_eq_zero (by omega)
    have h3 := h3 a.isNone hq
    split at h3
    · exact ⟨_, _, by rw [Sem.run_bind, eqGuard_sc (by simp) (by simp)]; simp [binOp, run_equal_slice h1], h3, V_sc _⟩
    · exact ⟨_, _, by rw [Sem.run_bind, eqGuard_sc (by simp) (by simp)]; simp [binOp, run_equal_slice h1], h3, V_sc _⟩
    · exact h3.elim
  · rename_i o g off len b'
    obtain ⟨⟨ob, ho, hg⟩, h⟩ := h
    obtain ⟨e, te, h1, h2, h3⟩ := Tab.sl_out hT h
    simp only [V] at hu hv
    obtain ⟨av, cv, rfl, _, _, ⟨hv1, hv2⟩, _⟩ := hv
    obtain rfl : av = none := hv2 trivial
    obtain rfl : cv = 0 := hv1 rfl
    obtain ⟨⟨a, c, rfl⟩, _, hu⟩ := hu
    obtain ⟨_, hu⟩ := hu ob ho
    obtain ⟨_, hu⟩ := hu hg
    have hq : a.isNone = true → len = 0 := fun hq => by
      cases hr : Γ.row o with
      | none => simp only [hr, Value.slice.injEq] at hu; exact hu.2.1
      | some bc =>
        obtain ⟨blk, cap⟩ := bc
        simp only [hr, Value.slice.injEq] at hu
        obtain ⟨a', ⟨rfl, _⟩, _⟩ := hu
        simp at hq
    have h3 := h3 a.isNone hq
    split at h3
    · exact ⟨_, _, by rw [Sem.run_bind, eqGuard_sc (by simp) (by simp)]; simp [binOp, run_equal_slice h1], h3, V_sc _⟩
    · exact ⟨_, _, by rw [Sem.run_bind, eqGuard_sc (by simp) (by simp)]; simp [binOp, run_equal_slice h1], h3, V_sc _⟩
    · exact h3.elim
  · obtain ⟨ti, h1, ⟨e, h2⟩, h3⟩ := Tab.ty_out hT h
    simp only [V] at hu hv
    subst hv
    obtain ⟨g, off, us, rfl, _⟩ := hu
    split at h3
    · exact ⟨_, _, by rw [Sem.run_bind, eqGuard_sc (by simp) (by simp)]; simp [binOp, run_equal_ptr (h1.ptr h2)], h3, V_sc _⟩
    · exact ⟨_, _, by rw [Sem.run_bind, eqGuard_sc (by simp) (by simp)]; simp [binOp, run_equal_ptr (h1.ptr h2)], h3, V_sc _⟩
    · exact h3.elim
  · obtain ⟨ti, h1, ⟨e, h2⟩, h3⟩ := Tab.ty_out hT h
    simp only [V] at hu hv
    subst hv
    obtain ⟨⟨a, rfl⟩, _⟩ := hu
    split at h3
    · exact ⟨_, _, by rw [Sem.run_bind, eqGuard_sc (by simp) (by simp)]; simp [binOp, run_equal_ptr (h1.ptr h2)], h3, V_sc _⟩
    · exact ⟨_, _, by rw [Sem.run_bind, eqGuard_sc (by simp) (by simp)]; simp [binOp, run_equal_ptr (h1.ptr h2)], h3, V_sc _⟩
    · exact h3.elim
  · exact h.elim

def aUn (op : UnOp) (x : AV) (K : AV → Prop) : Prop :=
  match op, x with
  | .not, .sc (.bool b) => K (.sc (.bool (!b)))
  | .neg, .sc (.int k a) => K (.sc (.int k (k.wrap (-a))))
  | _, _ => False
theorem aUn_sound {op : UnOp} {x : AV} {K : AV → Prop} (h : aUn op x K) {u : Value} (hu : V Γ σ w x u) : ∃ z r, (Op.unary op u).run P w = .ok z w ∧ K r ∧ V Γ σ w r z := by
  unfold aUn at h
  split at h
  · simp only [V] at hu; subst hu; exact ⟨_, _, by simp [Op.unary], h, V_sc _⟩
  · simp only [V] at hu; subst hu; exact ⟨_, _, by simp [Op.unary, Op.intArith], h, V_sc _⟩
  · exact h.elim

def byteAV (b : UInt8) : AV := .sc (.int .u8 b.toNat)
def aConv (T : Tab) (src dst : Nat) (x : AV) (K : AV → Prop) : Prop :=
  match x with
  | .sc (.int _ n) => T.ty src fun _ => T.ty dst fun ti => match ti.k with | .int k => K (.sc (.int k (k.wrap n))) | _ => False
  | .sc (.string s) => T.ty src fun ts => ts.k = .str ∧ T.ty dst fun ti => ti.k = .str ∧ K (.sc (.string s))
  | .lst _ _ xs => T.sl src fun _ te => te.k = .int .u8 ∧ T.ty dst fun ti => ti.k = .str ∧ ∃ bs : List UInt8, xs = bs.map byteAV ∧ K (.sc (.string ⟨bs.toArray⟩))
  | _ => False
theorem VL_bytes : ∀ {bs : List UInt8} {vs : List Value}, VL Γ σ w (bs.map byteAV) vs → vs = bs.map fun b => .int .u8 b.toNat
  | [], vs, h => by simp only [List.map_nil, VL] at h; subst h; rfl
  | b :: bs, vs, h => by
    simp only [List.map_cons, VL, byteAV, V] at h
    obtain ⟨u, us, rfl, rfl, h⟩ := h
    rw [VL_bytes h]; rfl
theorem aConv_sound (hT : TabOk P T) {src dst : Nat} {x : AV} {K : AV → Prop} (h : aConv T src dst x K) {u : Value} (hu : V Γ σ w x u) :
    ∃ z r, (convert src dst u).run P w = .ok z w ∧ K r ∧ V Γ σ w r z := by
  unfold aConv at h
  split at h
  · obtain ⟨ts, h1, h⟩ := Tab.ty_out hT h
    obtain ⟨td, h2, h⟩ := Tab.ty_out hT h
    split at h
    · rename_i n _ k hk
      simp only [V] at hu
      subst hu
      obtain ⟨d, hd, _⟩ := h1.some
      exact ⟨_, _, by simp [convert, run_underlying hd, run_underlying (h2.int hk), Conv.intToInt], h, V_sc _⟩
    · exact h.elim
  · obtain ⟨ts, h1, hk1, h⟩ := Tab.ty_out hT h
    obtain ⟨td, h2, hk2, hK⟩ := Tab.ty_out hT h
    simp only [V] at hu
    subst hu
    exact ⟨_, _, by simp [convert, run_underlying (h1.str hk1), run_underlying (h2.str hk2)], hK, V_sc _⟩
  · rename_i b sz xs
    obtain ⟨e, te, h1, h2, h3, h⟩ := Tab.sl_out hT h
    obtain ⟨td, h4, h5, bs, rfl, hK⟩ := Tab.ty_out hT h
    simp only [V] at hu
    obtain ⟨a, cap, rfl, e1, e2, e3, e4⟩ := hu
    refine ⟨.string ⟨bs.toArray⟩, _, ?_, hK, V_sc _⟩
    by_cases hbs : bs = []
    · subst hbs
      cases a with
      | none =>
        simp [convert, run_underlying h1, run_underlying (h4.str h5), run_underlying (h2.int h3), Conv.bytesToString]
        rfl
      | some a =>
        simp [convert, run_underlying h1, run_underlying (h4.str h5), run_underlying (h2.int h3), Conv.bytesToString, loadCells, loadCellsFrom]
        rfl
    · obtain ⟨g, off, vs, rfl, m2, m3, m4⟩ := e4 (by simp [hbs])
      have hv := VL_bytes m3
      have hcell : ∀ i, i < bs.length → w.cell? ⟨g, off + i, none⟩ = some (.int .u8 ((bs.map fun b => (b.toNat : Int)).getD i 0)) := fun i hi => by
        have hi' : vs[i]? = some (.int .u8 (bs[i].toNat : Int)) := by rw [hv]; simp [hi]
        obtain ⟨q1, q2⟩ := m4 i _ hi'
        have hs1 : sz = 1 := by simpa [Value.cells] using q1.symm
        have := q2 0 (.int .u8 (bs[i].toNat : Int)) (by simp [Value.cells])
        simp only [hs1, Nat.mul_one, Nat.add_zero] at this
        rw [this]
        simp [hi]
      have := run_convert_bytes_arg (P := P) w src e h1 (h2.int h3) g off bs.length cap (bs.map fun b => (b.toNat : Int)) (by simp) hcell dst (h4.str h5)
      have hs : strOfNums (bs.map fun b => (b.toNat : Int)) = ⟨bs.toArray⟩ := by
        unfold strOfNums
        simp [List.map_map, Function.comp_def]
      rw [hs] at this
      simpa using this
  · exact h.elim
end
end Go.Ab
