/- Ab, part 4: operations that read: loads, addresses, indexes, slices of slices, lengths. -/
import Derived.Test.YtamielbdedbnaaaA3
set_option linter.unusedSimpArgs false
set_option linter.unusedVariables false
namespace Go.Ab
open Go.RowKit

def AV.cells : AV → List AV
  | .agg cs => cs
  | x => [x]
def leafOk : AV → Bool
  | .sc (.agg _) | .sc (.tuple _) => false
  | .junk | .agg _ | .tup _ => false
  | _ => true
def valOk : AV → Bool
  | .agg cs => cs.all leafOk
  | x => leafOk x

def Tab.sl (T : Tab) (t : Nat) (K : Nat → TI → Prop) : Prop :=
  match T t with
  | some ti => (match ti.k with | .slice e => (match T e with | some te => K e te | none => False) | _ => False)
  | none => False
def Tab.ar (T : Tab) (t : Nat) (K : Nat → Nat → TI → Prop) : Prop :=
  match T t with
  | some ti => (match ti.k with | .arr n e => (match T e with | some te => K n e te | none => False) | _ => False)
  | none => False
def Tab.ty (T : Tab) (t : Nat) (K : TI → Prop) : Prop := match T t with | some ti => K ti | none => False
def Tab.fld (T : Tab) (t f : Nat) (K : Nat → Nat → TI → Prop) : Prop :=
  match T t with
  | some ti => (match ti.k with | .struct fs => (match fs[f]? with | some (off, sz, ft) => (match T ft with | some tf => K off sz tf | none => False) | none => False) | _ => False)
  | none => False

section
variable {P : Program} {T : Tab}
theorem Tab.sl_out (hT : TabOk P T) {t : Nat} {K : Nat → TI → Prop} (h : T.sl t K) : ∃ e te, P.underlying t = some (.slice e) ∧ TEntry P e te ∧ K e te := by
  unfold Tab.sl at h
  split at h
  · rename_i ti hti
    split at h
    · rename_i e hk
      split at h
      · rename_i te hte
        exact ⟨e, te, (hT _ _ hti).slice hk, hT _ _ hte, h⟩
      · exact h.elim
    · exact h.elim
  · exact h.elim
theorem Tab.ar_out (hT : TabOk P T) {t : Nat} {K : Nat → Nat → TI → Prop} (h : T.ar t K) : ∃ n e ti te, P.underlying t = some (.array n e) ∧ TEntry P t ti ∧ ti.k = .arr n e ∧ TEntry P e te ∧ K n e te := by
  unfold Tab.ar at h
  split at h
  · rename_i ti hti
    split at h
    · rename_i n e hk
      split at h
      · rename_i te hte
        exact ⟨n, e, ti, te, (hT _ _ hti).arr hk, hT _ _ hti, hk, hT _ _ hte, h⟩
      · exact h.elim
    · exact h.elim
  · exact h.elim
theorem Tab.ty_out (hT : TabOk P T) {t : Nat} {K : TI → Prop} (h : T.ty t K) : ∃ ti, TEntry P t ti ∧ K ti := by
  unfold Tab.ty at h
  split at h
  · rename_i ti hti; exact ⟨ti, hT _ _ hti, h⟩
  · exact h.elim
theorem Tab.fld_out (hT : TabOk P T) {t f : Nat} {K : Nat → Nat → TI → Prop} (h : T.fld t f K) :
    ∃ (fields : Array Field) (fd : Field) (tf : TI), P.underlying t = some (.struct fields) ∧ fields[f]? = some fd ∧ TEntry P fd.type tf ∧ P.cellsOf fd.type = tf.size ∧ K fd.offset (P.cellsOf fd.type) tf := by
  unfold Tab.fld at h
  split at h
  · rename_i ti hti
    split at h
    · rename_i fs hk
      obtain ⟨fields, hu, hf⟩ := (hT _ _ hti).struct hk
      split at h
      · rename_i off sz ft hfs
        split at h
        · rename_i tf htf
          rw [← hf] at hfs
          simp only [List.getElem?_map, Array.getElem?_toList, Option.map_eq_some_iff, Prod.mk.injEq] at hfs
          obtain ⟨fd, h1, rfl, rfl, rfl⟩ := hfs
          exact ⟨fields, fd, tf, hu, h1, hT _ _ htf, (hT _ _ htf).cellsOf, h⟩
        · exact h.elim
      · exact h.elim
    · exact h.elim
  · exact h.elim
end

section
variable {Γ : Ctx} {σ : St} {w : World} {P : Program} {T : Tab}

theorem leaf_cells {x : AV} {v : Value} (hx : leafOk x = true) (h : V Γ σ w x v) : v.oneCell' = true ∧ v.cells = #[v] := by
  cases x <;> simp only [V] at h
  case sc u => subst h; cases v <;> simp_all [leafOk, Value.oneCell', Value.cells]
  case lst => obtain ⟨a, cap, rfl, _⟩ := h; simp [Value.oneCell', Value.cells]
  case ref => obtain ⟨⟨a, c, rfl⟩, _⟩ := h; simp [Value.oneCell', Value.cells]
  case ptr => obtain ⟨⟨a, rfl⟩, _⟩ := h; simp [Value.oneCell', Value.cells]
  case rp => obtain ⟨a, cap, _, rfl, _⟩ := h; simp [Value.oneCell', Value.cells]
  case fn => obtain ⟨a, cap, rfl, _⟩ := h; simp [Value.oneCell', Value.cells]
  case ifc => obtain ⟨a, rfl, _⟩ := h; simp [Value.oneCell', Value.cells]
  all_goals simp_all [leafOk]
theorem leafs_cells : ∀ {xs : List AV} {vs : List Value}, xs.all leafOk = true → VL Γ σ w xs vs → ∀ v ∈ vs, v.oneCell' = true
  | [], vs, _, h, v, hv => by simp only [VL] at h; subst h; cases hv
  | x :: xs, vs, hx, h, v, hv => by
    simp only [VL] at h
    obtain ⟨u, us, rfl, h1, h2⟩ := h
    simp only [List.all_cons, Bool.and_eq_true] at hx
    rcases List.mem_cons.1 hv with rfl | hv
    · exact (leaf_cells hx.1 h1).1
    · exact leafs_cells hx.2 h2 v hv
theorem not_agg (x : AV) : (∃ cs, x = .agg cs) ∨ (valOk x = leafOk x ∧ x.cells = [x]) := by
  cases x
  case agg cs => exact .inl ⟨cs, rfl⟩
  all_goals exact .inr ⟨rfl, rfl⟩
theorem val_cells {x : AV} {v : Value} (hx : valOk x = true) (h : V Γ σ w x v) : VL Γ σ w x.cells v.cells.toList ∧ ∀ u ∈ v.cells.toList, u.oneCell' = true := by
  rcases not_agg x with ⟨cs, rfl⟩ | ⟨e1, e2⟩
  · simp only [V] at h
    obtain ⟨us, rfl, h⟩ := h
    simp only [valOk] at hx
    simp only [AV.cells, Value.cells]
    exact ⟨h, leafs_cells hx h⟩
  · rw [e1] at hx
    obtain ⟨h1, h2⟩ := leaf_cells hx h
    rw [h2, e2]
    simp only [VL]
    exact ⟨⟨v, [], rfl, h, rfl⟩, fun u hu => by simp at hu; subst hu; exact h1⟩
theorem val_size {x : AV} {v : Value} (hx : valOk x = true) (h : V Γ σ w x v) : v.cells.size = x.cells.length := by
  have := (val_cells hx h).1.length
  simpa using this

/-! ### reading cells -/
theorem add_lit (g off n : Nat) : (⟨g, off, none⟩ : Addr).add n = ⟨g, off + n, none⟩ := by unfold Addr.add; split <;> simp_all
/-- The value that a load of type ti makes out of cells. -/
def mkV (ti : TI) (cs : List AV) : AV := if ti.k.agg then .agg (cs.take ti.size) else cs.headD .junk
theorem load_cells {t : TypeId} {ti : TI} (ht : TEntry P t ti) {g off : Nat} {cs : List AV} {us : List Value} (hv : VL Γ σ w cs us) (hc : CAt w g off us)
    (hl : ti.size ≤ cs.length) (hpos : 0 < ti.size) : ∃ v, (loadVar t ⟨g, off, none⟩).run P w = .ok v w ∧ V Γ σ w (mkV ti cs) v := by
  have hlen := hv.length
  cases hk : ti.k.agg
  · cases cs with
    | nil => simp at hl; omega
    | cons c cs =>
      simp only [VL] at hv
      obtain ⟨u, us', rfl, h1, h2⟩ := hv
      refine ⟨u, ?_, by simpa [mkV, hk] using h1⟩
      have := hc 0 u (by simp)
      simp only [Nat.add_zero] at this
      unfold loadVar
      rw [Sem.run_bind, ht.isAgg w, hk]
      simp [load, Sem.run, this]
  · refine ⟨.agg (us.take ti.size).toArray, ?_, ?_⟩
    · have hl2 : (loadCells ⟨g, off, none⟩ (us.take ti.size).length).run P w = .ok (us.take ti.size).toArray w :=
        run_loadCells_list (P := P) w ⟨g, off, none⟩ (us.take ti.size) (fun j v hv' => by
          rw [add_lit]
          refine hc j v ?_
          rw [List.getElem?_take] at hv'
          split at hv'
          · exact hv'
          · cases hv')
      have hn : (us.take ti.size).length = ti.size := by rw [List.length_take]; omega
      rw [hn] at hl2
      unfold loadVar
      rw [Sem.run_bind, ht.isAgg w, hk]
      simp only [Result.andThen_ok, if_true, Sem.run_bind, ht.sizeOf w, hl2, Sem.run_pure]
    · simp only [mkV, hk, if_true, V]
      exact ⟨_, rfl, hv.take _⟩

theorem V_sc (v : Value) : V Γ σ w (.sc v) v := by simp only [V]

/-! ### addresses -/
def aFieldAddr (T : Tab) (s f : Nat) (x : AV) (K : AV → Prop) : Prop :=
  match x with
  | .rp b cs => T.fld s f fun off _ tf => 0 < tf.size ∧ K (.rp b (cs.drop off))
  | .ptr o g i j => T.fld s f fun off _ tf => 0 < tf.size ∧ K (.ptr o g i (j + off))
  | _ => False
theorem CAt.drop {g off : Nat} {us : List Value} (h : CAt w g off us) (n : Nat) : CAt w g (off + n) (us.drop n) := fun j u hu => by
  rw [List.getElem?_drop] at hu
  have := h _ _ hu
  rwa [show off + (n + j) = off + n + j by omega] at this
theorem aFieldAddr_sound (hT : TabOk P T) {s f : Nat} {x : AV} {K : AV → Prop} (h : aFieldAddr T s f x K) {u : Value} (hu : V Γ σ w x u) :
    ∃ v r, (Instr.fieldAt s u f).run P w = .ok v w ∧ K r ∧ V Γ σ w r v := by
  cases x <;> simp only [aFieldAddr] at h
  case rp b cs =>
    obtain ⟨fields, fd, tf, h1, h2, h3, _, hpos, hK⟩ := Tab.fld_out hT h
    simp only [V] at hu
    obtain ⟨g, off, us, rfl, e2, e3, e4⟩ := hu
    refine ⟨.pointer (some ⟨g, off + fd.offset, none⟩), _, ?_, hK, ?_⟩
    · simp [Instr.fieldAt, run_underlying h1, h2, Instr.sureAddr, fieldPlace, h3.sizeOf w, Nat.pos_iff_ne_zero.1 hpos, add_lit]
    · simp only [V]
      exact ⟨g, _, _, rfl, e2, e3.drop _, e4.drop _⟩
  case ptr o g i j =>
    obtain ⟨fields, fd, tf, h1, h2, h3, _, hpos, hK⟩ := Tab.fld_out hT h
    simp only [V] at hu
    obtain ⟨⟨a, rfl⟩, e1, e2⟩ := hu
    refine ⟨.pointer (some (a.add fd.offset)), _, ?_, hK, ?_⟩
    · simp [Instr.fieldAt, run_underlying h1, h2, Instr.sureAddr, fieldPlace, h3.sizeOf w, Nat.pos_iff_ne_zero.1 hpos]
    · simp only [V]
      refine ⟨⟨_, rfl⟩, e1, fun ob hob => ?_⟩
      obtain ⟨k1, k2⟩ := e2 ob hob
      refine ⟨k1, fun he => ?_⟩
      obtain ⟨m1, blk, cap, m2, m3⟩ := k2 he
      refine ⟨m1, blk, cap, m2, ?_⟩
      simp only [Value.pointer.injEq, Option.some.injEq] at m3 ⊢
      subst m3
      rw [add_lit, Nat.add_assoc]
  all_goals exact h.elim

def aIndexAddr (T : Tab) (t : Nat) (x ix : AV) (σ : St) (K : AV → Prop) : Prop :=
  match ix with
  | .sc (.int _ i) =>
    match x with
    | .lst b sz xs => T.sl t fun _ te => te.size = sz ∧ 0 ≤ i ∧ i < xs.length ∧ ∃ el, xs[i.toNat]? = some el ∧ valOk el = true ∧ K (.rp b el.cells)
    | .ref o g off len => T.sl t fun _ te => 0 ≤ i ∧ i < len ∧ (∃ ob, σ.objs o = some ob ∧ ob.gen = g ∧ te.size = ob.sz) ∧ K (.ptr o g (off + i.toNat) 0)
    | .rp b cs => T.ar t fun n _ te => 0 ≤ i ∧ i < n ∧ K (.rp b (cs.drop (i.toNat * te.size)))
    | .ptr o g i0 j => T.ar t fun n _ te => 0 ≤ i ∧ i < n ∧ K (.ptr o g i0 (j + i.toNat * te.size))
    | _ => False
  | _ => False
theorem aIndexAddr_sound (hT : TabOk P T) {t : Nat} {x ix : AV} {K : AV → Prop} (h : aIndexAddr T t x ix σ K) {u v : Value} (hu : V Γ σ w x u) (hv : V Γ σ w ix v) :
    ∃ v' r, (Instr.indexAt t u v).run P w = .ok v' w ∧ K r ∧ V Γ σ w r v' := by
  unfold aIndexAddr at h
  split at h
  · rename_i k i
    simp only [V] at hv
    subst hv
    split at h
    · rename_i b sz xs
      obtain ⟨e, te, h1, h2, rfl, h3, h4, el, h5, h6, hK⟩ := Tab.sl_out hT h
      simp only [V] at hu
      obtain ⟨a, cap, rfl, _, _, _, hu⟩ := hu
      obtain ⟨g, off, vs, rfl, e2, e3, e4⟩ := hu (by intro hq; subst hq; simp at h4; omega)
      obtain ⟨v, hv, hV⟩ := e3.get _ _ h5
      obtain ⟨f1, f2⟩ := e4 _ _ hv
      obtain ⟨c1, c2⟩ := val_cells h6 hV
      refine ⟨.pointer (some ⟨g, off + i.toNat * te.size, none⟩), _, ?_, hK, ?_⟩
      · simp [Instr.indexAt, asIntOf, run_underlying h1, h3, h4, h2.sizeOf w, add_lit]
      · simp only [V]
        exact ⟨g, _, _, rfl, e2, c1, fun j u hu => f2 j u (by simpa using hu)⟩
    · rename_i o g off len
      obtain ⟨e, te, h1, h2, h3, h4, ⟨ob, h5, h6, h7⟩, hK⟩ := Tab.sl_out hT h
      simp only [V] at hu
      obtain ⟨⟨a, c, rfl⟩, e1, e2⟩ := hu
      obtain ⟨k1, k2⟩ := e2 ob h5
      obtain ⟨k3, k4⟩ := k2 h6
      cases hr : Γ.row o with
      | none =>
        simp only [hr, Value.slice.injEq] at k4
        omega
      | some bc =>
        obtain ⟨blk, cap⟩ := bc
        simp only [hr] at k4
        obtain ⟨a', k4, k5, k6⟩ := k4
        simp only [Value.slice.injEq] at k4
        obtain ⟨rfl, _, _⟩ := k4
        have k6 := k6 (by omega)
        subst k6
        refine ⟨.pointer (some ⟨blk, off * ob.sz + i.toNat * te.size, none⟩), _, ?_, hK, ?_⟩
        · simp [Instr.indexAt, asIntOf, run_underlying h1, h3, h4, h2.sizeOf w, add_lit]
        · simp only [V]
          refine ⟨⟨_, rfl⟩, e1, fun ob' hob' => ?_⟩
          rw [h5] at hob'
          cases hob'
          refine ⟨k1, fun _ => ⟨by omega, blk, cap, hr, ?_⟩⟩
          rw [h7, Nat.add_mul]; simp
    · rename_i b cs
      obtain ⟨n, e, ti, te, h1, _, _, h2, h3, h4, hK⟩ := Tab.ar_out hT h
      simp only [V] at hu
      obtain ⟨g, off, us, rfl, e2, e3, e4⟩ := hu
      refine ⟨.pointer (some ⟨g, off + i.toNat * te.size, none⟩), _, ?_, hK, ?_⟩
      · simp [Instr.indexAt, asIntOf, run_underlying h1, h3, h4, h2.sizeOf w, add_lit, Instr.sureAddr]
      · simp only [V]
        exact ⟨g, _, _, rfl, e2, e3.drop _, e4.drop _⟩
    · rename_i o g i0 j
      obtain ⟨n, e, ti, te, h1, _, _, h2, h3, h4, hK⟩ := Tab.ar_out hT h
      simp only [V] at hu
      obtain ⟨⟨a, rfl⟩, e1, e2⟩ := hu
      refine ⟨.pointer (some (a.add (i.toNat * te.size))), _, ?_, hK, ?_⟩
      · simp [Instr.indexAt, asIntOf, run_underlying h1, h3, h4, h2.sizeOf w, Instr.sureAddr]
      · simp only [V]
        refine ⟨⟨_, rfl⟩, e1, fun ob hob => ?_⟩
        obtain ⟨k1, k2⟩ := e2 ob hob
        refine ⟨k1, fun he => ?_⟩
        obtain ⟨m1, blk, cap, m2, m3⟩ := k2 he
        refine ⟨m1, blk, cap, m2, ?_⟩
        simp only [Value.pointer.injEq, Option.some.injEq] at m3 ⊢
        subst m3
        rw [add_lit, Nat.add_assoc]
    · exact h.elim
  · exact h.elim

/-- A part of cells. -/
def aPart (tf : TI) (cs : List AV) (off : Nat) (K : AV → Prop) : Prop :=
  if tf.k.agg then K (.agg ((cs.drop off).take tf.size)) else ∃ c, cs[off]? = some c ∧ K c
theorem aPart_sound {t : Nat} {tf : TI} (ht : TEntry P t tf) {cs : List AV} {us : List Value} (hv : VL Γ σ w cs us) {off : Nat} {K : AV → Prop} (h : aPart tf cs off K) :
    ∃ v r, (part t us.toArray off).run P w = .ok v w ∧ K r ∧ V Γ σ w r v := by
  unfold aPart at h
  split at h
  · rename_i hk
    refine ⟨.agg ((us.drop off).take tf.size).toArray, _, ?_, h, ?_⟩
    · unfold part
      rw [Sem.run_bind, ht.isAgg w, hk]
      simp only [Result.andThen_ok, if_true, Sem.run_bind, ht.sizeOf w, Sem.run_pure]
      congr 2
      simp [List.extract_eq_take_drop]
    · simp only [V]
      exact ⟨_, rfl, (hv.drop _).take _⟩
  · rename_i hk
    obtain ⟨c, h1, h2⟩ := h
    obtain ⟨v, hv1, hV⟩ := hv.get _ _ h1
    refine ⟨v, c, ?_, h2, hV⟩
    unfold part
    rw [Sem.run_bind, ht.isAgg w]
    simp [hk, hv1]
def aField (T : Tab) (t f : Nat) (x : AV) (K : AV → Prop) : Prop :=
  match x with
  | .agg cs => T.fld t f fun off _ tf => aPart tf cs off K
  | _ => False
theorem aField_sound (hT : TabOk P T) {t f : Nat} {x : AV} {K : AV → Prop} (h : aField T t f x K) {u : Value} (hu : V Γ σ w x u) :
    ∃ v r, (Instr.field t u f).run P w = .ok v w ∧ K r ∧ V Γ σ w r v := by
  cases x <;> simp only [aField] at h
  case agg cs =>
    obtain ⟨fields, fd, tf, h1, h2, h3, _, hK⟩ := Tab.fld_out hT h
    simp only [V] at hu
    obtain ⟨us, rfl, e⟩ := hu
    obtain ⟨v, r, k1, k2⟩ := aPart_sound h3 e hK
    exact ⟨v, r, by simp [Instr.field, run_underlying h1, h2, asAgg, k1], k2⟩
  all_goals exact h.elim

def byteAt (s : ByteArray) (i : Nat) : Int := ((s.data.toList.getD i 0).toNat : Int)
def aIndex (T : Tab) (t : Nat) (x ix : AV) (K : AV → Prop) : Prop :=
  match ix with
  | .sc (.int _ i) =>
    match x with
    | .agg cs => T.ar t fun n _ te => 0 ≤ i ∧ i < n ∧ aPart te cs (i.toNat * te.size) K
    | .sc (.string s) => T.ty t fun ti => ti.k = .str ∧ 0 ≤ i ∧ i < s.size ∧ K (.sc (.int .u8 (byteAt s i.toNat)))
    | _ => False
  | _ => False
theorem aIndex_sound (hT : TabOk P T) {t : Nat} {x ix : AV} {K : AV → Prop} (h : aIndex T t x ix K) {u v : Value} (hu : V Γ σ w x u) (hv : V Γ σ w ix v) :
    ∃ v' r, (Instr.index t u v).run P w = .ok v' w ∧ K r ∧ V Γ σ w r v' := by
  unfold aIndex at h
  split at h
  · rename_i k i
    simp only [V] at hv
    subst hv
    split at h
    · rename_i cs
      obtain ⟨n, e, ti, te, h1, _, _, h2, h3, h4, hK⟩ := Tab.ar_out hT h
      simp only [V] at hu
      obtain ⟨us, rfl, e⟩ := hu
      obtain ⟨v, r, k1, k2⟩ := aPart_sound h2 e hK
      exact ⟨v, r, by simp [Instr.index, asIntOf, run_underlying h1, h3, h4, h2.sizeOf w, k1], k2⟩
    · rename_i s
      obtain ⟨ti, h1, h2, h3, h4, hK⟩ := Tab.ty_out hT h
      simp only [V] at hu
      subst hu
      refine ⟨_, _, ?_, hK, V_sc _⟩
      have hlt : i.toNat < s.size := by omega
      have hg : s[i.toNat]? = some s[i.toNat] := by simp [hlt]
      have hb : byteAt s i.toNat = (s[i.toNat].toNat : Int) := by
        unfold byteAt
        have hlt' : i.toNat < s.data.toList.length := by simpa using hlt
        rw [List.getD_eq_getElem?_getD, List.getElem?_eq_getElem hlt']
        rfl
      simp [Instr.index, asIntOf, run_underlying (h1.str h2), h3, hg, hb]
    · exact h.elim
  · exact h.elim

def aLen (T : Tab) (t : Nat) (x : AV) (K : AV → Prop) : Prop :=
  match x with
  | .lst _ _ xs => T.sl t fun _ _ => K (.sc (.int .i64 xs.length))
  | .ref _ _ _ len => T.sl t fun _ _ => K (.sc (.int .i64 len))
  | .sc (.string s) => T.ty t fun ti => ti.k = .str ∧ K (.sc (.int .i64 s.size))
  | _ => False
theorem aLen_sound (hT : TabOk P T) {t ty : Nat} {x : AV} {K : AV → Prop} (h : aLen T t x K) {u : Value} (hu : V Γ σ w x u) :
    ∃ v r, (Builtin.len_ #[t] ty #[u]).run P w = .ok v w ∧ K r ∧ V Γ σ w r v := by
  unfold aLen at h
  split at h
  · obtain ⟨e, te, h1, _, hK⟩ := Tab.sl_out hT h
    simp only [V] at hu
    obtain ⟨a, cap, rfl, _⟩ := hu
    refine ⟨_, _, ?_, hK, V_sc _⟩
    simp [Builtin.len_, run_underlying h1, goInt]
  · obtain ⟨e, te, h1, _, hK⟩ := Tab.sl_out hT h
    simp only [V] at hu
    obtain ⟨⟨a, c, rfl⟩, _⟩ := hu
    refine ⟨_, _, ?_, hK, V_sc _⟩
    simp [Builtin.len_, run_underlying h1, goInt]
  · obtain ⟨ti, h1, h2, hK⟩ := Tab.ty_out hT h
    simp only [V] at hu
    subst hu
    refine ⟨_, _, ?_, hK, V_sc _⟩
    simp [Builtin.len_, run_underlying (h1.str h2), goInt]
  · exact h.elim

def aExtract (i : Nat) (x : AV) (K : AV → Prop) : Prop :=
  match x with
  | .tup cs => ∃ c, cs[i]? = some c ∧ K c
  | _ => False
theorem aExtract_sound {i : Nat} {x : AV} {K : AV → Prop} (h : aExtract i x K) {u : Value} (hu : V Γ σ w x u) :
    ∃ v r, (Instr.extract u i).run P w = .ok v w ∧ K r ∧ V Γ σ w r v := by
  cases x <;> simp only [aExtract] at h
  case tup cs =>
    obtain ⟨c, h1, hK⟩ := h
    simp only [V] at hu
    obtain ⟨us, rfl, e⟩ := hu
    obtain ⟨v, hv, hV⟩ := e.get _ _ h1
    exact ⟨v, c, by simp [Instr.extract, hv], hK, hV⟩
  all_goals exact h.elim

def aLoad (T : Tab) (t : Nat) (x : AV) (σ : St) (K : AV → Prop) : Prop :=
  match x with
  | .rp _ cs => T.ty t fun ti => 0 < ti.size ∧ ti.size ≤ cs.length ∧ K (mkV ti cs)
  | .ptr o g i j => ∃ ob, σ.objs o = some ob ∧ ob.gen = g ∧ ∃ el, ob.els[i]? = some el ∧ valOk el = true ∧ T.ty t fun ti => 0 < ti.size ∧ j + ti.size ≤ el.cells.length ∧ K (mkV ti (el.cells.drop j))
  | _ => False
theorem aLoad_sound (hT : TabOk P T) (hM : Models Γ σ w) {t : Nat} {x : AV} {K : AV → Prop} (h : aLoad T t x σ K) {u : Value} (hu : V Γ σ w x u) :
    ∃ v r, (Instr.loadAt t u).run P w = .ok v w ∧ K r ∧ V Γ σ w r v := by
  cases x <;> simp only [aLoad] at h
  case rp b cs =>
    obtain ⟨ti, h1, h2, h3, hK⟩ := Tab.ty_out hT h
    simp only [V] at hu
    obtain ⟨g, off, us, rfl, _, e3, e4⟩ := hu
    obtain ⟨v, k1, k2⟩ := load_cells h1 e3 e4 h3 h2
    exact ⟨v, _, by simp [Instr.loadAt, Instr.sureAddr, k1], hK, k2⟩
  case ptr o g i j =>
    obtain ⟨ob, h1, h2, el, h3, h4, h⟩ := h
    obtain ⟨ti, h5, h6, h7, hK⟩ := Tab.ty_out hT h
    simp only [V] at hu
    obtain ⟨_, _, hu⟩ := hu
    obtain ⟨_, hu⟩ := hu ob h1
    obtain ⟨_, blk, cap, hr, rfl⟩ := hu h2
    obtain ⟨vs, k1, k2⟩ := (hM.lives o ob h1).vals blk cap hr
    obtain ⟨v, hv, hV⟩ := k1.get _ _ h3
    obtain ⟨c1, c2⟩ := val_cells h4 hV
    obtain ⟨f1, f2⟩ := k2 _ _ hv
    have hc : CAt w blk (i * ob.sz) v.cells.toList := fun j u hu => by
      have := f2 j u (by simpa using hu)
      simpa using this
    obtain ⟨v', m1, m2⟩ := load_cells h5 (c1.drop j) (hc.drop j) (by rw [List.length_drop]; omega) h6
    exact ⟨v', _, by simp [Instr.loadAt, Instr.sureAddr, m1], hK, m2⟩
  all_goals exact h.elim
end
end Go.Ab
