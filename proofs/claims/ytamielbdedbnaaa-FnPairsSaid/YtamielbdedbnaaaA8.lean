/- Ab, part 8: boxes, structs and slices built, make, append. -/
import Derived.Test.YtamielbdedbnaaaA7
set_option linter.unusedSimpArgs false
set_option linter.unusedVariables false
namespace Go.Ab
open Go.RowKit
section
variable {Γ Γ' : Ctx} {σ σ' : St} {w w' : World} {P : Program} {T : Tab}

/-- What an operation that makes or writes memory comes to. -/
def Out (Γ : Ctx) (σ : St) (w : World) (K : AV → St → Prop) (v : Value) (w' : World) : Prop :=
  ∃ r Γ' σ', K r σ' ∧ Step Γ σ w Γ' σ' w' ∧ Models Γ' σ' w' ∧ V Γ' σ' w' r v

theorem run_newVar (P : Program) (w : World) (t : TypeId) (v : Value) : (newVar t v).run P w = .ok ⟨w.heap.size, 0, none⟩ (w.alloc (.cells v.cells t)) := by
  simp [newVar, newRow]

/-- A new row of elements, for good. -/
theorem out_stable (hM : Models Γ σ w) {e : TypeId} {cells : Array Value} {sz : Nat} {els : List AV} {vs : List Value} (hsz : 0 < sz) (hv : VL Γ σ w els vs)
    (hall : ∀ v ∈ vs, v.cells.size = sz) (hcells : cells.toList = vs.flatMap (·.cells.toList)) :
    ∃ Γ', Step Γ σ w Γ' σ (w.alloc (.cells cells e)) ∧ Models Γ' σ (w.alloc (.cells cells e)) ∧ Γ'.S w.heap.size ∧ VL Γ' σ (w.alloc (.cells cells e)) els vs ∧ EAt (w.alloc (.cells cells e)) w.heap.size 0 sz vs := by
  have hs := step_stable hM (.cells cells e)
  refine ⟨_, hs, models_stable hM _, .inl rfl, VL_step hM hs _ _ hv, ?_⟩
  intro i v hi
  have hmem := List.mem_of_getElem? hi
  refine ⟨hall v hmem, fun j u hu => ?_⟩
  rw [cell_of_row _ _ _ cells e (0, 0) (heap_alloc_new w _), Nat.zero_add, ← Array.getElem?_toList, hcells]
  have key : ∀ (vs : List Value) (i : Nat), (∀ v ∈ vs, v.cells.size = sz) → vs[i]? = some v → (vs.flatMap (·.cells.toList))[i * sz + j]? = some u := by
    intro vs
    induction vs with
    | nil => intro i _ h; simp at h
    | cons a vs ih =>
      intro i hall h
      have ha := hall a (by simp)
      have hjs := (Array.getElem?_eq_some_iff.1 hu).1
      cases i with
      | zero =>
        simp at h
        subst h
        rw [List.flatMap_cons, List.getElem?_append_left (by simp; omega)]
        simpa using hu
      | succ i =>
        rw [List.flatMap_cons, List.getElem?_append_right (by simp [ha, Nat.add_mul]; omega)]
        have := ih i (fun v hv => hall v (by simp [hv])) (by simpa using h)
        rw [← this]
        congr 1
        simp [ha, Nat.add_mul]
        omega
  exact key vs i hall hi

/-- A new object. -/
theorem out_push (hM : Models Γ σ w) {e : TypeId} {cells : Array Value} {sz cap : Nat} {els : List AV} {vs : List Value} (hsz : 0 < sz) (hv : VL Γ σ w els vs)
    (hall : ∀ v ∈ vs, v.cells.size = sz) (hcs : cells.size = cap * sz) (hcap : vs.length ≤ cap) (hmax : cap ≤ maxLen)
    (hcells : ∀ i v, vs[i]? = some v → ∀ j u, v.cells[j]? = some u → cells[i * sz + j]? = some u) :
    Step Γ σ w (Γ.setRow σ.next (some (w.heap.size, cap))) (σ.push ⟨e, sz, 0, els⟩) (w.alloc (.cells cells e)) ∧
    Models (Γ.setRow σ.next (some (w.heap.size, cap))) (σ.push ⟨e, sz, 0, els⟩) (w.alloc (.cells cells e)) := by
  have hg := World.grownBy_alloc w (.cells cells e) none
  have hr : ∀ g c, (some (w.heap.size, cap) : Option (Nat × Nat)) = some (g, c) → w.heap.size ≤ g := fun g c h => by cases h; exact Nat.le_refl _
  have hs := step_push hM ⟨e, sz, 0, els⟩ (some (w.heap.size, cap)) hg hr
  refine ⟨hs, models_push hM _ _ hg hr ⟨hsz, (fun h => by cases h), (fun g c h => ?_), (fun g c h => ?_)⟩⟩
  · cases h
    exact ⟨⟨cells, heap_alloc_new w _, hcs⟩, by rw [← hv.length]; exact hcap, hmax, fun hb => absurd (hM.size _ hb) (Nat.lt_irrefl _)⟩
  · cases h
    refine ⟨vs, VL_step hM hs _ _ hv, fun i v hi => ⟨hall v (List.mem_of_getElem? hi), fun j u hu => ?_⟩⟩
    rw [cell_of_row _ _ _ cells e (0, 0) (heap_alloc_new w _), Nat.zero_add]
    exact hcells i v hi j u hu

theorem V_new_ptr {e : TypeId} {sz cap : Nat} {els : List AV} (hn : 0 < els.length) (g : Nat) :
    V (Γ.setRow σ.next (some (g, cap))) (σ.push ⟨e, sz, 0, els⟩) w' (.ptr σ.next 0 0 0) (.pointer (some ⟨g, 0, none⟩)) := by
  simp only [V]
  refine ⟨⟨_, rfl⟩, by simp [St.push], fun ob h => ?_⟩
  rw [St.push_same] at h
  cases h
  exact ⟨Nat.le_refl _, fun _ => ⟨hn, g, cap, by simp [Ctx.setRow], by simp⟩⟩
theorem V_new_ref {e : TypeId} {sz cap n : Nat} {els : List AV} (hn : n = els.length) (g : Nat) :
    V (Γ.setRow σ.next (some (g, cap))) (σ.push ⟨e, sz, 0, els⟩) w' (.ref σ.next 0 0 n) (.slice (some ⟨g, 0, none⟩) n cap) := by
  simp only [V]
  refine ⟨⟨_, _, rfl⟩, by simp [St.push], fun ob h => ?_⟩
  rw [St.push_same] at h
  cases h
  exact ⟨Nat.le_refl _, fun _ => ⟨by simp [hn], by simp [Ctx.setRow]⟩⟩

/-! ### box, alloc -/
def aBox (T : Tab) (t : Nat) (x : AV) (md : Bool) (σ : St) (K : AV → St → Prop) : Prop :=
  valOk x = true ∧ T.ty t fun ti => 0 < ti.size ∧ x.cells.length = ti.size ∧
    (if md then K (.ptr σ.next 0 0 0) (σ.push ⟨t, ti.size, 0, [x]⟩) else K (.rp false x.cells) σ)
theorem aBox_sound (hT : TabOk P T) (hM : Models Γ σ w) {t : Nat} {x : AV} {md : Bool} {K : AV → St → Prop} (h : aBox T t x md σ K) {u : Value} (hu : V Γ σ w x u) :
    ∃ v w', (Instr.box t u).run P w = .ok v w' ∧ Out Γ σ w K v w' := by
  obtain ⟨h0, h⟩ := h
  obtain ⟨ti, h1, h2, h3, h⟩ := Tab.ty_out hT h
  refine ⟨_, _, by simp only [Instr.box, Sem.run_bind, run_newVar, Result.andThen_ok, Sem.run_pure]; rfl, ?_⟩
  have hsz := val_size h0 hu
  split at h
  · obtain ⟨hs, hm⟩ := out_push (e := t) (cells := u.cells) (cap := 1) hM h2 (VL.one hu) (by simp; omega) (by simp; omega) (by simp) (by simp [maxLen]) (fun i v hi j z hz => by
      cases i with
      | zero => simp at hi; subst hi; simpa using hz
      | succ i => simp at hi)
    exact ⟨_, _, _, h, hs, hm, V_new_ptr (by simp) _⟩
  · obtain ⟨Γ', hs, hm, hS, hv, he⟩ := out_stable (e := t) (cells := u.cells) hM h2 (VL.one hu) (by simp; omega) (by simp)
    refine ⟨_, _, _, h, hs, hm, ?_⟩
    simp only [V]
    refine ⟨_, 0, u.cells.toList, rfl, hS, ?_, fun j z hz => ?_⟩
    · have := (val_cells h0 hu).1
      exact VL_step hM hs _ _ this
    · have := (he 0 u (by simp)).2 j z (by simpa using hz)
      simpa using this

def aAlloc (T : Tab) (t : Nat) (σ : St) (K : AV → St → Prop) : Prop :=
  T.ty t fun ti => 0 < ti.size ∧ ti.zero.cells.size = ti.size ∧ valOk (cv ti.zero) = true ∧ K (.ptr σ.next 0 0 0) (σ.push ⟨t, ti.size, 0, [cv ti.zero]⟩)
theorem aAlloc_sound (hT : TabOk P T) (hM : Models Γ σ w) {t : Nat} {K : AV → St → Prop} (h : aAlloc T t σ K) :
    ∃ v w', (Instr.alloc t true (.tuple #[])).run P w = .ok v w' ∧ Out Γ σ w K v w' := by
  obtain ⟨ti, h1, h2, h3, h4, h⟩ := Tab.ty_out hT h
  refine ⟨.pointer (some ⟨w.heap.size, 0, none⟩), w.alloc (.cells ti.zero.cells t), ?_, ?_⟩
  · simp [Instr.alloc, h1.zeroValue w, run_newVar]
  · obtain ⟨hs, hm⟩ := out_push (e := t) (cells := ti.zero.cells) (cap := 1) (vs := [ti.zero]) hM h2 (VL.one (V_cv ti.zero)) (by simp; omega) (by simp; omega) (by simp) (by simp [maxLen]) (fun i v hi j z hz => by
      cases i with
      | zero => simp at hi; subst hi; simpa using hz
      | succ i => simp at hi)
    exact ⟨_, _, _, h, hs, hm, V_new_ptr (by simp) _⟩

/-! ### make -/
def zeroAV (ti : TI) : AV := cv ti.zero
def aMake (T : Tab) (t : Nat) (len cap : AV) (σ : St) (K : AV → St → Prop) : Prop :=
  match len, cap with
  | .sc (.int _ l), .sc (.int _ c) => T.sl t fun e te => 0 ≤ l ∧ l ≤ c ∧ te.bytes * c ≤ 281474976710656 ∧ c ≤ 9223372036854775807 ∧ 0 < te.size ∧ te.zero.cells.size = te.size ∧
      K (.ref σ.next 0 0 l.toNat) (σ.push ⟨e, te.size, 0, List.replicate l.toNat (zeroAV te)⟩)
  | _, _ => False
theorem aMake_sound (hT : TabOk P T) (hM : Models Γ σ w) {t : Nat} {x y : AV} {K : AV → St → Prop} (h : aMake T t x y σ K) {u z : Value} (hu : V Γ σ w x u) (hz : V Γ σ w y z) :
    ∃ v w', (Instr.makeSlice t u z).run P w = .ok v w' ∧ Out Γ σ w K v w' := by
  unfold aMake at h
  split at h
  · rename_i kl l kc c
    obtain ⟨e, te, h1, h2, h3, h4, h5, h6, h7, h8, h⟩ := Tab.sl_out hT h
    simp only [V] at hu hz
    subst hu hz
    obtain ⟨i, hi, hi1, hi2, hi3⟩ := h2.info
    have hr := run_make (P := P) w t e i te.zero h1 hi hi3 kl kc l c h3 h4 (by rw [hi2]; exact h5) h6
    refine ⟨_, _, hr, ?_⟩
    have hz1 : ∀ j, j < (te.zero.cells).size → ∀ i, i < c.toNat → (madeCells te.zero.cells (c.toNat * te.size))[i * te.size + j]? = te.zero.cells[j]? := fun j hj i hi => by
      have hlt := mul_lt_of hi (show j < te.size by omega)
      have hmod : (i * te.size + j) % te.zero.cells.size = j := by rw [h8, Nat.add_comm, Nat.add_mul_mod_self_right, Nat.mod_eq_of_lt (by omega)]
      have hm : ∀ (z : Array Value) (n k : Nat), k < n → (madeCells z n)[k]? = some (z[k % z.size]!) := fun z n k hk => by simp [madeCells, hk]
      rw [hm _ _ _ hlt, hmod]
      simp [hj]
    obtain ⟨hs, hm⟩ := out_push (e := e) (cells := madeCells te.zero.cells (c.toNat * te.size)) (cap := c.toNat) (els := List.replicate l.toNat (zeroAV te)) (vs := List.replicate l.toNat te.zero) hM h7
      (VL.replicate _ (V_cv te.zero)) (fun v hv => by rw [List.eq_of_mem_replicate hv]; exact h8) (size_madeCells _ _) (by simp; omega) (by simp [maxLen]; omega) (fun i v hv j q hq => by
        rw [List.getElem?_replicate] at hv
        split at hv
        · cases hv
          rw [hz1 j (Array.getElem?_eq_some_iff.1 hq).1 i (by omega)]
          exact hq
        · cases hv)
    rw [hi1]
    exact ⟨_, _, _, h, hs, hm, V_new_ref (by simp) _⟩
  · exact h.elim

/-! ### structs and arrays built -/
def fillA (place : Nat → Option (Nat × Nat)) : List AV → List (Nat × AV) → (List AV → Prop) → Prop
  | cells, [], K => K cells
  | cells, (i, x) :: r, K => match place i with
    | some (off, size) => valOk x = true ∧ x.cells.length = size ∧ off + size ≤ cells.length ∧ fillA place (cells.take off ++ x.cells ++ cells.drop (off + size)) r K
    | none => False
def VP (Γ : Ctx) (σ : St) (w : World) : List (Nat × AV) → List (Nat × Value) → Prop
  | [], [] => True
  | (i, x) :: r, (j, v) :: s => i = j ∧ V Γ σ w x v ∧ VP Γ σ w r s
  | _, _ => False
theorem foldl_splice (off : Nat) : ∀ (l : List Value) (k : Nat) (cells : Array Value), off + k + l.length ≤ cells.size →
    ((l.zipIdx k).foldl (fun cs (c : Value × Nat) => cs.setIfInBounds (off + c.2) c.1) cells).toList = cells.toList.take (off + k) ++ l ++ cells.toList.drop (off + k + l.length)
  | [], k, cells, _ => by simp
  | c :: l, k, cells, h => by
    simp only [List.length_cons] at h
    rw [List.zipIdx_cons, List.foldl_cons, foldl_splice off l (k + 1) _ (by simp; omega)]
    simp only [Array.toList_setIfInBounds]
    have h1 : (cells.toList.set (off + k) c).take (off + (k + 1)) = cells.toList.take (off + k) ++ [c] := by
      rw [show off + (k + 1) = off + k + 1 by omega, List.take_set, List.take_succ_eq_append_getElem (by simp; omega), List.set_append_right _ _ (by simp; omega), List.length_take]
      simp [show off + k - min (off + k) cells.size = 0 by omega]
    have h2 : (cells.toList.set (off + k) c).drop (off + (k + 1) + l.length) = cells.toList.drop (off + k + (c :: l).length) := by
      rw [List.drop_set_of_lt (by omega)]
      congr 1
      simp; omega
    rw [h1, h2]
    simp
theorem fillA_sound {place : Nat → Option (Nat × Nat)} : ∀ {parts : List (Nat × AV)} {parts' : List (Nat × Value)} {cells : List AV} {us : Array Value} {K : List AV → Prop}, VL Γ σ w cells us.toList →
    VP Γ σ w parts parts' → fillA place cells parts K → ∃ us' cells', Instr.fill place us parts' = some us' ∧ K cells' ∧ VL Γ σ w cells' us'.toList
  | [], [], cells, us, K, hv, _, h => ⟨us, cells, rfl, h, hv⟩
  | [], _ :: _, _, _, _, _, hp, _ => by simp [VP] at hp
  | _ :: _, [], _, _, _, _, hp, _ => by simp [VP] at hp
  | (i, x) :: r, (j, v) :: s, cells, us, K, hv, hp, h => by
    simp only [VP] at hp
    obtain ⟨rfl, hx, hp⟩ := hp
    simp only [fillA] at h
    split at h
    · rename_i off size hpl
      obtain ⟨h1, h2, h3, h4⟩ := h
      obtain ⟨c1, c2⟩ := val_cells h1 hx
      have hsz := val_size h1 hx
      have hl := hv.length
      simp at hl
      have hfold := foldl_splice off v.cells.toList 0 us (by simp; omega)
      simp only [Nat.add_zero, Array.length_toList] at hfold
      have hz : v.cells.zipIdx.foldl (fun cs (c : Value × Nat) => cs.setIfInBounds (off + c.2) c.1) us = (v.cells.toList.zipIdx 0).foldl (fun cs (c : Value × Nat) => cs.setIfInBounds (off + c.2) c.1) us := by
        rw [← Array.foldl_toList, Array.toList_zipIdx]
      obtain ⟨us', cells', k1, k2, k3⟩ := fillA_sound (us := (v.cells.toList.zipIdx 0).foldl (fun cs (c : Value × Nat) => cs.setIfInBounds (off + c.2) c.1) us) (by
        rw [hfold, hsz, h2]
        exact ((hv.take _).append c1).append (hv.drop _)) hp h4
      refine ⟨us', cells', ?_, k2, k3⟩
      simp only [Instr.fill, hpl]
      rw [if_neg (by simp; omega)]
      rw [← k1, ← hz]
    · exact h.elim

def aBuild (T : Tab) (t : Nat) (parts : List (Nat × AV)) (K : AV → Prop) : Prop :=
  T.ty t fun ti => match ti.k with
    | .struct fs => (fs.all fun f => (T f.2.2).isSome) = true ∧ fillA (fun i => (fs[i]?).map fun f => (f.1, f.2.1)) (ti.zero.cells.toList.map cv1) parts fun cs => K (.agg cs)
    | .arr _ e => T.ty e fun te => fillA (fun i => some (i * te.size, te.size)) (ti.zero.cells.toList.map cv1) parts fun cs => K (.agg cs)
    | _ => False
theorem aBuild_sound (hT : TabOk P T) {t : Nat} {parts : List (Nat × AV)} {K : AV → Prop} (h : aBuild T t parts K) {parts' : Array (Nat × Value)} (hp : VP Γ σ w parts parts'.toList) :
    ∃ v r, (Instr.build t parts').run P w = .ok v w ∧ K r ∧ V Γ σ w r v := by
  obtain ⟨ti, h1, h⟩ := Tab.ty_out hT h
  obtain ⟨i, hi, hi1, hi2, hi3⟩ := h1.info
  have hz : VL Γ σ w (ti.zero.cells.toList.map cv1) ti.zero.cells.toList := VL_cv1 _
  split at h
  · rename_i fs hk
    obtain ⟨h2, h⟩ := h
    obtain ⟨fields, hu, hf⟩ := h1.struct hk
    obtain ⟨us', cells', k1, k2, k3⟩ := fillA_sound hz hp h
    have hplaces : ∀ (l : List Field) , ((l.map (fun f => (f.offset, P.cellsOf f.type, f.type))).all fun f => (T f.2.2).isSome) = true →
        l.mapM (fun f => (P.info? f.type).map fun i => (f.offset, i.size)) = some (l.map fun f => (f.offset, P.cellsOf f.type)) := by
      intro l
      induction l with
      | nil => intro _; simp
      | cons f l ih =>
        intro hl
        simp only [List.map_cons, List.all_cons, Bool.and_eq_true] at hl
        obtain ⟨ti', hti⟩ := Option.isSome_iff_exists.1 hl.1
        obtain ⟨i', hi', hs, _⟩ := (hT _ _ hti).info
        simp [List.mapM_cons, hi', ih hl.2, Program.cellsOf]
    refine ⟨_, _, run_build (P := P) w t parts' us' ?_, k2, ?_⟩
    · unfold Program.built
      rw [← hf] at h2
      simp only [hi, hu, hi3, hplaces _ h2]
      rw [← k1]
      congr 1
      funext x
      rw [← hf]
      simp only [List.getElem?_map, List.getElem?_toArray, Option.map_map, Array.getElem?_toList]
      rfl
    · simp only [V]
      exact ⟨us'.toList, by simp, k3⟩
  · rename_i n e hk
    obtain ⟨te, h2, h⟩ := Tab.ty_out hT h
    obtain ⟨ie, hie, hie1, _⟩ := h2.info
    obtain ⟨us', cells', k1, k2, k3⟩ := fillA_sound hz hp h
    refine ⟨_, _, run_build (P := P) w t parts' us' ?_, k2, ?_⟩
    · unfold Program.built
      simp only [hi, h1.arr hk, hi3, hie, hie1, k1]
    · simp only [V]
      exact ⟨us'.toList, by simp, k3⟩
  · exact h.elim

/-! ### slices built -/
/-- the parts in their order, each of one element -/
def seqParts (sz : Nat) : Nat → List (Nat × AV) → Bool
  | _, [] => true
  | k, (i, x) :: r => i == k && valOk x && x.cells.length == sz && seqParts sz (k + 1) r
theorem fill_seq {sz : Nat} : ∀ {parts : List (Nat × AV)} {parts' : List (Nat × Value)} {k : Nat} {cells : Array Value}, VP Γ σ w parts parts' → seqParts sz k parts = true → cells.size = (k + parts.length) * sz →
    ∃ vs cells', Instr.fill (fun i => some (i * sz, sz)) cells parts' = some cells' ∧ VL Γ σ w (parts.map (·.2)) vs ∧ (∀ v ∈ vs, v.cells.size = sz) ∧
      cells'.toList = cells.toList.take (k * sz) ++ vs.flatMap (·.cells.toList)
  | [], [], k, cells, _, _, hc => ⟨[], cells, rfl, by simp [VL], by simp, by
    simp at hc
    rw [← hc]
    simpa using (List.take_of_length_le (l := cells.toList) (i := cells.size) (by simp)).symm⟩
  | [], _ :: _, _, _, hp, _, _ => by simp [VP] at hp
  | _ :: _, [], _, _, hp, _, _ => by simp [VP] at hp
  | (i, x) :: r, (j, v) :: s, k, cells, hp, hs, hc => by
    simp only [VP] at hp
    obtain ⟨rfl, hx, hp⟩ := hp
    simp only [seqParts, Bool.and_eq_true, beq_iff_eq] at hs
    obtain ⟨⟨⟨rfl, h1⟩, h2⟩, h3⟩ := hs
    have hsz := val_size h1 hx
    have hc' : cells.size = i * sz + sz + r.length * sz := by rw [hc]; simp [Nat.add_mul]; omega
    have hfold := foldl_splice (i * sz) v.cells.toList 0 cells (by simp; omega)
    simp only [Nat.add_zero, Array.length_toList] at hfold
    have hz : v.cells.zipIdx.foldl (fun cs (c : Value × Nat) => cs.setIfInBounds (i * sz + c.2) c.1) cells = (v.cells.toList.zipIdx 0).foldl (fun cs (c : Value × Nat) => cs.setIfInBounds (i * sz + c.2) c.1) cells := by
      rw [← Array.foldl_toList, Array.toList_zipIdx]
    have hsize : ((v.cells.toList.zipIdx 0).foldl (fun cs (c : Value × Nat) => cs.setIfInBounds (i * sz + c.2) c.1) cells).size = cells.size := by
      have := congrArg List.length hfold
      simp only [List.length_append, List.length_take, List.length_drop, Array.length_toList] at this
      omega
    obtain ⟨vs, cells', k1, k2, k3, k4⟩ := fill_seq (k := i + 1) (cells := (v.cells.toList.zipIdx 0).foldl (fun cs (c : Value × Nat) => cs.setIfInBounds (i * sz + c.2) c.1) cells) hp h3 (by
      rw [hsize, hc', Nat.add_mul, Nat.add_mul]; omega)
    refine ⟨v :: vs, cells', ?_, ?_, ?_, ?_⟩
    · simp only [Instr.fill]
      rw [if_neg (by simp; omega), hz]
      exact k1
    · simp only [List.map_cons, VL]
      exact ⟨v, vs, rfl, hx, k2⟩
    · intro u hu
      rcases List.mem_cons.1 hu with rfl | hu
      · omega
      · exact k3 u hu
    · have hA : (cells.toList.take (i * sz) ++ v.cells.toList).length = (i + 1) * sz := by
        rw [List.length_append, List.length_take, Array.length_toList, Array.length_toList, Nat.add_mul, Nat.one_mul]
        omega
      rw [k4, hfold, List.take_left' hA, List.flatMap_cons, List.append_assoc]

def aBuildSlice (T : Tab) (t len : Nat) (parts : List (Nat × AV)) (md : Bool) (σ : St) (K : AV → St → Prop) : Prop :=
  T.sl t fun e te => 0 < te.size ∧ te.zero.cells.size = te.size ∧ len * te.size ≤ 16777216 ∧ parts.length = len ∧ seqParts te.size 0 parts = true ∧
    (if md then K (.ref σ.next 0 0 len) (σ.push ⟨e, te.size, 0, parts.map (·.2)⟩) else K (.lst false te.size (parts.map (·.2))) σ)
theorem aBuildSlice_sound (hT : TabOk P T) (hM : Models Γ σ w) {t len : Nat} {parts : List (Nat × AV)} {md : Bool} {K : AV → St → Prop} (h : aBuildSlice T t len parts md σ K)
    {parts' : Array (Nat × Value)} (hp : VP Γ σ w parts parts'.toList) : ∃ v w', (Instr.buildSlice t len parts').run P w = .ok v w' ∧ Out Γ σ w K v w' := by
  obtain ⟨e, te, h1, h2, h3, h4, h5, h6, h7, h⟩ := Tab.sl_out hT h
  obtain ⟨vs, cells', k1, k2, k3, k4⟩ := fill_seq (k := 0) (cells := madeCells te.zero.cells (len * te.size)) hp h7 (by rw [size_madeCells]; simp [h6])
  simp only [Nat.zero_mul, List.take_zero, List.nil_append] at k4
  have hvl : vs.length = len := by have := k2.length; simpa [h6] using this
  refine ⟨.slice (some ⟨w.heap.size, 0, none⟩) len len, w.alloc (.cells cells' e), ?_, ?_⟩
  · have h5' : ¬ (len * te.size > 2 ^ 24) := by omega
    by_cases hn : len * te.size = 0
    · have hl : len = 0 := by
        rcases Nat.mul_eq_zero.1 hn with h | h <;> omega
      subst hl
      obtain rfl : parts = [] := List.eq_nil_of_length_eq_zero h6
      have hp' : parts'.toList = [] := by cases hq : parts'.toList with
        | nil => rfl
        | cons a b => rw [hq] at hp; simp [VP] at hp
      rw [hp'] at k1
      simp only [Instr.fill, Option.some.injEq] at k1
      unfold Instr.buildSlice
      simp only [Sem.run_bind, run_underlying h1, Result.andThen_ok, h2.sizeOf w, hn, if_neg h5', if_true, Sem.run_pure, hp', Instr.fill]
      rw [← k1]
      simp [newRow, madeCells, Array.range_zero']
    · unfold Instr.buildSlice
      simp only [Sem.run_bind, run_underlying h1, Result.andThen_ok, h2.sizeOf w, if_neg h5', if_neg hn, Sem.run_pure, h2.zeroValue w]
      rw [show (Array.range (len * te.size)).map (fun x => te.zero.cells[x % te.zero.cells.size]!) = madeCells te.zero.cells (len * te.size) from rfl, k1]
      simp [newRow]
  · have hflat : ∀ i v, vs[i]? = some v → ∀ j u, v.cells[j]? = some u → cells'[i * te.size + j]? = some u := fun i v hi j u hu => by
      obtain ⟨Γ', _, _, _, _, he⟩ := out_stable (e := e) (cells := cells') hM h3 k2 k3 k4
      have := (he i v hi).2 j u hu
      rw [cell_of_row _ _ _ cells' e (0, 0) (heap_alloc_new w _), Nat.zero_add] at this
      exact this
    have hsize : cells'.size = len * te.size := by
      have := congrArg List.length k4
      rw [Array.length_toList] at this
      rw [this, ← hvl]
      clear this hflat k4 k1 k2 hvl
      induction vs with
      | nil => simp
      | cons v vs ih =>
        rw [List.flatMap_cons, List.length_append, ih (fun u hu => k3 u (by simp [hu])), List.length_cons, Nat.add_mul, Array.length_toList, k3 v (by simp)]
        omega
    split at h
    · obtain ⟨hs, hm⟩ := out_push (e := e) (cells := cells') (cap := len) hM h3 k2 k3 hsize (by omega) (by simp only [maxLen]; have := Nat.mul_le_mul_left len h3; omega) hflat
      exact ⟨_, _, _, h, hs, hm, V_new_ref (by simp [h6]) _⟩
    · obtain ⟨Γ', hs, hm, hS, hv, he⟩ := out_stable (e := e) (cells := cells') hM h3 k2 k3 k4
      refine ⟨_, _, _, h, hs, hm, ?_⟩
      simp only [V]
      refine ⟨some ⟨w.heap.size, 0, none⟩, len, by simp [h6], by simp [h6], by simp only [maxLen]; have := Nat.mul_le_mul_left len h3; omega, ⟨by simp, fun hq => by omega⟩, fun _ => ⟨w.heap.size, 0, vs, rfl, hS, hv, he⟩⟩

/-! ### append -/
/-- the elements that a slice gives -/
def aElems (σ : St) (x : AV) (sz : Nat) (K : List AV → Prop) : Prop :=
  match x with
  | .lst _ s xs => (s = sz ∨ xs = []) ∧ K xs
  | .ref o g off len => ∃ ob, σ.objs o = some ob ∧ ob.gen = g ∧ ob.sz = sz ∧ K ((ob.els.drop off).take len)
  | _ => False
theorem aElems_sound (hM : Models Γ σ w) {x : AV} {sz : Nat} {K : List AV → Prop} (h : aElems σ x sz K) {u : Value} (hu : V Γ σ w x u) :
    ∃ a c xs vs, u = .slice a xs.length c ∧ K xs ∧ VL Γ σ w xs vs ∧ (xs ≠ [] → ∃ g off, a = some ⟨g, off, none⟩ ∧ EAt w g off sz vs) := by
  cases x <;> simp only [aElems] at h
  case lst b s xs =>
    obtain ⟨h1, hK⟩ := h
    simp only [V] at hu
    obtain ⟨a, cap, rfl, _, _, _, e4⟩ := hu
    by_cases hx : xs = []
    · subst hx
      exact ⟨a, cap, [], [], rfl, hK, by simp [VL], fun h => absurd rfl h⟩
    · obtain ⟨g, off, vs, rfl, _, e5, e6⟩ := e4 hx
      rcases h1 with rfl | h1
      · exact ⟨_, cap, xs, vs, rfl, hK, e5, fun _ => ⟨g, off, rfl, e6⟩⟩
      · exact absurd h1 hx
  case ref o g off len =>
    obtain ⟨ob, h1, h2, h3, hK⟩ := h
    simp only [V] at hu
    obtain ⟨⟨a, c, rfl⟩, e1, e2⟩ := hu
    obtain ⟨_, e3⟩ := e2 ob h1
    obtain ⟨e4, e5⟩ := e3 h2
    have hlen : ((ob.els.drop off).take len).length = len := by rw [List.length_take, List.length_drop]; omega
    cases hr : Γ.row o with
    | none =>
      have hl := (hM.lives o ob h1).nil hr
      simp only [hr, Value.slice.injEq] at e5
      refine ⟨a, c, (ob.els.drop off).take len, [], by rw [hlen], hK, ?_, fun hx => absurd (by rw [hl]; simp) hx⟩
      rw [hl]; simp [VL]
    | some bc =>
      obtain ⟨blk, cap⟩ := bc
      simp only [hr, Value.slice.injEq] at e5
      obtain ⟨a', ⟨rfl, _, _⟩, m1, m2⟩ := e5
      obtain ⟨vs, d1, d2⟩ := (hM.lives o ob h1).vals blk cap hr
      refine ⟨_, c, _, (vs.drop off).take len, by rw [hlen], hK, (d1.drop _).take _, fun hx => ?_⟩
      have hpos : 0 < len := by
        refine Nat.pos_of_ne_zero fun hq => hx ?_
        subst hq; simp
      refine ⟨blk, off * ob.sz, by rw [m2 hpos], ?_⟩
      intro i v hi
      rw [List.getElem?_take] at hi
      split at hi
      · rw [List.getElem?_drop] at hi
        obtain ⟨f1, f2⟩ := d2 _ _ hi
        refine ⟨f1.trans h3, fun j u hu => ?_⟩
        have := f2 j u hu
        rw [Nat.zero_add, Nat.add_mul] at this
        rwa [← h3]
      · cases hi
  all_goals exact h.elim

theorem flat_get {vs : List Value} {sz : Nat} (hall : ∀ v ∈ vs, v.cells.size = sz) (hsz : 0 < sz) {k : Nat} {u : Value} (h : (vs.flatMap (·.cells.toList))[k]? = some u) :
    ∃ i j v, vs[i]? = some v ∧ v.cells[j]? = some u ∧ k = i * sz + j ∧ j < sz := by
  induction vs generalizing k with
  | nil => simp at h
  | cons v vs ih =>
    rw [List.flatMap_cons] at h
    have hv := hall v (by simp)
    by_cases hk : k < sz
    · rw [List.getElem?_append_left (by simp; omega)] at h
      exact ⟨0, k, v, by simp, by simpa using h, by simp, hk⟩
    · rw [List.getElem?_append_right (by simp; omega)] at h
      obtain ⟨i, j, v', h1, h2, h3, h4⟩ := ih (fun u hu => hall u (by simp [hu])) h
      refine ⟨i + 1, j, v', by simpa using h1, h2, ?_, h4⟩
      rw [Nat.add_mul, Nat.one_mul]
      simp [hv] at h3
      omega
theorem get_flat {vs : List Value} {sz : Nat} (hall : ∀ v ∈ vs, v.cells.size = sz) {i j : Nat} {v u : Value} (h : vs[i]? = some v) (hu : v.cells[j]? = some u) :
    (vs.flatMap (·.cells.toList))[i * sz + j]? = some u := by
  induction vs generalizing i with
  | nil => simp at h
  | cons a vs ih =>
    have ha := hall a (by simp)
    have hjs := (Array.getElem?_eq_some_iff.1 hu).1
    cases i with
    | zero =>
      simp at h
      subst h
      rw [List.flatMap_cons, List.getElem?_append_left (by simp; omega)]
      simpa using hu
    | succ i =>
      rw [List.flatMap_cons, List.getElem?_append_right (by simp [ha, Nat.add_mul]; omega)]
      have := ih (fun v hv => hall v (by simp [hv])) (by simpa using h)
      rw [← this]
      congr 1
      simp [ha, Nat.add_mul]
      omega
theorem flat_length {vs : List Value} {sz : Nat} (hall : ∀ v ∈ vs, v.cells.size = sz) : (vs.flatMap (·.cells.toList)).length = vs.length * sz := by
  induction vs with
  | nil => simp
  | cons v vs ih => rw [List.flatMap_cons, List.length_append, ih (fun u hu => hall u (by simp [hu])), List.length_cons, Nat.add_mul, Array.length_toList, hall v (by simp)]; omega
theorem EAt.flat {g off sz : Nat} {vs : List Value} (h : EAt w g off sz vs) (hsz : 0 < sz) : ∀ j u, (vs.flatMap (·.cells.toList))[j]? = some u → w.cell? ((⟨g, off, none⟩ : Addr).add j) = some u := fun k u hu => by
  have hall : ∀ v ∈ vs, v.cells.size = sz := fun v hv => by
    obtain ⟨i, hi⟩ := List.getElem?_of_mem hv
    exact (h i v hi).1
  obtain ⟨i, j, v, h1, h2, rfl, _⟩ := flat_get hall hsz hu
  rw [add_lit, ← Nat.add_assoc]
  exact (h i v h1).2 j u h2
theorem EAt.all {g off sz : Nat} {vs : List Value} (h : EAt w g off sz vs) : ∀ v ∈ vs, v.cells.size = sz := fun v hv => by
  obtain ⟨i, hi⟩ := List.getElem?_of_mem hv
  exact (h i v hi).1
theorem vals_oneCell : ∀ {xs : List AV} {vs : List Value}, xs.all valOk = true → VL Γ σ w xs vs → ∀ u ∈ vs.flatMap (·.cells.toList), u.oneCell' = true
  | [], vs, _, h, u, hu => by simp only [VL] at h; subst h; simp at hu
  | x :: xs, vs, hx, h, u, hu => by
    simp only [VL] at h
    obtain ⟨v, us, rfl, h1, h2⟩ := h
    simp only [List.all_cons, Bool.and_eq_true] at hx
    rw [List.flatMap_cons, List.mem_append] at hu
    rcases hu with hu | hu
    · exact (val_cells hx.1 h1).2 u hu
    · exact vals_oneCell hx.2 h2 u hu
end
end Go.Ab
