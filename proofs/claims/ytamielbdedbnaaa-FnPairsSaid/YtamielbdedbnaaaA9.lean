/- Ab, part 9: append. -/
import Derived.Test.YtamielbdedbnaaaA8
set_option linter.unusedSimpArgs false
set_option linter.unusedVariables false
namespace Go.Ab
open Go.RowKit
section
variable {Γ Γ' : Ctx} {σ σ' : St} {w w' : World} {P : Program} {T : Tab}

def aAppend (T : Tab) (t t2 : Nat) (s x : AV) (σ : St) (K : AV → St → Prop) : Prop :=
  t2 = t ∧ T.sl t fun e te => 0 < te.size ∧ te.zero.cells.size = te.size ∧ aElems σ x te.size fun news => news.all valOk = true ∧
    match s with
    | .lst _ 0 [] => news.length * te.bytes ≤ 140737488355328 ∧ news.length ≤ 9223372036854775807 ∧ K (.ref σ.next 0 0 news.length) (σ.push ⟨e, te.size, 0, news⟩)
    | .ref o g 0 len => ∃ ob, σ.objs o = some ob ∧ ob.gen = g ∧ ob.ty = e ∧ ob.sz = te.size ∧ (len + news.length) * te.bytes ≤ 140737488355328 ∧ len + news.length ≤ 9223372036854775807 ∧
        K (.ref o (g + 1) 0 (len + news.length)) (σ.set o ⟨ob.ty, ob.sz, g + 1, ob.els.take len ++ news⟩)
    | _ => False

theorem grownBy_refl (w : World) (r : Option Nat) : w.grownBy w r := ⟨rfl, rfl, rfl, Nat.le_refl _, fun _ _ _ => rfl⟩
theorem grownBy_drew_alloc (w : World) (o : Obj) (r : Option Nat) : w.grownBy (w.drew.alloc o) r := ⟨rfl, rfl, rfl, by simp, fun k hk _ => Below.heap_alloc w.drew _ k hk⟩

/-- elements lie at the head of a row -/
theorem EAt_head {g sz : Nat} {cells : Array Value} {ty : TypeId} {vs : List Value} (hg : w.heap[g]? = some (.cells cells ty (0, 0))) (hall : ∀ v ∈ vs, v.cells.size = sz)
    (hc : ∀ (k : Nat) (u : Value), (vs.flatMap (·.cells.toList))[k]? = some u → cells[k]? = some u) : EAt w g 0 sz vs := fun i v hi =>
  ⟨hall v (List.mem_of_getElem? hi), fun j u hu => by
    rw [cell_of_row _ _ _ cells ty (0, 0) hg, Nat.zero_add]
    exact hc _ _ (get_flat hall hi hu)⟩

theorem all_append {vs us : List Value} {sz : Nat} (h : ∀ v ∈ vs, v.cells.size = sz) (k : ∀ v ∈ us, v.cells.size = sz) : ∀ v ∈ vs ++ us, v.cells.size = sz := fun v hv => by
  rcases List.mem_append.1 hv with hv | hv
  · exact h v hv
  · exact k v hv

theorem zeroCells_size (z : Array Value) (n : Nat) : (Builtin.zeroCells z n).size = n * z.size := by simp [Builtin.zeroCells]

/-- the cells of a grown row -/
theorem grown_size {te : TI} {vs : List Value} {cap : Nat} (hz : te.zero.cells.size = te.size) (hall : ∀ v ∈ vs, v.cells.size = te.size) (hle : vs.length ≤ cap) :
    ((vs.flatMap (·.cells.toList)).toArray ++ Builtin.zeroCells te.zero.cells (cap - vs.length)).size = cap * te.size := by
  rw [Array.size_append, List.size_toArray, flat_length hall, zeroCells_size, hz, ← Nat.add_mul]
  congr 1
  omega
theorem grown_get {te : TI} {vs : List Value} {cap : Nat} (hall : ∀ v ∈ vs, v.cells.size = te.size) : ∀ (i : Nat) (v : Value), vs[i]? = some v → ∀ (j : Nat) (u : Value), v.cells[j]? = some u →
    ((vs.flatMap (·.cells.toList)).toArray ++ Builtin.zeroCells te.zero.cells (cap - vs.length))[i * te.size + j]? = some u := fun i v hv j u hu => by
  have := get_flat hall hv hu
  rw [Array.getElem?_append_left (by have := (List.getElem?_eq_some_iff.1 this).1; simpa using this)]
  simpa using this

theorem aAppend_sound (hT : TabOk P T) (hM : Models Γ σ w) {t t2 ty : Nat} {s x : AV} {K : AV → St → Prop} (h : aAppend T t t2 s x σ K) {u z : Value} (hu : V Γ σ w s u) (hz : V Γ σ w x z) :
    ∃ v w', (Builtin.append_ #[t, t2] ty #[u, z]).run P w = .ok v w' ∧ Out Γ σ w K v w' := by
  obtain ⟨htt, hq1⟩ := h
  subst htt
  obtain ⟨e, te, ht, hte, hsz, hzs, hq2⟩ := Tab.sl_out hT hq1
  obtain ⟨a, c, news, nvs, rfl, ⟨hok, hq3⟩, hnv, hna⟩ := aElems_sound hM hq2 hz
  clear hq1 hq2
  obtain ⟨i, hi, hi1, hi2, hi3⟩ := hte.info
  have hnl := hnv.length
  have h1 := vals_oneCell hok hnv
  have hM' : Models Γ σ w.drew := models_drew hM
  have hs' : Step Γ σ w Γ σ w.drew := step_drew Γ σ w
  split at hq3
  · -- nil
    obtain ⟨hb, hmax, h⟩ := hq3
    simp only [V] at hu
    obtain ⟨a0, cap0, rfl, _, _, ⟨hcap0, ha0⟩, _⟩ := hu
    obtain rfl : a0 = none := ha0 trivial
    obtain rfl : cap0 = 0 := hcap0 rfl
    by_cases hn : news = []
    · subst hn
      refine ⟨.slice none 0 0, w, ?_, ?_⟩
      · cases a <;> simp [Builtin.append_, run_underlying ht, sizeOf, typeInfo, hi, Builtin.lenOf, Builtin.firstCells, loadCells, loadCellsFrom]
      · have hg := grownBy_refl w none
        have hr : ∀ g c, (none : Option (Nat × Nat)) = some (g, c) → w.heap.size ≤ g := fun g c h => by cases h
        refine ⟨_, _, _, h, step_push hM _ none hg hr, models_push hM _ none hg hr ⟨hsz, fun _ => rfl, (fun g c h => by cases h), (fun g c h => by cases h)⟩, ?_⟩
        simp only [V]
        refine ⟨⟨_, _, rfl⟩, by simp [St.push], fun ob hob => ?_⟩
        rw [St.push_same] at hob
        cases hob
        exact ⟨Nat.le_refl _, fun _ => ⟨by simp, by simp [Ctx.setRow]⟩⟩
    · obtain ⟨g, off, rfl, hE⟩ := hna hn
      have hall := hE.all
      have hpos : 0 < news.length := List.length_pos_iff.2 hn
      have hrun := run_append_nil (P := P) w t2 ty e i te.zero ht hi hi3 ⟨g, off, none⟩ news.length c (nvs.flatMap (·.cells.toList)) (by rw [flat_length hall, hnl, hi1]) (hE.flat hsz) hpos (by omega) (by rw [hi2]; omega)
      refine ⟨_, _, hrun, ?_⟩
      have hcap : news.length ≤ grownCap w news.length 0 e := grownCap_ge _ _ _ _
      have hcm := grownCap_le_maxLen w news.length 0 e (by simp only [maxLen]; omega)
      rw [← hnl]
      obtain ⟨hs, hm⟩ := out_push (e := e) hM' hsz (VL_step hM hs' _ _ hnv) hall (grown_size (cap := grownCap w nvs.length 0 e) hzs hall (by rw [hnl]; exact hcap)) (by rw [hnl]; exact hcap) (by rw [hnl]; exact hcm) (grown_get hall)
      rw [← hnl] at h
      exact ⟨_, _, _, h, hs'.trans hs, hm, V_new_ref hnl _⟩
  · -- an object
    rename_i o g len
    obtain ⟨ob, ho, hgen, hty, hosz, hb, hmax, h⟩ := hq3
    simp only [V] at hu
    obtain ⟨⟨au, cu, rfl⟩, hlt, hu⟩ := hu
    obtain ⟨_, hu⟩ := hu ob ho
    obtain ⟨hlen, hu⟩ := hu hgen
    have hl := hM.lives o ob ho
    have hgen' : ob.gen ≤ (⟨ob.ty, ob.sz, g + 1, ob.els.take len ++ news⟩ : AObj).gen := by simp; omega
    have hne : ¬ (⟨ob.ty, ob.sz, g + 1, ob.els.take len ++ news⟩ : AObj).gen = ob.gen := fun hq => by simp at hq; omega
    have hlen' : (ob.els.take len ++ news).length = len + news.length := by rw [List.length_append, List.length_take]; omega
    have hVref : ∀ {Γ' : Ctx} {w' : World} {v : Value} (blk cap : Nat), Γ'.row o = some (blk, cap) → v = .slice (some ⟨blk, 0, none⟩) (len + news.length) cap →
        V Γ' (σ.set o ⟨ob.ty, ob.sz, g + 1, ob.els.take len ++ news⟩) w' (.ref o (g + 1) 0 (len + news.length)) v := by
      intro Γ' w' v blk cap hr hv
      subst hv
      simp only [V]
      refine ⟨⟨_, _, rfl⟩, hlt, fun ob' hob' => ?_⟩
      rw [St.set_same] at hob'
      cases hob'
      refine ⟨Nat.le_refl _, fun _ => ⟨by rw [hlen']; omega, ?_⟩⟩
      rw [hr]
      exact ⟨_, rfl, fun _ => rfl, fun _ => by simp⟩
    cases hr : Γ.row o with
    | none =>
      simp only [hr, Value.slice.injEq] at hu
      obtain ⟨rfl, rfl, rfl⟩ := hu
      by_cases hn : news = []
      · subst hn
        refine ⟨.slice none 0 0, w, ?_, ?_⟩
        · cases a <;> simp [Builtin.append_, run_underlying ht, sizeOf, typeInfo, hi, Builtin.lenOf, Builtin.firstCells, loadCells, loadCellsFrom]
        · have hg := grownBy_refl w ((Γ.row o).map (·.1))
          have hr' : ∀ g c, (none : Option (Nat × Nat)) = some (g, c) → w.heap.size ≤ g ∨ ∃ c', Γ.row o = some (g, c') := fun g c h => by cases h
          refine ⟨_, _, _, h, step_set hM ho none hg hr' hgen' (fun hq => absurd hq hne), models_set hM ho none hg hr' hgen' (fun hq => absurd hq hne) ⟨hl.sz, fun _ => by simp, (fun g c h => by cases h), (fun g c h => by cases h)⟩, ?_⟩
          simp only [V]
          refine ⟨⟨_, _, rfl⟩, hlt, fun ob' hob' => ?_⟩
          rw [St.set_same] at hob'
          cases hob'
          exact ⟨Nat.le_refl _, fun _ => ⟨by simp, by simp [Ctx.setRow]⟩⟩
      · obtain ⟨g', off, rfl, hE⟩ := hna hn
        have hall := hE.all
        have hpos : 0 < news.length := List.length_pos_iff.2 hn
        have hrun := run_append_nil (P := P) w t2 ty e i te.zero ht hi hi3 ⟨g', off, none⟩ news.length c (nvs.flatMap (·.cells.toList)) (by rw [flat_length hall, hnl, hi1]) (hE.flat hsz) hpos (by omega) (by rw [hi2]; simp at hb; omega)
        refine ⟨_, _, hrun, ?_⟩
        have hcap : news.length ≤ grownCap w news.length 0 e := grownCap_ge _ _ _ _
        have hcm := grownCap_le_maxLen w news.length 0 e (by simp only [maxLen]; omega)
        have hg := grownBy_drew_alloc w (.cells ((nvs.flatMap (·.cells.toList)).toArray ++ Builtin.zeroCells te.zero.cells (grownCap w news.length 0 e - news.length)) e) ((Γ.row o).map (·.1))
        have hr' : ∀ g c, (some (w.heap.size, grownCap w news.length 0 e) : Option (Nat × Nat)) = some (g, c) → w.heap.size ≤ g ∨ ∃ c', Γ.row o = some (g, c') := fun g c h => by cases h; exact .inl (Nat.le_refl _)
        have hs := step_set hM ho _ hg hr' hgen' (fun hq => absurd hq hne)
        have hels := hl.nil hr
        refine ⟨_, _, _, h, hs, models_set hM ho _ hg hr' hgen' (fun hq => absurd hq hne) ⟨hl.sz, (fun h => by cases h), (fun g c h => ?_), (fun g c h => ?_)⟩, hVref _ _ (if_pos rfl) (by simp)⟩
        · cases h
          refine ⟨⟨_, by rw [hty]; exact heap_alloc_new w.drew _, ?_⟩, by rw [hlen']; omega, hcm, fun hB => absurd (hM.size _ hB) (Nat.lt_irrefl _)⟩
          rw [hosz, ← hnl]
          exact grown_size hzs hall (by rw [hnl]; exact hcap)
        · cases h
          refine ⟨nvs, ?_, ?_⟩
          · have : (⟨ob.ty, ob.sz, g + 1, ob.els.take 0 ++ news⟩ : AObj).els = news := by simp
            rw [this]
            exact VL_step hM hs _ _ hnv
          · refine EAt_head (ty := e) (cells := (nvs.flatMap (·.cells.toList)).toArray ++ Builtin.zeroCells te.zero.cells (grownCap w news.length 0 e - news.length)) (heap_alloc_new w.drew _) (by rw [hosz]; exact hall) fun k u hk => ?_
            rw [Array.getElem?_append_left (by have := (List.getElem?_eq_some_iff.1 hk).1; simpa using this)]
            simpa using hk
    | some bc =>
      obtain ⟨blk, cap⟩ := bc
      simp only [hr, Value.slice.injEq] at hu
      obtain ⟨a', ⟨rfl, _, rfl⟩, hu2, _⟩ := hu
      obtain rfl := hu2 trivial
      obtain ⟨⟨cur, c1, c2⟩, c3, c4, c5⟩ := hl.cells blk cu hr
      obtain ⟨vs, d1, d2⟩ := hl.vals blk cu hr
      have dall := d2.all
      have dl := d1.length
      have dall' : ∀ v ∈ vs.take len, v.cells.size = ob.sz := fun v hv => dall v (List.mem_of_mem_take hv)
      have dtl : (vs.take len).length = len := by rw [List.length_take]; omega
      have hd1 : VL Γ σ w (ob.els.take len) (vs.take len) := d1.take _
      by_cases hn : news = []
      · subst hn
        refine ⟨.slice (some ⟨blk, 0, none⟩) len cu, w, ?_, ?_⟩
        · have : len ≤ cu := by omega
          cases a <;> simp [Builtin.append_, run_underlying ht, sizeOf, typeInfo, hi, Builtin.lenOf, Builtin.firstCells, loadCells, loadCellsFrom, this, storeCells]
        · have hg := grownBy_refl w ((Γ.row o).map (·.1))
          have hr' : ∀ g c, Γ.row o = some (g, c) → w.heap.size ≤ g ∨ ∃ c', Γ.row o = some (g, c') := fun g c h => .inr ⟨c, h⟩
          have hs := step_set hM ho (Γ.row o) hg hr' hgen' (fun hq => absurd hq hne)
          refine ⟨_, _, _, h, hs, models_set hM ho (Γ.row o) hg hr' hgen' (fun hq => absurd hq hne) ⟨hl.sz, (fun h => by rw [hr] at h; cases h), (fun g c h => ?_), (fun g c h => ?_)⟩, ?_⟩
          · rw [hr] at h
            cases h
            exact ⟨⟨cur, c1, c2⟩, by rw [hlen']; simp; omega, c4, c5⟩
          · rw [hr] at h
            cases h
            refine ⟨vs.take len, ?_, ?_⟩
            · have : (⟨ob.ty, ob.sz, g + 1, ob.els.take len ++ []⟩ : AObj).els = ob.els.take len := by simp
              rw [this]
              exact VL_step hM hs _ _ hd1
            · intro i v hi
              rw [List.getElem?_take] at hi
              split at hi
              · exact d2 i v hi
              · cases hi
          · exact hVref blk cu (by simp [Ctx.setRow, hr]) (by simp)
      · obtain ⟨g', off, rfl, hE⟩ := hna hn
        have hall := hE.all
        have hall2 : ∀ v ∈ vs.take len ++ nvs, v.cells.size = te.size := all_append (by rw [← hosz]; exact dall') hall
        have hflat : (nvs.flatMap (·.cells.toList)).length = news.length * te.size := by rw [flat_length hall, hnl]
        have hVL2 : ∀ {Γ' σ' w'}, Step Γ σ w Γ' σ' w' → VL Γ' σ' w' (ob.els.take len ++ news) (vs.take len ++ nvs) := fun hs => (VL_step hM hs _ _ hd1).append (VL_step hM hs _ _ hnv)
        by_cases hroom : len + news.length ≤ cu
        · have hmul := Nat.mul_le_mul_right te.size hroom
          rw [Nat.add_mul] at hmul
          have hrun := run_append_room (P := P) w t2 ty e i ht hi blk len cu cur (by rw [c1, hty]) ⟨g', off, none⟩ news.length c (nvs.flatMap (·.cells.toList)) (by rw [hflat, hi1]) (hE.flat hsz) h1 hroom (by rw [hflat, hi1, c2, hosz]; exact hmul)
          refine ⟨_, _, hrun, ?_⟩
          have hg : w.grownBy (w.setRow blk (cur.toList.take (len * i.size) ++ nvs.flatMap (·.cells.toList) ++ cur.toList.drop (len * i.size + (nvs.flatMap (·.cells.toList)).length)).toArray) ((Γ.row o).map (·.1)) := by
            rw [hr]; exact grownBy_setRow _ _ _
          have hr' : ∀ g c, Γ.row o = some (g, c) → w.heap.size ≤ g ∨ ∃ c', Γ.row o = some (g, c') := fun g c h => .inr ⟨c, h⟩
          have hs := step_set hM ho (Γ.row o) hg hr' hgen' (fun hq => absurd hq hne)
          refine ⟨_, _, _, h, hs, models_set hM ho (Γ.row o) hg hr' hgen' (fun hq => absurd hq hne) ⟨hl.sz, (fun h => by rw [hr] at h; cases h), (fun g c h => ?_), (fun g c h => ?_)⟩, ?_⟩
          · rw [hr] at h
            cases h
            refine ⟨⟨_, setRow_heap w blk cur _ ob.ty _ c1, ?_⟩, by rw [hlen']; exact hroom, c4, c5⟩
            have q1 := Array.length_toList (xs := cur)
            simp only [List.size_toArray, List.length_append, List.length_take, List.length_drop, hflat, hi1]
            rw [q1, c2, hosz]
            omega
          · rw [hr] at h
            cases h
            refine ⟨vs.take len ++ nvs, hVL2 hs, ?_⟩
            refine EAt_head (setRow_heap w blk cur _ ob.ty _ c1) (by rw [hosz]; exact hall2) fun k u hk => ?_
            have q1 := Array.length_toList (xs := cur)
            rw [List.getElem?_toArray, splice_get _ _ _ _ (by rw [hflat, hi1, q1, c2, hosz]; exact hmul), hi1]
            rw [List.flatMap_append] at hk
            have hfl : ((vs.take len).flatMap (·.cells.toList)).length = len * te.size := by rw [flat_length (sz := te.size) (by rw [← hosz]; exact dall'), dtl]
            by_cases hk1 : k < len * te.size
            · rw [if_pos hk1]
              rw [List.getElem?_append_left (by omega)] at hk
              obtain ⟨i', j', v', m1, m2, rfl, m4⟩ := flat_get (by rw [← hosz]; exact dall') hsz hk
              rw [List.getElem?_take] at m1
              split at m1
              · have := (d2 _ _ m1).2 _ _ m2
                rw [cell_of_row w blk _ cur ob.ty (0, 0) c1, Nat.zero_add, hosz] at this
                simpa using this
              · cases m1
            · rw [if_neg hk1]
              rw [List.getElem?_append_right (by omega), hfl] at hk
              have hk2 := (List.getElem?_eq_some_iff.1 hk).1
              rw [if_pos (by omega)]
              exact hk
          · exact hVref blk cu (by simp [Ctx.setRow, hr]) (by simp)
        · have holds : ∀ j v, ((vs.take len).flatMap (·.cells.toList))[j]? = some v → w.cell? ((⟨blk, 0, none⟩ : Addr).add j) = some v := by
            have hE2 : EAt w blk 0 te.size (vs.take len) := fun i v hi => by
              rw [List.getElem?_take] at hi
              split at hi
              · rw [← hosz]; exact d2 i v hi
              · cases hi
            exact hE2.flat hsz
          have hrun := run_append_grow (P := P) w t2 ty e i te.zero ht hi hi3 ⟨blk, 0, none⟩ len cu ((vs.take len).flatMap (·.cells.toList)) (by rw [flat_length (sz := te.size) (by rw [← hosz]; exact dall'), dtl, hi1]) holds
            ⟨g', off, none⟩ news.length c (nvs.flatMap (·.cells.toList)) (by rw [hflat, hi1]) (hE.flat hsz) (by omega) (by omega) (by rw [hi2]; exact growslice_fits (by omega) hb)
          refine ⟨_, _, hrun, ?_⟩
          have hcap : len + news.length ≤ grownCap w (len + news.length) cu e := grownCap_ge _ _ _ _
          have hcm := grownCap_le_maxLen w (len + news.length) cu e (by simp only [maxLen]; omega)
          have hl2 : (vs.take len ++ nvs).length = len + news.length := by rw [List.length_append, dtl, hnl]
          have harr : ((vs.take len).flatMap (·.cells.toList)).toArray ++ (nvs.flatMap (·.cells.toList)).toArray = ((vs.take len ++ nvs).flatMap (·.cells.toList)).toArray := by
            rw [List.flatMap_append]; simp
          rw [harr]
          have hg := grownBy_drew_alloc w (.cells (((vs.take len ++ nvs).flatMap (·.cells.toList)).toArray ++ Builtin.zeroCells te.zero.cells (grownCap w (len + news.length) cu e - (len + news.length))) e) ((Γ.row o).map (·.1))
          have hr' : ∀ g c, (some (w.heap.size, grownCap w (len + news.length) cu e) : Option (Nat × Nat)) = some (g, c) → w.heap.size ≤ g ∨ ∃ c', Γ.row o = some (g, c') := fun g c h => by cases h; exact .inl (Nat.le_refl _)
          have hs := step_set hM ho _ hg hr' hgen' (fun hq => absurd hq hne)
          refine ⟨_, _, _, h, hs, models_set hM ho _ hg hr' hgen' (fun hq => absurd hq hne) ⟨hl.sz, (fun h => by cases h), (fun g c h => ?_), (fun g c h => ?_)⟩, hVref _ _ (if_pos rfl) rfl⟩
          · cases h
            refine ⟨⟨_, by rw [hty]; exact heap_alloc_new w.drew _, ?_⟩, by rw [hlen']; exact hcap, hcm, fun hB => absurd (hM.size _ hB) (Nat.lt_irrefl _)⟩
            rw [hosz, ← hl2]
            exact grown_size hzs hall2 (by rw [hl2]; exact hcap)
          · cases h
            refine ⟨vs.take len ++ nvs, hVL2 hs, ?_⟩
            refine EAt_head (ty := e) (heap_alloc_new w.drew _) (by rw [hosz]; exact hall2) fun k u hk => ?_
            rw [Array.getElem?_append_left (by have := (List.getElem?_eq_some_iff.1 hk).1; simpa using this)]
            simpa using hk
  · exact hq3.elim
end
end Go.Ab
