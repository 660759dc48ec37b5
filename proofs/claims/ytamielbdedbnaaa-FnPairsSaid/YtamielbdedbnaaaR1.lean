/- Ab: from a contract to a given row: arguments read as data, a result that is true, memory left as it was. -/
import Derived.Test.YtamielbdedbnaaaA23
import Derived.ChangeSame
import Derived.JoinedOf
import Derived.JoinedAt
import Derived.RowKit3
import Derived.ReadAgain
import Derived.ChangeSlices
import Derived.Handed
set_option linter.unusedSimpArgs false
set_option linter.unusedVariables false
namespace Go.Ab
open Go.ChangeShapes Go.WideShapes Go.ChangeAt Go.RowKit
/-- a caller that has no objects of its own, and lends all that lies -/
def lent (W : World) : Ctx := { S := fun _ => False, B := fun g => g < W.heap.size, row := fun _ => none }
theorem keptBut_all {w w' : World} {may : MemPlace → Prop} (h1 : w'.os = w.os) (h2 : w'.output = w.output) (h3 : ∀ g, g < w.heap.size → w'.heap[g]? = w.heap[g]?) : w.keptBut w' may := by
  refine ⟨h1, h2, fun i hi => ?_⟩
  rw [h3 i hi]
  split <;> simp_all
section
variable {H : Type} {enc : TypeId × Value → H} {P : Program} {w w' : World}
theorem trodAll_over {base : Nat} {sp : Nat → Bool} {hd : Bool} : ∀ {ts : List TypeId} {vs : List Value} {ds : List (DataW H)} {ps : List MemPlace}, DataW.TrodAll enc P w base sp hd ts vs ds ps → (∀ p ∈ ps, w.sameAt w' p) → DataW.TrodAll enc P w' base sp hd ts vs ds ps
  | [], [], [], _, h, _ => h
  | _ :: _, _ :: _, _ :: _, _, ⟨p, q, ⟨n, h1⟩, h2, e⟩, hs =>
    ⟨p, q, ⟨n, DataW.trod_carry n _ _ _ h1 (fun x hx => hs x (by rw [e]; exact List.mem_append_left _ hx))⟩, trodAll_over h2 (fun x hx => hs x (by rw [e]; exact List.mem_append_right _ hx)), e⟩
theorem sameAt_all (h3 : ∀ g, g < w.heap.size → w'.heap[g]? = w.heap[g]?) {p : MemPlace} (hp : p.block < w.heap.size) : w.sameAt w' p := by
  cases p with
  | cell b off => exact cell_keep (h3 b hp)
  | map b => exact h3 b hp
/-- The law's contract, out of one over abstract values. -/
theorem law_calls {T : TypeId → Prop} {f : FuncId} {fn : Func} {s : ChangeSpec} {W : World} {args : Array Value} {ds gs : List (DataW H)} {before : List MemPlace} {tb : TypeId} {xs : List AV}
    (K : Kids P T) (hz : ∀ t e, T t → P.underlying t = some (.slice e) → 0 < P.cellsOf e) (hT : ∀ t ∈ fn.params.toList, T t)
    (hsv : s.vars = []) (hrt : fn.resultTypes = #[tb]) (htb : P.underlying tb = some .bool)
    (hW : DataW.Whole enc P fn.params.toList s.vars false W args.toList ds gs before) (hspec : s.fn H ds = { results := [.lit (.bool true)], args := ds })
    (hv : VL (lent W) (St.emp 0) W xs args.toList) (hc : ACall P f xs (St.emp 0) (fun r _ => r = .sc (.bool true))) :
    Calls P f args W fun e W' => ∃ v, e = .returned v ∧ s.post enc P fn false true false false W args v W' := by
  have hcall := hc.2 (lent W) W args.toList (emp_models (fun g hg => hg.elim) (fun g hg => hg)) hv
  rw [Array.toArray_toList] at hcall
  refine hcall.mono ?_
  rintro e W' ⟨r, v, Γ', σ', rfl, rfl, hs, hM, hV⟩
  simp only [V] at hV
  subst hV
  have hkeep : ∀ g, g < W.heap.size → W'.heap[g]? = W.heap[g]? := fun g hg => hs.keep g hg emp_live
  obtain ⟨p, q, hA, hVs, rfl, hfz, hnd⟩ := id hW
  have hgs : gs = [] ∧ q = [] := by rw [hsv] at hVs; exact trodVars_none hVs
  obtain ⟨rfl, rfl⟩ := hgs
  have hlt := hW.lt
  have hp : ∀ x ∈ p, x.block < W.heap.size := fun x hx => hlt x (by simpa using hx)
  refine ⟨_, rfl, ds, [], p ++ [], [], p, [], hW, ?_, ?_, ?_, keptBut_all hs.os hs.output hkeep, fun h => by cases h⟩
  · rw [List.append_nil, hspec, hrt]
    exact trodAll_mk1 (shut_bool htb true)
  · rw [List.append_nil, hspec]
    have h1 := DataW.TrodAll.respare (spare' := fun b => decide (b < W.heap.size)) K hz hT hA (fun x hx => by simpa using hp x hx)
    exact trodAll_over h1 (fun x hx => sameAt_all hkeep (hp x hx))
  · rw [List.append_nil, hspec, hsv]; rfl
/-- bytes that came in -/
theorem V_bytes {t e : TypeId} {v : Value} {d : DataW H} {ps : List MemPlace} (ht : P.underlying t = some (.slice e)) (he : P.underlying e = some (.int .u8)) (hc : P.cellsOf e = 1)
    (hok : ∃ a len cap, v = .slice a len cap) (h : DataW.Trod enc P w 0 (fun _ => true) true t v d ps) (hlt : ∀ p ∈ ps, p.block < w.heap.size) : ∃ code : List UInt8, V (lent w) (St.emp 0) w (.lst true 1 (code.map byteAV)) v := by
  obtain ⟨a0, len0, cap0, rfl⟩ := hok
  obtain ⟨fuel, hf⟩ := h
  rcases open_ints ht he hc hf with ⟨hcs, hx⟩ | ⟨a, len, cap, zs, hcs, hb, hl, hm, hz, hx, hcell, hwz⟩
  · simp [Value.cells] at hcs
    obtain ⟨rfl, rfl, rfl⟩ := hcs
    refine ⟨[], ?_⟩
    simp only [V]
    exact ⟨none, 0, rfl, Nat.le_refl _, by simp [maxLen], ⟨fun _ => rfl, fun _ => rfl⟩, fun h => absurd rfl h⟩
  · simp [Value.cells] at hcs
    obtain ⟨rfl, rfl, rfl⟩ := hcs
    simp only [Prod.mk.injEq] at hx
    obtain ⟨rfl, rfl⟩ := hx
    simp only [if_true] at hz
    have hbyte : ∀ n ∈ zs, 0 ≤ n ∧ n < 256 := fun n hn => by
      have := hwz n hn
      have h1 : IntKind.u8.min = 0 := rfl
      have h2 : IntKind.u8.max = 255 := rfl
      simp only [Lit.wf, Bool.and_eq_true, decide_eq_true_eq] at this
      omega
    have hmap : ((zs.take len0).map fun n => UInt8.ofNat n.toNat).map byteAV = (zs.take len0).map fun n => .sc (.int .u8 n) := by
      rw [List.map_map]
      refine List.map_congr_left fun n hn => ?_
      have := hbyte n (List.mem_of_mem_take hn)
      simp only [Function.comp_apply, byteAV]
      rw [UInt8.toNat_ofNat']
      have : n.toNat % 2 ^ 8 = n.toNat := by omega
      rw [this, Int.toNat_of_nonneg (by omega)]
    have htl : (zs.take len0).length = len0 := by rw [List.length_take]; omega
    refine ⟨(zs.take len0).map fun n => UInt8.ofNat n.toNat, ?_⟩
    rw [hmap]
    simp only [V]
    refine ⟨some a, cap0, by rw [List.length_map, htl], by rw [List.length_map, htl]; exact hl, hm, ⟨by simp, by simp⟩, fun hne => ?_⟩
    have hlen0 : 0 < len0 := by
      rcases Nat.eq_zero_or_pos len0 with h0 | h0
      · rw [h0] at hne; simp at hne
      · exact h0
    obtain ⟨b, off, spot⟩ := a
    have hspot : spot = none := by simpa [Addr.add] using World.cell?_spot (hcell 0 (by omega))
    subst hspot
    refine ⟨b, off, (zs.take len0).map fun n => .int .u8 n, rfl, ?_, ?_, ?_⟩
    · show b < w.heap.size
      refine hlt (.cell b off) ?_
      exact MemPlace.mem_row.2 ⟨0, by omega, rfl⟩
    · generalize zs.take len0 = l
      induction l with
      | nil => simp [VL]
      | cons n l ih => simp only [List.map_cons, VL]; exact ⟨_, _, rfl, by simp only [V], ih⟩
    · intro i u hu
      rw [List.getElem?_map] at hu
      obtain ⟨n, hn, rfl⟩ := Option.map_eq_some_iff.1 hu
      rw [List.getElem?_take] at hn
      split at hn
      · rename_i hi
        refine ⟨rfl, fun j u hu => ?_⟩
        have hj : j = 0 := by
          have := (Array.getElem?_eq_some_iff.1 hu).1
          simp [Value.cells] at this; exact this
        subst hj
        simp [Value.cells] at hu
        subst hu
        have hc2 := hcell i (by omega)
        have : zs.getD i 0 = n := by simp [hn]
        rw [this] at hc2
        simpa [Addr.add_lit] using hc2
      · cases hn
end
end Go.Ab
