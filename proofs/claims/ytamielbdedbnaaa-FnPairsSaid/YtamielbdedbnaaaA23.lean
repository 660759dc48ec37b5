/- Ab, part 23: the objects that a function owns, told in a list; what each operation makes of the list. -/
import Derived.Test.YtamielbdedbnaaaA22
set_option linter.unusedSimpArgs false
set_option linter.unusedVariables false
namespace Go.Ab
open Go.RowKit
/-- ob: an object; sl: a slice from an object's head, or nil where it has no elements; many: objects in a row. -/
inductive Ent where
  | ob (o : Nat) (a : AObj)
  | sl (x : AV) (ty sz : Nat) (xs : List AV)
  | many (rs : List (Nat × AObj))
def slId : AV → List Nat
  | .ref o _ _ _ => [o]
  | _ => []
def Ent.ids : Ent → List Nat
  | .ob o _ => [o]
  | .sl x _ _ _ => slId x
  | .many rs => rs.map (·.1)
def Ent.holds (τ : St) : Ent → Prop
  | .ob o a => τ.objs o = some a ∧ o < τ.next
  | .sl x ty sz xs => (xs = [] ∧ x = .lst false 0 []) ∨ ∃ o gen els, x = .ref o gen 0 xs.length ∧ τ.objs o = some ⟨ty, sz, gen, els⟩ ∧ els.take xs.length = xs ∧ o < τ.next
  | .many rs => ∀ r ∈ rs, τ.objs r.1 = some r.2 ∧ r.1 < τ.next
def idsOf (ls : List Ent) : List Nat := ls.flatMap Ent.ids
/-- X: which objects of before may have changed -/
structure Own (σ0 : St) (X : List Nat) (ls : List Ent) (τ : St) : Prop where
  nx : σ0.next ≤ τ.next
  fr : ∀ k, k < σ0.next → k ∉ X → τ.objs k = σ0.objs k
  hx : ∀ k ∈ idsOf ls, k < σ0.next → k ∈ X
  hd : ∀ e ∈ ls, e.holds τ
  nd : (idsOf ls).Nodup
section
variable {σ0 τ τ' : St} {X : List Nat} {ls : List Ent} {e e' : Ent} {i : Nat}
theorem Ent.lt (h : e.holds τ) : ∀ k ∈ e.ids, k < τ.next := by
  intro k hk
  cases e with
  | ob o a => simp only [Ent.ids, List.mem_singleton] at hk; rw [hk]; exact h.2
  | sl x ty sz xs =>
    rcases h with ⟨_, rfl⟩ | ⟨o, g, els, rfl, _, _, h4⟩
    · simp [Ent.ids, slId] at hk
    · simp only [Ent.ids, slId, List.mem_singleton] at hk; rw [hk]; exact h4
  | many rs =>
    simp only [Ent.ids, List.mem_map] at hk
    obtain ⟨r, hr, rfl⟩ := hk
    exact (h r hr).2
theorem Ent.frame (h : e.holds τ) (hf : ∀ k ∈ e.ids, τ'.objs k = τ.objs k) (hn : τ.next ≤ τ'.next) : e.holds τ' := by
  cases e with
  | ob o a => exact ⟨(hf o (by simp [Ent.ids])).trans h.1, Nat.lt_of_lt_of_le h.2 hn⟩
  | sl x ty sz xs =>
    rcases h with ⟨h1, rfl⟩ | ⟨o, g, els, rfl, h2, h3, h4⟩
    · exact .inl ⟨h1, rfl⟩
    · exact .inr ⟨o, g, els, rfl, (hf o (by simp [Ent.ids, slId])).trans h2, h3, Nat.lt_of_lt_of_le h4 hn⟩
  | many rs =>
    intro r hr
    obtain ⟨h1, h2⟩ := h r hr
    exact ⟨(hf r.1 (by simp only [Ent.ids, List.mem_map]; exact ⟨r, hr, rfl⟩)).trans h1, Nat.lt_of_lt_of_le h2 hn⟩
theorem Own.nil (σ : St) : Own σ [] [] σ := ⟨Nat.le_refl _, fun _ _ _ => rfl, (fun _ h => by simp [idsOf] at h), (fun _ h => by cases h), by simp [idsOf]⟩
theorem Own.one {o : Nat} {a : AObj} {σ : St} (h : σ.objs o = some a) (hl : o < σ.next) : Own σ [o] [.ob o a] σ :=
  ⟨Nat.le_refl _, fun _ _ _ => rfl, fun k hk _ => by simpa [idsOf, Ent.ids] using hk, fun e he => by rw [List.mem_singleton.1 he]; exact ⟨h, hl⟩, by simp [idsOf, Ent.ids]⟩
theorem Own.at {o : Nat} {a : AObj} (i : Nat) (h : Own σ0 X ls τ) (hi : ls[i]? = some (.ob o a)) : τ.objs o = some a := (h.hd _ (List.mem_of_getElem? hi)).1
theorem Own.lt (h : Own σ0 X ls τ) : ∀ k ∈ idsOf ls, k < τ.next := by
  intro k hk
  obtain ⟨e, he, hk⟩ := List.mem_flatMap.1 hk
  exact Ent.lt (h.hd e he) k hk
theorem split_at {α : Type} {l : List α} {i : Nat} {a : α} (h : l[i]? = some a) (b : α) : ∃ l1 l2, l = l1 ++ a :: l2 ∧ l.set i b = l1 ++ b :: l2 ∧ l1.length = i := by
  obtain ⟨hi, rfl⟩ := List.getElem?_eq_some_iff.1 h
  refine ⟨l.take i, l.drop (i + 1), ?_, ?_, by rw [List.length_take]; omega⟩
  · rw [← List.drop_eq_getElem_cons hi, List.take_append_drop]
  · rw [List.set_eq_take_append_cons_drop, if_pos hi]
theorem Own.upd (h : Own σ0 X ls τ) (hi : ls[i]? = some e) (hn : τ.next ≤ τ'.next) (hf : ∀ k, k < τ.next → k ∉ e.ids → τ'.objs k = τ.objs k) (he : e'.holds τ') (hid : ∀ k ∈ e'.ids, k ∈ e.ids ∨ τ.next ≤ k) (hnd : e'.ids.Nodup) :
    Own σ0 X (ls.set i e') τ' := by
  obtain ⟨l1, l2, h1, h2, _⟩ := split_at hi e'
  rw [h2]
  subst h1
  have hnx := h.nx
  have nd := h.nd
  simp only [idsOf, List.flatMap_append, List.flatMap_cons] at nd
  obtain ⟨n1, n23, n4⟩ := List.nodup_append.1 nd
  obtain ⟨n2, n3, n5⟩ := List.nodup_append.1 n23
  have lt := h.lt
  simp only [idsOf, List.flatMap_append, List.flatMap_cons, List.mem_append] at lt
  refine ⟨Nat.le_trans hnx hn, fun k hk hkX => ?_, fun k hk hk0 => ?_, fun e2 he2 => ?_, ?_⟩
  · have hne : k ∉ e.ids := fun hq => hkX (h.hx k (by simp only [idsOf, List.flatMap_append, List.flatMap_cons, List.mem_append]; exact .inr (.inl hq)) hk)
    exact (hf k (by omega) hne).trans (h.fr k hk hkX)
  · simp only [idsOf, List.flatMap_append, List.flatMap_cons, List.mem_append] at hk
    rcases hk with hk | hk | hk
    · exact h.hx k (by simp only [idsOf, List.flatMap_append, List.flatMap_cons, List.mem_append]; exact .inl hk) hk0
    · rcases hid k hk with hq | hq
      · exact h.hx k (by simp only [idsOf, List.flatMap_append, List.flatMap_cons, List.mem_append]; exact .inr (.inl hq)) hk0
      · omega
    · exact h.hx k (by simp only [idsOf, List.flatMap_append, List.flatMap_cons, List.mem_append]; exact .inr (.inr hk)) hk0
  · rcases List.mem_append.1 he2 with hm | hm
    · refine Ent.frame (h.hd e2 (List.mem_append_left _ hm)) (fun k hk => hf k (lt k (.inl (List.mem_flatMap.2 ⟨e2, hm, hk⟩))) (fun hq => n4 k (List.mem_flatMap.2 ⟨e2, hm, hk⟩) k (by simp [hq]) rfl)) hn
    · rcases List.mem_cons.1 hm with rfl | hm
      · exact he
      · exact Ent.frame (h.hd e2 (List.mem_append_right _ (List.mem_cons_of_mem _ hm))) (fun k hk => hf k (lt k (.inr (.inr (List.mem_flatMap.2 ⟨e2, hm, hk⟩)))) (fun hq => n5 k hq k (List.mem_flatMap.2 ⟨e2, hm, hk⟩) rfl)) hn
  · simp only [idsOf, List.flatMap_append, List.flatMap_cons]
    refine List.nodup_append.2 ⟨n1, List.nodup_append.2 ⟨hnd, n3, fun a ha b hb => ?_⟩, fun a ha b hb => ?_⟩
    · rcases hid a ha with hq | hq
      · exact n5 a hq b hb
      · have := lt b (.inr (.inr hb)); omega
    · rcases List.mem_append.1 hb with hb | hb
      · rcases hid b hb with hq | hq
        · exact n4 a ha b (by simp [hq])
        · have := lt a (.inl ha); omega
      · exact n4 a ha b (by simp only [List.mem_append]; exact .inr hb)
/-- a new entry -/
theorem Own.add (h : Own σ0 X ls τ) (hn : τ.next ≤ τ'.next) (hf : ∀ k, k < τ.next → τ'.objs k = τ.objs k) (he : e'.holds τ') (hid : ∀ k ∈ e'.ids, τ.next ≤ k) (hnd : e'.ids.Nodup) :
    Own σ0 X (ls ++ [e']) τ' := by
  have hnx := h.nx
  refine ⟨Nat.le_trans hnx hn, fun k hk hkX => (hf k (by omega)).trans (h.fr k hk hkX), fun k hk hk0 => ?_, fun e2 he2 => ?_, ?_⟩
  · simp only [idsOf, List.flatMap_append, List.flatMap_cons, List.flatMap_nil, List.append_nil, List.mem_append] at hk
    rcases hk with hk | hk
    · exact h.hx k hk hk0
    · have := hid k hk; omega
  · rcases List.mem_append.1 he2 with hm | hm
    · exact Ent.frame (h.hd e2 hm) (fun k hk => hf k (h.lt k (List.mem_flatMap.2 ⟨e2, hm, hk⟩))) hn
    · rw [List.mem_singleton.1 hm]; exact he
  · simp only [idsOf, List.flatMap_append, List.flatMap_cons, List.flatMap_nil, List.append_nil]
    refine List.nodup_append.2 ⟨h.nd, hnd, fun a ha b hb => ?_⟩
    have := hid b hb; have := h.lt a ha; omega
/-- entries let go -/
theorem Own.sub {ls' : List Ent} (h : Own σ0 X ls τ) (hs : ls'.Sublist ls) : Own σ0 X ls' τ := by
  have hsub : (idsOf ls').Sublist (idsOf ls) := by
    clear h
    induction hs with
    | slnil => exact List.Sublist.refl _
    | cons a _ ih => simp only [idsOf, List.flatMap_cons]; exact ih.trans (List.sublist_append_right _ _)
    | cons_cons a _ ih => simp only [idsOf, List.flatMap_cons]; exact List.Sublist.append (List.Sublist.refl _) ih
  exact ⟨h.nx, h.fr, fun k hk hk0 => h.hx k (hsub.subset hk) hk0, fun e he => h.hd e (hs.subset he), h.nd.sublist hsub⟩
theorem Own.head {r : List Ent} (h : Own σ0 X ls τ) (hl : ls = e :: r) : Own σ0 X [e] τ := h.sub (by rw [hl]; exact List.Sublist.cons_cons _ (List.nil_sublist _))
theorem Own.head2 {e2 : Ent} {r : List Ent} (h : Own σ0 X ls τ) (hl : ls = e :: e2 :: r) : Own σ0 X [e, e2] τ := h.sub (by rw [hl]; exact List.Sublist.cons_cons _ (List.Sublist.cons_cons _ (List.nil_sublist _)))
/-- a callee's new entries -/
theorem Own.comp0 {new : List Ent} (h : Own σ0 X ls τ) (k : Own τ [] new τ') : Own σ0 X (ls ++ new) τ' := by
  have hnx := h.nx
  have hge : ∀ q ∈ idsOf new, τ.next ≤ q := fun q hq => by
    rcases Nat.lt_or_ge q τ.next with hlt | hge
    · exact absurd (k.hx q hq hlt) (by simp)
    · exact hge
  refine ⟨Nat.le_trans hnx k.nx, fun q hq hX => (k.fr q (by omega) (by simp)).trans (h.fr q hq hX), fun q hq hq0 => ?_, fun e he => ?_, ?_⟩
  · simp only [idsOf, List.flatMap_append, List.mem_append] at hq
    rcases hq with hq | hq
    · exact h.hx q hq hq0
    · have := hge q hq; omega
  · rcases List.mem_append.1 he with hm | hm
    · exact Ent.frame (h.hd e hm) (fun q hq => k.fr q (h.lt q (List.mem_flatMap.2 ⟨e, hm, hq⟩)) (by simp)) k.nx
    · exact k.hd e hm
  · simp only [idsOf, List.flatMap_append]
    refine List.nodup_append.2 ⟨h.nd, k.nd, fun a ha b hb => ?_⟩
    have := hge b hb; have := h.lt a ha; omega
/-- a callee that changes one entry -/
theorem Own.comp1 {Y : List Nat} (h : Own σ0 X ls τ) (hi : ls[i]? = some e) (k : Own τ Y [e'] τ') (hY : ∀ y ∈ Y, y ∈ e.ids) : Own σ0 X (ls.set i e') τ' :=
  h.upd hi k.nx (fun q hq hne => k.fr q hq (fun hy => hne (hY q hy))) (k.hd e' (by simp)) (fun q hq => by
    rcases Nat.lt_or_ge q τ.next with hlt | hge
    · exact .inl (hY q (k.hx q (by simpa [idsOf] using hq) hlt))
    · exact .inr hge) (by have := k.nd; simpa [idsOf] using this)
theorem own_then1 {Y : List Nat} {G : Prop} (h : Own σ0 X ls τ) (k : Own τ Y [e'] τ') (i : Nat) (hi : ls[i]? = some e) (hY : ∀ y ∈ Y, y ∈ e.ids) (hG : Own σ0 X (ls.set i e') τ' → G) : G := hG (h.comp1 hi k hY)
end
section
variable {P : Program} {T : Tab} {σ0 τ τ' : St} {X : List Nat} {ls : List Ent} {i : Nat} {K : AV → St → Prop}
theorem own_push (h : Own σ0 X ls τ) (a : AObj) : Own σ0 X (ls ++ [.ob τ.next a]) (τ.push a) :=
  h.add (by simp [push_next]) (fun k hk => by rw [push_objs, if_neg (by omega)]) ⟨by simp [push_objs], by simp [push_next]⟩ (fun k hk => by simp only [Ent.ids, List.mem_singleton] at hk; omega) (by simp [Ent.ids])
theorem own_alloc {t : Nat} {ti : TI} (h : Own σ0 X ls τ) (h1 : T t = some ti) (h2 : 0 < ti.size ∧ ti.zero.cells.size = ti.size ∧ valOk (cv ti.zero) = true)
    (hK : ∀ τ' o, Own σ0 X (ls ++ [.ob o ⟨t, ti.size, 0, [cv ti.zero]⟩]) τ' → K (.ptr o 0 0 0) τ') : aAlloc T t τ K := by
  unfold aAlloc
  simp only [Tab.ty, h1]
  exact ⟨h2.1, h2.2.1, h2.2.2, hK _ _ (own_push h _)⟩
theorem own_box {t : Nat} {x : AV} {ti : TI} (h : Own σ0 X ls τ) (h1 : T t = some ti) (h0 : valOk x = true) (h2 : 0 < ti.size ∧ x.cells.length = ti.size)
    (hK : ∀ τ' o, Own σ0 X (ls ++ [.ob o ⟨t, ti.size, 0, [x]⟩]) τ' → K (.ptr o 0 0 0) τ') : aBox T t x true τ K := by
  unfold aBox
  simp only [Tab.ty, h1, if_true]
  exact ⟨h0, h2.1, h2.2, hK _ _ (own_push h _)⟩
theorem own_pushS (h : Own σ0 X ls τ) (ty sz : Nat) (xs : List AV) (n : Nat) (hn : xs.length = n) : Own σ0 X (ls ++ [.sl (.ref τ.next 0 0 n) ty sz xs]) (τ.push ⟨ty, sz, 0, xs⟩) :=
  h.add (by simp [push_next]) (fun k hk => by rw [push_objs, if_neg (by omega)]) (.inr ⟨τ.next, 0, xs, by rw [hn], by simp [push_objs], by rw [List.take_length], by simp [push_next]⟩) (fun k hk => by simp only [Ent.ids, slId, List.mem_singleton] at hk; omega) (by simp [Ent.ids, slId])
theorem own_make {t e : Nat} {te : TI} {l c : Int} {k k' : IntKind} (h : Own σ0 X ls τ) (h1 : T t = some ⟨1, 24, .slice e, .slice none 0 0⟩) (h2 : T e = some te) (h3 : 0 < te.size ∧ te.zero.cells.size = te.size)
    (h4 : 0 ≤ l ∧ l ≤ c ∧ te.bytes * c ≤ 281474976710656 ∧ c ≤ 9223372036854775807)
    (hK : ∀ τ' x, Own σ0 X (ls ++ [.sl x e te.size (List.replicate l.toNat (zeroAV te))]) τ' → (∃ o, x = .ref o 0 0 l.toNat) → K x τ') : aMake T t (.sc (.int k l)) (.sc (.int k' c)) τ K := by
  simp only [aMake, Tab.sl, h1, h2]
  exact ⟨h4.1, h4.2.1, h4.2.2.1, h4.2.2.2, h3.1, h3.2, hK _ _ (own_pushS h _ _ _ _ (by simp)) ⟨_, rfl⟩⟩
theorem own_bslice {t e n : Nat} {te : TI} {ps : List (Nat × AV)} (h : Own σ0 X ls τ) (h1 : T t = some ⟨1, 24, .slice e, .slice none 0 0⟩) (h2 : T e = some te) (h3 : 0 < te.size ∧ te.zero.cells.size = te.size ∧ n * te.size ≤ 16777216)
    (h4 : ps.length = n) (h5 : seqParts te.size 0 ps = true)
    (hK : ∀ τ' x, Own σ0 X (ls ++ [.sl x e te.size (ps.map (·.2))]) τ' → (∃ o, x = .ref o 0 0 n) → K x τ') : aBuildSlice T t n ps true τ K := by
  simp only [aBuildSlice, Tab.sl, h1, h2, if_true]
  exact ⟨h3.1, h3.2.1, h3.2.2, h4, h5, hK _ _ (own_pushS h _ _ _ _ (by simp [h4])) ⟨_, rfl⟩⟩
theorem leaf_cell {v : AV} (hv : leafOk v = true) : v.cells = [v] ∧ valOk v = true := by cases v <;> simp_all [leafOk, AV.cells, valOk]
theorem own_set {o : Nat} {a a' : AObj} (h : Own σ0 X ls τ) (hi : ls[i]? = some (.ob o a)) : Own σ0 X (ls.set i (.ob o a')) (τ.set o a') :=
  h.upd hi (Nat.le_refl _) (fun k _ hk => by rw [set_objs, if_neg (by simpa [Ent.ids] using hk)]) ⟨by simp [set_objs], by have := h.lt o (List.mem_flatMap.2 ⟨_, List.mem_of_getElem? hi, by simp [Ent.ids]⟩); exact this⟩ (fun k hk => .inl hk) (by simp [Ent.ids])
/-- a leaf is written to a field of a struct -/
theorem own_store {t o g j ty sz : Nat} {cs : List AV} {v : AV} {ti : TI} (i : Nat) (h : Own σ0 X ls τ) (hi : ls[i]? = some (.ob o ⟨ty, sz, g, [.agg cs]⟩)) (h1 : T t = some ti) (h2 : ti.size = 1) (hv : leafOk v = true) (hok : cs.all leafOk = true) (hj : j < cs.length)
    (hK : ∀ τ', Own σ0 X (ls.set i (.ob o ⟨ty, sz, g, [.agg (cs.set j v)]⟩)) τ' → K (.tup []) τ') : aStore T t (.ptr o g 0 j) v τ K := by
  obtain ⟨hc, hc2⟩ := leaf_cell hv
  refine ⟨_, h.at i hi, rfl, _, rfl, hok, hc2, ?_⟩
  simp only [Tab.ty, h1, h2, hc]
  refine ⟨rfl, by simp only [AV.cells]; omega, hK _ ?_⟩
  have he : (AV.agg cs).put j [v] = .agg (cs.set j v) := by
    simp only [AV.put, List.length_singleton]
    rw [List.set_eq_take_append_cons_drop, if_pos hj]; simp
  rw [he]
  exact own_set h hi
/-- a whole struct is written -/
theorem own_storeW {t o g ty sz : Nat} {cs vs : List AV} {ti : TI} (i : Nat) (h : Own σ0 X ls τ) (hi : ls[i]? = some (.ob o ⟨ty, sz, g, [.agg cs]⟩)) (h1 : T t = some ti) (h2 : ti.size = vs.length) (hv : vs.all leafOk = true) (hok : cs.all leafOk = true) (hj : vs.length = cs.length)
    (hK : ∀ τ', Own σ0 X (ls.set i (.ob o ⟨ty, sz, g, [.agg vs]⟩)) τ' → K (.tup []) τ') : aStore T t (.ptr o g 0 0) (.agg vs) τ K := by
  refine ⟨_, h.at i hi, rfl, _, rfl, hok, hv, ?_⟩
  simp only [Tab.ty, h1, h2]
  refine ⟨rfl, by simp only [AV.cells]; omega, hK _ ?_⟩
  have he : (AV.agg cs).put 0 (AV.agg vs).cells = .agg vs := by
    simp only [AV.put, AV.cells, List.take_zero, List.nil_append, Nat.zero_add]
    rw [List.drop_of_length_le (by omega), List.append_nil]
  rw [he]
  exact own_set h hi
/-- a variable of one leaf is written -/
theorem own_store1 {t o g ty sz : Nat} {x v : AV} {ti : TI} (i : Nat) (h : Own σ0 X ls τ) (hi : ls[i]? = some (.ob o ⟨ty, sz, g, [x]⟩)) (h1 : T t = some ti) (h2 : ti.size = 1) (hv : leafOk v = true) (hx : leafOk x = true)
    (hK : ∀ τ', Own σ0 X (ls.set i (.ob o ⟨ty, sz, g, [v]⟩)) τ' → K (.tup []) τ') : aStore T t (.ptr o g 0 0) v τ K := by
  obtain ⟨hc, hc2⟩ := leaf_cell hv
  obtain ⟨hd, hd2⟩ := leaf_cell hx
  refine ⟨_, h.at i hi, rfl, _, rfl, hd2, hc2, ?_⟩
  simp only [Tab.ty, h1, h2, hc, hd]
  refine ⟨rfl, by simp, hK _ ?_⟩
  have he : x.put 0 [v] = v := by cases x <;> simp_all [AV.put, leafOk]
  rw [he]
  exact own_set h hi
/-- an element of a slice is written, or a field of it -/
theorem own_storeE {t o g k j ty sz n : Nat} {xs : List AV} {v : AV} {ti : TI} (i : Nat) (h : Own σ0 X ls τ) (hi : ls[i]? = some (.sl (.ref o g 0 n) ty sz xs)) {el : AV} (hk : xs[k]? = some el) (hel : valOk el = true) (hv : valOk v = true) (h1 : T t = some ti) (h2 : v.cells.length = ti.size) (hj : j + ti.size ≤ el.cells.length)
    (hK : ∀ τ', Own σ0 X (ls.set i (.sl (.ref o g 0 n) ty sz (xs.set k (el.put j v.cells)))) τ' → K (.tup []) τ') : aStore T t (.ptr o g k j) v τ K := by
  have hlt := h.lt o (List.mem_flatMap.2 ⟨_, List.mem_of_getElem? hi, by simp [Ent.ids, slId]⟩)
  have hk' : k < xs.length := (List.getElem?_eq_some_iff.1 hk).1
  rcases h.hd _ (List.mem_of_getElem? hi) with ⟨_, h⟩ | ⟨o', g', els, hr, ho, ht, _⟩
  · cases h
  · simp only [AV.ref.injEq, true_and] at hr
    obtain ⟨rfl, rfl, rfl⟩ := hr
    have he : els[k]? = some el := by
      rw [← ht, List.getElem?_take] at hk; simpa [hk'] using hk
    refine ⟨_, ho, rfl, el, he, hel, hv, ?_⟩
    simp only [Tab.ty, h1]
    refine ⟨h2, hj, hK _ ?_⟩
    refine h.upd hi (Nat.le_refl _) (fun q _ hq => by rw [set_objs, if_neg (by simpa [Ent.ids, slId] using hq)]) (.inr ⟨o, g, els.set k (el.put j v.cells), by simp, by simp [set_objs], ?_, hlt⟩) (fun q hq => .inl hq) (by simp [Ent.ids, slId])
    rw [List.length_set, List.take_set, ht]
theorem own_append {t ty sz s : Nat} {b : Bool} {x : AV} {xs news : List AV} {te : TI} (i : Nat) (h : Own σ0 X ls τ) (hi : ls[i]? = some (.sl x ty sz xs)) (h1 : T t = some ⟨1, 24, .slice ty, .slice none 0 0⟩) (h2 : T ty = some te)
    (h3 : te.size = sz ∧ s = sz ∧ 0 < te.size ∧ te.zero.cells.size = te.size) (h4 : news.all valOk = true) (h5 : (xs.length + news.length) * te.bytes ≤ 140737488355328) (h6 : xs.length + news.length ≤ 9223372036854775807)
    (hK : ∀ x' τ', Own σ0 X (ls.set i (.sl x' ty sz (xs ++ news))) τ' → (∃ o g, x' = .ref o g 0 (xs.length + news.length)) → K x' τ') : aAppend T t t x (.lst b s news) τ K := by
  obtain ⟨rfl, rfl, h0, hz⟩ := h3
  rcases h.hd _ (List.mem_of_getElem? hi) with ⟨rfl, rfl⟩ | ⟨o, gen, els, rfl, ho, ht, hl⟩
  · simp only [aAppend, Tab.sl, h1, h2, aElems, h4]
    refine ⟨trivial, h0, hz, .inl trivial, trivial, by simpa using h5, by simpa using h6, hK _ _ ?_ ⟨τ.next, 0, by simp⟩⟩
    exact h.upd hi (by simp [push_next]) (fun k hk _ => by rw [push_objs, if_neg (by omega)]) (.inr ⟨τ.next, 0, news, by simp, by simp [push_objs], by simp, by simp [push_next]⟩) (fun k hk => by simp only [Ent.ids, slId, List.mem_singleton] at hk; exact .inr (by omega)) (by simp [Ent.ids, slId])
  · simp only [aAppend, Tab.sl, h1, h2, aElems, h4]
    refine ⟨trivial, h0, hz, .inl trivial, trivial, _, ho, rfl, rfl, rfl, h5, h6, hK _ _ ?_ ⟨_, _, rfl⟩⟩
    refine h.upd hi (Nat.le_refl _) (fun k _ hk => by rw [set_objs, if_neg (by simpa [Ent.ids, slId] using hk)]) (.inr ⟨o, gen + 1, els.take xs.length ++ news, by simp, by simp [set_objs], ?_, hl⟩) (fun k hk => .inl hk) (by simp [Ent.ids, slId])
    rw [ht, List.length_append, ← List.length_append, List.take_length]
theorem own_len {t ty sz : Nat} {x : AV} {xs : List AV} {te : TI} {K : AV → Prop} (i : Nat) (h : Own σ0 X ls τ) (hi : ls[i]? = some (.sl x ty sz xs)) (h1 : T t = some ⟨1, 24, .slice ty, .slice none 0 0⟩) (h2 : T ty = some te) (hK : K (i64 xs.length)) : aLen T t x K := by
  rcases h.hd _ (List.mem_of_getElem? hi) with ⟨rfl, rfl⟩ | ⟨o, gen, els, rfl, ho, ht, hl⟩ <;> simpa only [aLen, Tab.sl, h1, h2] using hK
theorem Own.frzS {b : Bool} {ty sz : Nat} {x : AV} {xs ys : List AV} (i : Nat) (h : Own σ0 X ls τ) (hi : ls[i]? = some (.sl x ty sz xs)) (hp : FrzL b τ xs ys) (hb : ys = [] → b = false) : Frz b τ x (.lst b sz ys) := by
  rcases h.hd _ (List.mem_of_getElem? hi) with ⟨rfl, rfl⟩ | ⟨o, gen, els, rfl, ho, ht, hl⟩
  · cases hp; rw [hb rfl]; exact .nil
  · refine .ref (ob := ⟨ty, sz, gen, els⟩) ho rfl ?_
    rw [List.drop_zero]; show FrzL b τ (els.take xs.length) ys
    rw [ht]; exact hp
theorem own_slob {o g n ty sz : Nat} {xs : List AV} (i : Nat) (h : Own σ0 X ls τ) (hi : ls[i]? = some (.sl (.ref o g 0 n) ty sz xs)) : ∃ ob, τ.objs o = some ob ∧ ob.gen = g ∧ sz = ob.sz := by
  rcases h.hd _ (List.mem_of_getElem? hi) with ⟨_, h⟩ | ⟨o', g', els, hr, ho, ht, _⟩
  · cases h
  · simp only [AV.ref.injEq, true_and] at hr
    obtain ⟨rfl, rfl, rfl⟩ := hr
    exact ⟨_, ho, rfl, rfl⟩
theorem own_load {t o g k j ty sz n : Nat} {xs : List AV} {el : AV} {ti : TI} {K : AV → Prop} (i : Nat) (h : Own σ0 X ls τ) (hi : ls[i]? = some (.sl (.ref o g 0 n) ty sz xs)) (hk : xs[k]? = some el) (hel : valOk el = true) (h1 : T t = some ti) (h2 : 0 < ti.size ∧ j + ti.size ≤ el.cells.length)
    (hK : K (mkV ti (el.cells.drop j))) : aLoad T t (.ptr o g k j) τ K := by
  have hk' : k < xs.length := (List.getElem?_eq_some_iff.1 hk).1
  rcases h.hd _ (List.mem_of_getElem? hi) with ⟨_, h⟩ | ⟨o', g', els, hr, ho, ht, _⟩
  · cases h
  · simp only [AV.ref.injEq, true_and] at hr
    obtain ⟨rfl, rfl, rfl⟩ := hr
    refine ⟨_, ho, rfl, el, ?_, hel, ?_⟩
    · rw [← ht, List.getElem?_take] at hk; simpa [hk'] using hk
    · simp only [Tab.ty, h1]; exact ⟨h2.1, h2.2, hK⟩
/-- an element of one leaf -/
theorem own_loadM {α : Type} {f : α → AV} {t o g k ty sz n : Nat} {xs : List α} {ti : TI} {K : AV → Prop} (d : α) (i : Nat) (h : Own σ0 X ls τ) (hi : ls[i]? = some (.sl (.ref o g 0 n) ty sz (xs.map f))) (hk : k < xs.length) (hf : ∀ a, leafOk (f a) = true) (h1 : T t = some ti) (h2 : ti.size = 1) (h3 : ti.k.agg = false)
    (hK : K (f (xs.getD k d))) : aLoad T t (.ptr o g k 0) τ K := by
  obtain ⟨hc, hv⟩ := leaf_cell (hf (xs.getD k d))
  refine own_load i h hi (el := f (xs.getD k d)) (by simp [hk]) hv h1 (by rw [hc, h2]; exact ⟨by decide, by simp⟩) ?_
  rw [hc]; unfold mkV; rw [h3]; exact hK
theorem own_storeM {α : Type} {f : α → AV} {t o g k ty sz n : Nat} {xs : List α} {a : α} {ti : TI} (i : Nat) (h : Own σ0 X ls τ) (hi : ls[i]? = some (.sl (.ref o g 0 n) ty sz (xs.map f))) (hk : k < xs.length) (hf : ∀ a, leafOk (f a) = true) (h1 : T t = some ti) (h2 : ti.size = 1)
    (hK : ∀ τ', Own σ0 X (ls.set i (.sl (.ref o g 0 n) ty sz ((xs.set k a).map f))) τ' → K (.tup []) τ') : aStore T t (.ptr o g k 0) (f a) τ K := by
  obtain ⟨hc, hv⟩ := leaf_cell (hf a)
  obtain ⟨hc2, hv2⟩ := leaf_cell (hf xs[k])
  refine own_storeE i h hi (el := f xs[k]) (by simp [hk]) hv2 hv h1 (by rw [hc, h2]; rfl) (by rw [hc2, h2]; exact Nat.le_refl _) (fun τ' k' => hK τ' ?_)
  have he : (f xs[k]).put 0 (f a).cells = f a := by rw [hc]; have := hf xs[k]; cases hq : f xs[k] <;> rw [hq] at this <;> simp_all [AV.put, leafOk]
  rw [he] at k'
  rw [List.map_set]; exact k'
theorem own_conv {src dst ty : Nat} {x : AV} {bs : List UInt8} {tb ts : TI} {K : AV → Prop} (i : Nat) (h : Own σ0 X ls τ) (hi : ls[i]? = some (.sl x ty 1 (bs.map byteAV))) (h1 : T src = some ⟨1, 24, .slice ty, .slice none 0 0⟩) (h2 : T ty = some tb) (h3 : tb.k = .int .u8) (h4 : T dst = some ts) (h5 : ts.k = .str)
    (hK : K (.sc (.string ⟨bs.toArray⟩))) : aConvS T src dst x τ K := by
  rcases h.hd _ (List.mem_of_getElem? hi) with ⟨h1', rfl⟩ | ⟨o, gen, els, rfl, ho, ht, hl⟩
  · simp only [aConvS, aConv, Tab.sl, Tab.ty, h1, h2, h3, h4, h5]
    have hb : bs = [] := List.map_eq_nil_iff.1 h1'
    subst hb
    exact ⟨trivial, trivial, [], rfl, hK⟩
  · simp only [aConvS, Tab.sl, Tab.ty, h1, h2, h3, h4, h5]
    exact ⟨trivial, trivial, _, ho, rfl, bs, by rw [List.drop_zero]; exact ht, hK⟩
theorem Own.isRef {ty sz : Nat} {x : AV} {xs : List AV} (h : Own σ0 X ls τ) (hi : ls[i]? = some (.sl x ty sz xs)) (hx : xs ≠ []) : ∃ (o g : Nat) (els : List AV), x = .ref o g 0 xs.length ∧ τ.objs o = some ⟨ty, sz, g, els⟩ ∧ (∀ (k : Nat) (y : AV), xs[k]? = some y → els[k]? = some y) := by
  rcases h.hd _ (List.mem_of_getElem? hi) with ⟨h1, _⟩ | ⟨o, gen, els, rfl, ho, ht, hl⟩
  · exact absurd h1 hx
  · refine ⟨o, gen, els, rfl, ho, fun k y hk => ?_⟩
    have hk' : k < xs.length := (List.getElem?_eq_some_iff.1 hk).1
    rw [← ht, List.getElem?_take] at hk
    simpa [hk'] using hk
theorem aw_ord_obj {N : Nat} {Q : Exit → Env → St → Prop} {e : Env} {σ : St} {id : Nat} {l : List Oper} {y : Code} {o : Nat} {a : AObj} (hC : σ.objs o = some a) (n : Nat) (π : List (Nat × Bool)) (ls : List (Oper × Bool)) (hm : P.follows .mixedOrders = true) (hT : TabOk P T) (md : Nat → Bool) (ds : List (Option Nat)) (hds : l.map (·.dst) = ds) (hd : dstsOk N ds = true)
    (hls : pickO l π = some ls) (hB : ordTailB l.toArray n π = true)
    (h : aOrd P T md ds (fun τ => τ.objs o = some a) (fun e' σ' => aOps P T md ds (l.drop n) e' σ' fun e2 σ2 => AW P N y Q e2 σ2) ls e σ) : AW P N (.seq (.region id l.toArray true) y) Q e σ :=
  aw_ord _ n π ls hm hT md ds hds hd hls hB hC h
theorem aw_ord_obj_end {N : Nat} {Q : Exit → Env → St → Prop} {e : Env} {σ : St} {id : Nat} {l : List Oper} {o : Nat} {a : AObj} (hC : σ.objs o = some a) (n : Nat) (π : List (Nat × Bool)) (ls : List (Oper × Bool)) (hm : P.follows .mixedOrders = true) (hT : TabOk P T) (md : Nat → Bool) (ds : List (Option Nat)) (hds : l.map (·.dst) = ds) (hd : dstsOk N ds = true)
    (hls : pickO l π = some ls) (hB : ordTailB l.toArray n π = true)
    (h : aOrd P T md ds (fun τ => τ.objs o = some a) (fun e' σ' => aOps P T md ds (l.drop n) e' σ' fun e2 σ2 => Q .normal e2 σ2) ls e σ) : AW P N (.region id l.toArray true) Q e σ :=
  aw_ord_end _ n π ls hm hT md ds hds hd hls hB hC h
/-- a new slice that begins as nil -/
theorem Own.addNil (h : Own σ0 X ls τ) (ty sz : Nat) : Own σ0 X (ls ++ [.sl (.lst false 0 []) ty sz []]) τ :=
  h.add (Nat.le_refl _) (fun _ _ => rfl) (.inl ⟨rfl, rfl⟩) (fun k hk => by simp [Ent.ids, slId] at hk) (by simp [Ent.ids, slId])
end
end Go.Ab
