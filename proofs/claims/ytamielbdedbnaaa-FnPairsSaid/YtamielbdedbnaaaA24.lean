/- Ab, part 24 (built behind part 9): values that lead to no live object; objects read as lists; bytes of a live slice made a string. -/
import Derived.Test.YtamielbdedbnaaaA9
set_option linter.unusedSimpArgs false
set_option linter.unusedVariables false
namespace Go.Ab
open Go.RowKit
section
variable {Γ Γ' : Ctx} {σ σ' : St} {w w' : World} {P : Program} {T : Tab} {N : Nat} {e : Env} {a : Act}

/-! ### values that lead to no live object -/
mutual
/-- c: and to nothing that is only lent -/
def pureAV (c : Bool) : AV → Bool
  | .junk | .sc _ => true
  | .agg cs | .tup cs => pureAVs c cs
  | .lst b _ xs => !(c && b) && pureAVs c xs
  | .rp b cs => !(c && b) && pureAVs c cs
  | .ref _ _ _ _ | .ptr _ _ _ _ => false
  | .fn _ us vs => pureAVs c us && pureAVs c vs
  | .ifc _ x => pureAV c x
def pureAVs (c : Bool) : List AV → Bool
  | [] => true
  | x :: xs => pureAV c x && pureAVs c xs
end
mutual
theorem V_pure {c : Bool} (hS : ∀ g, Γ.S g → Γ'.S g) (hB : c = false → ∀ g, Γ.B g → Γ'.B g) : ∀ (x : AV) (v : Value), pureAV c x = true → V Γ σ w x v → V Γ' σ' w x v
  | .junk, _, _, _ => by simp only [V]
  | .sc v, u, _, h => by simp only [V] at h ⊢; exact h
  | .agg cs, u, hp, h => by
    simp only [V] at h ⊢
    obtain ⟨us, h1, h2⟩ := h
    exact ⟨us, h1, VL_pure hS hB cs us (by simpa [pureAV] using hp) h2⟩
  | .tup cs, u, hp, h => by
    simp only [V] at h ⊢
    obtain ⟨us, h1, h2⟩ := h
    exact ⟨us, h1, VL_pure hS hB cs us (by simpa [pureAV] using hp) h2⟩
  | .lst b sz xs, u, hp, h => by
    simp only [pureAV, Bool.and_eq_true] at hp
    simp only [V] at h ⊢
    obtain ⟨a, cap, h1, h2, h3, h4, h5⟩ := h
    refine ⟨a, cap, h1, h2, h3, h4, fun hx => ?_⟩
    obtain ⟨g, off, vs, e1, e2, e3, e4⟩ := h5 hx
    refine ⟨g, off, vs, e1, ?_, VL_pure hS hB xs vs hp.2 e3, e4⟩
    cases b
    · exact hS g e2
    · exact hB (by simpa using hp.1) g e2
  | .rp b cs, u, hp, h => by
    simp only [pureAV, Bool.and_eq_true] at hp
    simp only [V] at h ⊢
    obtain ⟨g, off, us, h1, h2, h3, h4⟩ := h
    refine ⟨g, off, us, h1, ?_, VL_pure hS hB cs us hp.2 h3, h4⟩
    cases b
    · exact hS g h2
    · exact hB (by simpa using hp.1) g h2
  | .ref _ _ _ _, _, hp, _ => by simp [pureAV] at hp
  | .ptr _ _ _ _, _, hp, _ => by simp [pureAV] at hp
  | .fn f first caps, u, hp, h => by
    simp only [pureAV, Bool.and_eq_true] at hp
    simp only [V] at h ⊢
    obtain ⟨us, ws, h1, h2, h3⟩ := h
    exact ⟨us, ws, h1, VL_pure hS hB first us hp.1 h2, VL_pure hS hB caps ws hp.2 h3⟩
  | .ifc t x, u, hp, h => by
    simp only [V] at h ⊢
    obtain ⟨y, h1, h2⟩ := h
    exact ⟨y, h1, V_pure hS hB x y (by simpa [pureAV] using hp) h2⟩
theorem VL_pure {c : Bool} (hS : ∀ g, Γ.S g → Γ'.S g) (hB : c = false → ∀ g, Γ.B g → Γ'.B g) : ∀ (xs : List AV) (vs : List Value), pureAVs c xs = true → VL Γ σ w xs vs → VL Γ' σ' w xs vs
  | [], us, _, h => by simp only [VL] at h ⊢; exact h
  | c :: cs, us, hp, h => by
    simp only [pureAVs, Bool.and_eq_true] at hp
    simp only [VL] at h ⊢
    obtain ⟨u, us', h1, h2, h3⟩ := h
    exact ⟨u, us', h1, V_pure hS hB c u hp.1 h2, VL_pure hS hB cs us' hp.2 h3⟩
end

/-! ### objects read as lists -/
mutual
/-- what a value reads as if the live objects of σ are taken as they are -/
inductive Frz (b : Bool) (σ : St) : AV → AV → Prop
  | same {x : AV} (h : pureAV false x = true) : Frz b σ x x
  | ref {o g off len : Nat} {ob : AObj} {ys : List AV} (h1 : σ.objs o = some ob) (h2 : ob.gen = g) (h3 : FrzL b σ ((ob.els.drop off).take len) ys) : Frz b σ (.ref o g off len) (.lst b ob.sz ys)
  | ptr {o g i j : Nat} {ob : AObj} {el : AV} {ys : List AV} (h1 : σ.objs o = some ob) (h2 : ob.gen = g) (h3 : ob.els[i]? = some el) (h4 : valOk el = true) (h5 : FrzL b σ (el.cells.drop j) ys) : Frz b σ (.ptr o g i j) (.rp b ys)
  | agg {cs ds : List AV} (h : FrzL b σ cs ds) : Frz b σ (.agg cs) (.agg ds)
  | tup {cs ds : List AV} (h : FrzL b σ cs ds) : Frz b σ (.tup cs) (.tup ds)
  | lst {c : Bool} {sz : Nat} {xs ys : List AV} (h : FrzL b σ xs ys) : Frz b σ (.lst c sz xs) (.lst c sz ys)
  | rp {c : Bool} {xs ys : List AV} (h : FrzL b σ xs ys) : Frz b σ (.rp c xs) (.rp c ys)
  | nil {c : Bool} {sz : Nat} : Frz b σ (.lst c 0 []) (.lst c sz [])
inductive FrzL (b : Bool) (σ : St) : List AV → List AV → Prop
  | nil : FrzL b σ [] []
  | cons {x y : AV} {xs ys : List AV} (h : Frz b σ x y) (k : FrzL b σ xs ys) : FrzL b σ (x :: xs) (y :: ys)
end
theorem FrzL.same {b : Bool} {σ : St} : ∀ {xs : List AV}, pureAVs false xs = true → FrzL b σ xs xs
  | [], _ => .nil
  | x :: xs, h => by
    simp only [pureAVs, Bool.and_eq_true] at h
    exact .cons (.same h.1) (FrzL.same h.2)
theorem FrzL.length {b : Bool} {σ : St} : ∀ {xs ys : List AV}, FrzL b σ xs ys → ys.length = xs.length
  | [], _, h => by cases h; rfl
  | _ :: _, _, h => by cases h with | cons h k => simp [k.length]

section
variable {b : Bool} (hM : Models Γ σ w) (hS : ∀ g, Γ.S g → Γ'.S g) (hB : ∀ g, Γ.B g → Γ'.B g) (hL : ∀ g, σ.isLive Γ g → Γ'.inn b g)
include hM hS hB hL
theorem Frz_sound {x y : AV} (h : Frz b σ x y) : ∀ v, V Γ σ w x v → V Γ' σ' w y v := by
  refine Frz.rec (motive_1 := fun x y _ => ∀ v, V Γ σ w x v → V Γ' σ' w y v) (motive_2 := fun xs ys _ => ∀ vs, VL Γ σ w xs vs → VL Γ' σ' w ys vs)
    ?_ ?_ ?_ ?_ ?_ ?_ ?_ ?_ ?_ ?_ h
  · intro x hp v hv
    exact V_pure hS (fun _ => hB) x v hp hv
  · intro o g off len ob ys h1 h2 h3 ih v hv
    simp only [V] at hv ⊢
    obtain ⟨⟨a, c, rfl⟩, _, hv⟩ := hv
    obtain ⟨_, hv⟩ := hv ob h1
    obtain ⟨e1, e2⟩ := hv h2
    have hl := hM.lives o ob h1
    have hlen : ys.length = len := by rw [h3.length, List.length_take, List.length_drop]; omega
    cases hr : Γ.row o with
    | none =>
      simp only [hr, Value.slice.injEq] at e2
      obtain ⟨rfl, rfl, rfl⟩ := e2
      have : ys = [] := List.eq_nil_of_length_eq_zero hlen
      subst this
      exact ⟨none, 0, rfl, Nat.le_refl _, by simp [maxLen], ⟨fun _ => rfl, fun _ => rfl⟩, fun h => absurd rfl h⟩
    | some bc =>
      obtain ⟨blk, cap⟩ := bc
      simp only [hr, Value.slice.injEq] at e2
      obtain ⟨a', ⟨rfl, _, rfl⟩, m1, m2⟩ := e2
      obtain ⟨vs, d1, d2⟩ := hl.vals blk cap hr
      obtain ⟨⟨cur, c1, c2⟩, c3, c4, c5⟩ := hl.cells blk cap hr
      refine ⟨_, cap - off, by rw [hlen], by rw [hlen]; omega, by omega, ⟨by simp, fun hq => absurd hq (by have := hl.sz; omega)⟩, fun hx => ?_⟩
      have hpos : 0 < len := by
        rw [← hlen]; exact List.length_pos_iff.2 hx
      refine ⟨blk, off * ob.sz, (vs.drop off).take len, by rw [m2 hpos], hL blk ⟨o, ob, cap, h1, hr⟩, ih _ ((d1.drop _).take _), ?_⟩
      intro i v hi
      rw [List.getElem?_take] at hi
      split at hi
      · rw [List.getElem?_drop] at hi
        obtain ⟨f1, f2⟩ := d2 _ _ hi
        refine ⟨f1, fun j u hu => ?_⟩
        have := f2 j u hu
        rwa [Nat.zero_add, Nat.add_mul] at this
      · cases hi
  · intro o g i j ob el ys h1 h2 h3 h4 h5 ih v hv
    simp only [V] at hv ⊢
    obtain ⟨_, _, hv⟩ := hv
    obtain ⟨_, hv⟩ := hv ob h1
    obtain ⟨e1, blk, cap, hr, rfl⟩ := hv h2
    obtain ⟨vs, d1, d2⟩ := (hM.lives o ob h1).vals blk cap hr
    obtain ⟨vi, k1, k2⟩ := d1.get _ _ h3
    obtain ⟨f1, f2⟩ := val_cells h4 k2
    refine ⟨blk, i * ob.sz + j, vi.cells.toList.drop j, rfl, hL blk ⟨o, ob, cap, h1, hr⟩, ih _ (f1.drop j), ?_⟩
    refine CAt.drop (off := i * ob.sz) (fun q u hu => ?_) j
    have := (d2 i vi k1).2 q u (by simpa using hu)
    simpa using this
  · intro cs ds _ ih v hv
    simp only [V] at hv ⊢
    obtain ⟨us, rfl, hv⟩ := hv
    exact ⟨us, rfl, ih us hv⟩
  · intro cs ds _ ih v hv
    simp only [V] at hv ⊢
    obtain ⟨us, rfl, hv⟩ := hv
    exact ⟨us, rfl, ih us hv⟩
  · intro c sz xs ys h ih v hv
    have hlen := h.length
    simp only [V] at hv ⊢
    obtain ⟨a, cap, h1, h2, h3, h4, h5⟩ := hv
    refine ⟨a, cap, by rw [hlen]; exact h1, by rw [hlen]; exact h2, h3, h4, fun hx => ?_⟩
    obtain ⟨g, off, vs, e1, e2, e3, e4⟩ := h5 (fun hq => hx (List.eq_nil_of_length_eq_zero (by rw [hlen, hq]; rfl)))
    refine ⟨g, off, vs, e1, ?_, ih vs e3, e4⟩
    cases c
    · exact hS g e2
    · exact hB g e2
  · intro c xs ys _ ih v hv
    simp only [V] at hv ⊢
    obtain ⟨g, off, us, h1, h2, h3, h4⟩ := hv
    refine ⟨g, off, us, h1, ?_, ih us h3, h4⟩
    cases c
    · exact hS g h2
    · exact hB g h2
  · intro c sz v hv
    simp only [V] at hv ⊢
    obtain ⟨a, cap, h1, h2, h3, h4, _⟩ := hv
    exact ⟨a, cap, h1, h2, h3, ⟨h4.1, fun _ => h4.2 trivial⟩, fun h => absurd rfl h⟩
  · intro vs hv
    simp only [VL] at hv ⊢
    exact hv
  · intro x y xs ys _ _ ih1 ih2 vs hv
    simp only [VL] at hv ⊢
    obtain ⟨u, us, rfl, h1, h2⟩ := hv
    exact ⟨u, us, rfl, ih1 u h1, ih2 us h2⟩
theorem FrzL_sound {xs ys : List AV} (h : FrzL b σ xs ys) : ∀ vs, VL Γ σ w xs vs → VL Γ' σ' w ys vs := by
  induction xs generalizing ys with
  | nil => cases h; intro vs hv; simp only [VL] at hv ⊢; exact hv
  | cons x xs ih =>
    cases h with
    | cons h k =>
      intro vs hv
      simp only [VL] at hv ⊢
      obtain ⟨u, us, rfl, h1, h2⟩ := hv
      exact ⟨u, us, rfl, Frz_sound hM hS hB hL h u h1, ih k us h2⟩
end
end
section
variable {Γ : Ctx} {σ : St} {w : World} {P : Program} {T : Tab}
theorem Tab.sl_mono {t : Nat} {K K' : Nat → TI → Prop} (h : T.sl t K) (hk : ∀ e te, K e te → K' e te) : T.sl t K' := by
  unfold Tab.sl at h ⊢
  cases hq : T t with
  | none => rw [hq] at h; exact h.elim
  | some ti =>
    rw [hq] at h
    simp only at h ⊢
    cases hk2 : ti.k with
    | slice e =>
      rw [hk2] at h
      simp only at h ⊢
      cases hq2 : T e with
      | none => rw [hq2] at h; exact h.elim
      | some te => rw [hq2] at h; exact hk _ _ h
    | _ => rw [hk2] at h; exact h.elim
theorem Tab.ty_mono {t : Nat} {K K' : TI → Prop} (h : T.ty t K) (hk : ∀ ti, K ti → K' ti) : T.ty t K' := by
  unfold Tab.ty at h ⊢
  split at h
  · exact hk _ h
  · exact h.elim
/-- a conversion; the bytes of a live slice -/
def aConvS (T : Tab) (src dst : Nat) (x : AV) (σ : St) (K : AV → Prop) : Prop :=
  match x with
  | .ref o g off len => T.sl src fun _ te => te.k = .int .u8 ∧ T.ty dst fun ti => ti.k = .str ∧ ∃ ob, σ.objs o = some ob ∧ ob.gen = g ∧ ∃ bs : List UInt8, (ob.els.drop off).take len = bs.map byteAV ∧ K (.sc (.string ⟨bs.toArray⟩))
  | x => aConv T src dst x K
theorem aConvS_sound (hT : TabOk P T) (hM : Models Γ σ w) {src dst : Nat} {x : AV} {K : AV → Prop} (h : aConvS T src dst x σ K) {u : Value} (hu : V Γ σ w x u) :
    ∃ z r, (convert src dst u).run P w = .ok z w ∧ K r ∧ V Γ σ w r z := by
  unfold aConvS at h
  split at h
  · rename_i o g off len
    obtain ⟨e, te, h1, h2, h3⟩ := Tab.sl_out hT h
    have hq : ∃ ob, σ.objs o = some ob ∧ ob.gen = g ∧ ∃ bs : List UInt8, (ob.els.drop off).take len = bs.map byteAV ∧ K (.sc (.string ⟨bs.toArray⟩)) := by
      obtain ⟨_, _, _, h4⟩ := Tab.ty_out hT h3.2
      exact h4
    obtain ⟨ob, q1, q2, bs, q3, q4⟩ := hq
    have hc : aConv T src dst (.lst true ob.sz (bs.map byteAV)) fun r => r = .sc (.string ⟨bs.toArray⟩) := by
      exact Tab.sl_mono h fun e te ⟨k1, k2⟩ => ⟨k1, Tab.ty_mono k2 fun ti ⟨k3, _⟩ => ⟨k3, bs, rfl, rfl⟩⟩
    let Γ2 : Ctx := { S := Γ.S, B := fun g => Γ.B g ∨ σ.isLive Γ g, row := Γ.row }
    have hL : ∀ g, σ.isLive Γ g → Γ2.inn true g := fun g hg => show Γ2.B g from Or.inr hg
    have hv : V Γ2 σ w (.lst true ob.sz (bs.map byteAV)) u := by
      refine Frz_sound (b := true) (y := .lst true ob.sz (bs.map byteAV)) hM (Γ' := Γ2) (fun g hg => hg) (fun g hg => Or.inl hg) hL (.ref q1 q2 ?_) u hu
      rw [q3]
      refine FrzL.same ?_
      clear q3 q4 hc
      induction bs with
      | nil => rfl
      | cons b bs ih => simp only [List.map_cons, pureAVs, ih, Bool.and_true]; rfl
    obtain ⟨z, r, r1, r2, r3⟩ := aConv_sound (P := P) hT hc hv
    subst r2
    refine ⟨z, _, r1, q4, ?_⟩
    simp only [V] at r3 ⊢
    exact r3
  · exact aConv_sound hT h hu
end
end Go.Ab
