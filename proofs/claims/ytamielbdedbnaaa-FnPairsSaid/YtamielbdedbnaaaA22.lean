/- Ab, part 22: calls that are lent what the caller's objects read as, and whose own objects live on in the caller's store. -/
import Derived.Test.YtamielbdedbnaaaA21
set_option linter.unusedSimpArgs false
set_option linter.unusedVariables false
namespace Go.Ab
open Go.RowKit
mutual
/-- nothing lent, and all objects from n on -/
def ownAV (n : Nat) : AV → Prop
  | .junk | .sc _ => True
  | .agg cs | .tup cs => ownAVs n cs
  | .lst b _ xs => b = false ∧ ownAVs n xs
  | .rp b cs => b = false ∧ ownAVs n cs
  | .ref o _ _ _ | .ptr o _ _ _ => n ≤ o
  | .fn _ us vs => ownAVs n us ∧ ownAVs n vs
  | .ifc _ x => ownAV n x
def ownAVs (n : Nat) : List AV → Prop
  | [] => True
  | x :: xs => ownAV n x ∧ ownAVs n xs
end
theorem owns_iff {n : Nat} : ∀ {xs : List AV}, ownAVs n xs ↔ ∀ x ∈ xs, ownAV n x
  | [] => by simp [ownAVs]
  | x :: xs => by simp [ownAVs, owns_iff (xs := xs)]
mutual
theorem own_pure {n : Nat} : ∀ (x : AV), pureAV true x = true → ownAV n x
  | .junk, _ => trivial
  | .sc v, _ => trivial
  | .agg cs, h => by simp only [pureAV] at h; exact owns_pure cs h
  | .tup cs, h => by simp only [pureAV] at h; exact owns_pure cs h
  | .lst b _ xs, h => by simp only [pureAV, Bool.and_eq_true, Bool.true_and, Bool.not_eq_true'] at h; exact ⟨h.1, owns_pure xs h.2⟩
  | .rp b cs, h => by simp only [pureAV, Bool.and_eq_true, Bool.true_and, Bool.not_eq_true'] at h; exact ⟨h.1, owns_pure cs h.2⟩
  | .ref _ _ _ _, h => by simp [pureAV] at h
  | .ptr _ _ _ _, h => by simp [pureAV] at h
  | .fn _ us vs, h => by simp only [pureAV, Bool.and_eq_true] at h; exact ⟨owns_pure us h.1, owns_pure vs h.2⟩
  | .ifc _ x, h => by simp only [pureAV] at h; exact own_pure x h
theorem owns_pure {n : Nat} : ∀ (xs : List AV), pureAVs true xs = true → ownAVs n xs
  | [], _ => trivial
  | x :: xs, h => by simp only [pureAVs, Bool.and_eq_true] at h; exact ⟨own_pure x h.1, owns_pure xs h.2⟩
end
section
variable {Γ Γ' : Ctx} {σ σ' : St} {w : World} {n : Nat}
mutual
theorem V_own (hS : ∀ g, Γ.S g → Γ'.S g) (hO : ∀ o, n ≤ o → σ'.objs o = σ.objs o) (hR : ∀ o, n ≤ o → Γ'.row o = Γ.row o) (hN : σ.next ≤ σ'.next) : ∀ (x : AV) (v : Value), ownAV n x → V Γ σ w x v → V Γ' σ' w x v
  | .junk, _, _, _ => by simp only [V]
  | .sc v, u, _, h => by simp only [V] at h ⊢; exact h
  | .agg cs, u, hp, h => by
    simp only [V] at h ⊢
    obtain ⟨us, h1, h2⟩ := h
    exact ⟨us, h1, VL_own hS hO hR hN cs us (by simpa [ownAV] using hp) h2⟩
  | .tup cs, u, hp, h => by
    simp only [V] at h ⊢
    obtain ⟨us, h1, h2⟩ := h
    exact ⟨us, h1, VL_own hS hO hR hN cs us (by simpa [ownAV] using hp) h2⟩
  | .lst b sz xs, u, hp, h => by
    simp only [ownAV] at hp
    obtain ⟨rfl, hp⟩ := hp
    simp only [V] at h ⊢
    obtain ⟨a, cap, h1, h2, h3, h4, h5⟩ := h
    refine ⟨a, cap, h1, h2, h3, h4, fun hx => ?_⟩
    obtain ⟨g, off, vs, e1, e2, e3, e4⟩ := h5 hx
    exact ⟨g, off, vs, e1, hS g e2, VL_own hS hO hR hN xs vs hp e3, e4⟩
  | .rp b cs, u, hp, h => by
    simp only [ownAV] at hp
    obtain ⟨rfl, hp⟩ := hp
    simp only [V] at h ⊢
    obtain ⟨g, off, us, h1, h2, h3, h4⟩ := h
    exact ⟨g, off, us, h1, hS g h2, VL_own hS hO hR hN cs us hp h3, h4⟩
  | .ref o g off len, u, hp, h => by
    simp only [ownAV] at hp
    simp only [V] at h ⊢
    obtain ⟨h1, h2, h3⟩ := h
    refine ⟨h1, Nat.lt_of_lt_of_le h2 hN, ?_⟩
    rw [hO o hp, hR o hp]; exact h3
  | .ptr o g i j, u, hp, h => by
    simp only [ownAV] at hp
    simp only [V] at h ⊢
    obtain ⟨h1, h2, h3⟩ := h
    refine ⟨h1, Nat.lt_of_lt_of_le h2 hN, ?_⟩
    rw [hO o hp, hR o hp]; exact h3
  | .fn f first caps, u, hp, h => by
    simp only [ownAV] at hp
    simp only [V] at h ⊢
    obtain ⟨us, ws, h1, h2, h3⟩ := h
    exact ⟨us, ws, h1, VL_own hS hO hR hN first us hp.1 h2, VL_own hS hO hR hN caps ws hp.2 h3⟩
  | .ifc t x, u, hp, h => by
    simp only [V] at h ⊢
    obtain ⟨y, h1, h2⟩ := h
    exact ⟨y, h1, V_own hS hO hR hN x y (by simpa [ownAV] using hp) h2⟩
theorem VL_own (hS : ∀ g, Γ.S g → Γ'.S g) (hO : ∀ o, n ≤ o → σ'.objs o = σ.objs o) (hR : ∀ o, n ≤ o → Γ'.row o = Γ.row o) (hN : σ.next ≤ σ'.next) : ∀ (xs : List AV) (vs : List Value), ownAVs n xs → VL Γ σ w xs vs → VL Γ' σ' w xs vs
  | [], us, _, h => by simp only [VL] at h ⊢; exact h
  | c :: cs, us, hp, h => by
    simp only [ownAVs] at hp
    simp only [VL] at h ⊢
    obtain ⟨u, us', h1, h2, h3⟩ := h
    exact ⟨u, us', h1, V_own hS hO hR hN c u hp.1 h2, VL_own hS hO hR hN cs us' hp.2 h3⟩
end
end
/-! ### objects forgotten -/
section
variable {Γ Γ' : Ctx} {σ σ0 σ' : St} {w w' : World}
mutual
theorem V_forget (hO : ∀ o ob, σ'.objs o = some ob → σ.objs o = some ob) (hN : σ'.next = σ.next) : ∀ (x : AV) (v : Value), V Γ σ w x v → V Γ σ' w x v
  | .junk, _, _ => by simp only [V]
  | .sc v, u, h => by simp only [V] at h ⊢; exact h
  | .agg cs, u, h => by
    simp only [V] at h ⊢
    obtain ⟨us, h1, h2⟩ := h
    exact ⟨us, h1, VL_forget hO hN cs us h2⟩
  | .tup cs, u, h => by
    simp only [V] at h ⊢
    obtain ⟨us, h1, h2⟩ := h
    exact ⟨us, h1, VL_forget hO hN cs us h2⟩
  | .lst b sz xs, u, h => by
    simp only [V] at h ⊢
    obtain ⟨a, cap, h1, h2, h3, h4, h5⟩ := h
    refine ⟨a, cap, h1, h2, h3, h4, fun hx => ?_⟩
    obtain ⟨g, off, vs, e1, e2, e3, e4⟩ := h5 hx
    exact ⟨g, off, vs, e1, e2, VL_forget hO hN xs vs e3, e4⟩
  | .rp b cs, u, h => by
    simp only [V] at h ⊢
    obtain ⟨g, off, us, h1, h2, h3, h4⟩ := h
    exact ⟨g, off, us, h1, h2, VL_forget hO hN cs us h3, h4⟩
  | .ref o g off len, u, h => by
    simp only [V] at h ⊢
    obtain ⟨h1, h2, h3⟩ := h
    exact ⟨h1, by omega, fun ob hob => h3 ob (hO o ob hob)⟩
  | .ptr o g i j, u, h => by
    simp only [V] at h ⊢
    obtain ⟨h1, h2, h3⟩ := h
    exact ⟨h1, by omega, fun ob hob => h3 ob (hO o ob hob)⟩
  | .fn f first caps, u, h => by
    simp only [V] at h ⊢
    obtain ⟨us, ws, h1, h2, h3⟩ := h
    exact ⟨us, ws, h1, VL_forget hO hN first us h2, VL_forget hO hN caps ws h3⟩
  | .ifc t x, u, h => by
    simp only [V] at h ⊢
    obtain ⟨y, h1, h2⟩ := h
    exact ⟨y, h1, V_forget hO hN x y h2⟩
theorem VL_forget (hO : ∀ o ob, σ'.objs o = some ob → σ.objs o = some ob) (hN : σ'.next = σ.next) : ∀ (xs : List AV) (vs : List Value), VL Γ σ w xs vs → VL Γ σ' w xs vs
  | [], us, h => by simp only [VL] at h ⊢; exact h
  | c :: cs, us, h => by
    simp only [VL] at h ⊢
    obtain ⟨u, us', h1, h2, h3⟩ := h
    exact ⟨u, us', h1, V_forget hO hN c u h2, VL_forget hO hN cs us' h3⟩
end
theorem live_forget (hO : ∀ o ob, σ'.objs o = some ob → σ.objs o = some ob) {g : Nat} (h : σ'.isLive Γ g) : σ.isLive Γ g := by
  obtain ⟨o, ob, c, h1, h2⟩ := h; exact ⟨o, ob, c, hO o ob h1, h2⟩
theorem step_forget (h : Step Γ σ0 w Γ' σ w') (hO : ∀ o ob, σ'.objs o = some ob → σ.objs o = some ob) (hN : σ'.next = σ.next) : Step Γ σ0 w Γ' σ' w' :=
  { os := h.os, tape := h.tape, output := h.output, size := h.size, keep := h.keep, S := h.S, B := h.B, newS := h.newS, next := by rw [hN]; exact h.next
    obj := fun o ob' ho hob => h.obj o ob' ho (hO o ob' hob)
    fresh := fun g hg => h.fresh g (live_forget hO hg) }
theorem models_forget (h : Models Γ σ w) (hO : ∀ o ob, σ'.objs o = some ob → σ.objs o = some ob) (hN : σ'.next = σ.next) : Models Γ σ' w where
  lt := fun o ob ho => by rw [hN]; exact h.lt o ob (hO o ob ho)
  lives := fun o ob ho => by
    have hl := h.lives o ob (hO o ob ho)
    refine ⟨hl.sz, hl.nil, hl.cells, fun g c hr => ?_⟩
    obtain ⟨vs, h1, h2⟩ := hl.vals g c hr
    exact ⟨vs, VL_forget hO hN _ _ h1, h2⟩
  inj := fun o o' ob ob' g c c' h1 h2 => h.inj o o' ob ob' g c c' (hO o ob h1) (hO o' ob' h2)
  sub := h.sub
  size := h.size
end
/-- σ, and what σ' has laid from there on -/
def St.join (σ σ' : St) : St := { objs := fun o => if o < σ.next then σ.objs o else σ'.objs o, next := σ'.next }
theorem join_lt {σ σ' : St} {o : Nat} (h : o < σ.next) : (σ.join σ').objs o = σ.objs o := if_pos h
theorem join_ge {σ σ' : St} {o : Nat} (h : σ.next ≤ o) : (σ.join σ').objs o = σ'.objs o := if_neg (by omega)
theorem join_next {σ σ' : St} : (σ.join σ').next = σ'.next := rfl
section
variable {P : Program} {T : Tab} {σ : St} {f : FuncId} {args args' : List AV}
/-- A call that is lent what the caller's objects read as; its own objects live on. -/
theorem acall_make {R K : AV → St → Prop} (h : ACall P f args' (St.emp σ.next) R) (hfr : FrzL true σ args args')
    (hR : ∀ r σc, σ.next ≤ σc.next → (∀ o ob, σc.objs o = some ob → σ.next ≤ o) → R r σc → ∃ σk : St, σk.next = σc.next ∧ (∀ o ob, σk.objs o = some ob → σc.objs o = some ob ∧ ownAVs σ.next ob.els) ∧ ownAV σ.next r ∧ K r (σ.join σk)) : ACall P f args σ K := by
  refine ⟨h.1, fun Γ w vs hM hv => ?_⟩
  let Γc : Ctx := { S := Γ.S, B := fun g => g < w.heap.size, row := Γ.row }
  have hMc : Models Γc (St.emp σ.next) w := emp_models (fun g hg => hM.size g (hM.sub g hg)) (fun g hg => hg)
  have hvc : VL Γc (St.emp σ.next) w args' vs := FrzL_sound (Γ' := Γc) (σ' := St.emp σ.next) hM (fun g hg => hg) (fun g hg => hM.size g hg) (fun g ⟨o, ob, c, h1, h2⟩ => by
    have hl := hM.lives o ob h1
    rw [h2] at hl
    exact hl.lt) hfr vs hv
  refine (h.2 Γc w vs hMc hvc).mono ?_
  rintro en w' ⟨r, v, Γ', σ1, h1, h2, h31, h41, h51⟩
  have hge1 : ∀ o ob, σ1.objs o = some ob → σ.next ≤ o := fun o ob ho => by
    rcases Nat.lt_or_ge o σ.next with hlt | hge
    · obtain ⟨ob', hq, _⟩ := h31.obj o ob hlt ho; cases hq
    · exact hge
  obtain ⟨σ', hk1, hk2, hp, hK⟩ := hR r σ1 h31.next hge1 h2
  have h3 := step_forget h31 (fun o ob h => (hk2 o ob h).1) hk1
  have h4 := models_forget h41 (fun o ob h => (hk2 o ob h).1) hk1
  have h5 := V_forget (fun o ob h => (hk2 o ob h).1) hk1 r v h51
  have hob : ∀ o ob, σ'.objs o = some ob → ownAVs σ.next ob.els := fun o ob h => (hk2 o ob h).2
  have hnx : σ.next ≤ σ'.next := h3.next
  have hge : ∀ o ob, σ'.objs o = some ob → σ.next ≤ o := fun o ob ho => hge1 o ob (hk2 o ob ho).1
  let Γ2 : Ctx := { S := fun g => Γ.S g ∨ (w.heap.size ≤ g ∧ Γ'.S g), B := fun g => Γ.B g ∨ (w.heap.size ≤ g ∧ Γ'.S g), row := fun o => if o < σ.next then Γ.row o else Γ'.row o }
  have hrow1 : ∀ o, o < σ.next → Γ2.row o = Γ.row o := fun o ho => if_pos ho
  have hrow2 : ∀ o, σ.next ≤ o → Γ2.row o = Γ'.row o := fun o ho => if_neg (by omega)
  have hkeep : ∀ g, g < w.heap.size → w'.heap[g]? = w.heap[g]? := fun g hg => h3.keep g hg emp_live
  have hS2 : ∀ g, Γ'.S g → Γ2.S g := fun g hg => by
    rcases h3.newS g hg with hg' | hg' | hg'
    · exact .inl hg'
    · exact .inr ⟨hg', hg⟩
    · exact absurd hg' emp_live
  have hnew : ∀ o ob g c, σ'.objs o = some ob → Γ'.row o = some (g, c) → w.heap.size ≤ g := fun o ob g c ho hr => by
    rcases h3.fresh g ⟨o, ob, c, ho, hr⟩ with hq | hq
    · exact hq
    · exact absurd hq emp_live
  have hs : Step Γ σ w Γ2 (σ.join σ') w' :=
    { os := h3.os, tape := h3.tape, output := h3.output, size := h3.size, keep := fun g hg _ => hkeep g hg, S := fun g hg => .inl hg, B := fun g hg => .inl hg
      newS := fun g hg => by
        rcases hg with hg | hg
        · exact .inl hg
        · exact .inr (.inl hg.1)
      next := hnx
      obj := fun o ob' ho h => by
        rw [join_lt ho] at h
        exact ⟨ob', h, Nat.le_refl _, fun _ => ⟨hrow1 o ho, rfl, rfl⟩⟩
      fresh := fun g ⟨o, ob, c, ho, hr⟩ => by
        rcases Nat.lt_or_ge o σ.next with hlt | hge'
        · rw [join_lt hlt] at ho; rw [hrow1 o hlt] at hr
          exact .inr ⟨o, ob, c, ho, hr⟩
        · rw [join_ge hge'] at ho; rw [hrow2 o hge'] at hr
          exact .inl (hnew o ob g c ho hr) }
  have hM2 : Models Γ2 (σ.join σ') w' := by
    refine ⟨fun o ob ho => ?_, fun o ob ho => ?_, fun o o' ob ob' g c c' ho ho' hr hr' => ?_, fun g hg => hg.imp (hM.sub g) id, fun g hg => ?_⟩
    · rcases Nat.lt_or_ge o σ.next with hlt | hge'
      · exact Nat.lt_of_lt_of_le hlt hnx
      · rw [join_ge hge'] at ho; exact h4.lt o ob ho
    · rcases Nat.lt_or_ge o σ.next with hlt | hge'
      · rw [join_lt hlt] at ho; rw [hrow1 o hlt]
        have hl := hM.lives o ob ho
        refine hl.over hM hs (fun g c hr => ?_) (fun g c hr hq => ?_)
        · rw [hr] at hl; exact hkeep g hl.lt
        · rcases hq with hq | hq
          · exact (hl.cells g c hr).2.2.2 hq
          · rw [hr] at hl; have := hl.lt; omega
      · rw [join_ge hge'] at ho; rw [hrow2 o hge']
        have hl := h4.lives o ob ho
        refine ⟨hl.sz, hl.nil, fun g c hr => ?_, fun g c hr => ?_⟩
        · obtain ⟨a1, a2, a3, a4⟩ := hl.cells g c hr
          refine ⟨a1, a2, a3, fun hq => ?_⟩
          have hng := hnew o ob g c ho hr
          rcases hq with hq | hq
          · have := hM.size g hq; omega
          · exact a4 (h4.sub g hq.2)
        · obtain ⟨us, b1, b2⟩ := hl.vals g c hr
          exact ⟨us, VL_own (n := σ.next) hS2 (fun o ho => join_ge ho) (fun o ho => hrow2 o ho) (Nat.le_refl _) _ _ (hob o ob ho) b1, b2⟩
    · rcases Nat.lt_or_ge o σ.next with h1 | h1 <;> rcases Nat.lt_or_ge o' σ.next with h2 | h2
      · rw [join_lt h1] at ho; rw [join_lt h2] at ho'; rw [hrow1 _ h1] at hr; rw [hrow1 _ h2] at hr'
        exact hM.inj o o' ob ob' g c c' ho ho' hr hr'
      · rw [join_lt h1] at ho; rw [join_ge h2] at ho'; rw [hrow1 _ h1] at hr; rw [hrow2 _ h2] at hr'
        have hl := hM.lives o ob ho
        rw [hr] at hl
        have := hl.lt; have := hnew o' ob' g c' ho' hr'; omega
      · rw [join_ge h1] at ho; rw [join_lt h2] at ho'; rw [hrow2 _ h1] at hr; rw [hrow1 _ h2] at hr'
        have hl := hM.lives o' ob' ho'
        rw [hr'] at hl
        have := hl.lt; have := hnew o ob g c ho hr; omega
      · rw [join_ge h1] at ho; rw [join_ge h2] at ho'; rw [hrow2 _ h1] at hr; rw [hrow2 _ h2] at hr'
        exact h4.inj o o' ob ob' g c c' ho ho' hr hr'
    · rcases hg with hg | hg
      · exact Nat.lt_of_lt_of_le (hM.size g hg) h3.size
      · exact h4.size g (h4.sub g hg.2)
  exact ⟨r, v, Γ2, σ.join σ', h1, hK, hs, hM2, V_own (n := σ.next) hS2 (fun o ho => join_ge ho) (fun o ho => hrow2 o ho) (Nat.le_refl _) r v hp h5⟩
end
section
variable {σ : St}
theorem Cut.frzL {b : Bool} {ty sz : Nat} {xs ys : List AV} {x : AV} {o : Option Nat} (h : Cut ty sz xs x o σ) (hp : FrzL b σ xs ys) : ∃ c, Frz b σ x (.lst c sz ys) := by
  cases o with
  | none => obtain ⟨rfl, rfl⟩ := h; cases hp; exact ⟨false, .nil⟩
  | some o =>
    obtain ⟨gen, els, rfl, c2, c3, c4⟩ := h
    refine ⟨b, .ref (ob := ⟨ty, sz, gen, els⟩) c2 rfl ?_⟩
    rw [List.drop_zero]; show FrzL b σ (els.take xs.length) ys
    rw [c3]; exact hp
theorem Cut.lt {ty sz : Nat} {xs : List AV} {x : AV} {o : Nat} (h : Cut ty sz xs x (some o) σ) : o < σ.next := by
  obtain ⟨_, _, _, _, _, h⟩ := h; exact h
end
end Go.Ab
