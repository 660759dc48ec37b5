/- The search for the best pairs: what it computes, and where it lies. -/
import Derived.Test.YtamielbdedbnaaaW6
import Derived.Test.YtamielbdedbnaaaA22
set_option linter.unusedSimpArgs false
set_option linter.unusedVariables false
namespace Go.Proofs.Ytamielbdedbnaaa
open Go.Ab Go.RowKit
variable {σ : St} {Q : AV → St → Prop}
structure SS where
  bud : Int
  paired : List Bool
  pairs : List (List Int)
  best : List (List Int)
  most : Int
/-- the first from i on that is not taken -/
def skip (p : List Bool) (i : Nat) : Nat := i + ((p.drop i).takeWhile id).length
theorem skip_step {p : List Bool} {i : Nat} (h : i < p.length) (k : p[i] = true) : skip p i = skip p (i + 1) := by
  unfold skip; rw [List.drop_eq_getElem_cons h, List.takeWhile_cons]; simp [k]; omega
theorem skip_stop {p : List Bool} {i : Nat} (h : i < p.length) (k : p[i] = false) : skip p i = i := by
  unfold skip; rw [List.drop_eq_getElem_cons h, List.takeWhile_cons]; simp [k]
theorem skip_end {p : List Bool} {i : Nat} (h : p.length ≤ i) : skip p i = i := by
  unfold skip; rw [List.drop_of_length_le h]; simp
theorem skip_le {p : List Bool} {i : Nat} (h : i ≤ p.length) : i ≤ skip p i ∧ skip p i ≤ p.length := by
  unfold skip
  have := (List.takeWhile_sublist (p := id) (l := p.drop i)).length_le
  rw [List.length_drop] at this; omega
def leafS (s : SS) (p : Int) : SS := if s.most < p ∨ p = s.most ∧ lexC (lexC cmpI) s.pairs s.best < 0 then { s with best := s.pairs, most := p } else s
def addS (lv : Int) (p : Int) (g : Grp) : Int := if gOk g && gGoes g lv then IntKind.i64.wrap (p + g.pe) else p
def nodeS (vis : SS → Nat → Int → SS) (lv : Int) (s : SS) (i : Nat) (p : Int) (g : Grp) : SS :=
  if IntKind.i64.wrap (s.bud - 1) < 0 then { s with bud := IntKind.i64.wrap (s.bud - 1) } else vis { s with bud := IntKind.i64.wrap (s.bud - 1) } (i + 1) (addS lv p g)
def pairS (vis : SS → Nat → Int → SS) (l : List Grp) (lv : Int) (i : Nat) (p : Int) (s : SS) (k : Nat) : SS :=
  if s.paired.getD k false then s else
    let s2 := nodeS vis lv { s with paired := s.paired.set k true, pairs := s.pairs ++ [[(i : Int), (k : Int)]] } i p (gWith (gAt l i) (gAt l k) (gAt l i).id)
    { s2 with pairs := s2.pairs.take (s2.pairs.length - 1), paired := s2.paired.set k false }
def visS (l : List Grp) (lv : Int) : Nat → SS → Nat → Int → SS
  | 0, s, _, _ => s
  | f + 1, s, i, p =>
    if skip s.paired i = l.length then leafS s p
    else nodeS (visS l lv f) lv ((List.range' (skip s.paired i + 1) (l.length - (skip s.paired i + 1))).foldl (pairS (visS l lv f) l lv (skip s.paired i) p) s) (skip s.paired i) p (gAt l (skip s.paired i))

/-- Rows that live: each an object of its own, r.1 its number, r.2 its state. -/
def RowsAt (σ : St) : List (Nat × Nat) → List (List Int) → Prop
  | [], [] => True
  | r :: rs, b :: bs => σ.objs r.1 = some ⟨2, 1, r.2, b.map i64⟩ ∧ r.1 < σ.next ∧ RowsAt σ rs bs
  | _, _ => False
def rowsAV (rs : List (Nat × Nat)) (bs : List (List Int)) : List AV := List.zipWith (fun r b => .ref r.1 r.2 0 b.length) rs bs
theorem RowsAt.len : ∀ {rs : List (Nat × Nat)} {bs : List (List Int)}, RowsAt σ rs bs → rs.length = bs.length
  | [], [], _ => rfl
  | r :: rs, b :: bs, h => by simp [RowsAt.len h.2.2]
  | [], _ :: _, h => h.elim
  | _ :: _, [], h => h.elim
theorem RowsAt.lt : ∀ {rs : List (Nat × Nat)} {bs : List (List Int)}, RowsAt σ rs bs → ∀ r ∈ rs, r.1 < σ.next
  | [], [], _, r, hr => by cases hr
  | x :: rs, b :: bs, h, r, hr => by
    rcases List.mem_cons.1 hr with rfl | hr
    · exact h.2.1
    · exact RowsAt.lt h.2.2 r hr
  | [], _ :: _, h, _, _ => h.elim
  | _ :: _, [], h, _, _ => h.elim
theorem RowsAt.frame {σ' : St} (hn : σ.next ≤ σ'.next) : ∀ {rs : List (Nat × Nat)} {bs : List (List Int)}, RowsAt σ rs bs → (∀ r ∈ rs, σ'.objs r.1 = σ.objs r.1) → RowsAt σ' rs bs
  | [], [], _, _ => trivial
  | r :: rs, b :: bs, h, hf => ⟨(hf r (by simp)).trans h.1, by have := h.2.1; omega, RowsAt.frame hn h.2.2 fun x hx => hf x (by simp [hx])⟩
  | [], _ :: _, h, _ => h.elim
  | _ :: _, [], h, _ => h.elim
theorem RowsAt.snoc {o g : Nat} {b : List Int} (h1 : σ.objs o = some ⟨2, 1, g, b.map i64⟩) (h2 : o < σ.next) : ∀ {rs : List (Nat × Nat)} {bs : List (List Int)}, RowsAt σ rs bs → RowsAt σ (rs ++ [(o, g)]) (bs ++ [b])
  | [], [], _ => ⟨h1, h2, trivial⟩
  | r :: rs, c :: bs, h => ⟨h.1, h.2.1, RowsAt.snoc h1 h2 h.2.2⟩
  | [], _ :: _, h => h.elim
  | _ :: _, [], h => h.elim
theorem RowsAt.frz {c : Bool} : ∀ {rs : List (Nat × Nat)} {bs : List (List Int)}, RowsAt σ rs bs → FrzL c σ (rowsAV rs bs) (bs.map fun p => .lst c 1 (p.map i64))
  | [], [], _ => .nil
  | r :: rs, b :: bs, h => by
    refine .cons (.ref (ob := ⟨2, 1, r.2, b.map i64⟩) h.1 rfl ?_) (RowsAt.frz h.2.2)
    show FrzL c σ (((b.map i64).drop 0).take b.length) (b.map i64)
    rw [List.drop_zero, List.take_of_length_le (by simp)]
    exact FrzL.same (pures_map _ fun _ => rfl)
  | [], _ :: _, h => h.elim
  | _ :: _, [], h => h.elim
theorem rowsAV_len {rs : List (Nat × Nat)} {bs : List (List Int)} (h : RowsAt σ rs bs) : (rowsAV rs bs).length = bs.length := by
  unfold rowsAV; rw [List.length_zipWith, h.len, Nat.min_self]
theorem rowsAV_snoc {rs : List (Nat × Nat)} {bs : List (List Int)} (h : RowsAt σ rs bs) (o g : Nat) (b : List Int) : rowsAV (rs ++ [(o, g)]) (bs ++ [b]) = rowsAV rs bs ++ [.ref o g 0 b.length] := by
  unfold rowsAV; rw [List.zipWith_append h.len]; rfl
/-- Where the search lies: its struct at os, the marks at oq, the pairs and the best pairs at op and ob, if they are not nil; the best pairs' rows at rs. -/
structure Mem (os gs oq gq : Nat) (cs : List AV) (pd : List Bool) (op : Option Nat) (ps : List (List Int)) (xp : AV) (ob : Option Nat) (rs : List (Nat × Nat)) (bs : List (List Int)) (xb : AV) (σ : St) : Prop where
  hS : σ.objs os = some ⟨67, 7, gs, [.agg cs]⟩
  hQ : σ.objs oq = some ⟨4, 1, gq, pd.map bl⟩
  hP : Cut 42 1 (ps.map pAV) xp op σ
  hB : Cut 42 1 (rowsAV rs bs) xb ob σ
  hR : RowsAt σ rs bs
  d1 : os ≠ oq
  dp : op ≠ some os ∧ op ≠ some oq
  db : ob ≠ some os ∧ ob ≠ some oq
  dd : op = none ∨ op ≠ ob
  lt : os < σ.next ∧ oq < σ.next
  dr : ∀ r ∈ rs, r.1 ≠ os ∧ r.1 ≠ oq ∧ op ≠ some r.1 ∧ ob ≠ some r.1
  nd : (rs.map (·.1)).Nodup
  ok : cs.all leafOk = true
variable {os gs oq gq : Nat} {cs : List AV} {pd : List Bool} {op : Option Nat} {ps : List (List Int)} {xp : AV} {ob : Option Nat} {rs : List (Nat × Nat)} {bs : List (List Int)} {xb : AV}
/-- new objects -/
theorem Mem.frame {σ' : St} (m : Mem os gs oq gq cs pd op ps xp ob rs bs xb σ) (hf : ∀ k, k < σ.next → σ'.objs k = σ.objs k) (hn : σ.next ≤ σ'.next) : Mem os gs oq gq cs pd op ps xp ob rs bs xb σ' :=
  ⟨(hf _ m.lt.1).trans m.hS, (hf _ m.lt.2).trans m.hQ, m.hP.frame (fun k hk => hf k (by have := m.hP; rw [hk] at this; exact this.lt)) hn, m.hB.frame (fun k hk => hf k (by have := m.hB; rw [hk] at this; exact this.lt)) hn,
    m.hR.frame hn (fun r hr => hf _ (m.hR.lt r hr)), m.d1, m.dp, m.db, m.dd, by have := m.lt; omega, m.dr, m.nd, m.ok⟩
/-- a field of the struct is written -/
theorem Mem.store (m : Mem os gs oq gq cs pd op ps xp ob rs bs xb σ) {t j : Nat} {v : AV} {ti : TI} {K : AV → St → Prop} (h1 : T t = some ti) (h2 : ti.size = 1) (hv : leafOk v = true) (hj : j < cs.length)
    (hK : ∀ σ', Mem os gs oq gq (cs.set j v) pd op ps xp ob rs bs xb σ' → σ'.next = σ.next → K (.tup []) σ') : aStore T t (.ptr os gs 0 j) v σ K := by
  have hc : v.cells = [v] ∧ valOk v = true := by cases v <;> simp_all [leafOk, AV.cells, valOk]
  refine ⟨_, m.hS, rfl, _, rfl, m.ok, hc.2, ?_⟩
  simp only [Tab.ty, h1, h2, hc.1]
  refine ⟨rfl, by simp only [AV.cells]; omega, hK _ ?_ rfl⟩
  have he : (AV.agg cs).put j [v] = .agg (cs.set j v) := by
    simp only [AV.put, List.length_singleton]
    rw [List.set_eq_take_append_cons_drop, if_pos hj]; simp
  have hf : ∀ k, k ≠ os → (σ.set os ⟨67, 7, gs, [AV.agg cs].set 0 ((AV.agg cs).put j [v])⟩).objs k = σ.objs k := fun k hk => by rw [set_objs, if_neg hk]
  refine ⟨?_, (hf _ (Ne.symm m.d1)).trans m.hQ, m.hP.frame (fun k hk => hf k (fun hq => m.dp.1 (by rw [hk, hq]))) (Nat.le_refl _), m.hB.frame (fun k hk => hf k (fun hq => m.db.1 (by rw [hk, hq]))) (Nat.le_refl _),
    m.hR.frame (by exact Nat.le_refl _) (fun r hr => hf _ (m.dr r hr).1), m.d1, m.dp, m.db, m.dd, m.lt, m.dr, m.nd, ?_⟩
  · rw [set_objs, if_pos rfl, he]; rfl
  · rw [List.all_eq_true]
    intro x hx
    rcases List.mem_or_eq_of_mem_set hx with h | h
    · exact List.all_eq_true.1 m.ok x h
    · rw [h]; exact hv
/-- a mark is written -/
theorem Mem.mark (m : Mem os gs oq gq cs pd op ps xp ob rs bs xb σ) {t i : Nat} {b : Bool} {ti : TI} {K : AV → St → Prop} (h1 : T t = some ti) (h2 : ti.size = 1) (hi : i < pd.length)
    (hK : ∀ σ', Mem os gs oq gq cs (pd.set i b) op ps xp ob rs bs xb σ' → σ'.next = σ.next → K (.tup []) σ') : aStore T t (.ptr oq gq i 0) (.sc (.bool b)) σ K := by
  refine ⟨_, m.hQ, rfl, bl pd[i], by simp [hi], rfl, rfl, ?_⟩
  simp only [Tab.ty, h1, h2, AV.cells]
  refine ⟨rfl, by simp, hK _ ?_ rfl⟩
  have hf : ∀ k, k ≠ oq → (σ.set oq ⟨4, 1, gq, (pd.map bl).set i ((bl pd[i]).put 0 [.sc (.bool b)])⟩).objs k = σ.objs k := fun k hk => by rw [set_objs, if_neg hk]
  refine ⟨(hf _ m.d1).trans m.hS, ?_, m.hP.frame (fun k hk => hf k (fun hq => m.dp.2 (by rw [hk, hq]))) (Nat.le_refl _), m.hB.frame (fun k hk => hf k (fun hq => m.db.2 (by rw [hk, hq]))) (Nat.le_refl _),
    m.hR.frame (by exact Nat.le_refl _) (fun r hr => hf _ (m.dr r hr).2.1), m.d1, m.dp, m.db, m.dd, m.lt, m.dr, m.nd, m.ok⟩
  rw [set_objs, if_pos rfl]
  simp [AV.put, List.map_set]
/-- the pairs grow -/
theorem Mem.growP (m : Mem os gs oq gq cs pd op ps xp ob rs bs xb σ) {new : List Int} {K : AV → St → Prop} (hl : ps.length ≤ 1000)
    (hK : ∀ xp' op' σ', Mem os gs oq gq cs pd op' (ps ++ [new]) xp' ob rs bs xb σ' → K xp' σ') : aAppend T 39 39 xp (.lst false 1 [pAV new]) σ K := by
  refine m.hP.append rfl rfl ⟨rfl, rfl, by decide, rfl⟩ rfl (by simp; omega) (by simp; omega) (fun x' o' σ' hC hF hn ho => hK x' o' σ' ?_)
  have h1 := m.lt
  have hlt : ∀ k, ob = some k → k < σ.next := fun k hk => by
    have := m.hB; rw [hk] at this; exact this.lt
  refine ⟨(hF _ h1.1 m.dp.1).trans m.hS, (hF _ h1.2 m.dp.2).trans m.hQ, by simpa using hC, m.hB.frame (fun k hk => hF k (hlt k hk) (fun hq => ?_)) hn, m.hR.frame hn (fun r hr => hF _ (m.hR.lt r hr) (m.dr r hr).2.2.1), m.d1, ?_, m.db, ?_, by omega, fun r hr => ?_, m.nd, m.ok⟩
  · rcases m.dd with h | h
    · rw [h] at hq; cases hq
    · exact h (by rw [hq, hk])
  · rcases ho with rfl | rfl
    · exact m.dp
    · exact ⟨fun h => by cases h; omega, fun h => by cases h; omega⟩
  · rcases ho with rfl | rfl
    · exact m.dd
    · exact .inr (fun h => by have := hlt _ h.symm; omega)
  · obtain ⟨a1, a2, a3, a4⟩ := m.dr r hr
    refine ⟨a1, a2, ?_, a4⟩
    rcases ho with rfl | rfl
    · exact a3
    · exact fun h => by have h := Option.some.inj h; have := m.hR.lt r hr; omega
/-- the best pairs grow by a row that lives -/
theorem Mem.growB (m : Mem os gs oq gq cs pd op ps xp ob rs bs xb σ) {new : List Int} {o g : Nat} {K : AV → St → Prop} (hl : bs.length ≤ 1000) (ho : σ.objs o = some ⟨2, 1, g, new.map i64⟩) (hlo : o < σ.next)
    (hne : o ≠ os ∧ o ≠ oq ∧ op ≠ some o ∧ ob ≠ some o ∧ ∀ r ∈ rs, r.1 ≠ o)
    (hK : ∀ xb' ob' σ', Mem os gs oq gq cs pd op ps xp ob' (rs ++ [(o, g)]) (bs ++ [new]) xb' σ' → K xb' σ') : aAppend T 39 39 xb (.lst false 1 [.ref o g 0 new.length]) σ K := by
  have hrl := rowsAV_len m.hR
  refine m.hB.append rfl rfl ⟨rfl, rfl, by decide, rfl⟩ rfl (by simp; omega) (by simp; omega) (fun x' o' σ' hC hF hn ho' => hK x' o' σ' ?_)
  have h1 := m.lt
  obtain ⟨n1, n2, n3, n4, n5⟩ := hne
  have hlt : ∀ k, op = some k → k < σ.next := fun k hk => by
    have := m.hP; rw [hk] at this; exact this.lt
  have hobj : σ'.objs o = some ⟨2, 1, g, new.map i64⟩ := (hF o hlo n4).trans ho
  refine ⟨(hF _ h1.1 m.db.1).trans m.hS, (hF _ h1.2 m.db.2).trans m.hQ, m.hP.frame (fun k hk => hF k (hlt k hk) (fun hq => ?_)) hn, by rw [rowsAV_snoc m.hR]; exact hC,
    (m.hR.frame hn (fun r hr => hF _ (m.hR.lt r hr) (m.dr r hr).2.2.2)).snoc hobj (by omega), m.d1, m.dp, ?_, ?_, by omega, fun r hr => ?_, ?_, m.ok⟩
  · rcases m.dd with h | h
    · rw [h] at hk; cases hk
    · exact h (by rw [hq, hk])
  · rcases ho' with rfl | rfl
    · exact m.db
    · exact ⟨fun h => by cases h; omega, fun h => by cases h; omega⟩
  · rcases ho' with rfl | rfl
    · exact m.dd
    · exact .inr (fun h => by have := hlt _ h; omega)
  · rcases List.mem_append.1 hr with hr | hr
    · obtain ⟨a1, a2, a3, a4⟩ := m.dr r hr
      refine ⟨a1, a2, a3, ?_⟩
      rcases ho' with rfl | rfl
      · exact a4
      · exact fun h => by have h := Option.some.inj h; have := m.hR.lt r hr; omega
    · rw [List.mem_singleton.1 hr]
      refine ⟨n1, n2, n3, ?_⟩
      rcases ho' with rfl | rfl
      · exact n4
      · exact fun h => by have h := Option.some.inj h; simp only at h; omega
  · rw [List.map_append, List.nodup_append]
    refine ⟨m.nd, by simp, fun a ha b hb => ?_⟩
    simp only [List.map_cons, List.map_nil, List.mem_singleton] at hb
    obtain ⟨r, hr, rfl⟩ := List.mem_map.1 ha
    rw [hb]; exact n5 r hr
/-- the pairs are cut back -/
theorem Mem.cutP (m : Mem os gs oq gq cs pd op ps xp ob rs bs xb σ) {k : IntKind} {z : Int} {K : AV → Prop} (hx : ps ≠ []) (hz : z = (ps.length : Int) - 1)
    (hK : ∀ xp', Mem os gs oq gq cs pd op (ps.take (ps.length - 1)) xp' ob rs bs xb σ → K xp') : aSlice T 39 xp none (some (.sc (.int k z))) σ K := by
  have hp : 0 < ps.length := List.length_pos_iff.2 hx
  rw [show z = ((ps.length - 1 : Nat) : Int) by omega]
  refine m.hP.slice rfl rfl rfl (by simpa using hx) (by simp) (fun x' hC => hK x' ?_)
  exact ⟨m.hS, m.hQ, by rw [List.map_take]; exact hC, m.hB, m.hR, m.d1, m.dp, m.db, m.dd, m.lt, m.dr, m.nd, m.ok⟩
/-- the best pairs are let go -/
theorem Mem.clearB (m : Mem os gs oq gq cs pd op ps xp ob rs bs xb σ) : Mem os gs oq gq cs pd op ps xp none [] [] (.lst false 0 []) σ :=
  ⟨m.hS, m.hQ, m.hP, Cut.nil _ _ _, trivial, m.d1, m.dp, ⟨by simp, by simp⟩, by cases op <;> simp, m.lt, (fun r hr => by cases hr), by simp, m.ok⟩
end Go.Proofs.Ytamielbdedbnaaa
