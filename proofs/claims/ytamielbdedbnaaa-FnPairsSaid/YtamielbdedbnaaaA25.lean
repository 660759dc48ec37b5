/- Ab, part 25: more rules for owned objects. -/
import Derived.Test.YtamielbdedbnaaaA23
set_option linter.unusedSimpArgs false
set_option linter.unusedVariables false
namespace Go.Ab
open Go.RowKit
section
variable {P : Program} {T : Tab} {σ0 τ τ' : St} {X : List Nat} {ls : List Ent} {i : Nat} {K : AV → St → Prop}
/-- one element more -/
theorem own_appendM {α : Type} {f : α → AV} {a : α} {t ty sz s : Nat} {b : Bool} {x : AV} {xs : List α} {te : TI} (i : Nat) (h : Own σ0 X ls τ) (hi : ls[i]? = some (.sl x ty sz (xs.map f))) (h1 : T t = some ⟨1, 24, .slice ty, .slice none 0 0⟩) (h2 : T ty = some te)
    (h3 : te.size = sz ∧ s = sz ∧ 0 < te.size ∧ te.zero.cells.size = te.size) (h4 : valOk (f a) = true) (h5 : (xs.length + 1) * te.bytes ≤ 140737488355328) (h6 : xs.length + 1 ≤ 9223372036854775807)
    (hK : ∀ x' τ', Own σ0 X (ls.set i (.sl x' ty sz ((xs ++ [a]).map f))) τ' → (∃ o g, x' = .ref o g 0 (xs.length + 1)) → K x' τ') : aAppend T t t x (.lst b s [f a]) τ K :=
  own_append i h hi h1 h2 h3 (by simp [h4]) (by simpa using h5) (by simpa using h6) (fun x' τ' k hx => hK x' τ' (by rw [List.map_append]; exact k) (by simpa using hx))
/-- a slice cut back -/
theorem Own.cut {o g n m ty sz : Nat} {xs : List AV} (i : Nat) (h : Own σ0 X ls τ) (hi : ls[i]? = some (.sl (.ref o g 0 n) ty sz xs)) (hm : m ≤ xs.length) : Own σ0 X (ls.set i (.sl (.ref o g 0 m) ty sz (xs.take m))) τ := by
  have hlt := h.lt o (List.mem_flatMap.2 ⟨_, List.mem_of_getElem? hi, by simp [Ent.ids, slId]⟩)
  rcases h.hd _ (List.mem_of_getElem? hi) with ⟨_, h⟩ | ⟨o', g', els, hr, ho, ht, _⟩
  · cases h
  · simp only [AV.ref.injEq, true_and] at hr
    obtain ⟨rfl, rfl, rfl⟩ := hr
    refine h.upd hi (Nat.le_refl _) (fun q _ _ => rfl) (.inr ⟨o, g, els, by simp [Nat.min_eq_left hm], ho, ?_, hlt⟩) (fun q hq => .inl (by simpa [Ent.ids, slId] using hq)) (by simp [Ent.ids, slId])
    rw [List.length_take, Nat.min_eq_left hm]
    conv => rhs; rw [← ht, List.take_take, Nat.min_eq_left hm]
theorem own4 {a b c d : Ent} {r : List Ent} (h : Own σ0 X ls τ) (hl : ls = a :: b :: c :: d :: r) : Own σ0 X [a, b, c, d] τ :=
  h.sub (by rw [hl]; exact .cons_cons _ (.cons_cons _ (.cons_cons _ (.cons_cons _ (List.nil_sublist _)))))
theorem own1 {a : Ent} {r : List Ent} (h : Own σ0 X ls τ) (hl : ls = a :: r) : Own σ0 X [a] τ := h.sub (by rw [hl]; exact .cons_cons _ (List.nil_sublist _))
theorem own2 {a b : Ent} {r : List Ent} (h : Own σ0 X ls τ) (hl : ls = a :: b :: r) : Own σ0 X [a, b] τ := h.sub (by rw [hl]; exact .cons_cons _ (.cons_cons _ (List.nil_sublist _)))
theorem own3 {a b c : Ent} {r : List Ent} (h : Own σ0 X ls τ) (hl : ls = a :: b :: c :: r) : Own σ0 X [a, b, c] τ := h.sub (by rw [hl]; exact .cons_cons _ (.cons_cons _ (.cons_cons _ (List.nil_sublist _))))
end
end Go.Ab
