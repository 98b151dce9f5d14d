/- Graph: operators look at those ahead of them alone; the plain law of First. -/
import Derived.Test.YteldohidnepaoaaGR
namespace Go.Proofs.Yteldohidnepaoaa
open Go Go.RowKit

def agree (g g' : List Opr) (n : Nat) : Prop := ∀ k, k < n → g[k]? = g'[k]?
theorem ins_lt {g : List Opr} {n i : Nat} {o : Opr} (hg : goodTo g n) (hi : i < n) (ho : g[i]? = some o) : ∀ k ∈ o.ins, k.toNat < i := fun k hk => by
  have := rises_mem (hg i o hi ho).2.2.1 k hk
  omega
theorem hasSrc_congr {g g' : List Opr} {n : Nat} (hg : goodTo g n) (h : agree g g' n) (s : Int) : ∀ f i, i < n → hasSrc g f i s = hasSrc g' f i s
  | 0, _, _ => rfl
  | f + 1, i, hi => by
    unfold hasSrc
    rw [← h i hi]
    cases ho : g[i]? with
    | none => rfl
    | some o =>
      dsimp only
      split
      · rfl
      · rw [Bool.eq_iff_iff, List.any_eq_true, List.any_eq_true]
        constructor <;> rintro ⟨k, hk, hs⟩ <;> refine ⟨k, hk, ?_⟩ <;> have := hasSrc_congr hg h s f k.toNat (Nat.lt_trans (ins_lt hg hi ho k hk) hi)
        · rw [← this]; exact hs
        · rw [this]; exact hs
theorem srcs_congr {g g' : List Opr} {n i : Nat} (hg : goodTo g n) (h : agree g g' n) (hi : i < n) : srcs g i = srcs g' i := by
  unfold srcs
  congr 1
  funext s
  exact hasSrc_congr hg h s _ _ hi
theorem agree.take {g g' : List Opr} {n i : Nat} (h : agree g g' n) (hi : i ≤ n) : g.take i = g'.take i := List.ext_getElem? fun k => by
  by_cases hk : k < i
  · rw [List.getElem?_take_of_lt hk, List.getElem?_take_of_lt hk, h k (by omega)]
  · rw [List.getElem?_take_eq_none (by omega), List.getElem?_take_eq_none (by omega)]
theorem any_congr {α : Type} {l : List α} {p q : α → Bool} (h : ∀ x ∈ l, p x = q x) : l.any p = l.any q := by
  rw [Bool.eq_iff_iff, List.any_eq_true, List.any_eq_true]
  constructor <;> rintro ⟨x, hx, hp⟩ <;> refine ⟨x, hx, ?_⟩
  · rw [← h x hx]; exact hp
  · rw [h x hx]; exact hp
theorem wrongAt_congr {g g' : List Opr} {n j : Nat} (hg : goodTo g n) (h : agree g g' n) (hj : j < n) : wrongAt g j = wrongAt g' j := by
  unfold wrongAt
  rw [← h j hj]
  cases ho : g[j]? with
  | none => rfl
  | some o =>
    dsimp only
    have hin := ins_lt hg hj ho
    have e1 : sinkB g o.ins = sinkB g' o.ins := any_congr fun k hk => by
      unfold tagAt
      rw [h k.toNat (by have := hin k hk; omega)]
    have e2 : insSum g o.ins = insSum g' o.ins := by
      unfold insSum srcRows
      congr 2
      exact List.map_congr_left fun k hk => srcs_congr hg h (by have := hin k hk; omega)
    have e3 : wideN g (j + 1) = wideN g' (j + 1) := by unfold wideN; rw [h.take (by omega)]
    rw [wrongE, wrongE, e1, e2, e3, h.take (show j ≤ n by omega), srcs_congr hg h hj]
theorem first_not {g : List Opr} {i : Nat} {o : Opr} (h0 : (checkV g).2 = 0) (hi : i < g.length) (ha : ¬ AloneP o i) : checkV (g.set i o) = ((i : Int), 160) := by
  have h8 := check_ok h0
  have hlen : (g.set i o).length = g.length := List.length_set
  have hag : agree g (g.set i o) i := fun k hk => by rw [List.getElem?_set_ne (by omega)]
  have hgi : (g.set i o)[i]? = some o := by rw [List.getElem?_set_self hi]
  have hw : wrongAt (g.set i o) i = 160 := by
    unfold wrongAt
    rw [hgi]
    dsimp only
    rw [wrongE, if_neg ha]
  have := checkV_w (g := g.set i o) (n := i) (by omega) (by omega) (by rw [hw]; decide) fun j hj => by
    rw [← wrongAt_congr ((check_good h0).mono (by omega)) hag hj]
    exact h8.2.2 j (by omega)
  rw [this, hw]
theorem first_in (g : List Opr) (h1 : 1 ≤ g.length) : (checkV g).2 = 0 ∨ (0 ≤ (checkV g).1 ∧ (checkV g).1 < g.length) := by
  by_cases h8 : g.length < 1 ∨ 8 < g.length
  · right; rw [checkV, if_pos h8]; dsimp only; omega
  · rw [checkV, if_neg h8]
    cases hf : firstW g with
    | some i =>
      have hm := List.mem_range.1 (List.mem_of_find?_eq_some hf)
      right; dsimp only; omega
    | none =>
      dsimp only
      cases hu : firstU g with
      | some i =>
        have hm := List.mem_range.1 (List.mem_of_find?_eq_some hu)
        right; dsimp only; omega
      | none => exact .inl rfl
end Go.Proofs.Yteldohidnepaoaa
