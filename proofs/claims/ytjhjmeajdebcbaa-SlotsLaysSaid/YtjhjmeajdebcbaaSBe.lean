/- Slots: the document's Lay and Take: plain laws. -/
import Derived.Test.YtjhjmeajdebcbaaSBa
import Derived.Test.YtjhjmeajdebcbaaSR
namespace Go.Proofs.Ytjhjmeajdebcbaa
open Go Go.RowKit

theorem whr_sl (ps : List (Int × Int)) (t : Int) : whrR ps t = slL ps t := by
  unfold whrR whrL slL
  cases ps.find? (fun p => decide (p.1 = t)) <;> rfl
theorem sl_cases2 (ws : List (Int × Int)) (id : Int) : (slL ws id = 0 ∧ ∀ p ∈ ws, p.1 ≠ id) ∨ (id, slL ws id) ∈ ws := by
  unfold slL
  cases hf : ws.find? (fun p => decide (p.1 = id)) with
  | none => exact .inl ⟨rfl, fun p hp => by have := List.find?_eq_none.1 hf p hp; simpa using this⟩
  | some p =>
    have h1 : p.1 = id := of_decide_eq_true (List.find?_some (p := fun p : Int × Int => decide (p.1 = id)) hf)
    refine .inr ?_
    rw [← h1]; exact List.mem_of_find?_eq_some hf
/-- Where a task lies, in a floor that may be. -/
theorem whr_ok {ws ps : List (Int × Int)} (h : FlOk ws ps) (t : Int) : (whrR ps t = 0 ∧ ∀ p ∈ ps, p.1 ≠ t) ∨ (1 ≤ whrR ps t ∧ whrR ps t ≤ 4 ∧ (t, whrR ps t) ∈ ps) := by
  rw [whr_sl]
  rcases sl_cases2 ps t with h1 | h1
  · exact .inl h1
  · obtain ⟨⟨h2, _⟩, ⟨h3, _⟩, _⟩ := h
    obtain ⟨_, p, hp, he⟩ := h3 _ h1
    have := h2 p hp
    unfold okW at this
    dsimp only at he
    exact .inr ⟨by omega, by omega, h1⟩
/-- What one round of the document's Lay lays down. -/
theorem up_round2 {ws ps : List (Int × Int)} {x : Int × Int} (hok : FlOk ws ps) (hn : ∀ p ∈ ps, p.1 ≠ x.1) (hi : asc (insS ps x)) (k : Int) :
    (whrR ps (k + 1) = 0 ∧ k + 1 = x.1 ∧ upL (insS ps x) (k + 1) = upL (insS ps x) k ++ [x]) ∨ (whrR ps (k + 1) = 0 ∧ k + 1 ≠ x.1 ∧ upL (insS ps x) (k + 1) = upL (insS ps x) k) ∨
    (1 ≤ whrR ps (k + 1) ∧ k + 1 ≠ x.1 ∧ upL (insS ps x) (k + 1) = upL (insS ps x) k ++ [(k + 1, whrR ps (k + 1))]) := by
  have ha := hok.2.1.2
  rw [up_succ hi, one_ins]
  rcases whr_ok hok (k + 1) with ⟨h1, h2⟩ | ⟨h1, h2, h3⟩
  · by_cases hx : k + 1 = x.1
    · exact .inl ⟨h1, hx, by rw [if_pos hx]⟩
    · exact .inr (.inl ⟨h1, hx, by rw [if_neg hx, one_none h2, List.append_nil]⟩)
  · have hx : k + 1 ≠ x.1 := hn _ h3
    exact .inr (.inr ⟨h1, hx, by rw [if_neg hx, one_eq ha h3]⟩)
/-- The best one up to a number. -/
def BestP (l : List (Int × Int)) (k : Int) (r : Int × Int) : Prop := (r = (0, 0) ∧ ∀ c ∈ l, c.1 ≤ k → c.2 ≤ 0) ∨ (r ∈ l ∧ 0 < r.2 ∧ r.1 ≤ k ∧ ∀ c ∈ l, c.1 ≤ k → c.2 ≤ r.2 ∧ (c.2 = r.2 → r.1 ≤ c.1))
theorem best_zero {l : List (Int × Int)} (h : ∀ c ∈ l, 0 < c.1) : BestP l 0 (0, 0) := .inl ⟨rfl, fun c hc hk => by have := h c hc; omega⟩
theorem best_r {l : List (Int × Int)} {k : Int} {r : Int × Int} (h : BestP l k r) : 0 ≤ r.2 := by
  rcases h with ⟨rfl, _⟩ | ⟨_, h, _⟩
  · exact Int.le_refl _
  · omega
theorem best_step {l : List (Int × Int)} {k n : Int} {r : Int × Int} (h : BestP l k r) (hn : ((k + 1, n) ∈ l ∧ ∀ c ∈ l, c.1 = k + 1 → c.2 = n) ∨ (n = 0 ∧ ∀ c ∈ l, c.1 ≠ k + 1)) : BestP l (k + 1) (if r.2 < n then (k + 1, n) else r) := by
  have hr := best_r h
  split
  · rename_i hlt
    rcases hn with ⟨h1, h2⟩ | ⟨h1, _⟩
    · refine .inr ⟨h1, by dsimp only; omega, Int.le_refl _, fun c hc hck => ?_⟩
      by_cases hce : c.1 = k + 1
      · have := h2 c hc hce; dsimp only; omega
      · rcases h with ⟨rfl, h3⟩ | ⟨_, _, _, h3⟩
        · have := h3 c hc (by omega); dsimp only at hlt ⊢; omega
        · have := (h3 c hc (by omega)).1; dsimp only; omega
    · omega
  · rename_i hlt
    rcases h with ⟨rfl, h3⟩ | ⟨h4, h5, h6, h3⟩
    · refine .inl ⟨rfl, fun c hc hck => ?_⟩
      by_cases hce : c.1 = k + 1
      · rcases hn with ⟨_, h2⟩ | ⟨_, h2⟩
        · have := h2 c hc hce; dsimp only at hlt; omega
        · exact absurd hce (h2 c hc)
      · exact h3 c hc (by omega)
    · refine .inr ⟨h4, h5, by omega, fun c hc hck => ?_⟩
      by_cases hce : c.1 = k + 1
      · rcases hn with ⟨_, h2⟩ | ⟨_, h2⟩
        · have := h2 c hc hce; omega
        · exact absurd hce (h2 c hc)
      · exact h3 c hc (by omega)
theorem best_all {l : List (Int × Int)} {k : Int} {r : Int × Int} (h : BestP l k r) (hl : ∀ c ∈ l, c.1 ≤ k) : r = widL l := by
  refine widV_all ?_
  rcases h with ⟨h1, h2⟩ | ⟨h1, h2, _, h3⟩
  · exact .inl ⟨h1, fun i c hc _ => h2 c (List.mem_of_getElem? hc) (hl c (List.mem_of_getElem? hc))⟩
  · exact .inr ⟨List.mem_iff_getElem?.1 h1, h2, fun i c hc _ => h3 c (List.mem_of_getElem? hc) (hl c (List.mem_of_getElem? hc))⟩
theorem frL_mem {ws ps : List (Int × Int)} {c : Int × Int} : c ∈ frL ws ps ↔ ∃ p ∈ ws, c = (p.1, p.2 - cntW ps p.1) := by
  unfold frL
  rw [List.mem_map]
  constructor
  · rintro ⟨p, hp, rfl⟩; exact ⟨p, hp, rfl⟩
  · rintro ⟨p, hp, rfl⟩; exact ⟨p, hp, rfl⟩
theorem free_at {ws ps : List (Int × Int)} (h : FlOk ws ps) (id : Int) : ((id, slL ws id - cntW ps id) ∈ frL ws ps ∧ ∀ c ∈ frL ws ps, c.1 = id → c.2 = slL ws id - cntW ps id) ∨ (slL ws id - cntW ps id = 0 ∧ ∀ c ∈ frL ws ps, c.1 ≠ id) := by
  obtain ⟨⟨_, ha⟩, ⟨h3, _⟩, _⟩ := h
  rcases sl_cases2 ws id with ⟨h1, h2⟩ | h1
  · refine .inr ⟨?_, fun c hc => ?_⟩
    · have : cntW ps id = 0 := by
        unfold cntW
        rw [List.countP_eq_zero.2 fun q hq => by
          obtain ⟨_, p, hp, he⟩ := h3 q hq
          have := h2 p hp
          simp; omega]
        rfl
      omega
    · obtain ⟨p, hp, rfl⟩ := frL_mem.1 hc
      exact h2 p hp
  · refine .inl ⟨frL_mem.2 ⟨_, h1, rfl⟩, fun c hc hce => ?_⟩
    obtain ⟨p, hp, rfl⟩ := frL_mem.1 hc
    have h4 := one_eq ha h1
    have h5 : p ∈ oneL ws id := by unfold oneL; exact List.mem_filter.2 ⟨hp, decide_eq_true hce⟩
    rw [h4] at h5
    rw [List.mem_singleton.1 h5]
theorem nodup_count {ts : List Int} : ts.Nodup ↔ ∀ t ∈ ts, ts.count t ≤ 1 := by
  rw [List.nodup_iff_count]
  constructor
  · exact fun h t _ => h t
  · intro h t
    by_cases ht : t ∈ ts
    · exact h t ht
    · rw [List.count_eq_zero.2 ht]; omega
theorem count_take {ts : List Int} {n : Nat} {t x : Int} (h : ts[n]? = some x) : (ts.take (n + 1)).count t = (ts.take n).count t + (if x = t then 1 else 0) := by
  obtain ⟨hl, he⟩ := List.getElem?_eq_some_iff.1 h
  rw [List.take_succ_eq_append_getElem hl, he, List.count_append, List.count_singleton]
  congr 1
  by_cases hx : x = t
  · subst hx; simp
  · rw [if_neg hx, if_neg (by simpa using hx)]
end Go.Proofs.Ytjhjmeajdebcbaa
