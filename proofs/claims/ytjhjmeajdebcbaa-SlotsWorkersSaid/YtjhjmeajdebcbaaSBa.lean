/- Slots: rows by rising numbers, up to a number: plain Lean. -/
import Derived.Test.YtjhjmeajdebcbaaSV
import Derived.Test.YtjhjmeajdebcbaaSI
import Derived.Test.YtjhjmeajdebcbaaSM
namespace Go.Proofs.Ytjhjmeajdebcbaa
open Go Go.RowKit

def upL (ws : List (Int × Int)) (k : Int) : List (Int × Int) := ws.filter fun p => decide (p.1 ≤ k)
def oneL (ws : List (Int × Int)) (k : Int) : List (Int × Int) := ws.filter fun p => decide (p.1 = k)
theorem up_none {ws : List (Int × Int)} {k : Int} (h : ∀ p ∈ ws, k < p.1) : upL ws k = [] := by
  unfold upL
  rw [List.filter_eq_nil_iff]
  intro p hp
  have := h p hp
  simp; omega
theorem up_all {ws : List (Int × Int)} {k : Int} (h : ∀ p ∈ ws, p.1 ≤ k) : upL ws k = ws := by
  unfold upL
  rw [List.filter_eq_self]
  exact fun p hp => decide_eq_true (h p hp)
theorem up_succ : ∀ {ws : List (Int × Int)} {k : Int}, asc ws → upL ws (k + 1) = upL ws k ++ oneL ws (k + 1)
  | [], k, _ => rfl
  | a :: l, k, h => by
    have h1 := List.pairwise_cons.1 h
    have ih := up_succ (k := k) h1.2
    unfold upL oneL at ih ⊢
    rw [List.filter_cons, List.filter_cons, List.filter_cons, ih]
    by_cases h2 : a.1 ≤ k
    · rw [if_pos (decide_eq_true (by omega)), if_pos (decide_eq_true h2), if_neg (by simp; omega), List.cons_append]
    · have hl : l.filter (fun p => decide (p.1 ≤ k)) = [] := up_none fun p hp => by have := h1.1 p hp; omega
      rw [hl, if_neg (c := decide (a.1 ≤ k) = true) (by simpa using h2), List.nil_append, List.nil_append]
      by_cases h3 : a.1 = k + 1
      · rw [if_pos (decide_eq_true (by omega)), if_pos (decide_eq_true h3)]
      · rw [if_neg (by simp; omega), if_neg (by simpa using h3)]
theorem one_none {ws : List (Int × Int)} {k : Int} (h : ∀ p ∈ ws, p.1 ≠ k) : oneL ws k = [] := by
  unfold oneL
  rw [List.filter_eq_nil_iff]
  exact fun p hp => by simpa using h p hp
theorem one_eq : ∀ {ws : List (Int × Int)} {p : Int × Int}, asc ws → p ∈ ws → oneL ws p.1 = [p]
  | a :: l, p, h, hp => by
    have h1 := List.pairwise_cons.1 h
    unfold oneL
    rw [List.filter_cons]
    rcases List.mem_cons.1 hp with rfl | hp
    · rw [if_pos (decide_eq_true rfl)]
      have := one_none (ws := l) (k := p.1) fun q hq => by have := h1.1 q hq; omega
      unfold oneL at this
      rw [this]
    · have := h1.1 p hp
      rw [if_neg (by simp; omega)]
      exact one_eq h1.2 hp
theorem sl_cases {ws : List (Int × Int)} (h : ∀ p ∈ ws, okW p) (id : Int) : (slL ws id = 0 ∧ ∀ p ∈ ws, p.1 ≠ id) ∨ (1 ≤ slL ws id ∧ slL ws id ≤ 8 ∧ (id, slL ws id) ∈ ws) := by
  unfold slL
  cases hf : ws.find? (fun p => decide (p.1 = id)) with
  | none => exact .inl ⟨rfl, fun p hp => by have := List.find?_eq_none.1 hf p hp; simpa using this⟩
  | some p =>
    have h1 : p.1 = id := of_decide_eq_true (List.find?_some (p := fun p : Int × Int => decide (p.1 = id)) hf)
    have h2 := List.mem_of_find?_eq_some hf
    have h3 := h p h2
    unfold okW at h3
    refine .inr ⟨h3.2.2.1, h3.2.2.2, ?_⟩
    rw [← h1]; exact h2
theorem one_ins {ws : List (Int × Int)} {x : Int × Int} (k : Int) : oneL (insS ws x) k = if k = x.1 then [x] else oneL ws k := by
  unfold oneL insS
  rw [List.filter_append, List.filter_cons, List.filter_filter, List.filter_filter]
  by_cases hk : k = x.1
  · subst hk
    rw [if_pos rfl, if_pos (decide_eq_true rfl), List.filter_eq_nil_iff.2 (fun p _ => by simp; omega), List.filter_eq_nil_iff.2 (fun p _ => by simp; omega)]
    rfl
  · rw [if_neg hk, if_neg (by simpa using fun h => hk h.symm)]
    by_cases hlt : k < x.1
    · have h1 : ws.filter (fun p => decide (p.1 = k) && decide (x.1 < p.1)) = [] := List.filter_eq_nil_iff.2 (fun p _ => by simp; omega)
      have h2 : ws.filter (fun p => decide (p.1 = k) && decide (p.1 < x.1)) = ws.filter (fun p => decide (p.1 = k)) := List.filter_congr fun p _ => by rw [Bool.eq_iff_iff]; simp; omega
      rw [h1, h2, List.append_nil]
    · have h1 : ws.filter (fun p => decide (p.1 = k) && decide (p.1 < x.1)) = [] := List.filter_eq_nil_iff.2 (fun p _ => by simp; omega)
      rw [h1, List.nil_append]
      exact List.filter_congr fun p _ => by rw [Bool.eq_iff_iff]; simp; omega
/-- What one round of the document's Come lays down. -/
theorem up_round {ws : List (Int × Int)} {x : Int × Int} (ha : asc ws) (hw : ∀ p ∈ ws, okW p) (hn : ∀ p ∈ ws, p.1 ≠ x.1) (hi : asc (insS ws x)) (k : Int) :
    (slL ws (k + 1) = 0 ∧ k + 1 = x.1 ∧ upL (insS ws x) (k + 1) = upL (insS ws x) k ++ [x]) ∨ (slL ws (k + 1) = 0 ∧ k + 1 ≠ x.1 ∧ upL (insS ws x) (k + 1) = upL (insS ws x) k) ∨
    (1 ≤ slL ws (k + 1) ∧ slL ws (k + 1) ≤ 8 ∧ k + 1 ≠ x.1 ∧ upL (insS ws x) (k + 1) = upL (insS ws x) k ++ [(k + 1, slL ws (k + 1))]) := by
  rw [up_succ hi, one_ins]
  rcases sl_cases hw (k + 1) with ⟨h1, h2⟩ | ⟨h1, h2, h3⟩
  · by_cases hx : k + 1 = x.1
    · exact .inl ⟨h1, hx, by rw [if_pos hx]⟩
    · exact .inr (.inl ⟨h1, hx, by rw [if_neg hx, one_none h2, List.append_nil]⟩)
  · have hx : k + 1 ≠ x.1 := hn _ h3
    exact .inr (.inr ⟨h1, h2, hx, by rw [if_neg hx, one_eq ha h3]⟩)
end Go.Proofs.Ytjhjmeajdebcbaa
