/- Retain: what is kept and what goes: plain laws. -/
import Derived.Test.YtkmdmjnbjoakbaaReD
import Derived.Test.YtkmdmjnbjoakbaaReH
namespace Go.Proofs.Ytkmdmjnbjoakbaa
open Go Go.RowKit

theorem cut_cons (keep : Int) (k : Kp) (r : List Kp) : cutL keep (k :: r) = if plainK k = true ∧ keep ≤ (cntP r : Int) then ((cutL keep r).1, k.number :: (cutL keep r).2) else (k :: (cutL keep r).1, (cutL keep r).2) := rfl
theorem cut_sub (keep : Int) : ∀ (ks : List Kp) (x : Int), x ∈ (cutL keep ks).2 → ∃ k ∈ ks, k.number = x
  | k :: r, x, h => by
    rw [cut_cons] at h
    split at h
    · rcases List.mem_cons.1 h with rfl | h
      · exact ⟨k, List.mem_cons_self .., rfl⟩
      · obtain ⟨q, hq, he⟩ := cut_sub keep r x h
        exact ⟨q, List.mem_cons_of_mem _ hq, he⟩
    · obtain ⟨q, hq, he⟩ := cut_sub keep r x h
      exact ⟨q, List.mem_cons_of_mem _ hq, he⟩
def rising (ks : List Kp) : Prop := (ks.map (·.number)).Pairwise (· < ·)
theorem rising_cons {k : Kp} {r : List Kp} (h : rising (k :: r)) : (∀ q ∈ r, k.number < q.number) ∧ rising r := by
  obtain ⟨h1, h2⟩ := List.pairwise_cons.1 h
  exact ⟨fun q hq => h1 _ (List.mem_map_of_mem hq), h2⟩
theorem cut_rising (keep : Int) : ∀ (ks : List Kp), rising ks → (cutL keep ks).2.Pairwise (· < ·)
  | [], _ => List.Pairwise.nil
  | k :: r, h => by
    obtain ⟨h1, h2⟩ := rising_cons h
    rw [cut_cons]
    split
    · refine List.pairwise_cons.2 ⟨fun x hx => ?_, cut_rising keep r h2⟩
      obtain ⟨q, hq, rfl⟩ := cut_sub keep r x hx
      exact h1 q hq
    · exact cut_rising keep r h2
theorem cut_filter (keep : Int) : ∀ (ks : List Kp), rising ks → ks.filter (fun k => !decide (k.number ∈ (cutL keep ks).2)) = (cutL keep ks).1
  | [], _ => rfl
  | k :: r, h => by
    obtain ⟨h1, h2⟩ := rising_cons h
    have ih := cut_filter keep r h2
    rw [cut_cons]
    split
    · have e : r.filter (fun q => !decide (q.number ∈ k.number :: (cutL keep r).2)) = r.filter (fun q => !decide (q.number ∈ (cutL keep r).2)) := by
        refine List.filter_congr fun q hq => ?_
        have := h1 q hq
        simp [show q.number ≠ k.number by omega]
      simp only [List.filter_cons, List.mem_cons, true_or, decide_true, Bool.not_true, Bool.false_eq_true, if_false]
      rw [← ih, ← e]
      simp
    · have hk : k.number ∉ (cutL keep r).2 := fun hm => by
        obtain ⟨q, hq, he⟩ := cut_sub keep r _ hm
        have := h1 q hq
        omega
      rw [List.filter_cons, if_pos (by simp [hk]), ih]
theorem cut_len (keep : Int) : ∀ (ks : List Kp), (cutL keep ks).1.length + (cutL keep ks).2.length = ks.length
  | [] => rfl
  | k :: r => by
    have := cut_len keep r
    rw [cut_cons]
    split <;> simp <;> omega
/-- Sorted behind having been told backwards. -/
theorem cut_sorted (keep : Int) (ks : List Kp) (h : rising ks) : sortL (cutL keep ks).2.reverse = (cutL keep ks).2 :=
  sortL_eq (List.reverse_perm _) ((cut_rising keep ks h).imp fun h => Int.le_of_lt h)
theorem cut_fall (keep : Int) (ks : List Kp) (h : rising ks) : (cutL keep ks).2.reverse.Pairwise (fun a b => b < a) := by
  rw [List.pairwise_reverse]
  exact cut_rising keep ks h
/-- Told backwards: what goes from place n on, and how many are still kept. -/
def goneN (keep : Int) (ks : List Kp) (n : Nat) : List Int := (cutL keep (ks.drop n)).2.reverse
def leftN (keep : Int) (ks : List Kp) (n : Nat) : Int := if (cntP (ks.drop n) : Int) ≤ keep then keep - cntP (ks.drop n) else 0
theorem cnt_cons (k : Kp) (r : List Kp) : cntP (k :: r) = cntP r + (if plainK k = true then 1 else 0) := by
  unfold cntP
  rw [List.filter_cons]
  split <;> simp
theorem gone_step {keep : Int} {ks : List Kp} {n : Nat} (h : n < ks.length) : goneN keep ks n = if plainK ks[n] = true ∧ leftN keep ks (n + 1) ≤ 0 then goneN keep ks (n + 1) ++ [ks[n].number] else goneN keep ks (n + 1) := by
  unfold goneN leftN
  rw [List.drop_eq_getElem_cons h, cut_cons]
  by_cases h1 : plainK ks[n] = true
  · by_cases h2 : keep ≤ (cntP (ks.drop (n + 1)) : Int)
    · rw [if_pos ⟨h1, h2⟩, if_pos ⟨h1, by split <;> omega⟩, List.reverse_cons]
    · rw [if_neg (fun h => h2 h.2), if_neg (fun h => h2 (by have := h.2; split at this <;> omega))]
  · rw [if_neg (fun h => h1 h.1), if_neg (fun h => h1 h.1)]
theorem left_step {keep : Int} {ks : List Kp} {n : Nat} (h : n < ks.length) (hk : 0 ≤ keep) : leftN keep ks n = if plainK ks[n] = true ∧ 0 < leftN keep ks (n + 1) then leftN keep ks (n + 1) - 1 else leftN keep ks (n + 1) := by
  unfold leftN
  rw [List.drop_eq_getElem_cons h, cnt_cons]
  by_cases h1 : plainK ks[n] = true
  · simp only [h1, if_true, true_and]
    split <;> split <;> split <;> omega
  · simp only [h1]
    simp
end Go.Proofs.Ytkmdmjnbjoakbaa
