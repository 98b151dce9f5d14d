/- Plan: subtasks, their groups, channels: plain Lean. -/
import Derived.Test.YthmcknchkecciaaGJ
namespace Go.Proofs.Ythmcknchkecciaa
open Go Go.RowKit
open Sy (C SV V1 Blk St XD Els)

def widN (g : List Opr) (i : Nat) : Nat := match g[i]? with
  | some o => o.width.toNat
  | none => 0
def opSubs (i k : Nat) : List (Nat × Nat) := (List.range k).map fun j => (i, j)
/-- The subtasks of the operators ahead of i, and the first k of i. -/
def subN (g : List Opr) (i k : Nat) : List (Nat × Nat) := ((List.range i).map fun j => opSubs j (widN g j)).flatten ++ opSubs i k
def subsL (g : List Opr) : List (Nat × Nat) := subN g g.length 0
theorem subN_zero (g : List Opr) : subN g 0 0 = [] := rfl
theorem subN_k (g : List Opr) (i k : Nat) : subN g i (k + 1) = subN g i k ++ [(i, k)] := by
  unfold subN opSubs
  rw [List.range_succ (n := k), List.map_append, List.append_assoc]
  rfl
theorem subN_i (g : List Opr) (i : Nat) : subN g (i + 1) 0 = subN g i (widN g i) := by
  unfold subN
  rw [List.range_succ, List.map_append, List.flatten_append]
  simp [opSubs]
theorem widN_at {g : List Opr} {i : Nat} {o : Opr} (h : g[i]? = some o) : widN g i = o.width.toNat := by unfold widN; rw [h]
theorem widN_good {g : List Opr} {n i : Nat} {o : Opr} (hg : goodTo g n) (hi : i < n) (h : g[i]? = some o) : (widN g i : Int) = o.width ∧ 1 ≤ widN g i ∧ widN g i ≤ 3 := by
  obtain ⟨h1, h2, _⟩ := hg i o hi h
  rw [widN_at h]
  omega
theorem subN_len (g : List Opr) (i k : Nat) : (subN g i (k)).length = (subN g i 0).length + k := by
  unfold subN opSubs
  simp
theorem subN_le {g : List Opr} : ∀ (i : Nat), goodTo g g.length → i ≤ g.length → i ≤ (subN g i 0).length ∧ (subN g i 0).length ≤ 3 * i
  | 0, _, _ => ⟨Nat.le_refl _, Nat.le_refl _⟩
  | i + 1, hg, h => by
    have ih := subN_le i hg (by omega)
    have hw := widN_good hg (show i < g.length by omega) (List.getElem?_eq_getElem (show i < g.length by omega))
    rw [subN_i, subN_len]
    omega
/-- What a subtask is: an operator that there is, and an index among its width. -/
theorem subN_mem {g : List Opr} {i k : Nat} (_ : goodTo g g.length) (hi : i ≤ g.length) (hk : i = g.length → k = 0) (hk' : k ≤ widN g i) {s : Nat × Nat} (hs : s ∈ subN g i k) : s.1 < g.length ∧ s.2 < widN g s.1 := by
  unfold subN at hs
  rcases List.mem_append.1 hs with hs | hs
  · obtain ⟨l, hl, hs⟩ := List.mem_flatten.1 hs
    obtain ⟨j, hj, rfl⟩ := List.mem_map.1 hl
    obtain ⟨q, hq, rfl⟩ := List.mem_map.1 hs
    have := List.mem_range.1 hj
    have := List.mem_range.1 hq
    exact ⟨by show j < _; omega, this⟩
  · obtain ⟨q, hq, rfl⟩ := List.mem_map.1 hs
    have h1 := List.mem_range.1 hq
    refine ⟨?_, by show q < widN g i; omega⟩
    show i < g.length
    rcases Nat.lt_or_ge i g.length with h | h
    · exact h
    · have := hk (by omega); omega
theorem subsL_mem {g : List Opr} (hg : goodTo g g.length) {s : Nat × Nat} (hs : s ∈ subsL g) : s.1 < g.length ∧ s.2 < widN g s.1 := subN_mem hg (Nat.le_refl _) (fun _ => rfl) (Nat.zero_le _) hs

theorem subN_pre_k (g : List Opr) (i k : Nat) : ∀ j, subN g i k <+: subN g i (k + j)
  | 0 => List.prefix_refl _
  | j + 1 => by
    have := subN_pre_k g i k j
    rw [show k + (j + 1) = (k + j) + 1 by omega, subN_k]
    exact this.trans (List.prefix_append _ _)
theorem subN_pre_i (g : List Opr) (i : Nat) : ∀ j, subN g i 0 <+: subN g (i + j) 0
  | 0 => List.prefix_refl _
  | j + 1 => by
    have := subN_pre_i g i j
    rw [show i + (j + 1) = (i + j) + 1 by omega, subN_i]
    have h2 := subN_pre_k g (i + j) 0 (widN g (i + j))
    rw [Nat.zero_add] at h2
    exact this.trans h2
theorem subsL_at {g : List Opr} {i k : Nat} (hi : i < g.length) (hk : k < widN g i) : (subsL g)[(subN g i k).length]? = some (i, k) := by
  have h1 := subN_pre_k g i (k + 1) (widN g i - (k + 1))
  rw [show k + 1 + (widN g i - (k + 1)) = widN g i by omega, ← subN_i] at h1
  have h2 := subN_pre_i g (i + 1) (g.length - (i + 1))
  rw [show i + 1 + (g.length - (i + 1)) = g.length by omega] at h2
  obtain ⟨t, ht⟩ := h1.trans h2
  rw [show subsL g = subN g g.length 0 from rfl, ← ht, subN_k, List.append_assoc, List.getElem?_append_right (Nat.le_refl _), Nat.sub_self]
  rfl
theorem wide_subs {g : List Opr} : ∀ (n : Nat), n ≤ g.length → goodTo g g.length → wideN g n = ((subN g n 0).length : Int)
  | 0, _, _ => by simp [wideN, subN_zero]
  | n + 1, hn, hg => by
    have ho : g[n]? = some g[n] := List.getElem?_eq_getElem (by omega)
    have hw := widN_good hg (show n < g.length by omega) ho
    have hl := subN_len g n (widN g n)
    rw [wideN_succ ho, wide_subs n (by omega) hg, subN_i]
    omega
/-! ### Groups -/
def ownB (w k n : Nat) : Bool := n * w / 8 == k
def maskN (w k : Nat) : Nat → Nat
  | 0 => 0
  | n + 1 => maskN w k n + (if ownB w k n = true then 2 ^ n else 0)
def mask (w k : Nat) : Nat := maskN w k 8
theorem maskN_lt (w k : Nat) : ∀ n, maskN w k n < 2 ^ n
  | 0 => Nat.zero_lt_one
  | n + 1 => by
    have := maskN_lt w k n
    rw [maskN, Nat.pow_succ]
    split <;> omega
def bothV (wa ka wb kb : Nat) : Nat := mask wa ka &&& mask wb kb
def commonL (wa ka wb kb : Nat) : List Nat := (List.range 8).filter fun n => ownB wa ka n && ownB wb kb n
set_option maxRecDepth 100000 in
theorem both_nil : ∀ wa, wa < 4 → ∀ ka, ka < 3 → ∀ wb, wb < 4 → ∀ kb, kb < 3 → (bothV wa ka wb kb = 0 ↔ commonL wa ka wb kb = []) := by decide +kernel
set_option maxRecDepth 100000 in
theorem both_bit : ∀ wa, wa < 4 → ∀ ka, ka < 3 → ∀ wb, wb < 4 → ∀ kb, kb < 3 → ∀ n, n < 8 → (bothV wa ka wb kb / 2 ^ n % 2 = 1 ↔ (ownB wa ka n && ownB wb kb n) = true) := by decide +kernel
set_option maxRecDepth 100000 in
theorem mask_lt : ∀ w, w < 4 → ∀ k, k < 3 → mask w k < 256 := by decide +kernel
set_option maxRecDepth 100000 in
theorem both_lt : ∀ wa, wa < 4 → ∀ ka, ka < 3 → ∀ wb, wb < 4 → ∀ kb, kb < 3 → bothV wa ka wb kb < 256 := by decide +kernel

/-! ### Channels -/
def readsB (g : List Opr) (i j : Nat) : Bool := match g[i]? with
  | some o => decide ((j : Int) ∈ o.ins)
  | none => false
def bothOf (g : List Opr) (a b : Nat × Nat) : Nat := bothV (widN g a.1) a.2 (widN g b.1) b.2
def linkB (g : List Opr) (a b : Nat × Nat) : Bool := (bothOf g a b != 0) && readsB g b.1 a.1
def linkAt (g : List Opr) (l : List (Nat × Nat)) (i j : Nat) : Bool := match l[i]?, l[j]? with
  | some a, some b => linkB g a b
  | _, _ => false
def chRow (g : List Opr) (l : List (Nat × Nat)) (i m : Nat) : List (Nat × Nat) := ((List.range m).filter (linkAt g l i)).map fun j => (i, j)
/-- The channels from the first i subtasks, and those from i to the first j. -/
def chN (g : List Opr) (l : List (Nat × Nat)) (i j : Nat) : List (Nat × Nat) := ((List.range i).map fun f => chRow g l f l.length).flatten ++ chRow g l i j
def chansL (g : List Opr) : List (Nat × Nat) := chN g (subsL g) (subsL g).length 0
theorem chN_zero (g : List Opr) (l : List (Nat × Nat)) : chN g l 0 0 = [] := rfl
theorem chN_j (g : List Opr) (l : List (Nat × Nat)) (i j : Nat) : chN g l i (j + 1) = chN g l i j ++ (if linkAt g l i j = true then [(i, j)] else []) := by
  unfold chN chRow
  rw [List.range_succ (n := j), List.filter_append, List.map_append, ← List.append_assoc]
  congr 1
  by_cases h : linkAt g l i j = true
  · rw [if_pos h]; simp [h]
  · rw [if_neg h]; simp [h]
theorem chN_i (g : List Opr) (l : List (Nat × Nat)) (i : Nat) : chN g l (i + 1) 0 = chN g l i l.length := by
  unfold chN
  rw [List.range_succ, List.map_append, List.flatten_append]
  simp [chRow]
theorem chRow_len (g : List Opr) (l : List (Nat × Nat)) (i m : Nat) : (chRow g l i m).length ≤ m := by
  unfold chRow
  rw [List.length_map]
  exact Nat.le_trans (List.length_filter_le _ _) (by simp)
theorem chN_len (g : List Opr) (l : List (Nat × Nat)) : ∀ i j, (chN g l i j).length ≤ i * l.length + j
  | 0, j => by
    have := chRow_len g l 0 j
    unfold chN
    simpa using this
  | i + 1, j => by
    have ih := chN_len g l i l.length
    have := chRow_len g l (i + 1) j
    have e : chN g l (i + 1) j = chN g l i l.length ++ chRow g l (i + 1) j := by
      rw [← chN_i]
      unfold chN
      simp [chRow]
    rw [e, List.length_append, Nat.add_mul]
    omega
/-- The places of what is picked. -/
def pick (p : Nat × Nat → Bool) (l : List (Nat × Nat)) : List Int := ((List.range l.length).filter fun j => match l[j]? with
  | some c => p c
  | none => false).map fun j : Nat => (j : Int)
theorem pick_nil (p : Nat × Nat → Bool) : pick p [] = [] := rfl
theorem pick_snoc (p : Nat × Nat → Bool) (l : List (Nat × Nat)) (c : Nat × Nat) : pick p (l ++ [c]) = pick p l ++ (if p c = true then [(l.length : Int)] else []) := by
  unfold pick
  rw [List.length_append, List.length_singleton, List.range_succ, List.filter_append, List.map_append]
  congr 1
  · congr 1
    refine List.filter_congr fun j hj => ?_
    rw [List.getElem?_append_left (List.mem_range.1 hj)]
  · by_cases h : p c = true
    · rw [if_pos h]; simp [h]
    · rw [if_neg h]; simp [h]
theorem pick_len (p : Nat × Nat → Bool) (l : List (Nat × Nat)) : (pick p l).length ≤ l.length := by
  unfold pick
  rw [List.length_map]
  exact Nat.le_trans (List.length_filter_le _ _) (by simp)
end Go.Proofs.Ythmcknchkecciaa
