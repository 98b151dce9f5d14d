/- Plan: the channels' prefixes; the groups that two subtasks have: plain Lean. -/
import Derived.Test.YtcjiaiojkciheaaPSpec
namespace Go.Proofs.Ytcjiaiojkciheaa
open Go Go.RowKit
open Sy (C SV V1 Blk St XD Els)
set_option maxRecDepth 10000

theorem chN_add_j (g : List Opr) (l : List (Nat × Nat)) (i j : Nat) : ∀ d, ∃ t, chN g l i (j + d) = chN g l i j ++ t
  | 0 => ⟨[], by simp⟩
  | d + 1 => by
    obtain ⟨t, ht⟩ := chN_add_j g l i j d
    exact ⟨_, by rw [← Nat.add_assoc, chN_j, ht, List.append_assoc]⟩
theorem chN_add_i (g : List Opr) (l : List (Nat × Nat)) (i : Nat) : ∀ d, ∃ t, chN g l (i + d) 0 = chN g l i 0 ++ t
  | 0 => ⟨[], by simp⟩
  | d + 1 => by
    obtain ⟨t, ht⟩ := chN_add_i g l i d
    obtain ⟨t2, ht2⟩ := chN_add_j g l (i + d) 0 l.length
    rw [Nat.zero_add] at ht2
    exact ⟨t ++ t2, by rw [← Nat.add_assoc, chN_i, ht2, ht, List.append_assoc]⟩
theorem chN_pre (g : List Opr) {l : List (Nat × Nat)} {i j : Nat} (hi : i < l.length) (hj : j ≤ l.length) : ∃ t, chN g l l.length 0 = chN g l i j ++ t := by
  obtain ⟨t1, h1⟩ := chN_add_j g l i j (l.length - j)
  obtain ⟨t2, h2⟩ := chN_add_i g l (i + 1) (l.length - (i + 1))
  rw [show j + (l.length - j) = l.length by omega] at h1
  rw [show i + 1 + (l.length - (i + 1)) = l.length by omega, chN_i, h1, List.append_assoc] at h2
  exact ⟨_, h2⟩
/-- The groups, below m, that two subtasks have. -/
def comN (g : List Opr) (a b : Nat × Nat) (m : Nat) : List Int := ((List.range m).filter fun n => ownB (widN g a.1) a.2 n && ownB (widN g b.1) b.2 n).map fun n : Nat => (n : Int)
theorem comN_zero (g : List Opr) (a b : Nat × Nat) : comN g a b 0 = [] := rfl
theorem comN_succ (g : List Opr) (a b : Nat × Nat) (m : Nat) : comN g a b (m + 1) = comN g a b m ++ (if (ownB (widN g a.1) a.2 m && ownB (widN g b.1) b.2 m) = true then [(m : Int)] else []) := by
  unfold comN
  rw [List.range_succ, List.filter_append, List.map_append]
  by_cases h : (ownB (widN g a.1) a.2 m && ownB (widN g b.1) b.2 m) = true
  · rw [if_pos h, List.filter_cons, if_pos h]; rfl
  · rw [if_neg h, List.filter_cons, if_neg h]; rfl
theorem comN_len (g : List Opr) (a b : Nat × Nat) (m : Nat) : (comN g a b m).length ≤ m := by
  unfold comN
  rw [List.length_map]
  have := List.length_filter_le (fun n => ownB (widN g a.1) a.2 n && ownB (widN g b.1) b.2 n) (List.range m)
  rwa [List.length_range] at this
/-- The groups of a channel. -/
def chanGr (g : List Opr) (n : Int) : List Int := match (chansL g)[n.toNat]? with
  | some c => (match (subsL g)[c.1]?, (subsL g)[c.2]? with
    | some a, some b => comN g a b 8
    | _, _ => [])
  | none => []
def grE (g : List Opr) (n : Int) : Int := if (checkV g).2 = 0 then (if n < 0 ∨ ((chansL g).length : Int) ≤ n then 2 else 0) else (checkV g).2
def grL (g : List Opr) (n : Int) : List Int := if grE g n = 0 then chanGr g n else []
end Go.Proofs.Ytcjiaiojkciheaa
