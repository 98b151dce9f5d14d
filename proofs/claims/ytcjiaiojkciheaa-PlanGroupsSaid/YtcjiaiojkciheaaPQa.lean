/- Plan: what a channel is: plain Lean. -/
import Derived.Test.YtcjiaiojkciheaaPSpec
namespace Go.Proofs.Ytcjiaiojkciheaa
open Go Go.RowKit
open Sy (C SV V1 Blk St XD Els)
set_option maxRecDepth 10000

/-- What a channel is: of subtasks that there are. -/
theorem chN_mem {g : List Opr} {l : List (Nat × Nat)} {c : Nat × Nat} {i : Nat} (h : c ∈ chN g l i 0) : c.1 < i ∧ c.2 < l.length ∧ linkAt g l c.1 c.2 = true := by
  unfold chN at h
  rcases List.mem_append.1 h with h | h
  · obtain ⟨r, hr, hc⟩ := List.mem_flatten.1 h
    obtain ⟨f, hf, rfl⟩ := List.mem_map.1 hr
    unfold chRow at hc
    obtain ⟨j, hj, rfl⟩ := List.mem_map.1 hc
    rw [List.mem_filter, List.mem_range] at hj
    have := List.mem_range.1 hf
    exact ⟨this, hj.1, hj.2⟩
  · unfold chRow at h
    simp at h
theorem chansL_mem {g : List Opr} {c : Nat × Nat} (h : c ∈ chansL g) : c.1 < (subsL g).length ∧ c.2 < (subsL g).length ∧ linkAt g (subsL g) c.1 c.2 = true := chN_mem h
end Go.Proofs.Ytcjiaiojkciheaa
