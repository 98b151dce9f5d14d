/- Snap: rows of snapshots and of numbers as they come in, opened. -/
import Derived.Test.YtmahldelmbhjfaaGreatSnOpenB
import Derived.Test.YtmahldelmbhjfaaGreatSnL
namespace Go.Proofs.YtmahldelmbhjfaaGreat.Sn
open Go Go.RowKit
open Sy (C SV V1 Blk St XD Els)
theorem open_snaps {w : World} {c : List Value} (h : Rd Tryz.prog w 25 c) : ∃ (v : Value) (ls : List SnV), c = [v] ∧ SsOk (fun b => b < w.heap.size) w v ls := by
  obtain ⟨v, xs, hv, hr, he⟩ := h.slice Tryz.underlying25 (by rw [cellsS33]; decide)
  obtain ⟨l, rfl, ho⟩ := list_of (enc := encS) (p := SOk (fun b => b < w.heap.size) w) fun c hc => open_snap (he c hc)
  rw [cellsS33, List.length_map] at hr
  exact ⟨v, l, hv, ⟨hr, fun c hc u hu => by
    obtain ⟨s, hs, rfl⟩ := List.mem_map.1 hc
    have h1 := (ho s hs).rows.1.one
    have h2 := (ho s hs).txs.1.one
    simp only [encS, List.mem_cons, List.mem_nil_iff, or_false] at hu
    rcases hu with rfl | rfl | rfl | rfl | rfl | rfl | rfl | rfl | rfl | rfl | rfl | rfl | rfl | rfl
    all_goals first | rfl | exact h1 | exact h2⟩, ho⟩
theorem open_ints {w : World} {c : List Value} (h : Rd Tryz.prog w 53 c) : ∃ (v : Value) (l : List Int), c = [v] ∧ XD.ok (fun b => b < w.heap.size) w ⟨v, 1, l.length, l.map encI⟩ := by
  obtain ⟨v, xs, hv, hr, he⟩ := h.slice Tryz.underlying53 (by rw [cellsS3]; decide)
  obtain ⟨l, rfl, _⟩ := list_of (enc := encI) (p := fun _ => True) fun c hc => by
    obtain ⟨x, hx, _⟩ := (he c hc).i64 Tryz.underlying3
    exact ⟨x, hx, trivial⟩
  rw [cellsS3, List.length_map] at hr
  exact ⟨v, l, hv, hr, fun c hc u hu => by
    obtain ⟨x, _, rfl⟩ := List.mem_map.1 hc
    rw [List.mem_singleton.1 hu]; rfl⟩
end Go.Proofs.YtmahldelmbhjfaaGreat.Sn
