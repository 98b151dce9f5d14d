/- Snap: a record as it comes in, opened. -/
import Derived.Test.YtmahldelmbhjfaaSnOpenC
namespace Go.Proofs.Ytmahldelmbhjfaa
open Go Go.RowKit
open Sy (C SV V1 Blk St XD Els)
theorem cellsS53 : Try.prog.cellsOf 53 = 3 := by kernel_rfl
theorem open_rec {w : World} {cs : Array Value} (h : Rd Try.prog w 53 cs.toList) : ∃ s k v : Int, cs = #[.int .i64 s, .int .i64 k, .int .i64 v] := by
  obtain ⟨hl, _⟩ := h.struct Try.underlying53
  rw [cellsS53] at hl
  have h0 := (show Rd Try.prog w 3 ((cs.toList.drop 0).take (Try.prog.cellsOf 3)) from h.field Try.underlying53 0 rfl)
  have h1 := (show Rd Try.prog w 3 ((cs.toList.drop 1).take (Try.prog.cellsOf 3)) from h.field Try.underlying53 1 rfl)
  have h2 := (show Rd Try.prog w 2 ((cs.toList.drop 2).take (Try.prog.cellsOf 2)) from h.field Try.underlying53 2 rfl)
  rw [cellsS3] at h0 h1
  rw [cellsS2] at h2
  obtain ⟨x, hx, _⟩ := h0.i64 Try.underlying3
  obtain ⟨y, hy, _⟩ := h1.i64 Try.underlying3
  obtain ⟨z, hz, _⟩ := h2.i64 Try.underlying2
  exact ⟨x, y, z, by rw [← Array.toArray_toList (xs := cs), list3 hl (take1 hx) (take1 hy) (take1 hz)]⟩
end Go.Proofs.Ytmahldelmbhjfaa
