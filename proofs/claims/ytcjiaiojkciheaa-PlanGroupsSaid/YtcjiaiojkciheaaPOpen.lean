/- Plan: records and subtasks as they come in, opened. -/
import Derived.Test.YtcjiaiojkciheaaGOpenT
namespace Go.Proofs.Ytcjiaiojkciheaa
open Go Go.RowKit
open Sy (C SV V1 Blk St XD Els)
theorem cellsR : Try.prog.cellsOf 26 = 3 := by kernel_rfl
theorem cellsS : Try.prog.cellsOf 43 = 2 := by kernel_rfl
theorem open_rec {w : World} {c : Array Value} (h : Rd Try.prog w 26 (Value.agg c).cells.toList) : ∃ s k x : Int, c = #[.int .i64 s, .int .i64 k, .int .i64 x] := by
  obtain ⟨hl, hf⟩ := h.struct Try.underlying26
  rw [cellsR] at hl
  have h0 := (show Rd Try.prog w 3 (((Value.agg c).cells.toList.drop 0).take (Try.prog.cellsOf 3)) from h.field Try.underlying26 0 rfl)
  have h1 := (show Rd Try.prog w 3 (((Value.agg c).cells.toList.drop 1).take (Try.prog.cellsOf 3)) from h.field Try.underlying26 1 rfl)
  have h2 := (show Rd Try.prog w 2 (((Value.agg c).cells.toList.drop 2).take (Try.prog.cellsOf 2)) from h.field Try.underlying26 2 rfl)
  rw [cells3] at h0 h1
  rw [cells2] at h2
  obtain ⟨s, hs, _⟩ := h0.i64 Try.underlying3
  obtain ⟨k, hk, _⟩ := h1.i64 Try.underlying3
  obtain ⟨x, hx, _⟩ := h2.i64 Try.underlying2
  have e := list3 hl (take1 hs) (take1 hk) (take1 hx)
  refine ⟨s, k, x, ?_⟩
  have e : c.toList = _ := e
  rw [← Array.toArray_toList (xs := c), e]
theorem open_sub {w : World} {c : Array Value} (h : Rd Try.prog w 43 (Value.agg c).cells.toList) : ∃ s k : Int, c = #[.int .i64 s, .int .i64 k] := by
  obtain ⟨hl, hf⟩ := h.struct Try.underlying43
  rw [cellsS] at hl
  have h0 := (show Rd Try.prog w 3 (((Value.agg c).cells.toList.drop 0).take (Try.prog.cellsOf 3)) from h.field Try.underlying43 0 rfl)
  have h1 := (show Rd Try.prog w 3 (((Value.agg c).cells.toList.drop 1).take (Try.prog.cellsOf 3)) from h.field Try.underlying43 1 rfl)
  rw [cells3] at h0 h1
  obtain ⟨s, hs, _⟩ := h0.i64 Try.underlying3
  obtain ⟨k, hk, _⟩ := h1.i64 Try.underlying3
  have e := list2 hl (take1 hs) (take1 hk)
  refine ⟨s, k, ?_⟩
  have e : c.toList = _ := e
  rw [← Array.toArray_toList (xs := c), e]
end Go.Proofs.Ytcjiaiojkciheaa
