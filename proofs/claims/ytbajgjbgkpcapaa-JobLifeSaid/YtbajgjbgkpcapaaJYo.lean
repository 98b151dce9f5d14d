/- Job: jobs as they come in, opened. -/
import Derived.Test.YtbajgjbgkpcapaaJYa
import Derived.Test.YtbajgjbgkpcapaaOpenY
namespace Go.Proofs.Ytbajgjbgkpcapaa
open Go Go.RowKit
open Sy (C SV V1 Blk St XD Els)
theorem cellsJ : Try.prog.cellsOf 23 = 3 := by kernel_rfl
theorem cellsI : Try.prog.cellsOf 3 = 1 := by kernel_rfl
theorem open_job {w : World} {c : List Value} (h : Rd Try.prog w 23 c) : ∃ j : Jb, c = encJ j := by
  obtain ⟨hl, hf⟩ := h.struct Try.underlying23
  rw [cellsJ] at hl
  have h0 := (show Rd Try.prog w 3 ((c.drop 0).take (Try.prog.cellsOf 3)) from h.field Try.underlying23 0 rfl)
  have h1 := (show Rd Try.prog w 3 ((c.drop 1).take (Try.prog.cellsOf 3)) from h.field Try.underlying23 1 rfl)
  have h2 := (show Rd Try.prog w 3 ((c.drop 2).take (Try.prog.cellsOf 3)) from h.field Try.underlying23 2 rfl)
  rw [cellsI] at h0 h1 h2
  obtain ⟨x, hx, _⟩ := h0.i64 Try.underlying3
  obtain ⟨y, hy, _⟩ := h1.i64 Try.underlying3
  obtain ⟨z, hz, _⟩ := h2.i64 Try.underlying3
  exact ⟨⟨x, y, z⟩, list3 hl (take1 hx) (take1 hy) (take1 hz)⟩
theorem agg_job {cs : Array Value} {j : Jb} (h : cs.toList = encJ j) : cs = #[.int .i64 j.s, .int .i64 j.f, .int .i64 j.m] := by
  rw [← Array.toArray_toList (xs := cs), h]; rfl
theorem open_ints {w : World} {c : List Value} (h : Rd Try.prog w 30 c) : ∃ (v : Value) (l : List Int), c = [v] ∧ XD.ok (fun b => b < w.heap.size) w ⟨v, 1, l.length, l.map encI⟩ := by
  obtain ⟨v, xs, hv, hr, he⟩ := h.slice Try.underlying30 (by rw [cellsI]; decide)
  obtain ⟨l, rfl, _⟩ := list_of (enc := encI) (p := fun _ => True) fun c hc => by
    obtain ⟨x, hx, _⟩ := (he c hc).i64 Try.underlying3
    exact ⟨x, hx, trivial⟩
  rw [cellsI, List.length_map] at hr
  exact ⟨v, l, hv, hr, fun c hc u hu => by
    obtain ⟨x, _, rfl⟩ := List.mem_map.1 hc
    rw [List.mem_singleton.1 hu]; rfl⟩
end Go.Proofs.Ytbajgjbgkpcapaa
