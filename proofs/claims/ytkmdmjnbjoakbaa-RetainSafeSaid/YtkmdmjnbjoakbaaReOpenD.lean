/- Retain: rows of deeds as they come in, opened. -/
import Derived.Test.YtkmdmjnbjoakbaaReOpen
import Derived.Test.YtkmdmjnbjoakbaaReV
namespace Go.Proofs.Ytkmdmjnbjoakbaa
open Go Go.RowKit
open Sy (C SV V1 Blk St XD Els)
theorem cellsD : Try.prog.cellsOf 50 = 4 := by kernel_rfl
theorem cellsU : Try.prog.cellsOf 25 = 1 := by kernel_rfl
theorem cellsI : Try.prog.cellsOf 3 = 1 := by kernel_rfl
theorem cellsB : Try.prog.cellsOf 4 = 1 := by kernel_rfl
theorem open_deed {w : World} {c : List Value} (h : Rd Try.prog w 50 c) : ∃ d : Deed, c = encD d ∧ 0 ≤ d.by' := by
  obtain ⟨hl, hf⟩ := h.struct Try.underlying50
  rw [cellsD] at hl
  have h0 := (show Rd Try.prog w 3 ((c.drop 0).take (Try.prog.cellsOf 3)) from h.field Try.underlying50 0 rfl)
  have h1 := (show Rd Try.prog w 25 ((c.drop 1).take (Try.prog.cellsOf 25)) from h.field Try.underlying50 1 rfl)
  have h2 := (show Rd Try.prog w 4 ((c.drop 2).take (Try.prog.cellsOf 4)) from h.field Try.underlying50 2 rfl)
  have h3 := (show Rd Try.prog w 3 ((c.drop 3).take (Try.prog.cellsOf 3)) from h.field Try.underlying50 3 rfl)
  rw [cellsI] at h0 h3
  rw [cellsU] at h1
  rw [cellsB] at h2
  obtain ⟨x, hx, _⟩ := h0.i64 Try.underlying3
  obtain ⟨y, hy, hw⟩ := h1.int Try.underlying25
  obtain ⟨b, hb⟩ := h2.bool Try.underlying4
  obtain ⟨z, hz, _⟩ := h3.i64 Try.underlying3
  refine ⟨⟨x, y, b, z⟩, list4 hl (take1 hx) (take1 hy) (take1 hb) (take1 hz), ?_⟩
  exact (bounds_u64 hw).1
theorem open_deeds {w : World} {c : List Value} (h : Rd Try.prog w 46 c) : ∃ (v : Value) (l : List Deed), c = [v] ∧ XD.ok (fun b => b < w.heap.size) w ⟨v, 4, l.length, l.map encD⟩ ∧ ∀ d ∈ l, 0 ≤ d.by' := by
  obtain ⟨v, xs, hv, hr, he⟩ := h.slice Try.underlying46 (by rw [cellsD]; decide)
  obtain ⟨l, rfl, hd⟩ := list_of (enc := encD) (p := fun d => 0 ≤ d.by') fun c hc => open_deed (he c hc)
  rw [cellsD, List.length_map] at hr
  refine ⟨v, l, hv, ⟨hr, fun c hc u hu => ?_⟩, hd⟩
  obtain ⟨d, hm, rfl⟩ := List.mem_map.1 hc
  simp only [encD, List.mem_cons, List.mem_nil_iff, or_false] at hu
  rcases hu with rfl | rfl | rfl | rfl <;> rfl
end Go.Proofs.Ytkmdmjnbjoakbaa
