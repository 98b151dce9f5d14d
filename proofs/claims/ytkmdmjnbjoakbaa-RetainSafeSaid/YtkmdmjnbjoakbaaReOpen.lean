/- Retain: shelves as they come in, opened. -/
import Derived.Test.YtkmdmjnbjoakbaaReP
import Derived.Test.YtkmdmjnbjoakbaaOpenY
namespace Go.Proofs.Ytkmdmjnbjoakbaa
open Go Go.RowKit
open Sy (C SV V1 Blk St XD Els)
theorem cells24 : Try.prog.cellsOf 24 = 2 := by kernel_rfl
theorem cells39 : Try.prog.cellsOf 39 = 3 := by kernel_rfl
theorem cells22 : Try.prog.cellsOf 22 = 1 := by kernel_rfl
theorem cells25 : Try.prog.cellsOf 25 = 1 := by kernel_rfl
theorem cells3 : Try.prog.cellsOf 3 = 1 := by kernel_rfl
theorem cells4 : Try.prog.cellsOf 4 = 1 := by kernel_rfl
theorem open_kept {w : World} {c : List Value} (h : Rd Try.prog w 39 c) : ∃ p : Kp, c = encK p ∧ True := by
  obtain ⟨hl, hf⟩ := h.struct Try.underlying39
  rw [cells39] at hl
  have h0 := (show Rd Try.prog w 25 ((c.drop 0).take (Try.prog.cellsOf 25)) from h.field Try.underlying39 0 rfl)
  have h1 := (show Rd Try.prog w 4 ((c.drop 1).take (Try.prog.cellsOf 4)) from h.field Try.underlying39 1 rfl)
  have h2 := (show Rd Try.prog w 4 ((c.drop 2).take (Try.prog.cellsOf 4)) from h.field Try.underlying39 2 rfl)
  rw [cells25] at h0
  rw [cells4] at h1 h2
  obtain ⟨x, hx, _⟩ := h0.int Try.underlying25
  obtain ⟨y, hy⟩ := h1.bool Try.underlying4
  obtain ⟨z, hz⟩ := h2.bool Try.underlying4
  exact ⟨⟨x, y, z⟩, list3 hl (take1 hx) (take1 hy) (take1 hz), trivial⟩
theorem encK_one (l : List Kp) : ∀ c ∈ l.map encK, ∀ u ∈ c, u.oneCell' = true := by
  intro c hc u hu
  obtain ⟨x, _, rfl⟩ := List.mem_map.1 hc
  simp [encK] at hu
  rcases hu with rfl | rfl | rfl <;> rfl
theorem open_shelf {w : World} {c : List Value} (h : Rd Try.prog w 24 c) : ∃ (keep : Int) (v : Value) (ks : List Kp), c = [.int .i64 keep, v] ∧ XD.ok (fun b => b < w.heap.size) w ⟨v, 3, ks.length, ks.map encK⟩ := by
  obtain ⟨hl, hf⟩ := h.struct Try.underlying24
  rw [cells24] at hl
  have h0 := (show Rd Try.prog w 3 ((c.drop 0).take (Try.prog.cellsOf 3)) from h.field Try.underlying24 0 rfl)
  have h1 := (show Rd Try.prog w 22 ((c.drop 1).take (Try.prog.cellsOf 22)) from h.field Try.underlying24 1 rfl)
  rw [cells3] at h0
  rw [cells22] at h1
  obtain ⟨x, hx, _⟩ := h0.i64 Try.underlying3
  obtain ⟨v, xs, hv, hr, he⟩ := h1.slice Try.underlying22 (by rw [cells39]; decide)
  obtain ⟨l, rfl, _⟩ := list_of (enc := encK) (p := fun _ => True) fun c hc => open_kept (he c hc)
  rw [cells39, List.length_map] at hr
  exact ⟨x, v, l, list2 hl (take1 hx) (take1 hv), hr, encK_one l⟩
theorem agg_shelf {cs : Array Value} {keep : Int} {v : Value} (h : cs.toList = [.int .i64 keep, v]) : cs = #[.int .i64 keep, v] := by
  rw [← Array.toArray_toList (xs := cs), h]
end Go.Proofs.Ytkmdmjnbjoakbaa
