/- Heart: rows of ops as they come in, opened. -/
import Derived.Test.YtiapcohnjklcfaaHeOpen
import Derived.Test.YtiapcohnjklcfaaHeO
namespace Go.Proofs.Ytiapcohnjklcfaa
open Go Go.RowKit
open Sy (C SV V1 Blk St XD Els)
theorem cells47 : Try.prog.cellsOf 47 = 4 := by kernel_rfl
theorem open_op {w : World} {c : List Value} (h : Rd Try.prog w 47 c) : ∃ o : OpI, c = encO o ∧ (o.ok ∧ I64 o.tick) := by
  obtain ⟨hl, _⟩ := h.struct Try.underlying47
  rw [cells47] at hl
  have h0 := (show Rd Try.prog w 3 ((c.drop 0).take (Try.prog.cellsOf 3)) from h.field Try.underlying47 0 rfl)
  have h1 := (show Rd Try.prog w 3 ((c.drop 1).take (Try.prog.cellsOf 3)) from h.field Try.underlying47 1 rfl)
  have h2 := (show Rd Try.prog w 2 ((c.drop 2).take (Try.prog.cellsOf 2)) from h.field Try.underlying47 2 rfl)
  have h3 := (show Rd Try.prog w 4 ((c.drop 3).take (Try.prog.cellsOf 4)) from h.field Try.underlying47 3 rfl)
  rw [cells3] at h0 h1
  rw [cells2] at h2
  rw [cells4] at h3
  obtain ⟨x, hx, _⟩ := h0.i64 Try.underlying3
  obtain ⟨y, hy, by_⟩ := h1.i64 Try.underlying3
  obtain ⟨z, hz, bz⟩ := h2.i64 Try.underlying2
  obtain ⟨b, hb⟩ := h3.bool Try.underlying4
  exact ⟨⟨x, y, z, b⟩, list4 hl (take1 hx) (take1 hy) (take1 hz) (take1 hb), by_, bz⟩
theorem encO_one (l : List OpI) : ∀ c ∈ l.map encO, ∀ u ∈ c, u.oneCell' = true := by
  intro c hc u hu
  obtain ⟨x, _, rfl⟩ := List.mem_map.1 hc
  simp [encO] at hu
  rcases hu with rfl | rfl | rfl | rfl <;> rfl
theorem open_ops {w : World} {c : List Value} (h : Rd Try.prog w 44 c) : ∃ (v : Value) (l : List OpI), c = [v] ∧ XD.ok (fun b => b < w.heap.size) w ⟨v, 4, l.length, l.map encO⟩ ∧ ∀ o ∈ l, o.ok ∧ I64 o.tick := by
  obtain ⟨v, xs, hv, hr, he⟩ := h.slice Try.underlying44 (by rw [cells47]; decide)
  obtain ⟨l, rfl, hl⟩ := list_of (enc := encO) (p := fun o => o.ok ∧ I64 o.tick) fun c hc => open_op (he c hc)
  rw [cells47, List.length_map] at hr
  exact ⟨v, l, hv, ⟨hr, encO_one l⟩, hl⟩
theorem agg_heart {cs : Array Value} {x : HI} (h : cs.toList = encH x) : cs = #[.int .i64 x.now, .int .i64 x.span, x.v] := by
  rw [← Array.toArray_toList (xs := cs), h]; rfl
end Go.Proofs.Ytiapcohnjklcfaa
