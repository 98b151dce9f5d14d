/- Snap: rows of shares as they come in, opened. -/
import Derived.Test.YtmahldelmbhjfaaSnQ
import Derived.Test.YtmahldelmbhjfaaOpenY
namespace Go.Proofs.Ytmahldelmbhjfaa
open Go Go.RowKit
open Sy (C SV V1 Blk St XD Els)
theorem cellsH : Try.prog.cellsOf 25 = 3 := by kernel_rfl
theorem cells3 : Try.prog.cellsOf 3 = 1 := by kernel_rfl
theorem oneH (l : List Shr) : ∀ c ∈ l.map encH, ∀ u ∈ c, u.oneCell' = true := by
  intro c hc u hu
  obtain ⟨p, _, rfl⟩ := List.mem_map.1 hc
  simp only [encH, List.mem_cons, List.mem_nil_iff, or_false] at hu
  rcases hu with rfl | rfl | rfl <;> rfl
theorem open_share {w : World} {c : List Value} (h : Rd Try.prog w 25 c) : ∃ p : Shr, c = encH p := by
  obtain ⟨hl, _⟩ := h.struct Try.underlying25
  rw [cellsH] at hl
  have h0 := (show Rd Try.prog w 3 ((c.drop 0).take (Try.prog.cellsOf 3)) from h.field Try.underlying25 0 rfl)
  have h1 := (show Rd Try.prog w 3 ((c.drop 1).take (Try.prog.cellsOf 3)) from h.field Try.underlying25 1 rfl)
  have h2 := (show Rd Try.prog w 3 ((c.drop 2).take (Try.prog.cellsOf 3)) from h.field Try.underlying25 2 rfl)
  rw [cells3] at h0 h1 h2
  obtain ⟨x, hx, _⟩ := h0.i64 Try.underlying3
  obtain ⟨y, hy, _⟩ := h1.i64 Try.underlying3
  obtain ⟨z, hz, _⟩ := h2.i64 Try.underlying3
  exact ⟨⟨x, y, z⟩, list3 hl (take1 hx) (take1 hy) (take1 hz)⟩
theorem open_shares {w : World} {c : List Value} (h : Rd Try.prog w 22 c) : ∃ (v : Value) (l : List Shr), c = [v] ∧ XD.ok (fun b => b < w.heap.size) w ⟨v, 3, l.length, l.map encH⟩ := by
  obtain ⟨v, xs, hv, hr, he⟩ := h.slice Try.underlying22 (by rw [cellsH]; decide)
  obtain ⟨l, rfl, _⟩ := list_of (enc := encH) (p := fun _ => True) fun c hc => by
    obtain ⟨x, hx⟩ := open_share (he c hc)
    exact ⟨x, hx, trivial⟩
  rw [cellsH, List.length_map] at hr
  exact ⟨v, l, hv, hr, oneH l⟩
end Go.Proofs.Ytmahldelmbhjfaa
