/- Slots: a pair of numbers as it comes in, opened. -/
import Derived.Test.YtjhjmeajdebcbaaSOpen
import Derived.WideShapes
namespace Go.Proofs.Ytjhjmeajdebcbaa
open Go Go.RowKit Go.WideShapes
open Sy (C SV V1 Blk St XD Els)
set_option maxRecDepth 100000
theorem okWide_array {P : Program} {w : World} {r : Reach} {base : Nat} {t e : TypeId} {k : Nat} {v : Value} (ht : P.underlying t = some (.array k e)) (h : Value.okWide P w r base t v) : ∃ cs, v = .agg cs ∧ cs.size = P.cellsOf t := by
  simp only [Value.okWide, ht] at h
  obtain ⟨cs, h1, h2, _⟩ := h
  exact ⟨cs, h1, h2⟩
theorem cellsQ : Try.prog.cellsOf 40 = 2 := by kernel_rfl
theorem open_pair {w : World} {r : Reach} {base : Nat} {v : Value} (h : Rd Try.prog w 40 v.cells.toList) (ho : Value.okWide Try.prog w r base 40 v) : ∃ x y : Int, v = .agg #[.int .i64 x, .int .i64 y] := by
  obtain ⟨cs, rfl, _⟩ := okWide_array Try.underlying40 ho
  obtain ⟨hl, hf⟩ := h.array Try.underlying40
  rw [cellsQ] at hl
  have h0 := hf 0 (by decide)
  have h1 := hf 1 (by decide)
  rw [cells3] at h0 h1
  obtain ⟨x, hx, _⟩ := h0.i64 Try.underlying3
  obtain ⟨y, hy, _⟩ := h1.i64 Try.underlying3
  exact ⟨x, y, by rw [agg_worker (cs := cs) (p := (x, y)) (list2 hl (take1 hx) (take1 hy))]⟩
end Go.Proofs.Ytjhjmeajdebcbaa
