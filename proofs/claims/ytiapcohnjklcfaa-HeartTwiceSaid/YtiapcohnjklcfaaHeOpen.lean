/- Heart: hearts as they come in, opened. -/
import Derived.Test.YtiapcohnjklcfaaHeN
import Derived.Test.YtiapcohnjklcfaaOpenY
namespace Go.Proofs.Ytiapcohnjklcfaa
open Go Go.RowKit
open Sy (C SV V1 Blk St XD Els)
theorem cells27 : Try.prog.cellsOf 27 = 3 := by kernel_rfl
theorem cells51 : Try.prog.cellsOf 51 = 3 := by kernel_rfl
theorem cells2 : Try.prog.cellsOf 2 = 1 := by kernel_rfl
theorem cells3 : Try.prog.cellsOf 3 = 1 := by kernel_rfl
theorem cells4 : Try.prog.cellsOf 4 = 1 := by kernel_rfl
theorem cells25 : Try.prog.cellsOf 25 = 1 := by kernel_rfl
theorem open_pulse {w : World} {c : List Value} (h : Rd Try.prog w 51 c) : ∃ p : Pulse, c = encP p ∧ True := by
  obtain ⟨hl, hf⟩ := h.struct Try.underlying51
  rw [cells51] at hl
  have h0 := (show Rd Try.prog w 3 ((c.drop 0).take (Try.prog.cellsOf 3)) from h.field Try.underlying51 0 rfl)
  have h1 := (show Rd Try.prog w 2 ((c.drop 1).take (Try.prog.cellsOf 2)) from h.field Try.underlying51 1 rfl)
  have h2 := (show Rd Try.prog w 4 ((c.drop 2).take (Try.prog.cellsOf 4)) from h.field Try.underlying51 2 rfl)
  rw [cells3] at h0
  rw [cells2] at h1
  rw [cells4] at h2
  obtain ⟨x, hx, _⟩ := h0.i64 Try.underlying3
  obtain ⟨y, hy, _⟩ := h1.i64 Try.underlying2
  obtain ⟨z, hz⟩ := h2.bool Try.underlying4
  exact ⟨⟨x, y, z⟩, list3 hl (take1 hx) (take1 hy) (take1 hz), trivial⟩
theorem encP_one (l : List Pulse) : ∀ c ∈ l.map encP, ∀ u ∈ c, u.oneCell' = true := by
  intro c hc u hu
  obtain ⟨x, _, rfl⟩ := List.mem_map.1 hc
  simp [encP] at hu
  rcases hu with rfl | rfl | rfl <;> rfl
theorem open_pulses {w : World} {c : List Value} (h : Rd Try.prog w 25 c) : ∃ (v : Value) (ps : List Pulse), c = [v] ∧ XD.ok (fun b => b < w.heap.size) w ⟨v, 3, ps.length, ps.map encP⟩ := by
  obtain ⟨v, xs, hv, hr, he⟩ := h.slice Try.underlying25 (by rw [cells51]; decide)
  obtain ⟨l, rfl, _⟩ := list_of (enc := encP) (p := fun _ => True) fun c hc => open_pulse (he c hc)
  rw [cells51, List.length_map] at hr
  exact ⟨v, l, hv, hr, encP_one l⟩
theorem open_heart {w : World} {c : List Value} (h : Rd Try.prog w 27 c) : ∃ x : HI, c = encH x ∧ (x.ok w ∧ I64 x.span) := by
  obtain ⟨hl, hf⟩ := h.struct Try.underlying27
  rw [cells27] at hl
  have h0 := (show Rd Try.prog w 2 ((c.drop 0).take (Try.prog.cellsOf 2)) from h.field Try.underlying27 0 rfl)
  have h1 := (show Rd Try.prog w 2 ((c.drop 1).take (Try.prog.cellsOf 2)) from h.field Try.underlying27 1 rfl)
  have h2 := (show Rd Try.prog w 25 ((c.drop 2).take (Try.prog.cellsOf 25)) from h.field Try.underlying27 2 rfl)
  rw [cells2] at h0 h1
  rw [cells25] at h2
  obtain ⟨x, hx, bx⟩ := h0.i64 Try.underlying2
  obtain ⟨y, hy, by_⟩ := h1.i64 Try.underlying2
  obtain ⟨v, ps, hv, hr⟩ := open_pulses h2
  exact ⟨⟨x, y, v, ps⟩, list3 hl (take1 hx) (take1 hy) (take1 hv), ⟨bx, hr⟩, by_⟩
theorem slice_one {F : Nat → Prop} {w : World} {esz n : Nat} {v : Value} {xs : List (List Value)} (h : XD.ok F w ⟨v, esz, n, xs⟩) : v.oneCell' = true := Sy.ReadsE.one h.1
theorem encH_one {w : World} (l : List HI) (h : ∀ x ∈ l, x.ok w ∧ I64 x.span) : ∀ c ∈ l.map encH, ∀ u ∈ c, u.oneCell' = true := by
  intro c hc u hu
  obtain ⟨x, hx, rfl⟩ := List.mem_map.1 hc
  simp [encH] at hu
  rcases hu with rfl | rfl | rfl
  · rfl
  · rfl
  · exact slice_one (h x hx).1.2
end Go.Proofs.Ytiapcohnjklcfaa
