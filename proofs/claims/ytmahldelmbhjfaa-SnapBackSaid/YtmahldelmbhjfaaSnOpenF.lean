/- Snap: a snapshot as it comes in, opened, with the bounds of its cells' numbers. -/
import Derived.Test.YtmahldelmbhjfaaSnOpenD
import Derived.Test.YtmahldelmbhjfaaSdL
namespace Go.Proofs.Ytmahldelmbhjfaa
open Go Go.RowKit
open Sy (C SV V1 Blk St XD Els)
theorem open_kcB {w : World} {c : List Value} (h : Rd Try.prog w 73 c) : ∃ p : Kc, c = encK p ∧ InK p := by
  obtain ⟨hl, _⟩ := h.struct Try.underlying73
  rw [cellsS73] at hl
  have h0 := (show Rd Try.prog w 3 ((c.drop 0).take (Try.prog.cellsOf 3)) from h.field Try.underlying73 0 rfl)
  have h1 := (show Rd Try.prog w 3 ((c.drop 1).take (Try.prog.cellsOf 3)) from h.field Try.underlying73 1 rfl)
  have hc := (show Rd Try.prog w 58 ((c.drop 2).take (Try.prog.cellsOf 58)) from h.field Try.underlying73 2 rfl)
  have h2 := (show Rd Try.prog w 2 ((((c.drop 2).take (Try.prog.cellsOf 58)).drop 0).take (Try.prog.cellsOf 2)) from hc.field Try.underlying58 0 rfl)
  have h3 := (show Rd Try.prog w 2 ((((c.drop 2).take (Try.prog.cellsOf 58)).drop 1).take (Try.prog.cellsOf 2)) from hc.field Try.underlying58 1 rfl)
  rw [cellsS3] at h0 h1
  rw [cellsS2, cellsS58] at h2 h3
  obtain ⟨x, hx, _⟩ := h0.i64 Try.underlying3
  obtain ⟨y, hy, _⟩ := h1.i64 Try.underlying3
  obtain ⟨z, hz, hz1⟩ := h2.i64 Try.underlying2
  obtain ⟨u, hu, hu1⟩ := h3.i64 Try.underlying2
  have hz2 := sub1 (by decide) (take1 hz)
  have hu2 := sub1 (by decide) (take1 hu)
  exact ⟨⟨x, y, z, u⟩, list4 hl (take1 hx) (take1 hy) hz2 hu2, hz1, hu1⟩
theorem open_snapB {w : World} {c : List Value} (h : Rd Try.prog w 33 c) : ∃ s : SnV, c = encS s ∧ SOk (fun b => b < w.heap.size) w s ∧ ∀ x ∈ s.sn.rows, InK x := by
  obtain ⟨hl, _⟩ := h.struct Try.underlying33
  rw [cellsS33] at hl
  have h0 := (show Rd Try.prog w 3 ((c.drop 0).take (Try.prog.cellsOf 3)) from h.field Try.underlying33 0 rfl)
  have h1 := (show Rd Try.prog w 3 ((c.drop 1).take (Try.prog.cellsOf 3)) from h.field Try.underlying33 1 rfl)
  have h2 := (show Rd Try.prog w 3 ((c.drop 2).take (Try.prog.cellsOf 3)) from h.field Try.underlying33 2 rfl)
  have h3 := (show Rd Try.prog w 4 ((c.drop 3).take (Try.prog.cellsOf 4)) from h.field Try.underlying33 3 rfl)
  have h4 := (show Rd Try.prog w 28 ((c.drop 4).take (Try.prog.cellsOf 28)) from h.field Try.underlying33 4 rfl)
  have h5 := (show Rd Try.prog w 30 ((c.drop 5).take (Try.prog.cellsOf 30)) from h.field Try.underlying33 5 rfl)
  have h6 := (show Rd Try.prog w 31 ((c.drop 13).take (Try.prog.cellsOf 31)) from h.field Try.underlying33 6 rfl)
  have h4' := (show Rd Try.prog w 26 ((((c.drop 4).take (Try.prog.cellsOf 28)).drop 0).take (Try.prog.cellsOf 26)) from h4.field Try.underlying28 0 rfl)
  have hoff := (h5.array Try.underlying30).2
  rw [cellsS3] at h0 h1 h2 hoff
  rw [cellsS4] at h3
  rw [cellsS28, cellsS26] at h4'
  rw [cellsS31] at h6
  rw [cellsS30] at hoff
  obtain ⟨op, e0, _⟩ := h0.i64 Try.underlying3
  obtain ⟨idx, e1, _⟩ := h1.i64 Try.underlying3
  obtain ⟨wid, e2, _⟩ := h2.i64 Try.underlying3
  obtain ⟨fin, e3⟩ := h3.bool Try.underlying4
  have hz : ∀ g : Fin 8, ∃ n : Int, c[5 + g.val]? = some (.int .i64 n) := fun g => by
    obtain ⟨n, hn, _⟩ := (hoff g.val g.isLt).i64 Try.underlying3
    rw [Nat.mul_one] at hn
    exact ⟨n, sub1 (by omega) (take1 hn)⟩
  obtain ⟨o, ho⟩ : ∃ o : Fin 8 → Int, ∀ g : Fin 8, c[5 + g.val]? = some (.int .i64 (o g)) := ⟨fun g => (hz g).choose, fun g => (hz g).choose_spec⟩
  obtain ⟨u, xs, e4, hr, he⟩ := h4'.slice Try.underlying26 (by rw [cellsS73]; decide)
  obtain ⟨t, ys, e5, hr2, he2⟩ := h6.slice Try.underlying31 (by rw [cellsS89]; decide)
  obtain ⟨rows, rfl, hrows⟩ := list_of (enc := encK) (p := InK) fun c hc => by
    obtain ⟨p, hp, hb⟩ := open_kcB (he c hc)
    exact ⟨p, hp, hb⟩
  obtain ⟨txs, rfl, _⟩ := list_of (enc := encT) (p := fun _ => True) fun c hc => by
    obtain ⟨p, hp⟩ := open_name (he2 c hc)
    exact ⟨p, hp, trivial⟩
  rw [cellsS73, List.length_map] at hr
  rw [cellsS89, List.length_map] at hr2
  have e4' := sub1 (by decide) (take1 e4)
  refine ⟨⟨⟨op, idx, wid, fin, rows, o, txs⟩, u, t⟩, list14 hl fun i hi => ?_, ⟨⟨hr, oneK rows⟩, ⟨hr2, oneT txs⟩⟩, hrows⟩
  have hc : i = 0 ∨ i = 1 ∨ i = 2 ∨ i = 3 ∨ i = 4 ∨ i = 5 ∨ i = 6 ∨ i = 7 ∨ i = 8 ∨ i = 9 ∨ i = 10 ∨ i = 11 ∨ i = 12 ∨ i = 13 := by omega
  rcases hc with rfl | rfl | rfl | rfl | rfl | rfl | rfl | rfl | rfl | rfl | rfl | rfl | rfl | rfl
  · exact take1 e0
  · exact take1 e1
  · exact take1 e2
  · exact take1 e3
  · exact e4'
  · exact ho 0
  · exact ho 1
  · exact ho 2
  · exact ho 3
  · exact ho 4
  · exact ho 5
  · exact ho 6
  · exact ho 7
  · exact take1 e5
end Go.Proofs.Ytmahldelmbhjfaa
