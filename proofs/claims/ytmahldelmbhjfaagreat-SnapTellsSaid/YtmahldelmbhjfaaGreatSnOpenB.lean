/- Snap: a snapshot as it comes in, opened. -/
import Derived.Test.YtmahldelmbhjfaaGreatSnSpec
import Derived.Test.YtmahldelmbhjfaaGreatOpenY
namespace Go.Proofs.YtmahldelmbhjfaaGreat.Sn
open Go Go.RowKit
open Sy (C SV V1 Blk St XD Els)
theorem cellsS33 : Tryz.prog.cellsOf 35 = 14 := by kernel_rfl
theorem cellsS28 : Tryz.prog.cellsOf 30 = 1 := by kernel_rfl
theorem cellsS30 : Tryz.prog.cellsOf 32 = 8 := by kernel_rfl
theorem cellsS31 : Tryz.prog.cellsOf 33 = 1 := by kernel_rfl
theorem cellsS26 : Tryz.prog.cellsOf 28 = 1 := by kernel_rfl
theorem cellsS73 : Tryz.prog.cellsOf 46 = 4 := by kernel_rfl
theorem cellsS58 : Tryz.prog.cellsOf 44 = 2 := by kernel_rfl
theorem cellsS89 : Tryz.prog.cellsOf 80 = 3 := by kernel_rfl
theorem cellsS3 : Tryz.prog.cellsOf 3 = 1 := by kernel_rfl
theorem cellsS2 : Tryz.prog.cellsOf 2 = 1 := by kernel_rfl
theorem cellsS4 : Tryz.prog.cellsOf 4 = 1 := by kernel_rfl
theorem oneK (l : List Kc) : ∀ c ∈ l.map encK, ∀ u ∈ c, u.oneCell' = true := by
  intro c hc u hu
  obtain ⟨p, _, rfl⟩ := List.mem_map.1 hc
  simp only [encK, List.mem_cons, List.mem_nil_iff, or_false] at hu
  rcases hu with rfl | rfl | rfl | rfl <;> rfl
theorem oneT (l : List Tx) : ∀ c ∈ l.map encT, ∀ u ∈ c, u.oneCell' = true := by
  intro c hc u hu
  obtain ⟨p, _, rfl⟩ := List.mem_map.1 hc
  simp only [encT, List.mem_cons, List.mem_nil_iff, or_false] at hu
  rcases hu with rfl | rfl | rfl <;> rfl
theorem open_name {w : World} {c : List Value} (h : Rd Tryz.prog w 80 c) : ∃ p : Tx, c = encT p := by
  obtain ⟨hl, _⟩ := h.struct Tryz.underlying80
  rw [cellsS89] at hl
  have h0 := (show Rd Tryz.prog w 3 ((c.drop 0).take (Tryz.prog.cellsOf 3)) from h.field Tryz.underlying80 0 rfl)
  have h1 := (show Rd Tryz.prog w 3 ((c.drop 1).take (Tryz.prog.cellsOf 3)) from h.field Tryz.underlying80 1 rfl)
  have h2 := (show Rd Tryz.prog w 3 ((c.drop 2).take (Tryz.prog.cellsOf 3)) from h.field Tryz.underlying80 2 rfl)
  rw [cellsS3] at h0 h1 h2
  obtain ⟨x, hx, _⟩ := h0.i64 Tryz.underlying3
  obtain ⟨y, hy, _⟩ := h1.i64 Tryz.underlying3
  obtain ⟨z, hz, _⟩ := h2.i64 Tryz.underlying3
  exact ⟨⟨x, y, z⟩, list3 hl (take1 hx) (take1 hy) (take1 hz)⟩
theorem sub1 {c : List Value} {a n k : Nat} {x : Value} (hk : k < n) (h : ((c.drop a).take n)[k]? = some x) : c[a + k]? = some x := by
  rw [List.getElem?_take_of_lt hk, List.getElem?_drop] at h
  exact h
theorem open_kc {w : World} {c : List Value} (h : Rd Tryz.prog w 46 c) : ∃ p : Kc, c = encK p := by
  obtain ⟨hl, _⟩ := h.struct Tryz.underlying46
  rw [cellsS73] at hl
  have h0 := (show Rd Tryz.prog w 3 ((c.drop 0).take (Tryz.prog.cellsOf 3)) from h.field Tryz.underlying46 0 rfl)
  have h1 := (show Rd Tryz.prog w 3 ((c.drop 1).take (Tryz.prog.cellsOf 3)) from h.field Tryz.underlying46 1 rfl)
  have hc := (show Rd Tryz.prog w 44 ((c.drop 2).take (Tryz.prog.cellsOf 44)) from h.field Tryz.underlying46 2 rfl)
  have h2 := (show Rd Tryz.prog w 2 ((((c.drop 2).take (Tryz.prog.cellsOf 44)).drop 0).take (Tryz.prog.cellsOf 2)) from hc.field Tryz.underlying44 0 rfl)
  have h3 := (show Rd Tryz.prog w 2 ((((c.drop 2).take (Tryz.prog.cellsOf 44)).drop 1).take (Tryz.prog.cellsOf 2)) from hc.field Tryz.underlying44 1 rfl)
  rw [cellsS3] at h0 h1
  rw [cellsS2, cellsS58] at h2 h3
  obtain ⟨x, hx, _⟩ := h0.i64 Tryz.underlying3
  obtain ⟨y, hy, _⟩ := h1.i64 Tryz.underlying3
  obtain ⟨z, hz, _⟩ := h2.i64 Tryz.underlying2
  obtain ⟨u, hu, _⟩ := h3.i64 Tryz.underlying2
  have hz2 := sub1 (by decide) (take1 hz)
  have hu2 := sub1 (by decide) (take1 hu)
  exact ⟨⟨x, y, z, u⟩, list4 hl (take1 hx) (take1 hy) hz2 hu2⟩
/-- A snapshot's cells, one by one. -/
theorem list14 {cs : List Value} {s : SnV} (hl : cs.length = 14) (h : ∀ i, i < 14 → cs[i]? = (encS s)[i]?) : cs = encS s := by
  refine List.ext_getElem? fun i => ?_
  rcases Nat.lt_or_ge i 14 with hi | hi
  · exact h i hi
  · rw [List.getElem?_eq_none_iff.2 (by omega), List.getElem?_eq_none_iff.2 (show (encS s).length ≤ i from hi)]
theorem open_snap {w : World} {c : List Value} (h : Rd Tryz.prog w 35 c) : ∃ s : SnV, c = encS s ∧ SOk (fun b => b < w.heap.size) w s := by
  obtain ⟨hl, _⟩ := h.struct Tryz.underlying35
  rw [cellsS33] at hl
  have h0 := (show Rd Tryz.prog w 3 ((c.drop 0).take (Tryz.prog.cellsOf 3)) from h.field Tryz.underlying35 0 rfl)
  have h1 := (show Rd Tryz.prog w 3 ((c.drop 1).take (Tryz.prog.cellsOf 3)) from h.field Tryz.underlying35 1 rfl)
  have h2 := (show Rd Tryz.prog w 3 ((c.drop 2).take (Tryz.prog.cellsOf 3)) from h.field Tryz.underlying35 2 rfl)
  have h3 := (show Rd Tryz.prog w 4 ((c.drop 3).take (Tryz.prog.cellsOf 4)) from h.field Tryz.underlying35 3 rfl)
  have h4 := (show Rd Tryz.prog w 30 ((c.drop 4).take (Tryz.prog.cellsOf 30)) from h.field Tryz.underlying35 4 rfl)
  have h5 := (show Rd Tryz.prog w 32 ((c.drop 5).take (Tryz.prog.cellsOf 32)) from h.field Tryz.underlying35 5 rfl)
  have h6 := (show Rd Tryz.prog w 33 ((c.drop 13).take (Tryz.prog.cellsOf 33)) from h.field Tryz.underlying35 6 rfl)
  have h4' := (show Rd Tryz.prog w 28 ((((c.drop 4).take (Tryz.prog.cellsOf 30)).drop 0).take (Tryz.prog.cellsOf 28)) from h4.field Tryz.underlying30 0 rfl)
  have hoff := (h5.array Tryz.underlying32).2
  rw [cellsS3] at h0 h1 h2 hoff
  rw [cellsS4] at h3
  rw [cellsS28, cellsS26] at h4'
  rw [cellsS31] at h6
  rw [cellsS30] at hoff
  obtain ⟨op, e0, _⟩ := h0.i64 Tryz.underlying3
  obtain ⟨idx, e1, _⟩ := h1.i64 Tryz.underlying3
  obtain ⟨wid, e2, _⟩ := h2.i64 Tryz.underlying3
  obtain ⟨fin, e3⟩ := h3.bool Tryz.underlying4
  have hz : ∀ g : Fin 8, ∃ n : Int, c[5 + g.val]? = some (.int .i64 n) := fun g => by
    obtain ⟨n, hn, _⟩ := (hoff g.val g.isLt).i64 Tryz.underlying3
    rw [Nat.mul_one] at hn
    exact ⟨n, sub1 (by omega) (take1 hn)⟩
  obtain ⟨o, ho⟩ : ∃ o : Fin 8 → Int, ∀ g : Fin 8, c[5 + g.val]? = some (.int .i64 (o g)) := ⟨fun g => (hz g).choose, fun g => (hz g).choose_spec⟩
  obtain ⟨u, xs, e4, hr, he⟩ := h4'.slice Tryz.underlying28 (by rw [cellsS73]; decide)
  obtain ⟨t, ys, e5, hr2, he2⟩ := h6.slice Tryz.underlying33 (by rw [cellsS89]; decide)
  obtain ⟨rows, rfl, _⟩ := list_of (enc := encK) (p := fun _ => True) fun c hc => by
    obtain ⟨p, hp⟩ := open_kc (he c hc)
    exact ⟨p, hp, trivial⟩
  obtain ⟨txs, rfl, _⟩ := list_of (enc := encT) (p := fun _ => True) fun c hc => by
    obtain ⟨p, hp⟩ := open_name (he2 c hc)
    exact ⟨p, hp, trivial⟩
  rw [cellsS73, List.length_map] at hr
  rw [cellsS89, List.length_map] at hr2
  have e4' := sub1 (by decide) (take1 e4)
  refine ⟨⟨⟨op, idx, wid, fin, rows, o, txs⟩, u, t⟩, list14 hl fun i hi => ?_, ⟨⟨hr, oneK rows⟩, ⟨hr2, oneT txs⟩⟩⟩
  have hc : i = 0 ∨ i = 1 ∨ i = 2 ∨ i = 3 ∨ i = 4 ∨ i = 5 ∨ i = 6 ∨ i = 7 ∨ i = 8 ∨ i = 9 ∨ i = 10 ∨ i = 11 ∨ i = 12 ∨ i = 13 := by omega
  rcases hc with rfl | rfl | rfl | rfl | rfl | rfl | rfl | rfl | rfl | rfl | rfl | rfl | rfl | rfl
  · exact take1 e0
  · exact take1 e1
  · exact take1 e2
  · exact take1 e3
  · exact e4'
  · exact ho 0
  · exact ho 1
  · exact ho 2
  · exact ho 3
  · exact ho 4
  · exact ho 5
  · exact ho 6
  · exact ho 7
  · exact take1 e5
theorem agg_snap {cs : Array Value} {s : SnV} (h : cs.toList = encS s) : cs = (encS s).toArray := by
  rw [← Array.toArray_toList (xs := cs), h]
end Go.Proofs.YtmahldelmbhjfaaGreat.Sn
