/- Slots: floors, workers, rows of numbers as they come in, opened. -/
import Derived.Test.YtjhjmeajdebcbaaSSpec
import Derived.Test.YtjhjmeajdebcbaaOpenY
namespace Go.Proofs.Ytjhjmeajdebcbaa
open Go Go.RowKit
open Sy (C SV V1 Blk St XD Els)
theorem cellsF : Try.prog.cellsOf 26 = 2 := by kernel_rfl
theorem cellsW : Try.prog.cellsOf 31 = 2 := by kernel_rfl
theorem cellsP : Try.prog.cellsOf 67 = 2 := by kernel_rfl
theorem cellsWs : Try.prog.cellsOf 23 = 1 := by kernel_rfl
theorem cellsPs : Try.prog.cellsOf 24 = 1 := by kernel_rfl
theorem cells3 : Try.prog.cellsOf 3 = 1 := by kernel_rfl
theorem one2 (l : List (Int × Int)) : ∀ c ∈ l.map enc2, ∀ u ∈ c, u.oneCell' = true := by
  intro c hc u hu
  obtain ⟨p, _, rfl⟩ := List.mem_map.1 hc
  simp only [enc2, List.mem_cons, List.mem_nil_iff, or_false] at hu
  rcases hu with rfl | rfl <;> rfl
theorem open_ints {w : World} {c : List Value} (h : Rd Try.prog w 32 c) : ∃ (v : Value) (l : List Int), c = [v] ∧ XD.ok (fun b => b < w.heap.size) w ⟨v, 1, l.length, l.map encI⟩ := by
  obtain ⟨v, xs, hv, hr, he⟩ := h.slice Try.underlying32 (by rw [cells3]; decide)
  obtain ⟨l, rfl, _⟩ := list_of (enc := encI) (p := fun _ => True) fun c hc => by
    obtain ⟨x, hx, _⟩ := (he c hc).i64 Try.underlying3
    exact ⟨x, hx, trivial⟩
  rw [cells3, List.length_map] at hr
  exact ⟨v, l, hv, hr, fun c hc u hu => by
    obtain ⟨x, _, rfl⟩ := List.mem_map.1 hc
    rw [List.mem_singleton.1 hu]; rfl⟩
theorem open_worker {w : World} {c : List Value} (h : Rd Try.prog w 31 c) : ∃ p : Int × Int, c = enc2 p := by
  obtain ⟨hl, hf⟩ := h.struct Try.underlying31
  rw [cellsW] at hl
  have h0 := (show Rd Try.prog w 3 ((c.drop 0).take (Try.prog.cellsOf 3)) from h.field Try.underlying31 0 rfl)
  have h1 := (show Rd Try.prog w 3 ((c.drop 1).take (Try.prog.cellsOf 3)) from h.field Try.underlying31 1 rfl)
  rw [cells3] at h0 h1
  obtain ⟨x, hx, _⟩ := h0.i64 Try.underlying3
  obtain ⟨y, hy, _⟩ := h1.i64 Try.underlying3
  exact ⟨(x, y), list2 hl (take1 hx) (take1 hy)⟩
theorem open_place {w : World} {c : List Value} (h : Rd Try.prog w 67 c) : ∃ p : Int × Int, c = enc2 p := by
  obtain ⟨hl, hf⟩ := h.struct Try.underlying67
  rw [cellsP] at hl
  have h0 := (show Rd Try.prog w 3 ((c.drop 0).take (Try.prog.cellsOf 3)) from h.field Try.underlying67 0 rfl)
  have h1 := (show Rd Try.prog w 3 ((c.drop 1).take (Try.prog.cellsOf 3)) from h.field Try.underlying67 1 rfl)
  rw [cells3] at h0 h1
  obtain ⟨x, hx, _⟩ := h0.i64 Try.underlying3
  obtain ⟨y, hy, _⟩ := h1.i64 Try.underlying3
  exact ⟨(x, y), list2 hl (take1 hx) (take1 hy)⟩
theorem open_floor {w : World} {c : List Value} (h : Rd Try.prog w 26 c) : ∃ (u v : Value) (ws ps : List (Int × Int)), c = [u, v] ∧ XD.ok (fun b => b < w.heap.size) w ⟨u, 2, ws.length, ws.map enc2⟩ ∧ XD.ok (fun b => b < w.heap.size) w ⟨v, 2, ps.length, ps.map enc2⟩ := by
  obtain ⟨hl, hf⟩ := h.struct Try.underlying26
  rw [cellsF] at hl
  have h0 := (show Rd Try.prog w 23 ((c.drop 0).take (Try.prog.cellsOf 23)) from h.field Try.underlying26 0 rfl)
  have h1 := (show Rd Try.prog w 24 ((c.drop 1).take (Try.prog.cellsOf 24)) from h.field Try.underlying26 1 rfl)
  rw [cellsWs] at h0
  rw [cellsPs] at h1
  obtain ⟨u, xs, hu, hr, he⟩ := h0.slice Try.underlying23 (by rw [cellsW]; decide)
  obtain ⟨v, ys, hv, hr2, he2⟩ := h1.slice Try.underlying24 (by rw [cellsP]; decide)
  obtain ⟨ws, rfl, _⟩ := list_of (enc := enc2) (p := fun _ => True) fun c hc => by
    obtain ⟨p, hp⟩ := open_worker (he c hc)
    exact ⟨p, hp, trivial⟩
  obtain ⟨ps, rfl, _⟩ := list_of (enc := enc2) (p := fun _ => True) fun c hc => by
    obtain ⟨p, hp⟩ := open_place (he2 c hc)
    exact ⟨p, hp, trivial⟩
  rw [cellsW, List.length_map] at hr
  rw [cellsP, List.length_map] at hr2
  exact ⟨u, v, ws, ps, list2 hl (take1 hu) (take1 hv), ⟨hr, one2 ws⟩, ⟨hr2, one2 ps⟩⟩
theorem agg_floor {cs : Array Value} {u v : Value} (h : cs.toList = [u, v]) : cs = #[u, v] := by
  rw [← Array.toArray_toList (xs := cs), h]
theorem agg_worker {cs : Array Value} {p : Int × Int} (h : cs.toList = enc2 p) : cs = #[.int .i64 p.1, .int .i64 p.2] := by
  rw [← Array.toArray_toList (xs := cs), h]; rfl
end Go.Proofs.Ytjhjmeajdebcbaa
