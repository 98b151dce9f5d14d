/- Slots: rows of deeds as they come in, opened. -/
import Derived.Test.YtjhjmeajdebcbaaSOpen
import Derived.Test.YtjhjmeajdebcbaaSKa
namespace Go.Proofs.Ytjhjmeajdebcbaa
open Go Go.RowKit
open Sy (C SV V1 Blk St XD Els)
theorem cellsD : Try.prog.cellsOf 53 = 4 := by kernel_rfl
theorem cellsI : Try.prog.cellsOf 32 = 1 := by kernel_rfl
theorem take2 {α : Type} {cs : List α} {i : Nat} {x y : α} (h : (cs.drop i).take 2 = [x, y]) : cs[i]? = some x ∧ cs[i + 1]? = some y := by
  have h0 := congrArg (fun l => l[0]?) h
  have h1 := congrArg (fun l => l[1]?) h
  constructor
  · simpa [List.getElem?_take, List.getElem?_drop] using h0
  · simpa [List.getElem?_take, List.getElem?_drop] using h1
theorem open_deed {w : World} {c : List Value} (h : Rd Try.prog w 53 c) : ∃ d : Deed, c = encD d ∧ XD.ok (fun b => b < w.heap.size) w ⟨d.tv, 1, d.ts.length, d.ts.map encI⟩ := by
  obtain ⟨hl, hf⟩ := h.struct Try.underlying53
  rw [cellsD] at hl
  have h0 := (show Rd Try.prog w 3 ((c.drop 0).take (Try.prog.cellsOf 3)) from h.field Try.underlying53 0 rfl)
  have h1 := (show Rd Try.prog w 31 ((c.drop 1).take (Try.prog.cellsOf 31)) from h.field Try.underlying53 1 rfl)
  have h2 := (show Rd Try.prog w 32 ((c.drop 3).take (Try.prog.cellsOf 32)) from h.field Try.underlying53 2 rfl)
  rw [cells3] at h0
  rw [cellsW] at h1
  rw [cellsI] at h2
  obtain ⟨x, hx, _⟩ := h0.i64 Try.underlying3
  obtain ⟨p, hp⟩ := open_worker h1
  obtain ⟨v, l, hv, hr⟩ := open_ints h2
  exact ⟨⟨x, p, v, l⟩, list4 hl (take1 hx) (take2 hp).1 (take2 hp).2 (take1 hv), hr⟩
theorem open_deeds {w : World} {c : List Value} (h : Rd Try.prog w 51 c) : ∃ (v : Value) (l : List Deed), c = [v] ∧ XD.ok (fun b => b < w.heap.size) w ⟨v, 4, l.length, l.map encD⟩ ∧ ∀ d ∈ l, XD.ok (fun b => b < w.heap.size) w ⟨d.tv, 1, d.ts.length, d.ts.map encI⟩ := by
  obtain ⟨v, xs, hv, hr, he⟩ := h.slice Try.underlying51 (by rw [cellsD]; decide)
  obtain ⟨l, rfl, hd⟩ := list_of (enc := encD) (p := fun d => XD.ok (fun b => b < w.heap.size) w ⟨d.tv, 1, d.ts.length, d.ts.map encI⟩) fun c hc => open_deed (he c hc)
  rw [cellsD, List.length_map] at hr
  refine ⟨v, l, hv, ⟨hr, fun c hc u hu => ?_⟩, hd⟩
  obtain ⟨d, hm, rfl⟩ := List.mem_map.1 hc
  simp only [encD, List.mem_cons, List.mem_nil_iff, or_false] at hu
  rcases hu with rfl | rfl | rfl | rfl
  · rfl
  · rfl
  · rfl
  · exact (hd d hm).1.one
end Go.Proofs.Ytjhjmeajdebcbaa
