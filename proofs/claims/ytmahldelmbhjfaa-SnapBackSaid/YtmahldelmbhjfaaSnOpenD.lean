/- Snap: rows of bytes as they come in, opened. -/
import Derived.Test.YtmahldelmbhjfaaSnOpenC
import Derived.Test.YtmahldelmbhjfaaSdJ
namespace Go.Proofs.Ytmahldelmbhjfaa
open Go Go.RowKit
open Sy (C SV V1 Blk St XD Els)
theorem cellsS64 : Try.prog.cellsOf 64 = 1 := by kernel_rfl
theorem cellsS5 : Try.prog.cellsOf 5 = 1 := by kernel_rfl
theorem open_bytes {w : World} {c : List Value} (h : Rd Try.prog w 64 c) : ∃ (v : Value) (l : List Int), c = [v] ∧ XD.ok (fun b => b < w.heap.size) w ⟨v, 1, l.length, l.map encB⟩ ∧ bytesOk l := by
  obtain ⟨v, xs, hv, hr, he⟩ := h.slice Try.underlying64 (by rw [cellsS5]; decide)
  obtain ⟨l, rfl, hb⟩ := list_of (enc := encB) (p := fun b => 0 ≤ b ∧ b < 256) fun c hc => by
    obtain ⟨x, hx, hw⟩ := (he c hc).int Try.underlying5
    refine ⟨x, hx, ?_⟩
    have := bounds_u8 hw
    exact ⟨this.1, by omega⟩
  rw [cellsS5, List.length_map] at hr
  exact ⟨v, l, hv, ⟨hr, fun c hc u hu => by
    obtain ⟨x, _, rfl⟩ := List.mem_map.1 hc
    rw [List.mem_singleton.1 hu]; rfl⟩, hb⟩
theorem open_byterows {w : World} {c : List Value} (h : Rd Try.prog w 63 c) : ∃ (v : Value) (rs : List (Value × List Int)), c = [v] ∧ RsOk w v rs := by
  obtain ⟨v, xs, hv, hr, he⟩ := h.slice Try.underlying63 (by rw [cellsS64]; decide)
  obtain ⟨l, rfl, ho⟩ := list_of (enc := encR) (p := fun p => XD.ok (fun b => b < w.heap.size) w ⟨p.1, 1, p.2.length, p.2.map encB⟩ ∧ bytesOk p.2) fun c hc => by
    obtain ⟨u, bl, hu, hg⟩ := open_bytes (he c hc)
    exact ⟨(u, bl), hu, hg⟩
  rw [cellsS64, List.length_map] at hr
  exact ⟨v, l, hv, ⟨hr, fun c hc u hu => by
    obtain ⟨p, hp, rfl⟩ := List.mem_map.1 hc
    rw [List.mem_singleton.1 hu]
    exact (ho p hp).1.1.one⟩, ho⟩
end Go.Proofs.Ytmahldelmbhjfaa
