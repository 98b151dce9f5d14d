/- Graph: a graph and bytes as they come in, opened, with the bounds of their numbers. -/
import Derived.Test.YteldohidnepaoaaGOpen
import Derived.Test.YteldohidnepaoaaGZ
namespace Go.Proofs.Yteldohidnepaoaa
open Go Go.RowKit
open Sy (C SV V1 Blk St XD Els)
def InB (o : Opr) : Prop := (-9223372036854775808 ≤ o.a ∧ o.a ≤ 9223372036854775807) ∧ (-9223372036854775808 ≤ o.b ∧ o.b ≤ 9223372036854775807)
theorem open_opB {w : World} {c : List Value} (h : Rd Try.prog w 27 c) : ∃ o : OpV, c = encOV o ∧ OOk (fun b => b < w.heap.size) w o ∧ InB o.op := by
  obtain ⟨o, ho, hk⟩ := open_op h
  refine ⟨o, ho, hk, ?_⟩
  have h3 := (show Rd Try.prog w 2 ((c.drop 3).take (Try.prog.cellsOf 2)) from h.field Try.underlying27 3 rfl)
  have h4 := (show Rd Try.prog w 2 ((c.drop 4).take (Try.prog.cellsOf 2)) from h.field Try.underlying27 4 rfl)
  rw [cells2, ho] at h3 h4
  obtain ⟨p, hp, hp1, hp2⟩ := h3.i64 Try.underlying2
  obtain ⟨q, hq, hq1, hq2⟩ := h4.i64 Try.underlying2
  have e1 : o.op.a = p := by simpa [encOV] using hp
  have e2 : o.op.b = q := by simpa [encOV] using hq
  rw [InB, e1, e2]
  exact ⟨⟨hp1, hp2⟩, hq1, hq2⟩
theorem open_graphB {w : World} {c : List Value} (h : Rd Try.prog w 24 c) : ∃ (v : Value) (gl : List OpV), c = [v] ∧ GOk (fun b => b < w.heap.size) w v gl ∧ ∀ o ∈ opsOf gl, InB o := by
  obtain ⟨hl, hf⟩ := h.struct Try.underlying24
  rw [cells24] at hl
  have h0 := (show Rd Try.prog w 22 ((c.drop 0).take (Try.prog.cellsOf 22)) from h.field Try.underlying24 0 rfl)
  rw [cells22, List.drop_zero, List.take_of_length_le (by omega)] at h0
  obtain ⟨v, xs, hv, hr, he⟩ := h0.slice Try.underlying22 (by rw [cells27]; decide)
  obtain ⟨l, rfl, ho⟩ := list_of (enc := encOV) (p := fun o => OOk (fun b => b < w.heap.size) w o ∧ InB o.op) fun c hc => open_opB (he c hc)
  rw [cells27, List.length_map] at hr
  refine ⟨v, l, hv, ⟨⟨hr, enc_one fun o h => (ho o h).1⟩, fun o h => (ho o h).1⟩, fun o h => ?_⟩
  obtain ⟨q, hq, rfl⟩ := List.mem_map.1 h
  exact (ho q hq).2
theorem cells37 : Try.prog.cellsOf 37 = 1 := by kernel_rfl
theorem cells5 : Try.prog.cellsOf 5 = 1 := by kernel_rfl
theorem open_bytes {w : World} {c : List Value} (h : Rd Try.prog w 37 c) : ∃ (v : Value) (l : List Int), c = [v] ∧ XD.ok (fun b => b < w.heap.size) w ⟨v, 1, l.length, l.map encB⟩ ∧ ∀ b ∈ l, 0 ≤ b ∧ b < 256 := by
  obtain ⟨v, xs, hv, hr, he⟩ := h.slice Try.underlying37 (by rw [cells5]; decide)
  obtain ⟨l, rfl, hb⟩ := list_of (enc := encB) (p := fun b => 0 ≤ b ∧ b < 256) fun c hc => by
    obtain ⟨x, hx, hw⟩ := (he c hc).int Try.underlying5
    refine ⟨x, hx, ?_⟩
    have := bounds_u8 hw
    exact ⟨this.1, by omega⟩
  rw [cells5, List.length_map] at hr
  exact ⟨v, l, hv, ⟨hr, fun c hc u hu => by
    obtain ⟨x, _, rfl⟩ := List.mem_map.1 hc
    rw [List.mem_singleton.1 hu]; rfl⟩, hb⟩
end Go.Proofs.Yteldohidnepaoaa
