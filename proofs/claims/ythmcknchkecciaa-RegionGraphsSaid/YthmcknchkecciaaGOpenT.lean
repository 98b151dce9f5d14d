/- Graphs as they come in, opened (for any seat). -/
import Derived.Test.YthmcknchkecciaaGShort
import Derived.Test.YthmcknchkecciaaOpenY
namespace Go.Proofs.Ythmcknchkecciaa
open Go Go.RowKit
open Sy (C SV V1 Blk St XD Els)
theorem cells24 : Try.prog.cellsOf 26 = 1 := by kernel_rfl
theorem cells27 : Try.prog.cellsOf 62 = 5 := by kernel_rfl
theorem cells22 : Try.prog.cellsOf 24 = 1 := by kernel_rfl
theorem cells25 : Try.prog.cellsOf 36 = 1 := by kernel_rfl
theorem cells3 : Try.prog.cellsOf 3 = 1 := by kernel_rfl
theorem cells2 : Try.prog.cellsOf 2 = 1 := by kernel_rfl
theorem list5 {α : Type} {cs : List α} {x y z u v : α} (hl : cs.length = 5) (h0 : cs[0]? = some x) (h1 : cs[1]? = some y) (h2 : cs[2]? = some z) (h3 : cs[3]? = some u) (h4 : cs[4]? = some v) : cs = [x, y, z, u, v] := by
  match cs, hl with
  | [a, b, c, d, e], _ => simp at h0 h1 h2 h3 h4; subst h0 h1 h2 h3 h4; rfl
theorem open_ints {w : World} {c : List Value} (h : Rd Try.prog w 36 c) : ∃ (v : Value) (l : List Int), c = [v] ∧ XD.ok (fun b => b < w.heap.size) w ⟨v, 1, l.length, l.map encI⟩ := by
  obtain ⟨v, xs, hv, hr, he⟩ := h.slice Try.underlying36 (by rw [cells3]; decide)
  obtain ⟨l, rfl, _⟩ := list_of (enc := encI) (p := fun _ => True) fun c hc => by
    obtain ⟨x, hx, _⟩ := (he c hc).i64 Try.underlying3
    exact ⟨x, hx, trivial⟩
  rw [cells3, List.length_map] at hr
  exact ⟨v, l, hv, hr, fun c hc u hu => by
    obtain ⟨x, _, rfl⟩ := List.mem_map.1 hc
    rw [List.mem_singleton.1 hu]; rfl⟩
theorem open_op {w : World} {c : List Value} (h : Rd Try.prog w 62 c) : ∃ o : OpV, c = encOV o ∧ OOk (fun b => b < w.heap.size) w o := by
  obtain ⟨hl, hf⟩ := h.struct Try.underlying62
  rw [cells27] at hl
  have h0 := (show Rd Try.prog w 3 ((c.drop 0).take (Try.prog.cellsOf 3)) from h.field Try.underlying62 0 rfl)
  have h1 := (show Rd Try.prog w 3 ((c.drop 1).take (Try.prog.cellsOf 3)) from h.field Try.underlying62 1 rfl)
  have h2 := (show Rd Try.prog w 36 ((c.drop 2).take (Try.prog.cellsOf 36)) from h.field Try.underlying62 2 rfl)
  have h3 := (show Rd Try.prog w 2 ((c.drop 3).take (Try.prog.cellsOf 2)) from h.field Try.underlying62 3 rfl)
  have h4 := (show Rd Try.prog w 2 ((c.drop 4).take (Try.prog.cellsOf 2)) from h.field Try.underlying62 4 rfl)
  rw [cells3] at h0 h1
  rw [cells25] at h2
  rw [cells2] at h3 h4
  obtain ⟨x, hx, _⟩ := h0.i64 Try.underlying3
  obtain ⟨y, hy, _⟩ := h1.i64 Try.underlying3
  obtain ⟨v, l, hv, hr⟩ := open_ints h2
  obtain ⟨p, hp, _⟩ := h3.i64 Try.underlying2
  obtain ⟨q, hq, _⟩ := h4.i64 Try.underlying2
  exact ⟨⟨⟨x, y, l, p, q⟩, v⟩, list5 hl (take1 hx) (take1 hy) (take1 hv) (take1 hp) (take1 hq), hr⟩
theorem enc_one {F : Nat → Prop} {w : World} {l : List OpV} (h : ∀ o ∈ l, OOk F w o) : ∀ c ∈ l.map encOV, ∀ u ∈ c, u.oneCell' = true := by
  intro c hc u hu
  obtain ⟨o, ho, rfl⟩ := List.mem_map.1 hc
  simp only [encOV, List.mem_cons, List.mem_nil_iff, or_false] at hu
  rcases hu with rfl | rfl | rfl | rfl | rfl
  · rfl
  · rfl
  · exact (h o ho).1.one
  · rfl
  · rfl
theorem open_graph {w : World} {c : List Value} (h : Rd Try.prog w 26 c) : ∃ (v : Value) (gl : List OpV), c = [v] ∧ GOk (fun b => b < w.heap.size) w v gl := by
  obtain ⟨hl, hf⟩ := h.struct Try.underlying26
  rw [cells24] at hl
  have h0 := (show Rd Try.prog w 24 ((c.drop 0).take (Try.prog.cellsOf 24)) from h.field Try.underlying26 0 rfl)
  rw [cells22, List.drop_zero, List.take_of_length_le (by omega)] at h0
  obtain ⟨v, xs, hv, hr, he⟩ := h0.slice Try.underlying24 (by rw [cells27]; decide)
  obtain ⟨l, rfl, ho⟩ := list_of (enc := encOV) (p := OOk (fun b => b < w.heap.size) w) fun c hc => open_op (he c hc)
  rw [cells27, List.length_map] at hr
  exact ⟨v, l, hv, ⟨hr, enc_one ho⟩, ho⟩
theorem agg_graph {cs : Array Value} {v : Value} (h : cs.toList = [v]) : cs = #[v] := by
  rw [← Array.toArray_toList (xs := cs), h]
theorem agg_op {cs : Array Value} {o : OpV} (h : cs.toList = encOV o) : cs = #[.int .i64 o.op.tag, .int .i64 o.op.width, o.iv, .int .i64 o.op.a, .int .i64 o.op.b] := by
  rw [← Array.toArray_toList (xs := cs), h]; rfl
theorem open_graphs {w : World} {c : List Value} (h : Rd Try.prog w 22 c) : ∃ (v : Value) (gs : List (Value × List OpV)), c = [v] ∧ GsOk (fun b => b < w.heap.size) w v gs := by
  obtain ⟨v, xs, hv, hr, he⟩ := h.slice Try.underlying22 (by rw [cells24]; decide)
  obtain ⟨l, rfl, ho⟩ := list_of (enc := encGr) (p := fun p => GOk (fun b => b < w.heap.size) w p.1 p.2) fun c hc => by
    obtain ⟨u, gl, hu, hg⟩ := open_graph (he c hc)
    exact ⟨(u, gl), hu, hg⟩
  rw [cells24, List.length_map] at hr
  exact ⟨v, l, hv, ⟨hr, fun c hc u hu => by
    obtain ⟨p, hp, rfl⟩ := List.mem_map.1 hc
    rw [List.mem_singleton.1 hu]
    exact (ho p hp).one⟩, ho⟩
theorem open_rows {w : World} {c : List Value} (h : Rd Try.prog w 28 c) : ∃ (v : Value) (us : List (Value × List Int)), c = [v] ∧ XD.ok (fun b => b < w.heap.size) w ⟨v, 1, us.length, us.map encU⟩ ∧ RowsOk w us := by
  obtain ⟨v, xs, hv, hr, he⟩ := h.slice Try.underlying28 (by rw [cells25]; decide)
  obtain ⟨l, rfl, ho⟩ := list_of (enc := encU) (p := fun p => XD.ok (fun b => b < w.heap.size) w ⟨p.1, 1, p.2.length, p.2.map encI⟩) fun c hc => by
    obtain ⟨u, gl, hu, hg⟩ := open_ints (he c hc)
    exact ⟨(u, gl), hu, hg⟩
  rw [cells25, List.length_map] at hr
  exact ⟨v, l, hv, ⟨hr, fun c hc u hu => by
    obtain ⟨p, hp, rfl⟩ := List.mem_map.1 hc
    rw [List.mem_singleton.1 hu]
    exact (ho p hp).1.one⟩, ho⟩
end Go.Proofs.Ythmcknchkecciaa
