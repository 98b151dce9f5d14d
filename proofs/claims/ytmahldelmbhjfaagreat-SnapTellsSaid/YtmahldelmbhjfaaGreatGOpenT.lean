/- Graphs as they come in, opened (for any seat). -/
import Derived.Test.YtmahldelmbhjfaaGreatGShort
import Derived.Test.YtmahldelmbhjfaaGreatOpenY
namespace Go.Proofs.YtmahldelmbhjfaaGreat
open Go Go.RowKit
open Sy (C SV V1 Blk St XD Els)
theorem cells24 : Tryz.prog.cellsOf 24 = 1 := by kernel_rfl
theorem cells27 : Tryz.prog.cellsOf 55 = 5 := by kernel_rfl
theorem cells22 : Tryz.prog.cellsOf 22 = 1 := by kernel_rfl
theorem cells25 : Tryz.prog.cellsOf 53 = 1 := by kernel_rfl
theorem cells3 : Tryz.prog.cellsOf 3 = 1 := by kernel_rfl
theorem cells2 : Tryz.prog.cellsOf 2 = 1 := by kernel_rfl
theorem list5 {α : Type} {cs : List α} {x y z u v : α} (hl : cs.length = 5) (h0 : cs[0]? = some x) (h1 : cs[1]? = some y) (h2 : cs[2]? = some z) (h3 : cs[3]? = some u) (h4 : cs[4]? = some v) : cs = [x, y, z, u, v] := by
  match cs, hl with
  | [a, b, c, d, e], _ => simp at h0 h1 h2 h3 h4; subst h0 h1 h2 h3 h4; rfl
theorem open_ints {w : World} {c : List Value} (h : Rd Tryz.prog w 53 c) : ∃ (v : Value) (l : List Int), c = [v] ∧ XD.ok (fun b => b < w.heap.size) w ⟨v, 1, l.length, l.map encI⟩ := by
  obtain ⟨v, xs, hv, hr, he⟩ := h.slice Tryz.underlying53 (by rw [cells3]; decide)
  obtain ⟨l, rfl, _⟩ := list_of (enc := encI) (p := fun _ => True) fun c hc => by
    obtain ⟨x, hx, _⟩ := (he c hc).i64 Tryz.underlying3
    exact ⟨x, hx, trivial⟩
  rw [cells3, List.length_map] at hr
  exact ⟨v, l, hv, hr, fun c hc u hu => by
    obtain ⟨x, _, rfl⟩ := List.mem_map.1 hc
    rw [List.mem_singleton.1 hu]; rfl⟩
theorem open_op {w : World} {c : List Value} (h : Rd Tryz.prog w 55 c) : ∃ o : OpV, c = encOV o ∧ OOk (fun b => b < w.heap.size) w o := by
  obtain ⟨hl, hf⟩ := h.struct Tryz.underlying55
  rw [cells27] at hl
  have h0 := (show Rd Tryz.prog w 3 ((c.drop 0).take (Tryz.prog.cellsOf 3)) from h.field Tryz.underlying55 0 rfl)
  have h1 := (show Rd Tryz.prog w 3 ((c.drop 1).take (Tryz.prog.cellsOf 3)) from h.field Tryz.underlying55 1 rfl)
  have h2 := (show Rd Tryz.prog w 53 ((c.drop 2).take (Tryz.prog.cellsOf 53)) from h.field Tryz.underlying55 2 rfl)
  have h3 := (show Rd Tryz.prog w 2 ((c.drop 3).take (Tryz.prog.cellsOf 2)) from h.field Tryz.underlying55 3 rfl)
  have h4 := (show Rd Tryz.prog w 2 ((c.drop 4).take (Tryz.prog.cellsOf 2)) from h.field Tryz.underlying55 4 rfl)
  rw [cells3] at h0 h1
  rw [cells25] at h2
  rw [cells2] at h3 h4
  obtain ⟨x, hx, _⟩ := h0.i64 Tryz.underlying3
  obtain ⟨y, hy, _⟩ := h1.i64 Tryz.underlying3
  obtain ⟨v, l, hv, hr⟩ := open_ints h2
  obtain ⟨p, hp, _⟩ := h3.i64 Tryz.underlying2
  obtain ⟨q, hq, _⟩ := h4.i64 Tryz.underlying2
  exact ⟨⟨⟨x, y, l, p, q⟩, v⟩, list5 hl (take1 hx) (take1 hy) (take1 hv) (take1 hp) (take1 hq), hr⟩
theorem enc_one {F : Nat → Prop} {w : World} {l : List OpV} (h : ∀ o ∈ l, OOk F w o) : ∀ c ∈ l.map encOV, ∀ u ∈ c, u.oneCell' = true := by
  intro c hc u hu
  obtain ⟨o, ho, rfl⟩ := List.mem_map.1 hc
  simp only [encOV, List.mem_cons, List.mem_nil_iff, or_false] at hu
  rcases hu with rfl | rfl | rfl | rfl | rfl
  · rfl
  · rfl
  · exact (h o ho).1.one
  · rfl
  · rfl
theorem open_graph {w : World} {c : List Value} (h : Rd Tryz.prog w 24 c) : ∃ (v : Value) (gl : List OpV), c = [v] ∧ GOk (fun b => b < w.heap.size) w v gl := by
  obtain ⟨hl, hf⟩ := h.struct Tryz.underlying24
  rw [cells24] at hl
  have h0 := (show Rd Tryz.prog w 22 ((c.drop 0).take (Tryz.prog.cellsOf 22)) from h.field Tryz.underlying24 0 rfl)
  rw [cells22, List.drop_zero, List.take_of_length_le (by omega)] at h0
  obtain ⟨v, xs, hv, hr, he⟩ := h0.slice Tryz.underlying22 (by rw [cells27]; decide)
  obtain ⟨l, rfl, ho⟩ := list_of (enc := encOV) (p := OOk (fun b => b < w.heap.size) w) fun c hc => open_op (he c hc)
  rw [cells27, List.length_map] at hr
  exact ⟨v, l, hv, ⟨hr, enc_one ho⟩, ho⟩
theorem agg_graph {cs : Array Value} {v : Value} (h : cs.toList = [v]) : cs = #[v] := by
  rw [← Array.toArray_toList (xs := cs), h]
theorem agg_op {cs : Array Value} {o : OpV} (h : cs.toList = encOV o) : cs = #[.int .i64 o.op.tag, .int .i64 o.op.width, o.iv, .int .i64 o.op.a, .int .i64 o.op.b] := by
  rw [← Array.toArray_toList (xs := cs), h]; rfl
end Go.Proofs.YtmahldelmbhjfaaGreat
