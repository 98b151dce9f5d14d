/- Graph: rows of graphs as they come in, opened. -/
import Derived.Test.YteldohidnepaoaaGOpen
import Derived.Test.YteldohidnepaoaaGQ
namespace Go.Proofs.Yteldohidnepaoaa
open Go Go.RowKit
open Sy (C SV V1 Blk St XD Els)
theorem open_graphs {w : World} {c : List Value} (h : Rd Try.prog w 36 c) : ∃ (v : Value) (gs : List (Value × List OpV)), c = [v] ∧ GsOk (fun b => b < w.heap.size) w v gs := by
  obtain ⟨v, xs, hv, hr, he⟩ := h.slice Try.underlying36 (by rw [cells24]; decide)
  obtain ⟨l, rfl, ho⟩ := list_of (enc := encGr) (p := fun p => GOk (fun b => b < w.heap.size) w p.1 p.2) fun c hc => by
    obtain ⟨u, gl, hu, hg⟩ := open_graph (he c hc)
    exact ⟨(u, gl), hu, hg⟩
  rw [cells24, List.length_map] at hr
  exact ⟨v, l, hv, ⟨hr, fun c hc u hu => by
    obtain ⟨p, hp, rfl⟩ := List.mem_map.1 hc
    rw [List.mem_singleton.1 hu]
    exact (ho p hp).one⟩, ho⟩
end Go.Proofs.Yteldohidnepaoaa
