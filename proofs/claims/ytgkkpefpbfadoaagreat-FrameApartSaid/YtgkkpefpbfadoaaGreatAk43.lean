/- Graph: bytes.Equal. -/
import Derived.Test.YtgkkpefpbfadoaaGreatAk12
import Derived.Test.YtgkkpefpbfadoaaGreatAk29
namespace Go.Proofs.YtgkkpefpbfadoaaGreat
open Go Go.RowKit
open Sy (C SV V1 Blk St XD Els)
theorem encB_flat (xs : List Int) : (xs.map encB).flatten = xs.map (Value.int .u8) := by
 induction xs with
 | nil => rfl
 | cons x r ih => simp [encB, ih]
theorem bytesIn_of {F : Nat → Prop} {w : World} {v : Value} {xs : List Int} (h : XD.ok F w ⟨v, 1, xs.length, xs.map encB⟩) : ∃ p c, v = .slice p xs.length c ∧ Lib.BytesIn w p xs.length xs := by
 obtain ⟨h1, h2, A, c, hv, h3, h4, h5⟩ := h.1
 refine ⟨A, c, hv, fun hn => ?_⟩
 obtain ⟨a, rfl, _, ha⟩ := h5 hn
 refine Lib.BytesIn.of_cells (fun i hi => ?_) hn
 refine ha i _ ?_
 show (xs.map encB).flatten[i]? = _
 rw [encB_flat, List.getElem?_map, List.getElem?_eq_getElem hi, List.getD, List.getElem?_eq_getElem hi]
 rfl
theorem bytesEq_any (v u : Value) (xs ys : List Int) (w : World) (hx : XD.ok (fun b => b < w.heap.size) w ⟨v, 1, xs.length, xs.map encB⟩) (hy : XD.ok (fun b => b < w.heap.size) w ⟨u, 1, ys.length, ys.map encB⟩) :
  Calls Tryz.prog 53 #[v, u] w (Sy.Ret (.bool (Lib.bytesOf xs == Lib.bytesOf ys)) w) := by
 obtain ⟨p, c, rfl, h1⟩ := bytesIn_of hx
 obtain ⟨q, d, rfl, h2⟩ := bytesIn_of hy
 exact (Tryz.bytes_Equal_all p q _ c _ d xs ys w rfl rfl h1 h2).mono fun E w' ⟨he, hw⟩ => by subst hw; exact ⟨he, Below.refl _ _⟩
end Go.Proofs.YtgkkpefpbfadoaaGreat
