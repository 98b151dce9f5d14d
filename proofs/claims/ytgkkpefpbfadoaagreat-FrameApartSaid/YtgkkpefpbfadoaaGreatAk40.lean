/- Snap: bytes.Equal. -/
import Derived.Test.YtgkkpefpbfadoaaGreatAk12
import Derived.Test.YtgkkpefpbfadoaaGreatAk35
namespace Go.Proofs.YtgkkpefpbfadoaaGreat.Sn
open Go Go.RowKit
open Sy (C SV V1 Blk St XD Els)
theorem encB_flat (xs : List Int) : (xs.map encB).flatten = xs.map (Value.int .u8) := by
 induction xs with
 | nil => rfl
 | cons x r ih => simp [encB, ih]
theorem bytesIn_of {F : Nat → Prop} {w : World} {v : Value} {xs : List Int} (h : XD.ok F w ⟨v, 1, xs.length, xs.map encB⟩) : ∃ p c, v = .slice p xs.length c ∧ Lib.BytesIn w p xs.length xs := by
 obtain ⟨_, _, A, c, hv, _, _, h5⟩ := h.1
 refine ⟨A, c, hv, fun hn => ?_⟩
 obtain ⟨a, rfl, _, ha⟩ := h5 hn
 refine Lib.BytesIn.of_cells (fun i hi => ?_) hn
 refine ha i _ ?_
 show (xs.map encB).flatten[i]? = _
 rw [encB_flat, List.getElem?_map, List.getElem?_eq_getElem hi, List.getD, List.getElem?_eq_getElem hi]
 rfl
theorem bytesOf_inj : ∀ {xs ys : List Int}, bytesOk xs → bytesOk ys → Lib.bytesOf xs = Lib.bytesOf ys → xs = ys
 | [], [], _, _, _ => rfl
 | [], y :: ys, _, _, h => by cases h
 | x :: xs, [], _, _, h => by cases h
 |x :: xs, y :: ys, hx, hy, h => by
  unfold Lib.bytesOf at h
  rw [List.map_cons, List.map_cons] at h
  obtain ⟨h1, h2⟩ := List.cons.inj h
  have hx0 := hx x List.mem_cons_self
  have hy0 := hy y List.mem_cons_self
  have h3 := congrArg UInt8.toNat h1
  rw [UInt8.toNat_ofNat', UInt8.toNat_ofNat'] at h3
  have e : x = y := by omega
  rw [e, bytesOf_inj (fun z hz => hx z (List.mem_cons_of_mem _ hz)) (fun z hz => hy z (List.mem_cons_of_mem _ hz)) h2]
theorem bytesEq_any (v u : Value) (xs ys : List Int) (w : World) (hx : XD.ok (fun b => b < w.heap.size) w ⟨v, 1, xs.length, xs.map encB⟩) (hy : XD.ok (fun b => b < w.heap.size) w ⟨u, 1, ys.length, ys.map encB⟩) (h8 : bytesOk xs) (h8' : bytesOk ys) :
  Calls Tryz.prog 53 #[v, u] w (Sy.Ret (.bool (decide (xs = ys))) w) := by
 obtain ⟨p, c, rfl, h1⟩ := bytesIn_of hx
 obtain ⟨q, d, rfl, h2⟩ := bytesIn_of hy
 have e : (Lib.bytesOf xs == Lib.bytesOf ys) = decide (xs = ys) := by
  rw [Bool.eq_iff_iff, beq_iff_eq, decide_eq_true_iff]
  exact ⟨bytesOf_inj h8 h8', fun h => by rw [h]⟩
 refine (Tryz.bytes_Equal_all p q _ c _ d xs ys w rfl rfl h1 h2).mono fun E w' ⟨he, hw⟩ => ?_
 subst hw
 rw [e] at he
 exact ⟨he, Below.refl _ _⟩
end Go.Proofs.YtgkkpefpbfadoaaGreat.Sn
