/- slices.Sort at integers, on a row of the call's own. -/
import Derived.Test.YtmahldelmbhjfaaGreatEnc
import Derived.Test.YtmahldelmbhjfaaGreatSyG
import Derived.Test.YtmahldelmbhjfaaGreatShelf
import Derived.Sort.OwnSortedInts
namespace Go.Proofs.YtmahldelmbhjfaaGreat
open Go Go.RowKit
open Sy (C SV V1 Blk St XD Els)
set_option maxRecDepth 10000

def sortL (zs : List Int) : List Int := zs.mergeSort fun x y => decide (x ≤ y)
theorem sortL_len (zs : List Int) : (sortL zs).length = zs.length := List.length_mergeSort _
theorem encI_flat (zs : List Int) : (zs.map encI).flatten = zs.map (Value.int .i64) := by
  induction zs with
  | nil => rfl
  | cons x r ih => simp [encI, ih]
theorem sort_mut (v : Value) (zs : List Int) (w : World) (hown : Sy.OwnE w 3 1 v zs.length (zs.map encI)) (hb : zs.length ≤ 1000000000) :
    Calls Tryz.prog 110 #[v] w (Sy.RetMut v (.tuple #[]) ⟨3, 1, zs.length, (sortL zs).map encI⟩ w) := by
  rcases hown.2.2 with ⟨A, rfl, hn⟩ | ⟨g, cap, rfl, hB⟩
  · have hz : zs = [] := List.eq_nil_of_length_eq_zero hn
    subst hz
    refine (Tryz.slices_Sort_int_none A 0 w).mono fun E w' ⟨he, hw⟩ => ?_
    subst hw
    exact ⟨he, ⟨rfl, rfl, rfl, Nat.le_refl _, fun _ _ _ => rfl⟩, by simpa [sortL] using hown⟩
  · obtain ⟨h1, h2, h3, h4, cur, h5, h6, h7, h8⟩ := hB
    have hl : (zs.map encI).length = zs.length := by simp
    rw [hl, Nat.mul_one] at h7
    rw [encI_flat] at h7
    have hcs : zs.length ≤ cur.size := by rw [hl] at h2; omega
    have h7' : cur.toList.take zs.length = zs.map (Value.int .i64) := h7
    have hH : Go.Sort.Holds (Value.int .i64) w g 0 zs.toArray := holds_of_blockI h5 h7'
    refine (Tryz.slices_Sort_int g 0 cap zs w hH (Array.getElem?_eq_some_iff.1 h5).1 (by omega)).mono fun E w' ⟨he, n, os, hw⟩ => ?_
    have hgb := grownBy_sortedI (w := w) (g := g) (n := n) (os := os) (sortL zs).toArray
    have hhp := heap_sortedI (n := n) (os := os) (sortL zs).toArray h5
    have hw : w' = Go.Sort.grow (Go.Sort.putRow (Value.int .i64) (Go.Sort.ahead w n) g 0 (sortL zs).toArray) os := hw
    rw [← hw] at hgb hhp
    obtain ⟨g1, g2, g3, g4, g5⟩ := hgb
    have hsl := sortL_len zs
    refine ⟨he, ⟨g1, g2, g3, g4, fun k hk hf => g5 k hk (fun e1 => hf ?_)⟩, by rw [List.length_map, hsl], fun c hc => ?_, .inr ⟨g, cap, rfl, fun c hc => ?_, ?_, h3, h4, _, hhp, ?_, ?_, ?_⟩⟩
    · injection e1 with e1
      exact ⟨_, _, _, rfl, h4, e1.symm⟩
    · obtain ⟨x, _, rfl⟩ := List.mem_map.1 hc; rfl
    · obtain ⟨x, _, rfl⟩ := List.mem_map.1 hc; rfl
    · rw [List.length_map, hsl]; rw [hl] at h2; exact h2
    · simp [Go.Sort.putCells, h6]
    · rw [List.length_map, Nat.mul_one, encI_flat]
      exact take_putCellsI cur (sortL zs) (by omega)
    · intro u hu
      simp only [Go.Sort.putCells, Array.toList_mapIdx] at hu
      obtain ⟨j, hj, rfl⟩ := List.mem_mapIdx.1 hu
      split
      · rfl
      · exact h8 _ (List.getElem_mem _)
end Go.Proofs.YtmahldelmbhjfaaGreat
