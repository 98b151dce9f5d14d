/- slices.Compact at integers, on a row of the call's own; what comes of a row that rises. -/
import Derived.Test.YtmahldelmbhjfaaGreatSortI
import Derived.Lib.SlicesCompact
import Derived.Lib.RowBridge
namespace Go.Proofs.YtmahldelmbhjfaaGreat
open Go Go.RowKit
open Sy (C SV V1 Blk St XD Els)
set_option maxRecDepth 10000

theorem compact_rows (v : Value) (zs : List Int) (w : World) (hown : Sy.OwnE w 3 1 v zs.length (zs.map encI)) (hb : zs.length ≤ 1000000000) :
    Calls Tryz.prog 111 #[v] w (Sy.RetRows v (fun _ : Unit => True) (fun _ => [⟨3, 1, (Lib.compact zs).length, (Lib.compact zs).map encI⟩]) (fun _ vs => vs.headD undef) w) := by
  rcases hown.2.2 with ⟨A, rfl, hn⟩ | ⟨g, cap, rfl, hB⟩
  · have hz : zs = [] := List.eq_nil_of_length_eq_zero hn
    subst hz
    refine (Tryz.slices_Compact_int_empty A 0 w).mono fun E w' ⟨he, hw⟩ => ?_
    subst hw
    exact ⟨(), [.slice A 0 0], trivial, he, ⟨rfl, rfl, rfl, Nat.le_refl _, fun _ _ _ => rfl⟩, ⟨by simpa [Lib.compact, Lib.compactUpTo] using hown, (fun x _ u hu => by cases hu), trivial⟩, fun u hu y hy => .inl (by simp at hu; subst hu; exact hy)⟩
  · obtain ⟨h1, h2, h3, h4, cur, h5, h6, h7, h8⟩ := hB
    have hl : (zs.map encI).length = zs.length := by simp
    rw [hl, Nat.mul_one] at h7
    rw [encI_flat] at h7
    have hcs : zs.length ≤ cur.size := by rw [hl] at h2; omega
    have hH : Go.Sort.Holds (Value.int .i64) w g 0 zs.toArray := holds_of_blockI h5 h7
    refine (Tryz.slices_Compact_int g 0 cap zs w hH (by omega) (by rw [hl] at h2; exact h2)).mono fun E w' ⟨he, n, hw⟩ => ?_
    have hcl := Lib.compact_length_le zs
    generalize hys : Lib.compact zs ++ List.replicate (zs.length - (Lib.compact zs).length) 0 = ys at hw
    have hyl : ys.length = zs.length := by rw [← hys, List.length_append, List.length_replicate]; omega
    have hgb := grownBy_sortedI (w := w) (g := g) (n := n) (os := #[]) ys.toArray
    have hhp := heap_sortedI (n := n) (os := #[]) ys.toArray h5
    rw [Go.Sort.grow_empty, ← hw] at hgb hhp
    obtain ⟨g1, g2, g3, g4, g5⟩ := hgb
    have htake : (Go.Sort.putCells (Value.int .i64) 0 ys.toArray cur).toList.take (Lib.compact zs).length = (Lib.compact zs).map (Value.int .i64) := by
      have h0 := take_putCellsI cur ys (by omega)
      have h9 := congrArg (List.take (Lib.compact zs).length) h0
      rw [List.take_take, Nat.min_eq_left (by omega), ← List.map_take, ← hys, List.take_left] at h9
      rw [← hys]; exact h9
    refine ⟨(), [.slice (some ⟨g, 0, none⟩) (Lib.compact zs).length cap], trivial, he, ⟨g1, g2, g3, g4, fun k hk hf => g5 k hk (fun e1 => hf ?_)⟩, ⟨⟨by rw [List.length_map], fun c hc => ?_, .inr ⟨g, cap, rfl, fun c hc => ?_, ?_, h3, h4, _, hhp, ?_, ?_, ?_⟩⟩, (fun x _ u hu => by cases hu), trivial⟩, fun u hu y hy => .inl ?_⟩
    · injection e1 with e1
      exact ⟨_, _, _, rfl, h4, e1.symm⟩
    · obtain ⟨x, _, rfl⟩ := List.mem_map.1 hc; rfl
    · obtain ⟨x, _, rfl⟩ := List.mem_map.1 hc; rfl
    · rw [List.length_map]; rw [hl] at h2; omega
    · simp [Go.Sort.putCells, h6]
    · rw [List.length_map, Nat.mul_one, encI_flat]
      exact htake
    · intro u hu
      simp only [Go.Sort.putCells, Array.toList_mapIdx] at hu
      obtain ⟨j, hj, rfl⟩ := List.mem_mapIdx.1 hu
      split
      · rfl
      · exact h8 _ (List.getElem_mem _)
    · simp at hu
      subst hu
      obtain ⟨p, m, c, hv, hc, rfl⟩ := hy
      cases hv
      exact ⟨_, _, _, rfl, h4, rfl⟩

/-! ### Strictly rising rows -/
def strict (l : List Int) : Prop := l.Pairwise (· < ·)
theorem strict_ext {l m : List Int} (hl : strict l) (hm : strict m) (h : ∀ x, x ∈ l ↔ x ∈ m) : l = m := by
  have hp : l.Perm m := (List.perm_ext_iff_of_nodup (hl.imp fun h => Int.ne_of_lt h) (hm.imp fun h => Int.ne_of_lt h)).2 h
  exact hp.eq_of_pairwise (le := (· < ·)) (fun a b _ _ h1 h2 => absurd h1 (by omega)) hl hm
theorem compact_spec (zs : List Int) (hs : zs.Pairwise (· ≤ ·)) : ∀ m, m ≤ zs.length → strict (Lib.compactUpTo zs.toArray m) ∧ (∀ x, x ∈ Lib.compactUpTo zs.toArray m ↔ ∃ i, i < m ∧ zs[i]? = some x)
  | 0, _ => ⟨List.Pairwise.nil, fun x => by simp [Lib.compactUpTo]⟩
  | m + 1, hm => by
    obtain ⟨h1, h2⟩ := compact_spec zs hs m (by omega)
    have hg : zs[m]? = some zs[m] := List.getElem?_eq_getElem (by omega)
    have hd : zs.toArray[m]! = zs[m] := by simp [getElem!_pos, show m < zs.length by omega]
    rw [Lib.compactUpTo_succ, hd]
    by_cases hk : Lib.keeps zs.toArray m = true
    · rw [if_pos hk]
      refine ⟨List.pairwise_append.2 ⟨h1, List.pairwise_singleton _ _, fun x hx y hy => ?_⟩, fun x => ?_⟩
      · have hy : y = zs[m] := by simpa using hy
        subst hy
        obtain ⟨i, hi, hx⟩ := (h2 x).1 hx
        have hi2 : i < zs.length := by omega
        rw [List.getElem?_eq_getElem hi2] at hx
        injection hx with hx
        subst hx
        have hm0 : 0 < m := by omega
        have hprev : zs.toArray[m - 1]! = zs[m - 1] := by simp [getElem!_pos, show m - 1 < zs.length by omega]
        have hne : zs[m] ≠ zs[m - 1] := fun e => by
          have := Lib.keeps_neg (d := zs.toArray) hm0 (by rw [hd, hprev, e])
          rw [this] at hk; cases hk
        have hle1 : zs[m - 1] ≤ zs[m] := List.pairwise_iff_getElem.1 hs (m - 1) m (by omega) (by omega) (by omega)
        have hle2 : zs[i] ≤ zs[m - 1] := by
          by_cases he : i = m - 1
          · subst he; exact Int.le_refl _
          · exact List.pairwise_iff_getElem.1 hs i (m - 1) hi2 (by omega) (by omega)
        omega
      · rw [List.mem_append, h2]
        constructor
        · rintro (⟨i, hi, hx⟩ | hx)
          · exact ⟨i, by omega, hx⟩
          · exact ⟨m, by omega, by rw [hg]; simp at hx; rw [hx]⟩
        · rintro ⟨i, hi, hx⟩
          rcases Nat.lt_succ_iff_lt_or_eq.1 hi with hi | rfl
          · exact .inl ⟨i, hi, hx⟩
          · rw [hg] at hx; injection hx with hx; exact .inr (by simp [hx])
    · rw [if_neg hk, List.append_nil]
      refine ⟨h1, fun x => ?_⟩
      rw [h2]
      have hk' : ¬ (m = 0 ∨ zs.toArray[m]! ≠ zs.toArray[m - 1]!) := by simpa [Lib.keeps] using hk
      have hm0 : 0 < m := Nat.pos_of_ne_zero fun e => hk' (.inl e)
      have hprev : zs.toArray[m - 1]! = zs[m - 1] := by simp [getElem!_pos, show m - 1 < zs.length by omega]
      have he : zs[m] = zs[m - 1] := by
        rw [← hd, ← hprev]
        exact Decidable.byContradiction fun hn => hk' (.inr hn)
      constructor
      · rintro ⟨i, hi, hx⟩; exact ⟨i, by omega, hx⟩
      · rintro ⟨i, hi, hx⟩
        rcases Nat.lt_succ_iff_lt_or_eq.1 hi with hi | rfl
        · exact ⟨i, hi, hx⟩
        · exact ⟨i - 1, by omega, by rw [hg] at hx; rw [List.getElem?_eq_getElem (by omega), ← hx, he]⟩
/-- Sorted and compacted: the strictly rising row of the same numbers. -/
theorem compact_sort (zs : List Int) : strict (Lib.compact (sortL zs)) ∧ ∀ x, x ∈ Lib.compact (sortL zs) ↔ x ∈ zs := by
  have hs : (sortL zs).Pairwise (· ≤ ·) := by
    have := List.pairwise_mergeSort (le := fun x y : Int => decide (x ≤ y)) (fun a b c h1 h2 => by simp at *; omega) (fun a b => by simp; omega) zs
    unfold sortL
    simpa using this
  obtain ⟨h1, h2⟩ := compact_spec (sortL zs) hs (sortL zs).length (Nat.le_refl _)
  refine ⟨h1, fun x => ?_⟩
  show x ∈ Lib.compactUpTo (sortL zs).toArray (sortL zs).length ↔ _
  rw [h2]
  have hp : x ∈ sortL zs ↔ x ∈ zs := (List.mergeSort_perm zs _).mem_iff
  rw [← hp]
  constructor
  · rintro ⟨i, _, hx⟩; exact List.mem_of_getElem? hx
  · intro hx
    obtain ⟨i, hi, rfl⟩ := List.mem_iff_getElem.1 hx
    exact ⟨i, hi, List.getElem?_eq_getElem hi⟩
end Go.Proofs.YtmahldelmbhjfaaGreat
