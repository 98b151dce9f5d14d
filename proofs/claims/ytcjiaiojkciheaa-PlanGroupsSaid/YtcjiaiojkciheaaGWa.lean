/- Graph: what a graph that may be is: plain laws. -/
import Derived.Test.YtcjiaiojkciheaaGJ
namespace Go.Proofs.Ytcjiaiojkciheaa
open Go Go.RowKit

theorem check_unread {g : List Opr} (h : (checkV g).2 = 0) : ∀ i, i < g.length → unreadB g i = false := by
  have h8 := check_ok h
  intro i hi
  have hw := firstW_none h8.2.2
  rw [checkV, if_neg (by omega), hw] at h
  dsimp only at h
  cases hu : firstU g with
  | none =>
    have := List.find?_eq_none.1 hu i (List.mem_range.2 hi)
    simpa using this
  | some j => rw [hu] at h; cases h
theorem alone_some {o : Opr} {i : Int} (h : AloneP o i) (h1 : o.tag ≠ 1) : 0 < o.ins.length := by
  obtain ⟨_, _, _, h⟩ := h
  rcases h with h | h | h | h | h | h
  · omega
  · exact absurd h.1 h1
  · omega
  · omega
  · omega
  · omega
theorem srcs_ne {g : List Opr} : ∀ (i : Nat), i < g.length → goodTo g (i + 1) → 0 < (srcs g i).length := by
  intro i
  induction i using Nat.strongRecOn with
  | _ i ih =>
    intro hi hg
    have ho : g[i]? = some g[i] := List.getElem?_eq_getElem hi
    have ha := hg i _ (by omega) ho
    by_cases h1 : g[i].tag = 1
    · rw [srcs_src hg ho h1]; exact Nat.zero_lt_one
    · have hlen := alone_some ha h1
      have hk := List.getElem_mem hlen
      have hk' := alone_ins ha _ hk
      have h2 := ih (g[i].ins[0]).toNat (by omega) (by omega) (hg.mono (by omega))
      obtain ⟨x, hx⟩ := List.exists_mem_of_length_pos h2
      exact List.length_pos_of_mem ((srcs_ins hg ho h1 x).2 ⟨_, hk, hx⟩)
theorem rdrs_mem {g : List Opr} {i x : Int} : x ∈ rdrs g i ↔ ∃ (k : Nat) (o : Opr), x = (k : Int) ∧ g[k]? = some o ∧ i ∈ o.ins := by
  unfold rdrs rdN
  rw [List.mem_map]
  constructor
  · rintro ⟨k, hk, rfl⟩
    obtain ⟨hk1, hk2⟩ := List.mem_filter.1 hk
    unfold readsAt at hk2
    cases ho : g[k]? with
    | none => rw [ho] at hk2; cases hk2
    | some o => rw [ho] at hk2; exact ⟨k, o, rfl, ho, of_decide_eq_true hk2⟩
  · rintro ⟨k, o, rfl, ho, hi⟩
    refine ⟨k, List.mem_filter.2 ⟨List.mem_range.2 (List.getElem?_eq_some_iff.1 ho).1, ?_⟩, rfl⟩
    unfold readsAt
    rw [ho]
    exact decide_eq_true hi
theorem rdrs_gt {g : List Opr} (hg : goodTo g g.length) {i x : Int} (h : x ∈ rdrs g i) : 0 ≤ i ∧ i < x ∧ x < g.length := by
  obtain ⟨k, o, rfl, ho, hi⟩ := rdrs_mem.1 h
  have hk := (List.getElem?_eq_some_iff.1 ho).1
  have := alone_ins (hg k o hk ho) i hi
  omega
theorem wrongE_zero {g : List Opr} {i : Nat} {o : Opr} {w : Int} (h : wrongE g i o w = 0) : AloneP o i ∧ sinkB g o.ins = false ∧ (o.tag = 6 → insSum g o.ins = (srcs g i).length) ∧ w ≤ 16 := by
  unfold wrongE at h
  split at h
  · rename_i h1
    split at h
    · cases h
    · rename_i h2
      split at h
      · cases h
      · split at h
        · cases h
        · rename_i h4
          split at h
          · cases h
          · rename_i h5
            exact ⟨h1, Bool.eq_false_iff.2 h2, fun h6 => Classical.byContradiction fun h7 => h4 ⟨h6, h7⟩, by omega⟩
  · cases h
theorem check_at {g : List Opr} (h : (checkV g).2 = 0) {i : Nat} {o : Opr} (ho : g[i]? = some o) : AloneP o i ∧ sinkB g o.ins = false ∧ (o.tag = 6 → insSum g o.ins = (srcs g i).length) := by
  have hi := (List.getElem?_eq_some_iff.1 ho).1
  have := (check_ok h).2.2 i hi
  unfold wrongAt at this
  rw [ho] at this
  obtain ⟨h1, h2, h3, _⟩ := wrongE_zero this
  exact ⟨h1, h2, h3⟩
theorem sink_none {g : List Opr} (h : (checkV g).2 = 0) {i : Nat} (ht : tagAt g i = 7) : rdrs g i = [] := by
  rw [List.eq_nil_iff_forall_not_mem]
  intro x hx
  obtain ⟨k, o, rfl, ho, hi⟩ := rdrs_mem.1 hx
  have h2 := (check_at h ho).2.1
  unfold sinkB at h2
  have := List.any_eq_false.1 h2 _ hi
  exact this (decide_eq_true (by simpa using ht))
theorem read_some {g : List Opr} (h : (checkV g).2 = 0) {i : Nat} (hi : i < g.length) (ht : tagAt g i ≠ 7) : 0 < (rdrs g i).length := by
  have := check_unread h i hi
  rw [unread_not ht] at this
  refine Nat.pos_of_ne_zero fun h0 => ?_
  rw [rdrs_nil.1 h0] at this
  cases this
end Go.Proofs.Ytcjiaiojkciheaa
