/- Plan: channels and what owns which groups: plain laws. -/
import Derived.Test.YtcjiaiojkciheaaPQa
import Derived.Test.YtcjiaiojkciheaaGWa
namespace Go.Proofs.Ytcjiaiojkciheaa
open Go Go.RowKit

theorem pick_mem {p : Nat × Nat → Bool} {l : List (Nat × Nat)} {z : Int} : z ∈ pick p l ↔ ∃ (i : Nat) (c : Nat × Nat), z = (i : Int) ∧ l[i]? = some c ∧ p c = true := by
  unfold pick
  rw [List.mem_map]
  constructor
  · rintro ⟨j, hj, rfl⟩
    rw [List.mem_filter, List.mem_range] at hj
    obtain ⟨h1, h2⟩ := hj
    rw [List.getElem?_eq_getElem h1] at h2
    exact ⟨j, l[j], rfl, List.getElem?_eq_getElem h1, h2⟩
  · rintro ⟨i, c, rfl, hi, hc⟩
    refine ⟨i, List.mem_filter.2 ⟨List.mem_range.2 (List.getElem?_eq_some_iff.1 hi).1, ?_⟩, rfl⟩
    rw [hi]
    exact hc
theorem pick_sorted (p : Nat × Nat → Bool) (l : List (Nat × Nat)) : (pick p l).Pairwise (· < ·) := by
  unfold pick
  refine List.Pairwise.map _ (R := fun a b : Nat => a < b) (fun a b h => by omega) (List.Pairwise.filter _ List.pairwise_lt_range)
theorem pick_nodup (p : Nat × Nat → Bool) (l : List (Nat × Nat)) : (pick p l).Nodup := (pick_sorted p l).imp fun h => by omega
theorem pick_all {p : Nat × Nat → Bool} {l : List (Nat × Nat)} (h : ∀ c ∈ l, p c = true) : (pick p l).length = l.length := by
  unfold pick
  rw [List.length_map, List.filter_eq_self.2, List.length_range]
  intro j hj
  have hj := List.mem_range.1 hj
  rw [List.getElem?_eq_getElem hj]
  exact h _ (List.getElem_mem hj)
theorem chans_mem_iff {g : List Opr} {i j : Nat} : (i, j) ∈ chansL g ↔ i < (subsL g).length ∧ j < (subsL g).length ∧ linkAt g (subsL g) i j = true := by
  constructor
  · exact fun h => chansL_mem h
  · rintro ⟨h1, h2, h3⟩
    unfold chansL chN
    refine List.mem_append.2 (.inl (List.mem_flatten.2 ⟨chRow g (subsL g) i (subsL g).length, List.mem_map.2 ⟨i, List.mem_range.2 h1, rfl⟩, ?_⟩))
    unfold chRow
    exact List.mem_map.2 ⟨j, List.mem_filter.2 ⟨List.mem_range.2 h2, h3⟩, rfl⟩
theorem chN_sorted (g : List Opr) (l : List (Nat × Nat)) : ∀ i j, (∀ c ∈ chN g l i j, c.1 < i ∨ c.1 = i ∧ c.2 < j) ∧ (chN g l i j).Pairwise (fun a b => a.1 < b.1 ∨ a.1 = b.1 ∧ a.2 < b.2)
  | 0, 0 => by rw [chN_zero]; exact ⟨fun s hs => (by cases hs), List.Pairwise.nil⟩
  | i + 1, 0 => by
    have ih := chN_sorted g l i l.length
    rw [chN_i]
    exact ⟨fun s hs => by have := ih.1 s hs; omega, ih.2⟩
  | i, j + 1 => by
    have ih := chN_sorted g l i j
    rw [chN_j]
    by_cases h : linkAt g l i j = true
    · rw [if_pos h]
      refine ⟨fun s hs => ?_, List.pairwise_append.2 ⟨ih.2, List.pairwise_singleton _ _, fun a ha b hb => ?_⟩⟩
      · rcases List.mem_append.1 hs with hs | hs
        · have := ih.1 s hs; omega
        · rw [List.mem_singleton.1 hs]; dsimp only; omega
      · rw [List.mem_singleton.1 hb]
        exact ih.1 a ha
    · rw [if_neg h, List.append_nil]
      exact ⟨fun s hs => by have := ih.1 s hs; omega, ih.2⟩
  termination_by i j => (i, j)
theorem chansL_sorted (g : List Opr) : (chansL g).Pairwise (fun a b => a.1 < b.1 ∨ a.1 = b.1 ∧ a.2 < b.2) := (chN_sorted g (subsL g) (subsL g).length 0).2
theorem subN_sorted (g : List Opr) : ∀ i k, (∀ s ∈ subN g i k, s.1 < i ∨ s.1 = i ∧ s.2 < k) ∧ (subN g i k).Pairwise (fun a b => a.1 < b.1 ∨ a.1 = b.1 ∧ a.2 < b.2)
  | 0, 0 => by rw [subN_zero]; exact ⟨fun s hs => (by cases hs), List.Pairwise.nil⟩
  | i + 1, 0 => by
    have ih := subN_sorted g i (widN g i)
    rw [subN_i]
    exact ⟨fun s hs => by have := ih.1 s hs; omega, ih.2⟩
  | i, k + 1 => by
    have ih := subN_sorted g i k
    rw [subN_k]
    refine ⟨fun s hs => ?_, List.pairwise_append.2 ⟨ih.2, List.pairwise_singleton _ _, fun a ha b hb => ?_⟩⟩
    · rcases List.mem_append.1 hs with hs | hs
      · have := ih.1 s hs; omega
      · rw [List.mem_singleton.1 hs]; dsimp only; omega
    · rw [List.mem_singleton.1 hb]
      exact ih.1 a ha
  termination_by i k => (i, k)
theorem subsL_sorted (g : List Opr) : (subsL g).Pairwise (fun a b => a.1 < b.1 ∨ a.1 = b.1 ∧ a.2 < b.2) := (subN_sorted g g.length 0).2
theorem own_uniq {w k n : Nat} (h : ownB w k n = true) : k = n * w / 8 := (beq_iff_eq.1 h).symm
theorem own_at (w n : Nat) : ownB w (n * w / 8) n = true := beq_iff_eq.2 rfl
theorem own_lt {w n : Nat} (h1 : 1 ≤ w) (h3 : w ≤ 3) (hn : n < 8) : n * w / 8 < w := by
  rcases (show w = 1 ∨ w = 2 ∨ w = 3 by omega) with rfl | rfl | rfl <;> omega
theorem own_ex {w k : Nat} (h1 : k < w) (h3 : w ≤ 3) : ∃ n, n < 8 ∧ ownB w k n = true := by
  refine ⟨(k * 8 + w - 1) / w, ?_, ?_⟩ <;>
    rcases (show (w = 1 ∧ k = 0) ∨ (w = 2 ∧ k = 0) ∨ (w = 2 ∧ k = 1) ∨ (w = 3 ∧ k = 0) ∨ (w = 3 ∧ k = 1) ∨ (w = 3 ∧ k = 2) by omega) with ⟨rfl, rfl⟩ | ⟨rfl, rfl⟩ | ⟨rfl, rfl⟩ | ⟨rfl, rfl⟩ | ⟨rfl, rfl⟩ | ⟨rfl, rfl⟩ <;> decide
/-- What two subtasks share makes a channel. -/
theorem link_of {g : List Opr} {a b : Nat × Nat} {n : Nat} (ha : widN g a.1 < 4 ∧ a.2 < 3) (hb : widN g b.1 < 4 ∧ b.2 < 3) (hn : n < 8) (h1 : ownB (widN g a.1) a.2 n = true) (h2 : ownB (widN g b.1) b.2 n = true) (hr : readsB g b.1 a.1 = true) : linkB g a b = true := by
  have hb2 := (both_bit _ ha.1 _ ha.2 _ hb.1 _ hb.2 n hn).2 (by rw [h1, h2]; rfl)
  have : bothOf g a b ≠ 0 := fun h => by
    have h : bothV (widN g a.1) a.2 (widN g b.1) b.2 = 0 := h
    rw [h, Nat.zero_div] at hb2
    cases hb2
  unfold linkB
  rw [bne_iff_ne.2 this, hr]; rfl
theorem link_reads {g : List Opr} {a b : Nat × Nat} (h : linkB g a b = true) : readsB g b.1 a.1 = true := by
  unfold linkB at h
  exact (Bool.and_eq_true_iff.1 h).2
theorem link_at {g : List Opr} {i j : Nat} (h : linkAt g (subsL g) i j = true) : ∃ a b, (subsL g)[i]? = some a ∧ (subsL g)[j]? = some b ∧ linkB g a b = true := by
  unfold linkAt at h
  cases ha : (subsL g)[i]? with
  | none => rw [ha] at h; cases h
  | some a => cases hb : (subsL g)[j]? with
    | none => rw [ha, hb] at h; cases h
    | some b => rw [ha, hb] at h; exact ⟨a, b, rfl, rfl, h⟩
theorem linkAt_iff {g : List Opr} {i j : Nat} {a b : Nat × Nat} (ha : (subsL g)[i]? = some a) (hb : (subsL g)[j]? = some b) : linkAt g (subsL g) i j = linkB g a b := by unfold linkAt; rw [ha, hb]
theorem reads_iff {g : List Opr} {i j : Nat} {o : Opr} (h : g[i]? = some o) : readsB g i j = true ↔ (j : Int) ∈ o.ins := by unfold readsB; rw [h]; exact decide_eq_true_iff
theorem reads_lt {g : List Opr} (hg : goodTo g g.length) {i j : Nat} (h : readsB g i j = true) : j < i ∧ i < g.length := by
  unfold readsB at h
  cases ho : g[i]? with
  | none => rw [ho] at h; cases h
  | some o =>
    rw [ho] at h
    have hi := (List.getElem?_eq_some_iff.1 ho).1
    have := alone_ins (hg i o hi ho) _ (of_decide_eq_true h)
    omega
theorem small_at {g : List Opr} (hg : goodTo g g.length) {i : Nat} {a : Nat × Nat} (h : (subsL g)[i]? = some a) : a.1 < g.length ∧ a.2 < widN g a.1 ∧ 1 ≤ widN g a.1 ∧ widN g a.1 ≤ 3 := by
  obtain ⟨h1, h2⟩ := subsL_mem hg (List.mem_of_getElem? h)
  have := widN_good hg h1 (List.getElem?_eq_getElem h1)
  omega
/-- The one subtask of an operator that has a group. -/
def ownAt (g : List Opr) (op n : Nat) : Nat := (subN g op (n * widN g op / 8)).length
theorem ownAt_get {g : List Opr} (hg : goodTo g g.length) {op n : Nat} (h : op < g.length) (hn : n < 8) : (subsL g)[ownAt g op n]? = some (op, n * widN g op / 8) := by
  have hw := widN_good hg h (List.getElem?_eq_getElem h)
  exact subsL_at h (own_lt hw.2.1 hw.2.2 hn)
theorem chan_fwd {g : List Opr} (hg : goodTo g g.length) {c : Nat × Nat} (h : c ∈ chansL g) : c.1 < c.2 := by
  obtain ⟨h1, h2, h3⟩ := chansL_mem h
  obtain ⟨a, b, ha, hb, hl⟩ := link_at h3
  have hlt := (reads_lt hg (link_reads hl)).1
  obtain ⟨_, ea⟩ := List.getElem?_eq_some_iff.1 ha
  obtain ⟨_, eb⟩ := List.getElem?_eq_some_iff.1 hb
  have hp := List.pairwise_iff_getElem.1 (subsL_sorted g)
  rcases Nat.lt_trichotomy c.1 c.2 with h | h | h
  · exact h
  · have : (subsL g)[c.1] = (subsL g)[c.2] := by congr 1
    rw [ea, eb] at this; rw [this] at hlt; omega
  · have := hp c.2 c.1 h2 h1 h
    rw [ea, eb] at this; omega
/-- To a subtask that is no source a channel comes. -/
theorem whole_in {g : List Opr} (h0 : (checkV g).2 = 0) {i : Nat} {s : Nat × Nat} {o : Opr} (hs : (subsL g)[i]? = some s) (ho : g[s.1]? = some o) : (pick (fun c => decide ((c.2 : Int) = i)) (chansL g)).length = 0 ↔ o.tag = 1 := by
  have hg := check_good h0
  have hsm := small_at hg hs
  have hal := hg s.1 o hsm.1 ho
  constructor
  · intro h
    refine Classical.byContradiction fun h1 => ?_
    have hlen := alone_some hal h1
    obtain ⟨k, hk⟩ : ∃ k, k ∈ o.ins := ⟨o.ins[0], List.getElem_mem hlen⟩
    have hki := alone_ins hal k hk
    obtain ⟨K, rfl⟩ : ∃ K : Nat, k = (K : Int) := ⟨k.toNat, by omega⟩
    obtain ⟨n, hn, hown⟩ := own_ex hsm.2.1 hsm.2.2.2
    have hK : K < g.length := by omega
    have hat := ownAt_get hg hK hn
    have hsa := small_at hg hat
    have hl := link_of (g := g) (a := (K, n * widN g K / 8)) (b := s) (n := n) (by omega) (by omega) hn (own_at _ _) hown ((reads_iff ho).2 hk)
    have hm : (ownAt g K n, i) ∈ chansL g := chans_mem_iff.2 ⟨(List.getElem?_eq_some_iff.1 hat).1, (List.getElem?_eq_some_iff.1 hs).1, by rw [linkAt_iff hat hs]; exact hl⟩
    obtain ⟨j, hj⟩ := List.mem_iff_getElem?.1 hm
    have := List.length_pos_of_mem (pick_mem (p := fun c => decide ((c.2 : Int) = i)).2 ⟨j, _, rfl, hj, decide_eq_true rfl⟩)
    omega
  · intro h1
    refine List.length_eq_zero_iff.2 (List.eq_nil_iff_forall_not_mem.2 fun z hz => ?_)
    obtain ⟨j, c, rfl, hc, hp⟩ := pick_mem.1 hz
    obtain ⟨_, _, h3⟩ := chansL_mem (List.mem_of_getElem? hc)
    obtain ⟨a, b, ha, hb, hl⟩ := link_at h3
    have hp := of_decide_eq_true hp
    rw [show c.2 = i by omega, hs] at hb
    have hr := link_reads hl
    rw [← Option.some.inj hb, reads_iff ho] at hr
    obtain ⟨_, _, _, ht⟩ := hal
    have hz : o.ins.length = 0 := by rcases ht with h | h | h | h | h | h <;> omega
    have := List.length_pos_of_mem hr
    omega
/-- From a subtask that is no sink a channel goes. -/
theorem whole_out {g : List Opr} (h0 : (checkV g).2 = 0) {i : Nat} {s : Nat × Nat} {o : Opr} (hs : (subsL g)[i]? = some s) (ho : g[s.1]? = some o) : (pick (fun c => decide ((c.1 : Int) = i)) (chansL g)).length = 0 ↔ o.tag = 7 := by
  have hg := check_good h0
  have hsm := small_at hg hs
  have htg : tagAt g s.1 = o.tag := by unfold tagAt; rw [ho]
  constructor
  · intro h
    refine Classical.byContradiction fun h1 => ?_
    have hlen := read_some h0 hsm.1 (by rw [htg]; exact h1)
    obtain ⟨K, p, _, hp, hin⟩ := rdrs_mem.1 (List.getElem_mem hlen)
    obtain ⟨n, hn, hown⟩ := own_ex hsm.2.1 hsm.2.2.2
    have hK : K < g.length := (List.getElem?_eq_some_iff.1 hp).1
    have hat := ownAt_get hg hK hn
    have hsa := small_at hg hat
    have hl := link_of (g := g) (a := s) (b := (K, n * widN g K / 8)) (n := n) (by omega) (by omega) hn hown (own_at _ _) ((reads_iff hp).2 hin)
    have hm : (i, ownAt g K n) ∈ chansL g := chans_mem_iff.2 ⟨(List.getElem?_eq_some_iff.1 hs).1, (List.getElem?_eq_some_iff.1 hat).1, by rw [linkAt_iff hs hat]; exact hl⟩
    obtain ⟨j, hj⟩ := List.mem_iff_getElem?.1 hm
    have := List.length_pos_of_mem (pick_mem (p := fun c => decide ((c.1 : Int) = i)).2 ⟨j, _, rfl, hj, decide_eq_true rfl⟩)
    omega
  · intro h1
    refine List.length_eq_zero_iff.2 (List.eq_nil_iff_forall_not_mem.2 fun z hz => ?_)
    obtain ⟨j, c, rfl, hc, hp⟩ := pick_mem.1 hz
    obtain ⟨_, _, h3⟩ := chansL_mem (List.mem_of_getElem? hc)
    obtain ⟨a, b, ha, hb, hl⟩ := link_at h3
    have hp := of_decide_eq_true hp
    rw [show c.1 = i by omega, hs] at ha
    have hr := link_reads hl
    rw [← Option.some.inj ha] at hr
    have hlt := reads_lt hg hr
    have hb1 := List.getElem?_eq_getElem hlt.2
    rw [reads_iff hb1] at hr
    have hn := sink_none h0 (i := s.1) (by rw [htg]; exact h1)
    have hm := rdrs_mem.2 ⟨b.1, _, rfl, hb1, hr⟩
    rw [hn] at hm
    cases hm
/-- Rows of numbers, none twice, with the same numbers are as long. -/
theorem same_length {a b : List Int} (ha : a.Nodup) (hb : b.Nodup) (h : ∀ z, z ∈ a ↔ z ∈ b) : a.length = b.length := ((List.perm_ext_iff_of_nodup ha hb).2 h).length_eq
end Go.Proofs.Ytcjiaiojkciheaa
