/- Heart: to pass to two ticks is to pass to the last one; when somebody goes; plain Lean. -/
import Derived.Test.YtiapcohnjklcfaaHeR
import Derived.Test.YtiapcohnjklcfaaSortI
namespace Go.Proofs.Ytiapcohnjklcfaa
open Go Go.RowKit

theorem goes_later {t1 t2 span : Int} {p : Pulse} (h : t1 ≤ t2) (hg : goes t1 span p = true) : goes t2 span p = true := by
  simp [goes] at hg ⊢
  exact ⟨hg.1, by omega⟩
theorem down_twice {t1 t2 span : Int} (h : t1 ≤ t2) (p : Pulse) : downAt t2 span (downAt t1 span p) = downAt t2 span p := by
  by_cases hg : goes t1 span p = true
  · have hg2 := goes_later h hg
    have h1 : downAt t1 span p = { p with down := true } := by rw [downAt, if_pos hg]
    have h2 : downAt t2 span p = { p with down := true } := by rw [downAt, if_pos hg2]
    rw [h1, h2]
    unfold downAt
    rw [if_neg (by simp [goes])]
  · rw [show downAt t1 span p = p by rw [downAt, if_neg hg]]
theorem pass_twice {t1 t2 span : Int} (h : t1 ≤ t2) (ps : List Pulse) : passL t2 span (passL t1 span ps) = passL t2 span ps := by
  simp only [passL, List.map_map]
  exact List.map_congr_left fun p _ => down_twice h p
theorem gone_perm {t1 t2 span : Int} (h : t1 ≤ t2) : ∀ ps : List Pulse, (goneL t1 span ps ++ goneL t2 span (passL t1 span ps)).Perm (goneL t2 span ps)
  | [] => List.Perm.refl _
  | p :: r => by
    have ih := gone_perm (span := span) h r
    have e1 : ∀ t (q : Pulse) (l : List Pulse), goneL t span (q :: l) = (if goes t span q = true then [q.worker] else []) ++ goneL t span l := by
      intro t q l
      unfold goneL
      rw [List.filter_cons]
      split <;> simp
    have e2 : passL t1 span (p :: r) = downAt t1 span p :: passL t1 span r := rfl
    rw [e2, e1, e1, e1]
    by_cases hg : goes t1 span p = true
    · have hg2 := goes_later h hg
      have hd : goes t2 span (downAt t1 span p) = false := by rw [downAt, if_pos hg]; simp [goes]
      rw [if_pos hg, if_pos hg2, if_neg (by simp [hd])]
      simpa using ih
    · have hd : downAt t1 span p = p := by rw [downAt, if_neg hg]
      rw [if_neg hg, hd]
      by_cases hg2 : goes t2 span p = true
      · rw [if_pos hg2]
        simp only [List.nil_append, List.singleton_append]
        exact (List.perm_middle).trans (List.Perm.cons _ ih)
      · rw [if_neg hg2]
        simpa using ih
theorem perm_sorted_eq : ∀ {l l' : List Int}, l.Pairwise (· ≤ ·) → l'.Pairwise (· ≤ ·) → l.Perm l' → l = l'
  | [], l', _, _, h => (List.nil_perm.1 h).symm
  | a :: l, [], _, _, h => absurd h.length_eq (by simp)
  | a :: l, b :: l', h1, h2, h => by
    obtain ⟨h3, h4⟩ := List.pairwise_cons.1 h1
    obtain ⟨h5, h6⟩ := List.pairwise_cons.1 h2
    have hab : a = b := by
      have ha : a ∈ b :: l' := h.subset (by simp)
      have hb : b ∈ a :: l := h.symm.subset (by simp)
      rcases List.mem_cons.1 ha with e | ha
      · exact e
      · rcases List.mem_cons.1 hb with e | hb
        · exact e.symm
        · have := h3 b hb
          have := h5 a ha
          omega
    subst hab
    rw [perm_sorted_eq h4 h6 h.cons_inv]
theorem sortL_eq {zs l : List Int} (hp : zs.Perm l) (hs : l.Pairwise (· ≤ ·)) : sortL zs = l := by
  refine perm_sorted_eq ?_ hs ((List.mergeSort_perm _ _).trans hp)
  have := List.pairwise_mergeSort (le := fun x y : Int => decide (x ≤ y)) (fun a b c h1 h2 => by simp at *; omega) (fun a b => by simp; omega) zs
  exact this.imp fun h => by simpa using h
theorem gone_sorted {t span now : Int} {ps : List Pulse} (hok : okH now span ps = true) : (goneL t span ps).Pairwise (· ≤ ·) := by
  have hs := (okL_sorted (okH_iff.1 hok).2).1
  unfold goneL
  rw [List.pairwise_map]
  exact (List.Pairwise.sublist List.filter_sublist hs).imp fun h => Int.le_of_lt h
theorem both_sorted {now span t1 t2 : Int} {ps : List Pulse} (hok : okH now span ps = true) (h : t1 ≤ t2) : sortL (goneL t1 span ps ++ goneL t2 span (passL t1 span ps)) = goneL t2 span ps :=
  sortL_eq (gone_perm h ps) (gone_sorted hok)
/-- The first tick at which somebody goes down. -/
theorem due_fold (span : Int) : ∀ (l : List Pulse) (s : Int × Bool),
    ((l.foldl (dueStep span) s).2 = true ↔ s.2 = true ∨ ∃ p ∈ l, p.down = false) ∧
    (∀ p ∈ l, p.down = false → (l.foldl (dueStep span) s).1 ≤ p.heard + span) ∧ (s.2 = true → (l.foldl (dueStep span) s).1 ≤ s.1) ∧
    ((l.foldl (dueStep span) s).2 = true → (s.2 = true ∧ (l.foldl (dueStep span) s).1 = s.1) ∨ ∃ p ∈ l, p.down = false ∧ (l.foldl (dueStep span) s).1 = p.heard + span)
  | [], s => ⟨by simp, fun p hp => (by cases hp), fun _ => Int.le_refl _, fun h => .inl ⟨h, rfl⟩⟩
  | p :: r, s => by
    rw [List.foldl_cons]
    obtain ⟨h1, h2, h3, h4⟩ := due_fold span r (dueStep span s p)
    cases hd : p.down with
    | true =>
      rw [dueStep_down hd] at h1 h2 h3 h4 ⊢
      refine ⟨by rw [h1]; simp [hd], fun q hq hqd => ?_, h3, fun h => ?_⟩
      · rcases List.mem_cons.1 hq with rfl | hq
        · rw [hd] at hqd; cases hqd
        · exact h2 q hq hqd
      · rcases h4 h with h5 | ⟨q, hq, h5⟩
        · exact .inl h5
        · exact .inr ⟨q, List.mem_cons_of_mem _ hq, h5⟩
    | false =>
      by_cases hc : s.2 = false ∨ p.heard + span < s.1
      · have e : dueStep span s p = (p.heard + span, true) := by
          rcases hc with hc | hc
          · exact dueStep_first hd hc
          · exact dueStep_less hd hc
        rw [e] at h1 h2 h3 h4 ⊢
        refine ⟨by rw [h1]; simp [hd], fun q hq hqd => ?_, fun hs => ?_, fun h => .inr ?_⟩
        · rcases List.mem_cons.1 hq with rfl | hq
          · exact h3 rfl
          · exact h2 q hq hqd
        · have := h3 rfl
          rcases hc with hc | hc
          · rw [hs] at hc; cases hc
          · simp only at this; omega
        · rcases h4 h with ⟨_, h5⟩ | ⟨q, hq, h5⟩
          · exact ⟨p, by simp, hd, h5⟩
          · exact ⟨q, List.mem_cons_of_mem _ hq, h5⟩
      · have hs : s.2 = true := by
          cases hs : s.2 with
          | true => rfl
          | false => exact absurd (.inl hs) hc
        have hl : ¬ p.heard + span < s.1 := fun h => hc (.inr h)
        rw [dueStep_no hd hs hl] at h1 h2 h3 h4 ⊢
        refine ⟨by rw [h1]; simp [hd, hs], fun q hq hqd => ?_, h3, fun h => ?_⟩
        · rcases List.mem_cons.1 hq with rfl | hq
          · have := h3 hs; omega
          · exact h2 q hq hqd
        · rcases h4 h with h5 | ⟨q, hq, h5⟩
          · exact .inl h5
          · exact .inr ⟨q, List.mem_cons_of_mem _ hq, h5⟩
theorem due_gone {now span t : Int} {ps : List Pulse} (hok : okH now span ps = true) : 0 < (goneL t span ps).length ↔ ((dueH now span ps).2 = true ∧ (dueH now span ps).1 ≤ t) := by
  rw [dueH, if_pos hok]
  obtain ⟨h1, h2, _, h4⟩ := due_fold span ps (0, false)
  have hg : 0 < (goneL t span ps).length ↔ ∃ p ∈ ps, p.down = false ∧ p.heard + span ≤ t := by
    rw [goneL, List.length_map, List.length_pos_iff_exists_mem]
    constructor
    · rintro ⟨p, hp⟩
      obtain ⟨hp, hg⟩ := List.mem_filter.1 hp
      simp [goes] at hg
      exact ⟨p, hp, hg.1, by omega⟩
    · rintro ⟨p, hp, hd, hle⟩
      exact ⟨p, List.mem_filter.2 ⟨hp, by simp [goes, hd]; omega⟩⟩
  rw [hg]
  unfold dueL
  constructor
  · rintro ⟨p, hp, hd, hle⟩
    have := h2 p hp hd
    exact ⟨h1.2 (.inr ⟨p, hp, hd⟩), by omega⟩
  · rintro ⟨h5, h6⟩
    rcases h4 h5 with ⟨h7, _⟩ | ⟨p, hp, hd, h7⟩
    · cases h7
    · exact ⟨p, hp, hd, by omega⟩
end Go.Proofs.Ytiapcohnjklcfaa
