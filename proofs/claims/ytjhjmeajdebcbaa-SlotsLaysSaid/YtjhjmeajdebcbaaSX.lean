/- Slots: what is done keeps what it does not touch: plain laws. -/
import Derived.Test.YtjhjmeajdebcbaaSR
namespace Go.Proofs.Ytjhjmeajdebcbaa
open Go Go.RowKit

theorem whr_at {ps : List (Int × Int)} (ha : asc ps) {t b : Int} (h : (t, b) ∈ ps) : whrL ps t = (b, true) := by
  obtain ⟨i, hi⟩ := List.mem_iff_getElem?.1 h
  exact whr_hit ha hi rfl
theorem whr_cases (ps : List (Int × Int)) (t : Int) : (∃ b, (t, b) ∈ ps ∧ whrL ps t = (b, true)) ∨ ((∀ p ∈ ps, p.1 ≠ t) ∧ whrL ps t = (0, false)) := by
  unfold whrL
  cases hf : ps.find? (fun p => decide (p.1 = t)) with
  | none => exact .inr ⟨fun p hp => by have := List.find?_eq_none.1 hf p hp; simpa using this, rfl⟩
  | some p =>
    have h1 : p.1 = t := of_decide_eq_true (List.find?_some (p := fun p : Int × Int => decide (p.1 = t)) hf)
    exact .inl ⟨p.2, by rw [← h1]; exact List.mem_of_find?_eq_some hf, rfl⟩
/-- A floor that may be, of which what was not touched stays. -/
def Kp (ps ws' ps' : List (Int × Int)) (ks : List Int) : Prop := FlOk ws' ps' ∧ ∀ t : Int, ((whrL ps t).2 = true → t ∉ ks → whrL ps' t = whrL ps t) ∧ (t ∈ ks → (whrL ps' t).2 = false)
theorem kp_of {ps ws' ps' : List (Int × Int)} {ks : List Int} (_ : asc ps) (hok : FlOk ws' ps') (h1 : ∀ p ∈ ps, p.1 ∉ ks → p ∈ ps') (h2 : ∀ p ∈ ps', p.1 ∉ ks) : Kp ps ws' ps' ks := by
  refine ⟨hok, fun t => ⟨fun ht hk => ?_, fun hk => ?_⟩⟩
  · rcases whr_cases ps t with ⟨b, hb, he⟩ | ⟨_, he⟩
    · rw [he]
      exact whr_at hok.2.1.2 (h1 _ hb hk)
    · rw [he] at ht; cases ht
  · rcases whr_cases ps' t with ⟨b, hb, _⟩ | ⟨_, he⟩
    · exact absurd hk (h2 _ hb)
    · rw [he]
theorem keep_come {ws ps : List (Int × Int)} {x : Int × Int} (h : comeE ws ps x = 0) : comeV ws ps x = (insS ws x, ps) ∧ Kp ps (insS ws x) ps [] := by
  obtain ⟨hok, _⟩ := come_ok h
  exact ⟨by unfold comeV; rw [if_pos h], kp_of hok.2.1.2 hok (fun p hp _ => hp) (fun p _ => by simp)⟩
theorem cnt_del (d : Int × Int → Bool) (ps : List (Int × Int)) (id : Int) : cntW (delL d ps) id ≤ cntW ps id := by
  unfold cntW delL
  have := List.Sublist.countP_le (p := fun q : Int × Int => q.2 == id) (List.filter_sublist (p := fun p => !d p) (l := ps))
  omega
theorem goE_zero {ws ps : List (Int × Int)} {id : Int} (h : goE ws ps id = 0) : FlOk ws ps := by
  unfold goE at h
  split at h
  · assumption
  · cases h
theorem keep_go {ws ps : List (Int × Int)} {id : Int} (h : goE ws ps id = 0) : goV ws ps id = (dropW ws id, delL (goneB id) ps, atL ps id) ∧ Kp ps (dropW ws id) (delL (goneB id) ps) (atL ps id) ∧ atL (delL (goneB id) ps) id = [] := by
  obtain ⟨⟨h1, h2⟩, ⟨h3, h4⟩, h5⟩ := goE_zero h
  have hm : ∀ q, q ∈ delL (goneB id) ps ↔ q ∈ ps ∧ q.2 ≠ id := fun q => by
    unfold delL goneB
    rw [List.mem_filter]
    simp
  have hw : ∀ p, p ∈ dropW ws id ↔ p ∈ ws ∧ p.1 ≠ id := fun p => by
    unfold dropW
    rw [List.mem_filter]
    simp
  have hat : ∀ t, t ∈ atL ps id ↔ (t, id) ∈ ps := fun t => by
    unfold atL
    rw [List.mem_map]
    constructor
    · rintro ⟨p, hp, rfl⟩
      obtain ⟨h1, h2⟩ := List.mem_filter.1 hp
      have h2 := of_decide_eq_true h2
      rw [← h2]; exact h1
    · exact fun h => ⟨(t, id), List.mem_filter.2 ⟨h, decide_eq_true rfl⟩, rfl⟩
  refine ⟨by unfold goV; rw [if_pos h], kp_of h4 ?_ ?_ ?_, ?_⟩
  · refine ⟨⟨fun p hp => h1 p ((hw p).1 hp).1, List.Pairwise.filter _ h2⟩, ⟨fun q hq => ?_, List.Pairwise.filter _ h4⟩, fun p hp => Int.le_trans (cnt_del _ ps p.1) (h5 p ((hw p).1 hp).1)⟩
    obtain ⟨hq1, hq2⟩ := (hm q).1 hq
    obtain ⟨a, p, hp, he⟩ := h3 q hq1
    exact ⟨a, p, (hw p).2 ⟨hp, by rw [he]; exact hq2⟩, he⟩
  · intro p hp hk
    refine (hm p).2 ⟨hp, fun he => hk ((hat p.1).2 ?_)⟩
    rw [← he]; exact hp
  · intro p hp hk
    obtain ⟨hp1, hp2⟩ := (hm p).1 hp
    have := (hat p.1).1 hk
    obtain ⟨i, hi⟩ := List.mem_iff_getElem?.1 hp1
    obtain ⟨j, hj⟩ := List.mem_iff_getElem?.1 this
    rcases Nat.lt_trichotomy i j with h | h | h
    · have := asc_lt h4 hi hj h; dsimp only at this; omega
    · subst h; rw [hi] at hj; have := Option.some.inj hj; rw [this] at hp2; exact hp2 rfl
    · have := asc_lt h4 hj hi h; dsimp only at this; omega
  · unfold atL
    rw [List.filter_eq_nil_iff.2 fun q hq => by have := ((hm q).1 hq).2; simpa using this]
    rfl
theorem keep_lay {ws ps : List (Int × Int)} {ts : List Int} (h : layE ws ps ts = 0) : layV ws ps ts = (ws, layL ws ps ts) ∧ Kp ps ws (layL ws ps ts) [] ∧ freeV ws (layL ws ps ts) = freeV ws ps - ts.length := by
  obtain ⟨h1, h2, h3, h4⟩ := layE_zero h
  have hl := lay_all h1 h2 h3 h4 ts.length (Nat.le_refl _)
  rw [List.take_length] at hl
  obtain ⟨l1, l2, _, l4, _⟩ := hl
  exact ⟨by unfold layV; rw [if_pos h], kp_of h1.2.1.2 l1 (fun p hp _ => l4 p hp) (fun p _ => by simp), by unfold freeV; rw [if_pos l1, if_pos h1, l2]⟩
theorem lay_full {ws ps : List (Int × Int)} {ts : List Int} (h : layE ws ps ts = 6) : freeV ws ps < ts.length := by
  unfold layE at h
  split at h
  · rename_i hok
    split at h
    · split at h
      · split at h
        · unfold freeV; rw [if_pos hok]; assumption
        · cases h
      · cases h
    · cases h
  · cases h
theorem keep_take {ws ps : List (Int × Int)} {ts : List Int} (h : takeE ws ps ts = 0) : takeV ws ps ts = (ws, delL (takenB ts) ps) ∧ Kp ps ws (delL (takenB ts) ps) ts := by
  have hok : FlOk ws ps := by
    unfold takeE at h
    split at h
    · assumption
    · cases h
  obtain ⟨⟨h1, h2⟩, ⟨h3, h4⟩, h5⟩ := hok
  have hm : ∀ q, q ∈ delL (takenB ts) ps ↔ q ∈ ps ∧ q.1 ∉ ts := fun q => by
    unfold delL takenB
    rw [List.mem_filter]
    simp
  refine ⟨by unfold takeV; rw [if_pos h], kp_of h4 ?_ (fun p hp hk => (hm p).2 ⟨hp, hk⟩) (fun p hp => ((hm p).1 hp).2)⟩
  exact ⟨⟨h1, h2⟩, ⟨fun q hq => h3 q ((hm q).1 hq).1, List.Pairwise.filter _ h4⟩, fun p hp => Int.le_trans (cnt_del _ ps p.1) (h5 p hp)⟩
end Go.Proofs.Ytjhjmeajdebcbaa
