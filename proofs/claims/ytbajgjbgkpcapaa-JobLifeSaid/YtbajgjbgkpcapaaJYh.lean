/- Job: the law Life. -/
import Derived.Test.YtbajgjbgkpcapaaJYe
import Derived.Test.YtbajgjbgkpcapaaSetI
namespace Go.Proofs.Ytbajgjbgkpcapaa
open Go Go.RowKit
open Sy (C SV V1 Blk St XD Els)
set_option maxRecDepth 10000

theorem dS_zero {s f m h : Int} (he : (dS s f m h).2.2.2 ≠ 0) : ∃ e, e ≠ 0 ∧ dS s f m h = (0, 0, 0, e) := by
  by_cases hok : okJ s f m
  · by_cases hh : h < 1 ∨ 9 < h
    · refine ⟨2, by decide, ?_⟩
      unfold dS
      rw [if_neg (fun h => h hok), if_pos hh]
    · have hno : ¬ ¬ okJ s f m := fun h => h hok
      unfold dS at he ⊢
      rw [if_neg hno, if_neg hh] at he ⊢
      by_cases h1 : h = 1
      · rw [if_pos h1] at he ⊢
        by_cases s0 : s = 0
        · rw [if_pos s0] at he; exact absurd rfl he
        · rw [if_neg s0]; exact ⟨5, by decide, rfl⟩
      rw [if_neg h1] at he ⊢
      by_cases s0 : s = 0
      · rw [if_pos s0]; exact ⟨4, by decide, rfl⟩
      rw [if_neg s0] at he ⊢
      by_cases s4 : 4 ≤ s
      · rw [if_pos s4]; exact ⟨351, by decide, rfl⟩
      rw [if_neg s4] at he ⊢
      by_cases h2 : h = 2
      · rw [if_pos h2] at he; exact absurd rfl he
      rw [if_neg h2] at he ⊢
      by_cases h3 : h = 3
      · rw [if_pos h3] at he
        by_cases hf : f = m
        · rw [if_pos hf] at he; exact absurd rfl he
        · rw [if_neg hf] at he; exact absurd rfl he
      rw [if_neg h3] at he ⊢
      by_cases h4 : h = 4
      · rw [if_pos h4] at he ⊢
        by_cases s2 : s = 2
        · rw [if_pos s2] at he; exact absurd rfl he
        · rw [if_neg s2]; exact ⟨352, by decide, rfl⟩
      rw [if_neg h4] at he ⊢
      by_cases h5 : h = 5
      · rw [if_pos h5] at he ⊢
        by_cases s1 : s = 1
        · rw [if_pos s1] at he; exact absurd rfl he
        · rw [if_neg s1]
          by_cases s2 : s = 2
          · rw [if_pos s2]; exact ⟨353, by decide, rfl⟩
          · rw [if_neg s2]; exact ⟨5, by decide, rfl⟩
      rw [if_neg h5] at he ⊢
      by_cases h6 : h = 6
      · rw [if_pos h6] at he ⊢
        by_cases s3 : s = 3
        · rw [if_pos s3] at he; exact absurd rfl he
        · rw [if_neg s3]; exact ⟨352, by decide, rfl⟩
      rw [if_neg h6] at he ⊢
      by_cases h7 : h = 7
      · rw [if_pos h7] at he ⊢
        by_cases s3 : s = 3
        · rw [if_pos s3] at he; exact absurd rfl he
        · rw [if_neg s3]; exact ⟨352, by decide, rfl⟩
      rw [if_neg h7] at he ⊢
      by_cases h8 : h = 8
      · rw [if_pos h8] at he ⊢
        by_cases s2 : s = 2
        · rw [if_pos s2]; exact ⟨352, by decide, rfl⟩
        · rw [if_neg s2] at he; exact absurd rfl he
      rw [if_neg h8] at he
      exact absurd rfl he
  · refine ⟨350, by decide, ?_⟩
    unfold dS
    rw [if_pos hok]
/-- What a happening that is not refused leaves. -/
theorem life_step {j : Jb} {h : Int} (ho : okB j) (he : err j h = 0) : j.s ≤ 3 ∧ okB (nxt j h) ∧ (nxt j h).m = j.m ∧ (∀ t, rch (nxt j h) t → rch j t) ∧ ((nxt j h).f ≠ j.f → h = 3 ∧ (nxt j h).f = j.f + 1 ∧ (nxt j h).s = 2) := by
  have hh : 1 ≤ h ∧ h ≤ 9 := by
    by_cases hh : h < 1 ∨ 9 < h
    · exfalso
      have hno : ¬ ¬ okJ j.s j.f j.m := fun h => h ho
      have e1 : err j h = (dS j.s j.f j.m h).2.2.2 := rfl
      rw [e1] at he
      unfold dS at he
      rw [if_neg hno, if_pos hh] at he
      cases he
    · omega
  obtain ⟨h1, h2, h3⟩ := step_ok ho hh he
  obtain ⟨s, f, m⟩ := j
  have hok : okJ s f m := ho
  have e1 : err ⟨s, f, m⟩ h = (dS s f m h).2.2.2 := rfl
  have e2 : nxt ⟨s, f, m⟩ h = ⟨(dS s f m h).1, (dS s f m h).2.1, (dS s f m h).2.2.1⟩ := rfl
  have hc := dS_cases hok hh
  unfold okJ at hok
  rw [e1] at he
  refine ⟨?_, h1, h2, h3, ?_⟩
  · dsimp only
    rcases hc with ⟨_, hs, _⟩ | ⟨_, hs, _⟩ | ⟨_, hs, hf, _⟩ | ⟨_, hs, hf, _⟩ | ⟨_, hs, _⟩ | ⟨_, hs, _⟩ | ⟨_, hs, _⟩ | ⟨_, hs, _⟩ | ⟨_, hs, _⟩ | ⟨_, hs, _⟩ | hD
    case inr.inr.inr.inr.inr.inr.inr.inr.inr.inr => exact absurd he hD
    all_goals omega
  · rw [e2]
    dsimp only
    clear h1 h2 h3
    generalize dS s f m h = D at *
    intro hne
    rcases hc with ⟨_, hs, rfl⟩ | ⟨_, hs, rfl⟩ | ⟨_, hs, hf, rfl⟩ | ⟨hh3, hs, hf, rfl⟩ | ⟨_, hs, rfl⟩ | ⟨_, hs, rfl⟩ | ⟨_, hs, rfl⟩ | ⟨_, hs, rfl⟩ | ⟨_, hs, rfl⟩ | ⟨_, hs, rfl⟩ | hD
    case inr.inr.inr.inl => exact ⟨hh3, rfl, rfl⟩
    case inr.inr.inr.inr.inr.inr.inr.inr.inr.inr => exact absurd he hD
    all_goals exact absurd rfl hne
theorem cancel_ok {j : Jb} (ho : okB j) (hs : 0 < j.s ∧ j.s < 4) : dJ j 2 = (6, j.f, j.m, 0) := by
  have hno : ¬ ¬ okJ j.s j.f j.m := fun h => h ho
  unfold dJ dS
  rw [if_neg hno, if_neg (by omega), if_neg (by decide), if_neg (by omega), if_neg (by omega), if_pos rfl]
end Go.Proofs.Ytbajgjbgkpcapaa
