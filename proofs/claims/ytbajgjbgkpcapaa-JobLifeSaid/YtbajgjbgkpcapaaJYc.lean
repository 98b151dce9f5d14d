/- Job: to which states a job can come: plain laws. -/
import Derived.Test.YtbajgjbgkpcapaaJYb
namespace Go.Proofs.Ytbajgjbgkpcapaa
open Go Go.RowKit

def nxt (j : Jb) (h : Int) : Jb := ⟨(dJ j h).1, (dJ j h).2.1, (dJ j h).2.2.1⟩
def err (j : Jb) (h : Int) : Int := (dJ j h).2.2.2
def okB (j : Jb) : Prop := okJ j.s j.f j.m
/-- The states to which a job can come. -/
def rch (j : Jb) (t : Int) : Prop := t = j.s ∨ (j.s = 0 ∧ (t = 1 ∨ (3 ≤ t ∧ t ≤ 7) ∨ (t = 2 ∧ j.f < j.m))) ∨ ((j.s = 1 ∨ j.s = 3) ∧ (t = 1 ∨ (3 ≤ t ∧ t ≤ 7) ∨ (t = 2 ∧ j.f < j.m))) ∨ (j.s = 2 ∧ 1 ≤ t ∧ t ≤ 7)
instance (j : Jb) (t : Int) : Decidable (rch j t) := by unfold rch; infer_instance
/-- What a happening does, by cases. -/
theorem dS_cases {s f m h : Int} (hok : okJ s f m) (hh : 1 ≤ h ∧ h ≤ 9) :
    (h = 1 ∧ s = 0 ∧ dS s f m h = (1, f, m, 0)) ∨ (h = 2 ∧ (1 ≤ s ∧ s ≤ 3) ∧ dS s f m h = (6, f, m, 0)) ∨ (h = 3 ∧ (1 ≤ s ∧ s ≤ 3) ∧ f = m ∧ dS s f m h = (7, f, m, 0)) ∨ (h = 3 ∧ (1 ≤ s ∧ s ≤ 3) ∧ f ≠ m ∧ dS s f m h = (2, f + 1, m, 0)) ∨
    (h = 4 ∧ s = 2 ∧ dS s f m h = (1, f, m, 0)) ∨ (h = 5 ∧ s = 1 ∧ dS s f m h = (3, f, m, 0)) ∨ (h = 6 ∧ s = 3 ∧ dS s f m h = (5, f, m, 0)) ∨ (h = 7 ∧ s = 3 ∧ dS s f m h = (1, f, m, 0)) ∨ (h = 8 ∧ (s = 1 ∨ s = 3) ∧ dS s f m h = (4, f, m, 0)) ∨ (h = 9 ∧ (1 ≤ s ∧ s ≤ 3) ∧ dS s f m h = (7, f, m, 0)) ∨
    (dS s f m h).2.2.2 ≠ 0 := by
  have hs := hok
  unfold okJ at hs
  obtain ⟨X, hX⟩ : ∃ X, dS s f m h = X := ⟨_, rfl⟩
  rw [hX]
  unfold dS at hX
  rw [if_neg (fun h => h hok), if_neg (show ¬ (h < 1 ∨ 9 < h) by omega)] at hX
  by_cases h1 : h = 1
  · rw [if_pos h1] at hX
    by_cases s0 : s = 0
    · rw [if_pos s0] at hX; exact .inl ⟨h1, s0, hX.symm⟩
    · rw [if_neg s0] at hX
      iterate 10 (refine .inr ?_)
      rw [← hX]; decide
  rw [if_neg h1] at hX
  by_cases s0 : s = 0
  · rw [if_pos s0] at hX
    iterate 10 (refine .inr ?_)
    rw [← hX]; decide
  rw [if_neg s0] at hX
  by_cases s4 : 4 ≤ s
  · rw [if_pos s4] at hX
    iterate 10 (refine .inr ?_)
    rw [← hX]; decide
  rw [if_neg s4] at hX
  have s13 : 1 ≤ s ∧ s ≤ 3 := by omega
  by_cases h2 : h = 2
  · rw [if_pos h2] at hX
    exact .inr (.inl ⟨h2, s13, hX.symm⟩)
  rw [if_neg h2] at hX
  by_cases h3 : h = 3
  · rw [if_pos h3] at hX
    by_cases hf : f = m
    · rw [if_pos hf] at hX; exact .inr (.inr (.inl ⟨h3, s13, hf, hX.symm⟩))
    · rw [if_neg hf] at hX; exact .inr (.inr (.inr (.inl ⟨h3, s13, hf, hX.symm⟩)))
  rw [if_neg h3] at hX
  by_cases h4 : h = 4
  · rw [if_pos h4] at hX
    by_cases s2 : s = 2
    · rw [if_pos s2] at hX; exact .inr (.inr (.inr (.inr (.inl ⟨h4, s2, hX.symm⟩))))
    · rw [if_neg s2] at hX
      iterate 10 (refine .inr ?_)
      rw [← hX]; decide
  rw [if_neg h4] at hX
  by_cases h5 : h = 5
  · rw [if_pos h5] at hX
    by_cases s1 : s = 1
    · rw [if_pos s1] at hX; exact .inr (.inr (.inr (.inr (.inr (.inl ⟨h5, s1, hX.symm⟩)))))
    · rw [if_neg s1] at hX
      iterate 10 (refine .inr ?_)
      by_cases s2 : s = 2
      · rw [if_pos s2] at hX; rw [← hX]; decide
      · rw [if_neg s2] at hX; rw [← hX]; decide
  rw [if_neg h5] at hX
  by_cases h6 : h = 6
  · rw [if_pos h6] at hX
    by_cases s3 : s = 3
    · rw [if_pos s3] at hX; exact .inr (.inr (.inr (.inr (.inr (.inr (.inl ⟨h6, s3, hX.symm⟩))))))
    · rw [if_neg s3] at hX
      iterate 10 (refine .inr ?_)
      rw [← hX]; decide
  rw [if_neg h6] at hX
  by_cases h7 : h = 7
  · rw [if_pos h7] at hX
    by_cases s3 : s = 3
    · rw [if_pos s3] at hX; exact .inr (.inr (.inr (.inr (.inr (.inr (.inr (.inl ⟨h7, s3, hX.symm⟩)))))))
    · rw [if_neg s3] at hX
      iterate 10 (refine .inr ?_)
      rw [← hX]; decide
  rw [if_neg h7] at hX
  by_cases h8 : h = 8
  · rw [if_pos h8] at hX
    by_cases s2 : s = 2
    · rw [if_pos s2] at hX
      iterate 10 (refine .inr ?_)
      rw [← hX]; decide
    · rw [if_neg s2] at hX; exact .inr (.inr (.inr (.inr (.inr (.inr (.inr (.inr (.inl ⟨h8, by omega, hX.symm⟩))))))))
  rw [if_neg h8] at hX
  exact .inr (.inr (.inr (.inr (.inr (.inr (.inr (.inr (.inr (.inl ⟨by omega, s13, hX.symm⟩)))))))))
theorem step_ok {j : Jb} {h : Int} (ho : okB j) (hh : 1 ≤ h ∧ h ≤ 9) (he : err j h = 0) : okB (nxt j h) ∧ (nxt j h).m = j.m ∧ ∀ t, rch (nxt j h) t → rch j t := by
  obtain ⟨s, f, m⟩ := j
  have hok : okJ s f m := ho
  unfold okB okJ at ho
  dsimp only at ho
  have e1 : err ⟨s, f, m⟩ h = (dS s f m h).2.2.2 := rfl
  have e2 : nxt ⟨s, f, m⟩ h = ⟨(dS s f m h).1, (dS s f m h).2.1, (dS s f m h).2.2.1⟩ := rfl
  have hc := dS_cases hok hh
  rw [e1] at he
  rw [e2]
  generalize dS s f m h = D at *
  rcases hc with ⟨_, hs, rfl⟩ | ⟨_, hs, rfl⟩ | ⟨_, hs, hf, rfl⟩ | ⟨_, hs, hf, rfl⟩ | ⟨_, hs, rfl⟩ | ⟨_, hs, rfl⟩ | ⟨_, hs, rfl⟩ | ⟨_, hs, rfl⟩ | ⟨_, hs, rfl⟩ | ⟨_, hs, rfl⟩ | hD
  case inr.inr.inr.inr.inr.inr.inr.inr.inr.inr => exact absurd he hD
  all_goals
    refine ⟨by unfold okB okJ; dsimp only; omega, rfl, fun t ht => ?_⟩
    unfold rch at ht ⊢
    dsimp only at ht ⊢
    omega
/-- Jobs among which each is, to which one of them comes. -/
def closed (M : Jb → Prop) : Prop := ∀ x, M x → ∀ h, 1 ≤ h → h ≤ 9 → err x h = 0 → M (nxt x h)
theorem to_of {s f m h : Int} {a b : Int} (hD : dS s f m h = (a, b, m, 0)) : err ⟨s, f, m⟩ h = 0 ∧ nxt ⟨s, f, m⟩ h = ⟨a, b, m⟩ := by
  have e1 : err ⟨s, f, m⟩ h = (dS s f m h).2.2.2 := rfl
  have e2 : nxt ⟨s, f, m⟩ h = ⟨(dS s f m h).1, (dS s f m h).2.1, (dS s f m h).2.2.1⟩ := rfl
  rw [e1, e2, hD]
  exact ⟨rfl, rfl⟩
/-- What one happening does. -/
theorem go_one {s f m : Int} (hok : okJ s f m) (h a : Int) (hh : 1 ≤ h ∧ h ≤ 9) (hc : (s = 0 ∧ h = 1 ∧ a = 1) ∨ (s = 2 ∧ h = 4 ∧ a = 1) ∨ (s = 3 ∧ h = 7 ∧ a = 1) ∨ (s = 3 ∧ h = 6 ∧ a = 5) ∨ (s = 1 ∧ ((h = 2 ∧ a = 6) ∨ (h = 5 ∧ a = 3) ∨ (h = 8 ∧ a = 4) ∨ (h = 9 ∧ a = 7)))) : err ⟨s, f, m⟩ h = 0 ∧ nxt ⟨s, f, m⟩ h = ⟨a, f, m⟩ := by
  have hd := dS_cases hok hh
  have e : dS s f m h = (a, f, m, 0) := by
    rcases hd with ⟨h1, h2, h3⟩ | ⟨h1, h2, h3⟩ | ⟨h1, h2, hf, h3⟩ | ⟨h1, h2, hf, h3⟩ | ⟨h1, h2, h3⟩ | ⟨h1, h2, h3⟩ | ⟨h1, h2, h3⟩ | ⟨h1, h2, h3⟩ | ⟨h1, h2, h3⟩ | ⟨h1, h2, h3⟩ | hD
    case inr.inr.inr.inr.inr.inr.inr.inr.inr.inr =>
      exfalso
      refine hD ?_
      have hno : ¬ ¬ okJ s f m := fun h => h hok
      rcases hc with ⟨rfl, rfl, rfl⟩ | ⟨rfl, rfl, rfl⟩ | ⟨rfl, rfl, rfl⟩ | ⟨rfl, rfl, rfl⟩ | ⟨rfl, ⟨rfl, rfl⟩ | ⟨rfl, rfl⟩ | ⟨rfl, rfl⟩ | ⟨rfl, rfl⟩⟩
      all_goals (unfold dS; rw [if_neg hno]; rfl)
    all_goals first
      | (exfalso; omega)
      | (rw [h3]; congr 1; omega)
  exact to_of e
theorem go_fall {f m : Int} (hok : okJ 1 f m) (hf : f < m) : err ⟨1, f, m⟩ 3 = 0 ∧ nxt ⟨1, f, m⟩ 3 = ⟨2, f + 1, m⟩ := by
  refine to_of ?_
  unfold dS
  have hno : ¬ ¬ okJ 1 f m := fun h => h hok
  rw [if_neg hno]
  show (if f = m then ((7 : Int), f, m, (0 : Int)) else (2, f + 1, m, 0)) = _
  rw [if_neg (by omega)]
/-- A path's end, and how many happenings it has; each changes the job. -/
inductive Path : Nat → Jb → Jb → Prop
  | here (n : Nat) (j : Jb) : Path n j j
  | step {n : Nat} {j k : Jb} (h : Int) (h1 : 1 ≤ h ∧ h ≤ 9) (he : err j h = 0) (hn : nxt j h ≠ j) (p : Path n (nxt j h) k) : Path (n + 1) j k
theorem Path.closed {M : Jb → Prop} (hM : closed M) : ∀ {n : Nat} {j k : Jb}, Path n j k → M j → M k
  | _, _, _, .here _ _, h => h
  | _, _, _, .step h h1 he _ p, hj => p.closed hM (hM _ hj h h1.1 h1.2 he)
theorem path_one {n : Nat} {s f m : Int} {k : Jb} (hok : okJ s f m) (h a : Int) (hh : 1 ≤ h ∧ h ≤ 9) (hc : (s = 0 ∧ h = 1 ∧ a = 1) ∨ (s = 2 ∧ h = 4 ∧ a = 1) ∨ (s = 3 ∧ h = 7 ∧ a = 1) ∨ (s = 3 ∧ h = 6 ∧ a = 5) ∨ (s = 1 ∧ ((h = 2 ∧ a = 6) ∨ (h = 5 ∧ a = 3) ∨ (h = 8 ∧ a = 4) ∨ (h = 9 ∧ a = 7)))) (p : Path n ⟨a, f, m⟩ k) : Path (n + 1) ⟨s, f, m⟩ k := by
  obtain ⟨e1, e2⟩ := go_one hok h a hh hc
  refine .step h hh e1 (fun e => ?_) (e2 ▸ p)
  rw [e2] at e
  injection e
  omega
theorem path_1 {f m t : Int} (n : Nat) (hok : okJ 1 f m) (ht : t = 1 ∨ (3 ≤ t ∧ t ≤ 7) ∨ (t = 2 ∧ f < m)) : ∃ k, Path (n + 2) ⟨1, f, m⟩ k ∧ k.s = t := by
  have ho3 : okJ 3 f m := by unfold okJ at hok ⊢; omega
  have hc : t = 1 ∨ t = 3 ∨ t = 4 ∨ t = 5 ∨ t = 6 ∨ t = 7 ∨ (t = 2 ∧ f < m) := by omega
  rcases hc with rfl | rfl | rfl | rfl | rfl | rfl | ⟨rfl, hf⟩
  · exact ⟨_, .here _ _, rfl⟩
  · exact ⟨_, path_one hok 5 3 (by omega) (by omega) (.here _ _), rfl⟩
  · exact ⟨_, path_one hok 8 4 (by omega) (by omega) (.here _ _), rfl⟩
  · exact ⟨_, path_one hok 5 3 (by omega) (by omega) (path_one ho3 6 5 (by omega) (by omega) (.here _ _)), rfl⟩
  · exact ⟨_, path_one hok 2 6 (by omega) (by omega) (.here _ _), rfl⟩
  · exact ⟨_, path_one hok 9 7 (by omega) (by omega) (.here _ _), rfl⟩
  · obtain ⟨e1, e2⟩ := go_fall hok hf
    refine ⟨⟨2, f + 1, m⟩, .step 3 (by omega) e1 (fun e => ?_) (e2 ▸ .here _ _), rfl⟩
    rw [e2] at e
    injection e
    omega
theorem path_all {j : Jb} {t : Int} (n : Nat) (ho : okB j) (h : rch j t) : ∃ k, Path (n + 3) j k ∧ k.s = t := by
  obtain ⟨s, f, m⟩ := j
  have hok : okJ s f m := ho
  unfold rch at h
  dsimp only at h
  have ho1 : okJ 1 f m := by unfold okJ at hok ⊢; omega
  rcases h with rfl | ⟨rfl, h⟩ | ⟨rfl | rfl, h⟩ | ⟨rfl, h⟩
  · exact ⟨_, .here _ _, rfl⟩
  · obtain ⟨k, p, e⟩ := path_1 n ho1 h
    exact ⟨k, path_one hok 1 1 (by omega) (by omega) p, e⟩
  · exact path_1 (n + 1) ho1 h
  · obtain ⟨k, p, e⟩ := path_1 n ho1 h
    exact ⟨k, path_one hok 7 1 (by omega) (by omega) p, e⟩
  · by_cases h2 : t = 2
    · subst h2; exact ⟨_, .here _ _, rfl⟩
    · obtain ⟨k, p, e⟩ := path_1 n ho1 (t := t) (by omega)
      exact ⟨k, path_one hok 4 1 (by omega) (by omega) p, e⟩
/-- The document's answer. -/
def refR : Nat → Jb → Int → Bool
  | 0, j, t => decide (j.s = t)
  | n + 1, j, t => decide (j.s = t) || (List.range 9).any fun i => decide (err j ((i : Int) + 1) = 0) && (decide (nxt j ((i : Int) + 1) ≠ j) && refR n (nxt j ((i : Int) + 1)) t)
theorem refR_path : ∀ {n : Nat} {j k : Jb}, Path n j k → refR n j k.s = true
  | 0, _, _, .here _ _ => by simp [refR]
  | n + 1, _, _, .here _ _ => by simp [refR]
  | n + 1, j, k, .step h h1 he hn p => by
    have ih := refR_path p
    rw [refR, Bool.or_eq_true, List.any_eq_true]
    refine .inr ⟨(h - 1).toNat, List.mem_range.2 (by omega), ?_⟩
    rw [show (((h - 1).toNat : Nat) : Int) + 1 = h by omega, decide_eq_true he, decide_eq_true hn, ih]
    rfl
theorem refR_rch : ∀ {n : Nat} {j : Jb} {t : Int}, okB j → refR n j t = true → rch j t
  | 0, j, t, _, h => .inl (of_decide_eq_true h).symm
  | n + 1, j, t, ho, h => by
    rw [refR, Bool.or_eq_true, List.any_eq_true] at h
    rcases h with h | ⟨i, hi, h⟩
    · exact .inl (of_decide_eq_true h).symm
    · rw [Bool.and_eq_true, Bool.and_eq_true] at h
      rw [List.mem_range] at hi
      obtain ⟨h1, _, h3⟩ := step_ok ho (by omega) (of_decide_eq_true h.1)
      exact h3 t (refR_rch h1 h.2.2)
theorem refR_eq {j : Jb} (t : Int) (ho : okB j) : refR 4 j t = decide (rch j t) := by
  by_cases h : rch j t
  · obtain ⟨k, p, e⟩ := path_all 1 ho h
    have := refR_path p
    rw [e] at this
    rw [this, decide_eq_true h]
  · rw [decide_eq_false h]
    cases hr : refR 4 j t with
    | false => rfl
    | true => exact absurd (refR_rch ho hr) h
end Go.Proofs.Ytbajgjbgkpcapaa
