/- Slots: tasks laid one by one: plain laws. -/
import Derived.Test.YtjhjmeajdebcbaaSK
namespace Go.Proofs.Ytjhjmeajdebcbaa
open Go Go.RowKit

/-- The widest, the least of them. -/
def widL : List (Int × Int) → Int × Int
  | [] => (0, 0)
  | z :: r => if (widL r).2 < z.2 ∨ ((widL r).2 = z.2 ∧ 0 < z.2 ∧ z.1 < (widL r).1) then z else widL r
theorem widL_P : ∀ l, WidP l (widL l)
  | [] => .inl ⟨rfl, fun z hz => (by cases hz)⟩
  | z :: r => by
    have ih := widL_P r
    rw [widL]
    generalize widL r = s at *
    split
    · rename_i h
      right
      rcases ih with ⟨rfl, h1⟩ | ⟨h1, h2, h3⟩
      · dsimp only at h
        refine ⟨List.mem_cons_self .., by omega, fun y hy => ?_⟩
        rcases List.mem_cons.1 hy with rfl | hy
        · omega
        · have := h1 y hy; omega
      · refine ⟨List.mem_cons_self .., by omega, fun y hy => ?_⟩
        rcases List.mem_cons.1 hy with rfl | hy
        · omega
        · have := h3 y hy; omega
    · rename_i h
      rcases ih with ⟨rfl, h1⟩ | ⟨h1, h2, h3⟩
      · left
        dsimp only at h
        refine ⟨rfl, fun y hy => ?_⟩
        rcases List.mem_cons.1 hy with rfl | hy
        · omega
        · exact h1 y hy
      · right
        refine ⟨List.mem_cons_of_mem _ h1, h2, fun y hy => ?_⟩
        rcases List.mem_cons.1 hy with rfl | hy
        · omega
        · exact h3 y hy
theorem cntW_ins (ps : List (Int × Int)) (i : Nat) (q : Int × Int) (id : Int) : cntW (insL ps i q) id = cntW (ps ++ [q]) id := by
  unfold cntW insL
  have h : ps.countP (fun q => q.2 == id) = (ps.take i).countP (fun q => q.2 == id) + (ps.drop i).countP (fun q => q.2 == id) := by
    rw [← List.countP_append, List.take_append_drop]
  rw [List.countP_append, List.countP_append, List.countP_cons, List.countP_singleton, h]
  omega
theorem frL_ins (ws ps : List (Int × Int)) (i : Nat) (q : Int × Int) : frL ws (insL ps i q) = frL ws (ps ++ [q]) := by
  unfold frL
  exact List.map_congr_left fun p _ => by rw [cntW_ins]
theorem sumL_set : ∀ {l : List (Int × Int)} {j : Nat} {x c d : Int}, l[j]? = some (x, c) → sumL (l.set j (x, d)) = sumL l - c + d
  | [], j, x, c, d, h => by simp at h
  | y :: r, 0, x, c, d, h => by
    have : y = (x, c) := by simpa using h
    subst this
    unfold sumL
    simp
    omega
  | y :: r, j + 1, x, c, d, h => by
    have ih := sumL_set (l := r) (j := j) (d := d) (by simpa using h)
    unfold sumL at ih ⊢
    simp at ih ⊢
    omega
theorem insS_mem {ps : List (Int × Int)} {q : Int × Int} (h : ∀ p ∈ ps, p.1 ≠ q.1) {z : Int × Int} : z ∈ insS ps q ↔ z = q ∨ z ∈ ps := by
  unfold insS
  rw [List.mem_append, List.mem_cons, List.mem_filter, List.mem_filter, decide_eq_true_eq, decide_eq_true_eq]
  constructor
  · rintro (h1 | h1 | h1)
    · exact .inr h1.1
    · exact .inl h1
    · exact .inr h1.1
  · rintro (h1 | h1)
    · exact .inr (.inl h1)
    · have := h z h1
      rcases Int.lt_or_gt_of_ne this with h2 | h2
      · exact .inl ⟨h1, h2⟩
      · exact .inr (.inr ⟨h1, h2⟩)
theorem insS_asc {ps : List (Int × Int)} {q : Int × Int} (h : asc ps) : asc (insS ps q) := by
  unfold insS asc
  refine List.pairwise_append.2 ⟨List.Pairwise.filter _ h, List.pairwise_cons.2 ⟨fun z hz => ?_, List.Pairwise.filter _ h⟩, fun a ha b hb => ?_⟩
  · exact of_decide_eq_true (List.mem_filter.1 hz).2
  · have h1 : a.1 < q.1 := of_decide_eq_true (List.mem_filter.1 ha).2
    rcases List.mem_cons.1 hb with rfl | hb
    · exact h1
    · have h2 : q.1 < b.1 := of_decide_eq_true (List.mem_filter.1 hb).2
      omega
/-- The place in which one would stand. -/
theorem ins_at {ps : List (Int × Int)} (q : Int × Int) (ha : asc ps) (hn : ∀ p ∈ ps, p.1 ≠ q.1) : ∃ i, i ≤ ps.length ∧ insL ps i q = insS ps q := by
  refine ⟨(ps.filter fun p => decide (p.1 < q.1)).length, List.length_filter_le _ _, ?_⟩
  have key : ∀ (l : List (Int × Int)), asc l → (∀ p ∈ l, p.1 ≠ q.1) → l = l.filter (fun p => decide (p.1 < q.1)) ++ l.filter (fun p => decide (q.1 < p.1)) := by
    intro l
    induction l with
    | nil => intro _ _; rfl
    | cons p r ih =>
      intro ha hn
      have h1 := (List.pairwise_cons.1 ha)
      have ih := ih h1.2 fun z hz => hn z (List.mem_cons_of_mem _ hz)
      have hp := hn p (List.mem_cons_self ..)
      by_cases h2 : p.1 < q.1
      · rw [List.filter_cons, if_pos (decide_eq_true h2), List.filter_cons, if_neg (by simp; omega), List.cons_append, ← ih]
      · have h3 : q.1 < p.1 := by omega
        have h4 : ∀ z ∈ r, q.1 < z.1 := fun z hz => by have := h1.1 z hz; omega
        rw [List.filter_cons, if_neg (by simpa using h2), List.filter_cons, if_pos (decide_eq_true h3), List.filter_eq_nil_iff.2 (fun z hz => by have := h4 z hz; simp; omega), List.filter_eq_self.2 (fun z hz => decide_eq_true (h4 z hz))]
        rfl
  unfold insL insS
  have hk := key ps ha hn
  have h1 : ps.take (ps.filter fun p => decide (p.1 < q.1)).length = ps.filter fun p => decide (p.1 < q.1) := by
    conv => lhs; rhs; rw [hk]
    rw [List.take_left]
  have h2 : ps.drop (ps.filter fun p => decide (p.1 < q.1)).length = ps.filter fun p => decide (q.1 < p.1) := by
    conv => lhs; rhs; rw [hk]
    rw [List.drop_left]
  rw [h1, h2]
theorem sumL_neg : ∀ {l : List (Int × Int)}, (∀ z ∈ l, z.2 ≤ 0) → sumL l ≤ 0
  | [], _ => by unfold sumL; simp
  | y :: r, h => by
    have a := h y (List.mem_cons_self ..)
    have b := sumL_neg (l := r) fun z hz => h z (List.mem_cons_of_mem _ hz)
    unfold sumL at b ⊢
    simp
    omega
theorem lay_step {ws ps : List (Int × Int)} {t : Int} (hok : FlOk ws ps) (ht : okT t) (hn : ¬ hasW ps t) (hs : 0 < sumL (frL ws ps)) : widL (frL ws ps) ∈ frL ws ps ∧ 0 < (widL (frL ws ps)).2 ∧ FlOk ws (insS ps (t, (widL (frL ws ps)).1)) ∧ sumL (frL ws (insS ps (t, (widL (frL ws ps)).1))) = sumL (frL ws ps) - 1 := by
  obtain ⟨hm, hpos⟩ : widL (frL ws ps) ∈ frL ws ps ∧ 0 < (widL (frL ws ps)).2 := by
    rcases widL_P (frL ws ps) with ⟨_, h1⟩ | ⟨h1, h2, _⟩
    · exfalso
      have := sumL_neg h1
      omega
    · exact ⟨h1, h2⟩
  refine ⟨hm, hpos, ?_⟩
  generalize widL (frL ws ps) = b at *
  obtain ⟨j, hj⟩ := List.mem_iff_getElem?.1 hm
  obtain ⟨p, hp, hpe, hpc⟩ := frL_get (x := b.1) (c := b.2) hj
  obtain ⟨⟨h1, h2⟩, ⟨h3, h4⟩, h5⟩ := hok
  have hne : ∀ q ∈ ps, q.1 ≠ (t, b.1).1 := fun q hq he => hn ⟨q, hq, he⟩
  obtain ⟨i, _, hi⟩ := ins_at (t, b.1) h4 hne
  have hf : frL ws (insS ps (t, b.1)) = (frL ws ps).set j (b.1, b.2 - 1) := by
    rw [← hi, frL_ins]
    exact (frL_set (q := (t, b.1)) h2 hj).symm
  refine ⟨⟨⟨h1, h2⟩, ⟨fun q hq => ?_, insS_asc h4⟩, fun r hr => ?_⟩, ?_⟩
  · rcases (insS_mem hne).1 hq with rfl | hq
    · exact ⟨ht, p, List.mem_of_getElem? hp, hpe⟩
    · exact h3 q hq
  · rw [← hi, cntW_ins, cntW_snoc]
    have := h5 r hr
    dsimp only
    by_cases he : b.1 = r.1
    · rw [if_pos he]
      obtain ⟨k, hk⟩ := List.mem_iff_getElem?.1 hr
      have hrp : r = p := by
        rcases Nat.lt_trichotomy k j with h | h | h
        · have := asc_lt h2 hk hp h; omega
        · subst h; rw [hk] at hp; exact Option.some.inj hp
        · have := asc_lt h2 hp hk h; omega
      subst hrp
      rw [he] at hpc
      omega
    · rw [if_neg he]; omega
  · rw [hf, sumL_set hj]; omega
/-- The widest of those that have come. -/
def WidV (l : List (Int × Int)) (left : List Nat) (r : Int × Int) : Prop := (r = (0, 0) ∧ ∀ (i : Nat) (c : Int × Int), l[i]? = some c → i ∉ left → c.2 ≤ 0) ∨ ((∃ i : Nat, l[i]? = some r) ∧ 0 < r.2 ∧ ∀ (i : Nat) (c : Int × Int), l[i]? = some c → i ∉ left → c.2 ≤ r.2 ∧ (c.2 = r.2 → r.1 ≤ c.1))
theorem widV_zero {l : List (Int × Int)} : WidV l (List.range l.length) (0, 0) := .inl ⟨rfl, fun i c hc hi => by
  have := (List.getElem?_eq_some_iff.1 hc).1
  rw [List.mem_range] at hi; omega⟩
theorem widV_all {l : List (Int × Int)} {r : Int × Int} (h : WidV l [] r) : r = widL l := by
  refine WidP.one (l := l) ?_ (widL_P l)
  rcases h with ⟨h1, h2⟩ | ⟨⟨i, h1⟩, h2, h3⟩
  · refine .inl ⟨h1, fun z hz => ?_⟩
    obtain ⟨i, hi⟩ := List.mem_iff_getElem?.1 hz
    exact h2 i z hi (by simp)
  · refine .inr ⟨List.mem_of_getElem? h1, h2, fun z hz => ?_⟩
    obtain ⟨i, hi⟩ := List.mem_iff_getElem?.1 hz
    exact h3 i z hi (by simp)
theorem widV_step {l : List (Int × Int)} {left : List Nat} {r c : Int × Int} {i : Nat} (h : WidV l left r) (hc : l[i]? = some c) : WidV l (left.filter fun j => !(Nat.beq j i)) (if r.2 < c.2 ∨ (c.2 = r.2 ∧ 0 < c.2 ∧ c.1 < r.1) then c else r) := by
  have key : ∀ (k : Nat) (d : Int × Int), l[k]? = some d → k ∉ left.filter (fun j => !(Nat.beq j i)) → d = c ∨ k ∉ left := fun k d hd hk => by
    rcases left_not hk with h1 | h1
    · rw [h1, hc] at hd; exact .inl (Option.some.inj hd).symm
    · exact .inr h1
  split
  · rename_i hn
    rcases h with ⟨rfl, h2⟩ | ⟨h1, h2, h3⟩
    · dsimp only at hn
      refine .inr ⟨⟨i, hc⟩, by omega, fun k d hd hk => ?_⟩
      rcases key k d hd hk with rfl | h1
      · omega
      · have := h2 k d hd h1; omega
    · refine .inr ⟨⟨i, hc⟩, by omega, fun k d hd hk => ?_⟩
      rcases key k d hd hk with rfl | h4
      · omega
      · have := h3 k d hd h4; omega
  · rename_i hn
    rcases h with ⟨rfl, h2⟩ | ⟨h1, h2, h3⟩
    · dsimp only at hn
      refine .inl ⟨rfl, fun k d hd hk => ?_⟩
      rcases key k d hd hk with rfl | h1
      · omega
      · exact h2 k d hd h1
    · refine .inr ⟨h1, h2, fun k d hd hk => ?_⟩
      rcases key k d hd hk with rfl | h4
      · omega
      · exact h3 k d hd h4
end Go.Proofs.Ytjhjmeajdebcbaa
