/- Retain: plain laws of Safe: whatever is done. -/
import Derived.Test.YtkmdmjnbjoakbaaReU
namespace Go.Proofs.Ytkmdmjnbjoakbaa
open Go Go.RowKit

theorem mid_okS {xs : List Kp} {last settled : Int} {ds ks : List Int} {sv op : Int → Bool} (h : Mid xs last settled ds ks sv op) {keep : Int} (h1 : 1 ≤ keep ∧ keep ≤ 4) (h2 : (cutL keep xs).1.length ≤ 16) : okS keep (cutL keep xs).1 = true := okS_cut h1 h2 h.pw
theorem safe_put {keep N : Int} {save : Bool} {xs : List Kp} {last settled : Int} {ds ks : List Int} {sv op : Int → Bool} (h : Mid xs last settled ds ks sv op) (he : (putV keep xs N save).2.2 = 0) :
    last < N ∧ N ∉ ks ∧ ∃ xs1, putV keep xs N save = ((keep, (cutL keep xs1).1), (cutL keep xs1).2, 0) ∧ xs1.length ≤ 17 ∧ okS keep (cutL keep xs1).1 = true ∧ Mid xs1 N settled ds (ks ++ [N]) (updB sv N save) (updB op N true) := by
  unfold putV at he ⊢
  split at he
  · rename_i hok
    rw [if_pos hok]
    split at he
    · rename_i hN
      rw [if_pos hN]
      rw [h.la] at hN
      unfold put1 at he ⊢
      split at he
      · rename_i h16
        rw [if_pos h16]
        obtain ⟨hm, hk⟩ := mid_put h save hN.1 hN.2
        have hb := okS_bd hok
        exact ⟨hN.1, hk, _, rfl, by have := hb.2.2.1; rw [List.length_append, List.length_singleton]; omega, mid_okS hm ⟨hb.1, hb.2.1⟩ h16, hm⟩
      · cases he
    · cases he
  · cases he
theorem turn_len {keep : Int} {xs : List Kp} {n : Nat} {r : Kp} (h : xs.length ≤ 16) : (cutL keep (xs.set n r)).1.length ≤ 16 := by
  have := (cut_sublist keep (xs.set n r)).length_le
  rw [List.length_set] at this
  omega
theorem safe_settle {keep N : Int} {xs : List Kp} {last settled : Int} {ds ks : List Int} {sv op : Int → Bool} (h : Mid xs last settled ds ks sv op) (he : (turnV keep xs N 0).2.2 = 0) :
    settled < N ∧ op N = true ∧ N ∈ ks ∧ ∃ xs1, turnV keep xs N 0 = ((keep, (cutL keep xs1).1), (cutL keep xs1).2, 0) ∧ xs1.length ≤ 17 ∧ okS keep (cutL keep xs1).1 = true ∧ Mid xs1 last N ds ks sv (updB op N false) := by
  obtain ⟨hok, n, k, r, hg, hn, hc, ht⟩ := turn_okd he
  have hb := okS_bd hok
  rw [chg0] at hc
  split at hc
  · rename_i hk
    have : { k with opn := false } = r := by injection hc
    subst this
    obtain ⟨hm, h1, h2, h3⟩ := mid_settle h hg hk
    subst hn
    exact ⟨h1, h2, h3, _, ht, by have := hb.2.2.1; rw [List.length_set]; omega, mid_okS hm ⟨hb.1, hb.2.1⟩ (turn_len hb.2.2.1), hm⟩
  · cases hc
theorem safe_release {keep N : Int} {xs : List Kp} {last settled : Int} {ds ks : List Int} {sv op : Int → Bool} (h : Mid xs last settled ds ks sv op) (he : (turnV keep xs N 1).2.2 = 0) :
    sv N = true ∧ N ∈ ks ∧ ∃ xs1, turnV keep xs N 1 = ((keep, (cutL keep xs1).1), (cutL keep xs1).2, 0) ∧ xs1.length ≤ 17 ∧ okS keep (cutL keep xs1).1 = true ∧ Mid xs1 last settled ds ks (updB sv N false) op := by
  obtain ⟨hok, n, k, r, hg, hn, hc, ht⟩ := turn_okd he
  have hb := okS_bd hok
  rw [chg1] at hc
  split at hc
  · rename_i hk
    have : { k with save := false } = r := by injection hc
    subst this
    obtain ⟨hm, h1, h2⟩ := mid_save h false hg
    subst hn
    exact ⟨h1.trans hk, h2, _, ht, by have := hb.2.2.1; rw [List.length_set]; omega, mid_okS hm ⟨hb.1, hb.2.1⟩ (turn_len hb.2.2.1), hm⟩
  · cases hc
theorem cut_none {keep : Int} : ∀ {ks : List Kp}, (cntP ks : Int) ≤ keep → cutL keep ks = (ks, [])
  | [], _ => rfl
  | k :: r, h => by
    rw [cnt_cons] at h
    have ih := cut_none (keep := keep) (ks := r) (by split at h <;> omega)
    rw [cut_cons, ih, if_neg]
    rintro ⟨h1, h2⟩
    rw [if_pos h1] at h
    omega
theorem cnt_snoc {ks : List Kp} {n : Nat} {q : Kp} (h : ks[n]? = some q) : cntP (ks.take (n + 1)) = cntP (ks.take n) + (if plainK q = true then 1 else 0) := by
  obtain ⟨h1, h2⟩ := List.getElem?_eq_some_iff.1 h
  unfold cntP
  rw [List.take_succ_eq_append_getElem h1, h2, List.filter_append, List.length_append, List.filter_cons, List.filter_nil]
  split <;> rfl
theorem cnt_set {ks : List Kp} {n : Nat} {r : Kp} (hr : plainK r = false) : cntP (ks.set n r) ≤ cntP ks := by
  induction ks generalizing n with
  | nil => exact Nat.le_refl _
  | cons k l ih =>
    cases n with
    | zero =>
      rw [List.set_cons_zero, cnt_cons, cnt_cons, if_neg (by rw [hr]; decide)]
      omega
    | succ n =>
      rw [List.set_cons_succ, cnt_cons, cnt_cons]
      have := ih (n := n)
      omega
theorem safe_mark {keep N : Int} {xs : List Kp} {last settled : Int} {ds ks : List Int} {sv op : Int → Bool} (h : Mid xs last settled ds ks sv op) (hcn : (cntP xs : Int) ≤ keep) (he : (turnV keep xs N 2).2.2 = 0) :
    sv N = false ∧ N ∈ ks ∧ ∃ xs1, turnV keep xs N 2 = ((keep, (cutL keep xs1).1), (cutL keep xs1).2, 0) ∧ (cutL keep xs1).2 = [] ∧ xs1.length ≤ 17 ∧ okS keep (cutL keep xs1).1 = true ∧ Mid xs1 last settled ds ks (updB sv N true) op := by
  obtain ⟨hok, n, k, r, hg, hn, hc, ht⟩ := turn_okd he
  have hb := okS_bd hok
  rw [chg2] at hc
  split at hc
  · cases hc
  · rename_i hk
    have : { k with save := true } = r := by injection hc
    subst this
    obtain ⟨hm, h1, h2⟩ := mid_save h true hg
    subst hn
    have hc2 := cut_none (keep := keep) (ks := xs.set n ({ k with save := true } : Kp)) (by have := cnt_set (ks := xs) (n := n) (r := ({ k with save := true } : Kp)) (by simp [plainK]); omega)
    exact ⟨h1.trans (by simpa using hk), h2, _, ht, by rw [hc2], by have := hb.2.2.1; rw [List.length_set]; omega, mid_okS hm ⟨hb.1, hb.2.1⟩ (turn_len hb.2.2.1), hm⟩
end Go.Proofs.Ytkmdmjnbjoakbaa
