/- Retain: plain laws for Marks and Last. -/
import Derived.Test.YtkmdmjnbjoakbaaReP
namespace Go.Proofs.Ytkmdmjnbjoakbaa
open Go Go.RowKit

def RK (a b : Kp) : Prop := a.number < b.number ∧ b.number ≤ 4611686018427387904 ∧ (a.opn = true → b.opn = true)
theorem okL_pw : ∀ (ks : List Kp) (l : Kp), okL l ks = true ↔ (l :: ks).Pairwise RK
  | [], l => by simp [okL]
  | k :: r, l => by
    rw [show okL l (k :: r) = (kok l k && okL k r) from rfl, Bool.and_eq_true, okL_pw r k, kok_true, List.pairwise_cons (a := l)]
    constructor
    · rintro ⟨h1, h2⟩
      refine ⟨fun q hq => ?_, h2⟩
      rcases List.mem_cons.1 hq with rfl | hq
      · exact h1
      · have h3 := (List.pairwise_cons.1 h2).1 q hq
        exact ⟨Int.lt_trans h1.1 h3.1, h3.2.1, fun h => h3.2.2 (h1.2.2 h)⟩
    · rintro ⟨h1, h2⟩
      exact ⟨h1 k (List.mem_cons_self ..), h2⟩
theorem okS_iff {keep : Int} {ks : List Kp} : okS keep ks = true ↔ 1 ≤ keep ∧ keep ≤ 4 ∧ ks.length ≤ 16 ∧ (k0 :: ks).Pairwise RK := by
  rw [← okL_pw]
  simp [okS, ok0, and_assoc]
theorem cut_sublist (keep : Int) : ∀ (ks : List Kp), ((cutL keep ks).1).Sublist ks
  | [] => List.Sublist.refl _
  | k :: r => by
    rw [cut_cons]
    split
    · exact (cut_sublist keep r).cons k
    · exact (cut_sublist keep r).cons_cons k
theorem okS_cut {keep : Int} {ks : List Kp} (h1 : 1 ≤ keep ∧ keep ≤ 4) (h2 : (cutL keep ks).1.length ≤ 16) (h3 : (k0 :: ks).Pairwise RK) : okS keep (cutL keep ks).1 = true :=
  okS_iff.2 ⟨h1.1, h1.2, h2, h3.sublist ((cut_sublist keep ks).cons_cons k0)⟩
/-- A row is another one, of the same number and as open. -/
theorem pw_set {ks : List Kp} {l : Kp} (h : (l :: ks).Pairwise RK) {n : Nat} {k r : Kp} (hg : ks[n]? = some k) (h1 : r.number = k.number) (h2 : r.opn = k.opn) : (l :: ks.set n r).Pairwise RK := by
  have key : ∀ xs : List Kp, xs.Pairwise RK ↔ (xs.map fun k => (k.number, k.opn)).Pairwise (fun a b => a.1 < b.1 ∧ b.1 ≤ 4611686018427387904 ∧ (a.2 = true → b.2 = true)) := fun xs => by
    rw [List.pairwise_map]; rfl
  rw [key] at h ⊢
  have e : (ks.set n r).map (fun k => (k.number, k.opn)) = ks.map fun k => (k.number, k.opn) := by
    rw [List.map_set]
    obtain ⟨hn, he⟩ := List.getElem?_eq_some_iff.1 hg
    refine List.ext_getElem? fun i => ?_
    rw [List.getElem?_set]
    split
    · rename_i hi
      subst hi
      simp [hn, he, h1, h2]
    · rfl
  rw [List.map_cons, e]
  exact h
/-- The first open row is open no more. -/
theorem pw_settle {ks : List Kp} (h : (k0 :: ks).Pairwise RK) {n : Nat} {k : Kp} (hg : ks[n]? = some k) (hp : n = 0 ∨ (lastK ks n).opn = false) : (k0 :: ks.set n { k with opn := false }).Pairwise RK := by
  obtain ⟨hn, he⟩ := List.getElem?_eq_some_iff.1 hg
  have hok : okL k0 ks = true := (okL_pw ks k0).2 h
  obtain ⟨h0, hp2⟩ := List.pairwise_cons.1 h
  have hno : ∀ i (hi : i < ks.length), i < n → ks[i].opn = false := fun i hi hin => by
    cases hb : ks[i].opn with
    | false => rfl
    | true =>
      rcases hp with rfl | hp
      · omega
      · obtain ⟨m, rfl⟩ : ∃ m, n = m + 1 := ⟨n - 1, by omega⟩
        rw [lastK_succ _ _ (by omega)] at hp
        have := opn_mono hok i m _ _ (List.getElem?_eq_getElem hi) (List.getElem?_eq_getElem (by omega)) (by omega) hb
        rw [hp] at this; cases this
  refine List.pairwise_cons.2 ⟨fun q hq => ?_, ?_⟩
  · rcases List.mem_or_eq_of_mem_set hq with hq | rfl
    · exact h0 q hq
    · have := h0 k (he ▸ List.getElem_mem hn)
      exact ⟨this.1, this.2.1, fun h => by cases h⟩
  · rw [List.pairwise_iff_getElem]
    intro i j hi hj hij
    rw [List.length_set] at hi hj
    have hb := List.pairwise_iff_getElem.1 hp2 i j hi hj hij
    rw [List.getElem_set, List.getElem_set]
    split
    · rename_i e; subst e
      rw [if_neg (by omega)]
      rw [he] at hb
      exact ⟨hb.1, hb.2.1, fun h => by cases h⟩
    · split
      · rename_i e; subst e
        rw [he] at hb
        exact ⟨hb.1, hb.2.1, fun h => by rw [hno i hi hij] at h; cases h⟩
      · exact hb
theorem cut_mem_save (keep : Int) : ∀ (ks : List Kp) (k : Kp), k ∈ ks → plainK k = false → k ∈ (cutL keep ks).1
  | q :: r, k, hk, hp => by
    rw [cut_cons]
    split
    · rename_i h
      rcases List.mem_cons.1 hk with rfl | hk
      · rw [hp] at h; exact absurd h.1 (by decide)
      · exact cut_mem_save keep r k hk hp
    · rcases List.mem_cons.1 hk with rfl | hk
      · exact List.mem_cons_self ..
      · exact List.mem_cons_of_mem _ (cut_mem_save keep r k hk hp)
theorem cut_whole {keep : Int} {ks : List Kp} (h : (cutL keep ks).1.length = ks.length) : (cutL keep ks).1 = ks := (cut_sublist keep ks).eq_of_length h
theorem turn_err {keep : Int} {ks : List Kp} {x : Int} {kind : Nat} (h : (turnV keep ks x kind).2.2 ≠ 0) : (turnV keep ks x kind).1.2 = [] := by
  unfold turnV at *
  split at h
  · rename_i hk
    rw [if_pos hk]
    split at h
    · rfl
    · split at h
      · rfl
      · exact absurd rfl h
  · rename_i hk
    rw [if_neg hk]
/-- Where it went well. -/
theorem turn_okd {keep : Int} {ks : List Kp} {x : Int} {kind : Nat} (h : (turnV keep ks x kind).2.2 = 0) : okS keep ks = true ∧ ∃ n k r, ks[n]? = some k ∧ k.number = x ∧ chg ks n k kind = .inl r ∧ turnV keep ks x kind = ((keep, (cutL keep (ks.set n r)).1), (cutL keep (ks.set n r)).2, 0) := by
  by_cases hk : okS keep ks = true
  · refine ⟨hk, ?_⟩
    cases hp : plc ks x with
    | none =>
      rw [show turnV keep ks x kind = ((0, []), [], 4) by unfold turnV; rw [if_pos hk, hp]] at h
      cases h
    | some n =>
      obtain ⟨k, hg, hx⟩ := plc_get hp
      have ht := turn_some (kind := kind) hk hp hg
      rw [ht] at h
      cases hc : chg ks n k kind with
      | inr e =>
        exfalso
        rw [hc] at h
        have he : e = 0 := h
        subst he
        unfold chg at hc
        split at hc <;> split at hc <;> first | cases hc | (injection hc with hc; cases hc)
      | inl r =>
        rw [hc] at ht
        exact ⟨n, k, r, hg, hx, hc, ht⟩
  · rw [turn_bad hk] at h; cases h
theorem marks_law {keep : Int} {ks : List Kp} {x : Int} (h : (turnV keep ks x 2).2.2 = 0) : (turnV keep ks x 2).1.1 = keep ∧ (turnV keep (turnV keep ks x 2).1.2 x 1).2.2 = 0 ∧
    (turnV keep (turnV keep ks x 2).1.2 x 1).1.2.length + (turnV keep (turnV keep ks x 2).1.2 x 1).2.1.length = (turnV keep ks x 2).1.2.length ∧ (turnV keep (turnV keep ks x 2).1.2 x 1).1.1 = keep ∧
    ((turnV keep ks x 2).1.2.length = ks.length → (turnV keep (turnV keep ks x 2).1.2 x 1).2.1.length = 0 → (turnV keep (turnV keep ks x 2).1.2 x 1).1.2 = ks) := by
  obtain ⟨hk, n, k, r, hg, hx, hc, ht⟩ := turn_okd h
  rw [ht]
  obtain ⟨k1, k2, k3, hpw⟩ := okS_iff.1 hk
  have hr : k.save = false ∧ r = { k with save := true } := by
    rw [chg2] at hc
    split at hc
    · cases hc
    · injection hc with hc
      rename_i h0
      exact ⟨by simpa using h0, hc.symm⟩
  obtain ⟨hs, hr⟩ := hr
  have hpw2 := pw_set hpw hg (r := r) (by rw [hr]) (by rw [hr])
  have hn := (List.getElem?_eq_some_iff.1 hg).1
  have hcl := cut_len keep (ks.set n r)
  rw [List.length_set] at hcl
  have hk2 := okS_cut ⟨k1, k2⟩ (by omega) hpw2
  have hmem : r ∈ (cutL keep (ks.set n r)).1 := cut_mem_save keep _ r (List.mem_iff_getElem.2 ⟨n, by rw [List.length_set]; exact hn, List.getElem_set_self ..⟩) (by rw [hr]; simp [plainK])
  have hwh : (cutL keep (ks.set n r)).1.length = ks.length → (cutL keep (ks.set n r)).1 = ks.set n r := fun e => cut_whole (by rw [List.length_set]; exact e)
  generalize (cutL keep (ks.set n r)).1 = zs at *
  obtain ⟨n2, hn2, he2⟩ := List.mem_iff_getElem.1 hmem
  have hg2 : zs[n2]? = some r := by rw [List.getElem?_eq_getElem hn2, he2]
  have hasc := asc_of (okL_asc zs k0 (okS_bd hk2).2.2.2)
  have hrx : r.number = x := by rw [hr]; exact hx
  have ht2 := turn_at (kind := 1) hk2 hasc hg2 hrx
  rw [chg1, if_pos (by rw [hr])] at ht2
  have hcl2 := cut_len keep (zs.set n2 { r with save := false })
  rw [List.length_set] at hcl2
  dsimp only at ht2 ⊢
  rw [ht2]
  refine ⟨rfl, rfl, hcl2, rfl, fun e1 e2 => ?_⟩
  have e2 : (cutL keep (zs.set n2 { r with save := false })).2.length = 0 := e2
  have hw := hwh e1
  have hnn : n2 = n := by
    have hgn : zs[n]? = some r := by rw [hw, List.getElem?_set_self (by omega)]
    exact asc_inj hasc hg2 hgn rfl
  show (cutL keep (zs.set n2 { r with save := false })).1 = ks
  rw [cut_whole (by rw [List.length_set]; omega), hnn, hw, List.set_set, hr]
  have hk' : ({ ({ k with save := true } : Kp) with save := false } : Kp) = k := by cases k; simp at hs; simp [hs]
  rw [hk']
  obtain ⟨_, he⟩ := List.getElem?_eq_some_iff.1 hg
  rw [← he, List.set_getElem_self]
end Go.Proofs.Ytkmdmjnbjoakbaa
