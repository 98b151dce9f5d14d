/- Heart: what comes of a heart that may be, may be; who is alive; plain Lean, no program. -/
import Derived.Test.YtiapcohnjklcfaaHeO
namespace Go.Proofs.Ytiapcohnjklcfaa
open Go Go.RowKit

def okL (now span : Int) : Int → List Pulse → Bool
  | _, [] => true
  | last, p :: r => pok now span last p && okL now span p.worker r
theorem okL_fold (now span : Int) : ∀ (ps : List Pulse) (b : Bool) (last : Int), (ps.foldl (okStep now span) (b, last)).1 = (b && okL now span last ps)
  | [], b, last => by simp [okL]
  | p :: r, b, last => by
    rw [List.foldl_cons, okStep, okL_fold now span r]
    simp [okL, Bool.and_assoc]
theorem okH_okL (now span : Int) (ps : List Pulse) : okH now span ps = (ok0 now span && okL now span 0 ps) := by rw [okH, okL_fold]
theorem pok_iff {now span last : Int} {p : Pulse} : pok now span last p = true ↔ last < p.worker ∧ p.worker ≤ 4 ∧ 0 ≤ p.heard ∧ p.heard ≤ now ∧ (p.down = true ∨ now - p.heard < span) := pok_true _ _ _ _
theorem okL_cons {now span last : Int} {p : Pulse} {r : List Pulse} : okL now span last (p :: r) = true ↔ (last < p.worker ∧ p.worker ≤ 4 ∧ 0 ≤ p.heard ∧ p.heard ≤ now ∧ (p.down = true ∨ now - p.heard < span)) ∧ okL now span p.worker r = true := by
  rw [okL, Bool.and_eq_true, pok_iff]
theorem okL_lower {now span : Int} {l l' : Int} : ∀ {ps : List Pulse}, okL now span l ps = true → l' ≤ l → okL now span l' ps = true
  | [], _, _ => rfl
  | p :: r, h, hl => by
    rw [okL_cons] at h ⊢
    exact ⟨⟨by omega, h.1.2⟩, h.2⟩
theorem okL_put {now span k : Int} (h0 : 0 ≤ now) (hs : 1 ≤ span) (hk : k ≤ 4) : ∀ {ps : List Pulse} {last : Int}, okL now span last ps = true → last < k → okL now span last (putL ⟨k, now, false⟩ ps) = true
  | [], last, _, hl => by
    rw [putL, okL_cons]
    exact ⟨⟨hl, hk, h0, Int.le_refl _, .inr (by simp only; omega)⟩, rfl⟩
  | p :: r, last, h, hl => by
    rw [okL_cons] at h
    unfold putL
    split
    · rename_i h1
      rw [okL_cons]
      exact ⟨h.1, okL_put h0 hs hk h.2 h1⟩
    · split
      · rename_i h1 h2
        rw [okL_cons]
        refine ⟨⟨hl, hk, h0, Int.le_refl _, .inr (by simp only; omega)⟩, ?_⟩
        have := h.2
        rw [h2] at this
        exact this
      · rename_i h1 h2
        rw [okL_cons, okL_cons]
        exact ⟨⟨hl, hk, h0, Int.le_refl _, .inr (by simp only; omega)⟩, ⟨by simp only at *; omega, h.1.2⟩, h.2⟩
theorem okL_pass {now span t : Int} (ht : now ≤ t) : ∀ {ps : List Pulse} {last : Int}, okL now span last ps = true → okL t span last (passL t span ps) = true
  | [], _, _ => rfl
  | p :: r, last, h => by
    rw [okL_cons] at h
    rw [passL, List.map_cons, okL_cons]
    have ih := okL_pass ht h.2
    unfold downAt
    by_cases hg : goes t span p = true
    · rw [if_pos hg]
      exact ⟨⟨h.1.1, h.1.2.1, h.1.2.2.1, by simp only; omega, .inl rfl⟩, ih⟩
    · rw [if_neg hg]
      refine ⟨⟨h.1.1, h.1.2.1, h.1.2.2.1, by omega, ?_⟩, ih⟩
      simp [goes] at hg
      cases hd : p.down with
      | true => exact .inl rfl
      | false => exact .inr (by have := hg hd; omega)
theorem okL_drop {now span k : Int} : ∀ {ps : List Pulse} {last : Int}, okL now span last ps = true → okL now span last (dropL k ps) = true
  | [], _, _ => rfl
  | p :: r, last, h => by
    rw [okL_cons] at h
    have ih := okL_drop (k := k) h.2
    unfold dropL at ih ⊢
    rw [List.filter_cons]
    split
    · rw [okL_cons]; exact ⟨h.1, ih⟩
    · exact okL_lower ih (by omega)
theorem ok0_iff {now span : Int} : ok0 now span = true ↔ 0 ≤ now ∧ now ≤ 1099511627776 ∧ 1 ≤ span ∧ span ≤ 100 := by simp [ok0, and_assoc]
theorem okH_iff {now span : Int} {ps : List Pulse} : okH now span ps = true ↔ (0 ≤ now ∧ now ≤ 1099511627776 ∧ 1 ≤ span ∧ span ≤ 100) ∧ okL now span 0 ps = true := by
  rw [okH_okL, Bool.and_eq_true, ok0_iff]
/-- What comes of a heart that may be, may be; its tick goes on; its span stays. -/
theorem runV_ok {now span : Int} {ps : List Pulse} {o : OpI} (hok : okH now span ps = true) (he : (runV now span ps o).e = 0) :
    okH (runV now span ps o).h.now (runV now span ps o).h.span (runV now span ps o).h.ps = true ∧ now ≤ (runV now span ps o).h.now ∧ (runV now span ps o).h.span = span := by
  have h := okH_iff.1 hok
  obtain ⟨⟨h1, h2, h3, h4⟩, h5⟩ := h
  unfold runV at he ⊢
  split at he
  · rename_i hu
    rw [if_pos hu]
    rw [hearV, if_pos hok] at he ⊢
    split at he
    · rename_i hk
      rw [if_pos hk]
      exact ⟨okH_iff.2 ⟨⟨h1, h2, h3, h4⟩, okL_put h1 h3 hk.2 h5 (by omega)⟩, Int.le_refl _, rfl⟩
    · exact absurd he (by decide)
  · rename_i hu
    rw [if_neg hu]
    split at he
    · rename_i hu2
      rw [if_pos hu2]
      rw [passV, if_pos hok] at he ⊢
      split at he
      · rename_i hk
        rw [if_pos hk]
        exact ⟨okH_iff.2 ⟨⟨by simp only; omega, hk.2, h3, h4⟩, okL_pass hk.1 h5⟩, hk.1, rfl⟩
      · exact absurd he (by decide)
    · rename_i hu2
      rw [if_neg hu2]
      rw [dropV, if_pos hok] at he ⊢
      split at he
      · rename_i hk
        rw [if_pos hk]
        exact ⟨okH_iff.2 ⟨⟨h1, h2, h3, h4⟩, okL_drop h5⟩, Int.le_refl _, rfl⟩
      · exact absurd he (by decide)
/-- Who is alive. -/
theorem alive_mem {now span : Int} {ps : List Pulse} (hok : okH now span ps = true) {w : Int} : w ∈ aliveL now span ps ↔ ∃ p ∈ ps, p.down = false ∧ p.worker = w := by
  rw [aliveL, if_pos hok]
  simp [and_assoc]
theorem okL_sorted {now span : Int} : ∀ {ps : List Pulse} {last : Int}, okL now span last ps = true → Sorted ps ∧ ∀ p ∈ ps, last < p.worker
  | [], _, _ => ⟨List.Pairwise.nil, fun p hp => by cases hp⟩
  | p :: r, last, h => by
    rw [okL_cons] at h
    obtain ⟨h1, h2⟩ := okL_sorted h.2
    refine ⟨List.pairwise_cons.2 ⟨h2, h1⟩, fun q hq => ?_⟩
    rcases List.mem_cons.1 hq with rfl | hq
    · exact h.1.1
    · have := h2 q hq; omega
theorem sorted_one {ps : List Pulse} (h : Sorted ps) {p q : Pulse} (hp : p ∈ ps) (hq : q ∈ ps) (he : p.worker = q.worker) : p = q := by
  induction ps with
  | nil => cases hp
  | cons x r ih =>
    obtain ⟨h1, h2⟩ := List.pairwise_cons.1 h
    rcases List.mem_cons.1 hp with e1 | hp' <;> rcases List.mem_cons.1 hq with e2 | hq'
    · rw [e1, e2]
    · have := h1 q hq'; rw [← e1] at this; omega
    · have := h1 p hp'; rw [← e2] at this; omega
    · exact ih h2 hp' hq'
theorem alive_sorted {now span : Int} {ps : List Pulse} : (aliveL now span ps).Pairwise (· ≤ ·) := by
  unfold aliveL
  split
  · rename_i hok
    have hs := (okL_sorted (okH_iff.1 hok).2).1
    rw [List.pairwise_map]
    exact (List.Pairwise.sublist List.filter_sublist hs).imp fun h => Int.le_of_lt h
  · exact List.Pairwise.nil
theorem put_mem {y : Pulse} : ∀ {ps : List Pulse} {p : Pulse}, p ∈ ps → p.worker ≠ y.worker → p ∈ putL y ps
  | [], p, hp, _ => by cases hp
  | x :: r, p, hp, hne => by
    unfold putL
    rcases List.mem_cons.1 hp with rfl | hp
    · split
      · simp
      · first | (split; · contradiction; · simp) | simp
    · split
      · exact List.mem_cons_of_mem _ (put_mem hp hne)
      · split <;> simp [hp]
theorem put_self {y : Pulse} : ∀ {ps : List Pulse}, y ∈ putL y ps
  | [] => by simp [putL]
  | x :: r => by
    unfold putL
    split
    · exact List.mem_cons_of_mem _ put_self
    · split <;> simp
/-- Who comes was not alive. -/
theorem goes_came {now span : Int} {ps : List Pulse} {o : OpI} (hok : okH now span ps = true) (hc : (runV now span ps o).came = true) : o.worker ∉ aliveL now span ps := by
  unfold runV at hc
  split at hc
  · rw [hearV, if_pos hok] at hc
    split at hc
    · intro hm
      obtain ⟨p, hp, hd, hw⟩ := (alive_mem hok).1 hm
      have hs := (okL_sorted (okH_iff.1 hok).2).1
      have hc : cameL o.worker ps = true := hc
      unfold cameL at hc
      cases hf : ps.find? (fun p => p.worker == o.worker) with
      | none =>
        rw [List.find?_eq_none] at hf
        exact hf p hp (by simpa using hw)
      | some q =>
        rw [hf] at hc
        have hq := List.mem_of_find?_eq_some hf
        have hqw := List.find?_some hf
        have : q = p := sorted_one hs hq hp (by rw [hw]; simpa using hqw)
        subst this
        simp only at hc
        rw [hc] at hd
        cases hd
    · cases hc
  · split at hc <;> cases hc
theorem goes_gone {now span : Int} {ps : List Pulse} {o : OpI} (hok : okH now span ps = true) (he : (runV now span ps o).e = 0) {w : Int} (hw : w ∈ (runV now span ps o).gone) :
    w ∈ aliveL now span ps ∧ w ∉ aliveL (runV now span ps o).h.now (runV now span ps o).h.span (runV now span ps o).h.ps := by
  have hok2 := (runV_ok hok he).1
  have hs := (okL_sorted (okH_iff.1 hok).2).1
  have hs2 := (okL_sorted (okH_iff.1 hok2).2).1
  rw [alive_mem hok, alive_mem hok2]
  unfold runV at he hw ⊢
  split at he
  · rename_i hu
    rw [if_pos hu] at hw
    cases hw
  · rename_i hu
    rw [if_neg hu] at hw ⊢
    split at he
    · rename_i hu2
      rw [if_pos hu2] at hw ⊢
      rw [passV, if_pos hok] at he hw ⊢
      split at he
      · rename_i hk
        rw [if_pos hk] at hw ⊢
        have hw : w ∈ goneL (nowO o now) span ps := hw
        obtain ⟨p, hp, rfl⟩ := List.mem_map.1 hw
        obtain ⟨hp, hg⟩ := List.mem_filter.1 hp
        have hg2 := hg
        simp [goes] at hg
        refine ⟨⟨p, hp, hg.1, rfl⟩, ?_⟩
        rintro ⟨q, hq, hqd, hqw⟩
        have hq : q ∈ passL (nowO o now) span ps := hq
        obtain ⟨q', hq', rfl⟩ := List.mem_map.1 hq
        have hw' : (downAt (nowO o now) span q').worker = q'.worker := by unfold downAt; split <;> rfl
        rw [hw'] at hqw
        obtain rfl := sorted_one hs hq' hp hqw
        rw [downAt, if_pos hg2] at hqd
        cases hqd
      · exact absurd he (by decide)
    · rename_i hu2
      rw [if_neg hu2] at hw
      cases hw
theorem goes_was {now span : Int} {ps : List Pulse} {o : OpI} (hok : okH now span ps = true) (he : (runV now span ps o).e = 0) {w : Int} (hw : w ∈ aliveL now span ps) :
    w ∈ aliveL (runV now span ps o).h.now (runV now span ps o).h.span (runV now span ps o).h.ps ∨ w ∈ (runV now span ps o).gone ∨ (uk o = 4 ∧ w = o.worker) := by
  have hok2 := (runV_ok hok he).1
  have hu := uk_in o
  rw [alive_mem hok] at hw
  rw [alive_mem hok2]
  obtain ⟨p, hp, hd, rfl⟩ := hw
  unfold runV at he ⊢
  split at he
  · rename_i hu
    rw [if_pos hu]
    rw [hearV, if_pos hok] at he ⊢
    split at he
    · rename_i hk
      rw [if_pos hk]
      refine .inl ?_
      by_cases hpw : p.worker = o.worker
      · exact ⟨⟨o.worker, now, false⟩, put_self, rfl, hpw.symm⟩
      · exact ⟨p, put_mem hp hpw, hd, rfl⟩
    · exact absurd he (by decide)
  · rename_i hu1
    rw [if_neg hu1]
    split at he
    · rename_i hu2
      rw [if_pos hu2]
      rw [passV, if_pos hok] at he ⊢
      split at he
      · rename_i hk
        rw [if_pos hk]
        by_cases hg : goes (nowO o now) span p = true
        · exact .inr (.inl (List.mem_map.2 ⟨p, List.mem_filter.2 ⟨hp, hg⟩, rfl⟩))
        · exact .inl ⟨p, List.mem_map.2 ⟨p, hp, by rw [downAt, if_neg hg]⟩, hd, rfl⟩
      · exact absurd he (by decide)
    · rename_i hu2
      rw [if_neg hu2]
      rw [dropV, if_pos hok] at he ⊢
      split at he
      · rename_i hk
        rw [if_pos hk]
        by_cases hpw : p.worker = o.worker
        · exact .inr (.inr ⟨by omega, hpw⟩)
        · exact .inl ⟨p, List.mem_filter.2 ⟨hp, by simpa using hpw⟩, hd, rfl⟩
      · exact absurd he (by decide)
end Go.Proofs.Ytiapcohnjklcfaa
