/- Slots: there and back: plain laws. -/
import Derived.Test.YtjhjmeajdebcbaaSI
import Derived.Test.YtjhjmeajdebcbaaSM
import Derived.Test.YtjhjmeajdebcbaaSO
import Derived.Test.YtjhjmeajdebcbaaSP
namespace Go.Proofs.Ytjhjmeajdebcbaa
open Go Go.RowKit

theorem asc_ext : ∀ {a b : List (Int × Int)}, asc a → asc b → (∀ z, z ∈ a ↔ z ∈ b) → a = b
  | [], [], _, _, _ => rfl
  | [], y :: b, _, _, h => by have := (h y).2 (List.mem_cons_self ..); cases this
  | x :: a, [], _, _, h => by have := (h x).1 (List.mem_cons_self ..); cases this
  | x :: a, y :: b, ha, hb, h => by
    obtain ⟨a1, a2⟩ := List.pairwise_cons.1 ha
    obtain ⟨b1, b2⟩ := List.pairwise_cons.1 hb
    have hxy : x = y := by
      rcases List.mem_cons.1 ((h x).1 (List.mem_cons_self ..)) with h1 | h1
      · exact h1
      · rcases List.mem_cons.1 ((h y).2 (List.mem_cons_self ..)) with h2 | h2
        · exact h2.symm
        · have := b1 x h1; have := a1 y h2; omega
    subst hxy
    have : a = b := asc_ext a2 b2 fun z => by
      constructor
      · intro hz
        rcases List.mem_cons.1 ((h z).1 (List.mem_cons_of_mem _ hz)) with h1 | h1
        · rw [h1] at hz; have := a1 x hz; omega
        · exact h1
      · intro hz
        rcases List.mem_cons.1 ((h z).2 (List.mem_cons_of_mem _ hz)) with h1 | h1
        · rw [h1] at hz; have := b1 x hz; omega
        · exact h1
    rw [this]
/-- What so many laid tasks make of a floor. -/
theorem lay_all {ws ps : List (Int × Int)} {ts : List Int} (hok : FlOk ws ps) (ht : LyT ts) (hn : LyN ps ts) (hs : ¬ sumL (frL ws ps) < ts.length) : ∀ n, n ≤ ts.length → FlOk ws (layL ws ps (ts.take n)) ∧ sumL (frL ws (layL ws ps (ts.take n))) = sumL (frL ws ps) - n ∧ (∀ p, p ∈ layL ws ps (ts.take n) → p.1 ∈ ts.take n ∨ p ∈ ps) ∧ (∀ p ∈ ps, p ∈ layL ws ps (ts.take n)) ∧ (∀ t ∈ ts.take n, hasW (layL ws ps (ts.take n)) t)
  | 0, _ => by
    rw [List.take_zero]
    exact ⟨hok, by show sumL (frL ws ps) = _; omega, fun p hp => .inr hp, fun p hp => hp, fun t ht => by cases ht⟩
  | n + 1, hle => by
    obtain ⟨h1, h2, h3, h4, h5⟩ := lay_all hok ht hn hs n (by omega)
    have hlt : n < ts.length := by omega
    have hgn := List.getElem?_eq_getElem hlt
    have hsn : ts.take (n + 1) = ts.take n ++ [ts[n]] := List.take_succ_eq_append_getElem hlt
    generalize ts[n] = t at *
    have htm := List.mem_of_getElem? hgn
    rw [hsn, layL_snoc]
    show FlOk ws (insS (layL ws ps (ts.take n)) (t, (widL (frL ws (layL ws ps (ts.take n)))).1)) ∧ sumL (frL ws (insS (layL ws ps (ts.take n)) (t, (widL (frL ws (layL ws ps (ts.take n)))).1))) = _ ∧ (∀ p, p ∈ insS (layL ws ps (ts.take n)) (t, (widL (frL ws (layL ws ps (ts.take n)))).1) → _) ∧ (∀ p ∈ ps, p ∈ insS (layL ws ps (ts.take n)) (t, (widL (frL ws (layL ws ps (ts.take n)))).1)) ∧ ∀ t' ∈ ts.take n ++ [t], hasW (insS (layL ws ps (ts.take n)) (t, (widL (frL ws (layL ws ps (ts.take n)))).1)) t'
    generalize layL ws ps (ts.take n) = Q at *
    have hnew : ∀ p ∈ Q, p.1 ≠ t := fun p hp he => by
      rcases h3 p hp with h | h
      · rw [he] at h
        obtain ⟨j, hj⟩ := List.mem_iff_getElem?.1 h
        have hjn : j < n := by
          have := (List.getElem?_eq_some_iff.1 hj).1
          rw [List.length_take] at this; omega
        rw [List.getElem?_take_of_lt hjn] at hj
        have := (List.getElem?_inj (show j < ts.length by omega) hn.1).1 (hj.trans hgn.symm)
        omega
      · exact hn.2 p h (by rw [he]; exact htm)
    obtain ⟨_, _, hokm, hsm⟩ := lay_step (t := t) h1 (ht t htm) (fun ⟨p, hp, he⟩ => hnew p hp he) (by omega)
    generalize (widL (frL ws Q)).1 = b at *
    have hmem := fun z => insS_mem (q := (t, b)) (z := z) hnew
    refine ⟨hokm, by omega, fun p hp => ?_, fun p hp => (hmem p).2 (.inr (h4 p hp)), fun t' ht' => ?_⟩
    · rcases (hmem p).1 hp with rfl | h
      · exact .inl (by simp)
      · rcases h3 p h with h | h
        · exact .inl (List.mem_append_left _ h)
        · exact .inr h
    · rcases List.mem_append.1 ht' with h | h
      · obtain ⟨p, hp, he⟩ := h5 t' h
        exact ⟨p, (hmem p).2 (.inr hp), he⟩
      · exact ⟨(t, b), (hmem _).2 (.inl rfl), (List.mem_singleton.1 h).symm⟩
theorem layE_zero {ws ps : List (Int × Int)} {ts : List Int} (h : layE ws ps ts = 0) : FlOk ws ps ∧ LyT ts ∧ LyN ps ts ∧ ¬ sumL (frL ws ps) < ts.length := by
  unfold layE at h
  split at h
  · split at h
    · split at h
      · split at h
        · cases h
        · exact ⟨by assumption, by assumption, by assumption, by assumption⟩
      · cases h
    · cases h
  · cases h
theorem back_lay {ws ps : List (Int × Int)} {ts : List Int} (h : layE ws ps ts = 0) : takeE ws (layL ws ps ts) ts = 0 ∧ takeV ws (layL ws ps ts) ts = (ws, ps) := by
  obtain ⟨h1, h2, h3, h4⟩ := layE_zero h
  have hl := lay_all h1 h2 h3 h4 ts.length (Nat.le_refl _)
  rw [List.take_length] at hl
  obtain ⟨l1, _, l3, l4, l5⟩ := hl
  have hE : takeE ws (layL ws ps ts) ts = 0 := by
    unfold takeE
    rw [if_pos l1, if_pos ⟨h3.1, l5⟩]
  refine ⟨hE, ?_⟩
  unfold takeV
  rw [if_pos hE]
  have : delL (takenB ts) (layL ws ps ts) = ps := by
    unfold delL takenB
    refine asc_ext (List.Pairwise.filter _ l1.2.1.2) h1.2.1.2 fun z => ?_
    rw [List.mem_filter]
    constructor
    · rintro ⟨hz, hd⟩
      have hd : z.1 ∉ ts := by simpa using hd
      exact (l3 z hz).resolve_left hd
    · exact fun hz => ⟨l4 z hz, by simpa using h3.2 z hz⟩
  rw [this]
theorem comeE_zero {ws ps : List (Int × Int)} {x : Int × Int} (h : comeE ws ps x = 0) : FlOk ws ps ∧ okW x ∧ ¬ hasW ws x.1 := by
  unfold comeE at h
  split at h
  · split at h
    · split at h
      · cases h
      · exact ⟨by assumption, by assumption, by assumption⟩
    · cases h
  · cases h
theorem come_ok {ws ps : List (Int × Int)} {x : Int × Int} (h : comeE ws ps x = 0) : FlOk (insS ws x) ps ∧ ∀ q ∈ ps, q.2 ≠ x.1 := by
  obtain ⟨⟨⟨h1, h2⟩, ⟨h3, h4⟩, h5⟩, hx, hn⟩ := comeE_zero h
  have hne : ∀ p ∈ ws, p.1 ≠ x.1 := fun p hp he => hn ⟨p, hp, he⟩
  have hq : ∀ q ∈ ps, q.2 ≠ x.1 := fun q hq he => by
    obtain ⟨p, hp, hpe⟩ := (h3 q hq).2
    exact hne p hp (by rw [hpe, he])
  refine ⟨⟨⟨fun p hp => ?_, insS_asc h2⟩, ⟨fun q hq => ?_, h4⟩, fun p hp => ?_⟩, hq⟩
  · rcases (insS_mem hne).1 hp with rfl | hp
    · exact hx
    · exact h1 p hp
  · obtain ⟨a, p, hp, he⟩ := h3 q hq
    exact ⟨a, p, (insS_mem hne).2 (.inr hp), he⟩
  · rcases (insS_mem hne).1 hp with rfl | hp
    · have : cntW ps p.1 = 0 := by
        unfold cntW
        rw [List.countP_eq_zero.2 fun q hq2 => by have := hq q hq2; simpa using this]
        rfl
      unfold okW at hx
      omega
    · exact h5 p hp
theorem back_come {ws ps : List (Int × Int)} {x : Int × Int} (h : comeE ws ps x = 0) : goE (insS ws x) ps x.1 = 0 ∧ goV (insS ws x) ps x.1 = (ws, ps, []) := by
  obtain ⟨hok, hq⟩ := come_ok h
  obtain ⟨⟨⟨h1, h2⟩, ⟨h3, h4⟩, h5⟩, hx, hn⟩ := comeE_zero h
  have hne : ∀ p ∈ ws, p.1 ≠ x.1 := fun p hp he => hn ⟨p, hp, he⟩
  have hE : goE (insS ws x) ps x.1 = 0 := by
    unfold goE
    rw [if_pos hok, if_pos ⟨x, (insS_mem hne).2 (.inl rfl), rfl⟩]
  refine ⟨hE, ?_⟩
  unfold goV
  rw [if_pos hE]
  have e1 : dropW (insS ws x) x.1 = ws := by
    unfold dropW
    refine asc_ext (List.Pairwise.filter _ (insS_asc h2)) h2 fun z => ?_
    rw [List.mem_filter, insS_mem hne]
    constructor
    · rintro ⟨hz | hz, hd⟩
      · rw [hz] at hd; simp at hd
      · exact hz
    · exact fun hz => ⟨.inr hz, by have := hne z hz; simpa using this⟩
  have e2 : delL (goneB x.1) ps = ps := by
    unfold delL goneB
    exact List.filter_eq_self.2 fun q hq2 => by have := hq q hq2; simpa using this
  have e3 : atL ps x.1 = [] := by
    unfold atL
    rw [List.filter_eq_nil_iff.2 fun q hq2 => by have := hq q hq2; simpa using this]
    rfl
  rw [e1, e2, e3]
end Go.Proofs.Ytjhjmeajdebcbaa
