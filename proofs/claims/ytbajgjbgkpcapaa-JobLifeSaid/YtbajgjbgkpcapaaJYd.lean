/- Job: the states to which a job can come, as a row; jobs are few. -/
import Derived.Test.YtbajgjbgkpcapaaJYc
import Derived.Test.YtbajgjbgkpcapaaCompactI
namespace Go.Proofs.Ytbajgjbgkpcapaa
open Go Go.RowKit

theorem nodup_lt : ∀ {N : Nat} {l : List Nat}, l.Nodup → (∀ x ∈ l, x < N) → l.length ≤ N
  | 0, l, _, h => by
    cases l with
    | nil => exact Nat.le_refl _
    | cons x r => exact absurd (h x (by simp)) (Nat.not_lt_zero _)
  | N + 1, l, hn, h => by
    have h1 := nodup_lt (N := N) (l := l.filter fun x => !decide (x = N)) (hn.filter _) fun x hx => by
      obtain ⟨h1, h2⟩ := List.mem_filter.1 hx
      have := h x h1
      simp at h2
      omega
    have h2 : l.count N ≤ 1 := List.nodup_iff_count.1 hn N
    have h3 : l.length = (l.filter fun x => decide (x = N)).length + (l.filter fun x => !decide (x = N)).length := by
      clear h1 h2 hn h
      induction l with
      | nil => rfl
      | cons y r ih =>
        rw [List.length_cons, List.filter_cons, List.filter_cons]
        by_cases hy : y = N
        · rw [if_pos (decide_eq_true hy), if_neg (by simp [hy]), List.length_cons]; omega
        · rw [if_neg (by simpa using hy), if_pos (by simpa using hy), List.length_cons]; omega
    have h4 : (l.filter fun x => decide (x = N)).length = l.count N := by
      rw [List.count_eq_length_filter]
      congr 1
    omega
/-- Jobs of as many falls at most are few. -/
theorem jobs_few {l : List Jb} {M : Int} (hn : l.Nodup) (h : ∀ x ∈ l, okB x ∧ x.m = M) : l.length ≤ 72 := by
  have := nodup_lt (N := 72) (l := l.map fun x => (x.s * 9 + x.f).toNat) (by
    rw [List.nodup_iff_pairwise_ne, List.pairwise_map]
    refine (List.nodup_iff_pairwise_ne.1 hn).imp_of_mem fun {a b} ha hb hne he => hne ?_
    obtain ⟨a1, a2⟩ := h a ha
    obtain ⟨b1, b2⟩ := h b hb
    obtain ⟨a3, a4, a5⟩ := a
    obtain ⟨b3, b4, b5⟩ := b
    unfold okB okJ at a1 b1
    dsimp only at a1 b1 a2 b2 he
    have e1 : a3 = b3 := by omega
    have e2 : a4 = b4 := by omega
    subst e1 e2 a2 b2
    rfl) fun x hx => by
    obtain ⟨y, hy, rfl⟩ := List.mem_map.1 hx
    obtain ⟨a1, _⟩ := h y hy
    unfold okB okJ at a1
    omega
  rwa [List.length_map] at this
def reachL (j : Jb) : List Int := ((List.range 8).map fun (i : Nat) => (i : Int)).filter fun t => decide (rch j t)
theorem reach_strict (j : Jb) : strict (reachL j) := by
  unfold reachL strict
  refine List.Pairwise.filter _ ?_
  rw [List.pairwise_map]
  exact List.pairwise_lt_range.imp fun h => by omega
theorem rch_bd {j : Jb} {t : Int} (ho : okB j) (h : rch j t) : 0 ≤ t ∧ t ≤ 7 := by
  unfold okB okJ at ho
  unfold rch at h
  omega
theorem reach_mem {j : Jb} {t : Int} (ho : okB j) : t ∈ reachL j ↔ rch j t := by
  unfold reachL
  rw [List.mem_filter, List.mem_map]
  constructor
  · exact fun h => of_decide_eq_true h.2
  · intro h
    have := rch_bd ho h
    exact ⟨⟨t.toNat, List.mem_range.2 (by omega), by omega⟩, decide_eq_true h⟩
/-- What has been met: dn is done, q is still to do. -/
structure Met (j : Jb) (dn q : List Jb) : Prop where
  nd : (dn ++ q).Nodup
  ok : ∀ x ∈ dn ++ q, okB x ∧ x.m = j.m ∧ ∀ t, rch x t → rch j t
  me : j ∈ dn ++ q
  cl : ∀ x ∈ dn, ∀ h, 1 ≤ h → h ≤ 9 → err x h = 0 → nxt x h ∈ dn ++ q
theorem met_few {j : Jb} {dn q : List Jb} (h : Met j dn q) : dn.length + q.length ≤ 72 := by
  have := jobs_few h.nd fun x hx => ⟨(h.ok x hx).1, (h.ok x hx).2.1⟩
  rwa [List.length_append] at this
theorem met_new {j x : Jb} {dn q : List Jb} (h : (dn ++ x :: q).Nodup ∧ (∀ y ∈ dn ++ x :: q, okB y ∧ y.m = j.m ∧ ∀ t, rch y t → rch j t)) {a : Int} (ha : 1 ≤ a ∧ a ≤ 9) (he : err x a = 0) (hn : nxt x a ∉ dn ++ x :: q) :
    (dn ++ x :: (q ++ [nxt x a])).Nodup ∧ (∀ y ∈ dn ++ x :: (q ++ [nxt x a]), okB y ∧ y.m = j.m ∧ ∀ t, rch y t → rch j t) := by
  have e : dn ++ x :: (q ++ [nxt x a]) = (dn ++ x :: q) ++ [nxt x a] := by simp
  rw [e]
  refine ⟨List.nodup_append.2 ⟨h.1, by simp, fun y hy z hz => by rw [List.mem_singleton.1 hz]; rintro rfl; exact hn hy⟩, fun y hy => ?_⟩
  rcases List.mem_append.1 hy with hy | hy
  · exact h.2 y hy
  · rw [List.mem_singleton.1 hy]
    obtain ⟨h1, h2, h3⟩ := h.2 x (by simp)
    obtain ⟨s1, s2, s3⟩ := step_ok h1 ha he
    exact ⟨s1, s2.trans h2, fun t ht => h3 t (s3 t ht)⟩
/-- All is done: the states met are those to which the job can come. -/
theorem met_all {j : Jb} {dn : List Jb} (ho : okB j) (h : Met j dn []) (t : Int) : (∃ x ∈ dn, x.s = t) ↔ rch j t := by
  have hm := h.me
  have hcl := h.cl
  have hok := h.ok
  rw [List.append_nil] at hm hcl hok
  constructor
  · rintro ⟨x, hx, rfl⟩
    exact (hok x hx).2.2 _ (.inl rfl)
  · intro hr
    obtain ⟨k, p, e⟩ := path_all 0 ho hr
    exact ⟨k, p.closed (M := fun x => x ∈ dn) (fun x hx a h1 h2 he => hcl x hx a h1 h2 he) hm, e⟩
end Go.Proofs.Ytbajgjbgkpcapaa
