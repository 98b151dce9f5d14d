/- Retain: plain laws of Safe: what a shelf has behind whatever is done. -/
import Derived.Test.YtkmdmjnbjoakbaaReT
import Derived.Test.YtkmdmjnbjoakbaaMapU
namespace Go.Proofs.Ytkmdmjnbjoakbaa
open Go Go.RowKit

/-- A shelf's rows xs, of the numbers ks that were put: ds is what was dropped, sv and op what is saved and open. -/
structure Mid (xs : List Kp) (last settled : Int) (ds ks : List Int) (sv op : Int → Bool) : Prop where
  pw : (k0 :: xs).Pairwise RK
  la : (lastOf xs).number = last
  se : ∀ r ∈ xs, r.opn = true → settled < r.number
  kn : ks.Nodup
  dn : ds.Nodup
  sl : settled ≤ last
  kl : ∀ k ∈ ks, k ≤ last
  rows : ∀ r ∈ xs, r.number ∈ ks ∧ r.number ∉ ds ∧ r.save = sv r.number ∧ r.opn = op r.number
  kr : ∀ k ∈ ks, k ∉ ds → ∃ r ∈ xs, r.number = k
  dr : ∀ k ∈ ds, k ∈ ks ∧ sv k = false ∧ op k = false
theorem mid_zero : Mid [] 0 0 [] [] (fun _ => false) (fun _ => false) :=
  ⟨by simp, rfl, (fun r hr => by cases hr), List.nodup_nil, List.nodup_nil, Int.le_refl _, (fun k hk => by cases hk), (fun r hr => by cases hr), (fun k hk => by cases hk), (fun k hk => by cases hk)⟩
theorem last_app (xs : List Kp) (q : Kp) : lastOf (xs ++ [q]) = q := by
  unfold lastOf
  rw [List.length_append, List.length_singleton]
  simp [lastK]
theorem Mid.pos {xs : List Kp} {last settled : Int} {ds ks : List Int} {sv op : Int → Bool} (h : Mid xs last settled ds ks sv op) : ∀ r ∈ xs, 0 < r.number ∧ r.number ≤ last := fun r hr => by
  have h1 := (List.pairwise_cons.1 h.pw).1 r hr
  exact ⟨h1.1, h.kl _ (h.rows r hr).1⟩
theorem pw_put {xs : List Kp} {q : Kp} (h : (k0 :: xs).Pairwise RK) (h1 : (lastOf xs).number < q.number) (h2 : q.number ≤ 4611686018427387904) (h3 : q.opn = true) : (k0 :: (xs ++ [q])).Pairwise RK := by
  have hr : rising xs := okL_rising ((okL_pw xs k0).2 h)
  obtain ⟨h4, h5⟩ := List.pairwise_cons.1 h
  have h0 : (0 : Int) ≤ (lastOf xs).number := by
    rcases List.eq_nil_or_concat xs with rfl | ⟨l, a, rfl⟩
    · exact Int.le_refl _
    · rw [List.concat_eq_append, last_app]
      have := (h4 a (by simp)).1
      exact Int.le_of_lt this
  refine List.pairwise_cons.2 ⟨fun p hp => ?_, List.pairwise_append.2 ⟨h5, by simp, fun a ha b hb => ?_⟩⟩
  · rcases List.mem_append.1 hp with hp | hp
    · exact h4 p hp
    · rw [List.mem_singleton.1 hp]
      exact ⟨by show (0 : Int) < _; omega, h2, fun hh => by cases hh⟩
  · rw [List.mem_singleton.1 hb]
    have := last_max hr a ha
    exact ⟨by omega, h2, fun _ => h3⟩
theorem mid_put {xs : List Kp} {last settled : Int} {ds ks : List Int} {sv op : Int → Bool} (h : Mid xs last settled ds ks sv op) {number : Int} (save : Bool) (h1 : last < number) (h2 : number ≤ 4611686018427387904) :
    Mid (xs ++ [⟨number, save, true⟩]) number settled ds (ks ++ [number]) (updB sv number save) (updB op number true) ∧ number ∉ ks := by
  have hnk : number ∉ ks := fun hm => by have := h.kl _ hm; omega
  have hnd : number ∉ ds := fun hm => hnk (h.dr _ hm).1
  refine ⟨⟨pw_put h.pw (by rw [h.la]; exact h1) h2 rfl, by rw [last_app], fun r hr ho => ?_, ?_, h.dn, by have := h.sl; omega, fun k hk => ?_, fun r hr => ?_, fun k hk hd => ?_, fun k hk => ?_⟩, hnk⟩
  · rcases List.mem_append.1 hr with hr | hr
    · exact h.se r hr ho
    · rw [List.mem_singleton.1 hr]; have := h.sl; dsimp only; omega
  · exact List.nodup_append.2 ⟨h.kn, by simp, fun a ha b hb => by rw [List.mem_singleton.1 hb]; rintro rfl; exact hnk ha⟩
  · rcases List.mem_append.1 hk with hk | hk
    · have := h.kl k hk; omega
    · rw [List.mem_singleton.1 hk]; exact Int.le_refl _
  · rcases List.mem_append.1 hr with hr | hr
    · obtain ⟨a, b, c, d⟩ := h.rows r hr
      have hne : r.number ≠ number := fun e => hnk (e ▸ a)
      rw [updB_ne hne, updB_ne hne]
      exact ⟨List.mem_append_left _ a, b, c, d⟩
    · rw [List.mem_singleton.1 hr]
      dsimp only
      rw [updB_at, updB_at]
      exact ⟨by simp, hnd, rfl, rfl⟩
  · rcases List.mem_append.1 hk with hk | hk
    · obtain ⟨r, hr, he⟩ := h.kr k hk hd
      exact ⟨r, List.mem_append_left _ hr, he⟩
    · exact ⟨_, List.mem_append_right _ (List.mem_singleton_self _), (List.mem_singleton.1 hk).symm⟩
  · obtain ⟨a, b, c⟩ := h.dr k hk
    have hne : k ≠ number := fun e => hnk (e ▸ a)
    rw [updB_ne hne, updB_ne hne]
    exact ⟨List.mem_append_left _ a, b, c⟩
/-- Row n is another one of its number. -/
theorem mid_row {xs : List Kp} {last settled : Int} {ds ks : List Int} {sv op : Int → Bool} (h : Mid xs last settled ds ks sv op) {n : Nat} {k r : Kp} (hg : xs[n]? = some k) (hn : r.number = k.number) (settled' : Int) (sv' op' : Int → Bool)
    (hp : (k0 :: xs.set n r).Pairwise RK) (hsl : settled' ≤ last) (hse : ∀ q ∈ xs.set n r, q.opn = true → settled' < q.number) (h1 : r.save = sv' k.number) (h2 : r.opn = op' k.number) (h3 : ∀ x, x ≠ k.number → sv' x = sv x ∧ op' x = op x) :
    Mid (xs.set n r) last settled' ds ks sv' op' := by
  obtain ⟨hlt, he⟩ := List.getElem?_eq_some_iff.1 hg
  have hr : asc xs := by
    have := okL_asc xs k0 ((okL_pw xs k0).2 h.pw)
    intro i j a b hi hj hij
    obtain ⟨i1, i2⟩ := List.getElem?_eq_some_iff.1 hi
    obtain ⟨j1, j2⟩ := List.getElem?_eq_some_iff.1 hj
    have := List.pairwise_iff_getElem.1 this i j (by simpa using i1) (by simpa using j1) hij
    simpa [i2, j2] using this
  have hkm : k ∈ xs := List.mem_of_getElem? hg
  have hm : ∀ q ∈ xs.set n r, q = r ∨ (q ∈ xs ∧ q.number ≠ k.number) := fun q hq => by
    obtain ⟨i, hi⟩ := List.mem_iff_getElem?.1 hq
    rw [List.getElem?_set] at hi
    split at hi
    · rename_i hni
      subst hni
      exact .inl (Option.some.inj hi).symm
    · rename_i hne
      exact .inr ⟨List.mem_of_getElem? hi, fun e => hne (asc_inj hr hg hi e.symm)⟩
  have hlast : (lastOf (xs.set n r)).number = (lastOf xs).number := by
    unfold lastOf
    rw [List.length_set]
    cases hx : xs.length with
    | zero => rfl
    | succ m =>
      show (((xs.set n r)[m]?).getD k0).number = ((xs[m]?).getD k0).number
      rw [List.getElem?_set]
      split
      · rename_i hnm
        subst hnm
        rw [hg]
        exact hn
      · rfl
  have hkd : k.number ∉ ds := (h.rows k hkm).2.1
  refine ⟨hp, by rw [hlast]; exact h.la, hse, h.kn, h.dn, hsl, h.kl, fun q hq => ?_, fun x hx hd => ?_, fun x hx => ?_⟩
  · rcases hm q hq with rfl | ⟨hq, hne⟩
    · rw [hn]
      exact ⟨(h.rows k hkm).1, hkd, h1, h2⟩
    · obtain ⟨a, b, c, d⟩ := h.rows q hq
      rw [(h3 _ hne).1, (h3 _ hne).2]
      exact ⟨a, b, c, d⟩
  · obtain ⟨q, hq, he⟩ := h.kr x hx hd
    obtain ⟨i, hi⟩ := List.mem_iff_getElem?.1 hq
    by_cases hin : i = n
    · subst hin
      rw [hg] at hi
      obtain rfl := Option.some.inj hi
      refine ⟨r, ?_, by rw [hn]; exact he⟩
      exact List.mem_of_getElem? (by rw [List.getElem?_set, if_pos rfl, if_pos hlt] : (xs.set i r)[i]? = some r)
    · exact ⟨q, List.mem_of_getElem? (by rw [List.getElem?_set, if_neg (fun e => hin e.symm)]; exact hi), he⟩
  · obtain ⟨a, b, c⟩ := h.dr x hx
    have hne : x ≠ k.number := fun e => hkd (e ▸ hx)
    rw [(h3 _ hne).1, (h3 _ hne).2]
    exact ⟨a, b, c⟩
theorem set_open {xs : List Kp} {n : Nat} {k r : Kp} {settled : Int} (hg : xs[n]? = some k) (hn : r.number = k.number) (ho : r.opn = k.opn) (h : ∀ q ∈ xs, q.opn = true → settled < q.number) : ∀ q ∈ xs.set n r, q.opn = true → settled < q.number := fun q hq hqo => by
  rcases List.mem_or_eq_of_mem_set hq with hq | rfl
  · exact h q hq hqo
  · rw [hn]; exact h k (List.mem_of_getElem? hg) (ho ▸ hqo)
theorem mid_settle {xs : List Kp} {last settled : Int} {ds ks : List Int} {sv op : Int → Bool} (h : Mid xs last settled ds ks sv op) {n : Nat} {k : Kp} (hg : xs[n]? = some k) (hk : k.opn = true ∧ (n = 0 ∨ (lastK xs n).opn = false)) :
    Mid (xs.set n { k with opn := false }) last k.number ds ks sv (updB op k.number false) ∧ settled < k.number ∧ op k.number = true ∧ k.number ∈ ks := by
  have hkm : k ∈ xs := List.mem_of_getElem? hg
  obtain ⟨a, b, c, d⟩ := h.rows k hkm
  have hp := pw_settle h.pw hg hk.2
  refine ⟨mid_row (r := { k with opn := false }) h hg rfl k.number sv (updB op k.number false) hp (h.kl _ a) (fun q hq hqo => ?_) c (by rw [updB_at]) (fun x hx => ⟨rfl, updB_ne hx⟩), h.se k hkm hk.1, by rw [← d]; exact hk.1, a⟩
  obtain ⟨i, hi⟩ := List.mem_iff_getElem?.1 hq
  have hset : (xs.set n { k with opn := false })[n]? = some { k with opn := false } := by
    rw [List.getElem?_set, if_pos rfl, if_pos (List.getElem?_eq_some_iff.1 hg).1]
  have hpw := (List.pairwise_cons.1 hp).2
  rcases Nat.lt_trichotomy i n with hin | hin | hin
  · exfalso
    have h1 : xs[i]? = some q := by rwa [List.getElem?_set, if_neg (by omega)] at hi
    have hok : okL k0 xs = true := (okL_pw xs k0).2 h.pw
    rcases hk.2 with rfl | h2
    · omega
    · obtain ⟨m, rfl⟩ : ∃ m, n = m + 1 := ⟨n - 1, by omega⟩
      have hml : m < xs.length := by have := (List.getElem?_eq_some_iff.1 hg).1; omega
      have h3 := List.getElem?_eq_getElem hml
      rw [lastK_get h3] at h2
      have := opn_mono hok i m q _ h1 h3 (by omega) hqo
      rw [h2] at this; cases this
  · subst hin
    rw [hset] at hi
    have := Option.some.inj hi
    subst this
    cases hqo
  · obtain ⟨h1, e1⟩ := List.getElem?_eq_some_iff.1 hset
    obtain ⟨h2, e2⟩ := List.getElem?_eq_some_iff.1 hi
    have := List.pairwise_iff_getElem.1 hpw n i h1 h2 hin
    rw [e1, e2] at this
    exact this.1
theorem mid_save {xs : List Kp} {last settled : Int} {ds ks : List Int} {sv op : Int → Bool} (h : Mid xs last settled ds ks sv op) {n : Nat} {k : Kp} (b : Bool) (hg : xs[n]? = some k) :
    Mid (xs.set n { k with save := b }) last settled ds ks (updB sv k.number b) op ∧ sv k.number = k.save ∧ k.number ∈ ks := by
  have hkm : k ∈ xs := List.mem_of_getElem? hg
  obtain ⟨a, b', c, d⟩ := h.rows k hkm
  exact ⟨mid_row (r := { k with save := b }) h hg rfl settled (updB sv k.number b) op (pw_set h.pw hg rfl rfl) h.sl (set_open hg rfl rfl h.se) (by rw [updB_at]) d (fun x hx => ⟨updB_ne hx, rfl⟩), c.symm, a⟩
theorem cut_plain (keep : Int) : ∀ (ks : List Kp) (x : Int), x ∈ (cutL keep ks).2 → ∃ k ∈ ks, k.number = x ∧ plainK k = true
  | [], x, h => by cases h
  | k :: r, x, h => by
    rw [cut_cons] at h
    split at h
    · rename_i hk
      rcases List.mem_cons.1 h with rfl | h
      · exact ⟨k, List.mem_cons_self .., rfl, hk.1⟩
      · obtain ⟨q, hq, e⟩ := cut_plain keep r x h
        exact ⟨q, List.mem_cons_of_mem _ hq, e⟩
    · obtain ⟨q, hq, e⟩ := cut_plain keep r x h
      exact ⟨q, List.mem_cons_of_mem _ hq, e⟩
theorem cut_cnt {keep : Int} (hk : 1 ≤ keep) : ∀ ks : List Kp, (cntP (cutL keep ks).1 : Int) ≤ keep
  | [] => by show (0 : Int) ≤ keep; omega
  | k :: r => by
    have ih := cut_cnt hk r
    rw [cut_cons]
    split
    · exact ih
    · rename_i h
      dsimp only
      rw [cnt_cons]
      split
      · rename_i hp
        have h1 : ¬ keep ≤ (cntP r : Int) := fun hh => h ⟨hp, hh⟩
        have h2 : cntP (cutL keep r).1 ≤ cntP r := by
          unfold cntP
          exact ((cut_sublist keep r).filter _).length_le
        omega
      · omega
theorem cut_lastOf {keep : Int} (hk : 1 ≤ keep) (xs : List Kp) : lastOf (cutL keep xs).1 = lastOf xs ∧ (xs ≠ [] → (cutL keep xs).1 ≠ []) := by
  rcases List.eq_nil_or_concat xs with rfl | ⟨l, q, rfl⟩
  · exact ⟨rfl, fun h => absurd rfl h⟩
  · rw [List.concat_eq_append]
    obtain ⟨X, h1, _⟩ := cut_last keep hk q l
    rw [h1, last_app, last_app]
    exact ⟨rfl, fun _ => by simp⟩
/-- What goes is neither saved nor open, and was not dropped yet; what stays is a shelf as before. -/
theorem mid_cut {xs : List Kp} {last settled : Int} {ds ks : List Int} {sv op : Int → Bool} (h : Mid xs last settled ds ks sv op) {keep : Int} (hk : 1 ≤ keep) :
    Mid (cutL keep xs).1 last settled (ds ++ (cutL keep xs).2) ks sv op ∧ (∀ x ∈ (cutL keep xs).2, x ∈ ks ∧ x ∉ ds ∧ sv x = false ∧ op x = false) ∧ (cutL keep xs).2.Nodup ∧ ((cutL keep xs).2 ≠ [] → (cutL keep xs).1 ≠ []) := by
  have hr : rising xs := okL_rising ((okL_pw xs k0).2 h.pw)
  have hf := cut_filter keep xs hr
  have hg : ∀ x ∈ (cutL keep xs).2, x ∈ ks ∧ x ∉ ds ∧ sv x = false ∧ op x = false := fun x hx => by
    obtain ⟨r, hr, he, hp⟩ := cut_plain keep xs x hx
    obtain ⟨a, b, c, d⟩ := h.rows r hr
    rw [he] at a b c d
    unfold plainK at hp
    rw [Bool.and_eq_true, Bool.not_eq_true', Bool.not_eq_true'] at hp
    exact ⟨a, b, by rw [← c]; exact hp.2, by rw [← d]; exact hp.1⟩
  have hnd : (cutL keep xs).2.Nodup := (cut_rising keep xs hr).imp (fun h => by omega)
  have hsub := cut_sublist keep xs
  refine ⟨⟨h.pw.sublist (hsub.cons_cons k0), by rw [(cut_lastOf hk xs).1]; exact h.la, fun r hr ho => h.se r (hsub.subset hr) ho, h.kn, ?_, h.sl, h.kl, fun r hr => ?_, fun k hkk hd => ?_, fun k hkk => ?_⟩, hg, hnd, fun hne he => ?_⟩
  · exact List.nodup_append.2 ⟨h.dn, hnd, fun a ha b hb => by rintro rfl; exact (hg _ hb).2.1 ha⟩
  · obtain ⟨a, b, c, d⟩ := h.rows r (hsub.subset hr)
    rw [← hf] at hr
    have h2 := (List.mem_filter.1 hr).2
    refine ⟨a, fun hm => ?_, c, d⟩
    rcases List.mem_append.1 hm with hm | hm
    · exact b hm
    · simp [hm] at h2
  · have hd1 : k ∉ ds := fun hm => hd (List.mem_append_left _ hm)
    obtain ⟨r, hr, he⟩ := h.kr k hkk hd1
    refine ⟨r, ?_, he⟩
    rw [← hf]
    refine List.mem_filter.2 ⟨hr, ?_⟩
    have : r.number ∉ (cutL keep xs).2 := fun hm => hd (List.mem_append_right _ (he ▸ hm))
    simp [this]
  · rcases List.mem_append.1 hkk with hm | hm
    · exact h.dr k hm
    · obtain ⟨a, _, b, c⟩ := hg k hm
      exact ⟨a, b, c⟩
  · refine (cut_lastOf hk xs).2 (fun hx => ?_) he
    subst hx
    exact hne rfl
end Go.Proofs.Ytkmdmjnbjoakbaa
