/- Snap: plain laws of parts and wholes. -/
import Derived.Test.YtmahldelmbhjfaaSwD
namespace Go.Proofs.Ytmahldelmbhjfaa
set_option maxRecDepth 10000

theorem asc_eq : ∀ {a b : List Kc}, ascK a → ascK b → (∀ y, y ∈ a ↔ y ∈ b) → a = b
  | [], [], _, _, _ => rfl
  | [], y :: b, _, _, h => absurd ((h y).2 List.mem_cons_self) List.not_mem_nil
  | x :: a, [], _, _, h => absurd ((h x).1 List.mem_cons_self) List.not_mem_nil
  | x :: a, y :: b, ha, hb, h => by
    obtain ⟨ha1, ha2⟩ := List.pairwise_cons.1 ha
    obtain ⟨hb1, hb2⟩ := List.pairwise_cons.1 hb
    have hxy : x = y := by
      rcases List.mem_cons.1 ((h x).1 List.mem_cons_self) with e | h1
      · exact e
      · rcases List.mem_cons.1 ((h y).2 List.mem_cons_self) with e | h2
        · exact e.symm
        · have := hb1 x h1
          have := ha1 y h2
          omega
    subst hxy
    congr 1
    refine asc_eq ha2 hb2 fun z => ⟨fun hz => ?_, fun hz => ?_⟩
    · rcases List.mem_cons.1 ((h z).1 (List.mem_cons_of_mem _ hz)) with e | h1
      · have := ha1 z hz
        rw [e] at this; omega
      · exact h1
    · rcases List.mem_cons.1 ((h z).2 (List.mem_cons_of_mem _ hz)) with e | h1
      · have := hb1 z hz
        rw [e] at this; omega
      · exact h1
theorem asc_one {l : List Kc} (h : ascK l) {x y : Kc} (hx : x ∈ l) (hy : y ∈ l) (he : kn x = kn y) : x = y := by
  obtain ⟨i, hi⟩ := List.mem_iff_getElem?.1 hx
  obtain ⟨j, hj⟩ := List.mem_iff_getElem?.1 hy
  rcases Nat.lt_trichotomy i j with h1 | h1 | h1
  · have := ascK_lt h hi hj h1; omega
  · subst h1
    rw [hi] at hj; exact Option.some.inj hj
  · have := ascK_lt h hj hi h1; omega
/-- Parts that may be, in their order: which rows the whole has. -/
theorem rowsW_mem {L : List Sn} {op : Int} (hall : ∀ s ∈ L, rightP s) (hp : ∀ n s, L[n]? = some s → partP op L.length n s) : ∀ n, n ≤ L.length → ∀ y, y ∈ rowsW (L.take n) ↔ ∃ s ∈ L.take n, y ∈ s.rows
  | 0, _ => fun y => by
    rw [List.take_zero]
    exact ⟨fun h => (by cases h), fun ⟨s, hs, _⟩ => by cases hs⟩
  | n + 1, hn => fun y => by
    have hs := List.getElem?_eq_getElem (show n < L.length by omega)
    obtain ⟨r, h⟩ := win_upto hall hp n (by omega)
    have hr := hall _ (List.getElem_mem (show n < L.length by omega))
    rw [(rowsW_succ hs).1, (join_ok h.rows (right_rows hr).1 (win_apart h hr (hp n _ hs))).2 y, rowsW_mem hall hp n (by omega) y, List.take_succ_eq_append_getElem (by omega)]
    constructor
    · rintro (⟨s, h1, h2⟩ | h1)
      · exact ⟨s, List.mem_append_left _ h1, h2⟩
      · exact ⟨_, List.mem_append_right _ (List.mem_singleton.2 rfl), h1⟩
    · rintro ⟨s, h1, h2⟩
      rcases List.mem_append.1 h1 with h1 | h1
      · exact .inl ⟨s, h1, h2⟩
      · rw [List.mem_singleton.1 h1] at h2
        exact .inr h2
theorem whole_mem {L : List Sn} (h : wholeE L = 0) (y : Kc) : y ∈ (wholeS L).rows ↔ ∃ s ∈ L, y ∈ s.rows := by
  obtain ⟨hall, hps, hnm⟩ := whole_zero h
  obtain ⟨s0, h0, hl3, hop, hp, hw⟩ := whole_win h
  have := rowsW_mem hall hp L.length (Nat.le_refl _) y
  rw [take_all] at this
  exact this
theorem whole_rows {L : List Sn} (h : wholeE L = 0) : RowsOk (wholeS L).rows := tbl_rows (whole_right h).2.2.1
theorem parts_at {s : Sn} {m k i : Nat} (h : i < k) : (partsL s m k)[i]? = some (partS s (i : Int) (m : Int)) := by
  unfold partsL
  rw [List.getElem?_map, List.getElem?_range h]; rfl
theorem parts_mem {s p : Sn} {m k : Nat} (h : p ∈ partsL s m k) : ∃ i, i < k ∧ p = partS s (i : Int) (m : Int) := by
  unfold partsL at h
  obtain ⟨i, hi, rfl⟩ := List.mem_map.1 h
  exact ⟨i, List.mem_range.1 hi, rfl⟩
theorem part_rows {l : List Kc} (h : RowsOk l) (i m : Int) : RowsOk (partR l i m) := ⟨fun x hx => h.1 x (List.mem_filter.1 hx).1, h.2.filter _⟩
theorem partR_mem {l : List Kc} {i m : Int} {y : Kc} : y ∈ partR l i m ↔ y ∈ l ∧ ownW (y.key % 8) m = i := by
  unfold partR
  rw [List.mem_filter, decide_eq_true_iff]
theorem names_nil : namesB [] = true := by decide
theorem part_right {s : Sn} (h : rightP s) {i m : Int} (hs : shareP i m) : rightP (partS s i m) := by
  refine ⟨h.1, hs, rows_tbl (part_rows (tbl_rows h.2.2.1) i m), names_nil, fun x hx => (partR_mem.1 hx).2, fun g => ?_⟩
  have := h.2.2.2.2.2 g
  unfold offP at this ⊢
  show 0 ≤ (if ownW (g.val : Int) m = i then s.offs g else 0) ∧ (if ownW (g.val : Int) m = i then s.offs g else 0) ≤ 40 ∧ ((if ownW (g.val : Int) m = i then s.offs g else 0) ≠ 0 → ownW (g.val : Int) m = i)
  split
  · rename_i hi
    exact ⟨this.1, this.2.1, fun _ => hi⟩
  · exact ⟨by decide, by decide, fun hn => absurd rfl hn⟩
theorem key_own {x : Kc} (h : recP x.src x.key) {m : Nat} (hm : 1 ≤ m ∧ m ≤ 3) : 0 ≤ ownW (x.key % 8) m ∧ ownW (x.key % 8) m < m := by
  unfold recP at h
  exact ownW_lt (by omega) (by omega)
theorem txs_none : ∀ {l : List Sn}, (∀ s ∈ l, s.txs = []) → txsW l = []
  | [], _ => rfl
  | s :: l, h => by
    unfold txsW
    rw [List.map_cons, List.flatten_cons, h s List.mem_cons_self, List.nil_append]
    exact txs_none (fun t ht => h t (List.mem_cons_of_mem _ ht))
/-- The parts of a snapshot that may be are, put together, that snapshot but for its names. -/
theorem parts_whole {s : Sn} (h : rightP s) (h1 : s.idx = 0 ∧ s.wid = 1) {m : Nat} (hm : 1 ≤ m ∧ m ≤ 3) : wholeE (partsL s m m) = 0 ∧ wholeS (partsL s m m) = { s with txs := [] } := by
  have hlen := partsL_len s m m
  have hall : ∀ p ∈ partsL s m m, rightP p := fun p hp => by
    obtain ⟨i, hi, rfl⟩ := parts_mem hp
    exact part_right h (by unfold shareP; omega)
  have hget0 := parts_at (s := s) (m := m) (k := m) (i := 0) (by omega)
  have hpt : ∀ n p, (partsL s m m)[n]? = some p → partP s.op (partsL s m m).length n p := fun n p hp => by
    have hn := (List.getElem?_eq_some_iff.1 hp).1
    rw [hlen] at hn ⊢
    rw [parts_at hn] at hp
    cases hp
    exact ⟨rfl, rfl, rfl⟩
  have hps : partsP (partsL s m m) := by
    have hop : ∀ t l, partsL s m m = t :: l → t.op = s.op := fun t l e => by
      rw [e] at hget0
      have := Option.some.inj hget0
      rw [this]; rfl
    generalize hP : partsL s m m = P at *
    cases P with
    | nil => rw [← hlen] at hm; exact absurd hm.1 (by decide)
    | cons t l =>
      intro n hn
      have := hpt n _ (List.getElem?_eq_getElem hn)
      rw [hop t l rfl]
      exact this
  have htx : txsW (partsL s m m) = [] := txs_none fun p hp => by
    obtain ⟨i, _, rfl⟩ := parts_mem hp
    rfl
  have hE : wholeE (partsL s m m) = 0 := by
    unfold wholeE
    rw [if_pos hall, if_pos hps, if_pos (by rw [htx]; exact names_nil)]
  refine ⟨hE, ?_⟩
  obtain ⟨s0, h0, hl3, hop, hp, hw⟩ := whole_win hE
  rw [hget0] at h0
  have hs0 := Option.some.inj h0
  have hrows : rowsW (partsL s m m) = s.rows := by
    refine asc_eq (whole_rows hE).2 (tbl_rows h.2.2.1).2 fun y => ?_
    rw [show rowsW (partsL s m m) = (wholeS (partsL s m m)).rows from rfl, whole_mem hE y]
    constructor
    · rintro ⟨p, hp, hy⟩
      obtain ⟨i, hi, rfl⟩ := parts_mem hp
      exact (partR_mem.1 hy).1
    · intro hy
      have ho := key_own ((tbl_rows h.2.2.1).1 y hy).1 hm
      refine ⟨_, List.mem_of_getElem? (parts_at (s := s) (m := m) (k := m) (i := (ownW (y.key % 8) m).toNat) (by omega)), partR_mem.2 ⟨hy, ?_⟩⟩
      omega
  have hfin : finW (partsL s m m) = s.fin := by
    unfold finW
    cases hf : s.fin with
    | true =>
      rw [List.all_eq_true]
      intro p hp
      obtain ⟨i, _, rfl⟩ := parts_mem hp
      exact hf
    | false =>
      rw [List.all_eq_false]
      exact ⟨_, List.mem_of_getElem? hget0, by show ¬ s.fin = true; rw [hf]; decide⟩
  have hoff : offW (partsL s m m) = s.offs := by
    funext g
    have ho := ownW_lt (g := (g.val : Int)) (by omega) (len := (m : Int)) (by omega)
    unfold offW
    rw [hlen, parts_at (by omega)]
    show (if ownW (g.val : Int) m = ((ownW (g.val : Int) m).toNat : Int) then s.offs g else 0) = s.offs g
    rw [if_pos (by omega)]
  have hop2 : (wholeS (partsL s m m)).op = s.op := by rw [hop, ← hs0]; rfl
  exact sn_ext hop2 h1.1.symm h1.2.symm hfin hrows hoff htx
/-- A part of the whole of parts is what it was, but for the names and whether all have ended. -/
theorem part_back {L : List Sn} (h : wholeE L = 0) {i : Nat} {s : Sn} (hs : L[i]? = some s) : partS { wholeS L with txs := [] } (i : Int) L.length = { s with txs := [], fin := (wholeS L).fin } := by
  obtain ⟨hall, hps, hnm⟩ := whole_zero h
  obtain ⟨s0, h0, hl3, hop, hp, hw⟩ := whole_win h
  have hsr := hall s (List.mem_of_getElem? hs)
  have hsp := hp i s hs
  have hi := (List.getElem?_eq_some_iff.1 hs).1
  refine sn_ext ?_ ?_ ?_ rfl ?_ ?_ rfl
  · show (wholeS L).op = s.op
    rw [hop, hsp.1]
  · exact hsp.2.1.symm
  · exact hsp.2.2.symm
  · refine asc_eq (part_rows (whole_rows h) _ _).2 (right_rows hsr).1.2 fun y => ?_
    show y ∈ partR (wholeS L).rows i L.length ↔ y ∈ s.rows
    rw [partR_mem, whole_mem h y]
    constructor
    · rintro ⟨⟨t, ht, hy⟩, ho⟩
      obtain ⟨j, hj⟩ := List.mem_iff_getElem?.1 ht
      have := (right_rows (hall t ht)).2 y hy
      rw [(hp j t hj).2.1, (hp j t hj).2.2, ho] at this
      have hji : j = i := by omega
      subst hji
      rw [hs] at hj
      rw [Option.some.inj hj]
      exact hy
    · intro hy
      refine ⟨⟨s, List.mem_of_getElem? hs, hy⟩, ?_⟩
      have := (right_rows hsr).2 y hy
      rw [hsp.2.1, hsp.2.2] at this
      exact this
  · funext g
    show (if ownW (g.val : Int) L.length = (i : Int) then offW L g else 0) = s.offs g
    by_cases hg : ownW (g.val : Int) L.length = (i : Int)
    · rw [if_pos hg]
      unfold offW
      rw [hg, Int.toNat_natCast, hs]
    · rw [if_neg hg]
      have := (offs_right hsr g).2.2
      rw [hsp.2.1, hsp.2.2] at this
      exact (Classical.byContradiction fun hne => hg (this fun e => hne e.symm))
/-! ### A key's cell, a group's offset -/
/-- The last cell of a key that is not empty. -/
def wasF (l : List Sn) (s k : Int) : Int × Int := l.foldl (fun a p => if getK p.rows s k = (0, 0) then a else getK p.rows s k) (0, 0)
theorem wasF_snoc (l : List Sn) (p : Sn) (s k : Int) : wasF (l ++ [p]) s k = (if getK p.rows s k = (0, 0) then wasF l s k else getK p.rows s k) := by
  unfold wasF
  rw [List.foldl_append]; rfl
def sumF (l : List Sn) (g : Fin 8) : Int := (l.map fun p => p.offs g).sum
theorem sumF_snoc (l : List Sn) (p : Sn) (g : Fin 8) : sumF (l ++ [p]) g = sumF l g + p.offs g := by
  unfold sumF
  rw [List.map_append, List.sum_append]; simp
theorem kn_of {x y : Kc} (hx : recP x.src x.key) (hy : recP y.src y.key) : kn x = kn y ↔ x.src = y.src ∧ x.key = y.key := by
  unfold recP at hx hy
  unfold kn
  omega
theorem getK_is {l : List Kc} (h : RowsOk l) {x : Kc} (hx : x ∈ l) : getK l x.src x.key = (x.cnt, x.sum) := by
  unfold getK
  cases hf : l.find? (fun y => decide (y.src = x.src ∧ y.key = x.key)) with
  | none => exact absurd (List.find?_eq_none.1 hf x hx) (by simp)
  | some y =>
    have hy := List.mem_of_find?_eq_some hf
    have hd := List.find?_some hf
    have he : y.src = x.src ∧ y.key = x.key := by simpa using hd
    have : y = x := asc_one h.2 hy hx ((kn_of (h.1 y hy).1 (h.1 x hx).1).2 he)
    rw [this]
theorem was_spec {R : List Kc} (hR : RowsOk R) (s k : Int) : ∀ {l : List Sn}, (∀ p ∈ l, RowsOk p.rows ∧ ∀ y ∈ p.rows, y ∈ R) → (wasF l s k = (0, 0) ∨ wasF l s k = getK R s k) ∧ ((∃ p ∈ l, ∃ y ∈ p.rows, y.src = s ∧ y.key = k) → wasF l s k = getK R s k) := by
  intro l
  induction l using snoc_ind with
  | h0 => exact fun _ => ⟨.inl rfl, fun ⟨p, hp, _⟩ => by cases hp⟩
  | h l p ih =>
    intro h
    have ih := ih fun q hq => h q (List.mem_append_left _ hq)
    obtain ⟨hp1, hp2⟩ := h p (List.mem_append_right _ (List.mem_singleton.2 rfl))
    rw [wasF_snoc]
    by_cases hy : ∃ y ∈ p.rows, y.src = s ∧ y.key = k
    · obtain ⟨y, hy, rfl, rfl⟩ := hy
      have e1 := getK_is hp1 hy
      have e2 := getK_is hR (hp2 y hy)
      have hc := (hp1.1 y hy).2
      rw [e1, e2, if_neg (by intro h; have := (Prod.mk.inj h).1; omega)]
      exact ⟨.inr rfl, fun _ => rfl⟩
    · have e1 : getK p.rows s k = (0, 0) := getK_miss fun y h1 h2 => hy ⟨y, h1, h2⟩
      rw [if_pos e1]
      refine ⟨ih.1, fun ⟨q, hq, z, hz, he⟩ => ih.2 ⟨q, ?_, z, hz, he⟩⟩
      rcases List.mem_append.1 hq with hq | hq
      · exact hq
      · rw [List.mem_singleton.1 hq] at hz
        exact absurd ⟨z, hz, he⟩ hy
theorem was_is {R : List Kc} (hR : RowsOk R) (s k : Int) {l : List Sn} (h : ∀ p ∈ l, RowsOk p.rows) (hm : ∀ y, y ∈ R ↔ ∃ p ∈ l, y ∈ p.rows) : wasF l s k = getK R s k := by
  obtain ⟨h1, h2⟩ := was_spec hR s k (l := l) fun p hp => ⟨h p hp, fun y hy => (hm y).2 ⟨p, hp, hy⟩⟩
  by_cases hy : ∃ y ∈ R, y.src = s ∧ y.key = k
  · obtain ⟨y, hy, he⟩ := hy
    obtain ⟨p, hp, hyp⟩ := (hm y).1 hy
    exact h2 ⟨p, hp, y, hyp, he⟩
  · have e : getK R s k = (0, 0) := getK_miss fun y h1 h2 => hy ⟨y, h1, h2⟩
    rw [e] at h1 ⊢
    exact h1.elim id id
/-- One of n is x, the others are 0. -/
theorem sum_one (x : Int) (j : Nat) : ∀ n : Nat, ((List.range n).map fun i => if j = i then x else 0).sum = if j < n then x else 0
  | 0 => rfl
  | n + 1 => by
    rw [List.range_succ, List.map_append, List.sum_append, sum_one x j n]
    simp only [List.map_cons, List.map_nil, List.sum_cons, List.sum_nil, Int.add_zero]
    by_cases h1 : j < n
    · rw [if_pos h1, if_neg (by omega), if_pos (by omega)]; omega
    · by_cases h2 : j = n
      · rw [if_neg h1, if_pos h2, if_pos (by omega)]; omega
      · rw [if_neg h1, if_neg h2, if_neg (by omega)]; rfl
theorem sum_own {l : List Sn} {x : Int} {g : Fin 8} (hl : 1 ≤ l.length ∧ l.length ≤ 3) (h : ∀ (i : Nat) (p : Sn), l[i]? = some p → p.offs g = if ownW (g.val : Int) l.length = (i : Int) then x else 0) : sumF l g = x := by
  have ho := ownW_lt (g := (g.val : Int)) (by omega) (len := (l.length : Int)) (by omega)
  have e : l.map (fun p => p.offs g) = (List.range l.length).map fun i => if (ownW (g.val : Int) l.length).toNat = i then x else 0 := by
    refine List.ext_getElem? fun i => ?_
    rw [List.getElem?_map, List.getElem?_map]
    by_cases hi : i < l.length
    · rw [List.getElem?_eq_getElem hi, List.getElem?_range hi]
      show some ((l[i]).offs g) = some (if (ownW (g.val : Int) l.length).toNat = i then x else 0)
      rw [h i _ (List.getElem?_eq_getElem hi)]
      congr 1
      by_cases hg : ownW (g.val : Int) l.length = (i : Int)
      · rw [if_pos hg, if_pos (by omega)]
      · rw [if_neg hg, if_neg (by omega)]
    · rw [List.getElem?_eq_none_iff.2 (by omega), List.getElem?_eq_none_iff.2 (by rw [List.length_range]; omega)]; rfl
  unfold sumF
  rw [e, sum_one, if_pos (by omega)]
theorem keys_was {L : List Sn} (h : wholeE L = 0) {m : Nat} (hm : 1 ≤ m ∧ m ≤ 3) (s k : Int) : wasF (partsL (wholeS L) m m) s k = wasF L s k := by
  have hall := (whole_zero h).1
  rw [was_is (whole_rows h) s k (fun p hp => (right_rows (hall p hp)).1) (whole_mem h)]
  obtain ⟨hE, hS⟩ := parts_whole (whole_right h) ⟨rfl, rfl⟩ hm
  have hm := whole_mem hE
  rw [hS] at hm
  exact was_is (whole_rows h) s k (fun p hp => (right_rows ((whole_zero hE).1 p hp)).1) hm
theorem keys_sum {L : List Sn} (h : wholeE L = 0) {m : Nat} (hm : 1 ≤ m ∧ m ≤ 3) (g : Fin 8) : sumF (partsL (wholeS L) m m) g = sumF L g := by
  obtain ⟨s0, h0, hl3, hop, hp, hw⟩ := whole_win h
  have e1 : sumF L g = offW L g := sum_own hl3 fun i p hi => by
    have := congrArg (fun q => q.offs g) (part_back h hi)
    exact this.symm
  rw [e1]
  refine sum_own (by rw [partsL_len]; exact hm) fun i p hi => ?_
  have hn := (List.getElem?_eq_some_iff.1 hi).1
  rw [partsL_len] at hn ⊢
  rw [parts_at hn] at hi
  cases hi
  rfl
/-- A key whose group is another's is not in a part. -/
theorem keys_none {L : List Sn} {s k i m : Int} (h : wholeE L = 0) (hk : recP s k) (hi : shareP i m) (hn : ¬ mineP s k i m) {g : Fin 8} (hg : (g.val : Int) = k % 8) : getK (partS (wholeS L) i m).rows s k = (0, 0) ∧ (partS (wholeS L) i m).offs g = 0 := by
  have ho : ownW (k % 8) m ≠ i := fun e => hn ⟨hk, hi, e⟩
  refine ⟨getK_miss fun y hy he => ho ?_, ?_⟩
  · have := (partR_mem.1 hy).2
    rw [he.2] at this
    exact this
  · show (if ownW (g.val : Int) m = i then offW L g else 0) = 0
    rw [hg, if_neg ho]
theorem sumF_bound {l : List Sn} {g : Fin 8} (h : ∀ p ∈ l, 0 ≤ p.offs g ∧ p.offs g ≤ 40) : ∀ n, 0 ≤ sumF (l.take n) g ∧ sumF (l.take n) g ≤ 40 * n
  | 0 => ⟨Int.le_refl _, Int.le_refl _⟩
  | n + 1 => by
    have ih := sumF_bound h n
    by_cases hn : n < l.length
    · rw [List.take_succ_eq_append_getElem hn, sumF_snoc]
      have := h _ (List.getElem_mem hn)
      omega
    · rw [List.take_of_length_le (by omega)]
      rw [List.take_of_length_le (by omega)] at ih
      omega
end Go.Proofs.Ytmahldelmbhjfaa
