/- Snap: what bytes are, as plain Lean. -/
import Derived.Test.YtmahldelmbhjfaaSdB
import Derived.Test.YtmahldelmbhjfaaSdA
import Derived.Test.YtmahldelmbhjfaaMem
namespace Go.Proofs.Ytmahldelmbhjfaa
set_option maxRecDepth 10000

/-- A row, a name, the rows, the names of bytes. -/
def kOf (x : List Int) : Kc := ⟨num (x.take 1), num ((x.drop 1).take 1), IntKind.i64.wrap (num ((x.drop 2).take 8)), IntKind.i64.wrap (num ((x.drop 10).take 8))⟩
def nOf (x : List Int) : Tx := ⟨num (x.take 1), num ((x.drop 1).take 4), num ((x.drop 5).take 4)⟩
def ksOf (b : List Int) (o n : Nat) : List Kc := (List.range n).map fun i => kOf (b.drop (o + 18 * i))
def nsOf (b : List Int) (o n : Nat) : List Tx := (List.range n).map fun i => nOf (b.drop (o + 9 * i))
theorem ksOf_succ (b : List Int) (o n : Nat) : ksOf b o (n + 1) = ksOf b o n ++ [kOf (b.drop (o + 18 * n))] := by unfold ksOf; rw [List.range_succ, List.map_append]; rfl
theorem nsOf_succ (b : List Int) (o n : Nat) : nsOf b o (n + 1) = nsOf b o n ++ [nOf (b.drop (o + 9 * n))] := by unfold nsOf; rw [List.range_succ, List.map_append]; rfl
theorem ksOf_len (b : List Int) (o n : Nat) : (ksOf b o n).length = n := by unfold ksOf; rw [List.length_map, List.length_range]
theorem nsOf_len (b : List Int) (o n : Nat) : (nsOf b o n).length = n := by unfold nsOf; rw [List.length_map, List.length_range]
/-- The number of so many bytes from a place on. -/
def numAt (b : List Int) (o n : Nat) : Int := num ((b.drop o).take n)
theorem numAt_one {b : List Int} {i : Nat} {x : Int} (h : b[i]? = some x) : numAt b i 1 = x := by
  obtain ⟨hi, he⟩ := List.getElem?_eq_some_iff.1 h
  unfold numAt
  rw [List.drop_eq_getElem_cons hi, he]
  show 0 * 256 + x = x
  omega
theorem numAt_two {b : List Int} {i : Nat} {x y : Int} (h : b[i]? = some x) (h2 : b[i + 1]? = some y) : numAt b i 2 = x * 256 + y := by
  obtain ⟨hi, he⟩ := List.getElem?_eq_some_iff.1 h
  obtain ⟨hi2, he2⟩ := List.getElem?_eq_some_iff.1 h2
  unfold numAt
  rw [List.drop_eq_getElem_cons hi, he, List.drop_eq_getElem_cons hi2, he2]
  show (0 * 256 + x) * 256 + y = _
  omega
theorem at_num {b : List Int} {i : Nat} (h : i < b.length) : b[i]? = some (numAt b i 1) := by
  have := List.getElem?_eq_getElem h
  rw [numAt_one this]
  exact this
theorem bytesOk.take {l : List Int} (h : bytesOk l) (n : Nat) : bytesOk (l.take n) := fun x hx => h x (List.mem_of_mem_take hx)
theorem bytesOk.drop {l : List Int} (h : bytesOk l) (n : Nat) : bytesOk (l.drop n) := fun x hx => h x (List.mem_of_mem_drop hx)
theorem numAt_bound {b : List Int} (h : bytesOk b) (o n : Nat) : 0 ≤ numAt b o n ∧ numAt b o n < 256 ^ n := by
  have := num_bound ((h.drop o).take n)
  refine ⟨this.1, Int.lt_of_lt_of_le this.2 ?_⟩
  have hl : ((b.drop o).take n).length ≤ n := List.length_take_le _ _
  have : ((256 ^ ((b.drop o).take n).length : Nat) : Int) ≤ ((256 ^ n : Nat) : Int) := Int.ofNat_le.2 (Nat.pow_le_pow_right (by decide) hl)
  simpa using this
theorem b8_of {x : Int} (h : 0 ≤ x ∧ x < 256) : b8 x = x := by rw [b8_eq]; omega
/-- Bytes are those of their number. -/
theorem beN_num : ∀ {l : List Int}, bytesOk l → beN (num l) l.length = l := by
  intro l
  induction l using snoc_ind with
  | h0 => intro _; rfl
  | h l b ih =>
    intro h
    have hl : bytesOk l := fun x hx => h x (List.mem_append_left _ hx)
    have hb := h b (List.mem_append_right _ (List.mem_singleton.2 rfl))
    have hn := num_bound hl
    rw [num_snoc, List.length_append, List.length_singleton, beN_succ _ (by omega)]
    have e : (num l * 256 + b).fdiv 256 = num l := by rw [Int.fdiv_eq_ediv_of_nonneg _ (by decide)]; omega
    rw [e, ih hl, b8_eq]
    congr 2
    omega
theorem beN_at {b : List Int} (h : bytesOk b) {o n : Nat} (hl : o + n ≤ b.length) : beN (numAt b o n) n = (b.drop o).take n := by
  have := beN_num ((h.drop o).take n)
  rw [List.length_take, List.length_drop, Nat.min_eq_left (by omega)] at this
  exact this
theorem u64_i64 {x : Int} (h : 0 ≤ x ∧ x < 256 ^ 8) : u64w (IntKind.i64.wrap x) = x := by
  have h2 : x < 18446744073709551616 := h.2
  unfold u64w
  rw [IntKind.wrap_u64, IntKind.wrap_i64]
  omega
theorem take_part {l : List Int} (a n m : Nat) (h : a + n = m) : l.take a ++ (l.drop a).take n = l.take m := by rw [← h, List.take_add]
theorem one_byte {b : List Int} (h : bytesOk b) {o : Nat} (hl : o < b.length) : [b8 (numAt b o 1)] = (b.drop o).take 1 := by
  have := beN_at h (o := o) (n := 1) (by omega)
  rw [← this, beN, beN]
  simp [Int.fdiv_eq_ediv_of_nonneg]
theorem kBs_of {x : List Int} (h : bytesOk x) (hl : 18 ≤ x.length) : kBs (kOf x) = x.take 18 := by
  have e0 := one_byte h (o := 0) (by omega)
  have e1 := one_byte h (o := 1) (by omega)
  have e2 := beN_at h (o := 2) (n := 8) (by omega)
  have e3 := beN_at h (o := 10) (n := 8) (by omega)
  unfold kBs kOf
  dsimp only
  rw [show u64w (IntKind.i64.wrap (num ((x.drop 2).take 8))) = num ((x.drop 2).take 8) from u64_i64 (numAt_bound h 2 8), show u64w (IntKind.i64.wrap (num ((x.drop 10).take 8))) = num ((x.drop 10).take 8) from u64_i64 (numAt_bound h 10 8)]
  rw [show [b8 (num (x.take 1)), b8 (num ((x.drop 1).take 1))] = [b8 (numAt x 0 1)] ++ [b8 (numAt x 1 1)] from rfl, e0, e1]
  rw [show beN (num ((x.drop 2).take 8)) 8 = (x.drop 2).take 8 from e2, show beN (num ((x.drop 10).take 8)) 8 = (x.drop 10).take 8 from e3]
  rw [List.drop_zero, take_part 1 1 2 rfl, take_part 2 8 10 rfl, take_part 10 8 18 rfl]
theorem nBs_of {x : List Int} (h : bytesOk x) (hl : 9 ≤ x.length) : nBs (nOf x) = x.take 9 := by
  have e0 := one_byte h (o := 0) (by omega)
  have e1 := beN_at h (o := 1) (n := 4) (by omega)
  have e2 := beN_at h (o := 5) (n := 4) (by omega)
  unfold nBs nOf
  dsimp only
  rw [show [b8 (num (x.take 1))] = [b8 (numAt x 0 1)] from rfl, e0]
  rw [show beN (num ((x.drop 1).take 4)) 4 = (x.drop 1).take 4 from e1, show beN (num ((x.drop 5).take 4)) 4 = (x.drop 5).take 4 from e2]
  rw [List.drop_zero, take_part 1 4 5 rfl, take_part 5 4 9 rfl]
theorem ks_flat {b : List Int} (h : bytesOk b) (o : Nat) : ∀ n, o + 18 * n ≤ b.length → ((ksOf b o n).map kBs).flatten = (b.drop o).take (18 * n)
  | 0, _ => by simp [ksOf]
  | n + 1, hn => by
    rw [ksOf_succ, List.map_append, List.flatten_append, ks_flat h o n (by omega)]
    simp only [List.map_cons, List.map_nil, List.flatten_cons, List.flatten_nil, List.append_nil]
    rw [kBs_of (h.drop _) (by rw [List.length_drop]; omega), ← List.drop_drop, take_part (18 * n) 18 (18 * (n + 1)) (by omega)]
theorem ns_flat {b : List Int} (h : bytesOk b) (o : Nat) : ∀ n, o + 9 * n ≤ b.length → ((nsOf b o n).map nBs).flatten = (b.drop o).take (9 * n)
  | 0, _ => by simp [nsOf]
  | n + 1, hn => by
    rw [nsOf_succ, List.map_append, List.flatten_append, ns_flat h o n (by omega)]
    simp only [List.map_cons, List.map_nil, List.flatten_cons, List.flatten_nil, List.append_nil]
    rw [nBs_of (h.drop _) (by rw [List.length_drop]; omega), ← List.drop_drop, take_part (9 * n) 9 (9 * (n + 1)) (by omega)]
/-- How many rows bytes have from a place on. -/
def cntAt (b : List Int) (o : Nat) : Nat := (numAt b o 2).toNat
theorem cntAt_eq {b : List Int} (h : bytesOk b) (o : Nat) : (cntAt b o : Int) = numAt b o 2 ∧ cntAt b o < 65536 := by
  have := numAt_bound h o 2
  unfold cntAt
  have h2 : numAt b o 2 < 65536 := this.2
  omega
theorem tBs_of {b : List Int} (h : bytesOk b) (o : Nat) (hl : o + 2 + 18 * cntAt b o ≤ b.length) : tBs (ksOf b (o + 2) (cntAt b o)) = (b.drop o).take (2 + 18 * cntAt b o) := by
  have hc := cntAt_eq h o
  unfold tBs tN
  rw [ksOf_len, take_all_of (ksOf_len _ _ _), ks_flat h _ _ hl, hc.1, beN_at h (by omega), ← List.drop_drop, take_part _ _ _ rfl]
 where take_all_of {l : List Kc} {n : Nat} (h : l.length = n) : l.take n = l := by rw [← h, List.take_length]
/-- The table of bytes; the error. -/
def tdE (b : List Int) : Int := if b.length < 2 then 7 else if b.length < 2 + 18 * cntAt b 0 then 7 else if tblB (ksOf b 2 (cntAt b 0)) = true ∧ b.length = 2 + 18 * cntAt b 0 then 0 else 220
def tdV (b : List Int) : List Kc := if tdE b = 0 then ksOf b 2 (cntAt b 0) else []
/-- A snapshot of bytes that are not too short: where its names begin, what it is. -/
def endS (b : List Int) : Nat := 6 + 18 * cntAt b 4
def ntx (b : List Int) : Nat := (numAt b (endS b + 8) 1).toNat
def snOf (b : List Int) : Sn := ⟨numAt b 0 1, numAt b 1 1, numAt b 2 1, numAt b 3 1 == 1, ksOf b 6 (cntAt b 4), fun g => numAt b (endS b + g.val) 1, nsOf b (endS b + 9) (ntx b)⟩
def sdE (b : List Int) : Int := if b.length < 6 then 7 else if b.length ≤ endS b + 8 ∨ b.length < endS b + 9 + 9 * ntx b then 7 else if numAt b 3 1 ≤ 1 ∧ b.length = endS b + 9 + 9 * ntx b ∧ rightP (snOf b) then 0 else 280
def sdV (b : List Int) : Sn := if sdE b = 0 then snOf b else sn0
theorem off_flat {b : List Int} (h : bytesOk b) (e : Nat) : ∀ n, n ≤ 8 → e + n ≤ b.length → oN (fun g => numAt b (e + g.val) 1) n = (b.drop e).take n
  | 0, _, _ => by simp [oN]
  | n + 1, hn, hl => by
    rw [oN_succ, off_flat h e n (by omega) (by omega)]
    have hg : (gI (n : Int)).val = n := by have := gI_val (x := (n : Int)) (by omega); omega
    rw [hg, one_byte h (by omega), ← List.drop_drop, take_part _ _ _ rfl]
/-- The bytes of what bytes tell, when they are not too short. -/
theorem sBs_of {b : List Int} (h : bytesOk b) (h6 : 6 ≤ b.length) (hl : endS b + 9 + 9 * ntx b ≤ b.length) : sBs (snOf b) = b.take 3 ++ [if numAt b 3 1 = 1 then 1 else 0] ++ (b.drop 4).take (endS b + 5 + 9 * ntx b) := by
  have hc := cntAt_eq h 4
  have hn1 := numAt_bound h (endS b + 8) 1
  have hn : (ntx b : Int) = numAt b (endS b + 8) 1 := by unfold ntx; omega
  have hend : endS b = 6 + 18 * cntAt b 4 := rfl
  have e0 := one_byte h (o := 0) (by omega)
  have e1 := one_byte h (o := 1) (by omega)
  have e2 := one_byte h (o := 2) (by omega)
  have et := tBs_of h 4 (by omega)
  have eo := off_flat h (endS b) 8 (by decide) (by omega)
  have en := ns_flat h (endS b + 9) (ntx b) (by omega)
  have eb := one_byte h (o := endS b + 8) (by omega)
  have htl : (snOf b).txs.length = ntx b := nsOf_len _ _ _
  unfold sBs sN
  rw [List.take_length, htl, hn]
  show hBs (snOf b) ++ oN (fun g => numAt b (endS b + g.val) 1) 8 ++ [b8 (numAt b (endS b + 8) 1)] ++ ((nsOf b (endS b + 9) (ntx b)).map nBs).flatten = _
  rw [eo, en, eb]
  unfold hBs
  show [b8 (numAt b 0 1)] ++ ([b8 (numAt b 1 1)] ++ ([b8 (numAt b 2 1)] ++ [if (numAt b 3 1 == 1) = true then 1 else 0])) ++ tBs (ksOf b (4 + 2) (cntAt b 4)) ++ _ ++ _ ++ _ = _
  rw [e0, e1, e2, et]
  have h3 : b.take 3 = (b.drop 0).take 1 ++ ((b.drop 1).take 1 ++ (b.drop 2).take 1) := by
    rw [← List.append_assoc, List.drop_zero, take_part 1 1 2 rfl, take_part 2 1 3 rfl]
  have hr : (b.drop 4).take (endS b + 5 + 9 * ntx b) = (b.drop 4).take (2 + 18 * cntAt b 4) ++ (b.drop (endS b)).take 8 ++ (b.drop (endS b + 8)).take 1 ++ (b.drop (endS b + 9)).take (9 * ntx b) := by
    rw [show b.drop (endS b) = (b.drop 4).drop (2 + 18 * cntAt b 4) by rw [List.drop_drop]; congr 1; omega, take_part _ _ _ rfl, show b.drop (endS b + 8) = (b.drop 4).drop (2 + 18 * cntAt b 4 + 8) by rw [List.drop_drop]; congr 1; omega, take_part _ _ _ rfl, show b.drop (endS b + 9) = (b.drop 4).drop (2 + 18 * cntAt b 4 + 8 + 1) by rw [List.drop_drop]; congr 1; omega, take_part (2 + 18 * cntAt b 4 + 8 + 1) (9 * ntx b) (endS b + 5 + 9 * ntx b) (by omega)]
  rw [h3, hr]
  simp only [List.append_assoc, beq_iff_eq]
/-- They are those bytes where nothing stands behind, and the fourth byte is none or one. -/
theorem sBs_iff {b : List Int} (h : bytesOk b) (h6 : 6 ≤ b.length) (hl : endS b + 9 + 9 * ntx b ≤ b.length) : sBs (snOf b) = b ↔ numAt b 3 1 ≤ 1 ∧ b.length = endS b + 9 + 9 * ntx b := by
  have hend : endS b = 6 + 18 * cntAt b 4 := rfl
  rw [sBs_of h h6 hl]
  have h3 := numAt_bound h 3 1
  have e3 := one_byte h (o := 3) (by omega)
  rw [b8_of ⟨h3.1, h3.2⟩] at e3
  have hsp : b = b.take 3 ++ (b.drop 3).take 1 ++ b.drop 4 := by
    rw [take_part 3 1 4 rfl, List.take_append_drop]
  constructor
  · intro he
    have hlen := congrArg List.length he
    simp only [List.length_append, List.length_take, List.length_drop, List.length_cons, List.length_nil] at hlen
    have h4 := congrArg (fun l => l[3]?) he
    rw [List.append_assoc, List.getElem?_append_right (by rw [List.length_take]; omega), List.length_take, show 3 - min 3 b.length = 0 by omega] at h4
    have h4 : b[3]? = some (if numAt b 3 1 = 1 then 1 else 0) := h4.symm.trans rfl
    have h5 := numAt_one h4
    refine ⟨?_, by omega⟩
    split at h5 <;> omega
  · rintro ⟨h1, h2⟩
    have e : (if numAt b 3 1 = 1 then (1 : Int) else 0) = numAt b 3 1 := by
      have := h3.1
      split <;> omega
    rw [e, e3, List.take_of_length_le (l := b.drop 4) (by rw [List.length_drop]; omega)]
    exact hsp.symm
/-- The table in a snapshot's bytes. -/
theorem td_slice {b : List Int} {o n : Nat} (hn : n = cntAt b o) (hl : o + 2 + 18 * n ≤ b.length) : tdE ((b.drop o).take (2 + 18 * n)) = (if tblB (ksOf b (o + 2) n) = true then 0 else 220) ∧ tdV ((b.drop o).take (2 + 18 * n)) = (if tblB (ksOf b (o + 2) n) = true then ksOf b (o + 2) n else []) := by
  have hlen : ((b.drop o).take (2 + 18 * n)).length = 2 + 18 * n := by rw [List.length_take, List.length_drop]; omega
  have hc : cntAt ((b.drop o).take (2 + 18 * n)) 0 = n := by
    rw [hn]
    unfold cntAt numAt
    rw [List.drop_zero, List.take_take, Nat.min_eq_left (by omega)]
  have hk : ksOf ((b.drop o).take (2 + 18 * n)) 2 n = ksOf b (o + 2) n := by
    unfold ksOf
    refine List.map_congr_left fun i hi => ?_
    have hi := List.mem_range.1 hi
    have hx : ∀ a k, a + k ≤ 18 → ((((b.drop o).take (2 + 18 * n)).drop (2 + 18 * i)).drop a).take k = ((b.drop (o + 2 + 18 * i)).drop a).take k := fun a k h => by
      rw [List.drop_drop, List.drop_take, List.take_take, List.drop_drop, List.drop_drop, Nat.min_eq_left (by omega)]
      congr 2
      omega
    have h0 := hx 0 1 (by decide)
    rw [List.drop_zero, List.drop_zero] at h0
    unfold kOf
    rw [h0, hx 1 1 (by decide), hx 2 8 (by decide), hx 10 8 (by decide)]
  have hE : tdE ((b.drop o).take (2 + 18 * n)) = (if tblB (ksOf b (o + 2) n) = true then 0 else 220) := by
    unfold tdE
    rw [hlen, hc, hk, if_neg (by omega), if_neg (by omega)]
    by_cases ht : tblB (ksOf b (o + 2) n) = true
    · rw [if_pos ⟨ht, rfl⟩, if_pos ht]
    · rw [if_neg (fun h => ht h.1), if_neg ht]
  refine ⟨hE, ?_⟩
  unfold tdV
  rw [hE, hc, hk]
  by_cases ht : tblB (ksOf b (o + 2) n) = true
  · rw [if_pos ht, if_pos rfl, if_pos ht]
  · rw [if_neg ht, if_neg (by decide), if_neg ht]
end Go.Proofs.Ytmahldelmbhjfaa
