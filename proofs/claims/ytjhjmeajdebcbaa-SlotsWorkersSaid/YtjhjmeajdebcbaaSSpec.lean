/- Slots: rows of two numbers; what is put between, and what is taken out: plain Lean. -/
import Derived.Test.YtjhjmeajdebcbaaEnc
namespace Go.Proofs.Ytjhjmeajdebcbaa
open Go Go.RowKit
open Sy (C SV V1 Blk St XD Els)

def enc2 (p : Int × Int) : List Value := [.int .i64 p.1, .int .i64 p.2]
def insL (ps : List (Int × Int)) (i : Nat) (y : Int × Int) : List (Int × Int) := ps.take i ++ y :: ps.drop i
theorem insL_end (ps : List (Int × Int)) (i : Nat) (y : Int × Int) (h : i = ps.length) : (insL ps i y).map enc2 = ps.map enc2 ++ [enc2 y] := by
  subst h
  simp [insL]
theorem insL_len {ps : List (Int × Int)} {i : Nat} (y : Int × Int) (h : i ≤ ps.length) : (insL ps i y).length = ps.length + 1 := by
  unfold insL
  rw [List.length_append, List.length_cons, List.length_take, List.length_drop]; omega
theorem ins_grown {M : List (List Value)} {n i : Nat} {y z : List Value} (hM : M.length = n) (hi : i ≤ n) (Z L1 : List (List Value)) (hZ : Z = List.take (i - 0) M ++ List.replicate (n + 1 - i) z) (h1 : L1 = List.take (0 + i) Z ++ (List.take 1 [y] ++ List.drop (0 + i + 1) Z)) (R : List (List Value)) :
    List.take (n + 1) (List.take (0 + (i + 1)) L1 ++ (List.take (n - i) (List.take (n - i) (List.drop (0 + i) M)) ++ R)) = List.take i M ++ y :: List.drop i M := by
  have hl : (List.take i M).length = i := by rw [List.length_take]; omega
  have a1 : List.take (0 + i) Z = List.take i M := by rw [hZ, Nat.zero_add, Nat.sub_zero, List.take_append_of_le_length (by omega), List.take_take, Nat.min_self]
  have a2 : List.take (0 + (i + 1)) L1 = List.take i M ++ [y] := by
    rw [h1, a1, Nat.zero_add, ← List.append_assoc]
    rw [List.take_append_of_le_length (by simp; omega)]
    exact List.take_of_length_le (by simp; omega)
  have a3 : List.take (n - i) (List.take (n - i) (List.drop (0 + i) M)) = List.drop i M := by
    rw [List.take_take, Nat.min_self, Nat.zero_add]
    exact List.take_of_length_le (by simp; omega)
  rw [a2, a3, ← List.append_assoc, List.take_append_of_le_length (by simp; omega)]
  rw [List.take_of_length_le (by simp; omega)]
  simp
theorem ins_place {M sp : List (List Value)} {n i : Nat} {y : List Value} (hM : M.length = n) (hi : i ≤ n) (hlt : i + 1 ≤ (M ++ sp).length) (X : List (List Value)) (hX : X = M ++ sp) (X1 : List (List Value))
    (R : List (List Value)) (h1 : X1 = List.take (0 + 0 + (i + 1)) X ++ (List.take (n + 1 - (i + 1)) (List.take (n + 1 - i) (List.drop (0 + 0 + i) X)) ++ R)) (R' : List (List Value)) (hR' : R' = List.drop (0 + 0 + i + 1) X1) :
    List.take (n + 1) (List.take (0 + 0 + i) X1 ++ (List.take 1 [y] ++ R')) = List.take i M ++ y :: List.drop i M := by
  have hX0 : i ≤ X.length := by rw [hX, List.length_append]; omega
  have a1 : List.take (0 + 0 + (i + 1)) X1 = List.take (i + 1) X1 := by rw [show 0 + 0 + (i + 1) = i + 1 by omega]
  have hlM : (List.take i M).length = i := by rw [List.length_take]; omega
  have hti : List.take i X = List.take i M := by rw [hX, List.take_append_of_le_length (by omega)]
  have hmid : List.take (n + 1 - (i + 1)) (List.take (n + 1 - i) (List.drop (0 + 0 + i) X)) = List.drop i M := by
    rw [List.take_take, Nat.min_eq_left (by omega), show 0 + 0 + i = i by omega, hX, List.drop_append_of_le_length (by omega), List.take_append_of_le_length (by rw [List.length_drop]; omega)]
    exact List.take_of_length_le (by rw [List.length_drop]; omega)
  rw [hmid, show 0 + 0 + (i + 1) = i + 1 by omega] at h1
  have hl2 : (List.take (i + 1) X).length = min (i + 1) X.length := by rw [List.length_take]
  have ht : List.take (0 + 0 + i) X1 = List.take i M := by
    rw [show 0 + 0 + i = i by omega, h1, List.take_append_of_le_length (by rw [hl2]; omega), List.take_take, Nat.min_eq_left (by omega), hti]
  rw [ht, hR']
  have hlen : i + 1 ≤ X.length := by rw [hX]; exact hlt
  · have hd : List.drop (0 + 0 + i + 1) X1 = List.drop i M ++ R := by
      rw [show 0 + 0 + i + 1 = i + 1 by omega, h1, List.drop_append_of_le_length (by rw [hl2]; omega), List.drop_eq_nil_of_le (by rw [hl2]; omega), List.nil_append]
    rw [hd]
    rw [← List.append_assoc, ← List.append_assoc]
    rw [List.take_append_of_le_length (by simp; omega), List.take_of_length_le (by simp; omega)]
    simp
theorem map_eraseIdx {α β : Type} (f : α → β) (l : List α) (i : Nat) : (l.eraseIdx i).map f = (l.map f).eraseIdx i := by
  rw [List.eraseIdx_eq_take_drop_succ, List.eraseIdx_eq_take_drop_succ, List.map_append, List.map_take, List.map_drop]
theorem del_mid {M : List (List Value)} {n i : Nat} (hM : M.length = n) (hi : i < n) (R Q : List (List Value)) :
    List.take (n - 1) (List.take (0 + (n - 1)) (List.take (i - 0) M ++ (List.take (n - (i + 1)) (List.drop (0 + (i + 1)) M) ++ R)) ++ Q) = M.eraseIdx i := by
  rw [List.eraseIdx_eq_take_drop_succ, Nat.sub_zero, Nat.zero_add, Nat.zero_add]
  have h1 : List.take (n - (i + 1)) (List.drop (i + 1) M) = List.drop (i + 1) M := List.take_of_length_le (by rw [List.length_drop]; omega)
  rw [h1, ← List.append_assoc, List.take_append_of_le_length (l₁ := List.take i M ++ List.drop (i + 1) M) (by simp; omega), List.take_append_of_le_length (by simp; omega), List.take_take, Nat.min_self]
  exact List.take_of_length_le (by simp; omega)
theorem del_end {M : List (List Value)} {n i : Nat} (hM : M.length = n) (hi : i + 1 = n) (R Q : List (List Value)) :
    List.take (n - 1) (List.take (0 + (n - 1)) (List.take (i - 0) M ++ R) ++ Q) = M.eraseIdx i := by
  rw [List.eraseIdx_eq_take_drop_succ, Nat.sub_zero, Nat.zero_add, show n - 1 = i by omega, List.drop_eq_nil_of_le (show M.length ≤ i + 1 by omega), List.append_nil]
  rw [List.take_append_of_le_length (by simp; omega), List.take_append_of_le_length (by simp; omega), List.take_take, List.take_take, Nat.min_self, Nat.min_self]
theorem half (a b : Nat) : ((a : Int) + (b : Int)).fdiv (2 ^ min 1 IntKind.u64.bits) = (((a + b) / 2 : Nat) : Int) := by
  show ((a : Int) + (b : Int)).fdiv 2 = _
  rw [Int.fdiv_eq_ediv_of_nonneg _ (by omega)]
  omega
def cmp3 (a b : Int) : Int := if a < b then -1 else if b < a then 1 else 0
theorem cmp3_lt {a b : Int} : cmp3 a b < 0 ↔ a < b := by
  unfold cmp3
  split
  · simp [*]
  · split <;> simp [*]
theorem cmp3_eq {a b : Int} : cmp3 a b = 0 ↔ a = b := by
  unfold cmp3
  split
  · simp; omega
  · split <;> simp <;> omega
/-- Rows by rising numbers. -/
def asc (ks : List (Int × Int)) : Prop := ks.Pairwise (fun a b => a.1 < b.1)
theorem asc_lt {ks : List (Int × Int)} (h : asc ks) {i j : Nat} {p q : Int × Int} (hp : ks[i]? = some p) (hq : ks[j]? = some q) (hij : i < j) : p.1 < q.1 := by
  obtain ⟨h1, e1⟩ := List.getElem?_eq_some_iff.1 hp
  obtain ⟨h2, e2⟩ := List.getElem?_eq_some_iff.1 hq
  have := List.pairwise_iff_getElem.1 h i j h1 h2 hij
  rwa [e1, e2] at this
/-- What a search gives: in rows that rise, where one stands or would stand; in others nothing that is not there. -/
def srchP (ks : List (Int × Int)) (x : Int) (r : Nat × Bool) : Prop := r.1 ≤ ks.length ∧ (r.2 = true → ∃ p, ks[r.1]? = some p ∧ p.1 = x) ∧
  (asc ks → (∀ (i : Nat) (p : Int × Int), i < r.1 → ks[i]? = some p → p.1 < x) ∧ (∀ (i : Nat) (p : Int × Int), r.1 ≤ i → ks[i]? = some p → x ≤ p.1) ∧ (r.2 = false → ∀ p ∈ ks, p.1 ≠ x))
def insS (ws : List (Int × Int)) (x : Int × Int) : List (Int × Int) := ws.filter (fun p => decide (p.1 < x.1)) ++ x :: ws.filter (fun p => decide (x.1 < p.1))
theorem ins_eq {ws : List (Int × Int)} {x : Int × Int} {i : Nat} (h1 : ∀ (j : Nat) (p : Int × Int), j < i → ws[j]? = some p → p.1 < x.1) (h2 : ∀ (j : Nat) (p : Int × Int), i ≤ j → ws[j]? = some p → x.1 ≤ p.1) (h3 : ∀ p ∈ ws, p.1 ≠ x.1) : insL ws i x = insS ws x := by
  have hw : ws = ws.take i ++ ws.drop i := (List.take_append_drop i ws).symm
  have ht : ∀ p ∈ ws.take i, p.1 < x.1 := fun p hp => by
    obtain ⟨j, hj⟩ := List.mem_iff_getElem?.1 hp
    have hji : j < i := by
      have := (List.getElem?_eq_some_iff.1 hj).1
      rw [List.length_take] at this; omega
    rw [List.getElem?_take_of_lt hji] at hj
    exact h1 j p hji hj
  have hd : ∀ p ∈ ws.drop i, x.1 < p.1 := fun p hp => by
    obtain ⟨j, hj⟩ := List.mem_iff_getElem?.1 hp
    rw [List.getElem?_drop] at hj
    have := h2 (i + j) p (by omega) hj
    have := h3 p (List.mem_of_getElem? hj)
    omega
  have f1 : ws.filter (fun p => decide (p.1 < x.1)) = ws.take i := by
    conv => lhs; rw [hw]
    rw [List.filter_append, List.filter_eq_self.2 (fun p hp => decide_eq_true (ht p hp)), List.filter_eq_nil_iff.2 (fun p hp => by have := hd p hp; simp; omega), List.append_nil]
  have f2 : ws.filter (fun p => decide (x.1 < p.1)) = ws.drop i := by
    conv => lhs; rw [hw]
    rw [List.filter_append, (List.filter_eq_self (l := ws.drop i)).2 (fun p hp => decide_eq_true (hd p hp)), List.filter_eq_nil_iff.2 (fun p hp => by have := ht p hp; simp; omega), List.nil_append]
  unfold insL insS
  rw [f1, f2]
end Go.Proofs.Ytjhjmeajdebcbaa
