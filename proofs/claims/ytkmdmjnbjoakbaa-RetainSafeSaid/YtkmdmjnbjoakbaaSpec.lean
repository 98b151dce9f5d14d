/- Retain: shelves and what is done with them, as plain Lean. -/
import Derived.Test.YtkmdmjnbjoakbaaEnc
namespace Go.Proofs.Ytkmdmjnbjoakbaa
open Go Go.RowKit

structure Kp where
  number : Int
  save : Bool
  opn : Bool
deriving DecidableEq
def encK (k : Kp) : List Value := [.int .u64 k.number, .bool k.save, .bool k.opn]
def encU (x : Int) : List Value := [.int .u64 x]
def k0 : Kp := ⟨0, false, false⟩

/-- One row behind another: may it stand there? -/
def kok (l k : Kp) : Bool := decide (l.number < k.number) && decide (k.number ≤ 4611686018427387904) && (!l.opn || k.opn)
def okL (l : Kp) : List Kp → Bool
  | [] => true
  | k :: r => kok l k && okL k r
def ok0 (keep : Int) (n : Nat) : Bool := decide (1 ≤ keep) && decide (keep ≤ 4) && decide (n ≤ 16)
def okS (keep : Int) (ks : List Kp) : Bool := ok0 keep ks.length && okL k0 ks
def chkE (keep : Int) (ks : List Kp) : Int := if okS keep ks = true then 0 else 330
/-- The row ahead of row n. -/
def lastK (ks : List Kp) : Nat → Kp
  | 0 => k0
  | n + 1 => (ks[n]?).getD k0
def lastOf (ks : List Kp) : Kp := lastK ks ks.length

def plainK (k : Kp) : Bool := !k.opn && !k.save
def cntP (ks : List Kp) : Nat := (ks.filter plainK).length
/-- What is kept, and the numbers of what goes. -/
def cutL (keep : Int) : List Kp → List Kp × List Int
  | [] => ([], [])
  | k :: r => if plainK k = true ∧ keep ≤ (cntP r : Int) then ((cutL keep r).1, k.number :: (cutL keep r).2) else (k :: (cutL keep r).1, (cutL keep r).2)

def put1 (keep : Int) (ks : List Kp) (k : Kp) : (Int × List Kp) × List Int × Int :=
  if (cutL keep (ks ++ [k])).1.length ≤ 16 then ((keep, (cutL keep (ks ++ [k])).1), (cutL keep (ks ++ [k])).2, 0) else ((0, []), [], 6)
def putV (keep : Int) (ks : List Kp) (number : Int) (save : Bool) : (Int × List Kp) × List Int × Int :=
  if okS keep ks = true then
    if (lastOf ks).number < number ∧ number ≤ 4611686018427387904 then put1 keep ks ⟨number, save, true⟩ else ((0, []), [], 2)
  else ((0, []), [], 330)

def plc (ks : List Kp) (number : Int) : Option Nat := ks.findIdx? fun k => decide (k.number = number)
/-- Row n behind a change; or the error. -/
def chg (ks : List Kp) (n : Nat) (r : Kp) (kind : Nat) : Kp ⊕ Int :=
  match kind with
  | 0 => if r.opn = true ∧ (n = 0 ∨ (lastK ks n).opn = false) then .inl { r with opn := false } else .inr 331
  | 1 => if r.save = true then .inl { r with save := false } else .inr 2
  | _ => if r.save = true then .inr 5 else .inl { r with save := true }
def turnV (keep : Int) (ks : List Kp) (number : Int) (kind : Nat) : (Int × List Kp) × List Int × Int :=
  if okS keep ks = true then
    match plc ks number with
    | none => ((0, []), [], 4)
    | some n => match chg ks n ((ks[n]?).getD k0) kind with
      | .inr e => ((0, []), [], e)
      | .inl r => ((keep, (cutL keep (ks.set n r)).1), (cutL keep (ks.set n r)).2, 0)
  else ((0, []), [], 330)
def nextV (keep : Int) (ks : List Kp) : Int × Bool := if okS keep ks = true then (match ks.find? (·.opn) with
  | some k => (k.number, true)
  | none => (0, false)) else (0, false)
def savesV (keep : Int) (ks : List Kp) : List Int := if okS keep ks = true then (ks.filter (·.save)).map (·.number) else []
def latestV (keep : Int) (ks : List Kp) : Kp × Bool := if okS keep ks = true ∧ 0 < ks.length then (lastOf ks, true) else (k0, false)

theorem kok_true (l k : Kp) : kok l k = true ↔ l.number < k.number ∧ k.number ≤ 4611686018427387904 ∧ (l.opn = true → k.opn = true) := by
  cases h : l.opn <;> simp [kok, h, and_assoc]
theorem kok_false (l k : Kp) : kok l k = false ↔ ¬ (l.number < k.number ∧ k.number ≤ 4611686018427387904 ∧ (l.opn = true → k.opn = true)) := by
  rw [← kok_true]; simp
theorem okL_get : ∀ (ks : List Kp) (l : Kp), okL l ks = true → ∀ n (h : n < ks.length), kok (match n with | 0 => l | n + 1 => (ks[n]?).getD k0) ks[n] = true
  | k :: r, l, hk, n, h => by
    simp only [okL, Bool.and_eq_true] at hk
    cases n with
    | zero => exact hk.1
    | succ n =>
      have := okL_get r k hk.2 n (by simpa using h)
      cases n with
      | zero => simpa using this
      | succ n => simpa using this
theorem okL_kok {ks : List Kp} (hk : okL k0 ks = true) (n : Nat) (h : n < ks.length) : kok (lastK ks n) ks[n] = true := by
  have := okL_get ks k0 hk n h
  cases n <;> exact this
theorem okL_drop (ks : List Kp) (n : Nat) (h : n < ks.length) (l : Kp) : okL l (ks.drop n) = (kok l ks[n] && okL ks[n] (ks.drop (n + 1))) := by
  rw [List.drop_eq_getElem_cons h]; rfl
theorem lastK_succ (ks : List Kp) (n : Nat) (h : n < ks.length) : lastK ks (n + 1) = ks[n] := by simp [lastK, List.getElem?_eq_getElem h]
theorem lastK_nonneg {ks : List Kp} (hk : okL k0 ks = true) : ∀ n, n ≤ ks.length → 0 ≤ (lastK ks n).number
  | 0, _ => Int.le_refl _
  | n + 1, h => by
    have h1 := (kok_true _ _).1 (okL_kok hk n h)
    have h2 := lastK_nonneg hk n (by omega)
    rw [lastK_succ _ _ h]
    omega
end Go.Proofs.Ytkmdmjnbjoakbaa
