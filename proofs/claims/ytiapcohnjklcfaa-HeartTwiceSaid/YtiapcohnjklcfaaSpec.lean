/- Heart: hearts and what is done with them, as plain Lean. -/
import Derived.Test.YtiapcohnjklcfaaEnc
namespace Go.Proofs.Ytiapcohnjklcfaa
open Go Go.RowKit

structure Pulse where
  worker : Int
  heard : Int
  down : Bool
deriving DecidableEq
def encP (p : Pulse) : List Value := [.int .i64 p.worker, .int .i64 p.heard, .bool p.down]

/-- One pulse behind another: may it stand there? -/
def pok (now span last : Int) (p : Pulse) : Bool := decide (last < p.worker) && decide (p.worker ≤ 4) && decide (0 ≤ p.heard) && decide (p.heard ≤ now) && (p.down || !decide (span ≤ now - p.heard))
def okStep (now span : Int) (s : Bool × Int) (p : Pulse) : Bool × Int := (s.1 && pok now span s.2 p, p.worker)
def ok0 (now span : Int) : Bool := decide (0 ≤ now) && decide (now ≤ 1099511627776) && decide (1 ≤ span) && decide (span ≤ 100)
def okN (now span : Int) (ps : List Pulse) (n : Nat) : Bool × Int := (ps.take n).foldl (okStep now span) (ok0 now span, 0)
def okH (now span : Int) (ps : List Pulse) : Bool := (ps.foldl (okStep now span) (ok0 now span, 0)).1
def chkE (now span : Int) (ps : List Pulse) : Int := if okH now span ps = true then 0 else 360
theorem okN_zero (now span : Int) (ps : List Pulse) : okN now span ps 0 = (ok0 now span, 0) := rfl
theorem okN_bd (now span : Int) (ps : List Pulse) (n : Nat) : (okN now span ps n).1 = true → 0 ≤ now ∧ now ≤ 1099511627776 ∧ 1 ≤ span ∧ span ≤ 100 := by
  have : ∀ (l : List Pulse) (s : Bool × Int), (l.foldl (okStep now span) s).1 = true → s.1 = true := by
    intro l
    induction l with
    | nil => exact fun s h => h
    | cons p l ih =>
      intro s h
      have := ih _ h
      simp only [okStep, Bool.and_eq_true] at this
      exact this.1
  intro h
  have := this _ _ h
  simpa [ok0, and_assoc] using this
theorem okN_succ (now span : Int) (ps : List Pulse) (n : Nat) (h : n < ps.length) : okN now span ps (n + 1) = okStep now span (okN now span ps n) ps[n] := snoc_fold _ _ _ _ h
theorem okN_all (now span : Int) (ps : List Pulse) : (okN now span ps ps.length).1 = okH now span ps := by rw [okN, List.take_length, okH]
end Go.Proofs.Ytiapcohnjklcfaa
