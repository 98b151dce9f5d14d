/- Plan: a bit of a mask: plain Lean. -/
import Derived.Test.YtcjiaiojkciheaaPD
namespace Go.Proofs.Ytcjiaiojkciheaa
open Go Go.RowKit
open Sy (C SV V1 Blk St XD Els)
set_option maxRecDepth 10000

theorem shr_nat (B gr : Nat) (h : gr < 8) : (B : Int).fdiv (2 ^ (min gr IntKind.u64.bits)) = ((B / 2 ^ gr : Nat) : Int) := by
  rw [Nat.min_eq_left (by show gr ≤ 64; omega), Int.fdiv_eq_ediv_of_nonneg _ (Int.pow_nonneg (by decide)), Int.natCast_ediv, Int.natCast_pow]
  rfl
theorem bit_nat {B : Nat} (gr : Nat) (h : B < 256) : IntKind.u64.wrap ((BitVec.ofInt IntKind.u64.bits ((B / 2 ^ gr : Nat) : Int) &&& BitVec.ofInt IntKind.u64.bits (1 : Int)).toNat : Int) = ((B / 2 ^ gr % 2 : Nat) : Int) := by
  have := and_nat (a := B / 2 ^ gr) (b := 1) (Nat.lt_of_le_of_lt (Nat.div_le_self _ _) h) (by omega)
  rw [show ((1 : Nat) : Int) = 1 from rfl] at this
  rw [this, Nat.and_one_is_mod]
end Go.Proofs.Ytcjiaiojkciheaa
