/- Plan: groups; the document's Owner, Owns. -/
import Derived.Test.YtcjiaiojkciheaaPA
namespace Go.Proofs.Ytcjiaiojkciheaa
open Go Go.RowKit
open Sy (C SV V1 Blk St XD Els)
set_option maxRecDepth 10000

theorem wid3 {g : List Opr} {n i : Nat} {o : Opr} (hg : goodTo g n) (hi : i < n) (h : g[i]? = some o) : o.width = 1 ∨ o.width = 2 ∨ o.width = 3 := by
  have := widN_good hg hi h
  omega
theorem own_iff (n w : Nat) (wd : Int) (k : Nat) (h : (w : Int) = wd) : ((n : Int) * wd / 8 = (k : Int)) ↔ ownB w k n = true := by
  subst h
  unfold ownB
  rw [beq_iff_eq]
  omega
theorem or_pow (a n : Nat) (h : a < 2 ^ n) (hn : n < 8) : IntKind.u64.wrap ((BitVec.ofInt IntKind.u64.bits (a : Int) ||| BitVec.ofInt IntKind.u64.bits ((2 ^ n : Nat) : Int)).toNat : Int) = ((a + 2 ^ n : Nat) : Int) := by
  have h2n : (2 : Nat) ^ n ≤ 2 ^ 8 := Nat.pow_le_pow_right (by decide) (by omega)
  have hor : a ||| 2 ^ n = a + 2 ^ n := by
    have := Nat.two_pow_add_eq_or_of_lt h 1
    rw [Nat.mul_one] at this
    rw [Nat.or_comm, ← this, Nat.add_comm]
  rw [BitVec.toNat_or]
  show IntKind.u64.wrap (((BitVec.ofInt 64 (a : Int)).toNat ||| (BitVec.ofInt 64 ((2 ^ n : Nat) : Int)).toNat : Nat) : Int) = _
  rw [show (BitVec.ofInt 64 (a : Int)).toNat = a by rw [BitVec.ofInt_natCast, BitVec.toNat_ofNat]; omega]
  rw [show (BitVec.ofInt 64 ((2 ^ n : Nat) : Int)).toNat = 2 ^ n by rw [BitVec.ofInt_natCast, BitVec.toNat_ofNat]; omega]
  rw [hor, IntKind.wrap_u64]
  omega
attribute [local irreducible] maskN subN
set_option maxHeartbeats 2000000 in
theorem groups_any (v : Value) (gl : List OpV) (op idx : Nat) (w : World) (hr : GOk (fun b => b < w.heap.size) w v gl) (_ : gl.length ≤ 100) (hg : goodTo (opsOf gl) gl.length) (ho : op < gl.length) :
    Calls Try.prog 73 #[.agg #[v], .agg #[.int .i64 op, .int .i64 idx]] w (Sy.Ret (.int .u64 (mask (widN (opsOf gl) op) idx)) w) := by
  have hgi := List.getElem?_eq_getElem ho
  generalize gl[op] = o at *
  have hgo := opsOf_get hgi
  have hw := widN_good hg ho hgo
  have hw3 := wid3 hg ho hgo
  refine Sy.calls_of Sy.lv73 Sy.tab_ok Try.func73 rfl _ Try.ntmps73 [⟨v, 5, gl.length, gl.map encOV⟩] [.agg [.row 0], .agg [.v (.int .i64 op), .v (.int .i64 idx)]] rfl rfl rfl ⟨hr.1, trivial⟩ ?_
  ((repeat' ((conv => whnf);(first|refine z1 ?_|refine z2 ?_|refine z3 ?_|refine z4 ?_|refine z5 ?_|refine z6 ?_|refine z7 ?_|refine z8 ?_|refine z9 ?_|refine za ?_|refine zb ?_|refine zc ?_|refine zd ?_|refine ze ?_|refine zf ?_|refine zg ?_|refine zh ?_|((first|refine zi ?_ ?_|refine zj ?_ ?_|refine zk ?_ ?_)<;> intro hh <;> first|(exfalso;omega)|skip)|(refine zl ?_ ?_<;> intro hh)|refine zm ?_|refine zn ?_|refine zo ?_|refine zp ?_|refine zq ?_|refine zv ?_|refine zr ?_|refine zs _ rfl ?_|exact Sy.fin_val (fun e=>rfl))));(all_goals (try conv => whnf)))
  refine Sy.loop_inv Sy.tab_ok (fun n : Nat => [(9, .c (.v (.int .i64 n))), (5, .c (.v (.int .u64 (maskN (widN (opsOf gl) op) idx n))))]) (fun n => []) (fun n => n ≤ 8) (fun n => 8 - n) 0 (Nat.zero_le _) ?_ (fun n hn => ?_)
  · ((repeat' (first|((conv => whnf);done)|((try conv => whnf);first|exact trivial|(refine And.intro ?_ ?_)|rfl|exact fun _ _ _ h=>h|exact fun _ _ _ _=>trivial)));(all_goals (try conv => whnf)))
    rw [show maskN (widN (opsOf gl) op) idx 0 = 0 by unfold maskN; rfl]
    rfl
  · have hlm := maskN_lt (widN (opsOf gl) op) idx n
    ((repeat' ((conv => whnf);(first|refine z1 ?_|refine z2 ?_|refine z3 ?_|refine z4 ?_|refine z5 ?_|refine z6 ?_|refine z7 ?_|refine z8 ?_|refine z9 ?_|refine za ?_|refine zb ?_|refine zc ?_|refine zd ?_|refine ze ?_|refine zf ?_|refine zg ?_|refine zh ?_|((first|refine zi ?_ ?_|refine zj ?_ ?_|refine zk ?_ ?_)<;> intro hh <;> first|(exfalso;omega)|skip)|(refine zl ?_ ?_<;> intro hh)|refine zm ?_|refine zn ?_|refine zo ?_|refine zp ?_|refine zq ?_|refine zv ?_|refine zr ?_|refine zs _ rfl ?_|exact Sy.fin_val (fun e=>rfl))));(all_goals (try conv => whnf)))
    · refine Sy.el_map o hgi ?_
      ((repeat' ((conv => whnf);(first|refine z1 ?_|refine z2 ?_|refine z3 ?_|refine z4 ?_|refine z5 ?_|refine z6 ?_|refine z7 ?_|refine z8 ?_|refine z9 ?_|refine za ?_|refine zb ?_|refine zc ?_|refine zd ?_|refine ze ?_|refine zf ?_|refine zg ?_|refine zh ?_|((first|refine zi ?_ ?_|refine zj ?_ ?_|refine zk ?_ ?_)<;> intro hh <;> first|(exfalso;omega)|skip)|(refine zl ?_ ?_<;> intro hh)|refine zm ?_|refine zn ?_|refine zo ?_|refine zp ?_|refine zq ?_|refine zv ?_|refine zr ?_|refine zs _ rfl ?_|exact Sy.fin_val (fun e=>rfl))));(all_goals (try conv => whnf)))
      refine Sy.call_val (.tup [.c (.v (.int .i64 (n * o.op.width / 8))), .c (.v (.int .i64 0))]) Try.call84 rfl (fun e a w' h => kowner_any n o.op.width w' (by omega) hw3) ?_
      have hiff := own_iff n (widN (opsOf gl) op) o.op.width idx hw.1
      have hst : maskN (widN (opsOf gl) op) idx (n + 1) = maskN (widN (opsOf gl) op) idx n + (if ownB (widN (opsOf gl) op) idx n = true then 2 ^ n else 0) := by rw [maskN]
      by_cases hob : (n : Int) * o.op.width / 8 = (idx : Int)
      · rw [if_pos (hiff.1 hob)] at hst
        ((repeat' ((conv => whnf);(first|refine z1 ?_|refine z2 ?_|refine z3 ?_|refine z4 ?_|refine z5 ?_|refine z6 ?_|refine z7 ?_|refine z8 ?_|refine z9 ?_|refine za ?_|refine zb ?_|refine zc ?_|refine zd ?_|refine ze ?_|refine zf ?_|refine zg ?_|refine zh ?_|((first|refine zi ?_ ?_|refine zj ?_ ?_|refine zk ?_ ?_)<;> intro hh <;> first|(exfalso;omega)|skip)|(refine zl ?_ ?_<;> intro hh)|refine zm ?_|refine zn ?_|refine zo ?_|refine zp ?_|refine zq ?_|refine zv ?_|refine zr ?_|refine zs _ rfl ?_|exact Sy.fin_val (fun e=>rfl))));(all_goals (try conv => whnf)))
        refine Sy.sh_nat ?_
        have h2n : (2 : Nat) ^ n ≤ 2 ^ 8 := Nat.pow_le_pow_right (by decide) (by omega)
        have hpw : (1 : Int) * 2 ^ (min n 64) = ((2 ^ n : Nat) : Int) := by rw [Nat.min_eq_left (by omega), Int.one_mul, Int.natCast_pow]; rfl
        conv => whnf
        refine Sy.ar_u64 (x := 1 * 2 ^ (min n 64)) (by rw [hpw]; constructor <;> omega) ?_
        rw [hpw]
        ((repeat' ((conv => whnf);(first|refine z1 ?_|refine z2 ?_|refine z3 ?_|refine z4 ?_|refine z5 ?_|refine z6 ?_|refine z7 ?_|refine z8 ?_|refine z9 ?_|refine za ?_|refine zb ?_|refine zc ?_|refine zd ?_|refine ze ?_|refine zf ?_|refine zg ?_|refine zh ?_|((first|refine zi ?_ ?_|refine zj ?_ ?_|refine zk ?_ ?_)<;> intro hh <;> first|(exfalso;omega)|skip)|(refine zl ?_ ?_<;> intro hh)|refine zm ?_|refine zn ?_|refine zo ?_|refine zp ?_|refine zq ?_|refine zv ?_|refine zr ?_|refine zs _ rfl ?_|exact Sy.fin_val (fun e=>rfl))));(all_goals (try conv => whnf)))
        refine ⟨n + 1, by omega, by omega, ?_⟩
        rw [or_pow _ n hlm (by omega), hst]
        ((repeat' (first|((conv => whnf);done)|((try conv => whnf);first|exact trivial|(refine And.intro ?_ ?_)|rfl|exact fun _ _ _ h=>h|exact fun _ _ _ _=>trivial)));(all_goals (try conv => whnf)))
      · rw [if_neg (fun h => hob (hiff.2 h)), Nat.add_zero] at hst
        ((repeat' ((conv => whnf);(first|refine z1 ?_|refine z2 ?_|refine z3 ?_|refine z4 ?_|refine z5 ?_|refine z6 ?_|refine z7 ?_|refine z8 ?_|refine z9 ?_|refine za ?_|refine zb ?_|refine zc ?_|refine zd ?_|refine ze ?_|refine zf ?_|refine zg ?_|refine zh ?_|((first|refine zi ?_ ?_|refine zj ?_ ?_|refine zk ?_ ?_)<;> intro hh <;> first|(exfalso;omega)|skip)|(refine zl ?_ ?_<;> intro hh)|refine zm ?_|refine zn ?_|refine zo ?_|refine zp ?_|refine zq ?_|refine zv ?_|refine zr ?_|refine zs _ rfl ?_|exact Sy.fin_val (fun e=>rfl))));(all_goals (try conv => whnf)))
        refine ⟨n + 1, by omega, by omega, ?_⟩
        rw [hst]
        ((repeat' (first|((conv => whnf);done)|((try conv => whnf);first|exact trivial|(refine And.intro ?_ ?_)|rfl|exact fun _ _ _ h=>h|exact fun _ _ _ _=>trivial)));(all_goals (try conv => whnf)))
    · have e : n = 8 := by omega
      subst e
      exact Sy.fin_val (fun e => rfl)
theorem rowner_any (n : Nat) (wd : Int) (w : World) (hn : n < 8) (h1 : wd = 1 ∨ wd = 2 ∨ wd = 3) : Calls Try.prog 46 #[.int .i64 n, .int .i64 wd] w (Sy.Ret (.int .i64 (n * wd / 8)) w) := by
  rcases h1 with rfl | rfl | rfl
  all_goals
    refine Sy.calls_of Sy.lv46 Sy.tab_ok Try.func46 rfl _ Try.ntmps46 [] [.c (.v (.int .i64 n)), .c (.v (.int .i64 _))] rfl rfl rfl trivial ?_
    ((repeat' ((conv => whnf);(first|refine z1 ?_|refine z2 ?_|refine z3 ?_|refine z4 ?_|refine z5 ?_|refine z6 ?_|refine z7 ?_|refine z8 ?_|refine z9 ?_|refine za ?_|refine zb ?_|refine zc ?_|refine zd ?_|refine ze ?_|refine zf ?_|refine zg ?_|refine zh ?_|((first|refine zi ?_ ?_|refine zj ?_ ?_|refine zk ?_ ?_)<;> intro hh <;> first|(exfalso;omega)|skip)|(refine zl ?_ ?_<;> intro hh)|refine zm ?_|refine zn ?_|refine zo ?_|refine zp ?_|refine zq ?_|refine zv ?_|refine zr ?_|refine zs _ rfl ?_|refine zu ?_|exact Sy.fin_val (fun e=>rfl))));(all_goals (try conv => whnf)))
    refine Sy.div_in (by omega) (by omega) ?_
    ((repeat' ((conv => whnf);(first|refine z1 ?_|refine z2 ?_|refine z3 ?_|refine z4 ?_|refine z5 ?_|refine z6 ?_|refine z7 ?_|refine z8 ?_|refine z9 ?_|refine za ?_|refine zb ?_|refine zc ?_|refine zd ?_|refine ze ?_|refine zf ?_|refine zg ?_|refine zh ?_|((first|refine zi ?_ ?_|refine zj ?_ ?_|refine zk ?_ ?_)<;> intro hh <;> first|(exfalso;omega)|skip)|(refine zl ?_ ?_<;> intro hh)|refine zm ?_|refine zn ?_|refine zo ?_|refine zp ?_|refine zq ?_|refine zv ?_|refine zr ?_|refine zs _ rfl ?_|refine zu ?_|exact Sy.fin_val (fun e=>rfl))));(all_goals (try conv => whnf)))
    done
set_option maxHeartbeats 2000000 in
theorem owns_any (v : Value) (gl : List OpV) (op idx n : Nat) (w : World) (hr : GOk (fun b => b < w.heap.size) w v gl) (_ : gl.length ≤ 100) (hg : goodTo (opsOf gl) gl.length) (ho : op < gl.length) (hn : n < 8) :
    Calls Try.prog 17 #[.agg #[v], .agg #[.int .i64 op, .int .i64 idx], .int .i64 n] w (Sy.Ret (.bool (ownB (widN (opsOf gl) op) idx n)) w) := by
  have hgi := List.getElem?_eq_getElem ho
  generalize gl[op] = o at *
  have hgo := opsOf_get hgi
  have hw := widN_good hg ho hgo
  have hw3 := wid3 hg ho hgo
  have hiff := own_iff n (widN (opsOf gl) op) o.op.width idx hw.1
  refine Sy.calls_of Sy.lv17 Sy.tab_ok Try.func17 rfl _ Try.ntmps17 [⟨v, 5, gl.length, gl.map encOV⟩] [.agg [.row 0], .agg [.v (.int .i64 op), .v (.int .i64 idx)], .c (.v (.int .i64 n))] rfl rfl rfl ⟨hr.1, trivial⟩ ?_
  ((repeat' ((conv => whnf);(first|refine z1 ?_|refine z2 ?_|refine z3 ?_|refine z4 ?_|refine z5 ?_|refine z6 ?_|refine z7 ?_|refine z8 ?_|refine z9 ?_|refine za ?_|refine zb ?_|refine zc ?_|refine zd ?_|refine ze ?_|refine zf ?_|refine zg ?_|refine zh ?_|((first|refine zi ?_ ?_|refine zj ?_ ?_|refine zk ?_ ?_)<;> intro hh <;> first|(exfalso;omega)|skip)|(refine zl ?_ ?_<;> intro hh)|refine zm ?_|refine zn ?_|refine zo ?_|refine zp ?_|refine zq ?_|refine zv ?_|refine zr ?_|refine zs _ rfl ?_|exact Sy.fin_val (fun e=>rfl))));(all_goals (try conv => whnf)))
  refine Sy.draw_go [] (by kernel_rfl) ?_
  intro e0
  conv => whnf
  refine zt 0 rfl ?_
  conv => whnf
  refine zt 1 rfl ?_
  conv => whnf
  refine zt 2 rfl ?_
  conv => whnf
  refine zt 3 rfl ?_
  conv => whnf
  refine zt 4 rfl ?_
  conv => whnf
  refine zt 5 rfl ?_
  (conv => whnf);(repeat' ((first|refine z1 ?_|refine z2 ?_|refine z3 ?_|refine z4 ?_|refine z5 ?_|refine z6 ?_|refine z7 ?_|refine z8 ?_|refine z9 ?_|refine za ?_|refine zb ?_|refine zc ?_|refine zd ?_|refine ze ?_|refine zf ?_|refine zg ?_|refine zh ?_|((first|refine zi ?_ ?_|refine zj ?_ ?_|refine zk ?_ ?_)<;> intro hh <;> first|(exfalso;omega)|skip)|(refine zl ?_ ?_<;> intro hh)|refine zm ?_|refine zn ?_|refine zo ?_|refine zp ?_|refine zq ?_|refine zv ?_|refine zr ?_|refine zs _ rfl ?_|refine zu ?_|exact Sy.fin_val (fun e=>rfl));(try conv => whnf)))
  refine zt 6 rfl ?_
  conv => whnf
  refine zt 7 rfl ?_
  conv => whnf
  refine Sy.el_map o hgi ?_
  conv => whnf
  conv => whnf
  refine zt 9 rfl ?_
  conv => whnf
  refine zt 10 rfl ?_
  conv => whnf
  refine zd1 [8] (zx rfl ?_ zy)
  conv => whnf
  refine Sy.call_val (.c (.v (.int .i64 (n * o.op.width / 8)))) Try.call46 rfl (fun e a w' h => rowner_any n o.op.width w' hn hw3) ?_
  conv => whnf
  refine ⟨(by repeat' ((conv => whnf);first|exact trivial|(refine And.intro ?_ ?_)|rfl)), ?_⟩
  refine zt 11 rfl ?_
  (conv => whnf);(repeat' ((first|refine z1 ?_|refine z2 ?_|refine z3 ?_|refine z4 ?_|refine z5 ?_|refine z6 ?_|refine z7 ?_|refine z8 ?_|refine z9 ?_|refine za ?_|refine zb ?_|refine zc ?_|refine zd ?_|refine ze ?_|refine zf ?_|refine zg ?_|refine zh ?_|((first|refine zi ?_ ?_|refine zj ?_ ?_|refine zk ?_ ?_)<;> intro hh <;> first|(exfalso;omega)|skip)|(refine zl ?_ ?_<;> intro hh)|refine zm ?_|refine zn ?_|refine zo ?_|refine zp ?_|refine zq ?_|refine zv ?_|refine zr ?_|refine zs _ rfl ?_|refine zu ?_|exact Sy.fin_val (fun e=>rfl));(try conv => whnf)))
  refine zt 12 rfl ?_
  conv => whnf
  refine zw ?_
  skip
  all_goals (((repeat' ((conv => whnf);(first|refine z1 ?_|refine z2 ?_|refine z3 ?_|refine z4 ?_|refine z5 ?_|refine z6 ?_|refine z7 ?_|refine z8 ?_|refine z9 ?_|refine za ?_|refine zb ?_|refine zc ?_|refine zd ?_|refine ze ?_|refine zf ?_|refine zg ?_|refine zh ?_|((first|refine zi ?_ ?_|refine zj ?_ ?_|refine zk ?_ ?_)<;> intro hh <;> first|(exfalso;omega)|skip)|(refine zl ?_ ?_<;> intro hh)|refine zm ?_|refine zn ?_|refine zo ?_|refine zp ?_|refine zq ?_|refine zv ?_|refine zr ?_|refine zs _ rfl ?_|exact Sy.fin_val (fun e=>rfl))));(all_goals (try conv => whnf))))
  all_goals exact Sy.fin_val (fun e => congrArg Value.bool (by rw [Bool.eq_iff_iff, beq_iff_eq]; exact hiff))
end Go.Proofs.Ytcjiaiojkciheaa
