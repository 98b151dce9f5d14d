/- Graph: numbers as bytes; octet.Put64, the document's High. -/
import Derived.Test.YteldohidnepaoaaGJ
namespace Go.Proofs.Yteldohidnepaoaa
open Go Go.RowKit
open Sy (C SV V1 Blk St XD Els)
set_option maxRecDepth 10000

def encB (x : Int) : List Value := [.int .u8 x]
def b8 (x : Int) : Int := IntKind.u8.wrap x
/-- The n lowest bytes of x, the highest first. -/
def beN (x : Int) : Nat → List Int
  | 0 => []
  | n + 1 => b8 (x.fdiv (2 ^ (8 * n))) :: beN x n
theorem beN_len (x : Int) : ∀ n, (beN x n).length = n
  | 0 => rfl
  | n + 1 => by rw [beN, List.length_cons, beN_len x n]
theorem beN_get (x : Int) : ∀ (n i : Nat), i < n → (beN x n)[i]? = some (b8 (x.fdiv (2 ^ (8 * (n - 1 - i)))))
  | 0, i, h => absurd h (Nat.not_lt_zero _)
  | n + 1, 0, h => by rw [beN]; simp
  | n + 1, i + 1, h => by rw [beN, List.getElem?_cons_succ, beN_get x n i (by omega), show n + 1 - 1 - (i + 1) = n - 1 - i by omega]
theorem b8_eq (x : Int) : b8 x = x % 256 := by unfold b8; rw [IntKind.wrap_u8]
theorem cloneB_any (v : Value) (bs : List Int) (w : World) (hr : XD.ok (fun b => b < w.heap.size) w ⟨v, 1, bs.length, bs.map encB⟩) (hb : bs.length ≤ 1000000) :
    Calls Try.prog 72 #[v] w (Sy.RetRows Sy.noRow (fun _ : Unit => True) (fun _ => [⟨5, 1, bs.length, bs.map encB⟩]) (fun _ vs => vs.headD undef) w) := by
  refine Sy.calls_of Sy.lv72 Sy.tab_ok Try.func72 rfl _ Try.ntmps72 [⟨v, 1, bs.length, bs.map encB⟩] [.c (.row 0)] rfl rfl rfl ⟨hr, trivial⟩ ?_
  ((repeat' ((conv => whnf);(first|refine z1 ?_|refine z2 ?_|refine z3 ?_|refine z4 ?_|refine z5 ?_|refine z6 ?_|refine z7 ?_|refine z8 ?_|refine z9 ?_|refine za ?_|refine zb ?_|refine zc ?_|refine zd ?_|refine ze ?_|refine zf ?_|refine zg ?_|refine zh ?_|((first|refine zi ?_ ?_|refine zj ?_ ?_|refine zk ?_ ?_)<;> intro hh <;> first|(exfalso;omega)|skip)|(refine zl ?_ ?_<;> intro hh)|refine zm ?_|refine zn ?_|refine zo ?_|refine zp ?_|refine zq ?_|refine zv ?_|refine zr ?_|refine zs _ rfl ?_|refine zu ?_|exact Sy.fin_val (fun e=>rfl))));(all_goals (try conv => whnf)))
  refine Sy.nil_of (fun h0 => ?_) ?_
  · ((repeat' ((conv => whnf);(first|refine z1 ?_|refine z2 ?_|refine z3 ?_|refine z4 ?_|refine z5 ?_|refine z6 ?_|refine z7 ?_|refine z8 ?_|refine z9 ?_|refine za ?_|refine zb ?_|refine zc ?_|refine zd ?_|refine ze ?_|refine zf ?_|refine zg ?_|refine zh ?_|((first|refine zi ?_ ?_|refine zj ?_ ?_|refine zk ?_ ?_)<;> intro hh <;> first|(exfalso;omega)|skip)|(refine zl ?_ ?_<;> intro hh)|refine zm ?_|refine zn ?_|refine zo ?_|refine zp ?_|refine zq ?_|refine zv ?_|refine zr ?_|refine zs _ rfl ?_|refine zu ?_|exact Sy.fin_val (fun e=>rfl))));(all_goals (try conv => whnf)))
    exact Sy.fin_r1 (.v (.slice none 0 0)) ⟨h0, by rw [List.length_eq_zero_iff] at h0; rw [h0]; rfl⟩
  · ((repeat' ((conv => whnf);(first|refine z1 ?_|refine z2 ?_|refine z3 ?_|refine z4 ?_|refine z5 ?_|refine z6 ?_|refine z7 ?_|refine z8 ?_|refine z9 ?_|refine za ?_|refine zb ?_|refine zc ?_|refine zd ?_|refine ze ?_|refine zf ?_|refine zg ?_|refine zh ?_|((first|refine zi ?_ ?_|refine zj ?_ ?_|refine zk ?_ ?_)<;> intro hh <;> first|(exfalso;omega)|skip)|(refine zl ?_ ?_<;> intro hh)|refine zm ?_|refine zn ?_|refine zo ?_|refine zp ?_|refine zq ?_|refine zv ?_|refine zr ?_|refine zs _ rfl ?_|refine zu ?_|exact Sy.fin_val (fun e=>rfl))));(all_goals (try conv => whnf)))
    refine Sy.need_of (by show (0 + bs.length) * 1 ≤ _ ∧ _; omega) ?_
    ((repeat' ((conv => whnf);(first|refine z1 ?_|refine z2 ?_|refine z3 ?_|refine z4 ?_|refine z5 ?_|refine z6 ?_|refine z7 ?_|refine z8 ?_|refine z9 ?_|refine za ?_|refine zb ?_|refine zc ?_|refine zd ?_|refine ze ?_|refine zf ?_|refine zg ?_|refine zh ?_|((first|refine zi ?_ ?_|refine zj ?_ ?_|refine zk ?_ ?_)<;> intro hh <;> first|(exfalso;omega)|skip)|(refine zl ?_ ?_<;> intro hh)|refine zm ?_|refine zn ?_|refine zo ?_|refine zp ?_|refine zq ?_|refine zv ?_|refine zr ?_|refine zs _ rfl ?_|refine zu ?_|exact Sy.fin_val (fun e=>rfl))));(all_goals (try conv => whnf)))
    refine Sy.fin_r1 (.row 2) ?_
    show some (Blk.row 5 1 (0 + bs.length) (.vs (bs.map encB))) = _
    rw [Nat.zero_add]
set_option maxHeartbeats 1000000 in
theorem put64_any (v : Value) (bs : List Int) (x : Int) (w : World) (hr : XD.ok (fun b => b < w.heap.size) w ⟨v, 1, bs.length, bs.map encB⟩) (hb : bs.length ≤ 100000) :
    Calls Try.prog 34 #[v, .int .u64 x] w (Sy.RetRows Sy.noRow (fun _ : Unit => True) (fun _ => [⟨5, 1, (bs ++ beN x 8).length, (bs ++ beN x 8).map encB⟩]) (fun _ vs => vs.headD undef) w) := by
  refine Sy.calls_of Sy.lv34 Sy.tab_ok Try.func34 rfl _ Try.ntmps34 [⟨v, 1, bs.length, bs.map encB⟩] [.c (.row 0), .c (.v (.int .u64 x))] rfl rfl rfl ⟨hr, trivial⟩ ?_
  ((repeat' ((conv => whnf);(first|refine z1 ?_|refine z2 ?_|refine z3 ?_|refine z4 ?_|refine z5 ?_|refine z6 ?_|refine z7 ?_|refine z8 ?_|refine z9 ?_|refine za ?_|refine zb ?_|refine zc ?_|refine zd ?_|refine ze ?_|refine zf ?_|refine zg ?_|refine zh ?_|((first|refine zi ?_ ?_|refine zj ?_ ?_|refine zk ?_ ?_)<;> intro hh <;> first|(exfalso;omega)|skip)|(refine zl ?_ ?_<;> intro hh)|refine zm ?_|refine zn ?_|refine zo ?_|refine zp ?_|refine zq ?_|refine zv ?_|refine zr ?_|refine zs _ rfl ?_|refine zu ?_|exact Sy.fin_val (fun e=>rfl))));(all_goals (try conv => whnf)))
  refine Sy.call_in Sy.lv54 Sy.tab_ok Try.func54 rfl _ Try.ntmps54 Try.call54 rfl (fun _ => ?_)
  ((repeat' ((conv => whnf);(first|refine z1 ?_|refine z2 ?_|refine z3 ?_|refine z4 ?_|refine z5 ?_|refine z6 ?_|refine z7 ?_|refine z8 ?_|refine z9 ?_|refine za ?_|refine zb ?_|refine zc ?_|refine zd ?_|refine ze ?_|refine zf ?_|refine zg ?_|refine zh ?_|((first|refine zi ?_ ?_|refine zj ?_ ?_|refine zk ?_ ?_)<;> intro hh <;> first|(exfalso;omega)|skip)|(refine zl ?_ ?_<;> intro hh)|refine zm ?_|refine zn ?_|refine zo ?_|refine zp ?_|refine zq ?_|refine zv ?_|refine zr ?_|refine zs _ rfl ?_|refine zu ?_|exact Sy.fin_val (fun e=>rfl))));(all_goals (try conv => whnf)))
  refine Sy.call_r1 ⟨5, 1, bs.length, bs.map encB⟩ (fun j => .c (.row j)) Try.call72 (fun e a w' h => cloneB_any (e.rv 0) bs w' (Sy.row_reads h (.inr rfl)) (by omega)) ?_
  ((repeat' ((conv => whnf);(first|refine z1 ?_|refine z2 ?_|refine z3 ?_|refine z4 ?_|refine z5 ?_|refine z6 ?_|refine z7 ?_|refine z8 ?_|refine z9 ?_|refine za ?_|refine zb ?_|refine zc ?_|refine zd ?_|refine ze ?_|refine zf ?_|refine zg ?_|refine zh ?_|((first|refine zi ?_ ?_|refine zj ?_ ?_|refine zk ?_ ?_)<;> intro hh <;> first|(exfalso;omega)|skip)|(refine zl ?_ ?_<;> intro hh)|refine zm ?_|refine zn ?_|refine zo ?_|refine zp ?_|refine zq ?_|refine zv ?_|refine zr ?_|refine zs _ rfl ?_|refine zu ?_|exact Sy.fin_val (fun e=>rfl))));(all_goals (try conv => whnf)))
  refine Sy.div_in ⟨by omega, by omega⟩ (by decide) ?_
  ((repeat' ((conv => whnf);(first|refine z1 ?_|refine z2 ?_|refine z3 ?_|refine z4 ?_|refine z5 ?_|refine z6 ?_|refine z7 ?_|refine z8 ?_|refine z9 ?_|refine za ?_|refine zb ?_|refine zc ?_|refine zd ?_|refine ze ?_|refine zf ?_|refine zg ?_|refine zh ?_|((first|refine zi ?_ ?_|refine zj ?_ ?_|refine zk ?_ ?_)<;> intro hh <;> first|(exfalso;omega)|skip)|(refine zl ?_ ?_<;> intro hh)|refine zm ?_|refine zn ?_|refine zo ?_|refine zp ?_|refine zq ?_|refine zv ?_|refine zr ?_|refine zs _ rfl ?_|refine zu ?_|exact Sy.fin_val (fun e=>rfl))));(all_goals (try conv => whnf)))
  refine Sy.loop_inv Sy.tab_ok (fun n : Nat => [(13, .c (.v (.int .i64 n))), (7, .c (.row 1))]) (fun n => [(1, .row 5 1 (bs ++ (beN x 8).take n).length (.vs ((bs ++ (beN x 8).take n).map encB)))]) (fun n => n ≤ 8) (fun n => 8 - n) 0 (by decide) ?_ (fun n hn => ?_)
  · rw [List.take_zero, List.append_nil]
    ((repeat' (first|((conv => whnf);done)|((try conv => whnf);first|exact trivial|(refine And.intro ?_ ?_)|rfl)));(all_goals (try conv => whnf)))
  · have hbl := beN_len x 8
    have hll : (bs ++ (beN x 8).take n).length = bs.length + n := by rw [List.length_append, List.length_take]; omega
    ((repeat' ((conv => whnf);(first|refine z1 ?_|refine z2 ?_|refine z3 ?_|refine z4 ?_|refine z5 ?_|refine z6 ?_|refine z7 ?_|refine z8 ?_|refine z9 ?_|refine za ?_|refine zb ?_|refine zc ?_|refine zd ?_|refine ze ?_|refine zf ?_|refine zg ?_|refine zh ?_|((first|refine zi ?_ ?_|refine zj ?_ ?_|refine zk ?_ ?_)<;> intro hh <;> first|(exfalso;omega)|skip)|(refine zl ?_ ?_<;> intro hh)|refine zm ?_|refine zn ?_|refine zo ?_|refine zp ?_|refine zq ?_|refine zv ?_|refine zr ?_|refine zs _ rfl ?_|refine zu ?_|exact Sy.fin_val (fun e=>rfl))));(all_goals (try conv => whnf)))
    · have hlt : n < 8 := by omega
      have hg := beN_get x 8 n hlt
      have htk : (beN x 8).take (n + 1) = (beN x 8).take n ++ [b8 (x.fdiv (2 ^ (8 * (8 - 1 - n))))] := by
        rw [List.take_succ_eq_append_getElem (by omega)]
        congr 2
        rw [List.getElem?_eq_getElem (by omega)] at hg
        injection hg
      refine Sy.sh_of (by omega) ?_
      ((repeat' ((conv => whnf);(first|refine z1 ?_|refine z2 ?_|refine z3 ?_|refine z4 ?_|refine z5 ?_|refine z6 ?_|refine z7 ?_|refine z8 ?_|refine z9 ?_|refine za ?_|refine zb ?_|refine zc ?_|refine zd ?_|refine ze ?_|refine zf ?_|refine zg ?_|refine zh ?_|((first|refine zi ?_ ?_|refine zj ?_ ?_|refine zk ?_ ?_)<;> intro hh <;> first|(exfalso;omega)|skip)|(refine zl ?_ ?_<;> intro hh)|refine zm ?_|refine zn ?_|refine zo ?_|refine zp ?_|refine zq ?_|refine zv ?_|refine zr ?_|refine zs _ rfl ?_|refine zu ?_|exact Sy.fin_val (fun e=>rfl))));(all_goals (try conv => whnf)))
      rw [show min ((64 : Int) - 8 * ((n : Int) + 1)).toNat IntKind.u64.bits = 8 * (8 - 1 - n) by show min _ 64 = _; omega]
      refine Sy.ar_wrap ?_
      ((repeat' ((conv => whnf);(first|refine z1 ?_|refine z2 ?_|refine z3 ?_|refine z4 ?_|refine z5 ?_|refine z6 ?_|refine z7 ?_|refine z8 ?_|refine z9 ?_|refine za ?_|refine zb ?_|refine zc ?_|refine zd ?_|refine ze ?_|refine zf ?_|refine zg ?_|refine zh ?_|((first|refine zi ?_ ?_|refine zj ?_ ?_|refine zk ?_ ?_)<;> intro hh <;> first|(exfalso;omega)|skip)|(refine zl ?_ ?_<;> intro hh)|refine zm ?_|refine zn ?_|refine zo ?_|refine zp ?_|refine zq ?_|refine zv ?_|refine zr ?_|refine zs _ rfl ?_|refine zu ?_|exact Sy.fin_val (fun e=>rfl))));(all_goals (try conv => whnf)))
      refine Sy.need_app 1 rfl ⟨by omega, by omega⟩ ?_
      ((repeat' ((conv => whnf);(first|refine z1 ?_|refine z2 ?_|refine z3 ?_|refine z4 ?_|refine z5 ?_|refine z6 ?_|refine z7 ?_|refine z8 ?_|refine z9 ?_|refine za ?_|refine zb ?_|refine zc ?_|refine zd ?_|refine ze ?_|refine zf ?_|refine zg ?_|refine zh ?_|((first|refine zi ?_ ?_|refine zj ?_ ?_|refine zk ?_ ?_)<;> intro hh <;> first|(exfalso;omega)|skip)|(refine zl ?_ ?_<;> intro hh)|refine zm ?_|refine zn ?_|refine zo ?_|refine zp ?_|refine zq ?_|refine zv ?_|refine zr ?_|refine zs _ rfl ?_|refine zu ?_|exact Sy.fin_val (fun e=>rfl))));(all_goals (try conv => whnf)))
      refine ⟨n + 1, by omega, by omega, ?_⟩
      rw [htk, ← List.append_assoc]
      ((repeat' (first|((conv => whnf);done)|((try conv => whnf);first|exact trivial|(refine And.intro ?_ ?_)|rfl)));(all_goals (try conv => whnf)))
      all_goals (try simp [encB, b8])
      all_goals (try omega)
    · have e : n = 8 := by omega
      subst e
      rw [List.take_of_length_le (by omega)]
      exact Sy.fin_r1 (.row 1) rfl
def highB (x : Int) : Nat → List Int
  | 0 => []
  | n + 1 => highB (x.fdiv 256) n ++ [b8 x]
theorem b8_and (x : Int) (h : 0 ≤ x) : IntKind.u8.wrap (IntKind.u64.wrap ((BitVec.ofInt IntKind.u64.bits x &&& BitVec.ofInt IntKind.u64.bits 255).toNat : Int)) = b8 x := by
  rw [b8_eq, IntKind.wrap_u8, IntKind.wrap_u64]
  obtain ⟨m, rfl⟩ : ∃ m : Nat, x = (m : Int) := ⟨x.toNat, by omega⟩
  have e : (BitVec.ofInt IntKind.u64.bits (m : Int) &&& BitVec.ofInt IntKind.u64.bits 255).toNat = m % 256 := by
    rw [BitVec.toNat_and]
    show (BitVec.ofInt 64 (m : Int)).toNat &&& (BitVec.ofInt 64 255).toNat = _
    rw [show (BitVec.ofInt 64 255).toNat = 2 ^ 8 - 1 by decide, Nat.and_two_pow_sub_one_eq_mod]
    rw [show (BitVec.ofInt 64 (m : Int)).toNat = m % 2 ^ 64 by simp [BitVec.toNat_ofInt]]
    omega
  rw [e]
  omega
theorem beN_succ (x : Int) (hx : 0 ≤ x) : ∀ n, beN x (n + 1) = beN (x.fdiv 256) n ++ [b8 x]
  | 0 => by simp [beN, Int.fdiv_eq_ediv_of_nonneg]
  | n + 1 => by
    rw [beN, beN_succ x hx n, beN, List.cons_append]
    congr 2
    have p1 : (0 : Int) ≤ 2 ^ (8 * (n + 1)) := Int.pow_nonneg (by decide)
    have p2 : (0 : Int) ≤ 2 ^ (8 * n) := Int.pow_nonneg (by decide)
    rw [Int.fdiv_eq_ediv_of_nonneg _ p1, Int.fdiv_eq_ediv_of_nonneg _ (by decide : (0 : Int) ≤ 256), Int.fdiv_eq_ediv_of_nonneg _ p2, Int.ediv_ediv_of_nonneg (by decide)]
    congr 1
    rw [show 8 * (n + 1) = 8 + 8 * n by omega, Int.pow_add]
    rfl
theorem high_any : ∀ (n : Nat) (x : Int) (w : World), 0 ≤ x → n ≤ 100 →
    Calls Try.prog 36 #[.int .u64 x, .int .i64 n] w (Sy.RetRows Sy.noRow (fun _ : Unit => True) (fun _ => [⟨5, 1, (beN x n).length, (beN x n).map encB⟩]) (fun _ vs => vs.headD undef) w)
  | 0, x, w, hx, hn => by
    refine Sy.calls_of Sy.lv36 Sy.tab_ok Try.func36 rfl _ Try.ntmps36 [] [.c (.v (.int .u64 x)), .c (.v (.int .i64 (0 : Nat)))] rfl rfl rfl trivial ?_
    ((repeat' ((conv => whnf);(first|refine z1 ?_|refine z2 ?_|refine z3 ?_|refine z4 ?_|refine z5 ?_|refine z6 ?_|refine z7 ?_|refine z8 ?_|refine z9 ?_|refine za ?_|refine zb ?_|refine zc ?_|refine zd ?_|refine ze ?_|refine zf ?_|refine zg ?_|refine zh ?_|((first|refine zi ?_ ?_|refine zj ?_ ?_|refine zk ?_ ?_)<;> intro hh <;> first|(exfalso;omega)|skip)|(refine zl ?_ ?_<;> intro hh)|refine zm ?_|refine zn ?_|refine zo ?_|refine zp ?_|refine zq ?_|refine zv ?_|refine zr ?_|refine zs _ rfl ?_|refine zu ?_|exact Sy.fin_val (fun e=>rfl))));(all_goals (try conv => whnf)))
    exact Sy.fin_r1 (.v (.slice none 0 0)) ⟨rfl, rfl⟩
  | n + 1, x, w, hx, hn => by
    have hd : 0 ≤ x.fdiv 256 := by rw [Int.fdiv_eq_ediv_of_nonneg _ (by decide)]; omega
    have hl := beN_len (x.fdiv 256) n
    refine Sy.calls_of Sy.lv36 Sy.tab_ok Try.func36 rfl _ Try.ntmps36 [] [.c (.v (.int .u64 x)), .c (.v (.int .i64 (n + 1 : Nat)))] rfl rfl rfl trivial ?_
    ((repeat' ((conv => whnf);(first|refine z1 ?_|refine z2 ?_|refine z3 ?_|refine z4 ?_|refine z5 ?_|refine z6 ?_|refine z7 ?_|refine z8 ?_|refine z9 ?_|refine za ?_|refine zb ?_|refine zc ?_|refine zd ?_|refine ze ?_|refine zf ?_|refine zg ?_|refine zh ?_|((first|refine zi ?_ ?_|refine zj ?_ ?_|refine zk ?_ ?_)<;> intro hh <;> first|(exfalso;omega)|skip)|(refine zl ?_ ?_<;> intro hh)|refine zm ?_|refine zn ?_|refine zo ?_|refine zp ?_|refine zq ?_|refine zv ?_|refine zr ?_|refine zs _ rfl ?_|refine zu ?_|exact Sy.fin_val (fun e=>rfl))));(all_goals (try conv => whnf)))
    refine Sy.sh_nat (y := 8) ?_
    ((repeat' ((conv => whnf);(first|refine z1 ?_|refine z2 ?_|refine z3 ?_|refine z4 ?_|refine z5 ?_|refine z6 ?_|refine z7 ?_|refine z8 ?_|refine z9 ?_|refine za ?_|refine zb ?_|refine zc ?_|refine zd ?_|refine ze ?_|refine zf ?_|refine zg ?_|refine zh ?_|((first|refine zi ?_ ?_|refine zj ?_ ?_|refine zk ?_ ?_)<;> intro hh <;> first|(exfalso;omega)|skip)|(refine zl ?_ ?_<;> intro hh)|refine zm ?_|refine zn ?_|refine zo ?_|refine zp ?_|refine zq ?_|refine zv ?_|refine zr ?_|refine zs _ rfl ?_|refine zu ?_|exact Sy.fin_val (fun e=>rfl))));(all_goals (try conv => whnf)))
    rw [show x.fdiv (2 ^ min 8 IntKind.u64.bits) = x.fdiv 256 from rfl, show ((n + 1 : Nat) : Int) - 1 = (n : Int) by omega]
    refine Sy.call_r1 ⟨5, 1, (beN (x.fdiv 256) n).length, (beN (x.fdiv 256) n).map encB⟩ (fun j => .c (.row j)) Try.call36 (fun e a w' h => high_any n (x.fdiv 256) w' hd (by omega)) ?_
    ((repeat' ((conv => whnf);(first|refine z1 ?_|refine z2 ?_|refine z3 ?_|refine z4 ?_|refine z5 ?_|refine z6 ?_|refine z7 ?_|refine z8 ?_|refine z9 ?_|refine za ?_|refine zb ?_|refine zc ?_|refine zd ?_|refine ze ?_|refine zf ?_|refine zg ?_|refine zh ?_|((first|refine zi ?_ ?_|refine zj ?_ ?_|refine zk ?_ ?_)<;> intro hh <;> first|(exfalso;omega)|skip)|(refine zl ?_ ?_<;> intro hh)|refine zm ?_|refine zn ?_|refine zo ?_|refine zp ?_|refine zq ?_|refine zv ?_|refine zr ?_|refine zs _ rfl ?_|refine zu ?_|exact Sy.fin_val (fun e=>rfl))));(all_goals (try conv => whnf)))
    refine Sy.ar_wrap ?_
    rw [b8_and x hx]
    ((repeat' ((conv => whnf);(first|refine z1 ?_|refine z2 ?_|refine z3 ?_|refine z4 ?_|refine z5 ?_|refine z6 ?_|refine z7 ?_|refine z8 ?_|refine z9 ?_|refine za ?_|refine zb ?_|refine zc ?_|refine zd ?_|refine ze ?_|refine zf ?_|refine zg ?_|refine zh ?_|((first|refine zi ?_ ?_|refine zj ?_ ?_|refine zk ?_ ?_)<;> intro hh <;> first|(exfalso;omega)|skip)|(refine zl ?_ ?_<;> intro hh)|refine zm ?_|refine zn ?_|refine zo ?_|refine zp ?_|refine zq ?_|refine zv ?_|refine zr ?_|refine zs _ rfl ?_|refine zu ?_|exact Sy.fin_val (fun e=>rfl))));(all_goals (try conv => whnf)))
    refine Sy.need_app 1 rfl ⟨by omega, by omega⟩ ?_
    ((repeat' ((conv => whnf);(first|refine z1 ?_|refine z2 ?_|refine z3 ?_|refine z4 ?_|refine z5 ?_|refine z6 ?_|refine z7 ?_|refine z8 ?_|refine z9 ?_|refine za ?_|refine zb ?_|refine zc ?_|refine zd ?_|refine ze ?_|refine zf ?_|refine zg ?_|refine zh ?_|((first|refine zi ?_ ?_|refine zj ?_ ?_|refine zk ?_ ?_)<;> intro hh <;> first|(exfalso;omega)|skip)|(refine zl ?_ ?_<;> intro hh)|refine zm ?_|refine zn ?_|refine zo ?_|refine zp ?_|refine zq ?_|refine zv ?_|refine zr ?_|refine zs _ rfl ?_|refine zu ?_|exact Sy.fin_val (fun e=>rfl))));(all_goals (try conv => whnf)))
    rw [beN_succ x hx n]
    refine Sy.fin_r1 (.row 2) ?_
    show some (Blk.row _ _ _ _) = _
    rw [List.length_append, List.map_append]
    rfl
end Go.Proofs.Yteldohidnepaoaa
