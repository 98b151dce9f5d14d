/- Snap: numbers as bytes; octet.lay. -/
import Derived.Test.YtmahldelmbhjfaaGreatSnA
namespace Go.Proofs.YtmahldelmbhjfaaGreat.Sn
open Go Go.RowKit
open Sy (C SV V1 Blk St XD Els)
set_option maxRecDepth 10000

def encB (x : Int) : List Value := [.int .u8 x]
def b8 (x : Int) : Int := IntKind.u8.wrap x
/-- The n lowest bytes of x, the highest first. -/
def beN (x : Int) : Nat → List Int
  | 0 => []
  | n + 1 => b8 (x.fdiv (2 ^ (8 * n))) :: beN x n
theorem beN_len (x : Int) : ∀ n, (beN x n).length = n
  | 0 => rfl
  | n + 1 => by rw [beN, List.length_cons, beN_len x n]
theorem beN_get (x : Int) : ∀ (n i : Nat), i < n → (beN x n)[i]? = some (b8 (x.fdiv (2 ^ (8 * (n - 1 - i)))))
  | 0, i, h => absurd h (Nat.not_lt_zero _)
  | n + 1, 0, h => by rw [beN]; simp
  | n + 1, i + 1, h => by rw [beN, List.getElem?_cons_succ, beN_get x n i (by omega), show n + 1 - 1 - (i + 1) = n - 1 - i by omega]
theorem b8_eq (x : Int) : b8 x = x % 256 := by unfold b8; rw [IntKind.wrap_u8]
theorem cloneB_any (v : Value) (bs : List Int) (w : World) (hr : XD.ok (fun b => b < w.heap.size) w ⟨v, 1, bs.length, bs.map encB⟩) (hb : bs.length ≤ 1000000) :
    Calls Tryz.prog 97 #[v] w (Sy.RetRows Sy.noRow (fun _ : Unit => True) (fun _ => [⟨5, 1, bs.length, bs.map encB⟩]) (fun _ vs => vs.headD undef) w) := by
  refine Sy.calls_of Sy.lv97 Sy.tab_ok Tryz.func97 rfl _ Tryz.ntmps97 [⟨v, 1, bs.length, bs.map encB⟩] [.c (.row 0)] rfl rfl rfl ⟨hr, trivial⟩ ?_
  ((repeat' ((conv => whnf);(first|refine zA ?_|(refine zI ?_ ?_<;> intro hh<;> first|(exfalso;omega)|skip)|(refine zl ?_ ?_<;> intro hh)|refine zq ?_|refine zv ?_|refine zu ?_|exact Sy.fin_val fun e=>rfl)));(all_goals (try conv => whnf)))
  refine Sy.nil_of (fun h0 => ?_) ?_
  · ((repeat' ((conv => whnf);(first|refine zA ?_|(refine zI ?_ ?_<;> intro hh<;> first|(exfalso;omega)|skip)|(refine zl ?_ ?_<;> intro hh)|refine zq ?_|refine zv ?_|refine zu ?_|exact Sy.fin_val fun e=>rfl)));(all_goals (try conv => whnf)))
    exact Sy.fin_r1 (.v (.slice none 0 0)) ⟨h0, by rw [List.length_eq_zero_iff] at h0; rw [h0]; rfl⟩
  · ((repeat' ((conv => whnf);(first|refine zA ?_|(refine zI ?_ ?_<;> intro hh<;> first|(exfalso;omega)|skip)|(refine zl ?_ ?_<;> intro hh)|refine zq ?_|refine zv ?_|refine zu ?_|exact Sy.fin_val fun e=>rfl)));(all_goals (try conv => whnf)))
    refine Sy.need_of (by show (0 + bs.length) * 1 ≤ _ ∧ _; omega) ?_
    ((repeat' ((conv => whnf);(first|refine zA ?_|(refine zI ?_ ?_<;> intro hh<;> first|(exfalso;omega)|skip)|(refine zl ?_ ?_<;> intro hh)|refine zq ?_|refine zv ?_|refine zu ?_|exact Sy.fin_val fun e=>rfl)));(all_goals (try conv => whnf)))
    refine Sy.fin_r1 (.row 2) ?_
    show some (Blk.row 5 1 (0 + bs.length) (.vs (bs.map encB))) = _
    rw [Nat.zero_add]
set_option maxHeartbeats 1000000 in
theorem lay_any (v : Value) (bs : List Int) (x : Int) (nb : Nat) (w : World) (hr : XD.ok (fun b => b < w.heap.size) w ⟨v, 1, bs.length, bs.map encB⟩) (hb : bs.length ≤ 100000) (hnb : nb ≤ 8) :
    Calls Tryz.prog 75 #[v, .int .u64 x, .int .i64 ((8 * nb : Nat) : Int)] w (Sy.RetRows Sy.noRow (fun _ : Unit => True) (fun _ => [⟨5, 1, (bs ++ beN x nb).length, (bs ++ beN x nb).map encB⟩]) (fun _ vs => vs.headD undef) w) := by
  refine Sy.calls_of Sy.lv75 Sy.tab_ok Tryz.func75 rfl _ Tryz.ntmps75 [⟨v, 1, bs.length, bs.map encB⟩] [.c (.row 0), .c (.v (.int .u64 x)), .c (.v (.int .i64 ((8 * nb : Nat) : Int)))] rfl rfl rfl ⟨hr, trivial⟩ ?_
  ((repeat' ((conv => whnf);(first|refine zA ?_|(refine zI ?_ ?_<;> intro hh<;> first|(exfalso;omega)|skip)|(refine zl ?_ ?_<;> intro hh)|refine zq ?_|refine zv ?_|refine zu ?_|exact Sy.fin_val fun e=>rfl)));(all_goals (try conv => whnf)))
  refine Sy.call_r1 ⟨5, 1, bs.length, bs.map encB⟩ (fun j => .c (.row j)) Tryz.call97 (fun e a w' h => cloneB_any (e.rv 0) bs w' (Sy.row_reads h (.inr rfl)) (by omega)) ?_
  ((repeat' ((conv => whnf);(first|refine zA ?_|(refine zI ?_ ?_<;> intro hh<;> first|(exfalso;omega)|skip)|(refine zl ?_ ?_<;> intro hh)|refine zq ?_|refine zv ?_|refine zu ?_|exact Sy.fin_val fun e=>rfl)));(all_goals (try conv => whnf)))
  refine Sy.div_in ⟨by omega, by omega⟩ (by decide) ?_
  rw [show ((8 * nb : Nat) : Int) / 8 = (nb : Int) by omega]
  ((repeat' ((conv => whnf);(first|refine zA ?_|(refine zI ?_ ?_<;> intro hh<;> first|(exfalso;omega)|skip)|(refine zl ?_ ?_<;> intro hh)|refine zq ?_|refine zv ?_|refine zu ?_|exact Sy.fin_val fun e=>rfl)));(all_goals (try conv => whnf)))
  refine Sy.loop_inv Sy.tab_ok (fun n : Nat => [(13, .c (.v (.int .i64 n))), (7, .c (.row 1))]) (fun n => [(1, .row 5 1 (bs ++ (beN x nb).take n).length (.vs ((bs ++ (beN x nb).take n).map encB)))]) (fun n => n ≤ nb) (fun n => nb - n) 0 (Nat.zero_le _) ?_ (fun n hn => ?_)
  · rw [List.take_zero, List.append_nil]
    ((repeat' (first|((conv => whnf);done)|((try conv => whnf);first|exact trivial|(refine And.intro ?_ ?_)|rfl|exact fun _ _ _ h=>h|exact fun _ _ _ _=>trivial)));(all_goals (try conv => whnf)))
  · have hbl := beN_len x nb
    have hll : (bs ++ (beN x nb).take n).length = bs.length + n := by rw [List.length_append, List.length_take]; omega
    ((repeat' ((conv => whnf);(first|refine zA ?_|(refine zI ?_ ?_<;> intro hh<;> first|(exfalso;omega)|skip)|(refine zl ?_ ?_<;> intro hh)|refine zq ?_|refine zv ?_|refine zu ?_|exact Sy.fin_val fun e=>rfl)));(all_goals (try conv => whnf)))
    · have hlt : n < nb := by omega
      have hg := beN_get x nb n hlt
      have htk : (beN x nb).take (n + 1) = (beN x nb).take n ++ [b8 (x.fdiv (2 ^ (8 * (nb - 1 - n))))] := by
        rw [List.take_succ_eq_append_getElem (by omega)]
        congr 2
        rw [List.getElem?_eq_getElem (by omega)] at hg
        injection hg
      refine Sy.sh_of (by omega) ?_
      ((repeat' ((conv => whnf);(first|refine zA ?_|(refine zI ?_ ?_<;> intro hh<;> first|(exfalso;omega)|skip)|(refine zl ?_ ?_<;> intro hh)|refine zq ?_|refine zv ?_|refine zu ?_|exact Sy.fin_val fun e=>rfl)));(all_goals (try conv => whnf)))
      rw [show min (((8 * nb : Nat) : Int) - 8 * ((n : Int) + 1)).toNat IntKind.u64.bits = 8 * (nb - 1 - n) by show min _ 64 = _; omega]
      refine Sy.ar_wrap ?_
      ((repeat' ((conv => whnf);(first|refine zA ?_|(refine zI ?_ ?_<;> intro hh<;> first|(exfalso;omega)|skip)|(refine zl ?_ ?_<;> intro hh)|refine zq ?_|refine zv ?_|refine zu ?_|exact Sy.fin_val fun e=>rfl)));(all_goals (try conv => whnf)))
      refine Sy.need_app 1 rfl ⟨by omega, by omega⟩ ?_
      ((repeat' ((conv => whnf);(first|refine zA ?_|(refine zI ?_ ?_<;> intro hh<;> first|(exfalso;omega)|skip)|(refine zl ?_ ?_<;> intro hh)|refine zq ?_|refine zv ?_|refine zu ?_|exact Sy.fin_val fun e=>rfl)));(all_goals (try conv => whnf)))
      refine ⟨n + 1, by omega, by omega, ?_⟩
      rw [htk, ← List.append_assoc]
      ((repeat' (first|((conv => whnf);done)|((try conv => whnf);first|exact trivial|(refine And.intro ?_ ?_)|rfl|exact fun _ _ _ h=>h|exact fun _ _ _ _=>trivial)));(all_goals (try conv => whnf)))
      all_goals (try simp [encB, b8])
      all_goals (try omega)
    · have e : n = nb := by omega
      subst e
      rw [List.take_of_length_le (by omega)]
      exact Sy.fin_r1 (.row 1) rfl
theorem put16_any (v : Value) (bs : List Int) (x : Int) (w : World) (hr : XD.ok (fun b => b < w.heap.size) w ⟨v, 1, bs.length, bs.map encB⟩) (hb : bs.length ≤ 100000) (hx : 0 ≤ x ∧ x < 65536) :
    Calls Tryz.prog 73 #[v, .int .u16 x] w (Sy.RetRows Sy.noRow (fun _ : Unit => True) (fun _ => [⟨5, 1, (bs ++ beN x 2).length, (bs ++ beN x 2).map encB⟩]) (fun _ vs => vs.headD undef) w) := by
  refine Sy.calls_of Sy.lv73 Sy.tab_ok Tryz.func73 rfl _ Tryz.ntmps73 [⟨v, 1, bs.length, bs.map encB⟩] [.c (.row 0), .c (.v (.int .u16 x))] rfl rfl rfl ⟨hr, trivial⟩ ?_
  ((repeat' ((conv => whnf);(first|refine zA ?_|(refine zI ?_ ?_<;> intro hh<;> first|(exfalso;omega)|skip)|(refine zl ?_ ?_<;> intro hh)|refine zq ?_|refine zv ?_|refine zu ?_|exact Sy.fin_val fun e=>rfl)));(all_goals (try conv => whnf)))
  refine Sy.ar_u64 (by omega) ?_
  ((repeat' ((conv => whnf);(first|refine zA ?_|(refine zI ?_ ?_<;> intro hh<;> first|(exfalso;omega)|skip)|(refine zl ?_ ?_<;> intro hh)|refine zq ?_|refine zv ?_|refine zu ?_|exact Sy.fin_val fun e=>rfl)));(all_goals (try conv => whnf)))
  refine Sy.call_r1 ⟨5, 1, (bs ++ beN x 2).length, (bs ++ beN x 2).map encB⟩ (fun j => .c (.row j)) Tryz.call75 (fun e a w' h => lay_any (e.rv 0) bs x 2 w' (Sy.row_reads h (.inr rfl)) hb (by decide)) ?_
  ((repeat' ((conv => whnf);(first|refine zA ?_|(refine zI ?_ ?_<;> intro hh<;> first|(exfalso;omega)|skip)|(refine zl ?_ ?_<;> intro hh)|refine zq ?_|refine zv ?_|refine zu ?_|exact Sy.fin_val fun e=>rfl)));(all_goals (try conv => whnf)))
  exact Sy.fin_r1 (.row 1) rfl
theorem put32_any (v : Value) (bs : List Int) (x : Int) (w : World) (hr : XD.ok (fun b => b < w.heap.size) w ⟨v, 1, bs.length, bs.map encB⟩) (hb : bs.length ≤ 100000) (hx : 0 ≤ x ∧ x < 4294967296) :
    Calls Tryz.prog 43 #[v, .int .u32 x] w (Sy.RetRows Sy.noRow (fun _ : Unit => True) (fun _ => [⟨5, 1, (bs ++ beN x 4).length, (bs ++ beN x 4).map encB⟩]) (fun _ vs => vs.headD undef) w) := by
  refine Sy.calls_of Sy.lv43 Sy.tab_ok Tryz.func43 rfl _ Tryz.ntmps43 [⟨v, 1, bs.length, bs.map encB⟩] [.c (.row 0), .c (.v (.int .u32 x))] rfl rfl rfl ⟨hr, trivial⟩ ?_
  ((repeat' ((conv => whnf);(first|refine zA ?_|(refine zI ?_ ?_<;> intro hh<;> first|(exfalso;omega)|skip)|(refine zl ?_ ?_<;> intro hh)|refine zq ?_|refine zv ?_|refine zu ?_|exact Sy.fin_val fun e=>rfl)));(all_goals (try conv => whnf)))
  refine Sy.ar_u64 (by omega) ?_
  ((repeat' ((conv => whnf);(first|refine zA ?_|(refine zI ?_ ?_<;> intro hh<;> first|(exfalso;omega)|skip)|(refine zl ?_ ?_<;> intro hh)|refine zq ?_|refine zv ?_|refine zu ?_|exact Sy.fin_val fun e=>rfl)));(all_goals (try conv => whnf)))
  refine Sy.call_r1 ⟨5, 1, (bs ++ beN x 4).length, (bs ++ beN x 4).map encB⟩ (fun j => .c (.row j)) Tryz.call75 (fun e a w' h => lay_any (e.rv 0) bs x 4 w' (Sy.row_reads h (.inr rfl)) hb (by decide)) ?_
  ((repeat' ((conv => whnf);(first|refine zA ?_|(refine zI ?_ ?_<;> intro hh<;> first|(exfalso;omega)|skip)|(refine zl ?_ ?_<;> intro hh)|refine zq ?_|refine zv ?_|refine zu ?_|exact Sy.fin_val fun e=>rfl)));(all_goals (try conv => whnf)))
  exact Sy.fin_r1 (.row 1) rfl
theorem put64_any (v : Value) (bs : List Int) (x : Int) (w : World) (hr : XD.ok (fun b => b < w.heap.size) w ⟨v, 1, bs.length, bs.map encB⟩) (hb : bs.length ≤ 100000) :
    Calls Tryz.prog 74 #[v, .int .u64 x] w (Sy.RetRows Sy.noRow (fun _ : Unit => True) (fun _ => [⟨5, 1, (bs ++ beN x 8).length, (bs ++ beN x 8).map encB⟩]) (fun _ vs => vs.headD undef) w) := by
  refine Sy.calls_of Sy.lv74 Sy.tab_ok Tryz.func74 rfl _ Tryz.ntmps74 [⟨v, 1, bs.length, bs.map encB⟩] [.c (.row 0), .c (.v (.int .u64 x))] rfl rfl rfl ⟨hr, trivial⟩ ?_
  ((repeat' ((conv => whnf);(first|refine zA ?_|(refine zI ?_ ?_<;> intro hh<;> first|(exfalso;omega)|skip)|(refine zl ?_ ?_<;> intro hh)|refine zq ?_|refine zv ?_|refine zu ?_|exact Sy.fin_val fun e=>rfl)));(all_goals (try conv => whnf)))
  refine Sy.call_r1 ⟨5, 1, (bs ++ beN x 8).length, (bs ++ beN x 8).map encB⟩ (fun j => .c (.row j)) Tryz.call75 (fun e a w' h => lay_any (e.rv 0) bs x 8 w' (Sy.row_reads h (.inr rfl)) hb (by decide)) ?_
  ((repeat' ((conv => whnf);(first|refine zA ?_|(refine zI ?_ ?_<;> intro hh<;> first|(exfalso;omega)|skip)|(refine zl ?_ ?_<;> intro hh)|refine zq ?_|refine zv ?_|refine zu ?_|exact Sy.fin_val fun e=>rfl)));(all_goals (try conv => whnf)))
  exact Sy.fin_r1 (.row 1) rfl
end Go.Proofs.YtmahldelmbhjfaaGreat.Sn
