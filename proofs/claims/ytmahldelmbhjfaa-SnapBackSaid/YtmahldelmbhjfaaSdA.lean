/- Snap: the document's bytes. -/
import Derived.Test.YtmahldelmbhjfaaSnO
import Derived.Test.YtmahldelmbhjfaaDrawB
namespace Go.Proofs.Ytmahldelmbhjfaa
open Go Go.RowKit
open Sy (C SV V1 Blk St XD Els)
set_option maxRecDepth 10000

theorem b8_and (x : Int) (h : 0 ≤ x) : IntKind.u8.wrap (IntKind.u64.wrap ((BitVec.ofInt IntKind.u64.bits x &&& BitVec.ofInt IntKind.u64.bits 255).toNat : Int)) = b8 x := by
  rw [b8_eq, IntKind.wrap_u8, IntKind.wrap_u64]
  obtain ⟨m, rfl⟩ : ∃ m : Nat, x = (m : Int) := ⟨x.toNat, by omega⟩
  have e : (BitVec.ofInt IntKind.u64.bits (m : Int) &&& BitVec.ofInt IntKind.u64.bits 255).toNat = m % 256 := by
    rw [BitVec.toNat_and]
    show (BitVec.ofInt 64 (m : Int)).toNat &&& (BitVec.ofInt 64 255).toNat = _
    rw [show (BitVec.ofInt 64 255).toNat = 2 ^ 8 - 1 by decide, Nat.and_two_pow_sub_one_eq_mod]
    rw [show (BitVec.ofInt 64 (m : Int)).toNat = m % 2 ^ 64 by simp [BitVec.toNat_ofInt]]
    omega
  rw [e]
  omega
theorem beN_succ (x : Int) (hx : 0 ≤ x) : ∀ n, beN x (n + 1) = beN (x.fdiv 256) n ++ [b8 x]
  | 0 => by simp [beN, Int.fdiv_eq_ediv_of_nonneg]
  | n + 1 => by
    rw [beN, beN_succ x hx n, beN, List.cons_append]
    congr 2
    have p1 : (0 : Int) ≤ 2 ^ (8 * (n + 1)) := Int.pow_nonneg (by decide)
    have p2 : (0 : Int) ≤ 2 ^ (8 * n) := Int.pow_nonneg (by decide)
    rw [Int.fdiv_eq_ediv_of_nonneg _ p1, Int.fdiv_eq_ediv_of_nonneg _ (by decide : (0 : Int) ≤ 256), Int.fdiv_eq_ediv_of_nonneg _ p2, Int.ediv_ediv_of_nonneg (by decide)]
    congr 1
    rw [show 8 * (n + 1) = 8 + 8 * n by omega, Int.pow_add]
    rfl
theorem high_any : ∀ (n : Nat) (x : Int) (w : World), 0 ≤ x → n ≤ 100 →
    Calls Try.prog 65 #[.int .u64 x, .int .i64 n] w (Sy.RetRows Sy.noRow (fun _ : Unit => True) (fun _ => [⟨5, 1, (beN x n).length, (beN x n).map encB⟩]) (fun _ vs => vs.headD undef) w)
  | 0, x, w, hx, hn => by
    refine Sy.calls_of Sy.lv65 Sy.tab_ok Try.func65 rfl _ Try.ntmps65 [] [.c (.v (.int .u64 x)), .c (.v (.int .i64 (0 : Nat)))] rfl rfl rfl trivial ?_
    ((repeat' ((conv => whnf);(first|refine zA ?_|(refine zI ?_ ?_<;> intro hh<;> first|(exfalso;omega)|skip)|(refine zl ?_ ?_<;> intro hh)|refine zq ?_|refine zv ?_|refine zu ?_|exact Sy.fin_val fun e=>rfl)));(all_goals (try conv => whnf)))
    exact Sy.fin_r1 (.v (.slice none 0 0)) ⟨rfl, rfl⟩
  | n + 1, x, w, hx, hn => by
    have hd : 0 ≤ x.fdiv 256 := by rw [Int.fdiv_eq_ediv_of_nonneg _ (by decide)]; omega
    have hl := beN_len (x.fdiv 256) n
    refine Sy.calls_of Sy.lv65 Sy.tab_ok Try.func65 rfl _ Try.ntmps65 [] [.c (.v (.int .u64 x)), .c (.v (.int .i64 (n + 1 : Nat)))] rfl rfl rfl trivial ?_
    ((repeat' ((conv => whnf);(first|refine zA ?_|(refine zI ?_ ?_<;> intro hh<;> first|(exfalso;omega)|skip)|(refine zl ?_ ?_<;> intro hh)|refine zq ?_|refine zv ?_|refine zu ?_|exact Sy.fin_val fun e=>rfl)));(all_goals (try conv => whnf)))
    refine Sy.sh_nat (y := 8) ?_
    ((repeat' ((conv => whnf);(first|refine zA ?_|(refine zI ?_ ?_<;> intro hh<;> first|(exfalso;omega)|skip)|(refine zl ?_ ?_<;> intro hh)|refine zq ?_|refine zv ?_|refine zu ?_|exact Sy.fin_val fun e=>rfl)));(all_goals (try conv => whnf)))
    rw [show x.fdiv (2 ^ min 8 IntKind.u64.bits) = x.fdiv 256 from rfl, show ((n + 1 : Nat) : Int) - 1 = (n : Int) by omega]
    refine Sy.call_r1 ⟨5, 1, (beN (x.fdiv 256) n).length, (beN (x.fdiv 256) n).map encB⟩ (fun j => .c (.row j)) Try.call65 (fun e a w' h => high_any n (x.fdiv 256) w' hd (by omega)) ?_
    ((repeat' ((conv => whnf);(first|refine zA ?_|(refine zI ?_ ?_<;> intro hh<;> first|(exfalso;omega)|skip)|(refine zl ?_ ?_<;> intro hh)|refine zq ?_|refine zv ?_|refine zu ?_|exact Sy.fin_val fun e=>rfl)));(all_goals (try conv => whnf)))
    refine Sy.ar_wrap ?_
    rw [b8_and x hx]
    ((repeat' ((conv => whnf);(first|refine zA ?_|(refine zI ?_ ?_<;> intro hh<;> first|(exfalso;omega)|skip)|(refine zl ?_ ?_<;> intro hh)|refine zq ?_|refine zv ?_|refine zu ?_|exact Sy.fin_val fun e=>rfl)));(all_goals (try conv => whnf)))
    refine Sy.need_app 1 rfl ⟨by omega, by omega⟩ ?_
    ((repeat' ((conv => whnf);(first|refine zA ?_|(refine zI ?_ ?_<;> intro hh<;> first|(exfalso;omega)|skip)|(refine zl ?_ ?_<;> intro hh)|refine zq ?_|refine zv ?_|refine zu ?_|exact Sy.fin_val fun e=>rfl)));(all_goals (try conv => whnf)))
    rw [beN_succ x hx n]
    refine Sy.fin_r1 (.row 2) ?_
    show some (Blk.row _ _ _ _) = _
    rw [List.length_append, List.map_append]
    rfl
theorem u64w_nonneg (x : Int) : 0 ≤ u64w x := by unfold u64w; rw [IntKind.wrap_u64]; omega
attribute [local irreducible] beN
set_option maxHeartbeats 2000000 in
theorem rtbytes_any (v : Value) (l : List Kc) (w : World) (hr : XD.ok (fun b => b < w.heap.size) w ⟨v, 4, l.length, l.map encK⟩) (hl : tblB l = true) :
    Calls Try.prog 64 #[.agg #[v]] w (Sy.RetRows Sy.noRow (fun _ : Unit => True) (fun _ => [⟨5, 1, (tBs l).length, (tBs l).map encB⟩]) (fun _ vs => vs.headD undef) w) := by
  have hln := rows_len (tbl_rows hl)
  have h20 := beN_len (l.length : Int) 2
  refine Sy.calls_of Sy.lv64 Sy.tab_ok Try.func64 rfl _ Try.ntmps64 [⟨v, 4, l.length, l.map encK⟩] [.agg [.row 0]] rfl rfl rfl ⟨hr, trivial⟩ ?_
  ((repeat' ((conv => whnf);(first|refine zA ?_|(refine zI ?_ ?_<;> intro hh<;> first|(exfalso;omega)|skip)|(refine zl ?_ ?_<;> intro hh)|refine zq ?_|refine zv ?_|refine zu ?_|exact Sy.fin_val fun e=>rfl)));(all_goals (try conv => whnf)))
  refine Sy.ar_wrap ?_
  rw [show IntKind.u64.wrap (l.length : Int) = (l.length : Int) by rw [IntKind.wrap_u64]; omega]
  ((repeat' ((conv => whnf);(first|refine zA ?_|(refine zI ?_ ?_<;> intro hh<;> first|(exfalso;omega)|skip)|(refine zl ?_ ?_<;> intro hh)|refine zq ?_|refine zv ?_|refine zu ?_|exact Sy.fin_val fun e=>rfl)));(all_goals (try conv => whnf)))
  refine Sy.call_r1 ⟨5, 1, (beN l.length 2).length, (beN l.length 2).map encB⟩ (fun j => .c (.row j)) Try.call65 (fun e a w' h => high_any 2 l.length w' (by omega) (by decide)) ?_
  ((repeat' ((conv => whnf);(first|refine zA ?_|(refine zI ?_ ?_<;> intro hh<;> first|(exfalso;omega)|skip)|(refine zl ?_ ?_<;> intro hh)|refine zq ?_|refine zv ?_|refine zu ?_|exact Sy.fin_val fun e=>rfl)));(all_goals (try conv => whnf)))
  refine Sy.loop_inv Sy.tab_ok (fun n : Nat => [(14, .c (.v (.int .i64 n))), (3, .c (.row 2))]) (fun n => [(2, .row 5 1 (tN l n).length (.vs ((tN l n).map encB)))]) (fun n => n ≤ l.length) (fun n => l.length - n) 0 (Nat.zero_le _) ?_ (fun n hn => ?_)
  · rw [show tN l 0 = beN l.length 2 by unfold tN; simp]
    ((repeat' (first|((conv => whnf);done)|((try conv => whnf);first|exact trivial|(refine And.intro ?_ ?_)|rfl|exact fun _ _ _ h=>h|exact fun _ _ _ _=>trivial)));(all_goals (try conv => whnf)))
  · have hgl := tN_len l n hn
    by_cases hlt : n < l.length
    · have hg := List.getElem?_eq_getElem hlt
      generalize l[n] = x at *
      have hs := tN_succ hg
      have hb1 := beN_len (u64w x.cnt) 8
      have hb2 := beN_len (u64w x.sum) 8
      generalize tN l n = G at *
      ((repeat' ((conv => whnf);(first|refine zA ?_|(refine zI ?_ ?_<;> intro hh<;> first|(exfalso;omega)|skip)|(refine zl ?_ ?_<;> intro hh)|refine zq ?_|refine zv ?_|refine zu ?_|exact Sy.fin_val fun e=>rfl)));(all_goals (try conv => whnf)))
      refine Sy.el_map x hg ?_
      ((repeat' ((conv => whnf);(first|refine zA ?_|(refine zI ?_ ?_<;> intro hh<;> first|(exfalso;omega)|skip)|(refine zl ?_ ?_<;> intro hh)|refine zq ?_|refine zv ?_|refine zu ?_|exact Sy.fin_val fun e=>rfl)));(all_goals (try conv => whnf)))
      refine Sy.ar_wrap ?_
      ((repeat' ((conv => whnf);(first|refine zA ?_|(refine zI ?_ ?_<;> intro hh<;> first|(exfalso;omega)|skip)|(refine zl ?_ ?_<;> intro hh)|refine zq ?_|refine zv ?_|refine zu ?_|exact Sy.fin_val fun e=>rfl)));(all_goals (try conv => whnf)))
      refine Sy.ar_wrap ?_
      ((repeat' ((conv => whnf);(first|refine zA ?_|(refine zI ?_ ?_<;> intro hh<;> first|(exfalso;omega)|skip)|(refine zl ?_ ?_<;> intro hh)|refine zq ?_|refine zv ?_|refine zu ?_|exact Sy.fin_val fun e=>rfl)));(all_goals (try conv => whnf)))
      refine Sy.need_app 1 rfl ⟨by omega, by omega⟩ ?_
      have eB : List.map encB G ++ [[.int .u8 (IntKind.u8.wrap x.src)], [.int .u8 (IntKind.u8.wrap x.key)]] = List.map encB (G ++ [b8 x.src, b8 x.key]) := by simp [encB, b8]
      have lB : G.length + 2 = (G ++ [b8 x.src, b8 x.key]).length := by simp
      ((repeat' ((conv => whnf);(first|refine zA ?_|(refine zI ?_ ?_<;> intro hh<;> first|(exfalso;omega)|skip)|(refine zl ?_ ?_<;> intro hh)|refine zq ?_|refine zv ?_|refine zu ?_|exact Sy.fin_val fun e=>rfl)));(all_goals (try conv => whnf)))
      rw [eB, lB]
      have sB : G ++ kBs x = (G ++ [b8 x.src, b8 x.key]) ++ beN (u64w x.cnt) 8 ++ beN (u64w x.sum) 8 := by unfold kBs; simp
      rw [sB] at hs
      have lb : (G ++ [b8 x.src, b8 x.key]).length ≤ 9000 := by rw [← lB]; omega
      generalize G ++ [b8 x.src, b8 x.key] = B at *
      refine Sy.draw_go [5] (by kernel_rfl) ?_
      intro e0
      conv => whnf
      refine zt 0 rfl ?_
      conv => whnf
      refine zt 1 rfl ?_
      conv => whnf
      refine zt 2 rfl ?_
      conv => whnf
      refine zt 3 rfl ?_
      conv => whnf
      refine zt 4 rfl ?_
      (conv => whnf);(repeat' ((first|refine zA ?_|(refine zI ?_ ?_<;> intro hh<;> first|(exfalso;omega)|skip)|(refine zl ?_ ?_<;> intro hh)|refine zq ?_|refine zv ?_|refine zu ?_|exact Sy.fin_val fun e=>rfl);(try conv => whnf)))
      refine Sy.ar_wrap ?_
      conv => whnf
      refine zt 7 rfl ?_
      conv => whnf
      refine zt 8 rfl ?_
      conv => whnf
      refine zt 9 rfl ?_
      conv => whnf
      refine zt 10 rfl ?_
      (conv => whnf);(repeat' ((first|refine zA ?_|(refine zI ?_ ?_<;> intro hh<;> first|(exfalso;omega)|skip)|(refine zl ?_ ?_<;> intro hh)|refine zq ?_|refine zv ?_|refine zu ?_|exact Sy.fin_val fun e=>rfl);(try conv => whnf)))
      refine Sy.ar_wrap ?_
      conv => whnf
      refine zd1 [5] (zx rfl ?_ zy)
      conv => whnf
      refine Sy.call_r1 ⟨5, 1, (beN (u64w x.cnt) 8).length, (beN (u64w x.cnt) 8).map encB⟩ (fun j => .c (.row j)) Try.call65 (fun e a w' h => high_any 8 (u64w x.cnt) w' (u64w_nonneg _) (by decide)) ?_
      conv => whnf
      refine ⟨(by repeat' ((conv => whnf);first|exact trivial|(refine And.intro ?_ ?_)|rfl)), ?_⟩
      refine zd1 [6] (zx rfl ?_ zy)
      conv => whnf
      refine Sy.need_app 1 rfl ⟨by omega, by omega⟩ ?_
      conv => whnf
      refine ⟨(by repeat' ((conv => whnf);first|exact trivial|(refine And.intro ?_ ?_)|rfl)), ?_⟩
      refine zd1 [11] (zx rfl ?_ zy)
      conv => whnf
      refine Sy.call_r1 ⟨5, 1, (beN (u64w x.sum) 8).length, (beN (u64w x.sum) 8).map encB⟩ (fun j => .c (.row j)) Try.call65 (fun e a w' h => high_any 8 (u64w x.sum) w' (u64w_nonneg _) (by decide)) ?_
      conv => whnf
      refine ⟨(by repeat' ((conv => whnf);first|exact trivial|(refine And.intro ?_ ?_)|rfl)), ?_⟩
      refine zd1 [12] (zx rfl ?_ zy)
      conv => whnf
      refine Sy.need_app 1 rfl ⟨by omega, by omega⟩ ?_
      conv => whnf
      refine ⟨(by repeat' ((conv => whnf);first|exact trivial|(refine And.intro ?_ ?_)|rfl)), ?_⟩
      refine zt 13 rfl ?_
      conv => whnf
      refine zw ?_
      skip
      all_goals (((repeat' ((conv => whnf);(first|refine zA ?_|(refine zI ?_ ?_<;> intro hh<;> first|(exfalso;omega)|skip)|(refine zl ?_ ?_<;> intro hh)|refine zq ?_|refine zv ?_|refine zu ?_|exact Sy.fin_val fun e=>rfl)));(all_goals (try conv => whnf))))
      all_goals (refine ⟨n + 1, by omega, by omega, ?_⟩)
      all_goals (rw [hs])
      all_goals (((repeat' (first|((conv => whnf);done)|((try conv => whnf);first|exact trivial|(refine And.intro ?_ ?_)|rfl|exact fun _ _ _ h=>h|exact fun _ _ _ _=>trivial)));(all_goals (try conv => whnf))))
      all_goals first | (simp; done) | (simp; omega)
    · have e : n = l.length := by omega
      subst e
      ((repeat' ((conv => whnf);(first|refine zA ?_|(refine zI ?_ ?_<;> intro hh<;> first|(exfalso;omega)|skip)|(refine zl ?_ ?_<;> intro hh)|refine zq ?_|refine zv ?_|refine zu ?_|exact Sy.fin_val fun e=>rfl)));(all_goals (try conv => whnf)))
      exact Sy.fin_r1 (.row 2) rfl
end Go.Proofs.Ytmahldelmbhjfaa
