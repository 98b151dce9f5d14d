/- Retain: Release, Mark. -/
import Derived.Test.YtkmdmjnbjoakbaaReL
namespace Go.Proofs.Ytkmdmjnbjoakbaa
open Go Go.RowKit
open Sy (C SV V1 Blk St XD Els)
set_option maxRecDepth 10000
attribute [local irreducible] okS chkE
set_option maxHeartbeats 1000000 in
theorem release_any (keep : Int) (v : Value) (ks : List Kp) (number : Int) (w : World) (hr : XD.ok (fun b => b < w.heap.size) w ⟨v, 3, ks.length, ks.map encK⟩) :
    Calls Try.prog 19 #[.agg #[.int .i64 keep, v], .int .u64 number] w (Sy.RetRows Sy.noRow (fun _ : Unit => True) (fun _ => turnR (turnV keep ks number 1)) (fun _ => turnVal (turnV keep ks number 1)) w) := by
  have hl := ok_len hr
  refine Sy.calls_of Sy.lv19 Sy.tab_ok Try.func19 rfl _ Try.ntmps19 [⟨v, 3, ks.length, ks.map encK⟩] [.agg [.v (.int .i64 keep), .row 0], .c (.v (.int .u64 number))] rfl rfl rfl ⟨hr, trivial⟩ ?_
  ((repeat' ((conv => whnf);(first|refine zA ?_|(refine zI ?_ ?_<;> intro hh<;> first|(exfalso;omega)|skip)|(refine zl ?_ ?_<;> intro hh)|refine zq ?_|refine zv ?_|refine zu ?_|exact Sy.fin_val fun e=>rfl)));(all_goals (try conv => whnf)))
  refine Sy.call_in Sy.lv33 Sy.tab_ok Try.func33 rfl _ Try.ntmps33 Try.call33 rfl (fun _ => ?_)
  ((repeat' ((conv => whnf);(first|refine zA ?_|(refine zI ?_ ?_<;> intro hh<;> first|(exfalso;omega)|skip)|(refine zl ?_ ?_<;> intro hh)|refine zq ?_|refine zv ?_|refine zu ?_|exact Sy.fin_val fun e=>rfl)));(all_goals (try conv => whnf)))
  refine Sy.call_in Sy.lv27 Sy.tab_ok Try.func27 rfl _ Try.ntmps27 Try.call27 rfl (fun _ => ?_)
  ((repeat' ((conv => whnf);(first|refine zA ?_|(refine zI ?_ ?_<;> intro hh<;> first|(exfalso;omega)|skip)|(refine zl ?_ ?_<;> intro hh)|refine zq ?_|refine zv ?_|refine zu ?_|exact Sy.fin_val fun e=>rfl)));(all_goals (try conv => whnf)))
  by_cases hk : okS keep ks = true
  · have hb := okS_bd hk
    have hris := okL_rising hb.2.2.2
    have hasc := asc_of hris
    refine Sy.call_val (.c (.v (.int .i64 0))) Try.call24 rfl (fun e a w' h => by have := check_any keep (e.rv 0) ks w' (Sy.row_reads h (.inr rfl)); rw [chkE_ok hk] at this; exact this) ?_
    ((repeat' ((conv => whnf);(first|refine zA ?_|(refine zI ?_ ?_<;> intro hh<;> first|(exfalso;omega)|skip)|(refine zl ?_ ?_<;> intro hh)|refine zq ?_|refine zv ?_|refine zu ?_|exact Sy.fin_val fun e=>rfl)));(all_goals (try conv => whnf)))
    refine Sy.call_r1 ⟨39, 3, ks.length, ks.map encK⟩ (fun k => .c (.row k)) Try.call39 (fun e a w' h => cloneK_any (e.rv 0) ks w' (Sy.row_reads h (.inr rfl)) (by omega)) ?_
    ((repeat' ((conv => whnf);(first|refine zA ?_|(refine zI ?_ ?_<;> intro hh<;> first|(exfalso;omega)|skip)|(refine zl ?_ ?_<;> intro hh)|refine zq ?_|refine zv ?_|refine zu ?_|exact Sy.fin_val fun e=>rfl)));(all_goals (try conv => whnf)))
    refine Sy.call_in Sy.lv42 Sy.tab_ok Try.func42 rfl _ Try.ntmps42 Try.call42 rfl (fun _ => ?_)
    ((repeat' ((conv => whnf);(first|refine zA ?_|(refine zI ?_ ?_<;> intro hh<;> first|(exfalso;omega)|skip)|(refine zl ?_ ?_<;> intro hh)|refine zq ?_|refine zv ?_|refine zu ?_|exact Sy.fin_val fun e=>rfl)));(all_goals (try conv => whnf)))
    refine Sy.draw_go [] (by kernel_rfl) ?_
    intro e0
    conv => whnf
    refine zt 0 rfl ?_
    conv => whnf
    refine zt 1 rfl ?_
    conv => whnf
    refine zt 2 rfl ?_
    conv => whnf
    refine zt 3 rfl ?_
    conv => whnf
    refine zd1 [4] (zx rfl ?_ zy)
    conv => whnf
    refine Sy.call_ex (plcP ks number) (fun r => .tup [.c (.v (.int .i64 r.1)), .c (.v (.bool r.2))]) Try.call43 (fun _ _ => rfl) (fun e a w' h => place_any keep (e.rv 10) ks number w' (Sy.row_reads h (.inl ⟨_, rfl⟩)) hasc (by omega)) (fun r hp => ?_)
    conv => whnf
    refine ⟨(by repeat' ((conv => whnf);first|exact trivial|(refine And.intro ?_ ?_)|rfl)), ?_⟩
    refine zt 5 rfl ?_
    conv => whnf
    refine zt 6 rfl ?_
    conv => whnf
    refine zt 7 rfl ?_
    conv => whnf
    refine zt 8 rfl ?_
    conv => whnf
    refine zt 9 rfl ?_
    conv => whnf
    refine zw ?_
    ((repeat' ((conv => whnf);(first|refine zA ?_|(refine zI ?_ ?_<;> intro hh<;> first|(exfalso;omega)|skip)|(refine zl ?_ ?_<;> intro hh)|refine zq ?_|refine zv ?_|refine zu ?_|exact Sy.fin_val fun e=>rfl)));(all_goals (try conv => whnf)))
    · rcases hp with ⟨h1, n, k, e1, hg, hx⟩ | ⟨h1, h2⟩
      · obtain ⟨i, b⟩ := r
        dsimp only at *
        subst e1
        have hn := (List.getElem?_eq_some_iff.1 hg).1
        have htn := turn_at (kind := 1) hk hasc hg hx
        all_goals (refine Sy.draw_go [10] (by kernel_rfl) ?_; intro e0; conv => whnf)
        all_goals (refine zt 0 rfl ?_)
        all_goals (conv => whnf)
        all_goals (refine zt 1 rfl ?_)
        all_goals (conv => whnf)
        all_goals (refine zt 2 rfl ?_)
        all_goals (conv => whnf)
        all_goals (refine zt 3 rfl ?_)
        all_goals (conv => whnf)
        all_goals (refine zt 4 rfl ?_)
        all_goals (conv => whnf)
        all_goals (refine zt 5 rfl ?_)
        all_goals (conv => whnf)
        all_goals (refine zt 6 rfl ?_)
        all_goals (conv => whnf)
        all_goals (refine zd1 [7] (zx rfl ?_ zy))
        all_goals (conv => whnf)
        all_goals (refine Sy.idx_nat hn ?_)
        all_goals (conv => whnf)
        all_goals (refine ⟨(by repeat' ((conv => whnf);first|exact trivial|(refine And.intro ?_ ?_)|rfl)), ?_⟩)
        all_goals (refine zd1 [8] (zx rfl ?_ zy))
        all_goals (conv => whnf)
        all_goals (refine Sy.call_in Sy.lv36 Sy.tab_ok Try.func36 rfl _ Try.ntmps36 Try.call36 rfl (fun _ => ?_))
        all_goals (((repeat' ((conv => whnf);(first|refine zA ?_|(refine zI ?_ ?_<;> intro hh<;> first|(exfalso;omega)|skip)|(refine zl ?_ ?_<;> intro hh)|refine zq ?_|refine zv ?_|refine zu ?_|exact Sy.fin_val fun e=>rfl)));(all_goals (try conv => whnf))))
        all_goals (refine Sy.el_map k hg ?_)
        all_goals (((repeat' ((conv => whnf);(first|refine zA ?_|(refine zI ?_ ?_<;> intro hh<;> first|(exfalso;omega)|skip)|(refine zl ?_ ?_<;> intro hh)|refine zq ?_|refine zv ?_|refine zu ?_|exact Sy.fin_val fun e=>rfl)));(all_goals (try conv => whnf))))
        all_goals ((try refine Sy.el_map k hg ?_); (try ((repeat' ((conv => whnf);(first|refine zA ?_|(refine zI ?_ ?_<;> intro hh<;> first|(exfalso;omega)|skip)|(refine zl ?_ ?_<;> intro hh)|refine zq ?_|refine zv ?_|refine zu ?_|exact Sy.fin_val fun e=>rfl)));(all_goals (try conv => whnf)))))
        all_goals (refine ⟨(by repeat' ((conv => whnf);first|exact trivial|(refine And.intro ?_ ?_)|rfl)), ?_⟩)
        all_goals (refine zt 9 rfl ?_)
        all_goals (conv => whnf)
        all_goals (refine zw ?_)
        all_goals ((repeat' ((conv => whnf);(first|refine zA ?_|(refine zI ?_ ?_<;> intro hh<;> first|(exfalso;omega)|skip)|(refine zl ?_ ?_<;> intro hh)|refine zq ?_|refine zv ?_|refine zu ?_|exact Sy.fin_val fun e=>rfl)));(all_goals (try conv => whnf)))
        · have hch : chg ks n k 1 = .inl { k with save := false } := by rw [chg1, if_pos (by assumption)]
          rw [hch] at htn
          generalize hr' : ({ k with save := false } : Kp) = r' at *
          have hrn : r'.number = k.number := by rw [← hr']
          have hgone := cut_gone keep hb.1 (ks.set n r')
          have hcnt : cntP (ks.set n r') ≤ ks.length := Nat.le_trans (List.length_filter_le _ _) (Nat.le_of_eq List.length_set)
          have hcl := cut_len keep (ks.set n r')
          rw [List.length_set] at hcl
          refine Sy.call_own (drop_does keep (ks.set n r') (set_rising hris hg hrn) ⟨by omega, by omega⟩ (by rw [List.length_set]; omega) (by omega)) Try.call40 ?_
          ((conv => whnf);(refine And.intro ?_ (And.intro ?_ (And.intro ?_ (And.intro ?_ ?_))));(all_goals ((repeat' (first|((conv => whnf);done)|((try conv => whnf);first|exact trivial|(refine And.intro ?_ ?_)|rfl|exact fun _ _ _ h=>h|exact fun _ _ _ _=>trivial)));(all_goals (try conv => whnf))));rotate_right)
          · intro _ _ _
            ((repeat' ((conv => whnf);(first|refine zA ?_|(refine zI ?_ ?_<;> intro hh<;> first|(exfalso;omega)|skip)|(refine zl ?_ ?_<;> intro hh)|refine zq ?_|refine zv ?_|refine zu ?_|exact Sy.fin_val fun e=>rfl)));(all_goals (try conv => whnf)))
            rw [htn]
            exact Sy.fin_r2 (.row 12) (.row 11) rfl rfl
          · rw [List.length_set]
          · rw [List.map_set, ← hr']; rfl
        · rw [htn, show chg ks n k 1 = .inr 2 by rw [chg1, if_neg (by simp_all)]]
          exact Sy.fin_r2 (.v (.slice none 0 0)) (.v (.slice none 0 0)) ⟨rfl, rfl⟩ ⟨rfl, rfl⟩
      · exfalso; simp_all
    · rcases hp with ⟨h1, n, k, e1, hg, hx⟩ | ⟨h1, h2⟩
      · exfalso; simp_all
      · rw [turn_none hk h2]
        exact Sy.fin_r2 (.v (.slice none 0 0)) (.v (.slice none 0 0)) ⟨rfl, rfl⟩ ⟨rfl, rfl⟩
  · refine Sy.call_val (.c (.v (.int .i64 330))) Try.call24 rfl (fun e a w' h => by have := check_any keep (e.rv 0) ks w' (Sy.row_reads h (.inr rfl)); rw [chkE_no hk] at this; exact this) ?_
    ((repeat' ((conv => whnf);(first|refine zA ?_|(refine zI ?_ ?_<;> intro hh<;> first|(exfalso;omega)|skip)|(refine zl ?_ ?_<;> intro hh)|refine zq ?_|refine zv ?_|refine zu ?_|exact Sy.fin_val fun e=>rfl)));(all_goals (try conv => whnf)))
    rw [turn_bad hk]
    exact Sy.fin_r2 (.v (.slice none 0 0)) (.v (.slice none 0 0)) ⟨rfl, rfl⟩ ⟨rfl, rfl⟩
set_option maxHeartbeats 1000000 in
theorem mark_any (keep : Int) (v : Value) (ks : List Kp) (number : Int) (w : World) (hr : XD.ok (fun b => b < w.heap.size) w ⟨v, 3, ks.length, ks.map encK⟩) :
    Calls Try.prog 20 #[.agg #[.int .i64 keep, v], .int .u64 number] w (Sy.RetRows Sy.noRow (fun _ : Unit => True) (fun _ => [⟨39, 3, (turnV keep ks number 2).1.2.length, (turnV keep ks number 2).1.2.map encK⟩]) (fun _ vs => .tuple #[.agg #[.int .i64 (turnV keep ks number 2).1.1, vs.headD undef], .int .i64 (turnV keep ks number 2).2.2]) w) := by
  have hl := ok_len hr
  refine Sy.calls_of Sy.lv20 Sy.tab_ok Try.func20 rfl _ Try.ntmps20 [⟨v, 3, ks.length, ks.map encK⟩] [.agg [.v (.int .i64 keep), .row 0], .c (.v (.int .u64 number))] rfl rfl rfl ⟨hr, trivial⟩ ?_
  ((repeat' ((conv => whnf);(first|refine zA ?_|(refine zI ?_ ?_<;> intro hh<;> first|(exfalso;omega)|skip)|(refine zl ?_ ?_<;> intro hh)|refine zq ?_|refine zv ?_|refine zu ?_|exact Sy.fin_val fun e=>rfl)));(all_goals (try conv => whnf)))
  refine Sy.call_in Sy.lv33 Sy.tab_ok Try.func33 rfl _ Try.ntmps33 Try.call33 rfl (fun _ => ?_)
  ((repeat' ((conv => whnf);(first|refine zA ?_|(refine zI ?_ ?_<;> intro hh<;> first|(exfalso;omega)|skip)|(refine zl ?_ ?_<;> intro hh)|refine zq ?_|refine zv ?_|refine zu ?_|exact Sy.fin_val fun e=>rfl)));(all_goals (try conv => whnf)))
  refine Sy.call_in Sy.lv27 Sy.tab_ok Try.func27 rfl _ Try.ntmps27 Try.call27 rfl (fun _ => ?_)
  ((repeat' ((conv => whnf);(first|refine zA ?_|(refine zI ?_ ?_<;> intro hh<;> first|(exfalso;omega)|skip)|(refine zl ?_ ?_<;> intro hh)|refine zq ?_|refine zv ?_|refine zu ?_|exact Sy.fin_val fun e=>rfl)));(all_goals (try conv => whnf)))
  by_cases hk : okS keep ks = true
  · have hb := okS_bd hk
    have hris := okL_rising hb.2.2.2
    have hasc := asc_of hris
    refine Sy.call_val (.c (.v (.int .i64 0))) Try.call24 rfl (fun e a w' h => by have := check_any keep (e.rv 0) ks w' (Sy.row_reads h (.inr rfl)); rw [chkE_ok hk] at this; exact this) ?_
    ((repeat' ((conv => whnf);(first|refine zA ?_|(refine zI ?_ ?_<;> intro hh<;> first|(exfalso;omega)|skip)|(refine zl ?_ ?_<;> intro hh)|refine zq ?_|refine zv ?_|refine zu ?_|exact Sy.fin_val fun e=>rfl)));(all_goals (try conv => whnf)))
    refine Sy.call_r1 ⟨39, 3, ks.length, ks.map encK⟩ (fun k => .c (.row k)) Try.call39 (fun e a w' h => cloneK_any (e.rv 0) ks w' (Sy.row_reads h (.inr rfl)) (by omega)) ?_
    ((repeat' ((conv => whnf);(first|refine zA ?_|(refine zI ?_ ?_<;> intro hh<;> first|(exfalso;omega)|skip)|(refine zl ?_ ?_<;> intro hh)|refine zq ?_|refine zv ?_|refine zu ?_|exact Sy.fin_val fun e=>rfl)));(all_goals (try conv => whnf)))
    refine Sy.call_in Sy.lv42 Sy.tab_ok Try.func42 rfl _ Try.ntmps42 Try.call42 rfl (fun _ => ?_)
    ((repeat' ((conv => whnf);(first|refine zA ?_|(refine zI ?_ ?_<;> intro hh<;> first|(exfalso;omega)|skip)|(refine zl ?_ ?_<;> intro hh)|refine zq ?_|refine zv ?_|refine zu ?_|exact Sy.fin_val fun e=>rfl)));(all_goals (try conv => whnf)))
    refine Sy.draw_go [] (by kernel_rfl) ?_
    intro e0
    conv => whnf
    refine zt 0 rfl ?_
    conv => whnf
    refine zt 1 rfl ?_
    conv => whnf
    refine zt 2 rfl ?_
    conv => whnf
    refine zt 3 rfl ?_
    conv => whnf
    refine zd1 [4] (zx rfl ?_ zy)
    conv => whnf
    refine Sy.call_ex (plcP ks number) (fun r => .tup [.c (.v (.int .i64 r.1)), .c (.v (.bool r.2))]) Try.call43 (fun _ _ => rfl) (fun e a w' h => place_any keep (e.rv 10) ks number w' (Sy.row_reads h (.inl ⟨_, rfl⟩)) hasc (by omega)) (fun r hp => ?_)
    conv => whnf
    refine ⟨(by repeat' ((conv => whnf);first|exact trivial|(refine And.intro ?_ ?_)|rfl)), ?_⟩
    refine zt 5 rfl ?_
    conv => whnf
    refine zt 6 rfl ?_
    conv => whnf
    refine zt 7 rfl ?_
    conv => whnf
    refine zt 8 rfl ?_
    conv => whnf
    refine zt 9 rfl ?_
    conv => whnf
    refine zw ?_
    ((repeat' ((conv => whnf);(first|refine zA ?_|(refine zI ?_ ?_<;> intro hh<;> first|(exfalso;omega)|skip)|(refine zl ?_ ?_<;> intro hh)|refine zq ?_|refine zv ?_|refine zu ?_|exact Sy.fin_val fun e=>rfl)));(all_goals (try conv => whnf)))
    · rcases hp with ⟨h1, n, k, e1, hg, hx⟩ | ⟨h1, h2⟩
      · obtain ⟨i, b⟩ := r
        dsimp only at *
        subst e1
        have hn := (List.getElem?_eq_some_iff.1 hg).1
        have htn := turn_at (kind := 2) hk hasc hg hx
        all_goals (refine Sy.draw_go [10] (by kernel_rfl) ?_; intro e0; conv => whnf)
        all_goals (refine zt 0 rfl ?_)
        all_goals (conv => whnf)
        all_goals (refine zt 1 rfl ?_)
        all_goals (conv => whnf)
        all_goals (refine zt 2 rfl ?_)
        all_goals (conv => whnf)
        all_goals (refine zt 3 rfl ?_)
        all_goals (conv => whnf)
        all_goals (refine zt 4 rfl ?_)
        all_goals (conv => whnf)
        all_goals (refine zt 5 rfl ?_)
        all_goals (conv => whnf)
        all_goals (refine zt 6 rfl ?_)
        all_goals (conv => whnf)
        all_goals (refine zd1 [7] (zx rfl ?_ zy))
        all_goals (conv => whnf)
        all_goals (refine Sy.idx_nat hn ?_)
        all_goals (conv => whnf)
        all_goals (refine ⟨(by repeat' ((conv => whnf);first|exact trivial|(refine And.intro ?_ ?_)|rfl)), ?_⟩)
        all_goals (refine zd1 [8] (zx rfl ?_ zy))
        all_goals (conv => whnf)
        all_goals (refine Sy.call_in Sy.lv37 Sy.tab_ok Try.func37 rfl _ Try.ntmps37 Try.call37 rfl (fun _ => ?_))
        all_goals (((repeat' ((conv => whnf);(first|refine zA ?_|(refine zI ?_ ?_<;> intro hh<;> first|(exfalso;omega)|skip)|(refine zl ?_ ?_<;> intro hh)|refine zq ?_|refine zv ?_|refine zu ?_|exact Sy.fin_val fun e=>rfl)));(all_goals (try conv => whnf))))
        all_goals (refine Sy.el_map k hg ?_)
        all_goals (((repeat' ((conv => whnf);(first|refine zA ?_|(refine zI ?_ ?_<;> intro hh<;> first|(exfalso;omega)|skip)|(refine zl ?_ ?_<;> intro hh)|refine zq ?_|refine zv ?_|refine zu ?_|exact Sy.fin_val fun e=>rfl)));(all_goals (try conv => whnf))))
        all_goals (refine Sy.draw_go [] (by kernel_rfl) ?_; intro e0; conv => whnf)
        all_goals (refine zt 0 rfl ?_)
        all_goals (conv => whnf)
        all_goals (refine zt 1 rfl ?_)
        all_goals (conv => whnf)
        all_goals (refine zt 2 rfl ?_)
        all_goals (conv => whnf)
        all_goals (refine Sy.el_map k hg ?_)
        all_goals (conv => whnf)
        all_goals (refine zt 3 rfl ?_)
        all_goals (conv => whnf)
        all_goals (refine zt 4 rfl ?_)
        all_goals ((conv => whnf);(repeat' ((first|refine zA ?_|(refine zI ?_ ?_<;> intro hh<;> first|(exfalso;omega)|skip)|(refine zl ?_ ?_<;> intro hh)|refine zq ?_|refine zv ?_|refine zu ?_|exact Sy.fin_val fun e=>rfl);(try conv => whnf))))
        all_goals (refine zw ?_)
        all_goals (((repeat' ((conv => whnf);(first|refine zA ?_|(refine zI ?_ ?_<;> intro hh<;> first|(exfalso;omega)|skip)|(refine zl ?_ ?_<;> intro hh)|refine zq ?_|refine zv ?_|refine zu ?_|exact Sy.fin_val fun e=>rfl)));(all_goals (try conv => whnf))))
        all_goals ((try refine Sy.el_map k hg ?_); (try ((repeat' ((conv => whnf);(first|refine zA ?_|(refine zI ?_ ?_<;> intro hh<;> first|(exfalso;omega)|skip)|(refine zl ?_ ?_<;> intro hh)|refine zq ?_|refine zv ?_|refine zu ?_|exact Sy.fin_val fun e=>rfl)));(all_goals (try conv => whnf)))))
        all_goals (refine ⟨(by repeat' ((conv => whnf);first|exact trivial|(refine And.intro ?_ ?_)|rfl)), ?_⟩)
        all_goals (refine zt 9 rfl ?_)
        all_goals (conv => whnf)
        all_goals (refine zw ?_)
        all_goals ((repeat' ((conv => whnf);(first|refine zA ?_|(refine zI ?_ ?_<;> intro hh<;> first|(exfalso;omega)|skip)|(refine zl ?_ ?_<;> intro hh)|refine zq ?_|refine zv ?_|refine zu ?_|exact Sy.fin_val fun e=>rfl)));(all_goals (try conv => whnf)))
        · rw [htn, show chg ks n k 2 = .inr 5 by rw [chg2, if_pos (by simp_all)]]
          exact Sy.fin_r1 (.v (.slice none 0 0)) ⟨rfl, rfl⟩
        · have hch : chg ks n k 2 = .inl { k with save := true } := by rw [chg2, if_neg (by simp_all)]
          rw [hch] at htn
          generalize hr' : ({ k with save := true } : Kp) = r' at *
          have hrn : r'.number = k.number := by rw [← hr']
          have hgone := cut_gone keep hb.1 (ks.set n r')
          have hcnt : cntP (ks.set n r') ≤ ks.length := Nat.le_trans (List.length_filter_le _ _) (Nat.le_of_eq List.length_set)
          have hcl := cut_len keep (ks.set n r')
          rw [List.length_set] at hcl
          refine Sy.call_own (drop_does keep (ks.set n r') (set_rising hris hg hrn) ⟨by omega, by omega⟩ (by rw [List.length_set]; omega) (by omega)) Try.call40 ?_
          ((conv => whnf);(refine And.intro ?_ (And.intro ?_ (And.intro ?_ (And.intro ?_ ?_))));(all_goals ((repeat' (first|((conv => whnf);done)|((try conv => whnf);first|exact trivial|(refine And.intro ?_ ?_)|rfl|exact fun _ _ _ h=>h|exact fun _ _ _ _=>trivial)));(all_goals (try conv => whnf))));rotate_right)
          · intro _ _ _
            ((repeat' ((conv => whnf);(first|refine zA ?_|(refine zI ?_ ?_<;> intro hh<;> first|(exfalso;omega)|skip)|(refine zl ?_ ?_<;> intro hh)|refine zq ?_|refine zv ?_|refine zu ?_|exact Sy.fin_val fun e=>rfl)));(all_goals (try conv => whnf)))
            rw [htn]
            exact Sy.fin_r1 (.row 13) rfl
          · rw [List.length_set]
          · rw [List.map_set, ← hr']; rfl
        · have hch : chg ks n k 2 = .inl { k with save := true } := by rw [chg2, if_neg (by simp_all)]
          rw [hch] at htn
          generalize hr' : ({ k with save := true } : Kp) = r' at *
          have hrn : r'.number = k.number := by rw [← hr']
          have hgone := cut_gone keep hb.1 (ks.set n r')
          have hcnt : cntP (ks.set n r') ≤ ks.length := Nat.le_trans (List.length_filter_le _ _) (Nat.le_of_eq List.length_set)
          have hcl := cut_len keep (ks.set n r')
          rw [List.length_set] at hcl
          refine Sy.call_own (drop_does keep (ks.set n r') (set_rising hris hg hrn) ⟨by omega, by omega⟩ (by rw [List.length_set]; omega) (by omega)) Try.call40 ?_
          ((conv => whnf);(refine And.intro ?_ (And.intro ?_ (And.intro ?_ (And.intro ?_ ?_))));(all_goals ((repeat' (first|((conv => whnf);done)|((try conv => whnf);first|exact trivial|(refine And.intro ?_ ?_)|rfl|exact fun _ _ _ h=>h|exact fun _ _ _ _=>trivial)));(all_goals (try conv => whnf))));rotate_right)
          · intro _ _ _
            ((repeat' ((conv => whnf);(first|refine zA ?_|(refine zI ?_ ?_<;> intro hh<;> first|(exfalso;omega)|skip)|(refine zl ?_ ?_<;> intro hh)|refine zq ?_|refine zv ?_|refine zu ?_|exact Sy.fin_val fun e=>rfl)));(all_goals (try conv => whnf)))
            rw [htn]
            exact Sy.fin_r1 (.row 13) rfl
          · rw [List.length_set]
          · rw [List.map_set, ← hr']; rfl
      · exfalso; simp_all
    · rcases hp with ⟨h1, n, k, e1, hg, hx⟩ | ⟨h1, h2⟩
      · exfalso; simp_all
      · rw [turn_none hk h2]
        exact Sy.fin_r1 (.v (.slice none 0 0)) ⟨rfl, rfl⟩
  · refine Sy.call_val (.c (.v (.int .i64 330))) Try.call24 rfl (fun e a w' h => by have := check_any keep (e.rv 0) ks w' (Sy.row_reads h (.inr rfl)); rw [chkE_no hk] at this; exact this) ?_
    ((repeat' ((conv => whnf);(first|refine zA ?_|(refine zI ?_ ?_<;> intro hh<;> first|(exfalso;omega)|skip)|(refine zl ?_ ?_<;> intro hh)|refine zq ?_|refine zv ?_|refine zu ?_|exact Sy.fin_val fun e=>rfl)));(all_goals (try conv => whnf)))
    rw [turn_bad hk]
    exact Sy.fin_r1 (.v (.slice none 0 0)) ⟨rfl, rfl⟩
end Go.Proofs.Ytkmdmjnbjoakbaa
