/- Snap: records' keys, names and shares. -/
import Derived.Test.YtmahldelmbhjfaaGreatSnSpec
import Derived.Test.YtmahldelmbhjfaaGreatAb
namespace Go.Proofs.YtmahldelmbhjfaaGreat.Sn
open Go Go.RowKit
open Sy (C SV V1 Blk St XD Els)
set_option maxRecDepth 10000

theorem rec_any (s k v : Int) (w : World) : Calls Tryz.prog 55 #[.agg #[.int .i64 s, .int .i64 k, .int .i64 v]] w (Sy.Ret (.int .i64 (if recP s k then 0 else 150)) w) := by
  refine Sy.calls_of Sy.lv55 Sy.tab_ok Tryz.func55 rfl _ Tryz.ntmps55 [] [.agg [.v (.int .i64 s), .v (.int .i64 k), .v (.int .i64 v)]] rfl rfl rfl trivial ?_
  by_cases h : recP s k
  · rw [if_pos h]
    unfold recP at h
    ((repeat' ((conv => whnf);(first|refine zA ?_|(refine zI ?_ ?_<;> intro hh<;> first|(exfalso;omega)|skip)|(refine zl ?_ ?_<;> intro hh)|refine zq ?_|refine zv ?_|refine zu ?_|exact Sy.fin_val fun e=>rfl)));(all_goals (try conv => whnf)))
    all_goals done
  · rw [if_neg h]
    unfold recP at h
    ((repeat' ((conv => whnf);(first|refine zA ?_|(refine zI ?_ ?_<;> intro hh<;> first|(exfalso;omega)|skip)|(refine zl ?_ ?_<;> intro hh)|refine zq ?_|refine zv ?_|refine zu ?_|exact Sy.fin_val fun e=>rfl)));(all_goals (try conv => whnf)))
    all_goals done
theorem rrec_any (s k v : Int) (w : World) : Calls Tryz.prog 46 #[.agg #[.int .i64 s, .int .i64 k, .int .i64 v]] w (Sy.Ret (.bool (decide (recP s k))) w) := by
  refine Sy.calls_of Sy.lv46 Sy.tab_ok Tryz.func46 rfl _ Tryz.ntmps46 [] [.agg [.v (.int .i64 s), .v (.int .i64 k), .v (.int .i64 v)]] rfl rfl rfl trivial ?_
  by_cases h : recP s k
  · rw [decide_eq_true h]
    unfold recP at h
    ((repeat' ((conv => whnf);(first|refine zA ?_|(refine zI ?_ ?_<;> intro hh<;> first|(exfalso;omega)|skip)|(refine zl ?_ ?_<;> intro hh)|refine zq ?_|refine zv ?_|refine zu ?_|exact Sy.fin_val fun e=>rfl)));(all_goals (try conv => whnf)))
    all_goals exact Sy.fin_val (fun e => congrArg Value.bool (by first | exact decide_eq_true (by omega) | exact decide_eq_false (by omega)))
  · rw [decide_eq_false h]
    unfold recP at h
    ((repeat' ((conv => whnf);(first|refine zA ?_|(refine zI ?_ ?_<;> intro hh<;> first|(exfalso;omega)|skip)|(refine zl ?_ ?_<;> intro hh)|refine zq ?_|refine zv ?_|refine zu ?_|exact Sy.fin_val fun e=>rfl)));(all_goals (try conv => whnf)))
    all_goals exact Sy.fin_val (fun e => congrArg Value.bool (by first | exact decide_eq_true (by omega) | exact decide_eq_false (by omega)))
theorem cmpI_any (x y : Int) (w : World) : Calls Tryz.prog 80 #[.int .i64 x, .int .i64 y] w (Sy.Ret (.int .i64 (cmpI x y)) w) := by
  refine Sy.calls_of Sy.lv80 Sy.tab_ok Tryz.func80 rfl _ Tryz.ntmps80 [] [.c (.v (.int .i64 x)), .c (.v (.int .i64 y))] rfl rfl rfl trivial ?_
  have hE : cmpI x y = if x < y then -1 else if y < x then 1 else 0 := rfl
  ((repeat' ((conv => whnf);(first|refine zA ?_|(refine zI ?_ ?_<;> intro hh<;> first|(exfalso;omega)|skip)|(refine zl ?_ ?_<;> intro hh)|refine zq ?_|refine zv ?_|refine zu ?_|exact Sy.fin_val fun e=>rfl)));(all_goals (try conv => whnf)))
  refine Sy.call_in Sy.lv98 Sy.tab_ok Tryz.func98 rfl _ Tryz.ntmps98 Tryz.call98 rfl (fun _ => ?_)
  ((repeat' ((conv => whnf);(first|refine zA ?_|(refine zI ?_ ?_<;> intro hh<;> first|(exfalso;omega)|skip)|(refine zl ?_ ?_<;> intro hh)|refine zq ?_|refine zv ?_|refine zu ?_|exact Sy.fin_val fun e=>rfl)));(all_goals (try conv => whnf)))
  refine Sy.call_in Sy.lv98 Sy.tab_ok Tryz.func98 rfl _ Tryz.ntmps98 Tryz.call98 rfl (fun _ => ?_)
  by_cases h1 : x < y
  · rw [if_pos h1] at hE
    rw [hE]
    ((repeat' ((conv => whnf);(first|refine zA ?_|(refine zI ?_ ?_<;> intro hh<;> first|(exfalso;omega)|skip)|(refine zl ?_ ?_<;> intro hh)|refine zq ?_|refine zv ?_|refine zu ?_|exact Sy.fin_val fun e=>rfl)));(all_goals (try conv => whnf)))
    all_goals done
  · rw [if_neg h1] at hE
    by_cases h2 : y < x
    · rw [if_pos h2] at hE
      rw [hE]
      ((repeat' ((conv => whnf);(first|refine zA ?_|(refine zI ?_ ?_<;> intro hh<;> first|(exfalso;omega)|skip)|(refine zl ?_ ?_<;> intro hh)|refine zq ?_|refine zv ?_|refine zu ?_|exact Sy.fin_val fun e=>rfl)));(all_goals (try conv => whnf)))
      all_goals done
    · rw [if_neg h2] at hE
      rw [hE]
      ((repeat' ((conv => whnf);(first|refine zA ?_|(refine zI ?_ ?_<;> intro hh<;> first|(exfalso;omega)|skip)|(refine zl ?_ ?_<;> intro hh)|refine zq ?_|refine zv ?_|refine zu ?_|exact Sy.fin_val fun e=>rfl)));(all_goals (try conv => whnf)))
      all_goals done
theorem or_any (v : Value) (l : List Int) (w : World) (hr : XD.ok (fun b => b < w.heap.size) w ⟨v, 1, l.length, l.map encI⟩) :
    Calls Tryz.prog 79 #[v] w (Sy.Ret (.int .i64 (orL l)) w) := by
  have hl := ok_len hr
  refine Sy.calls_of Sy.lv79 Sy.tab_ok Tryz.func79 rfl _ Tryz.ntmps79 [⟨v, 1, l.length, l.map encI⟩] [.c (.row 0)] rfl rfl rfl ⟨hr, trivial⟩ ?_
  ((repeat' ((conv => whnf);(first|refine zA ?_|(refine zI ?_ ?_<;> intro hh<;> first|(exfalso;omega)|skip)|(refine zl ?_ ?_<;> intro hh)|refine zq ?_|refine zv ?_|refine zu ?_|exact Sy.fin_val fun e=>rfl)));(all_goals (try conv => whnf)))
  refine Sy.loop_inv Sy.tab_ok (fun n : Nat => [(8, .c (.v (.int .i64 n)))]) (fun _ => []) (fun n => n ≤ l.length ∧ orL (l.drop n) = orL l) (fun n => l.length - n) 0 ⟨Nat.zero_le _, rfl⟩ ?_ (fun n hn => ?_)
  · ((repeat' (first|((conv => whnf);done)|((try conv => whnf);first|exact trivial|(refine And.intro ?_ ?_)|rfl|exact fun _ _ _ h=>h|exact fun _ _ _ _=>trivial)));(all_goals (try conv => whnf)))
  · obtain ⟨hn, ho⟩ := hn
    ((repeat' ((conv => whnf);(first|refine zA ?_|(refine zI ?_ ?_<;> intro hh<;> first|(exfalso;omega)|skip)|(refine zl ?_ ?_<;> intro hh)|refine zq ?_|refine zv ?_|refine zu ?_|exact Sy.fin_val fun e=>rfl)));(all_goals (try conv => whnf)))
    · have hlt : n < l.length := by omega
      have hg := List.getElem?_eq_getElem hlt
      rw [List.drop_eq_getElem_cons hlt] at ho
      generalize l[n] = x at *
      refine Sy.el_map x hg ?_
      rw [show orL (x :: l.drop (n + 1)) = if x ≠ 0 then x else orL (l.drop (n + 1)) from rfl] at ho
      by_cases hx : x ≠ 0
      · rw [if_pos hx] at ho
        rw [← ho]
        ((repeat' ((conv => whnf);(first|refine zA ?_|(refine zI ?_ ?_<;> intro hh<;> first|(exfalso;omega)|skip)|(refine zl ?_ ?_<;> intro hh)|refine zq ?_|refine zv ?_|refine zu ?_|exact Sy.fin_val fun e=>rfl)));(all_goals (try conv => whnf)))
        all_goals done
      · rw [if_neg hx] at ho
        ((repeat' ((conv => whnf);(first|refine zA ?_|(refine zI ?_ ?_<;> intro hh<;> first|(exfalso;omega)|skip)|(refine zl ?_ ?_<;> intro hh)|refine zq ?_|refine zv ?_|refine zu ?_|exact Sy.fin_val fun e=>rfl)));(all_goals (try conv => whnf)))
        refine ⟨n + 1, ⟨by omega, ho⟩, by omega, ?_⟩
        ((repeat' (first|((conv => whnf);done)|((try conv => whnf);first|exact trivial|(refine And.intro ?_ ?_)|rfl|exact fun _ _ _ h=>h|exact fun _ _ _ _=>trivial)));(all_goals (try conv => whnf)))
    · have e : n = l.length := by omega
      rw [e, List.drop_length] at ho
      rw [← ho]
      ((repeat' ((conv => whnf);(first|refine zA ?_|(refine zI ?_ ?_<;> intro hh<;> first|(exfalso;omega)|skip)|(refine zl ?_ ?_<;> intro hh)|refine zq ?_|refine zv ?_|refine zu ?_|exact Sy.fin_val fun e=>rfl)));(all_goals (try conv => whnf)))
      all_goals done
theorem cmpK_any (s k v s' k' v' : Int) (w : World) : Calls Tryz.prog 57 #[.agg #[.int .i64 s, .int .i64 k, .int .i64 v], .agg #[.int .i64 s', .int .i64 k', .int .i64 v']] w (Sy.Ret (.int .i64 (cmpK s k s' k')) w) := by
  refine Sy.calls_of Sy.lv57 Sy.tab_ok Tryz.func57 rfl _ Tryz.ntmps57 [] [.agg [.v (.int .i64 s), .v (.int .i64 k), .v (.int .i64 v)], .agg [.v (.int .i64 s'), .v (.int .i64 k'), .v (.int .i64 v')]] rfl rfl rfl trivial ?_
  ((repeat' ((conv => whnf);(first|refine zA ?_|(refine zI ?_ ?_<;> intro hh<;> first|(exfalso;omega)|skip)|(refine zl ?_ ?_<;> intro hh)|refine zq ?_|refine zv ?_|refine zu ?_|exact Sy.fin_val fun e=>rfl)));(all_goals (try conv => whnf)))
  refine Sy.draw_go [] (by kernel_rfl) ?_
  intro e0
  conv => whnf
  refine zt 0 rfl ?_
  conv => whnf
  refine zt 1 rfl ?_
  conv => whnf
  refine zt 2 rfl ?_
  conv => whnf
  refine zt 3 rfl ?_
  conv => whnf
  refine zt 5 rfl ?_
  conv => whnf
  refine zt 6 rfl ?_
  conv => whnf
  refine zt 7 rfl ?_
  conv => whnf
  refine zt 8 rfl ?_
  conv => whnf
  refine zd1 [4] (zx rfl ?_ zy)
  conv => whnf
  refine Sy.call_val (.c (.v (.int .i64 (cmpI s s')))) Tryz.call80 rfl (fun e a w' h => cmpI_any s s' w') ?_
  conv => whnf
  refine ⟨(by repeat' ((conv => whnf);first|exact trivial|(refine And.intro ?_ ?_)|rfl)), ?_⟩
  refine zd1 [9] (zx rfl ?_ zy)
  conv => whnf
  refine Sy.call_val (.c (.v (.int .i64 (cmpI k k')))) Tryz.call80 rfl (fun e a w' h => cmpI_any k k' w') ?_
  conv => whnf
  refine ⟨(by repeat' ((conv => whnf);first|exact trivial|(refine And.intro ?_ ?_)|rfl)), ?_⟩
  refine zd1 [10] (zx rfl ?_ zy)
  conv => whnf
  refine ⟨(by repeat' ((conv => whnf);first|exact trivial|(refine And.intro ?_ ?_)|rfl)), ?_⟩
  refine zd1 [11] (zx rfl ?_ zy)
  conv => whnf
  refine Sy.call_val (.c (.v (.int .i64 (cmpK s k s' k')))) Tryz.call79 rfl (fun e a w' h => by have := or_any (e.rv 2) [cmpI s s', cmpI k k'] w' (Sy.row_reads h (.inl ⟨_, rfl⟩)); rw [cmpK_or] at this; exact this) ?_
  conv => whnf
  refine ⟨(by repeat' ((conv => whnf);first|exact trivial|(refine And.intro ?_ ?_)|rfl)), ?_⟩
  refine zt 12 rfl ?_
  conv => whnf
  refine zw ?_
  skip
  all_goals (((repeat' ((conv => whnf);(first|refine zA ?_|(refine zI ?_ ?_<;> intro hh<;> first|(exfalso;omega)|skip)|(refine zl ?_ ?_<;> intro hh)|refine zq ?_|refine zv ?_|refine zu ?_|exact Sy.fin_val fun e=>rfl)));(all_goals (try conv => whnf))))
  all_goals done
theorem rcmpK_any (s k v s' k' v' : Int) (w : World) : Calls Tryz.prog 48 #[.agg #[.int .i64 s, .int .i64 k, .int .i64 v], .agg #[.int .i64 s', .int .i64 k', .int .i64 v']] w (Sy.Ret (.int .i64 (cmpK s k s' k')) w) := by
  refine Sy.calls_of Sy.lv48 Sy.tab_ok Tryz.func48 rfl _ Tryz.ntmps48 [] [.agg [.v (.int .i64 s), .v (.int .i64 k), .v (.int .i64 v)], .agg [.v (.int .i64 s'), .v (.int .i64 k'), .v (.int .i64 v')]] rfl rfl rfl trivial ?_
  have hE : cmpK s k s' k' = if s < s' ∨ (s = s' ∧ k < k') then -1 else if s = s' ∧ k = k' then 0 else 1 := rfl
  by_cases h1 : s < s' ∨ (s = s' ∧ k < k')
  · rw [if_pos h1] at hE
    rw [hE]
    ((repeat' ((conv => whnf);(first|refine zA ?_|(refine zI ?_ ?_<;> intro hh<;> first|(exfalso;omega)|skip)|(refine zl ?_ ?_<;> intro hh)|refine zq ?_|refine zv ?_|refine zu ?_|exact Sy.fin_val fun e=>rfl)));(all_goals (try conv => whnf)))
    all_goals done
  · rw [if_neg h1] at hE
    by_cases h2 : s = s' ∧ k = k'
    · rw [if_pos h2] at hE
      rw [hE]
      ((repeat' ((conv => whnf);(first|refine zA ?_|(refine zI ?_ ?_<;> intro hh<;> first|(exfalso;omega)|skip)|(refine zl ?_ ?_<;> intro hh)|refine zq ?_|refine zv ?_|refine zu ?_|exact Sy.fin_val fun e=>rfl)));(all_goals (try conv => whnf)))
      all_goals done
    · rw [if_neg h2] at hE
      rw [hE]
      ((repeat' ((conv => whnf);(first|refine zA ?_|(refine zI ?_ ?_<;> intro hh<;> first|(exfalso;omega)|skip)|(refine zl ?_ ?_<;> intro hh)|refine zq ?_|refine zv ?_|refine zu ?_|exact Sy.fin_val fun e=>rfl)));(all_goals (try conv => whnf)))
      all_goals done
theorem name_any (n : Tx) (w : World) : Calls Tryz.prog 58 #[.agg #[.int .i64 n.sink, .int .i64 n.att, .int .i64 n.ser]] w (Sy.Ret (.int .i64 (if okN n then 0 else 2)) w) := by
  refine Sy.calls_of Sy.lv58 Sy.tab_ok Tryz.func58 rfl _ Tryz.ntmps58 [] [.agg [.v (.int .i64 n.sink), .v (.int .i64 n.att), .v (.int .i64 n.ser)]] rfl rfl rfl trivial ?_
  by_cases h : okN n
  · rw [if_pos h]
    unfold okN at h
    ((repeat' ((conv => whnf);(first|refine zA ?_|(refine zI ?_ ?_<;> intro hh<;> first|(exfalso;omega)|skip)|(refine zl ?_ ?_<;> intro hh)|refine zq ?_|refine zv ?_|refine zu ?_|exact Sy.fin_val fun e=>rfl)));(all_goals (try conv => whnf)))
    refine Sy.call_in Sy.lv81 Sy.tab_ok Tryz.func81 rfl _ Tryz.ntmps81 Tryz.call81 rfl (fun _ => ?_)
    ((repeat' ((conv => whnf);(first|refine zA ?_|(refine zI ?_ ?_<;> intro hh<;> first|(exfalso;omega)|skip)|(refine zl ?_ ?_<;> intro hh)|refine zq ?_|refine zv ?_|refine zu ?_|exact Sy.fin_val fun e=>rfl)));(all_goals (try conv => whnf)))
    refine Sy.call_in Sy.lv81 Sy.tab_ok Tryz.func81 rfl _ Tryz.ntmps81 Tryz.call81 rfl (fun _ => ?_)
    ((repeat' ((conv => whnf);(first|refine zA ?_|(refine zI ?_ ?_<;> intro hh<;> first|(exfalso;omega)|skip)|(refine zl ?_ ?_<;> intro hh)|refine zq ?_|refine zv ?_|refine zu ?_|exact Sy.fin_val fun e=>rfl)));(all_goals (try conv => whnf)))
    all_goals done
  · rw [if_neg h]
    unfold okN at h
    by_cases h1 : 0 ≤ n.sink ∧ n.sink < 16
    · ((repeat' ((conv => whnf);(first|refine zA ?_|(refine zI ?_ ?_<;> intro hh<;> first|(exfalso;omega)|skip)|(refine zl ?_ ?_<;> intro hh)|refine zq ?_|refine zv ?_|refine zu ?_|exact Sy.fin_val fun e=>rfl)));(all_goals (try conv => whnf)))
      refine Sy.call_in Sy.lv81 Sy.tab_ok Tryz.func81 rfl _ Tryz.ntmps81 Tryz.call81 rfl (fun _ => ?_)
      by_cases h2 : 1 ≤ n.att ∧ n.att ≤ 1048576
      · ((repeat' ((conv => whnf);(first|refine zA ?_|(refine zI ?_ ?_<;> intro hh<;> first|(exfalso;omega)|skip)|(refine zl ?_ ?_<;> intro hh)|refine zq ?_|refine zv ?_|refine zu ?_|exact Sy.fin_val fun e=>rfl)));(all_goals (try conv => whnf)))
        refine Sy.call_in Sy.lv81 Sy.tab_ok Tryz.func81 rfl _ Tryz.ntmps81 Tryz.call81 rfl (fun _ => ?_)
        ((repeat' ((conv => whnf);(first|refine zA ?_|(refine zI ?_ ?_<;> intro hh<;> first|(exfalso;omega)|skip)|(refine zl ?_ ?_<;> intro hh)|refine zq ?_|refine zv ?_|refine zu ?_|exact Sy.fin_val fun e=>rfl)));(all_goals (try conv => whnf)))
        all_goals done
      · ((repeat' ((conv => whnf);(first|refine zA ?_|(refine zI ?_ ?_<;> intro hh<;> first|(exfalso;omega)|skip)|(refine zl ?_ ?_<;> intro hh)|refine zq ?_|refine zv ?_|refine zu ?_|exact Sy.fin_val fun e=>rfl)));(all_goals (try conv => whnf)))
        all_goals done
    · ((repeat' ((conv => whnf);(first|refine zA ?_|(refine zI ?_ ?_<;> intro hh<;> first|(exfalso;omega)|skip)|(refine zl ?_ ?_<;> intro hh)|refine zq ?_|refine zv ?_|refine zu ?_|exact Sy.fin_val fun e=>rfl)));(all_goals (try conv => whnf)))
      all_goals done
theorem rname_any (n : Tx) (w : World) : Calls Tryz.prog 49 #[.agg #[.int .i64 n.sink, .int .i64 n.att, .int .i64 n.ser]] w (Sy.Ret (.bool (okT n)) w) := by
  refine Sy.calls_of Sy.lv49 Sy.tab_ok Tryz.func49 rfl _ Tryz.ntmps49 [] [.agg [.v (.int .i64 n.sink), .v (.int .i64 n.att), .v (.int .i64 n.ser)]] rfl rfl rfl trivial ?_
  unfold okT
  by_cases h : okN n
  · rw [decide_eq_true h]
    unfold okN at h
    ((repeat' ((conv => whnf);(first|refine zA ?_|(refine zI ?_ ?_<;> intro hh<;> first|(exfalso;omega)|skip)|(refine zl ?_ ?_<;> intro hh)|refine zq ?_|refine zv ?_|refine zu ?_|exact Sy.fin_val fun e=>rfl)));(all_goals (try conv => whnf)))
    all_goals exact Sy.fin_val (fun e => congrArg Value.bool (by first | exact decide_eq_true (by omega) | exact decide_eq_false (by omega)))
  · rw [decide_eq_false h]
    unfold okN at h
    ((repeat' ((conv => whnf);(first|refine zA ?_|(refine zI ?_ ?_<;> intro hh<;> first|(exfalso;omega)|skip)|(refine zl ?_ ?_<;> intro hh)|refine zq ?_|refine zv ?_|refine zu ?_|exact Sy.fin_val fun e=>rfl)));(all_goals (try conv => whnf)))
    all_goals exact Sy.fin_val (fun e => congrArg Value.bool (by first | exact decide_eq_true (by omega) | exact decide_eq_false (by omega)))
theorem cmpT_any (a b : Tx) (w : World) : Calls Tryz.prog 59 #[.agg #[.int .i64 a.sink, .int .i64 a.att, .int .i64 a.ser], .agg #[.int .i64 b.sink, .int .i64 b.att, .int .i64 b.ser]] w (Sy.Ret (.int .i64 (cmpT a b)) w) := by
  refine Sy.calls_of Sy.lv59 Sy.tab_ok Tryz.func59 rfl _ Tryz.ntmps59 [] [.agg [.v (.int .i64 a.sink), .v (.int .i64 a.att), .v (.int .i64 a.ser)], .agg [.v (.int .i64 b.sink), .v (.int .i64 b.att), .v (.int .i64 b.ser)]] rfl rfl rfl trivial ?_
  ((repeat' ((conv => whnf);(first|refine zA ?_|(refine zI ?_ ?_<;> intro hh<;> first|(exfalso;omega)|skip)|(refine zl ?_ ?_<;> intro hh)|refine zq ?_|refine zv ?_|refine zu ?_|exact Sy.fin_val fun e=>rfl)));(all_goals (try conv => whnf)))
  refine Sy.draw_go [] (by kernel_rfl) ?_
  intro e0
  conv => whnf
  refine zt 0 rfl ?_
  conv => whnf
  refine zt 1 rfl ?_
  conv => whnf
  refine zt 2 rfl ?_
  conv => whnf
  refine zt 3 rfl ?_
  conv => whnf
  refine zt 5 rfl ?_
  conv => whnf
  refine zt 6 rfl ?_
  conv => whnf
  refine zt 7 rfl ?_
  conv => whnf
  refine zt 8 rfl ?_
  conv => whnf
  refine zt 10 rfl ?_
  conv => whnf
  refine zt 11 rfl ?_
  conv => whnf
  refine zt 12 rfl ?_
  conv => whnf
  refine zt 13 rfl ?_
  conv => whnf
  refine zd1 [4] (zx rfl ?_ zy)
  conv => whnf
  refine Sy.call_val (.c (.v (.int .i64 (cmpI a.sink b.sink)))) Tryz.call80 rfl (fun e _ w' h => cmpI_any a.sink b.sink w') ?_
  conv => whnf
  refine ⟨(by repeat' ((conv => whnf);first|exact trivial|(refine And.intro ?_ ?_)|rfl)), ?_⟩
  refine zd1 [9] (zx rfl ?_ zy)
  conv => whnf
  refine Sy.call_val (.c (.v (.int .i64 (cmpI a.att b.att)))) Tryz.call80 rfl (fun e _ w' h => cmpI_any a.att b.att w') ?_
  conv => whnf
  refine ⟨(by repeat' ((conv => whnf);first|exact trivial|(refine And.intro ?_ ?_)|rfl)), ?_⟩
  refine zd1 [14] (zx rfl ?_ zy)
  conv => whnf
  refine Sy.call_val (.c (.v (.int .i64 (cmpI a.ser b.ser)))) Tryz.call80 rfl (fun e _ w' h => cmpI_any a.ser b.ser w') ?_
  conv => whnf
  refine ⟨(by repeat' ((conv => whnf);first|exact trivial|(refine And.intro ?_ ?_)|rfl)), ?_⟩
  refine zd1 [15] (zx rfl ?_ zy)
  conv => whnf
  refine ⟨(by repeat' ((conv => whnf);first|exact trivial|(refine And.intro ?_ ?_)|rfl)), ?_⟩
  refine zd1 [16] (zx rfl ?_ zy)
  conv => whnf
  refine Sy.call_val (.c (.v (.int .i64 (cmpT a b)))) Tryz.call79 rfl (fun e _ w' h => or_any (e.rv 2) [cmpI a.sink b.sink, cmpI a.att b.att, cmpI a.ser b.ser] w' (Sy.row_reads h (.inl ⟨_, rfl⟩))) ?_
  conv => whnf
  refine ⟨(by repeat' ((conv => whnf);first|exact trivial|(refine And.intro ?_ ?_)|rfl)), ?_⟩
  refine zt 17 rfl ?_
  conv => whnf
  refine zw ?_
  skip
  all_goals (((repeat' ((conv => whnf);(first|refine zA ?_|(refine zI ?_ ?_<;> intro hh<;> first|(exfalso;omega)|skip)|(refine zl ?_ ?_<;> intro hh)|refine zq ?_|refine zv ?_|refine zu ?_|exact Sy.fin_val fun e=>rfl)));(all_goals (try conv => whnf))))
  all_goals done
theorem less_any (a b : Tx) (w : World) : Calls Tryz.prog 50 #[.agg #[.int .i64 a.sink, .int .i64 a.att, .int .i64 a.ser], .agg #[.int .i64 b.sink, .int .i64 b.att, .int .i64 b.ser]] w (Sy.Ret (.bool (ltT a b)) w) := by
  refine Sy.calls_of Sy.lv50 Sy.tab_ok Tryz.func50 rfl _ Tryz.ntmps50 [] [.agg [.v (.int .i64 a.sink), .v (.int .i64 a.att), .v (.int .i64 a.ser)], .agg [.v (.int .i64 b.sink), .v (.int .i64 b.att), .v (.int .i64 b.ser)]] rfl rfl rfl trivial ?_
  unfold ltT
  by_cases h : lessT a b
  · rw [decide_eq_true h]
    unfold lessT at h
    by_cases h1 : a.sink = b.sink
    · by_cases h2 : a.att = b.att
      · ((repeat' ((conv => whnf);(first|refine zA ?_|(refine zI ?_ ?_<;> intro hh<;> first|(exfalso;omega)|skip)|(refine zl ?_ ?_<;> intro hh)|refine zq ?_|refine zv ?_|refine zu ?_|exact Sy.fin_val fun e=>rfl)));(all_goals (try conv => whnf)))
        all_goals exact Sy.fin_val (fun e => congrArg Value.bool (by first | exact decide_eq_true (by omega) | exact decide_eq_false (by omega)))
      · ((repeat' ((conv => whnf);(first|refine zA ?_|(refine zI ?_ ?_<;> intro hh<;> first|(exfalso;omega)|skip)|(refine zl ?_ ?_<;> intro hh)|refine zq ?_|refine zv ?_|refine zu ?_|exact Sy.fin_val fun e=>rfl)));(all_goals (try conv => whnf)))
        all_goals exact Sy.fin_val (fun e => congrArg Value.bool (by first | exact decide_eq_true (by omega) | exact decide_eq_false (by omega)))
    · ((repeat' ((conv => whnf);(first|refine zA ?_|(refine zI ?_ ?_<;> intro hh<;> first|(exfalso;omega)|skip)|(refine zl ?_ ?_<;> intro hh)|refine zq ?_|refine zv ?_|refine zu ?_|exact Sy.fin_val fun e=>rfl)));(all_goals (try conv => whnf)))
      all_goals exact Sy.fin_val (fun e => congrArg Value.bool (by first | exact decide_eq_true (by omega) | exact decide_eq_false (by omega)))
  · rw [decide_eq_false h]
    unfold lessT at h
    by_cases h1 : a.sink = b.sink
    · by_cases h2 : a.att = b.att
      · ((repeat' ((conv => whnf);(first|refine zA ?_|(refine zI ?_ ?_<;> intro hh<;> first|(exfalso;omega)|skip)|(refine zl ?_ ?_<;> intro hh)|refine zq ?_|refine zv ?_|refine zu ?_|exact Sy.fin_val fun e=>rfl)));(all_goals (try conv => whnf)))
        all_goals exact Sy.fin_val (fun e => congrArg Value.bool (by first | exact decide_eq_true (by omega) | exact decide_eq_false (by omega)))
      · ((repeat' ((conv => whnf);(first|refine zA ?_|(refine zI ?_ ?_<;> intro hh<;> first|(exfalso;omega)|skip)|(refine zl ?_ ?_<;> intro hh)|refine zq ?_|refine zv ?_|refine zu ?_|exact Sy.fin_val fun e=>rfl)));(all_goals (try conv => whnf)))
        all_goals exact Sy.fin_val (fun e => congrArg Value.bool (by first | exact decide_eq_true (by omega) | exact decide_eq_false (by omega)))
    · ((repeat' ((conv => whnf);(first|refine zA ?_|(refine zI ?_ ?_<;> intro hh<;> first|(exfalso;omega)|skip)|(refine zl ?_ ?_<;> intro hh)|refine zq ?_|refine zv ?_|refine zu ?_|exact Sy.fin_val fun e=>rfl)));(all_goals (try conv => whnf)))
      all_goals exact Sy.fin_val (fun e => congrArg Value.bool (by first | exact decide_eq_true (by omega) | exact decide_eq_false (by omega)))
/-! ### Shares -/
theorem share_any (i n : Int) (w : World) : Calls Tryz.prog 52 #[.int .i64 i, .int .i64 n] w (Sy.Ret (.bool (decide (shareP i n))) w) := by
  refine Sy.calls_of Sy.lv52 Sy.tab_ok Tryz.func52 rfl _ Tryz.ntmps52 [] [.c (.v (.int .i64 i)), .c (.v (.int .i64 n))] rfl rfl rfl trivial ?_
  ((repeat' ((conv => whnf);(first|refine zA ?_|(refine zI ?_ ?_<;> intro hh<;> first|(exfalso;omega)|skip)|(refine zl ?_ ?_<;> intro hh)|refine zq ?_|refine zv ?_|refine zu ?_|exact Sy.fin_val fun e=>rfl)));(all_goals (try conv => whnf)))
  refine Sy.call_in Sy.lv76 Sy.tab_ok Tryz.func76 rfl _ Tryz.ntmps76 Tryz.call76 rfl (fun _ => ?_)
  by_cases h : shareP i n
  · rw [decide_eq_true h]
    unfold shareP at h
    ((repeat' ((conv => whnf);(first|refine zA ?_|(refine zI ?_ ?_<;> intro hh<;> first|(exfalso;omega)|skip)|(refine zl ?_ ?_<;> intro hh)|refine zq ?_|refine zv ?_|refine zu ?_|exact Sy.fin_val fun e=>rfl)));(all_goals (try conv => whnf)))
    all_goals exact Sy.fin_val (fun e => congrArg Value.bool (by first | exact decide_eq_true (by omega) | exact decide_eq_false (by omega)))
  · rw [decide_eq_false h]
    unfold shareP at h
    ((repeat' ((conv => whnf);(first|refine zA ?_|(refine zI ?_ ?_<;> intro hh<;> first|(exfalso;omega)|skip)|(refine zl ?_ ?_<;> intro hh)|refine zq ?_|refine zv ?_|refine zu ?_|exact Sy.fin_val fun e=>rfl)));(all_goals (try conv => whnf)))
    all_goals exact Sy.fin_val (fun e => congrArg Value.bool (by first | exact decide_eq_true (by omega) | exact decide_eq_false (by omega)))
theorem rshare_any (i n : Int) (w : World) : Calls Tryz.prog 45 #[.int .i64 i, .int .i64 n] w (Sy.Ret (.bool (decide (shareP i n))) w) := by
  refine Sy.calls_of Sy.lv45 Sy.tab_ok Tryz.func45 rfl _ Tryz.ntmps45 [] [.c (.v (.int .i64 i)), .c (.v (.int .i64 n))] rfl rfl rfl trivial ?_
  by_cases h : shareP i n
  · rw [decide_eq_true h]
    unfold shareP at h
    ((repeat' ((conv => whnf);(first|refine zA ?_|(refine zI ?_ ?_<;> intro hh<;> first|(exfalso;omega)|skip)|(refine zl ?_ ?_<;> intro hh)|refine zq ?_|refine zv ?_|refine zu ?_|exact Sy.fin_val fun e=>rfl)));(all_goals (try conv => whnf)))
    all_goals exact Sy.fin_val (fun e => congrArg Value.bool (by first | exact decide_eq_true (by omega) | exact decide_eq_false (by omega)))
  · rw [decide_eq_false h]
    unfold shareP at h
    ((repeat' ((conv => whnf);(first|refine zA ?_|(refine zI ?_ ?_<;> intro hh<;> first|(exfalso;omega)|skip)|(refine zl ?_ ?_<;> intro hh)|refine zq ?_|refine zv ?_|refine zu ?_|exact Sy.fin_val fun e=>rfl)));(all_goals (try conv => whnf)))
    all_goals exact Sy.fin_val (fun e => congrArg Value.bool (by first | exact decide_eq_true (by omega) | exact decide_eq_false (by omega)))
theorem owner_any (g n : Int) (w : World) (hg : 0 ≤ g ∧ g < 8) (hn : 0 ≤ n ∧ n ≤ 3) : Calls Tryz.prog 61 #[.int .i64 g, .int .i64 n] w (Sy.Ret (.int .i64 (ownW g n)) w) := by
  have h1 : 0 ≤ g * n := Int.mul_nonneg hg.1 hn.1
  have h2 : g * n ≤ 7 * 3 := Int.mul_le_mul (by omega) hn.2 hn.1 (by omega)
  refine Sy.calls_of Sy.lv61 Sy.tab_ok Tryz.func61 rfl _ Tryz.ntmps61 [] [.c (.v (.int .i64 g)), .c (.v (.int .i64 n))] rfl rfl rfl trivial ?_
  ((repeat' ((conv => whnf);(first|refine zA ?_|(refine zI ?_ ?_<;> intro hh<;> first|(exfalso;omega)|skip)|(refine zl ?_ ?_<;> intro hh)|refine zq ?_|refine zv ?_|refine zu ?_|exact Sy.fin_val fun e=>rfl)));(all_goals (try conv => whnf)))
  refine Sy.div_in (by omega) (by omega) ?_
  ((repeat' ((conv => whnf);(first|refine zA ?_|(refine zI ?_ ?_<;> intro hh<;> first|(exfalso;omega)|skip)|(refine zl ?_ ?_<;> intro hh)|refine zq ?_|refine zv ?_|refine zu ?_|exact Sy.fin_val fun e=>rfl)));(all_goals (try conv => whnf)))
  all_goals done
theorem rowner_any (g n : Int) (w : World) (hg : 0 ≤ g ∧ g < 8) (hn : 0 ≤ n ∧ n ≤ 3) : Calls Tryz.prog 51 #[.int .i64 g, .int .i64 n] w (Sy.Ret (.int .i64 (ownW g n)) w) := by
  have h1 : 0 ≤ g * n := Int.mul_nonneg hg.1 hn.1
  have h2 : g * n ≤ 7 * 3 := Int.mul_le_mul (by omega) hn.2 hn.1 (by omega)
  refine Sy.calls_of Sy.lv51 Sy.tab_ok Tryz.func51 rfl _ Tryz.ntmps51 [] [.c (.v (.int .i64 g)), .c (.v (.int .i64 n))] rfl rfl rfl trivial ?_
  ((repeat' ((conv => whnf);(first|refine zA ?_|(refine zI ?_ ?_<;> intro hh<;> first|(exfalso;omega)|skip)|(refine zl ?_ ?_<;> intro hh)|refine zq ?_|refine zv ?_|refine zu ?_|exact Sy.fin_val fun e=>rfl)));(all_goals (try conv => whnf)))
  refine Sy.div_in (by omega) (by omega) ?_
  ((repeat' ((conv => whnf);(first|refine zA ?_|(refine zI ?_ ?_<;> intro hh<;> first|(exfalso;omega)|skip)|(refine zl ?_ ?_<;> intro hh)|refine zq ?_|refine zv ?_|refine zu ?_|exact Sy.fin_val fun e=>rfl)));(all_goals (try conv => whnf)))
  all_goals done
end Go.Proofs.YtmahldelmbhjfaaGreat.Sn
