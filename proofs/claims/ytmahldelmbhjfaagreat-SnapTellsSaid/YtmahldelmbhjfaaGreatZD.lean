/- Snap: the law Tells. -/
import Derived.Test.YtmahldelmbhjfaaGreatZE
import Derived.Test.YtmahldelmbhjfaaGreatSnX
import Derived.Test.YtmahldelmbhjfaaGreatSnP
import Derived.Test.YtmahldelmbhjfaaGreatSnF
namespace Go.Proofs.YtmahldelmbhjfaaGreat.Sn
open Go Go.RowKit
open Sy (C SV V1 Blk St XD Els)
set_option maxRecDepth 10000

def cellS (s : Sn) (u t : C) : List C := [.v (.int .i64 s.op), .v (.int .i64 s.idx), .v (.int .i64 s.wid), .v (.bool s.fin), u, .v (.int .i64 (s.offs 0)), .v (.int .i64 (s.offs 1)), .v (.int .i64 (s.offs 2)), .v (.int .i64 (s.offs 3)), .v (.int .i64 (s.offs 4)), .v (.int .i64 (s.offs 5)), .v (.int .i64 (s.offs 6)), .v (.int .i64 (s.offs 7)), t]
theorem chk_pos {s : Sn} (h : rightP s) : chkE s = 0 := if_pos h
theorem chk_neg {s : Sn} (h : ¬ rightP s) : chkE s = 280 := if_neg h
attribute [local irreducible] ownW tblB namesB rightP rightB fitsP chkE shortS
set_option maxHeartbeats 8000000 in
theorem ltells_any (gv v : Value) (gl : List OpV) (ls : List SnV) (w : World) (hone : gv.oneCell' = true) (hg : GOk (fun b => b < w.heap.size) w gv gl) (hr : SsOk (fun b => b < w.heap.size) w v ls) :
    Calls Tryz.prog 3 #[.agg #[gv], v] w (Sy.Ret (.bool true) w) := by
  have hgl := ok_len hg.1
  have hl := ok_len hr.1
  refine Sy.calls_of Sy.lv3 Sy.tab_ok Tryz.func3 rfl _ Tryz.ntmps3 [⟨v, 14, ls.length, ls.map encS⟩] [.agg [.v gv], .c (.row 0)] rfl (by simp [Sy.allLt, SV.lt, Sy.ltAll, C.lt, hone]; rfl) rfl ⟨hr.1, trivial⟩ ?_
  ((repeat' ((conv => whnf);(first|refine zA ?_|(refine zI ?_ ?_<;> intro hh<;> first|(exfalso;omega)|skip)|(refine zl ?_ ?_<;> intro hh)|refine zq ?_|refine zv ?_|refine zu ?_|exact Sy.fin_val fun e=>rfl)));(all_goals (try conv => whnf)))
  refine Sy.call_val (.c (.v (.bool true))) Tryz.call4 rfl (fun e a w' h => wakes_any w') ?_
  ((repeat' ((conv => whnf);(first|refine zA ?_|(refine zI ?_ ?_<;> intro hh<;> first|(exfalso;omega)|skip)|(refine zl ?_ ?_<;> intro hh)|refine zq ?_|refine zv ?_|refine zu ?_|exact Sy.fin_val fun e=>rfl)));(all_goals (try conv => whnf)))
  refine Sy.call_own (short_does gv gl hone) Tryz.call5 ?_ (fun e a w' F' h hF' => (GOk.later h (hg.mono fun b hb => ⟨hb, fun h => h⟩)).mono hF') (fun _ ls G G' w1 w2 hq hG hk o ho => (hq o ho).keep hG hk)
  ((conv => whnf);(refine And.intro ?_ (And.intro ?_ (And.intro ?_ (And.intro ?_ ?_))));(all_goals ((repeat' (first|((conv => whnf);done)|((try conv => whnf);first|exact trivial|(refine And.intro ?_ ?_)|rfl|exact fun _ _ _ h=>h|exact fun _ _ _ _=>trivial)));(all_goals (try conv => whnf))));rotate_right)
  intro os hos G
  ((repeat' ((conv => whnf);(first|refine zA ?_|(refine zI ?_ ?_<;> intro hh<;> first|(exfalso;omega)|skip)|(refine zl ?_ ?_<;> intro hh)|refine zq ?_|refine zv ?_|refine zu ?_|exact Sy.fin_val fun e=>rfl)));(all_goals (try conv => whnf)))
  refine Sy.loop_inv Sy.tab_ok (fun n : Nat => [(18, .c (.v (.int .i64 n)))]) (fun _ => []) (fun n => n ≤ ls.length) (fun n => ls.length - n) 0 (Nat.zero_le _) ?_ (fun n hn => ?_)
  · ((repeat' (first|((conv => whnf);done)|((try conv => whnf);first|exact trivial|(refine And.intro ?_ ?_)|rfl|exact fun _ _ _ h=>h|exact fun _ _ _ _=>trivial)));(all_goals (try conv => whnf)))
  · by_cases hlt : n < ls.length
    · have hge := List.getElem?_eq_getElem hlt
      have hge0 := List.getElem?_eq_getElem (show 0 < ls.length by omega)
      have hxm := List.getElem_mem hlt
      have hxm0 := List.getElem_mem (show 0 < ls.length by omega)
      generalize ls[n] = x at *
      generalize ls[0] = x0 at *
      have hx := hr.2 x hxm
      have hx0 := hr.2 x0 hxm0
      by_cases h8 : n = 8
      · ((repeat' ((conv => whnf);(first|refine zA ?_|(refine zI ?_ ?_<;> intro hh<;> first|(exfalso;omega)|skip)|(refine zl ?_ ?_<;> intro hh)|refine zq ?_|refine zv ?_|refine zu ?_|exact Sy.fin_val fun e=>rfl)));(all_goals (try conv => whnf)))
        refine Sy.el_map x hge ?_
        ((repeat' ((conv => whnf);(first|refine zA ?_|(refine zI ?_ ?_<;> intro hh<;> first|(exfalso;omega)|skip)|(refine zl ?_ ?_<;> intro hh)|refine zq ?_|refine zv ?_|refine zu ?_|exact Sy.fin_val fun e=>rfl)));(all_goals (try conv => whnf)))
        all_goals done
      · ((repeat' ((conv => whnf);(first|refine zA ?_|(refine zI ?_ ?_<;> intro hh<;> first|(exfalso;omega)|skip)|(refine zl ?_ ?_<;> intro hh)|refine zq ?_|refine zv ?_|refine zu ?_|exact Sy.fin_val fun e=>rfl)));(all_goals (try conv => whnf)))
        refine Sy.el_map x hge ?_
        ((repeat' ((conv => whnf);(first|refine zA ?_|(refine zI ?_ ?_<;> intro hh<;> first|(exfalso;omega)|skip)|(refine zl ?_ ?_<;> intro hh)|refine zq ?_|refine zv ?_|refine zu ?_|exact Sy.fin_val fun e=>rfl)));(all_goals (try conv => whnf)))
        obtain ⟨xs, xr, xt⟩ := x
        obtain ⟨ys, yr, yt⟩ := x0
        have hsx := fun w' h => short_any ⟨xs, xr, xt⟩ w' h
        have hsy := fun w' h => short_any ⟨ys, yr, yt⟩ w' h
        dsimp only at hsx hsy
        generalize shortS xs = S at *
        generalize shortS ys = S0 at *
        refine Sy.meet1 5 [.row 46 4 S.rows.length (.vs (S.rows.map encK)), .row 80 3 S.txs.length (.vs (S.txs.map encT)), .row 46 4 S0.rows.length (.vs (S0.rows.map encK)), .row 80 3 S0.txs.length (.vs (S0.txs.map encT)),
          .cells 35 (cellS S (.row 5) (.row 6)), .cells 35 (cellS S0 (.row 7) (.row 8))] [(8, .c (.loc 9 0)), (9, .c (.loc 10 0))] [] Sy.tab_ok rfl ?_ ?_
        · refine Sy.draw_go [] (by kernel_rfl) ?_
          intro e0
          conv => whnf
          refine zt 0 rfl ?_
          conv => whnf
          refine zt 2 rfl ?_
          conv => whnf
          refine zt 3 rfl ?_
          (conv => whnf);(repeat' ((first|refine zA ?_|(refine zI ?_ ?_<;> intro hh<;> first|(exfalso;omega)|skip)|(refine zl ?_ ?_<;> intro hh)|refine zq ?_|refine zv ?_|refine zu ?_|exact Sy.fin_val fun e=>rfl);(try conv => whnf)))
          refine zt 4 rfl ?_
          conv => whnf
          refine Sy.el_map _ hge0 ?_
          conv => whnf
          focus
            refine zd1 [1, 6, 7] (zx rfl ?_ (zx rfl ?_ (zx rfl ?_ zy)))
            focus
              conv => whnf
              refine Sy.call_r2f (v := fun _ vs => retA S vs) ⟨46, 4, S.rows.length, S.rows.map encK⟩ ⟨80, 3, S.txs.length, S.txs.map encT⟩ (fun k => .agg (cellS S (.row k) (.row (k + 1)))) Tryz.call6 (fun e a' w' h => hsx w' ⟨Sy.later_in h hx.rows, Sy.later_in h hx.txs⟩) ?_
              conv => whnf
              refine ⟨(by repeat' ((conv => whnf);first|exact trivial|(refine And.intro ?_ ?_)|rfl)), ?_⟩
              focus
                refine zd1 [5, 6, 7] (zx rfl ?_ (zx rfl ?_ (zx rfl ?_ zy)))
                focus
                  conv => whnf
                  refine Sy.call_r2f (v := fun _ vs => retA S0 vs) ⟨46, 4, S0.rows.length, S0.rows.map encK⟩ ⟨80, 3, S0.txs.length, S0.txs.map encT⟩ (fun k => .agg (cellS S0 (.row k) (.row (k + 1)))) Tryz.call6 (fun e a' w' h => hsy w' ⟨Sy.later_in h hx0.rows, Sy.later_in h hx0.txs⟩) ?_
                  conv => whnf
                  refine ⟨(by repeat' ((conv => whnf);first|exact trivial|(refine And.intro ?_ ?_)|rfl)), ?_⟩
                  focus
                    refine zd1 [6, 7] (zx rfl ?_ (zx rfl ?_ zy))
                    focus
                      conv => whnf
                      refine ⟨(by repeat' ((conv => whnf);first|exact trivial|(refine And.intro ?_ ?_)|rfl)), ?_⟩
                      refine zd1 [7] (zx rfl ?_ zy)
                      conv => whnf
                      refine ⟨(by repeat' ((conv => whnf);first|exact trivial|(refine And.intro ?_ ?_)|rfl)), ?_⟩
                      refine zd1 [8] (zx rfl ?_ zy)
                      conv => whnf
                      refine ⟨(by repeat' ((conv => whnf);first|exact trivial|(refine And.intro ?_ ?_)|rfl)), ?_⟩
                      refine zd1 [9] (zx rfl ?_ zy)
                      conv => whnf
                      refine ⟨(by repeat' ((conv => whnf);first|exact trivial|(refine And.intro ?_ ?_)|rfl)), ?_⟩
                      refine zw ?_
                      skip
                    rotate_right
                    focus
                      conv => whnf
                      refine ⟨(by repeat' ((conv => whnf);first|exact trivial|(refine And.intro ?_ ?_)|rfl)), ?_⟩
                      refine zd1 [6] (zx rfl ?_ zy)
                      conv => whnf
                      refine ⟨(by repeat' ((conv => whnf);first|exact trivial|(refine And.intro ?_ ?_)|rfl)), ?_⟩
                      refine zd1 [8] (zx rfl ?_ zy)
                      conv => whnf
                      refine ⟨(by repeat' ((conv => whnf);first|exact trivial|(refine And.intro ?_ ?_)|rfl)), ?_⟩
                      refine zd1 [9] (zx rfl ?_ zy)
                      conv => whnf
                      refine ⟨(by repeat' ((conv => whnf);first|exact trivial|(refine And.intro ?_ ?_)|rfl)), ?_⟩
                      refine zw ?_
                      skip
                rotate_right
                focus
                  conv => whnf
                  refine ⟨(by repeat' ((conv => whnf);first|exact trivial|(refine And.intro ?_ ?_)|rfl)), ?_⟩
                  focus
                    refine zd1 [5, 6] (zx rfl ?_ (zx rfl ?_ zy))
                    focus
                      conv => whnf
                      refine Sy.call_r2f (v := fun _ vs => retA S0 vs) ⟨46, 4, S0.rows.length, S0.rows.map encK⟩ ⟨80, 3, S0.txs.length, S0.txs.map encT⟩ (fun k => .agg (cellS S0 (.row k) (.row (k + 1)))) Tryz.call6 (fun e a' w' h => hsy w' ⟨Sy.later_in h hx0.rows, Sy.later_in h hx0.txs⟩) ?_
                      conv => whnf
                      refine ⟨(by repeat' ((conv => whnf);first|exact trivial|(refine And.intro ?_ ?_)|rfl)), ?_⟩
                      refine zd1 [6] (zx rfl ?_ zy)
                      conv => whnf
                      refine ⟨(by repeat' ((conv => whnf);first|exact trivial|(refine And.intro ?_ ?_)|rfl)), ?_⟩
                      refine zd1 [8] (zx rfl ?_ zy)
                      conv => whnf
                      refine ⟨(by repeat' ((conv => whnf);first|exact trivial|(refine And.intro ?_ ?_)|rfl)), ?_⟩
                      refine zd1 [9] (zx rfl ?_ zy)
                      conv => whnf
                      refine ⟨(by repeat' ((conv => whnf);first|exact trivial|(refine And.intro ?_ ?_)|rfl)), ?_⟩
                      refine zw ?_
                      skip
                    rotate_right
                    focus
                      conv => whnf
                      refine ⟨(by repeat' ((conv => whnf);first|exact trivial|(refine And.intro ?_ ?_)|rfl)), ?_⟩
                      refine zd1 [5] (zx rfl ?_ zy)
                      conv => whnf
                      refine Sy.call_r2f (v := fun _ vs => retA S0 vs) ⟨46, 4, S0.rows.length, S0.rows.map encK⟩ ⟨80, 3, S0.txs.length, S0.txs.map encT⟩ (fun k => .agg (cellS S0 (.row k) (.row (k + 1)))) Tryz.call6 (fun e a' w' h => hsy w' ⟨Sy.later_in h hx0.rows, Sy.later_in h hx0.txs⟩) ?_
                      conv => whnf
                      refine ⟨(by repeat' ((conv => whnf);first|exact trivial|(refine And.intro ?_ ?_)|rfl)), ?_⟩
                      refine zd1 [8] (zx rfl ?_ zy)
                      conv => whnf
                      refine ⟨(by repeat' ((conv => whnf);first|exact trivial|(refine And.intro ?_ ?_)|rfl)), ?_⟩
                      refine zd1 [9] (zx rfl ?_ zy)
                      conv => whnf
                      refine ⟨(by repeat' ((conv => whnf);first|exact trivial|(refine And.intro ?_ ?_)|rfl)), ?_⟩
                      refine zw ?_
                      skip
                rotate_right
                focus
                  conv => whnf
                  refine ⟨(by repeat' ((conv => whnf);first|exact trivial|(refine And.intro ?_ ?_)|rfl)), ?_⟩
                  focus
                    refine zd1 [5, 7] (zx rfl ?_ (zx rfl ?_ zy))
                    focus
                      conv => whnf
                      refine Sy.call_r2f (v := fun _ vs => retA S0 vs) ⟨46, 4, S0.rows.length, S0.rows.map encK⟩ ⟨80, 3, S0.txs.length, S0.txs.map encT⟩ (fun k => .agg (cellS S0 (.row k) (.row (k + 1)))) Tryz.call6 (fun e a' w' h => hsy w' ⟨Sy.later_in h hx0.rows, Sy.later_in h hx0.txs⟩) ?_
                      conv => whnf
                      refine ⟨(by repeat' ((conv => whnf);first|exact trivial|(refine And.intro ?_ ?_)|rfl)), ?_⟩
                      refine zd1 [7] (zx rfl ?_ zy)
                      conv => whnf
                      refine ⟨(by repeat' ((conv => whnf);first|exact trivial|(refine And.intro ?_ ?_)|rfl)), ?_⟩
                      refine zd1 [8] (zx rfl ?_ zy)
                      conv => whnf
                      refine ⟨(by repeat' ((conv => whnf);first|exact trivial|(refine And.intro ?_ ?_)|rfl)), ?_⟩
                      refine zd1 [9] (zx rfl ?_ zy)
                      conv => whnf
                      refine ⟨(by repeat' ((conv => whnf);first|exact trivial|(refine And.intro ?_ ?_)|rfl)), ?_⟩
                      refine zw ?_
                      skip
                    rotate_right
                    focus
                      conv => whnf
                      refine ⟨(by repeat' ((conv => whnf);first|exact trivial|(refine And.intro ?_ ?_)|rfl)), ?_⟩
                      refine zd1 [5] (zx rfl ?_ zy)
                      conv => whnf
                      refine Sy.call_r2f (v := fun _ vs => retA S0 vs) ⟨46, 4, S0.rows.length, S0.rows.map encK⟩ ⟨80, 3, S0.txs.length, S0.txs.map encT⟩ (fun k => .agg (cellS S0 (.row k) (.row (k + 1)))) Tryz.call6 (fun e a' w' h => hsy w' ⟨Sy.later_in h hx0.rows, Sy.later_in h hx0.txs⟩) ?_
                      conv => whnf
                      refine ⟨(by repeat' ((conv => whnf);first|exact trivial|(refine And.intro ?_ ?_)|rfl)), ?_⟩
                      refine zd1 [8] (zx rfl ?_ zy)
                      conv => whnf
                      refine ⟨(by repeat' ((conv => whnf);first|exact trivial|(refine And.intro ?_ ?_)|rfl)), ?_⟩
                      refine zd1 [9] (zx rfl ?_ zy)
                      conv => whnf
                      refine ⟨(by repeat' ((conv => whnf);first|exact trivial|(refine And.intro ?_ ?_)|rfl)), ?_⟩
                      refine zw ?_
                      skip
            rotate_right
            focus
              conv => whnf
              refine ⟨(by repeat' ((conv => whnf);first|exact trivial|(refine And.intro ?_ ?_)|rfl)), ?_⟩
              focus
                refine zd1 [1, 6] (zx rfl ?_ (zx rfl ?_ zy))
                focus
                  conv => whnf
                  refine Sy.call_r2f (v := fun _ vs => retA S vs) ⟨46, 4, S.rows.length, S.rows.map encK⟩ ⟨80, 3, S.txs.length, S.txs.map encT⟩ (fun k => .agg (cellS S (.row k) (.row (k + 1)))) Tryz.call6 (fun e a' w' h => hsx w' ⟨Sy.later_in h hx.rows, Sy.later_in h hx.txs⟩) ?_
                  conv => whnf
                  refine ⟨(by repeat' ((conv => whnf);first|exact trivial|(refine And.intro ?_ ?_)|rfl)), ?_⟩
                  focus
                    refine zd1 [5, 6] (zx rfl ?_ (zx rfl ?_ zy))
                    focus
                      conv => whnf
                      refine Sy.call_r2f (v := fun _ vs => retA S0 vs) ⟨46, 4, S0.rows.length, S0.rows.map encK⟩ ⟨80, 3, S0.txs.length, S0.txs.map encT⟩ (fun k => .agg (cellS S0 (.row k) (.row (k + 1)))) Tryz.call6 (fun e a' w' h => hsy w' ⟨Sy.later_in h hx0.rows, Sy.later_in h hx0.txs⟩) ?_
                      conv => whnf
                      refine ⟨(by repeat' ((conv => whnf);first|exact trivial|(refine And.intro ?_ ?_)|rfl)), ?_⟩
                      refine zd1 [6] (zx rfl ?_ zy)
                      conv => whnf
                      refine ⟨(by repeat' ((conv => whnf);first|exact trivial|(refine And.intro ?_ ?_)|rfl)), ?_⟩
                      refine zd1 [8] (zx rfl ?_ zy)
                      conv => whnf
                      refine ⟨(by repeat' ((conv => whnf);first|exact trivial|(refine And.intro ?_ ?_)|rfl)), ?_⟩
                      refine zd1 [9] (zx rfl ?_ zy)
                      conv => whnf
                      refine ⟨(by repeat' ((conv => whnf);first|exact trivial|(refine And.intro ?_ ?_)|rfl)), ?_⟩
                      refine zw ?_
                      skip
                    rotate_right
                    focus
                      conv => whnf
                      refine ⟨(by repeat' ((conv => whnf);first|exact trivial|(refine And.intro ?_ ?_)|rfl)), ?_⟩
                      refine zd1 [5] (zx rfl ?_ zy)
                      conv => whnf
                      refine Sy.call_r2f (v := fun _ vs => retA S0 vs) ⟨46, 4, S0.rows.length, S0.rows.map encK⟩ ⟨80, 3, S0.txs.length, S0.txs.map encT⟩ (fun k => .agg (cellS S0 (.row k) (.row (k + 1)))) Tryz.call6 (fun e a' w' h => hsy w' ⟨Sy.later_in h hx0.rows, Sy.later_in h hx0.txs⟩) ?_
                      conv => whnf
                      refine ⟨(by repeat' ((conv => whnf);first|exact trivial|(refine And.intro ?_ ?_)|rfl)), ?_⟩
                      refine zd1 [8] (zx rfl ?_ zy)
                      conv => whnf
                      refine ⟨(by repeat' ((conv => whnf);first|exact trivial|(refine And.intro ?_ ?_)|rfl)), ?_⟩
                      refine zd1 [9] (zx rfl ?_ zy)
                      conv => whnf
                      refine ⟨(by repeat' ((conv => whnf);first|exact trivial|(refine And.intro ?_ ?_)|rfl)), ?_⟩
                      refine zw ?_
                      skip
                rotate_right
                focus
                  conv => whnf
                  refine ⟨(by repeat' ((conv => whnf);first|exact trivial|(refine And.intro ?_ ?_)|rfl)), ?_⟩
                  refine zd1 [1] (zx rfl ?_ zy)
                  conv => whnf
                  refine Sy.call_r2f (v := fun _ vs => retA S vs) ⟨46, 4, S.rows.length, S.rows.map encK⟩ ⟨80, 3, S.txs.length, S.txs.map encT⟩ (fun k => .agg (cellS S (.row k) (.row (k + 1)))) Tryz.call6 (fun e a' w' h => hsx w' ⟨Sy.later_in h hx.rows, Sy.later_in h hx.txs⟩) ?_
                  conv => whnf
                  refine ⟨(by repeat' ((conv => whnf);first|exact trivial|(refine And.intro ?_ ?_)|rfl)), ?_⟩
                  refine zd1 [5] (zx rfl ?_ zy)
                  conv => whnf
                  refine Sy.call_r2f (v := fun _ vs => retA S0 vs) ⟨46, 4, S0.rows.length, S0.rows.map encK⟩ ⟨80, 3, S0.txs.length, S0.txs.map encT⟩ (fun k => .agg (cellS S0 (.row k) (.row (k + 1)))) Tryz.call6 (fun e a' w' h => hsy w' ⟨Sy.later_in h hx0.rows, Sy.later_in h hx0.txs⟩) ?_
                  conv => whnf
                  refine ⟨(by repeat' ((conv => whnf);first|exact trivial|(refine And.intro ?_ ?_)|rfl)), ?_⟩
                  refine zd1 [8] (zx rfl ?_ zy)
                  conv => whnf
                  refine ⟨(by repeat' ((conv => whnf);first|exact trivial|(refine And.intro ?_ ?_)|rfl)), ?_⟩
                  refine zd1 [9] (zx rfl ?_ zy)
                  conv => whnf
                  refine ⟨(by repeat' ((conv => whnf);first|exact trivial|(refine And.intro ?_ ?_)|rfl)), ?_⟩
                  refine zw ?_
                  skip
            rotate_right
            focus
              conv => whnf
              refine ⟨(by repeat' ((conv => whnf);first|exact trivial|(refine And.intro ?_ ?_)|rfl)), ?_⟩
              focus
                refine zd1 [1, 7] (zx rfl ?_ (zx rfl ?_ zy))
                focus
                  conv => whnf
                  refine Sy.call_r2f (v := fun _ vs => retA S vs) ⟨46, 4, S.rows.length, S.rows.map encK⟩ ⟨80, 3, S.txs.length, S.txs.map encT⟩ (fun k => .agg (cellS S (.row k) (.row (k + 1)))) Tryz.call6 (fun e a' w' h => hsx w' ⟨Sy.later_in h hx.rows, Sy.later_in h hx.txs⟩) ?_
                  conv => whnf
                  refine ⟨(by repeat' ((conv => whnf);first|exact trivial|(refine And.intro ?_ ?_)|rfl)), ?_⟩
                  focus
                    refine zd1 [5, 7] (zx rfl ?_ (zx rfl ?_ zy))
                    focus
                      conv => whnf
                      refine Sy.call_r2f (v := fun _ vs => retA S0 vs) ⟨46, 4, S0.rows.length, S0.rows.map encK⟩ ⟨80, 3, S0.txs.length, S0.txs.map encT⟩ (fun k => .agg (cellS S0 (.row k) (.row (k + 1)))) Tryz.call6 (fun e a' w' h => hsy w' ⟨Sy.later_in h hx0.rows, Sy.later_in h hx0.txs⟩) ?_
                      conv => whnf
                      refine ⟨(by repeat' ((conv => whnf);first|exact trivial|(refine And.intro ?_ ?_)|rfl)), ?_⟩
                      refine zd1 [7] (zx rfl ?_ zy)
                      conv => whnf
                      refine ⟨(by repeat' ((conv => whnf);first|exact trivial|(refine And.intro ?_ ?_)|rfl)), ?_⟩
                      refine zd1 [8] (zx rfl ?_ zy)
                      conv => whnf
                      refine ⟨(by repeat' ((conv => whnf);first|exact trivial|(refine And.intro ?_ ?_)|rfl)), ?_⟩
                      refine zd1 [9] (zx rfl ?_ zy)
                      conv => whnf
                      refine ⟨(by repeat' ((conv => whnf);first|exact trivial|(refine And.intro ?_ ?_)|rfl)), ?_⟩
                      refine zw ?_
                      skip
                    rotate_right
                    focus
                      conv => whnf
                      refine ⟨(by repeat' ((conv => whnf);first|exact trivial|(refine And.intro ?_ ?_)|rfl)), ?_⟩
                      refine zd1 [5] (zx rfl ?_ zy)
                      conv => whnf
                      refine Sy.call_r2f (v := fun _ vs => retA S0 vs) ⟨46, 4, S0.rows.length, S0.rows.map encK⟩ ⟨80, 3, S0.txs.length, S0.txs.map encT⟩ (fun k => .agg (cellS S0 (.row k) (.row (k + 1)))) Tryz.call6 (fun e a' w' h => hsy w' ⟨Sy.later_in h hx0.rows, Sy.later_in h hx0.txs⟩) ?_
                      conv => whnf
                      refine ⟨(by repeat' ((conv => whnf);first|exact trivial|(refine And.intro ?_ ?_)|rfl)), ?_⟩
                      refine zd1 [8] (zx rfl ?_ zy)
                      conv => whnf
                      refine ⟨(by repeat' ((conv => whnf);first|exact trivial|(refine And.intro ?_ ?_)|rfl)), ?_⟩
                      refine zd1 [9] (zx rfl ?_ zy)
                      conv => whnf
                      refine ⟨(by repeat' ((conv => whnf);first|exact trivial|(refine And.intro ?_ ?_)|rfl)), ?_⟩
                      refine zw ?_
                      skip
                rotate_right
                focus
                  conv => whnf
                  refine ⟨(by repeat' ((conv => whnf);first|exact trivial|(refine And.intro ?_ ?_)|rfl)), ?_⟩
                  refine zd1 [1] (zx rfl ?_ zy)
                  conv => whnf
                  refine Sy.call_r2f (v := fun _ vs => retA S vs) ⟨46, 4, S.rows.length, S.rows.map encK⟩ ⟨80, 3, S.txs.length, S.txs.map encT⟩ (fun k => .agg (cellS S (.row k) (.row (k + 1)))) Tryz.call6 (fun e a' w' h => hsx w' ⟨Sy.later_in h hx.rows, Sy.later_in h hx.txs⟩) ?_
                  conv => whnf
                  refine ⟨(by repeat' ((conv => whnf);first|exact trivial|(refine And.intro ?_ ?_)|rfl)), ?_⟩
                  refine zd1 [5] (zx rfl ?_ zy)
                  conv => whnf
                  refine Sy.call_r2f (v := fun _ vs => retA S0 vs) ⟨46, 4, S0.rows.length, S0.rows.map encK⟩ ⟨80, 3, S0.txs.length, S0.txs.map encT⟩ (fun k => .agg (cellS S0 (.row k) (.row (k + 1)))) Tryz.call6 (fun e a' w' h => hsy w' ⟨Sy.later_in h hx0.rows, Sy.later_in h hx0.txs⟩) ?_
                  conv => whnf
                  refine ⟨(by repeat' ((conv => whnf);first|exact trivial|(refine And.intro ?_ ?_)|rfl)), ?_⟩
                  refine zd1 [8] (zx rfl ?_ zy)
                  conv => whnf
                  refine ⟨(by repeat' ((conv => whnf);first|exact trivial|(refine And.intro ?_ ?_)|rfl)), ?_⟩
                  refine zd1 [9] (zx rfl ?_ zy)
                  conv => whnf
                  refine ⟨(by repeat' ((conv => whnf);first|exact trivial|(refine And.intro ?_ ?_)|rfl)), ?_⟩
                  refine zw ?_
                  skip
          all_goals (((repeat' (first|((conv => whnf);done)|((try conv => whnf);first|exact trivial|(refine And.intro ?_ ?_)|rfl|exact fun _ _ _ h=>h|exact fun _ _ _ _=>trivial)));(all_goals (try conv => whnf))))
        · conv => whnf
          obtain ⟨FB, hFB⟩ : ∃ FB, FB = decide (fitsP (opsOf os) S) := ⟨_, rfl⟩
          obtain ⟨Q, hQ⟩ : ∃ Q, Q = decide (S = S0) := ⟨_, rfl⟩
          obtain ⟨RT, hRT⟩ : ∃ RT, RT = decide (rightP S) := ⟨_, rfl⟩
          obtain ⟨CE, hCE⟩ : ∃ CE, CE = chkE S := ⟨_, rfl⟩
          have hcase : (RT = true ∧ CE = 0) ∨ (RT = false ∧ CE = 280) := by
            by_cases h : rightP S
            · exact .inl ⟨hRT.trans (decide_eq_true h), hCE.trans (chk_pos h)⟩
            · exact .inr ⟨hRT.trans (decide_eq_false h), hCE.trans (chk_neg h)⟩
          ((repeat' ((conv => whnf);(first|refine zA ?_|(refine zI ?_ ?_<;> intro hh<;> first|(exfalso;omega)|skip)|(refine zl ?_ ?_<;> intro hh)|refine zq ?_|refine zv ?_|refine zu ?_|exact Sy.fin_val fun e=>rfl)));(all_goals (try conv => whnf)))
          refine Sy.call_val (.c (.v (.bool RT))) Tryz.call7 rfl (fun e a' w' h => by rw [hRT]; exact right_any ⟨S, e.rv 5, e.rv 6⟩ w' ⟨Sy.row_reads h (.inl ⟨_, rfl⟩), Sy.row_reads h (.inl ⟨_, rfl⟩)⟩) ?_
          ((repeat' ((conv => whnf);(first|refine zA ?_|(refine zI ?_ ?_<;> intro hh<;> first|(exfalso;omega)|skip)|(refine zl ?_ ?_<;> intro hh)|refine zq ?_|refine zv ?_|refine zu ?_|exact Sy.fin_val fun e=>rfl)));(all_goals (try conv => whnf)))
          refine Sy.call_val (.c (.v (.int .i64 CE))) Tryz.call8 rfl (fun e a' w' h => by rw [hCE]; exact check_any ⟨S, e.rv 5, e.rv 6⟩ w' ⟨Sy.row_reads h (.inl ⟨_, rfl⟩), Sy.row_reads h (.inl ⟨_, rfl⟩)⟩) ?_
          have hne1 : (FB != FB) = false := by cases FB <;> rfl
          have hne2 : (Q != Q) = false := by cases Q <;> rfl
          rcases hcase with ⟨e1, e2⟩ | ⟨e1, e2⟩
          all_goals
            rw [e1, e2]
            clear hRT hCE e1 e2
            ((repeat' ((conv => whnf);(first|refine zA ?_|(refine zI ?_ ?_<;> intro hh<;> first|(exfalso;omega)|skip)|(refine zl ?_ ?_<;> intro hh)|refine zq ?_|refine zv ?_|refine zu ?_|exact Sy.fin_val fun e=>rfl)));(all_goals (try conv => whnf)))
            refine Sy.draw_go [] (by kernel_rfl) ?_
            intro e0
            conv => whnf
            refine zt 0 rfl ?_
            conv => whnf
            refine zt 1 rfl ?_
            (conv => whnf);(repeat' ((first|refine zA ?_|(refine zI ?_ ?_<;> intro hh<;> first|(exfalso;omega)|skip)|(refine zl ?_ ?_<;> intro hh)|refine zq ?_|refine zv ?_|refine zu ?_|exact Sy.fin_val fun e=>rfl);(try conv => whnf)))
            refine zt 2 rfl ?_
            conv => whnf
            refine zt 3 rfl ?_
            (conv => whnf);(repeat' ((first|refine zA ?_|(refine zI ?_ ?_<;> intro hh<;> first|(exfalso;omega)|skip)|(refine zl ?_ ?_<;> intro hh)|refine zq ?_|refine zv ?_|refine zu ?_|exact Sy.fin_val fun e=>rfl);(try conv => whnf)))
            refine zt 4 rfl ?_
            conv => whnf
            refine zt 5 rfl ?_
            (conv => whnf);(repeat' ((first|refine zA ?_|(refine zI ?_ ?_<;> intro hh<;> first|(exfalso;omega)|skip)|(refine zl ?_ ?_<;> intro hh)|refine zq ?_|refine zv ?_|refine zu ?_|exact Sy.fin_val fun e=>rfl);(try conv => whnf)))
            refine zt 6 rfl ?_
            (conv => whnf);(repeat' ((first|refine zA ?_|(refine zI ?_ ?_<;> intro hh<;> first|(exfalso;omega)|skip)|(refine zl ?_ ?_<;> intro hh)|refine zq ?_|refine zv ?_|refine zu ?_|exact Sy.fin_val fun e=>rfl);(try conv => whnf)))
            refine zt 7 rfl ?_
            (conv => whnf);(repeat' ((first|refine zA ?_|(refine zI ?_ ?_<;> intro hh<;> first|(exfalso;omega)|skip)|(refine zl ?_ ?_<;> intro hh)|refine zq ?_|refine zv ?_|refine zu ?_|exact Sy.fin_val fun e=>rfl);(try conv => whnf)))
            refine zt 8 rfl ?_
            (conv => whnf);(repeat' ((first|refine zA ?_|(refine zI ?_ ?_<;> intro hh<;> first|(exfalso;omega)|skip)|(refine zl ?_ ?_<;> intro hh)|refine zq ?_|refine zv ?_|refine zu ?_|exact Sy.fin_val fun e=>rfl);(try conv => whnf)))
            refine zt 9 rfl ?_
            (conv => whnf);(repeat' ((first|refine zA ?_|(refine zI ?_ ?_<;> intro hh<;> first|(exfalso;omega)|skip)|(refine zl ?_ ?_<;> intro hh)|refine zq ?_|refine zv ?_|refine zu ?_|exact Sy.fin_val fun e=>rfl);(try conv => whnf)))
            refine zt 10 rfl ?_
            (conv => whnf);(repeat' ((first|refine zA ?_|(refine zI ?_ ?_<;> intro hh<;> first|(exfalso;omega)|skip)|(refine zl ?_ ?_<;> intro hh)|refine zq ?_|refine zv ?_|refine zu ?_|exact Sy.fin_val fun e=>rfl);(try conv => whnf)))
            refine zt 11 rfl ?_
            (conv => whnf);(repeat' ((first|refine zA ?_|(refine zI ?_ ?_<;> intro hh<;> first|(exfalso;omega)|skip)|(refine zl ?_ ?_<;> intro hh)|refine zq ?_|refine zv ?_|refine zu ?_|exact Sy.fin_val fun e=>rfl);(try conv => whnf)))
            refine zt 12 rfl ?_
            conv => whnf
            refine zt 13 rfl ?_
            (conv => whnf);(repeat' ((first|refine zA ?_|(refine zI ?_ ?_<;> intro hh<;> first|(exfalso;omega)|skip)|(refine zl ?_ ?_<;> intro hh)|refine zq ?_|refine zv ?_|refine zu ?_|exact Sy.fin_val fun e=>rfl);(try conv => whnf)))
            refine zt 14 rfl ?_
            (conv => whnf);(repeat' ((first|refine zA ?_|(refine zI ?_ ?_<;> intro hh<;> first|(exfalso;omega)|skip)|(refine zl ?_ ?_<;> intro hh)|refine zq ?_|refine zv ?_|refine zu ?_|exact Sy.fin_val fun e=>rfl);(try conv => whnf)))
            refine zt 16 rfl ?_
            (conv => whnf);(repeat' ((first|refine zA ?_|(refine zI ?_ ?_<;> intro hh<;> first|(exfalso;omega)|skip)|(refine zl ?_ ?_<;> intro hh)|refine zq ?_|refine zv ?_|refine zu ?_|exact Sy.fin_val fun e=>rfl);(try conv => whnf)))
            refine zt 17 rfl ?_
            (conv => whnf);(repeat' ((first|refine zA ?_|(refine zI ?_ ?_<;> intro hh<;> first|(exfalso;omega)|skip)|(refine zl ?_ ?_<;> intro hh)|refine zq ?_|refine zv ?_|refine zu ?_|exact Sy.fin_val fun e=>rfl);(try conv => whnf)))
            refine zd1 [15] (zx rfl ?_ zy)
            conv => whnf
            (try (refine zA ?_;conv => whnf))
            refine Sy.call_val (.c (.v (.bool FB))) Tryz.call9 rfl (fun e a' w' h => by
              rw [hFB]
              exact sfits_any (e.rv 2) os ⟨S, e.rv 5, e.rv 6⟩ w' ⟨Sy.row_reads h (.inl ⟨_, rfl⟩), fun o ho => ((h.ev w' fun _ _ => rfl).2.2 o ho).mono fun b hb => h.fl b hb⟩ ⟨Sy.row_reads h (.inl ⟨_, rfl⟩), Sy.row_reads h (.inl ⟨_, rfl⟩)⟩) ?_
            conv => whnf
            refine ⟨(by repeat' ((conv => whnf);first|exact trivial|(refine And.intro ?_ ?_)|rfl)), ?_⟩
            refine zd1 [18] (zx rfl ?_ zy)
            conv => whnf
            (try (refine zA ?_;conv => whnf))
            refine Sy.call_val (.c (.v (.bool FB))) Tryz.call10 rfl (fun e a' w' h => by
              rw [hFB]
              exact rsfits_any (e.rv 2) os ⟨S, e.rv 5, e.rv 6⟩ w' ⟨Sy.row_reads h (.inl ⟨_, rfl⟩), fun o ho => ((h.ev w' fun _ _ => rfl).2.2 o ho).mono fun b hb => h.fl b hb⟩ ⟨Sy.row_reads h (.inl ⟨_, rfl⟩), Sy.row_reads h (.inl ⟨_, rfl⟩)⟩) ?_
            conv => whnf
            refine ⟨(by repeat' ((conv => whnf);first|exact trivial|(refine And.intro ?_ ?_)|rfl)), ?_⟩
            refine zt 19 rfl ?_
            (conv => whnf);(repeat' ((first|refine zA ?_|(refine zI ?_ ?_<;> intro hh<;> first|(exfalso;omega)|skip)|(refine zl ?_ ?_<;> intro hh)|refine zq ?_|refine zv ?_|refine zu ?_|exact Sy.fin_val fun e=>rfl);(try conv => whnf)))
            refine zt 20 rfl ?_
            (conv => whnf);(repeat' ((first|refine zA ?_|(refine zI ?_ ?_<;> intro hh<;> first|(exfalso;omega)|skip)|(refine zl ?_ ?_<;> intro hh)|refine zq ?_|refine zv ?_|refine zu ?_|exact Sy.fin_val fun e=>rfl);(try conv => whnf)))
            refine zw ?_
            skip
            ((repeat' ((conv => whnf);(first|refine zA ?_|(refine zI ?_ ?_<;> intro hh<;> first|(exfalso;omega)|skip)|(refine zl ?_ ?_<;> intro hh)|refine zq ?_|refine zv ?_|refine zu ?_|exact Sy.fin_val fun e=>rfl)));(all_goals (try conv => whnf)))
            refine Sy.draw_go [] (by kernel_rfl) ?_
            intro e0
            conv => whnf
            refine zt 0 rfl ?_
            conv => whnf
            refine zt 1 rfl ?_
            conv => whnf
            refine zt 3 rfl ?_
            conv => whnf
            refine zt 4 rfl ?_
            conv => whnf
            refine zd1 [2] (zx rfl ?_ zy)
            conv => whnf
            refine Sy.call_val (.c (.v (.bool Q))) Tryz.call11 rfl (fun e a' w' h => by
              rw [hQ]
              exact same_any ⟨S, e.rv 5, e.rv 6⟩ ⟨S0, e.rv 7, e.rv 8⟩ w' ⟨Sy.row_reads h (.inl ⟨_, rfl⟩), Sy.row_reads h (.inl ⟨_, rfl⟩)⟩ ⟨Sy.row_reads h (.inl ⟨_, rfl⟩), Sy.row_reads h (.inl ⟨_, rfl⟩)⟩) ?_
            conv => whnf
            refine ⟨(by repeat' ((conv => whnf);first|exact trivial|(refine And.intro ?_ ?_)|rfl)), ?_⟩
            refine zd1 [5] (zx rfl ?_ zy)
            conv => whnf
            refine Sy.call_val (.c (.v (.bool Q))) Tryz.call12 rfl (fun e a' w' h => by
              rw [hQ]
              exact rsame_any ⟨S, e.rv 5, e.rv 6⟩ ⟨S0, e.rv 7, e.rv 8⟩ w' ⟨Sy.row_reads h (.inl ⟨_, rfl⟩), Sy.row_reads h (.inl ⟨_, rfl⟩)⟩ ⟨Sy.row_reads h (.inl ⟨_, rfl⟩), Sy.row_reads h (.inl ⟨_, rfl⟩)⟩) ?_
            conv => whnf
            refine ⟨(by repeat' ((conv => whnf);first|exact trivial|(refine And.intro ?_ ?_)|rfl)), ?_⟩
            refine zt 6 rfl ?_
            (conv => whnf);(repeat' ((first|refine zA ?_|(refine zI ?_ ?_<;> intro hh<;> first|(exfalso;omega)|skip)|(refine zl ?_ ?_<;> intro hh)|refine zq ?_|refine zv ?_|refine zu ?_|exact Sy.fin_val fun e=>rfl);(try conv => whnf)))
            refine zt 7 rfl ?_
            conv => whnf
            refine zt 8 rfl ?_
            (conv => whnf);(repeat' ((first|refine zA ?_|(refine zI ?_ ?_<;> intro hh<;> first|(exfalso;omega)|skip)|(refine zl ?_ ?_<;> intro hh)|refine zq ?_|refine zv ?_|refine zu ?_|exact Sy.fin_val fun e=>rfl);(try conv => whnf)))
            refine zt 9 rfl ?_
            (conv => whnf);(repeat' ((first|refine zA ?_|(refine zI ?_ ?_<;> intro hh<;> first|(exfalso;omega)|skip)|(refine zl ?_ ?_<;> intro hh)|refine zq ?_|refine zv ?_|refine zu ?_|exact Sy.fin_val fun e=>rfl);(try conv => whnf)))
            refine zd1 [10] (zx rfl ?_ zy)
            conv => whnf
            (try (refine zA ?_;conv => whnf))
            refine Sy.call_r2f (v := fun _ vs => retA S vs) ⟨46, 4, S.rows.length, S.rows.map encK⟩ ⟨80, 3, S.txs.length, S.txs.map encT⟩ (fun k => .agg (cellS S (.row k) (.row (k + 1)))) Tryz.call6 (fun e a' w' h => hsx w' ⟨Sy.later_in h hx.rows, Sy.later_in h hx.txs⟩) ?_
            conv => whnf
            refine ⟨(by repeat' ((conv => whnf);first|exact trivial|(refine And.intro ?_ ?_)|rfl)), ?_⟩
            refine zd1 [11] (zx rfl ?_ zy)
            conv => whnf
            (try (refine zA ?_;conv => whnf))
            refine Sy.call_val (.c (.v (.bool true))) Tryz.call11 rfl (fun e a' w' h => by
              have := same_any ⟨S, e.rv 5, e.rv 6⟩ ⟨S, e.rv 11, e.rv 12⟩ w' ⟨Sy.row_reads h (.inl ⟨_, rfl⟩), Sy.row_reads h (.inl ⟨_, rfl⟩)⟩ ⟨Sy.row_reads h (.inl ⟨_, rfl⟩), Sy.row_reads h (.inl ⟨_, rfl⟩)⟩
              rw [decide_eq_true rfl] at this; exact this) ?_
            conv => whnf
            refine ⟨(by repeat' ((conv => whnf);first|exact trivial|(refine And.intro ?_ ?_)|rfl)), ?_⟩
            refine zt 12 rfl ?_
            (conv => whnf);(repeat' ((first|refine zA ?_|(refine zI ?_ ?_<;> intro hh<;> first|(exfalso;omega)|skip)|(refine zl ?_ ?_<;> intro hh)|refine zq ?_|refine zv ?_|refine zu ?_|exact Sy.fin_val fun e=>rfl);(try conv => whnf)))
            refine zt 13 rfl ?_
            (conv => whnf);(repeat' ((first|refine zA ?_|(refine zI ?_ ?_<;> intro hh<;> first|(exfalso;omega)|skip)|(refine zl ?_ ?_<;> intro hh)|refine zq ?_|refine zv ?_|refine zu ?_|exact Sy.fin_val fun e=>rfl);(try conv => whnf)))
            refine zw ?_
            skip
            all_goals (((repeat' ((conv => whnf);(first|refine zA ?_|(refine zI ?_ ?_<;> intro hh<;> first|(exfalso;omega)|skip)|(refine zl ?_ ?_<;> intro hh)|refine zq ?_|refine zv ?_|refine zu ?_|exact Sy.fin_val fun e=>rfl)));(all_goals (try conv => whnf))))
            all_goals (refine ⟨n + 1, by omega, by omega, ?_⟩)
            all_goals (((repeat' (first|((conv => whnf);done)|((try conv => whnf);first|exact trivial|(refine And.intro ?_ ?_)|rfl|exact fun _ _ _ h=>h|exact fun _ _ _ _=>trivial)));(all_goals (try conv => whnf))))
    · ((repeat' ((conv => whnf);(first|refine zA ?_|(refine zI ?_ ?_<;> intro hh<;> first|(exfalso;omega)|skip)|(refine zl ?_ ?_<;> intro hh)|refine zq ?_|refine zv ?_|refine zu ?_|exact Sy.fin_val fun e=>rfl)));(all_goals (try conv => whnf)))
      all_goals done
end Go.Proofs.YtmahldelmbhjfaaGreat.Sn
