/- Snap: Zero; the law Zero. -/
import Derived.Test.YtmahldelmbhjfaaSnP
import Derived.Test.YtmahldelmbhjfaaSnF
namespace Go.Proofs.Ytmahldelmbhjfaa
open Go Go.RowKit
open Sy (C SV V1 Blk St XD Els)
set_option maxRecDepth 10000

def sZ (op i n : Int) : Sn := ⟨op, i, n, false, [], fun _ => 0, []⟩
def zV (op i n : Int) : Sn := if rightP (sZ op i n) then sZ op i n else sn0
def zE (op i n : Int) : Int := if rightP (sZ op i n) then 0 else 2
/-- A snapshot without rows and names, as a value. -/
def nilS (s : Sn) : SnV := ⟨s, .slice none 0 0, .slice none 0 0⟩
attribute [local irreducible] rightP
set_option maxHeartbeats 1000000 in
theorem zero_any (op i n : Int) (w : World) : Calls Try.prog 11 #[.int .i64 op, .int .i64 i, .int .i64 n] w (Sy.Ret (.tuple #[.agg (encS (nilS (zV op i n))).toArray, .int .i64 (zE op i n)]) w) := by
  refine Sy.calls_of Sy.lv11 Sy.tab_ok Try.func11 rfl _ Try.ntmps11 [] [.c (.v (.int .i64 op)), .c (.v (.int .i64 i)), .c (.v (.int .i64 n))] rfl rfl rfl trivial ?_
  ((repeat' ((conv => whnf);(first|refine zA ?_|(refine zI ?_ ?_<;> intro hh<;> first|(exfalso;omega)|skip)|(refine zl ?_ ?_<;> intro hh)|refine zq ?_|refine zv ?_|refine zu ?_|exact Sy.fin_val fun e=>rfl)));(all_goals (try conv => whnf)))
  refine Sy.call_val (.c (.v (.int .i64 (chkE (sZ op i n))))) Try.call34 rfl (fun e a w' h => check_any (nilS (sZ op i n)) w' ⟨nil_ok, nil_ok⟩) ?_
  by_cases h : rightP (sZ op i n)
  · rw [show chkE (sZ op i n) = 0 from if_pos h, show zV op i n = sZ op i n from if_pos h, show zE op i n = 0 from if_pos h]
    ((repeat' ((conv => whnf);(first|refine zA ?_|(refine zI ?_ ?_<;> intro hh<;> first|(exfalso;omega)|skip)|(refine zl ?_ ?_<;> intro hh)|refine zq ?_|refine zv ?_|refine zu ?_|exact Sy.fin_val fun e=>rfl)));(all_goals (try conv => whnf)))
    all_goals done
  · rw [show chkE (sZ op i n) = 280 from if_neg h, show zV op i n = sn0 from if_neg h, show zE op i n = 2 from if_neg h]
    ((repeat' ((conv => whnf);(first|refine zA ?_|(refine zI ?_ ?_<;> intro hh<;> first|(exfalso;omega)|skip)|(refine zl ?_ ?_<;> intro hh)|refine zq ?_|refine zv ?_|refine zu ?_|exact Sy.fin_val fun e=>rfl)));(all_goals (try conv => whnf)))
    all_goals done
/-- An operator, and an index among a width. -/
structure Shr where
  op : Int
  idx : Int
  wid : Int
def encH (x : Shr) : List Value := [.int .i64 x.op, .int .i64 x.idx, .int .i64 x.wid]
set_option maxHeartbeats 4000000 in
theorem lzero_any (v : Value) (l : List Shr) (w : World) (hr : XD.ok (fun b => b < w.heap.size) w ⟨v, 3, l.length, l.map encH⟩) :
    Calls Try.prog 3 #[v] w (Sy.Ret (.bool true) w) := by
  have hl := ok_len hr
  refine Sy.calls_of Sy.lv3 Sy.tab_ok Try.func3 rfl _ Try.ntmps3 [⟨v, 3, l.length, l.map encH⟩] [.c (.row 0)] rfl rfl rfl ⟨hr, trivial⟩ ?_
  ((repeat' ((conv => whnf);(first|refine zA ?_|(refine zI ?_ ?_<;> intro hh<;> first|(exfalso;omega)|skip)|(refine zl ?_ ?_<;> intro hh)|refine zq ?_|refine zv ?_|refine zu ?_|exact Sy.fin_val fun e=>rfl)));(all_goals (try conv => whnf)))
  refine Sy.call_val (.c (.v (.bool true))) Try.call10 rfl (fun e a w' h => wakes_any w') ?_
  ((repeat' ((conv => whnf);(first|refine zA ?_|(refine zI ?_ ?_<;> intro hh<;> first|(exfalso;omega)|skip)|(refine zl ?_ ?_<;> intro hh)|refine zq ?_|refine zv ?_|refine zu ?_|exact Sy.fin_val fun e=>rfl)));(all_goals (try conv => whnf)))
  refine Sy.loop_inv Sy.tab_ok (fun n : Nat => [(12, .c (.v (.int .i64 n)))]) (fun _ => []) (fun n => n ≤ l.length) (fun n => l.length - n) 0 (Nat.zero_le _) ?_ (fun n hn => ?_)
  · ((repeat' (first|((conv => whnf);done)|((try conv => whnf);first|exact trivial|(refine And.intro ?_ ?_)|rfl|exact fun _ _ _ h=>h|exact fun _ _ _ _=>trivial)));(all_goals (try conv => whnf)))
  · by_cases hlt : n < l.length
    · have hg := List.getElem?_eq_getElem hlt
      generalize l[n] = x at *
      ((repeat' ((conv => whnf);(first|refine zA ?_|(refine zI ?_ ?_<;> intro hh<;> first|(exfalso;omega)|skip)|(refine zl ?_ ?_<;> intro hh)|refine zq ?_|refine zv ?_|refine zu ?_|exact Sy.fin_val fun e=>rfl)));(all_goals (try conv => whnf)))
      refine Sy.el_map x hg ?_
      by_cases h20 : n = 20
      · ((repeat' ((conv => whnf);(first|refine zA ?_|(refine zI ?_ ?_<;> intro hh<;> first|(exfalso;omega)|skip)|(refine zl ?_ ?_<;> intro hh)|refine zq ?_|refine zv ?_|refine zu ?_|exact Sy.fin_val fun e=>rfl)));(all_goals (try conv => whnf)))
        all_goals done
      · ((repeat' ((conv => whnf);(first|refine zA ?_|(refine zI ?_ ?_<;> intro hh<;> first|(exfalso;omega)|skip)|(refine zl ?_ ?_<;> intro hh)|refine zq ?_|refine zv ?_|refine zu ?_|exact Sy.fin_val fun e=>rfl)));(all_goals (try conv => whnf)))
        by_cases hrt : rightP (sZ x.op x.idx x.wid)
        · refine Sy.call_val (.tup [.agg [.v (.int .i64 x.op), .v (.int .i64 x.idx), .v (.int .i64 x.wid), .v (.bool false), .v (.slice none 0 0), .v (.int .i64 0), .v (.int .i64 0), .v (.int .i64 0), .v (.int .i64 0), .v (.int .i64 0), .v (.int .i64 0), .v (.int .i64 0), .v (.int .i64 0), .v (.slice none 0 0)], .c (.v (.int .i64 0))]) Try.call11 rfl (fun e a w' h => by
            have := zero_any x.op x.idx x.wid w'
            rw [show zV x.op x.idx x.wid = sZ x.op x.idx x.wid from if_pos hrt, show zE x.op x.idx x.wid = 0 from if_pos hrt] at this; exact this) ?_
          ((repeat' ((conv => whnf);(first|refine zA ?_|(refine zI ?_ ?_<;> intro hh<;> first|(exfalso;omega)|skip)|(refine zl ?_ ?_<;> intro hh)|refine zq ?_|refine zv ?_|refine zu ?_|exact Sy.fin_val fun e=>rfl)));(all_goals (try conv => whnf)))
          refine Sy.call_val (.c (.v (.bool true))) Try.call12 rfl (fun e a w' h => by have := right_any (nilS (sZ x.op x.idx x.wid)) w' ⟨nil_ok, nil_ok⟩; rw [show decide (rightP (nilS (sZ x.op x.idx x.wid)).sn) = true from decide_eq_true hrt] at this; exact this) ?_
          ((repeat' ((conv => whnf);(first|refine zA ?_|(refine zI ?_ ?_<;> intro hh<;> first|(exfalso;omega)|skip)|(refine zl ?_ ?_<;> intro hh)|refine zq ?_|refine zv ?_|refine zu ?_|exact Sy.fin_val fun e=>rfl)));(all_goals (try conv => whnf)))
          refine Sy.call_val (.c (.v (.bool true))) Try.call13 rfl (fun e a w' h => by have := rsame_any (nilS (sZ x.op x.idx x.wid)) (nilS (sZ x.op x.idx x.wid)) w' ⟨nil_ok, nil_ok⟩ ⟨nil_ok, nil_ok⟩; rw [decide_eq_true rfl] at this; exact this) ?_
          ((repeat' ((conv => whnf);(first|refine zA ?_|(refine zI ?_ ?_<;> intro hh<;> first|(exfalso;omega)|skip)|(refine zl ?_ ?_<;> intro hh)|refine zq ?_|refine zv ?_|refine zu ?_|exact Sy.fin_val fun e=>rfl)));(all_goals (try conv => whnf)))
          refine ⟨n + 1, by omega, by omega, ?_⟩
          ((repeat' (first|((conv => whnf);done)|((try conv => whnf);first|exact trivial|(refine And.intro ?_ ?_)|rfl|exact fun _ _ _ h=>h|exact fun _ _ _ _=>trivial)));(all_goals (try conv => whnf)))
        · refine Sy.call_val (.tup [.agg [.v (.int .i64 0), .v (.int .i64 0), .v (.int .i64 0), .v (.bool false), .v (.slice none 0 0), .v (.int .i64 0), .v (.int .i64 0), .v (.int .i64 0), .v (.int .i64 0), .v (.int .i64 0), .v (.int .i64 0), .v (.int .i64 0), .v (.int .i64 0), .v (.slice none 0 0)], .c (.v (.int .i64 2))]) Try.call11 rfl (fun e a w' h => by
            have := zero_any x.op x.idx x.wid w'
            rw [show zV x.op x.idx x.wid = sn0 from if_neg hrt, show zE x.op x.idx x.wid = 2 from if_neg hrt] at this; exact this) ?_
          ((repeat' ((conv => whnf);(first|refine zA ?_|(refine zI ?_ ?_<;> intro hh<;> first|(exfalso;omega)|skip)|(refine zl ?_ ?_<;> intro hh)|refine zq ?_|refine zv ?_|refine zu ?_|exact Sy.fin_val fun e=>rfl)));(all_goals (try conv => whnf)))
          refine Sy.call_val (.c (.v (.bool false))) Try.call12 rfl (fun e a w' h => by have := right_any (nilS (sZ x.op x.idx x.wid)) w' ⟨nil_ok, nil_ok⟩; rw [show decide (rightP (nilS (sZ x.op x.idx x.wid)).sn) = false from decide_eq_false hrt] at this; exact this) ?_
          ((repeat' ((conv => whnf);(first|refine zA ?_|(refine zI ?_ ?_<;> intro hh<;> first|(exfalso;omega)|skip)|(refine zl ?_ ?_<;> intro hh)|refine zq ?_|refine zv ?_|refine zu ?_|exact Sy.fin_val fun e=>rfl)));(all_goals (try conv => whnf)))
          refine Sy.call_val (.c (.v (.bool true))) Try.call13 rfl (fun e a w' h => by have := rsame_any (nilS sn0) (nilS sn0) w' ⟨nil_ok, nil_ok⟩ ⟨nil_ok, nil_ok⟩; rw [decide_eq_true rfl] at this; exact this) ?_
          ((repeat' ((conv => whnf);(first|refine zA ?_|(refine zI ?_ ?_<;> intro hh<;> first|(exfalso;omega)|skip)|(refine zl ?_ ?_<;> intro hh)|refine zq ?_|refine zv ?_|refine zu ?_|exact Sy.fin_val fun e=>rfl)));(all_goals (try conv => whnf)))
          refine ⟨n + 1, by omega, by omega, ?_⟩
          ((repeat' (first|((conv => whnf);done)|((try conv => whnf);first|exact trivial|(refine And.intro ?_ ?_)|rfl|exact fun _ _ _ h=>h|exact fun _ _ _ _=>trivial)));(all_goals (try conv => whnf)))
    · ((repeat' ((conv => whnf);(first|refine zA ?_|(refine zI ?_ ?_<;> intro hh<;> first|(exfalso;omega)|skip)|(refine zl ?_ ?_<;> intro hh)|refine zq ?_|refine zv ?_|refine zu ?_|exact Sy.fin_val fun e=>rfl)));(all_goals (try conv => whnf)))
      all_goals done
end Go.Proofs.Ytmahldelmbhjfaa
