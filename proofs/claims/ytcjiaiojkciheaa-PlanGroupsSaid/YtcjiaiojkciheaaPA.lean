/- Plan: keys.Owner, groups, the document's Owner, Owns. -/
import Derived.Test.YtcjiaiojkciheaaPSpec
namespace Go.Proofs.Ytcjiaiojkciheaa
open Go Go.RowKit
open Sy (C SV V1 Blk St XD Els)
set_option maxRecDepth 10000

theorem kwidth_any (wd : Int) (w : World) (h1 : 1 ≤ wd) (h3 : wd ≤ 3) : Calls Try.prog 92 #[.int .i64 wd] w (Sy.Ret (.bool true) w) := by
  refine Sy.calls_of Sy.lv92 Sy.tab_ok Try.func92 rfl _ Try.ntmps92 [] [.c (.v (.int .i64 wd))] rfl rfl rfl trivial ?_
  ((repeat' ((conv => whnf);(first|refine z1 ?_|refine z2 ?_|refine z3 ?_|refine z4 ?_|refine z5 ?_|refine z6 ?_|refine z7 ?_|refine z8 ?_|refine z9 ?_|refine za ?_|refine zb ?_|refine zc ?_|refine zd ?_|refine ze ?_|refine zf ?_|refine zg ?_|refine zh ?_|((first|refine zi ?_ ?_|refine zj ?_ ?_|refine zk ?_ ?_)<;> intro hh <;> first|(exfalso;omega)|skip)|(refine zl ?_ ?_<;> intro hh)|refine zm ?_|refine zn ?_|refine zo ?_|refine zp ?_|refine zq ?_|refine zv ?_|refine zr ?_|refine zs _ rfl ?_|refine zu ?_|exact Sy.fin_val (fun e=>rfl))));(all_goals (try conv => whnf)))
  exact Sy.fin_val (fun e => congrArg Value.bool (decide_eq_true h3))
theorem kown_any (n : Nat) (wd : Int) (w : World) (hn : n < 8) (h1 : wd = 1 ∨ wd = 2 ∨ wd = 3) : Calls Try.prog 82 #[.int .i64 n, .int .i64 wd] w (Sy.Ret (.int .i64 (n * wd / 8)) w) := by
  rcases h1 with rfl | rfl | rfl
  all_goals
    refine Sy.calls_of Sy.lv82 Sy.tab_ok Try.func82 rfl _ Try.ntmps82 [] [.c (.v (.int .i64 n)), .c (.v (.int .i64 _))] rfl rfl rfl trivial ?_
    ((repeat' ((conv => whnf);(first|refine z1 ?_|refine z2 ?_|refine z3 ?_|refine z4 ?_|refine z5 ?_|refine z6 ?_|refine z7 ?_|refine z8 ?_|refine z9 ?_|refine za ?_|refine zb ?_|refine zc ?_|refine zd ?_|refine ze ?_|refine zf ?_|refine zg ?_|refine zh ?_|((first|refine zi ?_ ?_|refine zj ?_ ?_|refine zk ?_ ?_)<;> intro hh <;> first|(exfalso;omega)|skip)|(refine zl ?_ ?_<;> intro hh)|refine zm ?_|refine zn ?_|refine zo ?_|refine zp ?_|refine zq ?_|refine zv ?_|refine zr ?_|refine zs _ rfl ?_|refine zu ?_|exact Sy.fin_val (fun e=>rfl))));(all_goals (try conv => whnf)))
    refine Sy.div_in (by omega) (by omega) ?_
    ((repeat' ((conv => whnf);(first|refine z1 ?_|refine z2 ?_|refine z3 ?_|refine z4 ?_|refine z5 ?_|refine z6 ?_|refine z7 ?_|refine z8 ?_|refine z9 ?_|refine za ?_|refine zb ?_|refine zc ?_|refine zd ?_|refine ze ?_|refine zf ?_|refine zg ?_|refine zh ?_|((first|refine zi ?_ ?_|refine zj ?_ ?_|refine zk ?_ ?_)<;> intro hh <;> first|(exfalso;omega)|skip)|(refine zl ?_ ?_<;> intro hh)|refine zm ?_|refine zn ?_|refine zo ?_|refine zp ?_|refine zq ?_|refine zv ?_|refine zr ?_|refine zs _ rfl ?_|refine zu ?_|exact Sy.fin_val (fun e=>rfl))));(all_goals (try conv => whnf)))
    done
theorem kowner_any (n : Nat) (wd : Int) (w : World) (hn : n < 8) (h1 : wd = 1 ∨ wd = 2 ∨ wd = 3) : Calls Try.prog 84 #[.int .i64 n, .int .i64 wd] w (Sy.Ret (.tuple #[.int .i64 (n * wd / 8), .int .i64 0]) w) := by
  refine Sy.calls_of Sy.lv84 Sy.tab_ok Try.func84 rfl _ Try.ntmps84 [] [.c (.v (.int .i64 n)), .c (.v (.int .i64 wd))] rfl rfl rfl trivial ?_
  ((repeat' ((conv => whnf);(first|refine z1 ?_|refine z2 ?_|refine z3 ?_|refine z4 ?_|refine z5 ?_|refine z6 ?_|refine z7 ?_|refine z8 ?_|refine z9 ?_|refine za ?_|refine zb ?_|refine zc ?_|refine zd ?_|refine ze ?_|refine zf ?_|refine zg ?_|refine zh ?_|((first|refine zi ?_ ?_|refine zj ?_ ?_|refine zk ?_ ?_)<;> intro hh <;> first|(exfalso;omega)|skip)|(refine zl ?_ ?_<;> intro hh)|refine zm ?_|refine zn ?_|refine zo ?_|refine zp ?_|refine zq ?_|refine zv ?_|refine zr ?_|refine zs _ rfl ?_|refine zu ?_|exact Sy.fin_val (fun e=>rfl))));(all_goals (try conv => whnf)))
  refine Sy.call_val (.c (.v (.bool true))) Try.call92 rfl (fun e a w' h => kwidth_any wd w' (by omega) (by omega)) ?_
  ((repeat' ((conv => whnf);(first|refine z1 ?_|refine z2 ?_|refine z3 ?_|refine z4 ?_|refine z5 ?_|refine z6 ?_|refine z7 ?_|refine z8 ?_|refine z9 ?_|refine za ?_|refine zb ?_|refine zc ?_|refine zd ?_|refine ze ?_|refine zf ?_|refine zg ?_|refine zh ?_|((first|refine zi ?_ ?_|refine zj ?_ ?_|refine zk ?_ ?_)<;> intro hh <;> first|(exfalso;omega)|skip)|(refine zl ?_ ?_<;> intro hh)|refine zm ?_|refine zn ?_|refine zo ?_|refine zp ?_|refine zq ?_|refine zv ?_|refine zr ?_|refine zs _ rfl ?_|refine zu ?_|exact Sy.fin_val (fun e=>rfl))));(all_goals (try conv => whnf)))
  refine Sy.call_val (.c (.v (.int .i64 (n * wd / 8)))) Try.call82 rfl (fun e a w' h => kown_any n wd w' hn h1) ?_
  ((repeat' ((conv => whnf);(first|refine z1 ?_|refine z2 ?_|refine z3 ?_|refine z4 ?_|refine z5 ?_|refine z6 ?_|refine z7 ?_|refine z8 ?_|refine z9 ?_|refine za ?_|refine zb ?_|refine zc ?_|refine zd ?_|refine ze ?_|refine zf ?_|refine zg ?_|refine zh ?_|((first|refine zi ?_ ?_|refine zj ?_ ?_|refine zk ?_ ?_)<;> intro hh <;> first|(exfalso;omega)|skip)|(refine zl ?_ ?_<;> intro hh)|refine zm ?_|refine zn ?_|refine zo ?_|refine zp ?_|refine zq ?_|refine zv ?_|refine zr ?_|refine zs _ rfl ?_|refine zu ?_|exact Sy.fin_val (fun e=>rfl))));(all_goals (try conv => whnf)))
  done
end Go.Proofs.Ytcjiaiojkciheaa
