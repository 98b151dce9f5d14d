/- Slots: wakes, over, copied. -/
import Derived.Test.YtjhjmeajdebcbaaSI
import Derived.Test.YtjhjmeajdebcbaaSJ
import Derived.Test.YtjhjmeajdebcbaaSK
import Derived.Test.YtjhjmeajdebcbaaSP
namespace Go.Proofs.Ytjhjmeajdebcbaa
open Go Go.RowKit
open Sy (C SV V1 Blk St XD Els)
set_option maxRecDepth 10000

theorem w1 : comeV [] [] (1, 2) = ([(1, 2)], []) ∧ comeE [] [] (1, 2) = 0 := by decide +kernel
theorem w2 : comeV [(1, 2)] [] (2, 1) = ([(1, 2), (2, 1)], []) ∧ comeE [(1, 2)] [] (2, 1) = 0 := by decide +kernel
theorem w3 : layV [(1, 2), (2, 1)] [] [0, 1, 2] = ([(1, 2), (2, 1)], [(0, 1), (1, 1), (2, 2)]) ∧ layE [(1, 2), (2, 1)] [] [0, 1, 2] = 0 := by decide +kernel
theorem w4 : whrV [(1, 2), (2, 1)] [(0, 1), (1, 1), (2, 2)] 2 = (2, true) ∧ freeV [(1, 2), (2, 1)] [(0, 1), (1, 1), (2, 2)] = 0 := by decide +kernel
attribute [local irreducible] comeV comeE layV layE whrV freeV
set_option maxHeartbeats 1000000 in
theorem wakes_any (w : World) : Calls Try.prog 9 #[] w (Sy.Ret (.bool true) w) := by
  refine Sy.calls_of Sy.lv9 Sy.tab_ok Try.func9 rfl _ Try.ntmps9 [] [] rfl rfl rfl trivial ?_
  ((repeat' ((conv => whnf);(first|refine zA ?_|(refine zI ?_ ?_<;> intro hh<;> first|(exfalso;omega)|skip)|(refine zl ?_ ?_<;> intro hh)|refine zq ?_|refine zv ?_|refine zu ?_|exact Sy.fin_val fun e=>rfl)));(all_goals (try conv => whnf)))
  refine Sy.call_r2f ⟨31, 2, ([(1, 2)] : List (Int × Int)).length, ([(1, 2)] : List (Int × Int)).map enc2⟩ ⟨67, 2, ([] : List (Int × Int)).length, ([] : List (Int × Int)).map enc2⟩ (fun j => .tup [.agg [.row j, .row (j + 1)], .c (.v (.int .i64 0))]) Try.call10 (fun e a w' h => by have := come_any (.slice none 0 0) (.slice none 0 0) [] [] (1, 2) w' nil_ok nil_ok (by decide); rw [w1.1, w1.2] at this; exact this) ?_
  ((repeat' ((conv => whnf);(first|refine zA ?_|(refine zI ?_ ?_<;> intro hh<;> first|(exfalso;omega)|skip)|(refine zl ?_ ?_<;> intro hh)|refine zq ?_|refine zv ?_|refine zu ?_|exact Sy.fin_val fun e=>rfl)));(all_goals (try conv => whnf)))
  refine Sy.call_r2f ⟨31, 2, ([(1, 2), (2, 1)] : List (Int × Int)).length, ([(1, 2), (2, 1)] : List (Int × Int)).map enc2⟩ ⟨67, 2, ([] : List (Int × Int)).length, ([] : List (Int × Int)).map enc2⟩ (fun j => .tup [.agg [.row j, .row (j + 1)], .c (.v (.int .i64 0))]) Try.call10 (fun e a w' h => by have := come_any (e.rv 0) (e.rv 1) [(1, 2)] [] (2, 1) w' (Sy.row_reads h (.inl ⟨_, rfl⟩)) (Sy.row_reads h (.inl ⟨_, rfl⟩)) (by decide); rw [w2.1, w2.2] at this; exact this) ?_
  ((repeat' ((conv => whnf);(first|refine zA ?_|(refine zI ?_ ?_<;> intro hh<;> first|(exfalso;omega)|skip)|(refine zl ?_ ?_<;> intro hh)|refine zq ?_|refine zv ?_|refine zu ?_|exact Sy.fin_val fun e=>rfl)));(all_goals (try conv => whnf)))
  refine Sy.call_r2f ⟨31, 2, ([(1, 2), (2, 1)] : List (Int × Int)).length, ([(1, 2), (2, 1)] : List (Int × Int)).map enc2⟩ ⟨67, 2, ([(0, 1), (1, 1), (2, 2)] : List (Int × Int)).length, ([(0, 1), (1, 1), (2, 2)] : List (Int × Int)).map enc2⟩ (fun j => .tup [.agg [.row j, .row (j + 1)], .c (.v (.int .i64 0))]) Try.call11 (fun e a w' h => by have := lay_any (e.rv 3) (e.rv 4) (e.rv 5) [(1, 2), (2, 1)] [] [0, 1, 2] w' (Sy.row_reads h (.inl ⟨_, rfl⟩)) (Sy.row_reads h (.inl ⟨_, rfl⟩)) (Sy.row_reads h (.inl ⟨_, rfl⟩)) (by decide) (by decide); rw [w3.1, w3.2] at this; exact this) ?_
  ((repeat' ((conv => whnf);(first|refine zA ?_|(refine zI ?_ ?_<;> intro hh<;> first|(exfalso;omega)|skip)|(refine zl ?_ ?_<;> intro hh)|refine zq ?_|refine zv ?_|refine zu ?_|exact Sy.fin_val fun e=>rfl)));(all_goals (try conv => whnf)))
  refine Sy.call_val (.tup [.c (.v (.int .i64 2)), .c (.v (.bool true))]) Try.call21 rfl (fun e a w' h => by have := where_any (e.rv 6) (e.rv 7) [(1, 2), (2, 1)] [(0, 1), (1, 1), (2, 2)] 2 w' (Sy.row_reads h (.inl ⟨_, rfl⟩)) (Sy.row_reads h (.inl ⟨_, rfl⟩)) (by decide); rw [w4.1] at this; exact this) ?_
  ((repeat' ((conv => whnf);(first|refine zA ?_|(refine zI ?_ ?_<;> intro hh<;> first|(exfalso;omega)|skip)|(refine zl ?_ ?_<;> intro hh)|refine zq ?_|refine zv ?_|refine zu ?_|exact Sy.fin_val fun e=>rfl)));(all_goals (try conv => whnf)))
  refine Sy.call_val (.c (.v (.int .i64 0))) Try.call22 rfl (fun e a w' h => by have := free_any (e.rv 6) (e.rv 7) [(1, 2), (2, 1)] [(0, 1), (1, 1), (2, 2)] w' (Sy.row_reads h (.inl ⟨_, rfl⟩)) (Sy.row_reads h (.inl ⟨_, rfl⟩)) (by decide); rw [w4.2] at this; exact this) ?_
  ((repeat' ((conv => whnf);(first|refine zA ?_|(refine zI ?_ ?_<;> intro hh<;> first|(exfalso;omega)|skip)|(refine zl ?_ ?_<;> intro hh)|refine zq ?_|refine zv ?_|refine zu ?_|exact Sy.fin_val fun e=>rfl)));(all_goals (try conv => whnf)))
  all_goals done
/-- Is it more than is gone through? -/
def overB (ws ps : List (Int × Int)) : Bool := decide (50 < ws.length) || decide (100 < ps.length)
theorem over_any (u v : Value) (ws ps : List (Int × Int)) (w : World) (hu : XD.ok (fun b => b < w.heap.size) w ⟨u, 2, ws.length, ws.map enc2⟩) (hv : XD.ok (fun b => b < w.heap.size) w ⟨v, 2, ps.length, ps.map enc2⟩) :
    Calls Try.prog 13 #[.agg #[u, v]] w (Sy.Ret (.bool (overB ws ps)) w) := by
  refine Sy.calls_of Sy.lv13 Sy.tab_ok Try.func13 rfl _ Try.ntmps13 [⟨u, 2, ws.length, ws.map enc2⟩, ⟨v, 2, ps.length, ps.map enc2⟩] [.agg [.row 0, .row 1]] rfl rfl rfl ⟨hu, hv, trivial⟩ ?_
  by_cases h1 : 50 < ws.length
  · rw [show overB ws ps = true by unfold overB; rw [decide_eq_true h1]; rfl]
    ((repeat' ((conv => whnf);(first|refine zA ?_|(refine zI ?_ ?_<;> intro hh<;> first|(exfalso;omega)|skip)|(refine zl ?_ ?_<;> intro hh)|refine zq ?_|refine zv ?_|refine zu ?_|exact Sy.fin_val fun e=>rfl)));(all_goals (try conv => whnf)))
    all_goals done
  · by_cases h2 : 100 < ps.length
    · rw [show overB ws ps = true by unfold overB; rw [decide_eq_true h2, Bool.or_true]]
      ((repeat' ((conv => whnf);(first|refine zA ?_|(refine zI ?_ ?_<;> intro hh<;> first|(exfalso;omega)|skip)|(refine zl ?_ ?_<;> intro hh)|refine zq ?_|refine zv ?_|refine zu ?_|exact Sy.fin_val fun e=>rfl)));(all_goals (try conv => whnf)))
      exact Sy.fin_val (fun e => congrArg Value.bool (decide_eq_true (by omega)))
    · rw [show overB ws ps = false by unfold overB; rw [decide_eq_false h1, decide_eq_false h2]; rfl]
      ((repeat' ((conv => whnf);(first|refine zA ?_|(refine zI ?_ ?_<;> intro hh<;> first|(exfalso;omega)|skip)|(refine zl ?_ ?_<;> intro hh)|refine zq ?_|refine zv ?_|refine zu ?_|exact Sy.fin_val fun e=>rfl)));(all_goals (try conv => whnf)))
      exact Sy.fin_val (fun e => congrArg Value.bool (decide_eq_false (by omega)))
theorem over_not {ws ps : List (Int × Int)} (h : overB ws ps = false) : ws.length ≤ 50 ∧ ps.length ≤ 100 := by
  unfold overB at h
  rw [Bool.or_eq_false_iff, decide_eq_false_iff_not, decide_eq_false_iff_not] at h
  omega
end Go.Proofs.Ytjhjmeajdebcbaa
