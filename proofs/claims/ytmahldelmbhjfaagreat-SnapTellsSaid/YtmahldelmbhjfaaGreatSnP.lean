/- Snap: does the layer do anything? -/
import Derived.Test.YtmahldelmbhjfaaGreatSnO
namespace Go.Proofs.YtmahldelmbhjfaaGreat.Sn
open Go Go.RowKit
open Sy (C SV V1 Blk St XD Els)
set_option maxRecDepth 10000

def wA : Sn := ⟨1, 0, 2, false, [⟨0, 3, 1, 5⟩], fun _ => 0, []⟩
def wB : Sn := ⟨1, 1, 2, false, [⟨0, 4, 1, 5⟩], fun _ => 0, []⟩
def wAB : Sn := ⟨1, 0, 1, false, [⟨0, 3, 1, 5⟩, ⟨0, 4, 1, 5⟩], fun _ => 0, []⟩
theorem w_rightA : rightP wA := by decide +kernel
theorem w_rightB : rightP wB := by decide +kernel
theorem w_rightAB : rightP wAB := by decide +kernel
theorem w_e1 : wholeE [wA, wB] = 0 := by decide +kernel
theorem w_e2 : wholeE [wB, wA] = 281 := by decide +kernel
theorem w_v1 : wholeV [wA, wB] = wAB := by
  have h1 : finW [wA, wB] = false := by decide +kernel
  have h2 : rowsW [wA, wB] = [⟨0, 3, 1, 5⟩, ⟨0, 4, 1, 5⟩] := by decide +kernel
  have h3 : offW [wA, wB] = fun _ => 0 := funext (fin8 (by decide +kernel) (by decide +kernel) (by decide +kernel) (by decide +kernel) (by decide +kernel) (by decide +kernel) (by decide +kernel) (by decide +kernel))
  have h4 : txsW [wA, wB] = [] := rfl
  rw [wholeV, if_pos w_e1, wholeS, h1, h2, h3, h4]
  rfl
theorem w_v2 : wholeV [wB, wA] = sn0 := by rw [wholeV, if_neg (by rw [w_e2]; decide)]
theorem w_c : chkE wAB = 0 := by decide +kernel
theorem w_l : (encV wAB).length = 51 := by decide +kernel
theorem wcell_any (k : Int) (w : World) : Calls Tryz.prog 13 #[.int .i64 k] w (Sy.RetRows Sy.noRow (fun _ : Unit => True) (fun _ => [⟨46, 4, 1, [Kc.mk 0 k 1 5].map encK⟩]) (fun _ vs => .agg #[vs.headD undef]) w) := by
  refine Sy.calls_of Sy.lv13 Sy.tab_ok Tryz.func13 rfl _ Tryz.ntmps13 [] [.c (.v (.int .i64 k))] rfl rfl rfl trivial ?_
  ((repeat' ((conv => whnf);(first|refine zA ?_|(refine zI ?_ ?_<;> intro hh<;> first|(exfalso;omega)|skip)|(refine zl ?_ ?_<;> intro hh)|refine zq ?_|refine zv ?_|refine zu ?_|exact Sy.fin_val fun e=>rfl)));(all_goals (try conv => whnf)))
  exact Sy.fin_r1 (.row 1) rfl (fun e => rfl)
set_option maxHeartbeats 4000000 in
theorem wakes_any (w : World) : Calls Tryz.prog 4 #[] w (Sy.Ret (.bool true) w) := by
  refine Sy.calls_of Sy.lv4 Sy.tab_ok Tryz.func4 rfl _ Tryz.ntmps4 [] [] rfl rfl rfl trivial ?_
  ((repeat' ((conv => whnf);(first|refine zA ?_|(refine zI ?_ ?_<;> intro hh<;> first|(exfalso;omega)|skip)|(refine zl ?_ ?_<;> intro hh)|refine zq ?_|refine zv ?_|refine zu ?_|exact Sy.fin_val fun e=>rfl)));(all_goals (try conv => whnf)))
  refine Sy.call_r1 ⟨46, 4, 1, [Kc.mk 0 3 1 5].map encK⟩ (fun j => .agg [.row j]) Tryz.call13 (fun e a w' h => wcell_any 3 w') ?_
  ((repeat' ((conv => whnf);(first|refine zA ?_|(refine zI ?_ ?_<;> intro hh<;> first|(exfalso;omega)|skip)|(refine zl ?_ ?_<;> intro hh)|refine zq ?_|refine zv ?_|refine zu ?_|exact Sy.fin_val fun e=>rfl)));(all_goals (try conv => whnf)))
  refine Sy.call_r1 ⟨46, 4, 1, [Kc.mk 0 4 1 5].map encK⟩ (fun j => .agg [.row j]) Tryz.call13 (fun e a w' h => wcell_any 4 w') ?_
  ((repeat' ((conv => whnf);(first|refine zA ?_|(refine zI ?_ ?_<;> intro hh<;> first|(exfalso;omega)|skip)|(refine zl ?_ ?_<;> intro hh)|refine zq ?_|refine zv ?_|refine zu ?_|exact Sy.fin_val fun e=>rfl)));(all_goals (try conv => whnf)))
  refine Sy.call_r2 5 ⟨46, 4, 2, wAB.rows.map encK⟩ ⟨80, 3, 0, []⟩ (.tup [.agg [.v (.int .i64 1), .v (.int .i64 0), .v (.int .i64 1), .v (.bool false), .row 5, .v (.int .i64 0), .v (.int .i64 0), .v (.int .i64 0), .v (.int .i64 0), .v (.int .i64 0), .v (.int .i64 0), .v (.int .i64 0), .v (.int .i64 0), .row 6], .c (.v (.int .i64 0))]) Tryz.call14 (fun e a w' h => by
    have h1 : SsOk (fun b => b < w'.heap.size) w' (e.rv 4) [⟨wA, e.rv 0, .slice none 0 0⟩, ⟨wB, e.rv 1, .slice none 0 0⟩] := ⟨XD.ok.mono (Sy.OwnE.reads (h.hp 4 _ rfl).1) fun b hb => hb.1, fun s hs => by
      simp only [List.mem_cons, List.not_mem_nil, or_false] at hs
      rcases hs with rfl | rfl
      · exact ⟨Sy.row_reads h (.inl ⟨_, rfl⟩), nil_ok⟩
      · exact ⟨Sy.row_reads h (.inl ⟨_, rfl⟩), nil_ok⟩⟩
    have h2 := whole_any _ _ w' h1
    rw [show snsOf [⟨wA, e.rv 0, .slice none 0 0⟩, ⟨wB, e.rv 1, .slice none 0 0⟩] = [wA, wB] from rfl, w_v1, w_e1] at h2
    exact h2) ?_
  ((repeat' ((conv => whnf);(first|refine zA ?_|(refine zI ?_ ?_<;> intro hh<;> first|(exfalso;omega)|skip)|(refine zl ?_ ?_<;> intro hh)|refine zq ?_|refine zv ?_|refine zu ?_|exact Sy.fin_val fun e=>rfl)));(all_goals (try conv => whnf)))
  refine Sy.call_r2 9 ⟨46, 4, 0, []⟩ ⟨80, 3, 0, []⟩ (.tup [.agg [.v (.int .i64 0), .v (.int .i64 0), .v (.int .i64 0), .v (.bool false), .row 9, .v (.int .i64 0), .v (.int .i64 0), .v (.int .i64 0), .v (.int .i64 0), .v (.int .i64 0), .v (.int .i64 0), .v (.int .i64 0), .v (.int .i64 0), .row 10], .c (.v (.int .i64 281))]) Tryz.call14 (fun e a w' h => by
    have h1 : SsOk (fun b => b < w'.heap.size) w' (e.rv 8) [⟨wB, e.rv 1, .slice none 0 0⟩, ⟨wA, e.rv 0, .slice none 0 0⟩] := ⟨XD.ok.mono (Sy.OwnE.reads (h.hp 8 _ rfl).1) fun b hb => hb.1, fun s hs => by
      simp only [List.mem_cons, List.not_mem_nil, or_false] at hs
      rcases hs with rfl | rfl
      · exact ⟨Sy.row_reads h (.inl ⟨_, rfl⟩), nil_ok⟩
      · exact ⟨Sy.row_reads h (.inl ⟨_, rfl⟩), nil_ok⟩⟩
    have h2 := whole_any _ _ w' h1
    rw [show snsOf [⟨wB, e.rv 1, .slice none 0 0⟩, ⟨wA, e.rv 0, .slice none 0 0⟩] = [wB, wA] from rfl, w_v2, w_e2] at h2
    exact h2) ?_
  ((repeat' ((conv => whnf);(first|refine zA ?_|(refine zI ?_ ?_<;> intro hh<;> first|(exfalso;omega)|skip)|(refine zl ?_ ?_<;> intro hh)|refine zq ?_|refine zv ?_|refine zu ?_|exact Sy.fin_val fun e=>rfl)));(all_goals (try conv => whnf)))
  refine Sy.call_r1 ⟨5, 1, (encV wAB).length, (encV wAB).map encB⟩ (fun j => .tup [.c (.row j), .c (.v (.int .i64 0))]) Tryz.call15 (fun e a w' h => by
    have h2 := enc_any ⟨wAB, e.rv 5, e.rv 6⟩ w' ⟨Sy.row_reads h (.inl ⟨_, rfl⟩), Sy.row_reads h (.inl ⟨_, rfl⟩)⟩
    rw [show chkE (SnV.sn ⟨wAB, e.rv 5, e.rv 6⟩) = 0 from w_c] at h2
    exact h2) ?_
  have hl51 := w_l
  ((repeat' ((conv => whnf);(first|refine zA ?_|(refine zI ?_ ?_<;> intro hh<;> first|(exfalso;omega)|skip)|(refine zl ?_ ?_<;> intro hh)|refine zq ?_|refine zv ?_|refine zu ?_|exact Sy.fin_val fun e=>rfl)));(all_goals (try conv => whnf)))
  done
end Go.Proofs.YtmahldelmbhjfaaGreat.Sn
