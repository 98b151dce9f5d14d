/- Region: asks, Tasks, Of, Op. -/
import Derived.Test.YthmcknchkecciaaRD
namespace Go.Proofs.Ythmcknchkecciaa
open Go Go.RowKit
open Sy (C SV V1 Blk St XD Els)
set_option maxRecDepth 10000

def askE (g : List Opr) (n most : Int) : Int := if (checkV g).2 = 0 then (if n < 0 ∨ most ≤ n then 2 else 0) else (checkV g).2
attribute [local irreducible] checkV regOf subN pick taskN subC ofL tasksL
theorem rasks_any (v : Value) (gl : List OpV) (n most : Int) (w : World) (hr : GOk (fun b => b < w.heap.size) w v gl) :
    Calls Try.prog 43 #[.agg #[v], .int .i64 n, .int .i64 most] w (Sy.Ret (.int .i64 (askE (opsOf gl) n most)) w) := by
  refine Sy.calls_of Sy.lv43 Sy.tab_ok Try.func43 rfl _ Try.ntmps43 [⟨v, 5, gl.length, gl.map encOV⟩] [.agg [.row 0], .c (.v (.int .i64 n)), .c (.v (.int .i64 most))] rfl rfl rfl ⟨hr.1, trivial⟩ ?_
  ((repeat' ((conv => whnf);(first|refine zA ?_|(refine zI ?_ ?_<;> intro hh<;> first|(exfalso;omega)|skip)|(refine zl ?_ ?_<;> intro hh)|refine zq ?_|refine zv ?_|exact Sy.fin_val fun e=>rfl)));(all_goals (try conv => whnf)))
  refine Sy.call_val (.tup [.c (.v (.int .i64 (checkV (opsOf gl)).1)), .c (.v (.int .i64 (checkV (opsOf gl)).2))]) Try.call35 rfl (fun e a w' h => check_any (e.rv 0) gl w' ⟨Sy.row_reads h (.inr rfl), fun o ho => Sy.later_in h (hr.2 o ho)⟩) ?_
  by_cases h0 : (checkV (opsOf gl)).2 = 0
  · have ha : askE (opsOf gl) n most = if n < 0 ∨ most ≤ n then 2 else 0 := if_pos h0
    by_cases h1 : n < 0
    · rw [if_pos (.inl h1)] at ha
      ((repeat' ((conv => whnf);(first|refine zA ?_|(refine zI ?_ ?_<;> intro hh<;> first|(exfalso;omega)|skip)|(refine zl ?_ ?_<;> intro hh)|refine zq ?_|refine zv ?_|exact Sy.fin_val fun e=>rfl)));(all_goals (try conv => whnf)))
      exact Sy.fin_val (fun e => by rw [ha]; rfl)
    · by_cases h2 : most ≤ n
      · rw [if_pos (.inr h2)] at ha
        ((repeat' ((conv => whnf);(first|refine zA ?_|(refine zI ?_ ?_<;> intro hh<;> first|(exfalso;omega)|skip)|(refine zl ?_ ?_<;> intro hh)|refine zq ?_|refine zv ?_|exact Sy.fin_val fun e=>rfl)));(all_goals (try conv => whnf)))
        exact Sy.fin_val (fun e => by rw [ha]; rfl)
      · rw [if_neg (by omega)] at ha
        ((repeat' ((conv => whnf);(first|refine zA ?_|(refine zI ?_ ?_<;> intro hh<;> first|(exfalso;omega)|skip)|(refine zl ?_ ?_<;> intro hh)|refine zq ?_|refine zv ?_|exact Sy.fin_val fun e=>rfl)));(all_goals (try conv => whnf)))
        exact Sy.fin_val (fun e => by rw [ha, h0]; rfl)
  · have ha : askE (opsOf gl) n most = (checkV (opsOf gl)).2 := if_neg h0
    ((repeat' ((conv => whnf);(first|refine zA ?_|(refine zI ?_ ?_<;> intro hh<;> first|(exfalso;omega)|skip)|(refine zl ?_ ?_<;> intro hh)|refine zq ?_|refine zv ?_|exact Sy.fin_val fun e=>rfl)));(all_goals (try conv => whnf)))
    exact Sy.fin_val (fun e => by rw [ha]; rfl)
theorem askE_ok {g : List Opr} {n most : Int} (h : askE g n most = 0) : (checkV g).2 = 0 ∧ 0 ≤ n ∧ n < most := by
  unfold askE at h
  split at h
  · split at h
    · cases h
    · exact ⟨by assumption, by omega, by omega⟩
  · exact absurd h (by assumption)
/-- What Tasks tells. -/
def tasksV (g : List Opr) (n : Int) : List Int := if askE g n g.length = 0 then tasksL g [n] else []
def ofV (g : List Opr) (n : Int) : List Int := if askE g n g.length = 0 then ofL g n.toNat else []
theorem gtasks_any (v : Value) (gl : List OpV) (n : Int) (w : World) (hr : GOk (fun b => b < w.heap.size) w v gl) :
    Calls Try.prog 21 #[.agg #[v], .int .i64 n] w (Sy.RetRows Sy.noRow (fun _ : Unit => True) (fun _ => [⟨3, 1, (tasksV (opsOf gl) n).length, (tasksV (opsOf gl) n).map encI⟩]) (fun _ vs => .tuple #[vs.headD undef, .int .i64 (askE (opsOf gl) n gl.length)]) w) := by
  have hol := opsOf_len gl
  refine Sy.calls_of Sy.lv21 Sy.tab_ok Try.func21 rfl _ Try.ntmps21 [⟨v, 5, gl.length, gl.map encOV⟩] [.agg [.row 0], .c (.v (.int .i64 n))] rfl rfl rfl ⟨hr.1, trivial⟩ ?_
  ((repeat' ((conv => whnf);(first|refine zA ?_|(refine zI ?_ ?_<;> intro hh<;> first|(exfalso;omega)|skip)|(refine zl ?_ ?_<;> intro hh)|refine zq ?_|refine zv ?_|exact Sy.fin_val fun e=>rfl)));(all_goals (try conv => whnf)))
  refine Sy.call_val (.c (.v (.int .i64 (askE (opsOf gl) n gl.length)))) Try.call43 rfl (fun e a w' h => rasks_any (e.rv 0) gl n gl.length w' ⟨Sy.row_reads h (.inr rfl), fun o ho => Sy.later_in h (hr.2 o ho)⟩) ?_
  by_cases h0 : askE (opsOf gl) n gl.length = 0
  · obtain ⟨hc, h1, h2⟩ := askE_ok h0
    have h8 := check_ok hc
    have hg := check_good hc
    rw [hol] at h8 hg
    have hv : tasksV (opsOf gl) n = tasksL (opsOf gl) [n] := by unfold tasksV; rw [hol, if_pos h0]
    rw [hv]
    ((repeat' ((conv => whnf);(first|refine zA ?_|(refine zI ?_ ?_<;> intro hh<;> first|(exfalso;omega)|skip)|(refine zl ?_ ?_<;> intro hh)|refine zq ?_|refine zv ?_|exact Sy.fin_val fun e=>rfl)));(all_goals (try conv => whnf)))
    refine Sy.call_r1 ⟨3, 1, (tasksL (opsOf gl) [n]).length, (tasksL (opsOf gl) [n]).map encI⟩ (fun j => .c (.row j)) Try.call41 (fun e a w' h => tasks_any (e.rv 0) _ gl [n] w' ⟨Sy.row_reads h (.inr rfl), fun o ho => Sy.later_in h (hr.2 o ho)⟩ (Sy.row_reads h (.inl ⟨_, rfl⟩)) (by omega) hg) ?_
    ((repeat' ((conv => whnf);(first|refine zA ?_|(refine zI ?_ ?_<;> intro hh<;> first|(exfalso;omega)|skip)|(refine zl ?_ ?_<;> intro hh)|refine zq ?_|refine zv ?_|exact Sy.fin_val fun e=>rfl)));(all_goals (try conv => whnf)))
    exact Sy.fin_r1 (.row 3) rfl (fun e => by rw [h0]; rfl)
  · have hv : tasksV (opsOf gl) n = [] := by unfold tasksV; rw [hol, if_neg h0]
    rw [hv]
    ((repeat' ((conv => whnf);(first|refine zA ?_|(refine zI ?_ ?_<;> intro hh<;> first|(exfalso;omega)|skip)|(refine zl ?_ ?_<;> intro hh)|refine zq ?_|refine zv ?_|exact Sy.fin_val fun e=>rfl)));(all_goals (try conv => whnf)))
    exact Sy.fin_r1 (.v (.slice none 0 0)) ⟨rfl, rfl⟩
theorem gof_any (v : Value) (gl : List OpV) (n : Int) (w : World) (hr : GOk (fun b => b < w.heap.size) w v gl) :
    Calls Try.prog 29 #[.agg #[v], .int .i64 n] w (Sy.RetRows Sy.noRow (fun _ : Unit => True) (fun _ => [⟨3, 1, (ofV (opsOf gl) n).length, (ofV (opsOf gl) n).map encI⟩]) (fun _ vs => .tuple #[vs.headD undef, .int .i64 (askE (opsOf gl) n gl.length)]) w) := by
  have hol := opsOf_len gl
  refine Sy.calls_of Sy.lv29 Sy.tab_ok Try.func29 rfl _ Try.ntmps29 [⟨v, 5, gl.length, gl.map encOV⟩] [.agg [.row 0], .c (.v (.int .i64 n))] rfl rfl rfl ⟨hr.1, trivial⟩ ?_
  ((repeat' ((conv => whnf);(first|refine zA ?_|(refine zI ?_ ?_<;> intro hh<;> first|(exfalso;omega)|skip)|(refine zl ?_ ?_<;> intro hh)|refine zq ?_|refine zv ?_|exact Sy.fin_val fun e=>rfl)));(all_goals (try conv => whnf)))
  refine Sy.call_val (.c (.v (.int .i64 (askE (opsOf gl) n gl.length)))) Try.call43 rfl (fun e a w' h => rasks_any (e.rv 0) gl n gl.length w' ⟨Sy.row_reads h (.inr rfl), fun o ho => Sy.later_in h (hr.2 o ho)⟩) ?_
  by_cases h0 : askE (opsOf gl) n gl.length = 0
  · obtain ⟨hc, h1, h2⟩ := askE_ok h0
    have h8 := check_ok hc
    have hg := check_good hc
    rw [hol] at h8 hg
    obtain ⟨op, rfl⟩ : ∃ op : Nat, n = (op : Int) := ⟨n.toNat, by omega⟩
    have hv : ofV (opsOf gl) op = ofL (opsOf gl) op := by unfold ofV; rw [hol, if_pos h0]; rfl
    rw [hv]
    ((repeat' ((conv => whnf);(first|refine zA ?_|(refine zI ?_ ?_<;> intro hh<;> first|(exfalso;omega)|skip)|(refine zl ?_ ?_<;> intro hh)|refine zq ?_|refine zv ?_|exact Sy.fin_val fun e=>rfl)));(all_goals (try conv => whnf)))
    refine Sy.call_r1 ⟨3, 1, (ofL (opsOf gl) op).length, (ofL (opsOf gl) op).map encI⟩ (fun j => .c (.row j)) Try.call38 (fun e a w' h => of_any (e.rv 0) gl op w' ⟨Sy.row_reads h (.inr rfl), fun o ho => Sy.later_in h (hr.2 o ho)⟩ (by omega) hg (by omega)) ?_
    ((repeat' ((conv => whnf);(first|refine zA ?_|(refine zI ?_ ?_<;> intro hh<;> first|(exfalso;omega)|skip)|(refine zl ?_ ?_<;> intro hh)|refine zq ?_|refine zv ?_|exact Sy.fin_val fun e=>rfl)));(all_goals (try conv => whnf)))
    exact Sy.fin_r1 (.row 2) rfl (fun e => by rw [h0]; rfl)
  · have hv : ofV (opsOf gl) n = [] := by unfold ofV; rw [hol, if_neg h0]
    rw [hv]
    ((repeat' ((conv => whnf);(first|refine zA ?_|(refine zI ?_ ?_<;> intro hh<;> first|(exfalso;omega)|skip)|(refine zl ?_ ?_<;> intro hh)|refine zq ?_|refine zv ?_|exact Sy.fin_val fun e=>rfl)));(all_goals (try conv => whnf)))
    exact Sy.fin_r1 (.v (.slice none 0 0)) ⟨rfl, rfl⟩
end Go.Proofs.Ythmcknchkecciaa
