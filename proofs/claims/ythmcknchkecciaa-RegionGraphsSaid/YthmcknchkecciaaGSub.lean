/- Graph: Subtasks. -/
import Derived.Test.YthmcknchkecciaaGJ
namespace Go.Proofs.Ythmcknchkecciaa
open Go Go.RowKit
open Sy (C SV V1 Blk St XD Els)
set_option maxRecDepth 10000

theorem sem_fact {X : Sy.Cx} {S : St} {c : Code} {Q : Exit → St → Prop} {P : Prop} (h : ∀ e a w, Sy.Rep X e S a w → P) (k : P → Sy.semP X c S Q) : Sy.semP X c S Q :=
  ⟨fun e a w hR => (k (h e a w hR)).out e a w hR⟩
attribute [local irreducible] checkV
def subtasks (g : List Opr) : Int := if (checkV g).2 = 0 then wideN g g.length else 0
theorem subtasks_any (v : Value) (gl : List OpV) (w : World) (hr : GOk (fun b => b < w.heap.size) w v gl) :
    Calls Try.prog 20 #[.agg #[v]] w (Sy.Ret (.int .i64 (subtasks (opsOf gl))) w) := by
  have hol := opsOf_len gl
  have hl := ok_len hr.1
  refine Sy.calls_of Sy.lv20 Sy.tab_ok Try.func20 rfl _ Try.ntmps20 [⟨v, 5, gl.length, gl.map encOV⟩] [.agg [.row 0]] rfl rfl rfl ⟨hr.1, trivial⟩ ?_
  ((repeat' ((conv => whnf);(first|refine zA ?_|(refine zI ?_ ?_<;> intro hh<;> first|(exfalso;omega)|skip)|(refine zl ?_ ?_<;> intro hh)|refine zq ?_|refine zv ?_|refine zu ?_|exact Sy.fin_val fun e=>rfl)));(all_goals (try conv => whnf)))
  refine Sy.call_val (.tup [.c (.v (.int .i64 (checkV (opsOf gl)).1)), .c (.v (.int .i64 (checkV (opsOf gl)).2))]) Try.call35 rfl (fun e a w' h => check_any (e.rv 0) gl w' ⟨Sy.row_reads h (.inr rfl), fun o ho => Sy.later_in h (hr.2 o ho)⟩) ?_
  by_cases h0 : (checkV (opsOf gl)).2 = 0
  · have hg := check_good h0
    rw [h0]
    ((repeat' ((conv => whnf);(first|refine zA ?_|(refine zI ?_ ?_<;> intro hh<;> first|(exfalso;omega)|skip)|(refine zl ?_ ?_<;> intro hh)|refine zq ?_|refine zv ?_|refine zu ?_|exact Sy.fin_val fun e=>rfl)));(all_goals (try conv => whnf)))
    refine Sy.loop_inv Sy.tab_ok (fun n : Nat => [(18, .c (.v (.int .i64 n))), (5, .c (.v (.int .i64 (wideN (opsOf gl) n))))]) (fun n => []) (fun n => n ≤ gl.length) (fun n => gl.length - n) 0 (Nat.zero_le _) ?_ (fun n hn => ?_)
    · rw [show wideN (opsOf gl) 0 = 0 by unfold wideN; simp]
      ((repeat' (first|((conv => whnf);done)|((try conv => whnf);first|exact trivial|(refine And.intro ?_ ?_)|rfl|exact fun _ _ _ h=>h|exact fun _ _ _ _=>trivial)));(all_goals (try conv => whnf)))
    · have hwn := wideN_le n (hg.mono (by omega))
      have h8 := (check_ok h0).2.1
      ((repeat' ((conv => whnf);(first|refine zA ?_|(refine zI ?_ ?_<;> intro hh<;> first|(exfalso;omega)|skip)|(refine zl ?_ ?_<;> intro hh)|exact Sy.fin_val fun e=>rfl)));(all_goals (try conv => whnf)))
      · have hlt : n < gl.length := by omega
        have hgn := List.getElem?_eq_getElem hlt
        generalize gl[n] = o at *
        have hs := wideN_succ (opsOf_get hgn)
        have hw2 := wideN_le (n + 1) (hg.mono (by omega))
        refine Sy.el_map o hgn ?_
        ((repeat' ((conv => whnf);(first|refine zA ?_|(refine zI ?_ ?_<;> intro hh<;> first|(exfalso;omega)|skip)|(refine zl ?_ ?_<;> intro hh)|refine zq ?_|refine zv ?_|exact Sy.fin_val fun e=>rfl)));(all_goals (try conv => whnf)))
        refine ⟨n + 1, by omega, by omega, ?_⟩
        rw [hs]
        ((repeat' (first|((conv => whnf);done)|((try conv => whnf);first|exact trivial|(refine And.intro ?_ ?_)|rfl|exact fun _ _ _ h=>h|exact fun _ _ _ _=>trivial)));(all_goals (try conv => whnf)))
      · have e : n = gl.length := by omega
        subst e
        exact Sy.fin_val (fun e => by rw [subtasks, if_pos h0, hol]; rfl)
  · ((repeat' ((conv => whnf);(first|refine zA ?_|(refine zI ?_ ?_<;> intro hh<;> first|(exfalso;omega)|skip)|(refine zl ?_ ?_<;> intro hh)|refine zq ?_|refine zv ?_|refine zu ?_|exact Sy.fin_val fun e=>rfl)));(all_goals (try conv => whnf)))
    exact Sy.fin_val (fun e => by rw [subtasks, if_neg h0]; rfl)
def asksB (g : List Opr) (i : Int) : Bool := decide ((checkV g).2 = 0) && decide (0 ≤ i) && decide (i < g.length)
end Go.Proofs.Ythmcknchkecciaa
