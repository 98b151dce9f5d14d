/- Graph: Subtasks, asks, Sources, Readers. -/
import Derived.Test.YtcjiaiojkciheaaGSub
import Derived.Test.YtcjiaiojkciheaaIdxI
namespace Go.Proofs.Ytcjiaiojkciheaa
open Go Go.RowKit
open Sy (C SV V1 Blk St XD Els)
set_option maxRecDepth 10000

attribute [local irreducible] checkV
theorem asks_any (v : Value) (gl : List OpV) (i : Int) (w : World) (hr : GOk (fun b => b < w.heap.size) w v gl) :
    Calls Try.prog 62 #[.agg #[v], .int .i64 i] w (Sy.Ret (.bool (asksB (opsOf gl) i)) w) := by
  have hol := opsOf_len gl
  have hl := ok_len hr.1
  refine Sy.calls_of Sy.lv62 Sy.tab_ok Try.func62 rfl _ Try.ntmps62 [⟨v, 5, gl.length, gl.map encOV⟩] [.agg [.row 0], .c (.v (.int .i64 i))] rfl rfl rfl ⟨hr.1, trivial⟩ ?_
  ((repeat' ((conv => whnf);(first|refine z1 ?_|refine z2 ?_|refine z3 ?_|refine z4 ?_|refine z5 ?_|refine z6 ?_|refine z7 ?_|refine z8 ?_|refine z9 ?_|refine za ?_|refine zb ?_|refine zc ?_|refine zd ?_|refine ze ?_|refine zf ?_|refine zg ?_|refine zh ?_|((first|refine zi ?_ ?_|refine zj ?_ ?_|refine zk ?_ ?_)<;> intro hh <;> first|(exfalso;omega)|skip)|(refine zl ?_ ?_<;> intro hh)|refine zm ?_|refine zn ?_|refine zo ?_|refine zp ?_|refine zq ?_|refine zv ?_|refine zr ?_|refine zs _ rfl ?_|refine zu ?_|exact Sy.fin_val (fun e=>rfl))));(all_goals (try conv => whnf)))
  refine Sy.call_val (.tup [.c (.v (.int .i64 (checkV (opsOf gl)).1)), .c (.v (.int .i64 (checkV (opsOf gl)).2))]) Try.call65 rfl (fun e a w' h => check_any (e.rv 0) gl w' ⟨Sy.row_reads h (.inr rfl), fun o ho => Sy.later_in h (hr.2 o ho)⟩) ?_
  ((repeat' ((conv => whnf);(first|refine z1 ?_|refine z2 ?_|refine z3 ?_|refine z4 ?_|refine z5 ?_|refine z6 ?_|refine z7 ?_|refine z8 ?_|refine z9 ?_|refine za ?_|refine zb ?_|refine zc ?_|refine zd ?_|refine ze ?_|refine zf ?_|refine zg ?_|refine zh ?_|((first|refine zi ?_ ?_|refine zj ?_ ?_|refine zk ?_ ?_)<;> intro hh <;> first|(exfalso;omega)|skip)|(refine zl ?_ ?_<;> intro hh)|refine zm ?_|refine zn ?_|refine zo ?_|refine zp ?_|refine zq ?_|refine zv ?_|refine zr ?_|refine zs _ rfl ?_|refine zu ?_|exact Sy.fin_val (fun e=>rfl))));(all_goals (try conv => whnf)))
  all_goals exact Sy.fin_val (fun e => congrArg Value.bool (by simp_all [asksB] <;> omega))
def gsrcs (g : List Opr) (i : Int) : List Int := if asksB g i = true then srcs g i.toNat else []
theorem asks_true {g : List Opr} {i : Int} (h : asksB g i = true) : (checkV g).2 = 0 ∧ 0 ≤ i ∧ i < g.length := by
  simp only [asksB, Bool.and_eq_true, decide_eq_true_eq] at h
  exact ⟨h.1.1, h.1.2, h.2⟩
attribute [local irreducible] asksB
def grdrs (g : List Opr) (i : Int) : List Int := if asksB g i = true then rdrs g i else []
set_option maxHeartbeats 1000000 in
theorem greaders_any (v : Value) (gl : List OpV) (i : Int) (w : World) (hr : GOk (fun b => b < w.heap.size) w v gl) :
    Calls Try.prog 34 #[.agg #[v], .int .i64 i] w (Sy.RetRows Sy.noRow (fun _ : Unit => True) (fun _ => [⟨3, 1, (grdrs (opsOf gl) i).length, (grdrs (opsOf gl) i).map encI⟩]) (fun _ vs => vs.headD undef) w) := by
  have hol := opsOf_len gl
  refine Sy.calls_of Sy.lv34 Sy.tab_ok Try.func34 rfl _ Try.ntmps34 [⟨v, 5, gl.length, gl.map encOV⟩] [.agg [.row 0], .c (.v (.int .i64 i))] rfl rfl rfl ⟨hr.1, trivial⟩ ?_
  ((repeat' ((conv => whnf);(first|refine z1 ?_|refine z2 ?_|refine z3 ?_|refine z4 ?_|refine z5 ?_|refine z6 ?_|refine z7 ?_|refine z8 ?_|refine z9 ?_|refine za ?_|refine zb ?_|refine zc ?_|refine zd ?_|refine ze ?_|refine zf ?_|refine zg ?_|refine zh ?_|((first|refine zi ?_ ?_|refine zj ?_ ?_|refine zk ?_ ?_)<;> intro hh <;> first|(exfalso;omega)|skip)|(refine zl ?_ ?_<;> intro hh)|refine zm ?_|refine zn ?_|refine zo ?_|refine zp ?_|refine zq ?_|refine zv ?_|refine zr ?_|refine zs _ rfl ?_|refine zu ?_|exact Sy.fin_val (fun e=>rfl))));(all_goals (try conv => whnf)))
  refine Sy.call_val (.c (.v (.bool (asksB (opsOf gl) i)))) Try.call62 rfl (fun e a w' h => asks_any (e.rv 0) gl i w' ⟨Sy.row_reads h (.inr rfl), fun o ho => Sy.later_in h (hr.2 o ho)⟩) ?_
  unfold grdrs
  cases ha : asksB (opsOf gl) i
  · ((repeat' ((conv => whnf);(first|refine z1 ?_|refine z2 ?_|refine z3 ?_|refine z4 ?_|refine z5 ?_|refine z6 ?_|refine z7 ?_|refine z8 ?_|refine z9 ?_|refine za ?_|refine zb ?_|refine zc ?_|refine zd ?_|refine ze ?_|refine zf ?_|refine zg ?_|refine zh ?_|((first|refine zi ?_ ?_|refine zj ?_ ?_|refine zk ?_ ?_)<;> intro hh <;> first|(exfalso;omega)|skip)|(refine zl ?_ ?_<;> intro hh)|refine zm ?_|refine zn ?_|refine zo ?_|refine zp ?_|refine zq ?_|refine zv ?_|refine zr ?_|refine zs _ rfl ?_|refine zu ?_|exact Sy.fin_val (fun e=>rfl))));(all_goals (try conv => whnf)))
    exact Sy.fin_r1 (.v (.slice none 0 0)) ⟨rfl, rfl⟩
  · obtain ⟨h0, h1, h2⟩ := asks_true ha
    have h8 := check_ok h0
    rw [if_pos rfl]
    ((repeat' ((conv => whnf);(first|refine z1 ?_|refine z2 ?_|refine z3 ?_|refine z4 ?_|refine z5 ?_|refine z6 ?_|refine z7 ?_|refine z8 ?_|refine z9 ?_|refine za ?_|refine zb ?_|refine zc ?_|refine zd ?_|refine ze ?_|refine zf ?_|refine zg ?_|refine zh ?_|((first|refine zi ?_ ?_|refine zj ?_ ?_|refine zk ?_ ?_)<;> intro hh <;> first|(exfalso;omega)|skip)|(refine zl ?_ ?_<;> intro hh)|refine zm ?_|refine zn ?_|refine zo ?_|refine zp ?_|refine zq ?_|refine zv ?_|refine zr ?_|refine zs _ rfl ?_|refine zu ?_|exact Sy.fin_val (fun e=>rfl))));(all_goals (try conv => whnf)))
    refine Sy.call_in Sy.lv64 Sy.tab_ok Try.func64 rfl _ Try.ntmps64 Try.call64 rfl (fun _ => ?_)
    ((repeat' ((conv => whnf);(first|refine z1 ?_|refine z2 ?_|refine z3 ?_|refine z4 ?_|refine z5 ?_|refine z6 ?_|refine z7 ?_|refine z8 ?_|refine z9 ?_|refine za ?_|refine zb ?_|refine zc ?_|refine zd ?_|refine ze ?_|refine zf ?_|refine zg ?_|refine zh ?_|((first|refine zi ?_ ?_|refine zj ?_ ?_|refine zk ?_ ?_)<;> intro hh <;> first|(exfalso;omega)|skip)|(refine zl ?_ ?_<;> intro hh)|refine zm ?_|refine zn ?_|refine zo ?_|refine zp ?_|refine zq ?_|refine zv ?_|refine zr ?_|refine zs _ rfl ?_|refine zu ?_|exact Sy.fin_val (fun e=>rfl))));(all_goals (try conv => whnf)))
    refine Sy.call_in Sy.lv63 Sy.tab_ok Try.func63 rfl _ Try.ntmps63 Try.call63 rfl (fun _ => ?_)
    ((repeat' ((conv => whnf);(first|refine z1 ?_|refine z2 ?_|refine z3 ?_|refine z4 ?_|refine z5 ?_|refine z6 ?_|refine z7 ?_|refine z8 ?_|refine z9 ?_|refine za ?_|refine zb ?_|refine zc ?_|refine zd ?_|refine ze ?_|refine zf ?_|refine zg ?_|refine zh ?_|((first|refine zi ?_ ?_|refine zj ?_ ?_|refine zk ?_ ?_)<;> intro hh <;> first|(exfalso;omega)|skip)|(refine zl ?_ ?_<;> intro hh)|refine zm ?_|refine zn ?_|refine zo ?_|refine zp ?_|refine zq ?_|refine zv ?_|refine zr ?_|refine zs _ rfl ?_|refine zu ?_|exact Sy.fin_val (fun e=>rfl))));(all_goals (try conv => whnf)))
    refine Sy.sem_subF (Sy.sub_rowc 5 0 3 1 rfl rfl) ?_
    conv => whnf
    refine Sy.sem_range Sy.lv79 Sy.tab_ok _ rfl rfl Try.func79 rfl Try.ntmps79 Try.call79 rfl (fun _ _ => ?_)
    ((repeat' ((conv => whnf);(first|refine z1 ?_|refine z2 ?_|refine z3 ?_|refine z4 ?_|refine z5 ?_|refine z6 ?_|refine z7 ?_|refine z8 ?_|refine z9 ?_|refine za ?_|refine zb ?_|refine zc ?_|refine zd ?_|refine ze ?_|refine zf ?_|refine zg ?_|refine zh ?_|((first|refine zi ?_ ?_|refine zj ?_ ?_|refine zk ?_ ?_)<;> intro hh <;> first|(exfalso;omega)|skip)|(refine zl ?_ ?_<;> intro hh)|refine zm ?_|refine zn ?_|refine zo ?_|refine zp ?_|refine zq ?_|refine zv ?_|refine zr ?_|refine zs _ rfl ?_|exact Sy.fin_val (fun e=>rfl))));(all_goals (try conv => whnf)))
    refine Sy.loop_inv Sy.tab_ok (fun n : Nat => [(9, .c (.v (.int .i64 n)))]) (fun n => [(5, .cells 33 [.row 6]), (6, .row 3 1 (rdN (opsOf gl) i n).length (.vs ((rdN (opsOf gl) i n).map encI)))]) (fun n => n ≤ gl.length) (fun n => gl.length - n) 0 (Nat.zero_le _) ?_ (fun n hn => ?_)
    · rw [show rdN (opsOf gl) i 0 = [] by rfl]
      ((repeat' (first|((conv => whnf);done)|((try conv => whnf);first|exact trivial|(refine And.intro ?_ ?_)|rfl|exact fun _ _ _ h=>h|exact fun _ _ _ _=>trivial)));(all_goals (try conv => whnf)))
    · have hrl := rdN_len (opsOf gl) i n
      ((repeat' ((conv => whnf);(first|refine z1 ?_|refine z2 ?_|refine z3 ?_|refine z4 ?_|refine z5 ?_|refine z6 ?_|refine z7 ?_|refine z8 ?_|refine z9 ?_|refine za ?_|refine zb ?_|refine zc ?_|refine zd ?_|refine ze ?_|refine zf ?_|refine zg ?_|refine zh ?_|((first|refine zi ?_ ?_|refine zj ?_ ?_|refine zk ?_ ?_)<;> intro hh <;> first|(exfalso;omega)|skip)|(refine zl ?_ ?_<;> intro hh)|refine zm ?_|refine zn ?_|refine zo ?_|refine zp ?_|refine zr ?_|refine zs _ rfl ?_|exact Sy.fin_val (fun e=>rfl))));(all_goals (try conv => whnf)))
      · have hlt : n < gl.length := by omega
        have hgn := List.getElem?_eq_getElem hlt
        generalize gl[n] = o at *
        have hs := rdN_succ (opsOf gl) i n (opsOf_get hgn)
        have hoo := hr.at hgn
        refine Sy.el_map o hgn ?_
        ((repeat' ((conv => whnf);(first|refine z1 ?_|refine z2 ?_|refine z3 ?_|refine z4 ?_|refine z5 ?_|refine z6 ?_|refine z7 ?_|refine z8 ?_|refine z9 ?_|refine za ?_|refine zb ?_|refine zc ?_|refine zd ?_|refine ze ?_|refine zf ?_|refine zg ?_|refine zh ?_|((first|refine zi ?_ ?_|refine zj ?_ ?_|refine zk ?_ ?_)<;> intro hh <;> first|(exfalso;omega)|skip)|(refine zl ?_ ?_<;> intro hh)|refine zm ?_|refine zn ?_|refine zo ?_|refine zp ?_|refine zq ?_|refine zv ?_|refine zr ?_|refine zs _ rfl ?_|exact Sy.fin_val (fun e=>rfl))));(all_goals (try conv => whnf)))
        refine zu ?_
        ((repeat' ((conv => whnf);(first|refine z1 ?_|refine z2 ?_|refine z3 ?_|refine z4 ?_|refine z5 ?_|refine z6 ?_|refine z7 ?_|refine z8 ?_|refine z9 ?_|refine za ?_|refine zb ?_|refine zc ?_|refine zd ?_|refine ze ?_|refine zf ?_|refine zg ?_|refine zh ?_|((first|refine zi ?_ ?_|refine zj ?_ ?_|refine zk ?_ ?_)<;> intro hh <;> first|(exfalso;omega)|skip)|(refine zl ?_ ?_<;> intro hh)|refine zm ?_|refine zn ?_|refine zo ?_|refine zp ?_|refine zq ?_|refine zv ?_|refine zr ?_|refine zs _ rfl ?_|exact Sy.fin_val (fun e=>rfl))));(all_goals (try conv => whnf)))
        refine Sy.call_val (.c (.v (.bool (decide (i ∈ o.op.ins))))) Try.call74 rfl (fun e a w' h => contains_any o.iv o.op.ins i w' (Sy.later_in h (hr.at hgn))) ?_
        ((repeat' ((conv => whnf);(first|refine z1 ?_|refine z2 ?_|refine z3 ?_|refine z4 ?_|refine z5 ?_|refine z6 ?_|refine z7 ?_|refine z8 ?_|refine z9 ?_|refine za ?_|refine zb ?_|refine zc ?_|refine zd ?_|refine ze ?_|refine zf ?_|refine zg ?_|refine zh ?_|((first|refine zi ?_ ?_|refine zj ?_ ?_|refine zk ?_ ?_)<;> intro hh <;> first|(exfalso;omega)|skip)|(refine zl ?_ ?_<;> intro hh)|refine zm ?_|refine zn ?_|refine zo ?_|refine zp ?_|refine zr ?_|refine zs _ rfl ?_|exact Sy.fin_val (fun e=>rfl))));(all_goals (try conv => whnf)))
        · rw [if_pos (by assumption)] at hs
          refine Sy.yield_in Sy.tab_ok rfl rfl rfl rfl rfl (fun _ => ?_)
          ((repeat' ((conv => whnf);(first|refine z1 ?_|refine z2 ?_|refine z3 ?_|refine z4 ?_|refine z5 ?_|refine z6 ?_|refine z7 ?_|refine z8 ?_|refine z9 ?_|refine za ?_|refine zb ?_|refine zc ?_|refine zd ?_|refine ze ?_|refine zf ?_|refine zg ?_|refine zh ?_|((first|refine zi ?_ ?_|refine zj ?_ ?_|refine zk ?_ ?_)<;> intro hh <;> first|(exfalso;omega)|skip)|(refine zl ?_ ?_<;> intro hh)|refine zm ?_|refine zn ?_|refine zo ?_|refine zp ?_|refine zq ?_|refine zv ?_|refine zr ?_|refine zs _ rfl ?_|refine zu ?_|exact Sy.fin_val (fun e=>rfl))));(all_goals (try conv => whnf)))
          refine Sy.need_app 8 rfl ⟨by omega, by omega⟩ ?_
          ((repeat' ((conv => whnf);(first|refine z1 ?_|refine z2 ?_|refine z3 ?_|refine z4 ?_|refine z5 ?_|refine z6 ?_|refine z7 ?_|refine z8 ?_|refine z9 ?_|refine za ?_|refine zb ?_|refine zc ?_|refine zd ?_|refine ze ?_|refine zf ?_|refine zg ?_|refine zh ?_|((first|refine zi ?_ ?_|refine zj ?_ ?_|refine zk ?_ ?_)<;> intro hh <;> first|(exfalso;omega)|skip)|(refine zl ?_ ?_<;> intro hh)|refine zm ?_|refine zn ?_|refine zo ?_|refine zp ?_|refine zq ?_|refine zv ?_|refine zr ?_|refine zs _ rfl ?_|refine zu ?_|exact Sy.fin_val (fun e=>rfl))));(all_goals (try conv => whnf)))
          refine ⟨n + 1, by omega, by omega, ?_⟩
          rw [hs]
          ((repeat' (first|((conv => whnf);done)|((try conv => whnf);first|exact trivial|(refine And.intro ?_ ?_)|rfl|exact fun _ _ _ h=>h|exact fun _ _ _ _=>trivial)));(all_goals (try conv => whnf)))
          all_goals simp [encI]
        · rw [if_neg (by assumption), List.append_nil] at hs
          refine ⟨n + 1, by omega, by omega, ?_⟩
          rw [hs]
          ((repeat' (first|((conv => whnf);done)|((try conv => whnf);first|exact trivial|(refine And.intro ?_ ?_)|rfl|exact fun _ _ _ h=>h|exact fun _ _ _ _=>trivial)));(all_goals (try conv => whnf)))
      · have e : n = gl.length := by omega
        subst e
        rw [show rdN (opsOf gl) i gl.length = rdrs (opsOf gl) i by unfold rdrs; rw [opsOf_len]]
        ((repeat' ((conv => whnf);(first|refine z1 ?_|refine z2 ?_|refine z3 ?_|refine z4 ?_|refine z5 ?_|refine z6 ?_|refine z7 ?_|refine z8 ?_|refine z9 ?_|refine za ?_|refine zb ?_|refine zc ?_|refine zd ?_|refine ze ?_|refine zf ?_|refine zg ?_|refine zh ?_|((first|refine zi ?_ ?_|refine zj ?_ ?_|refine zk ?_ ?_)<;> intro hh <;> first|(exfalso;omega)|skip)|(refine zl ?_ ?_<;> intro hh)|refine zm ?_|refine zn ?_|refine zo ?_|refine zp ?_|refine zq ?_|refine zv ?_|refine zr ?_|refine zs _ rfl ?_|exact Sy.fin_val (fun e=>rfl))));(all_goals (try conv => whnf)))
        exact Sy.fin_r1 (.row 6) rfl
end Go.Proofs.Ytcjiaiojkciheaa
