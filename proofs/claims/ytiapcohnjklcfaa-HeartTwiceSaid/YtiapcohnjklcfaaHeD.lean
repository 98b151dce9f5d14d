/- Heart: the document's Alive; Due. -/
import Derived.Test.YtiapcohnjklcfaaHeC
namespace Go.Proofs.Ytiapcohnjklcfaa
open Go Go.RowKit
open Sy (C SV V1 Blk St XD Els)
set_option maxRecDepth 10000
attribute [local irreducible] okN okH ok0 chkE

theorem ralive_any (now span : Int) (v : Value) (ps : List Pulse) (w : World) (hk : okH now span ps = true) (hr : XD.ok (fun b => b < w.heap.size) w ⟨v, 3, ps.length, ps.map encP⟩) :
    Calls Try.prog 26 #[.agg #[.int .i64 now, .int .i64 span, v]] w (Sy.RetRows Sy.noRow (fun _ : Unit => True) (fun _ => [⟨3, 1, (aliveL now span ps).length, (aliveL now span ps).map encI⟩]) (fun _ vs => vs.headD undef) w) := by
  have hl := ok_len hr
  refine Sy.calls_of Sy.lv26 Sy.tab_ok Try.func26 rfl _ Try.ntmps26 [⟨v, 3, ps.length, ps.map encP⟩] [.agg [.v (.int .i64 now), .v (.int .i64 span), .row 0]] rfl rfl rfl ⟨hr, trivial⟩ ?_
  have hb := okH_len now span ps hk
  ((repeat' ((conv => whnf);(first|refine z1 ?_|refine z2 ?_|refine z3 ?_|refine z4 ?_|refine z5 ?_|refine z6 ?_|refine z7 ?_|refine z8 ?_|refine z9 ?_|refine za ?_|refine zb ?_|refine zc ?_|refine zd ?_|refine ze ?_|refine zf ?_|refine zg ?_|refine zh ?_|((first|refine zi ?_ ?_|refine zj ?_ ?_|refine zk ?_ ?_)<;> intro hh <;> first|(exfalso;omega)|skip)|(refine zl ?_ ?_<;> intro hh)|refine zm ?_|refine zn ?_|refine zo ?_|refine zp ?_|refine zq ?_|refine zr ?_|refine zs _ rfl ?_|refine zu ?_|exact Sy.fin_val (fun e=>rfl))));(all_goals (try conv => whnf)))
  refine Sy.sem_subF (Sy.sub_row 3 3 1 rfl) ?_
  conv => whnf
  refine Sy.loop_inv Sy.tab_ok (fun n : Nat => [(9, .c (.v (.int .i64 n))), (3, .c (.row 2))]) (fun n => [(2, .row 3 1 (aliveN ps n).length (.vs ((aliveN ps n).map encI)))]) (fun n => n ≤ ps.length) (fun n => ps.length - n) 0 (Nat.zero_le _) ?_ (fun n hle => ?_)
  · ((repeat' (first|((conv => whnf);done)|((try conv => whnf);first|exact trivial|(refine And.intro ?_ ?_)|rfl)));(all_goals (try conv => whnf)))
  · ((repeat' ((conv => whnf);(first|refine z1 ?_|refine z2 ?_|refine z3 ?_|refine z4 ?_|refine z5 ?_|refine z6 ?_|refine z7 ?_|refine z8 ?_|refine z9 ?_|refine za ?_|refine zb ?_|refine zc ?_|refine zd ?_|refine ze ?_|refine zf ?_|refine zg ?_|refine zh ?_|((first|refine zi ?_ ?_|refine zj ?_ ?_|refine zk ?_ ?_)<;> intro hh <;> first|(exfalso;omega)|skip)|(refine zl ?_ ?_<;> intro hh)|refine zm ?_|refine zn ?_|refine zo ?_|refine zp ?_|refine zq ?_|refine zr ?_|refine zs _ rfl ?_|refine zu ?_|exact Sy.fin_val (fun e=>rfl))));(all_goals (try conv => whnf)))
    · have hlt : n < ps.length := by omega
      refine Sy.el_map ps[n] (List.getElem?_eq_getElem hlt) ?_
      have e1 := aliveN_succ ps n hlt
      have e2 := aliveN_len ps n
      generalize ps[n] = p at *
      generalize aliveN ps n = l at *
      ((repeat' ((conv => whnf);(first|refine z1 ?_|refine z2 ?_|refine z3 ?_|refine z4 ?_|refine z5 ?_|refine z6 ?_|refine z7 ?_|refine z8 ?_|refine z9 ?_|refine za ?_|refine zb ?_|refine zc ?_|refine zd ?_|refine ze ?_|refine zf ?_|refine zg ?_|refine zh ?_|((first|refine zi ?_ ?_|refine zj ?_ ?_|refine zk ?_ ?_)<;> intro hh <;> first|(exfalso;omega)|skip)|(refine zl ?_ ?_<;> intro hh)|refine zm ?_|refine zn ?_|refine zo ?_|refine zp ?_|refine zq ?_|refine zr ?_|refine zs _ rfl ?_|refine zu ?_|exact Sy.fin_val (fun e=>rfl))));(all_goals (try conv => whnf)))
      · rw [if_pos (by assumption : p.down = true), List.append_nil] at e1
        refine ⟨n + 1, by omega, by omega, ?_⟩
        rw [e1]
        ((repeat' (first|((conv => whnf);done)|((try conv => whnf);first|exact trivial|(refine And.intro ?_ ?_)|rfl)));(all_goals (try conv => whnf)))
      · rw [if_neg (by simp [(by assumption : p.down = false)])] at e1
        refine Sy.need_app 8 rfl ⟨by omega, by omega⟩ ?_
        ((repeat' ((conv => whnf);(first|refine z1 ?_|refine z2 ?_|refine z3 ?_|refine z4 ?_|refine z5 ?_|refine z6 ?_|refine z7 ?_|refine z8 ?_|refine z9 ?_|refine za ?_|refine zb ?_|refine zc ?_|refine zd ?_|refine ze ?_|refine zf ?_|refine zg ?_|refine zh ?_|((first|refine zi ?_ ?_|refine zj ?_ ?_|refine zk ?_ ?_)<;> intro hh <;> first|(exfalso;omega)|skip)|(refine zl ?_ ?_<;> intro hh)|refine zm ?_|refine zn ?_|refine zo ?_|refine zp ?_|refine zq ?_|refine zr ?_|refine zs _ rfl ?_|refine zu ?_|exact Sy.fin_val (fun e=>rfl))));(all_goals (try conv => whnf)))
        refine ⟨n + 1, by omega, by omega, ?_⟩
        rw [e1]
        ((repeat' (first|((conv => whnf);done)|((try conv => whnf);first|exact trivial|(refine And.intro ?_ ?_)|rfl)));(all_goals (try conv => whnf)))
        all_goals simp [encI]
    · have e : n = ps.length := by omega
      subst e
      have e2 : aliveN ps ps.length = aliveL now span ps := by rw [aliveL, if_pos hk, aliveN, List.take_length]
      refine Sy.fin_rows () trivial [.row 2] ⟨?_, (by intro j hj; cases hj), trivial⟩ (fun e => rfl)
      rw [← e2]
      rfl

def dueStep (span : Int) (s : Int × Bool) (p : Pulse) : Int × Bool := if p.down = false ∧ (s.2 = false ∨ p.heard + span < s.1) then (p.heard + span, true) else s
theorem dueStep_down {span : Int} {s : Int × Bool} {p : Pulse} (h : p.down = true) : dueStep span s p = s := by simp [dueStep, h]
theorem dueStep_first {span : Int} {s : Int × Bool} {p : Pulse} (h : p.down = false) (h2 : s.2 = false) : dueStep span s p = (p.heard + span, true) := by simp [dueStep, h, h2]
theorem dueStep_less {span : Int} {s : Int × Bool} {p : Pulse} (h : p.down = false) (h2 : p.heard + span < s.1) : dueStep span s p = (p.heard + span, true) := by simp [dueStep, h, h2]
theorem dueStep_no {span : Int} {s : Int × Bool} {p : Pulse} (h : p.down = false) (h1 : s.2 = true) (h2 : ¬ p.heard + span < s.1) : dueStep span s p = s := by simp [dueStep, h, h1, h2]
def dueN (span : Int) (ps : List Pulse) (n : Nat) : Int × Bool := (ps.take n).foldl (dueStep span) (0, false)
def dueL (span : Int) (ps : List Pulse) : Int × Bool := ps.foldl (dueStep span) (0, false)
theorem dueN_succ (span : Int) (ps : List Pulse) (n : Nat) (h : n < ps.length) : dueN span ps (n + 1) = dueStep span (dueN span ps n) ps[n] := snoc_fold _ _ _ _ h
theorem dueN_all (span : Int) (ps : List Pulse) : dueN span ps ps.length = dueL span ps := by rw [dueN, List.take_length, dueL]
def dueH (now span : Int) (ps : List Pulse) : Int × Bool := if okH now span ps = true then dueL span ps else (0, false)
attribute [local irreducible] dueN dueL
theorem due_any (now span : Int) (v : Value) (ps : List Pulse) (w : World) (hn : I64 now) (hr : XD.ok (fun b => b < w.heap.size) w ⟨v, 3, ps.length, ps.map encP⟩) :
    Calls Try.prog 24 #[.agg #[.int .i64 now, .int .i64 span, v]] w (Sy.Ret (.tuple #[.int .i64 (dueH now span ps).1, .bool (dueH now span ps).2]) w) := by
  have hl := ok_len hr
  refine Sy.calls_of Sy.lv24 Sy.tab_ok Try.func24 rfl _ Try.ntmps24 [⟨v, 3, ps.length, ps.map encP⟩] [.agg [.v (.int .i64 now), .v (.int .i64 span), .row 0]] rfl rfl rfl ⟨hr, trivial⟩ ?_
  ((repeat' ((conv => whnf);(first|refine z1 ?_|refine z2 ?_|refine z3 ?_|refine z4 ?_|refine z5 ?_|refine z6 ?_|refine z7 ?_|refine z8 ?_|refine z9 ?_|refine za ?_|refine zb ?_|refine zc ?_|refine zd ?_|refine ze ?_|refine zf ?_|refine zg ?_|refine zh ?_|((first|refine zi ?_ ?_|refine zj ?_ ?_|refine zk ?_ ?_)<;> intro hh <;> first|(exfalso;omega)|skip)|(refine zl ?_ ?_<;> intro hh)|refine zm ?_|refine zn ?_|refine zo ?_|refine zp ?_|refine zq ?_|refine zr ?_|refine zs _ rfl ?_|refine zu ?_|exact Sy.fin_val (fun e=>rfl))));(all_goals (try conv => whnf)))
  refine Sy.call_val (.c (.v (.int .i64 (chkE now span ps)))) Try.call22 rfl (fun e a w' h => check_any now span _ ps w' hn (Sy.row_reads h (.inr rfl))) ?_
  by_cases hk : okH now span ps = true
  · have hb := okH_len now span ps hk
    obtain ⟨g1, g2, g3, g4⟩ := okH_bd now span ps hk
    rw [show chkE now span ps = 0 by unfold chkE; rw [if_pos hk]]
    ((repeat' ((conv => whnf);(first|refine z1 ?_|refine z2 ?_|refine z3 ?_|refine z4 ?_|refine z5 ?_|refine z6 ?_|refine z7 ?_|refine z8 ?_|refine z9 ?_|refine za ?_|refine zb ?_|refine zc ?_|refine zd ?_|refine ze ?_|refine zf ?_|refine zg ?_|refine zh ?_|((first|refine zi ?_ ?_|refine zj ?_ ?_|refine zk ?_ ?_)<;> intro hh <;> first|(exfalso;omega)|skip)|(refine zl ?_ ?_<;> intro hh)|refine zm ?_|refine zn ?_|refine zo ?_|refine zp ?_|refine zq ?_|refine zr ?_|refine zs _ rfl ?_|refine zu ?_|exact Sy.fin_val (fun e=>rfl))));(all_goals (try conv => whnf)))
    refine Sy.loop_inv Sy.tab_ok (fun n : Nat => [(13, .c (.v (.int .i64 n))), (2, .c (.v (.int .i64 (dueN span ps n).1))), (3, .c (.v (.bool (dueN span ps n).2)))]) (fun _ => []) (fun n => n ≤ ps.length) (fun n => ps.length - n) 0 (Nat.zero_le _) ?_ (fun n hle => ?_)
    · ((repeat' (first|((conv => whnf);done)|((try conv => whnf);first|exact trivial|(refine And.intro ?_ ?_)|rfl)));(all_goals (try conv => whnf)))
      all_goals (unfold dueN; rfl)
    · ((repeat' ((conv => whnf);(first|refine z1 ?_|refine z2 ?_|refine z3 ?_|refine z4 ?_|refine z5 ?_|refine z6 ?_|refine z7 ?_|refine z8 ?_|refine z9 ?_|refine za ?_|refine zb ?_|refine zc ?_|refine zd ?_|refine ze ?_|refine zf ?_|refine zg ?_|refine zh ?_|((first|refine zi ?_ ?_|refine zj ?_ ?_|refine zk ?_ ?_)<;> intro hh <;> first|(exfalso;omega)|skip)|(refine zl ?_ ?_<;> intro hh)|refine zm ?_|refine zn ?_|refine zo ?_|refine zp ?_|refine zq ?_|refine zr ?_|refine zs _ rfl ?_|refine zu ?_|exact Sy.fin_val (fun e=>rfl))));(all_goals (try conv => whnf)))
      · have hlt : n < ps.length := by omega
        refine Sy.el_map ps[n] (List.getElem?_eq_getElem hlt) ?_
        have e1 := dueN_succ span ps n hlt
        have e2 := okH_get now span ps hk n hlt
        generalize ps[n] = p at *
        generalize dueN span ps n = s at *
        ((repeat' ((conv => whnf);(first|refine z1 ?_|refine z2 ?_|refine z3 ?_|refine z4 ?_|refine z5 ?_|refine z6 ?_|refine z7 ?_|refine z8 ?_|refine z9 ?_|refine za ?_|refine zb ?_|refine zc ?_|refine zd ?_|refine ze ?_|refine zf ?_|refine zg ?_|refine zh ?_|((first|refine zi ?_ ?_|refine zj ?_ ?_|refine zk ?_ ?_)<;> intro hh <;> first|(exfalso;omega)|skip)|(refine zl ?_ ?_<;> intro hh)|refine zm ?_|refine zn ?_|refine zo ?_|refine zp ?_|refine zq ?_|refine zr ?_|refine zs _ rfl ?_|refine zu ?_|exact Sy.fin_val (fun e=>rfl))));(all_goals (try conv => whnf)))
        all_goals
          refine ⟨n + 1, by omega, by omega, ?_⟩
          first | rw [dueStep_down (by assumption)] at e1 | rw [dueStep_first (by assumption) (by assumption)] at e1 | rw [dueStep_less (by assumption) (by assumption)] at e1 | rw [dueStep_no (by assumption) (by assumption) (by assumption)] at e1
          rw [e1]
          ((repeat' (first|((conv => whnf);done)|((try conv => whnf);first|exact trivial|(refine And.intro ?_ ?_)|rfl)));(all_goals (try conv => whnf)))
          all_goals rfl
      · have e : n = ps.length := by omega
        subst e
        exact Sy.fin_val (fun e => by rw [dueH, if_pos hk, ← dueN_all]; rfl)
  · rw [show chkE now span ps = 360 by unfold chkE; rw [if_neg hk]]
    ((repeat' ((conv => whnf);(first|refine z1 ?_|refine z2 ?_|refine z3 ?_|refine z4 ?_|refine z5 ?_|refine z6 ?_|refine z7 ?_|refine z8 ?_|refine z9 ?_|refine za ?_|refine zb ?_|refine zc ?_|refine zd ?_|refine ze ?_|refine zf ?_|refine zg ?_|refine zh ?_|((first|refine zi ?_ ?_|refine zj ?_ ?_|refine zk ?_ ?_)<;> intro hh <;> first|(exfalso;omega)|skip)|(refine zl ?_ ?_<;> intro hh)|refine zm ?_|refine zn ?_|refine zo ?_|refine zp ?_|refine zq ?_|refine zr ?_|refine zs _ rfl ?_|refine zu ?_|exact Sy.fin_val (fun e=>rfl))));(all_goals (try conv => whnf)))
    exact Sy.fin_val (fun e => by rw [dueH, if_neg hk]; rfl)

theorem rdue_any (now span : Int) (v : Value) (ps : List Pulse) (w : World) (hk : okH now span ps = true) (hr : XD.ok (fun b => b < w.heap.size) w ⟨v, 3, ps.length, ps.map encP⟩) :
    Calls Try.prog 25 #[.agg #[.int .i64 now, .int .i64 span, v]] w (Sy.Ret (.tuple #[.int .i64 (dueH now span ps).1, .bool (dueH now span ps).2]) w) := by
  have hl := ok_len hr
  refine Sy.calls_of Sy.lv25 Sy.tab_ok Try.func25 rfl _ Try.ntmps25 [⟨v, 3, ps.length, ps.map encP⟩] [.agg [.v (.int .i64 now), .v (.int .i64 span), .row 0]] rfl rfl rfl ⟨hr, trivial⟩ ?_
  have hb := okH_len now span ps hk
  obtain ⟨g1, g2, g3, g4⟩ := okH_bd now span ps hk
  ((repeat' ((conv => whnf);(first|refine z1 ?_|refine z2 ?_|refine z3 ?_|refine z4 ?_|refine z5 ?_|refine z6 ?_|refine z7 ?_|refine z8 ?_|refine z9 ?_|refine za ?_|refine zb ?_|refine zc ?_|refine zd ?_|refine ze ?_|refine zf ?_|refine zg ?_|refine zh ?_|((first|refine zi ?_ ?_|refine zj ?_ ?_|refine zk ?_ ?_)<;> intro hh <;> first|(exfalso;omega)|skip)|(refine zl ?_ ?_<;> intro hh)|refine zm ?_|refine zn ?_|refine zo ?_|refine zp ?_|refine zq ?_|refine zr ?_|refine zs _ rfl ?_|refine zu ?_|exact Sy.fin_val (fun e=>rfl))));(all_goals (try conv => whnf)))
  refine Sy.loop_inv Sy.tab_ok (fun n : Nat => [(12, .c (.v (.int .i64 n))), (4, .c (.v (.int .i64 (dueN span ps n).1))), (5, .c (.v (.bool (dueN span ps n).2)))]) (fun _ => []) (fun n => n ≤ ps.length) (fun n => ps.length - n) 0 (Nat.zero_le _) ?_ (fun n hle => ?_)
  · ((repeat' (first|((conv => whnf);done)|((try conv => whnf);first|exact trivial|(refine And.intro ?_ ?_)|rfl)));(all_goals (try conv => whnf)))
    all_goals (unfold dueN; rfl)
  · ((repeat' ((conv => whnf);(first|refine z1 ?_|refine z2 ?_|refine z3 ?_|refine z4 ?_|refine z5 ?_|refine z6 ?_|refine z7 ?_|refine z8 ?_|refine z9 ?_|refine za ?_|refine zb ?_|refine zc ?_|refine zd ?_|refine ze ?_|refine zf ?_|refine zg ?_|refine zh ?_|((first|refine zi ?_ ?_|refine zj ?_ ?_|refine zk ?_ ?_)<;> intro hh <;> first|(exfalso;omega)|skip)|(refine zl ?_ ?_<;> intro hh)|refine zm ?_|refine zn ?_|refine zo ?_|refine zp ?_|refine zq ?_|refine zr ?_|refine zs _ rfl ?_|refine zu ?_|exact Sy.fin_val (fun e=>rfl))));(all_goals (try conv => whnf)))
    · have hlt : n < ps.length := by omega
      refine Sy.el_map ps[n] (List.getElem?_eq_getElem hlt) ?_
      have e1 := dueN_succ span ps n hlt
      have e2 := okH_get now span ps hk n hlt
      generalize ps[n] = p at *
      generalize dueN span ps n = s at *
      ((repeat' ((conv => whnf);(first|refine z1 ?_|refine z2 ?_|refine z3 ?_|refine z4 ?_|refine z5 ?_|refine z6 ?_|refine z7 ?_|refine z8 ?_|refine z9 ?_|refine za ?_|refine zb ?_|refine zc ?_|refine zd ?_|refine ze ?_|refine zf ?_|refine zg ?_|refine zh ?_|((first|refine zi ?_ ?_|refine zj ?_ ?_|refine zk ?_ ?_)<;> intro hh <;> first|(exfalso;omega)|skip)|(refine zl ?_ ?_<;> intro hh)|refine zm ?_|refine zn ?_|refine zo ?_|refine zp ?_|refine zq ?_|refine zr ?_|refine zs _ rfl ?_|refine zu ?_|exact Sy.fin_val (fun e=>rfl))));(all_goals (try conv => whnf)))
      all_goals
        refine ⟨n + 1, by omega, by omega, ?_⟩
        first | rw [dueStep_down (by assumption)] at e1 | rw [dueStep_first (by assumption) (by assumption)] at e1 | rw [dueStep_less (by assumption) (by assumption)] at e1 | rw [dueStep_no (by assumption) (by assumption) (by assumption)] at e1
        rw [e1]
        ((repeat' (first|((conv => whnf);done)|((try conv => whnf);first|exact trivial|(refine And.intro ?_ ?_)|rfl)));(all_goals (try conv => whnf)))
        all_goals rfl
    · have e : n = ps.length := by omega
      subst e
      exact Sy.fin_val (fun e => by rw [dueH, if_pos hk, ← dueN_all]; rfl)
end Go.Proofs.Ytiapcohnjklcfaa
