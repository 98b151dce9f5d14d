/- Graph: wrong. -/
import Derived.Test.YtmahldelmbhjfaaGreatGF
namespace Go.Proofs.YtmahldelmbhjfaaGreat
open Go Go.RowKit
open Sy (C SV V1 Blk St XD Els)
set_option maxRecDepth 10000

def tagAt (g : List Opr) (k : Nat) : Int := match g[k]? with
  | some o => o.tag
  | none => 0
def sinkB (g : List Opr) (l : List Int) : Bool := l.any fun k => decide (tagAt g k.toNat = 7)
def dupB (l : List Opr) (a : Int) : Bool := l.any fun x => decide (x.tag = 1) && decide (x.a = a)
/-- Why operator i may not stand where it stands. -/
def wrongE (g : List Opr) (i : Nat) (o : Opr) (wide : Int) : Int :=
  if AloneP o i then
    if sinkB g o.ins = true then 160
    else if o.tag = 1 ∧ dupB (g.take i) o.a = true then 160
    else if o.tag = 6 ∧ insSum g o.ins ≠ (srcs g i).length then 161
    else if 16 < wide then 163 else 0
  else 160
theorem tagAt_get {gl : List OpV} {k : Nat} {o : OpV} (h : gl[k]? = some o) : tagAt (opsOf gl) k = o.op.tag := by unfold tagAt; rw [opsOf_get h]
def sinkC (gl : List OpV) (l : List Int) : Sy.Ctr Unit := { avs := [.c (.row 2), .c (.row 1)], n0 := 4, H0 := [(0, .cells 24 [.row 3]), (1, .fn 84 [.loc 0 0]), (2, .ext 1 l.length (.vs (l.map encI))), (3, .ext 5 gl.length (.vs (gl.map encOV)))], sv := fun _ => .c (.v (.bool (sinkB (opsOf gl) l))), n1 := fun _ => 4, H1 := fun _ => [(0, .cells 24 [.row 3]), (1, .fn 84 [.loc 0 0])] }
theorem sink_drop (g : List Opr) (l : List Int) (n : Nat) (h : n < l.length) : sinkB g (l.drop n) = (decide (tagAt g l[n].toNat = 7) || sinkB g (l.drop (n + 1))) := by
  rw [List.drop_eq_getElem_cons h]; rfl
theorem sink_does (gl : List OpV) (l : List Int) (hin : ∀ k ∈ l, 0 ≤ k ∧ k < gl.length) (hl : l.length ≤ 100000) : Sy.Does Tryz.prog 86 (sinkC gl l) := by
  refine Sy.does_of Sy.lv86 Sy.tab_ok Tryz.func86 rfl _ Tryz.ntmps86 _ rfl rfl (fun e0 w hpre => ?_)
  ((repeat' ((conv => whnf);(first|refine zA ?_|(refine zI ?_ ?_<;> intro hh<;> first|(exfalso;omega)|skip)|(refine zl ?_ ?_<;> intro hh)|refine zq ?_|refine zv ?_|exact Sy.fin_val fun e=>rfl)));(all_goals (try conv => whnf)))
  refine Sy.call_in Sy.lv100 Sy.tab_ok Tryz.func100 rfl _ Tryz.ntmps100 Tryz.call100 rfl (fun _ => ?_)
  ((repeat' ((conv => whnf);(first|refine zA ?_|(refine zI ?_ ?_<;> intro hh<;> first|(exfalso;omega)|skip)|(refine zl ?_ ?_<;> intro hh)|refine zq ?_|refine zv ?_|exact Sy.fin_val fun e=>rfl)));(all_goals (try conv => whnf)))
  refine Sy.loop_inv Sy.tab_ok (fun n : Nat => [(8, .c (.v (.int .i64 n)))]) (fun _ => []) (fun n => n ≤ l.length ∧ sinkB (opsOf gl) l = sinkB (opsOf gl) (l.drop n)) (fun n => l.length - n) 0 ⟨Nat.zero_le _, rfl⟩ ?_ (fun n hn => ?_)
  · ((repeat' (first|((conv => whnf);done)|((try conv => whnf);first|exact trivial|(refine And.intro ?_ ?_)|rfl|exact fun _ _ _ h=>h|exact fun _ _ _ _=>trivial)));(all_goals (try conv => whnf)))
  · obtain ⟨hn, hs⟩ := hn
    ((repeat' ((conv => whnf);(first|refine zA ?_|(refine zI ?_ ?_<;> intro hh<;> first|(exfalso;omega)|skip)|(refine zl ?_ ?_<;> intro hh)|exact Sy.fin_val fun e=>rfl)));(all_goals (try conv => whnf)))
    · have hlt : n < l.length := by omega
      have hg := List.getElem?_eq_getElem hlt
      have hk := hin _ (List.getElem_mem hlt)
      have hd := sink_drop (opsOf gl) l n hlt
      generalize l[n] = k at *
      refine Sy.el_map k hg ?_
      ((repeat' ((conv => whnf);(first|refine zA ?_|(refine zI ?_ ?_<;> intro hh<;> first|(exfalso;omega)|skip)|(refine zl ?_ ?_<;> intro hh)|refine zq ?_|refine zv ?_|exact Sy.fin_val fun e=>rfl)));(all_goals (try conv => whnf)))
      refine Sy.call_in Sy.lv84 Sy.tab_ok Tryz.func84 rfl _ Tryz.ntmps84 Tryz.call84 rfl (fun _ => ?_)
      ((repeat' ((conv => whnf);(first|refine zA ?_|(refine zI ?_ ?_<;> intro hh<;> first|(exfalso;omega)|skip)|(refine zl ?_ ?_<;> intro hh)|refine zq ?_|refine zv ?_|exact Sy.fin_val fun e=>rfl)));(all_goals (try conv => whnf)))
      obtain ⟨m, rfl⟩ : ∃ m : Nat, k = (m : Int) := ⟨k.toNat, by omega⟩
      rw [Int.toNat_natCast] at hd
      have hgm := List.getElem?_eq_getElem (show m < gl.length by omega)
      rw [tagAt_get hgm] at hd
      generalize gl[m]'(by omega) = o at *
      refine Sy.el_map o (by rw [Int.toNat_natCast]; exact hgm) ?_
      ((repeat' ((conv => whnf);(first|refine zA ?_|(refine zI ?_ ?_<;> intro hh<;> first|(exfalso;omega)|skip)|(refine zl ?_ ?_<;> intro hh)|refine zq ?_|refine zv ?_|exact Sy.fin_val fun e=>rfl)));(all_goals (try conv => whnf)))
      · rw [decide_eq_true (by assumption), Bool.true_or] at hd
        refine Sy.fin_own () trivial ?_
        ((conv => whnf);(refine And.intro ?_ (And.intro ?_ (And.intro ?_ ?_)));(all_goals ((repeat' (first|((conv => whnf);done)|((try conv => whnf);first|exact trivial|(refine And.intro ?_ ?_)|rfl|exact fun _ _ _ h=>h|exact fun _ _ _ _=>trivial)));(all_goals (try conv => whnf)))))
        rw [hs, hd]
        simp
      · rw [decide_eq_false (by assumption), Bool.false_or] at hd
        refine ⟨n + 1, ⟨by omega, by rw [hs, hd]⟩, by omega, ?_⟩
        ((repeat' (first|((conv => whnf);done)|((try conv => whnf);first|exact trivial|(refine And.intro ?_ ?_)|rfl|exact fun _ _ _ h=>h|exact fun _ _ _ _=>trivial)));(all_goals (try conv => whnf)))
    · have e : n = l.length := by omega
      subst e
      rw [List.drop_length] at hs
      refine Sy.fin_own () trivial ?_
      ((conv => whnf);(refine And.intro ?_ (And.intro ?_ (And.intro ?_ ?_)));(all_goals ((repeat' (first|((conv => whnf);done)|((try conv => whnf);first|exact trivial|(refine And.intro ?_ ?_)|rfl|exact fun _ _ _ h=>h|exact fun _ _ _ _=>trivial)));(all_goals (try conv => whnf)))))
      rw [hs]; rfl
def dupC (o : OpV) (gl : List OpV) : Sy.Ctr Unit := { avs := [.c (.row 2), .c (.row 1)], n0 := 3, H0 := [(0, .cells 55 [.v (.int .i64 o.op.tag), .v (.int .i64 o.op.width), .v o.iv, .v (.int .i64 o.op.a), .v (.int .i64 o.op.b)]), (1, .fn 83 [.loc 0 0]), (2, .ext 5 gl.length (.vs (gl.map encOV)))], sv := fun _ => .c (.v (.bool (dupB (opsOf gl) o.op.a))), n1 := fun _ => 3, H1 := fun _ => [(0, .cells 55 [.v (.int .i64 o.op.tag), .v (.int .i64 o.op.width), .v o.iv, .v (.int .i64 o.op.a), .v (.int .i64 o.op.b)]), (1, .fn 83 [.loc 0 0])] }
theorem dup_drop (gl : List OpV) (a : Int) (n : Nat) {x : OpV} (h : gl[n]? = some x) : dupB (opsOf (gl.drop n)) a = ((decide (x.op.tag = 1) && decide (x.op.a = a)) || dupB (opsOf (gl.drop (n + 1))) a) := by
  obtain ⟨hn, he⟩ := List.getElem?_eq_some_iff.1 h
  rw [List.drop_eq_getElem_cons hn, he]; rfl
theorem dup_does (o : OpV) (gl : List OpV) (_ : ∀ x ∈ gl, x.iv.oneCell' = true) (hl : gl.length ≤ 100000) : Sy.Does Tryz.prog 87 (dupC o gl) := by
  refine Sy.does_of Sy.lv87 Sy.tab_ok Tryz.func87 rfl _ Tryz.ntmps87 _ rfl rfl (fun e0 w hpre => ?_)
  ((repeat' ((conv => whnf);(first|refine zA ?_|(refine zI ?_ ?_<;> intro hh<;> first|(exfalso;omega)|skip)|(refine zl ?_ ?_<;> intro hh)|refine zq ?_|refine zv ?_|exact Sy.fin_val fun e=>rfl)));(all_goals (try conv => whnf)))
  refine Sy.call_in Sy.lv101 Sy.tab_ok Tryz.func101 rfl _ Tryz.ntmps101 Tryz.call101 rfl (fun _ => ?_)
  ((repeat' ((conv => whnf);(first|refine zA ?_|(refine zI ?_ ?_<;> intro hh<;> first|(exfalso;omega)|skip)|(refine zl ?_ ?_<;> intro hh)|refine zq ?_|refine zv ?_|exact Sy.fin_val fun e=>rfl)));(all_goals (try conv => whnf)))
  refine Sy.loop_inv Sy.tab_ok (fun n : Nat => [(8, .c (.v (.int .i64 n)))]) (fun _ => []) (fun n => n ≤ gl.length ∧ dupB (opsOf gl) o.op.a = dupB (opsOf (gl.drop n)) o.op.a) (fun n => gl.length - n) 0 ⟨Nat.zero_le _, rfl⟩ ?_ (fun n hn => ?_)
  · ((repeat' (first|((conv => whnf);done)|((try conv => whnf);first|exact trivial|(refine And.intro ?_ ?_)|rfl|exact fun _ _ _ h=>h|exact fun _ _ _ _=>trivial)));(all_goals (try conv => whnf)))
  · obtain ⟨hn, hs⟩ := hn
    ((repeat' ((conv => whnf);(first|refine zA ?_|(refine zI ?_ ?_<;> intro hh<;> first|(exfalso;omega)|skip)|(refine zl ?_ ?_<;> intro hh)|exact Sy.fin_val fun e=>rfl)));(all_goals (try conv => whnf)))
    · have hlt : n < gl.length := by omega
      have hg := List.getElem?_eq_getElem hlt
      generalize gl[n] = x at *
      have hd := dup_drop gl o.op.a n hg
      refine Sy.el_map x hg ?_
      ((repeat' ((conv => whnf);(first|refine zA ?_|(refine zI ?_ ?_<;> intro hh<;> first|(exfalso;omega)|skip)|(refine zl ?_ ?_<;> intro hh)|refine zq ?_|refine zv ?_|exact Sy.fin_val fun e=>rfl)));(all_goals (try conv => whnf)))
      refine Sy.call_in Sy.lv83 Sy.tab_ok Tryz.func83 rfl _ Tryz.ntmps83 Tryz.call83 rfl (fun _ => ?_)
      ((repeat' ((conv => whnf);(first|refine zA ?_|(refine zI ?_ ?_<;> intro hh<;> first|(exfalso;omega)|skip)|(refine zl ?_ ?_<;> intro hh)|refine zq ?_|refine zv ?_|exact Sy.fin_val fun e=>rfl)));(all_goals (try conv => whnf)))
      all_goals first
        | (rw [decide_eq_true (show x.op.tag = 1 by assumption), decide_eq_true (show x.op.a = o.op.a by omega), Bool.and_self, Bool.true_or] at hd
           refine Sy.fin_own () trivial ?_
           ((conv => whnf);(refine And.intro ?_ (And.intro ?_ (And.intro ?_ ?_)));(all_goals ((repeat' (first|((conv => whnf);done)|((try conv => whnf);first|exact trivial|(refine And.intro ?_ ?_)|rfl|exact fun _ _ _ h=>h|exact fun _ _ _ _=>trivial)));(all_goals (try conv => whnf)))))
           all_goals (rw [hs, hd]; simp))
        | (rw [show (decide (x.op.tag = 1) && decide (x.op.a = o.op.a)) = false by simp; omega, Bool.false_or] at hd
           refine ⟨n + 1, ⟨by omega, by rw [hs, hd]⟩, by omega, ?_⟩
           ((repeat' (first|((conv => whnf);done)|((try conv => whnf);first|exact trivial|(refine And.intro ?_ ?_)|rfl|exact fun _ _ _ h=>h|exact fun _ _ _ _=>trivial)));(all_goals (try conv => whnf))))
    · have e : n = gl.length := by omega
      subst e
      rw [List.drop_length] at hs
      refine Sy.fin_own () trivial ?_
      ((conv => whnf);(refine And.intro ?_ (And.intro ?_ (And.intro ?_ ?_)));(all_goals ((repeat' (first|((conv => whnf);done)|((try conv => whnf);first|exact trivial|(refine And.intro ?_ ?_)|rfl|exact fun _ _ _ h=>h|exact fun _ _ _ _=>trivial)));(all_goals (try conv => whnf)))))
      rw [hs]; rfl
end Go.Proofs.YtmahldelmbhjfaaGreat
