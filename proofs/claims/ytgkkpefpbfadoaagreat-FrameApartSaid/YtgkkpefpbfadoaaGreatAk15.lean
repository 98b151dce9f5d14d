/- Graph: wrong. -/
import Derived.Test.YtgkkpefpbfadoaaGreatAk14
namespace Go.Proofs.YtgkkpefpbfadoaaGreat
open Go Go.RowKit
open Sy (C SV V1 Blk St XD Els)
set_option maxRecDepth 10000
def tagAt (g : List Opr) (k : Nat) : Int := match g[k]? with
 | some o => o.tag
 | none => 0
def sinkB (g : List Opr) (l : List Int) : Bool := l.any fun k => decide (tagAt g k.toNat = 7)
def dupB (l : List Opr) (a : Int) : Bool := l.any fun x => decide (x.tag = 1) && decide (x.a = a)
def wrongE (g : List Opr) (i : Nat) (o : Opr) (wide : Int) : Int :=
 if AloneP o i then
  if sinkB g o.ins = true then 160
  else if o.tag = 1 ∧ dupB (g.take i) o.a = true then 160
  else if o.tag = 6 ∧ insSum g o.ins ≠ (srcs g i).length then 161
  else if 16 < wide then 163 else 0
 else 160
theorem tagAt_get {gl : List OpV} {k : Nat} {o : OpV} (h : gl[k]? = some o) : tagAt (opsOf gl) k = o.op.tag := by unfold tagAt; rw [opsOf_get h]
def sinkC (gl : List OpV) (l : List Int) : Sy.Ctr Unit := { avs := [.c (.row 2), .c (.row 1)], n0 := 4, H0 := [(0, .cells 25 [.row 3]), (1, .fn 211 [.loc 0 0]), (2, .ext 1 l.length (.vs (l.map encI))), (3, .ext 5 gl.length (.vs (gl.map encOV)))], sv := fun _ => .c (.v (.bool (sinkB (opsOf gl) l))), n1 := fun _ => 4, H1 := fun _ => [(0, .cells 25 [.row 3]), (1, .fn 211 [.loc 0 0])] }
theorem sink_drop (g : List Opr) (l : List Int) (n : Nat) (h : n < l.length) : sinkB g (l.drop n) = (decide (tagAt g l[n].toNat = 7) || sinkB g (l.drop (n + 1))) := by
 rw [List.drop_eq_getElem_cons h]; rfl
theorem sink_does (gl : List OpV) (l : List Int) (hin : ∀ k ∈ l, 0 ≤ k ∧ k < gl.length) (hl : l.length ≤ 100000) : Sy.Does Tryz.prog 213 (sinkC gl l) := by
 refine Sy.does_of Sy.lv213 Sy.tab_ok Tryz.func213 rfl _ Tryz.ntmps213 _ rfl rfl (fun e0 w hpre => ?_)
 ((repeat' first|refine Yo ?_|refine Y2 ?_ ?_|refine Y1 fun hh=>?_|exact Y0.mk);(all_goals (try conv => whnf)))
 refine Sy.call_in Sy.lv225 Sy.tab_ok Tryz.func225 rfl _ Tryz.ntmps225 Tryz.call225 rfl (fun _ => ?_)
 ((repeat' first|refine Yo ?_|refine Y2 ?_ ?_|refine Y1 fun hh=>?_|exact Y0.mk);(all_goals (try conv => whnf)))
 refine Sy.loop_inv Sy.tab_ok (fun n : Nat => [(8, .c (.v (.int .i64 n)))]) (fun _ => []) (fun n => n ≤ l.length ∧ sinkB (opsOf gl) l = sinkB (opsOf gl) (l.drop n)) (fun n => l.length - n) 0 ⟨Nat.zero_le _, rfl⟩ ?_ (fun n hn => ?_)
 ·((repeat' (first|((conv => whnf);done)|((try conv => whnf);first|exact trivial|(refine And.intro ?_ ?_)|rfl|exact fun _ _ _ h=>h|exact fun _ _ _ _=>trivial)));(all_goals (try conv => whnf)))
 ·obtain ⟨hn, hs⟩ := hn
  ((repeat' first|refine Yd ?_|refine Y2 ?_ ?_|refine Y1 fun hh=>?_|exact Y0.mk);(all_goals (try conv => whnf)))
  ·have hlt : n < l.length := by omega
   have hg := List.getElem?_eq_getElem hlt
   have hk := hin _ (List.getElem_mem hlt)
   have hd := sink_drop (opsOf gl) l n hlt
   generalize l[n] = k at *
   refine Sy.el_map k hg ?_
   ((repeat' first|refine Yo ?_|refine Y2 ?_ ?_|refine Y1 fun hh=>?_|exact Y0.mk);(all_goals (try conv => whnf)))
   refine Sy.call_in Sy.lv211 Sy.tab_ok Tryz.func211 rfl _ Tryz.ntmps211 Tryz.call211 rfl (fun _ => ?_)
   ((repeat' first|refine Yo ?_|refine Y2 ?_ ?_|refine Y1 fun hh=>?_|exact Y0.mk);(all_goals (try conv => whnf)))
   obtain ⟨m, rfl⟩ : ∃ m : Nat, k = (m : Int) := ⟨k.toNat, by omega⟩
   rw [Int.toNat_natCast] at hd
   have hgm := List.getElem?_eq_getElem (show m < gl.length by omega)
   rw [tagAt_get hgm] at hd
   generalize gl[m]'(by omega) = o at *
   refine Sy.el_map o (by rw [Int.toNat_natCast]; exact hgm) ?_
   ((repeat' first|refine Yo ?_|refine Y2 ?_ ?_|refine Y1 fun hh=>?_|exact Y0.mk);(all_goals (try conv => whnf)))
   ·rw [decide_eq_true (by assumption), Bool.true_or] at hd
    refine Sy.fin_own () trivial ?_
    ((conv => whnf);(refine And.intro ?_ (And.intro ?_ (And.intro ?_ ?_)));(all_goals ((repeat' (first|((conv => whnf);done)|((try conv => whnf);first|exact trivial|(refine And.intro ?_ ?_)|rfl|exact fun _ _ _ h=>h|exact fun _ _ _ _=>trivial)));(all_goals (try conv => whnf)))))
    rw [hs, hd]
    simp
   ·rw [decide_eq_false (by assumption), Bool.false_or] at hd
    refine ⟨n + 1, ⟨by omega, by rw [hs, hd]⟩, by omega, ?_⟩
    ((repeat' (first|((conv => whnf);done)|((try conv => whnf);first|exact trivial|(refine And.intro ?_ ?_)|rfl|exact fun _ _ _ h=>h|exact fun _ _ _ _=>trivial)));(all_goals (try conv => whnf)))
  ·have e : n = l.length := by omega
   subst e
   rw [List.drop_length] at hs
   refine Sy.fin_own () trivial ?_
   ((conv => whnf);(refine And.intro ?_ (And.intro ?_ (And.intro ?_ ?_)));(all_goals ((repeat' (first|((conv => whnf);done)|((try conv => whnf);first|exact trivial|(refine And.intro ?_ ?_)|rfl|exact fun _ _ _ h=>h|exact fun _ _ _ _=>trivial)));(all_goals (try conv => whnf)))))
   rw [hs]; rfl
def dupC (o : OpV) (gl : List OpV) : Sy.Ctr Unit := { avs := [.c (.row 2), .c (.row 1)], n0 := 3, H0 := [(0, .cells 65 [.v (.int .i64 o.op.tag), .v (.int .i64 o.op.width), .v o.iv, .v (.int .i64 o.op.a), .v (.int .i64 o.op.b)]), (1, .fn 210 [.loc 0 0]), (2, .ext 5 gl.length (.vs (gl.map encOV)))], sv := fun _ => .c (.v (.bool (dupB (opsOf gl) o.op.a))), n1 := fun _ => 3, H1 := fun _ => [(0, .cells 65 [.v (.int .i64 o.op.tag), .v (.int .i64 o.op.width), .v o.iv, .v (.int .i64 o.op.a), .v (.int .i64 o.op.b)]), (1, .fn 210 [.loc 0 0])] }
theorem dup_drop (gl : List OpV) (a : Int) (n : Nat) {x : OpV} (h : gl[n]? = some x) : dupB (opsOf (gl.drop n)) a = ((decide (x.op.tag = 1) && decide (x.op.a = a)) || dupB (opsOf (gl.drop (n + 1))) a) := by
 obtain ⟨hn, he⟩ := List.getElem?_eq_some_iff.1 h
 rw [List.drop_eq_getElem_cons hn, he]; rfl
theorem dup_does (o : OpV) (gl : List OpV) (_ : ∀ x ∈ gl, x.iv.oneCell' = true) (hl : gl.length ≤ 100000) : Sy.Does Tryz.prog 214 (dupC o gl) := by
  refine Sy.does_of Sy.lv214 Sy.tab_ok Tryz.func214 rfl _ Tryz.ntmps214 _ rfl rfl (fun e0 w hpre => ?_)
  ((repeat' first|refine Yo ?_|refine Y2 ?_ ?_|refine Y1 fun hh=>?_|exact Y0.mk);(all_goals (try conv => whnf)))
  refine Sy.call_in Sy.lv226 Sy.tab_ok Tryz.func226 rfl _ Tryz.ntmps226 Tryz.call226 rfl (fun _ => ?_)
  ((repeat' first|refine Yo ?_|refine Y2 ?_ ?_|refine Y1 fun hh=>?_|exact Y0.mk);(all_goals (try conv => whnf)))
  refine Sy.loop_inv Sy.tab_ok (fun n : Nat => [(8, .c (.v (.int .i64 n)))]) (fun _ => []) (fun n => n ≤ gl.length ∧ dupB (opsOf gl) o.op.a = dupB (opsOf (gl.drop n)) o.op.a) (fun n => gl.length - n) 0 ⟨Nat.zero_le _, rfl⟩ ?_ (fun n hn => ?_)
  · ((repeat' (first|((conv => whnf);done)|((try conv => whnf);first|exact trivial|(refine And.intro ?_ ?_)|rfl|exact fun _ _ _ h=>h|exact fun _ _ _ _=>trivial)));(all_goals (try conv => whnf)))
  · obtain ⟨hn, hs⟩ := hn
    ((repeat' first|refine Yd ?_|refine Y2 ?_ ?_|refine Y1 fun hh=>?_|exact Y0.mk);(all_goals (try conv => whnf)))
    · have hlt : n < gl.length := by omega
      have hg := List.getElem?_eq_getElem hlt
      generalize gl[n] = x at *
      have hd := dup_drop gl o.op.a n hg
      refine Sy.el_map x hg ?_
      ((repeat' first|refine Yo ?_|refine Y2 ?_ ?_|refine Y1 fun hh=>?_|exact Y0.mk);(all_goals (try conv => whnf)))
      refine Sy.call_in Sy.lv210 Sy.tab_ok Tryz.func210 rfl _ Tryz.ntmps210 Tryz.call210 rfl (fun _ => ?_)
      ((repeat' first|refine Yo ?_|refine Y2 ?_ ?_|refine Y1 fun hh=>?_|exact Y0.mk);(all_goals (try conv => whnf)))
      all_goals first
        | (rw [decide_eq_true (show x.op.tag = 1 by assumption), decide_eq_true (show x.op.a = o.op.a by omega), Bool.and_self, Bool.true_or] at hd
           refine Sy.fin_own () trivial ?_
           ((conv => whnf);(refine And.intro ?_ (And.intro ?_ (And.intro ?_ ?_)));(all_goals ((repeat' (first|((conv => whnf);done)|((try conv => whnf);first|exact trivial|(refine And.intro ?_ ?_)|rfl|exact fun _ _ _ h=>h|exact fun _ _ _ _=>trivial)));(all_goals (try conv => whnf)))))
           all_goals (rw [hs, hd]; simp))
        | (rw [show (decide (x.op.tag = 1) && decide (x.op.a = o.op.a)) = false by simp; omega, Bool.false_or] at hd
           refine ⟨n + 1, ⟨by omega, by rw [hs, hd]⟩, by omega, ?_⟩
           ((repeat' (first|((conv => whnf);done)|((try conv => whnf);first|exact trivial|(refine And.intro ?_ ?_)|rfl|exact fun _ _ _ h=>h|exact fun _ _ _ _=>trivial)));(all_goals (try conv => whnf))))
    · have e : n = gl.length := by omega
      subst e
      rw [List.drop_length] at hs
      refine Sy.fin_own () trivial ?_
      ((conv => whnf);(refine And.intro ?_ (And.intro ?_ (And.intro ?_ ?_)));(all_goals ((repeat' (first|((conv => whnf);done)|((try conv => whnf);first|exact trivial|(refine And.intro ?_ ?_)|rfl|exact fun _ _ _ h=>h|exact fun _ _ _ _=>trivial)));(all_goals (try conv => whnf)))))
      rw [hs]; rfl
end Go.Proofs.YtgkkpefpbfadoaaGreat
namespace Go.Proofs.YtgkkpefpbfadoaaGreat
open Go Go.RowKit
open Sy (C SV V1 Blk St XD Els)
set_option maxRecDepth 10000
theorem srcs_le {g : List Opr} {i : Nat} {o : Opr} (hg : goodTo g (i + 1)) (ho : g[i]? = some o) (h1 : o.tag ≠ 1) : (srcs g i).length ≤ insSum g o.ins := by
 rw [← srcs_union hg ho h1]
 exact setI_len _
theorem insSum_le (g : List Opr) (l : List Int) : insSum g l ≤ 4 * l.length := by
 unfold insSum
 exact srcRows_len g l
theorem opsOf_take (gl : List OpV) (n : Nat) : opsOf (gl.take n) = (opsOf gl).take n := by unfold opsOf; rw [List.map_take]
attribute [local irreducible] insSum sinkB dupB srcs
set_option maxHeartbeats 2000000 in
theorem wrong_any (v : Value) (gl : List OpV) (i : Nat) (o : OpV) (wide : Int) (w : World) (hr : GOk (fun b => b < w.heap.size) w v gl) (hlen : gl.length ≤ 1000) (hgi : gl[i]? = some o) (hg : goodTo (opsOf gl) i) :
  Calls Tryz.prog 195 #[.agg #[v], .int .i64 i, .int .i64 wide] w (Sy.Ret (.int .i64 (wrongE (opsOf gl) i o.op wide)) w) := by
 have hi := (List.getElem?_eq_some_iff.1 hgi).1
 have hoo := hr.at hgi
 have hgo := opsOf_get hgi
 refine Sy.calls_of Sy.lv195 Sy.tab_ok Tryz.func195 rfl _ Tryz.ntmps195 [⟨v, 5, gl.length, gl.map encOV⟩] [.agg [.row 0], .c (.v (.int .i64 i)), .c (.v (.int .i64 wide))] rfl rfl rfl ⟨hr.1, trivial⟩ ?_
 ((repeat' first|refine Yo ?_|refine Y2 ?_ ?_|refine Y1 fun hh=>?_|exact Y0.mk);(all_goals (try conv => whnf)))
 refine Sy.el_map o hgi ?_
 ((repeat' first|refine Yd ?_|refine Y2 ?_ ?_|refine Y1 fun hh=>?_|exact Y0.mk);(all_goals (try conv => whnf)))
 by_cases ha : AloneP o.op i
 ·have hab : aloneB o.op i = true := decide_eq_true ha
  have hg1 : goodTo (opsOf gl) (i + 1) := fun j p hj hp => by
   rcases Nat.lt_succ_iff_lt_or_eq.1 hj with hj | rfl
   ·exact hg j p hj hp
   ·rw [hgo] at hp; cases hp; exact ha
  have hins := alone_ins ha
  have hil : o.op.ins.length ≤ i := rises_len ha.2.2.1
  ((repeat' first|refine Yo ?_|refine Y2 ?_ ?_|refine Y1 fun hh=>?_|exact Y0.mk);(all_goals (try conv => whnf)))
  refine Sy.call_val (.c (.v (.bool true))) Tryz.call212 rfl (fun e a w' h => by have := alone_any o i w' (Sy.later_in h hoo); rw [hab] at this; exact this) ?_
  ((repeat' first|refine Yo ?_|refine Y2 ?_ ?_|refine Y1 fun hh=>?_|exact Y0.mk);(all_goals (try conv => whnf)))
  refine open_x _ _ _ (hoo) (fun _ h => h) ?_
  ((repeat' first|refine Yo ?_|refine Y2 ?_ ?_|refine Y1 fun hh=>?_|exact Y0.mk);(all_goals (try conv => whnf)))
  refine Sy.call_own (sink_does gl o.op.ins (fun k hk => ⟨(hins k hk).1, by have := (hins k hk).2; omega⟩) (by omega)) Tryz.call213 ?_
  ((conv => whnf);(refine And.intro ?_ (And.intro ?_ (And.intro ?_ (And.intro ?_ ?_))));(all_goals ((repeat' (first|((conv => whnf);done)|((try conv => whnf);first|exact trivial|(refine And.intro ?_ ?_)|rfl|exact fun _ _ _ h=>h|exact fun _ _ _ _=>trivial)));(all_goals (try conv => whnf))));rotate_right)
  intro _ _ _
  generalize hsk : sinkB (opsOf gl) o.op.ins = sk
  cases sk
  ·have h0 : sinkB (opsOf gl) o.op.ins ≠ true := by rw [hsk]; decide
   have w1 : ∀ (_ : ¬ (o.op.tag = 1 ∧ dupB ((opsOf gl).take i) o.op.a = true)) (_ : ¬ (o.op.tag = 6 ∧ insSum (opsOf gl) o.op.ins ≠ (srcs (opsOf gl) i).length)), wrongE (opsOf gl) i o.op wide = if 16 < wide then 163 else 0 := fun h1 h2 => by rw [wrongE, if_pos ha, if_neg h0, if_neg h1, if_neg h2]
   ((repeat' first|refine Yo ?_|refine Y2 ?_ ?_|refine Y1 fun hh=>?_|exact Y0.mk);(all_goals (try conv => whnf)))
   ·have ht : o.op.tag = 1 := by assumption
    refine Sy.sli_nat (lo := 0) ⟨by omega, by omega⟩ ?_
    ((repeat' first|refine Yo ?_|refine Y2 ?_ ?_|refine Y1 fun hh=>?_|exact Y0.mk);(all_goals (try conv => whnf)))
    refine Sy.call_own (dup_does o (gl.take i) (fun x hx => Sy.ReadsE.one (hr.2 x (List.mem_of_mem_take hx)).1) (by rw [List.length_take]; omega)) Tryz.call214 ?_
    ((conv => whnf);(refine And.intro ?_ (And.intro ?_ (And.intro ?_ (And.intro ?_ ?_))));(all_goals ((repeat' (first|((conv => whnf);done)|((try conv => whnf);first|exact trivial|(refine And.intro ?_ ?_)|rfl|exact fun _ _ _ h=>h|exact fun _ _ _ _=>trivial)));(all_goals (try conv => whnf))));rotate_right)
    ·intro _ _ _
     have hdt := opsOf_take gl i
     generalize hdk : dupB (opsOf (gl.take i)) o.op.a = dk
     have hdk2 := hdk
     rw [hdt] at hdk2
     cases dk
     ·((repeat' first|refine Yo ?_|refine Y2 ?_ ?_|refine Y1 fun hh=>?_|exact Y0.mk);(all_goals (try conv => whnf)))
      ·exact Sy.fin_val (fun e => by rw [w1 (by rw [hdk2]; simp) (by omega), if_pos (by omega)]; rfl)
      ·exact Sy.fin_val (fun e => by rw [w1 (by rw [hdk2]; simp) (by omega), if_neg (by omega)]; rfl)
     ·((repeat' first|refine Yo ?_|refine Y2 ?_ ?_|refine Y1 fun hh=>?_|exact Y0.mk);(all_goals (try conv => whnf)))
      exact Sy.fin_val (fun e => by rw [wrongE, if_pos ha, if_neg h0, if_pos ⟨ht, hdk2⟩]; rfl)
    all_goals simp
    all_goals omega
   ·have ht : o.op.tag = 6 := by assumption
    have hle := srcs_le hg1 hgo (by omega)
    have hsm := insSum_le (opsOf gl) o.op.ins
    refine open_x _ _ _ (hoo) (fun _ h => h) ?_
    ((repeat' first|refine Yo ?_|refine Y2 ?_ ?_|refine Y1 fun hh=>?_|exact Y0.mk);(all_goals (try conv => whnf)))
    refine Sy.loop_inv Sy.tab_ok (fun n : Nat => [(49, .c (.v (.int .i64 n))), (10, .c (.v (.int .i64 (insSum (opsOf gl) (o.op.ins.take n)))))]) (fun n => []) (fun n => n ≤ o.op.ins.length) (fun n => o.op.ins.length - n) 0 (Nat.zero_le _) ?_ (fun n hn => ?_)
    ·rw [show insSum (opsOf gl) (o.op.ins.take 0) = 0 by unfold insSum; rfl]
     ((repeat' (first|((conv => whnf);done)|((try conv => whnf);first|exact trivial|(refine And.intro ?_ ?_)|rfl|exact fun _ _ _ h=>h|exact fun _ _ _ _=>trivial)));(all_goals (try conv => whnf)))
    ·have hlr := insSum_le (opsOf gl) (o.op.ins.take n)
     rw [List.length_take] at hlr
     ((repeat' first|refine Yd ?_|refine Y2 ?_ ?_|refine Y1 fun hh=>?_|exact Y0.mk);(all_goals (try conv => whnf)))
     ·have hlt : n < o.op.ins.length := by omega
      have hgn := List.getElem?_eq_getElem hlt
      have hk := hins _ (List.getElem_mem hlt)
      have hsr := insSum_succ (opsOf gl) o.op.ins n hlt
      generalize o.op.ins[n] = k at *
      refine Sy.el_map k hgn ?_
      ((repeat' first|refine Yo ?_|refine Y2 ?_ ?_|refine Y1 fun hh=>?_|exact Y0.mk);(all_goals (try conv => whnf)))
      obtain ⟨m, rfl⟩ : ∃ m : Nat, k = (m : Int) := ⟨k.toNat, by omega⟩
      have hsl := srcs_len (opsOf gl) m
      rw [Int.toNat_natCast] at hsr
      refine Sy.call_r1 ⟨3, 1, (srcs (opsOf gl) m).length, (srcs (opsOf gl) m).map encI⟩ (fun j => .c (.row j)) Tryz.call215 (fun e a w' h => sources_any (e.rv 0) gl m w' ⟨Sy.row_reads h (.inr rfl), fun o ho => Sy.later_in h (hr.2 o ho)⟩ hlen (by omega) (hg.mono (by omega))) ?_
      ((repeat' first|refine Yo ?_|refine Y2 ?_ ?_|refine Y1 fun hh=>?_|exact Y0.mk);(all_goals (try conv => whnf)))
      refine ⟨n + 1, by omega, by omega, ?_⟩
      rw [hsr, Int.natCast_add]
      ((repeat' (first|((conv => whnf);done)|((try conv => whnf);first|exact trivial|(refine And.intro ?_ ?_)|rfl|exact fun _ _ _ h=>h|exact fun _ _ _ _=>trivial)));(all_goals (try conv => whnf)))
     ·have e : n = o.op.ins.length := by omega
      subst e
      rw [List.take_length] at *
      refine Sy.call_r1 ⟨3, 1, (srcs (opsOf gl) i).length, (srcs (opsOf gl) i).map encI⟩ (fun j => .c (.row j)) Tryz.call215 (fun e a w' h => sources_any (e.rv 0) gl i w' ⟨Sy.row_reads h (.inr rfl), fun o ho => Sy.later_in h (hr.2 o ho)⟩ hlen hi hg1) ?_
      ((repeat' first|refine Yo ?_|refine Y2 ?_ ?_|refine Y1 fun hh=>?_|exact Y0.mk);(all_goals (try conv => whnf)))
      ·exact Sy.fin_val (fun e => by rw [w1 (by omega) (by omega), if_pos (by omega)]; rfl)
      ·exact Sy.fin_val (fun e => by rw [w1 (by omega) (by omega), if_neg (by omega)]; rfl)
      ·exact Sy.fin_val (fun e => by rw [wrongE, if_pos ha, if_neg h0, if_neg (by omega), if_pos ⟨ht, by omega⟩]; rfl)
   ·exact Sy.fin_val (fun e => by rw [w1 (by omega) (by omega), if_pos (by omega)]; rfl)
   ·exact Sy.fin_val (fun e => by rw [w1 (by omega) (by omega), if_neg (by omega)]; rfl)
  ·((repeat' first|refine Yo ?_|refine Y2 ?_ ?_|refine Y1 fun hh=>?_|exact Y0.mk);(all_goals (try conv => whnf)))
   exact Sy.fin_val (fun e => by rw [wrongE, if_pos ha, if_pos hsk]; rfl)
 ·have hab : aloneB o.op i = false := decide_eq_false ha
  ((repeat' first|refine Yo ?_|refine Y2 ?_ ?_|refine Y1 fun hh=>?_|exact Y0.mk);(all_goals (try conv => whnf)))
  refine Sy.call_val (.c (.v (.bool false))) Tryz.call212 rfl (fun e a w' h => by have := alone_any o i w' (Sy.later_in h hoo); rw [hab] at this; exact this) ?_
  ((repeat' first|refine Yo ?_|refine Y2 ?_ ?_|refine Y1 fun hh=>?_|exact Y0.mk);(all_goals (try conv => whnf)))
  exact Sy.fin_val (fun e => by rw [wrongE, if_neg ha]; rfl)
def wideN (g : List Opr) (n : Nat) : Int := ((g.take n).map (·.width)).foldr (· + ·) 0
theorem foldr_add (l : List Int) (x : Int) : (l ++ [x]).foldr (· + ·) 0 = l.foldr (· + ·) 0 + x := by
 induction l with
 | nil => simp
 | cons y r ih => rw [List.cons_append, List.foldr_cons, List.foldr_cons, ih]; omega
theorem wideN_succ {g : List Opr} {n : Nat} {o : Opr} (h : g[n]? = some o) : wideN g (n + 1) = wideN g n + o.width := by
 obtain ⟨hn, he⟩ := List.getElem?_eq_some_iff.1 h
 unfold wideN
 rw [List.take_succ_eq_append_getElem hn, List.map_append, he]
 exact foldr_add _ _
theorem wideN_le {g : List Opr} : ∀ (n : Nat), goodTo g n → 0 ≤ wideN g n ∧ wideN g n ≤ 3 * n
 | 0, _ => by simp [wideN]
 |n + 1, h => by
  have ih := wideN_le n (h.mono (by omega))
  cases hg : g[n]? with
  |none =>
   have hl : g.length ≤ n := List.getElem?_eq_none_iff.1 hg
   have e : wideN g (n + 1) = wideN g n := by unfold wideN; rw [List.take_of_length_le (by omega), List.take_of_length_le hl]
   rw [e]; omega
  |some o =>
   have := h n o (by omega) hg
   rw [wideN_succ hg]
   obtain ⟨h1, h2, _⟩ := this
   omega
end Go.Proofs.YtgkkpefpbfadoaaGreat
