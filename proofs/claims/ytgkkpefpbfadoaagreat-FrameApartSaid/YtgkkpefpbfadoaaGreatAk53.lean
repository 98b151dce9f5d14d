/- Frame: the same messages. -/
import Derived.Test.YtgkkpefpbfadoaaGreatAk29
import Derived.Test.YtgkkpefpbfadoaaGreatAk12
namespace Go.Proofs.YtgkkpefpbfadoaaGreat
open Go Go.RowKit
open Sy (C SV V1 Blk St XD Els)
set_option maxRecDepth 10000
set_option maxHeartbeats 2000000 in
theorem equalP_any (u v : Value) (xs ys : List Plc) (w : World) (hx : XD.ok (fun b => b < w.heap.size) w ⟨u, 2, xs.length, xs.map encP⟩) (hy : XD.ok (fun b => b < w.heap.size) w ⟨v, 2, ys.length, ys.map encP⟩) :
  Calls Tryz.prog 35 #[u, v] w (Sy.Ret (.bool (decide (xs = ys))) w) := by
 have hl := ok_len hx
 have hl' := ok_len hy
 refine Sy.calls_of Sy.lv35 Sy.tab_ok Tryz.func35 rfl _ Tryz.ntmps35 [⟨u, 2, xs.length, xs.map encP⟩, ⟨v, 2, ys.length, ys.map encP⟩] [.c (.row 0), .c (.row 1)] rfl rfl rfl ⟨hx, hy, trivial⟩ ?_
 ((repeat' first|refine Y ?_|refine Y2 ?_ ?_|refine Y1 fun hh=>?_|exact Y0.mk);(all_goals (try conv => whnf)))
 ·refine Sy.loop_inv Sy.tab_ok (fun n : Nat => [(13, .c (.v (.int .i64 n)))]) (fun _ => []) (fun n => n ≤ xs.length ∧ ∀ i, i < n → xs[i]? = ys[i]?) (fun n => xs.length - n) 0 ⟨Nat.zero_le _, fun i hi => by omega⟩ ?_ (fun n hle => ?_)
  ·((repeat' (first|((conv => whnf);done)|((try conv => whnf);first|exact trivial|(refine And.intro ?_ ?_)|rfl|exact fun _ _ _ h=>h|exact fun _ _ _ _=>trivial)));(all_goals (try conv => whnf)))
  ·obtain ⟨hle, hpre⟩ := hle
   ((repeat' first|refine Y ?_|refine Y2 ?_ ?_|refine Y1 fun hh=>?_|exact Y0.mk);(all_goals (try conv => whnf)))
   ·have hlt : n < xs.length := by omega
    have h1 := List.getElem?_eq_getElem hlt
    have h2 := List.getElem?_eq_getElem (show n < ys.length by omega)
    generalize xs[n] = x at *
    generalize ys[n]'(by omega) = y at *
    all_goals (refine Sy.draw_go [] (by kernel_rfl) ?_; intro e0; conv => whnf)
    all_goals (refine zt 0 rfl ?_)
    all_goals (conv => whnf)
    all_goals (refine zt 1 rfl ?_)
    all_goals (conv => whnf)
    all_goals (refine zt 2 rfl ?_)
    all_goals (((repeat' first|refine Y ?_|refine Y2 ?_ ?_|refine Y1 fun hh=>?_|exact Y0.mk);(all_goals (try conv => whnf))))
    all_goals (refine zt 3 rfl ?_)
    all_goals (conv => whnf)
    all_goals (refine Sy.el_map x h1 ?_)
    all_goals (conv => whnf)
    all_goals (refine zt 4 rfl ?_)
    all_goals (conv => whnf)
    all_goals (refine zt 5 rfl ?_)
    all_goals (conv => whnf)
    all_goals (refine zt 6 rfl ?_)
    all_goals (((repeat' first|refine Y ?_|refine Y2 ?_ ?_|refine Y1 fun hh=>?_|exact Y0.mk);(all_goals (try conv => whnf))))
    all_goals (refine zt 7 rfl ?_)
    all_goals (conv => whnf)
    all_goals (refine Sy.el_map y h2 ?_)
    all_goals (conv => whnf)
    all_goals (refine zt 8 rfl ?_)
    all_goals (((repeat' first|refine Y ?_|refine Y2 ?_ ?_|refine Y1 fun hh=>?_|exact Y0.mk);(all_goals (try conv => whnf))))
    all_goals (refine zw ?_)
    all_goals (((repeat' first|refine Y ?_|refine Y2 ?_ ?_|refine Y1 fun hh=>?_|exact Y0.mk);(all_goals (try conv => whnf))))
    all_goals first
     | exact Sy.fin_val (fun e => congrArg Value.bool (decide_eq_false (lst_ne n h1 h2 (by rintro rfl; omega))).symm)
     | (refine ⟨n + 1, ⟨by omega, pre_succ h1 h2 (by cases x; cases y; simp_all) hpre⟩, by omega, ?_⟩; ((repeat' (first|((conv => whnf);done)|((try conv => whnf);first|exact trivial|(refine And.intro ?_ ?_)|rfl|exact fun _ _ _ h=>h|exact fun _ _ _ _=>trivial)));(all_goals (try conv => whnf))))
   ·exact Sy.fin_val (fun e => congrArg Value.bool (decide_eq_true (lst_eq n (by omega) (by omega) hpre)).symm)
 ·exact Sy.fin_val (fun e => congrArg Value.bool (decide_eq_false (by intro hh; subst hh; contradiction)).symm)
set_option maxHeartbeats 2000000 in
theorem equalR_any (u v : Value) (xs ys : List Rc) (w : World) (hx : XD.ok (fun b => b < w.heap.size) w ⟨u, 3, xs.length, xs.map encR⟩) (hy : XD.ok (fun b => b < w.heap.size) w ⟨v, 3, ys.length, ys.map encR⟩) :
  Calls Tryz.prog 90 #[u, v] w (Sy.Ret (.bool (decide (xs = ys))) w) := by
 have hl := ok_len hx
 have hl' := ok_len hy
 refine Sy.calls_of Sy.lv90 Sy.tab_ok Tryz.func90 rfl _ Tryz.ntmps90 [⟨u, 3, xs.length, xs.map encR⟩, ⟨v, 3, ys.length, ys.map encR⟩] [.c (.row 0), .c (.row 1)] rfl rfl rfl ⟨hx, hy, trivial⟩ ?_
 ((repeat' first|refine Y ?_|refine Y2 ?_ ?_|refine Y1 fun hh=>?_|exact Y0.mk);(all_goals (try conv => whnf)))
 ·refine Sy.loop_inv Sy.tab_ok (fun n : Nat => [(13, .c (.v (.int .i64 n)))]) (fun _ => []) (fun n => n ≤ xs.length ∧ ∀ i, i < n → xs[i]? = ys[i]?) (fun n => xs.length - n) 0 ⟨Nat.zero_le _, fun i hi => by omega⟩ ?_ (fun n hle => ?_)
  ·((repeat' (first|((conv => whnf);done)|((try conv => whnf);first|exact trivial|(refine And.intro ?_ ?_)|rfl|exact fun _ _ _ h=>h|exact fun _ _ _ _=>trivial)));(all_goals (try conv => whnf)))
  ·obtain ⟨hle, hpre⟩ := hle
   ((repeat' first|refine Y ?_|refine Y2 ?_ ?_|refine Y1 fun hh=>?_|exact Y0.mk);(all_goals (try conv => whnf)))
   ·have hlt : n < xs.length := by omega
    have h1 := List.getElem?_eq_getElem hlt
    have h2 := List.getElem?_eq_getElem (show n < ys.length by omega)
    generalize xs[n] = x at *
    generalize ys[n]'(by omega) = y at *
    all_goals (refine Sy.draw_go [] (by kernel_rfl) ?_; intro e0; conv => whnf)
    all_goals (refine zt 0 rfl ?_)
    all_goals (conv => whnf)
    all_goals (refine zt 1 rfl ?_)
    all_goals (conv => whnf)
    all_goals (refine zt 2 rfl ?_)
    all_goals (((repeat' first|refine Y ?_|refine Y2 ?_ ?_|refine Y1 fun hh=>?_|exact Y0.mk);(all_goals (try conv => whnf))))
    all_goals (refine zt 3 rfl ?_)
    all_goals (conv => whnf)
    all_goals (refine Sy.el_map x h1 ?_)
    all_goals (conv => whnf)
    all_goals (refine zt 4 rfl ?_)
    all_goals (conv => whnf)
    all_goals (refine zt 5 rfl ?_)
    all_goals (conv => whnf)
    all_goals (refine zt 6 rfl ?_)
    all_goals (((repeat' first|refine Y ?_|refine Y2 ?_ ?_|refine Y1 fun hh=>?_|exact Y0.mk);(all_goals (try conv => whnf))))
    all_goals (refine zt 7 rfl ?_)
    all_goals (conv => whnf)
    all_goals (refine Sy.el_map y h2 ?_)
    all_goals (conv => whnf)
    all_goals (refine zt 8 rfl ?_)
    all_goals (((repeat' first|refine Y ?_|refine Y2 ?_ ?_|refine Y1 fun hh=>?_|exact Y0.mk);(all_goals (try conv => whnf))))
    all_goals (refine zw ?_)
    all_goals (((repeat' first|refine Y ?_|refine Y2 ?_ ?_|refine Y1 fun hh=>?_|exact Y0.mk);(all_goals (try conv => whnf))))
    all_goals first
     | exact Sy.fin_val (fun e => congrArg Value.bool (decide_eq_false (lst_ne n h1 h2 (by rintro rfl; omega))).symm)
     | (refine ⟨n + 1, ⟨by omega, pre_succ h1 h2 (by cases x; cases y; simp_all) hpre⟩, by omega, ?_⟩; ((repeat' (first|((conv => whnf);done)|((try conv => whnf);first|exact trivial|(refine And.intro ?_ ?_)|rfl|exact fun _ _ _ h=>h|exact fun _ _ _ _=>trivial)));(all_goals (try conv => whnf))))
   ·exact Sy.fin_val (fun e => congrArg Value.bool (decide_eq_true (lst_eq n (by omega) (by omega) hpre)).symm)
 ·exact Sy.fin_val (fun e => congrArg Value.bool (decide_eq_false (by intro hh; subst hh; contradiction)).symm)
theorem sameIn_any (x y : InpV) (w : World) (hx : IOk (fun b => b < w.heap.size) w x) (hy : IOk (fun b => b < w.heap.size) w y) :
  Calls Tryz.prog 34 #[.agg #[.int .i64 x.inp.src, x.rv], .agg #[.int .i64 y.inp.src, y.rv]] w (Sy.Ret (.bool (decide (x.inp = y.inp))) w) := by
 obtain ⟨⟨s, l⟩, u⟩ := x
 obtain ⟨⟨s', l'⟩, u'⟩ := y
 refine Sy.calls_of Sy.lv34 Sy.tab_ok Tryz.func34 rfl _ Tryz.ntmps34 [⟨u, 3, l.length, l.map encR⟩, ⟨u', 3, l'.length, l'.map encR⟩] [.agg [.v (.int .i64 s), .row 0], .agg [.v (.int .i64 s'), .row 1]] rfl rfl rfl ⟨hx, hy, trivial⟩ ?_
 ((repeat' first|refine Y ?_|refine Y2 ?_ ?_|refine Y1 fun hh=>?_|exact Y0.mk);(all_goals (try conv => whnf)))
 ·refine Sy.call_val (.c (.v (.bool (decide (l = l'))))) Tryz.call90 rfl (fun e a w' h => equalR_any (e.rv 0) (e.rv 1) l l' w' (Sy.row_reads h (.inr rfl)) (Sy.row_reads h (.inr rfl))) ?_
  ((repeat' first|refine Y ?_|refine Y2 ?_ ?_|refine Y1 fun hh=>?_|exact Y0.mk);(all_goals (try conv => whnf)))
  exact Sy.fin_val fun e => fbool (by simp [*])
 ·exact Sy.fin_val fun e => fbool (by simp [*])
set_option maxHeartbeats 2000000 in
theorem sameIns_any (u v : Value) (xs ys : List InpV) (w : World) (hx : XD.ok (fun b => b < w.heap.size) w ⟨u, 2, xs.length, xs.map encIV⟩) (hy : XD.ok (fun b => b < w.heap.size) w ⟨v, 2, ys.length, ys.map encIV⟩) (hxr : ∀ x ∈ xs, IOk (fun b => b < w.heap.size) w x) (hyr : ∀ x ∈ ys, IOk (fun b => b < w.heap.size) w x) :
  Calls Tryz.prog 33 #[u, v, .func (.func 34) #[] #[]] w (Sy.Ret (.bool (decide (insOf xs = insOf ys))) w) := by
 have hl := ok_len hx
 have hl' := ok_len hy
 have e1 := insOf_len xs
 have e2 := insOf_len ys
 refine Sy.calls_of Sy.lv33 Sy.tab_ok Tryz.func33 rfl _ Tryz.ntmps33 [⟨u, 2, xs.length, xs.map encIV⟩, ⟨v, 2, ys.length, ys.map encIV⟩] [.c (.row 0), .c (.row 1), .c (.v (.func (.func 34) #[] #[]))] rfl rfl rfl ⟨hx, hy, trivial⟩ ?_
 ((repeat' first|refine Y ?_|refine Y2 ?_ ?_|refine Y1 fun hh=>?_|exact Y0.mk);(all_goals (try conv => whnf)))
 ·refine Sy.loop_inv Sy.tab_ok (fun n : Nat => [(17, .c (.v (.int .i64 n)))]) (fun _ => []) (fun n => n ≤ xs.length ∧ ∀ i, i < n → (insOf xs)[i]? = (insOf ys)[i]?) (fun n => xs.length - n) 0 ⟨Nat.zero_le _, fun i hi => by omega⟩ ?_ (fun n hle => ?_)
  ·((repeat' (first|((conv => whnf);done)|((try conv => whnf);first|exact trivial|(refine And.intro ?_ ?_)|rfl|exact fun _ _ _ h=>h|exact fun _ _ _ _=>trivial)));(all_goals (try conv => whnf)))
  ·obtain ⟨hle, hpre⟩ := hle
   ((repeat' first|refine Y ?_|refine Y2 ?_ ?_|refine Y1 fun hh=>?_|exact Y0.mk);(all_goals (try conv => whnf)))
   ·have hlt : n < xs.length := by omega
    have h1 := List.getElem?_eq_getElem hlt
    have h2 := List.getElem?_eq_getElem (show n < ys.length by omega)
    have r1 := hxr _ (List.getElem_mem hlt)
    have r2 := hyr _ (List.getElem_mem (show n < ys.length by omega))
    generalize xs[n] = x at *
    generalize ys[n]'(by omega) = y at *
    have g1 := insOf_get h1
    have g2 := insOf_get h2
    refine Sy.el_map x h1 ?_
    ((repeat' first|refine Y ?_|refine Y2 ?_ ?_|refine Y1 fun hh=>?_|exact Y0.mk);(all_goals (try conv => whnf)))
    refine Sy.el_map y h2 ?_
    ((repeat' first|refine Y ?_|refine Y2 ?_ ?_|refine Y1 fun hh=>?_|exact Y0.mk);(all_goals (try conv => whnf)))
    refine Sy.call_val (.c (.v (.bool (decide (x.inp = y.inp))))) Tryz.call34 rfl (fun e a w' h => sameIn_any x y w' (Sy.later_in h r1) (Sy.later_in h r2)) ?_
    by_cases hq : x.inp = y.inp
    ·rw [decide_eq_true hq]
     ((repeat' first|refine Y ?_|refine Y2 ?_ ?_|refine Y1 fun hh=>?_|exact Y0.mk);(all_goals (try conv => whnf)))
     refine ⟨n + 1, ⟨by omega, pre_succ g1 g2 hq hpre⟩, by omega, ?_⟩
     ((repeat' (first|((conv => whnf);done)|((try conv => whnf);first|exact trivial|(refine And.intro ?_ ?_)|rfl|exact fun _ _ _ h=>h|exact fun _ _ _ _=>trivial)));(all_goals (try conv => whnf)))
    ·rw [decide_eq_false hq, show decide (insOf xs = insOf ys) = false from decide_eq_false (lst_ne n g1 g2 hq)]
     ((repeat' first|refine Y ?_|refine Y2 ?_ ?_|refine Y1 fun hh=>?_|exact Y0.mk);(all_goals (try conv => whnf)))
   ·exact Sy.fin_val (fun e => congrArg Value.bool (decide_eq_true (lst_eq n (by omega) (by omega) hpre)).symm)
 ·exact Sy.fin_val (fun e => congrArg Value.bool (decide_eq_false (by intro hh; rw [hh] at e1; omega)).symm)
def headEq (a b : MsgV) : Prop := a.kind = b.kind ∧ a.src = b.src ∧ a.dst = b.dst ∧ a.epoch = b.epoch ∧ a.att = b.att ∧ a.task = b.task ∧ a.num = b.num ∧ a.pkt = b.pkt
instance (a b : MsgV) : Decidable (headEq a b) := by unfold headEq; infer_instance
def laidEq (a b : MsgV) : Prop := opsOf a.gl = opsOf b.gl ∧ insOf a.il = insOf b.il ∧ a.pls = b.pls
instance (a b : MsgV) : Decidable (laidEq a b) := by unfold laidEq; infer_instance
theorem msg_eq (a b : MsgV) : a.msg = b.msg ↔ headEq a b ∧ laidEq a b ∧ a.snap = b.snap ∧ a.names = b.names ∧ a.up = b.up ∧ a.ended = b.ended := by
 unfold MsgV.msg headEq laidEq
 simp only [Msg.mk.injEq]
 constructor
 ·rintro ⟨h1, h2, h3, h4, h5, h6, h7, h8, h9, h10, h11, h12, h13, h14, h15⟩
  exact ⟨⟨h1, h2, h3, h4, h5, h6, h7, h15⟩, ⟨h8, h9, h10⟩, h11, h12, h13, h14⟩
 ·rintro ⟨⟨h1, h2, h3, h4, h5, h6, h7, h15⟩, ⟨h8, h9, h10⟩, h11, h12, h13, h14⟩
  exact ⟨h1, h2, h3, h4, h5, h6, h7, h8, h9, h10, h11, h12, h13, h14, h15⟩
theorem two_lt {n : Nat} {l l' : List C} (h : Sy.ltAll n l = true) (h' : Sy.ltAll n l' = true) : Sy.allLt n [.agg l, .agg l'] = true := by
 show (match Sy.ltAll n l with | true => (match Sy.ltAll n l' with | true => true | false => false) | false => false) = true
 rw [h, h']
set_option maxHeartbeats 8000000 in
theorem fsame_any (a b : MsgV) (w : World) (ha : MOk (fun b => b < w.heap.size) w a) (hb : MOk (fun b => b < w.heap.size) w b) :
  Calls Tryz.prog 14 #[.agg (encM a).toArray, .agg (encM b).toArray] w (Sy.Ret (.bool (decide (a.msg = b.msg))) w) := by
 refine Sy.calls_of Sy.lv14 Sy.tab_ok Tryz.func14 rfl _ Tryz.ntmps14 [] [.agg (cellsM C.v a fun i => .v (a.v i)), .agg (cellsM C.v b fun i => .v (b.v i))] rfl (two_lt (Sy.ltAll_v (msg_one ha)) (Sy.ltAll_v (msg_one hb))) rfl trivial ?_
 have hE := msg_eq a b
 ((repeat' first|refine Yc ?_|refine Y2 ?_ ?_|refine Y1 fun hh=>?_|exact Y0.mk);(all_goals (try conv => whnf)))
 refine Sy.cut_meet Sy.tab_ok (fun _ : Unit => [(5, .c (.v (.bool (decide (headEq a b)))))]) (fun _ => []) (fun _ => True) ?_ (fun _ _ => ?_)
 ·refine Sy.region_go Sy.tab_ok ?_
  ((repeat' first|refine Y ?_|refine Y2 ?_ ?_|refine Y1 fun hh=>?_|exact Y0.mk);(all_goals (try conv => whnf)))
  all_goals (refine ⟨(), trivial, ?_⟩; ((repeat' (first|((conv => whnf);done)|((try conv => whnf);first|exact trivial|(refine And.intro ?_ ?_)|rfl|exact fun _ _ _ h=>h|exact fun _ _ _ _=>trivial)));(all_goals (try conv => whnf))))
  all_goals exact fbool (by unfold headEq; rw [pk_iff]; simp [*, and_assoc])
 conv => whnf
 refine Sy.cut_meet Sy.tab_ok (fun _ : Unit => [(6, .c (.v (.bool (decide (laidEq a b)))))]) (fun _ => []) (fun _ => True) ?_ (fun _ _ => ?_)
 ·refine Sy.region_go Sy.tab_ok ?_
  ((repeat' first|refine Y ?_|refine Y2 ?_ ?_|refine Y1 fun hh=>?_|exact Y0.mk);(all_goals (try conv => whnf)))
  refine Sy.call_val (.c (.v (.bool (decide (opsOf a.gl = opsOf b.gl))))) Tryz.call32 rfl (fun e c w' h => gsame_any (a.v 0) (b.v 0) a.gl b.gl w' (MOk.later h ha).g (MOk.later h hb).g) ?_
  ((repeat' first|refine Y ?_|refine Y2 ?_ ?_|refine Y1 fun hh=>?_|exact Y0.mk);(all_goals (try conv => whnf)))
  ·refine Sy.call_val (.c (.v (.bool (decide (insOf a.il = insOf b.il))))) Tryz.call33 rfl (fun e c w' h => sameIns_any (a.v 1) (b.v 1) a.il b.il w' (MOk.later h ha).i (MOk.later h hb).i (MOk.later h ha).ir (MOk.later h hb).ir) ?_
   ((repeat' first|refine Y ?_|refine Y2 ?_ ?_|refine Y1 fun hh=>?_|exact Y0.mk);(all_goals (try conv => whnf)))
   ·refine Sy.call_val (.c (.v (.bool (decide (a.pls = b.pls))))) Tryz.call35 rfl (fun e c w' h => equalP_any (a.v 2) (b.v 2) a.pls b.pls w' (MOk.later h ha).p (MOk.later h hb).p) ?_
    ((repeat' first|refine Y ?_|refine Y2 ?_ ?_|refine Y1 fun hh=>?_|exact Y0.mk);(all_goals (try conv => whnf)))
    refine ⟨(), trivial, ?_⟩
    ((repeat' (first|((conv => whnf);done)|((try conv => whnf);first|exact trivial|(refine And.intro ?_ ?_)|rfl|exact fun _ _ _ h=>h|exact fun _ _ _ _=>trivial)));(all_goals (try conv => whnf)))
    all_goals exact fbool (by unfold laidEq; simp [*])
   all_goals (refine ⟨(), trivial, ?_⟩; ((repeat' (first|((conv => whnf);done)|((try conv => whnf);first|exact trivial|(refine And.intro ?_ ?_)|rfl|exact fun _ _ _ h=>h|exact fun _ _ _ _=>trivial)));(all_goals (try conv => whnf))))
   all_goals exact fbool (by unfold laidEq; simp [*])
  all_goals (refine ⟨(), trivial, ?_⟩; ((repeat' (first|((conv => whnf);done)|((try conv => whnf);first|exact trivial|(refine And.intro ?_ ?_)|rfl|exact fun _ _ _ h=>h|exact fun _ _ _ _=>trivial)));(all_goals (try conv => whnf))))
  all_goals exact fbool (by unfold laidEq; simp [*])
 conv => whnf
 ((repeat' first|refine Y ?_|refine Y2 ?_ ?_|refine Y1 fun hh=>?_|exact Y0.mk);(all_goals (try conv => whnf)))
 ·refine Sy.call_val (.c (.v (.bool (decide (a.snap = b.snap))))) Tryz.call36 rfl (fun e c w' h => Sn.same_any a.sv b.sv w' (MOk.later h ha).s (MOk.later h hb).s) ?_
  ((repeat' first|refine Y ?_|refine Y2 ?_ ?_|refine Y1 fun hh=>?_|exact Y0.mk);(all_goals (try conv => whnf)))
  ·refine Sy.call_val (.c (.v (.bool (decide (a.names = b.names))))) Tryz.call37 rfl (fun e c w' h => Sn.eqT_any (a.v 5) (b.v 5) a.names b.names w' (MOk.later h ha).n (MOk.later h hb).n) ?_
   ((repeat' first|refine Y ?_|refine Y2 ?_ ?_|refine Y1 fun hh=>?_|exact Y0.mk);(all_goals (try conv => whnf)))
   ·refine Sy.call_val (.c (.v (.bool (decide (a.up = b.up))))) Tryz.call38 rfl (fun e c w' h => equalI_any (a.v 6) (b.v 6) a.up b.up w' (MOk.later h ha).u (MOk.later h hb).u) ?_
    ((repeat' first|refine Y ?_|refine Y2 ?_ ?_|refine Y1 fun hh=>?_|exact Y0.mk);(all_goals (try conv => whnf)))
    ·refine Sy.call_val (.c (.v (.bool (decide (a.ended = b.ended))))) Tryz.call38 rfl (fun e c w' h => equalI_any (a.v 7) (b.v 7) a.ended b.ended w' (MOk.later h ha).e (MOk.later h hb).e) ?_
     ((repeat' first|refine Y ?_|refine Y2 ?_ ?_|refine Y1 fun hh=>?_|exact Y0.mk);(all_goals (try conv => whnf)))
     exact Sy.fin_val fun e => fbool (by rw [hE]; simp [*])
    exact Sy.fin_val fun e => fbool (by rw [hE]; simp [*])
   exact Sy.fin_val fun e => fbool (by rw [hE]; simp [*])
  exact Sy.fin_val fun e => fbool (by rw [hE]; simp [*])
 all_goals exact Sy.fin_val fun e => fbool (by rw [hE]; simp [*])
end Go.Proofs.YtgkkpefpbfadoaaGreat
