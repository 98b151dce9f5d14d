/- Graph: which graphs are the same. -/
import Derived.Test.YtgkkpefpbfadoaaGreatDk9
import Derived.Test.YtgkkpefpbfadoaaGreatDk11
import Derived.Shelf.Small.Bits
import Derived.Shelf.Small.Wraps
import Derived.Shelf.Strconv.Itoa0
import Derived.Shelf.Sort.Plain
import Derived.Shelf.Slices.Equal
import Derived.Ground.Names2Prog
import Derived.Shelf.Slices.CompactI
import Derived.Shelf.Slices.SearchI
import Derived.Shelf.Slices.Cells
import Derived.Shelf.Slices.In.SortNone
import Derived.Shelf.Slices.Empties2
import Derived.Shelf.Bytes.SlSearch0
import Derived.Ground.SlbCloneProg
import Derived.Shelf.Bytes.SlClone
import Derived.Shelf.Bytes.SlEqualAll
import Derived.Shelf.Bytes.Small
import Derived.Test.YtgkkpefpbfadoaaGreatProg
import Derived.Test.YtgkkpefpbfadoaaGreatDk10
import Derived.Sort.OwnSortedInts
namespace Go.Proofs.YtgkkpefpbfadoaaGreat
open Go Go.RowKit
open Sy (C SV V1 Blk St XD Els)
set_option maxRecDepth 10000
theorem equalI_any (u v:Value)(xs ys:List Int)(w:World)(hx:XD.ok (fun b=>b<w.heap.size) w ⟨u,1,xs.length,xs.map encI⟩)(hy:XD.ok (fun b=>b<w.heap.size) w ⟨v,1,ys.length,ys.map encI⟩):
 Calls Tryz.prog 38 #[u,v] w (Sy.Ret (.bool (decide (xs=ys))) w):=by
 have hl:=ok_len hx
 have hl':=ok_len hy
 refine Sy.calls_of Sy.lv38 Sy.tab_ok Tryz.func38 rfl _ Tryz.ntmps38 [⟨u,1,xs.length,xs.map encI⟩,⟨v,1,ys.length,ys.map encI⟩] [.c (.row 0),.c (.row 1)] rfl rfl rfl ⟨hx,hy,trivial⟩ (V (Vj (fun hh=>?_) fun hh=>?_))
 ·refine Sy.loop_inv Sy.tab_ok (fun n:Nat=>[(13,.c (.v (.int .i64 n)))]) (fun _=>[]) (fun n=>n<=xs.length/\∀i,i<n->xs[i]?=ys[i]?) (fun n=>xs.length-n) 0 ⟨Nat.zero_le _,fun i hi=>by omega⟩ ?_ (fun n hle=>?_)
  ·exact Vs0
  ·obtain⟨hle,hpre⟩:=hle
   refine V (Vj (fun hh=>?_) fun hh=>?_)
   ·have hlt:n<xs.length:=by omega
    have h1:=List.getElem?_eq_getElem hlt
    have h2:=List.getElem?_eq_getElem (show n<ys.length by omega)
    generalize xs[n]=x at *
    generalize ys[n]'(by omega)=y at *
    all_goals(refine Sy.draw_go [] (by kernel_rfl) ?_;intro e0;conv=>whnf)
    all_goals(refine zt 0 rfl ?_)
    all_goals(conv=>whnf)
    all_goals(refine zt 1 rfl ?_)
    all_goals(conv=>whnf)
    all_goals(refine zt 2 rfl ?_)
    all_goals(refine V ?_)
    all_goals(refine zt 3 rfl ?_)
    all_goals(conv=>whnf)
    all_goals(refine Sy.el_map x h1 ?_)
    all_goals(conv=>whnf)
    all_goals(refine zt 4 rfl ?_)
    all_goals(conv=>whnf)
    all_goals(refine zt 5 rfl ?_)
    all_goals(conv=>whnf)
    all_goals(refine zt 6 rfl ?_)
    all_goals(refine V ?_)
    all_goals(refine zt 7 rfl ?_)
    all_goals(conv=>whnf)
    all_goals(refine Sy.el_map y h2 ?_)
    all_goals(conv=>whnf)
    all_goals(refine zt 8 rfl ?_)
    all_goals(refine V ?_)
    all_goals(refine zw ?_)
    all_goals(refine V (Vj (fun hh=>?_) fun hh=>?_))
    all_goals first
     |exact Sy.fin_val (fun e=>congrArg Value.bool (decide_eq_false (lst_ne n h1 h2 (by assumption))).symm)
     |(refine⟨n+1,⟨by omega,pre_succ h1 h2 (by assumption) hpre⟩,by omega,?_⟩;exact Vs0)
   ·exact Sy.fin_val (fun e=>congrArg Value.bool (decide_eq_true (lst_eq n (by omega) (by omega) hpre)).symm)
 ·exact Sy.fin_val (fun e=>congrArg Value.bool (decide_eq_false (by intro hh;subst hh;contradiction)).symm)
set_option maxHeartbeats 1000000 in
theorem sameOp_any (x y:OpV)(w:World)(hx:OOk (fun b=>b<w.heap.size) w x)(hy:OOk (fun b=>b<w.heap.size) w y):
 Calls Tryz.prog 89 #[.agg #[.int .i64 x.op.tag,.int .i64 x.op.width,x.iv,.int .i64 x.op.a,.int .i64 x.op.b],.agg #[.int .i64 y.op.tag,.int .i64 y.op.width,y.iv,.int .i64 y.op.a,.int .i64 y.op.b]] w (Sy.Ret (.bool (decide (x.op=y.op))) w):=by
 obtain⟨⟨t1,w1,l1,a1,b1⟩,v1⟩:=x
 obtain⟨⟨t2,w2,l2,a2,b2⟩,v2⟩:=y
 have hx:XD.ok (fun b=>b<w.heap.size) w ⟨v1,1,l1.length,l1.map encI⟩:=hx
 have hy:XD.ok (fun b=>b<w.heap.size) w ⟨v2,1,l2.length,l2.map encI⟩:=hy
 refine Sy.calls_of Sy.lv89 Sy.tab_ok Tryz.func89 rfl _ Tryz.ntmps89 [⟨v1,1,l1.length,l1.map encI⟩,⟨v2,1,l2.length,l2.map encI⟩] [.agg [.v (.int .i64 t1),.v (.int .i64 w1),.row 0,.v (.int .i64 a1),.v (.int .i64 b1)],.agg [.v (.int .i64 t2),.v (.int .i64 w2),.row 1,.v (.int .i64 a2),.v (.int .i64 b2)]] rfl rfl rfl ⟨hx,hy,trivial⟩ ?_
 ((repeat' first|refine Y ?_|refine Y2 ?_ ?_|refine Y1 fun hh=>?_|exact Y0.mk);(all_goals(try conv=>whnf)))
 any_goals(exact Sy.fin_val (fun e=>congrArg Value.bool (by rw[eq_comm];refine decide_eq_false (fun h=>?_);injection h;first|omega|contradiction)))
 refine Sy.call_val (.c (.v (.bool (decide (l1=l2))))) Tryz.call38 rfl (fun e a w' h=>equalI_any (e.rv 0) (e.rv 1) l1 l2 w' (Sy.row_reads h (.inr rfl)) (Sy.row_reads h (.inr rfl))) (V ?_)
 exact Sy.fin_val (fun e=>congrArg Value.bool (decide_eq_decide.2 ⟨fun h=>by subst h;simp[*],fun h=>by injection h⟩))
theorem opN_get {xs:List OpV}{n:Nat}{x:OpV}(h:xs[n]?=some x):(opsOf xs)[n]?=some x.op:=by simp[opsOf,h]
set_option maxHeartbeats 1000000 in
theorem gsame_any (u v:Value)(xs ys:List OpV)(w:World)(hx:GOk (fun b=>b<w.heap.size) w u xs)(hy:GOk (fun b=>b<w.heap.size) w v ys):
 Calls Tryz.prog 32 #[.agg #[u],.agg #[v]] w (Sy.Ret (.bool (decide (opsOf xs=opsOf ys))) w):=by
 have hl:=ok_len hx.1
 have hl':=ok_len hy.1
 refine Sy.calls_of Sy.lv32 Sy.tab_ok Tryz.func32 rfl _ Tryz.ntmps32 [⟨u,5,xs.length,xs.map encOV⟩,⟨v,5,ys.length,ys.map encOV⟩] [.agg [.row 0],.agg [.row 1]] rfl rfl rfl ⟨hx.1,hy.1,trivial⟩ (V ?_)
 refine Sy.call_in Sy.lv88 Sy.tab_ok Tryz.func88 rfl _ Tryz.ntmps88 Tryz.call88 rfl (fun _=>?_)
 refine V (Vj (fun hh=>?_) fun hh=>?_)
 ·refine Sy.loop_inv Sy.tab_ok (fun n:Nat=>[(17,.c (.v (.int .i64 n)))]) (fun _=>[]) (fun n=>n<=xs.length/\∀i,i<n->(opsOf xs)[i]?=(opsOf ys)[i]?) (fun n=>xs.length-n) 0 ⟨Nat.zero_le _,fun i hi=>by omega⟩ ?_ (fun n hle=>?_)
  ·exact Vs0
  ·obtain⟨hle,hpre⟩:=hle
   refine Vc (Vj (fun hh=>?_) fun hh=>?_)
   ·have hlt:n<xs.length:=by omega
    have h1:=List.getElem?_eq_getElem hlt
    have h2:=List.getElem?_eq_getElem (show n<ys.length by omega)
    generalize xs[n]=x at *
    generalize ys[n]'(by omega)=y at *
    refine Sy.el_map x h1 (V ?_)
    refine Sy.el_map y h2 (V ?_)
    refine Sy.call_val (.c (.v (.bool (decide (x.op=y.op))))) Tryz.call89 rfl (fun e a w' h=>sameOp_any x y w' (Sy.later_in h (hx.at h1)) (Sy.later_in h (hy.at h2))) (V (Vj (fun hh=>?_) fun hh=>?_))
    ·refine⟨n+1,⟨by omega,pre_succ (opN_get h1) (opN_get h2) (by assumption) hpre⟩,by omega,?_⟩
     exact Vs0
    ·exact Sy.fin_val (fun e=>congrArg Value.bool (decide_eq_false (lst_ne n (opN_get h1) (opN_get h2) (by assumption))).symm)
   ·exact Sy.fin_val (fun e=>congrArg Value.bool (decide_eq_true (lst_eq n (by rw[opsOf_len];omega) (by rw[opsOf_len,opsOf_len];omega) hpre)).symm)
 ·exact Sy.fin_val (fun e=>congrArg Value.bool (decide_eq_false (by intro hh;have:=congrArg List.length hh;rw[opsOf_len,opsOf_len] at this;omega)).symm)
set_option maxHeartbeats 4000000 in
theorem rsame_any (u v:Value)(xs ys:List OpV)(w:World)(hx:GOk (fun b=>b<w.heap.size) w u xs)(hy:GOk (fun b=>b<w.heap.size) w v ys):
 Calls Tryz.prog 47 #[.agg #[u],.agg #[v]] w (Sy.Ret (.bool (decide (opsOf xs=opsOf ys))) w):=by
 have hl:=ok_len hx.1
 have hl':=ok_len hy.1
 refine Sy.calls_of Sy.lv47 Sy.tab_ok Tryz.func47 rfl _ Tryz.ntmps47 [⟨u,5,xs.length,xs.map encOV⟩,⟨v,5,ys.length,ys.map encOV⟩] [.agg [.row 0],.agg [.row 1]] rfl rfl rfl ⟨hx.1,hy.1,trivial⟩ (V (Vj (fun hh=>?_) fun hh=>?_))
 ·refine Sy.loop_inv Sy.tab_ok (fun n:Nat=>[(19,.c (.v (.int .i64 n)))]) (fun _=>[]) (fun n=>n<=xs.length/\∀i,i<n->(opsOf xs)[i]?=(opsOf ys)[i]?) (fun n=>xs.length-n) 0 ⟨Nat.zero_le _,fun i hi=>by omega⟩ ?_ (fun n hle=>?_)
  ·exact Vs0
  ·obtain⟨hle,hpre⟩:=hle
   refine Vc (Vj (fun hh=>?_) fun hh=>?_)
   ·have hlt:n<xs.length:=by omega
    have h1:=List.getElem?_eq_getElem hlt
    have h2:=List.getElem?_eq_getElem (show n<ys.length by omega)
    generalize xs[n]=x at *
    generalize ys[n]'(by omega)=y at *
    have hxo:=hx.at h1
    have hyo:=hy.at h2
    have hlx:=ok_len hxo
    have hne:x.op≠y.op->opsOf xs≠opsOf ys:=fun h=>lst_ne n (opN_get h1) (opN_get h2) h
    have hsc:=fun h=>pre_succ (opN_get h1) (opN_get h2) h hpre
    refine zv ?_
    all_goals(refine Sy.draw_go [4,5] (by kernel_rfl) ?_;intro e0;conv=>whnf)
    all_goals(refine zt 0 rfl ?_)
    all_goals(conv=>whnf)
    all_goals(refine zt 1 rfl ?_)
    all_goals(conv=>whnf)
    all_goals(refine zt 2 rfl ?_)
    all_goals(conv=>whnf)
    all_goals(refine zt 3 rfl ?_)
    all_goals(refine V ?_)
    all_goals(refine zt 4 rfl ?_)
    all_goals(conv=>whnf)
    all_goals(refine Sy.el_map x h1 ?_)
    all_goals(conv=>whnf)
    all_goals(refine zt 5 rfl ?_)
    all_goals(conv=>whnf)
    all_goals(refine zt 6 rfl ?_)
    all_goals(conv=>whnf)
    all_goals(refine zt 7 rfl ?_)
    all_goals(conv=>whnf)
    all_goals(refine zt 8 rfl ?_)
    all_goals(refine V ?_)
    all_goals(refine zt 9 rfl ?_)
    all_goals(conv=>whnf)
    all_goals(refine Sy.el_map y h2 ?_)
    all_goals(conv=>whnf)
    all_goals(focus
     refine zd1 [10,11] (zx rfl ?_ (zx rfl ?_ zy))
     focus
      conv=>whnf
      all_goals(refine Yk ?_)
      all_goals(refine zd1 [11] (zx rfl ?_ zy))
      all_goals(conv=>whnf)
      all_goals(refine Yk ?_)
      all_goals(refine zd1 [12] (zx rfl ?_ zy))
      all_goals(conv=>whnf)
      all_goals(refine Yk ?_)
      all_goals(refine zd1 [13] (zx rfl ?_ zy))
      all_goals(conv=>whnf)
      all_goals(refine Yk ?_)
      all_goals(refine zw ?_)
      skip
     rotate_right
     focus
      conv=>whnf
      all_goals(refine Yk ?_)
      all_goals(refine zd1 [10] (zx rfl ?_ zy))
      all_goals(conv=>whnf)
      all_goals(refine Yk ?_)
      all_goals(refine zd1 [12] (zx rfl ?_ zy))
      all_goals(conv=>whnf)
      all_goals(refine Yk ?_)
      all_goals(refine zd1 [13] (zx rfl ?_ zy))
      all_goals(conv=>whnf)
      all_goals(refine Yk ?_)
      all_goals(refine zw ?_)
      skip)
    all_goals((repeat' first|refine Yo ?_|refine Y2 ?_ ?_|refine Y1 fun hh=>?_|exact Y0.mk);(all_goals(try conv=>whnf)))
    any_goals(exact Sy.fin_val (fun e=>congrArg Value.bool (decide_eq_false (hne (opr_ne (by omega)))).symm))
    all_goals(refine open_x _ _ _ (hxo) (fun _ h=>h) ?_;refine Vo ?_)
    all_goals(refine open_x _ _ _ (hyo) (fun _ h=>h) ?_;refine Vo (Vj (fun hh=>?_) fun hh=>?_))
    any_goals(exact Sy.fin_val (fun e=>congrArg Value.bool (decide_eq_false (hne (opr_ne (.inr (.inr (.inl (fun h=>by have:=congrArg List.length h;omega))))))).symm))
    ·refine open_x _ _ _ (hxo) (fun _ h=>h) (Vo ?_)
     (refine open_c 5 2 _ _ _ rfl rfl (hxo) (fun _ h=>h) ?_);(conv=>whnf)
     (refine open_c 4 2 _ _ _ rfl rfl (hyo) (fun _ h=>h) ?_);(conv=>whnf)
     refine Sy.loop_inv Sy.tab_ok (fun m:Nat=>[(70,.c (.v (.int .i64 m)))]) (fun _=>[]) (fun m=>m<=x.op.ins.length/\∀i,i<m->x.op.ins[i]?=y.op.ins[i]?) (fun m=>x.op.ins.length-m) 0 ⟨Nat.zero_le _,fun i hi=>absurd hi (Nat.not_lt_zero _)⟩ ?_ (fun m hm=>?_)
     ·exact Vs0
     ·obtain⟨hm,hpre2⟩:=hm
      refine Vc (Vj (fun hh=>?_) fun hh=>?_)
      ·have hlt2:m<x.op.ins.length:=by omega
       have g1:=List.getElem?_eq_getElem hlt2
       have g2:=List.getElem?_eq_getElem (show m<y.op.ins.length by omega)
       generalize x.op.ins[m]=p at *
       generalize y.op.ins[m]'(by omega)=q at *
       refine zv ?_
       all_goals(refine Sy.draw_go [] (by kernel_rfl) ?_;intro e0;conv=>whnf)
       all_goals(refine zt 0 rfl ?_)
       all_goals(conv=>whnf)
       all_goals(refine zt 1 rfl ?_)
       all_goals(conv=>whnf)
       all_goals(refine zt 2 rfl ?_)
       all_goals(conv=>whnf)
       all_goals(refine zt 3 rfl ?_)
       all_goals(refine V ?_)
       all_goals(refine zt 4 rfl ?_)
       all_goals(conv=>whnf)
       all_goals(refine Sy.el_map p g1 ?_)
       all_goals(conv=>whnf)
       all_goals(refine zt 5 rfl ?_)
       all_goals(conv=>whnf)
       all_goals(refine zt 6 rfl ?_)
       all_goals(conv=>whnf)
       all_goals(refine zt 7 rfl ?_)
       all_goals(conv=>whnf)
       all_goals(refine zt 8 rfl ?_)
       all_goals(refine V ?_)
       all_goals(refine zt 9 rfl ?_)
       all_goals(conv=>whnf)
       all_goals(refine Sy.el_map q g2 ?_)
       all_goals(conv=>whnf)
       all_goals(refine zt 10 rfl ?_)
       all_goals(refine V ?_)
       all_goals(refine zw ?_)
       all_goals(refine V (Vj (fun hh=>?_) fun hh=>?_))
       all_goals first
        |exact Sy.fin_val (fun e=>congrArg Value.bool (decide_eq_false (hne (opr_ne (.inr (.inr (.inl (lst_ne m g1 g2 (by assumption)))))))).symm)
        |(refine⟨m+1,⟨by omega,pre_succ g1 g2 (by assumption) hpre2⟩,by omega,?_⟩;exact Vs0)
      ·have e3:x.op.ins=y.op.ins:=lst_eq m (by omega) (by omega) hpre2
       refine⟨n+1,⟨by omega,hsc (opr_ext (by assumption) (by assumption) e3 (by assumption) (by assumption))⟩,by omega,?_⟩
       exact Vs0
    ·refine open_x _ _ _ (hxo) (fun _ h=>h) (Vo ?_)
     (refine open_c 4 2 _ _ _ rfl rfl (hxo) (fun _ h=>h) ?_);(conv=>whnf)
     (refine open_c 5 2 _ _ _ rfl rfl (hyo) (fun _ h=>h) ?_);(conv=>whnf)
     refine Sy.loop_inv Sy.tab_ok (fun m:Nat=>[(70,.c (.v (.int .i64 m)))]) (fun _=>[]) (fun m=>m<=x.op.ins.length/\∀i,i<m->x.op.ins[i]?=y.op.ins[i]?) (fun m=>x.op.ins.length-m) 0 ⟨Nat.zero_le _,fun i hi=>absurd hi (Nat.not_lt_zero _)⟩ ?_ (fun m hm=>?_)
     ·exact Vs0
     ·obtain⟨hm,hpre2⟩:=hm
      refine Vc (Vj (fun hh=>?_) fun hh=>?_)
      ·have hlt2:m<x.op.ins.length:=by omega
       have g1:=List.getElem?_eq_getElem hlt2
       have g2:=List.getElem?_eq_getElem (show m<y.op.ins.length by omega)
       generalize x.op.ins[m]=p at *
       generalize y.op.ins[m]'(by omega)=q at *
       refine zv ?_
       all_goals(refine Sy.draw_go [] (by kernel_rfl) ?_;intro e0;conv=>whnf)
       all_goals(refine zt 0 rfl ?_)
       all_goals(conv=>whnf)
       all_goals(refine zt 1 rfl ?_)
       all_goals(conv=>whnf)
       all_goals(refine zt 2 rfl ?_)
       all_goals(conv=>whnf)
       all_goals(refine zt 3 rfl ?_)
       all_goals(refine V ?_)
       all_goals(refine zt 4 rfl ?_)
       all_goals(conv=>whnf)
       all_goals(refine Sy.el_map p g1 ?_)
       all_goals(conv=>whnf)
       all_goals(refine zt 5 rfl ?_)
       all_goals(conv=>whnf)
       all_goals(refine zt 6 rfl ?_)
       all_goals(conv=>whnf)
       all_goals(refine zt 7 rfl ?_)
       all_goals(conv=>whnf)
       all_goals(refine zt 8 rfl ?_)
       all_goals(refine V ?_)
       all_goals(refine zt 9 rfl ?_)
       all_goals(conv=>whnf)
       all_goals(refine Sy.el_map q g2 ?_)
       all_goals(conv=>whnf)
       all_goals(refine zt 10 rfl ?_)
       all_goals(refine V ?_)
       all_goals(refine zw ?_)
       all_goals(refine V (Vj (fun hh=>?_) fun hh=>?_))
       all_goals first
        |exact Sy.fin_val (fun e=>congrArg Value.bool (decide_eq_false (hne (opr_ne (.inr (.inr (.inl (lst_ne m g1 g2 (by assumption)))))))).symm)
        |(refine⟨m+1,⟨by omega,pre_succ g1 g2 (by assumption) hpre2⟩,by omega,?_⟩;exact Vs0)
      ·have e3:x.op.ins=y.op.ins:=lst_eq m (by omega) (by omega) hpre2
       refine⟨n+1,⟨by omega,hsc (opr_ext (by assumption) (by assumption) e3 (by assumption) (by assumption))⟩,by omega,?_⟩
       exact Vs0
   ·exact Sy.fin_val (fun e=>congrArg Value.bool (decide_eq_true (lst_eq n (by rw[opsOf_len];omega) (by rw[opsOf_len,opsOf_len];omega) hpre)).symm)
 ·exact Sy.fin_val (fun e=>congrArg Value.bool (decide_eq_false (by intro hh;have:=congrArg List.length hh;rw[opsOf_len,opsOf_len] at this;omega)).symm)
end Go.Proofs.YtgkkpefpbfadoaaGreat
namespace Go.Proofs
open Go.Shelf
def Tryz.lays189_ren:Go.Shelf.Ren:=⟨fun|189=>204|125=>222|257=>221|128=>240|129=>241|294=>231|295=>232|296=>233|297=>234|298=>235|299=>236|216=>237|300=>238|301=>239|328=>245|329=>246|330=>247|331=>248|332=>249|215=>183|343=>251|n=>n,fun|28=>40|3=>3|46=>136|0=>0|51=>41|53=>22|4=>4|183=>254|182=>253|131=>177|5=>5|9=>9|218=>263|222=>266|228=>268|229=>269|n=>n,fun|n=>n⟩
theorem Tryz.lays189:Go.Proofs.Lays.n189 Tryz.prog Tryz.lays189_ren:={
 mixed:=by kernel_rfl
 f125:=Tryz.func222.trans (congrArg some (by kernel_rfl))
 f128:=Tryz.func240.trans (congrArg some (by kernel_rfl))
 f129:=Tryz.func241.trans (congrArg some (by kernel_rfl))
 f189:=Tryz.func204.trans (congrArg some (by kernel_rfl))
 f215:=Tryz.func183.trans (congrArg some (by kernel_rfl))
 f216:=Tryz.func237.trans (congrArg some (by kernel_rfl))
 f257:=Tryz.func221.trans (congrArg some (by kernel_rfl))
 f294:=Tryz.func231.trans (congrArg some (by kernel_rfl))
 f295:=Tryz.func232.trans (congrArg some (by kernel_rfl))
 f296:=Tryz.func233.trans (congrArg some (by kernel_rfl))
 f297:=Tryz.func234.trans (congrArg some (by kernel_rfl))
 f298:=Tryz.func235.trans (congrArg some (by kernel_rfl))
 f299:=Tryz.func236.trans (congrArg some (by kernel_rfl))
 f300:=Tryz.func238.trans (congrArg some (by kernel_rfl))
 f301:=Tryz.func239.trans (congrArg some (by kernel_rfl))
 f328:=Tryz.func245.trans (congrArg some (by kernel_rfl))
 f329:=Tryz.func246.trans (congrArg some (by kernel_rfl))
 f330:=Tryz.func247.trans (congrArg some (by kernel_rfl))
 f331:=Tryz.func248.trans (congrArg some (by kernel_rfl))
 f332:=Tryz.func249.trans (congrArg some (by kernel_rfl))
 f343:=Tryz.func251.trans (congrArg some (by kernel_rfl))
 t0:=Tryz.underlying0
 a0:=Tryz.isAgg0
 z0:=Tryz.sizeOf0
 v0:=Tryz.zeroValue0
 t3:=Tryz.underlying3
 a3:=Tryz.isAgg3
 z3:=Tryz.sizeOf3
 v3:=Tryz.zeroValue3
 t4:=Tryz.underlying4
 a4:=Tryz.isAgg4
 z4:=Tryz.sizeOf4
 v4:=Tryz.zeroValue4
 t5:=Tryz.underlying5
 a5:=Tryz.isAgg5
 z5:=Tryz.sizeOf5
 v5:=Tryz.zeroValue5
 t9:=Tryz.underlying9
 a9:=Tryz.isAgg9
 z9:=Tryz.sizeOf9
 v9:=Tryz.zeroValue9
 t28:=Tryz.underlying40
 a28:=Tryz.isAgg40
 z28:=Tryz.sizeOf40
 v28:=Tryz.zeroValue40
 t46:=Tryz.underlying136
 a46:=Tryz.isAgg136
 z46:=Tryz.sizeOf136
 v46:=Tryz.zeroValue136
 t51:=Tryz.underlying41
 a51:=Tryz.isAgg41
 z51:=Tryz.sizeOf41
 v51:=Tryz.zeroValue41
 t53:=Tryz.underlying22
 a53:=Tryz.isAgg22
 z53:=Tryz.sizeOf22
 v53:=Tryz.zeroValue22
 t131:=Tryz.underlying177
 a131:=Tryz.isAgg177
 z131:=Tryz.sizeOf177
 v131:=Tryz.zeroValue177
 t182:=Tryz.underlying253
 a182:=Tryz.isAgg253
 z182:=Tryz.sizeOf253
 v182:=Tryz.zeroValue253
 t183:=Tryz.underlying254
 a183:=Tryz.isAgg254
 z183:=Tryz.sizeOf254
 v183:=Tryz.zeroValue254
 t218:=Tryz.underlying263
 a218:=Tryz.isAgg263
 z218:=Tryz.sizeOf263
 v218:=Tryz.zeroValue263
 t222:=Tryz.underlying266
 a222:=Tryz.isAgg266
 z222:=Tryz.sizeOf266
 v222:=Tryz.zeroValue266
 t228:=Tryz.underlying268
 a228:=Tryz.isAgg268
 z228:=Tryz.sizeOf268
 v228:=Tryz.zeroValue268
 t229:=Tryz.underlying269
 a229:=Tryz.isAgg269
 z229:=Tryz.sizeOf269
 v229:=Tryz.zeroValue269}
open Go.Sort Go.RowKit in
theorem Tryz.slices_Sort_int (blk off cap:Nat)(zs:List Int)(w:World)(hH:Holds (Value.int .i64) w blk off zs.toArray)(hblk:blk<w.heap.size)(hsz:zs.length<4611686018427387904):
 Calls Tryz.prog 204 #[.slice (some ⟨blk,off,none⟩) zs.length cap] w fun e w'=>
  e=.returned (.tuple #[])/\∃n os,w'=grow (putRow (Value.int .i64) (Sort.ahead w n) blk off (zs.mergeSort fun x y=>decide (x<=y)).toArray) os:=Any.slices_Sort_int Tryz.lays189 blk off cap zs w hH hblk hsz
def Tryz.laysNm220_ren:Go.Shelf.Ren:=⟨fun|20=>243|n=>n,fun|22=>40|3=>3|4=>4|0=>0|n=>n,fun|n=>n⟩
theorem Tryz.laysNm220:Go.Proofs.Lays2.n20 Tryz.prog Tryz.laysNm220_ren:={
 mixed:=by kernel_rfl
 f20:=Tryz.func243.trans (congrArg some (by kernel_rfl))
 t0:=Tryz.underlying0
 a0:=Tryz.isAgg0
 z0:=Tryz.sizeOf0
 v0:=Tryz.zeroValue0
 t3:=Tryz.underlying3
 a3:=Tryz.isAgg3
 z3:=Tryz.sizeOf3
 v3:=Tryz.zeroValue3
 t4:=Tryz.underlying4
 a4:=Tryz.isAgg4
 z4:=Tryz.sizeOf4
 v4:=Tryz.zeroValue4
 t22:=Tryz.underlying40
 a22:=Tryz.isAgg40
 z22:=Tryz.sizeOf40
 v22:=Tryz.zeroValue40
 i3:=by kernel_rfl}
open Go.RowKit Go.Lib Go.Sort in
theorem Tryz.slices_Compact_int (blk off cap:Nat)(zs:List Int)(w:World)(hH:Holds (Value.int .i64) w blk off zs.toArray)(hsz:zs.length<=9223372036854775807)(hcap:zs.length<=cap):
 Calls Tryz.prog 243 #[.slice (some ⟨blk,off,none⟩) zs.length cap] w fun e w'=>e=.returned (.slice (some ⟨blk,off,none⟩) (Lib.compact zs).length cap)/\∃q,w'=putRow (Value.int .i64) (Sort.ahead w q) blk off (Lib.compact zs++List.replicate (zs.length-(Lib.compact zs).length) 0).toArray:=Any.slices_Compact_int Tryz.laysNm220 blk off cap zs w hH hsz hcap
open Go.RowKit Go.Lib Go.Sort in
theorem Tryz.slices_Compact_int_empty (a:Option Addr)(cap:Nat)(w:World):
 Calls Tryz.prog 243 #[.slice a 0 cap] w fun e w'=>e=.returned (.slice a 0 cap)/\w'=w:=Any.slices_Compact_int_empty Tryz.laysNm220 a cap w
open Go.RowKit Go.Sort in
theorem Tryz.slices_Sort_int_none (p:Option Addr)(cap:Nat)(w:World):
 Calls Tryz.prog 204 #[.slice p 0 cap] w fun e w'=>e=.returned (.tuple #[])/\w'=w:=Any.slices_Sort_int_none Tryz.lays189 p cap w
def Tryz.lays115_ren:Go.Shelf.Ren:=⟨fun|115=>53|n=>n,fun|37=>52|4=>4|9=>9|5=>5|n=>n,fun|n=>n⟩
def Tryz.laysnb115_ren:Go.Shelf.Ren:=⟨fun|115=>53|n=>n,fun|37=>52|4=>4|9=>9|5=>5|n=>n,fun|n=>n⟩
theorem Tryz.laysnb115:Go.Proofs.Lays.nb115 Tryz.prog Tryz.laysnb115_ren:={
 mixed:=by kernel_rfl
 f115:=Tryz.func53.trans (congrArg some (by kernel_rfl))
 t4:=Tryz.underlying4
 a4:=Tryz.isAgg4
 z4:=Tryz.sizeOf4
 v4:=Tryz.zeroValue4
 t9:=Tryz.underlying9
 a9:=Tryz.isAgg9
 z9:=Tryz.sizeOf9
 v9:=Tryz.zeroValue9
 t37:=Tryz.underlying52
 a37:=Tryz.isAgg52
 z37:=Tryz.sizeOf52
 v37:=Tryz.zeroValue52
 t5:=Tryz.underlying5
 a5:=Tryz.isAgg5
 z5:=Tryz.sizeOf5
 v5:=Tryz.zeroValue5}
theorem Tryz.bytes_Equal_all (p1 p2:Option Addr)(n c m d:Nat)(xs ys:List Int)(w:World)(hx:xs.length=n)(hy:ys.length=m)(h1:Lib.BytesIn w p1 n xs)(h2:Lib.BytesIn w p2 m ys):
 Calls Tryz.prog 53 #[.slice p1 n c,.slice p2 m d] w fun e w'=>e=.returned (.bool (Lib.bytesOf xs==Lib.bytesOf ys))/\w'=w:=Any.bytes_Equal_all Tryz.laysnb115 p1 p2 n c m d xs ys w hx hy h1 h2
end Go.Proofs
namespace Go.Proofs.YtgkkpefpbfadoaaGreat
open Go Go.RowKit
open Sy (C SV V1 Blk St XD Els)
set_option maxRecDepth 10000
def sortL (zs:List Int):List Int:=zs.mergeSort fun x y=>decide (x<=y)
theorem sortL_len (zs:List Int):(sortL zs).length=zs.length:=List.length_mergeSort _
theorem encI_flat (zs:List Int):(zs.map encI).flatten=zs.map (Value.int .i64):=by
 induction zs with
 |nil=>rfl
 |cons x r ih=>simp[encI,ih]
theorem sort_mut (v:Value)(zs:List Int)(w:World)(hown:Sy.OwnE w 3 1 v zs.length (zs.map encI))(hb:zs.length<=1000000000):
 Calls Tryz.prog 204 #[v] w (Sy.RetMut v (.tuple #[]) ⟨3,1,zs.length,(sortL zs).map encI⟩ w):=by
 rcases hown.2.2 with⟨A,rfl,hn⟩|⟨g,cap,rfl,hB⟩
 ·have hz:zs=[]:=List.eq_nil_of_length_eq_zero hn
  subst hz
  refine(Tryz.slices_Sort_int_none A 0 w).mono fun E w'⟨he,hw⟩=>?_
  subst hw
  exact⟨he,⟨rfl,rfl,rfl,Nat.le_refl _,fun _ _ _=>rfl⟩,by simpa[sortL] using hown⟩
 ·obtain⟨h1,h2,h3,h4,cur,h5,h6,h7,h8⟩:=hB
  have hl:(zs.map encI).length=zs.length:=by simp
  rw[hl,Nat.mul_one] at h7
  rw[encI_flat] at h7
  have hcs:zs.length<=cur.size:=by rw[hl] at h2;omega
  have h7':cur.toList.take zs.length=zs.map (Value.int .i64):=h7
  have hH:Go.Sort.Holds (Value.int .i64) w g 0 zs.toArray:=holds_of_blockI h5 h7'
  refine(Tryz.slices_Sort_int g 0 cap zs w hH (Array.getElem?_eq_some_iff.1 h5).1 (by omega)).mono fun E w'⟨he,n,os,hw⟩=>?_
  have hgb:=grownBy_sortedI (w:=w) (g:=g) (n:=n) (os:=os) (sortL zs).toArray
  have hhp:=heap_sortedI (n:=n) (os:=os) (sortL zs).toArray h5
  have hw:w'=Go.Sort.grow (Go.Sort.putRow (Value.int .i64) (Go.Sort.ahead w n) g 0 (sortL zs).toArray) os:=hw
  rw[<-hw] at hgb hhp
  obtain⟨g1,g2,g3,g4,g5⟩:=hgb
  have hsl:=sortL_len zs
  refine⟨he,⟨g1,g2,g3,g4,fun k hk hf=>g5 k hk (fun e1=>hf ?_)⟩,by rw[List.length_map,hsl],fun c hc=>?_,.inr ⟨g,cap,rfl,fun c hc=>?_,?_,h3,h4,_,hhp,?_,?_,?_⟩⟩
  ·injection e1 with e1
   exact⟨_,_,_,rfl,h4,e1.symm⟩
  ·obtain⟨x,_,rfl⟩:=List.mem_map.1 hc;rfl
  ·obtain⟨x,_,rfl⟩:=List.mem_map.1 hc;rfl
  ·rw[List.length_map,hsl];rw[hl] at h2;exact h2
  ·simp[Go.Sort.putCells,h6]
  ·rw[List.length_map,Nat.mul_one,encI_flat]
   exact take_putCellsI cur (sortL zs) (by omega)
  ·intro u hu
   simp only[Go.Sort.putCells,Array.toList_mapIdx] at hu
   obtain⟨j,hj,rfl⟩:=List.mem_mapIdx.1 hu
   split
   ·rfl
   ·exact h8 _ (List.getElem_mem _)
end Go.Proofs.YtgkkpefpbfadoaaGreat
