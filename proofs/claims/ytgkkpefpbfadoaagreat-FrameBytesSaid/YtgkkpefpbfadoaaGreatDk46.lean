/- Frame: the document's deploys; which messages may be. -/
import Derived.Test.YtgkkpefpbfadoaaGreatDk9
import Derived.Test.YtgkkpefpbfadoaaGreatDk45
import Derived.Test.YtgkkpefpbfadoaaGreatDk25
import Derived.Test.YtgkkpefpbfadoaaGreatDk22
import Derived.Test.YtgkkpefpbfadoaaGreatDk42
import Derived.Test.YtgkkpefpbfadoaaGreatDk41
import Derived.Test.YtgkkpefpbfadoaaGreatDk11
namespace Go.Proofs.YtgkkpefpbfadoaaGreat
open Go Go.RowKit
open Sy (C SV V1 Blk St XD Els)
set_option maxRecDepth 10000
attribute [local irreducible] laidE Sn.fitsP depB subT
set_option maxHeartbeats 8000000 in
theorem rdeploys_any (m:MsgV)(w:World)(hr:MOk (fun b=>b<w.heap.size) w m)(hb:m.il.length<=100000):
 Calls Tryz.prog 22 #[.agg (encM m).toArray] w (Sy.Ret (.bool (depB m.msg)) w):=by
 have hl3:=ok_len hr.p
 have hl0:=ok_len hr.g.1
 have hol:=opsOf_len m.gl
 refine Sy.calls_of Sy.lv22 Sy.tab_ok Tryz.func22 rfl _ Tryz.ntmps22 (slicesM m) [.agg (cellsM C.v m C.row)] rfl rfl rfl hr.facts ?_
 have hno:¬(laidE (opsOf m.gl) (insOf m.il) m.pls=0/\(0<=m.task/\m.task<m.pls.length)/\Sn.fitsP (opsOf m.gl) m.snap)->depB m.msg=false:=depB_no (m:=m.msg)
 refine V ?_
 refine Sy.call_val (.c (.v (.int .i64 (laidE (opsOf m.gl) (insOf m.il) m.pls)))) Tryz.call66 rfl (fun e a w' h=>by have q:=MOk.now h hr;exact rlaid_any _ _ _ m.gl m.il m.pls w' q.g q.i q.ir hb q.p) ?_
 by_cases h1:¬(laidE (opsOf m.gl) (insOf m.il) m.pls=0/\(0<=m.task/\m.task<m.pls.length))
 ·rw[hno fun h=>h1 ⟨h.1,h.2.1⟩]
  exact V0
  all_goals(exfalso;omega)
 obtain⟨hL,ht⟩:=Decidable.not_not.1 h1
 rw[hL]
 refine V (Y1 fun hh=>Y1 fun hh=>?_)
 refine Sy.call_val (.c (.v (.bool (decide (Sn.fitsP (opsOf m.gl) m.snap))))) Tryz.call67 rfl (fun e a w' h=>by have q:=MOk.now h hr;exact Sn.rsfits_any _ m.gl (m.at e.rv).sv w' q.g q.s) ?_
 by_cases hf:¬Sn.fitsP (opsOf m.gl) m.snap
 ·rw[decide_eq_false hf,hno fun h=>hf h.2.2]
  exact V0
 have hf:=Decidable.not_not.1 hf
 rw[decide_eq_true hf,show depB m.msg=depS m.pls[m.task.toNat]? (wOf m.dst) m.snap (subAt 0 (opsOf m.gl) m.task) from depB_yes (m:=m.msg) ⟨hL,ht,hf⟩]
 have hc:=deno_chk (laid_deno hL)
 have hgood:=check_good hc
 have h8:=(check_ok hc).2.1
 have hst:=subs_tasks hc
 rw[hol] at hst
 have hq:(m.pls.length:Int)=subtasks (opsOf m.gl):=by
  have hd:=laid_deno hL
  unfold laidE at hL
  rw[if_neg (fun h=>h hd)] at hL
  split at hL
  ·rename_i h;exact h.1
  ·cases hL
 obtain⟨p,hp⟩:∃p,m.pls[m.task.toNat]?=some p:=⟨_,List.getElem?_eq_getElem (by omega)⟩
 obtain⟨x,hx⟩:∃x,(subT (opsOf m.gl) m.gl.length)[m.task.toNat]?=some x:=⟨_,List.getElem?_eq_getElem (by omega)⟩
 have hxs:subAt 0 (opsOf m.gl) m.task=some x:=by
  rw[<-subsO_at _ 0 m.task (good_width hgood) ht.1,<-hx]
  unfold subT
  rw[<-hol,List.take_length]
 rw[hp,hxs]
 refine V ?_
 refine Sy.draw_go [] (by kernel_rfl) ?_
 intro e0
 conv=>whnf
 refine zt 0 rfl ?_
 conv=>whnf
 refine zt 1 rfl ?_
 conv=>whnf
 refine zt 2 rfl ?_
 conv=>whnf
 refine zt 3 rfl ?_
 conv=>whnf
 refine zt 5 rfl ?_
 conv=>whnf
 refine zt 6 rfl ?_
 conv=>whnf
 focus
  refine zd1 [4,9] (zx rfl ?_ (zx rfl ?_ zy))
  focus
   conv=>whnf
   refine Sy.call_r1 ⟨112,2,(subT (opsOf m.gl) m.gl.length).length,(subT (opsOf m.gl) m.gl.length).map encS2⟩ (fun j=>.c (.row j)) Tryz.call68 (fun e a w' h=>rsubs_any _ m.gl w' (by exact(MOk.now h hr).g) (by omega) hgood) ?_
   conv=>whnf
   refine Yk ?_
   focus
    refine zd1 [7,9] (zx rfl ?_ (zx rfl ?_ zy))
    focus
     conv=>whnf
     refine Sy.idx_in ht.1 (by omega) ?_
     conv=>whnf
     refine Yk ?_
     focus
      refine zd1 [8,9] (zx rfl ?_ (zx rfl ?_ zy))
      focus
       conv=>whnf
       refine Sy.el_map x hx ?_
       conv=>whnf
       refine Yk ?_
       refine zd1 [9] (zx rfl ?_ zy)
       conv=>whnf
       refine Yk ?_
       refine zd1 [10] (zx rfl ?_ zy)
       conv=>whnf
       refine Yk ?_
       refine zw ?_
       skip
      rotate_right
      focus
       conv=>whnf
       refine Yk ?_
       refine zd1 [8] (zx rfl ?_ zy)
       conv=>whnf
       refine Sy.el_map x hx ?_
       conv=>whnf
       refine Yk ?_
       refine zd1 [10] (zx rfl ?_ zy)
       conv=>whnf
       refine Yk ?_
       refine zw ?_
       skip
    rotate_right
    focus
     conv=>whnf
     refine Yk ?_
     refine zd1 [7] (zx rfl ?_ zy)
     conv=>whnf
     refine Sy.idx_in ht.1 (by omega) ?_
     conv=>whnf
     refine Yk ?_
     refine zd1 [8] (zx rfl ?_ zy)
     conv=>whnf
     refine Sy.el_map x hx ?_
     conv=>whnf
     refine Yk ?_
     refine zd1 [10] (zx rfl ?_ zy)
     conv=>whnf
     refine Yk ?_
     refine zw ?_
     skip
  rotate_right
  focus
   conv=>whnf
   refine Yk ?_
   refine zd1 [4] (zx rfl ?_ zy)
   conv=>whnf
   refine Sy.call_r1 ⟨112,2,(subT (opsOf m.gl) m.gl.length).length,(subT (opsOf m.gl) m.gl.length).map encS2⟩ (fun j=>.c (.row j)) Tryz.call68 (fun e a w' h=>rsubs_any _ m.gl w' (by exact(MOk.now h hr).g) (by omega) hgood) ?_
   conv=>whnf
   refine Yk ?_
   refine zd1 [7] (zx rfl ?_ zy)
   conv=>whnf
   refine Sy.idx_in ht.1 (by omega) ?_
   conv=>whnf
   refine Yk ?_
   refine zd1 [8] (zx rfl ?_ zy)
   conv=>whnf
   refine Sy.el_map x hx ?_
   conv=>whnf
   refine Yk ?_
   refine zd1 [10] (zx rfl ?_ zy)
   conv=>whnf
   refine Yk ?_
   refine zw ?_
   skip
 all_goals
  refine V ?_
  have hD:depS (some p) (wOf m.dst) m.snap (some x)=decide (p.wkr=wOf m.dst/\m.snap.op=x.1/\m.snap.idx=x.2):=by
   unfold depS
   simp
  rw[hD]
  by_cases e1:p.wkr=wOf m.dst
  ·by_cases e2:m.snap.op=x.1
   ·skip
    refine Sy.draw_go [] (by kernel_rfl) ?_
    intro e0
    conv=>whnf
    refine zt 0 rfl ?_
    conv=>whnf
    refine zt 1 rfl ?_
    conv=>whnf
    refine zt 2 rfl ?_
    conv=>whnf
    refine zt 3 rfl ?_
    conv=>whnf
    refine zt 4 rfl ?_
    conv=>whnf
    refine zt 5 rfl (V ?_)
    refine zt 6 rfl ?_
    conv=>whnf
    refine zt 7 rfl ?_
    conv=>whnf
    refine Sy.el_map p hp ?_
    conv=>whnf
    conv=>whnf
    refine zt 8 rfl ?_
    conv=>whnf
    refine zt 9 rfl ?_
    conv=>whnf
    refine zd1 [10] (zx rfl ?_ zy)
    conv=>whnf
    refine Sy.call_val (.c (.v (.int .i64 (wOf m.dst)))) Tryz.call29 rfl (fun e a w' h=>rwkr_any m.dst w') ?_
    conv=>whnf
    refine Yk ?_
    refine zt 11 rfl (V ?_)
    refine zt 12 rfl ?_
    conv=>whnf
    refine zt 13 rfl (V ?_)
    refine zt 14 rfl (V ?_)
    refine zt 15 rfl (V ?_)
    refine zt 16 rfl (V ?_)
    refine zt 17 rfl (V ?_)
    refine zt 18 rfl (V ?_)
    refine zt 19 rfl (V ?_)
    refine zt 20 rfl ?_
    conv=>whnf
    refine zt 21 rfl (V ?_)
    refine zt 22 rfl (V ?_)
    refine zt 23 rfl (V ?_)
    refine zt 24 rfl (V ?_)
    refine zt 25 rfl (V ?_)
    refine zt 26 rfl (V ?_)
    refine zt 27 rfl (V ?_)
    refine zt 28 rfl ?_
    conv=>whnf
    refine zw ?_
    skip
    all_goals(refine V ?_)
    all_goals exact Sy.fin_val fun e=>congrArg Value.bool (by rw[Bool.eq_iff_iff,beq_iff_eq,decide_eq_true_iff];simp[e1,e2])
   ·rw[decide_eq_false fun h=>e2 h.2.1]
    refine Sy.draw_go [] (by kernel_rfl) ?_
    intro e0
    conv=>whnf
    refine zt 0 rfl ?_
    conv=>whnf
    refine zt 1 rfl ?_
    conv=>whnf
    refine zt 2 rfl ?_
    conv=>whnf
    refine zt 3 rfl ?_
    conv=>whnf
    refine zt 4 rfl ?_
    conv=>whnf
    refine zt 5 rfl (V ?_)
    refine zt 6 rfl ?_
    conv=>whnf
    refine zt 7 rfl ?_
    conv=>whnf
    refine Sy.el_map p hp ?_
    conv=>whnf
    conv=>whnf
    refine zt 8 rfl ?_
    conv=>whnf
    refine zt 9 rfl ?_
    conv=>whnf
    refine zd1 [10] (zx rfl ?_ zy)
    conv=>whnf
    refine Sy.call_val (.c (.v (.int .i64 (wOf m.dst)))) Tryz.call29 rfl (fun e a w' h=>rwkr_any m.dst w') ?_
    conv=>whnf
    refine Yk ?_
    refine zt 11 rfl (V ?_)
    refine zt 12 rfl ?_
    conv=>whnf
    refine zt 13 rfl (V ?_)
    refine zt 14 rfl (V ?_)
    refine zt 15 rfl (V ?_)
    refine zt 16 rfl (V ?_)
    refine zt 17 rfl (V ?_)
    refine zt 18 rfl (V ?_)
    refine zt 19 rfl (V ?_)
    refine zt 20 rfl ?_
    conv=>whnf
    refine zt 21 rfl (V ?_)
    refine zt 22 rfl (V ?_)
    refine zt 23 rfl (V ?_)
    refine zt 24 rfl (V ?_)
    refine zt 25 rfl (V ?_)
    refine zt 26 rfl (V ?_)
    refine zt 27 rfl (V ?_)
    refine zt 28 rfl ?_
    conv=>whnf
    refine zw ?_
    skip
    all_goals(exact V0)
    all_goals exact Sy.fin_val fun e=>congrArg Value.bool (by rw[beq_eq_false_iff_ne];exact e2)
  ·rw[decide_eq_false fun h=>e1 h.1]
   refine Sy.draw_go [] (by kernel_rfl) ?_
   intro e0
   conv=>whnf
   refine zt 0 rfl ?_
   conv=>whnf
   refine zt 1 rfl ?_
   conv=>whnf
   refine zt 2 rfl ?_
   conv=>whnf
   refine zt 3 rfl ?_
   conv=>whnf
   refine zt 4 rfl ?_
   conv=>whnf
   refine zt 5 rfl (V ?_)
   refine zt 6 rfl ?_
   conv=>whnf
   refine zt 7 rfl ?_
   conv=>whnf
   refine Sy.el_map p hp ?_
   conv=>whnf
   conv=>whnf
   refine zt 8 rfl ?_
   conv=>whnf
   refine zt 9 rfl ?_
   conv=>whnf
   refine zd1 [10] (zx rfl ?_ zy)
   conv=>whnf
   refine Sy.call_val (.c (.v (.int .i64 (wOf m.dst)))) Tryz.call29 rfl (fun e a w' h=>rwkr_any m.dst w') ?_
   conv=>whnf
   refine Yk ?_
   refine zt 11 rfl (V ?_)
   refine zt 12 rfl ?_
   conv=>whnf
   refine zt 13 rfl (V ?_)
   refine zt 14 rfl (V ?_)
   refine zt 15 rfl (V ?_)
   refine zt 16 rfl (V ?_)
   refine zt 17 rfl (V ?_)
   refine zt 18 rfl (V ?_)
   refine zt 19 rfl (V ?_)
   refine zt 20 rfl ?_
   conv=>whnf
   refine zt 21 rfl (V ?_)
   refine zt 22 rfl (V ?_)
   refine zt 23 rfl (V ?_)
   refine zt 24 rfl (V ?_)
   refine zt 25 rfl (V ?_)
   refine zt 26 rfl (V ?_)
   refine zt 27 rfl (V ?_)
   refine zt 28 rfl ?_
   conv=>whnf
   refine zw ?_
   skip
   all_goals(exact V0)
   all_goals exact Sy.fin_val fun e=>congrArg Value.bool (by rw[beq_eq_false_iff_ne];exact e1)
end Go.Proofs.YtgkkpefpbfadoaaGreat
namespace Go.Proofs.YtgkkpefpbfadoaaGreat
open Go Go.RowKit
open Sy (C SV V1 Blk St XD Els)
set_option maxRecDepth 10000
set_option maxHeartbeats 2000000 in
theorem sameT17_any (u t:Value)(a b:List Sn.Tx)(w:World)(hu:XD.ok (fun b=>b<w.heap.size) w ⟨u,3,a.length,a.map Sn.encT⟩)(ht:XD.ok (fun b=>b<w.heap.size) w ⟨t,3,b.length,b.map Sn.encT⟩):
 Calls Tryz.prog 51 #[u,t] w (Sy.Ret (.bool (decide (a=b))) w):=by
 have hl1:=ok_len hu
 have hl2:=ok_len ht
 refine Sy.calls_of Sy.lv51 Sy.tab_ok Tryz.func51 rfl _ Tryz.ntmps51 [⟨u,3,a.length,a.map Sn.encT⟩,⟨t,3,b.length,b.map Sn.encT⟩] [.c (.row 0),.c (.row 1)] rfl rfl rfl ⟨hu,ht,trivial⟩ ?_
 by_cases hlen:a.length=b.length
 ·refine V (Y1 fun hh=>?_)
  refine Sy.loop_inv Sy.tab_ok (fun n:Nat=>[(5,.c (.v (.int .i64 n)))]) (fun _=>[]) (fun n=>n<=a.length/\a.take n=b.take n) (fun n=>a.length-n) 0 ⟨Nat.zero_le _,rfl⟩ ?_ (fun n hn=>?_)
  ·exact Vs0
  ·obtain⟨hn,ht⟩:=hn
   by_cases hlt:n<a.length
   ·have hlb:n<b.length:=by omega
    have ga:=List.getElem?_eq_getElem hlt
    have gb:=List.getElem?_eq_getElem hlb
    have sa:a.take (n+1)=a.take n++[a[n]]:=List.take_succ_eq_append_getElem hlt
    have sb:b.take (n+1)=b.take n++[b[n]]:=List.take_succ_eq_append_getElem hlb
    generalize a[n]=x at *
    generalize b[n]=y at *
    refine V (Y1 fun hh=>?_)
    refine Sy.draw_go [] (by kernel_rfl) ?_
    intro e0
    conv=>whnf
    refine zt 0 rfl ?_
    conv=>whnf
    refine zt 1 rfl ?_
    conv=>whnf
    refine zt 2 rfl (V ?_)
    refine zt 3 rfl ?_
    conv=>whnf
    refine Sy.el_map x ga ?_
    conv=>whnf
    refine zt 4 rfl ?_
    conv=>whnf
    refine zt 5 rfl ?_
    conv=>whnf
    refine zt 6 rfl (V ?_)
    refine zt 7 rfl ?_
    conv=>whnf
    refine Sy.el_map y gb ?_
    conv=>whnf
    refine zt 8 rfl (V ?_)
    refine zw ?_
    skip
    all_goals
     by_cases he:x.sink=y.sink/\x.att=y.att/\x.ser=y.ser
     ·obtain⟨e0,e1,e2⟩:=he
      have hxy:x=y:=Sn.tx_ext e0 e1 e2
      refine V ?_
      refine⟨n+1,⟨by omega,by rw[sa,sb,ht,hxy]⟩,by omega,?_⟩
      exact Vs0
     ·rw[decide_eq_false (fun h=>by
       subst h
       rw[ga] at gb
       cases gb
       exact he ⟨rfl,rfl,rfl⟩)]
      exact V0
      all_goals(exfalso;omega)
   ·have e:n=a.length:=by omega
    subst e
    rw[List.take_length,hlen,List.take_length] at ht
    rw[decide_eq_true ht]
    exact V0
    all_goals done
 ·rw[decide_eq_false (fun h=>hlen (by rw[h]))]
  exact V0
  all_goals done
theorem sameR_d (u t:Value)(a b:List Rc)(w:World)(hu:XD.ok (fun b=>b<w.heap.size) w ⟨u,3,a.length,a.map encR⟩)(ht:XD.ok (fun b=>b<w.heap.size) w ⟨t,3,b.length,b.map encR⟩){d:Bool}(hd:decide (a=b)=d):
 Calls Tryz.prog 94 #[u,t] w (Sy.Ret (.bool d) w):=hd▸sameR_any u t a b w hu ht
set_option maxHeartbeats 4000000 in
theorem rsameIns_any (u t:Value)(a b:List InpV)(w:World)(hu:XD.ok (fun b=>b<w.heap.size) w ⟨u,2,a.length,a.map encIV⟩)(ht:XD.ok (fun b=>b<w.heap.size) w ⟨t,2,b.length,b.map encIV⟩)(ha:∀x∈a,IOk (fun b=>b<w.heap.size) w x)(hb:∀x∈b,IOk (fun b=>b<w.heap.size) w x):
 Calls Tryz.prog 48 #[u,t] w (Sy.Ret (.bool (decide (insOf a=insOf b))) w):=by
 have hl1:=ok_len hu
 have hl2:=ok_len ht
 have e1:=insOf_len a
 have e2:=insOf_len b
 refine Sy.calls_of Sy.lv48 Sy.tab_ok Tryz.func48 rfl _ Tryz.ntmps48 [⟨u,2,a.length,a.map encIV⟩,⟨t,2,b.length,b.map encIV⟩] [.c (.row 0),.c (.row 1)] rfl rfl rfl ⟨hu,ht,trivial⟩ ?_
 by_cases hlen:a.length=b.length
 ·refine V (Y1 fun hh=>?_)
  refine Sy.loop_inv Sy.tab_ok (fun n:Nat=>[(5,.c (.v (.int .i64 n)))]) (fun _=>[]) (fun n=>n<=a.length/\∀i,i<n->(insOf a)[i]?=(insOf b)[i]?) (fun n=>a.length-n) 0 ⟨Nat.zero_le _,fun i hi=>by omega⟩ ?_ (fun n hn=>?_)
  ·exact Vs0
  obtain⟨hn,hpre⟩:=hn
  by_cases hlt:n<a.length
  ·have hlb:n<b.length:=by omega
   have ga:=List.getElem?_eq_getElem hlt
   have gb:=List.getElem?_eq_getElem hlb
   have r1:=ha _ (List.getElem_mem hlt)
   have r2:=hb _ (List.getElem_mem hlb)
   generalize a[n]=x at *
   generalize b[n]=y at *
   have g1:=insOf_get ga
   have g2:=insOf_get gb
   refine V (Y1 fun hh=>?_)
   by_cases hs:x.inp.src=y.inp.src
   ·by_cases hq:x.inp.recs=y.inp.recs
    ·have hxy:x.inp=y.inp:=by
      obtain⟨⟨s,l⟩,v⟩:=x
      obtain⟨⟨s',l'⟩,v'⟩:=y
      dsimp only at hs hq
      rw[hs,hq]
     refine Sy.draw_go [] (by kernel_rfl) ?_
     intro e0
     conv=>whnf
     refine zt 0 rfl ?_
     conv=>whnf
     refine zt 1 rfl ?_
     conv=>whnf
     refine zt 2 rfl (V ?_)
     refine zt 3 rfl ?_
     conv=>whnf
     refine zt 4 rfl ?_
     conv=>whnf
     refine Sy.el_map x ga ?_
     conv=>whnf
     refine zt 5 rfl ?_
     conv=>whnf
     refine zt 6 rfl ?_
     conv=>whnf
     refine zt 7 rfl (V ?_)
     refine zt 8 rfl ?_
     conv=>whnf
     refine zt 9 rfl ?_
     conv=>whnf
     refine Sy.el_map y gb ?_
     conv=>whnf
     refine zt 10 rfl (V ?_)
     refine zt 11 rfl ?_
     conv=>whnf
     refine zt 12 rfl (V ?_)
     refine zt 13 rfl (V ?_)
     refine zt 14 rfl (V ?_)
     refine zt 15 rfl (V ?_)
     refine zt 16 rfl (V ?_)
     refine Sy.el_map x ga ?_
     conv=>whnf
     refine zt 17 rfl (V ?_)
     refine zt 18 rfl (V ?_)
     refine zt 19 rfl (V ?_)
     refine zt 20 rfl (V ?_)
     refine zt 21 rfl (V ?_)
     refine Sy.el_map y gb ?_
     conv=>whnf
     refine zd1 [22] (zx rfl ?_ zy)
     conv=>whnf
     (try(refine zA ?_;conv=>whnf))
     refine V ?_
     refine Sy.call_val (.c (.v (.bool true))) Tryz.call94 rfl (by intro e c w' h;exact sameR_d x.rv y.rv x.inp.recs y.inp.recs w' (Sy.later_in h r1) (Sy.later_in h r2) (decide_eq_true hq)) ?_
     conv=>whnf
     refine Yk ?_
     refine zt 23 rfl (V ?_)
     refine zt 24 rfl (V ?_)
     refine zw ?_
     skip
     all_goals(refine V ?_)
     all_goals(refine⟨n+1,⟨by omega,pre_succ g1 g2 hxy hpre⟩,by omega,?_⟩)
     all_goals(exact Vs0)
    ·have hxy:¬x.inp=y.inp:=fun h=>hq (by rw[h])
     rw[show decide (insOf a=insOf b)=false from decide_eq_false (lst_ne n g1 g2 hxy)]
     have hd:(!false)=true:=by decide
     refine Sy.draw_go [] (by kernel_rfl) ?_
     intro e0
     conv=>whnf
     refine zt 0 rfl ?_
     conv=>whnf
     refine zt 1 rfl ?_
     conv=>whnf
     refine zt 2 rfl (V ?_)
     refine zt 3 rfl ?_
     conv=>whnf
     refine zt 4 rfl ?_
     conv=>whnf
     refine Sy.el_map x ga ?_
     conv=>whnf
     refine zt 5 rfl ?_
     conv=>whnf
     refine zt 6 rfl ?_
     conv=>whnf
     refine zt 7 rfl (V ?_)
     refine zt 8 rfl ?_
     conv=>whnf
     refine zt 9 rfl ?_
     conv=>whnf
     refine Sy.el_map y gb ?_
     conv=>whnf
     refine zt 10 rfl (V ?_)
     refine zt 11 rfl ?_
     conv=>whnf
     refine zt 12 rfl (V ?_)
     refine zt 13 rfl (V ?_)
     refine zt 14 rfl (V ?_)
     refine zt 15 rfl (V ?_)
     refine zt 16 rfl (V ?_)
     refine Sy.el_map x ga ?_
     conv=>whnf
     refine zt 17 rfl (V ?_)
     refine zt 18 rfl (V ?_)
     refine zt 19 rfl (V ?_)
     refine zt 20 rfl (V ?_)
     refine zt 21 rfl (V ?_)
     refine Sy.el_map y gb ?_
     conv=>whnf
     refine zd1 [22] (zx rfl ?_ zy)
     conv=>whnf
     (try(refine zA ?_;conv=>whnf))
     refine V ?_
     refine Sy.call_val (.c (.v (.bool false))) Tryz.call94 rfl (by intro e c w' h;exact sameR_d x.rv y.rv x.inp.recs y.inp.recs w' (Sy.later_in h r1) (Sy.later_in h r2) (decide_eq_false hq)) ?_
     conv=>whnf
     refine Yk ?_
     refine zt 23 rfl (V ?_)
     refine zt 24 rfl (V ?_)
     refine zw ?_
     skip
     all_goals(exact V0)
     all_goals done
   ·have hxy:¬x.inp=y.inp:=fun h=>hs (by rw[h])
    rw[show decide (insOf a=insOf b)=false from decide_eq_false (lst_ne n g1 g2 hxy)]
    refine Sy.draw_go [] (by kernel_rfl) ?_
    intro e0
    conv=>whnf
    refine zt 0 rfl ?_
    conv=>whnf
    refine zt 1 rfl ?_
    conv=>whnf
    refine zt 2 rfl (V ?_)
    refine zt 3 rfl ?_
    conv=>whnf
    refine zt 4 rfl ?_
    conv=>whnf
    refine Sy.el_map x ga ?_
    conv=>whnf
    refine zt 5 rfl ?_
    conv=>whnf
    refine zt 6 rfl ?_
    conv=>whnf
    refine zt 7 rfl (V ?_)
    refine zt 8 rfl ?_
    conv=>whnf
    refine zt 9 rfl ?_
    conv=>whnf
    refine Sy.el_map y gb ?_
    conv=>whnf
    refine zt 10 rfl (V ?_)
    refine zt 11 rfl ?_
    conv=>whnf
    refine zt 12 rfl (V ?_)
    refine zt 13 rfl (V ?_)
    refine zt 14 rfl (V ?_)
    refine zt 15 rfl (V ?_)
    refine zt 16 rfl (V ?_)
    refine zt 17 rfl (V ?_)
    refine zt 18 rfl (V ?_)
    refine zt 19 rfl (V ?_)
    refine zt 20 rfl (V ?_)
    refine zt 21 rfl (V ?_)
    refine zd1 [22] (zx rfl ?_ zy)
    conv=>whnf
    (try(refine zA ?_;conv=>whnf))
    refine V ?_
    refine Yk ?_
    refine zt 23 rfl (V ?_)
    refine zt 24 rfl (V ?_)
    refine zw ?_
    skip
    all_goals(exact V0)
    all_goals done
  ·rw[decide_eq_true (lst_eq n (by omega) (by omega) hpre)]
   exact V0
   all_goals done
 ·rw[decide_eq_false (fun h=>hlen (by rw[<-e1,<-e2,h]))]
  exact V0
  all_goals done
set_option maxHeartbeats 8000000 in
theorem rsame27_any (a b:MsgV)(w:World)(ha:MOk (fun b=>b<w.heap.size) w a)(hb:MOk (fun b=>b<w.heap.size) w b):
 Calls Tryz.prog 17 #[.agg (encM a).toArray,.agg (encM b).toArray] w (Sy.Ret (.bool (decide (a.msg=b.msg))) w):=by
 refine Sy.calls_of Sy.lv17 Sy.tab_ok Tryz.func17 rfl _ Tryz.ntmps17 [] [.agg (cellsM C.v a fun i=>.v (a.v i)),.agg (cellsM C.v b fun i=>.v (b.v i))] rfl (two_lt (Sy.ltAll_v (msg_one ha)) (Sy.ltAll_v (msg_one hb))) rfl trivial ?_
 have hE:=msg_eq a b
 refine Vc ?_
 refine Sy.cut_meet Sy.tab_ok (fun _:Unit=>[(58,.c (.v (.bool (decide (¬headEq a b)))))]) (fun _=>[]) (fun _=>True) ?_ (fun _ _=>?_)
 ·refine Sy.region_go Sy.tab_ok ?_
  ((repeat' first|refine Y ?_|refine Y2 ?_ ?_|refine Y1 fun hh=>?_|exact Y0.mk);(all_goals(try conv=>whnf)))
  all_goals(refine⟨(),trivial,?_⟩;refine Vs ?_)
  all_goals exact fbool (by unfold headEq;rw[pk_iff];first|(simp[*];done)|(simp_all;done)|(simp_all;omega))
 conv=>whnf
 by_cases hH:¬headEq a b
 ·rw[decide_eq_true hH,decide_eq_false fun h=>hH (hE.1 h).1]
  exact V0
 rw[decide_eq_false hH]
 have hH:=Decidable.not_not.1 hH
 refine Vc ?_
 refine Sy.cut_meet Sy.tab_ok (fun _:Unit=>[(90,.c (.v (.bool (decide (¬laidEq a b)))))]) (fun _=>[]) (fun _=>True) ?_ (fun _ _=>?_)
 ·refine Sy.region_go Sy.tab_ok (V ?_)
  refine Sy.call_val (.c (.v (.bool (decide (opsOf a.gl=opsOf b.gl))))) Tryz.call47 rfl (fun e c w' h=>rsame_any (a.v 0) (b.v 0) a.gl b.gl w' (MOk.later h ha).g (MOk.later h hb).g) (V (Vj (fun hh=>?_) fun hh=>?_))
  ·refine Sy.call_val (.c (.v (.bool (decide (insOf a.il=insOf b.il))))) Tryz.call48 rfl (fun e c w' h=>rsameIns_any (a.v 1) (b.v 1) a.il b.il w' (MOk.later h ha).i (MOk.later h hb).i (MOk.later h ha).ir (MOk.later h hb).ir) (V (Vj (fun hh=>?_) fun hh=>?_))
   ·refine Sy.call_val (.c (.v (.bool (decide (a.pls=b.pls))))) Tryz.call49 rfl (fun e c w' h=>sameP_any (a.v 2) (b.v 2) a.pls b.pls w' (MOk.later h ha).p (MOk.later h hb).p) (V ?_)
    refine⟨(),trivial,?_⟩
    refine Vs ?_
    all_goals exact fbool (by unfold laidEq;simp[*])
   all_goals(refine⟨(),trivial,?_⟩;refine Vs ?_)
   all_goals exact fbool (by unfold laidEq;simp[*])
  all_goals(refine⟨(),trivial,?_⟩;refine Vs ?_)
  all_goals exact fbool (by unfold laidEq;simp[*])
 conv=>whnf
 by_cases hL:¬laidEq a b
 ·rw[decide_eq_true hL,decide_eq_false fun h=>hL (hE.1 h).2.1]
  exact V0
 rw[decide_eq_false hL]
 have hL:=Decidable.not_not.1 hL
 refine V ?_
 refine Sy.call_val (.c (.v (.bool (decide (a.snap=b.snap))))) Tryz.call50 rfl (fun e c w' h=>Sn.rsame_any a.sv b.sv w' (MOk.later h ha).s (MOk.later h hb).s) (V (Vj (fun hh=>?_) fun hh=>?_))
 ·refine Sy.call_val (.c (.v (.bool (decide (a.names=b.names))))) Tryz.call51 rfl (fun e c w' h=>sameT17_any (a.v 5) (b.v 5) a.names b.names w' (MOk.later h ha).n (MOk.later h hb).n) (V (Vj (fun hh=>?_) fun hh=>?_))
  ·refine Sy.call_val (.c (.v (.bool (decide (a.up=b.up))))) Tryz.call52 rfl (fun e c w' h=>sameI_any (a.v 6) (b.v 6) a.up b.up w' (MOk.later h ha).u (MOk.later h hb).u) (V (Vj (fun hh=>?_) fun hh=>?_))
   ·refine Sy.call_val (.c (.v (.bool (decide (a.ended=b.ended))))) Tryz.call52 rfl (fun e c w' h=>sameI_any (a.v 7) (b.v 7) a.ended b.ended w' (MOk.later h ha).e (MOk.later h hb).e) (V ?_)
    exact Sy.fin_val fun e=>fbool (by rw[hE];simp[*])
   exact Sy.fin_val fun e=>fbool (by rw[hE];simp[*])
  exact Sy.fin_val fun e=>fbool (by rw[hE];simp[*])
 exact Sy.fin_val fun e=>fbool (by rw[hE];simp[*])
end Go.Proofs.YtgkkpefpbfadoaaGreat
namespace Go.Proofs.YtgkkpefpbfadoaaGreat
open Go Go.RowKit
namespace Sy
section
variable {X : Cx} {S : St}
structure Hold (P:Prop):Prop where
 out:P
theorem seq_hold {x y:Code}{Q:Exit->St->Prop}(h:semP X x S (then_ Q fun S'=>Hold (semP X y S' Q))):semP X (.seq x y) S Q:=
 ⟨fun _ _ _ hR _ hQ=>wpIn_seq (sem_get h hR (compat_then hQ fun e2 _ a2 w2 hR2 hS2=>hS2.out.out e2 a2 w2 hR2 _ hQ))⟩
theorem sem_go (hT:TabOk X.P X.T){c:Code}{Q:Exit->St->Prop}(h:xcode X c S Q):semP X c S Q:=⟨fun _ _ _ hR _ hQ=>xcode_ok hT c hR h hQ⟩
theorem meetS (hT:TabOk X.P X.T){x y:Code}{Q:Exit->St->Prop}{ι:Type}(bs:ι->List Blk)(fr:ι->List (Nat×SV))(H:ι->List (Nat×Blk))(ok:ι->Prop)
 (hx:semP X x S (then_ Q fun S'=>∃j,ok j/\SubGo X S' ((((S.prune (liveAt X x)).prune (liveAt X y)).inv (writes x) (fr j) (H j)).news (bs j))))
 (hy:∀i,ok i->St.forceAll ((((S.prune (liveAt X x)).prune (liveAt X y)).inv (writes x) (fr i) (H i)).news (bs i)) fun S1=>xcode X y S1 Q):semP X (.seq x y) S Q:=by
 refine⟨?_⟩
 intro e a w h Qr hQ
 refine wpIn_seq (sem_get hx h (compat_then hQ fun e' S' a' w' hR hS'=>?_))
 obtain⟨i,hi,h3⟩:=hS'
 obtain⟨e2,hR2⟩:=sub_get (sub_auto h3) hR
 have:=hy i hi
 rw[forceAll_eq] at this
 exact xcode_ok hT y hR2 this hQ
end
end Sy
end Go.Proofs.YtgkkpefpbfadoaaGreat
