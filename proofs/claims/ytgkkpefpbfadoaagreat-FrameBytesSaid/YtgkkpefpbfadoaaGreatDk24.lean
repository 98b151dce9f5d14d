/- Frame: what is laid; what is deployed. -/
import Derived.Test.YtgkkpefpbfadoaaGreatDk9
import Derived.Test.YtgkkpefpbfadoaaGreatDk19
import Derived.Test.YtgkkpefpbfadoaaGreatDk23
import Derived.Test.YtgkkpefpbfadoaaGreatDk16
namespace Go.Proofs.YtgkkpefpbfadoaaGreat
open Go Go.RowKit
open Sy (C SV V1 Blk St XD Els)
set_option maxRecDepth 10000
def plcP (i:Int)(p:Plc):Prop:=(1<=p.wkr/\p.wkr<=4)/\p.task=i
instance(i:Int)(p:Plc):Decidable (plcP i p):=by unfold plcP;infer_instance
def plsB:Int->List Plc->Bool
 |_,[]=>true
 |i,p::r=>decide (plcP i p)&&plsB (i+1) r
theorem plsB_at {l:List Plc}{n:Nat}{p:Plc}(h:l[n]?=some p):plsB n (l.drop n)=(decide (plcP n p)&&plsB (n+1:Nat) (l.drop (n+1))):=by
 obtain⟨hn,he⟩:=List.getElem?_eq_some_iff.1 h
 rw[List.drop_eq_getElem_cons hn,he,plsB];rfl
def laidE (g:List Opr)(l:List Inp)(p:List Plc):Int:=if denoE g l≠0 then denoE g l else if(p.length:Int)=subtasks g/\plsB 0 p=true then 0 else 370
theorem laid_deno {g:List Opr}{l:List Inp}{p:List Plc}(h:laidE g l p=0):denoE g l=0:=by
 unfold laidE at h
 split at h
 ·exact h
 ·rename_i h2;exact Decidable.not_not.1 h2
theorem deno_chk {g:List Opr}{l:List Inp}(h:denoE g l=0):(checkV g).2=0:=by
 unfold denoE at h
 split at h
 ·exact h
 ·rename_i h2;exact Decidable.not_not.1 h2
attribute [local irreducible] denoE subtasks
set_option maxHeartbeats 4000000 in
theorem laid_any (gv iv pv:Value)(gl:List OpV)(il:List InpV)(pl:List Plc)(w:World)(hg:GOk (fun b=>b<w.heap.size) w gv gl)(hi:XD.ok (fun b=>b<w.heap.size) w ⟨iv,2,il.length,il.map encIV⟩)(hr:∀x∈il,IOk (fun b=>b<w.heap.size) w x)(hb:il.length<=100000)
 (hp:XD.ok (fun b=>b<w.heap.size) w ⟨pv,2,pl.length,pl.map encP⟩):
 Calls Tryz.prog 142 #[.agg #[gv,iv,pv]] w (Sy.Ret (.int .i64 (laidE (opsOf gl) (insOf il) pl)) w):=by
 have hl3:=ok_len hp
 refine Sy.calls_of Sy.lv142 Sy.tab_ok Tryz.func142 rfl _ Tryz.ntmps142 [⟨gv,5,gl.length,gl.map encOV⟩,⟨iv,2,il.length,il.map encIV⟩,⟨pv,2,pl.length,pl.map encP⟩] [.agg [.row 0,.row 1,.row 2]] rfl rfl rfl ⟨hg.1,hi,hp,trivial⟩ (V ?_)
 refine Sy.call_val (.c (.v (.int .i64 (denoE (opsOf gl) (insOf il))))) Tryz.call177 rfl (fun e a w' h=>deno_any (e.rv 0) (e.rv 1) gl il w' ⟨Sy.row_reads h (.inr rfl),fun o ho=>Sy.later_in h (hg.2 o ho)⟩ (Sy.row_reads h (.inr rfl)) (fun x hx=>Sy.later_in h (hr x hx)) hb) ?_
 by_cases h0:denoE (opsOf gl) (insOf il)=0
 case' neg=>
  rw[show laidE (opsOf gl) (insOf il) pl=denoE (opsOf gl) (insOf il) from if_pos h0]
  exact V0
 rw[show laidE (opsOf gl) (insOf il) pl=if(pl.length:Int)=subtasks (opsOf gl)/\plsB 0 pl=true then 0 else 370 from if_neg fun h=>h h0,h0]
 by_cases hq:(pl.length:Int)=subtasks (opsOf gl)
 case' neg=>rw[if_neg fun h=>hq h.1]
 all_goals
  refine V ?_
  refine Sy.draw_go [] (by kernel_rfl) ?_
  intro e0
  conv=>whnf
  refine zt 0 rfl ?_
  conv=>whnf
  refine zt 1 rfl ?_
  conv=>whnf
  refine zt 2 rfl (V ?_)
  refine zt 3 rfl ?_
  conv=>whnf
  refine zt 4 rfl ?_
  conv=>whnf
  refine zt 5 rfl ?_
  conv=>whnf
  refine zd1 [6] (zx rfl ?_ zy)
  conv=>whnf
  refine Sy.call_val (.c (.v (.int .i64 (subtasks (opsOf gl))))) Tryz.call178 rfl (fun e a w' h=>subtasks_any (e.rv 0) gl w' ⟨Sy.row_reads h (.inr rfl),fun o ho=>Sy.later_in h (hg.2 o ho)⟩) ?_
  conv=>whnf
  refine Yk ?_
  refine zt 7 rfl (V ?_)
  refine zw ?_
  skip
  ((repeat' first|refine Y ?_|refine Y2 ?_ ?_|refine Y1 fun hh=>?_|exact Y0.mk);(all_goals(try conv=>whnf)))
 refine Sy.loop_inv Sy.tab_ok (fun n:Nat=>[(25,.c (.v (.int .i64 n)))]) (fun _=>[]) (fun n=>n<=pl.length/\plsB n (pl.drop n)=plsB 0 pl) (fun n=>pl.length-n) 0 ⟨Nat.zero_le _,rfl⟩ ?_ (fun n hn=>?_)
 ·exact Vs0
 obtain⟨hn,hc⟩:=hn
 by_cases hlt:n<pl.length
 ·have hgt:=List.getElem?_eq_getElem hlt
  generalize pl[n]=p at *
  rw[plsB_at hgt] at hc
  refine V (Y1 fun hh=>?_)
  refine Sy.el_map p hgt (V ?_)
  refine Sy.call_val (.tup [.c (.v (.int .i64 (if 1<=p.wkr/\p.wkr<=4 then 3+p.wkr else 0))),.c (.v (.int .i64 (ndE p.wkr)))]) Tryz.call179 rfl (fun e a w' h=>node_any p.wkr w') ?_
  by_cases h1:plcP n p
  ·rw[decide_eq_true h1,Bool.true_and] at hc
   unfold plcP at h1
   rw[show ndE p.wkr=0 from if_pos h1.1]
   refine V (Y1 fun hh=>?_)
   refine⟨n+1,⟨by omega,hc⟩,by omega,?_⟩
   exact Vs0
  ·rw[decide_eq_false h1,Bool.false_and] at hc
   rw[show(if(pl.length:Int)=subtasks (opsOf gl)/\plsB 0 pl=true then 0 else 370:Int)=370 from if_neg fun h=>by rw[h.2] at hc;cases hc]
   unfold plcP at h1
   by_cases h2:1<=p.wkr/\p.wkr<=4
   ·rw[show ndE p.wkr=0 from if_pos h2]
    exact V0
   ·rw[show ndE p.wkr=370 from if_neg h2]
    exact V0
 ·have e:n=pl.length:=by omega
  rw[e,List.drop_length] at hc
  rw[if_pos ⟨hq,hc.symm⟩]
  exact V0
theorem MOk.facts {F:Nat->Prop}{w:World}{m:MsgV}(h:MOk F w m):Sy.AllOk F w (slicesM m):=⟨h.g.1,h.i,h.p,h.s.rows,h.s.txs,h.n,h.u,h.e,trivial⟩
theorem MOk.now {lv:List (Nat×List Nat)}{lvg:List (List (Nat×List Nat))}{P:Program}{T:Sy.Tab}{w0:World}{nt:Nat}{rd:Option Nat}{gh:List Act}{n0:Nat}{e0:Sy.Env}{pins:List (Nat×Nat)}{e:Sy.Env}{S:St}{a:Act}{w:World}{m:MsgV}
 (h:Sy.Rep {P:=P,T:=T,w0:=w0,nt:=nt,rd:=rd,gh:=gh,n0:=n0,e0:=e0,pins:=pins,lv:=lv,lvg:=lvg} e S a w)(hr:MOk (fun b=>b<w0.heap.size) w0 m)
 (h0:Sy.get S.H 0=some (.ext 5 m.gl.length (.vs (m.gl.map encOV))):=by rfl)(h1:Sy.get S.H 1=some (.ext 2 m.il.length (.vs (m.il.map encIV))):=by rfl)(h2:Sy.get S.H 2=some (.ext 2 m.pls.length (.vs (m.pls.map encP))):=by rfl)(h3:Sy.get S.H 3=some (.ext 4 m.snap.rows.length (.vs (m.snap.rows.map Sn.encK))):=by rfl)
 (h4:Sy.get S.H 4=some (.ext 3 m.snap.txs.length (.vs (m.snap.txs.map Sn.encT))):=by rfl)(h5:Sy.get S.H 5=some (.ext 3 m.names.length (.vs (m.names.map Sn.encT))):=by rfl)(h6:Sy.get S.H 6=some (.ext 1 m.up.length (.vs (m.up.map encI))):=by rfl)(h7:Sy.get S.H 7=some (.ext 1 m.ended.length (.vs (m.ended.map encI))):=by rfl):MOk (fun b=>b<w.heap.size) w (m.at e.rv):=
 ⟨⟨Sy.row_reads h (.inr h0),fun o ho=>Sy.later_in h (hr.g.2 o ho)⟩,Sy.row_reads h (.inr h1),fun x hx=>Sy.later_in h (hr.ir x hx),Sy.row_reads h (.inr h2),⟨Sy.row_reads h (.inr h3),Sy.row_reads h (.inr h4)⟩,Sy.row_reads h (.inr h5),Sy.row_reads h (.inr h6),Sy.row_reads h (.inr h7)⟩
def subAt:Int->List Opr->Int->Option (Int×Int)
 |_,[],_=>none
 |i,o::r,t=>if t<o.width then some (i,t) else subAt (i+1) r (t-o.width)
theorem subAt_at {g:List Opr}{n:Nat}{o:Opr}(h:g[n]?=some o)(t:Int):subAt n (g.drop n) t=if t<o.width then some ((n:Int),t) else subAt (n+1:Nat) (g.drop (n+1)) (t-o.width):=by
 obtain⟨hn,he⟩:=List.getElem?_eq_some_iff.1 h
 rw[List.drop_eq_getElem_cons hn,he,subAt];rfl
def depS (p:Option Plc)(w:Int)(s:Sn.Sn):Option (Int×Int)->Bool
 |some x=>decide (p.map (·.wkr)=some w/\s.op=x.1/\s.idx=x.2)
 |none=>false
def depB (m:Msg):Bool:=decide (laidE m.gr m.ins m.pls=0/\(0<=m.task/\m.task<m.pls.length)/\Sn.fitsP m.gr m.snap)&&depS m.pls[m.task.toNat]? (wOf m.dst) m.snap (subAt 0 m.gr m.task)
theorem depB_no {m:Msg}(h:¬(laidE m.gr m.ins m.pls=0/\(0<=m.task/\m.task<m.pls.length)/\Sn.fitsP m.gr m.snap)):depB m=false:=by unfold depB;rw[decide_eq_false h];rfl
theorem depB_yes {m:Msg}(h:laidE m.gr m.ins m.pls=0/\(0<=m.task/\m.task<m.pls.length)/\Sn.fitsP m.gr m.snap):depB m=depS m.pls[m.task.toNat]? (wOf m.dst) m.snap (subAt 0 m.gr m.task):=by unfold depB;rw[decide_eq_true h];rfl
attribute [local irreducible] laidE Sn.fitsP depB
set_option maxHeartbeats 8000000 in
theorem deploys_any (m:MsgV)(w:World)(hr:MOk (fun b=>b<w.heap.size) w m)(hb:m.il.length<=100000)(hd:I64 m.dst):
 Calls Tryz.prog 99 #[.agg (encM m).toArray] w (Sy.Ret (.bool (depB m.msg)) w):=by
 have hl3:=ok_len hr.p
 have hl0:=ok_len hr.g.1
 refine Sy.calls_of Sy.lv99 Sy.tab_ok Tryz.func99 rfl _ Tryz.ntmps99 (slicesM m) [.agg (cellsM C.v m C.row)] rfl rfl rfl hr.facts ?_
 have hno:¬(laidE (opsOf m.gl) (insOf m.il) m.pls=0/\(0<=m.task/\m.task<m.pls.length)/\Sn.fitsP (opsOf m.gl) m.snap)->depB m.msg=false:=depB_no (m:=m.msg)
 refine V ?_
 refine Sy.call_val (.c (.v (.int .i64 (laidE (opsOf m.gl) (insOf m.il) m.pls)))) Tryz.call142 rfl (fun e a w' h=>by have q:=MOk.now h hr;exact laid_any _ _ _ m.gl m.il m.pls w' q.g q.i q.ir hb q.p) ?_
 by_cases h1:laidE (opsOf m.gl) (insOf m.il) m.pls=0/\(0<=m.task/\m.task<m.pls.length)
 case' neg=>
  rw[hno fun h=>h1 ⟨h.1,h.2.1⟩]
  exact V0
 obtain⟨hL,ht⟩:=h1
 rw[hL]
 refine V (Y1 fun hh=>Y1 fun hh=>?_)
 refine Sy.call_val (.c (.v (.bool (decide (Sn.fitsP (opsOf m.gl) m.snap))))) Tryz.call143 rfl (fun e a w' h=>by have q:=MOk.now h hr;exact Sn.sfits_any _ m.gl (m.at e.rv).sv w' q.g q.s) ?_
 by_cases hf:Sn.fitsP (opsOf m.gl) m.snap
 case' neg=>
  rw[decide_eq_false hf,hno fun h=>hf h.2.2]
  exact V0
 rw[decide_eq_true hf,show depB m.msg=depS m.pls[m.task.toNat]? (wOf m.dst) m.snap (subAt 0 (opsOf m.gl) m.task) from depB_yes (m:=m.msg) ⟨hL,ht,hf⟩]
 refine V ?_
 refine Sy.call_val (.tup [.c (.v (.int .i64 (wOf m.dst))),.c (.v (.bool (decide (wrkP m.dst))))]) Tryz.call141 rfl (fun e a w' h=>worker_any m.dst hd w') ?_
 have hgood:=check_good (deno_chk (laid_deno hL))
 have hol:=opsOf_len m.gl
 obtain⟨R,hR⟩:∃R,R=subAt 0 (opsOf m.gl) m.task:=⟨_,rfl⟩
 rw[<-hR]
 obtain⟨p,hp⟩:∃p,m.pls[m.task.toNat]?=some p:=⟨_,List.getElem?_eq_getElem (by omega)⟩
 rw[hp]
 refine V ?_
 refine Sy.loop_inv Sy.tab_ok (fun n:Nat×Int=>[(49,.c (.v (.int .i64 n.1))),(5,.c (.v (.int .i64 n.2)))]) (fun _=>[]) (fun n=>n.1<=m.gl.length/\(0<=n.2/\n.2<=m.task)/\subAt n.1 ((opsOf m.gl).drop n.1) (m.task-n.2)=R) (fun n=>m.gl.length-n.1) (0,0) ⟨Nat.zero_le _,⟨Int.le_refl _,ht.1⟩,by rw[Int.sub_zero];exact hR.symm⟩ ?_ (fun n hn=>?_)
 ·exact Vs0
 obtain⟨n,N⟩:=n
 obtain⟨hn,hN,hc⟩:=hn
 dsimp only at hn hN hc⊢
 by_cases hlt:n<m.gl.length
 case' neg=>
  rw[List.drop_of_length_le (by omega),subAt] at hc
  subst hc
  exact V0
 have hgt:=List.getElem?_eq_getElem hlt
 generalize m.gl[n]=o at *
 have hgo:=opsOf_get hgt
 obtain⟨hw1,hw2,_⟩:=hgood n o.op (by omega) hgo
 rw[subAt_at hgo] at hc
 refine V (Y1 fun hh=>?_)
 refine Sy.el_map o hgt (V ?_)
 refine Sy.loop_inv Sy.tab_ok (fun k:Nat=>[(56,.c (.v (.int .i64 k))),(5,.c (.v (.int .i64 (N+k))))]) (fun _=>[]) (fun k=>(k:Int)<=o.op.width/\N+k<=m.task) (fun k=>o.op.width.toNat-k) 0 ⟨by omega,by omega⟩ ?_ (fun k hk=>?_)
 ·rw[show N+((0:Nat):Int)=N by omega]
  exact Vs0
 obtain⟨hk,hk2⟩:=hk
 by_cases hk3:(k:Int)<o.op.width
 ·by_cases ht2:N+k=m.task
  ·rw[if_pos (by omega),show m.task-N=(k:Int) by omega] at hc
   subst hc
   refine V ?_
   refine Sy.el_map p (by rw[show(N+(k:Int)).toNat=m.task.toNat by omega];exact hp) (V (Vj (fun hh=>Vj (fun hh=>?_) fun hh=>?_) fun hh=>?_))
   all_goals exact Sy.fin_val fun e=>fbool (by simp[*])
  ·refine V ?_
   refine⟨k+1,⟨by omega,by omega⟩,by omega,?_⟩
   rw[show N+((k+1:Nat):Int)=N+k+1 by omega]
   exact Vs0
 ·rw[if_neg (by omega)] at hc
  refine V ?_
  refine⟨(n+1,N+k),⟨by dsimp only;omega,by dsimp only;omega,by dsimp only;rw[<-hc];congr 1;omega⟩,by dsimp only;omega,?_⟩
  dsimp only
  exact Vs0
end Go.Proofs.YtgkkpefpbfadoaaGreat
