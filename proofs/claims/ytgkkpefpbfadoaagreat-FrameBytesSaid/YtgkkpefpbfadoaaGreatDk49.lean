/- Frame: the document's Lay. -/
import Derived.Test.YtgkkpefpbfadoaaGreatDk9
import Derived.Test.YtgkkpefpbfadoaaGreatDk43
import Derived.Test.YtgkkpefpbfadoaaGreatDk31
import Derived.Test.YtgkkpefpbfadoaaGreatDk26
import Derived.Test.YtgkkpefpbfadoaaGreatDk48
import Derived.Test.YtgkkpefpbfadoaaGreatDk47
import Derived.Test.YtgkkpefpbfadoaaGreatDk41
namespace Go.Proofs.YtgkkpefpbfadoaaGreat
open Go Go.RowKit
open Sy (C SV V1 Blk St XD Els yt yt1 yd1 yw)
set_option maxRecDepth 10000
attribute [local irreducible] okM beN hdB Sn.sBs Sn.rightP tlN
set_option maxHeartbeats 16000000 in
theorem rlay_any (m:MsgV)(w:World)(hr:MOk (fun b=>b<w.heap.size) w m)(hok:okM m.msg)(hU:0<=m.num/\0<=m.pkt.lim):
 Calls Tryz.prog 15 #[.agg (encM m).toArray] w (Sy.RetRows Sy.noRow (fun _:Unit=>True) (fun _=>[⟨5,1,(layB m.msg).length,(layB m.msg).map encB⟩]) (fun _ vs=>vs.headD undef) w):=by
 have hatt:(1<=m.epoch/\m.epoch<=2147483647)/\1<=m.att/\m.att<=1048576:=by unfold okM at hok;exact hok.2.2
 have hb1:=beN_len m.epoch 8
 have hb2:=beN_len m.att 4
 have hb3:=beN_len m.num 8
 have hdl:=hdB_len m.msg
 refine Sy.calls_of Sy.lv15 Sy.tab_ok Tryz.func15 rfl _ Tryz.ntmps15 (slicesM m) [.agg (cellsM C.v m C.row)] rfl rfl rfl hr.facts (V ?_)
 refine Sy.ar_wrap (V ?_)
 refine Sy.ar_wrap (V ?_)
 refine Sy.ar_wrap (V ?_)
 refine Sy.ar_wrap (V ?_)
 refine Sy.call_r1 ⟨5,1,(beN m.epoch 8).length,(beN m.epoch 8).map encB⟩ (fun j=>.c (.row j)) Tryz.call40 (fun e a w' h=>high_any 8 m.epoch w' (by omega) (by decide)) (V ?_)
 refine Sy.call_r1 ⟨5,1,([b8 m.kind,b8 m.src,b8 m.dst,b8 m.task]++beN m.epoch 8).length,([b8 m.kind,b8 m.src,b8 m.dst,b8 m.task]++beN m.epoch 8).map encB⟩ (fun j=>.c (.row j)) Tryz.call39 (fun e a w' h=>both_any _ _ [b8 m.kind,b8 m.src,b8 m.dst,b8 m.task] (beN m.epoch 8) w' (by exact Sy.row_reads h (.inl ⟨_,rfl⟩)) (by exact Sy.row_reads h (.inl ⟨_,rfl⟩)) (by simp) (by omega)) (V ?_)
 refine Sy.ar_u64 (by omega) (V ?_)
 refine Sy.call_r1 ⟨5,1,(beN m.att 4).length,(beN m.att 4).map encB⟩ (fun j=>.c (.row j)) Tryz.call40 (fun e a w' h=>high_any 4 m.att w' (by omega) (by decide)) (V ?_)
 refine Sy.call_r1 ⟨5,1,(hdB m.msg).length,(hdB m.msg).map encB⟩ (v:=fun _ vs=>vs.headD undef) (fun j=>.c (.row j)) Tryz.call39 (fun e a w' h=>(by rw[<-hdB_eq];exact both_any _ _ ([b8 m.kind,b8 m.src,b8 m.dst,b8 m.task]++beN m.epoch 8) (beN m.att 4) w' (by exact Sy.row_reads h (.inl ⟨_,rfl⟩)) (by exact Sy.row_reads h (.inl ⟨_,rfl⟩)) (by rw[List.length_append,hb1];simp) (by omega))) ?_
 generalize hH:hdB m.msg=H at *
 by_cases k1:m.kind=1
 ·obtain⟨hL,ht,hf⟩:laidE m.msg.gr m.msg.ins m.msg.pls=0/\(0<=m.task/\m.task<m.pls.length)/\Sn.fitsP m.msg.gr m.snap:=by
   unfold okM at hok
   have:=hok.1
   rw[body1 (m:=m.msg) k1] at this
   simp only[Bool.and_eq_true] at this
   have h2:=this.2
   unfold depB at h2
   simp only[Bool.and_eq_true,decide_eq_true_eq] at h2
   exact h2.1
  have hgc:(checkV (opsOf m.gl)).2=0:=deno_chk (laid_deno hL)
  have hg8:m.gl.length<=100:=by
   have h1:=(check_ok hgc).2.1
   have h2:=opsOf_len m.gl
   omega
  have hgl:(gBs (opsOf m.gl)).length<=2000:=by
   have h1:=(check_ok hgc).2.1
   have h2:=gN_len (insOk_good hgc).ops (opsOf m.gl).length (Nat.le_refl _)
   unfold gBs;omega
  obtain⟨hia,his⟩:=deno_ins (laid_deno hL)
  have hil8:m.il.length<=8:=by
   have h1:=congrArg List.length his
   have h2:=wants_len (opsOf m.gl)
   have h3:=(check_ok hgc).2.1
   have h4:=insOf_len m.il
   rw[sortL_len,show srcsI m.msg.ins=srcsI (insOf m.il) from rfl] at h1
   unfold srcsI at h1
   rw[List.length_map] at h1
   have h1:(insOf m.il).length=(wants (opsOf m.gl)).length:=h1
   omega
  have hia:(insOf m.il).all inputB=true:=hia
  have hpl:=laid_pls hL
  have hpl:m.pls.length<=24:=hpl
  have hS:=hf.2.1
  have hSl:=snap_len hS
  refine V ?_
  refine Sy.call_r1 ⟨5,1,(gBs (opsOf m.gl)).length,(gBs (opsOf m.gl)).map encB⟩ (fun j=>.c (.row j)) Tryz.call42 (fun e a w' h=>bytes_any _ m.gl w' (MOk.now h hr).g hg8 (insOk_good hgc)) ?_
  generalize hQ:gBs (opsOf m.gl)=Q at *
  have hsq:(H++someB Q).length=H.length+2+Q.length:=by unfold someB;rw[List.length_append,List.length_append,beN_len];omega
  refine V ?_
  refine Sy.call_r1 ⟨5,1,(H++someB Q).length,(H++someB Q).map encB⟩ (fun j=>.c (.row j)) Tryz.call41 (fun e a w' h=>rsome_any _ _ H Q w' (by exact Sy.row_reads h (.inl ⟨_,rfl⟩)) (by exact Sy.row_reads h (.inl ⟨_,rfl⟩)) (by omega) (by omega)) ?_
  obtain⟨VV,hV⟩:∃VV,VV=H++someB Q:=⟨_,rfl⟩
  rw[<-hV] at hsq⊢
  refine V ?_
  refine Sy.ar_wrap (V ?_)
  refine Sy.need_app 1 rfl ⟨by omega,by omega⟩ (V ?_)
  refine Sy.loop_inv Sy.tab_ok (fun n:Nat=>[(4,.c (.v (.int .i64 n))),(3,.c (.row 17))]) (fun n=>[(17,.row 5 1 (VV++inN (insOf m.il) n).length (.vs ((VV++inN (insOf m.il) n).map encB)))]) (fun n=>n<=m.il.length) (fun n=>m.il.length-n) 0 (Nat.zero_le _) ?_ (fun n hn=>?_)
  ·rw[show inN (insOf m.il) 0=[b8 m.il.length] by unfold inN;rw[insOf_len];rfl]
   refine Vs (Vk ?_ ?_)
   all_goals(try simp[encB,b8])
  have hinl:=inN_len hia n
  have hgl2:(VV++inN (insOf m.il) n).length=VV.length+(inN (insOf m.il) n).length:=List.length_append
  by_cases hlt:n<m.il.length
  ·have hgt:=List.getElem?_eq_getElem hlt
   have hrx:=hr.ir _ (List.getElem_mem hlt)
   generalize m.il[n]=x at *
   have hgi:=insOf_get hgt
   have hxb:=List.all_eq_true.1 hia _ (List.mem_of_getElem? hgi)
   have hs2:VV++inN (insOf m.il) (n+1)=VV++inN (insOf m.il) n++inB x.inp:=by rw[inN_succ hgi,List.append_assoc]
   have hxl:=inB_len hxb
   generalize VV++inN (insOf m.il) n=G at *
   have eB:List.map encB G++[[.int .u8 (IntKind.u8.wrap x.inp.src)]]=List.map encB (G++[b8 x.inp.src]):=by simp[encB,b8]
   have lB:G.length+1=(G++[b8 x.inp.src]).length:=by simp
   have hrl:x.inp.recs.length<=40:=by
    unfold inputB at hxb
    simp only[Bool.and_eq_true,decide_eq_true_eq] at hxb
    exact hxb.1.1
   have hs3:G++inB x.inp=(G++[b8 x.inp.src])++someB (rB (x.inp.recs.map elmR)):=by unfold inB;simp
   have hRl:(rB (x.inp.recs.map elmR)).length<=444:=by
    unfold inB someB at hxl
    rw[List.length_cons,List.length_append] at hxl
    omega
   refine Vo (Y1 fun hh=>?_)
   refine Sy.el_map x hgt (Vo ?_)
   refine Sy.ar_wrap (Vo ?_)
   refine Sy.need_app 1 rfl ⟨by omega,by omega⟩ ?_
   conv=>whnf
   rw[eB,lB]
   refine Vo ?_
   refine Sy.el_map x hgt (Vo ?_)
   refine open_x _ _ _ (hrx) (fun _ h=>h) (V ?_)
   refine Sy.call_r1 ⟨5,1,(rB (x.inp.recs.map elmR)).length,(rB (x.inp.recs.map elmR)).map encB⟩ (fun j=>.c (.row j)) Tryz.call43 (fun e a w' h=>rrec_row _ x.inp.recs w' (by exact Sy.row_reads h (.inr rfl)) (by omega)) (V ?_)
   refine Sy.call_r1 ⟨5,1,((G++[b8 x.inp.src])++someB (rB (x.inp.recs.map elmR))).length,((G++[b8 x.inp.src])++someB (rB (x.inp.recs.map elmR))).map encB⟩ (fun j=>.c (.row j)) Tryz.call41 (fun e a w' h=>rsome_any _ _ (G++[b8 x.inp.src]) (rB (x.inp.recs.map elmR)) w' (by exact Sy.row_reads h (.inl ⟨_,rfl⟩)) (by exact Sy.row_reads h (.inl ⟨_,rfl⟩)) (by omega) (by omega)) (V ?_)
   refine⟨n+1,by omega,by omega,?_⟩
   rw[hs2,hs3]
   exact Vs0
  obtain rfl:n=m.il.length:=by omega
  obtain⟨U,hUU⟩:∃U,U=VV++inN (insOf m.il) m.il.length:=⟨_,rfl⟩
  rw[<-hUU] at hgl2⊢
  refine V (Y1 fun hh=>?_)
  refine Sy.ar_wrap (V ?_)
  refine Sy.need_app 1 rfl ⟨by omega,by omega⟩ (V ?_)
  refine Sy.loop_inv Sy.tab_ok (fun n:Nat=>[(5,.c (.v (.int .i64 n))),(3,.c (.row 19))]) (fun n=>[(19,.row 5 1 (U++plN m.pls n).length (.vs ((U++plN m.pls n).map encB)))]) (fun n=>n<=m.pls.length) (fun n=>m.pls.length-n) 0 (Nat.zero_le _) ?_ (fun n hn=>?_)
  ·rw[show plN m.pls 0=[b8 m.pls.length] by unfold plN;rfl]
   refine Vs (Vk ?_ ?_)
   all_goals(try simp[encB,b8])
  have hpn:=plN_len m.pls n
  have hgl3:(U++plN m.pls n).length=U.length+(plN m.pls n).length:=List.length_append
  by_cases hlt:n<m.pls.length
  ·have hgt:=List.getElem?_eq_getElem hlt
   generalize m.pls[n]=x at *
   have hs2:U++plN m.pls (n+1)=U++plN m.pls n++[b8 x.task,b8 x.wkr]:=by rw[plN_succ hgt,List.append_assoc];rfl
   generalize U++plN m.pls n=G at *
   refine V (Y1 fun hh=>?_)
   refine Sy.draw_go [19] (by kernel_rfl) ?_
   intro e0
   conv=>whnf
   refine zt 0 rfl ?_
   conv=>whnf
   refine zt 1 rfl ?_
   conv=>whnf
   refine zt 2 rfl ?_
   conv=>whnf
   refine zt 3 rfl ?_
   conv=>whnf
   refine zt 4 rfl ?_
   conv=>whnf
   refine zt 5 rfl (V ?_)
   refine zt 6 rfl ?_
   conv=>whnf
   refine zt 7 rfl ?_
   conv=>whnf
   refine Sy.el_map x hgt ?_
   conv=>whnf
   refine zt 8 rfl (V ?_)
   refine Sy.ar_wrap ?_
   conv=>whnf
   refine zt 9 rfl ?_
   conv=>whnf
   refine zt 10 rfl ?_
   conv=>whnf
   refine zt 11 rfl ?_
   conv=>whnf
   refine zt 12 rfl ?_
   conv=>whnf
   refine zt 13 rfl (V ?_)
   refine zt 14 rfl ?_
   conv=>whnf
   refine zt 15 rfl ?_
   conv=>whnf
   refine Sy.el_map x hgt ?_
   conv=>whnf
   refine zt 16 rfl (V ?_)
   refine Sy.ar_wrap ?_
   conv=>whnf
   refine zd1 [17] (zx rfl ?_ zy)
   conv=>whnf
   refine Yk ?_
   refine zd1 [18] (zx rfl ?_ zy)
   conv=>whnf
   refine Sy.need_app 1 rfl ⟨by omega,by omega⟩ ?_
   conv=>whnf
   refine Yk ?_
   refine zt 19 rfl ?_
   conv=>whnf
   refine zw ?_
   skip
   refine V ?_
   refine⟨n+1,by omega,by omega,?_⟩
   rw[hs2]
   refine Vs (Vk ?_ ?_)
   all_goals(try simp[encB,b8])
  obtain rfl:n=m.pls.length:=by omega
  obtain⟨Z,hZ⟩:∃Z,Z=U++plN m.pls m.pls.length:=⟨_,rfl⟩
  rw[<-hZ] at hgl3⊢
  refine V (Y1 fun hh=>Y1 fun hh=>Y1 fun hh=>?_)
  refine Sy.call_r1 ⟨5,1,(Sn.sBs m.snap).length,(Sn.sBs m.snap).map encB⟩ (fun j=>.c (.row j)) Tryz.call44 (fun e a w' h=>by
   have:=Sn.rsbytes_any (m.at e.rv).sv w' (MOk.now h hr).s hS
   rw[show(m.at e.rv).sv.sn=m.snap from rfl] at this
   exact this) (V ?_)
  refine Sy.call_r1 ⟨5,1,(Z++Sn.sBs m.snap).length,(Z++Sn.sBs m.snap).map encB⟩ (fun j=>.c (.row j)) Tryz.call39 (fun e a w' h=>both_any _ _ (Z) (Sn.sBs m.snap) w' (by exact Sy.row_reads h (.inl ⟨_,rfl⟩)) (by exact Sy.row_reads h (.inl ⟨_,rfl⟩)) (by omega) (by omega)) (V (Y1 fun hh=>Y1 fun hh=>Y1 fun hh=>?_))
  rw[show layB m.msg=Z++Sn.sBs m.snap by
   rw[hZ,hUU,hV,<-hQ]
   unfold layB bodyL
   rw[if_pos (show m.msg.kind=1 from k1),hH]
   unfold depL inN plN
   rw[List.take_of_length_le (l:=insOf m.il) (by rw[insOf_len];exact Nat.le_refl _),List.take_length,List.append_assoc,List.append_assoc,List.append_assoc]
   rfl]
  exact Sy.fin_r1 (.row 21) rfl
 have hbs:Sn.rightP m.snap->(Sn.sBs m.snap).length<=5000:=snap_len
 by_cases k5:m.kind=5
 ·obtain⟨_,hS⟩:True/\Sn.rightP m.snap:=by
   unfold okM at hok
   have:=hok.1
   rw[body5 (m:=m.msg) k5] at this
   simp at this
   exact⟨trivial,this.2.2.2⟩
  have hSl:=hbs hS
  have hn8:(H++beN m.num 8).length=24:=by rw[List.length_append,hb3,hdl]
  refine V (Y1 fun hh=>?_)
  refine Sy.call_r1 ⟨5,1,(beN m.num 8).length,(beN m.num 8).map encB⟩ (fun j=>.c (.row j)) Tryz.call40 (fun e a w' h=>high_any 8 m.num w' hU.1 (by decide)) (V ?_)
  refine Sy.call_r1 ⟨5,1,(H++beN m.num 8).length,(H++beN m.num 8).map encB⟩ (fun j=>.c (.row j)) Tryz.call39 (fun e a w' h=>both_any _ _ (H) (beN m.num 8) w' (by exact Sy.row_reads h (.inl ⟨_,rfl⟩)) (by exact Sy.row_reads h (.inl ⟨_,rfl⟩)) (by omega) (by omega)) (V ?_)
  refine Sy.call_r1 ⟨5,1,(Sn.sBs m.snap).length,(Sn.sBs m.snap).map encB⟩ (fun j=>.c (.row j)) Tryz.call44 (fun e a w' h=>by
   have:=Sn.rsbytes_any (m.at e.rv).sv w' (MOk.now h hr).s hS
   rw[show(m.at e.rv).sv.sn=m.snap from rfl] at this
   exact this) (V ?_)
  refine Sy.call_r1 ⟨5,1,(H++beN m.num 8++Sn.sBs m.snap).length,(H++beN m.num 8++Sn.sBs m.snap).map encB⟩ (fun j=>.c (.row j)) Tryz.call39 (fun e a w' h=>both_any _ _ (H++beN m.num 8) (Sn.sBs m.snap) w' (by exact Sy.row_reads h (.inl ⟨_,rfl⟩)) (by exact Sy.row_reads h (.inl ⟨_,rfl⟩)) (by omega) (by omega)) (V (Y1 fun hh=>Y1 fun hh=>Y1 fun hh=>?_))
  rw[show layB m.msg=H++beN m.num 8++Sn.sBs m.snap by
   unfold layB bodyL
   rw[if_neg (by show ¬m.kind=1;omega),if_neg (by show ¬m.kind=3;omega),if_neg (by show ¬m.kind=4;omega),if_pos (show m.msg.kind=5 from k5),hH,List.append_assoc]
   rfl]
  exact Sy.fin_r1 (.row 17) rfl
 by_cases k3:m.kind=3
 ·refine V ?_
  refine Sy.call_r1 ⟨5,1,(beN m.num 8).length,(beN m.num 8).map encB⟩ (fun j=>.c (.row j)) Tryz.call40 (fun e a w' h=>high_any 8 m.num w' hU.1 (by decide)) (V ?_)
  refine Sy.call_r1 ⟨5,1,(H++beN m.num 8).length,(H++beN m.num 8).map encB⟩ (fun j=>.c (.row j)) Tryz.call39 (fun e a w' h=>both_any _ _ (H) (beN m.num 8) w' (by exact Sy.row_reads h (.inl ⟨_,rfl⟩)) (by exact Sy.row_reads h (.inl ⟨_,rfl⟩)) (by omega) (by omega)) (V (Y1 fun hh=>Y1 fun hh=>Y1 fun hh=>?_))
  rw[show layB m.msg=H++beN m.num 8 by
   unfold layB bodyL
   rw[if_neg (by show ¬m.kind=1;omega),if_pos (show m.msg.kind=3 from k3),hH]
   rfl]
  exact Sy.fin_r1 (.row 15) rfl
 by_cases k4:m.kind=4
 ·obtain⟨hN,hnl⟩:Sn.chain Sn.okT Sn.ltT none m.names=true/\m.names.length<=24:=by
   unfold okM at hok
   have:=hok.1
   rw[body4 (m:=m.msg) k4] at this
   simp at this
   exact⟨this.2.2,this.2.1.2⟩
  refine V ?_
  refine Sy.ar_wrap (V ?_)
  refine Sy.need_app 1 rfl ⟨by omega,by omega⟩ (V ?_)
  refine Sy.loop_inv Sy.tab_ok (fun n:Nat=>[(6,.c (.v (.int .i64 n))),(3,.c (.row 15))]) (fun n=>[(15,.row 5 1 (tlN m.msg n).length (.vs ((tlN m.msg n).map encB)))]) (fun n=>n<=m.names.length) (fun n=>m.names.length-n) 0 (Nat.zero_le _) ?_ (fun n hn=>?_)
  ·rw[show tlN m.msg 0=H++[b8 m.names.length] by unfold tlN;rw[hH];rfl]
   refine Vs (Vk ?_ ?_)
   all_goals(try simp[encB,b8])
  have hgl:=tlN_len m.msg n
  by_cases hlt:n<m.names.length
  ·have hgt:=List.getElem?_eq_getElem hlt
   have hxo:=Sn.chain_ok hN _ (List.getElem_mem hlt)
   generalize m.names[n]=x at *
   have hxo:Sn.okN x:=of_decide_eq_true hxo
   unfold Sn.okN at hxo
   have hs:=tlN_succ (m:=m.msg) hgt
   generalize tlN m.msg n=G at *
   have eB:List.map encB G++[[.int .u8 (IntKind.u8.wrap x.sink)]]=List.map encB (G++[b8 x.sink]):=by simp[encB,b8]
   have lB:G.length+1=(G++[b8 x.sink]).length:=by simp
   have c1:=beN_len x.att 4
   have c2:=beN_len x.ser 4
   have l1:(G++[b8 x.sink]++beN x.att 4).length=G.length+5:=by rw[List.length_append,c1,<-lB]
   rw[show G++Sn.nBs x=G++[b8 x.sink]++beN x.att 4++beN x.ser 4 by unfold Sn.nBs;simp] at hs
   refine V (Y1 fun hh=>?_)
   refine Sy.el_map x hgt (V ?_)
   refine Sy.ar_wrap (V ?_)
   refine Sy.need_app 1 rfl ⟨by omega,by omega⟩ ?_
   conv=>whnf
   rw[eB,lB]
   refine V ?_
   refine Sy.ar_u64 (by omega) (V ?_)
   refine Sy.call_r1 ⟨5,1,(beN x.att 4).length,(beN x.att 4).map encB⟩ (fun j=>.c (.row j)) Tryz.call40 (fun e a w' h=>high_any 4 x.att w' (by omega) (by decide)) (V ?_)
   refine Sy.call_r1 ⟨5,1,(G++[b8 x.sink]++beN x.att 4).length,(G++[b8 x.sink]++beN x.att 4).map encB⟩ (fun j=>.c (.row j)) Tryz.call39 (fun e a w' h=>both_any _ _ (G++[b8 x.sink]) (beN x.att 4) w' (by exact Sy.row_reads h (.inl ⟨_,rfl⟩)) (by exact Sy.row_reads h (.inl ⟨_,rfl⟩)) (by omega) (by omega)) (V ?_)
   refine Sy.ar_u64 (by omega) (V ?_)
   refine Sy.call_r1 ⟨5,1,(beN x.ser 4).length,(beN x.ser 4).map encB⟩ (fun j=>.c (.row j)) Tryz.call40 (fun e a w' h=>high_any 4 x.ser w' (by omega) (by decide)) (V ?_)
   refine Sy.call_r1 ⟨5,1,(G++[b8 x.sink]++beN x.att 4++beN x.ser 4).length,(G++[b8 x.sink]++beN x.att 4++beN x.ser 4).map encB⟩ (fun j=>.c (.row j)) Tryz.call39 (fun e a w' h=>both_any _ _ (G++[b8 x.sink]++beN x.att 4) (beN x.ser 4) w' (by exact Sy.row_reads h (.inl ⟨_,rfl⟩)) (by exact Sy.row_reads h (.inl ⟨_,rfl⟩)) (by omega) (by omega)) (V ?_)
   refine⟨n+1,by omega,by omega,?_⟩
   rw[hs]
   exact Vs0
  ·have e:n=m.names.length:=by omega
   subst e
   rw[show layB m.msg=tlN m.msg m.names.length by unfold layB bodyL tlN;rw[if_neg (by show ¬m.kind=1;omega),if_neg (by show ¬m.kind=3;omega),if_pos (show m.msg.kind=4 from k4)];unfold toldL;rw[show m.msg.names.take m.names.length=m.names from List.take_length];rfl]
   refine V (Y1 fun hh=>Y1 fun hh=>Y1 fun hh=>?_)
   exact Sy.fin_r1 (.row 15) rfl
 by_cases k6:m.kind=6
 ·obtain⟨hu,he⟩:tasksB m.up=true/\tasksB m.ended=true:=by
   unfold okM at hok
   have:=hok.1
   rw[body6 (m:=m.msg) k6] at this
   simp at this
   exact this.2
  have hul:=tasks_len hu
  have hel:=tasks_len he
  refine V ?_
  refine Sy.ar_wrap (V ?_)
  refine Sy.need_app 1 rfl ⟨by omega,by omega⟩ (V ?_)
  refine Sy.loop_inv Sy.tab_ok (fun k:Nat=>[(8,.c (.v (.int .i64 k))),(3,.c (.row 15))]) (fun k=>[(15,.row 5 1 (H++ints m.up k).length (.vs ((H++ints m.up k).map encB)))]) (fun k=>k<=m.up.length) (fun k=>m.up.length-k) 0 (Nat.zero_le _) ?_ (fun k hk=>?_)
  ·rw[show ints m.up 0=[b8 m.up.length] by unfold ints;rfl]
   refine Vs (Vk ?_ ?_)
   all_goals(try simp[encB,b8])
  have hil:=ints_len m.up k
  have hgl:(H++ints m.up k).length=H.length+(ints m.up k).length:=List.length_append
  by_cases hlt:k<m.up.length
  ·have hgt:=List.getElem?_eq_getElem hlt
   generalize m.up[k]=x at *
   have hs:H++ints m.up (k+1)=H++ints m.up k++[b8 x]:=by rw[ints_succ hgt,List.append_assoc]
   generalize H++ints m.up k=G at *
   refine V (Y1 fun hh=>?_)
   refine Sy.el_map x hgt (V ?_)
   refine Sy.ar_wrap (V ?_)
   refine Sy.need_app 1 rfl ⟨by omega,by omega⟩ (V ?_)
   refine⟨k+1,by omega,by omega,?_⟩
   rw[hs]
   refine Vs (Vk ?_ ?_)
   all_goals(try simp[encB,b8])
  obtain rfl:k=m.up.length:=by omega
  obtain⟨P,hP⟩:∃P,P=H++ints m.up m.up.length:=⟨_,rfl⟩
  rw[<-hP] at hgl⊢
  refine V (Y1 fun hh=>?_)
  refine Sy.ar_wrap (V ?_)
  refine Sy.need_app 1 rfl ⟨by omega,by omega⟩ (V ?_)
  refine Sy.loop_inv Sy.tab_ok (fun k:Nat=>[(9,.c (.v (.int .i64 k))),(3,.c (.row 17))]) (fun k=>[(17,.row 5 1 (P++ints m.ended k).length (.vs ((P++ints m.ended k).map encB)))]) (fun k=>k<=m.ended.length) (fun k=>m.ended.length-k) 0 (Nat.zero_le _) ?_ (fun k hk=>?_)
  ·rw[show ints m.ended 0=[b8 m.ended.length] by unfold ints;rfl]
   refine Vs (Vk ?_ ?_)
   all_goals(try simp[encB,b8])
  have hil:=ints_len m.ended k
  have hgl:(P++ints m.ended k).length=P.length+(ints m.ended k).length:=List.length_append
  by_cases hlt:k<m.ended.length
  ·have hgt:=List.getElem?_eq_getElem hlt
   generalize m.ended[k]=x at *
   have hs:P++ints m.ended (k+1)=P++ints m.ended k++[b8 x]:=by rw[ints_succ hgt,List.append_assoc]
   generalize P++ints m.ended k=G at *
   refine V (Y1 fun hh=>?_)
   refine Sy.el_map x hgt (V ?_)
   refine Sy.ar_wrap (V ?_)
   refine Sy.need_app 1 rfl ⟨by omega,by omega⟩ (V ?_)
   refine⟨k+1,by omega,by omega,?_⟩
   rw[hs]
   refine Vs (Vk ?_ ?_)
   all_goals(try simp[encB,b8])
  obtain rfl:k=m.ended.length:=by omega
  rw[show layB m.msg=P++ints m.ended m.ended.length by
   rw[hP]
   unfold layB bodyL
   rw[if_neg (by show ¬m.kind=1;omega),if_neg (by show ¬m.kind=3;omega),if_neg (by show ¬m.kind=4;omega),if_neg (by show ¬m.kind=5;omega),if_pos (show m.msg.kind=6 from k6),hH]
   unfold beatL ints
   rw[List.take_length,List.take_length,List.append_assoc];rfl]
  refine V (Y1 fun hh=>Y1 fun hh=>?_)
  exact Sy.fin_r1 (.row 17) rfl
 by_cases k8:m.kind=8
 ·have hp:pktP m.pkt:=by
   unfold okM at hok
   have:=hok.1
   rw[body8 (m:=m.msg) k8] at this
   simp at this
   exact this.2.2
  obtain⟨hp1,hp2,hp3⟩:=hp
  unfold numP at hp2
  have eB:List.map encB H++[[.int .u8 (IntKind.u8.wrap m.pkt.kind)]]=List.map encB (H++[b8 m.pkt.kind]):=by simp[encB,b8]
  have lB:H.length+1=(H++[b8 m.pkt.kind]).length:=by simp
  obtain⟨D,hD⟩:∃D,D=H++[b8 m.pkt.kind]:=⟨_,rfl⟩
  rw[<-hD] at eB lB
  have c1:=beN_len m.pkt.ses 4
  have c2:=beN_len m.pkt.seq 8
  have c3:=beN_len m.pkt.lim 8
  have l1:(D++beN m.pkt.ses 4).length=D.length+4:=by rw[List.length_append,c1]
  have l2:(D++beN m.pkt.ses 4++beN m.pkt.seq 8).length=D.length+12:=by rw[List.length_append,c2,l1]
  have l3:(D++beN m.pkt.ses 4++beN m.pkt.seq 8++beN m.pkt.lim 8).length=D.length+20:=by rw[List.length_append,c3,l2]
  refine V ?_
  refine Sy.ar_wrap (V ?_)
  refine Sy.need_app 1 rfl ⟨by omega,by omega⟩ ?_
  conv=>whnf
  rw[eB,lB]
  refine V ?_
  refine Sy.ar_u64 (by omega) (V ?_)
  refine Sy.call_r1 ⟨5,1,(beN m.pkt.ses 4).length,(beN m.pkt.ses 4).map encB⟩ (fun j=>.c (.row j)) Tryz.call40 (fun e a w' h=>high_any 4 m.pkt.ses w' (by omega) (by decide)) (V ?_)
  refine Sy.call_r1 ⟨5,1,(D++beN m.pkt.ses 4).length,(D++beN m.pkt.ses 4).map encB⟩ (fun j=>.c (.row j)) Tryz.call39 (fun e a w' h=>both_any _ _ (D) (beN m.pkt.ses 4) w' (by exact Sy.row_reads h (.inl ⟨_,rfl⟩)) (by exact Sy.row_reads h (.inl ⟨_,rfl⟩)) (by omega) (by omega)) (V ?_)
  refine Sy.call_r1 ⟨5,1,(beN m.pkt.seq 8).length,(beN m.pkt.seq 8).map encB⟩ (fun j=>.c (.row j)) Tryz.call40 (fun e a w' h=>high_any 8 m.pkt.seq w' (by omega) (by decide)) (V ?_)
  refine Sy.call_r1 ⟨5,1,(D++beN m.pkt.ses 4++beN m.pkt.seq 8).length,(D++beN m.pkt.ses 4++beN m.pkt.seq 8).map encB⟩ (fun j=>.c (.row j)) Tryz.call39 (fun e a w' h=>both_any _ _ (D++beN m.pkt.ses 4) (beN m.pkt.seq 8) w' (by exact Sy.row_reads h (.inl ⟨_,rfl⟩)) (by exact Sy.row_reads h (.inl ⟨_,rfl⟩)) (by omega) (by omega)) (V ?_)
  refine Sy.call_r1 ⟨5,1,(beN m.pkt.lim 8).length,(beN m.pkt.lim 8).map encB⟩ (fun j=>.c (.row j)) Tryz.call40 (fun e a w' h=>high_any 8 m.pkt.lim w' hU.2 (by decide)) (V ?_)
  refine Sy.call_r1 ⟨5,1,(D++beN m.pkt.ses 4++beN m.pkt.seq 8++beN m.pkt.lim 8).length,(D++beN m.pkt.ses 4++beN m.pkt.seq 8++beN m.pkt.lim 8).map encB⟩ (fun j=>.c (.row j)) Tryz.call39 (fun e a w' h=>both_any _ _ (D++beN m.pkt.ses 4++beN m.pkt.seq 8) (beN m.pkt.lim 8) w' (by exact Sy.row_reads h (.inl ⟨_,rfl⟩)) (by exact Sy.row_reads h (.inl ⟨_,rfl⟩)) (by omega) (by omega)) ?_
  have hL:layB m.msg=D++beN m.pkt.ses 4++beN m.pkt.seq 8++beN m.pkt.lim 8++someB (if m.pkt.kind=1 then rB [m.pkt.elem] else[]):=by
   rw[hD]
   unfold layB bodyL
   rw[if_neg (by show ¬m.kind=1;omega),if_neg (by show ¬m.kind=3;omega),if_neg (by show ¬m.kind=4;omega),if_neg (by show ¬m.kind=5;omega),if_neg (by show ¬m.kind=6;omega),if_pos (show m.msg.kind=8 from k8),hH]
   unfold dataL
   simp only[List.append_assoc];rfl
  generalize D++beN m.pkt.ses 4++beN m.pkt.seq 8++beN m.pkt.lim 8=L at *
  rw[hL]
  by_cases hk1:m.pkt.kind=1
  ·have he:elemP m.pkt.elem:=by
    rcases hp3 with h|h
    ·exact h.2.2
    ·omega
   have hrl:=rN_len [m.pkt.elem] 1
   rw[if_pos hk1]
   refine V ?_
   refine Sy.call_r1 ⟨5,1,(rB [m.pkt.elem]).length,(rB [m.pkt.elem]).map encB⟩ (fun j=>.c (.row j)) Tryz.call45 (fun e a w' h=>rrow_any _ [m.pkt.elem] w' (by exact Sy.row_reads h (.inl ⟨_,rfl⟩)) (by simp) (fun x hx=>by
    rw[List.mem_singleton.1 hx]
    unfold elemP numP at he
    omega)) ?_
   have hrl:(rB [m.pkt.elem]).length<=12:=hrl
   generalize rB [m.pkt.elem]=R at *
   refine V ?_
   refine Sy.call_r1 ⟨5,1,(L++someB R).length,(L++someB R).map encB⟩ (fun j=>.c (.row j)) Tryz.call41 (fun e a w' h=>rsome_any _ _ L R w' (by exact Sy.row_reads h (.inl ⟨_,rfl⟩)) (by exact Sy.row_reads h (.inl ⟨_,rfl⟩)) (by omega) (by omega)) (V ?_)
   exact Sy.fin_r1 (.row 25) rfl
  ·rw[if_neg hk1]
   refine V ?_
   refine Sy.call_r1 ⟨5,1,(L++someB []).length,(L++someB []).map encB⟩ (fun j=>.c (.row j)) Tryz.call41 (fun e a w' h=>rsome_any _ _ L [] w' (by exact Sy.row_reads h (.inl ⟨_,rfl⟩)) nil_ok (by omega) (by decide)) (V ?_)
   exact Sy.fin_r1 (.row 23) rfl
 refine V ?_
 rw[show layB m.msg=H by unfold layB bodyL;rw[if_neg (show ¬m.msg.kind=1 from k1),if_neg (show ¬m.msg.kind=3 from k3),if_neg (show ¬m.msg.kind=4 from k4),if_neg (show ¬m.msg.kind=5 from k5),if_neg (show ¬m.msg.kind=6 from k6),if_neg (show ¬m.msg.kind=8 from k8),List.append_nil,hH]]
 exact Sy.fin_r1 (.row 13) rfl
end Go.Proofs.YtgkkpefpbfadoaaGreat
namespace Go.Proofs.YtgkkpefpbfadoaaGreat
open Go Go.RowKit
open Sy (C SV V1 Blk St XD Els)
set_option maxRecDepth 10000
theorem okM_num {m:Msg}(h:okM m):0<=m.num:=by
 unfold okM at h
 obtain⟨hk,hb,_⟩:=h
 unfold bareM at hb
 have h2:=hb.2.1
 by_cases k3:m.kind=3
 ·rw[body3 k3] at hk
  simp only[Bool.and_eq_true,decide_eq_true_eq] at hk
  have h1:1<=m.num:=hk.2.1
  omega
 by_cases k5:m.kind=5
 ·rw[body5 k5] at hk
  simp only[Bool.and_eq_true,decide_eq_true_eq] at hk
  have h1:1<=m.num:=hk.2.2.1.1
  omega
 omega
attribute [local irreducible] msgB decM okM layB
theorem rbytes_any (m:MsgV)(w:World)(hr:MOk (fun b=>b<w.heap.size) w m)(hok:okM m.msg)(hl:0<=m.pkt.lim):
 Calls Tryz.prog 12 #[.agg (encM m).toArray] w (Sy.RetRows Sy.noRow (fun _:Unit=>True) (fun _=>[⟨5,1,(msgB m.msg).length,(msgB m.msg).map encB⟩]) (fun _ vs=>vs.headD undef) w):=by
 have hn:=layB_len hok
 have hz:msgB m.msg=layB m.msg++beN (sumV (layB m.msg)) 4:=by unfold msgB;rfl
 refine Sy.calls_of Sy.lv12 Sy.tab_ok Tryz.func12 rfl _ Tryz.ntmps12 [] [.agg (cellsM C.v m fun i=>.v (m.v i))] rfl (lt_one (Sy.ltAll_v (msg_one hr))) rfl trivial (V ?_)
 refine Sy.call_r1 ⟨5,1,(layB m.msg).length,(layB m.msg).map encB⟩ (fun j=>.c (.row j)) Tryz.call15 (fun e a w' h=>rlay_any m w' (MOk.later h hr) hok ⟨okM_num hok,hl⟩) (V ?_)
 refine Sy.call_r1 ⟨5,1,(msgB m.msg).length,(msgB m.msg).map encB⟩ (fun j=>.c (.row j)) Tryz.call16 (fun e a w' h=>by rw[hz];exact rseal_any _ (layB m.msg) w' (by exact Sy.row_reads h (.inl ⟨_,rfl⟩)) (layB_by m.msg) (by omega)) (V ?_)
 exact Sy.fin_r1 (.row 2) rfl
set_option maxHeartbeats 8000000 in
theorem lbytes_any (m:MsgV)(w:World)(hr:MOk (fun b=>b<w.heap.size) w m)(hm:MW m.msg)(hs:I64 m.src)(hd:I64 m.dst):
 Calls Tryz.prog 3 #[.agg (encM m).toArray] w (Sy.Ret (.bool true) w):=by
 refine Sy.calls_of Sy.lv3 Sy.tab_ok Tryz.func3 rfl _ Tryz.ntmps3 [] [.agg (cellsM C.v m fun i=>.v (m.v i))] rfl (lt_one (Sy.ltAll_v (msg_one hr))) rfl trivial (V ?_)
 refine Sy.call_val (.c (.v (.bool true))) Tryz.call7 rfl (fun e a w' h=>fwakes_any w') (V ?_)
 refine Sy.call_ex (fun b:Bool=>b=false->m.il.length<=20) (fun b=>.c (.v (.bool b))) Tryz.call8 (fun _ _=>rfl) (fun e a w' h=>over_any m w' (MOk.later h hr)) (fun o ho=>?_)
 cases o with
 |true=>(exact V0)
 |false=>
  have hil:=ho rfl
  refine V ?_
  refine Sy.call_r1 ⟨5,1,(encMs m.msg).length,(encMs m.msg).map encB⟩ (fun j=>.tup [.c (.row j),.c (.v (.int .i64 (chkM m.msg)))]) Tryz.call9 (fun e a w' h=>fenc_any m w' (MOk.later h hr) (by omega) hs hd) (V ?_)
  refine Sy.call_val (.c (.v (.bool (decide (okM m.msg))))) Tryz.call10 rfl (fun e a w' h=>right27_any m w' (MOk.later h hr) (by omega)) ?_
  by_cases hok:okM m.msg
  ·rw[show encMs m.msg=msgB m.msg from if_pos hok,show chkM m.msg=0 from if_pos hok,decide_eq_true hok]
   refine V ?_
   refine Sy.call_r1 ⟨5,1,(msgB m.msg).length,(msgB m.msg).map encB⟩ (fun j=>.c (.row j)) Tryz.call12 (fun e a w' h=>rbytes_any m w' (MOk.later h hr) hok hm.l) (V ?_)
   refine Sy.call_val (.c (.v (.bool true))) Tryz.call11 rfl (fun e a w' h=>by
    have:=sameB_any _ _ (msgB m.msg) (msgB m.msg) w' (by exact Sy.row_reads h (k:=1) (.inl ⟨_,rfl⟩)) (by exact Sy.row_reads h (k:=2) (.inl ⟨_,rfl⟩))
    rw[decide_eq_true rfl] at this
    exact this) V0
  ·rw[show encMs m.msg=[] from if_neg hok,show chkM m.msg=370 from if_neg hok,decide_eq_false hok]
   exact V0
end Go.Proofs.YtgkkpefpbfadoaaGreat
