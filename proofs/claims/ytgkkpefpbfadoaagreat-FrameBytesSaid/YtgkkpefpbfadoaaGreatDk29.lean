/- Frame: a message's bytes. -/
import Derived.Test.YtgkkpefpbfadoaaGreatDk26
import Derived.Test.YtgkkpefpbfadoaaGreatDk27
import Derived.Test.YtgkkpefpbfadoaaGreatDk28
namespace Go.Proofs.YtgkkpefpbfadoaaGreat
open Go Go.RowKit
open Sy (C SV V1 Blk St XD Els yt yt1 yd1 yw)
set_option maxRecDepth 10000
def hdB (m:Msg):List Int:=[b8 m.kind,b8 m.src,b8 m.dst,b8 m.task]++beN m.epoch 8++beN m.att 4
def someB (l:List Int):List Int:=beN l.length 2++l
def elmR (r:Rc):Elm:=⟨1,r,0⟩
def inB (x:Inp):List Int:=b8 x.src::someB (rB (x.recs.map elmR))
def plB (p:Plc):List Int:=[b8 p.task,b8 p.wkr]
def depL (m:Msg):List Int:=someB (gBs m.gr)++((b8 m.ins.length::(m.ins.map inB).flatten)++((b8 m.pls.length::(m.pls.map plB).flatten)++Sn.sBs m.snap))
def toldL (m:Msg):List Int:=b8 m.names.length::(m.names.map Sn.nBs).flatten
def ackL (m:Msg):List Int:=beN m.num 8++Sn.sBs m.snap
def beatL (m:Msg):List Int:=(b8 m.up.length::m.up.map b8)++(b8 m.ended.length::m.ended.map b8)
def dataL (m:Msg):List Int:=[b8 m.pkt.kind]++beN m.pkt.ses 4++beN m.pkt.seq 8++beN m.pkt.lim 8++someB (if m.pkt.kind=1 then rB [m.pkt.elem] else[])
def bodyL (m:Msg):List Int:=if m.kind=1 then depL m else if m.kind=3 then beN m.num 8 else if m.kind=4 then toldL m else if m.kind=5 then ackL m else if m.kind=6 then beatL m else if m.kind=8 then dataL m else[]
def layB (m:Msg):List Int:=hdB m++bodyL m
def wrC (m:MsgV)(b:C):List C:=cellsM C.v m C.row++[b]
theorem hdB_len (m:Msg):(hdB m).length=16:=by
 unfold hdB
 simp only[List.length_append,beN_len,List.length_cons,List.length_nil]
theorem hdB_eq (m:MsgV):[b8 m.kind,b8 m.src,b8 m.dst,b8 m.task]++beN m.epoch 8++beN m.att 4=hdB m.msg:=rfl
def tlN (m:Msg)(n:Nat):List Int:=hdB m++(b8 m.names.length::((m.names.take n).map Sn.nBs).flatten)
theorem tlN_succ {m:Msg}{n:Nat}{x:Sn.Tx}(h:m.names[n]?=some x):tlN m (n+1)=tlN m n++Sn.nBs x:=by unfold tlN;rw[flat_succ h];simp
theorem tlN_len (m:Msg)(n:Nat):(tlN m n).length<=17+9*n:=by
 have:=flat_len (f:=Sn.nBs) (k:=9) (fun x=>Nat.le_of_eq (Sn.nBs_len x)) m.names n
 unfold tlN
 rw[List.length_append,List.length_cons,hdB_len];omega
def ints (l:List Int)(n:Nat):List Int:=b8 l.length::(l.take n).map b8
def btN (m:Msg):Nat->List Int
 |0=>hdB m
 |1=>hdB m++ints m.up m.up.length
 |_=>hdB m++ints m.up m.up.length++ints m.ended m.ended.length
theorem ints_succ {l:List Int}{n:Nat}{x:Int}(h:l[n]?=some x):ints l (n+1)=ints l n++[b8 x]:=by
 obtain⟨hn,he⟩:=List.getElem?_eq_some_iff.1 h
 unfold ints
 rw[List.take_succ_eq_append_getElem hn,he,List.map_append];rfl
theorem ints_len (l:List Int)(n:Nat):(ints l n).length<=1+n:=by
 unfold ints
 rw[List.length_cons,List.length_map]
 have:=List.length_take_le n l
 omega
theorem tasks_len {l:List Int}(h:tasksB l=true):l.length<=16:=by
 have key:∀(l:List Int)(p:Option Int)(b:Int),Sn.chain (fun n=>decide (taskP n)) (fun a b=>decide (a<b)) p l=true->(∀x,p=some x->b<=x)->0<=b+1->b<16->(p=none->b=-1)->(l.length:Int)<=15-b:=by
  intro l
  induction l with
  |nil=>intro p b _ _ _ h2 _;simp;omega
  |cons x r ih=>
   intro p b hc hp h1 h2 h3
   have hx:taskP x/\b<x/\Sn.chain (fun n=>decide (taskP n)) (fun a b=>decide (a<b)) (some x) r=true:=by
    cases p with
    |none=>
     simp only[Sn.chain,Bool.and_eq_true,decide_eq_true_eq] at hc
     have:=h3 rfl
     have h4:=hc.1
     unfold taskP at h4
     exact⟨hc.1,by omega,hc.2⟩
    |some y=>
     simp only[Sn.chain,Bool.and_eq_true,decide_eq_true_eq] at hc
     have:=hp y rfl
     exact⟨hc.1.1,by omega,hc.2⟩
   obtain⟨hx1,hx2,hx3⟩:=hx
   unfold taskP at hx1
   have:=ih (some x) x hx3 (fun y hy=>by cases hy;exact Int.le_refl _) (by omega) (by omega) (fun h=>by cases h)
   rw[List.length_cons]
   omega
 have:=key l none (-1) h (fun x hx=>by cases hx) (by omega) (by omega) (fun _=>rfl)
 omega
def inN (l:List Inp)(n:Nat):List Int:=b8 l.length::((l.take n).map inB).flatten
theorem inN_succ {l:List Inp}{n:Nat}{x:Inp}(h:l[n]?=some x):inN l (n+1)=inN l n++inB x:=by unfold inN;rw[flat_succ h];rfl
theorem deno_ins {g:List Opr}{l:List Inp}(h:denoE g l=0):l.all inputB=true/\srcsI l=sortL (wants g):=by
 have hc:=deno_chk h
 unfold denoE at h
 rw[if_neg (fun hn=>hn hc)] at h
 split at h
 ·rename_i ha
  split at h
  ·rename_i hs;exact⟨ha,hs⟩
  ·cases h
 ·cases h
theorem inB_len {x:Inp}(h:inputB x=true):(inB x).length<=444:=by
 unfold inputB at h
 simp only[Bool.and_eq_true,decide_eq_true_eq] at h
 have h1:=rN_len (x.recs.map elmR) (x.recs.map elmR).length
 have h2:=beN_len (rB (x.recs.map elmR)).length 2
 unfold inB someB
 rw[List.length_cons,List.length_append,h2]
 unfold rB
 rw[List.length_map] at h1⊢
 omega
theorem inN_len {l:List Inp}(h:l.all inputB=true)(n:Nat):(inN l n).length<=1+444*n:=by
 unfold inN
 rw[List.length_cons]
 have:∀n,((l.take n).map inB).flatten.length<=444*n:=fun n=>by
  induction n with
  |zero=>simp
  |succ n ih=>
   by_cases hn:n<l.length
   ·rw[flat_succ (List.getElem?_eq_getElem hn),List.length_append]
    have:=inB_len (List.all_eq_true.1 h _ (List.getElem_mem hn))
    omega
   ·rw[List.take_of_length_le (by omega)] at ih⊢
    omega
 have:=this n
 omega
def plN (l:List Plc)(n:Nat):List Int:=b8 l.length::((l.take n).map plB).flatten
theorem plN_succ {l:List Plc}{n:Nat}{x:Plc}(h:l[n]?=some x):plN l (n+1)=plN l n++plB x:=by unfold plN;rw[flat_succ h];rfl
theorem plN_len (l:List Plc)(n:Nat):(plN l n).length<=1+2*n:=by
 have:=flat_len (f:=plB) (k:=2) (fun _=>Nat.le_refl _) l n
 unfold plN
 rw[List.length_cons];omega
theorem laid_pls {g:List Opr}{l:List Inp}{p:List Plc}(h:laidE g l p=0):p.length<=24:=by
 have hd:=laid_deno h
 have hc:=deno_chk hd
 unfold laidE at h
 rw[if_neg (fun hn=>hn hd)] at h
 split at h
 ·rename_i h1
  have h2:=h1.1
  unfold subtasks at h2
  rw[if_pos hc] at h2
  have h3:=wideN_le g.length (check_good hc)
  have h4:=(check_ok hc).2.1
  omega
 ·cases h
theorem enc_snap {s:Sn.Sn}(h:Sn.rightP s):Sn.encV s=Sn.sBs s:=if_pos h
theorem snap_len {s:Sn.Sn}(h:Sn.rightP s):(Sn.sBs s).length<=5000:=by
 have h1:=Sn.sN_len s s.txs.length (Nat.le_refl _)
 have h2:=Sn.rows_len (Sn.tbl_rows h.2.2.1)
 have h3:=Sn.names_len h.2.2.2.1
 unfold Sn.sBs;omega
attribute [local irreducible] okM beN hdB Sn.sBs Sn.rightP tlN
set_option maxHeartbeats 16000000 in
theorem flay_any (m:MsgV)(w:World)(hr:MOk (fun b=>b<w.heap.size) w m)(hok:okM m.msg):
 Calls Tryz.prog 21 #[.agg (encM m).toArray] w (Sy.RetRows Sy.noRow (fun _:Unit=>True) (fun _=>[⟨5,1,(layB m.msg).length,(layB m.msg).map encB⟩]) (fun _ vs=>vs.headD undef) w):=by
 have hatt:1<=m.att/\m.att<=1048576:=by unfold okM at hok;exact hok.2.2.2
 have w1:IntKind.u32.wrap m.att=m.att:=by rw[IntKind.wrap_u32];omega
 have hb1:=beN_len m.epoch 8
 have hb2:=beN_len m.att 4
 have hb3:=beN_len m.num 8
 have hdl:=hdB_len m.msg
 refine Sy.calls_of Sy.lv21 Sy.tab_ok Tryz.func21 rfl _ Tryz.ntmps21 (slicesM m) [.agg (cellsM C.v m C.row)] rfl rfl rfl hr.facts ?_
 ((repeat' first|refine Y ?_|refine Y2 ?_ ?_|refine Y1 fun hh=>?_|exact Y0.mk);(all_goals(try conv=>whnf)))
 refine Sy.draw_go [9] (by kernel_rfl) ?_
 intro e0
 conv=>whnf
 refine zt 0 rfl ?_
 conv=>whnf
 refine zt 1 rfl ?_
 conv=>whnf
 refine zt 2 rfl ?_
 conv=>whnf
 refine zt 3 rfl ?_
 ((repeat' first|refine Y ?_|refine Y2 ?_ ?_|refine Y1 fun hh=>?_|exact Y0.mk);(all_goals(try conv=>whnf)))
 refine Sy.ar_wrap ?_
 conv=>whnf
 refine zt 4 rfl ?_
 conv=>whnf
 refine zt 5 rfl ?_
 conv=>whnf
 refine zt 6 rfl ?_
 ((repeat' first|refine Y ?_|refine Y2 ?_ ?_|refine Y1 fun hh=>?_|exact Y0.mk);(all_goals(try conv=>whnf)))
 refine Sy.ar_wrap ?_
 conv=>whnf
 refine zt 7 rfl ?_
 conv=>whnf
 refine zt 8 rfl ?_
 conv=>whnf
 refine zt 9 rfl ?_
 ((repeat' first|refine Y ?_|refine Y2 ?_ ?_|refine Y1 fun hh=>?_|exact Y0.mk);(all_goals(try conv=>whnf)))
 refine Sy.ar_wrap ?_
 conv=>whnf
 refine zt 10 rfl ?_
 conv=>whnf
 refine zt 11 rfl ?_
 conv=>whnf
 refine zt 12 rfl ?_
 ((repeat' first|refine Y ?_|refine Y2 ?_ ?_|refine Y1 fun hh=>?_|exact Y0.mk);(all_goals(try conv=>whnf)))
 refine Sy.ar_wrap ?_
 conv=>whnf
 refine zt 14 rfl ?_
 conv=>whnf
 refine zt 15 rfl ?_
 conv=>whnf
 refine zt 17 rfl ?_
 conv=>whnf
 refine zt 18 rfl ?_
 conv=>whnf
 refine zt 19 rfl ?_
 ((repeat' first|refine Y ?_|refine Y2 ?_ ?_|refine Y1 fun hh=>?_|exact Y0.mk);(all_goals(try conv=>whnf)))
 refine Sy.ar_wrap ?_
 rw[w1]
 conv=>whnf
 refine zd1 [13] (zx rfl ?_ zy)
 conv=>whnf
 refine Yk ?_
 refine zd1 [16] (zx rfl ?_ zy)
 conv=>whnf
 refine Sy.call_r1 ⟨5,1,([b8 m.kind,b8 m.src,b8 m.dst,b8 m.task]++beN m.epoch 8).length,([b8 m.kind,b8 m.src,b8 m.dst,b8 m.task]++beN m.epoch 8).map encB⟩ (fun j=>.c (.row j)) Tryz.call59 (fun e a w' h=>put64_any (e.rv 10) [b8 m.kind,b8 m.src,b8 m.dst,b8 m.task] m.epoch w' (Sy.row_reads h (.inl ⟨_,rfl⟩)) (by simp)) ?_
 conv=>whnf
 refine Yk ?_
 refine zd1 [20] (zx rfl ?_ zy)
 conv=>whnf
 refine Sy.call_r1 ⟨5,1,(hdB m.msg).length,(hdB m.msg).map encB⟩ (v:=fun _ vs=>vs.headD undef) (fun j=>.c (.row j)) Tryz.call57 (fun e a w' h=>(by rw[<-hdB_eq];exact put32_any (e.rv 11) ([b8 m.kind,b8 m.src,b8 m.dst,b8 m.task]++beN m.epoch 8) m.att w' (Sy.row_reads h (.inl ⟨_,rfl⟩)) (by rw[List.length_append,hb1];simp) (by omega))) ?_
 conv=>whnf
 refine Yk ?_
 refine zt 21 rfl ?_
 conv=>whnf
 refine zt 22 rfl ?_
 conv=>whnf
 refine zd1 [23] (zx rfl ?_ zy)
 conv=>whnf
 refine Yk ?_
 refine zw ?_
 skip
 ((repeat' first|refine Y ?_|refine Y2 ?_ ?_|refine Y1 fun hh=>?_|exact Y0.mk);(all_goals(try conv=>whnf)))
 refine Sy.findC_int [] 1 none rfl ?_
 ((repeat' first|refine Y ?_|refine Y2 ?_ ?_|refine Y1 fun hh=>?_|exact Y0.mk);(all_goals(try conv=>whnf)))
 refine Sy.findC_int [1] 3 none rfl ?_
 ((repeat' first|refine Y ?_|refine Y2 ?_ ?_|refine Y1 fun hh=>?_|exact Y0.mk);(all_goals(try conv=>whnf)))
 refine Sy.findC_int [1,3] 4 none rfl ?_
 ((repeat' first|refine Y ?_|refine Y2 ?_ ?_|refine Y1 fun hh=>?_|exact Y0.mk);(all_goals(try conv=>whnf)))
 refine Sy.findC_int [1,3,4] 5 none rfl ?_
 ((repeat' first|refine Y ?_|refine Y2 ?_ ?_|refine Y1 fun hh=>?_|exact Y0.mk);(all_goals(try conv=>whnf)))
 refine Sy.findC_int [1,3,4,5] 6 none rfl ?_
 ((repeat' first|refine Y ?_|refine Y2 ?_ ?_|refine Y1 fun hh=>?_|exact Y0.mk);(all_goals(try conv=>whnf)))
 refine Sy.findC_int [1,3,4,5,6] 8 none rfl ?_
 ((repeat' first|refine Y ?_|refine Y2 ?_ ?_|refine Y1 fun hh=>?_|exact Y0.mk);(all_goals(try conv=>whnf)))
 by_cases k1:m.kind=1
 ·obtain⟨hL,ht,hf⟩:laidE m.msg.gr m.msg.ins m.msg.pls=0/\(0<=m.task/\m.task<m.pls.length)/\Sn.fitsP m.msg.gr m.snap:=by
   unfold okM at hok
   have:=hok.1
   rw[body1 (m:=m.msg) k1] at this
   simp only[Bool.and_eq_true] at this
   have h2:=this.2
   unfold depB at h2
   simp only[Bool.and_eq_true,decide_eq_true_eq] at h2
   exact h2.1
  have hgc:(checkV (opsOf m.gl)).2=0:=deno_chk (laid_deno hL)
  have hgl:(gBs (opsOf m.gl)).length<=2000:=by
   have h1:=(check_ok hgc).2.1
   have h2:=gN_len (insOk_good hgc).ops (opsOf m.gl).length (Nat.le_refl _)
   unfold gBs;omega
  refine Sy.findC_int [1,3,4,5,6,8] m.kind (some 0) (by rw[k1];rfl) ?_
  ((repeat' first|refine Y ?_|refine Y2 ?_ ?_|refine Y1 fun hh=>?_|exact Y0.mk);(all_goals(try conv=>whnf)))
  refine Sy.call_in Sy.lv60 Sy.tab_ok Tryz.func60 rfl _ Tryz.ntmps60 Tryz.call60 rfl (fun _=>?_)
  ((repeat' first|refine Y ?_|refine Y2 ?_ ?_|refine Y1 fun hh=>?_|exact Y0.mk);(all_goals(try conv=>whnf)))
  refine Sy.call_r1 ⟨5,1,(gBs (opsOf m.gl)).length,(gBs (opsOf m.gl)).map encB⟩ (fun j=>.tup [.c (.row j),.c (.v (.int .i64 0))]) Tryz.call112 (fun e a w' h=>by
   have:=encode_any (e.rv 0) m.gl w' (MOk.now h hr).g
   rw[show encG (opsOf m.gl)=gBs (opsOf m.gl) from if_pos hgc,hgc] at this
   exact this) ?_
  generalize hQ:gBs (opsOf m.gl)=Q at *
  have c4:=beN_len Q.length 2
  have l4:(hdB m.msg++beN Q.length 2).length=18:=by rw[List.length_append,c4,hdl]
  ((repeat' first|refine Y ?_|refine Y2 ?_ ?_|refine Y1 fun hh=>?_|exact Y0.mk);(all_goals(try conv=>whnf)))
  refine Sy.call_in Sy.lv113 Sy.tab_ok Tryz.func113 rfl _ Tryz.ntmps113 Tryz.call113 rfl (fun _=>?_)
  ((repeat' first|refine Y ?_|refine Y2 ?_ ?_|refine Y1 fun hh=>?_|exact Y0.mk);(all_goals(try conv=>whnf)))
  refine Sy.ar_wrap ?_
  rw[show IntKind.u16.wrap (Q.length:Int)=(Q.length:Int) by rw[IntKind.wrap_u16];omega]
  ((repeat' first|refine Y ?_|refine Y2 ?_ ?_|refine Y1 fun hh=>?_|exact Y0.mk);(all_goals(try conv=>whnf)))
  refine Sy.call_r1 ⟨5,1,(hdB m.msg++beN Q.length 2).length,(hdB m.msg++beN Q.length 2).map encB⟩ (fun j=>.c (.row j)) Tryz.call158 (fun e a w' h=>put16_any (e.rv 12) (hdB m.msg) Q.length w' (Sy.row_reads h (.inl ⟨_,rfl⟩)) (by omega) (by omega)) ?_
  ((repeat' first|refine Y ?_|refine Y2 ?_ ?_|refine Y1 fun hh=>?_|exact Y0.mk);(all_goals(try conv=>whnf)))
  refine Sy.need_app 1 rfl ⟨by omega,by omega⟩ ?_
  conv=>whnf
  have hV:∃V,V=hdB m.msg++someB Q:=⟨_,rfl⟩
  obtain⟨V,hV⟩:=hV
  have eB:List.map encB (hdB m.msg++beN Q.length 2)++List.map encB Q=List.map encB V:=by rw[hV,<-List.map_append];unfold someB;rw[List.append_assoc]
  have lB:(hdB m.msg++beN Q.length 2).length+Q.length=V.length:=by rw[hV,<-List.length_append];unfold someB;rw[List.append_assoc]
  rw[eB,lB]
  have hVl:V.length<=2018:=by omega
  ((repeat' first|refine Y ?_|refine Y2 ?_ ?_|refine Y1 fun hh=>?_|exact Y0.mk);(all_goals(try conv=>whnf)))
  refine Sy.drawB2_go [9] [13,22] [18] (by kernel_rfl) ?_
  intro e0
  conv=>whnf
  refine yt 0 rfl ?_
  conv=>whnf
  refine yt 1 rfl ?_
  conv=>whnf
  refine yt 2 rfl ?_
  conv=>whnf
  refine yt 3 rfl ?_
  conv=>whnf
  refine yt 4 rfl ?_
  conv=>whnf
  refine yt 5 rfl ?_
  conv=>whnf
  refine yt 6 rfl ?_
  conv=>whnf
  refine yt 7 rfl ?_
  conv=>whnf
  refine yt 8 rfl ?_
  conv=>whnf
  refine yt 9 rfl ?_
  conv=>whnf
  refine yt 10 rfl ?_
  conv=>whnf
  refine yt 11 rfl ?_
  conv=>whnf
  refine yt 12 rfl ?_
  ((repeat' first|refine Y ?_|refine Y2 ?_ ?_|refine Y1 fun hh=>?_|exact Y0.mk);(all_goals(try conv=>whnf)))
  refine yt 13 rfl ?_
  ((repeat' first|refine Y ?_|refine Y2 ?_ ?_|refine Y1 fun hh=>?_|exact Y0.mk);(all_goals(try conv=>whnf)))
  refine Sy.ar_wrap ?_
  conv=>whnf
  refine yd1 [14] (zx rfl ?_ zy)
  conv=>whnf
  refine Yk ?_
  refine yd1 [15] (zx rfl ?_ zy)
  conv=>whnf
  refine Sy.need_app 1 rfl ⟨by omega,by omega⟩ ?_
  conv=>whnf
  refine Yk ?_
  refine yt1 16 rfl ?_
  conv=>whnf
  refine yt 17 rfl ?_
  conv=>whnf
  refine yd1 [18] (zx rfl ?_ zy)
  conv=>whnf
  refine Yk ?_
  refine yw ?_
  skip
  ((repeat' first|refine Y ?_|refine Y2 ?_ ?_|refine Y1 fun hh=>?_|exact Y0.mk);(all_goals(try conv=>whnf)))
  obtain⟨hia,his⟩:=deno_ins (laid_deno hL)
  have hil8:m.il.length<=8:=by
   have h1:=congrArg List.length his
   have h2:=wants_len (opsOf m.gl)
   have h3:=(check_ok hgc).2.1
   have h4:=insOf_len m.il
   rw[sortL_len,show srcsI m.msg.ins=srcsI (insOf m.il) from rfl] at h1
   unfold srcsI at h1
   rw[List.length_map] at h1
   have h1:(insOf m.il).length=(wants (opsOf m.gl)).length:=h1
   omega
  have hia:(insOf m.il).all inputB=true:=hia
  refine Sy.loop_inv Sy.tab_ok (fun n:Nat=>[(53,.c (.v (.int .i64 n)))]) (fun n=>[(9,.cells 105 (wrC m (.row 24))),(24,.row 5 1 (V++inN (insOf m.il) n).length (.vs ((V++inN (insOf m.il) n).map encB)))]) (fun n=>n<=m.il.length) (fun n=>m.il.length-n) 0 (Nat.zero_le _) ?_ (fun n hn=>?_)
  ·rw[show inN (insOf m.il) 0=[b8 m.il.length] by unfold inN;rw[insOf_len];rfl]
   ((repeat'(first|((conv=>whnf);done)|((try conv=>whnf);first|exact trivial|(refine And.intro ?_ ?_)|rfl|exact fun _ _ _ h=>h|exact fun _ _ _ _=>trivial)));(all_goals(try conv=>whnf)))
   all_goals(try simp[encB,b8])
  have hinl:=inN_len hia n
  have hgl2:(V++inN (insOf m.il) n).length=V.length+(inN (insOf m.il) n).length:=List.length_append
  by_cases hlt:n<m.il.length
  ·have hgt:=List.getElem?_eq_getElem hlt
   have hrx:=hr.ir _ (List.getElem_mem hlt)
   generalize m.il[n]=x at *
   have hgi:=insOf_get hgt
   have hxb:=List.all_eq_true.1 hia _ (List.mem_of_getElem? hgi)
   have hs2:V++inN (insOf m.il) (n+1)=V++inN (insOf m.il) n++inB x.inp:=by rw[inN_succ hgi,List.append_assoc]
   generalize V++inN (insOf m.il) n=G at *
   ((repeat' first|refine Yo ?_|refine Y2 ?_ ?_|refine Y1 fun hh=>?_|exact Y0.mk);(all_goals(try conv=>whnf)))
   refine Sy.el_map x hgt ?_
   ((repeat' first|refine Yo ?_|refine Y2 ?_ ?_|refine Y1 fun hh=>?_|exact Y0.mk);(all_goals(try conv=>whnf)))
   refine open_x _ _ _ (hrx) (fun _ h=>h) ?_
   ((repeat' first|refine Yo ?_|refine Y2 ?_ ?_|refine Y1 fun hh=>?_|exact Y0.mk);(all_goals(try conv=>whnf)))
   have hrl:x.inp.recs.length<=40/\∀e∈x.inp.recs.map elmR,elemP e:=by
    unfold inputB at hxb
    simp only[Bool.and_eq_true,decide_eq_true_eq,List.all_eq_true] at hxb
    refine⟨hxb.1.1,fun e he=>?_⟩
    obtain⟨r,hr1,rfl⟩:=List.mem_map.1 he
    exact .inl ⟨rfl,of_decide_eq_true (hxb.2 r hr1).1,rfl⟩
   refine Sy.sem_subF (Sy.sub_row 6 45 5 rfl) ?_
   ((repeat' first|refine Y ?_|refine Y2 ?_ ?_|refine Y1 fun hh=>?_|exact Y0.mk);(all_goals(try conv=>whnf)))
   refine Sy.loop_inv Sy.tab_ok (fun k:Nat=>[(60,.c (.v (.int .i64 k))),(6,.c (.row 27))]) (fun k=>[(27,.row 45 5 ((x.inp.recs.take k).map elmR).length (.vs (((x.inp.recs.take k).map elmR).map encE)))]) (fun k=>k<=x.inp.recs.length) (fun k=>x.inp.recs.length-k) 0 (Nat.zero_le _) ?_ (fun k hk=>?_)
   ·((repeat'(first|((conv=>whnf);done)|((try conv=>whnf);first|exact trivial|(refine And.intro ?_ ?_)|rfl|exact fun _ _ _ h=>h|exact fun _ _ _ _=>trivial)));(all_goals(try conv=>whnf)))
   have hkl:((x.inp.recs.take k).map elmR).length=k:=by rw[List.length_map,List.length_take];omega
   by_cases hlt2:k<x.inp.recs.length
   ·have hgk:=List.getElem?_eq_getElem hlt2
    have hsk:=List.take_succ_eq_append_getElem hlt2
    generalize x.inp.recs[k]=r at *
    ((repeat' first|refine Y ?_|refine Y2 ?_ ?_|refine Y1 fun hh=>?_|exact Y0.mk);(all_goals(try conv=>whnf)))
    refine Sy.el_map r hgk ?_
    ((repeat' first|refine Y ?_|refine Y2 ?_ ?_|refine Y1 fun hh=>?_|exact Y0.mk);(all_goals(try conv=>whnf)))
    refine Sy.need_app 40 rfl ⟨by omega,by omega⟩ ?_
    ((repeat' first|refine Y ?_|refine Y2 ?_ ?_|refine Y1 fun hh=>?_|exact Y0.mk);(all_goals(try conv=>whnf)))
    refine⟨k+1,by omega,by omega,?_⟩
    rw[hsk,List.map_append]
    ((repeat'(first|((conv=>whnf);done)|((try conv=>whnf);first|exact trivial|(refine And.intro ?_ ?_)|rfl|exact fun _ _ _ h=>h|exact fun _ _ _ _=>trivial)));(all_goals(try conv=>whnf)))
    all_goals(try simp[encE,elmR])
   have hke:x.inp.recs.take k=x.inp.recs:=List.take_of_length_le (by omega)
   rw[hke] at hkl⊢
   ((repeat' first|refine Y ?_|refine Y2 ?_ ?_|refine Y1 fun hh=>?_|exact Y0.mk);(all_goals(try conv=>whnf)))
   refine Sy.call_r1 ⟨5,1,(rB (x.inp.recs.map elmR)).length,(rB (x.inp.recs.map elmR)).map encB⟩ (fun j=>.tup [.c (.row j),.c (.v (.int .i64 0))]) Tryz.call114 (fun e a w' h=>row_any (e.rv 27) _ w' (Sy.row_reads h (.inl ⟨_,rfl⟩)) (by omega) hrl.2) ?_
   have hRl:(rB (x.inp.recs.map elmR)).length<=441:=by
    have:=rN_len (x.inp.recs.map elmR) (x.inp.recs.map elmR).length
    unfold rB;omega
   rw[show G++inB x.inp=(G++[b8 x.inp.src])++beN (rB (x.inp.recs.map elmR)).length 2++rB (x.inp.recs.map elmR) by unfold inB someB;simp] at hs2
   generalize rB (x.inp.recs.map elmR)=R at *
   have eB2:List.map encB G++[[.int .u8 (IntKind.u8.wrap x.inp.src)]]=List.map encB (G++[b8 x.inp.src]):=by simp[encB,b8]
   have lB2:G.length+1=(G++[b8 x.inp.src]).length:=by simp
   have c5:=beN_len R.length 2
   ((repeat' first|refine Y ?_|refine Y2 ?_ ?_|refine Y1 fun hh=>?_|exact Y0.mk);(all_goals(try conv=>whnf)))
   refine Sy.drawB2_go [9] [24] [12] (by kernel_rfl) ?_
   intro e0
   conv=>whnf
   refine yt 0 rfl ?_
   conv=>whnf
   refine yt 1 rfl ?_
   conv=>whnf
   refine yt 2 rfl ?_
   conv=>whnf
   refine yt 3 rfl ?_
   conv=>whnf
   refine yt 4 rfl ?_
   conv=>whnf
   refine yt 5 rfl ?_
   conv=>whnf
   refine yt 6 rfl ?_
   conv=>whnf
   refine yt 7 rfl ?_
   ((repeat' first|refine Y ?_|refine Y2 ?_ ?_|refine Y1 fun hh=>?_|exact Y0.mk);(all_goals(try conv=>whnf)))
   refine Sy.ar_wrap ?_
   conv=>whnf
   refine yd1 [8] (zx rfl ?_ zy)
   conv=>whnf
   refine Yk ?_
   refine yd1 [9] (zx rfl ?_ zy)
   conv=>whnf
   refine Sy.need_app 1 rfl ⟨by omega,by omega⟩ ?_
   conv=>whnf
   rw[eB2,lB2]
   refine Yk ?_
   refine yt1 10 rfl ?_
   conv=>whnf
   refine yt 11 rfl ?_
   conv=>whnf
   refine yd1 [12] (zx rfl ?_ zy)
   conv=>whnf
   refine Yk ?_
   refine yw ?_
   skip
   generalize G++[b8 x.inp.src]=G2 at *
   have l5:(G2++beN R.length 2).length=G2.length+2:=by rw[List.length_append,c5]
   ((repeat' first|refine Y ?_|refine Y2 ?_ ?_|refine Y1 fun hh=>?_|exact Y0.mk);(all_goals(try conv=>whnf)))
   refine Sy.call_in Sy.lv113 Sy.tab_ok Tryz.func113 rfl _ Tryz.ntmps113 Tryz.call113 rfl (fun _=>?_)
   ((repeat' first|refine Y ?_|refine Y2 ?_ ?_|refine Y1 fun hh=>?_|exact Y0.mk);(all_goals(try conv=>whnf)))
   refine Sy.ar_wrap ?_
   rw[show IntKind.u16.wrap (R.length:Int)=(R.length:Int) by rw[IntKind.wrap_u16];omega]
   ((repeat' first|refine Y ?_|refine Y2 ?_ ?_|refine Y1 fun hh=>?_|exact Y0.mk);(all_goals(try conv=>whnf)))
   refine Sy.call_r1 ⟨5,1,(G2++beN R.length 2).length,(G2++beN R.length 2).map encB⟩ (fun j=>.c (.row j)) Tryz.call158 (fun e a w' h=>put16_any (e.rv 30) G2 R.length w' (Sy.row_reads h (.inl ⟨_,rfl⟩)) (by omega) (by omega)) ?_
   ((repeat' first|refine Y ?_|refine Y2 ?_ ?_|refine Y1 fun hh=>?_|exact Y0.mk);(all_goals(try conv=>whnf)))
   refine Sy.need_app 1 rfl ⟨by omega,by omega⟩ ?_
   ((repeat' first|refine Y ?_|refine Y2 ?_ ?_|refine Y1 fun hh=>?_|exact Y0.mk);(all_goals(try conv=>whnf)))
   refine⟨n+1,by omega,by omega,?_⟩
   rw[hs2]
   ((repeat'(first|((conv=>whnf);done)|((try conv=>whnf);first|exact trivial|(refine And.intro ?_ ?_)|rfl|exact fun _ _ _ h=>h|exact fun _ _ _ _=>trivial)));(all_goals(try conv=>whnf)))
   all_goals(try simp[Nat.add_assoc])
  have e:n=m.il.length:=by omega
  rw[e] at hinl hgl2⊢
  generalize hV2e:V++inN (insOf m.il) m.il.length=V2 at *
  have hV2:V2.length<=6000:=by omega
  have hpl:=laid_pls hL
  have hpl:m.pls.length<=24:=hpl
  ((repeat' first|refine Y ?_|refine Y2 ?_ ?_|refine Y1 fun hh=>?_|exact Y0.mk);(all_goals(try conv=>whnf)))
  refine Sy.drawB2_go [9] [24] [17] (by kernel_rfl) ?_
  intro e0
  conv=>whnf
  refine yt 0 rfl ?_
  conv=>whnf
  refine yt 1 rfl ?_
  conv=>whnf
  refine yt 2 rfl ?_
  conv=>whnf
  refine yt 3 rfl ?_
  conv=>whnf
  refine yt 4 rfl ?_
  conv=>whnf
  refine yt 5 rfl ?_
  conv=>whnf
  refine yt 6 rfl ?_
  conv=>whnf
  refine yt 7 rfl ?_
  conv=>whnf
  refine yt 8 rfl ?_
  conv=>whnf
  refine yt 9 rfl ?_
  conv=>whnf
  refine yt 10 rfl ?_
  conv=>whnf
  refine yt 11 rfl ?_
  ((repeat' first|refine Y ?_|refine Y2 ?_ ?_|refine Y1 fun hh=>?_|exact Y0.mk);(all_goals(try conv=>whnf)))
  refine yt 12 rfl ?_
  ((repeat' first|refine Y ?_|refine Y2 ?_ ?_|refine Y1 fun hh=>?_|exact Y0.mk);(all_goals(try conv=>whnf)))
  refine Sy.ar_wrap ?_
  conv=>whnf
  refine yd1 [13] (zx rfl ?_ zy)
  conv=>whnf
  refine Yk ?_
  refine yd1 [14] (zx rfl ?_ zy)
  conv=>whnf
  refine Sy.need_app 1 rfl ⟨by omega,by omega⟩ ?_
  conv=>whnf
  refine Yk ?_
  refine yt1 15 rfl ?_
  conv=>whnf
  refine yt 16 rfl ?_
  conv=>whnf
  refine yd1 [17] (zx rfl ?_ zy)
  conv=>whnf
  refine Yk ?_
  refine yw ?_
  skip
  ((repeat' first|refine Y ?_|refine Y2 ?_ ?_|refine Y1 fun hh=>?_|exact Y0.mk);(all_goals(try conv=>whnf)))
  refine Sy.loop_inv Sy.tab_ok (fun n:Nat=>[(115,.c (.v (.int .i64 n)))]) (fun n=>[(9,.cells 105 (wrC m (.row 26))),(26,.row 5 1 (V2++plN m.pls n).length (.vs ((V2++plN m.pls n).map encB)))]) (fun n=>n<=m.pls.length) (fun n=>m.pls.length-n) 0 (Nat.zero_le _) ?_ (fun k hk=>?_)
  ·rw[show plN m.pls 0=[b8 m.pls.length] by unfold plN;rfl]
   ((repeat'(first|((conv=>whnf);done)|((try conv=>whnf);first|exact trivial|(refine And.intro ?_ ?_)|rfl|exact fun _ _ _ h=>h|exact fun _ _ _ _=>trivial)));(all_goals(try conv=>whnf)))
   all_goals(try simp[encB,b8])
  have hpn:=plN_len m.pls k
  have hgl3:(V2++plN m.pls k).length=V2.length+(plN m.pls k).length:=List.length_append
  by_cases hlt:k<m.pls.length
  ·have hgt:=List.getElem?_eq_getElem hlt
   generalize m.pls[k]=p at *
   have hs2:V2++plN m.pls (k+1)=V2++plN m.pls k++plB p:=by rw[plN_succ hgt,List.append_assoc]
   generalize V2++plN m.pls k=G at *
   ((repeat' first|refine Y ?_|refine Y2 ?_ ?_|refine Y1 fun hh=>?_|exact Y0.mk);(all_goals(try conv=>whnf)))
   refine Sy.el_map p hgt ?_
   ((repeat' first|refine Y ?_|refine Y2 ?_ ?_|refine Y1 fun hh=>?_|exact Y0.mk);(all_goals(try conv=>whnf)))
   refine Sy.drawB2_go [9] [26] [15] (by kernel_rfl) ?_
   intro e0
   conv=>whnf
   refine yt 0 rfl ?_
   conv=>whnf
   refine yt 1 rfl ?_
   conv=>whnf
   refine yt 2 rfl ?_
   conv=>whnf
   refine yt 3 rfl ?_
   conv=>whnf
   refine yt 4 rfl ?_
   conv=>whnf
   refine yt 5 rfl ?_
   conv=>whnf
   refine yt 6 rfl ?_
   conv=>whnf
   refine yt 7 rfl ?_
   ((repeat' first|refine Y ?_|refine Y2 ?_ ?_|refine Y1 fun hh=>?_|exact Y0.mk);(all_goals(try conv=>whnf)))
   refine Sy.ar_wrap ?_
   conv=>whnf
   refine yt 8 rfl ?_
   conv=>whnf
   refine yt 9 rfl ?_
   conv=>whnf
   refine yt 10 rfl ?_
   ((repeat' first|refine Y ?_|refine Y2 ?_ ?_|refine Y1 fun hh=>?_|exact Y0.mk);(all_goals(try conv=>whnf)))
   refine Sy.ar_wrap ?_
   conv=>whnf
   refine yd1 [11] (zx rfl ?_ zy)
   conv=>whnf
   refine Yk ?_
   refine yd1 [12] (zx rfl ?_ zy)
   conv=>whnf
   refine Sy.need_app 1 rfl ⟨by omega,by omega⟩ ?_
   conv=>whnf
   refine Yk ?_
   refine yt1 13 rfl ?_
   conv=>whnf
   refine yt 14 rfl ?_
   conv=>whnf
   refine yd1 [15] (zx rfl ?_ zy)
   conv=>whnf
   refine Yk ?_
   refine yw ?_
   skip
   ((repeat' first|refine Y ?_|refine Y2 ?_ ?_|refine Y1 fun hh=>?_|exact Y0.mk);(all_goals(try conv=>whnf)))
   refine⟨k+1,by omega,by omega,?_⟩
   rw[hs2]
   ((repeat'(first|((conv=>whnf);done)|((try conv=>whnf);first|exact trivial|(refine And.intro ?_ ?_)|rfl|exact fun _ _ _ h=>h|exact fun _ _ _ _=>trivial)));(all_goals(try conv=>whnf)))
   all_goals(try simp[encB,b8,plB])
  have e:k=m.pls.length:=by omega
  rw[e] at hpn hgl3⊢
  obtain⟨W,hW⟩:∃W,W=V2++plN m.pls m.pls.length:=⟨_,rfl⟩
  rw[<-hW] at hgl3⊢
  have hS:Sn.rightP m.snap:=hf.2.1
  have hsl:=snap_len hS
  ((repeat' first|refine Y ?_|refine Y2 ?_ ?_|refine Y1 fun hh=>?_|exact Y0.mk);(all_goals(try conv=>whnf)))
  refine Sy.call_in Sy.lv115 Sy.tab_ok Tryz.func115 rfl _ Tryz.ntmps115 Tryz.call115 rfl (fun _=>?_)
  ((repeat' first|refine Y ?_|refine Y2 ?_ ?_|refine Y1 fun hh=>?_|exact Y0.mk);(all_goals(try conv=>whnf)))
  refine Sy.call_r1 ⟨5,1,(Sn.sBs m.snap).length,(Sn.sBs m.snap).map encB⟩ (fun j=>.tup [.c (.row j),.c (.v (.int .i64 (Sn.chkE m.snap)))]) Tryz.call161 (fun e a w' h=>by
   have:=Sn.enc_any (m.at e.rv).sv w' (MOk.now h hr).s
   rw[show(m.at e.rv).sv.sn=m.snap from rfl,enc_snap hS] at this
   exact this) ?_
  ((repeat' first|refine Y ?_|refine Y2 ?_ ?_|refine Y1 fun hh=>?_|exact Y0.mk);(all_goals(try conv=>whnf)))
  refine Sy.need_app 1 rfl ⟨by omega,by omega⟩ ?_
  ((repeat' first|refine Y ?_|refine Y2 ?_ ?_|refine Y1 fun hh=>?_|exact Y0.mk);(all_goals(try conv=>whnf)))
  rw[show layB m.msg=W++Sn.sBs m.snap by
   rw[hW,<-hV2e,hV]
   unfold layB bodyL
   rw[if_pos (show m.msg.kind=1 from k1)]
   unfold depL inN plN
   rw[<-insOf_len m.il,List.take_length,List.take_length]
   simp only[List.append_assoc,<-hQ];rfl]
  refine Sy.fin_r1 (.row 28) ?_
  show some (Blk.row _ _ _ _)=_
  rw[<-List.map_append,<-List.length_append];rfl
 by_cases k3:m.kind=3
 ·refine Sy.findC_int [1,3,4,5,6,8] m.kind (some 1) (by rw[k3];rfl) ?_
  ((repeat' first|refine Y ?_|refine Y2 ?_ ?_|refine Y1 fun hh=>?_|exact Y0.mk);(all_goals(try conv=>whnf)))
  refine Sy.call_in Sy.lv61 Sy.tab_ok Tryz.func61 rfl _ Tryz.ntmps61 Tryz.call61 rfl (fun _=>?_)
  ((repeat' first|refine Y ?_|refine Y2 ?_ ?_|refine Y1 fun hh=>?_|exact Y0.mk);(all_goals(try conv=>whnf)))
  refine Sy.drawB2_go [9] [13] [13] (by kernel_rfl) ?_
  intro e0
  conv=>whnf
  refine yt 0 rfl ?_
  conv=>whnf
  refine yt 1 rfl ?_
  conv=>whnf
  refine yt 2 rfl ?_
  conv=>whnf
  refine yt 3 rfl ?_
  conv=>whnf
  refine yt 4 rfl ?_
  conv=>whnf
  refine yt 5 rfl ?_
  conv=>whnf
  refine yt 6 rfl ?_
  conv=>whnf
  refine yt 7 rfl ?_
  conv=>whnf
  refine yt 8 rfl ?_
  conv=>whnf
  refine yt 9 rfl ?_
  conv=>whnf
  refine yd1 [10] (zx rfl ?_ zy)
  conv=>whnf
  refine Sy.call_r1 ⟨5,1,(hdB m.msg++beN m.num 8).length,(hdB m.msg++beN m.num 8).map encB⟩ (fun j=>.c (.row j)) Tryz.call59 (fun e a w' h=>put64_any (e.rv 12) (hdB m.msg) m.num w' (Sy.row_reads h (.inl ⟨_,rfl⟩)) (by omega)) ?_
  conv=>whnf
  refine Yk ?_
  refine yt1 11 rfl ?_
  conv=>whnf
  refine yt 12 rfl ?_
  conv=>whnf
  refine yd1 [13] (zx rfl ?_ zy)
  conv=>whnf
  refine Yk ?_
  refine yw ?_
  skip
  ((repeat' first|refine Y ?_|refine Y2 ?_ ?_|refine Y1 fun hh=>?_|exact Y0.mk);(all_goals(try conv=>whnf)))
  rw[show layB m.msg=hdB m.msg++beN m.num 8 by unfold layB bodyL;rw[if_neg (by show ¬m.kind=1;omega),if_pos (show m.msg.kind=3 from k3)];rfl]
  exact Sy.fin_r1 (.row 20) rfl
 by_cases k5:m.kind=5
 ·have hS:Sn.rightP m.snap:=by
   unfold okM at hok
   have:=hok.1
   rw[body5 (m:=m.msg) k5] at this
   simp at this
   exact this.2.2.2
  have hsl:=snap_len hS
  refine Sy.findC_int [1,3,4,5,6,8] m.kind (some 3) (by rw[k5];rfl) ?_
  ((repeat' first|refine Y ?_|refine Y2 ?_ ?_|refine Y1 fun hh=>?_|exact Y0.mk);(all_goals(try conv=>whnf)))
  refine Sy.call_in Sy.lv63 Sy.tab_ok Tryz.func63 rfl _ Tryz.ntmps63 Tryz.call63 rfl (fun _=>?_)
  ((repeat' first|refine Y ?_|refine Y2 ?_ ?_|refine Y1 fun hh=>?_|exact Y0.mk);(all_goals(try conv=>whnf)))
  refine Sy.call_in Sy.lv61 Sy.tab_ok Tryz.func61 rfl _ Tryz.ntmps61 Tryz.call61 rfl (fun _=>?_)
  ((repeat' first|refine Y ?_|refine Y2 ?_ ?_|refine Y1 fun hh=>?_|exact Y0.mk);(all_goals(try conv=>whnf)))
  refine Sy.drawB2_go [9] [13] [13] (by kernel_rfl) ?_
  intro e0
  conv=>whnf
  refine yt 0 rfl ?_
  conv=>whnf
  refine yt 1 rfl ?_
  conv=>whnf
  refine yt 2 rfl ?_
  conv=>whnf
  refine yt 3 rfl ?_
  conv=>whnf
  refine yt 4 rfl ?_
  conv=>whnf
  refine yt 5 rfl ?_
  conv=>whnf
  refine yt 6 rfl ?_
  conv=>whnf
  refine yt 7 rfl ?_
  conv=>whnf
  refine yt 8 rfl ?_
  conv=>whnf
  refine yt 9 rfl ?_
  conv=>whnf
  refine yd1 [10] (zx rfl ?_ zy)
  conv=>whnf
  refine Sy.call_r1 ⟨5,1,(hdB m.msg++beN m.num 8).length,(hdB m.msg++beN m.num 8).map encB⟩ (fun j=>.c (.row j)) Tryz.call59 (fun e a w' h=>put64_any (e.rv 12) (hdB m.msg) m.num w' (Sy.row_reads h (.inl ⟨_,rfl⟩)) (by omega)) ?_
  conv=>whnf
  refine Yk ?_
  refine yt1 11 rfl ?_
  conv=>whnf
  refine yt 12 rfl ?_
  conv=>whnf
  refine yd1 [13] (zx rfl ?_ zy)
  conv=>whnf
  refine Yk ?_
  refine yw ?_
  skip
  ((repeat' first|refine Y ?_|refine Y2 ?_ ?_|refine Y1 fun hh=>?_|exact Y0.mk);(all_goals(try conv=>whnf)))
  refine Sy.call_in Sy.lv115 Sy.tab_ok Tryz.func115 rfl _ Tryz.ntmps115 Tryz.call115 rfl (fun _=>?_)
  ((repeat' first|refine Y ?_|refine Y2 ?_ ?_|refine Y1 fun hh=>?_|exact Y0.mk);(all_goals(try conv=>whnf)))
  refine Sy.call_r1 ⟨5,1,(Sn.sBs m.snap).length,(Sn.sBs m.snap).map encB⟩ (fun j=>.tup [.c (.row j),.c (.v (.int .i64 (Sn.chkE m.snap)))]) Tryz.call161 (fun e a w' h=>by
   have:=Sn.enc_any (m.at e.rv).sv w' (MOk.now h hr).s
   rw[show(m.at e.rv).sv.sn=m.snap from rfl,enc_snap hS] at this
   exact this) ?_
  ((repeat' first|refine Y ?_|refine Y2 ?_ ?_|refine Y1 fun hh=>?_|exact Y0.mk);(all_goals(try conv=>whnf)))
  refine Sy.need_app 1 rfl ⟨by simp only[List.length_append];omega,by simp only[List.length_append];omega⟩ ?_
  ((repeat' first|refine Y ?_|refine Y2 ?_ ?_|refine Y1 fun hh=>?_|exact Y0.mk);(all_goals(try conv=>whnf)))
  rw[show layB m.msg=hdB m.msg++beN m.num 8++Sn.sBs m.snap by unfold layB bodyL;rw[if_neg (by show ¬m.kind=1;omega),if_neg (by show ¬m.kind=3;omega),if_neg (by show ¬m.kind=4;omega),if_pos (show m.msg.kind=5 from k5),List.append_assoc];rfl]
  refine Sy.fin_r1 (.row 22) ?_
  show some (Blk.row _ _ _ _)=_
  rw[<-List.map_append,<-List.length_append];rfl
 by_cases k4:m.kind=4
 ·obtain⟨hN,hnl⟩:Sn.chain Sn.okT Sn.ltT none m.names=true/\m.names.length<=24:=by
   unfold okM at hok
   have:=hok.1
   rw[body4 (m:=m.msg) k4] at this
   simp at this
   exact⟨this.2.2,this.2.1.2⟩
  refine Sy.findC_int [1,3,4,5,6,8] m.kind (some 2) (by rw[k4];rfl) ?_
  ((repeat' first|refine Y ?_|refine Y2 ?_ ?_|refine Y1 fun hh=>?_|exact Y0.mk);(all_goals(try conv=>whnf)))
  refine Sy.call_in Sy.lv62 Sy.tab_ok Tryz.func62 rfl _ Tryz.ntmps62 Tryz.call62 rfl (fun _=>?_)
  ((repeat' first|refine Y ?_|refine Y2 ?_ ?_|refine Y1 fun hh=>?_|exact Y0.mk);(all_goals(try conv=>whnf)))
  refine Sy.drawB2_go [9] [13,12] [16] (by kernel_rfl) ?_
  intro e0
  conv=>whnf
  refine yt 0 rfl ?_
  conv=>whnf
  refine yt 1 rfl ?_
  conv=>whnf
  refine yt 2 rfl ?_
  conv=>whnf
  refine yt 3 rfl ?_
  conv=>whnf
  refine yt 4 rfl ?_
  conv=>whnf
  refine yt 5 rfl ?_
  conv=>whnf
  refine yt 6 rfl ?_
  conv=>whnf
  refine yt 7 rfl ?_
  conv=>whnf
  refine yt 8 rfl ?_
  conv=>whnf
  refine yt 9 rfl ?_
  conv=>whnf
  refine yt 10 rfl ?_
  ((repeat' first|refine Y ?_|refine Y2 ?_ ?_|refine Y1 fun hh=>?_|exact Y0.mk);(all_goals(try conv=>whnf)))
  refine yt 11 rfl ?_
  ((repeat' first|refine Y ?_|refine Y2 ?_ ?_|refine Y1 fun hh=>?_|exact Y0.mk);(all_goals(try conv=>whnf)))
  refine Sy.ar_wrap ?_
  conv=>whnf
  refine yd1 [12] (zx rfl ?_ zy)
  conv=>whnf
  refine Yk ?_
  refine yd1 [13] (zx rfl ?_ zy)
  conv=>whnf
  refine Sy.need_app 1 rfl ⟨by omega,by omega⟩ ?_
  conv=>whnf
  refine Yk ?_
  refine yt1 14 rfl ?_
  conv=>whnf
  refine yt 15 rfl ?_
  conv=>whnf
  refine yd1 [16] (zx rfl ?_ zy)
  conv=>whnf
  refine Yk ?_
  refine yw ?_
  skip
  ((repeat' first|refine Y ?_|refine Y2 ?_ ?_|refine Y1 fun hh=>?_|exact Y0.mk);(all_goals(try conv=>whnf)))
  refine Sy.loop_inv Sy.tab_ok (fun n:Nat=>[(26,.c (.v (.int .i64 n)))]) (fun n=>[(9,.cells 105 (wrC m (.row 21))),(21,.row 5 1 (tlN m.msg n).length (.vs ((tlN m.msg n).map encB)))]) (fun n=>n<=m.names.length) (fun n=>m.names.length-n) 0 (Nat.zero_le _) ?_ (fun n hn=>?_)
  ·rw[show tlN m.msg 0=hdB m.msg++[b8 m.names.length] by unfold tlN;rfl]
   ((repeat'(first|((conv=>whnf);done)|((try conv=>whnf);first|exact trivial|(refine And.intro ?_ ?_)|rfl|exact fun _ _ _ h=>h|exact fun _ _ _ _=>trivial)));(all_goals(try conv=>whnf)))
   all_goals(try simp[encB,b8])
  have hgl:=tlN_len m.msg n
  by_cases hlt:n<m.names.length
  ·have hgt:=List.getElem?_eq_getElem hlt
   have hxo:=Sn.chain_ok hN _ (List.getElem_mem hlt)
   generalize m.names[n]=x at *
   have hxo:Sn.okN x:=of_decide_eq_true hxo
   unfold Sn.okN at hxo
   have hs:=tlN_succ (m:=m.msg) hgt
   generalize tlN m.msg n=G at *
   have eB:List.map encB G++[[.int .u8 (IntKind.u8.wrap x.sink)]]=List.map encB (G++[b8 x.sink]):=by simp[encB,b8]
   have lB:G.length+1=(G++[b8 x.sink]).length:=by simp
   have v1:IntKind.u32.wrap x.att=x.att:=by rw[IntKind.wrap_u32];omega
   have v2:IntKind.u32.wrap x.ser=x.ser:=by rw[IntKind.wrap_u32];omega
   have c1:=beN_len x.att 4
   rw[show G++Sn.nBs x=G++[b8 x.sink]++beN x.att 4++beN x.ser 4 by unfold Sn.nBs;simp] at hs
   ((repeat' first|refine Y ?_|refine Y2 ?_ ?_|refine Y1 fun hh=>?_|exact Y0.mk);(all_goals(try conv=>whnf)))
   refine Sy.el_map x hgt ?_
   ((repeat' first|refine Y ?_|refine Y2 ?_ ?_|refine Y1 fun hh=>?_|exact Y0.mk);(all_goals(try conv=>whnf)))
   refine Sy.drawB2_go [9] [21] [20] (by kernel_rfl) ?_
   intro e0
   conv=>whnf
   refine yt 0 rfl ?_
   conv=>whnf
   refine yt 1 rfl ?_
   conv=>whnf
   refine yt 2 rfl ?_
   conv=>whnf
   refine yt 3 rfl ?_
   conv=>whnf
   refine yt 4 rfl ?_
   conv=>whnf
   refine yt 5 rfl ?_
   conv=>whnf
   refine yt 6 rfl ?_
   conv=>whnf
   refine yt 7 rfl ?_
   ((repeat' first|refine Y ?_|refine Y2 ?_ ?_|refine Y1 fun hh=>?_|exact Y0.mk);(all_goals(try conv=>whnf)))
   refine Sy.ar_wrap ?_
   conv=>whnf
   refine yt 10 rfl ?_
   conv=>whnf
   refine yt 11 rfl ?_
   conv=>whnf
   refine yt 12 rfl ?_
   ((repeat' first|refine Y ?_|refine Y2 ?_ ?_|refine Y1 fun hh=>?_|exact Y0.mk);(all_goals(try conv=>whnf)))
   refine Sy.ar_wrap ?_
   rw[v1]
   conv=>whnf
   refine yt 14 rfl ?_
   conv=>whnf
   refine yt 15 rfl ?_
   conv=>whnf
   refine yt 16 rfl ?_
   ((repeat' first|refine Y ?_|refine Y2 ?_ ?_|refine Y1 fun hh=>?_|exact Y0.mk);(all_goals(try conv=>whnf)))
   refine Sy.ar_wrap ?_
   rw[v2]
   conv=>whnf
   refine yd1 [8] (zx rfl ?_ zy)
   conv=>whnf
   refine Yk ?_
   refine yd1 [9] (zx rfl ?_ zy)
   conv=>whnf
   refine Sy.need_app 1 rfl ⟨by omega,by omega⟩ ?_
   conv=>whnf
   rw[eB,lB]
   refine Yk ?_
   refine yd1 [13] (zx rfl ?_ zy)
   conv=>whnf
   refine Sy.call_r1 ⟨5,1,(G++[b8 x.sink]++beN x.att 4).length,(G++[b8 x.sink]++beN x.att 4).map encB⟩ (fun j=>.c (.row j)) Tryz.call57 (fun e a w' h=>put32_any (e.rv 24) (G++[b8 x.sink]) x.att w' (Sy.row_reads h (.inl ⟨_,rfl⟩)) (by rw[<-lB];omega) (by omega)) ?_
   conv=>whnf
   refine Yk ?_
   refine yd1 [17] (zx rfl ?_ zy)
   conv=>whnf
   refine Sy.call_r1 ⟨5,1,(G++[b8 x.sink]++beN x.att 4++beN x.ser 4).length,(G++[b8 x.sink]++beN x.att 4++beN x.ser 4).map encB⟩ (fun j=>.c (.row j)) Tryz.call57 (fun e a w' h=>put32_any (e.rv 25) (G++[b8 x.sink]++beN x.att 4) x.ser w' (Sy.row_reads h (.inl ⟨_,rfl⟩)) (by rw[List.length_append,<-lB];omega) (by omega)) ?_
   conv=>whnf
   refine Yk ?_
   refine yt1 18 rfl ?_
   conv=>whnf
   refine yt 19 rfl ?_
   conv=>whnf
   refine yd1 [20] (zx rfl ?_ zy)
   conv=>whnf
   refine Yk ?_
   refine yw ?_
   skip
   ((repeat' first|refine Y ?_|refine Y2 ?_ ?_|refine Y1 fun hh=>?_|exact Y0.mk);(all_goals(try conv=>whnf)))
   refine⟨n+1,by omega,by omega,?_⟩
   rw[hs]
   ((repeat'(first|((conv=>whnf);done)|((try conv=>whnf);first|exact trivial|(refine And.intro ?_ ?_)|rfl|exact fun _ _ _ h=>h|exact fun _ _ _ _=>trivial)));(all_goals(try conv=>whnf)))
  ·have e:n=m.names.length:=by omega
   subst e
   rw[show layB m.msg=tlN m.msg m.names.length by unfold layB bodyL tlN;rw[if_neg (by show ¬m.kind=1;omega),if_neg (by show ¬m.kind=3;omega),if_pos (show m.msg.kind=4 from k4)];unfold toldL;rw[show m.msg.names.take m.names.length=m.names from List.take_length];rfl]
   ((repeat' first|refine Y ?_|refine Y2 ?_ ?_|refine Y1 fun hh=>?_|exact Y0.mk);(all_goals(try conv=>whnf)))
   exact Sy.fin_r1 (.row 21) rfl
 by_cases k6:m.kind=6
 ·obtain⟨hu,he⟩:tasksB m.up=true/\tasksB m.ended=true:=by
   unfold okM at hok
   have:=hok.1
   rw[body6 (m:=m.msg) k6] at this
   simp at this
   exact this.2
  have hul:=tasks_len hu
  have hel:=tasks_len he
  refine Sy.findC_int [1,3,4,5,6,8] m.kind (some 4) (by rw[k6];rfl) ?_
  ((repeat' first|refine Y ?_|refine Y2 ?_ ?_|refine Y1 fun hh=>?_|exact Y0.mk);(all_goals(try conv=>whnf)))
  refine Sy.call_in Sy.lv64 Sy.tab_ok Tryz.func64 rfl _ Tryz.ntmps64 Tryz.call64 rfl (fun _=>?_)
  ((repeat' first|refine Y ?_|refine Y2 ?_ ?_|refine Y1 fun hh=>?_|exact Y0.mk);(all_goals(try conv=>whnf)))
  refine Sy.draw_go [] (by kernel_rfl) ?_
  intro e0
  conv=>whnf
  refine zt 0 rfl ?_
  conv=>whnf
  refine zt 1 rfl ?_
  conv=>whnf
  refine zt 2 rfl ?_
  conv=>whnf
  refine zt 3 rfl ?_
  conv=>whnf
  refine zt 4 rfl ?_
  conv=>whnf
  refine zt 5 rfl ?_
  conv=>whnf
  refine zt 6 rfl ?_
  conv=>whnf
  refine zt 7 rfl ?_
  conv=>whnf
  refine zt 8 rfl ?_
  conv=>whnf
  refine zt 9 rfl ?_
  conv=>whnf
  refine zt 10 rfl ?_
  conv=>whnf
  refine zt 11 rfl ?_
  conv=>whnf
  refine zw ?_
  skip
  ((repeat' first|refine Y ?_|refine Y2 ?_ ?_|refine Y1 fun hh=>?_|exact Y0.mk);(all_goals(try conv=>whnf)))
  refine Sy.loop_inv Sy.tab_ok (fun n:Nat=>[(17,.c (.v (.int .i64 n)))]) (fun n=>[(9,.cells 105 (wrC m (.row 12))),(12,.row 5 1 (btN m.msg n).length (.vs ((btN m.msg n).map encB)))]) (fun n=>n<=2) (fun n=>2-n) 0 (by decide) ?_ (fun n hn=>?_)
  ·rw[show btN m.msg 0=hdB m.msg from rfl]
   ((repeat'(first|((conv=>whnf);done)|((try conv=>whnf);first|exact trivial|(refine And.intro ?_ ?_)|rfl|exact fun _ _ _ h=>h|exact fun _ _ _ _=>trivial)));(all_goals(try conv=>whnf)))
  obtain rfl|rfl|rfl:n=0\/n=1\/n=2:=by omega
  ·have hpl:(btN m.msg 0).length<=16+17*0:=by rw[show btN m.msg 0=hdB m.msg from rfl];omega
   generalize hP:btN m.msg 0=P at *
   ((repeat' first|refine Y ?_|refine Y2 ?_ ?_|refine Y1 fun hh=>?_|exact Y0.mk);(all_goals(try conv=>whnf)))
   refine Sy.cell_of (.row 6) rfl ?_
   ((repeat' first|refine Y ?_|refine Y2 ?_ ?_|refine Y1 fun hh=>?_|exact Y0.mk);(all_goals(try conv=>whnf)))
   refine Sy.ar_wrap ?_
   ((repeat' first|refine Y ?_|refine Y2 ?_ ?_|refine Y1 fun hh=>?_|exact Y0.mk);(all_goals(try conv=>whnf)))
   refine Sy.need_app 1 rfl ⟨by omega,by omega⟩ ?_
   ((repeat' first|refine Y ?_|refine Y2 ?_ ?_|refine Y1 fun hh=>?_|exact Y0.mk);(all_goals(try conv=>whnf)))
   refine Sy.loop_inv Sy.tab_ok (fun k:Nat=>[(34,.c (.v (.int .i64 k)))]) (fun k=>[(9,.cells 105 (wrC m (.row 21))),(21,.row 5 1 (P++ints m.up k).length (.vs ((P++ints m.up k).map encB)))]) (fun k=>k<=m.up.length) (fun k=>m.up.length-k) 0 (Nat.zero_le _) ?_ (fun k hk=>?_)
   ·rw[show ints m.up 0=[b8 m.up.length] by unfold ints;rfl]
    ((repeat'(first|((conv=>whnf);done)|((try conv=>whnf);first|exact trivial|(refine And.intro ?_ ?_)|rfl|exact fun _ _ _ h=>h|exact fun _ _ _ _=>trivial)));(all_goals(try conv=>whnf)))
    all_goals(try simp[encB,b8])
   have hil:=ints_len m.up k
   have hgl:(P++ints m.up k).length=P.length+(ints m.up k).length:=List.length_append
   by_cases hlt:k<m.up.length
   ·have hgt:=List.getElem?_eq_getElem hlt
    generalize m.up[k]=x at *
    have hs:P++ints m.up (k+1)=P++ints m.up k++[b8 x]:=by rw[ints_succ hgt,List.append_assoc]
    generalize P++ints m.up k=G at *
    ((repeat' first|refine Y ?_|refine Y2 ?_ ?_|refine Y1 fun hh=>?_|exact Y0.mk);(all_goals(try conv=>whnf)))
    refine Sy.el_map x hgt ?_
    ((repeat' first|refine Y ?_|refine Y2 ?_ ?_|refine Y1 fun hh=>?_|exact Y0.mk);(all_goals(try conv=>whnf)))
    refine Sy.ar_wrap ?_
    ((repeat' first|refine Y ?_|refine Y2 ?_ ?_|refine Y1 fun hh=>?_|exact Y0.mk);(all_goals(try conv=>whnf)))
    refine Sy.need_app 1 rfl ⟨by omega,by omega⟩ ?_
    ((repeat' first|refine Y ?_|refine Y2 ?_ ?_|refine Y1 fun hh=>?_|exact Y0.mk);(all_goals(try conv=>whnf)))
    refine⟨k+1,by omega,by omega,?_⟩
    rw[hs]
    ((repeat'(first|((conv=>whnf);done)|((try conv=>whnf);first|exact trivial|(refine And.intro ?_ ?_)|rfl|exact fun _ _ _ h=>h|exact fun _ _ _ _=>trivial)));(all_goals(try conv=>whnf)))
    all_goals(try simp[encB,b8])
   ·have e:k=m.up.length:=by omega
    subst e
    ((repeat' first|refine Y ?_|refine Y2 ?_ ?_|refine Y1 fun hh=>?_|exact Y0.mk);(all_goals(try conv=>whnf)))
    refine⟨1,by omega,by omega,?_⟩
    rw[show btN m.msg 1=P++ints m.up m.up.length by rw[<-hP];rfl]
    ((repeat'(first|((conv=>whnf);done)|((try conv=>whnf);first|exact trivial|(refine And.intro ?_ ?_)|rfl|exact fun _ _ _ h=>h|exact fun _ _ _ _=>trivial)));(all_goals(try conv=>whnf)))
  ·have hpl:(btN m.msg 1).length<=16+17*1:=by have:=ints_len m.up m.up.length;rw[show btN m.msg 1=hdB m.msg++ints m.up m.up.length from rfl,List.length_append];omega
   generalize hP:btN m.msg 1=P at *
   ((repeat' first|refine Y ?_|refine Y2 ?_ ?_|refine Y1 fun hh=>?_|exact Y0.mk);(all_goals(try conv=>whnf)))
   refine Sy.cell_of (.row 7) rfl ?_
   ((repeat' first|refine Y ?_|refine Y2 ?_ ?_|refine Y1 fun hh=>?_|exact Y0.mk);(all_goals(try conv=>whnf)))
   refine Sy.ar_wrap ?_
   ((repeat' first|refine Y ?_|refine Y2 ?_ ?_|refine Y1 fun hh=>?_|exact Y0.mk);(all_goals(try conv=>whnf)))
   refine Sy.need_app 1 rfl ⟨by omega,by omega⟩ ?_
   ((repeat' first|refine Y ?_|refine Y2 ?_ ?_|refine Y1 fun hh=>?_|exact Y0.mk);(all_goals(try conv=>whnf)))
   refine Sy.loop_inv Sy.tab_ok (fun k:Nat=>[(34,.c (.v (.int .i64 k)))]) (fun k=>[(9,.cells 105 (wrC m (.row 21))),(21,.row 5 1 (P++ints m.ended k).length (.vs ((P++ints m.ended k).map encB)))]) (fun k=>k<=m.ended.length) (fun k=>m.ended.length-k) 0 (Nat.zero_le _) ?_ (fun k hk=>?_)
   ·rw[show ints m.ended 0=[b8 m.ended.length] by unfold ints;rfl]
    ((repeat'(first|((conv=>whnf);done)|((try conv=>whnf);first|exact trivial|(refine And.intro ?_ ?_)|rfl|exact fun _ _ _ h=>h|exact fun _ _ _ _=>trivial)));(all_goals(try conv=>whnf)))
    all_goals(try simp[encB,b8])
   have hil:=ints_len m.ended k
   have hgl:(P++ints m.ended k).length=P.length+(ints m.ended k).length:=List.length_append
   by_cases hlt:k<m.ended.length
   ·have hgt:=List.getElem?_eq_getElem hlt
    generalize m.ended[k]=x at *
    have hs:P++ints m.ended (k+1)=P++ints m.ended k++[b8 x]:=by rw[ints_succ hgt,List.append_assoc]
    generalize P++ints m.ended k=G at *
    ((repeat' first|refine Y ?_|refine Y2 ?_ ?_|refine Y1 fun hh=>?_|exact Y0.mk);(all_goals(try conv=>whnf)))
    refine Sy.el_map x hgt ?_
    ((repeat' first|refine Y ?_|refine Y2 ?_ ?_|refine Y1 fun hh=>?_|exact Y0.mk);(all_goals(try conv=>whnf)))
    refine Sy.ar_wrap ?_
    ((repeat' first|refine Y ?_|refine Y2 ?_ ?_|refine Y1 fun hh=>?_|exact Y0.mk);(all_goals(try conv=>whnf)))
    refine Sy.need_app 1 rfl ⟨by omega,by omega⟩ ?_
    ((repeat' first|refine Y ?_|refine Y2 ?_ ?_|refine Y1 fun hh=>?_|exact Y0.mk);(all_goals(try conv=>whnf)))
    refine⟨k+1,by omega,by omega,?_⟩
    rw[hs]
    ((repeat'(first|((conv=>whnf);done)|((try conv=>whnf);first|exact trivial|(refine And.intro ?_ ?_)|rfl|exact fun _ _ _ h=>h|exact fun _ _ _ _=>trivial)));(all_goals(try conv=>whnf)))
    all_goals(try simp[encB,b8])
   ·have e:k=m.ended.length:=by omega
    subst e
    ((repeat' first|refine Y ?_|refine Y2 ?_ ?_|refine Y1 fun hh=>?_|exact Y0.mk);(all_goals(try conv=>whnf)))
    refine⟨2,by omega,by omega,?_⟩
    rw[show btN m.msg 2=P++ints m.ended m.ended.length by rw[<-hP];rfl]
    ((repeat'(first|((conv=>whnf);done)|((try conv=>whnf);first|exact trivial|(refine And.intro ?_ ?_)|rfl|exact fun _ _ _ h=>h|exact fun _ _ _ _=>trivial)));(all_goals(try conv=>whnf)))
  ·rw[show layB m.msg=btN m.msg 2 by
    rw[show btN m.msg 2=hdB m.msg++(ints m.up m.up.length++ints m.ended m.ended.length) from List.append_assoc _ _ _]
    unfold layB bodyL
    rw[if_neg (by show ¬m.kind=1;omega),if_neg (by show ¬m.kind=3;omega),if_neg (by show ¬m.kind=4;omega),if_neg (by show ¬m.kind=5;omega),if_pos (show m.msg.kind=6 from k6)]
    unfold beatL ints
    rw[List.take_length,List.take_length];rfl]
   ((repeat' first|refine Y ?_|refine Y2 ?_ ?_|refine Y1 fun hh=>?_|exact Y0.mk);(all_goals(try conv=>whnf)))
   exact Sy.fin_r1 (.row 12) rfl
 by_cases k8:m.kind=8
 ·have hp:pktP m.pkt:=by
   unfold okM at hok
   have:=hok.1
   rw[body8 (m:=m.msg) k8] at this
   simp at this
   exact this.2.2
  obtain⟨hp1,hp2,hp3⟩:=hp
  unfold numP at hp2
  refine Sy.findC_int [1,3,4,5,6,8] m.kind (some 5) (by rw[k8];rfl) ?_
  ((repeat' first|refine Y ?_|refine Y2 ?_ ?_|refine Y1 fun hh=>?_|exact Y0.mk);(all_goals(try conv=>whnf)))
  refine Sy.call_in Sy.lv65 Sy.tab_ok Tryz.func65 rfl _ Tryz.ntmps65 Tryz.call65 rfl (fun _=>?_)
  ((repeat' first|refine Y ?_|refine Y2 ?_ ?_|refine Y1 fun hh=>?_|exact Y0.mk);(all_goals(try conv=>whnf)))
  have eB:List.map encB (hdB m.msg)++[[.int .u8 (IntKind.u8.wrap m.pkt.kind)]]=List.map encB (hdB m.msg++[b8 m.pkt.kind]):=by simp[encB,b8]
  have lB:(hdB m.msg).length+1=(hdB m.msg++[b8 m.pkt.kind]).length:=by simp
  obtain⟨D,hD⟩:∃D,D=hdB m.msg++[b8 m.pkt.kind]:=⟨_,rfl⟩
  rw[<-hD] at eB lB
  have c1:=beN_len m.pkt.ses 4
  have c2:=beN_len m.pkt.seq 8
  have c3:=beN_len m.pkt.lim 8
  have l1:(D++beN m.pkt.ses 4).length=D.length+4:=by rw[List.length_append,c1]
  have l2:(D++beN m.pkt.ses 4++beN m.pkt.seq 8).length=D.length+12:=by rw[List.length_append,c2,l1]
  have l3:(D++beN m.pkt.ses 4++beN m.pkt.seq 8++beN m.pkt.lim 8).length=D.length+20:=by rw[List.length_append,c3,l2]
  refine Sy.drawB2_go [9] [13,12] [21] (by kernel_rfl) ?_
  intro e0
  conv=>whnf
  refine yt 0 rfl ?_
  conv=>whnf
  refine yt 1 rfl ?_
  conv=>whnf
  refine yt 2 rfl ?_
  conv=>whnf
  refine yt 3 rfl ?_
  conv=>whnf
  refine yt 4 rfl ?_
  conv=>whnf
  refine yt 5 rfl ?_
  conv=>whnf
  refine yt 6 rfl ?_
  conv=>whnf
  refine yt 7 rfl ?_
  ((repeat' first|refine Y ?_|refine Y2 ?_ ?_|refine Y1 fun hh=>?_|exact Y0.mk);(all_goals(try conv=>whnf)))
  refine Sy.ar_wrap ?_
  conv=>whnf
  refine yt 10 rfl ?_
  conv=>whnf
  refine yt 11 rfl ?_
  conv=>whnf
  refine yt 13 rfl ?_
  conv=>whnf
  refine yt 14 rfl ?_
  conv=>whnf
  refine yt 16 rfl ?_
  conv=>whnf
  refine yt 17 rfl ?_
  conv=>whnf
  refine yd1 [8] (zx rfl ?_ zy)
  conv=>whnf
  refine Yk ?_
  refine yd1 [9] (zx rfl ?_ zy)
  conv=>whnf
  refine Sy.need_app 1 rfl ⟨by omega,by omega⟩ ?_
  conv=>whnf
  rw[eB,lB]
  refine Yk ?_
  refine yd1 [12] (zx rfl ?_ zy)
  conv=>whnf
  refine Sy.call_r1 ⟨5,1,(D++beN m.pkt.ses 4).length,(D++beN m.pkt.ses 4).map encB⟩ (fun j=>.c (.row j)) Tryz.call57 (fun e a w' h=>put32_any (e.rv 22) D m.pkt.ses w' (Sy.row_reads h (.inl ⟨_,rfl⟩)) (by omega) (by omega)) ?_
  conv=>whnf
  refine Yk ?_
  refine yd1 [15] (zx rfl ?_ zy)
  conv=>whnf
  refine Sy.call_r1 ⟨5,1,(D++beN m.pkt.ses 4++beN m.pkt.seq 8).length,(D++beN m.pkt.ses 4++beN m.pkt.seq 8).map encB⟩ (fun j=>.c (.row j)) Tryz.call59 (fun e a w' h=>put64_any (e.rv 23) _ m.pkt.seq w' (Sy.row_reads h (.inl ⟨_,rfl⟩)) (by omega)) ?_
  conv=>whnf
  refine Yk ?_
  refine yd1 [18] (zx rfl ?_ zy)
  conv=>whnf
  refine Sy.call_r1 ⟨5,1,(D++beN m.pkt.ses 4++beN m.pkt.seq 8++beN m.pkt.lim 8).length,(D++beN m.pkt.ses 4++beN m.pkt.seq 8++beN m.pkt.lim 8).map encB⟩ (fun j=>.c (.row j)) Tryz.call59 (fun e a w' h=>put64_any (e.rv 24) _ m.pkt.lim w' (Sy.row_reads h (.inl ⟨_,rfl⟩)) (by omega)) ?_
  conv=>whnf
  refine Yk ?_
  refine yt1 19 rfl ?_
  conv=>whnf
  refine yt 20 rfl ?_
  conv=>whnf
  refine yd1 [21] (zx rfl ?_ zy)
  conv=>whnf
  refine Yk ?_
  refine yw ?_
  skip
  have hL:layB m.msg=D++beN m.pkt.ses 4++beN m.pkt.seq 8++beN m.pkt.lim 8++someB (if m.pkt.kind=1 then rB [m.pkt.elem] else[]):=by
   rw[hD]
   unfold layB bodyL
   rw[if_neg (by show ¬m.kind=1;omega),if_neg (by show ¬m.kind=3;omega),if_neg (by show ¬m.kind=4;omega),if_neg (by show ¬m.kind=5;omega),if_neg (by show ¬m.kind=6;omega),if_pos (show m.msg.kind=8 from k8)]
   unfold dataL
   simp only[List.append_assoc];rfl
  have hDl:D.length=17:=by rw[<-lB,hdl]
  generalize D++beN m.pkt.ses 4++beN m.pkt.seq 8++beN m.pkt.lim 8=L at *
  rw[hL]
  by_cases hk1:m.pkt.kind=1
  ·((repeat' first|refine Y ?_|refine Y2 ?_ ?_|refine Y1 fun hh=>?_|exact Y0.mk);(all_goals(try conv=>whnf)))
   have he:elemP m.pkt.elem:=by
    rcases hp3 with h|h
    ·exact h.2.2
    ·omega
   have hrl:=rN_len [m.pkt.elem] 1
   rw[if_pos hk1]
   refine Sy.call_r1 ⟨5,1,(rB [m.pkt.elem]).length,(rB [m.pkt.elem]).map encB⟩ (fun j=>.tup [.c (.row j),.c (.v (.int .i64 0))]) Tryz.call114 (fun e a w' h=>row_any (e.rv 26) [m.pkt.elem] w' (Sy.row_reads h (.inl ⟨_,rfl⟩)) (by simp) (fun x hx=>by rw[List.mem_singleton.1 hx];exact he)) ?_
   have hrl:(rB [m.pkt.elem]).length<=12:=hrl
   generalize rB [m.pkt.elem]=R at *
   have c4:=beN_len R.length 2
   have l4:(L++beN R.length 2).length=L.length+2:=by rw[List.length_append,c4]
   ((repeat' first|refine Y ?_|refine Y2 ?_ ?_|refine Y1 fun hh=>?_|exact Y0.mk);(all_goals(try conv=>whnf)))
   refine Sy.call_in Sy.lv113 Sy.tab_ok Tryz.func113 rfl _ Tryz.ntmps113 Tryz.call113 rfl (fun _=>?_)
   ((repeat' first|refine Y ?_|refine Y2 ?_ ?_|refine Y1 fun hh=>?_|exact Y0.mk);(all_goals(try conv=>whnf)))
   refine Sy.ar_wrap ?_
   rw[show IntKind.u16.wrap (R.length:Int)=(R.length:Int) by rw[IntKind.wrap_u16];omega]
   ((repeat' first|refine Y ?_|refine Y2 ?_ ?_|refine Y1 fun hh=>?_|exact Y0.mk);(all_goals(try conv=>whnf)))
   refine Sy.call_r1 ⟨5,1,(L++beN R.length 2).length,(L++beN R.length 2).map encB⟩ (fun j=>.c (.row j)) Tryz.call158 (fun e a w' h=>put16_any (e.rv 25) L R.length w' (Sy.row_reads h (.inl ⟨_,rfl⟩)) (by omega) (by omega)) ?_
   ((repeat' first|refine Y ?_|refine Y2 ?_ ?_|refine Y1 fun hh=>?_|exact Y0.mk);(all_goals(try conv=>whnf)))
   refine Sy.need_app 1 rfl ⟨by omega,by omega⟩ ?_
   ((repeat' first|refine Y ?_|refine Y2 ?_ ?_|refine Y1 fun hh=>?_|exact Y0.mk);(all_goals(try conv=>whnf)))
   refine Sy.fin_r1 (.row 29) ?_
   show some (Blk.row _ _ _ _)=_
   rw[<-List.map_append,<-List.length_append];unfold someB;rw[List.append_assoc];rfl
  ·((repeat' first|refine Y ?_|refine Y2 ?_ ?_|refine Y1 fun hh=>?_|exact Y0.mk);(all_goals(try conv=>whnf)))
   rw[if_neg hk1]
   have c4:=beN_len 0 2
   have l4:(L++beN 0 2).length=L.length+2:=by rw[List.length_append,c4]
   refine Sy.call_in Sy.lv113 Sy.tab_ok Tryz.func113 rfl _ Tryz.ntmps113 Tryz.call113 rfl (fun _=>?_)
   ((repeat' first|refine Y ?_|refine Y2 ?_ ?_|refine Y1 fun hh=>?_|exact Y0.mk);(all_goals(try conv=>whnf)))
   refine Sy.ar_wrap ?_
   rw[show IntKind.u16.wrap ((0:Nat):Int)=0 by rw[IntKind.wrap_u16];rfl]
   ((repeat' first|refine Y ?_|refine Y2 ?_ ?_|refine Y1 fun hh=>?_|exact Y0.mk);(all_goals(try conv=>whnf)))
   refine Sy.call_r1 ⟨5,1,(L++beN 0 2).length,(L++beN 0 2).map encB⟩ (fun j=>.c (.row j)) Tryz.call158 (fun e a w' h=>put16_any (e.rv 25) L 0 w' (Sy.row_reads h (.inl ⟨_,rfl⟩)) (by omega) (by omega)) ?_
   ((repeat' first|refine Y ?_|refine Y2 ?_ ?_|refine Y1 fun hh=>?_|exact Y0.mk);(all_goals(try conv=>whnf)))
   refine Sy.need_app 1 rfl ⟨by omega,by omega⟩ ?_
   ((repeat' first|refine Y ?_|refine Y2 ?_ ?_|refine Y1 fun hh=>?_|exact Y0.mk);(all_goals(try conv=>whnf)))
   refine Sy.fin_r1 (.row 27) ?_
   show some (Blk.row _ _ _ _)=_
   unfold someB
   rw[List.append_nil,List.append_nil];rfl
 refine Sy.findC_int [1,3,4,5,6,8] m.kind none (by rw[List.findIdx?_eq_none_iff];simp;omega) ?_
 ((repeat' first|refine Y ?_|refine Y2 ?_ ?_|refine Y1 fun hh=>?_|exact Y0.mk);(all_goals(try conv=>whnf)))
 rw[show layB m.msg=hdB m.msg by unfold layB bodyL;rw[if_neg (show ¬m.msg.kind=1 from k1),if_neg (show ¬m.msg.kind=3 from k3),if_neg (show ¬m.msg.kind=4 from k4),if_neg (show ¬m.msg.kind=5 from k5),if_neg (show ¬m.msg.kind=6 from k6),if_neg (show ¬m.msg.kind=8 from k8),List.append_nil]]
 exact Sy.fin_r1 (.row 12) rfl
end Go.Proofs.YtgkkpefpbfadoaaGreat
