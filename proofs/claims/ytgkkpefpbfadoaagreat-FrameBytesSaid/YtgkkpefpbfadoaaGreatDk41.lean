/- Frame: the same messages. -/
import Derived.Test.YtgkkpefpbfadoaaGreatDk9
import Derived.Test.YtgkkpefpbfadoaaGreatDk26
import Derived.Test.YtgkkpefpbfadoaaGreatDk12
import Derived.Test.YtgkkpefpbfadoaaGreatDk40
import Derived.Test.YtgkkpefpbfadoaaGreatDk6
import Derived.ChangeArms
import Derived.ChangeOld
import Derived.ChangeReads
import Derived.OpenShut
import Derived.Below
namespace Go.Proofs.YtgkkpefpbfadoaaGreat
open Go Go.RowKit
open Sy (C SV V1 Blk St XD Els)
set_option maxRecDepth 10000
set_option maxHeartbeats 2000000 in
theorem equalP_any (u v:Value)(xs ys:List Plc)(w:World)(hx:XD.ok (fun b=>b<w.heap.size) w ⟨u,2,xs.length,xs.map encP⟩)(hy:XD.ok (fun b=>b<w.heap.size) w ⟨v,2,ys.length,ys.map encP⟩):
 Calls Tryz.prog 35 #[u,v] w (Sy.Ret (.bool (decide (xs=ys))) w):=by
 have hl:=ok_len hx
 have hl':=ok_len hy
 refine Sy.calls_of Sy.lv35 Sy.tab_ok Tryz.func35 rfl _ Tryz.ntmps35 [⟨u,2,xs.length,xs.map encP⟩,⟨v,2,ys.length,ys.map encP⟩] [.c (.row 0),.c (.row 1)] rfl rfl rfl ⟨hx,hy,trivial⟩ (V (Vj (fun hh=>?_) fun hh=>?_))
 ·refine Sy.loop_inv Sy.tab_ok (fun n:Nat=>[(13,.c (.v (.int .i64 n)))]) (fun _=>[]) (fun n=>n<=xs.length/\∀i,i<n->xs[i]?=ys[i]?) (fun n=>xs.length-n) 0 ⟨Nat.zero_le _,fun i hi=>by omega⟩ ?_ (fun n hle=>?_)
  ·exact Vs0
  ·obtain⟨hle,hpre⟩:=hle
   refine V (Vj (fun hh=>?_) fun hh=>?_)
   ·have hlt:n<xs.length:=by omega
    have h1:=List.getElem?_eq_getElem hlt
    have h2:=List.getElem?_eq_getElem (show n<ys.length by omega)
    generalize xs[n]=x at *
    generalize ys[n]'(by omega)=y at *
    all_goals(refine Sy.draw_go [] (by kernel_rfl) ?_;intro e0;conv=>whnf)
    all_goals(refine zt 0 rfl ?_)
    all_goals(conv=>whnf)
    all_goals(refine zt 1 rfl ?_)
    all_goals(conv=>whnf)
    all_goals(refine zt 2 rfl ?_)
    all_goals(refine V ?_)
    all_goals(refine zt 3 rfl ?_)
    all_goals(conv=>whnf)
    all_goals(refine Sy.el_map x h1 ?_)
    all_goals(conv=>whnf)
    all_goals(refine zt 4 rfl ?_)
    all_goals(conv=>whnf)
    all_goals(refine zt 5 rfl ?_)
    all_goals(conv=>whnf)
    all_goals(refine zt 6 rfl ?_)
    all_goals(refine V ?_)
    all_goals(refine zt 7 rfl ?_)
    all_goals(conv=>whnf)
    all_goals(refine Sy.el_map y h2 ?_)
    all_goals(conv=>whnf)
    all_goals(refine zt 8 rfl ?_)
    all_goals(refine V ?_)
    all_goals(refine zw ?_)
    all_goals(refine V (Vj (fun hh=>Vj (fun hh=>?_) fun hh=>?_) fun hh=>?_))
    all_goals first
     |exact Sy.fin_val (fun e=>congrArg Value.bool (decide_eq_false (lst_ne n h1 h2 (by rintro rfl;omega))).symm)
     |(refine⟨n+1,⟨by omega,pre_succ h1 h2 (by cases x;cases y;simp_all) hpre⟩,by omega,?_⟩;exact Vs0)
   ·exact Sy.fin_val (fun e=>congrArg Value.bool (decide_eq_true (lst_eq n (by omega) (by omega) hpre)).symm)
 ·exact Sy.fin_val (fun e=>congrArg Value.bool (decide_eq_false (by intro hh;subst hh;contradiction)).symm)
set_option maxHeartbeats 2000000 in
theorem equalR_any (u v:Value)(xs ys:List Rc)(w:World)(hx:XD.ok (fun b=>b<w.heap.size) w ⟨u,3,xs.length,xs.map encR⟩)(hy:XD.ok (fun b=>b<w.heap.size) w ⟨v,3,ys.length,ys.map encR⟩):
 Calls Tryz.prog 90 #[u,v] w (Sy.Ret (.bool (decide (xs=ys))) w):=by
 have hl:=ok_len hx
 have hl':=ok_len hy
 refine Sy.calls_of Sy.lv90 Sy.tab_ok Tryz.func90 rfl _ Tryz.ntmps90 [⟨u,3,xs.length,xs.map encR⟩,⟨v,3,ys.length,ys.map encR⟩] [.c (.row 0),.c (.row 1)] rfl rfl rfl ⟨hx,hy,trivial⟩ (V (Vj (fun hh=>?_) fun hh=>?_))
 ·refine Sy.loop_inv Sy.tab_ok (fun n:Nat=>[(13,.c (.v (.int .i64 n)))]) (fun _=>[]) (fun n=>n<=xs.length/\∀i,i<n->xs[i]?=ys[i]?) (fun n=>xs.length-n) 0 ⟨Nat.zero_le _,fun i hi=>by omega⟩ ?_ (fun n hle=>?_)
  ·exact Vs0
  ·obtain⟨hle,hpre⟩:=hle
   refine V (Vj (fun hh=>?_) fun hh=>?_)
   ·have hlt:n<xs.length:=by omega
    have h1:=List.getElem?_eq_getElem hlt
    have h2:=List.getElem?_eq_getElem (show n<ys.length by omega)
    generalize xs[n]=x at *
    generalize ys[n]'(by omega)=y at *
    all_goals(refine Sy.draw_go [] (by kernel_rfl) ?_;intro e0;conv=>whnf)
    all_goals(refine zt 0 rfl ?_)
    all_goals(conv=>whnf)
    all_goals(refine zt 1 rfl ?_)
    all_goals(conv=>whnf)
    all_goals(refine zt 2 rfl ?_)
    all_goals(refine V ?_)
    all_goals(refine zt 3 rfl ?_)
    all_goals(conv=>whnf)
    all_goals(refine Sy.el_map x h1 ?_)
    all_goals(conv=>whnf)
    all_goals(refine zt 4 rfl ?_)
    all_goals(conv=>whnf)
    all_goals(refine zt 5 rfl ?_)
    all_goals(conv=>whnf)
    all_goals(refine zt 6 rfl ?_)
    all_goals(refine V ?_)
    all_goals(refine zt 7 rfl ?_)
    all_goals(conv=>whnf)
    all_goals(refine Sy.el_map y h2 ?_)
    all_goals(conv=>whnf)
    all_goals(refine zt 8 rfl ?_)
    all_goals(refine V ?_)
    all_goals(refine zw ?_)
    all_goals(refine V (Vj (fun hh=>Vj (fun hh=>Vj (fun hh=>?_) fun hh=>?_) fun hh=>?_) fun hh=>?_))
    all_goals first
     |exact Sy.fin_val (fun e=>congrArg Value.bool (decide_eq_false (lst_ne n h1 h2 (by rintro rfl;omega))).symm)
     |(refine⟨n+1,⟨by omega,pre_succ h1 h2 (by cases x;cases y;simp_all) hpre⟩,by omega,?_⟩;exact Vs0)
   ·exact Sy.fin_val (fun e=>congrArg Value.bool (decide_eq_true (lst_eq n (by omega) (by omega) hpre)).symm)
 ·exact Sy.fin_val (fun e=>congrArg Value.bool (decide_eq_false (by intro hh;subst hh;contradiction)).symm)
theorem sameIn_any (x y:InpV)(w:World)(hx:IOk (fun b=>b<w.heap.size) w x)(hy:IOk (fun b=>b<w.heap.size) w y):
 Calls Tryz.prog 34 #[.agg #[.int .i64 x.inp.src,x.rv],.agg #[.int .i64 y.inp.src,y.rv]] w (Sy.Ret (.bool (decide (x.inp=y.inp))) w):=by
 obtain⟨⟨s,l⟩,u⟩:=x
 obtain⟨⟨s',l'⟩,u'⟩:=y
 refine Sy.calls_of Sy.lv34 Sy.tab_ok Tryz.func34 rfl _ Tryz.ntmps34 [⟨u,3,l.length,l.map encR⟩,⟨u',3,l'.length,l'.map encR⟩] [.agg [.v (.int .i64 s),.row 0],.agg [.v (.int .i64 s'),.row 1]] rfl rfl rfl ⟨hx,hy,trivial⟩ (V (Vj (fun hh=>?_) fun hh=>?_))
 ·refine Sy.call_val (.c (.v (.bool (decide (l=l'))))) Tryz.call90 rfl (fun e a w' h=>equalR_any (e.rv 0) (e.rv 1) l l' w' (Sy.row_reads h (.inr rfl)) (Sy.row_reads h (.inr rfl))) (V ?_)
  exact Sy.fin_val fun e=>fbool (by simp[*])
 ·exact Sy.fin_val fun e=>fbool (by simp[*])
set_option maxHeartbeats 2000000 in
theorem sameIns_any (u v:Value)(xs ys:List InpV)(w:World)(hx:XD.ok (fun b=>b<w.heap.size) w ⟨u,2,xs.length,xs.map encIV⟩)(hy:XD.ok (fun b=>b<w.heap.size) w ⟨v,2,ys.length,ys.map encIV⟩)(hxr:∀x∈xs,IOk (fun b=>b<w.heap.size) w x)(hyr:∀x∈ys,IOk (fun b=>b<w.heap.size) w x):
 Calls Tryz.prog 33 #[u,v,.func (.func 34) #[] #[]] w (Sy.Ret (.bool (decide (insOf xs=insOf ys))) w):=by
 have hl:=ok_len hx
 have hl':=ok_len hy
 have e1:=insOf_len xs
 have e2:=insOf_len ys
 refine Sy.calls_of Sy.lv33 Sy.tab_ok Tryz.func33 rfl _ Tryz.ntmps33 [⟨u,2,xs.length,xs.map encIV⟩,⟨v,2,ys.length,ys.map encIV⟩] [.c (.row 0),.c (.row 1),.c (.v (.func (.func 34) #[] #[]))] rfl rfl rfl ⟨hx,hy,trivial⟩ (V (Vj (fun hh=>?_) fun hh=>?_))
 ·refine Sy.loop_inv Sy.tab_ok (fun n:Nat=>[(17,.c (.v (.int .i64 n)))]) (fun _=>[]) (fun n=>n<=xs.length/\∀i,i<n->(insOf xs)[i]?=(insOf ys)[i]?) (fun n=>xs.length-n) 0 ⟨Nat.zero_le _,fun i hi=>by omega⟩ ?_ (fun n hle=>?_)
  ·exact Vs0
  ·obtain⟨hle,hpre⟩:=hle
   refine V (Vj (fun hh=>?_) fun hh=>?_)
   ·have hlt:n<xs.length:=by omega
    have h1:=List.getElem?_eq_getElem hlt
    have h2:=List.getElem?_eq_getElem (show n<ys.length by omega)
    have r1:=hxr _ (List.getElem_mem hlt)
    have r2:=hyr _ (List.getElem_mem (show n<ys.length by omega))
    generalize xs[n]=x at *
    generalize ys[n]'(by omega)=y at *
    have g1:=insOf_get h1
    have g2:=insOf_get h2
    refine Sy.el_map x h1 (V ?_)
    refine Sy.el_map y h2 (V ?_)
    refine Sy.call_val (.c (.v (.bool (decide (x.inp=y.inp))))) Tryz.call34 rfl (fun e a w' h=>sameIn_any x y w' (Sy.later_in h r1) (Sy.later_in h r2)) ?_
    by_cases hq:x.inp=y.inp
    ·rw[decide_eq_true hq]
     refine V ?_
     refine⟨n+1,⟨by omega,pre_succ g1 g2 hq hpre⟩,by omega,?_⟩
     exact Vs0
    ·rw[decide_eq_false hq,show decide (insOf xs=insOf ys)=false from decide_eq_false (lst_ne n g1 g2 hq)]
     exact V0
   ·exact Sy.fin_val (fun e=>congrArg Value.bool (decide_eq_true (lst_eq n (by omega) (by omega) hpre)).symm)
 ·exact Sy.fin_val (fun e=>congrArg Value.bool (decide_eq_false (by intro hh;rw[hh] at e1;omega)).symm)
def headEq (a b:MsgV):Prop:=a.kind=b.kind/\a.src=b.src/\a.dst=b.dst/\a.epoch=b.epoch/\a.att=b.att/\a.task=b.task/\a.num=b.num/\a.pkt=b.pkt
instance(a b:MsgV):Decidable (headEq a b):=by unfold headEq;infer_instance
def laidEq (a b:MsgV):Prop:=opsOf a.gl=opsOf b.gl/\insOf a.il=insOf b.il/\a.pls=b.pls
instance(a b:MsgV):Decidable (laidEq a b):=by unfold laidEq;infer_instance
theorem msg_eq (a b:MsgV):a.msg=b.msg↔headEq a b/\laidEq a b/\a.snap=b.snap/\a.names=b.names/\a.up=b.up/\a.ended=b.ended:=by
 unfold MsgV.msg headEq laidEq
 simp only[Msg.mk.injEq]
 constructor
 ·rintro⟨h1,h2,h3,h4,h5,h6,h7,h8,h9,h10,h11,h12,h13,h14,h15⟩
  exact⟨⟨h1,h2,h3,h4,h5,h6,h7,h15⟩,⟨h8,h9,h10⟩,h11,h12,h13,h14⟩
 ·rintro⟨⟨h1,h2,h3,h4,h5,h6,h7,h15⟩,⟨h8,h9,h10⟩,h11,h12,h13,h14⟩
  exact⟨h1,h2,h3,h4,h5,h6,h7,h8,h9,h10,h11,h12,h13,h14,h15⟩
theorem two_lt {n:Nat}{l l':List C}(h:Sy.ltAll n l=true)(h':Sy.ltAll n l'=true):Sy.allLt n [.agg l,.agg l']=true:=by
 show(match Sy.ltAll n l with|true=>(match Sy.ltAll n l' with|true=>true|false=>false)|false=>false)=true
 rw[h,h']
set_option maxHeartbeats 8000000 in
theorem fsame_any (a b:MsgV)(w:World)(ha:MOk (fun b=>b<w.heap.size) w a)(hb:MOk (fun b=>b<w.heap.size) w b):
 Calls Tryz.prog 14 #[.agg (encM a).toArray,.agg (encM b).toArray] w (Sy.Ret (.bool (decide (a.msg=b.msg))) w):=by
 refine Sy.calls_of Sy.lv14 Sy.tab_ok Tryz.func14 rfl _ Tryz.ntmps14 [] [.agg (cellsM C.v a fun i=>.v (a.v i)),.agg (cellsM C.v b fun i=>.v (b.v i))] rfl (two_lt (Sy.ltAll_v (msg_one ha)) (Sy.ltAll_v (msg_one hb))) rfl trivial ?_
 have hE:=msg_eq a b
 refine Vc ?_
 refine Sy.cut_meet Sy.tab_ok (fun _:Unit=>[(5,.c (.v (.bool (decide (headEq a b)))))]) (fun _=>[]) (fun _=>True) ?_ (fun _ _=>?_)
 ·refine Sy.region_go Sy.tab_ok ?_
  ((repeat' first|refine Y ?_|refine Y2 ?_ ?_|refine Y1 fun hh=>?_|exact Y0.mk);(all_goals(try conv=>whnf)))
  all_goals(refine⟨(),trivial,?_⟩;refine Vs ?_)
  all_goals exact fbool (by unfold headEq;rw[pk_iff];simp[*,and_assoc])
 conv=>whnf
 refine Sy.cut_meet Sy.tab_ok (fun _:Unit=>[(6,.c (.v (.bool (decide (laidEq a b)))))]) (fun _=>[]) (fun _=>True) ?_ (fun _ _=>?_)
 ·refine Sy.region_go Sy.tab_ok (V ?_)
  refine Sy.call_val (.c (.v (.bool (decide (opsOf a.gl=opsOf b.gl))))) Tryz.call32 rfl (fun e c w' h=>gsame_any (a.v 0) (b.v 0) a.gl b.gl w' (MOk.later h ha).g (MOk.later h hb).g) (V (Vj (fun hh=>?_) fun hh=>?_))
  ·refine Sy.call_val (.c (.v (.bool (decide (insOf a.il=insOf b.il))))) Tryz.call33 rfl (fun e c w' h=>sameIns_any (a.v 1) (b.v 1) a.il b.il w' (MOk.later h ha).i (MOk.later h hb).i (MOk.later h ha).ir (MOk.later h hb).ir) (V (Vj (fun hh=>?_) fun hh=>?_))
   ·refine Sy.call_val (.c (.v (.bool (decide (a.pls=b.pls))))) Tryz.call35 rfl (fun e c w' h=>equalP_any (a.v 2) (b.v 2) a.pls b.pls w' (MOk.later h ha).p (MOk.later h hb).p) (V ?_)
    refine⟨(),trivial,?_⟩
    refine Vs ?_
    all_goals exact fbool (by unfold laidEq;simp[*])
   all_goals(refine⟨(),trivial,?_⟩;refine Vs ?_)
   all_goals exact fbool (by unfold laidEq;simp[*])
  all_goals(refine⟨(),trivial,?_⟩;refine Vs ?_)
  all_goals exact fbool (by unfold laidEq;simp[*])
 conv=>whnf
 refine V (Vj (fun hh=>Vj (fun hh=>?_) fun hh=>?_) fun hh=>?_)
 ·refine Sy.call_val (.c (.v (.bool (decide (a.snap=b.snap))))) Tryz.call36 rfl (fun e c w' h=>Sn.same_any a.sv b.sv w' (MOk.later h ha).s (MOk.later h hb).s) (V (Vj (fun hh=>?_) fun hh=>?_))
  ·refine Sy.call_val (.c (.v (.bool (decide (a.names=b.names))))) Tryz.call37 rfl (fun e c w' h=>Sn.eqT_any (a.v 5) (b.v 5) a.names b.names w' (MOk.later h ha).n (MOk.later h hb).n) (V (Vj (fun hh=>?_) fun hh=>?_))
   ·refine Sy.call_val (.c (.v (.bool (decide (a.up=b.up))))) Tryz.call38 rfl (fun e c w' h=>equalI_any (a.v 6) (b.v 6) a.up b.up w' (MOk.later h ha).u (MOk.later h hb).u) (V (Vj (fun hh=>?_) fun hh=>?_))
    ·refine Sy.call_val (.c (.v (.bool (decide (a.ended=b.ended))))) Tryz.call38 rfl (fun e c w' h=>equalI_any (a.v 7) (b.v 7) a.ended b.ended w' (MOk.later h ha).e (MOk.later h hb).e) (V ?_)
     exact Sy.fin_val fun e=>fbool (by rw[hE];simp[*])
    exact Sy.fin_val fun e=>fbool (by rw[hE];simp[*])
   exact Sy.fin_val fun e=>fbool (by rw[hE];simp[*])
  exact Sy.fin_val fun e=>fbool (by rw[hE];simp[*])
 all_goals exact Sy.fin_val fun e=>fbool (by rw[hE];simp[*])
end Go.Proofs.YtgkkpefpbfadoaaGreat
namespace Go.Proofs.YtgkkpefpbfadoaaGreat
open Go Go.RowKit
open Sy (C SV V1 Blk St XD Els)
set_option maxRecDepth 10000
theorem decM_hd {b:List Int}(h:Sn.bytesOk b):I64 (decM b).1.src/\I64 (decM b).1.dst/\(decM b).1.ins.length<=255:=by
 have h8:Sn.bytesOk (opnV b):=by
  unfold opnV
  split
  ·exact fun c hc=>h c (List.mem_of_mem_take hc)
  ·exact fun c hc=>by cases hc
 unfold decM
 split
 ·exact readP_hd h8
 ·exact⟨⟨by decide,by decide⟩,⟨by decide,by decide⟩,by decide⟩
theorem Dv.hd {b:List Int}(x:Dv b)(h:Sn.bytesOk b):x.m.il.length<=100000/\I64 x.m.src/\I64 x.m.dst:=by
 obtain⟨h1,h2,h3⟩:=decM_hd h
 rw[<-x.h] at h1 h2 h3
 have h3:(insOf x.m.il).length<=255:=h3
 rw[insOf_len] at h3
 exact⟨by omega,h1,h2⟩
theorem msgB_len {m:Msg}(h:okM m):(msgB m).length<=100000:=by
 have:=layB_len h
 unfold msgB
 rw[List.length_append,beN_len]
 omega
attribute [local irreducible] msgB decM okM layB
end Go.Proofs.YtgkkpefpbfadoaaGreat
namespace Go.Proofs.YtgkkpefpbfadoaaGreat
open Go Go.RowKit
def Rd (P:Program)(w:World)(t:TypeId)(cs:List Value):Prop:=∃(H:Type)(enc:TypeId×Value->H)(n:Nat)(x:DataW H×List MemPlace),DataW.trod enc P w 0 (fun _=>true) true n t cs=some x
theorem Rd.of {H:Type}{enc:TypeId×Value->H}{P:Program}{w:World}{t:TypeId}{v:Value}{d:DataW H}{p:List MemPlace}(h:DataW.Trod enc P w 0 (fun _=>true) true t v d p):Rd P w t v.cells.toList:=by
 obtain⟨n,hn⟩:=h
 exact⟨H,enc,n,_,hn⟩
theorem Rd.int {P:Program}{w:World}{t:TypeId}{k:IntKind}{cs:List Value}(hu:P.underlying t=some (.int k))(h:Rd P w t cs):∃n,cs=[.int k n]/\(Lit.int k n).wf=true:=by
 obtain⟨H,enc,n,x,hx⟩:=h
 obtain⟨i,h1,_,h2⟩:=DataW.trod_int hu hx
 exact⟨i,h1,h2⟩
theorem Rd.i64 {P:Program}{w:World}{t:TypeId}{cs:List Value}(hu:P.underlying t=some (.int .i64))(h:Rd P w t cs):∃n,cs=[.int .i64 n]/\-9223372036854775808<=n/\n<=9223372036854775807:=by
 obtain⟨i,h1,h2⟩:=h.int hu
 exact⟨i,h1,bounds_i64 h2⟩
theorem Rd.bool {P:Program}{w:World}{t:TypeId}{cs:List Value}(hu:P.underlying t=some .bool)(h:Rd P w t cs):∃b,cs=[.bool b]:=by
 obtain⟨H,enc,n,x,hx⟩:=h
 obtain⟨i,h1,_⟩:=DataW.trod_bool hu hx
 exact⟨i,h1⟩
theorem Rd.struct {P:Program}{w:World}{t:TypeId}{fs:Array Field}{cs:List Value}(hu:P.underlying t=some (.struct fs))(h:Rd P w t cs):cs.length=P.cellsOf t/\∀f∈fs.toList,Rd P w f.type ((cs.drop f.offset).take (P.cellsOf f.type)):=by
 obtain⟨H,enc,n,x,hx⟩:=h
 obtain⟨xs,m,_,_,hl,hn,hf⟩:=DataW.trod_struct hu hx
 refine⟨hl,fun f hm=>?_⟩
 obtain⟨i,hi⟩:=List.mem_iff_getElem?.1 hm
 have hi':fs[i]?=some f:=by simpa using hi
 have hlt:i<xs.length:=by rw[hn];exact(Array.getElem?_eq_some_iff.1 hi').1
 exact⟨H,enc,m,xs[i],by rw[hf i f hi',List.getElem?_eq_getElem hlt]⟩
theorem Rd.field {P:Program}{w:World}{t:TypeId}{fs:Array Field}{cs:List Value}(hu:P.underlying t=some (.struct fs))(h:Rd P w t cs)(i:Nat){f:Field}(hf:fs[i]?=some f):Rd P w f.type ((cs.drop f.offset).take (P.cellsOf f.type)):=
 (h.struct hu).2 f (by
  have:=(Array.getElem?_eq_some_iff.1 hf)
  exact Array.mem_toList_iff.2 (this.2▸Array.getElem_mem _))
theorem Rd.array {P:Program}{w:World}{t e:TypeId}{k:Nat}{cs:List Value}(hu:P.underlying t=some (.array k e))(h:Rd P w t cs):cs.length=P.cellsOf t/\∀i,i<k->Rd P w e ((cs.drop (i*P.cellsOf e)).take (P.cellsOf e)):=by
 obtain⟨H,enc,n,x,hx⟩:=h
 obtain⟨xs,m,_,_,hl,hn,hf⟩:=DataW.trod_array hu hx
 exact⟨hl,fun i hi=>⟨H,enc,m,xs[i]'(by omega),by rw[hf i hi,List.getElem?_eq_getElem]⟩⟩
theorem Rd.slice {P:Program}{w:World}{t e:TypeId}{cs:List Value}(hu:P.underlying t=some (.slice e))(hz:0<P.cellsOf e)(h:Rd P w t cs):
 ∃(v:Value)(xs:List (List Value)),cs=[v]/\Sy.ReadsE (fun b=>b<w.heap.size) w (P.cellsOf e) v xs.length xs/\∀c∈xs,Rd P w e c:=by
 obtain⟨H,enc,n,x,hx⟩:=h
 rcases DataW.trod_slice hu hx with⟨rfl,_⟩|⟨a,len,cap,elems,rest,m,_,rfl,_,_,hc,hm,hl,he,_⟩
 ·exact⟨_,[],rfl,⟨rfl,fun c hc=>(by cases hc),_,_,rfl,Nat.le_refl _,Nat.zero_le _,fun h=>absurd h (Nat.lt_irrefl _)⟩,fun c hc=>(by cases hc)⟩
 ·have one:∀i,i<len->∃(c:List Value)(y:DataW H×List MemPlace),w.cells? 0 (a.add (i*P.cellsOf e)) (P.cellsOf e)=some c/\DataW.trod enc P w 0 (fun _=>true) true m e c=some y:=by
   intro i hi
   have:=he i hi
   rw[List.getElem?_eq_getElem (by omega)] at this
   obtain⟨c,h1,h2⟩:=Option.bind_eq_some_iff.1 this
   exact⟨c,_,h1,h2⟩
  refine⟨_,(List.range len).map fun i=>(w.cells? 0 (a.add (i*P.cellsOf e)) (P.cellsOf e)).getD [],rfl,?_,?_⟩
  ·have hszs:∀c∈(List.range len).map (fun i=>(w.cells? 0 (a.add (i*P.cellsOf e)) (P.cellsOf e)).getD []),c.length=P.cellsOf e:=by
    intro c hc
    obtain⟨i,hi,rfl⟩:=List.mem_map.1 hc
    obtain⟨c,y,h1,_⟩:=one i (by simpa using hi)
    rw[h1]
    exact(World.cells?_some h1).2.1
   refine⟨rfl,hszs,some a,cap,by simp,by simpa using hc,hm,fun hp=>⟨a,rfl,?_,fun j u hu=>?_⟩⟩
   ·obtain⟨c,y,h1,_⟩:=one 0 (by simpa using hp)
    have:=World.cells?_block h1 hz
    rwa[Sy.addr_block] at this
   ·have hj:j<len*P.cellsOf e:=by
     have:=(List.getElem?_eq_some_iff.1 hu).1
     rw[Sy.flat_len hszs] at this
     simpa using this
    have hi:j/P.cellsOf e<len:=Nat.div_lt_of_lt_mul (by rw[Nat.mul_comm];exact hj)
    have hk:j%P.cellsOf e<P.cellsOf e:=Nat.mod_lt _ hz
    obtain⟨c,y,h1,_⟩:=one _ hi
    obtain⟨_,h2,h3⟩:=World.cells?_some h1
    have h4:=h3 _ hk
    rw[Sy.addr_add,Nat.div_add_mod' j (P.cellsOf e),List.getElem?_eq_getElem (by omega)] at h4
    have h5:=Sy.flat_get hszs (i:=j/P.cellsOf e) (o:=j%P.cellsOf e) (c:=c) (u:=c[j%P.cellsOf e]'(by omega)) (by simp[List.getElem?_range hi,h1]) (List.getElem?_eq_getElem _)
    rw[Nat.div_add_mod' j (P.cellsOf e)] at h5
    rw[h4,<-h5,hu]
  ·intro c hc
   obtain⟨i,hi,rfl⟩:=List.mem_map.1 hc
   obtain⟨c,y,h1,h2⟩:=one i (by simpa using hi)
   rw[h1]
   exact⟨H,enc,m,y,h2⟩
theorem list_of {α:Type}{enc:α->List Value}{p:α->Prop}:∀{xs:List (List Value)},(∀c∈xs,∃x,c=enc x/\p x)->∃l:List α,xs=l.map enc/\∀x∈l,p x
 |[],_=>⟨[],rfl,fun x hx=>(by cases hx)⟩
 |c::r,h=>by
  obtain⟨x,rfl,hp⟩:=h c (by simp)
  obtain⟨l,rfl,hl⟩:=list_of (xs:=r) fun c hc=>h c (by simp[hc])
  exact⟨x::l,rfl,fun y hy=>by
   rcases List.mem_cons.1 hy with rfl|hy
   ·exact hp
   ·exact hl y hy⟩
theorem take1 {α:Type}{cs:List α}{i:Nat}{x:α}(h:(cs.drop i).take 1=[x]):cs[i]?=some x:=by
 have:=congrArg (fun l=>l[0]?) h
 simpa[List.getElem?_take,List.getElem?_drop] using this
end Go.Proofs.YtgkkpefpbfadoaaGreat
