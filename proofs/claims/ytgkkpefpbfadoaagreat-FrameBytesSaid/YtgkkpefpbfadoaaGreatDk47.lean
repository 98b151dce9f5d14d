/- Frame: the document's Right. -/
import Derived.Test.YtgkkpefpbfadoaaGreatDk9
import Derived.Test.YtgkkpefpbfadoaaGreatDk46
import Derived.Test.YtgkkpefpbfadoaaGreatDk44
import Derived.Test.YtgkkpefpbfadoaaGreatDk22
import Derived.Test.YtgkkpefpbfadoaaGreatDk26
namespace Go.Proofs.YtgkkpefpbfadoaaGreat
open Go Go.RowKit
open Sy (C SV V1 Blk St XD Els)
set_option maxRecDepth 10000
def vk (f:Nat->Bool)(v:Nat->Value):Nat->Value:=fun i=>if f i=true then v i else nilV
def own0 (m:MsgV):MsgV:=⟨m.kind,m.src,m.dst,m.epoch,m.att,0,0,[],[],[],Sn.sn0,[],[],[],pk0,fun _=>nilV⟩
def ownV (m:MsgV):MsgV:=if m.kind=1 then{own0 m with task:=m.task,gl:=m.gl,il:=m.il,pls:=m.pls,snap:=m.snap,v:=vk (fun i=>Nat.ble i 4) m.v} else if m.kind=3 then{own0 m with num:=m.num} else if m.kind=4 then{own0 m with names:=m.names,v:=vk (fun i=>Nat.beq i 5) m.v}
 else if m.kind=5 then{own0 m with task:=m.task,num:=m.num,snap:=m.snap,v:=vk (fun i=>Nat.beq i 3||Nat.beq i 4) m.v} else if m.kind=6 then{own0 m with up:=m.up,ended:=m.ended,v:=vk (fun i=>Nat.beq i 6||Nat.beq i 7) m.v} else if m.kind=7 then{own0 m with task:=m.task} else if m.kind=8 then{own0 m with task:=m.task,pkt:=m.pkt} else own0 m
def okp (m:Msg):Bool:=if m.kind=1 then depB m else if m.kind=2 then true else if m.kind=3 then decide (numP m.num) else if m.kind=4 then decide (1<=m.names.length/\m.names.length<=24)&&Sn.chain Sn.okT Sn.ltT none m.names
 else if m.kind=5 then decide (taskP m.task)&&(decide (numP m.num)&&decide (Sn.rightP m.snap)) else if m.kind=6 then tasksB m.up&&tasksB m.ended else if m.kind=7 then decide (taskP m.task) else if m.kind=8 then decide (0<=m.task/\m.task<64)&&decide (pktP m.pkt) else false
def frP (m:Msg):Prop:=if 5<=m.kind then wrkP m.src else mgrP m.src
def toP (m:Msg):Prop:=if m.kind<=4\/m.kind=8 then wrkP m.dst else mgrP m.dst
instance(m:Msg):Decidable (frP m):=by unfold frP;infer_instance
instance(m:Msg):Decidable (toP m):=by unfold toP;infer_instance
theorem own1 {m:MsgV}(k:m.kind=1):ownV m={own0 m with task:=m.task,gl:=m.gl,il:=m.il,pls:=m.pls,snap:=m.snap,v:=vk (fun i=>Nat.ble i 4) m.v}:=by unfold ownV;rw[if_pos k]
theorem own3 {m:MsgV}(k:m.kind=3):ownV m={own0 m with num:=m.num}:=by unfold ownV;rw[if_neg (by omega),if_pos k]
theorem own4 {m:MsgV}(k:m.kind=4):ownV m={own0 m with names:=m.names,v:=vk (fun i=>Nat.beq i 5) m.v}:=by unfold ownV;rw[if_neg (by omega),if_neg (by omega),if_pos k]
theorem own5 {m:MsgV}(k:m.kind=5):ownV m={own0 m with task:=m.task,num:=m.num,snap:=m.snap,v:=vk (fun i=>Nat.beq i 3||Nat.beq i 4) m.v}:=by unfold ownV;rw[if_neg (by omega),if_neg (by omega),if_neg (by omega),if_pos k]
theorem own6 {m:MsgV}(k:m.kind=6):ownV m={own0 m with up:=m.up,ended:=m.ended,v:=vk (fun i=>Nat.beq i 6||Nat.beq i 7) m.v}:=by unfold ownV;rw[if_neg (by omega),if_neg (by omega),if_neg (by omega),if_neg (by omega),if_pos k]
theorem own7 {m:MsgV}(k:m.kind=7):ownV m={own0 m with task:=m.task}:=by unfold ownV;rw[if_neg (by omega),if_neg (by omega),if_neg (by omega),if_neg (by omega),if_neg (by omega),if_pos k]
theorem own8 {m:MsgV}(k:m.kind=8):ownV m={own0 m with task:=m.task,pkt:=m.pkt}:=by unfold ownV;rw[if_neg (by omega),if_neg (by omega),if_neg (by omega),if_neg (by omega),if_neg (by omega),if_neg (by omega),if_pos k]
theorem own9 {m:MsgV}(k:m.kind<1\/m.kind=2\/8<m.kind):ownV m=own0 m:=by unfold ownV;rw[if_neg (by omega),if_neg (by omega),if_neg (by omega),if_neg (by omega),if_neg (by omega),if_neg (by omega),if_neg (by omega)]
theorem MOk.ownV {F:Nat->Prop}{w:World}{m:MsgV}(h:MOk F w m):MOk F w (ownV m):=by
 have n0:∀{z:Nat},XD.ok F w ⟨nilV,z,0,[]⟩:=nil_ok
 have g0:GOk F w nilV []:=⟨n0,fun o ho=>by cases ho⟩
 have i0:∀x∈([]:List InpV),IOk F w x:=by intro x hx;cases hx
 unfold Go.Proofs.YtgkkpefpbfadoaaGreat.ownV
 repeat' split
 ·exact⟨h.g,h.i,h.ir,h.p,h.s,n0,n0,n0⟩
 ·exact⟨g0,n0,i0,n0,⟨n0,n0⟩,n0,n0,n0⟩
 ·exact⟨g0,n0,i0,n0,⟨n0,n0⟩,h.n,n0,n0⟩
 ·exact⟨g0,n0,i0,n0,h.s,n0,n0,n0⟩
 ·exact⟨g0,n0,i0,n0,⟨n0,n0⟩,n0,h.u,h.e⟩
 ·exact⟨g0,n0,i0,n0,⟨n0,n0⟩,n0,n0,n0⟩
 ·exact⟨g0,n0,i0,n0,⟨n0,n0⟩,n0,n0,n0⟩
 ·exact⟨g0,n0,i0,n0,⟨n0,n0⟩,n0,n0,n0⟩
theorem own_iff (m:MsgV):(ownV m).msg=m.msg↔bareM m.msg:=by
 unfold bareM
 have c0:((0:Int)=m.task)=(m.task=0):=propext eq_comm
 have c1:((0:Int)=m.num)=(m.num=0):=propext eq_comm
 have c2:([]=opsOf m.gl)=(opsOf m.gl=[]):=propext eq_comm
 have c3:([]=insOf m.il)=(insOf m.il=[]):=propext eq_comm
 have c4:([]=m.pls)=(m.pls=[]):=propext eq_comm
 have c5:(Sn.sn0=m.snap)=(m.snap=Sn.sn0):=propext eq_comm
 have c6:([]=m.names)=(m.names=[]):=propext eq_comm
 have c7:([]=m.up)=(m.up=[]):=propext eq_comm
 have c8:([]=m.ended)=(m.ended=[]):=propext eq_comm
 have c9:(pk0=m.pkt)=(m.pkt=pk0):=propext eq_comm
 have o0:opsOf []=[]:=rfl
 have i0:insOf []=[]:=rfl
 by_cases k1:m.kind=1
 ·rw[own1 k1];simp[MsgV.msg,own0,k1,and_assoc,c1,c6,c7,c8,c9]
 by_cases k3:m.kind=3
 ·rw[own3 k3];simp[MsgV.msg,own0,k3,and_assoc,c0,c2,c3,c4,c5,c6,c7,c8,c9,o0,i0]
 by_cases k4:m.kind=4
 ·rw[own4 k4];simp[MsgV.msg,own0,k4,and_assoc,c0,c1,c2,c3,c4,c5,c7,c8,c9,o0,i0]
 by_cases k5:m.kind=5
 ·rw[own5 k5];simp[MsgV.msg,own0,k5,and_assoc,c2,c3,c4,c6,c7,c8,c9,o0,i0]
 by_cases k6:m.kind=6
 ·rw[own6 k6];simp[MsgV.msg,own0,k6,and_assoc,c0,c1,c2,c3,c4,c5,c6,c9,o0,i0]
 by_cases k7:m.kind=7
 ·rw[own7 k7];simp[MsgV.msg,own0,k7,and_assoc,c1,c2,c3,c4,c5,c6,c7,c8,c9,o0,i0]
 by_cases k8:m.kind=8
 ·rw[own8 k8];simp[MsgV.msg,own0,k8,and_assoc,c1,c2,c3,c4,c5,c6,c7,c8,o0,i0]
 ·have e:ownV m=own0 m:=by unfold ownV;rw[if_neg k1,if_neg k3,if_neg k4,if_neg k5,if_neg k6,if_neg k7,if_neg k8]
  rw[e];simp[MsgV.msg,own0,k1,k3,k4,k5,k6,k7,k8,and_assoc,c0,c1,c2,c3,c4,c5,c6,c7,c8,c9,o0,i0]
theorem kind_iff (m:Msg):kindB m=true↔okp m=true/\frP m/\toP m:=by
 have h1:dnP m↔mgrP m.src/\wrkP m.dst:=Iff.rfl
 have h2:upP m↔wrkP m.src/\mgrP m.dst:=Iff.rfl
 unfold kindB okp frP toP
 by_cases k1:m.kind=1
 ·simp only[k1,if_false,Bool.and_eq_true,decide_eq_true_eq,Int.reduceEq,Int.reduceLE,or_false,if_pos,h1,h2];try(constructor<;>(intro h;simp_all))
 by_cases k2:m.kind=2
 ·simp only[k2,if_false,decide_eq_true_eq,Int.reduceEq,Int.reduceLE,or_false,if_pos,h1,h2,true_and];try(constructor<;>(intro h;simp_all))
 by_cases k3:m.kind=3
 ·simp only[k3,if_false,Bool.and_eq_true,decide_eq_true_eq,Int.reduceEq,Int.reduceLE,or_false,if_pos,h1,h2];try(constructor<;>(intro h;simp_all))
 by_cases k4:m.kind=4
 ·simp only[k4,if_false,Bool.and_eq_true,decide_eq_true_eq,Int.reduceEq,Int.reduceLE,or_false,if_pos,h1,h2];try(constructor<;>(intro h;simp_all))
 by_cases k5:m.kind=5
 ·simp only[k5,if_false,Bool.and_eq_true,decide_eq_true_eq,Int.reduceEq,Int.reduceLE,or_false,if_pos,h1,h2];try(constructor<;>(intro h;simp_all))
 by_cases k6:m.kind=6
 ·simp only[k6,if_false,Bool.and_eq_true,decide_eq_true_eq,Int.reduceEq,Int.reduceLE,or_false,if_pos,h1,h2];try(constructor<;>(intro h;simp_all))
 by_cases k7:m.kind=7
 ·simp only[k7,if_false,Bool.and_eq_true,decide_eq_true_eq,Int.reduceEq,Int.reduceLE,or_false,if_pos,h1,h2];try(constructor<;>(intro h;simp_all))
 by_cases k8:m.kind=8
 ·simp only[k8,if_false,Bool.and_eq_true,decide_eq_true_eq,Int.reduceEq,Int.reduceLE,or_true,if_pos,h1,h2];try(constructor<;>(intro h;simp_all))
 ·simp[k1,k2,k3,k4,k5,k6,k7,k8]
theorem okp1 {m:Msg}(k:m.kind=1):okp m=depB m:=by unfold okp;rw[if_pos k]
theorem okp2 {m:Msg}(k:m.kind=2):okp m=true:=by unfold okp;rw[if_neg (by omega),if_pos k]
theorem okp3 {m:Msg}(k:m.kind=3):okp m=decide (numP m.num):=by unfold okp;rw[if_neg (by omega),if_neg (by omega),if_pos k]
theorem okp4 {m:Msg}(k:m.kind=4):okp m=(decide (1<=m.names.length/\m.names.length<=24)&&Sn.chain Sn.okT Sn.ltT none m.names):=by unfold okp;rw[if_neg (by omega),if_neg (by omega),if_neg (by omega),if_pos k]
theorem okp5 {m:Msg}(k:m.kind=5):okp m=(decide (taskP m.task)&&(decide (numP m.num)&&decide (Sn.rightP m.snap))):=by unfold okp;rw[if_neg (by omega),if_neg (by omega),if_neg (by omega),if_neg (by omega),if_pos k]
theorem okp6 {m:Msg}(k:m.kind=6):okp m=(tasksB m.up&&tasksB m.ended):=by unfold okp;rw[if_neg (by omega),if_neg (by omega),if_neg (by omega),if_neg (by omega),if_neg (by omega),if_pos k]
theorem okp7 {m:Msg}(k:m.kind=7):okp m=decide (taskP m.task):=by unfold okp;rw[if_neg (by omega),if_neg (by omega),if_neg (by omega),if_neg (by omega),if_neg (by omega),if_neg (by omega),if_pos k]
theorem okp8 {m:Msg}(k:m.kind=8):okp m=(decide (0<=m.task/\m.task<64)&&decide (pktP m.pkt)):=by unfold okp;rw[if_neg (by omega),if_neg (by omega),if_neg (by omega),if_neg (by omega),if_neg (by omega),if_neg (by omega),if_neg (by omega),if_pos k]
theorem okp9 {m:Msg}(k:m.kind<1\/8<m.kind):okp m=false:=by unfold okp;rw[if_neg (by omega),if_neg (by omega),if_neg (by omega),if_neg (by omega),if_neg (by omega),if_neg (by omega),if_neg (by omega),if_neg (by omega)]
namespace Sy
theorem calls_sem (lv:List (Nat×List Nat)){P:Program}{T:Tab}{f:FuncId}{fn:Func}{c:Code}{w:World}{R:Ending->World->Prop}(hT:TabOk P T)(hf:P.funcs[f]?=some fn)(hb:fn.body=some c)(nt:Nat)(hnt:fn.ntmps=nt){args:Array Value}(exts:List XD)(avs:List SV)(hargs:args=denAll (env0.exts 0 exts) avs)(hl:allLt exts.length avs=true)(hn:Nat.ble avs.length nt=true)
 (hd:AllOk (fun x=>x<w.heap.size) w exts)
 (hx:St.forceAll (((St.bare w fun _=>False).exts exts).withFr (number 0 avs)) fun S=>semP {P:=P,T:=T,w0:=w,nt:=nt,lv:=lv} c S (xret {P:=P,T:=T,w0:=w,nt:=nt,lv:=lv} fn R)):Calls P f args w R:=by
 rw[forceAll_eq] at hx
 have hn:=Nat.le_of_ble_eq_true hn
 have hsz:args.size=avs.length:=by rw[hargs];simp[denAll]
 have h0:=rep_bare (lv:=lv) (P:=P) (T:=T) (w:=w) (nt:=nt) (own:=fun _=>False) (args:=args) (by omega)
 have h1:=Rep.exts exts h0 (fun d hd'=>⟨(AllOk.mem hd d hd').1.keep (fun b hb=>⟨hb,fun h=>h⟩) (fun _ _=>rfl),(AllOk.mem hd d hd').2⟩)
 have hnx:∀(l:List XD)(S:St),(S.exts l).nx=S.nx+l.length:=by
  intro l
  induction l with
  |nil=>intro S;rfl
  |cons d l ih=>intro S;rw[St.exts,ih,new_nx,List.length_cons];omega
 have h2:=h1.setFr avs hargs (fun v hv=>by rw[hnx];simpa[St.bare] using allLt_mem hl v hv) hn
 refine callsIn_wide (n:=0).1 (callsIn_of_wp_marks hf hb trivial ?_)
 rw[hnt]
 exact sem_get hx h2 (xret_ok hT)
end Sy
attribute [local irreducible] depB tasksB Sn.rightP Sn.chain ownV okp
set_option maxHeartbeats 16000000 in
theorem right27_any (m:MsgV)(w:World)(hr:MOk (fun b=>b<w.heap.size) w m)(hb:m.il.length<=100000):
 Calls Tryz.prog 10 #[.agg (encM m).toArray] w (Sy.Ret (.bool (decide (okM m.msg))) w):=by
 refine Sy.calls_sem Sy.lv10 Sy.tab_ok Tryz.func10 rfl _ Tryz.ntmps10 [] [.agg (cellsM C.v m fun i=>.v (m.v i))] rfl (lt_one (Sy.ltAll_v (msg_one hr))) rfl trivial ?_
 conv=>whnf
 refine Sy.seq_hold (Sy.sem_go Sy.tab_ok ?_)
 refine Vc ?_
 refine⟨Sy.seq_hold (Sy.sem_go Sy.tab_ok ?_)⟩
 refine Vc ?_
 refine Sy.cut_meet Sy.tab_ok (fun _:Unit=>[(24,.c (.v (.bool (decide (¬((1<=m.epoch/\m.epoch<=2147483647)/\1<=m.att/\m.att<=1048576))))))]) (fun _=>[]) (fun _=>True) ?_ (fun _ _=>?_)
 ·refine Sy.region_go Sy.tab_ok (V (Vj (fun hh=>?_) fun hh=>Vj (fun hh=>?_) fun hh=>Vj (fun hh=>?_) fun hh=>?_))
  all_goals(refine⟨(),trivial,?_⟩;refine Vs ?_)
  all_goals exact fbool
 conv=>whnf
 by_cases hR:¬((1<=m.epoch/\m.epoch<=2147483647)/\1<=m.att/\m.att<=1048576)
 ·rw[decide_eq_true hR,decide_eq_false fun h=>hR h.2.2]
  exact V0
 rw[decide_eq_false hR]
 have hR:=Decidable.not_not.1 hR
 refine Vc ?_
 refine⟨Sy.seq_hold (Sy.sem_go Sy.tab_ok ?_)⟩
 refine Vc ?_
 refine⟨Sy.seq_hold (Sy.sem_go Sy.tab_ok ?_)⟩
 refine Vc ?_
 refine⟨Sy.meetS Sy.tab_ok (fun _:Unit=>[]) (fun _=>[(4,.c (.v (.bool (okp m.msg))))]) (fun _=>[(1,.cells 49 (cellsM C.v (ownV m) fun i=>.v ((ownV m).v i)))]) (fun _=>True) (Sy.sem_go Sy.tab_ok ?_) (fun _ _=>?_)⟩
 ·conv=>whnf
  by_cases k1:m.kind=1
  ·rw[own1 k1,okp1 (m:=m.msg) k1]
   refine V ?_
   all_goals(refine Sy.draw_go [1] (by kernel_rfl) ?_;intro e0;conv=>whnf)
   all_goals(refine zt 0 rfl ?_)
   all_goals(conv=>whnf)
   all_goals(refine zt 1 rfl ?_)
   all_goals(conv=>whnf)
   all_goals(refine zt 2 rfl ?_)
   all_goals(conv=>whnf)
   all_goals(refine zt 3 rfl ?_)
   all_goals(conv=>whnf)
   all_goals(refine zt 4 rfl ?_)
   all_goals(conv=>whnf)
   all_goals(refine zt 5 rfl ?_)
   all_goals(conv=>whnf)
   all_goals(refine zt 6 rfl ?_)
   all_goals(conv=>whnf)
   all_goals(refine zd1 [7] (zx rfl ?_ zy))
   all_goals(conv=>whnf)
   all_goals(refine Yk ?_)
   all_goals(refine zt 8 rfl ?_)
   all_goals(conv=>whnf)
   all_goals(refine zd1 [9] (zx rfl ?_ zy))
   all_goals(conv=>whnf)
   all_goals(refine Yk ?_)
   all_goals(refine zt 10 rfl ?_)
   all_goals(conv=>whnf)
   all_goals(refine zd1 [11] (zx rfl ?_ zy))
   all_goals(conv=>whnf)
   all_goals(refine Yk ?_)
   all_goals(refine zw ?_)
   skip
   all_goals(refine V ?_)
   refine Sy.call_val (.c (.v (.bool (depB m.msg)))) Tryz.call22 rfl (fun e a w' h=>rdeploys_any m w' (MOk.later h hr) hb) (V ?_)
   refine⟨(),trivial,?_⟩
   exact Vs0
  by_cases k2:m.kind=2
  ·rw[own9 (m:=m) (by omega),okp2 (m:=m.msg) k2]
   refine V ?_
   refine⟨(),trivial,?_⟩
   exact Vs0
  by_cases k3:m.kind=3
  ·rw[own3 k3,okp3 (m:=m.msg) k3]
   refine V ?_
   refine Sy.call_val (.c (.v (.bool (decide (numP m.num))))) Tryz.call23 rfl (fun e a w' h=>rnumb_any m.num w') (V ?_)
   refine⟨(),trivial,?_⟩
   exact Vs0
  by_cases k4:m.kind=4
  ·rw[own4 k4,okp4 (m:=m.msg) k4]
   refine V ?_
   refine Sy.call_val (.c (.v (.bool (decide (1<=m.names.length/\m.names.length<=24)&&Sn.chain Sn.okT Sn.ltT none m.names)))) Tryz.call24 rfl (fun e a w' h=>rnames_any (m.v 5) m.names w' (MOk.later h hr).n) (V ?_)
   refine⟨(),trivial,?_⟩
   exact Vs0
  by_cases k5:m.kind=5
  ·rw[own5 k5,okp5 (m:=m.msg) k5]
   refine V ?_
   all_goals(refine Sy.draw_go [1] (by kernel_rfl) ?_;intro e0;conv=>whnf)
   all_goals(refine zt 0 rfl ?_)
   all_goals(conv=>whnf)
   all_goals(refine zt 1 rfl ?_)
   all_goals(conv=>whnf)
   all_goals(refine zt 2 rfl ?_)
   all_goals(conv=>whnf)
   all_goals(refine zt 3 rfl ?_)
   all_goals(conv=>whnf)
   all_goals(refine zt 4 rfl ?_)
   all_goals(conv=>whnf)
   all_goals(refine zt 5 rfl ?_)
   all_goals(conv=>whnf)
   all_goals(refine zt 6 rfl ?_)
   all_goals(conv=>whnf)
   all_goals(refine zd1 [7] (zx rfl ?_ zy))
   all_goals(conv=>whnf)
   all_goals(refine Yk ?_)
   all_goals(refine zt 8 rfl ?_)
   all_goals(conv=>whnf)
   all_goals(refine zd1 [9] (zx rfl ?_ zy))
   all_goals(conv=>whnf)
   all_goals(refine Yk ?_)
   all_goals(refine zt 10 rfl ?_)
   all_goals(conv=>whnf)
   all_goals(refine zd1 [11] (zx rfl ?_ zy))
   all_goals(conv=>whnf)
   all_goals(refine Yk ?_)
   all_goals(refine zw ?_)
   skip
   all_goals(refine V (Vj (fun hh=>Vj (fun hh=>?_) fun hh=>?_) fun hh=>?_))
   ·refine Sy.call_val (.c (.v (.bool (decide (numP m.num))))) Tryz.call23 rfl (fun e a w' h=>rnumb_any m.num w') (V (Vj (fun hh=>?_) fun hh=>?_))
    ·refine Sy.call_val (.c (.v (.bool (decide (Sn.rightP m.snap))))) Tryz.call25 rfl (fun e a w' h=>Sn.right_any m.sv w' (MOk.later h hr).s) (V ?_)
     all_goals(refine⟨(),trivial,?_⟩;refine Vs ?_)
     all_goals exact congrArg Value.bool (by simp[msgs m,taskP, *]<;>intros<;>omega)
    all_goals(refine⟨(),trivial,?_⟩;refine Vs ?_)
    all_goals exact congrArg Value.bool (by simp[msgs m,taskP, *]<;>intros<;>omega)
   all_goals(refine⟨(),trivial,?_⟩;refine Vs ?_)
   all_goals exact congrArg Value.bool (by simp[msgs m,taskP, *]<;>intros<;>omega)
  by_cases k6:m.kind=6
  ·rw[own6 k6,okp6 (m:=m.msg) k6]
   refine V ?_
   all_goals(refine Sy.draw_go [1] (by kernel_rfl) ?_;intro e0;conv=>whnf)
   all_goals(refine zt 0 rfl ?_)
   all_goals(conv=>whnf)
   all_goals(refine zt 1 rfl ?_)
   all_goals(conv=>whnf)
   all_goals(refine zt 2 rfl ?_)
   all_goals(conv=>whnf)
   all_goals(refine zt 3 rfl ?_)
   all_goals(conv=>whnf)
   all_goals(refine zt 4 rfl ?_)
   all_goals(conv=>whnf)
   all_goals(refine zd1 [5] (zx rfl ?_ zy))
   all_goals(conv=>whnf)
   all_goals(refine Yk ?_)
   all_goals(refine zt 6 rfl ?_)
   all_goals(conv=>whnf)
   all_goals(refine zd1 [7] (zx rfl ?_ zy))
   all_goals(conv=>whnf)
   all_goals(refine Yk ?_)
   all_goals(refine zw ?_)
   skip
   all_goals(refine V ?_)
   refine Sy.call_val (.c (.v (.bool (tasksB m.up)))) Tryz.call26 rfl (fun e a w' h=>rtasks_any (m.v 6) m.up w' (MOk.later h hr).u) (V (Vj (fun hh=>?_) fun hh=>?_))
   ·refine Sy.call_val (.c (.v (.bool (tasksB m.ended)))) Tryz.call26 rfl (fun e a w' h=>rtasks_any (m.v 7) m.ended w' (MOk.later h hr).e) (V ?_)
    all_goals(refine⟨(),trivial,?_⟩;refine Vs ?_)
    all_goals exact congrArg Value.bool (by simp[msgs m, *]<;>intros<;>omega)
   all_goals(refine⟨(),trivial,?_⟩;refine Vs ?_)
   all_goals exact congrArg Value.bool (by simp[msgs m, *]<;>intros<;>omega)
  by_cases k7:m.kind=7
  ·rw[own7 k7,okp7 (m:=m.msg) k7]
   refine V (Vj (fun hh=>?_) fun hh=>?_)
   all_goals(refine⟨(),trivial,?_⟩;refine Vs ?_)
   all_goals exact congrArg Value.bool (by simp[msgs m,taskP, *]<;>intros<;>omega)
  by_cases k8:m.kind=8
  ·rw[own8 k8,okp8 (m:=m.msg) k8]
   refine V ?_
   all_goals(refine Sy.draw_go [1] (by kernel_rfl) ?_;intro e0;conv=>whnf)
   all_goals(refine zt 0 rfl ?_)
   all_goals(conv=>whnf)
   all_goals(refine zt 1 rfl ?_)
   all_goals(conv=>whnf)
   all_goals(refine zt 2 rfl ?_)
   all_goals(conv=>whnf)
   all_goals(refine zt 3 rfl ?_)
   all_goals(conv=>whnf)
   all_goals(refine zt 4 rfl ?_)
   all_goals(conv=>whnf)
   all_goals(refine zd1 [5] (zx rfl ?_ zy))
   all_goals(conv=>whnf)
   all_goals(refine Yk ?_)
   all_goals(refine zt 6 rfl ?_)
   all_goals(conv=>whnf)
   all_goals(refine zd1 [7] (zx rfl ?_ zy))
   all_goals(conv=>whnf)
   all_goals(refine Yk ?_)
   all_goals(refine zw ?_)
   skip
   all_goals(refine V (Vj (fun hh=>Vj (fun hh=>?_) fun hh=>?_) fun hh=>?_))
   ·refine Sy.call_val (.c (.v (.bool (decide (pktP m.pkt))))) Tryz.call27 rfl (fun e a w' h=>rpkt_any m.pkt w') (V ?_)
    all_goals(refine⟨(),trivial,?_⟩;refine Vs ?_)
    all_goals exact congrArg Value.bool (by simp[msgs m, *]<;>intros<;>omega)
   all_goals(refine⟨(),trivial,?_⟩;refine Vs ?_)
   all_goals exact congrArg Value.bool (by simp[msgs m, *]<;>intros<;>omega)
  rw[own9 (m:=m) (by omega),okp9 (m:=m.msg) (by show m.kind<1\/8<m.kind;omega)]
  refine V ?_
  refine⟨(),trivial,?_⟩
  exact Vs0
 conv=>whnf
 have hO:=hr.ownV
 have hi:=own_iff m
 have hk:=kind_iff m.msg
 generalize ownV m=O at *
 generalize okp m.msg=B at *
 have hok:okM m.msg↔(B=true/\frP m.msg/\toP m.msg)/\O.msg=m.msg:=by
  unfold okM
  rw[hk,<-hi]
  exact⟨fun h=>⟨h.1,h.2.1⟩,fun h=>⟨h.1,h.2,hR.1,hR.2⟩⟩
 have hw:∀n,0<wOf n↔wrkP n:=fun n=>by unfold wOf;by_cases h:wrkP n<;>simp only[h,if_true,if_false,iff_true,iff_false]<;>(unfold wrkP at h;omega)
 refine Sy.cut_sem (Sy.seq_hold (Sy.sem_go Sy.tab_ok ?_))
 conv=>whnf
 refine Sy.draw_go [] (by kernel_rfl) ?_
 intro e0
 conv=>whnf
 refine zt 0 rfl ?_
 conv=>whnf
 refine zt 1 rfl ?_
 conv=>whnf
 refine zt 3 rfl ?_
 conv=>whnf
 refine zt 4 rfl ?_
 conv=>whnf
 refine zd1 [2] (zx rfl ?_ zy)
 conv=>whnf
 refine Sy.call_val (.c (.v (.bool (decide (mgrP m.src))))) Tryz.call28 rfl (fun e a w' h=>rmgr_any m.src w') ?_
 conv=>whnf
 refine Yk ?_
 refine zd1 [5] (zx rfl ?_ zy)
 conv=>whnf
 refine Sy.call_val (.c (.v (.bool (decide (mgrP m.dst))))) Tryz.call28 rfl (fun e a w' h=>rmgr_any m.dst w') ?_
 conv=>whnf
 refine Yk ?_
 refine zt 6 rfl ?_
 conv=>whnf
 refine zt 7 rfl ?_
 conv=>whnf
 refine zw ?_
 skip
 refine⟨Sy.meetS Sy.tab_ok (fun _:Unit=>[]) (fun _=>[(5,.c (.v (.bool (decide (frP m.msg)))))]) (fun _=>[]) (fun _=>True) (Sy.sem_go Sy.tab_ok ?_) (fun _ _=>?_)⟩
 ·conv=>whnf
  refine V (Vj (fun hh=>?_) fun hh=>?_)
  ·refine Sy.call_val (.c (.v (.int .i64 (wOf m.src)))) Tryz.call29 rfl (fun e a w' h=>rwkr_any m.src w') (V ?_)
   refine⟨(),trivial,?_⟩
   refine Vs ?_
   exact congrArg Value.bool (by rw[decide_eq_decide];unfold frP;rw[if_pos (by assumption)];exact hw _)
  ·refine⟨(),trivial,?_⟩
   refine Vs ?_
   exact congrArg Value.bool (by rw[decide_eq_decide];unfold frP;rw[if_neg (by assumption)];rfl)
 conv=>whnf
 refine Vc ?_
 refine Sy.cut_meet Sy.tab_ok (fun _:Unit=>[(168,.c (.v (.bool (decide (m.kind<=4\/m.kind=8)))))]) (fun _=>[]) (fun _=>True) ?_ (fun _ _=>?_)
 ·refine Sy.region_go Sy.tab_ok (V (Vj (fun hh=>?_) fun hh=>?_))
  all_goals(refine⟨(),trivial,?_⟩;refine Vs ?_)
  all_goals exact fbool
 conv=>whnf
 by_cases hK:m.kind<=4\/m.kind=8
 ·have hT:toP m.msg↔0<wOf m.dst:=by unfold toP;rw[if_pos (by exact hK)];exact(hw _).symm
  clear hw
  rw[decide_eq_true hK]
  refine V ?_
  refine Sy.call_val (.c (.v (.int .i64 (wOf m.dst)))) Tryz.call29 rfl (fun e a w' h=>rwkr_any m.dst w') (V (Vj (fun hh=>Vj (fun hh=>Vj (fun hh=>?_) fun hh=>?_) fun hh=>?_) fun hh=>?_))
  ·refine Sy.call_val (.c (.v (.bool (decide (O.msg=m.msg))))) Tryz.call17 rfl (fun e a w' h=>rsame27_any O m w' (MOk.later h hO) (MOk.later h hr)) (V ?_)
   exact Sy.fin_val fun e=>fbool (by rw[hok];simp[*])
  all_goals exact Sy.fin_val fun e=>fbool (by rw[hok];simp[*])
 ·have hT:toP m.msg↔mgrP m.dst:=by unfold toP;rw[if_neg (by exact hK)];rfl
  rw[decide_eq_false hK]
  refine V (Vj (fun hh=>Vj (fun hh=>Vj (fun hh=>?_) fun hh=>?_) fun hh=>?_) fun hh=>?_)
  ·refine Sy.call_val (.c (.v (.bool (decide (O.msg=m.msg))))) Tryz.call17 rfl (fun e a w' h=>rsame27_any O m w' (MOk.later h hO) (MOk.later h hr)) (V ?_)
   exact Sy.fin_val fun e=>fbool (by rw[hok];simp[*])
  all_goals exact Sy.fin_val fun e=>fbool (by rw[hok];simp[*])
end Go.Proofs.YtgkkpefpbfadoaaGreat
