/- Frame: which messages may be. -/
import Derived.Test.YtgkkpefpbfadoaaGreatDk9
import Derived.Test.YtgkkpefpbfadoaaGreatDk18
import Derived.Test.YtgkkpefpbfadoaaGreatDk24
namespace Go.Proofs.YtgkkpefpbfadoaaGreat
open Go Go.RowKit
open Sy (C SV V1 Blk St XD Els)
set_option maxRecDepth 10000
theorem zcl {X:Sy.Cx}{S:St}{d:Option Nat}{f:Nat}{args:List SV}{K:St->Prop}(h:Sy.callP X S d f args K):Sy.callP X S d f args K:=h
def nilV:Value:=.slice none 0 0
theorem lt_one {n:Nat}{l:List C}(h:Sy.ltAll n l=true):Sy.allLt n [.agg l]=true:=by
 show(match Sy.ltAll n l with|true=>true|false=>false)=true
 rw[h]
theorem snap_one {F:Nat->Prop}{w:World}{s:Sn.SnV}(h:Sn.SOk F w s):∀x∈Sn.encS s,x.oneCell'=true:=by
 have h1:=Sy.ReadsE.one h.rows.1
 have h2:=Sy.ReadsE.one h.txs.1
 simp only[Sn.encS,List.mem_cons,List.not_mem_nil,or_false]
 rintro x (rfl|rfl|rfl|rfl|rfl|rfl|rfl|rfl|rfl|rfl|rfl|rfl|rfl|rfl)<;>first|rfl|assumption
theorem zsnap_any (s:Sn.SnV)(w:World)(hr:Sn.SOk (fun b=>b<w.heap.size) w s):Calls Tryz.prog 56 #[.agg (Sn.encS s).toArray] w (Sy.Ret (.bool (decide (s.sn=Sn.sn0))) w):=by
 refine Sy.calls_of Sy.lv56 Sy.tab_ok Tryz.func56 rfl _ Tryz.ntmps56 [] [.agg (Sn.cellsS C.v s.sn (.v s.rv) (.v s.tv))] rfl (lt_one (Sy.ltAll_v (snap_one hr))) rfl trivial (V ?_)
 refine Sy.call_val (.c (.v (.bool (decide (s.sn=Sn.sn0))))) Tryz.call36 rfl (fun e a w' h=>Sn.same_any s ⟨Sn.sn0,nilV,nilV⟩ w' ⟨Sy.later_in h hr.rows,Sy.later_in h hr.txs⟩ ⟨nil_ok,nil_ok⟩) V0
theorem zlaid_any (gv iv pv:Value)(gl:List OpV)(il:List InpV)(pl:List Plc)(w:World)(hg:GOk (fun b=>b<w.heap.size) w gv gl)(hi:XD.ok (fun b=>b<w.heap.size) w ⟨iv,2,il.length,il.map encIV⟩)(hp:XD.ok (fun b=>b<w.heap.size) w ⟨pv,2,pl.length,pl.map encP⟩):
 Calls Tryz.prog 55 #[.agg #[gv,iv,pv]] w (Sy.Ret (.bool (decide (gl=[]/\il=[]/\pl=[]))) w):=by
 have hl0:=ok_len hg.1
 have hl1:=ok_len hi
 have hl2:=ok_len hp
 refine Sy.calls_of Sy.lv55 Sy.tab_ok Tryz.func55 rfl _ Tryz.ntmps55 [⟨gv,5,gl.length,gl.map encOV⟩,⟨iv,2,il.length,il.map encIV⟩,⟨pv,2,pl.length,pl.map encP⟩] [.agg [.row 0,.row 1,.row 2]] rfl rfl rfl ⟨hg.1,hi,hp,trivial⟩ (V (Vj (fun hh=>Vj (fun hh=>?_) fun hh=>?_) fun hh=>?_))
 all_goals exact Sy.fin_val fun e=>fbool (by simp_all)
def vz (f:Nat->Bool)(v:Nat->Value):Nat->Value:=fun i=>if f i=true then nilV else v i
def rest (m:MsgV):MsgV:=if m.kind=1 then{m with task:=0,gl:=[],il:=[],pls:=[],snap:=Sn.sn0,v:=vz (fun i=>Nat.ble i 4) m.v} else if m.kind=3 then{m with num:=0} else if m.kind=4 then{m with names:=[],v:=vz (fun i=>Nat.beq i 5) m.v}
 else if m.kind=5 then{m with task:=0,num:=0,snap:=Sn.sn0,v:=vz (fun i=>Nat.beq i 3||Nat.beq i 4) m.v} else if m.kind=6 then{m with up:=[],ended:=[],v:=vz (fun i=>Nat.beq i 6||Nat.beq i 7) m.v} else if m.kind=7 then{m with task:=0} else if m.kind=8 then{m with task:=0,pkt:=pk0} else m
def dnP (m:Msg):Prop:=mgrP m.src/\wrkP m.dst
def upP (m:Msg):Prop:=wrkP m.src/\mgrP m.dst
instance(m:Msg):Decidable (dnP m):=by unfold dnP;infer_instance
instance(m:Msg):Decidable (upP m):=by unfold upP;infer_instance
def kindB (m:Msg):Bool:=if m.kind=1 then decide (dnP m)&&depB m else if m.kind=2 then decide (dnP m) else if m.kind=3 then decide (dnP m)&&decide (numP m.num) else if m.kind=4 then decide (dnP m)&&(decide (1<=m.names.length/\m.names.length<=24)&&Sn.chain Sn.okT Sn.ltT none m.names)
 else if m.kind=5 then decide (upP m)&&(decide (taskP m.task)&&(decide (numP m.num)&&decide (Sn.rightP m.snap))) else if m.kind=6 then decide (upP m)&&(tasksB m.up&&tasksB m.ended) else if m.kind=7 then decide (upP m)&&decide (taskP m.task)
 else if m.kind=8 then decide (wrkP m.src/\wrkP m.dst)&&(decide (0<=m.task/\m.task<64)&&decide (pktP m.pkt)) else false
theorem msg_one {F:Nat->Prop}{w:World}{m:MsgV}(h:MOk F w m):∀x∈encM m,x.oneCell'=true:=by
 have h0:=Sy.ReadsE.one h.g.1.1
 have h1:=Sy.ReadsE.one h.i.1
 have h2:=Sy.ReadsE.one h.p.1
 have h3:=Sy.ReadsE.one h.s.rows.1
 have h4:=Sy.ReadsE.one h.s.txs.1
 have h5:=Sy.ReadsE.one h.n.1
 have h6:=Sy.ReadsE.one h.u.1
 have h7:=Sy.ReadsE.one h.e.1
 intro x hx
 simp only[encM,cellsM,List.mem_cons,List.not_mem_nil,or_false,id] at hx
 repeat'(rcases hx with rfl|hx)
 all_goals first|rfl|assumption|(subst hx;rfl)
theorem MOk.later {lv:List (Nat×List Nat)}{lvg:List (List (Nat×List Nat))}{P:Program}{T:Sy.Tab}{w0:World}{nt:Nat}{rd:Option Nat}{gh:List Act}{n0:Nat}{e0:Sy.Env}{pins:List (Nat×Nat)}{e:Sy.Env}{S:St}{a:Act}{w:World}{m:MsgV}
 (h:Sy.Rep {P:=P,T:=T,w0:=w0,nt:=nt,rd:=rd,gh:=gh,n0:=n0,e0:=e0,pins:=pins,lv:=lv,lvg:=lvg} e S a w)(hr:MOk (fun b=>b<w0.heap.size) w0 m):MOk (fun b=>b<w.heap.size) w m:=
 ⟨⟨Sy.later_in h hr.g.1,fun o ho=>Sy.later_in h (hr.g.2 o ho)⟩,Sy.later_in h hr.i,fun x hx=>Sy.later_in h (hr.ir x hx),Sy.later_in h hr.p,⟨Sy.later_in h hr.s.rows,Sy.later_in h hr.s.txs⟩,Sy.later_in h hr.n,Sy.later_in h hr.u,Sy.later_in h hr.e⟩
theorem msgs (m:MsgV):m.msg.src=m.src/\m.msg.dst=m.dst/\m.msg.task=m.task/\m.msg.num=m.num/\m.msg.snap=m.snap/\m.msg.names=m.names/\m.msg.up=m.up/\m.msg.ended=m.ended/\m.msg.pkt=m.pkt:=⟨rfl,rfl,rfl,rfl,rfl,rfl,rfl,rfl,rfl⟩
theorem ret_msg {x y:Value}{b c:Bool}(h:x=y)(hb:b=c):Value.tuple #[x,.bool b]=Value.tuple #[y,.bool c]:=by rw[h,hb]
theorem chk0 (s:Sn.Sn):(Sn.chkE s==0)=decide (Sn.rightP s):=by
 unfold Sn.chkE
 by_cases h:Sn.rightP s<;>simp[h]
theorem rest1 {m:MsgV}(k:m.kind=1):rest m={m with task:=0,gl:=[],il:=[],pls:=[],snap:=Sn.sn0,v:=vz (fun i=>Nat.ble i 4) m.v}:=by unfold rest;rw[if_pos k]
theorem body1 {m:Msg}(k:m.kind=1):kindB m=(decide (dnP m)&&depB m):=by unfold kindB;rw[if_pos k]
theorem rest2 {m:MsgV}(k:m.kind=2):rest m=m:=by unfold rest;rw[if_neg (by omega),if_neg (by omega),if_neg (by omega),if_neg (by omega),if_neg (by omega),if_neg (by omega),if_neg (by omega)]
theorem body2 {m:Msg}(k:m.kind=2):kindB m=(decide (dnP m)):=by unfold kindB;rw[if_neg (by omega),if_pos k]
theorem rest3 {m:MsgV}(k:m.kind=3):rest m={m with num:=0}:=by unfold rest;rw[if_neg (by omega),if_pos k]
theorem body3 {m:Msg}(k:m.kind=3):kindB m=(decide (dnP m)&&decide (numP m.num)):=by unfold kindB;rw[if_neg (by omega),if_neg (by omega),if_pos k]
theorem rest4 {m:MsgV}(k:m.kind=4):rest m={m with names:=[],v:=vz (fun i=>Nat.beq i 5) m.v}:=by unfold rest;rw[if_neg (by omega),if_neg (by omega),if_pos k]
theorem body4 {m:Msg}(k:m.kind=4):kindB m=(decide (dnP m)&&(decide (1<=m.names.length/\m.names.length<=24)&&Sn.chain Sn.okT Sn.ltT none m.names)):=by unfold kindB;rw[if_neg (by omega),if_neg (by omega),if_neg (by omega),if_pos k]
theorem rest5 {m:MsgV}(k:m.kind=5):rest m={m with task:=0,num:=0,snap:=Sn.sn0,v:=vz (fun i=>Nat.beq i 3||Nat.beq i 4) m.v}:=by unfold rest;rw[if_neg (by omega),if_neg (by omega),if_neg (by omega),if_pos k]
theorem body5 {m:Msg}(k:m.kind=5):kindB m=(decide (upP m)&&(decide (taskP m.task)&&(decide (numP m.num)&&decide (Sn.rightP m.snap)))):=by unfold kindB;rw[if_neg (by omega),if_neg (by omega),if_neg (by omega),if_neg (by omega),if_pos k]
theorem rest6 {m:MsgV}(k:m.kind=6):rest m={m with up:=[],ended:=[],v:=vz (fun i=>Nat.beq i 6||Nat.beq i 7) m.v}:=by unfold rest;rw[if_neg (by omega),if_neg (by omega),if_neg (by omega),if_neg (by omega),if_pos k]
theorem body6 {m:Msg}(k:m.kind=6):kindB m=(decide (upP m)&&(tasksB m.up&&tasksB m.ended)):=by unfold kindB;rw[if_neg (by omega),if_neg (by omega),if_neg (by omega),if_neg (by omega),if_neg (by omega),if_pos k]
theorem rest7 {m:MsgV}(k:m.kind=7):rest m={m with task:=0}:=by unfold rest;rw[if_neg (by omega),if_neg (by omega),if_neg (by omega),if_neg (by omega),if_neg (by omega),if_pos k]
theorem body7 {m:Msg}(k:m.kind=7):kindB m=(decide (upP m)&&decide (taskP m.task)):=by unfold kindB;rw[if_neg (by omega),if_neg (by omega),if_neg (by omega),if_neg (by omega),if_neg (by omega),if_neg (by omega),if_pos k]
theorem rest8 {m:MsgV}(k:m.kind=8):rest m={m with task:=0,pkt:=pk0}:=by unfold rest;rw[if_neg (by omega),if_neg (by omega),if_neg (by omega),if_neg (by omega),if_neg (by omega),if_neg (by omega),if_pos k]
theorem body8 {m:Msg}(k:m.kind=8):kindB m=(decide (wrkP m.src/\wrkP m.dst)&&(decide (0<=m.task/\m.task<64)&&decide (pktP m.pkt))):=by unfold kindB;rw[if_neg (by omega),if_neg (by omega),if_neg (by omega),if_neg (by omega),if_neg (by omega),if_neg (by omega),if_neg (by omega),if_pos k]
theorem rest9 {m:MsgV}(k:m.kind<1\/8<m.kind):rest m=m:=by unfold rest;rw[if_neg (by omega),if_neg (by omega),if_neg (by omega),if_neg (by omega),if_neg (by omega),if_neg (by omega),if_neg (by omega)]
theorem body9 {m:Msg}(k:m.kind<1\/8<m.kind):kindB m=false:=by unfold kindB;rw[if_neg (by omega),if_neg (by omega),if_neg (by omega),if_neg (by omega),if_neg (by omega),if_neg (by omega),if_neg (by omega),if_neg (by omega)]
attribute [local irreducible] depB tasksB Sn.rightP Sn.chain Sn.chkE rest kindB
set_option maxHeartbeats 16000000 in
theorem fhas_any (m:MsgV)(w:World)(hr:MOk (fun b=>b<w.heap.size) w m)(hb:m.il.length<=100000)(hs:I64 m.src)(hd:I64 m.dst):
 Calls Tryz.prog 54 #[.agg (encM m).toArray] w (Sy.Ret (.tuple #[.agg (encM (rest m)).toArray,.bool (kindB m.msg)]) w):=by
 refine Sy.calls_of Sy.lv54 Sy.tab_ok Tryz.func54 rfl _ Tryz.ntmps54 [] [.agg (cellsM C.v m fun i=>.v (m.v i))] rfl (lt_one (Sy.ltAll_v (msg_one hr))) rfl trivial (V ?_)
 refine Sy.meet1 2 [] [(4,.c (.v (.bool (decide (dnP m.msg))))),(5,.c (.v (.bool (decide (upP m.msg)))))] [] Sy.tab_ok rfl ?_ ?_
 ·all_goals(refine Sy.draw_go [] (by kernel_rfl) ?_;intro e0;conv=>whnf)
  all_goals(refine zt 0 rfl ?_)
  all_goals(conv=>whnf)
  all_goals(refine zt 1 rfl ?_)
  all_goals(conv=>whnf)
  all_goals(refine zt 8 rfl ?_)
  all_goals(conv=>whnf)
  all_goals(refine zt 9 rfl ?_)
  all_goals(conv=>whnf)
  all_goals(refine zd1 [2] (zx rfl ?_ zy))
  all_goals(conv=>whnf)
  all_goals(refine Sy.call_val (.c (.v (.bool (decide (mgrP m.src))))) Tryz.call97 rfl (fun e a w' h=>mgr_any m.src w') ?_)
  all_goals(conv=>whnf)
  all_goals(refine Yk ?_)
  all_goals(refine zt 3 rfl ?_)
  all_goals(conv=>whnf)
  all_goals(refine zt 4 rfl ?_)
  all_goals(refine V (Vj (fun hh=>?_) fun hh=>?_))
  all_goals(refine zt 5 rfl ?_)
  all_goals(refine V ?_)
  all_goals(refine zd1 [6] (zx rfl ?_ zy))
  all_goals(conv=>whnf)
  all_goals((try(refine zA ?_;conv=>whnf)))
  all_goals(try(refine zcl ?_;refine Sy.call_val (.c (.v (.bool (decide (wrkP m.dst))))) Tryz.call98 rfl (fun e a w' h=>works_any m.dst hd w') ?_))
  all_goals(try conv=>whnf)
  all_goals(refine Yk ?_)
  all_goals(refine zt 7 rfl ?_)
  all_goals(refine V ?_)
  all_goals(refine zd1 [10] (zx rfl ?_ zy))
  all_goals(conv=>whnf)
  all_goals(refine Sy.call_val (.c (.v (.bool (decide (wrkP m.src))))) Tryz.call98 rfl (fun e a w' h=>works_any m.src hs w') ?_)
  all_goals(conv=>whnf)
  all_goals(refine Yk ?_)
  all_goals(refine zt 11 rfl ?_)
  all_goals(conv=>whnf)
  all_goals(refine zt 12 rfl ?_)
  all_goals(refine V (Vj (fun hh=>?_) fun hh=>?_))
  all_goals(refine zt 13 rfl ?_)
  all_goals(refine V ?_)
  all_goals(refine zd1 [14] (zx rfl ?_ zy))
  all_goals(conv=>whnf)
  all_goals((try(refine zA ?_;conv=>whnf)))
  all_goals(try(refine zcl ?_;refine Sy.call_val (.c (.v (.bool (decide (mgrP m.dst))))) Tryz.call97 rfl (fun e a w' h=>mgr_any m.dst w') ?_))
  all_goals(try conv=>whnf)
  all_goals(refine Yk ?_)
  all_goals(refine zt 15 rfl ?_)
  all_goals(refine V ?_)
  all_goals(refine zt 16 rfl ?_)
  all_goals(conv=>whnf)
  all_goals(refine zt 17 rfl ?_)
  all_goals(conv=>whnf)
  all_goals(refine zw ?_)
  ((repeat'(first|((conv=>whnf);done)|((try conv=>whnf);first|exact trivial|(refine And.intro ?_ ?_)|rfl|exact fun _ _ _ h=>h|exact fun _ _ _ _=>trivial)));(all_goals(try conv=>whnf)))
  all_goals exact fbool (by simp[dnP,upP,MsgV.msg, *])
 conv=>whnf
 by_cases k1:m.kind=1
 ·rw[rest1 k1,body1 (m:=m.msg) k1]
  refine V ?_
  all_goals(refine Sy.draw_go [1] (by kernel_rfl) ?_;intro e0;conv=>whnf)
  all_goals(refine zt 0 rfl ?_)
  all_goals(conv=>whnf)
  all_goals(refine zt 1 rfl ?_)
  all_goals(conv=>whnf)
  all_goals(refine zt 2 rfl ?_)
  all_goals(conv=>whnf)
  all_goals(refine zt 3 rfl ?_)
  all_goals(refine V (Vj (fun hh=>?_) fun hh=>?_))
  all_goals(refine zd1 [4] (zx rfl ?_ zy))
  all_goals(conv=>whnf)
  all_goals((try(refine zA ?_;conv=>whnf)))
  all_goals(try(refine zcl ?_;refine Sy.call_val (.c (.v (.bool (depB m.msg)))) Tryz.call99 rfl (fun e a w' h=>deploys_any m w' (MOk.later h hr) hb hd) ?_))
  all_goals(try conv=>whnf)
  all_goals(refine Yk ?_)
  all_goals(refine zt 5 rfl ?_)
  all_goals(refine V ?_)
  all_goals(refine zd1 [6] (zx rfl ?_ zy))
  all_goals(conv=>whnf)
  all_goals(refine Yk ?_)
  all_goals(refine zt 7 rfl ?_)
  all_goals(conv=>whnf)
  all_goals(refine zw ?_)
  skip
  all_goals(refine V ?_)
  all_goals exact Sy.fin_val fun e=>ret_msg rfl (by simp[*]<;>intros<;>omega)
 by_cases k2:m.kind=2
 ·rw[rest2 k2,body2 (m:=m.msg) k2]
  exact V0
  all_goals exact Sy.fin_val fun e=>ret_msg rfl (by simp[chk0,msgs m, *]<;>intros<;>omega)
 by_cases k3:m.kind=3
 ·rw[rest3 k3,body3 (m:=m.msg) k3]
  refine V ?_
  all_goals(refine Sy.draw_go [1] (by kernel_rfl) ?_;intro e0;conv=>whnf)
  all_goals(refine zt 0 rfl ?_)
  all_goals(conv=>whnf)
  all_goals(refine zt 1 rfl ?_)
  all_goals(conv=>whnf)
  all_goals(refine zt 2 rfl ?_)
  all_goals(conv=>whnf)
  all_goals(refine zt 3 rfl ?_)
  all_goals(refine V (Vj (fun hh=>?_) fun hh=>?_))
  all_goals(refine zt 4 rfl ?_)
  all_goals(refine V ?_)
  all_goals(refine zd1 [5] (zx rfl ?_ zy))
  all_goals(conv=>whnf)
  all_goals((try(refine zA ?_;conv=>whnf)))
  all_goals(try(refine zcl ?_;refine Sy.call_val (.c (.v (.bool (decide (numP m.num))))) Tryz.call100 rfl (fun e a w' h=>number_any m.num w') ?_))
  all_goals(try conv=>whnf)
  all_goals(refine Yk ?_)
  all_goals(refine zt 6 rfl ?_)
  all_goals(refine V ?_)
  all_goals(refine zd1 [7] (zx rfl ?_ zy))
  all_goals(conv=>whnf)
  all_goals(refine Yk ?_)
  all_goals(refine zt 8 rfl ?_)
  all_goals(conv=>whnf)
  all_goals(refine zw ?_)
  skip
  all_goals(refine V ?_)
  all_goals exact Sy.fin_val fun e=>ret_msg rfl (by simp[msgs m, *]<;>intros<;>omega)
 by_cases k4:m.kind=4
 ·rw[rest4 k4,body4 (m:=m.msg) k4]
  refine V ?_
  (refine open_c 0 24 _ _ _ rfl rfl (hr.n) (fun _ h=>h) ?_);(conv=>whnf)
  all_goals(refine Sy.draw_go [1] (by kernel_rfl) ?_;intro e0;conv=>whnf)
  all_goals(refine zt 0 rfl ?_)
  all_goals(conv=>whnf)
  all_goals(refine zt 1 rfl ?_)
  all_goals(conv=>whnf)
  all_goals(refine zt 2 rfl ?_)
  all_goals(conv=>whnf)
  all_goals(refine zt 3 rfl ?_)
  all_goals(refine V (Vj (fun hh=>?_) fun hh=>?_))
  all_goals(refine zt 4 rfl ?_)
  all_goals(refine V ?_)
  all_goals(refine zt 5 rfl ?_)
  all_goals(refine V ?_)
  all_goals(refine zt 6 rfl ?_)
  all_goals(refine V ?_)
  all_goals(refine zt 7 rfl ?_)
  all_goals(refine V ?_)
  all_goals(refine zt 8 rfl ?_)
  all_goals(conv=>whnf)
  all_goals(refine zt 9 rfl ?_)
  all_goals(((repeat' first|refine Y ?_|refine Y2 ?_ ?_|refine Y1 fun hh=>?_|exact Y0.mk);(all_goals(try conv=>whnf))))
  all_goals(refine zt 10 rfl ?_)
  all_goals(refine V ?_)
  all_goals(refine zt 11 rfl ?_)
  all_goals(refine V ?_)
  all_goals(refine zt 12 rfl ?_)
  all_goals(refine V ?_)
  all_goals(refine zt 13 rfl ?_)
  all_goals(refine V ?_)
  all_goals(refine zt 14 rfl ?_)
  all_goals(conv=>whnf)
  all_goals(refine zt 15 rfl ?_)
  all_goals(((repeat' first|refine Y ?_|refine Y2 ?_ ?_|refine Y1 fun hh=>?_|exact Y0.mk);(all_goals(try conv=>whnf))))
  all_goals(refine zt 16 rfl ?_)
  all_goals(refine V ?_)
  all_goals(refine zt 17 rfl ?_)
  all_goals(refine V ?_)
  all_goals(refine zd1 [18] (zx rfl ?_ zy))
  all_goals(conv=>whnf)
  all_goals((try(refine zA ?_;conv=>whnf)))
  all_goals(try(refine zcl ?_;refine Sy.call_val (.c (.v (.bool (Sn.chain Sn.okT Sn.ltT none m.names)))) Tryz.call105 rfl (fun e a w' h=>risesN_any (e.rv 4) m.names w' (Sy.row_reads h (.inr rfl))) ?_))
  all_goals(try conv=>whnf)
  all_goals(refine Yk ?_)
  all_goals(refine zt 19 rfl ?_)
  all_goals(refine V ?_)
  all_goals(refine zd1 [20] (zx rfl ?_ zy))
  all_goals(conv=>whnf)
  all_goals(refine Yk ?_)
  all_goals(refine zt 21 rfl ?_)
  all_goals(conv=>whnf)
  all_goals(refine zw ?_)
  skip
  all_goals(refine V ?_)
  all_goals exact Sy.fin_val fun e=>ret_msg rfl (by simp[msgs m, *]<;>intros<;>omega)
 by_cases k5:m.kind=5
 ·rw[rest5 k5,body5 (m:=m.msg) k5]
  refine V ?_
  all_goals(refine Sy.draw_go [1] (by kernel_rfl) ?_;intro e0;conv=>whnf)
  all_goals(refine zt 0 rfl ?_)
  all_goals(conv=>whnf)
  all_goals(refine zt 1 rfl ?_)
  all_goals(conv=>whnf)
  all_goals(refine zt 2 rfl ?_)
  all_goals(conv=>whnf)
  all_goals(refine zt 3 rfl ?_)
  all_goals(refine V (Vj (fun hh=>?_) fun hh=>?_))
  all_goals(refine zt 4 rfl ?_)
  all_goals(refine V ?_)
  all_goals(refine zd1 [5] (zx rfl ?_ zy))
  all_goals(conv=>whnf)
  all_goals((try(refine zA ?_;conv=>whnf)))
  all_goals(try(refine zcl ?_;refine Sy.call_val (.c (.v (.bool (decide (taskP m.task))))) Tryz.call106 rfl (fun e a w' h=>task_any m.task w') ?_))
  all_goals(try conv=>whnf)
  all_goals(refine Yk ?_)
  all_goals(refine zt 6 rfl ?_)
  all_goals(refine V ?_)
  all_goals(refine zt 7 rfl ?_)
  all_goals(conv=>whnf)
  all_goals(refine zt 8 rfl ?_)
  all_goals(((repeat' first|refine Y ?_|refine Y2 ?_ ?_|refine Y1 fun hh=>?_|exact Y0.mk);(all_goals(try conv=>whnf))))
  all_goals(refine zt 9 rfl ?_)
  all_goals(refine V ?_)
  all_goals(refine zd1 [10] (zx rfl ?_ zy))
  all_goals(conv=>whnf)
  all_goals((try(refine zA ?_;conv=>whnf)))
  all_goals(try(refine zcl ?_;refine Sy.call_val (.c (.v (.bool (decide (numP m.num))))) Tryz.call100 rfl (fun e a w' h=>number_any m.num w') ?_))
  all_goals(try conv=>whnf)
  all_goals(refine Yk ?_)
  all_goals(refine zt 11 rfl ?_)
  all_goals(refine V ?_)
  all_goals(refine zt 12 rfl ?_)
  all_goals(conv=>whnf)
  all_goals(refine zt 13 rfl ?_)
  all_goals(((repeat' first|refine Y ?_|refine Y2 ?_ ?_|refine Y1 fun hh=>?_|exact Y0.mk);(all_goals(try conv=>whnf))))
  all_goals(refine zt 14 rfl ?_)
  all_goals(refine V ?_)
  all_goals(refine zd1 [15] (zx rfl ?_ zy))
  all_goals(conv=>whnf)
  all_goals((try(refine zA ?_;conv=>whnf)))
  all_goals(try(refine zcl ?_;refine Sy.call_val (.c (.v (.int .i64 (Sn.chkE m.snap)))) Tryz.call107 rfl (fun e a w' h=>Sn.check_any m.sv w' (MOk.later h hr).s) ?_))
  all_goals(try conv=>whnf)
  all_goals(refine Yk ?_)
  all_goals(refine zt 16 rfl ?_)
  all_goals(refine V ?_)
  all_goals(refine zt 17 rfl ?_)
  all_goals(refine V ?_)
  all_goals(refine zd1 [18] (zx rfl ?_ zy))
  all_goals(conv=>whnf)
  all_goals(refine Yk ?_)
  all_goals(refine zt 19 rfl ?_)
  all_goals(conv=>whnf)
  all_goals(refine zw ?_)
  skip
  all_goals(refine V ?_)
  all_goals exact Sy.fin_val fun e=>ret_msg rfl (by simp[chk0,msgs m, *]<;>intros<;>omega)
 by_cases k6:m.kind=6
 ·rw[rest6 k6,body6 (m:=m.msg) k6]
  refine V ?_
  all_goals(refine Sy.draw_go [1] (by kernel_rfl) ?_;intro e0;conv=>whnf)
  all_goals(refine zt 0 rfl ?_)
  all_goals(conv=>whnf)
  all_goals(refine zt 1 rfl ?_)
  all_goals(conv=>whnf)
  all_goals(refine zt 2 rfl ?_)
  all_goals(conv=>whnf)
  all_goals(refine zt 3 rfl ?_)
  all_goals(refine V (Vj (fun hh=>?_) fun hh=>?_))
  all_goals(refine zt 4 rfl ?_)
  all_goals(refine V ?_)
  all_goals(refine zd1 [5] (zx rfl ?_ zy))
  all_goals(conv=>whnf)
  all_goals((try(refine zA ?_;conv=>whnf)))
  all_goals(try(refine zcl ?_;refine Sy.call_val (.c (.v (.bool (tasksB m.up)))) Tryz.call108 rfl (fun e a w' h=>tasks_any (m.v 6) m.up w' (MOk.later h hr).u) ?_))
  all_goals(try conv=>whnf)
  all_goals(refine Yk ?_)
  all_goals(refine zt 6 rfl ?_)
  all_goals(refine V ?_)
  all_goals(refine zt 7 rfl ?_)
  all_goals(conv=>whnf)
  all_goals(refine zt 8 rfl ?_)
  all_goals(((repeat' first|refine Y ?_|refine Y2 ?_ ?_|refine Y1 fun hh=>?_|exact Y0.mk);(all_goals(try conv=>whnf))))
  all_goals(refine zt 9 rfl ?_)
  all_goals(refine V ?_)
  all_goals(refine zd1 [10] (zx rfl ?_ zy))
  all_goals(conv=>whnf)
  all_goals((try(refine zA ?_;conv=>whnf)))
  all_goals(try(refine zcl ?_;refine Sy.call_val (.c (.v (.bool (tasksB m.ended)))) Tryz.call108 rfl (fun e a w' h=>tasks_any (m.v 7) m.ended w' (MOk.later h hr).e) ?_))
  all_goals(try conv=>whnf)
  all_goals(refine Yk ?_)
  all_goals(refine zt 11 rfl ?_)
  all_goals(refine V ?_)
  all_goals(refine zd1 [12] (zx rfl ?_ zy))
  all_goals(conv=>whnf)
  all_goals(refine Yk ?_)
  all_goals(refine zt 13 rfl ?_)
  all_goals(conv=>whnf)
  all_goals(refine zw ?_)
  skip
  all_goals(refine V ?_)
  all_goals exact Sy.fin_val fun e=>ret_msg rfl (by simp[msgs m, *]<;>intros<;>omega)
 by_cases k7:m.kind=7
 ·rw[rest7 k7,body7 (m:=m.msg) k7]
  refine V ?_
  all_goals(refine Sy.draw_go [1] (by kernel_rfl) ?_;intro e0;conv=>whnf)
  all_goals(refine zt 0 rfl ?_)
  all_goals(conv=>whnf)
  all_goals(refine zt 1 rfl ?_)
  all_goals(conv=>whnf)
  all_goals(refine zt 2 rfl ?_)
  all_goals(conv=>whnf)
  all_goals(refine zt 3 rfl ?_)
  all_goals(refine V (Vj (fun hh=>?_) fun hh=>?_))
  all_goals(refine zt 4 rfl ?_)
  all_goals(refine V ?_)
  all_goals(refine zd1 [5] (zx rfl ?_ zy))
  all_goals(conv=>whnf)
  all_goals((try(refine zA ?_;conv=>whnf)))
  all_goals(try(refine zcl ?_;refine Sy.call_val (.c (.v (.bool (decide (taskP m.task))))) Tryz.call106 rfl (fun e a w' h=>task_any m.task w') ?_))
  all_goals(try conv=>whnf)
  all_goals(refine Yk ?_)
  all_goals(refine zt 6 rfl ?_)
  all_goals(refine V ?_)
  all_goals(refine zd1 [7] (zx rfl ?_ zy))
  all_goals(conv=>whnf)
  all_goals(refine Yk ?_)
  all_goals(refine zt 8 rfl ?_)
  all_goals(conv=>whnf)
  all_goals(refine zw ?_)
  skip
  all_goals(refine V ?_)
  all_goals exact Sy.fin_val fun e=>ret_msg rfl (by simp[msgs m, *]<;>intros<;>omega)
 by_cases k8:m.kind=8
 ·rw[rest8 k8,body8 (m:=m.msg) k8]
  refine V ?_
  all_goals(refine Sy.draw_go [1] (by kernel_rfl) ?_;intro e0;conv=>whnf)
  all_goals(refine zt 0 rfl ?_)
  all_goals(conv=>whnf)
  all_goals(refine zt 1 rfl ?_)
  all_goals(conv=>whnf)
  all_goals(refine zt 2 rfl ?_)
  all_goals(conv=>whnf)
  all_goals(refine zd1 [3] (zx rfl ?_ zy))
  all_goals(conv=>whnf)
  all_goals(refine Sy.call_val (.c (.v (.bool (decide (wrkP m.src))))) Tryz.call98 rfl (fun e a w' h=>works_any m.src hs w') ?_)
  all_goals(conv=>whnf)
  all_goals(refine Yk ?_)
  all_goals(refine zt 4 rfl ?_)
  all_goals(conv=>whnf)
  all_goals(refine zt 5 rfl ?_)
  all_goals(refine V (Vj (fun hh=>?_) fun hh=>?_))
  all_goals(refine zt 6 rfl ?_)
  all_goals(refine V ?_)
  all_goals(refine zd1 [7] (zx rfl ?_ zy))
  all_goals(conv=>whnf)
  all_goals((try(refine zA ?_;conv=>whnf)))
  all_goals(try(refine zcl ?_;refine Sy.call_val (.c (.v (.bool (decide (wrkP m.dst))))) Tryz.call98 rfl (fun e a w' h=>works_any m.dst hd w') ?_))
  all_goals(try conv=>whnf)
  all_goals(refine Yk ?_)
  all_goals(refine zt 8 rfl ?_)
  all_goals(refine V ?_)
  all_goals(refine zt 9 rfl ?_)
  all_goals(conv=>whnf)
  all_goals(refine zt 10 rfl ?_)
  all_goals(((repeat' first|refine Y ?_|refine Y2 ?_ ?_|refine Y1 fun hh=>?_|exact Y0.mk);(all_goals(try conv=>whnf))))
  all_goals(refine zt 11 rfl ?_)
  all_goals(refine V ?_)
  all_goals(refine zt 12 rfl ?_)
  all_goals(refine V ?_)
  all_goals(refine zt 13 rfl ?_)
  all_goals(refine V ?_)
  all_goals(refine zt 14 rfl ?_)
  all_goals(conv=>whnf)
  all_goals(refine zt 15 rfl ?_)
  all_goals(((repeat' first|refine Y ?_|refine Y2 ?_ ?_|refine Y1 fun hh=>?_|exact Y0.mk);(all_goals(try conv=>whnf))))
  all_goals(refine zt 16 rfl ?_)
  all_goals(refine V ?_)
  all_goals(refine zt 17 rfl ?_)
  all_goals(refine V ?_)
  all_goals(refine zt 18 rfl ?_)
  all_goals(refine V ?_)
  all_goals(refine zt 19 rfl ?_)
  all_goals(conv=>whnf)
  all_goals(refine zt 20 rfl ?_)
  all_goals(((repeat' first|refine Y ?_|refine Y2 ?_ ?_|refine Y1 fun hh=>?_|exact Y0.mk);(all_goals(try conv=>whnf))))
  all_goals(refine zt 21 rfl ?_)
  all_goals(refine V ?_)
  all_goals(refine zd1 [22] (zx rfl ?_ zy))
  all_goals(conv=>whnf)
  all_goals((try(refine zA ?_;conv=>whnf)))
  all_goals(try(refine zcl ?_;refine Sy.call_val (.c (.v (.bool (decide (pktP m.pkt))))) Tryz.call109 rfl (fun e a w' h=>packet_any m.pkt w') ?_))
  all_goals(try conv=>whnf)
  all_goals(refine Yk ?_)
  all_goals(refine zt 23 rfl ?_)
  all_goals(refine V ?_)
  all_goals(refine zd1 [24] (zx rfl ?_ zy))
  all_goals(conv=>whnf)
  all_goals(refine Yk ?_)
  all_goals(refine zt 25 rfl ?_)
  all_goals(conv=>whnf)
  all_goals(refine zw ?_)
  skip
  all_goals(refine V ?_)
  all_goals exact Sy.fin_val fun e=>ret_msg rfl (by simp[msgs m, *]<;>intros<;>omega)
 rw[rest9 (m:=m) (by omega),body9 (m:=m.msg) (by show m.kind<1\/8<m.kind;omega)]
 exact V0
end Go.Proofs.YtgkkpefpbfadoaaGreat
