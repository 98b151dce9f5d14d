/- Frame: messages as plain Lean, and how they lie in memory. -/
import Derived.Test.YtgkkpefpbfadoaaGreatDk16
import Derived.Test.YtgkkpefpbfadoaaGreatDk9
namespace Go.Proofs.YtgkkpefpbfadoaaGreat
open Go Go.RowKit
open Sy (C SV V1 Blk St XD Els)
structure Rc where
 src:Int
 key:Int
 val:Int
deriving DecidableEq
structure Elm where
 kind:Int
 r:Rc
 num:Int
deriving DecidableEq
structure Inp where
 src:Int
 recs:List Rc
deriving DecidableEq
structure Plc where
 task:Int
 wkr:Int
deriving DecidableEq
structure Pkt where
 kind:Int
 ses:Int
 seq:Int
 lim:Int
 elem:Elm
deriving DecidableEq
structure Msg where
 kind:Int
 src:Int
 dst:Int
 epoch:Int
 att:Int
 task:Int
 num:Int
 gr:List Opr
 ins:List Inp
 pls:List Plc
 snap:Sn.Sn
 names:List Sn.Tx
 up:List Int
 ended:List Int
 pkt:Pkt
deriving DecidableEq
def encR (r:Rc):List Value:=[.int .i64 r.src,.int .i64 r.key,.int .i64 r.val]
def encE (x:Elm):List Value:=[.int .i64 x.kind,.int .i64 x.r.src,.int .i64 x.r.key,.int .i64 x.r.val,.int .u64 x.num]
def encP (p:Plc):List Value:=[.int .i64 p.task,.int .i64 p.wkr]
structure InpV where
 inp:Inp
 rv:Value
def encIV (x:InpV):List Value:=[.int .i64 x.inp.src,x.rv]
def IOk (F:Nat->Prop)(w:World)(x:InpV):Prop:=XD.ok F w ⟨x.rv,3,x.inp.recs.length,x.inp.recs.map encR⟩
def insOf (l:List InpV):List Inp:=l.map (·.inp)
structure MsgV where
 kind:Int
 src:Int
 dst:Int
 epoch:Int
 att:Int
 task:Int
 num:Int
 gl:List OpV
 il:List InpV
 pls:List Plc
 snap:Sn.Sn
 names:List Sn.Tx
 up:List Int
 ended:List Int
 pkt:Pkt
 v:Nat->Value
def MsgV.msg (m:MsgV):Msg:=⟨m.kind,m.src,m.dst,m.epoch,m.att,m.task,m.num,opsOf m.gl,insOf m.il,m.pls,m.snap,m.names,m.up,m.ended,m.pkt⟩
def MsgV.sv (m:MsgV):Sn.SnV:=⟨m.snap,m.v 3,m.v 4⟩
def cellsM {α:Type}(f:Value->α)(m:MsgV)(r:Nat->α):List α:=[f (.int .i64 m.kind),f (.int .i64 m.src),f (.int .i64 m.dst),f (.int .u64 m.epoch),f (.int .i64 m.att),f (.int .i64 m.task),f (.int .u64 m.num),r 0,r 1,r 2,
 f (.int .i64 m.snap.op),f (.int .i64 m.snap.idx),f (.int .i64 m.snap.wid),f (.bool m.snap.fin),r 3,f (.int .i64 (m.snap.offs 0)),f (.int .i64 (m.snap.offs 1)),f (.int .i64 (m.snap.offs 2)),f (.int .i64 (m.snap.offs 3)),f (.int .i64 (m.snap.offs 4)),f (.int .i64 (m.snap.offs 5)),f (.int .i64 (m.snap.offs 6)),f (.int .i64 (m.snap.offs 7)),r 4,
 r 5,r 6,r 7,f (.int .i64 m.pkt.kind),f (.int .u32 m.pkt.ses),f (.int .u64 m.pkt.seq),f (.int .u64 m.pkt.lim),f (.int .i64 m.pkt.elem.kind),f (.int .i64 m.pkt.elem.r.src),f (.int .i64 m.pkt.elem.r.key),f (.int .i64 m.pkt.elem.r.val),f (.int .u64 m.pkt.elem.num)]
def encM (m:MsgV):List Value:=cellsM id m m.v
def slicesM (m:MsgV):List XD:=[⟨m.v 0,5,m.gl.length,m.gl.map encOV⟩,⟨m.v 1,2,m.il.length,m.il.map encIV⟩,⟨m.v 2,2,m.pls.length,m.pls.map encP⟩,⟨m.v 3,4,m.snap.rows.length,m.snap.rows.map Sn.encK⟩,⟨m.v 4,3,m.snap.txs.length,m.snap.txs.map Sn.encT⟩,
 ⟨m.v 5,3,m.names.length,m.names.map Sn.encT⟩,⟨m.v 6,1,m.up.length,m.up.map encI⟩,⟨m.v 7,1,m.ended.length,m.ended.map encI⟩]
structure MOk (F:Nat->Prop)(w:World)(m:MsgV):Prop where
 g:GOk F w (m.v 0) m.gl
 i:XD.ok F w ⟨m.v 1,2,m.il.length,m.il.map encIV⟩
 ir:∀x∈m.il,IOk F w x
 p:XD.ok F w ⟨m.v 2,2,m.pls.length,m.pls.map encP⟩
 s:Sn.SOk F w m.sv
 n:XD.ok F w ⟨m.v 5,3,m.names.length,m.names.map Sn.encT⟩
 u:XD.ok F w ⟨m.v 6,1,m.up.length,m.up.map encI⟩
 e:XD.ok F w ⟨m.v 7,1,m.ended.length,m.ended.map encI⟩
theorem MOk.mono {F F':Nat->Prop}{w:World}{m:MsgV}(h:MOk F w m)(hF:∀b,F b->F' b):MOk F' w m:=
 ⟨h.g.mono hF,XD.ok.mono h.i hF,fun x hx=>XD.ok.mono (h.ir x hx) hF,XD.ok.mono h.p hF,h.s.mono hF,XD.ok.mono h.n hF,XD.ok.mono h.u hF,XD.ok.mono h.e hF⟩
def MsgV.at (m:MsgV)(v:Nat->Value):MsgV:={m with v:=v}
def pk0:Pkt:=⟨0,0,0,0,0,⟨0,0,0⟩,0⟩
def mgrP (n:Int):Prop:=1<=n/\n<=3
def wrkP (n:Int):Prop:=4<=n/\n<=7
def numP (n:Int):Prop:=1<=n/\n<=4611686018427387904
def taskP (n:Int):Prop:=0<=n/\n<16
instance(n:Int):Decidable (mgrP n):=by unfold mgrP;infer_instance
instance(n:Int):Decidable (wrkP n):=by unfold wrkP;infer_instance
instance(n:Int):Decidable (numP n):=by unfold numP;infer_instance
instance(n:Int):Decidable (taskP n):=by unfold taskP;infer_instance
def recB (r:Rc):Bool:=decide (Sn.recP r.src r.key)
def rc0 (r:Rc):Prop:=r.src=0/\r.key=0/\r.val=0
instance(r:Rc):Decidable (rc0 r):=by unfold rc0;infer_instance
def elemP (x:Elm):Prop:=(x.kind=1/\Sn.recP x.r.src x.r.key/\x.num=0)\/(x.kind=2/\numP x.num/\rc0 x.r)\/(x.kind=3/\rc0 x.r/\x.num=0)
instance(x:Elm):Decidable (elemP x):=by unfold elemP;infer_instance
def el0 (x:Elm):Prop:=x.kind=0/\rc0 x.r/\x.num=0
instance(x:Elm):Decidable (el0 x):=by unfold el0;infer_instance
def pktP (p:Pkt):Prop:=(1<=p.ses/\p.ses<=2147483647)/\numP p.seq/\((p.kind=1/\p.lim=0/\elemP p.elem)\/(p.kind=2/\p.lim<=4611686018427387904/\el0 p.elem))
instance(p:Pkt):Decidable (pktP p):=by unfold pktP;infer_instance
def inputB (x:Inp):Bool:=decide (x.recs.length<=40)&&decide (0<=x.src/\x.src<8)&&x.recs.all fun r=>recB r&&decide (r.src=x.src)
def wants (g:List Opr):List Int:=(g.filter fun o=>decide (o.tag=1)).map (·.a)
def tasksB (l:List Int):Bool:=Sn.chain (fun n=>decide (taskP n)) (fun a b=>decide (a<b)) none l
theorem fbool {b:Bool}{p:Prop} [Decidable p](h:b=true↔p:=by(try simp only[numP,taskP,mgrP,wrkP,Sn.recP,rc0,el0,elemP,true_and,and_true,decide_eq_true_eq,beq_iff_eq,Bool.false_eq_true,false_iff,true_iff] at *)<;>omega):Value.bool b=.bool (decide p):=by rw[Bool.eq_iff_iff.2 (h.trans decide_eq_true_iff.symm)]
theorem fpos {p:Prop} [Decidable p]{c d:Int}(h:p:=by(try simp only[numP,taskP,mgrP,wrkP,Sn.recP,rc0,el0,elemP,true_and,and_true] at *)<;>omega):Value.int .i64 c=.int .i64 (if p then c else d):=by rw[if_pos h]
theorem fneg {p:Prop} [Decidable p]{c d:Int}(h:¬p:=by(try simp only[numP,taskP,mgrP,wrkP,Sn.recP,rc0,el0,elemP,true_and,and_true] at *)<;>omega):Value.int .i64 d=.int .i64 (if p then c else d):=by rw[if_neg h]
end Go.Proofs.YtgkkpefpbfadoaaGreat
namespace Go.Proofs.YtgkkpefpbfadoaaGreat.Sn
open Go Go.RowKit
open Sy (C SV V1 Blk St XD Els)
set_option maxRecDepth 10000
theorem rec_any (s k v:Int)(w:World):Calls Tryz.prog 187 #[.agg #[.int .i64 s,.int .i64 k,.int .i64 v]] w (Sy.Ret (.int .i64 (if recP s k then 0 else 150)) w):=by
 refine Sy.calls_of Sy.lv187 Sy.tab_ok Tryz.func187 rfl _ Tryz.ntmps187 [] [.agg [.v (.int .i64 s),.v (.int .i64 k),.v (.int .i64 v)]] rfl rfl rfl trivial ?_
 by_cases h:recP s k
 ·rw[if_pos h]
  unfold recP at h
  exact V0
  all_goals done
 ·rw[if_neg h]
  unfold recP at h
  exact V0
  all_goals done
theorem rrec_any (s k v:Int)(w:World):Calls Tryz.prog 120 #[.agg #[.int .i64 s,.int .i64 k,.int .i64 v]] w (Sy.Ret (.bool (decide (recP s k))) w):=by
 refine Sy.calls_of Sy.lv120 Sy.tab_ok Tryz.func120 rfl _ Tryz.ntmps120 [] [.agg [.v (.int .i64 s),.v (.int .i64 k),.v (.int .i64 v)]] rfl rfl rfl trivial ?_
 by_cases h:recP s k
 ·rw[decide_eq_true h]
  unfold recP at h
  refine V (Y1 fun hh=>Y1 fun hh=>Y1 fun hh=>?_)
  all_goals exact Sy.fin_val (fun e=>congrArg Value.bool (by first|exact decide_eq_true (by omega)|exact decide_eq_false (by omega)))
 ·rw[decide_eq_false h]
  unfold recP at h
  refine V (Vj (fun hh=>Vj (fun hh=>Vj (fun hh=>?_) fun hh=>Y0.mk) fun hh=>Y0.mk) fun hh=>Y0.mk)
  all_goals exact Sy.fin_val (fun e=>congrArg Value.bool (by first|exact decide_eq_true (by omega)|exact decide_eq_false (by omega)))
theorem cmpI_any (x y:Int)(w:World):Calls Tryz.prog 145 #[.int .i64 x,.int .i64 y] w (Sy.Ret (.int .i64 (cmpI x y)) w):=by
 refine Sy.calls_of Sy.lv145 Sy.tab_ok Tryz.func145 rfl _ Tryz.ntmps145 [] [.c (.v (.int .i64 x)),.c (.v (.int .i64 y))] rfl rfl rfl trivial ?_
 have hE:cmpI x y=if x<y then -1 else if y<x then 1 else 0:=rfl
 refine V ?_
 refine Sy.call_in Sy.lv183 Sy.tab_ok Tryz.func183 rfl _ Tryz.ntmps183 Tryz.call183 rfl (fun _=>?_)
 refine V ?_
 refine Sy.call_in Sy.lv183 Sy.tab_ok Tryz.func183 rfl _ Tryz.ntmps183 Tryz.call183 rfl (fun _=>?_)
 by_cases h1:x<y
 ·rw[if_pos h1] at hE
  rw[hE]
  exact V0
  all_goals done
 ·rw[if_neg h1] at hE
  by_cases h2:y<x
  ·rw[if_pos h2] at hE
   rw[hE]
   exact V0
   all_goals done
  ·rw[if_neg h2] at hE
   rw[hE]
   exact V0
   all_goals done
theorem or_any (v:Value)(l:List Int)(w:World)(hr:XD.ok (fun b=>b<w.heap.size) w ⟨v,1,l.length,l.map encI⟩):
 Calls Tryz.prog 144 #[v] w (Sy.Ret (.int .i64 (orL l)) w):=by
 have hl:=ok_len hr
 refine Sy.calls_of Sy.lv144 Sy.tab_ok Tryz.func144 rfl _ Tryz.ntmps144 [⟨v,1,l.length,l.map encI⟩] [.c (.row 0)] rfl rfl rfl ⟨hr,trivial⟩ (V ?_)
 refine Sy.loop_inv Sy.tab_ok (fun n:Nat=>[(8,.c (.v (.int .i64 n)))]) (fun _=>[]) (fun n=>n<=l.length/\orL (l.drop n)=orL l) (fun n=>l.length-n) 0 ⟨Nat.zero_le _,rfl⟩ ?_ (fun n hn=>?_)
 ·exact Vs0
 ·obtain⟨hn,ho⟩:=hn
  refine V (Vj (fun hh=>?_) fun hh=>?_)
  ·have hlt:n<l.length:=by omega
   have hg:=List.getElem?_eq_getElem hlt
   rw[List.drop_eq_getElem_cons hlt] at ho
   generalize l[n]=x at *
   refine Sy.el_map x hg ?_
   rw[show orL (x::l.drop (n+1))=if x≠0 then x else orL (l.drop (n+1)) from rfl] at ho
   by_cases hx:x≠0
   ·rw[if_pos hx] at ho
    rw[<-ho]
    exact V0
    all_goals done
   ·rw[if_neg hx] at ho
    refine V (Y1 fun hh=>?_)
    refine⟨n+1,⟨by omega,ho⟩,by omega,?_⟩
    exact Vs0
  ·have e:n=l.length:=by omega
   rw[e,List.drop_length] at ho
   rw[<-ho]
   exact V0
   all_goals done
theorem cmpK_any (s k v s' k' v':Int)(w:World):Calls Tryz.prog 189 #[.agg #[.int .i64 s,.int .i64 k,.int .i64 v],.agg #[.int .i64 s',.int .i64 k',.int .i64 v']] w (Sy.Ret (.int .i64 (cmpK s k s' k')) w):=by
 refine Sy.calls_of Sy.lv189 Sy.tab_ok Tryz.func189 rfl _ Tryz.ntmps189 [] [.agg [.v (.int .i64 s),.v (.int .i64 k),.v (.int .i64 v)],.agg [.v (.int .i64 s'),.v (.int .i64 k'),.v (.int .i64 v')]] rfl rfl rfl trivial (V ?_)
 refine Sy.draw_go [] (by kernel_rfl) ?_
 intro e0
 conv=>whnf
 refine zt 0 rfl ?_
 conv=>whnf
 refine zt 1 rfl ?_
 conv=>whnf
 refine zt 2 rfl ?_
 conv=>whnf
 refine zt 3 rfl ?_
 conv=>whnf
 refine zt 5 rfl ?_
 conv=>whnf
 refine zt 6 rfl ?_
 conv=>whnf
 refine zt 7 rfl ?_
 conv=>whnf
 refine zt 8 rfl ?_
 conv=>whnf
 refine zd1 [4] (zx rfl ?_ zy)
 conv=>whnf
 refine Sy.call_val (.c (.v (.int .i64 (cmpI s s')))) Tryz.call145 rfl (fun e a w' h=>cmpI_any s s' w') ?_
 conv=>whnf
 refine Yk ?_
 refine zd1 [9] (zx rfl ?_ zy)
 conv=>whnf
 refine Sy.call_val (.c (.v (.int .i64 (cmpI k k')))) Tryz.call145 rfl (fun e a w' h=>cmpI_any k k' w') ?_
 conv=>whnf
 refine Yk ?_
 refine zd1 [10] (zx rfl ?_ zy)
 conv=>whnf
 refine Yk ?_
 refine zd1 [11] (zx rfl ?_ zy)
 conv=>whnf
 refine Sy.call_val (.c (.v (.int .i64 (cmpK s k s' k')))) Tryz.call144 rfl (fun e a w' h=>by have:=or_any (e.rv 2) [cmpI s s',cmpI k k'] w' (Sy.row_reads h (.inl ⟨_,rfl⟩));rw[cmpK_or] at this;exact this) ?_
 conv=>whnf
 refine Yk ?_
 refine zt 12 rfl ?_
 conv=>whnf
 refine zw ?_
 skip
 all_goals(exact V0)
 all_goals done
theorem rcmpK_any (s k v s' k' v':Int)(w:World):Calls Tryz.prog 122 #[.agg #[.int .i64 s,.int .i64 k,.int .i64 v],.agg #[.int .i64 s',.int .i64 k',.int .i64 v']] w (Sy.Ret (.int .i64 (cmpK s k s' k')) w):=by
 refine Sy.calls_of Sy.lv122 Sy.tab_ok Tryz.func122 rfl _ Tryz.ntmps122 [] [.agg [.v (.int .i64 s),.v (.int .i64 k),.v (.int .i64 v)],.agg [.v (.int .i64 s'),.v (.int .i64 k'),.v (.int .i64 v')]] rfl rfl rfl trivial ?_
 have hE:cmpK s k s' k'=if s<s'\/(s=s'/\k<k') then -1 else if s=s'/\k=k' then 0 else 1:=rfl
 by_cases h1:s<s'\/(s=s'/\k<k')
 ·rw[if_pos h1] at hE
  rw[hE]
  exact V0
  all_goals done
 ·rw[if_neg h1] at hE
  by_cases h2:s=s'/\k=k'
  ·rw[if_pos h2] at hE
   rw[hE]
   exact V0
   all_goals done
  ·rw[if_neg h2] at hE
   rw[hE]
   exact V0
   all_goals done
theorem name_any (n:Tx)(w:World):Calls Tryz.prog 104 #[.agg #[.int .i64 n.sink,.int .i64 n.att,.int .i64 n.ser]] w (Sy.Ret (.int .i64 (if okN n then 0 else 2)) w):=by
 refine Sy.calls_of Sy.lv104 Sy.tab_ok Tryz.func104 rfl _ Tryz.ntmps104 [] [.agg [.v (.int .i64 n.sink),.v (.int .i64 n.att),.v (.int .i64 n.ser)]] rfl rfl rfl trivial ?_
 by_cases h:okN n
 ·rw[if_pos h]
  unfold okN at h
  refine V (Y1 fun hh=>Y1 fun hh=>?_)
  refine Sy.call_in Sy.lv146 Sy.tab_ok Tryz.func146 rfl _ Tryz.ntmps146 Tryz.call146 rfl (fun _=>?_)
  refine V (Y1 fun hh=>Y1 fun hh=>?_)
  refine Sy.call_in Sy.lv146 Sy.tab_ok Tryz.func146 rfl _ Tryz.ntmps146 Tryz.call146 rfl (fun _=>?_)
  exact V0
  all_goals done
 ·rw[if_neg h]
  unfold okN at h
  by_cases h1:0<=n.sink/\n.sink<16
  ·refine V (Y1 fun hh=>Y1 fun hh=>?_)
   refine Sy.call_in Sy.lv146 Sy.tab_ok Tryz.func146 rfl _ Tryz.ntmps146 Tryz.call146 rfl (fun _=>?_)
   by_cases h2:1<=n.att/\n.att<=1048576
   ·refine V (Y1 fun hh=>Y1 fun hh=>?_)
    refine Sy.call_in Sy.lv146 Sy.tab_ok Tryz.func146 rfl _ Tryz.ntmps146 Tryz.call146 rfl (fun _=>?_)
    exact V0
    all_goals done
   ·exact V0
    all_goals done
  ·exact V0
   all_goals done
theorem rname_any (n:Tx)(w:World):Calls Tryz.prog 123 #[.agg #[.int .i64 n.sink,.int .i64 n.att,.int .i64 n.ser]] w (Sy.Ret (.bool (okT n)) w):=by
 refine Sy.calls_of Sy.lv123 Sy.tab_ok Tryz.func123 rfl _ Tryz.ntmps123 [] [.agg [.v (.int .i64 n.sink),.v (.int .i64 n.att),.v (.int .i64 n.ser)]] rfl rfl rfl trivial ?_
 unfold okT
 by_cases h:okN n
 ·rw[decide_eq_true h]
  unfold okN at h
  refine V (Y1 fun hh=>Y1 fun hh=>Y1 fun hh=>Y1 fun hh=>Y1 fun hh=>?_)
  all_goals exact Sy.fin_val (fun e=>congrArg Value.bool (by first|exact decide_eq_true (by omega)|exact decide_eq_false (by omega)))
 ·rw[decide_eq_false h]
  unfold okN at h
  ((repeat' first|refine Y ?_|refine Y2 ?_ ?_|refine Y1 fun hh=>?_|exact Y0.mk);(all_goals(try conv=>whnf)))
  all_goals exact Sy.fin_val (fun e=>congrArg Value.bool (by first|exact decide_eq_true (by omega)|exact decide_eq_false (by omega)))
theorem cmpT_any (a b:Tx)(w:World):Calls Tryz.prog 102 #[.agg #[.int .i64 a.sink,.int .i64 a.att,.int .i64 a.ser],.agg #[.int .i64 b.sink,.int .i64 b.att,.int .i64 b.ser]] w (Sy.Ret (.int .i64 (cmpT a b)) w):=by
 refine Sy.calls_of Sy.lv102 Sy.tab_ok Tryz.func102 rfl _ Tryz.ntmps102 [] [.agg [.v (.int .i64 a.sink),.v (.int .i64 a.att),.v (.int .i64 a.ser)],.agg [.v (.int .i64 b.sink),.v (.int .i64 b.att),.v (.int .i64 b.ser)]] rfl rfl rfl trivial (V ?_)
 refine Sy.draw_go [] (by kernel_rfl) ?_
 intro e0
 conv=>whnf
 refine zt 0 rfl ?_
 conv=>whnf
 refine zt 1 rfl ?_
 conv=>whnf
 refine zt 2 rfl ?_
 conv=>whnf
 refine zt 3 rfl ?_
 conv=>whnf
 refine zt 5 rfl ?_
 conv=>whnf
 refine zt 6 rfl ?_
 conv=>whnf
 refine zt 7 rfl ?_
 conv=>whnf
 refine zt 8 rfl ?_
 conv=>whnf
 refine zt 10 rfl ?_
 conv=>whnf
 refine zt 11 rfl ?_
 conv=>whnf
 refine zt 12 rfl ?_
 conv=>whnf
 refine zt 13 rfl ?_
 conv=>whnf
 refine zd1 [4] (zx rfl ?_ zy)
 conv=>whnf
 refine Sy.call_val (.c (.v (.int .i64 (cmpI a.sink b.sink)))) Tryz.call145 rfl (fun e _ w' h=>cmpI_any a.sink b.sink w') ?_
 conv=>whnf
 refine Yk ?_
 refine zd1 [9] (zx rfl ?_ zy)
 conv=>whnf
 refine Sy.call_val (.c (.v (.int .i64 (cmpI a.att b.att)))) Tryz.call145 rfl (fun e _ w' h=>cmpI_any a.att b.att w') ?_
 conv=>whnf
 refine Yk ?_
 refine zd1 [14] (zx rfl ?_ zy)
 conv=>whnf
 refine Sy.call_val (.c (.v (.int .i64 (cmpI a.ser b.ser)))) Tryz.call145 rfl (fun e _ w' h=>cmpI_any a.ser b.ser w') ?_
 conv=>whnf
 refine Yk ?_
 refine zd1 [15] (zx rfl ?_ zy)
 conv=>whnf
 refine Yk ?_
 refine zd1 [16] (zx rfl ?_ zy)
 conv=>whnf
 refine Sy.call_val (.c (.v (.int .i64 (cmpT a b)))) Tryz.call144 rfl (fun e _ w' h=>or_any (e.rv 2) [cmpI a.sink b.sink,cmpI a.att b.att,cmpI a.ser b.ser] w' (Sy.row_reads h (.inl ⟨_,rfl⟩))) ?_
 conv=>whnf
 refine Yk ?_
 refine zt 17 rfl ?_
 conv=>whnf
 refine zw ?_
 skip
 all_goals(exact V0)
 all_goals done
theorem less_any (a b:Tx)(w:World):Calls Tryz.prog 124 #[.agg #[.int .i64 a.sink,.int .i64 a.att,.int .i64 a.ser],.agg #[.int .i64 b.sink,.int .i64 b.att,.int .i64 b.ser]] w (Sy.Ret (.bool (ltT a b)) w):=by
 refine Sy.calls_of Sy.lv124 Sy.tab_ok Tryz.func124 rfl _ Tryz.ntmps124 [] [.agg [.v (.int .i64 a.sink),.v (.int .i64 a.att),.v (.int .i64 a.ser)],.agg [.v (.int .i64 b.sink),.v (.int .i64 b.att),.v (.int .i64 b.ser)]] rfl rfl rfl trivial ?_
 unfold ltT
 by_cases h:lessT a b
 ·rw[decide_eq_true h]
  unfold lessT at h
  by_cases h1:a.sink=b.sink
  ·by_cases h2:a.att=b.att
   ·refine V ?_
    all_goals exact Sy.fin_val (fun e=>congrArg Value.bool (by first|exact decide_eq_true (by omega)|exact decide_eq_false (by omega)))
   ·refine V ?_
    all_goals exact Sy.fin_val (fun e=>congrArg Value.bool (by first|exact decide_eq_true (by omega)|exact decide_eq_false (by omega)))
  ·refine V ?_
   all_goals exact Sy.fin_val (fun e=>congrArg Value.bool (by first|exact decide_eq_true (by omega)|exact decide_eq_false (by omega)))
 ·rw[decide_eq_false h]
  unfold lessT at h
  by_cases h1:a.sink=b.sink
  ·by_cases h2:a.att=b.att
   ·refine V ?_
    all_goals exact Sy.fin_val (fun e=>congrArg Value.bool (by first|exact decide_eq_true (by omega)|exact decide_eq_false (by omega)))
   ·refine V ?_
    all_goals exact Sy.fin_val (fun e=>congrArg Value.bool (by first|exact decide_eq_true (by omega)|exact decide_eq_false (by omega)))
  ·refine V ?_
   all_goals exact Sy.fin_val (fun e=>congrArg Value.bool (by first|exact decide_eq_true (by omega)|exact decide_eq_false (by omega)))
theorem share_any (i n:Int)(w:World):Calls Tryz.prog 184 #[.int .i64 i,.int .i64 n] w (Sy.Ret (.bool (decide (shareP i n))) w):=by
 refine Sy.calls_of Sy.lv184 Sy.tab_ok Tryz.func184 rfl _ Tryz.ntmps184 [] [.c (.v (.int .i64 i)),.c (.v (.int .i64 n))] rfl rfl rfl trivial (V ?_)
 refine Sy.call_in Sy.lv206 Sy.tab_ok Tryz.func206 rfl _ Tryz.ntmps206 Tryz.call206 rfl (fun _=>?_)
 by_cases h:shareP i n
 ·rw[decide_eq_true h]
  unfold shareP at h
  refine V (Y1 fun hh=>Y1 fun hh=>Y1 fun hh=>?_)
  all_goals exact Sy.fin_val (fun e=>congrArg Value.bool (by first|exact decide_eq_true (by omega)|exact decide_eq_false (by omega)))
 ·rw[decide_eq_false h]
  unfold shareP at h
  refine V (Vj (fun hh=>Vj (fun hh=>Vj (fun hh=>?_) fun hh=>Y0.mk) fun hh=>Y0.mk) fun hh=>Y0.mk)
  all_goals exact Sy.fin_val (fun e=>congrArg Value.bool (by first|exact decide_eq_true (by omega)|exact decide_eq_false (by omega)))
theorem rshare_any (i n:Int)(w:World):Calls Tryz.prog 119 #[.int .i64 i,.int .i64 n] w (Sy.Ret (.bool (decide (shareP i n))) w):=by
 refine Sy.calls_of Sy.lv119 Sy.tab_ok Tryz.func119 rfl _ Tryz.ntmps119 [] [.c (.v (.int .i64 i)),.c (.v (.int .i64 n))] rfl rfl rfl trivial ?_
 by_cases h:shareP i n
 ·rw[decide_eq_true h]
  unfold shareP at h
  refine V (Y1 fun hh=>Y1 fun hh=>Y1 fun hh=>?_)
  all_goals exact Sy.fin_val (fun e=>congrArg Value.bool (by first|exact decide_eq_true (by omega)|exact decide_eq_false (by omega)))
 ·rw[decide_eq_false h]
  unfold shareP at h
  refine V (Vj (fun hh=>Vj (fun hh=>Vj (fun hh=>?_) fun hh=>Y0.mk) fun hh=>Y0.mk) fun hh=>Y0.mk)
  all_goals exact Sy.fin_val (fun e=>congrArg Value.bool (by first|exact decide_eq_true (by omega)|exact decide_eq_false (by omega)))
theorem owner_any (g n:Int)(w:World)(hg:0<=g/\g<8)(hn:0<=n/\n<=3):Calls Tryz.prog 191 #[.int .i64 g,.int .i64 n] w (Sy.Ret (.int .i64 (ownW g n)) w):=by
 have h1:0<=g*n:=Int.mul_nonneg hg.1 hn.1
 have h2:g*n<=7*3:=Int.mul_le_mul (by omega) hn.2 hn.1 (by omega)
 refine Sy.calls_of Sy.lv191 Sy.tab_ok Tryz.func191 rfl _ Tryz.ntmps191 [] [.c (.v (.int .i64 g)),.c (.v (.int .i64 n))] rfl rfl rfl trivial (V ?_)
 refine Sy.div_in (by omega) (by omega) V0
 all_goals done
theorem rowner_any (g n:Int)(w:World)(hg:0<=g/\g<8)(hn:0<=n/\n<=3):Calls Tryz.prog 125 #[.int .i64 g,.int .i64 n] w (Sy.Ret (.int .i64 (ownW g n)) w):=by
 have h1:0<=g*n:=Int.mul_nonneg hg.1 hn.1
 have h2:g*n<=7*3:=Int.mul_le_mul (by omega) hn.2 hn.1 (by omega)
 refine Sy.calls_of Sy.lv125 Sy.tab_ok Tryz.func125 rfl _ Tryz.ntmps125 [] [.c (.v (.int .i64 g)),.c (.v (.int .i64 n))] rfl rfl rfl trivial (V ?_)
 refine Sy.div_in (by omega) (by omega) V0
 all_goals done
end Go.Proofs.YtgkkpefpbfadoaaGreat.Sn
