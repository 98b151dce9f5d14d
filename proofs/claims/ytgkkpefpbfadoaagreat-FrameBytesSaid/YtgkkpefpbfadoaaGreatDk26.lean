/- Frame: Check. -/
import Derived.Test.YtgkkpefpbfadoaaGreatDk9
import Derived.Test.YtgkkpefpbfadoaaGreatDk25
import Derived.Test.YtgkkpefpbfadoaaGreatDk17
import Derived.Test.YtgkkpefpbfadoaaGreatDk16
namespace Go.Proofs.YtgkkpefpbfadoaaGreat
open Go Go.RowKit
open Sy (C SV V1 Blk St XD Els)
set_option maxRecDepth 10000
def bareP (m:MsgV):Prop:=m.task=0/\m.num=0/\(m.gl=[]/\m.il=[]/\m.pls=[])/\m.snap=Sn.sn0/\m.names=[]/\m.up=[]/\m.ended=[]/\m.pkt=pk0
instance(m:MsgV):Decidable (bareP m):=by
 unfold bareP
 have:Decidable (m.gl=[]):=decidable_of_iff (m.gl.isEmpty=true) List.isEmpty_iff
 have:Decidable (m.il=[]):=decidable_of_iff (m.il.isEmpty=true) List.isEmpty_iff
 infer_instance
def bareM (m:Msg):Prop:=(m.kind=1\/m.kind=5\/m.kind=7\/m.kind=8\/m.task=0)/\(m.kind=3\/m.kind=5\/m.num=0)/\(m.kind=1\/(m.gr=[]/\m.ins=[]/\m.pls=[]))/\(m.kind=1\/m.kind=5\/m.snap=Sn.sn0)/\(m.kind=4\/m.names=[])/\(m.kind=6\/(m.up=[]/\m.ended=[]))/\(m.kind=8\/m.pkt=pk0)
instance(m:Msg):Decidable (bareM m):=by unfold bareM;infer_instance
def okM (m:Msg):Prop:=kindB m=true/\bareM m/\(1<=m.epoch/\m.epoch<=2147483647)/\1<=m.att/\m.att<=1048576
instance(m:Msg):Decidable (okM m):=by unfold okM;infer_instance
theorem bare_iff (m:MsgV):bareP (rest m)↔bareM m.msg:=by
 have h1:opsOf m.gl=[]↔m.gl=[]:=List.map_eq_nil_iff
 have h2:insOf m.il=[]↔m.il=[]:=List.map_eq_nil_iff
 unfold bareM
 simp only[MsgV.msg,h1,h2]
 by_cases k1:m.kind=1
 ·rw[rest1 k1];simp[bareP,k1,and_assoc]
 by_cases k3:m.kind=3
 ·rw[rest3 k3];simp[bareP,k3,and_assoc]
 by_cases k4:m.kind=4
 ·rw[rest4 k4];simp[bareP,k4,and_assoc]
 by_cases k5:m.kind=5
 ·rw[rest5 k5];simp[bareP,k5,and_assoc]
 by_cases k6:m.kind=6
 ·rw[rest6 k6];simp[bareP,k6,and_assoc]
 by_cases k7:m.kind=7
 ·rw[rest7 k7];simp[bareP,k7,and_assoc]
 by_cases k8:m.kind=8
 ·rw[rest8 k8];simp[bareP,k8,and_assoc]
 ·have e:rest m=m:=by unfold rest;rw[if_neg k1,if_neg k3,if_neg k4,if_neg k5,if_neg k6,if_neg k7,if_neg k8]
  rw[e];simp[bareP,k1,k3,k4,k5,k6,k7,k8,and_assoc]
theorem MOk.rest {F:Nat->Prop}{w:World}{m:MsgV}(h:MOk F w m):MOk F w (rest m):=by
 have n0:∀{z:Nat},XD.ok F w ⟨nilV,z,0,[]⟩:=nil_ok
 have g0:GOk F w nilV []:=⟨n0,fun o ho=>by cases ho⟩
 unfold Go.Proofs.YtgkkpefpbfadoaaGreat.rest
 repeat' split
 ·exact⟨g0,n0,(by intro x hx;cases hx),n0,⟨n0,n0⟩,h.n,h.u,h.e⟩
 ·exact⟨h.g,h.i,h.ir,h.p,h.s,h.n,h.u,h.e⟩
 ·exact⟨h.g,h.i,h.ir,h.p,h.s,n0,h.u,h.e⟩
 ·exact⟨h.g,h.i,h.ir,h.p,⟨n0,n0⟩,h.n,h.u,h.e⟩
 ·exact⟨h.g,h.i,h.ir,h.p,h.s,h.n,n0,n0⟩
 ·exact⟨h.g,h.i,h.ir,h.p,h.s,h.n,h.u,h.e⟩
 ·exact⟨h.g,h.i,h.ir,h.p,h.s,h.n,h.u,h.e⟩
 ·exact h
theorem pk_iff {p q:Pkt}:p=q↔p.kind=q.kind/\p.ses=q.ses/\p.seq=q.seq/\p.lim=q.lim/\p.elem.kind=q.elem.kind/\p.elem.r.src=q.elem.r.src/\p.elem.r.key=q.elem.r.key/\p.elem.r.val=q.elem.r.val/\p.elem.num=q.elem.num:=by
 obtain⟨a,b,c,d,⟨e,⟨f,g,h⟩,i⟩⟩:=p
 obtain⟨a',b',c',d',⟨e',⟨f',g',h'⟩,i'⟩⟩:=q
 simp only[Pkt.mk.injEq,Elm.mk.injEq,Rc.mk.injEq,and_assoc]
theorem len0 {α:Type}{l:List α}:(l.length:Int)=0↔l=[]:=by rw[<-List.length_eq_zero_iff];omega
theorem bare_len (m:MsgV):bareP m↔m.task=0/\m.num=0/\(m.gl=[]/\m.il=[]/\m.pls=[])/\m.snap=Sn.sn0/\(m.names.length:Int)=0/\(m.up.length:Int)=0/\(m.ended.length:Int)=0/\m.pkt.kind=0/\m.pkt.ses=0/\m.pkt.seq=0/\m.pkt.lim=0/\m.pkt.elem.kind=0/\m.pkt.elem.r.src=0/\m.pkt.elem.r.key=0/\m.pkt.elem.r.val=0/\m.pkt.elem.num=0:=by
 unfold bareP
 rw[pk_iff,len0,len0,len0];rfl
theorem zsc {X:Sy.Cx}{S:St}{x y:Code}{Q:Exit->St->Prop}(h:Sy.cutP X x y S Q):Sy.semP X (.seq x y) S Q:=⟨h.out⟩
theorem tup_lt {n:Nat}{l:List C}{b:Bool}(h:Sy.ltAll n l=true):SV.lt n (.tup [.agg l,.c (.v (.bool b))])=true:=by
 show(match Sy.ltAll n l with|true=>true|false=>false)=true
 rw[h]
attribute [local irreducible] rest kindB
set_option maxHeartbeats 8000000 in
theorem fcheck_any (m:MsgV)(w:World)(hr:MOk (fun b=>b<w.heap.size) w m)(hb:m.il.length<=100000)(hs:I64 m.src)(hd:I64 m.dst):
 Calls Tryz.prog 19 #[.agg (encM m).toArray] w (Sy.Ret (.int .i64 (if okM m.msg then 0 else 370)) w):=by
 refine Sy.calls_of Sy.lv19 Sy.tab_ok Tryz.func19 rfl _ Tryz.ntmps19 [] [.agg (cellsM C.v m fun i=>.v (m.v i))] rfl (lt_one (Sy.ltAll_v (msg_one hr))) rfl trivial (V ?_)
 refine Sy.call_val (.tup [.agg (cellsM C.v (rest m) fun i=>.v ((rest m).v i)),.c (.v (.bool (kindB m.msg)))]) Tryz.call54 (tup_lt (Sy.ltAll_v (msg_one hr.rest))) (fun e a w' h=>fhas_any m w' (MOk.later h hr) hb hs hd) ?_
 have hR:=hr.rest
 have hbi:=bare_iff m
 generalize rest m=R at *
 refine Vc ?_
 refine Sy.cut_sem ?_
 (refine open_c 1 24 _ _ _ rfl rfl (hR.n) (fun _ h=>h) ?_);(conv=>whnf)
 (refine open_c 1 25 _ _ _ rfl rfl (hR.u) (fun _ h=>h) ?_);(conv=>whnf)
 (refine open_c 1 26 _ _ _ rfl rfl (hR.e) (fun _ h=>h) ?_);(conv=>whnf)
 refine zsc ?_
 refine Sy.cut_meet Sy.tab_ok (fun _:Unit=>[(5,.c (.v (.bool (decide (bareP R)))))]) (fun _=>[]) (fun _=>True) ?_ (fun _ _=>?_)
 ·refine Sy.region_go Sy.tab_ok (V (Vj (fun hh=>Vj (fun hh=>?_) fun hh=>?_) fun hh=>?_))
  ·refine Sy.call_val (.c (.v (.bool (decide (R.gl=[]/\R.il=[]/\R.pls=[]))))) Tryz.call55 rfl (fun e a w' h=>by have q:=MOk.later h hR;exact zlaid_any (R.v 0) (R.v 1) (R.v 2) R.gl R.il R.pls w' q.g q.i q.p) (V (Vj (fun hh=>?_) fun hh=>?_))
   ·refine Sy.call_val (.c (.v (.bool (decide (R.snap=Sn.sn0))))) Tryz.call56 rfl (fun e a w' h=>zsnap_any R.sv w' (MOk.later h hR).s) ?_
    ((repeat' first|refine Y ?_|refine Y2 ?_ ?_|refine Y1 fun hh=>?_|exact Y0.mk);(all_goals(try conv=>whnf)))
    all_goals(refine⟨(),trivial,?_⟩;refine Vs ?_)
    all_goals exact fbool (by rw[bare_len];simp[*,and_assoc]<;>(intros;simp_all))
   all_goals(refine⟨(),trivial,?_⟩;refine Vs ?_)
   all_goals exact fbool (by rw[bare_len];simp[*]<;>(intros;simp_all))
  all_goals(refine⟨(),trivial,?_⟩;refine Vs ?_)
  all_goals exact fbool (by rw[bare_len];simp[*,and_assoc]<;>(intros;simp_all))
 conv=>whnf
 have hok:okM m.msg↔kindB m.msg=true/\bareP R/\(1<=m.epoch/\m.epoch<=2147483647)/\1<=m.att/\m.att<=1048576:=by unfold okM;rw[<-hbi];rfl
 ((repeat' first|refine Y ?_|refine Y2 ?_ ?_|refine Y1 fun hh=>?_|exact Y0.mk);(all_goals(try conv=>whnf)))
 all_goals first
  |exact Sy.fin_val fun e=>by rw[if_pos (hok.2 ⟨by assumption,by assumption,⟨by omega,by omega⟩,by omega,by omega⟩)];rfl
  |exact Sy.fin_val fun e=>by rw[if_neg (fun h=>by obtain⟨a,b,c,d⟩:=hok.1 h;first|omega|contradiction|simp_all)];rfl
end Go.Proofs.YtgkkpefpbfadoaaGreat
namespace Go.Proofs.YtgkkpefpbfadoaaGreat
open Go Go.RowKit
open Sy (C SV V1 Blk St XD Els)
set_option maxRecDepth 10000
def adl (b:List Int):Int×Int:=b.foldl (fun p c=>((p.1+c)%65521,(p.2+(p.1+c)%65521)%65521)) (1,0)
def sumV (b:List Int):Int:=(adl b).2*65536+(adl b).1
theorem adl_snoc (b:List Int)(c:Int):adl (b++[c])=(((adl b).1+c)%65521,((adl b).2+((adl b).1+c)%65521)%65521):=by unfold adl;rw[List.foldl_append];rfl
theorem adl_bound (b:List Int)(n:Nat):(0<=(adl (b.take n)).1/\(adl (b.take n)).1<65521)/\0<=(adl (b.take n)).2/\(adl (b.take n)).2<65521:=by
 induction n with
 |zero=>simp[adl]
 |succ n ih=>
  by_cases hn:n<b.length
  ·rw[List.take_succ_eq_append_getElem hn,adl_snoc]
   dsimp only
   omega
  ·rw[List.take_of_length_le (by omega)] at ih⊢
   exact ih
theorem sumV_bound (b:List Int):0<=sumV b/\sumV b<4294967296:=by
 have:=adl_bound b b.length
 rw[List.take_length] at this
 unfold sumV
 omega
theorem or_sum {x y:Int}(hx:0<=x/\x<65536)(hy:0<=y/\y<65536):IntKind.u32.wrap ((BitVec.ofInt IntKind.u32.bits (IntKind.u32.wrap (x*2^min 16 IntKind.u32.bits))|||BitVec.ofInt IntKind.u32.bits y).toNat:Int)=x*65536+y:=by
 obtain⟨xn,rfl⟩:∃n:Nat,x=(n:Int):=⟨x.toNat,by omega⟩
 obtain⟨k,rfl⟩:∃k:Nat,y=(k:Int):=⟨y.toNat,by omega⟩
 have hw:IntKind.u32.wrap ((xn:Int)*2^min 16 IntKind.u32.bits)=(xn:Int)*65536:=by
  rw[IntKind.wrap_u32]
  show((xn:Int)*65536)%_=_
  omega
 rw[hw]
 have e1:(BitVec.ofInt IntKind.u32.bits ((xn:Int)*65536)).toNat=2^16*xn:=by
  show(BitVec.ofInt 32 ((xn:Int)*65536)).toNat=65536*xn
  rw[BitVec.toNat_ofInt]
  omega
 have e2:(BitVec.ofInt IntKind.u32.bits (k:Int)).toNat=k:=by
  show(BitVec.ofInt 32 (k:Int)).toNat=k
  rw[BitVec.toNat_ofInt]
  omega
 rw[BitVec.toNat_or,e1,e2,<-Nat.two_pow_add_eq_or_of_lt (by omega),IntKind.wrap_u32]
 omega
theorem u32_in {x:Int}{K:Int->Prop}(hx:0<=x/\x<4294967296)(h:K x):Sy.arP .u32 x K:=Sy.ar_wrap (by rw[IntKind.wrap_u32,show x%4294967296=x by omega];exact h)
theorem sum_any (v:Value)(b:List Int)(w:World)(hr:XD.ok (fun b=>b<w.heap.size) w ⟨v,1,b.length,b.map encB⟩)(h8:∀c∈b,0<=c/\c<256):
 Calls Tryz.prog 58 #[v] w (Sy.Ret (.int .u32 (sumV b)) w):=by
 have hl:=ok_len hr
 refine Sy.calls_of Sy.lv58 Sy.tab_ok Tryz.func58 rfl _ Tryz.ntmps58 [⟨v,1,b.length,b.map encB⟩] [.c (.row 0)] rfl rfl rfl ⟨hr,trivial⟩ (V ?_)
 refine Sy.loop_inv Sy.tab_ok (fun n:Nat=>[(10,.c (.v (.int .i64 n)))]) (fun n=>[(1,.cells 41 [.v (.int .u32 (adl (b.take n)).1)]),(2,.cells 41 [.v (.int .u32 (adl (b.take n)).2)])]) (fun n=>n<=b.length) (fun n=>b.length-n) 0 (Nat.zero_le _) ?_ (fun n hn=>?_)
 ·exact Vs0
 have hb:=adl_bound b n
 by_cases hlt:n<b.length
 ·have hgt:=List.getElem?_eq_getElem hlt
  have hgx:=h8 _ (List.getElem_mem hlt)
  have hs:=List.take_succ_eq_append_getElem hlt
  generalize b[n]=x at *
  have ha:=adl_snoc (b.take n) x
  rw[<-hs] at ha
  refine V (Y1 fun hh=>?_)
  refine Sy.el_map x hgt (V ?_)
  refine Sy.call_in Sy.lv111 Sy.tab_ok Tryz.func111 rfl _ Tryz.ntmps111 Tryz.call111 rfl (fun _=>?_)
  refine V ?_
  refine u32_in (by omega) (V ?_)
  refine u32_in (by omega) (V ?_)
  refine Sy.rem_in (y:=65521) (by omega) (by decide) (V ?_)
  refine u32_in (by omega) (V ?_)
  refine Sy.rem_in (y:=65521) (by omega) (by decide) (V ?_)
  refine⟨n+1,by omega,by omega,?_⟩
  rw[ha]
  exact Vs0
 ·have en:n=b.length:=by omega
  subst en
  rw[List.take_length] at hb⊢
  refine V (Y1 fun hh=>?_)
  refine Sy.sh_nat (y:=16) (V ?_)
  refine Sy.ar_wrap (V ?_)
  exact Sy.fin_val fun e=>by rw[or_sum (by omega) (by omega)];rfl
theorem seal_any (v:Value)(b:List Int)(w:World)(hr:XD.ok (fun b=>b<w.heap.size) w ⟨v,1,b.length,b.map encB⟩)(h8:∀c∈b,0<=c/\c<256)(hb:b.length<=100000):
 Calls Tryz.prog 20 #[v] w (Sy.RetRows Sy.noRow (fun _:Unit=>True) (fun _=>[⟨5,1,(b++beN (sumV b) 4).length,(b++beN (sumV b) 4).map encB⟩]) (fun _ vs=>vs.headD undef) w):=by
 refine Sy.calls_of Sy.lv20 Sy.tab_ok Tryz.func20 rfl _ Tryz.ntmps20 [⟨v,1,b.length,b.map encB⟩] [.c (.row 0)] rfl rfl rfl ⟨hr,trivial⟩ (V ?_)
 refine Sy.call_val (.c (.v (.int .u32 (sumV b)))) Tryz.call58 rfl (fun e a w' h=>sum_any (e.rv 0) b w' (Sy.row_reads h (.inr rfl)) h8) (V ?_)
 refine Sy.call_r1 ⟨5,1,(b++beN (sumV b) 4).length,(b++beN (sumV b) 4).map encB⟩ (fun j=>.c (.row j)) Tryz.call57 (fun e a w' h=>put32_any (e.rv 0) b (sumV b) w' (Sy.row_reads h (.inr rfl)) hb (sumV_bound b)) (V ?_)
 exact Sy.fin_r1 (.row 1) rfl
end Go.Proofs.YtgkkpefpbfadoaaGreat
namespace Go.Proofs.YtgkkpefpbfadoaaGreat
open Go Go.RowKit
open Sy (C SV V1 Blk St XD Els)
set_option maxRecDepth 10000
theorem b8_and (x:Int)(h:0<=x):IntKind.u8.wrap (IntKind.u64.wrap ((BitVec.ofInt IntKind.u64.bits x&&&BitVec.ofInt IntKind.u64.bits 255).toNat:Int))=b8 x:=by
 rw[b8_eq,IntKind.wrap_u8,IntKind.wrap_u64]
 obtain⟨m,rfl⟩:∃m:Nat,x=(m:Int):=⟨x.toNat,by omega⟩
 have e:(BitVec.ofInt IntKind.u64.bits (m:Int)&&&BitVec.ofInt IntKind.u64.bits 255).toNat=m%256:=by
  rw[BitVec.toNat_and]
  show(BitVec.ofInt 64 (m:Int)).toNat&&&(BitVec.ofInt 64 255).toNat=_
  rw[show(BitVec.ofInt 64 255).toNat=2^8-1 by decide,Nat.and_two_pow_sub_one_eq_mod]
  rw[show(BitVec.ofInt 64 (m:Int)).toNat=m%2^64 by simp]
  omega
 rw[e]
 omega
theorem beN_succ (x:Int)(hx:0<=x):∀n,beN x (n+1)=beN (x.fdiv 256) n++[b8 x]
 |0=>by simp[beN,Int.fdiv_eq_ediv_of_nonneg]
 |n+1=>by
  rw[beN,beN_succ x hx n,beN,List.cons_append]
  congr 2
  have p1:(0:Int)<=2^(8*(n+1)):=Int.pow_nonneg (by decide)
  have p2:(0:Int)<=2^(8*n):=Int.pow_nonneg (by decide)
  rw[Int.fdiv_eq_ediv_of_nonneg _ p1,Int.fdiv_eq_ediv_of_nonneg _ (by decide:(0:Int)<=256),Int.fdiv_eq_ediv_of_nonneg _ p2,Int.ediv_ediv_of_nonneg (by decide)]
  congr 1
  rw[show 8*(n+1)=8+8*n by omega,Int.pow_add]
  rfl
theorem high_any:∀(n:Nat)(x:Int)(w:World),0<=x->n<=100->
 Calls Tryz.prog 40 #[.int .u64 x,.int .i64 n] w (Sy.RetRows Sy.noRow (fun _:Unit=>True) (fun _=>[⟨5,1,(beN x n).length,(beN x n).map encB⟩]) (fun _ vs=>vs.headD undef) w)
 |0,x,w,hx,hn=>by
  refine Sy.calls_of Sy.lv40 Sy.tab_ok Tryz.func40 rfl _ Tryz.ntmps40 [] [.c (.v (.int .u64 x)),.c (.v (.int .i64 (0:Nat)))] rfl rfl rfl trivial (V ?_)
  exact Sy.fin_r1 (.v (.slice none 0 0)) ⟨rfl,rfl⟩
 |n+1,x,w,hx,hn=>by
  have hd:0<=x.fdiv 256:=by rw[Int.fdiv_eq_ediv_of_nonneg _ (by decide)];omega
  have hl:=beN_len (x.fdiv 256) n
  refine Sy.calls_of Sy.lv40 Sy.tab_ok Tryz.func40 rfl _ Tryz.ntmps40 [] [.c (.v (.int .u64 x)),.c (.v (.int .i64 (n+1:Nat)))] rfl rfl rfl trivial (V ?_)
  refine Sy.sh_nat (y:=8) (V ?_)
  rw[show x.fdiv (2^min 8 IntKind.u64.bits)=x.fdiv 256 from rfl,show((n+1:Nat):Int)-1=(n:Int) by omega]
  refine Sy.call_r1 ⟨5,1,(beN (x.fdiv 256) n).length,(beN (x.fdiv 256) n).map encB⟩ (fun j=>.c (.row j)) Tryz.call40 (fun e a w' h=>high_any n (x.fdiv 256) w' hd (by omega)) (V ?_)
  refine Sy.ar_wrap ?_
  rw[b8_and x hx]
  refine V ?_
  refine Sy.need_app 1 rfl ⟨by omega,by omega⟩ (V ?_)
  rw[beN_succ x hx n]
  refine Sy.fin_r1 (.row 2) ?_
  show some (Blk.row _ _ _ _)=_
  rw[List.length_append,List.map_append]
  rfl
end Go.Proofs.YtgkkpefpbfadoaaGreat
namespace Go.Proofs.YtgkkpefpbfadoaaGreat
open Go Go.RowKit
open Sy (C SV V1 Blk St XD Els)
set_option maxRecDepth 10000
def opBs (o:Opr):List Int:=[b8 o.tag,b8 o.width]++(beN (u64w o.a) 8++(beN (u64w o.b) 8++(b8 o.ins.length::o.ins.map b8)))
def gN (g:List Opr)(n:Nat):List Int:=b8 g.length::((g.take n).map opBs).flatten
def gBs (g:List Opr):List Int:=gN g g.length
def opN (o:Opr)(m:Nat):List Int:=[b8 o.tag,b8 o.width]++(beN (u64w o.a) 8++(beN (u64w o.b) 8++(b8 o.ins.length::(o.ins.take m).map b8)))
theorem opN_all (o:Opr):opN o o.ins.length=opBs o:=by unfold opN opBs;rw[List.take_length]
theorem opN_succ {o:Opr}{m:Nat}{x:Int}(h:o.ins[m]?=some x):opN o (m+1)=opN o m++[b8 x]:=by
 obtain⟨hn,he⟩:=List.getElem?_eq_some_iff.1 h
 unfold opN
 rw[List.take_succ_eq_append_getElem hn,he,List.map_append]
 simp
theorem opN_len (o:Opr)(m:Nat):(opN o m).length<=19+o.ins.length:=by
 unfold opN
 simp[beN_len];omega
theorem gN_succ {g:List Opr}{n:Nat}{o:Opr}(h:g[n]?=some o):gN g (n+1)=gN g n++opBs o:=by
 obtain⟨hn,he⟩:=List.getElem?_eq_some_iff.1 h
 unfold gN
 rw[List.take_succ_eq_append_getElem hn,he,List.map_append,List.flatten_append]
 simp
theorem opBs_len (o:Opr):(opBs o).length=19+o.ins.length:=by
 unfold opBs
 simp[beN_len];omega
theorem gN_len {g:List Opr}(h:∀o∈g,o.ins.length<=100):∀n,n<=g.length->(gN g n).length<=1+119*n
 |0,_=>by simp[gN]
 |n+1,hn=>by
  have ih:=gN_len h n (by omega)
  have hg:g[n]?=some g[n]:=List.getElem?_eq_getElem (by omega)
  rw[gN_succ hg,List.length_append,opBs_len]
  have:=h g[n] (List.getElem_mem _)
  omega
def insOk (gl:List OpV):Prop:=∀o∈gl,o.op.ins.length<=100
theorem insOk.ops {gl:List OpV}(h:insOk gl):∀o∈opsOf gl,o.ins.length<=100:=fun o ho=>by
 obtain⟨p,hp,rfl⟩:=List.mem_map.1 ho
 exact h p hp
attribute [local irreducible] beN gN
set_option maxHeartbeats 2000000 in
theorem bytes_any (v:Value)(gl:List OpV)(w:World)(hr:GOk (fun b=>b<w.heap.size) w v gl)(hlen:gl.length<=100)(hio:insOk gl):
 Calls Tryz.prog 42 #[.agg #[v]] w (Sy.RetRows Sy.noRow (fun _:Unit=>True) (fun _=>[⟨5,1,(gBs (opsOf gl)).length,(gBs (opsOf gl)).map encB⟩]) (fun _ vs=>vs.headD undef) w):=by
 have hol:=opsOf_len gl
 have hgl:=gN_len hio.ops
 rw[hol] at hgl
 refine Sy.calls_of Sy.lv42 Sy.tab_ok Tryz.func42 rfl _ Tryz.ntmps42 [⟨v,5,gl.length,gl.map encOV⟩] [.agg [.row 0]] rfl rfl rfl ⟨hr.1,trivial⟩ (Vo ?_)
 refine Sy.ar_wrap (Vo ?_)
 refine Sy.loop_inv Sy.tab_ok (fun n:Nat=>[(16,.c (.v (.int .i64 n))),(3,.c (.row 2))]) (fun n=>[(2,.row 5 1 (gN (opsOf gl) n).length (.vs ((gN (opsOf gl) n).map encB)))]) (fun n=>n<=gl.length) (fun n=>gl.length-n) 0 (Nat.zero_le _) ?_ (fun n hn=>?_)
 ·rw[show gN (opsOf gl) 0=[IntKind.u8.wrap gl.length] by unfold gN b8;simp[hol]]
  exact Vs0
 ·have hb:=hgl n hn
  refine Vd (Vj (fun hh=>?_) fun hh=>?_)
  ·have hlt:n<gl.length:=by omega
   have hg:=List.getElem?_eq_getElem hlt
   generalize gl[n]=o at *
   have hs:=gN_succ (opsOf_get hg)
   have hoo:=hr.at hg
   have hlo:=hio o (List.mem_of_getElem? hg)
   have ha:=beN_len (u64w o.op.a) 8
   have hbb:=beN_len (u64w o.op.b) 8
   generalize hG:gN (opsOf gl) n=G at *
   refine Sy.el_map o hg (Vo ?_)
   refine Sy.ar_wrap (Vo ?_)
   refine Sy.ar_wrap (Vo ?_)
   refine Sy.need_app 1 rfl ⟨by omega,by omega⟩ (Vd ?_)
   refine zv ?_
   (refine open_c 3 2 _ _ _ rfl rfl (hoo) (fun _ h=>h) ?_);(conv=>whnf)
   refine Sy.draw_go [5] (by kernel_rfl) ?_
   intro e0
   conv=>whnf
   refine zt 0 rfl ?_
   conv=>whnf
   refine zt 1 rfl ?_
   conv=>whnf
   refine zt 2 rfl ?_
   conv=>whnf
   refine zt 3 rfl (V ?_)
   refine Sy.ar_wrap ?_
   conv=>whnf
   refine zt 6 rfl ?_
   conv=>whnf
   refine zt 7 rfl ?_
   conv=>whnf
   refine zt 8 rfl (V ?_)
   refine Sy.ar_wrap ?_
   conv=>whnf
   refine zd1 [4] (zx rfl ?_ zy)
   conv=>whnf
   refine Sy.call_r1 ⟨5,1,(beN (u64w o.op.a) 8).length,(beN (u64w o.op.a) 8).map encB⟩ (fun j=>.c (.row j)) Tryz.call40 (fun e a w' h=>high_any 8 (u64w o.op.a) w' (u64w_nonneg _) (by decide)) ?_
   conv=>whnf
   refine Yk ?_
   refine zd1 [5] (zx rfl ?_ zy)
   conv=>whnf
   refine Sy.need_app 1 rfl ⟨by omega,by omega⟩ ?_
   conv=>whnf
   refine Yk ?_
   refine zd1 [9] (zx rfl ?_ zy)
   conv=>whnf
   refine Sy.call_r1 ⟨5,1,(beN (u64w o.op.b) 8).length,(beN (u64w o.op.b) 8).map encB⟩ (fun j=>.c (.row j)) Tryz.call40 (fun e a w' h=>high_any 8 (u64w o.op.b) w' (u64w_nonneg _) (by decide)) ?_
   conv=>whnf
   refine Yk ?_
   refine zd1 [10] (zx rfl ?_ zy)
   conv=>whnf
   refine Sy.need_app 1 rfl ⟨by omega,by omega⟩ ?_
   conv=>whnf
   refine Yk ?_
   refine zt 11 rfl ?_
   conv=>whnf
   refine zw (Vo ?_)
   refine Sy.ar_wrap (Vo ?_)
   refine Sy.need_app 1 rfl ⟨by omega,by omega⟩ (Vo ?_)
   refine Sy.loop_inv Sy.tab_ok (fun m:Nat=>[(50,.c (.v (.int .i64 m))),(3,.c (.row 12))]) (fun m=>[(12,.row 5 1 (G++opN o.op m).length (.vs ((G++opN o.op m).map encB)))]) (fun m=>m<=o.op.ins.length) (fun m=>o.op.ins.length-m) 0 (Nat.zero_le _) ?_ (fun m hm=>?_)
   ·refine Vs (Vk ?_ ?_)
    ·simp[opN]
     try omega
    ·simp[opN,encB,b8]
   ·have hol2:=opN_len o.op m
    refine Vo (Vj (fun hh=>?_) fun hh=>?_)
    ·have hlm:m<o.op.ins.length:=by omega
     have hgm:=List.getElem?_eq_getElem hlm
     generalize o.op.ins[m]=x at *
     refine Sy.el_map x hgm (Vo ?_)
     refine Sy.ar_wrap (Vo ?_)
     refine Sy.need_app 1 rfl ⟨by simp only[List.length_append];omega,by simp only[List.length_append];omega⟩ ?_
     refine Vo ?_
     refine⟨m+1,by omega,by omega,?_⟩
     rw[opN_succ hgm,<-List.append_assoc]
     refine Vs (Vk ?_ ?_)
     all_goals(try simp[encB,b8])
     all_goals(try omega)
    ·have e:m=o.op.ins.length:=by omega
     subst e
     rw[opN_all,<-hs]
     refine⟨n+1,by omega,by omega,?_⟩
     exact Vs0
  ·have e:n=gl.length:=by omega
   subst e
   rw[show gN (opsOf gl) gl.length=gBs (opsOf gl) by rw[gBs,hol]]
   exact Sy.fin_r1 (.row 2) rfl
end Go.Proofs.YtgkkpefpbfadoaaGreat
