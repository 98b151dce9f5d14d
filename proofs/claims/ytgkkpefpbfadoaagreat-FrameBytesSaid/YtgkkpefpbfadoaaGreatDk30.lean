/- Graph: what bytes are a graph: plain laws of Decode. -/
import Derived.Test.YtgkkpefpbfadoaaGreatDk27
import Derived.Test.YtgkkpefpbfadoaaGreatDk11
import Derived.Test.YtgkkpefpbfadoaaGreatDk9
import Derived.Test.YtgkkpefpbfadoaaGreatDk17
import Derived.Test.YtgkkpefpbfadoaaGreatDk16
import Derived.Test.YtgkkpefpbfadoaaGreatDk28
import Derived.Test.YtgkkpefpbfadoaaGreatDk26
namespace Go.Proofs.YtgkkpefpbfadoaaGreat
open Go Go.RowKit
def numB (l:List Int):Int:=l.foldl (fun n c=>IntKind.i64.wrap (n*256+c)) 0
def opAt (l:List Int):Opr:=⟨(l[0]?).getD 0,(l[1]?).getD 0,(l.drop 19).take ((l[18]?).getD 0).toNat,numB ((l.drop 2).take 8),numB ((l.drop 10).take 8)⟩
def inLen (l:List Int):Nat:=((l[18]?).getD 0).toNat
def parse:Nat->List Int->Option (List Opr×List Int)
 |0,l=>some ([],l)
 |n+1,l=>if l.length<19 then none else if l.length<19+inLen l then none else match parse n (l.drop (19+inLen l)) with
  |none=>none
  |some (os,r)=>some (opAt l::os,r)
def decV (bs:List Int):List Opr×Int:=match bs with
 |[]=>([],7)
 |c::r=>if 8<c then([],160) else match parse c.toNat r with
  |none=>([],7)
  |some (os,_)=>if(checkV os).2=0/\gBs os=bs then(os,0) else([],160)
theorem decV_cons (c:Int)(r:List Int):decV (c::r)=if 8<c then(([],160):List Opr×Int) else match parse c.toNat r with
 |none=>([],7)
 |some (os,_)=>if(checkV os).2=0/\gBs os=c::r then(os,0) else([],160):=rfl
theorem wrap_step (n c:Int):IntKind.i64.wrap (IntKind.i64.wrap n*256+c)=IntKind.i64.wrap (n*256+c):=by
 simp only[IntKind.wrap_i64];omega
theorem numB_snoc (l:List Int)(c:Int):numB (l++[c])=IntKind.i64.wrap (numB l*256+c):=by unfold numB;rw[List.foldl_append];rfl
theorem numB_beN (x:Int)(hx:0<=x):∀(m k:Nat),m+k=8->x<2^64->numB ((beN x 8).take m)=IntKind.i64.wrap (x.fdiv (2^(8*k)))
 |0,k,h,hl=>by
  have:k=8:=by omega
  subst this
  show(0:Int)=_
  rw[Int.fdiv_eq_ediv_of_nonneg _ (by decide),IntKind.wrap_i64]
  have:x/(2^(8*8))=0:=Int.ediv_eq_zero_of_lt hx hl
  rw[this];decide
 |m+1,k,h,hl=>by
  have ih:=numB_beN x hx m (k+1) (by omega) hl
  have hlen:=beN_len x 8
  have hget:=beN_get x 8 m (by omega)
  have hlt:m<(beN x 8).length:=by omega
  have hg:(beN x 8)[m]=b8 (x.fdiv (2^(8*(8-1-m)))):=by
   rw[List.getElem?_eq_getElem hlt] at hget
   exact Option.some.inj hget
  rw[List.take_succ_eq_append_getElem hlt,numB_snoc,ih,hg,wrap_step,b8_eq,show 8-1-m=k by omega]
  congr 1
  have hp:(0:Int)<=2^(8*k):=Int.le_of_lt (Int.pow_pos (by decide))
  have hp':(0:Int)<=2^(8*(k+1)):=Int.le_of_lt (Int.pow_pos (by decide))
  rw[Int.fdiv_eq_ediv_of_nonneg _ hp,Int.fdiv_eq_ediv_of_nonneg _ hp',show 8*(k+1)=8*k+8 by omega,Int.pow_add,<-Int.ediv_ediv_of_nonneg hp]
  show x/2^(8*k)/256*256+x/2^(8*k)%256=_
  omega
theorem num_u64 {x:Int}(hx:-9223372036854775808<=x/\x<=9223372036854775807):numB (beN (u64w x) 8)=x:=by
 have h0:=u64w_nonneg x
 have hu:u64w x<2^64:=by unfold u64w;rw[IntKind.wrap_u64];omega
 have:=numB_beN (u64w x) h0 8 0 rfl hu
 rw[List.take_of_length_le (by rw[beN_len];omega)] at this
 rw[this,show(2:Int)^(8*0)=1 from rfl,Int.fdiv_eq_ediv_of_nonneg _ (by decide),Int.ediv_one]
 unfold u64w
 rw[IntKind.wrap_u64,IntKind.wrap_i64]
 omega
def small (o:Opr):Prop:=0<=o.tag/\o.tag<256/\0<=o.width/\o.width<256/\o.ins.length<256/\(∀k∈o.ins,0<=k/\k<256)/\(-9223372036854775808<=o.a/\o.a<=9223372036854775807)/\(-9223372036854775808<=o.b/\o.b<=9223372036854775807)
theorem b8_id {x:Int}(h:0<=x/\x<256):b8 x=x:=by rw[b8_eq];omega
theorem map_b8 {l:List Int}(h:∀k∈l,0<=k/\k<256):l.map b8=l:=by
 conv=>rhs;rw[<-List.map_id l]
 exact List.map_congr_left fun k hk=>b8_id (h k hk)
theorem opBs_split (o:Opr)(r:List Int)(h:small o):∃p q:List Int,p.length=8/\q.length=8/\p=beN (u64w o.a) 8/\q=beN (u64w o.b) 8/\opBs o++r=o.tag::o.width::(p++(q++((o.ins.length:Int)::(o.ins++r)))):=by
 obtain⟨h1,h2,h3,h4,h5,h6,h7,h8⟩:=h
 refine⟨_,_,beN_len _ 8,beN_len _ 8,rfl,rfl,?_⟩
 unfold opBs
 rw[b8_id ⟨h1,h2⟩,b8_id ⟨h3,h4⟩,b8_id (x:=(o.ins.length:Int)) (by omega),map_b8 h6]
 simp
theorem at18 {a b:Int}{p q r:List Int}{c:Int}(hp:p.length=8)(hq:q.length=8):(a::b::(p++(q++(c::r))))[18]?=some c:=by
 rw[List.getElem?_cons_succ,List.getElem?_cons_succ,List.getElem?_append_right (by omega),List.getElem?_append_right (by omega),hp,hq]
 rfl
theorem drop19 {a b:Int}{p q r:List Int}{c:Int}(hp:p.length=8)(hq:q.length=8)(k:Nat):(a::b::(p++(q++(c::r)))).drop (19+k)=r.drop k:=by
 rw[show 19+k=(8+(8+(1+k)))+1+1 by omega,List.drop_succ_cons,List.drop_succ_cons,List.drop_append,List.drop_of_length_le (by omega),hp,show 8+(8+(1+k))-8=8+(1+k) by omega,List.nil_append,List.drop_append,List.drop_of_length_le (by omega),hq,show 8+(1+k)-8=k+1 by omega,List.nil_append,List.drop_succ_cons]
theorem opAt_of {o:Opr}(r:List Int)(h:small o):opAt (opBs o++r)=o/\inLen (opBs o++r)=o.ins.length:=by
 obtain⟨p,q,hp,hq,ep,eq,e⟩:=opBs_split o r h
 rw[e]
 have h18:=at18 (a:=o.tag) (b:=o.width) (p:=p) (q:=q) (r:=o.ins++r) (c:=(o.ins.length:Int)) hp hq
 have hin:inLen (o.tag::o.width::(p++(q++((o.ins.length:Int)::(o.ins++r)))))=o.ins.length:=by unfold inLen;rw[h18];simp
 refine⟨?_,hin⟩
 have h19:=drop19 (a:=o.tag) (b:=o.width) (p:=p) (q:=q) (r:=o.ins++r) (c:=(o.ins.length:Int)) hp hq 0
 unfold opAt
 rw[h18,h19]
 have d2:((o.tag::o.width::(p++(q++((o.ins.length:Int)::(o.ins++r))))).drop 2).take 8=p:=by
  rw[List.drop_succ_cons,List.drop_succ_cons,List.drop_zero,List.take_append,List.take_of_length_le (by omega),hp]
  simp
 have d10:((o.tag::o.width::(p++(q++((o.ins.length:Int)::(o.ins++r))))).drop 10).take 8=q:=by
  rw[List.drop_succ_cons,List.drop_succ_cons,List.drop_append,List.drop_of_length_le (by omega),hp,List.nil_append,List.drop_zero,List.take_append,List.take_of_length_le (by omega),hq]
  simp
 rw[d2,d10,ep,eq,num_u64 h.2.2.2.2.2.2.1,num_u64 h.2.2.2.2.2.2.2]
 simp
theorem small_len {o:Opr}{r:List Int}:(opBs o++r).length=19+o.ins.length+r.length:=by rw[List.length_append,opBs_len]
def bodyB (g:List Opr):List Int:=(g.map opBs).flatten
theorem bodyB_cons (o:Opr)(g:List Opr):bodyB (o::g)=opBs o++bodyB g:=by simp[bodyB]
theorem parse_all:∀(g:List Opr)(r:List Int),(∀o∈g,small o)->parse g.length (bodyB g++r)=some (g,r)
 |[],r,_=>rfl
 |o::g,r,h=>by
  have ho:=h o (by simp)
  obtain⟨h1,h2⟩:=opAt_of (bodyB g++r) ho
  rw[bodyB_cons,List.append_assoc,List.length_cons,parse,if_neg (by rw[small_len];omega),if_neg (by rw[small_len,h2];omega),h2,List.drop_append,List.drop_of_length_le (by rw[opBs_len];omega),opBs_len,
   Nat.sub_self,List.nil_append,List.drop_zero,parse_all g r fun o ho=>h o (by simp[ho])]
  dsimp only
  rw[h1]
theorem gBs_cons (g:List Opr)(h:g.length<256):gBs g=(g.length:Int)::bodyB g:=by
 unfold gBs gN bodyB
 rw[b8_id (by omega),List.take_length]
theorem good_small {g:List Opr}(h:(checkV g).2=0)(hr:∀o∈g,(-9223372036854775808<=o.a/\o.a<=9223372036854775807)/\(-9223372036854775808<=o.b/\o.b<=9223372036854775807)):∀o∈g,small o:=fun o ho=>by
 obtain⟨i,hi,rfl⟩:=List.mem_iff_getElem.1 ho
 have h8:=(check_ok h).2.1
 have ha:=check_good h i _ hi (List.getElem?_eq_getElem hi)
 have hl:=rises_len ha.2.2.1
 have hk:=alone_ins ha
 obtain⟨h1,h2,_,h3⟩:=ha
 refine⟨?_,?_,by omega,by omega,by omega,fun k hk'=>?_,(hr _ ho).1,(hr _ ho).2⟩
 ·rcases h3 with h|h|h|h|h|⟨h|h,_⟩<;>omega
 ·rcases h3 with h|h|h|h|h|⟨h|h,_⟩<;>omega
 ·have:=hk k hk';omega
theorem dec_enc {g:List Opr}(h:(checkV g).2=0)(hs:∀o∈g,small o):decV (gBs g)=(g,0):=by
 have h8:=(check_ok h).2.1
 have hp:=parse_all g [] hs
 rw[List.append_nil] at hp
 have hc:=gBs_cons g (by omega)
 rw[hc,decV,if_neg (by omega),Int.toNat_natCast,hp]
 dsimp only
 rw[if_pos ⟨h,hc⟩]
theorem b8_mem (x:Int):0<=b8 x/\b8 x<256:=by rw[b8_eq];omega
theorem beN_mem (x:Int):∀n,∀b∈beN x n,0<=b/\b<256
 |0,b,hb=>by cases hb
 |n+1,b,hb=>by
  rw[beN] at hb
  rcases List.mem_cons.1 hb with rfl|hb
  ·exact b8_mem _
  ·exact beN_mem x n b hb
theorem opBs_mem (o:Opr):∀b∈opBs o,0<=b/\b<256:=fun b hb=>by
 unfold opBs at hb
 simp only[List.mem_append,List.mem_cons,List.mem_nil_iff,or_false,List.mem_map] at hb
 rcases hb with(rfl|rfl)|hb|hb|rfl|⟨k,_,rfl⟩
 ·exact b8_mem _
 ·exact b8_mem _
 ·exact beN_mem _ _ b hb
 ·exact beN_mem _ _ b hb
 ·exact b8_mem _
 ·exact b8_mem _
theorem gBs_mem (g:List Opr):∀b∈gBs g,0<=b/\b<256:=fun b hb=>by
 unfold gBs gN at hb
 rcases List.mem_cons.1 hb with rfl|hb
 ·exact b8_mem _
 ·obtain⟨l,hl,hb⟩:=List.mem_flatten.1 hb
  obtain⟨o,_,rfl⟩:=List.mem_map.1 hl
  exact opBs_mem o b hb
theorem bytesOf_inj:∀{xs ys:List Int},(∀b∈xs,0<=b/\b<256)->(∀b∈ys,0<=b/\b<256)->Lib.bytesOf xs=Lib.bytesOf ys->xs=ys
 |[],[],_,_,_=>rfl
 |[],_::_,_,_,h=>by cases h
 |_::_,[],_,_,h=>by cases h
 |x::xs,y::ys,hx,hy,h=>by
  unfold Lib.bytesOf at h
  rw[List.map_cons,List.map_cons] at h
  injection h with h1 h2
  have h3:=congrArg UInt8.toNat h1
  rw[UInt8.toNat_ofNat',UInt8.toNat_ofNat'] at h3
  have b1:=hx x (by simp)
  have b2:=hy y (by simp)
  have e:x=y:=by omega
  rw[e,bytesOf_inj (fun b hb=>hx b (by simp[hb])) (fun b hb=>hy b (by simp[hb])) h2]
theorem bytesEq_dec {xs ys:List Int}(hx:∀b∈xs,0<=b/\b<256)(hy:∀b∈ys,0<=b/\b<256):(Lib.bytesOf xs==Lib.bytesOf ys)=decide (xs=ys):=by
 by_cases h:xs=ys
 ·rw[decide_eq_true h,h];simp
 ·rw[decide_eq_false h]
  exact beq_eq_false_iff_ne.2 fun e=>h (bytesOf_inj hx hy e)
end Go.Proofs.YtgkkpefpbfadoaaGreat
namespace Go.Proofs.YtgkkpefpbfadoaaGreat
open Go Go.RowKit
open Sy (C SV V1 Blk St XD Els RD)
structure One where
 v:Value
 h:v.oneCell'=true
structure Two where
 a:Value
 b:Value
 ha:a.oneCell'=true
 hb:b.oneCell'=true
theorem mem_r1 {P:Program}{f:FuncId}{args:Array Value}{w:World}{r:RD}{v:Unit->List Value->Value}(n:Nat)(hn:n<=w.heap.size)(h:Calls P f args w (Sy.RetRows Sy.noRow (fun _:Unit=>True) (fun _=>[r]) v w)):
 Calls P f args w (Sy.RetMem (fun(x:One) G w'=>XD.ok (fun b=>G b/\n<=b) w' ⟨x.v,r.esz,r.n,r.xs⟩) (fun x=>v () [x.v]) w):=
 h.mono fun E w'⟨_,vs,_,hE,hg,ho,hf⟩=>by
  match vs,ho,hf,hE with
  |[u],ho,hf,hE=>
   refine⟨⟨u,Sy.OwnE.one ho.1⟩,hE,hg.below,XD.ok.mono (Sy.OwnE.reads ho.1) fun b hb=>?_⟩
   have:=(hf u List.mem_cons_self b hb.2).resolve_left (Sy.noRow_foot b)
   exact⟨⟨this,hb.1⟩,Nat.le_trans hn this⟩
theorem mem_r2 {P:Program}{f:FuncId}{args:Array Value}{w:World}{r r':RD}{v:Unit->List Value->Value}(n:Nat)(hn:n<=w.heap.size)(h:Calls P f args w (Sy.RetRows Sy.noRow (fun _:Unit=>True) (fun _=>[r,r']) v w)):
 Calls P f args w (Sy.RetMem (fun(x:Two) G w'=>XD.ok (fun b=>G b/\n<=b) w' ⟨x.a,r.esz,r.n,r.xs⟩/\XD.ok (fun b=>G b/\n<=b) w' ⟨x.b,r'.esz,r'.n,r'.xs⟩) (fun x=>v () [x.a,x.b]) w):=
 h.mono fun E w'⟨_,vs,_,hE,hg,ho,hf⟩=>by
  match vs,ho,hf,hE with
  |[u,t],ho,hf,hE=>
   refine⟨⟨u,t,Sy.OwnE.one ho.1,Sy.OwnE.one ho.2.2.1⟩,hE,hg.below,XD.ok.mono (Sy.OwnE.reads ho.1) fun b hb=>?_,XD.ok.mono (Sy.OwnE.reads ho.2.2.1) fun b hb=>?_⟩
   ·have:=(hf u List.mem_cons_self b hb.2).resolve_left (Sy.noRow_foot b)
    exact⟨⟨this,hb.1⟩,Nat.le_trans hn this⟩
   ·have:=(hf t (List.mem_cons_of_mem _ List.mem_cons_self) b hb.2).resolve_left (Sy.noRow_foot b)
    exact⟨⟨this,hb.1⟩,Nat.le_trans hn this⟩
theorem fin_mem {lv:List (Nat×List Nat)}{P:Program}{T:Sy.Tab}{w0:World}{nt:Nat}{α:Type}{p:α->(Nat->Prop)->World->Prop}{v:α->Value}{S:St}{sv:SV}(x:α)(hv:∀e,sv.den e=v x)
 (hp:∀w,w0.heap.size<=w.heap.size->S.E w->(∀b,S.F b->b<w.heap.size)->p x (fun b=>w0.heap.size<=b/\b<w.heap.size) w):Sy.finP {P:=P,T:=T,w0:=w0,nt:=nt,lv:=lv} S sv (Sy.RetMem p v w0):=
 Sy.fin_of fun e a w h=>⟨x,by rw[hv],h.bel.below,hp w h.bel.size (h.ev w fun _ _=>rfl) fun b hb=>h.fl b hb⟩
theorem XD.ok.keep {F F':Nat->Prop}{w w':World}{d:XD}(h:XD.ok F w d)(hF:∀b,F b->F' b)(hk:∀b,F b->w'.heap[b]?=w.heap[b]?):XD.ok F' w' d:=⟨h.1.keep hF hk,h.2⟩
theorem fin_freezeg {X:Sy.Cx}{S:St}{R:Ending->World->Prop}{v:SV}(v':Value->SV)(k ety esz n:Nat)(xs:List (List Value))(hH:Sy.get S.H k=some (.row ety esz n (.vs xs)))(hden:∀e:Sy.Env,v.den e=(v' (e.rv k)).den e)
 (hc:∀(u:Value)(G:Nat->Prop),(∀b,G b->¬S.F b)->u.oneCell'=true->Sy.finP X (S.froz k (fun b=>S.F b\/G b) (fun w=>S.E w/\(XD.ok G w ⟨u,esz,n,xs⟩/\∀b,G b->S.F b\/G b))) (v' u) R):Sy.finP X S v R:=Sy.fin_of fun e a w h=>by
 have hh:=h.hp k _ hH
 have hown:Sy.OwnE w ety esz (e.rv k) n xs:=hh.1
 have hc:=hc (e.rv k) (Sy.rfoot (e.rv k)) (fun b hb=>h.ff k _ b hH hb) (h.one k)
 have hkill:=h.kill k (h.hlt k _ hH).1
 have hR:=hkill.learn (G:=Sy.rfoot (e.rv k)) (p:=fun G w=>XD.ok (Sy.rfoot (e.rv k)) w ⟨e.rv k,esz,n,xs⟩/\∀b,Sy.rfoot (e.rv k) b->G b) (fun b hb=>⟨hown.lt hb,fun k' c hk' hf=>?_,fun hm=>(h.mks b hm).2.2 k _ hH hb⟩)
  ⟨XD.ok.mono hown.reads (fun b hb=>hb.2),fun b hb=>hb⟩ (fun G G' w1 w2 hp hG hk'=>⟨⟨hp.1.1.keep (fun _ hb=>hb) (fun b hb=>hk' b (hp.2 b hb)),hp.1.2⟩,fun b hb=>hG b (hp.2 b hb)⟩)
 ·have hput:Sy.Rep X e (S.froz k (fun b=>S.F b\/Sy.rfoot (e.rv k) b) (fun w=>S.E w/\(XD.ok (Sy.rfoot (e.rv k)) w ⟨e.rv k,esz,n,xs⟩/\∀b,Sy.rfoot (e.rv k) b->S.F b\/Sy.rfoot (e.rv k) b))) a w:=by
   cases S;exact hR
  rw[hden e]
  exact hc.out e a w hput
 ·rcases Sy.get_cons hk' with⟨e1,e2⟩|⟨hne,hk2⟩
  ·subst e2;exact hf.elim
  ·exact h.sep k k' _ c b hH hk2 hne hb hf
theorem snoc_ind {α:Type}{P:List α->Prop}(h0:P [])(h:∀l x,P l->P (l++[x]))(l:List α):P l:=by
 rw[<-List.reverse_reverse l]
 generalize l.reverse=r
 induction r with
 |nil=>exact h0
 |cons x r ih=>
  rw[List.reverse_cons]
  exact h _ x ih
end Go.Proofs.YtgkkpefpbfadoaaGreat
namespace Go.Proofs.YtgkkpefpbfadoaaGreat.Sn
open Go Go.RowKit
open Sy (C SV V1 Blk St XD Els)
set_option maxRecDepth 10000
def num (l:List Int):Int:=l.foldl (fun a b=>a*256+b) 0
def bytesOk (l:List Int):Prop:=∀b∈l,0<=b/\b<256
theorem num_fold (l:List Int):∀a,l.foldl (fun a b=>a*256+b) a=a*256^l.length+num l:=by
 induction l with
 |nil=>intro a;simp[num]
 |cons b l ih=>
  intro a
  unfold num
  rw[List.foldl_cons,List.foldl_cons,ih,ih (0*256+b),List.length_cons,Int.pow_succ,Int.add_mul]
  simp only[Int.zero_mul,Int.zero_add]
  rw[Int.mul_assoc a,Int.mul_comm 256,Int.add_assoc]
theorem num_cons (b:Int)(l:List Int):num (b::l)=b*256^l.length+num l:=by
 show List.foldl (fun a b=>a*256+b) 0 (b::l)=_
 rw[List.foldl_cons,Int.zero_mul,Int.zero_add]
 exact num_fold l b
theorem num_snoc (l:List Int)(b:Int):num (l++[b])=num l*256+b:=by unfold num;rw[List.foldl_append];rfl
theorem num_bound:∀{l:List Int},bytesOk l->0<=num l/\num l<256^l.length
 |[],_=>⟨Int.le_refl _,by decide⟩
 |b::l,h=>by
  have ih:=num_bound (l:=l) fun x hx=>h x (List.mem_cons_of_mem _ hx)
  have hb:=h b List.mem_cons_self
  rw[num_cons,List.length_cons,Int.pow_succ]
  have hp:(0:Int)<256^l.length:=Int.pow_pos (by decide)
  generalize(256:Int)^l.length=p at *
  have h1:0<=b*p:=Int.mul_nonneg hb.1 (by omega)
  have h2:b*p<=255*p:=Int.mul_le_mul_of_nonneg_right (by omega) (by omega)
  omega
theorem or_high (x b:Int)(i:Nat)(hi:i<8)(hx:0<=x/\x<256^i)(hb:0<=b/\b<256):
 IntKind.u64.wrap ((BitVec.ofInt IntKind.u64.bits x|||BitVec.ofInt IntKind.u64.bits (IntKind.u64.wrap (b*2^min (8*i) IntKind.u64.bits))).toNat:Int)=b*256^i+x:=by
 have hmin:min (8*i) IntKind.u64.bits=8*i:=by show min (8*i) 64=_;omega
 have hpow:(256:Int)^i=2^(8*i):=by rw[Int.pow_mul];rfl
 rw[hmin,<-hpow]
 obtain⟨xn,rfl⟩:∃n:Nat,x=(n:Int):=⟨x.toNat,by omega⟩
 obtain⟨bn,rfl⟩:∃n:Nat,b=(n:Int):=⟨b.toNat,by omega⟩
 have hpn:(256:Int)^i=((2^(8*i):Nat):Int):=by rw[hpow];simp
 rw[hpn] at hx⊢
 have h8:2^(8*i)*256<=2^64:=by
  rw[show(256:Nat)=2^8 by decide,<-Nat.pow_add]
  exact Nat.pow_le_pow_right (by decide) (by omega)
 generalize hP:2^(8*i)=P at *
 have hxP:xn<P:=by omega
 have hbP:bn*P<=255*P:=Nat.mul_le_mul_right _ (by omega)
 have hw:IntKind.u64.wrap ((bn:Int)*(P:Int))=((P*bn:Nat):Int):=by
  rw[IntKind.wrap_u64,show(bn:Int)*(P:Int)=((P*bn:Nat):Int) by rw[Nat.mul_comm];simp]
  rw[Nat.mul_comm] at hbP
  omega
 rw[hw]
 have e1:(BitVec.ofInt IntKind.u64.bits (xn:Int)).toNat=xn:=by
  show(BitVec.ofInt 64 (xn:Int)).toNat=xn
  rw[BitVec.toNat_ofInt]
  omega
 have e2:(BitVec.ofInt IntKind.u64.bits ((P*bn:Nat):Int)).toNat=P*bn:=by
  show(BitVec.ofInt 64 ((P*bn:Nat):Int)).toNat=P*bn
  rw[BitVec.toNat_ofInt]
  rw[Nat.mul_comm] at hbP
  omega
 rw[BitVec.toNat_or,e1,e2,Nat.or_comm,<-hP,<-Nat.two_pow_add_eq_or_of_lt (by omega),hP,IntKind.wrap_u64]
 rw[Nat.mul_comm] at hbP
 rw[show(bn:Int)*(P:Int)+(xn:Int)=((P*bn+xn:Nat):Int) by rw[Nat.mul_comm];simp]
 omega
def bitsH (x:Int)(l:List Int):List (Nat×Blk):=[(0,.cells 22 [.v (.int .u64 x)]),(1,.ext 1 l.length (.vs (l.map encB)))]
def bitsC (l:List Int):Sy.Ctr Unit:={avs:=[.c (.row 1),.c (.loc 0 0)],n0:=2,H0:=bitsH 0 l,sv:=fun _=>.tup [],n1:=fun _=>2,H1:=fun _=>[(0,.cells 22 [.v (.int .u64 (num l))])]}
set_option maxHeartbeats 2000000 in
theorem bits_does (l:List Int)(hl:l.length<=8)(h8:bytesOk l):Sy.Does Tryz.prog 165 (bitsC l):=by
 refine Sy.does_of Sy.lv165 Sy.tab_ok Tryz.func165 rfl _ Tryz.ntmps165 _ rfl rfl (fun e0 w hpre=>?_)
 refine V ?_
 refine Sy.loop_inv Sy.tab_ok (fun i:Nat=>[(6,.c (.v (.int .i64 i)))]) (fun i=>[(0,.cells 22 [.v (.int .u64 (num (l.drop (l.length-i))))])]) (fun i=>i<=l.length) (fun i=>l.length-i) 0 (Nat.zero_le _) ?_ (fun i hi=>?_)
 ·rw[show num (l.drop (l.length-0))=0 by rw[Nat.sub_zero,List.drop_length];rfl]
  exact Vs0
 ·by_cases hlt:i<l.length
  ·have hg:=List.getElem?_eq_getElem (show l.length-1-i<l.length by omega)
   have hb:=h8 _ (List.getElem_mem (show l.length-1-i<l.length by omega))
   have hd:l.drop (l.length-(i+1))=l[l.length-1-i]::l.drop (l.length-i):=by
    rw[show l.length-(i+1)=l.length-1-i by omega,List.drop_eq_getElem_cons (by omega),show l.length-1-i+1=l.length-i by omega]
   generalize l[l.length-1-i]=b at *
   have hx:=num_bound (l:=l.drop (l.length-i)) fun y hy=>h8 y (List.mem_of_mem_drop hy)
   rw[List.length_drop,show l.length-(l.length-i)=i by omega] at hx
   have hor:=or_high _ b i (by omega) hx hb
   have hnum:num (l.drop (l.length-(i+1)))=b*256^i+num (l.drop (l.length-i)):=by
    rw[hd,num_cons,List.length_drop,show l.length-(l.length-i)=i by omega]
   generalize num (l.drop (l.length-i))=x at *
   have hix:((l.length:Int)-1-(i:Int)).toNat=l.length-1-i:=by omega
   refine V (Y1 fun hh=>?_)
   refine Sy.draw_go [0] (by kernel_rfl) ?_
   intro e0
   conv=>whnf
   refine zt 1 rfl ?_
   conv=>whnf
   refine zt 2 rfl ?_
   conv=>whnf
   refine zt 3 rfl (V ?_)
   refine zt 4 rfl (V ?_)
   refine zt 5 rfl ?_
   conv=>whnf
   refine zt 6 rfl (V ?_)
   refine zt 7 rfl (V ?_)
   refine zt 8 rfl ?_
   conv=>whnf
   refine Sy.el_map b (by rw[hix];exact hg) ?_
   conv=>whnf
   refine zt 9 rfl (V ?_)
   refine Sy.ar_u64 (by omega) ?_
   conv=>whnf
   refine zt 10 rfl ?_
   conv=>whnf
   refine zt 11 rfl (V ?_)
   refine zt 12 rfl (V ?_)
   refine Sy.sh_nat (y:=8*i) ?_
   conv=>whnf
   refine Sy.ar_wrap ?_
   conv=>whnf
   refine zd1 [0] (zx rfl ?_ zy)
   conv=>whnf
   refine Yk ?_
   refine zt 13 rfl (V ?_)
   refine zd1 [14] (zx rfl ?_ zy)
   conv=>whnf
   refine Yk ?_
   refine zw ?_
   skip
   refine V ?_
   refine⟨i+1,by omega,by omega,?_⟩
   rw[hor,<-hnum]
   exact Vs0
  ·have e:i=l.length:=by omega
   subst e
   rw[Nat.sub_self,List.drop_zero]
   refine V (Y1 fun hh=>?_)
   refine Sy.fin_own () trivial ?_
   exact Vs0
def viewC (n:Nat)(xs:List (List Value))(r:Int):Sy.Ctr Unit:={avs:=[.c (.row 1),.c (.loc 0 0)],n0:=2,H0:=[(0,.cells 22 [.v (.int .u64 0)]),(1,.ext 1 n (.vs xs))],sv:=fun _=>.tup [],n1:=fun _=>2,H1:=fun _=>[(0,.cells 22 [.v (.int .u64 r)])]}
theorem view_does (l:List Int)(k:Nat)(hk:k<=8/\k<=l.length)(h8:bytesOk l):Sy.Does Tryz.prog 165 (viewC (k-0) (List.take (k-0) (List.drop 0 (l.map encB))) (num (l.take k))):=by
 have h:=bits_does (l.take k) (by rw[List.length_take];omega) fun x hx=>h8 x (List.mem_of_mem_take hx)
 have e:(l.take k).length=k-0:=by rw[List.length_take];omega
 have e2:(l.take k).map encB=List.take (k-0) (List.drop 0 (l.map encB)):=by rw[List.map_take,Nat.sub_zero,List.drop_zero]
 unfold bitsC bitsH at h
 rw[e,e2] at h
 exact h
theorem rest_of {l l':List Int}{k:Nat}(h:l'=l.drop k):List.take (l.length-k) (List.drop k (l.map encB))=l'.map encB/\l.length-k=l'.length:=by
 subst h
 rw[<-List.map_drop,List.take_of_length_le (by rw[List.length_map,List.length_drop];exact Nat.le_refl _),List.length_drop]
 exact⟨rfl,rfl⟩
theorem take_bound {l:List Int}(h:bytesOk l)(k:Nat):0<=num (l.take k)/\num (l.take k)<256^k:=by
 have:=num_bound (l:=l.take k) fun x hx=>h x (List.mem_of_mem_take hx)
 refine⟨this.1,Int.lt_of_lt_of_le this.2 ?_⟩
 have hl:(l.take k).length<=k:=List.length_take_le _ _
 have:((256^(l.take k).length:Nat):Int)<=((256^k:Nat):Int):=Int.ofNat_le.2 (Nat.pow_le_pow_right (by decide) hl)
 simpa using this
theorem u8_num {l:List Int}(h:bytesOk l):IntKind.u8.wrap (num (l.take 1))=num (l.take 1)/\0<=num (l.take 1)/\num (l.take 1)<256:=by
 have h1:=take_bound h 1
 have h2:num (l.take 1)<256:=h1.2
 refine⟨?_,h1.1,h2⟩
 rw[IntKind.wrap_u8];omega
theorem u32_num {l:List Int}(h:bytesOk l):IntKind.u32.wrap (num (l.take 4))=num (l.take 4)/\0<=num (l.take 4)/\num (l.take 4)<4294967296:=by
 have h1:=take_bound h 4
 have h2:num (l.take 4)<4294967296:=h1.2
 refine⟨?_,h1.1,h2⟩
 rw[IntKind.wrap_u32];omega
end Go.Proofs.YtgkkpefpbfadoaaGreat.Sn
namespace Go.Proofs.YtgkkpefpbfadoaaGreat.Sn
open Go Go.RowKit
open Sy (C SV V1 Blk St XD Els)
set_option maxRecDepth 10000
attribute [local irreducible] beN
set_option maxHeartbeats 2000000 in
theorem rtbytes_any (v:Value)(l:List Kc)(w:World)(hr:XD.ok (fun b=>b<w.heap.size) w ⟨v,4,l.length,l.map encK⟩)(hl:tblB l=true):
 Calls Tryz.prog 92 #[.agg #[v]] w (Sy.RetRows Sy.noRow (fun _:Unit=>True) (fun _=>[⟨5,1,(tBs l).length,(tBs l).map encB⟩]) (fun _ vs=>vs.headD undef) w):=by
 have hln:=rows_len (tbl_rows hl)
 have h20:=beN_len (l.length:Int) 2
 refine Sy.calls_of Sy.lv92 Sy.tab_ok Tryz.func92 rfl _ Tryz.ntmps92 [⟨v,4,l.length,l.map encK⟩] [.agg [.row 0]] rfl rfl rfl ⟨hr,trivial⟩ (V ?_)
 refine Sy.ar_wrap ?_
 rw[show IntKind.u64.wrap (l.length:Int)=(l.length:Int) by rw[IntKind.wrap_u64];omega]
 refine V ?_
 refine Sy.call_r1 ⟨5,1,(beN l.length 2).length,(beN l.length 2).map encB⟩ (fun j=>.c (.row j)) Tryz.call40 (fun e a w' h=>high_any 2 l.length w' (by omega) (by decide)) (V ?_)
 refine Sy.loop_inv Sy.tab_ok (fun n:Nat=>[(14,.c (.v (.int .i64 n))),(3,.c (.row 2))]) (fun n=>[(2,.row 5 1 (tN l n).length (.vs ((tN l n).map encB)))]) (fun n=>n<=l.length) (fun n=>l.length-n) 0 (Nat.zero_le _) ?_ (fun n hn=>?_)
 ·rw[show tN l 0=beN l.length 2 by unfold tN;simp]
  exact Vs0
 ·have hgl:=tN_len l n hn
  by_cases hlt:n<l.length
  ·have hg:=List.getElem?_eq_getElem hlt
   generalize l[n]=x at *
   have hs:=tN_succ hg
   have hb1:=beN_len (u64w x.cnt) 8
   have hb2:=beN_len (u64w x.sum) 8
   generalize tN l n=G at *
   refine V (Y1 fun hh=>?_)
   refine Sy.el_map x hg (V ?_)
   refine Sy.ar_wrap (V ?_)
   refine Sy.ar_wrap (V ?_)
   refine Sy.need_app 1 rfl ⟨by omega,by omega⟩ ?_
   have eB:List.map encB G++[[.int .u8 (IntKind.u8.wrap x.src)],[.int .u8 (IntKind.u8.wrap x.key)]]=List.map encB (G++[b8 x.src,b8 x.key]):=by simp[encB,b8]
   have lB:G.length+2=(G++[b8 x.src,b8 x.key]).length:=by simp
   refine V ?_
   rw[eB,lB]
   have sB:G++kBs x=(G++[b8 x.src,b8 x.key])++beN (u64w x.cnt) 8++beN (u64w x.sum) 8:=by unfold kBs;simp
   rw[sB] at hs
   have lb:(G++[b8 x.src,b8 x.key]).length<=9000:=by rw[<-lB];omega
   generalize G++[b8 x.src,b8 x.key]=B at *
   refine Sy.draw_go [5] (by kernel_rfl) ?_
   intro e0
   conv=>whnf
   refine zt 0 rfl ?_
   conv=>whnf
   refine zt 1 rfl ?_
   conv=>whnf
   refine zt 2 rfl ?_
   conv=>whnf
   refine zt 3 rfl ?_
   conv=>whnf
   refine zt 4 rfl (V ?_)
   refine Sy.ar_wrap ?_
   conv=>whnf
   refine zt 7 rfl ?_
   conv=>whnf
   refine zt 8 rfl ?_
   conv=>whnf
   refine zt 9 rfl ?_
   conv=>whnf
   refine zt 10 rfl (V ?_)
   refine Sy.ar_wrap ?_
   conv=>whnf
   refine zd1 [5] (zx rfl ?_ zy)
   conv=>whnf
   refine Sy.call_r1 ⟨5,1,(beN (u64w x.cnt) 8).length,(beN (u64w x.cnt) 8).map encB⟩ (fun j=>.c (.row j)) Tryz.call40 (fun e a w' h=>high_any 8 (u64w x.cnt) w' (u64w_nonneg _) (by decide)) ?_
   conv=>whnf
   refine Yk ?_
   refine zd1 [6] (zx rfl ?_ zy)
   conv=>whnf
   refine Sy.need_app 1 rfl ⟨by omega,by omega⟩ ?_
   conv=>whnf
   refine Yk ?_
   refine zd1 [11] (zx rfl ?_ zy)
   conv=>whnf
   refine Sy.call_r1 ⟨5,1,(beN (u64w x.sum) 8).length,(beN (u64w x.sum) 8).map encB⟩ (fun j=>.c (.row j)) Tryz.call40 (fun e a w' h=>high_any 8 (u64w x.sum) w' (u64w_nonneg _) (by decide)) ?_
   conv=>whnf
   refine Yk ?_
   refine zd1 [12] (zx rfl ?_ zy)
   conv=>whnf
   refine Sy.need_app 1 rfl ⟨by omega,by omega⟩ ?_
   conv=>whnf
   refine Yk ?_
   refine zt 13 rfl ?_
   conv=>whnf
   refine zw ?_
   skip
   all_goals(refine V ?_)
   all_goals(refine⟨n+1,by omega,by omega,?_⟩)
   all_goals(rw[hs])
   all_goals(refine Vs (Vk ?_ ?_))
   all_goals first|(simp;done)|(simp;omega)
  ·have e:n=l.length:=by omega
   subst e
   refine V (Y1 fun hh=>?_)
   exact Sy.fin_r1 (.row 2) rfl
end Go.Proofs.YtgkkpefpbfadoaaGreat.Sn
