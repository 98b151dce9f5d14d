/- Calls whose callee hands back known memory of its own: that memory is known to be new. -/
import Derived.Test.YtgkkpefpbfadoaaGreatDk30
import Derived.Test.YtgkkpefpbfadoaaGreatDk32
import Derived.Test.YtgkkpefpbfadoaaGreatDk34
import Derived.Test.YtgkkpefpbfadoaaGreatDk35
import Derived.Test.YtgkkpefpbfadoaaGreatDk9
namespace Go.Proofs.YtgkkpefpbfadoaaGreat.Sy
open Go Go.RowKit
section
variable {X : Cx} {S : St}
def backG {α:Type}(S:St)(ρ:Nat->Nat)(c:Ctr α)(x:α)(G:Nat->Prop):St:=match S.back ρ c.n0 c.H0 (c.n1 x) (c.H1 x) with
 |⟨fr,H,nx,F,E,g⟩=>⟨fr,H,nx,fun b=>F b\/G b,fun w=>E w/\(∀b,G b->¬S.F b)/\c.q x G w/\∀b,G b->F b\/G b,g⟩
def lendG {α:Type}(S:St)(d:Option Nat)(args:List SV)(c:Ctr α)(K:St->Prop):Prop:=St.forceAll S fun S=>match S with
 |⟨fr,H,nx,F,E,g⟩=>findK ⟨number 0 args,H,nx,F,E,[]⟩ ⟨number 0 c.avs,c.H0,c.n0,F,E,[]⟩ fun r=>
  SVsEq (ap r) c.n0 c.avs args/\LendH (ap r) c.n0 H c.H0/\apartB (ap r) c.H0=true/\cover c.H0 c.n0=true/\
   ∀x,c.p x->∀G:Nat->Prop,St.forceAll (backG ⟨fr,H,nx,F,E,g⟩ (ap r) c x G) fun S'=>K (S'.put d ((c.sv x).ren (sig (ap r) c.n0 nx)))
theorem call_ownG {α:Type}{d:Option Nat}{f:Nat}{args:List SV}{K:St->Prop}{c:Ctr α}(hD:Does X.P f c)(hcall:∀az w,(callFunc f az).run X.P w=.ok (.enter f az) w)(hgo:lendG S d args c K)
 (hpre:∀e a w(F:Nat->Prop),Rep X e S a w->(∀b,S.F b->F b)->c.pre F w)
 (hkeep:∀(x:α)(G:Nat->Prop)(w w':World),c.q x G w->(∀b,G b->w'.heap[b]?=w.heap[b]?)->c.q x G w'):callP X S d f args K:=by
 unfold lendG at hgo
 rw[forceAll_eq] at hgo
 obtain⟨fr,H,nx,F,E,g⟩:=S
 obtain⟨r,ha,hH,hap,hcov,hk⟩:=findK_get hgo
 refine⟨fun hd _=>.inl ⟨hcall,fun e a w h KK hKK=>callsIn_of ?_⟩⟩
 have hO:=h.lentH hH hap
 rw[evs_lt ha]
 refine(hD _ w hO (hpre e a w _ h fun b hb=>⟨h.fl b hb,h.lent_not hH hb⟩)).mono fun Ee w'⟨x,e1,G,hp,hE,hs,hb,hO1,hob,hfr,hlt,hn,hG,hq⟩=>⟨_,hE,?_⟩
 obtain⟨hR,hft⟩:=h.back hH hap hcov hs hb hO1 hob hfr hn
 have hk:=hk x hp G
 rw[forceAll_eq] at hk
 have hv:=SV.ren_den (back_moved h hH hcov hs hn) hlt
 rw[<-hv.1]
 have hGF:∀b,G b->¬F b:=fun b hb hF=>by
  obtain⟨g1,g2,g3⟩:=hG b hb
  rcases g1 with g1|g1
  ·exact h.lent_not hH hF g1
  ·exact absurd (h.fl b hF) (by omega)
 have hL:=hR.learn (G:=G) (p:=fun G' w=>(∀b,G b->¬F b)/\c.q x G w/\∀b,G b->G' b) (fun b hb=>by
  obtain⟨g1,g2,g3⟩:=hG b hb
  refine⟨g2,fun k c' hk' hx=>?_,fun hm=>?_⟩
  ·rcases hft k c' b hk' hx with h1|⟨h1,h2⟩
   ·exact g3 h1
   ·rcases g1 with g1|g1
    ·exact h2 g1
    ·omega
  ·obtain⟨m1,m2,m3⟩:=h.mks b hm
   rcases g1 with g1|g1
   ·obtain⟨k,c1,c2,_,_,q3,q4⟩:=h.lent hH g1
    exact m3 _ _ q3 q4
   ·have:=(Array.getElem?_eq_some_iff.1 m1).1
    omega) ⟨hGF,hq,fun _ hb=>hb⟩ (fun G1 G2 w1 w2 h1 h2 h3=>⟨h1.1,hkeep x G w1 w2 h1.2.1 fun b hb=>h3 b (h1.2.2 b hb),fun b hb=>h2 b (h1.2.2 b hb)⟩)
 exact hKK _ _ _ _ (hL.put hd hv.2) hk
theorem call_memG {α:Type}{d:Option Nat}{f:Nat}{args:List SV}{K:St->Prop}(p:α->(Nat->Prop)->World->Prop)(sv:α->SV)(hcall:∀az w,(callFunc f az).run X.P w=.ok (.enter f az) w)
 (hl:∀x,(sv x).lt S.nx=true)(hkeep:∀(x:α)(G:Nat->Prop)(w w':World),p x G w->(∀b,G b->w'.heap[b]?=w.heap[b]?)->p x G w')
 (hc:∀e a w,Rep X e S a w->Calls X.P f (denAll e args) w (RetMem p (fun x=>(sv x).den e) w))
 (hk:∀(x:α)(G:Nat->Prop),K ((S.knows (fun b=>S.F b\/G b) (fun w=>S.E w/\(∀b,G b->¬S.F b)/\p x G w/\∀b,G b->S.F b\/G b)).put d (sv x))):callP X S d f args K:=by
 refine⟨fun hd _=>.inl ⟨hcall,fun e a w h KK hKK=>callsIn_of ((hc e a w h).mono fun E w'⟨x,hE,hb,hp⟩=>⟨_,hE,?_⟩)⟩⟩
 have hR:=(h.below hb).learn (G:=fun b=>w.heap.size<=b/\b<w'.heap.size) (p:=fun G' w1=>(∀b,(w.heap.size<=b/\b<w'.heap.size)->¬S.F b)/\p x (fun b=>w.heap.size<=b/\b<w'.heap.size) w1/\∀b,(w.heap.size<=b/\b<w'.heap.size)->G' b)
  (fun b hG=>⟨hG.2,fun k c hk hf=>by have:=h.foot_lt hk hf;omega,fun hm=>by have:=h.kept_lt (k0:=S.nx) (.inr (.inr hm));omega⟩) ⟨fun b hb hF=>absurd (h.fl b hF) (by omega),hp,fun _ hb=>hb⟩
  (fun G1 G2 w1 w2 h1 h2 h3=>⟨h1.1,hkeep x _ w1 w2 h1.2.1 fun b hb=>h3 b (h1.2.2 b hb),fun b hb=>h2 b (h1.2.2 b hb)⟩)
 exact hKK _ _ _ _ (hR.put hd (hl x)) (hk x _)
end
end Go.Proofs.YtgkkpefpbfadoaaGreat.Sy
namespace Go.Proofs.YtgkkpefpbfadoaaGreat
open Go Go.RowKit
open Sy (C SV V1 Blk St XD Els)
set_option maxRecDepth 10000
structure Gv (bs:List Int) where
 v:Value
 gl:List OpV
 h:opsOf gl=(decV bs).1
 one:v.oneCell'=true
theorem decode_mem (v:Value)(bs:List Int)(w:World)(hr:XD.ok (fun b=>b<w.heap.size) w ⟨v,1,bs.length,bs.map encB⟩)(hbs:bs.length<=100000)(h8:∀b∈bs,0<=b/\b<256):
 Calls Tryz.prog 129 #[v] w (Sy.RetMem (fun(x:Gv bs) G w'=>GOk G w' x.v x.gl) (fun x=>.tuple #[.agg #[x.v],.int .i64 (decV bs).2]) w):=by
 have h0:=Sy.rep_bare (lv:=[]) (P:=Tryz.prog) (T:=Sy.tab) (w:=w) (nt:=0) (own:=fun _=>False) (args:=#[]) (Nat.zero_le _)
 have h1:=Sy.Rep.exts [⟨v,1,bs.length,bs.map encB⟩] h0 (fun d hd=>by rw[List.mem_singleton.1 hd];exact XD.ok.mono hr fun b hb=>⟨hb,fun h=>h⟩)
 obtain⟨e0,he0⟩:∃e0,e0=Sy.env0.exts (St.bare w fun _=>False).nx [⟨v,1,bs.length,bs.map encB⟩]:=⟨_,rfl⟩
 rw[<-he0] at h1
 have hv:e0.rv 0=v:=by rw[he0];exact Sy.Env.withRow_rv _ _ _ _
 have hno:∀x,¬Sy.ownOf e0 (decC bs).H0 x:=fun x⟨k,b,hk,hf⟩=>by
  rcases Sy.get_cons hk with⟨_,rfl⟩|⟨_,hk⟩
  ·exact hf
  ·cases hk
 have hO:Sy.OwnH (Sy.frz e0 (decC bs).H0 w) e0 1 (decC bs).H0 w:=by
  refine⟨fun X k b hk=>?_,fun k b hk=>?_,fun k k' b b' x hk hk' hne hf=>?_,h1.one⟩
  ·rcases Sy.get_cons hk with⟨rfl,rfl⟩|⟨_,hk⟩
   ·obtain⟨q1,q2,q3⟩:=h1.hp 0 (.ext 1 bs.length (.vs (bs.map encB))) rfl
    exact⟨q1.keep (fun b hb=>⟨hb.1,hno b⟩) (fun _ _=>rfl),q2,q3⟩
   ·cases hk
  ·rcases Sy.get_cons hk with⟨rfl,rfl⟩|⟨_,hk⟩
   ·exact⟨Nat.zero_lt_one,hr.2⟩
   ·cases hk
  ·rcases Sy.get_cons hk with⟨rfl,rfl⟩|⟨_,hk⟩
   ·exact hf.elim
   ·cases hk
 have hc:=decode_does bs hbs h8 e0 w hO trivial
 have hargs:Sy.denAll e0 (decC bs).avs=#[v]:=by
  show #[e0.rv 0]=_
  rw[hv]
 rw[hargs] at hc
 refine hc.mono fun E w'⟨x,e1,G,hp,hE,hs,hb,hO1,hob,hfr,hlt,hn,hG,hq⟩=>?_
 have hh:=hO1.hp {P:=Tryz.prog,T:=Sy.tab,w0:=w,nt:=0} 1 (.row 65 5 x.length (.vs (x.map encOV))) rfl
 have hown:Sy.OwnE w' 65 5 (e1.rv 1) x.length (x.map encOV):=hh.1
 refine⟨⟨e1.rv 1,x,hp,hO1.one 1⟩,hE,⟨hb.os,hb.tape,hb.output,hb.size,fun k hk=>hb.block k hk (hno k)⟩,⟨XD.ok.mono hown.reads fun b hb=>⟨?_,hown.lt hb.2⟩,fun o ho=>(hq o ho).mono fun b hb=>?_⟩⟩
 ·exact(hfr b ⟨1,_,rfl,hb.2⟩).resolve_left (hno b)
 ·exact⟨(hG b hb).1.resolve_left (hno b),(hG b hb).2.1⟩
theorem sdec_mem (v:Value)(b:List Int)(w:World)(hr:XD.ok (fun x=>x<w.heap.size) w ⟨v,1,b.length,b.map encB⟩)(b8:Sn.bytesOk b)(hb:b.length<=100000):
 Calls Tryz.prog 171 #[v] w (Sy.RetMem (fun(x:Two) G w'=>Sn.SOk G w' ⟨Sn.sdV b,x.a,x.b⟩) (fun x=>Sn.retS (Sn.sdV b) (Sn.sdE b) [x.a,x.b]) w):=(mem_r2 0 (Nat.zero_le _) (Sn.sdec_any v b w hr b8 hb)).mono fun _ _⟨x,hE,hb,h1,h2⟩=>⟨x,hE,hb,⟨XD.ok.mono h1 fun _ h=>h.1,XD.ok.mono h2 fun _ h=>h.1⟩⟩
def snC (s:Sn.Sn)(u t:Value):List C:=[.v (.int .i64 s.op),.v (.int .i64 s.idx),.v (.int .i64 s.wid),.v (.bool s.fin),.v u,.v (.int .i64 (s.offs 0)),.v (.int .i64 (s.offs 1)),.v (.int .i64 (s.offs 2)),.v (.int .i64 (s.offs 3)),.v (.int .i64 (s.offs 4)),.v (.int .i64 (s.offs 5)),.v (.int .i64 (s.offs 6)),.v (.int .i64 (s.offs 7)),.v t]
theorem snC_lt {n:Nat}(s:Sn.Sn)(e:Int)(x:Two):SV.lt n (.tup [.agg (snC s x.a x.b),.c (.v (.int .i64 e))])=true:=by
 show Sy.ltAll1 n [.agg [_,_,_,_,C.v x.a,_,_,_,_,_,_,_,_,C.v x.b],_]=true
 simp only[Sy.ltAll1,V1.lt,Sy.ltAll,C.lt,x.ha,x.hb]
 rfl
theorem gr_lt {n:Nat}{b:List Int}(e:Int)(x:Gv b):SV.lt n (.tup [.agg [.v x.v],.c (.v (.int .i64 e))])=true:=by
 show Sy.ltAll1 n [.agg [C.v x.v],_]=true
 simp only[Sy.ltAll1,V1.lt,Sy.ltAll,C.lt,x.one]
 rfl
end Go.Proofs.YtgkkpefpbfadoaaGreat
namespace Go.Proofs.YtgkkpefpbfadoaaGreat
open Go Go.RowKit
open Sy (C SV V1 Blk St XD Els)
set_option maxRecDepth 10000
def rawP (p:Ps):List Int:=(p.rd 2).by (p.n 2).toNat
def someP (p:Ps):Ps:=(p.rd 2).rd (p.n 2).toNat
def consQ {α:Type}(x:α)(r:Ps×List α):Ps×List α:=(r.1,x::r.2)
def aftQ {α:Type}(l:List α)(r:Ps×List α):Ps×List α:=(r.1,l++r.2)
theorem aftQ_cons {α:Type}(l:List α)(x:α)(r:Ps×List α):aftQ l (consQ x r)=aftQ (l++[x]) r:=by unfold aftQ consQ;simp
def lstN {α:Type}(f:Ps->Ps×α):Nat->Ps->Ps×List α
 |0,p=>(p,[])
 |n+1,p=>if p.e≠0 then(p,[]) else consQ (f p).2 (lstN f n (f p).1)
def lstP {α:Type}(f:Ps->Ps×α)(p:Ps):Ps×List α:=lstN f (p.n 1).toNat (p.rd 1)
def inP (p:Ps):Ps×Inp:=(someP (p.rd 1),⟨p.n 1,(recD ⟨rawP (p.rd 1),0⟩).1.map (·.r)⟩)
def plP (p:Ps):Ps×Plc:=((p.rd 1).rd 1,⟨p.n 1,(p.rd 1).n 1⟩)
def txP (p:Ps):Ps×Sn.Tx:=(((p.rd 1).rd 4).rd 4,⟨p.n 1,(p.rd 1).n 4,((p.rd 1).rd 4).n 4⟩)
def inI (p:Ps):Ps×Int:=(p.rd 1,p.n 1)
def restP (p:Ps):Sn.Sn:=Sn.sdV (p.by p.l.length)
def depP (p:Ps)(m:Msg):Msg:={m with gr:=(decV (rawP p)).1,ins:=(lstP inP (someP p)).2,pls:=(lstP plP (lstP inP (someP p)).1).2,snap:=restP (lstP plP (lstP inP (someP p)).1).1}
def toldP (p:Ps)(m:Msg):Msg:={m with names:=(lstP txP p).2}
def trigP (p:Ps)(m:Msg):Msg:={m with num:=p.n 8}
def ackP (p:Ps)(m:Msg):Msg:={m with num:=p.n 8,snap:=restP (p.rd 8)}
def beatP (p:Ps)(m:Msg):Msg:={m with up:=(lstP inI p).2,ended:=(lstP inI (lstP inI p).1).2}
def one1:List Elm->Elm
 |[x]=>x
 |_=>⟨0,⟨0,0,0⟩,0⟩
def dataP (p:Ps)(m:Msg):Msg:={m with pkt:=⟨p.n 1,(p.rd 1).n 4,((p.rd 1).rd 4).n 8,(((p.rd 1).rd 4).rd 8).n 8,one1 (recD ⟨rawP ((((p.rd 1).rd 4).rd 8).rd 8),0⟩).1⟩}
def hdM (p:Ps):Msg:=⟨p.n 1,(p.rd 1).n 1,((p.rd 1).rd 1).n 1,((((p.rd 1).rd 1).rd 1).rd 1).n 8,(((((p.rd 1).rd 1).rd 1).rd 1).rd 8).n 4,(((p.rd 1).rd 1).rd 1).n 1,0,[],[],[],Sn.sn0,[],[],[],pk0⟩
def hdP (p:Ps):Ps:=(((((p.rd 1).rd 1).rd 1).rd 1).rd 8).rd 4
def readP (p:Ps):Msg:=(if(hdM p).kind=1 then depP else if(hdM p).kind=3 then trigP else if(hdM p).kind=4 then toldP else if(hdM p).kind=5 then ackP else if(hdM p).kind=6 then beatP else if(hdM p).kind=8 then dataP else fun _ m=>m) (hdP p) (hdM p)
def frH (m:MsgV)(s:Rs):List (Nat×Blk):=[(0,.cells 129 (.loc 1 0::cellsM C.v m fun i=>.v (m.v i))),(1,.cells 161 [.v (.slice s.A s.l.length s.c),.v (.int .i64 s.e)])]
theorem Rg.by {s0 s:Rs}(g:Rg s0 s)(k:Nat):Sn.bytesOk (s.p.by k):=by
 unfold Ps.by Rs.p
 split
 ·exact fun c hc=>by cases hc
 ·exact fun c hc=>g.b c (List.mem_of_mem_take hc)
theorem by_len (s:Rs)(k:Nat):(s.p.by k).length<=s.l.length:=by
 unfold Ps.by Rs.p
 split
 ·exact Nat.zero_le _
 ·exact List.length_take_le' _ _
theorem rv_one (s:Rs)(k:Nat):(s.rv k).oneCell'=true:=by unfold Rs.rv;split<;>rfl
theorem rv_ok {F:Nat->Prop}{w:World}{s:Rs}(h:s.ok F w)(k:Nat):XD.ok F w ⟨s.rv k,1,(s.p.by k).length,(s.p.by k).map encB⟩:=by
 unfold Rs.rv Ps.by Rs.p
 dsimp only
 split
 ·exact nil_ok
 ·exact Rs.by_ok h (by omega)
attribute [local irreducible] Rs.rd Rs.by Rs.rv Ps.rd Ps.n Ps.by Sc.rs
theorem small_does {s0 s:Rs}(g:Rg s0 s)(m:MsgV):Sy.Does Tryz.prog 80 {avs:=[.c (.loc 0 0)],n0:=2,H0:=frH m s,pre:=fun F w=>s0.ok F w,sv:=fun _:Unit=>.c (.v (.int .i64 (s.p.n 1))),n1:=fun _=>2,H1:=fun _=>frH m (s.rd 1)}:=by
 have hn:=g.num 1
 rw[by_p] at hn
 refine Sy.does_of Sy.lv80 Sy.tab_ok Tryz.func80 rfl _ Tryz.ntmps80 _ rfl rfl (fun e0 w hpre=>?_)
 refine V ?_
 refine Sy.call_own (u8_does g) Tryz.call128 (YL ?_) (fun e a w' F' h hF'=>XD.ok.mono (XD.later h hpre) hF')
 intro _ _ _
 conv=>whnf
 rw[by_p]
 refine V ?_
 refine Sy.fin_own () trivial ?_
 exact Vs0
theorem some_does {s0 s:Rs}(g:Rg s0 s)(m:MsgV):Sy.Does Tryz.prog 130 {avs:=[.c (.loc 0 0)],n0:=2,H0:=frH m s,pre:=fun F w=>s0.ok F w,sv:=fun _:Unit=>.c (.v ((s.rd 2).rv (s.p.n 2).toNat)),n1:=fun _=>2,H1:=fun _=>frH m ((s.rd 2).rd (s.p.n 2).toNat)}:=by
 have hn:=g.num 2
 rw[by_p] at hn
 have hk:s.p.n 2=((s.p.n 2).toNat:Int):=by omega
 generalize(s.p.n 2).toNat=k at *
 refine Sy.does_of Sy.lv130 Sy.tab_ok Tryz.func130 rfl _ Tryz.ntmps130 _ rfl rfl (fun e0 w hpre=>?_)
 refine V ?_
 refine Sy.draw_go [1] (by kernel_rfl) ?_
 intro e0
 conv=>whnf
 refine zt 0 rfl ?_
 conv=>whnf
 refine zt 1 rfl ?_
 conv=>whnf
 refine zt 2 rfl ?_
 conv=>whnf
 refine zt 3 rfl ?_
 conv=>whnf
 refine zt 4 rfl ?_
 conv=>whnf
 refine zt 5 rfl ?_
 conv=>whnf
 refine zt 6 rfl ?_
 conv=>whnf
 refine zt 7 rfl ?_
 conv=>whnf
 refine zd1 [8] (zx rfl ?_ zy)
 conv=>whnf
 refine Sy.call_own (u16_does g) Tryz.call169 (YL ?_) (fun e a w' F' h hF'=>XD.ok.mono (XD.later h hpre) hF')
 intro _ _ _
 conv=>whnf
 rw[by_p,hk]
 refine Yk ?_
 refine zt 9 rfl (V ?_)
 refine zd1 [10] (zx rfl ?_ zy)
 conv=>whnf
 refine Sy.call_own (raw_does (g.rd 2) k) Tryz.call168 (YL ?_) (fun e a w' F' h hF'=>XD.ok.mono (XD.later h hpre) hF')
 intro _ _ _
 conv=>whnf
 refine Yk ?_
 refine zt 11 rfl ?_
 conv=>whnf
 refine zw ?_
 skip
 refine V ?_
 refine Sy.fin_own () trivial ?_ (rv_one _ _)
 exact Vs0
end Go.Proofs.YtgkkpefpbfadoaaGreat
namespace Go.Proofs.YtgkkpefpbfadoaaGreat
open Go Go.RowKit
open Sy (C SV V1 Blk St XD Els)
set_option maxRecDepth 10000
def lsC {α:Type}(s0 s:Rs)(m:MsgV)(n:Nat)(B B1:List (Nat×Blk))(z:Nat)(f:Ps->Ps×α)(enc:α->List Value):Sy.Ctr (Rs×One):={avs:=[.c (.loc 0 0),.c (.row 2)],n0:=n,H0:=frH m s++(B++B1),pre:=fun F w=>s0.ok F w,p:=fun x=>x.1.p=(lstP f s.p).1/\Rg s0 x.1/\x.1.l.length<=s.l.length,sv:=fun x=>.c (.v x.2.v),n1:=fun _=>n,H1:=fun x=>frH m x.1++B1,learn:=true,q:=fun x G w=>XD.ok G w ⟨x.2.v,z,(lstP f s.p).2.length,(lstP f s.p).2.map enc⟩}
theorem lt_v {n:Nat}{u:Value}(h:u.oneCell'=true):SV.lt n (.c (.v u))=true:=h
theorem lst_e {α:Type}{f:Ps->Ps×α}{n:Nat}{p:Ps}(h:n=0\/p.e≠0):lstN f n p=(p,[]):=by
 cases n with
 |zero=>rfl
 |succ n=>exact if_pos (h.resolve_left (by omega))
theorem lst_s {α:Type}{f:Ps->Ps×α}{n:Nat}{p:Ps}(h:p.e=0):lstN f (n+1) p=consQ (f p).2 (lstN f n (f p).1):=if_neg (Decidable.not_not.2 h)
theorem aft_nil {α:Type}{l:List α}{p:Ps}:aftQ l (p,[])=(p,l):=by unfold aftQ;simp
attribute [local irreducible] Rs.rd Rs.by Rs.rv Ps.rd Ps.n Ps.by Sc.rs lstN
theorem lsI_does {s0 s:Rs}(g:Rg s0 s)(m:MsgV):Sy.Does Tryz.prog 138 (lsC s0 s m 3 [(2,.mv 80 [.loc 0 0])] [] 1 inI encI):=by
 have hn:=g.num 1
 rw[by_p] at hn
 refine Sy.does_of Sy.lv138 Sy.tab_ok Tryz.func138 rfl _ Tryz.ntmps138 _ rfl rfl (fun e0 w hpre=>?_)
 refine V ?_
 refine Sy.call_own (u8_does g) Tryz.call128 (YL ?_) (fun e a w' F' h hF'=>XD.ok.mono (XD.later h hpre) hF')
 intro _ _ _
 conv=>whnf
 rw[by_p]
 refine V ?_
 refine Sy.sem_subF (Sy.sub_row 5 3 1 rfl) (V ?_)
 have hL:lstP inI s.p=lstN inI (s.p.n 1).toNat (s.rd 1).p:=by rw[rd_p];rfl
 have hl0:=rd_len s 1
 generalize s.p.n 1=k at *
 refine Sy.loop_inv Sy.tab_ok (fun q:Nat×Rs×List Int=>[(12,.c (.v (.int .i64 q.1))),(5,.c (.row 3))]) (fun q=>[(1,.cells 161 [.v (.slice q.2.1.A q.2.1.l.length q.2.1.c),.v (.int .i64 q.2.1.e)]),(3,.row 3 1 q.2.2.length (.vs (q.2.2.map encI)))]) (fun q=>q.1<=k.toNat/\q.2.2.length=q.1/\Rg s0 q.2.1/\q.2.1.l.length<=s.l.length/\lstP inI s.p=aftQ q.2.2 (lstN inI (k.toNat-q.1) q.2.1.p)) (fun q=>k.toNat-q.1) (0,s.rd 1,[]) ⟨Nat.zero_le _,rfl,g.rd 1,hl0,hL⟩ ?_ (fun q hq=>?_)
 ·exact Vs0
 obtain⟨i,u,acc⟩:=q
 obtain⟨hi,hacc,gu,hl,hq⟩:=hq
 dsimp only at hi hacc gu hl hq⊢
 by_cases hlt:i<k.toNat
 ·refine V (Y1 fun hh=>?_)
  refine Sy.call_own (err_does u) Tryz.call170 (YL ?_)
  intro _ _ _
  conv=>whnf
  by_cases he:u.e=0
  ·rw[show k.toNat-i=(k.toNat-(i+1))+1 by omega,lst_s (show u.p.e=0 from he),aftQ_cons] at hq
   refine V ?_
   refine Sy.call_own (small_does gu m) Tryz.call80 (YL ?_) (fun e a w' F' h hF'=>XD.ok.mono (XD.later h hpre) hF')
   intro _ _ _
   conv=>whnf
   refine V ?_
   refine Sy.need_app 8 rfl ⟨by omega,by omega⟩ (V ?_)
   refine⟨(i+1,u.rd 1,acc++[u.p.n 1]),⟨by omega,(by rw[List.length_append,hacc];rfl),gu.rd 1,Nat.le_trans (rd_len u 1) hl,(by rw[hq];simp only[rd_p];rfl)⟩,by dsimp only;omega,?_⟩
   refine Vs (Vk ?_ ?_)
   all_goals(try simp[encI])
  ·rw[lst_e (.inr (show u.p.e≠0 from he)),aft_nil] at hq
   refine V ?_
   refine fin_freezeg (fun u=>.c (.v u)) 3 3 1 _ _ rfl (fun e=>rfl) (fun v G hG hv=>?_)
   conv=>whnf
   refine Sy.fin_own (u,⟨v,hv⟩) ⟨by rw[hq],gu,hl⟩ ?_ (lt_v hv) (fun w' hw'=>⟨G,fun b hb=>⟨.inr hb,hG b hb⟩,by unfold lsC;rw[hq];exact hw'.2.1⟩)
   exact Vs0
 ·rw[lst_e (.inl (by omega)),aft_nil] at hq
  refine V (Y1 fun hh=>?_)
  refine fin_freezeg (fun u=>.c (.v u)) 3 3 1 _ _ rfl (fun e=>rfl) (fun v G hG hv=>?_)
  conv=>whnf
  refine Sy.fin_own (u,⟨v,hv⟩) ⟨by rw[hq],gu,hl⟩ ?_ (lt_v hv) (fun w' hw'=>⟨G,fun b hb=>⟨.inr hb,hG b hb⟩,by unfold lsC;rw[hq];exact hw'.2.1⟩)
  exact Vs0
theorem lsP_does {s0 s:Rs}(g:Rg s0 s)(m:MsgV):Sy.Does Tryz.prog 133 (lsC s0 s m 4 [(2,.fn 134 [.loc 3 0])] [(3,.cells 127 [.loc 0 0])] 2 plP encP):=by
 have hn:=g.num 1
 rw[by_p] at hn
 refine Sy.does_of Sy.lv133 Sy.tab_ok Tryz.func133 rfl _ Tryz.ntmps133 _ rfl rfl (fun e0 w hpre=>?_)
 refine V ?_
 refine Sy.call_own (u8_does g) Tryz.call128 (YL ?_) (fun e a w' F' h hF'=>XD.ok.mono (XD.later h hpre) hF')
 intro _ _ _
 conv=>whnf
 rw[by_p]
 refine V ?_
 refine Sy.sem_subF (Sy.sub_row 5 84 2 rfl) (V ?_)
 have hL:lstP plP s.p=lstN plP (s.p.n 1).toNat (s.rd 1).p:=by rw[rd_p];rfl
 have hl0:=rd_len s 1
 generalize s.p.n 1=k at *
 refine Sy.loop_inv Sy.tab_ok (fun q:Nat×Rs×List Plc=>[(12,.c (.v (.int .i64 q.1))),(5,.c (.row 4))]) (fun q=>[(1,.cells 161 [.v (.slice q.2.1.A q.2.1.l.length q.2.1.c),.v (.int .i64 q.2.1.e)]),(4,.row 84 2 q.2.2.length (.vs (q.2.2.map encP)))]) (fun q=>q.1<=k.toNat/\q.2.2.length=q.1/\Rg s0 q.2.1/\q.2.1.l.length<=s.l.length/\lstP plP s.p=aftQ q.2.2 (lstN plP (k.toNat-q.1) q.2.1.p)) (fun q=>k.toNat-q.1) (0,s.rd 1,[]) ⟨Nat.zero_le _,rfl,g.rd 1,hl0,hL⟩ ?_ (fun q hq=>?_)
 ·exact Vs0
 obtain⟨i,u,acc⟩:=q
 obtain⟨hi,hacc,gu,hl,hq⟩:=hq
 dsimp only at hi hacc gu hl hq⊢
 by_cases hlt:i<k.toNat
 ·refine V (Y1 fun hh=>?_)
  refine Sy.call_own (err_does u) Tryz.call170 (YL ?_)
  intro _ _ _
  conv=>whnf
  by_cases he:u.e=0
  ·rw[show k.toNat-i=(k.toNat-(i+1))+1 by omega,lst_s (show u.p.e=0 from he),aftQ_cons] at hq
   refine V ?_
   refine Sy.call_in Sy.lv134 Sy.tab_ok Tryz.func134 rfl _ Tryz.ntmps134 Tryz.call134 rfl (fun _=>?_)
   refine V ?_
   refine Sy.draw_go [1,5] (by kernel_rfl) ?_
   intro e0
   conv=>whnf
   refine zt 0 rfl ?_
   conv=>whnf
   refine zt 2 rfl ?_
   conv=>whnf
   refine zd1 [1] (zx rfl ?_ zy)
   conv=>whnf
   refine Sy.call_own (small_does gu m) Tryz.call80 (YL ?_) (fun e a w' F' h hF'=>XD.ok.mono (XD.later h hpre) hF')
   intro _ _ _
   conv=>whnf
   refine Yk ?_
   refine zd1 [3] (zx rfl ?_ zy)
   conv=>whnf
   refine Sy.call_own (small_does (gu.rd 1) m) Tryz.call80 (YL ?_) (fun e a w' F' h hF'=>XD.ok.mono (XD.later h hpre) hF')
   intro _ _ _
   conv=>whnf
   refine Yk ?_
   refine zt 4 rfl ?_
   conv=>whnf
   refine zd1 [5] (zx rfl ?_ zy)
   conv=>whnf
   refine Yk ?_
   refine zw ?_
   skip
   refine V ?_
   refine Sy.need_app 16 rfl ⟨by omega,by omega⟩ (V ?_)
   refine⟨(i+1,(u.rd 1).rd 1,acc++[⟨u.p.n 1,(u.rd 1).p.n 1⟩]),⟨by omega,(by rw[List.length_append,hacc];rfl),(gu.rd 1).rd 1,Nat.le_trans (rd_len _ 1) (Nat.le_trans (rd_len u 1) hl),(by rw[hq];simp only[rd_p];rfl)⟩,by dsimp only;omega,?_⟩
   refine Vs (Vk ?_ ?_)
   all_goals(try simp[encP])
  ·rw[lst_e (.inr (show u.p.e≠0 from he)),aft_nil] at hq
   refine V ?_
   refine fin_freezeg (fun u=>.c (.v u)) 4 84 2 _ _ rfl (fun e=>rfl) (fun v G hG hv=>?_)
   conv=>whnf
   refine Sy.fin_own (u,⟨v,hv⟩) ⟨by rw[hq],gu,hl⟩ ?_ (lt_v hv) (fun w' hw'=>⟨G,fun b hb=>⟨.inr hb,hG b hb⟩,by unfold lsC;rw[hq];exact hw'.2.1⟩)
   exact Vs0
 ·rw[lst_e (.inl (by omega)),aft_nil] at hq
  refine V (Y1 fun hh=>?_)
  refine fin_freezeg (fun u=>.c (.v u)) 4 84 2 _ _ rfl (fun e=>rfl) (fun v G hG hv=>?_)
  conv=>whnf
  refine Sy.fin_own (u,⟨v,hv⟩) ⟨by rw[hq],gu,hl⟩ ?_ (lt_v hv) (fun w' hw'=>⟨G,fun b hb=>⟨.inr hb,hG b hb⟩,by unfold lsC;rw[hq];exact hw'.2.1⟩)
  exact Vs0
theorem lsT_does {s0 s:Rs}(g:Rg s0 s)(m:MsgV):Sy.Does Tryz.prog 136 (lsC s0 s m 4 [(2,.fn 137 [.loc 3 0])] [(3,.cells 127 [.loc 0 0])] 3 txP Sn.encT):=by
 have hn:=g.num 1
 rw[by_p] at hn
 refine Sy.does_of Sy.lv136 Sy.tab_ok Tryz.func136 rfl _ Tryz.ntmps136 _ rfl rfl (fun e0 w hpre=>?_)
 refine V ?_
 refine Sy.call_own (u8_does g) Tryz.call128 (YL ?_) (fun e a w' F' h hF'=>XD.ok.mono (XD.later h hpre) hF')
 intro _ _ _
 conv=>whnf
 rw[by_p]
 refine V ?_
 refine Sy.sem_subF (Sy.sub_row 5 88 3 rfl) (V ?_)
 have hL:lstP txP s.p=lstN txP (s.p.n 1).toNat (s.rd 1).p:=by rw[rd_p];rfl
 have hl0:=rd_len s 1
 generalize s.p.n 1=k at *
 refine Sy.loop_inv Sy.tab_ok (fun q:Nat×Rs×List Sn.Tx=>[(12,.c (.v (.int .i64 q.1))),(5,.c (.row 4))]) (fun q=>[(1,.cells 161 [.v (.slice q.2.1.A q.2.1.l.length q.2.1.c),.v (.int .i64 q.2.1.e)]),(4,.row 88 3 q.2.2.length (.vs (q.2.2.map Sn.encT)))]) (fun q=>q.1<=k.toNat/\q.2.2.length=q.1/\Rg s0 q.2.1/\q.2.1.l.length<=s.l.length/\lstP txP s.p=aftQ q.2.2 (lstN txP (k.toNat-q.1) q.2.1.p)) (fun q=>k.toNat-q.1) (0,s.rd 1,[]) ⟨Nat.zero_le _,rfl,g.rd 1,hl0,hL⟩ ?_ (fun q hq=>?_)
 ·exact Vs0
 obtain⟨i,u,acc⟩:=q
 obtain⟨hi,hacc,gu,hl,hq⟩:=hq
 dsimp only at hi hacc gu hl hq⊢
 by_cases hlt:i<k.toNat
 ·refine V (Y1 fun hh=>?_)
  refine Sy.call_own (err_does u) Tryz.call170 (YL ?_)
  intro _ _ _
  conv=>whnf
  by_cases he:u.e=0
  ·rw[show k.toNat-i=(k.toNat-(i+1))+1 by omega,lst_s (show u.p.e=0 from he),aftQ_cons] at hq
   refine V ?_
   refine Sy.call_in Sy.lv137 Sy.tab_ok Tryz.func137 rfl _ Tryz.ntmps137 Tryz.call137 rfl (fun _=>?_)
   refine V ?_
   have h1:=(gu.rd 1).num 4
   have h2:=((gu.rd 1).rd 4).num 4
   rw[by_p] at h1 h2
   refine Sy.draw_go [1,5] (by kernel_rfl) ?_
   intro e0
   conv=>whnf
   refine zt 0 rfl ?_
   conv=>whnf
   refine zt 2 rfl ?_
   conv=>whnf
   refine zt 3 rfl ?_
   conv=>whnf
   refine zt 4 rfl ?_
   conv=>whnf
   refine zt 5 rfl ?_
   conv=>whnf
   refine zt 8 rfl ?_
   conv=>whnf
   refine zt 9 rfl ?_
   conv=>whnf
   refine zt 10 rfl ?_
   conv=>whnf
   refine zt 11 rfl ?_
   conv=>whnf
   refine zd1 [1] (zx rfl ?_ zy)
   conv=>whnf
   refine Sy.call_own (small_does gu m) Tryz.call80 (YL ?_) (fun e a w' F' h hF'=>XD.ok.mono (XD.later h hpre) hF')
   intro _ _ _
   conv=>whnf
   refine Yk ?_
   refine zd1 [6] (zx rfl ?_ zy)
   conv=>whnf
   refine Sy.call_own (u32_does (gu.rd 1)) Tryz.call78 (YL ?_) (fun e a w' F' h hF'=>XD.ok.mono (XD.later h hpre) hF')
   intro _ _ _
   conv=>whnf
   rw[by_p]
   refine Yk ?_
   refine zt 7 rfl (V ?_)
   refine zd1 [12] (zx rfl ?_ zy)
   conv=>whnf
   refine Sy.call_own (u32_does ((gu.rd 1).rd 4)) Tryz.call78 (YL ?_) (fun e a w' F' h hF'=>XD.ok.mono (XD.later h hpre) hF')
   intro _ _ _
   conv=>whnf
   rw[by_p]
   refine Yk ?_
   refine zt 13 rfl (V ?_)
   refine zt 14 rfl ?_
   conv=>whnf
   refine zd1 [15] (zx rfl ?_ zy)
   conv=>whnf
   refine Yk ?_
   refine zw ?_
   skip
   refine V ?_
   refine Sy.need_app 24 rfl ⟨by omega,by omega⟩ (V ?_)
   refine⟨(i+1,((u.rd 1).rd 4).rd 4,acc++[⟨u.p.n 1,(u.rd 1).p.n 4,((u.rd 1).rd 4).p.n 4⟩]),⟨by omega,(by rw[List.length_append,hacc];rfl),((gu.rd 1).rd 4).rd 4,Nat.le_trans (rd_len _ 4) (Nat.le_trans (rd_len _ 4) (Nat.le_trans (rd_len u 1) hl)),(by rw[hq];simp only[rd_p];rfl)⟩,by dsimp only;omega,?_⟩
   refine Vs (Vk ?_ ?_)
   all_goals(try simp[Sn.encT])
  ·rw[lst_e (.inr (show u.p.e≠0 from he)),aft_nil] at hq
   refine V ?_
   refine fin_freezeg (fun u=>.c (.v u)) 4 88 3 _ _ rfl (fun e=>rfl) (fun v G hG hv=>?_)
   conv=>whnf
   refine Sy.fin_own (u,⟨v,hv⟩) ⟨by rw[hq],gu,hl⟩ ?_ (lt_v hv) (fun w' hw'=>⟨G,fun b hb=>⟨.inr hb,hG b hb⟩,by unfold lsC;rw[hq];exact hw'.2.1⟩)
   exact Vs0
 ·rw[lst_e (.inl (by omega)),aft_nil] at hq
  refine V (Y1 fun hh=>?_)
  refine fin_freezeg (fun u=>.c (.v u)) 4 88 3 _ _ rfl (fun e=>rfl) (fun v G hG hv=>?_)
  conv=>whnf
  refine Sy.fin_own (u,⟨v,hv⟩) ⟨by rw[hq],gu,hl⟩ ?_ (lt_v hv) (fun w' hw'=>⟨G,fun b hb=>⟨.inr hb,hG b hb⟩,by unfold lsC;rw[hq];exact hw'.2.1⟩)
  exact Vs0
end Go.Proofs.YtgkkpefpbfadoaaGreat
