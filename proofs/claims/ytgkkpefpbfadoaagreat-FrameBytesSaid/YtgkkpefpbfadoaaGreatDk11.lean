/-
  The symbolic executor, 19: a row whose block is told: from there on a buffer.
-/
import Derived.Test.YtgkkpefpbfadoaaGreatDk10
import Derived.Test.YtgkkpefpbfadoaaGreatDk9
namespace Go.Proofs.YtgkkpefpbfadoaaGreat.Sy
open Go Go.RowKit
section
variable {X : Cx} {e : Env} {S : St} {a : Act} {w : World}
def swapC (k j n:Nat)(c:C):C:=match c with
 |.row i=>(match Nat.beq i k with
  |true=>.sl j 0 n
  |false=>.row i)
 |c=>c
def swapL (k j n:Nat):List C->List C
 |[]=>[]
 |c::r=>swapC k j n c::swapL k j n r
def swapSV (k j n:Nat)(v:SV):SV:=match v with
 |.c x=>.c (swapC k j n x)
 |.agg x=>.agg (swapL k j n x)
 |v=>v
def swapFr (k j n:Nat):List (Nat×SV)->List (Nat×SV)
 |[]=>[]
 |(t,v)::r=>(t,swapSV k j n v)::swapFr k j n r
def swapBlk (k j n:Nat)(b:Blk):Blk:=match b with
 |.cells t x=>.cells t (swapL k j n x)
 |.fn f x=>.fn f (swapL k j n x)
 |b=>b
def swapH (k j n:Nat):List (Nat×Blk)->List (Nat×Blk)
 |[]=>[]
 |(i,b)::r=>(i,swapBlk k j n b)::swapH k j n r
def St.rowBuf (S:St)(k n ety esz cap:Nat)(xs:Els):St:=match S with
 |⟨fr,H,nx,F,E,g⟩=>⟨swapFr k nx n fr,(nx,.buf ety esz cap xs)::(k,.dead)::swapH k nx n H,nx+1,F,E,g⟩
section
variable {k j n m : Nat} {e' : Env}
end
end
end Go.Proofs.YtgkkpefpbfadoaaGreat.Sy
namespace Go.Proofs.YtgkkpefpbfadoaaGreat.Sy
open Go Go.RowKit
section
variable {X : Cx} {e : Env} {S : St} {a : Act} {w : World}
theorem set_den {e e':Env}{m:Nat}(hs:Env.same m e e'){cs:List C}(hl:ltAll m cs=true){o k:Nat}{u:Value}(ho:cs[o]?=some (.v u))(hv:e'.rv k=u):(cs.set o (.row k)).map (C.den e')=cs.map (C.den e):=by
 rw[List.map_set,show C.den e' (.row k)=u from hv,map_den_same hs hl]
 obtain⟨hi,he⟩:=List.getElem?_eq_some_iff.1 ho
 refine List.ext_getElem? fun i=>?_
 rw[List.getElem?_set]
 split
 ·rename_i hio
  subst hio
  simp[hi,he,C.den]
 ·rfl
theorem sub_open {S:St}(k o esz n:Nat)(xs:List (List Value)){ty:Nat}{cs:List C}{u:Value}(hk:get S.H k=some (.cells ty cs))(ho:cs[o]?=some (.v u))(hr:∀e a w,Rep X e S a w->ReadsE S.F w esz u n xs)(h1:∀c∈xs,∀x∈c,x.oneCell'=true):
 Sub X S {S with H:=(k,.cells ty (cs.set o (.row S.nx)))::(S.nx,.ext esz n (.vs xs))::S.H,nx:=S.nx+1}:=by
 refine⟨fun e a w h=>?_⟩
 have hR:=h.newExt (esz:=esz) (n:=n) (xs:=.vs xs) (v:=u) h1 (hr e a w h)
 have hs:=Env.withRow_same e S.nx u esz
 refine⟨e.withRow S.nx u esz,?_⟩
 have hlt0:=h.hlt _ _ hk
 have hne:k≠S.nx:=Nat.ne_of_lt hlt0.1
 have hk':get (S.new (.ext esz n (.vs xs))).H k=some (.cells ty cs):=by
  cases S
  show get ((_,_)::_) k=_
  rw[get_other (Ne.symm hne)]
  exact hk
 have hcs:ltAll (S.nx+1) (cs.set o (.row S.nx))=true:=ltAll_of fun c hc=>by
  rcases List.mem_or_eq_of_mem_set hc with hc|rfl
  ·exact C.lt_mono (Nat.le_succ _) (ltAll_mem hlt0.2 c hc)
  ·exact blt_iff.2 (Nat.lt_succ_self _)
 have hset:=hR.setSame (k:=k) (b0:=.cells ty (cs.set o (.row S.nx))) hk' (by cases S;exact hcs) (fun x hx=>hx) (by
  show w.heap[(e.withRow S.nx u esz).ad k]?=_
  rw[set_den hs hlt0.2 ho (Env.withRow_rv _ _ _ _)]
  exact h.hp k _ hk)
 cases S
 exact hset
theorem sub_openS {S:St}(t esz n:Nat)(xs:List (List Value)){u:Value}(ht:get S.fr t=some (.c (.v u)))(hr:∀e a w,Rep X e S a w->ReadsE S.F w esz u n xs)(h1:∀c∈xs,∀x∈c,x.oneCell'=true):
 Sub X S {S with fr:=(t,.c (.row S.nx))::S.fr,H:=(S.nx,.ext esz n (.vs xs))::S.H,nx:=S.nx+1}:=by
 refine⟨fun e a w h=>?_⟩
 have hR:=h.newExt (esz:=esz) (n:=n) (xs:=.vs xs) (v:=u) h1 (hr e a w h)
 refine⟨e.withRow S.nx u esz,?_⟩
 cases S with
 |mk fr H nx F E g=>
  refine{hR with fr:=fun i v hv=>?_,frlt:=fun i v hv=>?_}
  ·rcases get_cons hv with⟨rfl,rfl⟩|⟨_,hv⟩
   ·have h0:=h.fr t _ ht
    rw[h0]
    show some u=some ((e.withRow nx u esz).rv nx)
    rw[Env.withRow_rv]
   ·exact hR.fr i v hv
  ·rcases get_cons hv with⟨rfl,rfl⟩|⟨_,hv⟩
   ·exact blt_iff.2 (Nat.lt_succ_self _)
   ·exact hR.frlt i v hv
theorem reads_w0 {esz n:Nat}{v:Value}{xs:List (List Value)}(hr:ReadsE (fun b=>b<X.w0.heap.size/\¬X.own b) X.w0 esz v n xs):∀e a w,Rep X e S a w->ReadsE S.F w esz v n xs:=fun _ _ _ h=>reads_later h hr
def St.froz (S:St)(k:Nat)(F':Nat->Prop)(E':World->Prop):St:=match S with
 |⟨fr,H,nx,_,_,g⟩=>⟨fr,(k,.dead)::H,nx,F',E',g⟩
theorem fin_nilrow {v:SV}{R:Ending->World->Prop}(ety esz:Nat)(v':SV)(hden:∀e:Env,e.rv S.nx=.slice none 0 0->v'.den e=v.den e)
 (hf:St.forceAll {S with H:=(S.nx,.row ety esz 0 (.vs []))::S.H,nx:=S.nx+1} fun S'=>finP X S' v' R)(hv:v.lt S.nx=true:=by rfl):finP X S v R:=fin_of fun e a w h=>by
 rw[forceAll_eq] at hf
 have hR:=h.newRow (w':=w) (ety:=ety) (esz:=esz) (n:=0) (xs:=.vs []) (v:=.slice none 0 0) (fun c hc=>by cases hc) rfl rfl rfl (Nat.le_refl _) (fun _ _=>rfl) ⟨rfl,fun c hc=>(by cases hc),.inl ⟨none,rfl,rfl⟩⟩ (fun x hx=>absurd hx (noRow_foot x))
 have h1:=hf.out _ a w {hR with fr:=fun i v hv=>hR.fr i v hv,frlt:=fun i v hv=>hR.frlt i v hv}
 rw[hden _ (Env.withRow_rv e S.nx _ _)] at h1
 have hs:Env.same S.nx e (e.withRow S.nx (.slice none 0 0) esz):=Env.withRow_same e S.nx _ _
 rw[SV.den_same hs hv] at h1
 exact h1
theorem does_freeze {P:Program}{f:Nat}{avs:List SV}{n0:Nat}{H0 H1:List (Nat×Blk)}{pre:(Nat->Prop)->World->Prop}{ety esz n:Nat}{xs:List (List Value)}
 (hl:∀k b,get H1 k=some b->k<n0/\b.lt n0)
 (h:Does P f {avs:=avs,n0:=n0,H0:=H0,pre:=pre,sv:=fun _:Unit=>.c (.row n0),n1:=fun _=>n0+1,H1:=fun _=>(n0,.row ety esz n (.vs xs))::H1}):
 Does P f {avs:=avs,n0:=n0,H0:=H0,pre:=pre,sv:=fun u:Value=>.c (.v u),n1:=fun _=>n0,H1:=fun _=>H1,learn:=true,q:=fun u G w=>XD.ok G w ⟨u,esz,n,xs⟩}:=by
 intro e0 w hO hpre
 refine(h e0 w hO hpre).mono fun E w'⟨x,e1,G,hp,hE,hs,hb,hO1,hob,hfr,hlt,hn,hG,hq⟩=>?_
 have hk:get ((n0,Blk.row ety esz n (.vs xs))::H1) n0=some (.row ety esz n (.vs xs)):=get_same _ _ _
 have hget:∀k b,get H1 k=some b->get ((n0,Blk.row ety esz n (.vs xs))::H1) k=some b:=fun k b hk'=>by rw[get_other (Nat.ne_of_gt (hl k b hk').1)];exact hk'
 have hown:OwnE w' ety esz (e1.rv n0) n xs:=(hO1.hp {P:=P,T:=[],w0:=w,nt:=0} n0 _ hk).1
 refine⟨e1.rv n0,e1,rfoot (e1.rv n0),trivial,hE,hs,hb,⟨fun X k b hk'=>hO1.hp X k b (hget k b hk'),hl,fun k k' b b' y h1 h2=>hO1.sep k k' b b' y (hget k b h1) (hget k' b' h2),hO1.one⟩,fun k b hk'=>hob k b (hget k b hk'),
  fun y⟨k,b,hk',hy⟩=>hfr y ⟨k,b,hget k b hk',hy⟩,hO1.one n0,Nat.le_refl _,fun b hb'=>⟨hfr b ⟨n0,_,hk,hb'⟩,hown.lt hb',fun⟨k,c,hk',hy⟩=>?_⟩,XD.ok.mono hown.reads fun b hb=>hb.2⟩
 exact hO1.sep n0 k _ c b hk (hget k c hk') (Nat.ne_of_gt (hl k c hk').1) hb' hy
structure endP (X:Cx)(S:St)(K:St->Prop):Prop where
 out:∀e a w,Rep X e S a w->∃e' S',Rep X e' S' a w/\K S'
theorem end_here {K:St->Prop}(h:K S):endP X S K:=⟨fun e _ _ hR=>⟨e,S,hR,h⟩⟩
def St.frozR (S:St)(k j ty sz m:Nat)(l:List (List Value))(F':Nat->Prop)(E':World->Prop):St:=match S with
 |⟨fr,H,nx,_,_,g⟩=>⟨fr,(j,.row ty sz m (.vs l))::(k,.dead)::H,nx,F',E',g⟩
theorem end_freeze {K:St->Prop}(k j:Nat){ety esz n ty sz m:Nat}{xs:List (List Value)}{ys:Els}(ls:Value->List (List Value))(hkj:k≠j)(hk:get S.H k=some (.row ety esz n (.vs xs)))(hj:get S.H j=some (.row ty sz m ys))(hden:∀e:Env,ys.den e=ls (e.rv k))
 (hc:∀(u:Value)(G:Nat->Prop),(∀b,G b->¬S.F b)->u.oneCell'=true->St.forceAll (S.frozR k j ty sz m (ls u) (fun b=>S.F b\/G b) (fun w=>S.E w/\(XD.ok G w ⟨u,esz,n,xs⟩/\∀b,G b->S.F b\/G b))) fun S'=>endP X S' K):endP X S K:=by
 refine⟨fun e a w h=>?_⟩
 have hh:=h.hp k _ hk
 have hown:OwnE w ety esz (e.rv k) n xs:=hh.1
 have hj2:=h.hp j _ hj
 have hc:=hc (e.rv k) (rfoot (e.rv k)) (fun b hb=>h.ff k _ b hk hb) (h.one k)
 rw[forceAll_eq] at hc
 have hkill:=h.kill k (h.hlt k _ hk).1
 have hR:=hkill.learn (G:=rfoot (e.rv k)) (p:=fun G w=>XD.ok (rfoot (e.rv k)) w ⟨e.rv k,esz,n,xs⟩/\∀b,rfoot (e.rv k) b->G b) (fun b hb=>⟨hown.lt hb,fun k' c hk' hf=>?_,fun hm=>(h.mks b hm).2.2 k _ hk hb⟩)
  ⟨XD.ok.mono hown.reads (fun b hb=>hb.2),fun b hb=>hb⟩ (fun G G' w1 w2 hp hG hk'=>⟨⟨hp.1.1.keep (fun _ hb=>hb) (fun b hb=>hk' b (hp.2 b hb)),hp.1.2⟩,fun b hb=>hG b (hp.2 b hb)⟩)
 ·have hd:OwnE w ty sz (e.rv j) m (ls (e.rv k)):=by rw[<-hden e];exact hj2.1
  cases S with
  |mk fr H nx F E g=>
   have hset:=hR.setSame (k:=j) (b:=.row ty sz m ys) (b0:=.row ty sz m (.vs (ls (e.rv k)))) (by show get ((k,Blk.dead)::H) j=_;rw[get_other hkj];exact hj) hd.els_one (fun x hx=>hx) ⟨hd,hj2.2⟩
   exact hc.out e a w hset
 ·rcases get_cons hk' with⟨e1,e2⟩|⟨hne,hk2⟩
  ·subst e2;exact hf.elim
  ·exact h.sep k k' _ c b hk hk2 hne hb hf
theorem loop_ends (hT:TabOk X.P X.T){p:Code}{Q:Exit->St->Prop}{ι:Type}(fr:ι->List (Nat×SV))(H:ι->List (Nat×Blk))(F:ι->Nat->Prop)(E:ι->World->Prop)(ok:ι->Prop)(μ:ι->Nat)(i0:ι)(h0:ok i0)
 (hs:SubGo X (S.prune (liveAt X p)) (((S.prune (liveAt X p)).inv (writes p) (fr i0) (H i0)).knowing (F i0) (E i0)))
 (round:∀i,ok i->St.forceAll (((S.prune (liveAt X p)).inv (writes p) (fr i) (H i)).knowing (F i) (E i)) fun S1=>xcode X p S1 (then_ Q fun S'=>endP X S' fun S''=>∃j,ok j/\μ j<μ i/\SubGo X S'' (((S.prune (liveAt X p)).inv (writes p) (fr j) (H j)).knowing (F j) (E j)))):semP X (.loop p) S Q:=by
 refine⟨?_⟩
 intro e a w h Qr hQ
 obtain⟨e0,hR0⟩:=sub_get (sub_auto hs) (h.prune (liveAt X p))
 refine wpIn_loop_ghost (fun n a w=>∃i e,ok i/\μ i=n/\Rep X e (((S.prune (liveAt X p)).inv (writes p) (fr i) (H i)).knowing (F i) (E i)) a w) (μ i0) ⟨i0,e0,h0,rfl,hR0⟩ ?_
 rintro n a w ⟨i,e,hi,rfl,hR⟩
 have:=round i hi
 rw[forceAll_eq] at this
 refine xcode_ok hT p hR this (compat_then hQ fun e' S' a' w' hR' hS'=>?_)
 obtain⟨e1,S1,hR1,j,hj,hlt,h3⟩:=hS'.out e' a' w' hR'
 obtain⟨e2,hR2⟩:=sub_get (sub_auto h3) hR1
 exact⟨μ j,hlt,j,e2,hj,rfl,hR2⟩
end
end Go.Proofs.YtgkkpefpbfadoaaGreat.Sy
namespace Go.Proofs.YtgkkpefpbfadoaaGreat
open Go Go.RowKit
open Sy (C SV V1 Blk St XD Els)
theorem open_x {X:Sy.Cx}{S:St}{v:Value}{K:St->SV->Prop}(esz n:Nat)(xs:List (List Value))(h:XD.ok (fun b=>b<X.w0.heap.size) X.w0 ⟨v,esz,n,xs⟩)(ho:∀b,¬X.own b)(hk:K (S.new (.ext esz n (.vs xs))) (.c (.row S.nx))):Sy.openP X S v K:=
 Sy.open_in esz n xs (h.1.keep (fun b hb=>⟨hb,ho b⟩) (fun _ _=>rfl)) h.2 hk
theorem open_f {X:Sy.Cx}{S:St}{v:Value}{K:St->SV->Prop}(esz n:Nat)(xs:List (List Value))(h:XD.ok (fun b=>b<X.w0.heap.size/\¬X.own b) X.w0 ⟨v,esz,n,xs⟩)(hk:K (S.new (.ext esz n (.vs xs))) (.c (.row S.nx))):Sy.openP X S v K:=
 Sy.open_in esz n xs h.1 h.2 hk
theorem open_c {X:Sy.Cx}{S:St}{c:Code}{Q:Exit->St->Prop}(k o esz n:Nat)(xs:List (List Value)){ty:Nat}{cs:List C}{u:Value}(hk:Sy.get S.H k=some (.cells ty cs))(ho:cs[o]?=some (.v u))(h:XD.ok (fun b=>b<X.w0.heap.size) X.w0 ⟨u,esz,n,xs⟩)(hown:∀b,¬X.own b)
 (hc:St.forceAll {S with H:=(k,.cells ty (cs.set o (.row S.nx)))::(S.nx,.ext esz n (.vs xs))::S.H,nx:=S.nx+1} fun S'=>Sy.semP X c S' Q):Sy.semP X c S Q:=
 Sy.sem_subF (Sy.sub_open k o esz n xs hk ho (Sy.reads_w0 (h.1.keep (fun b hb=>⟨hb,hown b⟩) (fun _ _=>rfl))) h.2) hc
structure Opr where
 tag:Int
 width:Int
 ins:List Int
 a:Int
 b:Int
deriving DecidableEq
structure OpV where
 op:Opr
 iv:Value
def encOV (o:OpV):List Value:=[.int .i64 o.op.tag,.int .i64 o.op.width,o.iv,.int .i64 o.op.a,.int .i64 o.op.b]
def OOk (F:Nat->Prop)(w:World)(o:OpV):Prop:=XD.ok F w ⟨o.iv,1,o.op.ins.length,o.op.ins.map encI⟩
def GOk (F:Nat->Prop)(w:World)(v:Value)(gl:List OpV):Prop:=XD.ok F w ⟨v,5,gl.length,gl.map encOV⟩/\∀o∈gl,OOk F w o
theorem OOk.mono {F F':Nat->Prop}{w:World}{o:OpV}(h:OOk F w o)(hF:∀b,F b->F' b):OOk F' w o:=XD.ok.mono h hF
theorem OOk.keep {F F':Nat->Prop}{w w':World}{o:OpV}(h:OOk F w o)(hF:∀b,F b->F' b)(hk:∀b,F b->w'.heap[b]?=w.heap[b]?):OOk F' w' o:=⟨h.1.keep hF hk,h.2⟩
theorem GOk.mono {F F':Nat->Prop}{w:World}{v:Value}{gl:List OpV}(h:GOk F w v gl)(hF:∀b,F b->F' b):GOk F' w v gl:=⟨XD.ok.mono h.1 hF,fun o ho=>(h.2 o ho).mono hF⟩
theorem GOk.at {F:Nat->Prop}{w:World}{v:Value}{gl:List OpV}(h:GOk F w v gl){i:Nat}{o:OpV}(hi:gl[i]?=some o):OOk F w o:=h.2 o (List.mem_of_getElem? hi)
theorem opr_ext {x y:Opr}(h1:x.tag=y.tag)(h2:x.width=y.width)(h3:x.ins=y.ins)(h4:x.a=y.a)(h5:x.b=y.b):x=y:=by cases x;cases y;simp_all
theorem opr_ne {x y:Opr}(h:x.tag≠y.tag\/x.width≠y.width\/x.ins≠y.ins\/x.a≠y.a\/x.b≠y.b):x≠y:=by
 rintro rfl
 rcases h with h|h|h|h|h<;>exact h rfl
theorem XD.later {X:Sy.Cx}{e:Sy.Env}{S:St}{a:Act}{w:World}(h:Sy.Rep X e S a w){d:XD}(hr:XD.ok (fun b=>b<X.w0.heap.size/\¬X.own b) X.w0 d):XD.ok S.F w d:=⟨Sy.reads_later h hr.1,hr.2⟩
theorem GOk.later {X:Sy.Cx}{e:Sy.Env}{S:St}{a:Act}{w:World}{v:Value}{gl:List OpV}(h:Sy.Rep X e S a w)(hr:GOk (fun b=>b<X.w0.heap.size/\¬X.own b) X.w0 v gl):GOk S.F w v gl:=⟨XD.later h hr.1,fun o ho=>XD.later h (hr.2 o ho)⟩
theorem GOk.one {F:Nat->Prop}{w:World}{v:Value}{gl:List OpV}(h:GOk F w v gl):v.oneCell'=true:=Sy.ReadsE.one h.1.1
def opsOf (gl:List OpV):List Opr:=gl.map (·.op)
theorem opsOf_get {gl:List OpV}{i:Nat}{o:OpV}(h:gl[i]?=some o):(opsOf gl)[i]?=some o.op:=by simp[opsOf,h]
theorem opsOf_len (gl:List OpV):(opsOf gl).length=gl.length:=by simp[opsOf]
def risesB (last:Int)(below:Int):List Int->Bool
 |[]=>true
 |n::r=>decide (last<n)&&decide (n<below)&&risesB n below r
def AloneP (o:Opr)(i:Int):Prop:=1<=o.width/\o.width<=3/\risesB (-1) i o.ins=true/\
 ((o.tag=6/\1<(o.ins.length:Int)/\o.a=0/\o.b=0)\/(o.tag=1/\(o.ins.length:Int)=0/\0<=o.a/\o.a<4/\o.b=0)\/(o.tag=2/\(o.ins.length:Int)=1)\/(o.tag=3/\(o.ins.length:Int)=1/\0<o.a/\0<=o.b/\o.b<o.a)\/
  (o.tag=5/\(o.ins.length:Int)=1/\1<=o.a/\o.a<=8/\o.b=0)\/((o.tag=4\/o.tag=7)/\(o.ins.length:Int)=1/\o.a=0/\o.b=0))
instance(o:Opr)(i:Int):Decidable (AloneP o i):=by unfold AloneP;infer_instance
def aloneB (o:Opr)(i:Int):Bool:=decide (AloneP o i)
def lastI (l:List Int):Nat->Int
 |0=>-1
 |n+1=>(l[n]?).getD 0
theorem lastI_succ (l:List Int)(n:Nat)(h:n<l.length):lastI l (n+1)=l[n]:=by simp[lastI,List.getElem?_eq_getElem h]
theorem rises_drop (below:Int)(l:List Int)(n:Nat)(h:n<l.length)(last:Int):risesB last below (l.drop n)=(decide (last<l[n])&&decide (l[n]<below)&&risesB l[n] below (l.drop (n+1))):=by
 rw[List.drop_eq_getElem_cons h];rfl
end Go.Proofs.YtgkkpefpbfadoaaGreat
namespace Go.Proofs.YtgkkpefpbfadoaaGreat
open Go Go.RowKit
open Sy (C SV V1 Blk St XD Els)
set_option maxRecDepth 10000
theorem rises_any (v:Value)(l:List Int)(below:Int)(w:World)(hr:XD.ok (fun b=>b<w.heap.size) w ⟨v,1,l.length,l.map encI⟩):
 Calls Tryz.prog 224 #[v,.int .i64 below] w (Sy.Ret (.bool (risesB (-1) below l)) w):=by
 have hl:=ok_len hr
 refine Sy.calls_of Sy.lv224 Sy.tab_ok Tryz.func224 rfl _ Tryz.ntmps224 [⟨v,1,l.length,l.map encI⟩] [.c (.row 0),.c (.v (.int .i64 below))] rfl rfl rfl ⟨hr,trivial⟩ (V ?_)
 refine Sy.loop_inv Sy.tab_ok (fun n:Nat=>[(10,.c (.v (.int .i64 n))),(5,.c (.v (.int .i64 (lastI l n))))]) (fun _=>[]) (fun n=>n<=l.length/\risesB (lastI l n) below (l.drop n)=risesB (-1) below l) (fun n=>l.length-n) 0 ⟨Nat.zero_le _,rfl⟩ ?_ (fun n hle=>?_)
 ·exact Vs0
 ·obtain⟨hle,hok⟩:=hle
  refine Vc (Vj (fun hh=>?_) fun hh=>?_)
  ·have hlt:n<l.length:=by omega
   have e1:=rises_drop below l n hlt (lastI l n)
   have e2:=lastI_succ l n hlt
   refine Sy.el_map l[n] (List.getElem?_eq_getElem hlt) ?_
   generalize l[n]=x at *
   generalize lastI l n=y at *
   refine V (Vj (fun hh=>?_) fun hh=>Vj (fun hh=>?_) fun hh=>?_)
   ·exact Sy.fin_val (fun e=>congrArg Value.bool (by rw[<-hok,e1,decide_eq_false (by omega)];rfl))
   ·exact Sy.fin_val (fun e=>congrArg Value.bool (by rw[<-hok,e1,decide_eq_true (show y<x by omega),decide_eq_false (by omega)];rfl))
   ·refine⟨n+1,⟨by omega,?_⟩,by omega,?_⟩
    ·rw[e2,<-hok,e1,decide_eq_true (show y<x by omega),decide_eq_true (show x<below by omega)];rfl
    ·rw[e2]
     exact Vs0
  ·have e:n=l.length:=by omega
   subst e
   exact Sy.fin_val (fun e=>congrArg Value.bool (by rw[<-hok,List.drop_length];rfl))
set_option maxHeartbeats 2000000 in
theorem alone_any (o:OpV)(i:Int)(w:World)(hr:OOk (fun b=>b<w.heap.size) w o):
 Calls Tryz.prog 212 #[.agg #[.int .i64 o.op.tag,.int .i64 o.op.width,o.iv,.int .i64 o.op.a,.int .i64 o.op.b],.int .i64 i] w (Sy.Ret (.bool (aloneB o.op i)) w):=by
 obtain⟨⟨tag,width,l,a,b⟩,v⟩:=o
 have hr:XD.ok (fun b=>b<w.heap.size) w ⟨v,1,l.length,l.map encI⟩:=hr
 have hl:=ok_len hr
 refine Sy.calls_of Sy.lv212 Sy.tab_ok Tryz.func212 rfl _ Tryz.ntmps212 [⟨v,1,l.length,l.map encI⟩] [.agg [.v (.int .i64 tag),.v (.int .i64 width),.row 0,.v (.int .i64 a),.v (.int .i64 b)],.c (.v (.int .i64 i))] rfl rfl rfl ⟨hr,trivial⟩ ?_
 generalize hrs:risesB (-1) i l=rs
 have key:aloneB ⟨tag,width,l,a,b⟩ i=decide (1<=width/\width<=3/\rs=true/\((tag=6/\1<(l.length:Int)/\a=0/\b=0)\/(tag=1/\(l.length:Int)=0/\0<=a/\a<4/\b=0)\/(tag=2/\(l.length:Int)=1)\/(tag=3/\(l.length:Int)=1/\0<a/\0<=b/\b<a)\/(tag=5/\(l.length:Int)=1/\1<=a/\a<=8/\b=0)\/((tag=4\/tag=7)/\(l.length:Int)=1/\a=0/\b=0))):=by
  unfold aloneB AloneP
  simp only[hrs]
 rw[key]
 clear key
 by_cases hw:1<=width/\width<=3
 ·refine V (Y1 fun hh=>Y1 fun hh=>?_)
  refine Sy.call_val (.c (.v (.bool rs))) Tryz.call224 rfl (fun e a w' h=>by have:=rises_any (e.rv 0) l i w' (Sy.row_reads h (.inr rfl));rw[hrs] at this;exact this) ?_
  cases rs
  ·refine V ?_
   exact Sy.fin_val (fun e=>congrArg Value.bool (by simp))
  ·have hcase:tag=1\/tag=2\/tag=3\/tag=4\/tag=5\/tag=6\/tag=7\/(tag≠1/\tag≠2/\tag≠3/\tag≠4/\tag≠5/\tag≠6/\tag≠7):=by omega
   obtain⟨hw1,hw2⟩:=hw
   have hn0:(0:Int)<=(l.length:Int):=Int.natCast_nonneg _
   rcases hcase with rfl|rfl|rfl|rfl|rfl|rfl|rfl|⟨t1,t2,t3,t4,t5,t6,t7⟩
   all_goals((repeat' first|refine Y ?_|refine Y2 ?_ ?_|refine Y1 fun hh=>?_|exact Y0.mk);(all_goals(try conv=>whnf)))
   all_goals exact Sy.fin_val (fun e=>congrArg Value.bool (by
    rw[Bool.eq_iff_iff]
    simp only[decide_eq_true_eq,beq_iff_eq,true_and,and_true,Bool.false_eq_true,true_iff,false_iff, *]
    try(simp;done)
    try omega))
 ·refine V (Vj (fun hh=>?_) fun hh=>Y1 fun hh=>?_)
  all_goals exact Sy.fin_val (fun e=>congrArg Value.bool (by rw[eq_comm];exact decide_eq_false (fun h=>by omega)))
theorem rises_ne {l:List Int}{below:Int}{n:Nat}(hlt:n<l.length){y:Int}(hok:risesB y below (l.drop n)=risesB (-1) below l)(hn:¬(y<l[n]/\l[n]<below)):risesB (-1) below l=false:=by
 rw[<-hok,rises_drop below l n hlt]
 by_cases h1:y<l[n]
 ·rw[decide_eq_true h1,decide_eq_false (fun h=>hn ⟨h1,h⟩)];rfl
 ·rw[decide_eq_false h1];rfl
set_option maxHeartbeats 4000000 in
theorem ralone_any (o:OpV)(i:Int)(w:World)(hr:OOk (fun b=>b<w.heap.size) w o):
 Calls Tryz.prog 216 #[.agg #[.int .i64 o.op.tag,.int .i64 o.op.width,o.iv,.int .i64 o.op.a,.int .i64 o.op.b],.int .i64 i] w (Sy.Ret (.bool (aloneB o.op i)) w):=by
 obtain⟨⟨tag,width,l,a,b⟩,v⟩:=o
 have hr:XD.ok (fun b=>b<w.heap.size) w ⟨v,1,l.length,l.map encI⟩:=hr
 have hl:=ok_len hr
 refine Sy.calls_of Sy.lv216 Sy.tab_ok Tryz.func216 rfl _ Tryz.ntmps216 [⟨v,1,l.length,l.map encI⟩] [.agg [.v (.int .i64 tag),.v (.int .i64 width),.row 0,.v (.int .i64 a),.v (.int .i64 b)],.c (.v (.int .i64 i))] rfl rfl rfl ⟨hr,trivial⟩ ?_
 have key:∀rs,risesB (-1) i l=rs->aloneB ⟨tag,width,l,a,b⟩ i=decide (1<=width/\width<=3/\rs=true/\((tag=6/\1<(l.length:Int)/\a=0/\b=0)\/(tag=1/\(l.length:Int)=0/\0<=a/\a<4/\b=0)\/(tag=2/\(l.length:Int)=1)\/(tag=3/\(l.length:Int)=1/\0<a/\0<=b/\b<a)\/(tag=5/\(l.length:Int)=1/\1<=a/\a<=8/\b=0)\/((tag=4\/tag=7)/\(l.length:Int)=1/\a=0/\b=0))):=by
  intro rs hrs
  unfold aloneB AloneP
  simp only[hrs]
 by_cases hw:1<=width/\width<=3
 ·refine V (Y1 fun hh=>Y1 fun hh=>?_)
  refine Sy.loop_inv Sy.tab_ok (fun n:Nat=>[(20,.c (.v (.int .i64 n)))]) (fun _=>[]) (fun n=>n<=l.length/\risesB (lastI l n) i (l.drop n)=risesB (-1) i l/\-1<=lastI l n) (fun n=>l.length-n) 0 ⟨Nat.zero_le _,rfl,Int.le_refl _⟩ ?_ (fun n hle=>?_)
  ·exact Vs0
  ·obtain⟨hle,hok,hpos⟩:=hle
   refine Vc (Vj (fun hh=>?_) fun hh=>?_)
   ·have hlt:n<l.length:=by omega
    have e1:=rises_drop i l n hlt (lastI l n)
    have e2:=lastI_succ l n hlt
    have hne:=rises_ne hlt hok
    obtain⟨q,hq,hln⟩:∃q,l[((n:Int)-1).toNat]?=some q/\(0<n->lastI l n=q):=⟨l[n-1],by rw[show((n:Int)-1).toNat=n-1 by omega];exact List.getElem?_eq_getElem (by omega),fun h=>by
     obtain⟨m,rfl⟩:∃m,n=m+1:=⟨n-1,by omega⟩
     rw[lastI_succ _ _ (by omega)];rfl⟩
    have hl0:n=0->lastI l n=-1:=fun h=>by subst h;rfl
    refine Sy.el_map l[n] (List.getElem?_eq_getElem hlt) ?_
    generalize l[n]=x at *
    generalize lastI l n=y at *
    refine V (Vj (fun hh=>?_) fun hh=>Vj (fun hh=>?_) fun hh=>Vj (fun hh=>?_) fun hh=>?_)
    any_goals(refine Sy.el_map q hq ?_;refine V (Vj (fun hh=>?_) fun hh=>?_))
    all_goals first
     |(refine⟨n+1,⟨by omega,?_,?_⟩,by omega,?_⟩
       ·rw[e2,<-hok,e1,decide_eq_true (show y<x by first|(have:=hln (by omega);omega)|(have:=hl0 (by omega);omega)),decide_eq_true (show x<i by omega)];rfl
       ·rw[e2];omega
       ·exact Vs0;done)
     |exact Sy.fin_val (fun e=>congrArg Value.bool (by rw[key false (hne (by first|omega|(have:=hln (by omega);omega)))];simp))
   ·have e:n=l.length:=by omega
    subst e
    rw[List.drop_length] at hok
    rw[key true hok.symm]
    have hcase:tag=1\/tag=2\/tag=3\/tag=4\/tag=5\/tag=6\/tag=7\/(tag≠1/\tag≠2/\tag≠3/\tag≠4/\tag≠5/\tag≠6/\tag≠7):=by omega
    obtain⟨hw1,hw2⟩:=hw
    have hn0:(0:Int)<=(l.length:Int):=Int.natCast_nonneg _
    refine zv ?_
    all_goals(refine Sy.draw_go [] (by kernel_rfl) ?_;intro e0;conv=>whnf)
    all_goals(refine zt 0 rfl ?_)
    all_goals(conv=>whnf)
    all_goals(refine zt 1 rfl ?_)
    all_goals(conv=>whnf)
    all_goals(refine zt 2 rfl ?_)
    all_goals(refine V ?_)
    all_goals(refine zt 3 rfl ?_)
    all_goals(conv=>whnf)
    all_goals(refine zt 4 rfl ?_)
    all_goals(conv=>whnf)
    all_goals(refine zt 5 rfl ?_)
    all_goals(refine V ?_)
    all_goals(refine zt 6 rfl ?_)
    all_goals(conv=>whnf)
    all_goals(refine zt 7 rfl ?_)
    all_goals(refine V (Vj (fun hh=>?_) fun hh=>?_))
    all_goals(refine zt 8 rfl ?_)
    all_goals(refine V ?_)
    all_goals(refine zt 9 rfl ?_)
    all_goals(refine V ?_)
    all_goals(refine zt 10 rfl ?_)
    all_goals(refine V ?_)
    all_goals(refine zt 11 rfl ?_)
    all_goals(conv=>whnf)
    all_goals(refine zt 12 rfl ?_)
    all_goals(conv=>whnf)
    all_goals(refine zw ?_)
    skip
    all_goals rcases hcase with rfl|rfl|rfl|rfl|rfl|rfl|rfl|⟨t1,t2,t3,t4,t5,t6,t7⟩
    all_goals((repeat' first|refine Y ?_|refine Y2 ?_ ?_|refine Y1 fun hh=>?_|exact Y0.mk);(all_goals(try conv=>whnf)))
    all_goals exact Sy.fin_val (fun e=>congrArg Value.bool (by
     rw[Bool.eq_iff_iff]
     simp only[decide_eq_true_eq,beq_iff_eq,true_and,and_true,Bool.false_eq_true,false_iff, *]
     try(simp;done)
     try omega))
 ·refine V (Vj (fun hh=>?_) fun hh=>Y1 fun hh=>?_)
  all_goals exact Sy.fin_val (fun e=>congrArg Value.bool (by rw[key _ rfl,eq_comm];exact decide_eq_false (fun h=>by omega)))
end Go.Proofs.YtgkkpefpbfadoaaGreat
