/-
  The symbolic executor, 17: callees that write a row in place; rows that become known memory; loops that learn.
-/
import Derived.Test.YtgkkpefpbfadoaaGreatDk6
import Derived.LoopNIn
namespace Go.Proofs.YtgkkpefpbfadoaaGreat.Sy
open Go Go.RowKit
section
variable {X : Cx} {e : Env} {S : St} {a : Act} {w : World}
def RetMut (v0:Value)(v:Value)(r:RD)(w:World)(E:Ending)(w':World):Prop:=E=.returned v/\Grown v0 w w'/\OwnE w' r.ety r.esz v0 r.n r.xs
theorem Rep.mut (h:Rep X e S a w){k ety esz n:Nat}{xs:Els}{r:RD}{w':World}(hH:get S.H k=some (.row ety esz n xs))(hg:Grown (e.rv k) w w')(hown:OwnE w' r.ety r.esz (e.rv k) r.n r.xs)(hes:r.esz=esz):
 Rep X e (S.setH k (.row r.ety r.esz r.n (.vs r.xs))) a w':=by
 have hh:=h.hp k _ hH
 refine h.step (k0:=k) (b0:=.row r.ety r.esz r.n (.vs r.xs)) (Env.same.refl _ _) rfl (Nat.le_refl _) (h.hlt k _ hH).1 hown.els_one hg.os hg.tape hg.output hg.size (fun x hx=>hg.block x (h.kept_lt hx) (fun hf=>h.not_kept hH hf hx)) h.one
  ⟨hown,by rw[hes];exact hh.2.1,hh.2.2⟩ (fun x hx=>h.not_kept hH hx)
theorem call_mut {d:Option Nat}{f:Nat}{args:List SV}{K:St->Prop}(k:Nat)(r:RD)(v:SV)(hcall:∀as w,(callFunc f as).run X.P w=.ok (.enter f as) w)
 (hc:∀e a w,Rep X e S a w->Calls X.P f (denAll e args) w (RetMut (e.rv k) (v.den e) r w))(hk:K ((S.setH k (.row r.ety r.esz r.n (.vs r.xs))).put d v))
 (hH:∃ety n xs,get S.H k=some (.row ety r.esz n xs):=by exact⟨_,_,_,rfl⟩)(hl:v.lt S.nx=true:=by rfl):callP X S d f args K:=by
 obtain⟨ety,n,xs,hH⟩:=hH
 refine⟨fun hd _=>.inl ⟨hcall,fun e a w h KK hKK=>callsIn_of ((hc e a w h).mono fun E w'⟨hE,hg,hown⟩=>⟨_,hE,?_⟩)⟩⟩
 exact hKK _ _ _ _ ((h.mut hH hg hown rfl).put hd hl) hk
def St.frozen (S:St)(k t:Nat)(u:Value)(F':Nat->Prop)(E':World->Prop):St:=match S with
 |⟨fr,H,nx,_,_,g⟩=>⟨(t,.c (.v u))::fr,(k,.dead)::H,nx,F',E',g⟩
theorem sub_bufrow {S:St}(t k n ety esz cap:Nat)(xs:List (List Value))(ht:get S.fr t=some (.c (.sl k 0 n)))(hH:get S.H k=some (.buf ety esz cap (.vs xs)))(hn:n<=xs.length):
 Sub X S {S with fr:=(t,.c (.row S.nx))::S.fr,H:=(S.nx,.row ety esz n (.vs (xs.take n)))::(k,.dead)::S.H,nx:=S.nx+1}:=by
 refine⟨?_⟩
 intro e a w h
 obtain⟨hown,hes,hcp,hra⟩:=h.hp k _ hH
 have hden:C.den e (.sl k 0 n)=.slice (some ⟨e.ad k,0,none⟩) n cap:=by
  simp only[C.den,Nat.zero_mul,hra,hcp,Nat.sub_zero];rfl
 have hkill:=h.kill k (h.hlt k _ hH).1
 have hown':=hown
 obtain⟨h1,h2,h3,h4,cur,h5,h6,h7,h8⟩:=hown
 have h1:∀c∈xs,c.length=esz:=h1
 have hl:(xs.take n).length=n:=by rw[List.length_take];omega
 have h2':xs.length<=cap:=h2
 have h7':cur.toList.take (xs.length*esz)=xs.flatten:=h7
 have hown2:OwnE w ety esz (.slice (some ⟨e.ad k,0,none⟩) n cap) n (xs.take n):=by
  refine⟨hl,fun c hc=>h1 c (List.mem_of_mem_take hc),.inr ⟨e.ad k,cap,rfl,fun c hc=>h1 c (List.mem_of_mem_take hc),by rw[hl];omega,h3,h4,cur,h5,h6,?_,h8⟩⟩
  have hf:(xs.take n).flatten=xs.flatten.take (n*esz):=by
   have h0:=List.take_append_drop n xs
   have e1:xs.flatten=(xs.take n).flatten++(xs.drop n).flatten:=by rw[<-List.flatten_append,h0]
   have e2:(xs.take n).flatten.length=n*esz:=by rw[flat_len (fun c hc=>h1 c (List.mem_of_mem_take hc)),hl]
   have e3:List.take (n*esz) ((xs.take n).flatten++(xs.drop n).flatten)=(xs.take n).flatten:=by
    rw[List.take_append_of_le_length (by omega)]
    exact List.take_of_length_le (by omega)
   rw[e1]
   exact e3.symm
  rw[hl,hf,<-h7',List.take_take,Nat.min_eq_left (Nat.mul_le_mul_right _ hn)]
 have hR:=hkill.newRow (w':=w) (ety:=ety) (esz:=esz) (n:=n) (xs:=.vs (xs.take n)) (v:=.slice (some ⟨e.ad k,0,none⟩) n cap) (hown2.els_one) rfl rfl rfl (Nat.le_refl _) (fun _ _=>rfl) hown2 (fun x hx hk=>by
  obtain⟨p,m,c,hv,hc,rfl⟩:=hx
  cases hv
  refine h.not_kept hH (x:=e.ad k) rfl ?_
  rcases hk with hk|⟨k',b',hk',hne,hf⟩|hk
  ·exact .inl hk
  ·rcases get_cons hk' with⟨e1,e2⟩|⟨hne',hk2⟩
   ·subst e2;exact hf.elim
   ·exact .inr (.inl ⟨k',b',hk2,Ne.symm hne',hf⟩)
  ·exact .inr (.inr hk))
 refine⟨_,{hR with fr:=fun i v hv=>?_,frlt:=fun i v hv=>?_}⟩
 ·rcases get_cons hv with⟨rfl,rfl⟩|⟨_,hv⟩
  ·have h0:=h.fr t _ ht
   rw[h0]
   show some (C.den e (.sl k 0 n))=some ((e.withRow S.nx _ esz).rv S.nx)
   rw[Env.withRow_rv,hden]
  ·exact hR.fr i v hv
 ·rcases get_cons hv with⟨rfl,rfl⟩|⟨_,hv⟩
  ·exact blt_iff.2 (Nat.lt_succ_self _)
  ·exact hR.frlt i v hv
def St.knowing (S:St)(F':Nat->Prop)(E':World->Prop):St:=match S with|⟨fr,H,nx,_,_,g⟩=>⟨fr,H,nx,F',E',g⟩
theorem loop_learn (hT:TabOk X.P X.T){p:Code}{Q:Exit->St->Prop}{ι:Type}(fr:ι->List (Nat×SV))(H:ι->List (Nat×Blk))(F:ι->Nat->Prop)(E:ι->World->Prop)(ok:ι->Prop)(μ:ι->Nat)(i0:ι)(h0:ok i0)
 (hs:SubGo X (S.prune (liveAt X p)) (((S.prune (liveAt X p)).inv (writes p) (fr i0) (H i0)).knowing (F i0) (E i0)))
 (round:∀i,ok i->St.forceAll (((S.prune (liveAt X p)).inv (writes p) (fr i) (H i)).knowing (F i) (E i)) fun S1=>xcode X p S1 (then_ Q fun S'=>∃j,ok j/\μ j<μ i/\SubGo X S' (((S.prune (liveAt X p)).inv (writes p) (fr j) (H j)).knowing (F j) (E j)))):semP X (.loop p) S Q:=by
 refine⟨?_⟩
 intro e a w h Qr hQ
 obtain⟨e0,hR0⟩:=sub_get (sub_auto hs) (h.prune (liveAt X p))
 refine wpIn_loop_ghost (fun n a w=>∃i e,ok i/\μ i=n/\Rep X e (((S.prune (liveAt X p)).inv (writes p) (fr i) (H i)).knowing (F i) (E i)) a w) (μ i0) ⟨i0,e0,h0,rfl,hR0⟩ ?_
 rintro n a w ⟨i,e,hi,rfl,hR⟩
 have:=round i hi
 rw[forceAll_eq] at this
 refine xcode_ok hT p hR this (compat_then hQ fun e' S' a' w' hR' hS'=>?_)
 obtain⟨j,hj,hlt,h3⟩:=hS'
 obtain⟨e2,hR2⟩:=sub_get (sub_auto h3) hR'
 exact⟨μ j,hlt,j,e2,hj,rfl,hR2⟩
theorem meetL {x y:Code}{Q:Exit->St->Prop}{ι:Type}(bs:ι->List Blk)(fr:ι->List (Nat×SV))(H:ι->List (Nat×Blk))(F:ι->Nat->Prop)(E:ι->World->Prop)(ok:ι->Prop)(_:TabOk X.P X.T)
 (hx:semP X x S (then_ Q fun S'=>∃j,ok j/\SubGo X S' (((((S.prune (liveAt X x)).prune (liveAt X y)).inv (writes x) (fr j) (H j)).news (bs j)).knowing (F j) (E j))))
 (hy:∀i,ok i->St.forceAll (((((S.prune (liveAt X x)).prune (liveAt X y)).inv (writes x) (fr i) (H i)).news (bs i)).knowing (F i) (E i)) fun S1=>xcode X y S1 Q):semP X x S (then_ Q fun S'=>xcode X y S' Q):=by
 refine⟨?_⟩
 intro e a w h Qr hQ
 refine sem_get hx h (fun ex e S' a w hR hS'=>?_)
 cases ex with
 |normal=>
  obtain⟨i,hi,h3⟩:=hS'
  obtain⟨e2,hR2⟩:=sub_get (sub_auto h3) hR
  have:=hy i hi
  rw[forceAll_eq] at this
  exact hQ .normal e2 _ _ _ hR2 this
 |exit id=>exact hQ _ _ _ _ _ hR hS'
 |goto l=>exact hQ _ _ _ _ _ hR hS'
 |ret=>exact hQ _ _ _ _ _ hR hS'
 |panic ch=>exact hQ _ _ _ _ _ hR hS'
 |outgrown=>exact hQ _ _ _ _ _ hR hS'
theorem cut_meet (hT:TabOk X.P X.T){x y:Code}{Q:Exit->St->Prop}{ι:Type}(fr:ι->List (Nat×SV))(H:ι->List (Nat×Blk))(ok:ι->Prop)
 (hx:semP X x S (then_ Q fun S'=>∃j,ok j/\SubGo X S' (((S.prune (liveAt X x)).prune (liveAt X y)).inv (writes x) (fr j) (H j))))
 (hy:∀i,ok i->St.forceAll (((S.prune (liveAt X x)).prune (liveAt X y)).inv (writes x) (fr i) (H i)) fun S1=>xcode X y S1 Q):cutP X x y S Q:=by
 refine cut_sem ⟨?_⟩
 intro e a w h Qr hQ
 refine wpIn_seq (sem_get hx h (compat_then hQ fun e' S' a' w' hR hS'=>?_))
 obtain⟨i,hi,h3⟩:=hS'
 obtain⟨e2,hR2⟩:=sub_get (sub_auto h3) hR
 have:=hy i hi
 rw[forceAll_eq] at this
 exact xcode_ok hT y hR2 this hQ
end
end Go.Proofs.YtgkkpefpbfadoaaGreat.Sy
namespace Go.Proofs.YtgkkpefpbfadoaaGreat.Sy
open Go Go.RowKit
def Blk.noRec:Blk->Bool
 |.lrec _ _ _ _ _ _=>false
 |_=>true
def Blk.ownB:Blk->Bool
 |.lrec _ _ _ _ _ _=>false
 |.ext _ _ _=>false
 |_=>true
theorem Blk.holds_cx {F:Nat->Prop}{X X':Cx}{e:Env}{k:Nat}{w:World}{b:Blk}(hb:b.noRec=true)(h:b.holds F X e k w):b.holds F X' e k w:=by
 cases b<;>first|exact h|cases hb
theorem Blk.ownB_noRec {b:Blk}(h:b.ownB=true):b.noRec=true:=by cases b<;>first|rfl|cases h
structure OwnH (F:Nat->Prop)(e:Env)(n:Nat)(H:List (Nat×Blk))(w:World):Prop where
 hp:∀X k b,get H k=some b->b.holds F X e k w
 hlt:∀k b,get H k=some b->k<n/\b.lt n
 sep:∀k k' b b' x,get H k=some b->get H k'=some b'->k≠k'->b.foot e k x->b'.foot e k' x->False
 one:∀k,(e.rv k).oneCell'=true
def ownOf (e:Env)(H:List (Nat×Blk))(x:Nat):Prop:=∃k b,get H k=some b/\b.foot e k x
def frz (e:Env)(H:List (Nat×Blk))(w:World)(x:Nat):Prop:=x<w.heap.size/\¬ownOf e H x
structure Ctr (α:Type) where
 avs:List SV
 n0:Nat
 H0:List (Nat×Blk)
 pre:(Nat->Prop)->World->Prop:=fun _ _=>True
 p:α->Prop:=fun _=>True
 sv:α->SV
 n1:α->Nat
 H1:α->List (Nat×Blk)
 learn:Bool:=false
 q:α->(Nat->Prop)->World->Prop:=fun _ _ _=>True
def RetOwn {α:Type}(c:Ctr α)(e0:Env)(w:World)(E:Ending)(w':World):Prop:=
 ∃x e1,∃G:Nat->Prop,c.p x/\E=.returned ((c.sv x).den e1)/\Env.same c.n0 e0 e1/\Bel (ownOf e0 c.H0) w w'/\OwnH (fun _=>False) e1 (c.n1 x) (c.H1 x) w'/\(∀k b,get (c.H1 x) k=some b->b.ownB=true)/\
  (∀y,ownOf e1 (c.H1 x) y->ownOf e0 c.H0 y\/w.heap.size<=y)/\(c.sv x).lt (c.n1 x)=true/\c.n0<=c.n1 x/\(∀b,G b->(ownOf e0 c.H0 b\/w.heap.size<=b)/\b<w'.heap.size/\¬ownOf e1 (c.H1 x) b)/\c.q x G w'
def Does {α:Type}(P:Program)(f:Nat)(c:Ctr α):Prop:=
 ∀e0 w,OwnH (frz e0 c.H0 w) e0 c.n0 c.H0 w->c.pre (frz e0 c.H0 w) w->Calls P f (denAll e0 c.avs) w (RetOwn c e0 w)
theorem does_of {α:Type}(lv:List (Nat×List Nat)){P:Program}{T:Tab}{f:FuncId}{fn:Func}{code:Code}(hT:TabOk P T)(hf:P.funcs[f]?=some fn)(hb:fn.body=some code)(nt:Nat)(hnt:fn.ntmps=nt)(c:Ctr α)
 (hl:allLt c.n0 c.avs=true)(hn:Nat.ble c.avs.length nt=true)
 (hx:∀e0 w,c.pre (frz e0 c.H0 w) w->St.forceAll ⟨number 0 c.avs,c.H0,c.n0,frz e0 c.H0 w,fun _=>True,[]⟩ fun S=>xcode {P:=P,T:=T,w0:=w,nt:=nt,own:=ownOf e0 c.H0,n0:=c.n0,e0:=e0,lv:=lv} code S (xret {P:=P,T:=T,w0:=w,nt:=nt,own:=ownOf e0 c.H0,n0:=c.n0,e0:=e0,lv:=lv} fn (RetOwn c e0 w))):Does P f c:=by
 intro e0 w hO hpre
 have hs:Env.same c.n0 e0 {e0 with G:=[]}:=fun _ _=>⟨rfl,rfl,rfl,rfl,rfl⟩
 have hx:=hx e0 w hpre
 rw[forceAll_eq] at hx
 have hn:=Nat.le_of_ble_eq_true hn
 have hsz:(denAll e0 c.avs).size=c.avs.length:=by simp[denAll]
 have h0:Rep {P:=P,T:=T,w0:=w,nt:=nt,own:=ownOf e0 c.H0,n0:=c.n0,e0:=e0,lv:=lv} {e0 with G:=[]} ⟨[],c.H0,c.n0,frz e0 c.H0 w,fun _=>True,[]⟩ (actOf (denAll e0 c.avs) nt) w:=
  {sz:=actOf_size (by omega),fr:=(by intro t v h;cases h),frlt:=(by intro t v h;cases h),hp:=fun k b hk=>Blk.holds_keep (hO.hp _ k b hk) hs (hO.hlt k b hk).1 (hO.hlt k b hk).2 (fun _ h=>h) (fun _ _=>rfl) (fun _ _=>rfl),hlt:=hO.hlt,sep:=fun k k' b b' x hk hk' hne hx hx'=>hO.sep k k' b b' x hk hk' hne (Blk.foot_same hs (hO.hlt k b hk).1 hx) (Blk.foot_same hs (hO.hlt k' b' hk').1 hx'),
   ff:=fun k b x hk hx hF=>hF.2 ⟨k,b,hk,Blk.foot_same hs (hO.hlt k b hk).1 hx⟩,bel:=⟨rfl,rfl,rfl,Nat.le_refl _,fun _ _ _=>rfl⟩,fl:=fun x hx=>hx.1,f0:=fun x hx ho=>⟨hx,ho⟩,ev:=fun _ _=>trivial,one:=hO.one,
   gl:=(by intro i fr h;simp at h),glen:=rfl,mkd:=rfl,mnd:=List.nodup_nil,mks:=(by intro D hD;cases hD),es:=hs,n0:=Nat.le_refl _,pin:=(by intro p hp;cases hp),rdm:=(by intro h;cases h)}
 have hden:denAll e0 c.avs=denAll {e0 with G:=[]} c.avs:=by
  unfold denAll
  rw[List.map_congr_left fun v hv=>(SV.den_same hs (allLt_mem hl v hv)).symm]
 have h3:=h0.setFr c.avs hden (fun v hv=>allLt_mem hl v hv) hn
 exact calls_go hT hf hb hnt h3 hx
def V1sEq (ρ:Nat->Nat)(n:Nat):List V1->List V1->Prop
 |[],[]=>True
 |.c x::r,.c y::r'=>CEq ρ n x y/\V1sEq ρ n r r'
 |.agg x::r,.agg y::r'=>CsEq ρ n x y/\V1sEq ρ n r r'
 |_,_=>False
def TEq (ρ:Nat->Nat)(n:Nat):SV->SV->Prop
 |.tup x,.tup y=>V1sEq ρ n x y
 |x,y=>SVEq ρ n x y
theorem V1sEq.den {ρ:Nat->Nat}{n m:Nat}{e:Env}:∀{x y:List V1},V1sEq ρ n x y->y.map (V1.den e)=x.map (V1.den (e.ren ρ))/\(ltAll1 m y=true->ltAll1 n x=true)
 |[],[],_=>⟨rfl,fun _=>rfl⟩
 |.c x::r,.c y::r',h=>by
  obtain⟨h1,h2⟩:=h
  obtain⟨i1,i2⟩:=V1sEq.den (e:=e) (m:=m) h2
  obtain⟨j1,j2⟩:=h1.den (e:=e) (m:=m)
  refine⟨by simp only[List.map_cons,V1.den,j1,i1],fun hl=>ltAll1_of fun u hu=>?_⟩
  rcases List.mem_cons.1 hu with rfl|hu
  ·exact j2 (ltAll1_mem hl (.c y) (by simp))
  ·exact ltAll1_mem (i2 (ltAll1_of fun v hv=>ltAll1_mem hl v (by simp[hv]))) u hu
 |.agg x::r,.agg y::r',h=>by
  obtain⟨h1,h2⟩:=h
  obtain⟨i1,i2⟩:=V1sEq.den (e:=e) (m:=m) h2
  obtain⟨j1,j2⟩:=h1.den (e:=e) (m:=m)
  refine⟨by simp only[List.map_cons,V1.den,j1,i1],fun hl=>ltAll1_of fun u hu=>?_⟩
  rcases List.mem_cons.1 hu with rfl|hu
  ·exact j2 (ltAll1_mem hl (.agg y) (by simp))
  ·exact ltAll1_mem (i2 (ltAll1_of fun v hv=>ltAll1_mem hl v (by simp[hv]))) u hu
 |[],_::_,h=>h.elim
 |.c _::_,[],h=>h.elim
 |.agg _::_,[],h=>h.elim
 |.c _::_,.agg _::_,h=>h.elim
 |.agg _::_,.c _::_,h=>h.elim
theorem TEq.den {ρ:Nat->Nat}{n m:Nat}{e:Env}{x y:SV}(h:TEq ρ n x y):y.den e=x.den (e.ren ρ)/\(y.lt m=true->x.lt n=true):=by
 cases x with
 |tup vs=>
  cases y with
  |tup us=>
   obtain⟨h1,h2⟩:=V1sEq.den (e:=e) (m:=m) h
   exact⟨by simp only[SV.den,h1],h2⟩
  |_=>exact h.elim
 |c x=>exact SVEq.den (x:=.c x) h
 |agg x=>exact SVEq.den (x:=.agg x) h
 |un=>exact SVEq.den (x:=.un) h
def frOf:SV->List (Nat×SV)
 |.tup vs=>number 0 (vs.map V1.sv)
 |v=>[(0,v)]
def allOwnB:List (Nat×Blk)->Bool
 |[]=>true
 |(_,b)::r=>match b.ownB with|true=>allOwnB r|false=>false
theorem allOwnB_get:∀{H:List (Nat×Blk)},allOwnB H=true->∀{k:Nat}{b:Blk},get H k=some b->b.ownB=true
 |[],_,k,b,h=>by cases h
 |(j,c)::r,hh,k,b,h=>by
  unfold allOwnB at hh
  split at hh
  ·rename_i hc
   rcases get_cons h with⟨_,rfl⟩|⟨_,h⟩
   ·exact hc
   ·exact allOwnB_get hh h
  ·cases hh
def finGo (X:Cx)(S:St)(v sv:SV)(n1:Nat)(H1:List (Nat×Blk)):Prop:=match S with
 |⟨_,H,nx,F,E,g⟩=>St.forceAll ⟨frOf v,H,nx,F,E,g⟩ fun S=>St.forceAll ⟨frOf sv,H1,n1,F,E,g⟩ fun S1=>findK S S1 fun r=>
  TEq (ap r) n1 sv v/\SubOk r X ⟨[],S.H,S.nx,F,E,g⟩ ⟨[],S1.H,n1,F,E,g⟩/\allOwnB H1=true/\Nat.ble X.n0 n1=true
theorem fin_own {α:Type}{lv:List (Nat×List Nat)}{P:Program}{T:Tab}{w0:World}{nt:Nat}{c:Ctr α}{e0:Env}{S:St}{v:SV}(x:α)(hp:c.p x)
 (hgo:finGo {P:=P,T:=T,w0:=w0,nt:=nt,own:=ownOf e0 c.H0,n0:=c.n0,e0:=e0,lv:=lv} S v (c.sv x) (c.n1 x) (c.H1 x))(hv:v.lt S.nx=true:=by rfl)
 (hq:∀w',S.E w'->∃G:Nat->Prop,(∀b,G b->S.F b/\¬frz e0 c.H0 w0 b)/\c.q x G w':=by exact fun _ _=>⟨fun _=>False,fun _ h=>h.elim,trivial⟩):
 finP {P:=P,T:=T,w0:=w0,nt:=nt,own:=ownOf e0 c.H0,n0:=c.n0,e0:=e0,lv:=lv} S v (RetOwn c e0 w0):=fin_of fun e a w hR=>by
 obtain⟨fr,H,nx,F,E,g⟩:=S
 unfold finGo at hgo
 simp only[forceAll_eq] at hgo
 obtain⟨r,ht,hs,ho,hn⟩:=findK_get hgo
 have hn:=Nat.le_of_ble_eq_true hn
 have hR0:Rep {P:=P,T:=T,w0:=w0,nt:=nt,own:=ownOf e0 c.H0,n0:=c.n0,e0:=e0,lv:=lv} e ⟨[],H,nx,F,E,g⟩ a w:=
  {hR with fr:=(by intro t v h;cases h),frlt:=(by intro t v h;cases h),hp:=fun k b hk=>hR.hp k b hk,mks:=hR.mks,ff:=hR.ff,sep:=hR.sep,hlt:=hR.hlt}
 have hsub:Rep {P:=P,T:=T,w0:=w0,nt:=nt,own:=ownOf e0 c.H0,n0:=c.n0,e0:=e0,lv:=lv} (e.ren (ap r)) ⟨[],c.H1 x,c.n1 x,F,E,g⟩ a w:=by
  obtain⟨hfr,hH,hap,hG,hfix,hpin⟩:=hs
  have fixed:c.n0<=c.n1 x/\∀k,k<c.n0->ap r k=k:=by
   unfold fixB at hfix
   split at hfix
   ·rename_i hle
    exact⟨Nat.le_of_ble_eq_true hle,fun k hk=>Nat.eq_of_beq_eq_true (List.all_eq_true.1 hfix k (List.mem_range.2 hk))⟩
   ·cases hfix
  have hg:=SubG.get hG
  refine⟨hR0.sz,(by intro t v h;cases h),(by intro t v h;cases h),fun k b hk=>?_,fun k b hk=>?_,fun k k' b b' x hk hk' hne hx hx'=>?_,fun k b x hk hx=>?_,hR0.bel,hR0.fl,hR0.f0,hR0.ev,fun k=>hR0.one _,fun i f hf=>?_,by rw[<-hg.1];exact hR0.glen,hR0.mkd,hR0.mnd,fun D hD=>?_,fun k hk=>?_,fixed.1,(by intro p hp;cases hp),hR0.rdm⟩
  ·obtain⟨b',h1,h2,_⟩:=hH.mem (mem_of_get hk)
   exact(h2.den (m:=nx)).1 (hR0.hp _ _ h1)
  ·obtain⟨b',h1,h2,h3⟩:=hH.mem (mem_of_get hk)
   exact⟨blt_iff.1 h3,(h2.den (F:=F) (X:={P:=P,T:=T,w0:=w0,nt:=nt,own:=ownOf e0 c.H0,n0:=c.n0,e0:=e0,lv:=lv}) (w:=w) (e:=e) (k:=k) (m:=nx)).2.1 (hR0.hlt _ _ h1).2⟩
  ·have m1:=mem_of_get hk
   have m2:=mem_of_get hk'
   obtain⟨c1,h1,h2,_⟩:=hH.mem m1
   obtain⟨c2,h1',h2',_⟩:=hH.mem m2
   exact hR0.sep _ _ _ _ x h1 h1' (fun e1=>hne (apartB_mem hap m1 m2 e1)) ((h2.den (F:=F) (X:={P:=P,T:=T,w0:=w0,nt:=nt,lv:=lv}) (w:=w) (m:=nx)).2.2 x hx) ((h2'.den (F:=F) (X:={P:=P,T:=T,w0:=w0,nt:=nt,lv:=lv}) (w:=w) (m:=nx)).2.2 x hx')
  ·obtain⟨c1,h1,h2,_⟩:=hH.mem (mem_of_get hk)
   exact hR0.ff _ _ x h1 ((h2.den (F:=F) (X:={P:=P,T:=T,w0:=w0,nt:=nt,lv:=lv}) (w:=w) (m:=nx)).2.2 x hx)
  ·obtain⟨f0,h1,h2⟩:=hg.2 i f hf
   obtain⟨b,hb,hv⟩:=hR0.gl i f0 h1
   refine⟨b,hb,fun t v ht=>?_⟩
   obtain⟨v',h3,h4⟩:=h2.mem (mem_of_get ht)
   obtain⟨h5,h6⟩:=hv t v' h3
   exact⟨by rw[<-(h4.den (e:=e) (m:=nx)).1];exact h5,(h4.den (e:=e) (m:=nx)).2 h6⟩
  ·obtain⟨h1,h2,h3⟩:=hR0.mks D hD
   refine⟨h1,h2,fun k b hk hx=>?_⟩
   obtain⟨c1,h4,h5,_⟩:=hH.mem (mem_of_get hk)
   exact h3 _ _ h4 ((h5.den (F:=F) (X:={P:=P,T:=T,w0:=w0,nt:=nt,lv:=lv}) (w:=w) (m:=nx)).2.2 D hx)
  ·have:=hR0.es k hk
   show e.ad (ap r k)=_/\e.rv (ap r k)=_/\e.ra (ap r k)=_/\e.es (ap r k)=_/\e.cp (ap r k)=_
   rw[fixed.2 k hk]
   exact this
 obtain⟨G,hG,hq⟩:=hq w (hR.ev w fun _ _=>rfl)
 have hte:=ht.den (e:=e) (m:=nx)
 refine⟨x,e.ren (ap r),G,hp,by rw[hte.1],fun k hk=>hsub.es k hk,hR.bel,⟨fun X k b hk=>?_,hsub.hlt,hsub.sep,hsub.one⟩,fun k b hk=>allOwnB_get ho hk,fun y⟨k,b,hk,hy⟩=>?_,hte.2 hv,hn,fun b hb=>?_,hq⟩
 ·have h1:=hsub.hp k b hk
  have h2:=allOwnB_get ho hk
  refine Blk.holds_cx (Blk.ownB_noRec h2) (X:={P:=P,T:=T,w0:=w0,nt:=nt,own:=ownOf e0 c.H0,n0:=c.n0,e0:=e0,lv:=lv}) ?_
  cases b<;>first|exact h1|cases h2
 ·by_cases hy':ownOf e0 c.H0 y
  ·exact .inl hy'
  ·exact .inr (hsub.foot_new hk hy hy')
 ·obtain⟨h1,h2⟩:=hG b hb
  refine⟨?_,hsub.fl b h1,fun⟨k,bb,hk,hy⟩=>hsub.ff k bb b hk hy h1⟩
  by_cases hb':ownOf e0 c.H0 b
  ·exact .inl hb'
  ·refine .inr (Nat.not_lt.1 fun hlt=>h2 ⟨hlt,hb'⟩)
def LendEq (ρ:Nat->Nat)(n:Nat)(b b':Blk):Prop:=match b with
 |.ext z m x=>(match b' with
  |.ext z' m' y=>z'=z/\m'=m/\ElsEq ρ n x y
  |.row _ z' m' y=>z'=z/\m'=m/\ElsEq ρ n x y
  |_=>False)
 |.lrec _ _ _ _ _ _=>False
 |.dead=>False
 |b=>BlkEq ρ n b b'
def LendH (ρ:Nat->Nat)(n:Nat)(H:List (Nat×Blk)):List (Nat×Blk)->Prop
 |[]=>True
 |(k,b)::r=>(match get H (ρ k) with
  |some b'=>LendEq ρ n b b'
  |none=>False)/\Nat.blt k n=true/\LendH ρ n H r
theorem LendH.mem {ρ:Nat->Nat}{n:Nat}{H:List (Nat×Blk)}:∀{l:List (Nat×Blk)},LendH ρ n H l->∀{k:Nat}{b:Blk},(k,b)∈l->∃b',get H (ρ k)=some b'/\LendEq ρ n b b'/\Nat.blt k n=true
 |[],_,k,b,hm=>by cases hm
 |(k',c)::r,h,k,b,hm=>by
  rcases List.mem_cons.1 hm with he|hm
  ·cases he
   obtain⟨h1,h2,_⟩:=h
   split at h1
   ·rename_i b' hb';exact⟨b',hb',h1,h2⟩
   ·exact h1.elim
  ·exact LendH.mem h.2.2 hm
def SVsEq (ρ:Nat->Nat)(n:Nat):List SV->List SV->Prop
 |[],[]=>True
 |x::r,y::r'=>SVEq ρ n x y/\SVsEq ρ n r r'
 |_,_=>False
theorem SVsEq.den {ρ:Nat->Nat}{n:Nat}{e:Env}:∀{x y:List SV},SVsEq ρ n x y->y.map (SV.den e)=x.map (SV.den (e.ren ρ))
 |[],[],_=>rfl
 |x::r,y::r',h=>by rw[List.map_cons,List.map_cons,(h.1.den (m:=0)).1,SVsEq.den h.2]
 |[],_::_,h=>h.elim
 |_::_,[],h=>h.elim
def sig (ρ:Nat->Nat)(n0 nx k:Nat):Nat:=match Nat.blt k n0 with
 |true=>ρ k
 |false=>nx+(k-n0)
def C.ren (σ:Nat->Nat):C->C
 |.v x=>.v x
 |.loc k o=>.loc (σ k) o
 |.row k=>.row (σ k)
 |.ep k i o=>.ep (σ k) i o
 |.sl k o n=>.sl (σ k) o n
def renL (σ:Nat->Nat):List C->List C
 |[]=>[]
 |c::r=>c.ren σ::renL σ r
def renLL (σ:Nat->Nat):List (List C)->List (List C)
 |[]=>[]
 |c::r=>renL σ c::renLL σ r
def V1.ren (σ:Nat->Nat):V1->V1
 |.c x=>.c (x.ren σ)
 |.agg x=>.agg (renL σ x)
def renV (σ:Nat->Nat):List V1->List V1
 |[]=>[]
 |c::r=>c.ren σ::renV σ r
def SV.ren (σ:Nat->Nat):SV->SV
 |.c x=>.c (x.ren σ)
 |.agg x=>.agg (renL σ x)
 |.tup x=>.tup (renV σ x)
 |.un=>.un
def Els.ren (σ:Nat->Nat):Els->Els
 |.vs l=>.vs l
 |.cs l=>.cs (renLL σ l)
 |.ns k l=>.ns (σ k) l
def Blk.ren (σ:Nat->Nat):Blk->Blk
 |.cells t x=>.cells t (renL σ x)
 |.row t z n x=>.row t z n (x.ren σ)
 |.ext z n x=>.ext z n (x.ren σ)
 |.buf t z n x=>.buf t z n (x.ren σ)
 |.fn f x=>.fn f (renL σ x)
 |.mc ks x=>.mc ks (renL σ x)
 |.mv f x=>.mv f (renL σ x)
 |b=>b
def renH (σ:Nat->Nat):List (Nat×Blk)->List (Nat×Blk)
 |[]=>[]
 |(k,b)::r=>(σ k,b.ren σ)::renH σ r
def deadH (ρ:Nat->Nat):List (Nat×Blk)->List (Nat×Blk)
 |[]=>[]
 |(k,b)::r=>match b with
  |.ext _ _ _=>deadH ρ r
  |_=>(ρ k,.dead)::deadH ρ r
def cover (H:List (Nat×Blk)):Nat->Bool
 |0=>true
 |n+1=>match get H n with
  |some _=>cover H n
  |none=>false
theorem cover_get {H:List (Nat×Blk)}:∀{n:Nat},cover H n=true->∀k,k<n->∃b,get H k=some b
 |0,_,k,hk=>absurd hk (Nat.not_lt_zero _)
 |n+1,h,k,hk=>by
  unfold cover at h
  split at h
  ·rename_i b hb
   rcases Nat.lt_succ_iff_lt_or_eq.1 hk with hk|rfl
   ·exact cover_get h k hk
   ·exact⟨b,hb⟩
  ·cases h
def St.back (S:St)(ρ:Nat->Nat)(n0:Nat)(H0:List (Nat×Blk))(n1:Nat)(H1:List (Nat×Blk)):St:=match S with
 |⟨fr,H,nx,F,E,g⟩=>⟨fr,renH (sig ρ n0 nx) H1++(deadH ρ H0++H),nx+(n1-n0),F,E,g⟩
def Env.back (e e1:Env)(n0 nx:Nat):Env:=⟨fun j=>if j<nx then e.ad j else e1.ad (j-nx+n0),fun j=>if j<nx then e.rv j else e1.rv (j-nx+n0),fun j=>if j<nx then e.ra j else e1.ra (j-nx+n0),
 fun j=>if j<nx then e.es j else e1.es (j-nx+n0),fun j=>if j<nx then e.cp j else e1.cp (j-nx+n0),e.G⟩
theorem Env.back_same (e e1:Env)(n0 nx:Nat):Env.same nx e (e.back e1 n0 nx):=fun k hk=>by simp[Env.back,hk]
theorem get_app {α:Type}{l l':List (Nat×α)}{k:Nat}{b:α}(h:get (l++l') k=some b):get l k=some b\/(get l k=none/\get l' k=some b):=by
 induction l with
 |nil=>exact .inr ⟨rfl,h⟩
 |cons x r ih=>
  obtain⟨j,c⟩:=x
  rcases get_cons h with⟨rfl,rfl⟩|⟨hne,h⟩
  ·exact .inl (get_same _ _ _)
  ·rcases ih h with h1|⟨h1,h2⟩
   ·exact .inl (by rw[get_other hne];exact h1)
   ·exact .inr ⟨by rw[get_other hne];exact h1,h2⟩
theorem get_renH {σ:Nat->Nat}{j:Nat}{c:Blk}:∀{H:List (Nat×Blk)},get (renH σ H) j=some c->∃k b,get H k=some b/\σ k=j/\c=b.ren σ
 |[],h=>by cases h
 |(k,b)::r,h=>by
  rcases get_cons h with⟨rfl,rfl⟩|⟨hne,h⟩
  ·exact⟨k,b,get_same _ _ _,rfl,rfl⟩
  ·obtain⟨k',b',h1,h2,h3⟩:=get_renH h
   exact⟨k',b',by rw[get_other (fun e=>hne (by rw[e];exact h2))];exact h1,h2,h3⟩
theorem get_deadH {ρ:Nat->Nat}{j:Nat}{c:Blk}:∀{H:List (Nat×Blk)},get (deadH ρ H) j=some c->c=.dead/\∃k b,get H k=some b/\ρ k=j
 |[],h=>by cases h
 |(k,b)::r,h=>by
  unfold deadH at h
  split at h
  ·rename_i z n x
   obtain⟨h1,k',b',h2,h3⟩:=get_deadH h
   by_cases hk:k=k'
   ·subst hk;exact⟨h1,k,_,get_same _ _ _,h3⟩
   ·exact⟨h1,k',b',by rw[get_other hk];exact h2,h3⟩
  ·rcases get_cons h with⟨rfl,rfl⟩|⟨hne,h⟩
   ·exact⟨rfl,k,b,get_same _ _ _,rfl⟩
   ·obtain⟨h1,k',b',h2,h3⟩:=get_deadH h
    exact⟨h1,k',b',by rw[get_other (fun e=>hne (by rw[e];exact h3))];exact h2,h3⟩
theorem deadH_none {ρ:Nat->Nat}{j:Nat}:∀{H:List (Nat×Blk)},get (deadH ρ H) j=none->∀k b,(k,b)∈H->b.ownB=true->ρ k≠j
 |[],_,k,b,hm,_=>by cases hm
 |(k',c)::r,h,k,b,hm,hb=>by
  unfold deadH at h
  split at h
  ·rcases List.mem_cons.1 hm with e|hm
   ·cases e;cases hb
   ·exact deadH_none h k b hm hb
  ·have hne:ρ k'≠j:=fun e=>by subst e;rw[get_same] at h;cases h
   rw[get_other hne] at h
   rcases List.mem_cons.1 hm with e|hm
   ·cases e;exact hne
   ·exact deadH_none h k b hm hb
section
variable {X : Cx} {e e1 : Env} {S : St} {a : Act} {w : World} {σ : Nat → Nat} {n m : Nat}
def Moved (σ:Nat->Nat)(n m:Nat)(e1 e2:Env):Prop:=∀k,k<n->σ k<m/\e2.ad (σ k)=e1.ad k/\e2.rv (σ k)=e1.rv k/\e2.ra (σ k)=e1.ra k/\e2.es (σ k)=e1.es k/\e2.cp (σ k)=e1.cp k
variable {e2 : Env}
theorem C.ren_den (hm:Moved σ n m e1 e2){c:C}(hc:c.lt n=true):(c.ren σ).den e2=c.den e1/\(c.ren σ).lt m=true:=by
 cases c with
 |v x=>exact⟨rfl,hc⟩
 |loc k o=>have:=hm k (blt_iff.1 hc);exact⟨by simp only[C.ren,C.den,this.2.1],blt_iff.2 this.1⟩
 |row k=>have:=hm k (blt_iff.1 hc);exact⟨this.2.2.1,blt_iff.2 this.1⟩
 |ep k i o=>have:=hm k (blt_iff.1 hc);exact⟨by simp only[C.ren,C.den,this.2.2.2.1,this.2.2.2.2.1],blt_iff.2 this.1⟩
 |sl k o n=>have:=hm k (blt_iff.1 hc);exact⟨by simp only[C.ren,C.den,this.2.2.2.1,this.2.2.2.2.1,this.2.2.2.2.2],blt_iff.2 this.1⟩
theorem renL_den (hm:Moved σ n m e1 e2):∀{l:List C},ltAll n l=true->(renL σ l).map (C.den e2)=l.map (C.den e1)/\ltAll m (renL σ l)=true
 |[],_=>⟨rfl,rfl⟩
 |c::r,h=>by
  have h1:=C.ren_den hm (ltAll_mem h c (by simp))
  have h2:=renL_den hm (l:=r) (ltAll_of fun x hx=>ltAll_mem h x (by simp[hx]))
  exact⟨by simp only[renL,List.map_cons,h1.1,h2.1],by simp only[renL,ltAll,h1.2,h2.2]⟩
theorem renLL_den (hm:Moved σ n m e1 e2):∀{l:List (List C)},(∀c∈l,ltAll n c=true)->(renLL σ l).map (fun c=>c.map (C.den e2))=l.map (fun c=>c.map (C.den e1))/\∀c∈renLL σ l,ltAll m c=true
 |[],_=>⟨rfl,fun c hc=>by cases hc⟩
 |c::r,h=>by
  have h1:=renL_den hm (h c (by simp))
  have h2:=renLL_den hm (l:=r) (fun x hx=>h x (by simp[hx]))
  refine⟨by simp only[renLL,List.map_cons,h1.1,h2.1],fun x hx=>?_⟩
  rcases List.mem_cons.1 hx with rfl|hx
  ·exact h1.2
  ·exact h2.2 x hx
theorem V1.ren_den (hm:Moved σ n m e1 e2){c:V1}(hc:c.lt n=true):(c.ren σ).den e2=c.den e1/\(c.ren σ).lt m=true:=by
 cases c with
 |c x=>exact C.ren_den hm hc
 |agg x=>have:=renL_den hm (l:=x) hc;exact⟨by simp only[V1.ren,V1.den,this.1],this.2⟩
theorem renV_den (hm:Moved σ n m e1 e2):∀{l:List V1},ltAll1 n l=true->(renV σ l).map (V1.den e2)=l.map (V1.den e1)/\ltAll1 m (renV σ l)=true
 |[],_=>⟨rfl,rfl⟩
 |c::r,h=>by
  have h1:=V1.ren_den hm (ltAll1_mem h c (by simp))
  have h2:=renV_den hm (l:=r) (ltAll1_of fun x hx=>ltAll1_mem h x (by simp[hx]))
  exact⟨by simp only[renV,List.map_cons,h1.1,h2.1],by simp only[renV,ltAll1,h1.2,h2.2]⟩
theorem SV.ren_den (hm:Moved σ n m e1 e2){v:SV}(hv:v.lt n=true):(v.ren σ).den e2=v.den e1/\(v.ren σ).lt m=true:=by
 cases v with
 |c x=>exact C.ren_den hm hv
 |agg x=>have:=renL_den hm (l:=x) hv;exact⟨by simp only[SV.ren,SV.den,this.1],this.2⟩
 |tup x=>have:=renV_den hm (l:=x) hv;exact⟨by simp only[SV.ren,SV.den,this.1],this.2⟩
 |un=>exact⟨rfl,rfl⟩
theorem Els.ren_den (hm:Moved σ n m e1 e2){x:Els}(hx:x.lt n):(x.ren σ).den e2=x.den e1/\(x.ren σ).lt m:=by
 cases x with
 |vs l=>exact⟨rfl,hx⟩
 |cs l=>exact renLL_den hm hx
 |ns k l=>
  obtain⟨s0,s1,s2,s3,s4,s5⟩:=hm k hx.1
  refine⟨?_,s0,hx.2⟩
  simp only[Els.ren,Els.den]
  refine List.map_congr_left fun x _=>?_
  unfold nsEl
  rw[List.map_cons,List.map_cons]
  refine congr (congrArg _ ?_) ?_
  ·cases x.1 with
   |none=>rfl
   |some j=>simp only[C.den,s3,s4]
  ·rw[map_den_v',map_den_v']
theorem Blk.ren_holds (hm:Moved σ n m e1 e2){F F':Nat->Prop}{k:Nat}(hk:k<n){b:Blk}(hb:b.lt n)(ho:b.ownB=true):(b.holds F X e1 k w->(b.ren σ).holds F' X e2 (σ k) w)/\(b.ren σ).lt m/\∀x,(b.ren σ).foot e2 (σ k) x->b.foot e1 k x:=by
 obtain⟨s0,s1,s2,s3,s4,s5⟩:=hm k hk
 cases b with
 |cells t x=>
  have:=renL_den hm (l:=x) hb
  refine⟨fun h=>?_,this.2,fun x hx=>hx.trans s1⟩
  show w.heap[e2.ad (σ k)]?=_
  rw[this.1,s1];exact h
 |row t z c x=>
  have:=Els.ren_den hm (x:=x) hb
  refine⟨fun h=>⟨by rw[this.1,s2];exact h.1,by rw[s4];exact h.2.1,by rw[s2,s3];exact h.2.2⟩,this.2,fun x hx=>?_⟩
  show rfoot (e1.rv k) x
  rw[<-s2];exact hx
 |ext z c x=>cases ho
 |buf t z c x=>
  have:=Els.ren_den hm (x:=x) hb
  exact⟨fun h=>⟨by rw[this.1,s1];exact h.1,by rw[s4];exact h.2.1,by rw[s5];exact h.2.2.1,by rw[s1,s3];exact h.2.2.2⟩,this.2,fun x hx=>hx.trans s1⟩
 |fn f x=>
  have:=renL_den hm (l:=x) hb
  refine⟨fun h=>?_,this.2,fun x hx=>hx⟩
  show e2.rv (σ k)=_
  rw[this.1,s2];exact h
 |mv f x=>
  have:=renL_den hm (l:=x) hb
  refine⟨fun h=>?_,this.2,fun x hx=>hx⟩
  show e2.rv (σ k)=_
  rw[this.1,s2];exact h
 |lrec j nt ps as bd st=>cases ho
 |mp es q=>
  refine⟨fun h=>⟨by rw[s1,s2];exact h.1,by rw[s1];exact h.2⟩,hb,fun x hx=>?_⟩
  exact(show x=e2.ad (σ k) from hx).trans s1
 |mc ks x=>
  have:=renL_den hm (l:=x) hb
  refine⟨fun h=>⟨by rw[s1,s2];exact h.1,by rw[s1,this.1];exact h.2⟩,this.2,fun y hy=>?_⟩
  exact(show y=e2.ad (σ k) from hy).trans s1
 |it g st cl left cur=>
  refine⟨fun h=>?_,hb,fun x hx=>?_⟩
  ·obtain⟨seen,last,h2,h3⟩:=h
   exact⟨seen,last,by rw[s1];exact h2,h3⟩
  ·exact(show x=e2.ad (σ k) from hx).trans s1
 |bag a b l=>exact⟨fun h=>h,hb,fun x hx=>hx⟩
 |dead=>exact⟨fun _=>trivial,trivial,fun x hx=>hx⟩
theorem LendEq.den {F:Nat->Prop}{ρ:Nat->Nat}{k:Nat}{b b':Blk}(h:LendEq ρ n b b'):b.noRec=true/\(b'.lt m->b.lt n)/\(∀x,b.foot (e.ren ρ) k x->b'.foot e (ρ k) x)/\
 ((b'.holds F X e (ρ k) w->b.holds F X (e.ren ρ) k w)\/∃z c x t,b=.ext z c x/\∃y,b'=.row t z c y/\y.den e=x.den (e.ren ρ)):=by
 cases b with
 |ext z c x=>
  cases b' with
  |ext z' c' y=>
   have:=BlkEq.den (F:=F) (X:=X) (k:=k) (w:=w) (e:=e) (m:=m) (b:=.ext z c x) (b':=.ext z' c' y) h
   exact⟨rfl,this.2.1,this.2.2,.inl this.1⟩
  |row t z' c' y=>
   obtain⟨rfl,rfl,h⟩:=h
   have:=ElsEq.den (e:=e) (m:=m) h
   exact⟨rfl,this.2,fun x hx=>hx.elim,.inr ⟨_,_,_,t,rfl,y,rfl,this.1⟩⟩
  |_=>exact h.elim
 |lrec j nt ps as bd st=>exact h.elim
 |dead=>exact h.elim
 |cells t x=>have:=BlkEq.den (F:=F) (X:=X) (k:=k) (w:=w) (e:=e) (m:=m) (b:=.cells t x) h;exact⟨rfl,this.2.1,this.2.2,.inl this.1⟩
 |row t z c x=>have:=BlkEq.den (F:=F) (X:=X) (k:=k) (w:=w) (e:=e) (m:=m) (b:=.row t z c x) h;exact⟨rfl,this.2.1,this.2.2,.inl this.1⟩
 |buf t z c x=>have:=BlkEq.den (F:=F) (X:=X) (k:=k) (w:=w) (e:=e) (m:=m) (b:=.buf t z c x) h;exact⟨rfl,this.2.1,this.2.2,.inl this.1⟩
 |fn f x=>have:=BlkEq.den (F:=F) (X:=X) (k:=k) (w:=w) (e:=e) (m:=m) (b:=.fn f x) h;exact⟨rfl,this.2.1,this.2.2,.inl this.1⟩
 |mv f x=>have:=BlkEq.den (F:=F) (X:=X) (k:=k) (w:=w) (e:=e) (m:=m) (b:=.mv f x) h;exact⟨rfl,this.2.1,this.2.2,.inl this.1⟩
 |mc ks cs=>have:=BlkEq.den (F:=F) (X:=X) (k:=k) (w:=w) (e:=e) (m:=m) (b:=.mc ks cs) h;exact⟨rfl,this.2.1,this.2.2,.inl this.1⟩
 |mp es q=>have:=BlkEq.den (F:=F) (X:=X) (k:=k) (w:=w) (e:=e) (m:=m) (b:=.mp es q) h;exact⟨rfl,this.2.1,this.2.2,.inl this.1⟩
 |it g st cl left cur=>have:=BlkEq.den (F:=F) (X:=X) (k:=k) (w:=w) (e:=e) (m:=m) (b:=.it g st cl left cur) h;exact⟨rfl,this.2.1,this.2.2,.inl this.1⟩
 |bag z c l=>have:=BlkEq.den (F:=F) (X:=X) (k:=k) (w:=w) (e:=e) (m:=m) (b:=.bag z c l) h;exact⟨rfl,this.2.1,this.2.2,.inl this.1⟩
theorem Rep.lent (_:Rep X e S a w){ρ:Nat->Nat}{H0:List (Nat×Blk)}(hH:LendH ρ n S.H H0){x:Nat}(hx:ownOf (e.ren ρ) H0 x):∃k b b',get H0 k=some b/\b.ownB=true/\get S.H (ρ k)=some b'/\b'.foot e (ρ k) x:=by
 obtain⟨k,b,hk,hf⟩:=hx
 obtain⟨b',h1,h2,h3⟩:=hH.mem (mem_of_get hk)
 have:=LendEq.den (F:=S.F) (X:=X) (w:=w) (e:=e) (m:=S.nx) (k:=k) h2
 refine⟨k,b,b',hk,?_,h1,this.2.2.1 x hf⟩
 cases b<;>first|rfl|exact hf.elim|exact h2.elim
theorem Rep.lent_not (h:Rep X e S a w){ρ:Nat->Nat}{H0:List (Nat×Blk)}(hH:LendH ρ n S.H H0){x:Nat}(hF:S.F x):¬ownOf (e.ren ρ) H0 x:=fun hx=>by
 obtain⟨k,b,b',_,_,h1,h2⟩:=h.lent hH hx
 exact h.ff _ _ x h1 h2 hF
theorem Rep.lentH (h:Rep X e S a w){ρ:Nat->Nat}{H0:List (Nat×Blk)}(hH:LendH ρ n S.H H0)(hap:apartB ρ H0=true):OwnH (frz (e.ren ρ) H0 w) (e.ren ρ) n H0 w:=by
 have hF:∀x,S.F x->frz (e.ren ρ) H0 w x:=fun x hx=>⟨h.fl x hx,h.lent_not hH hx⟩
 refine⟨fun X' k b hk=>?_,fun k b hk=>?_,fun k k' b b' x hk hk' hne hx hx'=>?_,fun k=>h.one _⟩
 ·obtain⟨b',h1,h2,h3⟩:=hH.mem (mem_of_get hk)
  obtain⟨d1,d2,d3,d4⟩:=LendEq.den (F:=S.F) (X:=X) (w:=w) (e:=e) (m:=S.nx) (k:=k) h2
  refine Blk.holds_cx d1 (X:=X) ?_
  have hl:=d2 (h.hlt _ _ h1).2
  rcases d4 with d4|⟨z,c,x,t,rfl,y,rfl,hy⟩
  ·exact Blk.holds_keep (d4 (h.hp _ _ h1)) (Env.same.refl n _) (blt_iff.1 h3) hl hF (fun _ _=>rfl) (fun _ _=>rfl)
  ·obtain⟨r1,r2,r3⟩:=h.hp _ _ h1
   refine⟨?_,r2,r3⟩
   rw[<-hy]
   refine(r1.reads.1).keep (fun b hb=>⟨hb.1,fun ho=>?_⟩) (fun _ _=>rfl)
   obtain⟨k',b2,b2',g1,g2,g3,g4⟩:=h.lent hH ho
   by_cases he:ρ k'=ρ k
   ·have:=apartB_mem hap (mem_of_get g1) (mem_of_get hk) he
    subst this
    rw[hk] at g1;cases g1;cases g2
   ·exact h.sep _ _ _ _ b g3 h1 he g4 hb.2
 ·obtain⟨b',h1,h2,h3⟩:=hH.mem (mem_of_get hk)
  exact⟨blt_iff.1 h3,(LendEq.den (F:=S.F) (X:=X) (w:=w) (e:=e) (m:=S.nx) (k:=k) h2).2.1 (h.hlt _ _ h1).2⟩
 ·obtain⟨c,h1,h2,_⟩:=hH.mem (mem_of_get hk)
  obtain⟨c',h1',h2',_⟩:=hH.mem (mem_of_get hk')
  exact h.sep _ _ _ _ x h1 h1' (fun e1=>hne (apartB_mem hap (mem_of_get hk) (mem_of_get hk') e1)) ((LendEq.den (F:=S.F) (X:=X) (w:=w) (m:=S.nx) h2).2.2.1 x hx) ((LendEq.den (F:=S.F) (X:=X) (w:=w) (m:=S.nx) h2').2.2.1 x hx')
theorem back_moved (h:Rep X e S a w){ρ:Nat->Nat}{n0 n1:Nat}{H0:List (Nat×Blk)}(hH:LendH ρ n0 S.H H0)(hcov:cover H0 n0=true)(hs:Env.same n0 (e.ren ρ) e1)(hn:n0<=n1):Moved (sig ρ n0 S.nx) n1 (S.nx+(n1-n0)) e1 (e.back e1 n0 S.nx):=by
 intro k hk
 unfold sig
 by_cases hlt:k<n0
 ·rw[blt_iff.2 hlt]
  obtain⟨b,hb⟩:=cover_get hcov k hlt
  obtain⟨b',h1,_⟩:=hH.mem (mem_of_get hb)
  have h2:=(h.hlt _ _ h1).1
  obtain⟨s1,s2,s3,s4,s5⟩:=hs k hlt
  refine⟨by show ρ k<_;omega,?_⟩
  show(if ρ k<S.nx then e.ad (ρ k) else _)=_/\(if ρ k<S.nx then e.rv (ρ k) else _)=_/\(if ρ k<S.nx then e.ra (ρ k) else _)=_/\(if ρ k<S.nx then e.es (ρ k) else _)=_/\(if ρ k<S.nx then e.cp (ρ k) else _)=_
  rw[if_pos h2,if_pos h2,if_pos h2,if_pos h2,if_pos h2]
  exact⟨s1.symm,s2.symm,s3.symm,s4.symm,s5.symm⟩
 ·have hf:Nat.blt k n0=false:=by
   cases hb:Nat.blt k n0 with
   |false=>rfl
   |true=>exact absurd (blt_iff.1 hb) hlt
  rw[hf]
  refine⟨by show S.nx+(k-n0)<_;omega,?_⟩
  have h1:¬S.nx+(k-n0)<S.nx:=by omega
  have h2:S.nx+(k-n0)-S.nx+n0=k:=by omega
  show(if S.nx+(k-n0)<S.nx then _ else e1.ad (S.nx+(k-n0)-S.nx+n0))=_/\(if S.nx+(k-n0)<S.nx then _ else e1.rv (S.nx+(k-n0)-S.nx+n0))=_/\(if S.nx+(k-n0)<S.nx then _ else e1.ra (S.nx+(k-n0)-S.nx+n0))=_/\(if S.nx+(k-n0)<S.nx then _ else e1.es (S.nx+(k-n0)-S.nx+n0))=_/\(if S.nx+(k-n0)<S.nx then _ else e1.cp (S.nx+(k-n0)-S.nx+n0))=_
  rw[if_neg h1,if_neg h1,if_neg h1,if_neg h1,if_neg h1,h2]
  exact⟨rfl,rfl,rfl,rfl,rfl⟩
theorem Rep.back (h:Rep X e S a w){ρ:Nat->Nat}{n0 n1:Nat}{H0 H1:List (Nat×Blk)}(hH:LendH ρ n0 S.H H0)(_:apartB ρ H0=true)(hcov:cover H0 n0=true){w':World}(hs:Env.same n0 (e.ren ρ) e1)(hb:Bel (ownOf (e.ren ρ) H0) w w')
 (hO:OwnH (fun _=>False) e1 n1 H1 w')(hob:∀k b,get H1 k=some b->b.ownB=true)(hfr:∀y,ownOf e1 H1 y->ownOf (e.ren ρ) H0 y\/w.heap.size<=y)(hn:n0<=n1):
 Rep X (e.back e1 n0 S.nx) (S.back ρ n0 H0 n1 H1) a w'/\∀k b x,get (S.back ρ n0 H0 n1 H1).H k=some b->b.foot (e.back e1 n0 S.nx) k x->ownOf e1 H1 x\/(x<w.heap.size/\¬ownOf (e.ren ρ) H0 x):=by
 have hmv:=back_moved h hH hcov hs hn
 have hsame:=Env.back_same e e1 n0 S.nx
 have hkeepF:∀x,S.F x->w'.heap[x]?=w.heap[x]?:=fun x hx=>hb.block x (h.fl x hx) (h.lent_not hH hx)
 have hcase:∀j b,get (renH (sig ρ n0 S.nx) H1++(deadH ρ H0++S.H)) j=some b->(∃k c,get H1 k=some c/\sig ρ n0 S.nx k=j/\b=c.ren (sig ρ n0 S.nx))\/(b=.dead/\j<S.nx)\/(get S.H j=some b/\∀x,b.foot e j x->¬ownOf (e.ren ρ) H0 x):=by
  intro j b hj
  rcases get_app hj with h1|⟨_,hj⟩
  ·obtain⟨k,c,g1,g2,g3⟩:=get_renH h1
   exact .inl ⟨k,c,g1,g2,g3⟩
  ·rcases get_app hj with h1|⟨hnone,hj⟩
   ·obtain⟨g1,k,c,g2,g3⟩:=get_deadH h1
    obtain⟨b',g4,_⟩:=hH.mem (mem_of_get g2)
    exact .inr (.inl ⟨g1,by rw[<-g3];exact(h.hlt _ _ g4).1⟩)
   ·refine .inr (.inr ⟨hj,fun x hx ho=>?_⟩)
    obtain⟨k,c,c',g1,g2,g3,g4⟩:=h.lent hH ho
    exact h.sep _ _ _ _ x g3 hj (deadH_none hnone k c (mem_of_get g1) g2) g4 hx
 have hfootC:∀j b x,get S.H j=some b->b.foot (e.back e1 n0 S.nx) j x->b.foot e j x:=fun j b x hj hx=>Blk.foot_same hsame (h.hlt _ _ hj).1 hx
 have hfootA:∀k c x,get H1 k=some c->(c.ren (sig ρ n0 S.nx)).foot (e.back e1 n0 S.nx) (sig ρ n0 S.nx k) x->ownOf e1 H1 x:=fun k c x hk hx=>
  ⟨k,c,hk,(Blk.ren_holds (X:=X) (w:=w') (F:=fun _=>False) (F':=S.F) hmv (hO.hlt _ _ hk).1 (hO.hlt _ _ hk).2 (hob _ _ hk)).2.2 x hx⟩
 have hfin:∀k b x,get (renH (sig ρ n0 S.nx) H1++(deadH ρ H0++S.H)) k=some b->b.foot (e.back e1 n0 S.nx) k x->ownOf e1 H1 x\/(x<w.heap.size/\¬ownOf (e.ren ρ) H0 x):=by
  intro k b x hk hx
  rcases hcase k b hk with⟨k',c,g1,rfl,rfl⟩|⟨rfl,_⟩|⟨g1,g2⟩
  ·exact .inl (hfootA _ _ _ g1 hx)
  ·exact hx.elim
  ·have hx':=hfootC _ _ _ g1 hx
   exact .inr ⟨h.foot_lt g1 hx',g2 x hx'⟩
 have hnx:S.nx<=S.nx+(n1-n0):=by omega
 refine⟨?_,?_⟩
 ·obtain⟨fr,H,nx,F,E,g⟩:=S
  refine⟨h.sz,fun t v hv=>?_,fun t v hv=>SV.lt_mono hnx (h.frlt t v hv),fun k b hk=>?_,fun k b hk=>?_,fun k k' b b' x hk hk' hne hx hx'=>?_,fun k b x hk hx hF=>?_,⟨hb.os.trans h.bel.os,hb.tape.trans h.bel.tape,hb.output.trans h.bel.output,Nat.le_trans h.bel.size hb.size,fun x hx ho=>(hkeepF x (h.f0 x hx ho)).trans (h.bel.block x hx ho)⟩,
   fun x hx=>Nat.lt_of_lt_of_le (h.fl x hx) hb.size,h.f0,fun w'' hw=>h.ev w'' fun x hx=>(hw x hx).trans (hkeepF x hx),fun k=>?_,fun i f hf=>?_,h.glen,h.mkd,h.mnd,fun D hD=>?_,fun k hk=>?_,Nat.le_trans h.n0 hnx,fun p hp=>?_,h.rdm⟩
  ·rw[SV.den_same hsame (h.frlt t v hv)];exact h.fr t v hv
  ·rcases hcase k b hk with⟨k',c,g1,rfl,rfl⟩|⟨rfl,_⟩|⟨g1,g2⟩
   ·exact(Blk.ren_holds hmv (hO.hlt _ _ g1).1 (hO.hlt _ _ g1).2 (hob _ _ g1)).1 (hO.hp X _ _ g1)
   ·trivial
   ·exact Blk.holds_keep (h.hp _ _ g1) hsame (h.hlt _ _ g1).1 (h.hlt _ _ g1).2 (fun _ h=>h) (fun x hx=>hb.block x (h.foot_lt g1 hx) (g2 x hx)) hkeepF
  ·rcases hcase k b hk with⟨k',c,g1,rfl,rfl⟩|⟨rfl,hlt⟩|⟨g1,g2⟩
   ·exact⟨(hmv k' (hO.hlt _ _ g1).1).1,(Blk.ren_holds (X:=X) (w:=w') (F:=fun _=>False) (F':=F) hmv (hO.hlt _ _ g1).1 (hO.hlt _ _ g1).2 (hob _ _ g1)).2.1⟩
   ·exact⟨Nat.lt_of_lt_of_le hlt hnx,trivial⟩
   ·exact⟨Nat.lt_of_lt_of_le (h.hlt _ _ g1).1 hnx,Blk.lt_mono hnx (h.hlt _ _ g1).2⟩
  ·rcases hcase k b hk with⟨j,c,g1,rfl,rfl⟩|⟨rfl,_⟩|⟨g1,g2⟩
   ·rcases hcase k' b' hk' with⟨j',c',g1',rfl,rfl⟩|⟨rfl,_⟩|⟨g1',g2'⟩
    ·have f1:=(Blk.ren_holds (X:=X) (w:=w') (F:=fun _=>False) (F':=F) hmv (hO.hlt _ _ g1).1 (hO.hlt _ _ g1).2 (hob _ _ g1)).2.2 x hx
     have f2:=(Blk.ren_holds (X:=X) (w:=w') (F:=fun _=>False) (F':=F) hmv (hO.hlt _ _ g1').1 (hO.hlt _ _ g1').2 (hob _ _ g1')).2.2 x hx'
     exact hO.sep _ _ _ _ x g1 g1' (fun e=>hne (by rw[e])) f1 f2
    ·exact hx'.elim
    ·have hx2:=hfootC _ _ _ g1' hx'
     rcases hfr x (hfootA _ _ _ g1 hx) with ho|ho
     ·exact g2' x hx2 ho
     ·have:=h.foot_lt g1' hx2;omega
   ·exact hx.elim
   ·have hx2:=hfootC _ _ _ g1 hx
    rcases hcase k' b' hk' with⟨j',c',g1',rfl,rfl⟩|⟨rfl,_⟩|⟨g1',g2'⟩
    ·rcases hfr x (hfootA _ _ _ g1' hx') with ho|ho
     ·exact g2 x hx2 ho
     ·have:=h.foot_lt g1 hx2;omega
    ·exact hx'.elim
    ·exact h.sep _ _ _ _ x g1 g1' hne hx2 (hfootC _ _ _ g1' hx')
  ·rcases hcase k b hk with⟨j,c,g1,rfl,rfl⟩|⟨rfl,_⟩|⟨g1,g2⟩
   ·rcases hfr x (hfootA _ _ _ g1 hx) with ho|ho
    ·exact h.lent_not hH hF ho
    ·exact absurd (h.fl x hF) (by omega)
   ·exact hx.elim
   ·exact h.ff _ _ x g1 (hfootC _ _ _ g1 hx) hF
  ·show(if k<nx then e.rv k else e1.rv (k-nx+n0)).oneCell'=true
   split
   ·exact h.one k
   ·exact hO.one _
  ·obtain⟨b,hb',hv⟩:=h.gl i f hf
   refine⟨b,hb',fun t v ht=>?_⟩
   obtain⟨h1,h2⟩:=hv t v ht
   exact⟨by rw[SV.den_same hsame h2];exact h1,SV.lt_mono hnx h2⟩
  ·obtain⟨h1,h2,h3⟩:=h.mks D hD
   have hlt:D<w.heap.size:=(Array.getElem?_eq_some_iff.1 h1).1
   have hno:¬ownOf (e.ren ρ) H0 D:=fun ho=>by
    obtain⟨k,c,c',_,_,g3,g4⟩:=h.lent hH ho
    exact h3 _ _ g3 g4
   refine⟨(hb.block D hlt hno).trans h1,h2,fun k b hk hx=>?_⟩
   rcases hcase k b hk with⟨j,c,g1,rfl,rfl⟩|⟨rfl,_⟩|⟨g1,g2⟩
   ·rcases hfr D (hfootA _ _ _ g1 hx) with ho|ho
    ·exact hno ho
    ·omega
   ·exact hx.elim
   ·exact h3 _ _ g1 (hfootC _ _ _ g1 hx)
  ·have h1:=hsame k (Nat.lt_of_lt_of_le hk h.n0)
   have h2:=h.es k hk
   exact⟨h1.1.trans h2.1,h1.2.1.trans h2.2.1,h1.2.2.1.trans h2.2.2.1,h1.2.2.2.1.trans h2.2.2.2.1,h1.2.2.2.2.trans h2.2.2.2.2⟩
  ·obtain⟨h1,h2⟩:=h.pin p hp
   exact⟨(hsame _ h2).1.trans h1,Nat.lt_of_lt_of_le h2 hnx⟩
 ·obtain⟨fr,H,nx,F,E,g⟩:=S
  exact hfin
def backS {α:Type}(S:St)(ρ:Nat->Nat)(c:Ctr α)(x:α)(G:Nat->Prop):St:=match c.learn with
 |true=>(match S.back ρ c.n0 c.H0 (c.n1 x) (c.H1 x) with
  |⟨fr,H,nx,F,E,g⟩=>⟨fr,H,nx,fun b=>F b\/G b,fun w=>E w/\(∀b,G b->¬S.F b)/\c.q x (fun b=>F b\/G b) w,g⟩)
 |false=>S.back ρ c.n0 c.H0 (c.n1 x) (c.H1 x)
def lendGo {α:Type}(S:St)(d:Option Nat)(args:List SV)(c:Ctr α)(K:St->Prop):Prop:=St.forceAll S fun S=>match S with
 |⟨fr,H,nx,F,E,g⟩=>findK ⟨number 0 args,H,nx,F,E,[]⟩ ⟨number 0 c.avs,c.H0,c.n0,F,E,[]⟩ fun r=>
  SVsEq (ap r) c.n0 c.avs args/\LendH (ap r) c.n0 H c.H0/\apartB (ap r) c.H0=true/\cover c.H0 c.n0=true/\
   ∀x,c.p x->∀G:Nat->Prop,St.forceAll (backS ⟨fr,H,nx,F,E,g⟩ (ap r) c x G) fun S'=>K (S'.put d ((c.sv x).ren (sig (ap r) c.n0 nx)))
theorem evs_lt {args:List SV}{ρ:Nat->Nat}{n0:Nat}{avs:List SV}(h:SVsEq ρ n0 avs args):denAll e args=denAll (e.ren ρ) avs:=by unfold denAll;rw[h.den]
theorem call_own {α:Type}{d:Option Nat}{f:Nat}{args:List SV}{K:St->Prop}{c:Ctr α}(hD:Does X.P f c)(hcall:∀as w,(callFunc f as).run X.P w=.ok (.enter f as) w)(hgo:lendGo S d args c K)
 (hpre:∀e a w(F:Nat->Prop),Rep X e S a w->(∀b,S.F b->F b)->c.pre F w:=by intros;trivial)
 (hkeep:c.learn=true->∀(x:α)(G G':Nat->Prop)(w w':World),c.q x G w->(∀b,G b->G' b)->(∀b,G b->w'.heap[b]?=w.heap[b]?)->c.q x G' w':=by intro h;cases h):callP X S d f args K:=by
 unfold lendGo at hgo
 rw[forceAll_eq] at hgo
 obtain⟨fr,H,nx,F,E,g⟩:=S
 obtain⟨r,ha,hH,hap,hcov,hk⟩:=findK_get hgo
 refine⟨fun hd _=>.inl ⟨hcall,fun e a w h KK hKK=>callsIn_of ?_⟩⟩
 have hO:=h.lentH hH hap
 rw[evs_lt ha]
 refine(hD _ w hO (hpre e a w _ h fun b hb=>⟨h.fl b hb,h.lent_not hH hb⟩)).mono fun Ee w'⟨x,e1,G,hp,hE,hs,hb,hO1,hob,hfr,hlt,hn,hG,hq⟩=>⟨_,hE,?_⟩
 obtain⟨hR,hft⟩:=h.back hH hap hcov hs hb hO1 hob hfr hn
 have hk:=hk x hp G
 rw[forceAll_eq] at hk
 have hv:=SV.ren_den (back_moved h hH hcov hs hn) hlt
 rw[<-hv.1]
 unfold backS at hk
 cases hl:c.learn with
 |false=>
  rw[hl] at hk
  exact hKK _ _ _ _ (hR.put hd hv.2) hk
 |true=>
  rw[hl] at hk
  have hGF:∀b,G b->¬F b:=fun b hb hF=>by
   obtain⟨g1,g2,g3⟩:=hG b hb
   rcases g1 with g1|g1
   ·exact h.lent_not hH hF g1
   ·exact absurd (h.fl b hF) (by omega)
  have hL:=hR.learn (G:=G) (p:=fun G' w=>(∀b,G b->¬F b)/\c.q x G' w) (fun b hb=>by
   obtain⟨g1,g2,g3⟩:=hG b hb
   refine⟨g2,fun k c' hk' hx=>?_,fun hm=>?_⟩
   ·rcases hft k c' b hk' hx with h1|⟨h1,h2⟩
    ·exact g3 h1
    ·rcases g1 with g1|g1
     ·exact h2 g1
     ·omega
   ·obtain⟨m1,m2,m3⟩:=h.mks b hm
    rcases g1 with g1|g1
    ·obtain⟨k,c1,c2,_,_,q3,q4⟩:=h.lent hH g1
     exact m3 _ _ q3 q4
    ·have:=(Array.getElem?_eq_some_iff.1 m1).1
     omega) ⟨hGF,hq⟩ (fun G1 G2 w1 w2 h1 h2 h3=>⟨h1.1,hkeep hl x G1 G2 w1 w2 h1.2 h2 h3⟩)
  exact hKK _ _ _ _ (hL.put hd hv.2) hk
end
end Go.Proofs.YtgkkpefpbfadoaaGreat.Sy
