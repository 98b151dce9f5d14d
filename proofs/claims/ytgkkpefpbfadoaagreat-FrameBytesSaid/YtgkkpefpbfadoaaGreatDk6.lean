/-
  The symbolic executor, 13: functions that take over a slice; ranges over functions.
-/
import Derived.Test.YtgkkpefpbfadoaaGreatDk5
namespace Go.Proofs.YtgkkpefpbfadoaaGreat.Sy
open Go Go.RowKit
section
variable {X : Cx} {e : Env} {S : St} {a : Act} {w : World}
theorem Bel.grown' {w w':World}(h:Bel (fun _=>False) w w'):Grown noRow w w':=grown_of h.below
def RowC (S:St)(r:RD)(c:C):Prop:=match c with
 |.row k=>get S.H k=some (.row r.ety r.esz r.n (.vs r.xs))
 |.v (.slice none 0 0)=>r.n=0/\r.xs=[]
 |_=>False
def rowId:C->Option Nat
 |.row k=>some k
 |_=>none
def RowsAt (S:St):List RD->List C->Prop
 |[],[]=>True
 |r::l,k::ks=>RowC S r k/\(∀j∈ks,rowId k≠none->rowId j≠rowId k)/\RowsAt S l ks
 |_,_=>False
theorem rowC_own (h:Rep X e S a w){r:RD}{c:C}(hc:RowC S r c):OwnE w r.ety r.esz (c.den e) r.n r.xs:=by
 unfold RowC at hc
 split at hc
 ·exact(h.hp _ _ hc).1
 ·obtain⟨h1,h2⟩:=hc
  rw[h1,h2]
  exact⟨rfl,fun c hc=>(by cases hc),.inl ⟨none,rfl,rfl⟩⟩
 ·exact hc.elim
theorem rowC_foot {r:RD}{c:C}(hc:RowC S r c){x:Nat}(hx:rfoot (c.den e) x):∃k,c=.row k/\get S.H k=some (.row r.ety r.esz r.n (.vs r.xs))/\rfoot (e.rv k) x:=by
 unfold RowC at hc
 split at hc
 ·exact⟨_,rfl,hc,hx⟩
 ·exact absurd hx (noRow_foot x)
 ·exact hc.elim
theorem rowsAt_mem:∀{l:List RD}{ks:List C},RowsAt S l ks->∀c∈ks,∃r,RowC S r c
 |[],[],_,c,hc=>by cases hc
 |r::l,k::ks,hh,c,hc=>by
  rcases List.mem_cons.1 hc with rfl|hc
  ·exact⟨r,hh.1⟩
  ·exact rowsAt_mem hh.2.2 c hc
 |[],_::_,hh,_,_=>hh.elim
 |_::_,[],hh,_,_=>hh.elim
theorem rowsAt_own (h:Rep X e S a w):∀{l:List RD}{ks:List C},RowsAt S l ks->OwnAll w l (ks.map (C.den e))
 |[],[],_=>trivial
 |r::l,k::ks,hh=>by
  obtain⟨h1,h2,h3⟩:=hh
  refine⟨rowC_own h h1,fun x hx u hu hf=>?_,rowsAt_own h h3⟩
  obtain⟨j,hj,rfl⟩:=List.mem_map.1 hu
  obtain⟨k0,rfl,hk,hx⟩:=rowC_foot h1 hx
  obtain⟨r',hr'⟩:=rowsAt_mem h3 j hj
  obtain⟨j0,rfl,hj0,hf⟩:=rowC_foot hr' hf
  have hne:=h2 _ hj (by simp[rowId])
  exact h.sep k0 j0 _ _ x hk hj0 (fun e1=>hne (by simp[rowId,e1])) hx hf
 |[],_::_,hh=>hh.elim
 |_::_,[],hh=>hh.elim
theorem rowsAt_foot (h:Rep X e S a w){l:List RD}{ks:List C}(hh:RowsAt S l ks):∀u∈ks.map (C.den e),∀y,rfoot u y->X.own y\/X.w0.heap.size<=y:=fun u hu y hy=>by
 obtain⟨c,hc,rfl⟩:=List.mem_map.1 hu
 obtain⟨r,hr⟩:=rowsAt_mem hh c hc
 obtain⟨k,rfl,hk,hy⟩:=rowC_foot hr hy
 by_cases ho:X.own y
 ·exact .inl ho
 ·exact .inr (h.foot_new hk (x:=y) hy ho)
theorem fin_rows {lv:List (Nat×List Nat)}{α:Type}{p:α->Prop}{rs:α->List RD}{v:α->List Value->Value}{P:Program}{T:Tab}{w0:World}{nt:Nat}{sv:SV}(x:α)(hp:p x)(ks:List C)(hr:RowsAt S (rs x) ks)(hv:∀e,sv.den e=v x (ks.map (C.den e))):
 finP {P:=P,T:=T,w0:=w0,nt:=nt,lv:=lv} S sv (RetRows noRow p rs v w0):=fin_of fun e a w hR=>
 ⟨x,ks.map (C.den e),hp,by rw[hv],hR.bel.grown',rowsAt_own hR hr,fun u hu y hy=>by
  rcases rowsAt_foot hR hr u hu y hy with h|h
  ·exact h.elim
  ·exact .inr h⟩
theorem Rep.setRec (h:Rep X e S a w){k j nt:Nat}{ps:List Nat}{as bd:Code}{st:LSt}(st':LSt)(hk:get S.H k=some (.lrec j nt ps as bd st)):
 ∃b f D,X.gh.reverse[j]?=some b/\b.tmps.size=nt/\w.heap[e.ad k]?=some (.loop (recOf f b.tmps ps as bd D st))/\Rep X e (S.setH k (.lrec j nt ps as bd st')) a (w.putObj (e.ad k) (.loop (recOf f b.tmps ps as bd D st'))):=by
 obtain⟨h1,b,f,D,h2,h3,h4⟩:=h.hp k _ hk
 have hlt:e.ad k<w.heap.size:=(Array.getElem?_eq_some_iff.1 h4).1
 exact⟨b,f,D,h2,h3,h4,h.step (k0:=k) (b0:=.lrec j nt ps as bd st') (Env.same.refl _ _) rfl (Nat.le_refl _) (h.hlt k _ hk).1 trivial rfl rfl rfl (by rw[World.putObj_size];exact Nat.le_refl _)
  (fun x hx=>World.putObj_heap_other (fun e1=>by subst e1;exact h.not_kept hk rfl hx)) h.one ⟨h1,b,f,D,h2,h3,World.putObj_heap_same hlt⟩ (fun x hx=>h.not_kept hk hx)⟩
theorem Rep.killRec (h:Rep X e S a w){k j nt:Nat}{ps:List Nat}{as bd:Code}{st:LSt}(hk:get S.H k=some (.lrec j nt ps as bd st))(o:Obj):Rep X e (S.setH k .dead) a (w.putObj (e.ad k) o):=
 h.step (k0:=k) (b0:=.dead) (Env.same.refl _ _) rfl (Nat.le_refl _) (h.hlt k _ hk).1 trivial rfl rfl rfl (by rw[World.putObj_size];exact Nat.le_refl _)
  (fun x hx=>World.putObj_heap_other (fun e1=>by subst e1;exact h.not_kept hk rfl hx)) h.one trivial (fun _ hx=>hx.elim)
theorem Rep.mark (h:Rep X e S a w)(hrd:X.rd=none):Rep X {e with G:=w.heap.size::e.G} S {a with defers:=markOf w.heap.size::a.defers} (w.alloc (.deferred (some []))):=by
 have hs:Env.same S.nx e {e with G:=w.heap.size::e.G}:=fun _ _=>⟨rfl,rfl,rfl,rfl,rfl⟩
 have hkeep:∀x,Kept e S S.nx x->(w.alloc (.deferred (some []))).heap[x]?=w.heap[x]?:=fun x hx=>heap_alloc_old w _ (h.kept_lt hx)
 have hnot:¬Kept e S S.nx w.heap.size:=h.not_kept_new (Nat.le_refl _)
 have hfoot:∀k b x,get S.H k=some b->b.foot e k x->Kept e S S.nx x:=fun k b x hk hx=>.inr (.inl ⟨k,b,hk,Nat.ne_of_lt (h.hlt k b hk).1,hx⟩)
 refine⟨h.sz,h.fr,h.frlt,fun k b hk=>Blk.holds_keep (h.hp k b hk) hs (h.hlt k b hk).1 (h.hlt k b hk).2 (fun _ h=>h) (fun x hx=>hkeep x (hfoot k b x hk hx)) (fun x hx=>hkeep x (.inl hx)),h.hlt,h.sep,h.ff,
  ⟨h.bel.os,h.bel.tape,h.bel.output,Nat.le_trans h.bel.size (by simp),fun x hx ho=>(hkeep x (.inl (h.f0 x hx ho))).trans (h.bel.block x hx ho)⟩,fun x hx=>Nat.lt_of_lt_of_le (h.fl x hx) (by simp),h.f0,fun w'' hw=>h.ev w'' fun x hx=>(hw x hx).trans (hkeep x (.inl hx)),h.one,h.gl,h.glen,?_,?_,fun D hD=>?_,h.es,h.n0,h.pin,fun hr=>by rw[hrd] at hr;cases hr⟩
 ·have:=h.mkd
  rw[List.flatMap_cons] at this⊢
  simp only[List.cons_append,List.map_cons,this]
 ·exact List.nodup_cons.2 ⟨fun hm=>hnot (.inr (.inr hm)),h.mnd⟩
 ·rcases List.mem_cons.1 hD with rfl|hD
  ·exact⟨heap_alloc_new w _,fun hf=>hnot (.inl hf),fun k b hk hx=>hnot (hfoot k b _ hk hx)⟩
  ·exact⟨(hkeep D (.inr (.inr hD))).trans (h.mks D hD).1,(h.mks D hD).2⟩
def Env.withRec (e:Env)(k l:Nat):Env:={e with ad:=fun j=>if j=k then l else e.ad j,rv:=fun j=>if j=k then .func (.yield l) #[] #[] else e.rv j}
theorem Env.withRec_at (e:Env)(k l:Nat):(e.withRec k l).ad k=l/\(e.withRec k l).rv k=.func (.yield l) #[] #[]:=by simp[Env.withRec]
theorem Rep.newRec (h:Rep X e S a w){j nt f D:Nat}{ps:List Nat}{as bd:Code}{b:Act}(hb:X.gh.reverse[j]?=some b)(hnt:b.tmps.size=nt):
 Rep X (e.withRec S.nx w.heap.size) (S.new (.lrec j nt ps as bd .ready)) a (w.alloc (.loop (recOf f b.tmps ps as bd D .ready))):=by
 have hs:Env.same S.nx e (e.withRec S.nx w.heap.size):=fun k hk=>by simp[Env.withRec,Nat.ne_of_lt hk]
 obtain⟨a1,a2⟩:=Env.withRec_at e S.nx w.heap.size
 refine h.step (k0:=S.nx) (b0:=.lrec j nt ps as bd .ready) hs rfl (Nat.le_succ _) (Nat.lt_succ_self _) trivial rfl rfl rfl (by simp) (fun x hx=>heap_alloc_old w _ (h.kept_lt hx)) (fun k=>?_) ⟨by rw[a1,a2],b,f,D,hb,hnt,by rw[a1];exact heap_alloc_new w _⟩ (fun x hx=>?_)
 ·by_cases hk:k=S.nx
  ·subst hk;rw[a2];rfl
  ·simp only[Env.withRec,if_neg hk];exact h.one k
 ·have hx:x=(e.withRec S.nx w.heap.size).ad S.nx:=hx
  rw[a1] at hx
  rw[hx];exact h.not_kept_new (Nat.le_refl _)
def rangeFn (S:St)(g:Operand):Option (Nat×List C):=match S.ev g with
 |some (.c (.v (.func (.func f) as bs)))=>(match as.toList,bs.toList with
  |[],[]=>some (f,[])
  |_,_=>none)
 |some (.c (.row k))=>(match get S.H k with
  |some (.fn f cs)=>some (f,cs)
  |_=>none)
 |_=>none
theorem rangeFn_get (h:Rep X e S a w){g:Operand}{f:Nat}{cs:List C}(hg:rangeFn S g=some (f,cs)):a.eval g=.func (.func f) #[] (cs.map (C.den e)).toArray/\ltAll S.nx cs=true:=by
 unfold rangeFn at hg
 split at hg
 ·rename_i f' as bs hf
  split at hg
  ·rename_i has hbs
   simp only[Option.some.injEq,Prod.mk.injEq] at hg
   obtain⟨rfl,rfl⟩:=hg
   have hd:=(h.ev_den hf).1
   simp only[SV.den,C.den] at hd
   have has:as=#[]:=Array.ext' (by simpa using has)
   have hbs:bs=#[]:=Array.ext' (by simpa using hbs)
   subst has;subst hbs
   exact⟨hd,rfl⟩
  ·cases hg
 ·rename_i k hf
  split at hg
  ·rename_i f' cs' hH
   simp only[Option.some.injEq,Prod.mk.injEq] at hg
   obtain⟨rfl,rfl⟩:=hg
   have hd:=(h.ev_den hf).1
   have hfn:e.rv k=.func (.func f') #[] (cs'.map (C.den e)).toArray:=h.hp k _ hH
   simp only[SV.den,C.den,hfn] at hd
   exact⟨hd,(h.hlt k _ hH).2⟩
  ·cases hg
 ·cases hg
def rangeEnd (k:Nat)(Q:Exit->St->Prop)(S:St):Prop:=match get S.H k with
 |some (.lrec _ _ _ _ _ st)=>(match st with
  |.ready=>Q .normal (S.setH k .dead).leave
  |.done c=>(match c with
   |.ret=>Q .ret (S.setH k .dead).leave
   |.exit id=>Q (.exit id) (S.setH k .dead).leave
   |_=>False)
  |.busy=>False)
 |_=>False
def rangeK (X:Cx)(fn:Func)(k:Nat)(Q:Exit->St->Prop)(ex:Exit)(S:St):Prop:=match ex with
 |.normal=>(match xresults X S fn.results.toList with
  |some _=>rangeEnd k Q S
  |none=>False)
 |.ret=>(match xresults X S fn.results.toList with
  |some _=>rangeEnd k Q S
  |none=>False)
 |_=>False
def Cx.inPin (X:Cx)(lv:List (Nat×List Nat))(nt:Nat)(rd:Option Nat)(b:Act)(k l:Nat):Cx:={X with nt:=nt,rd:=rd,gh:=b::X.gh,pins:=(k,l)::X.pins,lv:=lv,lvg:=X.lv::X.lvg}
theorem Rep.addPin (h:Rep X e S a w){k:Nat}(hk:k<S.nx):Rep {X with pins:=(k,e.ad k)::X.pins} e S a w:=
 ⟨h.sz,h.fr,h.frlt,fun k b hk=>holds_gh (h.hp k b hk) fun _ _ _ _ _ _ _=>rfl,h.hlt,h.sep,h.ff,h.bel,h.fl,h.f0,h.ev,h.one,h.gl,h.glen,h.mkd,h.mnd,h.mks,h.es,h.n0,(fun p hp=>by
  rcases List.mem_cons.1 hp with rfl|hp
  ·exact⟨rfl,hk⟩
  ·exact h.pin p hp),h.rdm⟩
theorem Rep.dropPin {k l:Nat}(h:Rep {X with pins:=(k,l)::X.pins} e S a w):Rep X e S a w:=
 ⟨h.sz,h.fr,h.frlt,fun k b hk=>holds_gh (h.hp k b hk) fun _ _ _ _ _ _ _=>rfl,h.hlt,h.sep,h.ff,h.bel,h.fl,h.f0,h.ev,h.one,h.gl,h.glen,h.mkd,h.mnd,h.mks,h.es,h.n0,fun p hp=>h.pin p (List.mem_cons_of_mem _ hp),h.rdm⟩
theorem sem_range (lv:List (Nat×List Nat))(hT:TabOk X.P X.T){g:Operand}{ps:Array Tmp}{as bd:Code}{Q:Exit->St->Prop}{f:Nat}{cs:List C}{fn:Func}{c:Code}(nt:Nat)(hrd:X.rd=none)(hg:rangeFn S g=some (f,cs))(hf:X.P.funcs[f]?=some fn)(hb:fn.body=some c)(hnt:fn.ntmps=nt)
 (hcall:∀as w,(callFunc f as).run X.P w=.ok (.enter f as) w)(hn:Nat.ble (cs.length+1) nt=true)
 (hx:∀b l,forceNat S.nx fun k=>St.forceAll ((S.push.new (.lrec S.g.length X.nt ps.toList as bd .ready)).withFr (number 0 (.c (.row k)::cs.map SV.c))) fun S'=>xcode (X.inPin lv nt none b k l) c S' (rangeK (X.inPin lv nt none b k l) fn k Q)):semP X (.rangeFunc g ps as bd) S Q:=by
 refine⟨?_⟩
 intro e a w h Qr hQ
 have hfen:X.fen=Fence.wide:=by show fenOf X.rd=_;rw[hrd];rfl
 have hXr:X.rd=none:=hrd
 rw[hfen]
 obtain⟨hgd,hcl⟩:=rangeFn_get h hg
 have hn:=Nat.le_of_ble_eq_true hn
 refine wpIn_rangeFunc fun fnid _=>?_
 have h1:=h.mark hrd
 have hmk:({target:=.collected w.heap.size,args:=#[]}:Deferred)=markOf w.heap.size:=rfl
 have hsz:(denAll ({e with G:=w.heap.size::e.G}.withRec S.nx (w.alloc (.deferred (some []))).heap.size) (.c (.row S.nx)::cs.map SV.c)).size=cs.length+1:=by simp[denAll]
 have h2:=h1.push (lv:=lv) (nt:=nt) (rd:=none) (a0:=actOf (denAll ({e with G:=w.heap.size::e.G}.withRec S.nx (w.alloc (.deferred (some []))).heap.size) (.c (.row S.nx)::cs.map SV.c)) nt) (actOf_size (by rw[hsz];exact hn)) rfl
 have hglen:=h.glen
 have h3:=h2.newRec (j:=S.g.length) (nt:=X.nt) (f:=fnid) (D:=w.heap.size) (ps:=ps.toList) (as:=as) (bd:=bd) (b:={a with defers:=markOf w.heap.size::a.defers}) (by
  show(_::X.gh).reverse[S.g.length]?=_
  rw[hglen,List.reverse_cons,List.getElem?_append_right (by simp)]
  simp) h.sz
 rw[push_nx] at h3
 have hs2:Env.same S.nx e ({e with G:=w.heap.size::e.G}.withRec S.nx (w.alloc (.deferred (some []))).heap.size):=fun k hk=>by simp[Env.withRec,Nat.ne_of_lt hk]
 have hnx3:(S.push.new (.lrec S.g.length X.nt ps.toList as bd .ready)).nx=S.nx+1:=by rw[new_nx,push_nx]
 have h4:=h3.setFr (.c (.row S.nx)::cs.map SV.c) rfl (fun v hv=>by
  rw[hnx3]
  rcases List.mem_cons.1 hv with rfl|hv
  ·exact blt_iff.2 (Nat.lt_succ_self _)
  ·obtain⟨c,hc,rfl⟩:=List.mem_map.1 hv
   exact C.lt_mono (Nat.le_succ _) (ltAll_mem hcl c hc)) (by simpa using hn)
 have h5:=h4.addPin (k:=S.nx) (by show S.nx<(St.withFr _ _).nx;rw[show(St.withFr (S.push.new (.lrec S.g.length X.nt ps.toList as bd .ready)) (number 0 (.c (.row S.nx)::cs.map SV.c))).nx=(S.push.new (.lrec S.g.length X.nt ps.toList as bd .ready)).nx from rfl,hnx3];exact Nat.lt_succ_self _)
 have hl:({e with G:=w.heap.size::e.G}.withRec S.nx (w.alloc (.deferred (some []))).heap.size).ad S.nx=w.heap.size+1:=by
  rw[(Env.withRec_at _ _ _).1];simp
 have hx:=hx {a with defers:=markOf w.heap.size::a.defers} (w.heap.size+1)
 rw[forceNat_eq,forceAll_eq] at hx
 rw[hl] at h5
 have hround:Fence.wide.round=none:=rfl
 rw[hround]
 have hlen2:(w.alloc (.deferred (some []))).heap.size=w.heap.size+1:=by simp
 have hps:recOf fnid a.tmps ps.toList as bd w.heap.size .ready={state:=.ready,pending:=none,fn:=fnid,tmps:=a.tmps,params:=ps,assign:=as,body:=bd,defers:=w.heap.size}:=by
  simp[recOf,LSt.state,LSt.pend]
 rw[show({a with defers:=markOf w.heap.size::a.defers}:Act).tmps=a.tmps from rfl,hps] at h5
 obtain⟨W1,hW1⟩:∃W1,(w.alloc (.deferred (some []))).alloc (.loop {state:=.ready,pending:=none,fn:=fnid,tmps:=a.tmps,params:=ps,assign:=as,body:=bd,defers:=w.heap.size})=W1:=⟨_,rfl⟩
 have he:=run_enterLoop_outer (P:=X.P) (w:=w) fnid a.tmps ps as bd
 rw[hW1] at h5 he
 refine⟨w.heap.size+1,[markOf w.heap.size],W1,{target:=.fn (.func f) (cs.map (C.den e)).toArray,args:=#[.func (.yield (w.heap.size+1)) #[] #[]]},W1,f,#[.func (.yield (w.heap.size+1)) #[] #[]]++(cs.map (C.den e)).toArray,W1,he,?_,(fun f' _=>trivial),?_,(fun hd=>by cases hd),?_⟩
 ·simp only[resolve,hgd]
  simp[Deferred.ofValue];rfl
 ·simp[invoke,hcall]
 ·have hargs:(#[.func (.yield (w.heap.size+1)) #[] #[]]++(cs.map (C.den e)).toArray:Array Value)=denAll ({e with G:=w.heap.size::e.G}.withRec S.nx (w.alloc (.deferred (some []))).heap.size) (.c (.row S.nx)::cs.map SV.c):=by
   apply Array.ext'
   simp only[denAll,List.map_cons,List.map_map,Array.toList_append]
   have e1:(SV.c (.row S.nx)).den ({e with G:=w.heap.size::e.G}.withRec S.nx (w.alloc (.deferred (some []))).heap.size)=.func (.yield (w.heap.size+1)) #[] #[]:=by
    simp only[SV.den,C.den];rw[(Env.withRec_at _ _ _).2,hlen2]
   rw[e1]
   have e2:cs.map (SV.den ({e with G:=w.heap.size::e.G}.withRec S.nx (w.alloc (.deferred (some []))).heap.size)∘SV.c)=cs.map (C.den e):=map_den_same hs2 hcl
   rw[e2];rfl
  rw[hargs]
  refine callsIn_of_wp_marks hf hb trivial ?_
  rw[hnt]
  refine xcode_ok (X:=X.inPin lv nt none {a with defers:=markOf w.heap.size::a.defers} S.nx (w.heap.size+1)) hT c h5 hx ?_
  intro ex e' S' a' w' hR hk
  have key:(match xresults (X.inPin lv nt none {a with defers:=markOf w.heap.size::a.defers} S.nx (w.heap.size+1)) S' fn.results.toList with
   |some _=>rangeEnd S.nx Q S'
   |none=>False)->LeavesInM Fence.wide 0 X.P fn a'.tmps (rangePost Fence.wide 0 X.P (w.heap.size+1) Qr {a with defers:=[markOf w.heap.size]++a.defers}) a'.defers .returning w':=by
   intro hk
   split at hk
   ·rename_i vs hvs
    refine leaves_ok (X:=X.inPin lv nt none {a with defers:=markOf w.heap.size::a.defers} S.nx (w.heap.size+1)) a'.defers hR rfl fun e2 w2 hR2=>?_
    refine⟨_,(results_ok (X:=X.inPin lv nt none {a with defers:=markOf w.heap.size::a.defers} S.nx (w.heap.size+1)) hT hR2 hvs).1,?_⟩
    have hpin:=(hR2.pin (S.nx,w.heap.size+1) (List.mem_cons_self)).1
    simp only at hpin
    unfold rangeEnd at hk
    split at hk
    ·rename_i j' nt' ps' as' bd' st hH
     obtain⟨h6,b,f',D,h7,h8,h9⟩:=hR2.hp _ _ hH
     rw[hpin] at h9
     have fin:∀ex,Q ex (S'.setH S.nx .dead).leave->Qr ex {a with defers:=markOf w.heap.size::a.defers} (w2.putObj (w.heap.size+1) (.loop {recOf f' b.tmps ps' as' bd' D st with state:=.exhausted})):=by
      intro ex hq
      have h10:=hR2.killRec hH (.loop {recOf f' b.tmps ps' as' bd' D st with state:=.exhausted})
      rw[hpin] at h10
      have h11:=(Rep.dropPin (X:=X.in lv nt none {a with defers:=markOf w.heap.size::a.defers}) h10).leave rfl h.sz (fun hr=>by rw[hrd] at hr;cases hr)
      exact hQ _ _ _ _ _ h11 hq
     split at hk
     ·exact⟨none,_,run_endLoop h9 (by simp[recOf,LSt.state]),fin _ hk⟩
     ·split at hk
      ·exact⟨some .ret,_,run_endLoop h9 (by simp[recOf,LSt.state]),wpIn_ret (fin _ hk)⟩
      ·rename_i id
       exact⟨some (.exit id),_,run_endLoop h9 (by simp[recOf,LSt.state]),wpIn_exit (fin _ hk)⟩
      ·exact hk.elim
     ·exact hk.elim
    ·exact hk.elim
   ·exact hk.elim
  cases ex with
  |normal=>exact key hk
  |ret=>exact key hk
  |exit id=>exact hk.elim
  |goto l=>exact hk.elim
  |panic ch=>exact hk.elim
  |outgrown=>exact hk.elim
def setPs:List Nat->List SV->List (Nat×SV)->List (Nat×SV)
 |p::ps,v::vs,fr=>setPs ps vs ((p,v)::fr)
 |_,_,fr=>fr
def psOk (nt:Nat):List Nat->Bool
 |[]=>true
 |p::ps=>match Nat.blt p nt with
  |true=>psOk nt ps
  |false=>false
theorem setPs_get {n:Nat}:∀(ps:List Nat)(vs:List SV)(fr:List (Nat×SV))(tmps:Array Value),ps.length=vs.length->psOk tmps.size ps=true->(∀t v,get fr t=some v->tmps[t]?=some (v.den e)/\v.lt n=true)->(∀v∈vs,v.lt n=true)->
 ∀t v,get (setPs ps vs fr) t=some v->((ps.zip (vs.map (SV.den e))).foldl (fun t(x:Nat×Value)=>t.setIfInBounds x.1 x.2) tmps)[t]?=some (v.den e)/\v.lt n=true
 |[],[],fr,tmps,_,_,h,_=>h
 |p::ps,v::vs,fr,tmps,hl,hp,h,hv=>by
  unfold psOk at hp
  split at hp
  ·rename_i hlt
   have hlt:=blt_iff.1 hlt
   have:=setPs_get ps vs ((p,v)::fr) (tmps.setIfInBounds p (v.den e)) (by simpa using hl) (by simpa using hp) (fun t u hu=>by
    rcases get_cons hu with⟨rfl,rfl⟩|⟨hne,hu⟩
    ·exact⟨by simp[hlt],hv u (by simp)⟩
    ·exact⟨by rw[Array.getElem?_setIfInBounds_ne hne];exact(h t u hu).1,(h t u hu).2⟩) (fun u hu=>hv u (by simp[hu]))
   exact this
  ·cases hp
 |[],_::_,_,_,h,_,_,_=>by cases h
 |_::_,[],_,_,h,_,_,_=>by cases h
theorem foldl_size:∀(l:List (Nat×Value))(tmps:Array Value),(l.foldl (fun t(x:Nat×Value)=>t.setIfInBounds x.1 x.2) tmps).size=tmps.size
 |[],_=>rfl
 |x::r,tmps=>by rw[List.foldl_cons,foldl_size r];simp
theorem Rep.setFr' {S:St}{fr:List (Nat×SV)}(h:Rep X e S a w)(hfr:∀t v,get fr t=some v->a.tmps[t]?=some (v.den e)/\v.lt S.nx=true):Rep X e (S.withFr fr) a w:=
 {h with fr:=fun t v hv=>(hfr t v hv).1,frlt:=fun t v hv=>(hfr t v hv).2}
def yieldEnd (k:Nat)(d:Option Nat)(K:St->Prop)(st:LSt)(b:Bool)(S:St):Prop:=match get S.H k with
 |some (.lrec j nt ps as bd st0)=>(match st0 with
  |.busy=>K (((S.setH k (.lrec j nt ps as bd st)).leave).put d (.c (.v (.bool b))))
  |_=>False)
 |_=>False
def yieldK (k:Nat)(d:Option Nat)(K:St->Prop)(ex:Exit)(S:St):Prop:=match ex with
 |.normal=>yieldEnd k d K .ready true S
 |.ret=>yieldEnd k d K (.done .ret) false S
 |.exit id=>yieldEnd k d K (.done (.exit id)) false S
 |_=>False
def yieldGo (X:Cx)(k:Nat)(d:Option Nat)(K:St->Prop)(bd:Code)(S:St):Prop:=match get S.H k with
 |some (.lrec j nt ps as bd' st)=>(match st with
  |.ready=>xcode X bd (S.setH k (.lrec j nt ps as bd' .busy)) (yieldK k d K)
  |_=>False)
 |_=>False
def yieldQ (X:Cx)(k:Nat)(d:Option Nat)(K:St->Prop)(bd:Code)(ex:Exit)(S:St):Prop:=match ex with
 |.normal=>yieldGo X k d K bd S
 |_=>False
def lvAt (X:Cx)(j:Nat):List (Nat×List Nat):=match X.lvg.reverse[j]? with
 |some l=>l
 |none=>[]
theorem yield_in (hT:TabOk X.P X.T){k l:Nat}{d:Option Nat}{args:List SV}{K:St->Prop}{j nt:Nat}{ps:List Nat}{as bd:Code}{fr0:List (Nat×SV)}(hH:get S.H k=some (.lrec j nt ps as bd .ready))(hpin:get X.pins k=some l)(hfr:S.g.reverse[j]?=some fr0)(hps:Nat.beq ps.length args.length=true)(hp:psOk nt ps=true)
 (hx:∀b,St.forceAll (S.push.withFr (setPs ps args fr0)) fun S'=>xcode (X.in (lvAt X j) nt (some l) b) as S' (yieldQ (X.in (lvAt X j) nt (some l) b) k d K bd)):yieldP X S d k args K:=by
 refine⟨?_⟩
 intro hd hlt e a w h KK hKK
 have hpe:e.ad k=l:=(h.pin (k,l) (mem_of_get hpin)).1
 obtain⟨b,f,D,hb,hbs,hrec,_⟩:=h.setRec .busy hH
 rw[hpe] at hrec
 have hps:=Nat.eq_of_beq_eq_true hps
 have hrp:(recOf f b.tmps ps as bd D .ready).params=ps.toArray:=rfl
 have hx:=hx a
 rw[forceAll_eq] at hx
 have hgb:∀t v,get fr0 t=some v->b.tmps[t]?=some (v.den e)/\v.lt S.nx=true:=by
  have hjl:j<S.g.length:=by have:=(List.getElem?_eq_some_iff.1 hfr).1;simpa using this
  rw[List.getElem?_reverse hjl] at hfr
  rw[List.getElem?_reverse (by rw[<-h.glen];exact hjl),<-h.glen] at hb
  obtain⟨b',hb',hv⟩:=h.gl _ _ hfr
  rw[hb] at hb'
  injection hb' with hb'
  subst hb'
  exact hv
 have hfold:((ps.toArray).zip (denAll e args)).foldl (fun tmps(t,a)=>tmps.setIfInBounds t a) b.tmps=(ps.zip (args.map (SV.den e))).foldl (fun t(x:Nat×Value)=>t.setIfInBounds x.1 x.2) b.tmps:=by
  simp[denAll]
 refine⟨f,(ps.zip (args.map (SV.den e))).foldl (fun t(x:Nat×Value)=>t.setIfInBounds x.1 x.2) b.tmps,as,bd,?_,?_⟩
 ·rw[hpe,<-hfold]
  exact run_yield (P:=X.P) hrec (by rw[hrp];simp[denAll,hps])
 ·have h1:=h.push (lv:=lvAt X j) (nt:=nt) (rd:=some l) (a0:={tmps:=(ps.zip (args.map (SV.den e))).foldl (fun t(x:Nat×Value)=>t.setIfInBounds x.1 x.2) b.tmps,defers:=[]}) (by rw[foldl_size];exact hbs) rfl
  have h2:=h1.setFr' (fr:=setPs ps args fr0) (setPs_get (e:=e) (n:=S.push.nx) ps args fr0 b.tmps hps (by rw[hbs];exact hp) (fun t v hv=>by rw[push_nx];exact hgb t v hv) (fun v hv=>by rw[push_nx];exact hlt v hv))
  have hfen:X.fen.inRound l=(X.in (lvAt X j) nt (some l) a).fen:=by
   show(fenOf X.rd).inRound l=fenOf (some l)
   cases X.rd<;>rfl
  rw[hpe]
  refine roundIn_of_wpIn (fen_fn _ f) ?_
  rw[hfen]
  refine xcode_ok (X:=X.in (lvAt X j) nt (some l) a) hT as h2 hx ?_
  intro ex e1 S1 a1 w1 hR1 hq
  cases ex with
  |normal=>
   have hq:yieldGo (X.in (lvAt X j) nt (some l) a) k d K bd S1:=hq
   unfold yieldGo at hq
   split at hq
   ·rename_i j1 nt1 ps1 as1 bd1 st1 hH1
    split at hq
    ·have hp1:e1.ad k=l:=(hR1.pin (k,l) (mem_of_get hpin)).1
     obtain⟨b1,f1,D1,hb1,hbs1,hrec1,hR2⟩:=hR1.setRec .busy hH1
     rw[hp1] at hrec1 hR2
     refine⟨_,run_beginRound hrec1 rfl,?_⟩
     have e2:{recOf f1 b1.tmps ps1 as1 bd1 D1 .ready with state:=LoopState.busy}=recOf f1 b1.tmps ps1 as1 bd1 D1 .busy:=rfl
     rw[e2]
     refine xcode_ok (X:=X.in (lvAt X j) nt (some l) a) hT bd hR2 hq ?_
     intro ex e3 S3 a3 w3 hR3 hq3
     have fin:∀(c:Option Code)(st:LSt),(∀f t p a b D,{recOf f t p a b D .busy with state:=if c.isNone then LoopState.ready else .done,pending:=c}=recOf f t p a b D st)->yieldEnd k d K st c.isNone S3->
      ∃v w',(Instr.endRound l c).run X.P w3=.ok v w'/\∃v',Ending.returned v=.returned v'/\KK (a.put d v') w':=by
      intro c st hst hq
      unfold yieldEnd at hq
      split at hq
      ·rename_i j3 nt3 ps3 as3 bd3 st3 hH3
       split at hq
       ·have hp3:e3.ad k=l:=(hR3.pin (k,l) (mem_of_get hpin)).1
        obtain⟨b3,f3,D3,hb3,hbs3,hrec3,hR4⟩:=hR3.setRec st hH3
        rw[hp3] at hrec3 hR4
        refine⟨_,_,run_endRound c hrec3,_,rfl,?_⟩
        rw[hst]
        have hdf:a3.defers=[]:=hR4.rdm rfl
        exact hKK _ _ _ _ ((hR4.leave hdf h.sz h.rdm).put (v:=.c (.v (.bool c.isNone))) hd rfl) hq
       ·exact hq.elim
      ·exact hq.elim
     cases ex with
     |normal=>exact fin none .ready (fun _ _ _ _ _ _=>rfl) hq3
     |ret=>exact fin (some .ret) (.done .ret) (fun _ _ _ _ _ _=>rfl) hq3
     |exit id=>exact fin (some (.exit id)) (.done (.exit id)) (fun _ _ _ _ _ _=>rfl) hq3
     |goto l=>exact hq3.elim
     |panic ch=>exact hq3.elim
     |outgrown=>exact hq3.elim
    ·exact hq.elim
   ·exact hq.elim
  |exit id=>exact hq.elim
  |goto l=>exact hq.elim
  |ret=>exact hq.elim
  |panic ch=>exact hq.elim
  |outgrown=>exact hq.elim
end
end Go.Proofs.YtgkkpefpbfadoaaGreat.Sy
namespace Go.Proofs.YtgkkpefpbfadoaaGreat.Sy
open Go Go.RowKit
def noDefer (ops:List Oper):Bool:=ops.all fun o=>match o.op with|.defer _=>false|_=>true
section
variable {F : Fence} {n : Nat} {P : Program} {ops : Array Oper} {Q : Exit → Act → World → Prop} {md : Region.Mode} {Z : World → Prop}
theorem opIn_yields {i:Nat}{o:Oper}{v:Value}{a:Act}(hfn:∀f,F.fn f)(hi:ops[i]?=some o)(hy:YieldsIf P ops Z o v a){K:Act->World->Prop}{w:World}(hZ:Z w)(h:K (a.put o.dst v) w):wpOpIn F n P ops Q i K a w:=by
 unfold Go.wpOpIn
 simp only[hi]
 rcases hy with⟨hw,hv⟩|⟨hw,rfl⟩
 ·simp only[hw,if_true]
  refine⟨fun f _=>hfn f,?_⟩
  rw[semAt_of (hv w hZ) (fun d hd=>by cases hd)]
  exact h
 ·simp only[hw,Bool.false_eq_true,if_false]
  exact⟨fun f _=>hfn f,h⟩
theorem opIn_put {j:Nat}{oi oj:Oper}{v:Value}(hfn:∀f,F.fn f)(hj:ops[j]?=some oj)(hap:oi.apart ops oj=true)(hsi:∀cs b,oi.op≠.select cs b)(hsj:∀cs b,oj.op≠.select cs b)(hdj:∀c,oj.op≠.defer c)
 (hQ:∀c a w,Q (.panic c) (a.put oi.dst v) w->Q (.panic c) a w){K:Act->World->Prop}{a:Act}{w:World}(hy:YieldsIf P ops Z oi v a)(h:wpOpIn F n P ops Q j K (a.put oi.dst v) w):
 wpOpIn F n P ops Q j (fun a' w'=>YieldsIf P ops Z oi v a'/\K (a'.put oi.dst v) w') a w:=by
 obtain⟨h1,h2,h3⟩:=Oper.apart_spec hap
 have stays:∀(a:Act),YieldsIf P ops Z oi v a->∀u,YieldsIf P ops Z oi v (a.put oj.dst u):=fun a hy u=>hy.of_same (execOp_put oi hsi a oj.dst u h3) (wanted_put oi a oj.dst u h3)
 have both:∀(a:Act)(u:Value)(w:World),YieldsIf P ops Z oi v a->K ((a.put oi.dst v).put oj.dst u) w->YieldsIf P ops Z oi v (a.put oj.dst u)/\K ((a.put oj.dst u).put oi.dst v) w:=fun a u w hy hk=>⟨stays a hy u,by rw[<-Act.put_comm a v u h2];exact hk⟩
 unfold wpOpIn at *
 simp only[hj] at *
 rw[wanted_put oj a oi.dst v h1] at h
 split
 ·rename_i hw
  simp only[hw,if_true] at h
  refine⟨fun f _=>hfn f,?_⟩
  have h:=h.2
  rw[Oper.semAt_eq F.round _ oj hdj,execOp_put oj hsj a oi.dst v h1] at h
  rw[Oper.semAt_eq F.round _ oj hdj]
  generalize(execOp a.eval oj).run P w=r at *
  cases r with
  |ok x w'=>
   cases x<;>simp only[Oper.uponIn] at h⊢
   case value u=>exact both a u _ hy h
   case skip=>exact both a _ _ hy h
   case defer d=>
    have:=both {a with defers:=d::a.defers} undef w' (hy.of_same rfl rfl)
    rw[<-Act.put_defers] at this
    exact this h
   case enter f args=>exact⟨h.1,h.2.mono fun e w'' he=>by cases e with
    |returned u=>exact both a u _ hy he
    |panicked c=>exact hQ _ _ _ he
    |outgrown=>exact he⟩
   case row row args=>exact⟨h.1,h.2.mono fun u w'' he=>both a u _ hy he⟩
   case round l f tmps as bd=>exact⟨h.1,h.2.mono fun e w'' he=>by cases e with
    |returned u=>exact both a u _ hy he
    |panicked c=>exact hQ _ _ _ he
    |outgrown=>exact he⟩
  |halt x w'=>
   cases x<;>simp only[Oper.uponIn] at h⊢
   case panic u=>exact hQ _ _ _ h
 ·rename_i hw
  simp only[hw] at h
  exact⟨fun f _=>hfn f,both a _ _ hy h.2⟩
def anyZ (F:Fence)(n:Nat)(P:Program)(md:Region.Mode)(ops:Array Oper)(Q:Exit->Act->World->Prop)(Z:World->Prop):Nat->Array Bool->Act->World->Prop
 |0,listed,a,w=>Region.ready md ops listed=[]/\Q .normal a w
 |fuel+1,listed,a,w=>(Region.ready md ops listed=[]->Q .normal a w)/\∀i∈Region.ready md ops listed,wpOpIn F n P ops Q i (fun a' w'=>Z w'/\anyZ F n P md ops Q Z fuel (listed.setIfInBounds i true) a' w') a w
theorem anyZ_any:∀(fuel:Nat)(listed:Array Bool)(a:Act)(w:World),anyZ F n P md ops Q Z fuel listed a w->wpAnyIn F n P md ops Q fuel listed a w
 |0,_,_,_,h=>h
 |fuel+1,_,_,_,h=>⟨h.1,fun i hi=>wpOpIn_mono (fun a' w' h'=>anyZ_any fuel _ a' w' h'.2) (h.2 i hi)⟩
theorem anyZ_first {i:Nat}{oi:Oper}{v:Value}(hfn:∀f,F.fn f)(hi:ops[i]?=some oi)(hsel:∀(j:Nat)(o:Oper) cs b,ops[j]?=some o->o.op≠.select cs b)(hdef:∀(j:Nat)(o:Oper) c,ops[j]?=some o->o.op≠.defer c)
 (hQ:∀c a w,Q (.panic c) (a.put oi.dst v) w->Q (.panic c) a w):∀(fuel:Nat)(listed:Array Bool)(a:Act)(w:World),
  (∀j oj,ops[j]?=some oj->j≠i->listed.getD j true=false->(∀e∈oj.after,Region.binds md e=true->e.on≠i)->oi.apart ops oj=true)->i∈Region.ready md ops listed->YieldsIf P ops Z oi v a->Z w->
  anyZ F n P md ops Q Z fuel (listed.setIfInBounds i true) (a.put oi.dst v) w->anyZ F n P md ops Q Z (fuel+1) listed a w
 |0,listed,a,w,_,hr,hy,hZ,H=>by
  refine⟨fun h=>(by rw[h] at hr;cases hr),fun j hj=>?_⟩
  by_cases hji:j=i
  ·subst hji;exact opIn_yields hfn hi hy hZ ⟨hZ,H⟩
  ·have:=ready_mono hj hji
   rw[H.1] at this
   cases this
 |fuel+1,listed,a,w,hfree,hr,hy,hZ,H=>by
  refine⟨fun h=>(by rw[h] at hr;cases hr),fun j hj=>?_⟩
  by_cases hji:j=i
  ·subst hji;exact opIn_yields hfn hi hy hZ ⟨hZ,H⟩
  ·obtain⟨hjun,oj,hoj,hall⟩:=mem_ready.1 hj
   have hnot:∀e∈oj.after,Region.binds md e=true->e.on≠i:=fun e he hb heq=>by
    have g1:=hall e he hb
    have g0:=(mem_ready.1 hr).1
    rw[heq] at g1
    rcases Nat.lt_or_ge i listed.size with h'|h'
    ·simp[h'] at g0 g1;rw[g0] at g1;cases g1
    ·simp[Array.getElem?_eq_none h'] at g1
   have g2:=opIn_put hfn hoj (hfree j oj hoj hji hjun hnot) (fun cs b=>hsel i oi cs b hi) (fun cs b=>hsel j oj cs b hoj) (fun c=>hdef j oj c hoj) hQ hy (H.2 j (ready_mono hj hji))
   refine wpOpIn_mono (fun a' w' g3=>⟨g3.2.1,anyZ_first hfn hi hsel hdef hQ fuel (listed.setIfInBounds j true) a' w' (fun k ok hk hki hun hno=>?_) (ready_mono hr (Ne.symm hji)) g3.1 g3.2.1 ?_⟩) g2
   ·refine hfree k ok hk hki ?_ hno
    by_cases hjk:j=k
    ·subst hjk;exact hjun
    ·rw[getD_set_ne true hjk] at hun;exact hun
   ·rw[Array.setIfInBounds_comm _ _ hji]
    exact g3.2.2
end
section
variable {X : Cx} {e : Env} {S : St} {a : Act} {w : World}
def onlyN (KK:Act->World->Prop):Exit->Act->World->Prop
 |.normal,a,w=>KK a w
 |_,_,_=>False
def dropIds (bad:List Nat):List (Nat×Blk)->List (Nat×Blk)
 |[]=>[]
 |(k,b)::r=>match bad.any (Nat.beq k) with
  |true=>dropIds bad r
  |false=>(match b with
   |.dead=>dropIds (k::bad) r
   |b=>(k,b)::dropIds (k::bad) r)
theorem get_dropIds:∀{H:List (Nat×Blk)}{bad:List Nat}{k:Nat}{b:Blk},get (dropIds bad H) k=some b->get H k=some b/\bad.any (Nat.beq k)=false
 |[],bad,k,b,h=>by cases h
 |(j,c)::r,bad,k,b,h=>by
  have later:∀{bad'},(bad'=bad/\bad.any (Nat.beq j)=true\/bad'=j::bad)->get (dropIds bad' r) k=some b->get ((j,c)::r) k=some b/\bad.any (Nat.beq k)=false:=by
   intro bad' hb h
   obtain⟨h1,h2⟩:=get_dropIds h
   rcases hb with⟨rfl,hj⟩|rfl
   ·have hne:j≠k:=fun e1=>by subst e1;rw[hj] at h2;cases h2
    exact⟨by rw[get_other hne];exact h1,h2⟩
   ·simp only[List.any_cons,Bool.or_eq_false_iff] at h2
    have hne:j≠k:=fun e1=>by subst e1;simp at h2
    exact⟨by rw[get_other hne];exact h1,h2.2⟩
  unfold dropIds at h
  split at h
  ·rename_i hj;exact later (.inl ⟨rfl,hj⟩) h
  ·rename_i hj
   split at h
   ·exact later (.inr rfl) h
   ·rcases get_cons h with⟨rfl,rfl⟩|⟨hne,h⟩
    ·exact⟨get_same _ _ _,hj⟩
    ·exact later (.inr rfl) h
def KeepL (H:List (Nat×Blk)):List (Nat×Blk)->Prop
 |[]=>True
 |(k,b)::r=>get H k=some b/\KeepL H r
theorem KeepL.get {H:List (Nat×Blk)}:∀{l:List (Nat×Blk)},KeepL H l->∀{k:Nat}{b:Blk},Sy.get l k=some b->Sy.get H k=some b
 |[],_,k,b,hg=>by cases hg
 |(j,c)::r,h,k,b,hg=>by
  rcases get_cons hg with⟨rfl,rfl⟩|⟨_,hg⟩
  ·exact h.1
  ·exact KeepL.get h.2 hg
def KeepW (X:Cx)(e0:Env)(keep:List (Nat×Blk))(w:World):Prop:=∀k b,get keep k=some b->∃F,b.holds F X e0 k w
def Cx.at (X:Cx)(n0:Nat)(e0:Env):Cx:={X with n0:=n0,e0:=e0}
structure drwP (X:Cx)(ops:List Oper)(n0:Nat)(e0:Env)(keep:List (Nat×Blk))(fuel:Nat)(listed:Array Bool)(S:St)(K:St->Prop):Prop where
 out:(∀k b,get keep k=some b->get S.H k=some b/\k<n0/\b.lt n0)->∀e a w,Rep (X.at n0 e0) e S a w->∀KK:Act->World->Prop,(∀e' S' a' w',Rep (X.at n0 e0) e' S' a' w'->K S'->KK a' w')->
  anyZ X.fen 0 X.P .any ops.toArray (onlyN KK) (KeepW X e0 keep) fuel listed a w
theorem keepW_of {n0:Nat}{e0:Env}{keep:List (Nat×Blk)}(hk:∀k b,get keep k=some b->get S.H k=some b/\k<n0/\b.lt n0)(h:Rep (X.at n0 e0) e S a w):KeepW X e0 keep w:=fun k b hb=>by
 obtain⟨h1,h2,h3⟩:=hk k b hb
 exact⟨S.F,holds_gh (X:=X.at n0 e0) (Blk.holds_keep (h.hp k b h1) (Env.same.symm h.es) h2 h3 (fun _ h=>h) (fun _ _=>rfl) (fun _ _=>rfl)) fun _ _ _ _ _ _ _=>rfl⟩
def xvNilCheck (S:St)(x:Operand)(K:SV->Prop):Prop:=evK S x fun v=>(match v with
 |.c (.loc k o)=>K (.c (.loc k o))
 |.c (.ep k i o)=>K (.c (.ep k i o))
 |_=>False)
theorem nilCheckv_ok (e:Env)(a:Act){o:Oper}{x:Operand}{K:SV->Prop}(ho:o.op=.nilCheck x)(hk:xvNilCheck S x K):Yv X e S a o K:=by
 obtain⟨v,hv,hk⟩:=evK_get hk
 split at hk
 ·refine⟨_,hk,fun w h=>?_⟩
  obtain⟨hdv,hl⟩:=h.ev_den hv
  refine⟨hl,?_⟩
  simp only[SV.den,C.den] at hdv⊢
  simp[execOp,ho,hdv]
 ·refine⟨_,hk,fun w h=>?_⟩
  obtain⟨hdv,hl⟩:=h.ev_den hv
  refine⟨hl,?_⟩
  simp only[SV.den,C.den] at hdv⊢
  simp[execOp,ho,hdv]
 ·exact hk.elim
def xval (X:Cx)(o:Oper)(S:St)(K:SV->Prop):Prop:=match o.op with
 |.move x=>evK S x K
 |.assign x=>evK S x K
 |.pick c x y=>xvPick S c x y K
 |.build t ps=>xvBuild X S t ps.toList K
 |.load t x=>xvLoad X S t x K
 |.binOp op t x y _=>(match nilConst y with
  |some z=>xvNil X S op t x z K
  |none=>xvBin X S op t x y K)
 |.unOp op _ x=>xvUn S op x K
 |.convert s d x=>xvConv X S s d x K
 |.fieldAddr t x f=>xvFieldAddr X S t x f K
 |.indexAddr t x i=>xvIndexAddr X S t x i K
 |.index t x i=>xvIndex X S t x i K
 |.field t x f=>xvField X S t x f K
 |.extract x i=>xvExtract S x i K
 |.nilCheck x=>xvNilCheck S x K
 |.lookup t x i ok=>xvLookup X S t x i ok K
 |.call c=>(match c.callee with
  |.builtin b=>xvBuiltin X S b c.args.toList c.argTypes.toList K
  |_=>False)
 |_=>False
theorem xval_ok (hT:TabOk X.P X.T)(e:Env)(a:Act){o:Oper}{K:SV->Prop}(hk:xval X o S K):Yv X e S a o K:=by
 unfold xval at hk
 split at hk
 ·rename_i x ho;exact move_ok e a (.inl ho) hk
 ·rename_i x ho;exact move_ok e a (.inr ho) hk
 ·rename_i c x y ho;exact pick_ok e a ho hk
 ·rename_i t ps ho;exact build_ok hT e a ho hk
 ·rename_i t x ho;exact load_ok hT e a ho hk
 ·rename_i op t x y t' ho
  split at hk
  ·rename_i z hz
   have:=nilConst_eq hz
   subst this
   exact nil_ok hT e a ho hk
  ·exact bin_ok hT e a ho hk
 ·rename_i op t x ho;exact un_ok e a ho hk
 ·rename_i s d x ho;exact conv_ok hT e a ho hk
 ·rename_i t x f ho;exact fieldAddr_ok hT e a ho hk
 ·rename_i t x i ho;exact indexAddr_ok hT e a ho hk
 ·rename_i t x i ho;exact index_ok hT e a ho hk
 ·rename_i t x f ho;exact field_ok hT e a ho hk
 ·rename_i x i ho;exact extract_ok e a ho hk
 ·rename_i x ho;exact nilCheckv_ok e a ho hk
 ·rename_i t x i ok ho;exact lookup_ok hT e a ho hk
 ·rename_i c ho
  obtain⟨callee,args,ts⟩:=c
  split at hk
  ·rename_i b hc
   simp only at hc
   subst hc
   exact builtin_ok hT e a ho hk
  ·exact hk.elim
 ·exact hk.elim
def xvg (X:Cx)(ops:List Oper)(o:Oper)(S:St)(K:SV->Prop):Prop:=match dstOk X.nt o.dst with
 |false=>False
 |true=>(match o.guard with
  |none=>xval X o S K
  |some (j,want)=>(match guardS S ops j with
   |some (.c (.v (.bool t)))=>brP t (match want with
    |true=>xval X o S K
    |false=>K .un) (match want with
    |true=>K .un
    |false=>xval X o S K)
   |some .un=>K .un
   |_=>False))
theorem noDefer_get {ops:List Oper}(h:noDefer ops=true)(j:Nat)(o:Oper)(c:Call)(ho:ops.toArray[j]?=some o):o.op≠.defer c:=by
 intro heq
 have hm:o∈ops:=List.mem_of_getElem? (by simpa using ho)
 have:=List.all_eq_true.1 h o hm
 simp[heq] at this
theorem drw_take (hT:TabOk X.P X.T){ops:List Oper}{n0:Nat}{e0:Env}{keep:List (Nat×Blk)}{fuel:Nat}{listed:Array Bool}{K:St->Prop}(i:Nat){o:Oper}(hi:ops[i]?=some o)(hsel:(Region.noSelect ops.toArray&&noDefer ops)=true)(hf:Region.free .any ops.toArray listed i=true)(hr:(Region.ready .any ops.toArray listed).contains i=true)
 (hx:xvg X ops o (S.onlyH keep) fun v=>St.force (S.put o.dst v) fun S'=>drwP X ops n0 e0 keep fuel (listed.setIfInBounds i true) S' K):drwP X ops n0 e0 keep (fuel+1) listed S K:=by
 refine⟨?_⟩
 intro hkeep e a w h KK hKK
 rw[Bool.and_eq_true] at hsel
 have hW:=keepW_of hkeep h
 have hV:∀w',KeepW X e0 keep w'->RepV X e (S.onlyH keep) a w':=fun w' hw'=>⟨h.fr,h.frlt,fun k b hk=>by
  obtain⟨h1,h2,h3⟩:=hkeep k b hk
  obtain⟨F,hF⟩:=hw' k b hk
  exact⟨F,Blk.holds_keep hF h.es h2 h3 (fun _ h=>h) (fun _ _=>rfl) (fun _ _=>rfl)⟩,fun k b hk=>h.hlt k b (hkeep k b hk).1,h.one⟩
 have go:∀v:SV,v.lt S.nx=true->dstOk X.nt o.dst=true->YieldsIf X.P ops.toArray (KeepW X e0 keep) o (v.den e) a->(St.force (S.put o.dst v) fun S'=>drwP X ops n0 e0 keep fuel (listed.setIfInBounds i true) S' K)->anyZ X.fen 0 X.P .any ops.toArray (onlyN KK) (KeepW X e0 keep) (fuel+1) listed a w:=by
  intro v hl hd hy hd2
  have hi':ops.toArray[i]?=some o:=by simpa using hi
  refine anyZ_first (fun f=>fen_fn _ f) hi' (Region.noSelect_spec hsel.1) (noDefer_get hsel.2) (fun _ _ _ hp=>hp) fuel listed a w (Region.free_spec hi' hf) (by simpa using hr) hy hW ?_
  rw[force_eq] at hd2
  replace hd2:=hd2.out
  have hH:(S.put o.dst v).H=S.H:=by cases o.dst<;>rfl
  exact hd2 (by rw[hH];exact hkeep) e _ w (h.put hd hl) KK hKK
 unfold xvg at hx
 split at hx
 ·exact hx.elim
 ·rename_i hd
  have run:xval X o (S.onlyH keep) (fun v=>St.force (S.put o.dst v) fun S'=>drwP X ops n0 e0 keep fuel (listed.setIfInBounds i true) S' K)->Region.wanted o (yielded ops.toArray a.tmps)=true->anyZ X.fen 0 X.P .any ops.toArray (onlyN KK) (KeepW X e0 keep) (fuel+1) listed a w:=by
   intro hv hw
   obtain⟨v,hK,hyv⟩:=xval_ok hT e a hv
   exact go v (hyv w (hV w hW)).1 hd (.inl ⟨hw,fun w' hw'=>(hyv w' (hV w' hw')).2⟩) hK
  have skip:(St.force (S.put o.dst .un) fun S'=>drwP X ops n0 e0 keep fuel (listed.setIfInBounds i true) S' K)->Region.wanted o (yielded ops.toArray a.tmps)=false->anyZ X.fen 0 X.P .any ops.toArray (onlyN KK) (KeepW X e0 keep) (fuel+1) listed a w:=fun hK hw=>go .un rfl hd (.inr ⟨hw,rfl⟩) hK
  split at hx
  ·rename_i hg
   exact run hx (by simp[Region.wanted,hg])
  ·rename_i j want hg
   split at hx
   ·rename_i t hgs
    obtain⟨d,hd',hv⟩:=yielded_of (hV w hW) hgs
    have hy:yielded ops.toArray a.tmps j=some t:=by
     unfold yielded
     rw[hd',Option.bind_some,hv]
     rfl
    have hw:Region.wanted o (yielded ops.toArray a.tmps)=(t==want):=by
     simp only[Region.wanted,hg,hy]
     cases t<;>cases want<;>rfl
    rcases br_case hx with⟨rfl,hx2⟩|⟨rfl,hx2⟩<;>cases want<;>simp only at hx2
    ·exact skip hx2 hw
    ·exact run hx2 hw
    ·exact run hx2 hw
    ·exact skip hx2 hw
   ·rename_i hgs
    obtain⟨d,hd',hv⟩:=yielded_of (hV w hW) hgs
    have hy:yielded ops.toArray a.tmps j=none:=by
     unfold yielded
     rw[hd',Option.bind_some,hv]
     rfl
    exact skip hx (by simp[Region.wanted,hg,hy])
   ·exact hx.elim
def AllR (ops:List Oper)(p:Nat->Oper->Prop):List Nat->Prop
 |[]=>True
 |i::r=>(match ops[i]? with
  |some o=>p i o
  |none=>False)/\AllR ops p r
theorem allR_nil {ops:List Oper}{p:Nat->Oper->Prop}:AllR ops p []:=trivial
theorem allR_cons {ops:List Oper}{p:Nat->Oper->Prop}{i:Nat}{r:List Nat}(o:Oper)(ho:ops[i]?=some o)(h:p i o)(hr:AllR ops p r):AllR ops p (i::r):=by
 unfold AllR
 rw[ho]
 exact⟨h,hr⟩
theorem AllR.mem {ops:List Oper}{p:Nat->Oper->Prop}:∀{rs:List Nat},AllR ops p rs->∀i∈rs,∃o,ops[i]?=some o/\p i o
 |[],_,i,hi=>by cases hi
 |j::r,h,i,hi=>by
  rcases List.mem_cons.1 hi with rfl|hi
  ·have:=h.1
   split at this
   ·rename_i o ho;exact⟨o,ho,this⟩
   ·exact this.elim
  ·exact AllR.mem h.2 i hi
theorem drw_ready (hT:TabOk X.P X.T){ops:List Oper}{n0:Nat}{e0:Env}{keep:List (Nat×Blk)}{fuel:Nat}{listed:Array Bool}{K:St->Prop}(rs:List Nat)(hr:Region.ready .any ops.toArray listed=rs)(hne:rs.isEmpty=false)
 (hx:AllR ops (fun i o=>xguard (X.at n0 e0) ops o S fun S'=>St.force S' fun S'=>KeepL S'.H keep/\drwP X ops n0 e0 keep fuel (listed.setIfInBounds i true) S' K) rs):drwP X ops n0 e0 keep (fuel+1) listed S K:=by
 refine⟨?_⟩
 intro hkeep e a w h KK hKK
 refine⟨(fun h0=>by rw[hr] at h0;rw[h0] at hne;cases hne),fun i hi=>?_⟩
 obtain⟨o,ho,hxo⟩:=hx.mem i (hr▸hi)
 have hg:=xguard_ok (X:=X.at n0 e0) hT h hxo (KK:=fun a' w'=>KeepW X e0 keep w'/\anyZ X.fen 0 X.P .any ops.toArray (onlyN KK) (KeepW X e0 keep) fuel (listed.setIfInBounds i true) a' w') (onlyN KK) fun e' S' a' w' hR hS'=>by
  rw[force_eq] at hS'
  obtain⟨h2,h3⟩:=hS'
  have hk':∀k b,get keep k=some b->get S'.H k=some b/\k<n0/\b.lt n0:=fun k b hb=>⟨h2.get hb,(hkeep k b hb).2⟩
  replace h3:=h3.out
  exact⟨keepW_of hk' hR,h3 hk' e' a' w' hR KK hKK⟩
 unfold wpOpIn
 rw[show ops.toArray[i]?=some o by simpa using ho]
 simp only
 split
 ·rename_i hw;rw[if_pos hw] at hg;exact hg
 ·rename_i hw;rw[if_neg hw] at hg;exact⟨fun f _=>fen_fn _ f,hg⟩
theorem drw_done {ops:List Oper}{n0:Nat}{e0:Env}{keep:List (Nat×Blk)}{fuel:Nat}{listed:Array Bool}{K:St->Prop}(hr:Region.ready .any ops.toArray listed=[])(hk:K S):drwP X ops n0 e0 keep fuel listed S K:=by
 refine⟨?_⟩
 intro _ e a w h KK hKK
 have:=hKK e S a w h hk
 cases fuel with
 |zero=>exact⟨hr,this⟩
 |succ f=>exact⟨fun _=>this,by rw[hr];simp⟩
theorem Rep.into (h:Rep X e S a w):Rep (X.at S.nx e) e S a w:=
 {h with hp:=fun k b hk=>holds_gh (X:=X) (h.hp k b hk) fun _ _ _ _ _ _ _=>rfl,es:=Env.same.refl _ _,n0:=Nat.le_refl _}
theorem Rep.outof {n0:Nat}{e0:Env}(h:Rep (X.at n0 e0) e S a w)(h1:X.n0<=n0)(h2:Env.same X.n0 X.e0 e0):Rep X e S a w:=
 {h with hp:=fun k b hk=>holds_gh (X:=X.at n0 e0) (h.hp k b hk) fun _ _ _ _ _ _ _=>rfl,es:=h2.trans (h.es.mono h1),n0:=Nat.le_trans h1 h.n0}
theorem draw_go {id:Nat}{ops:Array Oper}{Q:Exit->St->Prop}(bad:List Nat)(hm:X.P.follows .mixedOrders=true)
 (hx:∀e0,St.forceAll (S.prune (get X.lv id)) fun S=>drwP X ops.toList S.nx e0 (dropIds bad S.H) ops.toList.length (Array.replicate ops.toList.length false) S (Q .normal)):semP X (.region id ops true) S Q:=by
 refine⟨?_⟩
 intro e a w h0 Qr hQ
 have hx:=fun e0=>by
  have:=hx e0
  rw[forceAll_eq] at this
  exact this
 have h:=h0.prune (get X.lv id)
 have hd:=(h.drawn (w.drawn+1)).into
 refine wpIn_mono (Q:=onlyN fun a w=>Qr .normal a w) (wpIn_region_any hm ?_) (fun ex a w hq=>?_)
 ·have:=hx e
  replace this:=this.out
  have h2:=this (fun k b hb=>⟨(get_dropIds hb).1,h.hlt k b (get_dropIds hb).1⟩) e a _ hd (fun a w=>Qr .normal a w) fun e' S' a' w' hR hS'=>hQ _ _ _ _ _ (hR.outof h.n0 h.es) hS'
  exact anyZ_any _ _ _ _ (by simpa using h2)
 ·cases ex with
  |normal=>exact hq
  |exit id=>exact hq.elim
  |goto l=>exact hq.elim
  |ret=>exact hq.elim
  |panic ch=>exact hq.elim
  |outgrown=>exact hq.elim
theorem need_app {n m b:Nat}{K:Prop}(b':Nat)(hb:b=b')(h:(n+m)*b'<=140737488355328/\n+m<=140737488355328)(hk:K):needP ((n+m)*b<=140737488355328/\n+m<=140737488355328) K:=by subst hb;exact need_of h hk
theorem reads_later {esz n:Nat}{v:Value}{xs:List (List Value)}(h:Rep X e S a w)(hr:ReadsE (fun b=>b<X.w0.heap.size/\¬X.own b) X.w0 esz v n xs):ReadsE S.F w esz v n xs:=
 hr.keep (fun b hb=>h.f0 b hb.1 hb.2) (fun b hb=>h.bel.block b hb.1 hb.2)
theorem open_in {x:Value}{K:St->SV->Prop}(esz n:Nat)(xs:List (List Value))(hr:ReadsE (fun b=>b<X.w0.heap.size/\¬X.own b) X.w0 esz x n xs)(h1:∀c∈xs,∀u∈c,u.oneCell'=true)(h:K (S.new (.ext esz n (.vs xs))) (.c (.row S.nx))):openP X S x K:=
 open_ext esz n xs (fun _ _ _ hR=>reads_later hR hr) h1 h
theorem row_reads (h:Rep X e S a w){k esz n:Nat}{xs:List (List Value)}(hk:(∃ety,get S.H k=some (.row ety esz n (.vs xs)))\/get S.H k=some (.ext esz n (.vs xs))):XD.ok (fun b=>b<w.heap.size) w ⟨e.rv k,esz,n,xs⟩:=by
 rcases hk with⟨ety,hk⟩|hk
 ·have hh:=(h.hp k _ hk).1
  refine⟨⟨hh.1,hh.2.1,?_⟩,hh.els_one⟩
  rcases hh.2.2 with⟨A,hv,hn⟩|⟨g,cap,hv,hb⟩
  ·have hn:n=0:=hn
   subst hn
   exact⟨A,0,hv,Nat.le_refl _,by simp[maxLen],fun h0=>absurd h0 (Nat.lt_irrefl 0)⟩
  ·have hb1:=hb.2.1
   rw[hh.1] at hb1
   exact⟨_,cap,hv,hb1,hb.2.2.1,fun _=>⟨_,rfl,hb.lt,fun j u hu=>by rw[addr_mid];exact hb.cells j u hu⟩⟩
 ·have hh:=(h.hp k _ hk).1
  exact⟨hh.keep h.fl (fun _ _=>rfl),(h.hlt k _ hk).2⟩
end
end Go.Proofs.YtgkkpefpbfadoaaGreat.Sy
namespace Go.Proofs.YtgkkpefpbfadoaaGreat.Sy
open Go Go.RowKit
section
variable {X : Cx} {e : Env} {S : St} {a : Act} {w : World}
theorem sem_subF {S S':St}{c:Code}{Q:Exit->St->Prop}(hs:Sub X S S')(hc:St.forceAll S' fun S'=>semP X c S' Q):semP X c S Q:=by
 rw[forceAll_eq] at hc
 exact sem_sub hs hc
theorem OwnAll.len {w:World}:∀{rs:List RD}{vs:List Value},OwnAll w rs vs->vs.length=rs.length
 |[],[],_=>rfl
 |_::_,_::_,h=>by rw[List.length_cons,List.length_cons,OwnAll.len h.2.2]
 |[],_::_,h=>h.elim
 |_::_,[],h=>h.elim
theorem rows_as {α:Type}{P:Program}{f:Nat}{args:Array Value}{v0:Value}{p:α->Prop}{rs:α->List RD}{v v':α->List Value->Value}(h:Calls P f args w (RetRows v0 p rs v w))(hv:∀x vs,vs.length=(rs x).length->v x vs=v' x vs):
 Calls P f args w (RetRows v0 p rs v' w):=
 h.mono fun E w'⟨x,vs,hp,hE,hg,hown,hf⟩=>⟨x,vs,hp,by rw[hE,hv x vs hown.len],hg,hown,hf⟩
theorem rows_one {α:Type}{P:Program}{f:Nat}{args:Array Value}{v0:Value}{p:α->Prop}{r:α->RD}{v v':α->List Value->Value}(h:Calls P f args w (RetRows v0 p (fun x=>[r x]) v w))(hv:∀x u,v x [u]=v' x [u]):
 Calls P f args w (RetRows v0 p (fun x=>[r x]) v' w):=
 rows_as h fun x vs hl=>by
  match vs,hl with
  |[u],_=>exact hv x u
theorem fin_ex {lv:List (Nat×List Nat)}{α:Type}{p:α->Prop}{v:α->Value}{P:Program}{T:Tab}{w0:World}{nt:Nat}{sv:SV}(x:α)(hp:p x)(h:∀e,sv.den e=v x):finP {P:=P,T:=T,w0:=w0,nt:=nt,lv:=lv} S sv (RetEx p v w0):=
 fin_of fun e a w hR=>⟨x,hp,by rw[h],hR.bel.below⟩
theorem OwnE.reads {ety esz n:Nat}{v:Value}{xs:List (List Value)}(hh:OwnE w ety esz v n xs):XD.ok (fun b=>b<w.heap.size/\rfoot v b) w ⟨v,esz,n,xs⟩:=by
 refine⟨⟨hh.1,hh.2.1,?_⟩,hh.els_one⟩
 rcases hh.2.2 with⟨A,hv,hn⟩|⟨g,cap,hv,hb⟩
 ·have hn:n=0:=hn
  subst hn
  exact⟨A,0,hv,Nat.le_refl _,by simp[maxLen],fun h0=>absurd h0 (Nat.lt_irrefl 0)⟩
 ·have hb1:=hb.2.1
  rw[hh.1] at hb1
  exact⟨_,cap,hv,hb1,hb.2.2.1,fun _=>⟨_,rfl,⟨hb.lt,⟨_,_,_,hv,hb.2.2.2.1,rfl⟩⟩,fun j u hu=>by rw[addr_mid];exact hb.cells j u hu⟩⟩
theorem XD.ok.mono {F F':Nat->Prop}{d:XD}(h:XD.ok F w d)(hF:∀b,F b->F' b):XD.ok F' w d:=⟨h.1.keep hF (fun _ _=>rfl),h.2⟩
end
end Go.Proofs.YtgkkpefpbfadoaaGreat.Sy
namespace Go.Proofs.YtgkkpefpbfadoaaGreat.Sy
open Go Go.RowKit
section
variable {X : Cx} {e : Env} {S : St} {a : Act} {w : World}
theorem call_r1 {d:Option Nat}{f:Nat}{args:List SV}{K:St->Prop}{v:Unit->List Value->Value}(r:RD)(sv:Nat->SV)(hcall:∀as w,(callFunc f as).run X.P w=.ok (.enter f as) w)
 (hc:∀e a w,Rep X e S a w->Calls X.P f (denAll e args) w (RetRows noRow (fun _:Unit=>True) (fun _=>[r]) v w))
 (hk:K ((S.rows [r]).put d (sv S.nx)))(hv:∀(e:Env) u,v () [u]=(sv S.nx).den (e.withRows S.nx [r] [u]):=by intros;rfl)(hl:(sv S.nx).lt (S.nx+1)=true:=by rfl):callP X S d f args K:=
 call_rows none (fun _:Unit=>True) (fun _=>[r]) (fun _=>sv S.nx) hcall (fun j hj=>by cases hj) (fun _ _=>hl) (fun e a w h=>rows_one (hc e a w h) (fun x u=>hv e u)) (fun _ _=>hk)
theorem call_k1 {d:Option Nat}{f:Nat}{args:List SV}{K:St->Prop}{v:Unit->List Value->Value}(j:Nat)(r:RD)(sv:Nat->SV)(hcall:∀as w,(callFunc f as).run X.P w=.ok (.enter f as) w)
 (hc:∀e a w,Rep X e S a w->Calls X.P f (denAll e args) w (RetRows (e.rv j) (fun _:Unit=>True) (fun _=>[r]) v w))
 (hk:K (((S.setH j .dead).rows [r]).put d (sv S.nx)))(hj:∃ety esz n xs,get S.H j=some (.row ety esz n xs):=by exact⟨_,_,_,_,rfl⟩)
 (hv:∀(e:Env) u,v () [u]=(sv S.nx).den (e.withRows S.nx [r] [u]):=by intros;rfl)(hl:(sv S.nx).lt (S.nx+1)=true:=by rfl):callP X S d f args K:=
 call_rows (some j) (fun _:Unit=>True) (fun _=>[r]) (fun _=>sv S.nx) hcall (fun i hi=>by cases hi;exact hj) (fun _ _=>hl) (fun e a w h=>rows_one (hc e a w h) (fun x u=>hv e u)) (fun _ _=>hk)
theorem later_ok (h:Rep X e S a w){d:XD}(hr:XD.ok (fun b=>b<X.w0.heap.size) X.w0 d)(ho:∀b,b<X.w0.heap.size->¬X.own b):XD.ok (fun b=>b<w.heap.size) w d:=
 ⟨(reads_later h (hr.1.keep (fun b hb=>⟨hb,ho b hb⟩) (fun _ _=>rfl))).keep h.fl (fun _ _=>rfl),hr.2⟩
theorem later_in {lv:List (Nat×List Nat)}{lvg:List (List (Nat×List Nat))}{P:Program}{T:Tab}{w0:World}{nt:Nat}{rd:Option Nat}{gh:List Act}{n0:Nat}{e0:Env}{pins:List (Nat×Nat)}
 (h:Rep {P:=P,T:=T,w0:=w0,nt:=nt,rd:=rd,gh:=gh,n0:=n0,e0:=e0,pins:=pins,lv:=lv,lvg:=lvg} e S a w){d:XD}(hr:XD.ok (fun b=>b<w0.heap.size) w0 d):XD.ok (fun b=>b<w.heap.size) w d:=
 later_ok h hr fun _ _ h=>h
theorem fin_r1 {lv:List (Nat×List Nat)}{v:Unit->List Value->Value}{P:Program}{T:Tab}{w0:World}{nt:Nat}{sv:SV}{r:RD}(k:C)(hr:RowC S r k)(hv:∀e,sv.den e=v () [k.den e]:=by intros;rfl):
 finP {P:=P,T:=T,w0:=w0,nt:=nt,lv:=lv} S sv (RetRows noRow (fun _:Unit=>True) (fun _=>[r]) v w0):=
 fin_rows () trivial [k] ⟨hr,(by intro j hj;cases hj),trivial⟩ hv
theorem fin_r2 {lv:List (Nat×List Nat)}{v:Unit->List Value->Value}{P:Program}{T:Tab}{w0:World}{nt:Nat}{sv:SV}{r r':RD}(k k':C)(hr:RowC S r k)(hr':RowC S r' k')(hne:rowId k≠none->rowId k'≠rowId k:=by decide)(hv:∀e,sv.den e=v () [k.den e,k'.den e]:=by intros;rfl):
 finP {P:=P,T:=T,w0:=w0,nt:=nt,lv:=lv} S sv (RetRows noRow (fun _:Unit=>True) (fun _=>[r,r']) v w0):=
 fin_rows () trivial [k,k'] ⟨hr,(by intro j hj h;simp at hj;subst hj;exact hne h),hr',(by intro j hj;cases hj),trivial⟩ hv
def St.news (S:St):List Blk->St
 |[]=>S
 |b::l=>(S.new b).news l
theorem meet {x y:Code}{Q:Exit->St->Prop}{ι:Type}(bs:ι->Nat->List Blk)(fr:ι->Nat->List (Nat×SV))(H:ι->Nat->List (Nat×Blk))(ok:ι->Prop)(_:TabOk X.P X.T)
 (hx:semP X x S (then_ Q fun S'=>∃j,ok j/\SubGo X S' ((((S.prune (liveAt X x)).prune (liveAt X y)).inv (writes x) (fr j S.nx) (H j S.nx)).news (bs j S.nx))))
 (hy:∀i,ok i->St.forceAll ((((S.prune (liveAt X x)).prune (liveAt X y)).inv (writes x) (fr i S.nx) (H i S.nx)).news (bs i S.nx)) fun S1=>xcode X y S1 Q):semP X x S (then_ Q fun S'=>xcode X y S' Q):=by
 refine⟨?_⟩
 intro e a w h Qr hQ
 refine sem_get hx h (fun ex e S' a w hR hS'=>?_)
 cases ex with
 |normal=>
  obtain⟨i,hi,h3⟩:=hS'
  obtain⟨e2,hR2⟩:=sub_get (sub_auto h3) hR
  have:=hy i hi
  rw[forceAll_eq] at this
  exact hQ .normal e2 _ _ _ hR2 this
 |exit id=>exact hQ _ _ _ _ _ hR hS'
 |goto l=>exact hQ _ _ _ _ _ hR hS'
 |ret=>exact hQ _ _ _ _ _ hR hS'
 |panic ch=>exact hQ _ _ _ _ _ hR hS'
 |outgrown=>exact hQ _ _ _ _ _ hR hS'
theorem meet1 (k:Nat){x y:Code}{Q:Exit->St->Prop}(bs:List Blk)(fr:List (Nat×SV))(H:List (Nat×Blk))(_:TabOk X.P X.T)(_:S.nx=k)
 (hx:semP X x S (then_ Q fun S'=>SubGo X S' ((((S.prune (liveAt X x)).prune (liveAt X y)).inv (writes x) fr H).news bs)))
 (hy:St.forceAll ((((S.prune (liveAt X x)).prune (liveAt X y)).inv (writes x) fr H).news bs) fun S1=>xcode X y S1 Q):semP X x S (then_ Q fun S'=>xcode X y S' Q):=by
 refine⟨?_⟩
 intro e a w h Qr hQ
 refine sem_get hx h (fun ex e S' a w hR hS'=>?_)
 cases ex with
 |normal=>
  obtain⟨e2,hR2⟩:=sub_get (sub_auto hS') hR
  rw[forceAll_eq] at hy
  exact hQ .normal e2 _ _ _ hR2 hy
 |exit id=>exact hQ _ _ _ _ _ hR hS'
 |goto l=>exact hQ _ _ _ _ _ hR hS'
 |ret=>exact hQ _ _ _ _ _ hR hS'
 |panic ch=>exact hQ _ _ _ _ _ hR hS'
 |outgrown=>exact hQ _ _ _ _ _ hR hS'
end
end Go.Proofs.YtgkkpefpbfadoaaGreat.Sy
