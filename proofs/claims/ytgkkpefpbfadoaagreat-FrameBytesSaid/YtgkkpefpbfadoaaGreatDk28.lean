/- A region whose order is drawn, where stores come behind all loads of what they write: the loads may be taken first. -/
import Derived.Test.YtgkkpefpbfadoaaGreatDk9
namespace Go.Proofs.YtgkkpefpbfadoaaGreat.Sy
open Go Go.RowKit
section
variable {F : Fence} {n : Nat} {P : Program} {ops : Array Oper} {Q : Exit → Act → World → Prop} {md : Region.Mode}
def anyB (F:Fence)(n:Nat)(P:Program)(md:Region.Mode)(ops:Array Oper)(Q:Exit->Act->World->Prop)(Z:Array Bool->World->Prop):Nat->Array Bool->Act->World->Prop
 |0,listed,a,w=>Region.ready md ops listed=[]/\Q .normal a w
 |fuel+1,listed,a,w=>(Region.ready md ops listed=[]->Q .normal a w)/\∀i∈Region.ready md ops listed,wpOpIn F n P ops Q i (fun a' w'=>Z (listed.setIfInBounds i true) w'/\anyB F n P md ops Q Z fuel (listed.setIfInBounds i true) a' w') a w
theorem anyB_any {Z:Array Bool->World->Prop}:∀(fuel:Nat)(listed:Array Bool)(a:Act)(w:World),anyB F n P md ops Q Z fuel listed a w->wpAnyIn F n P md ops Q fuel listed a w
 |0,_,_,_,h=>h
 |fuel+1,_,_,_,h=>⟨h.1,fun i hi=>wpOpIn_mono (fun a' w' h'=>anyB_any fuel _ a' w' h'.2) (h.2 i hi)⟩
theorem ready_not {listed:Array Bool}{i j:Nat}{oj:Oper}(hr:i∈Region.ready md ops listed)(hj:j∈Region.ready md ops listed)(hoj:ops[j]?=some oj):∀e∈oj.after,Region.binds md e=true->e.on≠i:=by
 obtain⟨_,oj',hoj',hall⟩:=mem_ready.1 hj
 rw[hoj] at hoj'
 cases hoj'
 intro e he hb heq
 have g1:=hall e he hb
 have g0:=(mem_ready.1 hr).1
 rw[heq] at g1
 rcases Nat.lt_or_ge i listed.size with h'|h'
 ·simp[h'] at g0 g1;rw[g0] at g1;cases g1
 ·simp[Array.getElem?_eq_none h'] at g1
theorem anyB_first {Z:Array Bool->World->Prop}{W:World->Prop}{B:Array Bool->Prop}{i:Nat}{oi:Oper}{v:Value}(hfn:∀f,F.fn f)(hi:ops[i]?=some oi)(hsel:∀(j:Nat)(o:Oper) cs b,ops[j]?=some o->o.op≠.select cs b)(hdef:∀(j:Nat)(o:Oper) c,ops[j]?=some o->o.op≠.defer c)
 (hQ:∀c a w,Q (.panic c) (a.put oi.dst v) w->Q (.panic c) a w)(hZW:∀(l:Array Bool) w,B l->Z l w->W w)(hZi:∀(l:Array Bool) w,Z l w->Z (l.setIfInBounds i true) w)(hT:∀(l:Array Bool) j w,j≠i->Z ((l.setIfInBounds i true).setIfInBounds j true) w->Z (l.setIfInBounds j true) w)
 (hB:∀(l:Array Bool) j,B l->j∈Region.ready md ops l->i∈Region.ready md ops l->j≠i->B (l.setIfInBounds j true)):∀(fuel:Nat)(listed:Array Bool)(a:Act)(w:World),
  (∀j oj,ops[j]?=some oj->j≠i->listed.getD j true=false->(∀e∈oj.after,Region.binds md e=true->e.on≠i)->oi.apart ops oj=true)->i∈Region.ready md ops listed->YieldsIf P ops W oi v a->B listed->Z listed w->
  anyB F n P md ops Q Z fuel (listed.setIfInBounds i true) (a.put oi.dst v) w->anyB F n P md ops Q Z (fuel+1) listed a w
 |0,listed,a,w,_,hr,hy,hBl,hZ,H=>by
  refine⟨fun h=>(by rw[h] at hr;cases hr),fun j hj=>?_⟩
  by_cases hji:j=i
  ·subst hji;exact opIn_yields hfn hi hy (hZW _ _ hBl hZ) ⟨hZi _ _ hZ,H⟩
  ·have:=ready_mono hj hji
   rw[H.1] at this
   cases this
 |fuel+1,listed,a,w,hfree,hr,hy,hBl,hZ,H=>by
  refine⟨fun h=>(by rw[h] at hr;cases hr),fun j hj=>?_⟩
  by_cases hji:j=i
  ·subst hji;exact opIn_yields hfn hi hy (hZW _ _ hBl hZ) ⟨hZi _ _ hZ,H⟩
  ·obtain⟨hjun,oj,hoj,_⟩:=mem_ready.1 hj
   have hnot:=ready_not hr hj hoj
   have g2:=opIn_put hfn hoj (hfree j oj hoj hji hjun hnot) (fun cs b=>hsel i oi cs b hi) (fun cs b=>hsel j oj cs b hoj) (fun c=>hdef j oj c hoj) hQ hy (H.2 j (ready_mono hj hji))
   refine wpOpIn_mono (fun a' w' g3=>⟨hT _ _ _ hji g3.2.1,anyB_first hfn hi hsel hdef hQ hZW hZi hT hB fuel (listed.setIfInBounds j true) a' w' (fun k ok hk hki hun hno=>?_) (ready_mono hr (Ne.symm hji)) g3.1 (hB _ _ hBl hj hr hji) (hT _ _ _ hji g3.2.1) ?_⟩) g2
   ·refine hfree k ok hk hki ?_ hno
    by_cases hjk:j=k
    ·subst hjk;exact hjun
    ·rw[getD_set_ne true hjk] at hun;exact hun
   ·rw[Array.setIfInBounds_comm _ _ hji]
    exact g3.2.2
end
section
variable {X : Cx} {e : Env} {S : St} {a : Act} {w : World}
def barred (bar:List Nat)(l:Array Bool):Bool:=bar.any fun b=>l.getD b false
def keepOf (bar:List Nat)(k1 k2:List (Nat×Blk))(l:Array Bool):List (Nat×Blk):=match barred bar l with
 |true=>k1
 |false=>k2
theorem barred_set {bar:List Nat}{i:Nat}(hi:bar.contains i=false)(l:Array Bool):barred bar (l.setIfInBounds i true)=barred bar l:=by
 unfold barred
 induction bar with
 |nil=>rfl
 |cons b r ih=>
  simp only[List.contains_cons,Bool.or_eq_false_iff,beq_eq_false_iff_ne] at hi
  rw[List.any_cons,List.any_cons,ih hi.2,getD_set_ne false hi.1]
structure drbP (X:Cx)(ops:List Oper)(n0:Nat)(e0:Env)(k1 k2:List (Nat×Blk))(bar:List Nat)(fuel:Nat)(listed:Array Bool)(S:St)(K:St->Prop):Prop where
 out:(∀k b,get k1 k=some b->get k2 k=some b)->(∀k b,get (keepOf bar k1 k2 listed) k=some b->get S.H k=some b/\k<n0/\b.lt n0)->(∀k b,get k2 k=some b->k<n0/\b.lt n0)->∀e a w,Rep (X.at n0 e0) e S a w->∀KK:Act->World->Prop,(∀e' S' a' w',Rep (X.at n0 e0) e' S' a' w'->K S'->KK a' w')->
  anyB X.fen 0 X.P .any ops.toArray (onlyN KK) (fun l w=>KeepW X e0 (keepOf bar k1 k2 l) w) fuel listed a w
theorem keepOf_get {bar:List Nat}{k1 k2:List (Nat×Blk)}(h12:∀k b,get k1 k=some b->get k2 k=some b){l:Array Bool}{k:Nat}{b:Blk}(h:get k1 k=some b):get (keepOf bar k1 k2 l) k=some b:=by
 unfold keepOf
 cases barred bar l
 ·exact h12 k b h
 ·exact h
theorem keepOf_up {bar:List Nat}{k1 k2:List (Nat×Blk)}(h12:∀k b,get k1 k=some b->get k2 k=some b){l:Array Bool}{k:Nat}{b:Blk}(h:get (keepOf bar k1 k2 l) k=some b):get k2 k=some b:=by
 unfold keepOf at h
 cases hb:barred bar l with
 |false=>rw[hb] at h;exact h
 |true=>rw[hb] at h;exact h12 k b h
theorem drb_take0 (hT:TabOk X.P X.T){ops:List Oper}{n0:Nat}{e0:Env}{k1 k2:List (Nat×Blk)}{bar:List Nat}{fuel:Nat}{listed:Array Bool}{K:St->Prop}(kp:List (Nat×Blk))(B:Array Bool->Prop)(i:Nat){o:Oper}(hi:ops[i]?=some o)(hsel:(Region.noSelect ops.toArray&&noDefer ops)=true)(hf:Region.free .any ops.toArray listed i=true)(hr:(Region.ready .any ops.toArray listed).contains i=true)(hib:bar.contains i=false)
 (hkp:(∀k b,get k1 k=some b->get k2 k=some b)->∀l,B l->∀k b,get kp k=some b->get (keepOf bar k1 k2 l) k=some b)(hBl:B listed)
 (hB:∀(l:Array Bool) j,B l->j∈Region.ready .any ops.toArray l->i∈Region.ready .any ops.toArray l->j≠i->B (l.setIfInBounds j true))
 (hx:xvg X ops o (S.onlyH kp) fun v=>St.force (S.put o.dst v) fun S'=>drbP X ops n0 e0 k1 k2 bar fuel (listed.setIfInBounds i true) S' K):drbP X ops n0 e0 k1 k2 bar (fuel+1) listed S K:=by
 refine⟨?_⟩
 intro h12 hkeep h2n e a w h KK hKK
 rw[Bool.and_eq_true] at hsel
 have hkl:∀l:Array Bool,keepOf bar k1 k2 (l.setIfInBounds i true)=keepOf bar k1 k2 l:=fun l=>by unfold keepOf;rw[barred_set hib]
 have hkk:∀k b,get kp k=some b->get S.H k=some b/\k<n0/\b.lt n0:=fun k b hb=>hkeep k b (hkp h12 _ hBl k b hb)
 have hW:KeepW X e0 (keepOf bar k1 k2 listed) w:=keepW_of hkeep h
 have hWp:KeepW X e0 kp w:=keepW_of hkk h
 have hV:∀w',KeepW X e0 kp w'->RepV X e (S.onlyH kp) a w':=fun w' hw'=>⟨h.fr,h.frlt,fun k b hk=>by
  obtain⟨h1,h2,h3⟩:=hkk k b hk
  obtain⟨F,hF⟩:=hw' k b hk
  exact⟨F,Blk.holds_keep hF h.es h2 h3 (fun _ h=>h) (fun _ _=>rfl) (fun _ _=>rfl)⟩,fun k b hk=>h.hlt k b (hkk k b hk).1,h.one⟩
 have go:∀v:SV,v.lt S.nx=true->dstOk X.nt o.dst=true->YieldsIf X.P ops.toArray (KeepW X e0 kp) o (v.den e) a->(St.force (S.put o.dst v) fun S'=>drbP X ops n0 e0 k1 k2 bar fuel (listed.setIfInBounds i true) S' K)->anyB X.fen 0 X.P .any ops.toArray (onlyN KK) (fun l w=>KeepW X e0 (keepOf bar k1 k2 l) w) (fuel+1) listed a w:=by
  intro v hl hd hy hd2
  have hi':ops.toArray[i]?=some o:=by simpa using hi
  refine anyB_first (W:=KeepW X e0 kp) (B:=B) (fun f=>fen_fn _ f) hi' (Region.noSelect_spec hsel.1) (noDefer_get hsel.2) (fun _ _ _ hp=>hp) (fun l w' hb hz k b hk=>hz k b (hkp h12 l hb k b hk)) (fun l w' hz=>?_) (fun l j w' hji hz=>?_) hB fuel listed a w (Region.free_spec hi' hf) (by simpa using hr) hy hBl hW ?_
  ·rw[hkl];exact hz
  ·rw[Array.setIfInBounds_comm _ _ (Ne.symm hji),hkl] at hz
   exact hz
  ·rw[force_eq] at hd2
   replace hd2:=hd2.out
   have hH:(S.put o.dst v).H=S.H:=by cases o.dst<;>rfl
   exact hd2 h12 (by rw[hH,hkl];exact hkeep) h2n e _ w (h.put hd hl) KK hKK
 unfold xvg at hx
 split at hx
 ·exact hx.elim
 ·rename_i hd
  have run:xval X o (S.onlyH kp) (fun v=>St.force (S.put o.dst v) fun S'=>drbP X ops n0 e0 k1 k2 bar fuel (listed.setIfInBounds i true) S' K)->Region.wanted o (yielded ops.toArray a.tmps)=true->anyB X.fen 0 X.P .any ops.toArray (onlyN KK) (fun l w=>KeepW X e0 (keepOf bar k1 k2 l) w) (fuel+1) listed a w:=by
   intro hv hw
   obtain⟨v,hK,hyv⟩:=xval_ok hT e a hv
   exact go v (hyv w (hV w hWp)).1 hd (.inl ⟨hw,fun w' hw'=>(hyv w' (hV w' hw')).2⟩) hK
  have skip:(St.force (S.put o.dst .un) fun S'=>drbP X ops n0 e0 k1 k2 bar fuel (listed.setIfInBounds i true) S' K)->Region.wanted o (yielded ops.toArray a.tmps)=false->anyB X.fen 0 X.P .any ops.toArray (onlyN KK) (fun l w=>KeepW X e0 (keepOf bar k1 k2 l) w) (fuel+1) listed a w:=fun hK hw=>go .un rfl hd (.inr ⟨hw,rfl⟩) hK
  split at hx
  ·rename_i hg
   exact run hx (by simp[Region.wanted,hg])
  ·rename_i j want hg
   split at hx
   ·rename_i t hgs
    obtain⟨d,hd',hv⟩:=yielded_of (hV w hWp) hgs
    have hy:yielded ops.toArray a.tmps j=some t:=by
     unfold yielded
     rw[hd',Option.bind_some,hv]
     rfl
    have hw:Region.wanted o (yielded ops.toArray a.tmps)=(t==want):=by
     simp only[Region.wanted,hg,hy]
     cases t<;>cases want<;>rfl
    rcases br_case hx with⟨rfl,hx2⟩|⟨rfl,hx2⟩<;>cases want<;>simp only at hx2
    ·exact skip hx2 hw
    ·exact run hx2 hw
    ·exact run hx2 hw
    ·exact skip hx2 hw
   ·rename_i hgs
    obtain⟨d,hd',hv⟩:=yielded_of (hV w hWp) hgs
    have hy:yielded ops.toArray a.tmps j=none:=by
     unfold yielded
     rw[hd',Option.bind_some,hv]
     rfl
    exact skip hx (by simp[Region.wanted,hg,hy])
   ·exact hx.elim
theorem drb_ready (hT:TabOk X.P X.T){ops:List Oper}{n0:Nat}{e0:Env}{k1 k2:List (Nat×Blk)}{bar:List Nat}{fuel:Nat}{listed:Array Bool}{K:St->Prop}(rs:List Nat)(hr:Region.ready .any ops.toArray listed=rs)(hne:rs.isEmpty=false)
 (hx:AllR ops (fun i o=>xguard (X.at n0 e0) ops o S fun S'=>St.force S' fun S'=>KeepL S'.H (keepOf bar k1 k2 (listed.setIfInBounds i true))/\drbP X ops n0 e0 k1 k2 bar fuel (listed.setIfInBounds i true) S' K) rs):drbP X ops n0 e0 k1 k2 bar (fuel+1) listed S K:=by
 refine⟨?_⟩
 intro h12 hkeep h2n e a w h KK hKK
 refine⟨(fun h0=>by rw[hr] at h0;rw[h0] at hne;cases hne),fun i hi=>?_⟩
 obtain⟨o,ho,hxo⟩:=hx.mem i (hr▸hi)
 have hg:=xguard_ok (X:=X.at n0 e0) hT h hxo (KK:=fun a' w'=>KeepW X e0 (keepOf bar k1 k2 (listed.setIfInBounds i true)) w'/\anyB X.fen 0 X.P .any ops.toArray (onlyN KK) (fun l w=>KeepW X e0 (keepOf bar k1 k2 l) w) fuel (listed.setIfInBounds i true) a' w') (onlyN KK) fun e' S' a' w' hR hS'=>by
  rw[force_eq] at hS'
  obtain⟨h2,h3⟩:=hS'
  have hk':∀k b,get (keepOf bar k1 k2 (listed.setIfInBounds i true)) k=some b->get S'.H k=some b/\k<n0/\b.lt n0:=fun k b hb=>⟨h2.get hb,h2n k b (keepOf_up h12 hb)⟩
  replace h3:=h3.out
  exact⟨keepW_of hk' hR,h3 h12 hk' h2n e' a' w' hR KK hKK⟩
 unfold wpOpIn
 rw[show ops.toArray[i]?=some o by simpa using ho]
 simp only
 split
 ·rename_i hw;rw[if_pos hw] at hg;exact hg
 ·rename_i hw;rw[if_neg hw] at hg;exact⟨fun f _=>fen_fn _ f,hg⟩
theorem drb_done {ops:List Oper}{n0:Nat}{e0:Env}{k1 k2:List (Nat×Blk)}{bar:List Nat}{fuel:Nat}{listed:Array Bool}{K:St->Prop}(hr:Region.ready .any ops.toArray listed=[])(hk:K S):drbP X ops n0 e0 k1 k2 bar fuel listed S K:=by
 refine⟨?_⟩
 intro _ _ _ e a w h KK hKK
 have:=hKK e S a w h hk
 cases fuel with
 |zero=>exact⟨hr,this⟩
 |succ f=>exact⟨fun _=>this,by rw[hr];simp⟩
def behind (bar:List Nat)(ops:List Oper)(i:Nat):Bool:=bar.all fun b=>match ops[b]? with
 |some o=>o.after.any fun e=>e.on==i&&Region.binds .any e
 |none=>true
theorem yt {ops:List Oper}{n0:Nat}{e0:Env}{k1 k2:List (Nat×Blk)}{bar:List Nat}{fuel:Nat}{listed:Array Bool}{K:St->Prop}(i:Nat){o:Oper}(hi:ops[i]?=some o)
 (hx:xvg X ops o (S.onlyH k2) fun v=>St.force (S.put o.dst v) fun S'=>drbP X ops n0 e0 k1 k2 bar fuel (listed.setIfInBounds i true) S' K)
 (hT:TabOk X.P X.T:=by exact Sy.tab_ok)(hsel:(Region.noSelect ops.toArray&&noDefer ops)=true:=by kernel_rfl)(hf:Region.free .any ops.toArray listed i=true:=by kernel_rfl)(hr:(Region.ready .any ops.toArray listed).contains i=true:=by kernel_rfl)
 (hib:bar.contains i=false:=by rfl)(hb:barred bar listed=false:=by kernel_rfl)(hbe:behind bar ops i=true:=by kernel_rfl):drbP X ops n0 e0 k1 k2 bar (fuel+1) listed S K:=
 drb_take0 hT k2 (fun l=>barred bar l=false) i hi hsel hf hr hib (fun _ _ hl _ _ hk=>by unfold keepOf;rw[hl];exact hk) hb (fun l j hl hj hri hji=>by
  have hjb:bar.contains j=false:=by
   cases hc:bar.contains j with
   |false=>rfl
   |true=>
    obtain⟨_,oj,hoj,_⟩:=mem_ready.1 hj
    have hn:=ready_not hri hj hoj
    have hm:=List.all_eq_true.1 hbe j (by simpa using hc)
    rw[show ops[j]?=some oj by simpa using hoj] at hm
    obtain⟨e,he,h2⟩:=Array.any_eq_true'.1 hm
    rw[Bool.and_eq_true] at h2
    exact absurd (by simpa using h2.1) (hn e he h2.2)
  rw[barred_set hjb];exact hl) hx
theorem yt1 {ops:List Oper}{n0:Nat}{e0:Env}{k1 k2:List (Nat×Blk)}{bar:List Nat}{fuel:Nat}{listed:Array Bool}{K:St->Prop}(i:Nat){o:Oper}(hi:ops[i]?=some o)
 (hx:xvg X ops o (S.onlyH k1) fun v=>St.force (S.put o.dst v) fun S'=>drbP X ops n0 e0 k1 k2 bar fuel (listed.setIfInBounds i true) S' K)
 (hT:TabOk X.P X.T:=by exact Sy.tab_ok)(hsel:(Region.noSelect ops.toArray&&noDefer ops)=true:=by kernel_rfl)(hf:Region.free .any ops.toArray listed i=true:=by kernel_rfl)(hr:(Region.ready .any ops.toArray listed).contains i=true:=by kernel_rfl)
 (hib:bar.contains i=false:=by rfl):drbP X ops n0 e0 k1 k2 bar (fuel+1) listed S K:=
 drb_take0 hT k1 (fun _=>True) i hi hsel hf hr hib (fun h12 _ _ _ _ hk=>keepOf_get h12 hk) trivial (fun _ _ _ _ _ _=>trivial) hx
theorem yd1 {ops:List Oper}{n0:Nat}{e0:Env}{k1 k2:List (Nat×Blk)}{bar:List Nat}{fuel:Nat}{listed:Array Bool}{K:St->Prop}(rs:List Nat)
 (hx:AllR ops (fun i o=>xguard (X.at n0 e0) ops o S fun S'=>St.force S' fun S'=>KeepL S'.H (keepOf bar k1 k2 (listed.setIfInBounds i true))/\drbP X ops n0 e0 k1 k2 bar fuel (listed.setIfInBounds i true) S' K) rs)
 (hT:TabOk X.P X.T:=by exact Sy.tab_ok)(hr:Region.ready .any ops.toArray listed=rs:=by kernel_rfl)(hne:rs.isEmpty=false:=by rfl):drbP X ops n0 e0 k1 k2 bar (fuel+1) listed S K:=
 drb_ready hT rs hr hne hx
theorem yw {ops:List Oper}{n0:Nat}{e0:Env}{k1 k2:List (Nat×Blk)}{bar:List Nat}{fuel:Nat}{listed:Array Bool}{K:St->Prop}(hk:K S)(hr:Region.ready .any ops.toArray listed=[]:=by kernel_rfl):drbP X ops n0 e0 k1 k2 bar fuel listed S K:=drb_done hr hk
theorem drawB2_go {id:Nat}{ops:Array Oper}{Q:Exit->St->Prop}(bad two bar:List Nat)(hm:X.P.follows .mixedOrders=true)
 (hx:∀e0,St.forceAll (S.prune (get X.lv id)) fun S=>drbP X ops.toList S.nx e0 (dropIds bad (dropIds two S.H)) (dropIds two S.H) bar ops.toList.length (Array.replicate ops.toList.length false) S (Q .normal)):semP X (.region id ops true) S Q:=by
 refine⟨?_⟩
 intro e a w h0 Qr hQ
 have hx:=fun e0=>by
  have:=hx e0
  rw[forceAll_eq] at this
  exact this
 have h:=h0.prune (get X.lv id)
 have hd:=(h.drawn (w.drawn+1)).into
 refine wpIn_mono (Q:=onlyN fun a w=>Qr .normal a w) (wpIn_region_any hm ?_) (fun ex a w hq=>?_)
 ·have:=hx e
  replace this:=this.out
  have h12:∀k b,get (dropIds bad (dropIds two (S.prune (get X.lv id)).H)) k=some b->get (dropIds two (S.prune (get X.lv id)).H) k=some b:=fun k b hb=>(get_dropIds hb).1
  have h2:=this h12 (fun k b hb=>⟨(get_dropIds (keepOf_up h12 hb)).1,h.hlt k b (get_dropIds (keepOf_up h12 hb)).1⟩) (fun k b hb=>h.hlt k b (get_dropIds hb).1) e a _ hd (fun a w=>Qr .normal a w) fun e' S' a' w' hR hS'=>hQ _ _ _ _ _ (hR.outof h.n0 h.es) hS'
  exact anyB_any _ _ _ _ (by simpa using h2)
 ·cases ex with
  |normal=>exact hq
  |exit id=>exact hq.elim
  |goto l=>exact hq.elim
  |ret=>exact hq.elim
  |panic ch=>exact hq.elim
  |outgrown=>exact hq.elim
end
end Go.Proofs.YtgkkpefpbfadoaaGreat.Sy
