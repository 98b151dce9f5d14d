/- Short names for the rules of the symbolic executor that every walk uses. -/
import Derived.Test.YtgkkpefpbfadoaaGreatDk8
import Derived.Test.YtgkkpefpbfadoaaGreatDk6
namespace Go.Proofs.YtgkkpefpbfadoaaGreat
open Go Sy
theorem zl {b:Bool}{A B:Prop}(h:b=true->A)(h':b=false->B):brP b A B:=br_split h h'
theorem zA {G R:Prop}(h:R)(e:R->G:=by first|exact Sy.brT|exact Sy.brF|exact Sy.br_pos (by assumption)|exact Sy.br_neg (by assumption)|exact Sy.br_bneT|exact Sy.br_bneF|exact Sy.br_bneT'|exact Sy.br_bneF'|exact Sy.br_not|exact Sy.br_and|exact Sy.br_lself|exact Sy.br_dT (by assumption)|exact Sy.br_dF (by assumption)|exact Sy.br_eT (by assumption)|exact Sy.br_eF (by assumption)|exact Sy.br_nT (by assumption)|exact Sy.br_nF (by assumption)|exact Sy.ar_in (by omega)|exact Sy.idx_nat (by omega)|exact Sy.idx_in (by omega) (by omega)|exact Sy.seq_go Sy.tab_ok|exact Sy.block_go Sy.tab_ok|exact Sy.cond_go Sy.tab_ok _ rfl|exact Sy.slv_nil):G:=e h
theorem zI {G R R':Prop}(h:R)(h':R')(e:R->R'->G:=by first|exact Sy.br_dec|exact Sy.br_eq|exact Sy.br_ne):G:=e h h'
section
variable {X : Cx} {S : St} {x y p q : Code} {Q : Exit → St → Prop}
theorem zq {id:Nat}{ops:Array Oper}(hx:xops X id ops.toList ops.toList S fun S'=>xcode X y S' Q)(hT:TabOk X.P X.T:=by exact Sy.tab_ok):cutP X (.region id ops false) y S Q:=cut_go hT hx
theorem zv {id:Nat}{ops:Array Oper}(hx:semP X (.region id ops true) S (then_ Q fun S'=>xcode X y S' Q))(hT:TabOk X.P X.T:=by exact Sy.tab_ok):cutP X (.region id ops true) y S Q:=cut_sem (seq_go hT hx)
theorem zu {v:Value}{K:St->SV->Prop}(h:K S (.c (.v v))):openP X S v K:=open_skip h
theorem zt {ops:List Oper}{n0:Nat}{e0:Env}{keep:List (Nat×Blk)}{fuel:Nat}{listed:Array Bool}{K:St->Prop}(i:Nat){o:Oper}(hi:ops[i]?=some o)
 (hx:xvg X ops o (S.onlyH keep) fun v=>St.force (S.put o.dst v) fun S'=>drwP X ops n0 e0 keep fuel (listed.setIfInBounds i true) S' K)
 (hT:TabOk X.P X.T:=by exact Sy.tab_ok)(hsel:(Region.noSelect ops.toArray&&noDefer ops)=true:=by kernel_rfl)(hf:Region.free .any ops.toArray listed i=true:=by kernel_rfl)(hr:(Region.ready .any ops.toArray listed).contains i=true:=by kernel_rfl):drwP X ops n0 e0 keep (fuel+1) listed S K:=
 drw_take hT i hi hsel hf hr hx
theorem zd1 {ops:List Oper}{n0:Nat}{e0:Env}{keep:List (Nat×Blk)}{fuel:Nat}{listed:Array Bool}{K:St->Prop}(rs:List Nat)
 (hx:AllR ops (fun i o=>xguard (X.at n0 e0) ops o S fun S'=>St.force S' fun S'=>KeepL S'.H keep/\drwP X ops n0 e0 keep fuel (listed.setIfInBounds i true) S' K) rs)
 (hT:TabOk X.P X.T:=by exact Sy.tab_ok)(hr:Region.ready .any ops.toArray listed=rs:=by kernel_rfl)(hne:rs.isEmpty=false:=by rfl):drwP X ops n0 e0 keep (fuel+1) listed S K:=
 drw_ready hT rs hr hne hx
theorem zw {ops:List Oper}{n0:Nat}{e0:Env}{keep:List (Nat×Blk)}{fuel:Nat}{listed:Array Bool}{K:St->Prop}(hk:K S)(hr:Region.ready .any ops.toArray listed=[]:=by kernel_rfl):drwP X ops n0 e0 keep fuel listed S K:=drw_done hr hk
theorem zy {ops:List Oper}{p:Nat->Oper->Prop}:AllR ops p []:=allR_nil
theorem zx {ops:List Oper}{p:Nat->Oper->Prop}{i:Nat}{r:List Nat}{o:Oper}(ho:ops[i]?=some o)(h:p i o)(hr:AllR ops p r):AllR ops p (i::r):=allR_cons o ho h hr
end
structure Y0:Prop
structure Bx (p:Prop):Prop where o:p
structure If (c p:Prop):Prop where f:c->p
theorem zdead {G:Prop}(_:Y0)(f:False):G:=f.elim
theorem zfin {G:Prop}(_:Y0)(g:G):G:=g
theorem Y1 {c p:Prop}(f:c->p):If c p:=⟨f⟩
theorem Y {G R:Prop}(h:R)(e:Bx R->G:=by
 intro h
 (conv=>whnf)
 first
 |refine zA ?_;repeat((conv=>whnf);refine zA ?_)
  (conv=>whnf);exact h.o
 |refine zq ?_;(conv=>whnf);exact h.o
 |refine zv ?_;(conv=>whnf);exact h.o
 |refine zu ?_;(conv=>whnf);exact h.o
 |exact zfin h.o (Sy.fin_val fun e=>rfl)):G:=e ⟨h⟩
theorem Yc {G R:Prop}(h:R)(e:Bx R->G:=by
 intro h
 (conv=>whnf)
 first
 |refine zA ?_;repeat((conv=>whnf);refine zA ?_)
  (conv=>whnf);exact h.o
 |refine zu ?_;(conv=>whnf);exact h.o
 |exact zfin h.o (Sy.fin_val fun e=>rfl)):G:=e ⟨h⟩
theorem Yo {G R:Prop}(h:R)(e:Bx R->G:=by
 intro h
 (conv=>whnf)
 first
 |refine zA ?_;repeat((conv=>whnf);refine zA ?_)
  (conv=>whnf);exact h.o
 |refine zq ?_;(conv=>whnf);exact h.o
 |refine zv ?_;(conv=>whnf);exact h.o
 |exact zfin h.o (Sy.fin_val fun e=>rfl)):G:=e ⟨h⟩
theorem Yd {G R:Prop}(h:R)(e:Bx R->G:=by
 intro h
 (conv=>whnf)
 first
 |refine zA ?_;repeat((conv=>whnf);refine zA ?_)
  (conv=>whnf);exact h.o
 |exact zfin h.o (Sy.fin_val fun e=>rfl)):G:=e ⟨h⟩
theorem Y2 {G R R':Prop}(h:R)(h':R')(e:Bx R->Bx R'->G:=by
 intro h h'
 (conv=>whnf)
 first
 |refine zI (fun hh=>?_) (fun hh=>?_)
  ·first|exact zdead h.o (by omega)|(conv=>whnf);exact If.f h.o hh
  ·first|exact zdead h'.o (by omega)|(conv=>whnf);exact If.f h'.o hh
 |refine zl (fun hh=>?_) (fun hh=>?_)
  ·(conv=>whnf);exact If.f h.o hh
  ·(conv=>whnf);exact If.f h'.o hh):G:=e ⟨h⟩ ⟨h'⟩
theorem Yk {A B:Prop}(b:B)(a:A:=by repeat'((conv=>whnf);first|exact trivial|(refine And.intro ?_ ?_)|rfl)):A/\B:=⟨a,b⟩
end Go.Proofs.YtgkkpefpbfadoaaGreat
namespace Go.Proofs.YtgkkpefpbfadoaaGreat
open Go Go.RowKit
theorem Vk {a b:Prop}(x:a)(y:b):a/\b:=⟨x,y⟩
theorem Vj {a b c d:Prop}(x:c->a)(y:d->b):If c a/\If d b:=⟨⟨x⟩,⟨y⟩⟩
theorem vf {c d A B R R' G:Prop}(h:Bx (If c R/\If d R'))(f:Bx R->c->A)(g:Bx R'->d->B)(e:(c->A)->(d->B)->G:=by first|exact Sy.br_dec|exact Sy.br_eq|exact Sy.br_ne|exact Sy.br_split):G:=e (fun x=>f ⟨h.o.1.f x⟩ x) (fun x=>g ⟨h.o.2.f x⟩ x)
theorem vl {c d A B R G:Prop}(h:Bx (If d R))(g:Bx R->d->B)(e:(c->A)->(d->B)->G:=by first|exact Sy.br_dec|exact Sy.br_eq|exact Sy.br_ne)(f:c->False:=by intro hh;omega):G:=e (fun x=>(f x).elim) (fun x=>g ⟨h.o.f x⟩ x)
theorem vr {c d A B R G:Prop}(h:Bx (If c R))(g:Bx R->c->A)(e:(c->A)->(d->B)->G:=by first|exact Sy.br_dec|exact Sy.br_eq|exact Sy.br_ne)(f:d->False:=by intro hh;omega):G:=e (fun x=>g ⟨h.o.f x⟩ x) (fun x=>(f x).elim)
theorem V {G R:Prop}(h:R)(e:Bx R->G:=by
 intro h
 (conv=>whnf)
 repeat'(first
  |refine zA ?_;(conv=>whnf)
  |refine zq ?_;(conv=>whnf)
  |refine zv ?_;(conv=>whnf)
  |refine zu ?_;(conv=>whnf)
  |exact zfin h.o (Sy.fin_val fun e=>rfl)
  |refine' vl h (fun h hh=>?_);rotate_left;(conv=>whnf)
  |refine' vr h (fun h hh=>?_);rotate_left;(conv=>whnf)
  |refine' vf h (fun h hh=>?_) (fun h hh=>?_);rotate_left 2;(conv=>whnf);rotate_left;(conv=>whnf);rotate_right
  |fail)
 all_goals exact h.o):G:=e ⟨h⟩
theorem V0 {G:Prop}(e:Bx G:=by
 refine⟨?_⟩
 (repeat' first|refine Y ?_|refine Y2 ?_ ?_|refine Y1 fun hh=>?_|exact Y0.mk)
 first|done|fail):G:=e.o
theorem Vc {G R:Prop}(h:R)(e:Bx R->G:=by
 intro h
 (conv=>whnf)
 repeat'(first
  |refine zA ?_;(conv=>whnf)
  |refine zu ?_;(conv=>whnf)
  |exact zfin h.o (Sy.fin_val fun e=>rfl)
  |refine' vl h (fun h hh=>?_);rotate_left;(conv=>whnf)
  |refine' vr h (fun h hh=>?_);rotate_left;(conv=>whnf)
  |refine' vf h (fun h hh=>?_) (fun h hh=>?_);rotate_left 2;(conv=>whnf);rotate_left;(conv=>whnf);rotate_right
  |fail)
 all_goals exact h.o):G:=e ⟨h⟩
theorem Vc0 {G:Prop}(e:Bx G:=by
 refine⟨?_⟩
 (repeat' first|refine Yc ?_|refine Y2 ?_ ?_|refine Y1 fun hh=>?_|exact Y0.mk)
 first|done|fail):G:=e.o
theorem Vo {G R:Prop}(h:R)(e:Bx R->G:=by
 intro h
 (conv=>whnf)
 repeat'(first
  |refine zA ?_;(conv=>whnf)
  |refine zq ?_;(conv=>whnf)
  |refine zv ?_;(conv=>whnf)
  |exact zfin h.o (Sy.fin_val fun e=>rfl)
  |refine' vl h (fun h hh=>?_);rotate_left;(conv=>whnf)
  |refine' vr h (fun h hh=>?_);rotate_left;(conv=>whnf)
  |refine' vf h (fun h hh=>?_) (fun h hh=>?_);rotate_left 2;(conv=>whnf);rotate_left;(conv=>whnf);rotate_right
  |fail)
 all_goals exact h.o):G:=e ⟨h⟩
theorem Vo0 {G:Prop}(e:Bx G:=by
 refine⟨?_⟩
 (repeat' first|refine Yo ?_|refine Y2 ?_ ?_|refine Y1 fun hh=>?_|exact Y0.mk)
 first|done|fail):G:=e.o
theorem Vd {G R:Prop}(h:R)(e:Bx R->G:=by
 intro h
 (conv=>whnf)
 repeat'(first
  |refine zA ?_;(conv=>whnf)
  |exact zfin h.o (Sy.fin_val fun e=>rfl)
  |refine' vl h (fun h hh=>?_);rotate_left;(conv=>whnf)
  |refine' vr h (fun h hh=>?_);rotate_left;(conv=>whnf)
  |refine' vf h (fun h hh=>?_) (fun h hh=>?_);rotate_left 2;(conv=>whnf);rotate_left;(conv=>whnf);rotate_right
  |fail)
 all_goals exact h.o):G:=e ⟨h⟩
theorem Vd0 {G:Prop}(e:Bx G:=by
 refine⟨?_⟩
 (repeat' first|refine Yd ?_|refine Y2 ?_ ?_|refine Y1 fun hh=>?_|exact Y0.mk)
 first|done|fail):G:=e.o
theorem Vs0 {G:Prop}(e:Bx G:=by
 refine⟨?_⟩
 (repeat'(first|((conv=>whnf);done)|((try conv=>whnf);first|exact trivial|(refine And.intro ?_ ?_)|rfl|exact fun _ _ _ h=>h|exact fun _ _ _ _=>trivial)))
 first|done|fail):G:=e.o
theorem vs1 {A B R:Prop}(h:Bx R)(g:Bx R->B)(a:A:=by exact Vs0):A/\B:=⟨a,g h⟩
theorem vs2 {A B R:Prop}(h:Bx R)(g:Bx R->A)(b:B:=by exact Vs0):A/\B:=⟨g h,b⟩
theorem vs3 {A B R R':Prop}(h:Bx (R/\R'))(f:Bx R->A)(g:Bx R'->B):A/\B:=⟨f ⟨h.o.1⟩,g ⟨h.o.2⟩⟩
theorem vm1 {A B C D E R:Prop}(h:Bx R)(g:Bx R->E)(a:A/\B/\C/\D:=by exact Vs0):A/\B/\C/\D/\E:=⟨a.1,a.2.1,a.2.2.1,a.2.2.2,g h⟩
theorem vm2 {A B C D E R R':Prop}(h:Bx (R/\R'))(g:Bx R->E)(f:Bx R'->A/\B/\C/\D):A/\B/\C/\D/\E:=have a:=f ⟨h.o.2⟩;⟨a.1,a.2.1,a.2.2.1,a.2.2.2,g ⟨h.o.1⟩⟩
theorem Vs {G R:Prop}(h:R)(e:Bx R->G:=by
 intro h
 (try conv=>whnf)
 repeat'(first
  |refine vs1 h (fun h=>?_);(try conv=>whnf)
  |refine vs2 h (fun h=>?_);(try conv=>whnf)
  |refine' vs3 h (fun h=>?_) (fun h=>?_);rotate_left 2;(try conv=>whnf);rotate_left;(try conv=>whnf);rotate_right
  |fail)
 all_goals exact h.o):G:=e ⟨h⟩
theorem Vl {G R:Prop}(h:R)(e:Bx R->G:=by
 intro h
 (conv=>whnf)
 first
 |refine vm1 h (fun h=>?_);(try conv=>whnf);exact h.o
 |refine' vm2 h (fun h=>?_) (fun h=>?_)
  rotate_left 2
  (try conv=>whnf)
  exact h.o
  (try conv=>whnf)
  repeat'(first
   |refine vs1 h (fun h=>?_);(try conv=>whnf)
   |refine vs2 h (fun h=>?_);(try conv=>whnf)
   |refine' vs3 h (fun h=>?_) (fun h=>?_);rotate_left 2;(try conv=>whnf);rotate_left;(try conv=>whnf);rotate_right
   |fail)
  all_goals exact h.o):G:=e ⟨h⟩
end Go.Proofs.YtgkkpefpbfadoaaGreat
namespace Go.Proofs.YtgkkpefpbfadoaaGreat
open Go Go.RowKit
open Sy (C SV V1 Blk St XD Els)
def I64 (x:Int):Prop:=-9223372036854775808<=x/\x<=9223372036854775807
def encI (i:Int):List Value:=[.int .i64 i]
theorem ok_len {F:Nat->Prop}{w:World}{v:Value}{esz n:Nat}{xs:List (List Value)}(hr:XD.ok F w ⟨v,esz,n,xs⟩):n<=9223372036854775807:=by
 have:=hr.1;obtain⟨_,_,_,_,_,h1,h2,_⟩:=this;unfold maxLen at h2;show n<=_;have h1:n<=_:=h1;omega
theorem nil_ok {F:Nat->Prop}{w:World}{esz:Nat}:XD.ok F w ⟨.slice none 0 0,esz,0,[]⟩:=
 ⟨⟨rfl,fun c hc=>(by cases hc),none,0,rfl,Nat.le_refl _,by simp[maxLen],fun h0=>absurd h0 (Nat.lt_irrefl 0)⟩,fun c hc=>(by cases hc)⟩
theorem lst_ne {α:Type}{xs ys:List α}(n:Nat){x y:α}(hx:xs[n]?=some x)(hy:ys[n]?=some y)(h:x≠y):xs≠ys:=fun e=>by
 subst e;rw[hx] at hy;exact h (Option.some.inj hy)
theorem lst_eq {α:Type}{xs ys:List α}(n:Nat)(h1:n=xs.length)(hl:xs.length=ys.length)(h:∀i,i<n->xs[i]?=ys[i]?):xs=ys:=by
 subst h1
 refine List.ext_getElem? fun i=>?_
 by_cases hi:i<xs.length
 ·exact h i hi
 ·rw[List.getElem?_eq_none (by omega),List.getElem?_eq_none (by omega)]
theorem pre_succ {α:Type}{xs ys:List α}{n:Nat}{x y:α}(hx:xs[n]?=some x)(hy:ys[n]?=some y)(h:x=y)(hp:∀i,i<n->xs[i]?=ys[i]?):∀i,i<n+1->xs[i]?=ys[i]?:=fun i hi=>by
 by_cases e:i=n
 ·subst e;rw[hx,hy,h]
 ·exact hp i (by omega)
end Go.Proofs.YtgkkpefpbfadoaaGreat
