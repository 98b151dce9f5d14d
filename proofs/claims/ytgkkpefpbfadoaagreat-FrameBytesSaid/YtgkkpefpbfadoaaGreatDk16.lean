/- Graph: Check. -/
import Derived.Test.YtgkkpefpbfadoaaGreatDk9
import Derived.Test.YtgkkpefpbfadoaaGreatDk15
import Derived.Test.YtgkkpefpbfadoaaGreatDk11
namespace Go.Proofs.YtgkkpefpbfadoaaGreat
open Go Go.RowKit
open Sy (C SV V1 Blk St XD Els)
set_option maxRecDepth 10000
def setE (ks:List Int):List (Value×Value):=(ks.map fun k=>(k,Value.bool true)).map fun z=>(Value.int .i64 z.1,z.2)
theorem set_add {P:Program}{kt:Nat}{K:Option (Nat×Value)->Prop}(ks:List Int)(x:Int)(hu:P.underlying kt=some (.int .i64))(hn:ks.Nodup)(hk:∀r,(x∈ks/\∃i,r=some (i,.bool true)/\ks[i]?=some x)\/(x∉ks/\r=none)->K r):Sy.findP P kt (.int .i64 x) (setE ks) K:=by
 by_cases hx:x∈ks
 ·obtain⟨i,hi,he⟩:=List.mem_iff_getElem.1 hx
  have hg:ks[i]?=some x:=by rw[List.getElem?_eq_getElem hi,he]
  refine Sy.map_hit (ks.map fun k=>(k,Value.bool true)) x i (.bool true) hu (by simp[hg]) (fun j z hj hz=>?_) (hk _ (.inl ⟨hx,i,rfl,hg⟩))
  rw[List.getElem?_map] at hz
  obtain⟨y,hy,rfl⟩:=Option.map_eq_some_iff.1 hz
  intro e
  have e:y=x:=e
  subst e
  obtain⟨hj',hy⟩:=List.getElem?_eq_some_iff.1 hy
  have:=(List.getElem_inj hn).1 (hy.trans he.symm)
  omega
 ·refine Sy.map_miss (ks.map fun k=>(k,Value.bool true)) x hu (fun z hz=>?_) (hk _ (.inr ⟨hx,rfl⟩))
  obtain⟨y,hy,rfl⟩:=List.mem_map.1 hz
  intro e
  have e:y=x:=e
  subst e;exact hx hy
theorem set_same (ks:List Int){i:Nat}{x:Int}(h:ks[i]?=some x):(setE ks).set i (.int .i64 x,.bool true)=setE ks:=by
 obtain⟨hi,he⟩:=List.getElem?_eq_some_iff.1 h
 unfold setE
 refine List.ext_getElem? fun j=>?_
 rw[List.getElem?_set]
 split
 ·rename_i e;subst e
  simp[hi,he]
 ·rfl
theorem set_new (ks:List Int)(x:Int):setE ks++[(.int .i64 x,.bool true)]=setE (ks++[x]):=by simp[setE]
def rdBy (g:List Opr)(n:Nat)(x:Int):Prop:=∃o∈g.take n,x∈o.ins
theorem rdBy_succ {g:List Opr}{n:Nat}{o:Opr}(h:g[n]?=some o)(x:Int):rdBy g (n+1) x↔rdBy g n x\/x∈o.ins:=by
 obtain⟨hn,he⟩:=List.getElem?_eq_some_iff.1 h
 unfold rdBy
 rw[List.take_succ_eq_append_getElem hn,he]
 constructor
 ·rintro⟨p,hp,hx⟩
  rcases List.mem_append.1 hp with hp|hp
  ·exact .inl ⟨p,hp,hx⟩
  ·rw[List.mem_singleton.1 hp] at hx;exact .inr hx
 ·rintro(⟨p,hp,hx⟩|hx)
  ·exact⟨p,List.mem_append_left _ hp,hx⟩
  ·exact⟨o,by simp,hx⟩
theorem rdBy_all {g:List Opr}{i:Nat}:rdBy g g.length (i:Int)↔readB g i=true:=by
 unfold rdBy readB
 rw[List.take_length,List.any_eq_true]
 simp
attribute [local irreducible] wrongE wideN unreadB readB setE rdBy
set_option maxHeartbeats 2000000 in
theorem check_any (v:Value)(gl:List OpV)(w:World)(hr:GOk (fun b=>b<w.heap.size) w v gl):
 Calls Tryz.prog 157 #[.agg #[v]] w (Sy.Ret (.tuple #[.int .i64 (checkV (opsOf gl)).1,.int .i64 (checkV (opsOf gl)).2]) w):=by
 have hl:=ok_len hr.1
 have hol:=opsOf_len gl
 refine Sy.calls_of Sy.lv157 Sy.tab_ok Tryz.func157 rfl _ Tryz.ntmps157 [⟨v,5,gl.length,gl.map encOV⟩] [.agg [.row 0]] rfl rfl rfl ⟨hr.1,trivial⟩ ?_
 by_cases h8:(opsOf gl).length<1\/8<(opsOf gl).length
 ·refine V (Vj (fun hh=>?_) fun hh=>Y1 fun hh=>?_)
  all_goals exact Sy.fin_val (fun e=>by rw[checkV,if_pos h8];rfl)
 ·refine V (Y1 fun hh=>Y1 fun hh=>?_)
  refine Sy.loop_inv Sy.tab_ok (fun n:Nat=>[(28,.c (.v (.int .i64 n))),(4,.c (.v (.int .i64 (wideN (opsOf gl) n))))]) (fun _=>[]) (fun n=>n<=gl.length/\goodTo (opsOf gl) n/\∀j,j<n->wrongAt (opsOf gl) j=0) (fun n=>gl.length-n) 0 ⟨Nat.zero_le _,(fun j o h _=>absurd h (Nat.not_lt_zero _)),fun j h=>absurd h (Nat.not_lt_zero _)⟩ ?_ (fun n hn=>?_)
  ·rw[show wideN (opsOf gl) 0=0 by unfold wideN;simp]
   exact Vs0
  ·obtain⟨hn,hg,hz⟩:=hn
   have hwn:=wideN_le n hg
   refine Vc (Vj (fun hh=>?_) fun hh=>?_)
   ·have hlt:n<gl.length:=by omega
    have hgn:=List.getElem?_eq_getElem hlt
    generalize gl[n]=o at *
    have hw:wrongAt (opsOf gl) n=wrongE (opsOf gl) n o.op (wideN (opsOf gl) (n+1)):=by unfold wrongAt;rw[opsOf_get hgn]
    have hsc:=good_succ hg (opsOf_get hgn)
    have hws:=wideN_succ (opsOf_get hgn)
    refine Sy.el_map o hgn (Vo ?_)
    refine Sy.ar_wrap ?_
    have hwx:wrongE (opsOf gl) n o.op (IntKind.i64.wrap (wideN (opsOf gl) n+o.op.width))=wrongAt (opsOf gl) n:=by
     rw[hw]
     exact wrongE_wide fun ha=>by
      obtain⟨h1,h2,_⟩:=ha
      rw[hws]
      rw[IntKind.wrap_i64];omega
    generalize hW:IntKind.i64.wrap (wideN (opsOf gl) n+o.op.width)=W at *
    refine Vo ?_
    refine Sy.call_val (.c (.v (.int .i64 (wrongAt (opsOf gl) n)))) Tryz.call195 rfl (fun e a w' h=>by have:=wrong_any (e.rv 0) gl n o W w' ⟨Sy.row_reads h (.inr rfl),fun o ho=>Sy.later_in h (hr.2 o ho)⟩ (by omega) hgn hg;rw[hwx] at this;exact this) (Vo (Vj (fun hh=>?_) fun hh=>?_))
    ·have h0:wrongAt (opsOf gl) n=0:=by assumption
     have hg1:=hsc h0
     have hwe:W=wideN (opsOf gl) (n+1):=by
      have ha:=hg1 n o.op (by omega) (opsOf_get hgn)
      obtain⟨h1,h2,_⟩:=ha
      rw[<-hW,hws];rw[IntKind.wrap_i64];omega
     refine⟨n+1,⟨by omega,hg1,fun j hj=>?_⟩,by omega,?_⟩
     ·rcases Nat.lt_succ_iff_lt_or_eq.1 hj with hj|rfl
      ·exact hz j hj
      ·exact h0
     ·rw[<-hwe]
      exact Vs0
    ·exact Sy.fin_val (fun e=>by rw[checkV_w h8 (by omega) (by assumption) hz];rfl)
   ·have e:n=gl.length:=by omega
    subst e
    rw[<-hol] at hz
    have z0:setE []=[]:=by unfold setE;rfl
    have r0:∀x,x∈([]:List Int)↔rdBy (opsOf gl) 0 x:=fun x=>by unfold rdBy;simp
    refine Sy.loop_inv Sy.tab_ok (fun y:Nat×List Int=>[(50,.c (.v (.int .i64 y.1)))]) (fun y=>[(2,.mp (setE y.2))]) (fun y=>y.1<=gl.length/\y.2.Nodup/\∀x,x∈y.2↔rdBy (opsOf gl) y.1 x) (fun y=>gl.length-y.1) (0,[]) ⟨Nat.zero_le _,List.nodup_nil,r0⟩ ?_ (fun y hy=>?_)
    ·dsimp only
     rw[z0]
     exact Vs0
    ·obtain⟨n,ks⟩:=y
     obtain⟨hn,hnd,hmem⟩:=hy
     dsimp only at hn hnd hmem⊢
     refine Vo (Vj (fun hh=>?_) fun hh=>?_)
     ·have hlt:n<gl.length:=by omega
      have hgn:=List.getElem?_eq_getElem hlt
      generalize gl[n]=o at *
      have hoo:=hr.at hgn
      have hlo:=ok_len hoo
      have hrs:=rdBy_succ (opsOf_get hgn)
      refine Sy.el_map o hgn (Vo ?_)
      refine open_x _ _ _ (hoo) (fun _ h=>h) (Vo ?_)
      refine Sy.loop_inv Sy.tab_ok (fun y:Nat×List Int=>[(57,.c (.v (.int .i64 y.1)))]) (fun y=>[(2,.mp (setE y.2))]) (fun y=>y.1<=o.op.ins.length/\y.2.Nodup/\∀x,x∈y.2↔rdBy (opsOf gl) n x\/x∈o.op.ins.take y.1) (fun y=>o.op.ins.length-y.1) (0,ks) ⟨Nat.zero_le _,hnd,fun x=>by simp[hmem]⟩ ?_ (fun y hy=>?_)
      ·exact Vs0
      ·obtain⟨m,ls⟩:=y
       obtain⟨hm,hld,hlm⟩:=hy
       dsimp only at hm hld hlm⊢
       refine Vo (Vj (fun hh=>?_) fun hh=>?_)
       ·have hlt2:m<o.op.ins.length:=by omega
        have hgm:=List.getElem?_eq_getElem hlt2
        have htk:=List.take_succ_eq_append_getElem hlt2
        generalize o.op.ins[m]=k at *
        refine Sy.el_map k hgm (Vo ?_)
        refine set_add ls k Tryz.underlying3 hld (fun r hr=>?_)
        rcases hr with⟨hx,i,rfl,hi⟩|⟨hx,rfl⟩
        ·refine Vo ?_
         refine⟨(m+1,ls),⟨by dsimp only;omega,hld,fun x=>?_⟩,by dsimp only;omega,?_⟩
         ·rw[hlm,htk,List.mem_append,List.mem_singleton]
          have:=(hlm k).1 hx
          constructor
          ·rintro(h|h)
           ·exact .inl h
           ·exact .inr (.inl h)
          ·rintro(h|h|rfl)
           ·exact .inl h
           ·exact .inr h
           ·exact this
         ·refine Vs ?_
          all_goals exact set_same ls hi
        ·refine Vo ?_
         refine⟨(m+1,ls++[k]),⟨by dsimp only;omega,List.nodup_append.2 ⟨hld,by simp,fun a ha b hb=>by simp at hb;rintro rfl;exact hx (hb▸ha)⟩,fun x=>?_⟩,by dsimp only;omega,?_⟩
         ·rw[List.mem_append,hlm,htk,List.mem_append,or_assoc]
         ·refine Vs ?_
          all_goals exact set_new ls k
       ·have e:m=o.op.ins.length:=by omega
        subst e
        refine⟨(n+1,ls),⟨by dsimp only;omega,hld,fun x=>?_⟩,by dsimp only;omega,?_⟩
        ·rw[hlm,hrs,List.take_length]
        ·exact Vs0
     ·have e:n=gl.length:=by omega
      subst e
      have hrd:∀i:Nat,(i:Int)∈ks↔readB (opsOf gl) i=true:=fun i=>by rw[hmem,<-hol,rdBy_all]
      refine Sy.loop_inv Sy.tab_ok (fun n:Nat=>[(68,.c (.v (.int .i64 n)))]) (fun _=>[]) (fun n=>n<=gl.length/\∀j,j<n->unreadB (opsOf gl) j=false) (fun n=>gl.length-n) 0 ⟨Nat.zero_le _,fun j h=>absurd h (Nat.not_lt_zero _)⟩ ?_ (fun n hn=>?_)
      ·exact Vs0
      ·obtain⟨hn,hu⟩:=hn
       refine Vd (Vj (fun hh=>?_) fun hh=>?_)
       ·have hlt:n<gl.length:=by omega
        have hgn:=List.getElem?_eq_getElem hlt
        generalize gl[n]=o at *
        have htg:=tagAt_get hgn
        have hu1:unreadB (opsOf gl) n=false->∀j,j<n+1->unreadB (opsOf gl) j=false:=fun h j hj=>by
         rcases Nat.lt_succ_iff_lt_or_eq.1 hj with hj|rfl
         ·exact hu j hj
         ·exact h
        refine Sy.el_map o hgn ?_
        by_cases ht:o.op.tag=7
        ·refine Vo ?_
         refine⟨n+1,⟨by omega,hu1 (unread_sink (by rw[htg];exact ht))⟩,by omega,?_⟩
         exact Vs0
        ·have hun:=unread_not (g:=opsOf gl) (i:=n) (by rw[htg];exact ht)
         refine Vo ?_
         refine set_add ks n Tryz.underlying3 hnd (fun r hr=>?_)
         rcases hr with⟨hx,i,rfl,hi⟩|⟨hx,rfl⟩
         ·have h0:=(hrd n).1 hx
          refine Vo ?_
          refine⟨n+1,⟨by omega,hu1 (by rw[hun,h0];rfl)⟩,by omega,?_⟩
          exact Vs0
         ·have h0:readB (opsOf gl) n=false:=by
           cases h:readB (opsOf gl) n with
           |true=>exact absurd ((hrd n).2 h) hx
           |false=>rfl
          refine Vo ?_
          exact Sy.fin_val (fun e=>by rw[checkV_u h8 hz (by omega) (by rw[hun,h0];rfl) hu];rfl)
       ·have e:n=gl.length:=by omega
        subst e
        exact Sy.fin_val (fun e=>by rw[checkV_ok h8 hz (fun j hj=>hu j (by omega))];rfl)
theorem check_ok {g:List Opr}(h:(checkV g).2=0):1<=g.length/\g.length<=8/\∀i,i<g.length->wrongAt g i=0:=by
 by_cases h8:g.length<1\/8<g.length
 ·rw[checkV,if_pos h8] at h;cases h
 ·refine⟨by omega,by omega,?_⟩
  rw[checkV,if_neg h8] at h
  cases hf:firstW g with
  |none=>
   intro i hi
   have:=List.find?_eq_none.1 hf i (List.mem_range.2 hi)
   simpa using this
  |some i=>
   rw[hf] at h
   have:=List.find?_some hf
   exact absurd h (of_decide_eq_true this)
theorem check_good {g:List Opr}(h:(checkV g).2=0):goodTo g g.length:=fun j o hj ho=>by
 have:=(check_ok h).2.2 j hj
 unfold wrongAt at this
 rw[ho] at this
 exact wrongE_alone this
end Go.Proofs.YtgkkpefpbfadoaaGreat
namespace Go.Proofs.YtgkkpefpbfadoaaGreat
open Go Go.RowKit
open Sy (C SV V1 Blk St XD Els)
set_option maxRecDepth 10000
attribute [local irreducible] checkV
def subtasks (g:List Opr):Int:=if(checkV g).2=0 then wideN g g.length else 0
theorem subtasks_any (v:Value)(gl:List OpV)(w:World)(hr:GOk (fun b=>b<w.heap.size) w v gl):
 Calls Tryz.prog 178 #[.agg #[v]] w (Sy.Ret (.int .i64 (subtasks (opsOf gl))) w):=by
 have hol:=opsOf_len gl
 have hl:=ok_len hr.1
 refine Sy.calls_of Sy.lv178 Sy.tab_ok Tryz.func178 rfl _ Tryz.ntmps178 [⟨v,5,gl.length,gl.map encOV⟩] [.agg [.row 0]] rfl rfl rfl ⟨hr.1,trivial⟩ (V ?_)
 refine Sy.call_val (.tup [.c (.v (.int .i64 (checkV (opsOf gl)).1)),.c (.v (.int .i64 (checkV (opsOf gl)).2))]) Tryz.call157 rfl (fun e a w' h=>check_any (e.rv 0) gl w' ⟨Sy.row_reads h (.inr rfl),fun o ho=>Sy.later_in h (hr.2 o ho)⟩) ?_
 by_cases h0:(checkV (opsOf gl)).2=0
 ·have hg:=check_good h0
  rw[h0]
  refine V ?_
  refine Sy.loop_inv Sy.tab_ok (fun n:Nat=>[(18,.c (.v (.int .i64 n))),(5,.c (.v (.int .i64 (wideN (opsOf gl) n))))]) (fun n=>[]) (fun n=>n<=gl.length) (fun n=>gl.length-n) 0 (Nat.zero_le _) ?_ (fun n hn=>?_)
  ·rw[show wideN (opsOf gl) 0=0 by unfold wideN;simp]
   exact Vs0
  ·have hwn:=wideN_le n (hg.mono (by omega))
   have h8:=(check_ok h0).2.1
   refine Vd (Vj (fun hh=>?_) fun hh=>?_)
   ·have hlt:n<gl.length:=by omega
    have hgn:=List.getElem?_eq_getElem hlt
    generalize gl[n]=o at *
    have hs:=wideN_succ (opsOf_get hgn)
    have hw2:=wideN_le (n+1) (hg.mono (by omega))
    refine Sy.el_map o hgn (Vo ?_)
    refine⟨n+1,by omega,by omega,?_⟩
    rw[hs]
    exact Vs0
   ·have e:n=gl.length:=by omega
    subst e
    exact Sy.fin_val (fun e=>by rw[subtasks,if_pos h0,hol];rfl)
 ·refine V ?_
  exact Sy.fin_val (fun e=>by rw[subtasks,if_neg h0];rfl)
end Go.Proofs.YtgkkpefpbfadoaaGreat
namespace Go.Proofs.YtgkkpefpbfadoaaGreat.Sn
open Go Go.RowKit
open Sy (C SV V1 Blk St XD Els)
structure Kc where
 src:Int
 key:Int
 cnt:Int
 sum:Int
deriving DecidableEq
structure Tx where
 sink:Int
 att:Int
 ser:Int
deriving DecidableEq
def encK (x:Kc):List Value:=[.int .i64 x.src,.int .i64 x.key,.int .i64 x.cnt,.int .i64 x.sum]
def encT (n:Tx):List Value:=[.int .i64 n.sink,.int .i64 n.att,.int .i64 n.ser]
instance:DecidableEq (Fin 8->Int):=fun a b=>decidable_of_iff (∀i,a i=b i) ⟨funext,fun h i=>by rw[h]⟩
structure Sn where
 op:Int
 idx:Int
 wid:Int
 fin:Bool
 rows:List Kc
 offs:Fin 8->Int
 txs:List Tx
deriving DecidableEq
def sn0:Sn:=⟨0,0,0,false,[],fun _=>0,[]⟩
structure SnV where
 sn:Sn
 rv:Value
 tv:Value
def cellsS {α:Type}(f:Value->α)(s:Sn)(u t:α):List α:=[f (.int .i64 s.op),f (.int .i64 s.idx),f (.int .i64 s.wid),f (.bool s.fin),u,f (.int .i64 (s.offs 0)),f (.int .i64 (s.offs 1)),f (.int .i64 (s.offs 2)),f (.int .i64 (s.offs 3)),f (.int .i64 (s.offs 4)),f (.int .i64 (s.offs 5)),f (.int .i64 (s.offs 6)),f (.int .i64 (s.offs 7)),t]
def encS (s:SnV):List Value:=[.int .i64 s.sn.op,.int .i64 s.sn.idx,.int .i64 s.sn.wid,.bool s.sn.fin,s.rv,.int .i64 (s.sn.offs 0),.int .i64 (s.sn.offs 1),.int .i64 (s.sn.offs 2),.int .i64 (s.sn.offs 3),.int .i64 (s.sn.offs 4),.int .i64 (s.sn.offs 5),.int .i64 (s.sn.offs 6),.int .i64 (s.sn.offs 7),s.tv]
structure SOk (F:Nat->Prop)(w:World)(s:SnV):Prop where
 rows:XD.ok F w ⟨s.rv,4,s.sn.rows.length,s.sn.rows.map encK⟩
 txs:XD.ok F w ⟨s.tv,3,s.sn.txs.length,s.sn.txs.map encT⟩
theorem SOk.mono {F F':Nat->Prop}{w:World}{s:SnV}(h:SOk F w s)(hF:∀b,F b->F' b):SOk F' w s:=⟨XD.ok.mono h.rows hF,XD.ok.mono h.txs hF⟩
def recP (s k:Int):Prop:=0<=s/\s<8/\0<=k/\k<32
instance(s k:Int):Decidable (recP s k):=by unfold recP;infer_instance
def cmpI (x y:Int):Int:=if x<y then -1 else if y<x then 1 else 0
def orL:List Int->Int
 |[]=>0
 |x::l=>if x≠0 then x else orL l
def cmpK (s k s' k':Int):Int:=if s<s'\/(s=s'/\k<k') then -1 else if s=s'/\k=k' then 0 else 1
theorem cmpK_or (s k s' k':Int):orL [cmpI s s',cmpI k k']=cmpK s k s' k':=by
 unfold cmpK
 simp only[orL,cmpI]
 repeat' split
 all_goals omega
def lessT (a b:Tx):Prop:=a.sink<b.sink\/(a.sink=b.sink/\(a.att<b.att\/(a.att=b.att/\a.ser<b.ser)))
instance(a b:Tx):Decidable (lessT a b):=by unfold lessT;infer_instance
def cmpT (a b:Tx):Int:=orL [cmpI a.sink b.sink,cmpI a.att b.att,cmpI a.ser b.ser]
theorem cmpT_lt (a b:Tx):cmpT a b<0↔lessT a b:=by
 unfold cmpT lessT
 simp only[orL,cmpI]
 repeat' split
 all_goals omega
def okN (n:Tx):Prop:=0<=n.sink/\n.sink<16/\1<=n.att/\n.att<=1048576/\1<=n.ser/\n.ser<=1048576
instance(n:Tx):Decidable (okN n):=by unfold okN;infer_instance
def shareP (i w:Int):Prop:=1<=w/\w<=3/\0<=i/\i<w
instance(i w:Int):Decidable (shareP i w):=by unfold shareP;infer_instance
def ownW (g w:Int):Int:=g*w/8
def ownN (i w:Int)(m:Nat):List Int:=((List.range m).map fun x:Nat=>(x:Int)).filter fun g=>decide (ownW g w=i)
def ownL (i w:Int):List Int:=ownN i w 8
theorem ownN_succ (i w:Int)(m:Nat):ownN i w (m+1)=ownN i w m++(if ownW m w=i then[(m:Int)] else[]):=by
 unfold ownN
 rw[List.range_succ,List.map_append,List.filter_append]
 congr 1
 by_cases h:ownW m w=i
 ·rw[if_pos h];simp[h]
 ·rw[if_neg h];simp[h]
theorem ownN_len (i w:Int)(m:Nat):(ownN i w m).length<=m:=by
 unfold ownN
 refine Nat.le_trans (List.length_filter_le _ _) ?_
 rw[List.length_map,List.length_range];exact Nat.le_refl _
def mineP (s k i w:Int):Prop:=recP s k/\shareP i w/\ownW (k%8) w=i
instance(s k i w:Int):Decidable (mineP s k i w):=by unfold mineP;infer_instance
def gI (x:Int):Fin 8:=⟨x.toNat%8,Nat.mod_lt _ (by decide)⟩
theorem gI_val {x:Int}(h:0<=x/\x<8):((gI x).val:Int)=x:=by
 show((x.toNat%8:Nat):Int)=x
 omega
def upd (o:Fin 8->Int)(g:Fin 8)(n:Int):Fin 8->Int:=fun j=>if j.val=g.val then n else o j
theorem upd_same (o:Fin 8->Int)(g:Fin 8)(n:Int):upd o g n g=n:=if_pos rfl
theorem upd_other {o:Fin 8->Int}{g j:Fin 8}(n:Int)(h:j≠g):upd o g n j=o j:=if_neg fun e=>h (Fin.ext e)
theorem ownL_mem {i w x:Int}:x∈ownL i w↔(0<=x/\x<8)/\ownW x w=i:=by
 unfold ownL ownN
 rw[List.mem_filter,List.mem_map,decide_eq_true_iff]
 constructor
 ·rintro⟨⟨y,hy,rfl⟩,h⟩
  have:=List.mem_range.1 hy
  exact⟨by omega,h⟩
 ·rintro⟨h1,h2⟩
  exact⟨⟨x.toNat,List.mem_range.2 (by omega),by omega⟩,h2⟩
theorem ownL_nodup (i w:Int):(ownL i w).Nodup:=by
 unfold ownL ownN
 refine List.Pairwise.filter _ ?_
 rw[List.pairwise_map]
 exact(List.nodup_range (n:=8)).imp fun h e=>h (by omega)
def overP (l:List Int)(j:Nat)(n o r:Fin 8->Int):Prop:=∀g:Fin 8,((g.val:Int)∈l.take j->r g=n g)/\((g.val:Int)∉l.take j->r g=o g)
theorem over_zero (l:List Int)(n o:Fin 8->Int):overP l 0 n o o:=fun _=>⟨fun h=>(by rw[List.take_zero] at h;cases h),fun _=>rfl⟩
theorem over_step {l:List Int}{j:Nat}{n o r:Fin 8->Int}{x:Int}(h:overP l j n o r)(hx:l[j]?=some x)(h0:0<=x/\x<8):overP l (j+1) n o (upd r (gI x) (n (gI x))):=fun g=>by
 have ht:l.take (j+1)=l.take j++[x]:=by
  obtain⟨hj,he⟩:=List.getElem?_eq_some_iff.1 hx
  rw[List.take_succ_eq_append_getElem hj,he]
 have hv:=gI_val h0
 rw[ht]
 by_cases e:g=gI x
 ·subst e
  rw[upd_same]
  exact⟨fun _=>rfl,fun hn=>absurd (List.mem_append_right _ (List.mem_singleton.2 hv)) hn⟩
 ·rw[upd_other _ e]
  have hm:(g.val:Int)∈l.take j++[x]↔(g.val:Int)∈l.take j:=by
   rw[List.mem_append,List.mem_singleton]
   refine⟨fun h=>h.resolve_right fun h2=>e (Fin.ext (by omega)),.inl⟩
  rw[hm]
  exact h g
theorem over_at {l:List Int}{j:Nat}{n o r:Fin 8->Int}{x:Int}(h:overP l j n o r)(hx:l[j]?=some x)(h0:0<=x/\x<8)(hn:l.Nodup):r (gI x)=o (gI x):=(h (gI x)).2 (fun hm=>by
 rw[gI_val h0] at hm
 obtain⟨k,hk⟩:=List.mem_iff_getElem?.1 hm
 have hkj:k<j:=by
  have:=(List.getElem?_eq_some_iff.1 hk).1
  rw[List.length_take] at this;omega
 rw[List.getElem?_take_of_lt hkj] at hk
 have:=(List.getElem?_inj (List.getElem?_eq_some_iff.1 hk).1 hn).1 (hk.trans hx.symm)
 omega)
def zeroB (r:Fin 8->Int):Bool:=(r 0==0&&(r 1==0&&(r 2==0&&(r 3==0&&(r 4==0&&(r 5==0&&(r 6==0&&r 7==0)))))))
theorem fin8 {P:Fin 8->Prop}(h0:P 0)(h1:P 1)(h2:P 2)(h3:P 3)(h4:P 4)(h5:P 5)(h6:P 6)(h7:P 7):∀g,P g
 |0=>h0|1=>h1|2=>h2|3=>h3|4=>h4|5=>h5|6=>h6|7=>h7
theorem fin8x {motive:(g:Fin 8)->(x:Int)->x=(g.val:Int)->Prop}(h0:motive 0 0 rfl)(h1:motive 1 1 rfl)(h2:motive 2 2 rfl)(h3:motive 3 3 rfl)(h4:motive 4 4 rfl)(h5:motive 5 5 rfl)(h6:motive 6 6 rfl)(h7:motive 7 7 rfl):∀g x h,motive g x h:=fun g x h=>by
 subst h
 revert g
 exact fin8 h0 h1 h2 h3 h4 h5 h6 h7
theorem zeroB_iff {r:Fin 8->Int}:zeroB r=true↔∀g,r g=0:=by
 unfold zeroB
 simp only[Bool.and_eq_true,beq_iff_eq]
 exact⟨fun⟨h0,h1,h2,h3,h4,h5,h6,h7⟩=>fin8 h0 h1 h2 h3 h4 h5 h6 h7,fun h=>⟨h 0,h 1,h 2,h 3,h 4,h 5,h 6,h 7⟩⟩
def chain {α:Type}(ok:α->Bool)(lt:α->α->Bool):Option α->List α->Bool
 |_,[]=>true
 |none,x::l=>ok x&&chain ok lt (some x) l
 |some y,x::l=>ok x&&lt y x&&chain ok lt (some x) l
def prev {α:Type}(l:List α):Nat->Option α
 |0=>none
 |n+1=>l[n]?
theorem chain_zero {α:Type}{ok:α->Bool}{lt:α->α->Bool}{l:List α}{x:α}(h:l[0]?=some x):chain ok lt none l=(ok x&&chain ok lt (prev l 1) (l.drop 1)):=by
 cases l with
 |nil=>cases h
 |cons y l=>
  cases h
  rfl
theorem chain_succ {α:Type}{ok:α->Bool}{lt:α->α->Bool}{l:List α}{n:Nat}{y x:α}(hy:l[n]?=some y)(h:l[n+1]?=some x):chain ok lt (prev l (n+1)) (l.drop (n+1))=(ok x&&lt y x&&chain ok lt (prev l (n+2)) (l.drop (n+2))):=by
 obtain⟨hn,he⟩:=List.getElem?_eq_some_iff.1 h
 rw[List.drop_eq_getElem_cons hn,he]
 show chain ok lt l[n]? _=(_&&chain ok lt l[n+1]? _)
 rw[hy,h]
 rfl
def okK (x:Kc):Bool:=decide (recP x.src x.key/\1<=x.cnt)
def ltK (y x:Kc):Bool:=decide (cmpK y.src y.key x.src x.key<0)
def tblB (l:List Kc):Bool:=chain okK ltK none l
def okT (n:Tx):Bool:=decide (okN n)
def ltT (y x:Tx):Bool:=decide (lessT y x)
def namesB (l:List Tx):Bool:=chain okT ltT none l&&decide (l.length<=24)
def offP (i w:Int)(o:Fin 8->Int)(g:Fin 8):Prop:=0<=o g/\o g<=40/\(o g≠0->ownW (g.val:Int) w=i)
instance(i w:Int)(o:Fin 8->Int)(g:Fin 8):Decidable (offP i w o g):=by unfold offP;infer_instance
def rightP (s:Sn):Prop:=(0<=s.op/\s.op<8)/\shareP s.idx s.wid/\tblB s.rows=true/\namesB s.txs=true/\(∀x∈s.rows,ownW (x.key%8) s.wid=s.idx)/\∀g,offP s.idx s.wid s.offs g
instance(s:Sn):Decidable (rightP s):=by unfold rightP;infer_instance
end Go.Proofs.YtgkkpefpbfadoaaGreat.Sn
namespace Go.Proofs.YtgkkpefpbfadoaaGreat
open Go Go.RowKit
open Sy (C SV V1 Blk St XD Els)
set_option maxRecDepth 10000
def encB (x:Int):List Value:=[.int .u8 x]
def u64w (x:Int):Int:=IntKind.u64.wrap x
theorem u64w_nonneg (x:Int):0<=u64w x:=by unfold u64w;rw[IntKind.wrap_u64];omega
def b8 (x:Int):Int:=IntKind.u8.wrap x
def beN (x:Int):Nat->List Int
 |0=>[]
 |n+1=>b8 (x.fdiv (2^(8*n)))::beN x n
theorem beN_len (x:Int):∀n,(beN x n).length=n
 |0=>rfl
 |n+1=>by rw[beN,List.length_cons,beN_len x n]
theorem beN_get (x:Int):∀(n i:Nat),i<n->(beN x n)[i]?=some (b8 (x.fdiv (2^(8*(n-1-i)))))
 |0,i,h=>absurd h (Nat.not_lt_zero _)
 |n+1,0,h=>by rw[beN];simp
 |n+1,i+1,h=>by rw[beN,List.getElem?_cons_succ,beN_get x n i (by omega),show n+1-1-(i+1)=n-1-i by omega]
theorem b8_eq (x:Int):b8 x=x%256:=by unfold b8;rw[IntKind.wrap_u8]
theorem cloneB_any (v:Value)(bs:List Int)(w:World)(hr:XD.ok (fun b=>b<w.heap.size) w ⟨v,1,bs.length,bs.map encB⟩)(hb:bs.length<=1000000):
 Calls Tryz.prog 126 #[v] w (Sy.RetRows Sy.noRow (fun _:Unit=>True) (fun _=>[⟨5,1,bs.length,bs.map encB⟩]) (fun _ vs=>vs.headD undef) w):=by
 refine Sy.calls_of Sy.lv126 Sy.tab_ok Tryz.func126 rfl _ Tryz.ntmps126 [⟨v,1,bs.length,bs.map encB⟩] [.c (.row 0)] rfl rfl rfl ⟨hr,trivial⟩ (V ?_)
 refine Sy.nil_of (fun h0=>?_) ?_
 ·refine V ?_
  exact Sy.fin_r1 (.v (.slice none 0 0)) ⟨h0,by rw[List.length_eq_zero_iff] at h0;rw[h0];rfl⟩
 ·refine V ?_
  refine Sy.need_of (by show(0+bs.length)*1<=_/\_;omega) (V ?_)
  refine Sy.fin_r1 (.row 2) ?_
  show some (Blk.row 5 1 (0+bs.length) (.vs (bs.map encB)))=_
  rw[Nat.zero_add]
set_option maxHeartbeats 1000000 in
theorem lay_any (v:Value)(bs:List Int)(x:Int)(nb:Nat)(w:World)(hr:XD.ok (fun b=>b<w.heap.size) w ⟨v,1,bs.length,bs.map encB⟩)(hb:bs.length<=100000)(hnb:nb<=8):
 Calls Tryz.prog 110 #[v,.int .u64 x,.int .i64 ((8*nb:Nat):Int)] w (Sy.RetRows Sy.noRow (fun _:Unit=>True) (fun _=>[⟨5,1,(bs++beN x nb).length,(bs++beN x nb).map encB⟩]) (fun _ vs=>vs.headD undef) w):=by
 refine Sy.calls_of Sy.lv110 Sy.tab_ok Tryz.func110 rfl _ Tryz.ntmps110 [⟨v,1,bs.length,bs.map encB⟩] [.c (.row 0),.c (.v (.int .u64 x)),.c (.v (.int .i64 ((8*nb:Nat):Int)))] rfl rfl rfl ⟨hr,trivial⟩ (V ?_)
 refine Sy.call_r1 ⟨5,1,bs.length,bs.map encB⟩ (fun j=>.c (.row j)) Tryz.call126 (fun e a w' h=>cloneB_any (e.rv 0) bs w' (Sy.row_reads h (.inr rfl)) (by omega)) (V ?_)
 refine Sy.div_in ⟨by omega,by omega⟩ (by decide) ?_
 rw[show((8*nb:Nat):Int)/8=(nb:Int) by omega]
 refine V ?_
 refine Sy.loop_inv Sy.tab_ok (fun n:Nat=>[(13,.c (.v (.int .i64 n))),(7,.c (.row 1))]) (fun n=>[(1,.row 5 1 (bs++(beN x nb).take n).length (.vs ((bs++(beN x nb).take n).map encB)))]) (fun n=>n<=nb) (fun n=>nb-n) 0 (Nat.zero_le _) ?_ (fun n hn=>?_)
 ·rw[List.take_zero,List.append_nil]
  exact Vs0
 ·have hbl:=beN_len x nb
  have hll:(bs++(beN x nb).take n).length=bs.length+n:=by rw[List.length_append,List.length_take];omega
  refine V (Vj (fun hh=>?_) fun hh=>?_)
  ·have hlt:n<nb:=by omega
   have hg:=beN_get x nb n hlt
   have htk:(beN x nb).take (n+1)=(beN x nb).take n++[b8 (x.fdiv (2^(8*(nb-1-n))))]:=by
    rw[List.take_succ_eq_append_getElem (by omega)]
    congr 2
    rw[List.getElem?_eq_getElem (by omega)] at hg
    injection hg
   refine Sy.sh_of (by omega) (V ?_)
   rw[show min (((8*nb:Nat):Int)-8*((n:Int)+1)).toNat IntKind.u64.bits=8*(nb-1-n) by show min _ 64=_;omega]
   refine Sy.ar_wrap (V ?_)
   refine Sy.need_app 1 rfl ⟨by omega,by omega⟩ (V ?_)
   refine⟨n+1,by omega,by omega,?_⟩
   rw[htk,<-List.append_assoc]
   refine Vs (Vk ?_ ?_)
   all_goals(try simp[encB,b8])
   all_goals(try omega)
  ·have e:n=nb:=by omega
   subst e
   rw[List.take_of_length_le (by omega)]
   exact Sy.fin_r1 (.row 1) rfl
theorem put16_any (v:Value)(bs:List Int)(x:Int)(w:World)(hr:XD.ok (fun b=>b<w.heap.size) w ⟨v,1,bs.length,bs.map encB⟩)(hb:bs.length<=100000)(hx:0<=x/\x<65536):
 Calls Tryz.prog 158 #[v,.int .u16 x] w (Sy.RetRows Sy.noRow (fun _:Unit=>True) (fun _=>[⟨5,1,(bs++beN x 2).length,(bs++beN x 2).map encB⟩]) (fun _ vs=>vs.headD undef) w):=by
 refine Sy.calls_of Sy.lv158 Sy.tab_ok Tryz.func158 rfl _ Tryz.ntmps158 [⟨v,1,bs.length,bs.map encB⟩] [.c (.row 0),.c (.v (.int .u16 x))] rfl rfl rfl ⟨hr,trivial⟩ (V ?_)
 refine Sy.ar_u64 (by omega) (V ?_)
 refine Sy.call_r1 ⟨5,1,(bs++beN x 2).length,(bs++beN x 2).map encB⟩ (fun j=>.c (.row j)) Tryz.call110 (fun e a w' h=>lay_any (e.rv 0) bs x 2 w' (Sy.row_reads h (.inr rfl)) hb (by decide)) (V ?_)
 exact Sy.fin_r1 (.row 1) rfl
theorem put32_any (v:Value)(bs:List Int)(x:Int)(w:World)(hr:XD.ok (fun b=>b<w.heap.size) w ⟨v,1,bs.length,bs.map encB⟩)(hb:bs.length<=100000)(hx:0<=x/\x<4294967296):
 Calls Tryz.prog 57 #[v,.int .u32 x] w (Sy.RetRows Sy.noRow (fun _:Unit=>True) (fun _=>[⟨5,1,(bs++beN x 4).length,(bs++beN x 4).map encB⟩]) (fun _ vs=>vs.headD undef) w):=by
 refine Sy.calls_of Sy.lv57 Sy.tab_ok Tryz.func57 rfl _ Tryz.ntmps57 [⟨v,1,bs.length,bs.map encB⟩] [.c (.row 0),.c (.v (.int .u32 x))] rfl rfl rfl ⟨hr,trivial⟩ (V ?_)
 refine Sy.ar_u64 (by omega) (V ?_)
 refine Sy.call_r1 ⟨5,1,(bs++beN x 4).length,(bs++beN x 4).map encB⟩ (fun j=>.c (.row j)) Tryz.call110 (fun e a w' h=>lay_any (e.rv 0) bs x 4 w' (Sy.row_reads h (.inr rfl)) hb (by decide)) (V ?_)
 exact Sy.fin_r1 (.row 1) rfl
theorem put64_any (v:Value)(bs:List Int)(x:Int)(w:World)(hr:XD.ok (fun b=>b<w.heap.size) w ⟨v,1,bs.length,bs.map encB⟩)(hb:bs.length<=100000):
 Calls Tryz.prog 59 #[v,.int .u64 x] w (Sy.RetRows Sy.noRow (fun _:Unit=>True) (fun _=>[⟨5,1,(bs++beN x 8).length,(bs++beN x 8).map encB⟩]) (fun _ vs=>vs.headD undef) w):=by
 refine Sy.calls_of Sy.lv59 Sy.tab_ok Tryz.func59 rfl _ Tryz.ntmps59 [⟨v,1,bs.length,bs.map encB⟩] [.c (.row 0),.c (.v (.int .u64 x))] rfl rfl rfl ⟨hr,trivial⟩ (V ?_)
 refine Sy.call_r1 ⟨5,1,(bs++beN x 8).length,(bs++beN x 8).map encB⟩ (fun j=>.c (.row j)) Tryz.call110 (fun e a w' h=>lay_any (e.rv 0) bs x 8 w' (Sy.row_reads h (.inr rfl)) hb (by decide)) (V ?_)
 exact Sy.fin_r1 (.row 1) rfl
end Go.Proofs.YtgkkpefpbfadoaaGreat
