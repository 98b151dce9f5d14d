/- Frame: the document's inputs and works. -/
import Derived.Test.YtgkkpefpbfadoaaGreatDk9
import Derived.Test.YtgkkpefpbfadoaaGreatDk43
import Derived.Test.YtgkkpefpbfadoaaGreatDk15
import Derived.Test.YtgkkpefpbfadoaaGreatDk44
namespace Go.Proofs.YtgkkpefpbfadoaaGreat
open Go Go.RowKit
open Sy (C SV V1 Blk St XD Els)
set_option maxRecDepth 10000
set_option maxHeartbeats 2000000 in
theorem rinput_any (x:InpV)(w:World)(hr:IOk (fun b=>b<w.heap.size) w x):Calls Tryz.prog 163 #[.agg (encIV x).toArray] w (Sy.Ret (.bool (inputB x.inp)) w):=by
 obtain⟨⟨src,l⟩,v⟩:=x
 have hl:=ok_len hr
 refine Sy.calls_of Sy.lv163 Sy.tab_ok Tryz.func163 rfl _ Tryz.ntmps163 [⟨v,3,l.length,l.map encR⟩] [.agg [.v (.int .i64 src),.row 0]] rfl rfl rfl ⟨hr,trivial⟩ ?_
 have hP:inputB ⟨src,l⟩=(decide (l.length<=40/\0<=src/\src<8)&&l.all (rgB src)):=by
  unfold inputB rgB
  rw[Bool.eq_iff_iff]
  simp only[Bool.and_eq_true,decide_eq_true_eq,and_assoc]
 rw[hP]
 by_cases h1:l.length<=40/\0<=src/\src<8
 ·rw[decide_eq_true h1,Bool.true_and]
  refine V (Y1 fun hh=>Y1 fun hh=>Y1 fun hh=>?_)
  refine Sy.loop_inv Sy.tab_ok (fun n:Nat=>[(3,.c (.v (.int .i64 n)))]) (fun _=>[]) (fun n=>n<=l.length/\(l.take n).all (rgB src)=true) (fun n=>l.length-n) 0 ⟨Nat.zero_le _,rfl⟩ ?_ (fun n hn=>?_)
  ·exact Vs0
  obtain⟨hn,ha⟩:=hn
  by_cases hlt:n<l.length
  ·have hg:=List.getElem?_eq_getElem hlt
   generalize l[n]=r at *
   refine V (Y1 fun hh=>?_)
   by_cases h3:Sn.recP r.src r.key
   ·by_cases h2:r.src=src
    ·have ha:=all_take ha hg (show rgB src r=true by unfold rgB recB;rw[decide_eq_true h3,decide_eq_true h2];rfl)
     refine Sy.draw_go [] (by kernel_rfl) ?_
     intro e0
     conv=>whnf
     refine zt 0 rfl ?_
     conv=>whnf
     refine zt 1 rfl ?_
     conv=>whnf
     refine zt 2 rfl ?_
     conv=>whnf
     refine zt 3 rfl (V ?_)
     refine zt 4 rfl ?_
     conv=>whnf
     refine Sy.el_map r hg ?_
     conv=>whnf
     refine zd1 [5] (zx rfl ?_ zy)
     conv=>whnf
     refine Sy.call_val (.c (.v (.bool true))) Tryz.call120 rfl (fun e a w' h=>by have:=Sn.rrec_any r.src r.key r.val w';rw[decide_eq_true h3] at this;exact this) ?_
     conv=>whnf
     refine Yk ?_
     refine zt 6 rfl (V ?_)
     refine zt 7 rfl ?_
     conv=>whnf
     refine zt 8 rfl (V ?_)
     refine zt 9 rfl (V ?_)
     refine zt 10 rfl (V ?_)
     refine zt 11 rfl (V ?_)
     refine zt 12 rfl (V ?_)
     refine zt 13 rfl (V ?_)
     refine Sy.el_map r hg ?_
     conv=>whnf
     refine zt 14 rfl (V ?_)
     refine zt 15 rfl (V ?_)
     refine zt 16 rfl (V ?_)
     refine zt 17 rfl (V ?_)
     refine zw ?_
     skip
     all_goals(refine V ?_)
     all_goals(refine⟨n+1,⟨by omega,ha⟩,by omega,?_⟩)
     all_goals(exact Vs0)
    ·have hb:=all_not hg (show rgB src r=false by unfold rgB recB;simp;intro _ h4;exact h2 h4)
     rw[hb]
     refine Sy.draw_go [] (by kernel_rfl) ?_
     intro e0
     conv=>whnf
     refine zt 0 rfl ?_
     conv=>whnf
     refine zt 1 rfl ?_
     conv=>whnf
     refine zt 2 rfl ?_
     conv=>whnf
     refine zt 3 rfl (V ?_)
     refine zt 4 rfl ?_
     conv=>whnf
     refine Sy.el_map r hg ?_
     conv=>whnf
     refine zd1 [5] (zx rfl ?_ zy)
     conv=>whnf
     refine Sy.call_val (.c (.v (.bool true))) Tryz.call120 rfl (fun e a w' h=>by have:=Sn.rrec_any r.src r.key r.val w';rw[decide_eq_true h3] at this;exact this) ?_
     conv=>whnf
     refine Yk ?_
     refine zt 6 rfl (V ?_)
     refine zt 7 rfl ?_
     conv=>whnf
     refine zt 8 rfl (V ?_)
     refine zt 9 rfl (V ?_)
     refine zt 10 rfl (V ?_)
     refine zt 11 rfl (V ?_)
     refine zt 12 rfl (V ?_)
     refine zt 13 rfl (V ?_)
     refine Sy.el_map r hg ?_
     conv=>whnf
     refine zt 14 rfl (V ?_)
     refine zt 15 rfl (V ?_)
     refine zt 16 rfl (V ?_)
     refine zt 17 rfl (V ?_)
     refine zw ?_
     skip
     all_goals(exact V0)
     all_goals done
   ·have hb:=all_not hg (show rgB src r=false by unfold rgB recB;simp;intro h4;exact absurd h4 h3)
    rw[hb]
    have hd:(!false)=true:=by decide
    refine Sy.draw_go [] (by kernel_rfl) ?_
    intro e0
    conv=>whnf
    refine zt 0 rfl ?_
    conv=>whnf
    refine zt 1 rfl ?_
    conv=>whnf
    refine zt 2 rfl ?_
    conv=>whnf
    refine zt 3 rfl (V ?_)
    refine zt 4 rfl ?_
    conv=>whnf
    refine Sy.el_map r hg ?_
    conv=>whnf
    refine zd1 [5] (zx rfl ?_ zy)
    conv=>whnf
    refine Sy.call_val (.c (.v (.bool false))) Tryz.call120 rfl (fun e a w' h=>by have:=Sn.rrec_any r.src r.key r.val w';rw[decide_eq_false h3] at this;exact this) ?_
    conv=>whnf
    refine Yk ?_
    refine zt 6 rfl (V ?_)
    refine zt 7 rfl ?_
    conv=>whnf
    refine zt 8 rfl (V ?_)
    refine zt 9 rfl (V ?_)
    refine zt 10 rfl (V ?_)
    refine zt 11 rfl (V ?_)
    refine zt 12 rfl (V ?_)
    refine zt 13 rfl (V ?_)
    refine zt 14 rfl (V ?_)
    refine zt 15 rfl (V ?_)
    refine zt 16 rfl (V ?_)
    refine zt 17 rfl (V ?_)
    refine zw ?_
    skip
    all_goals(exact V0)
    all_goals done
  ·obtain rfl:n=l.length:=by omega
   rw[List.take_length] at ha
   rw[ha]
   exact V0
 ·rw[decide_eq_false h1,Bool.false_and]
  exact V0
  all_goals(exfalso;omega)
theorem mem_wants {g:List Opr}{n:Nat}{o:Opr}(h:g[n]?=some o)(ht:o.tag=1):o.a∈wants g:=by
 unfold wants
 exact List.mem_map.2 ⟨o,List.mem_filter.2 ⟨List.mem_of_getElem? h,decide_eq_true ht⟩,rfl⟩
attribute [local irreducible] checkV sortL
set_option maxHeartbeats 4000000 in
theorem rerr_any (gv iv:Value)(gl:List OpV)(il:List InpV)(w:World)(hg:GOk (fun b=>b<w.heap.size) w gv gl)(hi:XD.ok (fun b=>b<w.heap.size) w ⟨iv,2,il.length,il.map encIV⟩)(hr:∀x∈il,IOk (fun b=>b<w.heap.size) w x)(hb:il.length<=100000):
 Calls Tryz.prog 116 #[.agg #[gv,iv]] w (Sy.Ret (.int .i64 (denoE (opsOf gl) (insOf il))) w):=by
 have hil:=insOf_len il
 have hol:=opsOf_len gl
 have hl0:=ok_len hg.1
 refine Sy.calls_of Sy.lv116 Sy.tab_ok Tryz.func116 rfl _ Tryz.ntmps116 [⟨gv,5,gl.length,gl.map encOV⟩,⟨iv,2,il.length,il.map encIV⟩] [.agg [.row 0,.row 1]] rfl rfl rfl ⟨hg.1,hi,trivial⟩ (V ?_)
 refine Sy.call_val (.tup [.c (.v (.int .i64 (checkV (opsOf gl)).1)),.c (.v (.int .i64 (checkV (opsOf gl)).2))]) Tryz.call162 rfl (fun e a w' h=>rcheck_any _ gl w' ⟨by exact Sy.row_reads h (.inr rfl),fun o ho=>Sy.later_in h (hg.2 o ho)⟩) ?_
 by_cases h0:¬(checkV (opsOf gl)).2=0
 ·rw[show denoE (opsOf gl) (insOf il)=(checkV (opsOf gl)).2 from if_pos h0]
  exact V0
 have h0:=Decidable.not_not.1 h0
 have hnd:=wants_nodup h0
 rw[show denoE (opsOf gl) (insOf il)=if(insOf il).all inputB=true then(if srcsI (insOf il)=sortL (wants (opsOf gl)) then 0 else 230) else 170 from if_neg (fun h=>h h0),h0]
 refine V ?_
 refine Sy.loop_inv Sy.tab_ok (fun n:Nat=>[(5,.c (.v (.int .i64 n)))]) (fun _=>[]) (fun n=>n<=il.length/\((insOf il).take n).all inputB=true) (fun n=>il.length-n) 0 ⟨Nat.zero_le _,rfl⟩ ?_ (fun n hn=>?_)
 ·exact Vs0
 obtain⟨hn,ha⟩:=hn
 by_cases hlt:n<il.length
 ·have hgt:=List.getElem?_eq_getElem hlt
  have hrx:=hr _ (List.getElem_mem hlt)
  generalize il[n]=x at *
  have hgi:=insOf_get hgt
  refine V (Y1 fun hh=>?_)
  refine Sy.el_map x hgt (V ?_)
  refine Sy.call_val (.c (.v (.bool (inputB x.inp)))) Tryz.call163 rfl (fun e a w' h=>rinput_any x w' (Sy.later_in h hrx)) ?_
  cases hB:inputB x.inp with
  |true=>
   have ha:=all_take ha hgi hB
   refine V ?_
   refine⟨n+1,⟨by omega,ha⟩,by omega,?_⟩
   exact Vs0
  |false=>
   rw[if_neg fun h=>by rw[all_not hgi hB] at h;cases h]
   exact V0
 obtain rfl:n=il.length:=by omega
 rw[<-hil,List.take_length] at ha
 rw[if_pos ha]
 clear ha hn hlt
 obtain⟨s,hs⟩:∃s,s=srcsI (insOf il):=⟨_,rfl⟩
 have hsl:s.length=il.length:=by rw[hs,srcsI,List.length_map,hil]
 have hsg:∀{i:Nat}{x:InpV},il[i]?=some x->s[i]?=some x.inp.src:=fun h=>by rw[hs,srcsI,List.getElem?_map,insOf_get h];rfl
 have hiff:=sorted_iff (s:=s) hnd
 rw[<-hs]
 refine V (Y1 fun hh=>?_)
 have hwl:=wants_len (opsOf gl)
 refine Sy.loop_inv Sy.tab_ok (fun n:Nat=>[(7,.c (.v (.int .i64 n))),(6,.c (.v (.int .i64 (wants ((opsOf gl).take n)).length)))]) (fun _=>[]) (fun n=>n<=gl.length/\∀x∈wants ((opsOf gl).take n),x∈s) (fun n=>gl.length-n) 0 ⟨Nat.zero_le _,fun x hx=>by simp[wants] at hx⟩ ?_ (fun n hn=>?_)
 ·rw[show wants ((opsOf gl).take 0)=[] by simp[wants]]
  exact Vs0
 obtain⟨hn,hW⟩:=hn
 by_cases hlt:n<gl.length
 ·have hgt:=List.getElem?_eq_getElem hlt
  generalize gl[n]=o at *
  have hgo:=opsOf_get hgt
  have hws:=wants_succ hgo
  have hwl2:=wants_len ((opsOf gl).take n)
  have htl:((opsOf gl).take n).length=n:=by rw[List.length_take];omega
  refine V (Y1 fun hh=>?_)
  refine Sy.el_map o hgt ?_
  by_cases ht:¬o.op.tag=1
  ·rw[if_neg ht,List.append_nil] at hws
   refine V ?_
   refine⟨n+1,⟨by omega,by rw[hws];exact hW⟩,by omega,?_⟩
   rw[hws]
   exact Vs0
  have ht:=Decidable.not_not.1 ht
  rw[if_pos ht] at hws
  refine V ?_
  refine Sy.loop_inv Sy.tab_ok (fun k:Nat=>[(10,.c (.v (.int .i64 k))),(9,.c (.v (.bool (decide (o.op.a∈s.take k)))))]) (fun _=>[]) (fun k=>k<=il.length) (fun k=>il.length-k) 0 (Nat.zero_le _) ?_ (fun k hk=>?_)
  ·exact Vs0
  by_cases hlk:k<il.length
  ·have hgk:=List.getElem?_eq_getElem hlk
   generalize il[k]=x at *
   have hsk:=hsg hgk
   have hst:s.take (k+1)=s.take k++[x.inp.src]:=by
    obtain⟨h1,h2⟩:=List.getElem?_eq_some_iff.1 hsk
    rw[List.take_succ_eq_append_getElem h1,h2]
   refine V (Y1 fun hh=>?_)
   refine Sy.draw_go [] (by kernel_rfl) ?_
   intro e0
   conv=>whnf
   refine zt 0 rfl ?_
   conv=>whnf
   refine zt 1 rfl ?_
   conv=>whnf
   refine zt 2 rfl ?_
   conv=>whnf
   refine zt 3 rfl (V ?_)
   refine zt 4 rfl ?_
   conv=>whnf
   refine zt 5 rfl ?_
   conv=>whnf
   refine Sy.el_map x hgk ?_
   conv=>whnf
   refine zt 6 rfl ?_
   conv=>whnf
   refine zt 7 rfl ?_
   conv=>whnf
   refine zt 8 rfl (V ?_)
   refine zw ?_
   skip
   all_goals
    by_cases he:x.inp.src=o.op.a
    ·refine V ?_
     refine⟨k+1,by omega,by omega,?_⟩
     rw[hst,decide_eq_true (show o.op.a∈s.take k++[x.inp.src] by rw[he];simp)]
     exact Vs0
    ·have hd:decide (o.op.a∈s.take (k+1))=decide (o.op.a∈s.take k):=decide_eq_decide.2 (by rw[hst];simp;intro h;exact absurd h.symm he)
     refine V ?_
     refine⟨k+1,by omega,by omega,?_⟩
     rw[hd]
     exact Vs0
  obtain rfl:k=il.length:=by omega
  rw[<-hsl,List.take_length]
  by_cases hm:o.op.a∈s
  ·rw[decide_eq_true hm]
   refine V (Y1 fun hh=>?_)
   refine⟨n+1,⟨by omega,fun x hx=>by
    rw[hws] at hx
    rcases List.mem_append.1 hx with hx|hx
    ·exact hW x hx
    ·rw[List.mem_singleton.1 hx];exact hm⟩,by omega,?_⟩
   rw[hws,List.length_append]
   exact Vs0
  ·rw[decide_eq_false hm,if_neg fun h=>hm ((hiff.1 h).1 _ (mem_wants hgo ht))]
   exact V0
 obtain rfl:n=gl.length:=by omega
 rw[<-hol,List.take_length] at hW
 rw[show(opsOf gl).take gl.length=opsOf gl by rw[<-hol,List.take_length]]
 refine V (Y1 fun hh=>?_)
 refine Sy.loop_inv Sy.tab_ok (fun n:Nat=>[(11,.c (.v (.int .i64 ((n:Int)+1))))]) (fun _=>[]) (fun n=>n<=il.length/\∀i x y,i<n->s[i]?=some x->s[i+1]?=some y->x<y) (fun n=>il.length-n) 0 ⟨Nat.zero_le _,fun i _ _ h=>absurd h (Nat.not_lt_zero _)⟩ ?_ (fun n hn=>?_)
 ·exact Vs0
 obtain⟨hn,hp⟩:=hn
 by_cases hlt:n+1<il.length
 ·have hgx:=List.getElem?_eq_getElem (show n<il.length by omega)
  have hgy:=List.getElem?_eq_getElem hlt
  generalize il[n]=x at *
  generalize il[n+1]=y at *
  have hx2:il[((n:Int)+1-1).toNat]?=some x:=by rw[show((n:Int)+1-1).toNat=n by omega];exact hgx
  have hy2:il[((n:Int)+1).toNat]?=some y:=by rw[show((n:Int)+1).toNat=n+1 by omega];exact hgy
  refine V (Y1 fun hh=>?_)
  by_cases hxy:x.inp.src<y.inp.src
  ·refine Sy.draw_go [] (by kernel_rfl) ?_
   intro e0
   conv=>whnf
   refine zt 0 rfl ?_
   conv=>whnf
   refine zt 1 rfl ?_
   conv=>whnf
   refine zt 2 rfl ?_
   conv=>whnf
   refine zt 3 rfl (V ?_)
   refine zt 4 rfl (V ?_)
   refine zt 5 rfl ?_
   conv=>whnf
   refine zt 6 rfl ?_
   conv=>whnf
   refine Sy.el_map x hx2 ?_
   conv=>whnf
   refine zt 7 rfl ?_
   conv=>whnf
   refine zt 8 rfl ?_
   conv=>whnf
   refine zt 9 rfl ?_
   conv=>whnf
   refine zt 10 rfl (V ?_)
   refine zt 11 rfl ?_
   conv=>whnf
   refine zt 12 rfl ?_
   conv=>whnf
   refine Sy.el_map y hy2 ?_
   conv=>whnf
   refine zt 13 rfl (V ?_)
   refine zw ?_
   skip
   all_goals(refine V (Y1 fun hh=>?_))
   all_goals(refine⟨n+1,⟨by omega,fun i a b hi ha hb=>by
    rcases Nat.lt_or_ge i n with h|h
    ·exact hp i a b h ha hb
    ·obtain rfl:i=n:=by omega
     rw[hsg hgx] at ha
     rw[hsg hgy] at hb
     cases ha;cases hb
     exact hxy⟩,by omega,?_⟩)
   all_goals(exact Vs0)
  ·rw[if_neg fun h=>hxy ((pair_iff s).1 (hiff.1 h).2.1 n _ _ (hsg hgx) (hsg hgy))]
   refine Sy.draw_go [] (by kernel_rfl) ?_
   intro e0
   conv=>whnf
   refine zt 0 rfl ?_
   conv=>whnf
   refine zt 1 rfl ?_
   conv=>whnf
   refine zt 2 rfl ?_
   conv=>whnf
   refine zt 3 rfl (V ?_)
   refine zt 4 rfl (V ?_)
   refine zt 5 rfl ?_
   conv=>whnf
   refine zt 6 rfl ?_
   conv=>whnf
   refine Sy.el_map x hx2 ?_
   conv=>whnf
   refine zt 7 rfl ?_
   conv=>whnf
   refine zt 8 rfl ?_
   conv=>whnf
   refine zt 9 rfl ?_
   conv=>whnf
   refine zt 10 rfl (V ?_)
   refine zt 11 rfl ?_
   conv=>whnf
   refine zt 12 rfl ?_
   conv=>whnf
   refine Sy.el_map y hy2 ?_
   conv=>whnf
   refine zt 13 rfl (V ?_)
   refine zw ?_
   skip
   all_goals(exact V0)
   all_goals done
 have hP:s.Pairwise (·<·):=(pair_iff s).2 fun i x y hx hy=>by
  have h1:=(List.getElem?_eq_some_iff.1 hy).1
  exact hp i x y (by omega) hx hy
 by_cases hq:(wants (opsOf gl)).length=il.length
 ·rw[if_pos (hiff.2 ⟨hW,hP,by omega⟩)]
  exact V0
 ·rw[if_neg fun h=>hq (by have:=(hiff.1 h).2.2;omega)]
  exact V0
end Go.Proofs.YtgkkpefpbfadoaaGreat
namespace Go.Proofs.YtgkkpefpbfadoaaGreat
open Go Go.RowKit
open Sy (C SV V1 Blk St XD Els)
set_option maxRecDepth 10000
def subR (i:Int)(k:Nat):List (Int×Int):=(List.range k).map fun j:Nat=>(i,(j:Int))
def subsO (i:Int):List Opr->List (Int×Int)
 |[]=>[]
 |o::r=>subR i o.width.toNat++subsO (i+1) r
def subT (g:List Opr)(n:Nat):List (Int×Int):=subsO 0 (g.take n)
theorem subR_len (i:Int)(k:Nat):(subR i k).length=k:=by unfold subR;rw[List.length_map,List.length_range]
theorem subR_succ (i:Int)(k:Nat):subR i (k+1)=subR i k++[(i,(k:Int))]:=by unfold subR;rw[List.range_succ,List.map_append];rfl
theorem subsO_snoc:∀(l:List Opr)(i:Int)(o:Opr),subsO i (l++[o])=subsO i l++subR (i+l.length) o.width.toNat
 |[],i,o=>by simp[subsO]
 |x::l,i,o=>by
  rw[List.cons_append,subsO,subsO,subsO_snoc l,List.append_assoc,List.length_cons,show i+1+(l.length:Int)=i+((l.length+1:Nat):Int) by omega]
theorem subT_succ {g:List Opr}{n:Nat}{o:Opr}(h:g[n]?=some o):subT g (n+1)=subT g n++subR n o.width.toNat:=by
 obtain⟨hn,he⟩:=List.getElem?_eq_some_iff.1 h
 unfold subT
 rw[List.take_succ_eq_append_getElem hn,he,subsO_snoc,List.length_take,show(0:Int)+((min n g.length:Nat):Int)=n by omega]
theorem subT_len {g:List Opr}(hg:goodTo g g.length):∀n,n<=g.length->((subT g n).length:Int)=wideN g n/\(subT g n).length<=3*n
 |0,_=>by simp[subT,subsO,wideN]
 |n+1,hn=>by
  have ih:=subT_len hg n (by omega)
  have ho:=List.getElem?_eq_getElem (show n<g.length by omega)
  have ha:=hg n _ (by omega) ho
  generalize g[n]=o at *
  have hw:=ha.1
  have hw2:=ha.2.1
  rw[subT_succ ho,wideN_succ ho,List.length_append,subR_len]
  omega
theorem subsO_at:∀(g:List Opr)(i t:Int),(∀o∈g,0<=o.width)->0<=t->(subsO i g)[t.toNat]?=subAt i g t
 |[],i,t,_,_=>by simp[subsO,subAt]
 |o::r,i,t,h,ht=>by
  have ho:=h o (by simp)
  rw[subsO,subAt]
  by_cases hlt:t<o.width
  ·rw[if_pos hlt,List.getElem?_append_left (by rw[subR_len];omega)]
   unfold subR
   rw[List.getElem?_map,List.getElem?_range (by omega)]
   simp only[Option.map_some,Option.some.injEq,Prod.mk.injEq,true_and]
   omega
  ·rw[if_neg hlt,List.getElem?_append_right (by rw[subR_len];omega),subR_len,<-subsO_at r (i+1) (t-o.width) (fun x hx=>h x (by simp[hx])) (by omega),show t.toNat-o.width.toNat=(t-o.width).toNat by omega]
theorem good_width {g:List Opr}(hg:goodTo g g.length):∀o∈g,0<=o.width:=fun o ho=>by
 obtain⟨i,hi,rfl⟩:=List.mem_iff_getElem.1 ho
 have:=(hg i _ hi (List.getElem?_eq_getElem hi)).1
 omega
def encS2 (x:Int×Int):List Value:=[.int .i64 x.1,.int .i64 x.2]
attribute [local irreducible] subT
set_option maxHeartbeats 2000000 in
theorem rsubs_any (v:Value)(gl:List OpV)(w:World)(hr:GOk (fun b=>b<w.heap.size) w v gl)(hlen:gl.length<=100)(hg:goodTo (opsOf gl) (opsOf gl).length):
 Calls Tryz.prog 68 #[.agg #[v]] w (Sy.RetRows Sy.noRow (fun _:Unit=>True) (fun _=>[⟨112,2,(subT (opsOf gl) gl.length).length,(subT (opsOf gl) gl.length).map encS2⟩]) (fun _ vs=>vs.headD undef) w):=by
 have hol:=opsOf_len gl
 refine Sy.calls_of Sy.lv68 Sy.tab_ok Tryz.func68 rfl _ Tryz.ntmps68 [⟨v,5,gl.length,gl.map encOV⟩] [.agg [.row 0]] rfl rfl rfl ⟨hr.1,trivial⟩ (Vo ?_)
 refine Sy.sem_subF (Sy.sub_row 3 112 2 rfl) ?_
 conv=>whnf
 refine Sy.loop_inv Sy.tab_ok (fun i:Nat=>[(4,.c (.v (.int .i64 i))),(3,.c (.row 2))]) (fun i=>[(2,.row 112 2 (subT (opsOf gl) i).length (.vs ((subT (opsOf gl) i).map encS2)))]) (fun i=>i<=gl.length) (fun i=>gl.length-i) 0 (Nat.zero_le _) ?_ (fun i hi=>?_)
 ·rw[show subT (opsOf gl) 0=[] by unfold subT;simp[subsO]]
  exact Vs0
 by_cases hlt:i<gl.length
 ·have hgi:=List.getElem?_eq_getElem hlt
  generalize gl[i]=o at *
  have hgo:=opsOf_get hgi
  have hs:=subT_succ hgo
  have hl:=(subT_len hg i (by omega)).2
  have hw:=(hg i _ (by omega) hgo).2.1
  have hw1:=(hg i _ (by omega) hgo).1
  refine Vo (Y1 fun hh=>?_)
  refine Sy.loop_inv Sy.tab_ok (fun k:Nat=>[(5,.c (.v (.int .i64 k))),(3,.c (.row 2))]) (fun k=>[(2,.row 112 2 (subT (opsOf gl) i++subR i k).length (.vs ((subT (opsOf gl) i++subR i k).map encS2)))]) (fun k=>k<=o.op.width.toNat) (fun k=>o.op.width.toNat-k) 0 (Nat.zero_le _) ?_ (fun k hk=>?_)
  ·rw[show subR i 0=[] from rfl,List.append_nil]
   exact Vs0
  have hs2:subT (opsOf gl) i++subR i (k+1)=subT (opsOf gl) i++subR i k++[((i:Int),(k:Int))]:=by rw[subR_succ,List.append_assoc]
  have hl2:(subT (opsOf gl) i++subR i k).length=(subT (opsOf gl) i).length+k:=by rw[List.length_append,subR_len]
  refine Vo ?_
  refine Sy.el_map o hgi ?_
  by_cases hkw:k<o.op.width.toNat
  ·have hkw':(k:Int)<o.op.width:=by omega
   generalize subT (opsOf gl) i++subR i k=G at *
   refine Vo ?_
   refine Sy.need_app 16 rfl ⟨by omega,by omega⟩ (Vo ?_)
   refine⟨k+1,by omega,by omega,?_⟩
   rw[hs2]
   refine Vs (Vk ?_ ?_)
   all_goals(try simp[encS2])
  ·obtain rfl:k=o.op.width.toNat:=by omega
   have hkw':¬((o.op.width.toNat:Nat):Int)<o.op.width:=by omega
   refine Vo ?_
   refine⟨i+1,by omega,by omega,?_⟩
   rw[hs]
   exact Vs0
 ·obtain rfl:i=gl.length:=by omega
  refine V (Y1 fun hh=>?_)
  exact Sy.fin_r1 (.row 2) rfl
theorem subs_tasks {g:List Opr}(h:(checkV g).2=0):((subT g g.length).length:Int)=subtasks g:=by
 unfold subtasks
 rw[if_pos h,(subT_len (check_good h) g.length (Nat.le_refl _)).1]
attribute [local irreducible] denoE subtasks
set_option maxHeartbeats 4000000 in
theorem rlaid_any (gv iv pv:Value)(gl:List OpV)(il:List InpV)(pl:List Plc)(w:World)(hg:GOk (fun b=>b<w.heap.size) w gv gl)(hi:XD.ok (fun b=>b<w.heap.size) w ⟨iv,2,il.length,il.map encIV⟩)(hr:∀x∈il,IOk (fun b=>b<w.heap.size) w x)(hb:il.length<=100000)
 (hp:XD.ok (fun b=>b<w.heap.size) w ⟨pv,2,pl.length,pl.map encP⟩):
 Calls Tryz.prog 66 #[.agg #[gv,iv,pv]] w (Sy.Ret (.int .i64 (laidE (opsOf gl) (insOf il) pl)) w):=by
 have hl3:=ok_len hp
 have hol:=opsOf_len gl
 refine Sy.calls_of Sy.lv66 Sy.tab_ok Tryz.func66 rfl _ Tryz.ntmps66 [⟨gv,5,gl.length,gl.map encOV⟩,⟨iv,2,il.length,il.map encIV⟩,⟨pv,2,pl.length,pl.map encP⟩] [.agg [.row 0,.row 1,.row 2]] rfl rfl rfl ⟨hg.1,hi,hp,trivial⟩ (V ?_)
 refine Sy.call_val (.c (.v (.int .i64 (denoE (opsOf gl) (insOf il))))) Tryz.call116 rfl (fun e a w' h=>rerr_any (e.rv 0) (e.rv 1) gl il w' ⟨Sy.row_reads h (.inr rfl),fun o ho=>Sy.later_in h (hg.2 o ho)⟩ (Sy.row_reads h (.inr rfl)) (fun x hx=>Sy.later_in h (hr x hx)) hb) ?_
 by_cases h0:¬denoE (opsOf gl) (insOf il)=0
 ·rw[show laidE (opsOf gl) (insOf il) pl=denoE (opsOf gl) (insOf il) from if_pos h0]
  exact V0
 have h0:=Decidable.not_not.1 h0
 rw[show laidE (opsOf gl) (insOf il) pl=if(pl.length:Int)=subtasks (opsOf gl)/\plsB 0 pl=true then 0 else 370 from if_neg fun h=>h h0,h0]
 have hc:=deno_chk h0
 have h8:=(check_ok hc).2.1
 have hst:=subs_tasks hc
 rw[hol] at hst
 refine V ?_
 refine Sy.draw_go [] (by kernel_rfl) ?_
 intro e0
 conv=>whnf
 refine zt 0 rfl ?_
 conv=>whnf
 refine zt 1 rfl ?_
 conv=>whnf
 refine zt 2 rfl (V ?_)
 refine zt 3 rfl ?_
 conv=>whnf
 refine zt 4 rfl ?_
 conv=>whnf
 refine zt 5 rfl ?_
 conv=>whnf
 refine zd1 [6] (zx rfl ?_ zy)
 conv=>whnf
 refine Sy.call_r1 ⟨112,2,(subT (opsOf gl) gl.length).length,(subT (opsOf gl) gl.length).map encS2⟩ (fun j=>.c (.row j)) Tryz.call68 (fun e a w' h=>rsubs_any _ gl w' ⟨by exact Sy.row_reads h (.inr rfl),fun o ho=>Sy.later_in h (hg.2 o ho)⟩ (by omega) (check_good hc)) ?_
 conv=>whnf
 refine Yk ?_
 refine zd1 [7] (zx rfl ?_ zy)
 conv=>whnf
 refine Yk ?_
 refine zt 8 rfl (V ?_)
 refine zw ?_
 skip
 by_cases hq:¬(pl.length:Int)=subtasks (opsOf gl)
 ·rw[if_neg fun h=>hq h.1]
  exact V0
  all_goals(exfalso;omega)
 have hq:=Decidable.not_not.1 hq
 refine V (Y1 fun hh=>?_)
 refine Sy.loop_inv Sy.tab_ok (fun n:Nat=>[(4,.c (.v (.int .i64 n)))]) (fun _=>[]) (fun n=>n<=pl.length/\plsB n (pl.drop n)=plsB 0 pl) (fun n=>pl.length-n) 0 ⟨Nat.zero_le _,rfl⟩ ?_ (fun n hn=>?_)
 ·exact Vs0
 obtain⟨hn,hc⟩:=hn
 by_cases hlt:n<pl.length
 ·have hgt:=List.getElem?_eq_getElem hlt
  generalize pl[n]=p at *
  rw[plsB_at hgt] at hc
  refine V (Y1 fun hh=>?_)
  refine Sy.el_map p hgt ?_
  by_cases h1:plcP n p
  ·rw[decide_eq_true h1,Bool.true_and] at hc
   unfold plcP at h1
   refine V (Y1 fun hh=>Y1 fun hh=>Y1 fun hh=>?_)
   all_goals(first|(exfalso;omega)|skip)
   refine⟨n+1,⟨by omega,hc⟩,by omega,?_⟩
   exact Vs0
  ·rw[decide_eq_false h1,Bool.false_and] at hc
   rw[show(if(pl.length:Int)=subtasks (opsOf gl)/\plsB 0 pl=true then 0 else 370:Int)=370 from if_neg fun h=>by rw[h.2] at hc;cases hc]
   unfold plcP at h1
   exact V0
   all_goals(exfalso;omega)
 ·have e:n=pl.length:=by omega
  rw[e,List.drop_length] at hc
  rw[if_pos ⟨hq,hc.symm⟩]
  exact V0
end Go.Proofs.YtgkkpefpbfadoaaGreat
