/- Graph: wrong, the document's wrong. -/
import Derived.Test.YtgkkpefpbfadoaaGreatDk9
import Derived.Test.YtgkkpefpbfadoaaGreatDk14
namespace Go.Proofs.YtgkkpefpbfadoaaGreat
open Go Go.RowKit
open Sy (C SV V1 Blk St XD Els)
set_option maxRecDepth 10000
theorem srcs_le {g:List Opr}{i:Nat}{o:Opr}(hg:goodTo g (i+1))(ho:g[i]?=some o)(h1:o.tag≠1):(srcs g i).length<=insSum g o.ins:=by
 rw[<-srcs_union hg ho h1]
 exact setI_len _
theorem insSum_le (g:List Opr)(l:List Int):insSum g l<=4*l.length:=by
 unfold insSum
 exact srcRows_len g l
theorem opsOf_take (gl:List OpV)(n:Nat):opsOf (gl.take n)=(opsOf gl).take n:=by unfold opsOf;rw[List.map_take]
attribute [local irreducible] insSum sinkB dupB srcs
set_option maxHeartbeats 2000000 in
theorem wrong_any (v:Value)(gl:List OpV)(i:Nat)(o:OpV)(wide:Int)(w:World)(hr:GOk (fun b=>b<w.heap.size) w v gl)(hlen:gl.length<=1000)(hgi:gl[i]?=some o)(hg:goodTo (opsOf gl) i):
 Calls Tryz.prog 195 #[.agg #[v],.int .i64 i,.int .i64 wide] w (Sy.Ret (.int .i64 (wrongE (opsOf gl) i o.op wide)) w):=by
 have hi:=(List.getElem?_eq_some_iff.1 hgi).1
 have hoo:=hr.at hgi
 have hgo:=opsOf_get hgi
 refine Sy.calls_of Sy.lv195 Sy.tab_ok Tryz.func195 rfl _ Tryz.ntmps195 [⟨v,5,gl.length,gl.map encOV⟩] [.agg [.row 0],.c (.v (.int .i64 i)),.c (.v (.int .i64 wide))] rfl rfl rfl ⟨hr.1,trivial⟩ (Vo ?_)
 refine Sy.el_map o hgi (Vd ?_)
 by_cases ha:AloneP o.op i
 ·have hab:aloneB o.op i=true:=decide_eq_true ha
  have hg1:goodTo (opsOf gl) (i+1):=fun j p hj hp=>by
   rcases Nat.lt_succ_iff_lt_or_eq.1 hj with hj|rfl
   ·exact hg j p hj hp
   ·rw[hgo] at hp;cases hp;exact ha
  have hins:=alone_ins ha
  have hil:o.op.ins.length<=i:=rises_len ha.2.2.1
  refine Vo ?_
  refine Sy.call_val (.c (.v (.bool true))) Tryz.call212 rfl (fun e a w' h=>by have:=alone_any o i w' (Sy.later_in h hoo);rw[hab] at this;exact this) (Vo ?_)
  refine open_x _ _ _ (hoo) (fun _ h=>h) (Vo ?_)
  refine Sy.call_own (sink_does gl o.op.ins (fun k hk=>⟨(hins k hk).1,by have:=(hins k hk).2;omega⟩) (by omega)) Tryz.call213 ?_
  refine Vl ?_
  intro _ _ _
  generalize hsk:sinkB (opsOf gl) o.op.ins=sk
  cases sk
  ·have h0:sinkB (opsOf gl) o.op.ins≠true:=by rw[hsk];decide
   have w1:∀(_:¬(o.op.tag=1/\dupB ((opsOf gl).take i) o.op.a=true))(_:¬(o.op.tag=6/\insSum (opsOf gl) o.op.ins≠(srcs (opsOf gl) i).length)),wrongE (opsOf gl) i o.op wide=if 16<wide then 163 else 0:=fun h1 h2=>by rw[wrongE,if_pos ha,if_neg h0,if_neg h1,if_neg h2]
   refine Vo (Vj (fun hh=>?_) fun hh=>Vj (fun hh=>?_) fun hh=>Vj (fun hh=>?_) fun hh=>?_)
   ·have ht:o.op.tag=1:=by assumption
    refine Sy.sli_nat (lo:=0) ⟨by omega,by omega⟩ (Vo ?_)
    refine Sy.call_own (dup_does o (gl.take i) (fun x hx=>Sy.ReadsE.one (hr.2 x (List.mem_of_mem_take hx)).1) (by rw[List.length_take];omega)) Tryz.call214 ?_
    refine Vl (Vk ?_ (Vk ?_ ?_))
    ·intro _ _ _
     have hdt:=opsOf_take gl i
     generalize hdk:dupB (opsOf (gl.take i)) o.op.a=dk
     have hdk2:=hdk
     rw[hdt] at hdk2
     cases dk
     ·refine Vo (Y1 fun hh=>Vj (fun hh=>?_) fun hh=>?_)
      ·exact Sy.fin_val (fun e=>by rw[w1 (by rw[hdk2];simp) (by omega),if_pos (by omega)];rfl)
      ·exact Sy.fin_val (fun e=>by rw[w1 (by rw[hdk2];simp) (by omega),if_neg (by omega)];rfl)
     ·refine Vo ?_
      exact Sy.fin_val (fun e=>by rw[wrongE,if_pos ha,if_neg h0,if_pos ⟨ht,hdk2⟩];rfl)
    all_goals simp
    all_goals omega
   ·have ht:o.op.tag=6:=by assumption
    have hle:=srcs_le hg1 hgo (by omega)
    have hsm:=insSum_le (opsOf gl) o.op.ins
    refine open_x _ _ _ (hoo) (fun _ h=>h) (Vo ?_)
    refine Sy.loop_inv Sy.tab_ok (fun n:Nat=>[(49,.c (.v (.int .i64 n))),(10,.c (.v (.int .i64 (insSum (opsOf gl) (o.op.ins.take n)))))]) (fun n=>[]) (fun n=>n<=o.op.ins.length) (fun n=>o.op.ins.length-n) 0 (Nat.zero_le _) ?_ (fun n hn=>?_)
    ·rw[show insSum (opsOf gl) (o.op.ins.take 0)=0 by unfold insSum;rfl]
     exact Vs0
    ·have hlr:=insSum_le (opsOf gl) (o.op.ins.take n)
     rw[List.length_take] at hlr
     refine Vd (Vj (fun hh=>?_) fun hh=>?_)
     ·have hlt:n<o.op.ins.length:=by omega
      have hgn:=List.getElem?_eq_getElem hlt
      have hk:=hins _ (List.getElem_mem hlt)
      have hsr:=insSum_succ (opsOf gl) o.op.ins n hlt
      generalize o.op.ins[n]=k at *
      refine Sy.el_map k hgn (Vo ?_)
      obtain⟨m,rfl⟩:∃m:Nat,k=(m:Int):=⟨k.toNat,by omega⟩
      have hsl:=srcs_len (opsOf gl) m
      rw[Int.toNat_natCast] at hsr
      refine Sy.call_r1 ⟨3,1,(srcs (opsOf gl) m).length,(srcs (opsOf gl) m).map encI⟩ (fun j=>.c (.row j)) Tryz.call215 (fun e a w' h=>sources_any (e.rv 0) gl m w' ⟨Sy.row_reads h (.inr rfl),fun o ho=>Sy.later_in h (hr.2 o ho)⟩ hlen (by omega) (hg.mono (by omega))) (Vo ?_)
      refine⟨n+1,by omega,by omega,?_⟩
      rw[hsr,Int.natCast_add]
      exact Vs0
     ·have e:n=o.op.ins.length:=by omega
      subst e
      rw[List.take_length] at *
      refine Sy.call_r1 ⟨3,1,(srcs (opsOf gl) i).length,(srcs (opsOf gl) i).map encI⟩ (fun j=>.c (.row j)) Tryz.call215 (fun e a w' h=>sources_any (e.rv 0) gl i w' ⟨Sy.row_reads h (.inr rfl),fun o ho=>Sy.later_in h (hr.2 o ho)⟩ hlen hi hg1) (Vo (Vj (fun hh=>Vj (fun hh=>?_) fun hh=>?_) fun hh=>?_))
      ·exact Sy.fin_val (fun e=>by rw[w1 (by omega) (by omega),if_pos (by omega)];rfl)
      ·exact Sy.fin_val (fun e=>by rw[w1 (by omega) (by omega),if_neg (by omega)];rfl)
      ·exact Sy.fin_val (fun e=>by rw[wrongE,if_pos ha,if_neg h0,if_neg (by omega),if_pos ⟨ht,by omega⟩];rfl)
   ·exact Sy.fin_val (fun e=>by rw[w1 (by omega) (by omega),if_pos (by omega)];rfl)
   ·exact Sy.fin_val (fun e=>by rw[w1 (by omega) (by omega),if_neg (by omega)];rfl)
  ·refine Vo ?_
   exact Sy.fin_val (fun e=>by rw[wrongE,if_pos ha,if_pos hsk];rfl)
 ·have hab:aloneB o.op i=false:=decide_eq_false ha
  refine Vo ?_
  refine Sy.call_val (.c (.v (.bool false))) Tryz.call212 rfl (fun e a w' h=>by have:=alone_any o i w' (Sy.later_in h hoo);rw[hab] at this;exact this) (Vo ?_)
  exact Sy.fin_val (fun e=>by rw[wrongE,if_neg ha];rfl)
def wideN (g:List Opr)(n:Nat):Int:=((g.take n).map (·.width)).foldr (·+·) 0
theorem foldr_add (l:List Int)(x:Int):(l++[x]).foldr (·+·) 0=l.foldr (·+·) 0+x:=by
 induction l with
 |nil=>simp
 |cons y r ih=>rw[List.cons_append,List.foldr_cons,List.foldr_cons,ih];omega
theorem wideN_succ {g:List Opr}{n:Nat}{o:Opr}(h:g[n]?=some o):wideN g (n+1)=wideN g n+o.width:=by
 obtain⟨hn,he⟩:=List.getElem?_eq_some_iff.1 h
 unfold wideN
 rw[List.take_succ_eq_append_getElem hn,List.map_append,he]
 exact foldr_add _ _
theorem wideN_le {g:List Opr}:∀(n:Nat),goodTo g n->0<=wideN g n/\wideN g n<=3*n
 |0,_=>by simp[wideN]
 |n+1,h=>by
  have ih:=wideN_le n (h.mono (by omega))
  cases hg:g[n]? with
  |none=>
   have hl:g.length<=n:=List.getElem?_eq_none_iff.1 hg
   have e:wideN g (n+1)=wideN g n:=by unfold wideN;rw[List.take_of_length_le (by omega),List.take_of_length_le hl]
   rw[e];omega
  |some o=>
   have:=h n o (by omega) hg
   rw[wideN_succ hg]
   obtain⟨h1,h2,_⟩:=this
   omega
theorem dup_succ {g:List Opr}{n:Nat}{x:Opr}(h:g[n]?=some x)(a:Int):dupB (g.take (n+1)) a=(dupB (g.take n) a||(decide (x.tag=1)&&decide (x.a=a))):=by
 obtain⟨hn,he⟩:=List.getElem?_eq_some_iff.1 h
 unfold dupB
 rw[List.take_succ_eq_append_getElem hn,he,List.any_append]
 simp
set_option maxHeartbeats 4000000 in
theorem rwrong_any (v:Value)(gl:List OpV)(i:Nat)(o:OpV)(w:World)(hr:GOk (fun b=>b<w.heap.size) w v gl)(hlen:gl.length<=1000)(hgi:gl[i]?=some o)(hg:goodTo (opsOf gl) i):
 Calls Tryz.prog 198 #[.agg #[v],.int .i64 i] w (Sy.Ret (.int .i64 (wrongE (opsOf gl) i o.op (wideN (opsOf gl) (i+1)))) w):=by
 have hi:=(List.getElem?_eq_some_iff.1 hgi).1
 have hoo:=hr.at hgi
 have hgo:=opsOf_get hgi
 refine Sy.calls_of Sy.lv198 Sy.tab_ok Tryz.func198 rfl _ Tryz.ntmps198 [⟨v,5,gl.length,gl.map encOV⟩] [.agg [.row 0],.c (.v (.int .i64 i))] rfl rfl rfl ⟨hr.1,trivial⟩ (Vo ?_)
 refine Sy.el_map o hgi (Vo ?_)
 by_cases ha:AloneP o.op i
 ·have hab:aloneB o.op i=true:=decide_eq_true ha
  have hg1:goodTo (opsOf gl) (i+1):=fun j p hj hp=>by
   rcases Nat.lt_succ_iff_lt_or_eq.1 hj with hj|rfl
   ·exact hg j p hj hp
   ·rw[hgo] at hp;cases hp;exact ha
  have hins:=alone_ins ha
  have hil:o.op.ins.length<=i:=rises_len ha.2.2.1
  refine Sy.call_val (.c (.v (.bool true))) Tryz.call216 rfl (fun e a w' h=>by have:=ralone_any o i w' (Sy.later_in h hoo);rw[hab] at this;exact this) (Vo ?_)
  refine open_x _ _ _ (hoo) (fun _ h=>h) (Vo ?_)
  refine Sy.loop_inv Sy.tab_ok (fun n:Nat=>[(23,.c (.v (.int .i64 n)))]) (fun _=>[]) (fun n=>n<=o.op.ins.length/\sinkB (opsOf gl) o.op.ins=sinkB (opsOf gl) (o.op.ins.drop n)) (fun n=>o.op.ins.length-n) 0 ⟨Nat.zero_le _,rfl⟩ ?_ (fun n hn=>?_)
  ·exact Vs0
  ·obtain⟨hn,hs⟩:=hn
   refine Vd (Vj (fun hh=>?_) fun hh=>?_)
   ·have hlt:n<o.op.ins.length:=by omega
    have hgn:=List.getElem?_eq_getElem hlt
    have hk:=hins _ (List.getElem_mem hlt)
    have hd:=sink_drop (opsOf gl) o.op.ins n hlt
    generalize o.op.ins[n]=k at *
    refine Sy.el_map k hgn ?_
    obtain⟨m,rfl⟩:∃m:Nat,k=(m:Int):=⟨k.toNat,by omega⟩
    rw[Int.toNat_natCast] at hd
    have hgm:=List.getElem?_eq_getElem (show m<gl.length by omega)
    rw[tagAt_get hgm] at hd
    generalize gl[m]'(by omega)=x at *
    refine Vo ?_
    refine Sy.el_map x hgm (Vo (Vj (fun hh=>?_) fun hh=>?_))
    ·rw[decide_eq_true (by assumption),Bool.true_or] at hd
     exact Sy.fin_val (fun e=>by rw[wrongE,if_pos ha,if_pos (by rw[hs,hd])];rfl)
    ·rw[decide_eq_false (by assumption),Bool.false_or] at hd
     refine⟨n+1,⟨by omega,by rw[hs,hd]⟩,by omega,?_⟩
     exact Vs0
   ·have e:n=o.op.ins.length:=by omega
    subst e
    rw[List.drop_length] at hs
    have h0:sinkB (opsOf gl) o.op.ins≠true:=by rw[hs];unfold sinkB;simp
    have hle:=fun h=>srcs_le hg1 hgo h
    have hsm:=insSum_le (opsOf gl) o.op.ins
    have hwl:=wideN_le (i+1) hg1
    refine Sy.sli_eq 0 (i+1) rfl (by omega) ⟨by omega,by omega⟩ (Vo ?_)
    refine Sy.loop_inv Sy.tab_ok (fun n:Nat=>[(41,.c (.v (.int .i64 n))),(8,.c (.v (.int .i64 (wideN (opsOf gl) n))))]) (fun _=>[]) (fun n=>n<=i+1/\∀m,m<=n->m<=i->o.op.tag=1->dupB ((opsOf gl).take m) o.op.a=false) (fun n=>i+1-n) 0 ⟨Nat.zero_le _,fun m hm _ _=>by rw[show m=0 by omega];unfold dupB;simp⟩ ?_ (fun n hn=>?_)
    ·rw[show wideN (opsOf gl) 0=0 by simp[wideN]]
     exact Vs0
    ·obtain⟨hn,hdp⟩:=hn
     have hwn:=wideN_le n (hg1.mono hn)
     refine Vd (Vj (fun hh=>?_) fun hh=>?_)
     ·have hlt2:n<i+1:=by omega
      have hgx:=List.getElem?_eq_getElem (show n<gl.length by omega)
      generalize gl[n]'(by omega)=x at *
      have hox:=opsOf_get hgx
      have hax:=hg1 n x.op (by omega) hox
      have hw1:=wideN_succ hox
      have hds:=dup_succ hox o.op.a
      obtain⟨hx1,hx2,_⟩:=hax
      refine Sy.el_of (encOV x) (by rw[List.drop_zero,List.getElem?_take_of_lt (by omega),List.getElem?_map,hgx];rfl) ?_
      ((repeat' first|refine Y ?_|refine Y2 ?_ ?_|refine Y1 fun hh=>?_|exact Y0.mk);(all_goals(try conv=>whnf)))
      all_goals first
       |(have e1:o.op.tag=1:=by assumption
         have e2:x.op.tag=1:=by assumption
         have e3:x.op.a=o.op.a:=by assumption
         have e4:n<i:=by omega
         have:dupB ((opsOf gl).take i) o.op.a=true:=by
          unfold dupB
          rw[List.any_eq_true]
          refine⟨x.op,List.mem_of_getElem? (i:=n) (by rw[List.getElem?_take_of_lt e4];exact hox),by simp[e2,e3]⟩
         exact Sy.fin_val (fun e=>by rw[wrongE,if_pos ha,if_neg h0,if_pos ⟨e1,this⟩];rfl))
       |(refine⟨n+1,⟨by omega,fun m hm hmi h1=>?_⟩,by omega,?_⟩
         ·by_cases he:m=n+1
          ·rw[he,hds,hdp n (Nat.le_refl _) (by omega) h1,Bool.false_or,Bool.and_eq_false_iff,decide_eq_false_iff_not,decide_eq_false_iff_not]
           omega
          ·exact hdp m (by omega) hmi h1
         ·rw[hw1]
          exact Vs0;done)
     ·have e:n=i+1:=by omega
      subst e
      have hdi:=hdp i (by omega) (Nat.le_refl _)
      have h1:¬(o.op.tag=1/\dupB ((opsOf gl).take i) o.op.a=true):=fun h=>by rw[hdi h.1] at h;exact absurd h.2 (by decide)
      by_cases ht:o.op.tag=6
      ·have hle:=hle (by omega)
       refine V ?_
       refine Sy.call_val (.c (.v (.bool (decide ((srcs (opsOf gl) i).length<insSum (opsOf gl) o.op.ins))))) Tryz.call217 rfl (fun e a w' h=>meets_any (e.rv 0) gl i o w' ⟨Sy.row_reads h (.inr rfl),fun o ho=>Sy.later_in h (hr.2 o ho)⟩ hlen hgi hg1) (V (Vj (fun hh=>?_) fun hh=>Vj (fun hh=>?_) fun hh=>?_))
       all_goals first
        |exact Sy.fin_val (fun e=>by rw[wrongE,if_pos ha,if_neg h0,if_neg h1,if_pos ⟨ht,by omega⟩];rfl)
        |exact Sy.fin_val (fun e=>by rw[wrongE,if_pos ha,if_neg h0,if_neg h1,if_neg (by omega),if_pos (by omega)];rfl)
        |exact Sy.fin_val (fun e=>by rw[wrongE,if_pos ha,if_neg h0,if_neg h1,if_neg (by omega),if_neg (by omega)];rfl)
      ·refine V (Vj (fun hh=>?_) fun hh=>?_)
       all_goals first
        |exact Sy.fin_val (fun e=>by rw[wrongE,if_pos ha,if_neg h0,if_neg h1,if_neg (by omega),if_pos (by omega)];rfl)
        |exact Sy.fin_val (fun e=>by rw[wrongE,if_pos ha,if_neg h0,if_neg h1,if_neg (by omega),if_neg (by omega)];rfl)
 ·have hab:aloneB o.op i=false:=decide_eq_false ha
  refine Sy.call_val (.c (.v (.bool false))) Tryz.call216 rfl (fun e a w' h=>by have:=ralone_any o i w' (Sy.later_in h hoo);rw[hab] at this;exact this) (Vo ?_)
  exact Sy.fin_val (fun e=>by rw[wrongE,if_neg ha];rfl)
end Go.Proofs.YtgkkpefpbfadoaaGreat
namespace Go.Proofs.YtgkkpefpbfadoaaGreat
open Go Go.RowKit
open Sy (C SV V1 Blk St XD Els)
set_option maxRecDepth 10000
def wrongAt (g:List Opr)(i:Nat):Int:=match g[i]? with
 |some o=>wrongE g i o (wideN g (i+1))
 |none=>0
def readB (g:List Opr)(i:Nat):Bool:=g.any fun o=>decide ((i:Int)∈o.ins)
def unreadB (g:List Opr)(i:Nat):Bool:=decide (tagAt g i≠7)&&!readB g i
def firstW (g:List Opr):Option Nat:=(List.range g.length).find? fun i=>decide (wrongAt g i≠0)
def firstU (g:List Opr):Option Nat:=(List.range g.length).find? (unreadB g)
def checkV (g:List Opr):Int×Int:=
 if g.length<1\/8<g.length then(0,160) else match firstW g with
  |some i=>(i,wrongAt g i)
  |none=>match firstU g with
   |some i=>(i,162)
   |none=>(0,0)
theorem wrongE_alone {g:List Opr}{i:Nat}{o:Opr}{w:Int}(h:wrongE g i o w=0):AloneP o i:=by
 unfold wrongE at h
 split at h
 ·assumption
 ·cases h
theorem wrongE_wide {g:List Opr}{i:Nat}{o:Opr}{w w':Int}(h:AloneP o i->w=w'):wrongE g i o w=wrongE g i o w':=by
 by_cases ha:AloneP o i
 ·rw[h ha]
 ·rw[wrongE,wrongE,if_neg ha,if_neg ha]
theorem good_succ {g:List Opr}{i:Nat}{o:Opr}(hg:goodTo g i)(ho:g[i]?=some o)(h:wrongAt g i=0):goodTo g (i+1):=fun j p hj hp=>by
 rcases Nat.lt_succ_iff_lt_or_eq.1 hj with hj|rfl
 ·exact hg j p hj hp
 ·rw[ho] at hp;cases hp
  unfold wrongAt at h
  rw[ho] at h
  exact wrongE_alone h
theorem find_hit {L n:Nat}{p:Nat->Bool}(hn:n<L)(hp:p n=true)(h:∀j,j<n->p j=false):(List.range L).find? p=some n:=by
 rw[List.find?_range_eq_some]
 exact⟨hp,List.mem_range.2 hn,fun j hj=>by rw[h j hj];rfl⟩
theorem find_no {L:Nat}{p:Nat->Bool}(h:∀j,j<L->p j=false):(List.range L).find? p=none:=List.find?_eq_none.2 fun j hj=>by rw[h j (List.mem_range.1 hj)];decide
theorem checkV_w {g:List Opr}{n:Nat}(h8:¬(g.length<1\/8<g.length))(hn:n<g.length)(hw:wrongAt g n≠0)(h:∀j,j<n->wrongAt g j=0):checkV g=((n:Int),wrongAt g n):=by
 have:firstW g=some n:=find_hit hn (decide_eq_true hw) fun j hj=>decide_eq_false (by rw[h j hj];simp)
 rw[checkV,if_neg h8,this]
theorem firstW_none {g:List Opr}(h:∀j,j<g.length->wrongAt g j=0):firstW g=none:=find_no fun j hj=>decide_eq_false (by rw[h j hj];simp)
theorem checkV_u {g:List Opr}{n:Nat}(h8:¬(g.length<1\/8<g.length))(hw:∀j,j<g.length->wrongAt g j=0)(hn:n<g.length)(hu:unreadB g n=true)(h:∀j,j<n->unreadB g j=false):checkV g=((n:Int),162):=by
 have:firstU g=some n:=find_hit hn hu h
 rw[checkV,if_neg h8,firstW_none hw,this]
theorem checkV_ok {g:List Opr}(h8:¬(g.length<1\/8<g.length))(hw:∀j,j<g.length->wrongAt g j=0)(h:∀j,j<g.length->unreadB g j=false):checkV g=(0,0):=by
 have:firstU g=none:=find_no h
 rw[checkV,if_neg h8,firstW_none hw,this]
theorem rdrs_nil {g:List Opr}{i:Nat}:(rdrs g i).length=0↔readB g i=false:=by
 unfold rdrs rdN readB
 rw[List.length_map,List.length_eq_zero_iff,List.filter_eq_nil_iff,List.any_eq_false]
 constructor
 ·intro h o ho
  obtain⟨k,hk,rfl⟩:=List.mem_iff_getElem.1 ho
  have:=h k (List.mem_range.2 hk)
  simpa[readsAt,List.getElem?_eq_getElem hk] using this
 ·intro h k hk
  have hk:=List.mem_range.1 hk
  have:=h g[k] (List.getElem_mem hk)
  simpa[readsAt,List.getElem?_eq_getElem hk] using this
theorem unread_sink {g:List Opr}{i:Nat}(h:tagAt g i=7):unreadB g i=false:=by unfold unreadB;rw[decide_eq_false (by rw[h];simp)];rfl
theorem unread_not {g:List Opr}{i:Nat}(h:tagAt g i≠7):unreadB g i=!readB g i:=by unfold unreadB;rw[decide_eq_true h];rfl
attribute [local irreducible] wrongE wideN unreadB readB rdrs
set_option maxHeartbeats 1000000 in
theorem rcheck_any (v:Value)(gl:List OpV)(w:World)(hr:GOk (fun b=>b<w.heap.size) w v gl):
 Calls Tryz.prog 162 #[.agg #[v]] w (Sy.Ret (.tuple #[.int .i64 (checkV (opsOf gl)).1,.int .i64 (checkV (opsOf gl)).2]) w):=by
 have hl:=ok_len hr.1
 have hol:=opsOf_len gl
 refine Sy.calls_of Sy.lv162 Sy.tab_ok Tryz.func162 rfl _ Tryz.ntmps162 [⟨v,5,gl.length,gl.map encOV⟩] [.agg [.row 0]] rfl rfl rfl ⟨hr.1,trivial⟩ ?_
 by_cases h8:(opsOf gl).length<1\/8<(opsOf gl).length
 ·refine V (Vj (fun hh=>?_) fun hh=>Y1 fun hh=>?_)
  all_goals exact Sy.fin_val (fun e=>by rw[checkV,if_pos h8];rfl)
 ·refine V (Y1 fun hh=>Y1 fun hh=>?_)
  refine Sy.loop_inv Sy.tab_ok (fun n:Nat=>[(21,.c (.v (.int .i64 n)))]) (fun _=>[]) (fun n=>n<=gl.length/\goodTo (opsOf gl) n/\∀j,j<n->wrongAt (opsOf gl) j=0) (fun n=>gl.length-n) 0 ⟨Nat.zero_le _,(fun j o h _=>absurd h (Nat.not_lt_zero _)),fun j h=>absurd h (Nat.not_lt_zero _)⟩ ?_ (fun n hn=>?_)
  ·exact Vs0
  ·obtain⟨hn,hg,hz⟩:=hn
   refine V (Vj (fun hh=>?_) fun hh=>?_)
   ·have hlt:n<gl.length:=by omega
    have hgn:=List.getElem?_eq_getElem hlt
    generalize gl[n]=o at *
    have hw:wrongAt (opsOf gl) n=wrongE (opsOf gl) n o.op (wideN (opsOf gl) (n+1)):=by unfold wrongAt;rw[opsOf_get hgn]
    have hsc:=good_succ hg (opsOf_get hgn)
    refine Sy.call_val (.c (.v (.int .i64 (wrongAt (opsOf gl) n)))) Tryz.call198 rfl (fun e a w' h=>by have:=rwrong_any (e.rv 0) gl n o w' ⟨Sy.row_reads h (.inr rfl),fun o ho=>Sy.later_in h (hr.2 o ho)⟩ (by omega) hgn hg;rw[<-hw] at this;exact this) (V (Vj (fun hh=>?_) fun hh=>?_))
    ·have h0:wrongAt (opsOf gl) n=0:=by assumption
     refine⟨n+1,⟨by omega,hsc h0,fun j hj=>?_⟩,by omega,?_⟩
     ·rcases Nat.lt_succ_iff_lt_or_eq.1 hj with hj|rfl
      ·exact hz j hj
      ·exact h0
     ·exact Vs0
    ·exact Sy.fin_val (fun e=>by rw[checkV_w h8 (by omega) (by assumption) hz];rfl)
   ·have e:n=gl.length:=by omega
    subst e
    rw[<-hol] at hz
    refine Sy.loop_inv Sy.tab_ok (fun n:Nat=>[(35,.c (.v (.int .i64 n)))]) (fun _=>[]) (fun n=>n<=gl.length/\∀j,j<n->unreadB (opsOf gl) j=false) (fun n=>gl.length-n) 0 ⟨Nat.zero_le _,fun j h=>absurd h (Nat.not_lt_zero _)⟩ ?_ (fun n hn=>?_)
    ·exact Vs0
    ·obtain⟨hn,hu⟩:=hn
     refine Vc (Vj (fun hh=>?_) fun hh=>?_)
     ·have hlt:n<gl.length:=by omega
      have hgn:=List.getElem?_eq_getElem hlt
      generalize gl[n]=o at *
      have htg:=tagAt_get hgn
      have hu1:unreadB (opsOf gl) n=false->∀j,j<n+1->unreadB (opsOf gl) j=false:=fun h j hj=>by
       rcases Nat.lt_succ_iff_lt_or_eq.1 hj with hj|rfl
       ·exact hu j hj
       ·exact h
      refine Sy.el_map o hgn ?_
      have hrn:=rdrs_nil (g:=opsOf gl) (i:=n)
      by_cases ht:o.op.tag=7
      ·refine V ?_
       refine⟨n+1,⟨by omega,hu1 (unread_sink (by rw[htg];exact ht))⟩,by omega,?_⟩
       exact Vs0
      ·have hun:=unread_not (g:=opsOf gl) (i:=n) (by rw[htg];exact ht)
       refine V ?_
       refine Sy.call_r1 ⟨3,1,(rdrs (opsOf gl) n).length,(rdrs (opsOf gl) n).map encI⟩ (fun j=>.c (.row j)) Tryz.call199 (fun e a w' h=>rreaders_any (e.rv 0) gl n w' ⟨Sy.row_reads h (.inr rfl),fun o ho=>Sy.later_in h (hr.2 o ho)⟩ (by omega)) (V (Vj (fun hh=>?_) fun hh=>?_))
       ·have h0:readB (opsOf gl) n=false:=hrn.1 (by omega)
        exact Sy.fin_val (fun e=>by rw[checkV_u h8 hz (by omega) (by rw[hun,h0];rfl) hu];rfl)
       ·have h0:readB (opsOf gl) n=true:=by
         cases h:readB (opsOf gl) n with
         |true=>rfl
         |false=>have:=hrn.2 h;omega
        refine⟨n+1,⟨by omega,hu1 (by rw[hun,h0];rfl)⟩,by omega,?_⟩
        exact Vs0
     ·have e:n=gl.length:=by omega
      subst e
      exact Sy.fin_val (fun e=>by rw[checkV_ok h8 hz (fun j hj=>hu j (by omega))];rfl)
def rightB (g:List Opr):Bool:=decide ((checkV g).2=0)
attribute [local irreducible] checkV
theorem right_any (v:Value)(gl:List OpV)(w:World)(hr:GOk (fun b=>b<w.heap.size) w v gl):
 Calls Tryz.prog 117 #[.agg #[v]] w (Sy.Ret (.bool (rightB (opsOf gl))) w):=by
 refine Sy.calls_of Sy.lv117 Sy.tab_ok Tryz.func117 rfl _ Tryz.ntmps117 [⟨v,5,gl.length,gl.map encOV⟩] [.agg [.row 0]] rfl rfl rfl ⟨hr.1,trivial⟩ (V ?_)
 refine Sy.call_val (.tup [.c (.v (.int .i64 (checkV (opsOf gl)).1)),.c (.v (.int .i64 (checkV (opsOf gl)).2))]) Tryz.call162 rfl (fun e a w' h=>rcheck_any (e.rv 0) gl w' ⟨Sy.row_reads h (.inr rfl),fun o ho=>Sy.later_in h (hr.2 o ho)⟩) ?_
 conv=>whnf
 exact Sy.fin_val (fun e=>congrArg Value.bool (by unfold rightB;rw[Bool.eq_iff_iff];simp))
end Go.Proofs.YtgkkpefpbfadoaaGreat
