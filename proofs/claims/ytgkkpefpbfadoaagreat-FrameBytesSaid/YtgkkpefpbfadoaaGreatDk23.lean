/- Snap: whether a cell fits an operator, and a snapshot a graph; the document's way too. -/
import Derived.Test.YtgkkpefpbfadoaaGreatDk16
import Derived.Test.YtgkkpefpbfadoaaGreatDk22
namespace Go.Proofs.YtgkkpefpbfadoaaGreat.Sn
open Go Go.RowKit
open Sy (C SV V1 Blk St XD Els)
set_option maxRecDepth 10000
section
theorem risesB_mono {b b':Int}(h:b<=b'):∀{l:List Int}{y:Int},risesB y b l=true->risesB y b' l=true
 |[],_,_=>rfl
 |n::l,y,hr=>by
  unfold risesB at hr⊢
  simp only[Bool.and_eq_true,decide_eq_true_eq] at hr⊢
  exact⟨⟨hr.1.1,by omega⟩,risesB_mono h hr.2⟩
theorem alone_mono {o:Opr}{i j:Int}(h:AloneP o i)(hij:i<=j):AloneP o j:=⟨h.1,h.2.1,risesB_mono hij h.2.2.1,h.2.2.2⟩
theorem good_alone {g:List Opr}(h:rightB g=true){i:Nat}{o:Opr}(hi:g[i]?=some o):AloneP o 8:=by
 have h:(checkV g).2=0:=of_decide_eq_true h
 have hlt:=(List.getElem?_eq_some_iff.1 hi).1
 unfold checkV at h
 by_cases hl:g.length<1\/8<g.length
 ·rw[if_pos hl] at h;cases h
 ·rw[if_neg hl] at h
  cases hf:firstW g with
  |some k=>
   rw[hf] at h
   have hk:=List.find?_some hf
   exact absurd h (of_decide_eq_true hk)
  |none=>
   have:=List.find?_eq_none.1 hf i (List.mem_range.2 hlt)
   have hw:wrongAt g i=0:=by simpa using this
   unfold wrongAt at hw
   rw[hi] at hw
   exact alone_mono (wrongE_alone hw) (by omega)
def keepsP (o:Opr):Prop:=o.tag=4\/o.tag=5
instance(o:Opr):Decidable (keepsP o):=by unfold keepsP;infer_instance
theorem keeps_any (o:OpV)(w:World)(hr:OOk (fun b=>b<w.heap.size) w o):
 Calls Tryz.prog 180 #[.agg #[.int .i64 o.op.tag,.int .i64 o.op.width,o.iv,.int .i64 o.op.a,.int .i64 o.op.b]] w (Sy.Ret (.bool (decide (keepsP o.op))) w):=by
 obtain⟨⟨tag,width,l,a,b⟩,v⟩:=o
 have hr:XD.ok (fun b=>b<w.heap.size) w ⟨v,1,l.length,l.map encI⟩:=hr
 refine Sy.calls_of Sy.lv180 Sy.tab_ok Tryz.func180 rfl _ Tryz.ntmps180 [⟨v,1,l.length,l.map encI⟩] [.agg [.v (.int .i64 tag),.v (.int .i64 width),.row 0,.v (.int .i64 a),.v (.int .i64 b)]] rfl rfl rfl ⟨hr,trivial⟩ ?_
 have hk:keepsP ⟨tag,width,l,a,b⟩↔(tag=4\/tag=5):=Iff.rfl
 by_cases h4:tag=4
 ·rw[decide_eq_true (hk.2 (.inl h4))]
  ((repeat' first|refine Y ?_|refine Y2 ?_ ?_|refine Y1 fun hh=>?_|exact Y0.mk);(all_goals(try conv=>whnf)))
  done
 ·by_cases h5:tag=5
  ·rw[decide_eq_true (hk.2 (.inr h5))]
   ((repeat' first|refine Y ?_|refine Y2 ?_ ?_|refine Y1 fun hh=>?_|exact Y0.mk);(all_goals(try conv=>whnf)))
   exact Sy.fin_val fun e=>congrArg Value.bool (beq_iff_eq.2 h5)
  ·rw[decide_eq_false (fun h=>(hk.1 h).elim h4 h5)]
   ((repeat' first|refine Y ?_|refine Y2 ?_ ?_|refine Y1 fun hh=>?_|exact Y0.mk);(all_goals(try conv=>whnf)))
   exact Sy.fin_val fun e=>congrArg Value.bool (beq_eq_false_iff_ne.2 h5)
def cellP (o:Opr)(c:Int):Prop:=o.tag=4\/c<o.a
instance(o:Opr)(c:Int):Decidable (cellP o c):=by unfold cellP;infer_instance
set_option maxHeartbeats 1000000 in
theorem fits_any (o:OpV)(c s:Int)(w:World)(hr:OOk (fun b=>b<w.heap.size) w o)(ha:AloneP o.op 8)(hk:keepsP o.op)(hc:1<=c):
 Calls Tryz.prog 182 #[.agg #[.int .i64 o.op.tag,.int .i64 o.op.width,o.iv,.int .i64 o.op.a,.int .i64 o.op.b],.agg #[.int .i64 c,.int .i64 s]] w (Sy.Ret (.bool (decide (cellP o.op c))) w):=by
 obtain⟨⟨tag,width,l,a,b⟩,v⟩:=o
 have hr:XD.ok (fun b=>b<w.heap.size) w ⟨v,1,l.length,l.map encI⟩:=hr
 refine Sy.calls_of Sy.lv182 Sy.tab_ok Tryz.func182 rfl _ Tryz.ntmps182 [⟨v,1,l.length,l.map encI⟩] [.agg [.v (.int .i64 tag),.v (.int .i64 width),.row 0,.v (.int .i64 a),.v (.int .i64 b)],.agg [.v (.int .i64 c),.v (.int .i64 s)]] rfl rfl rfl ⟨hr,trivial⟩ ?_
 have hcp:cellP ⟨tag,width,l,a,b⟩ c↔(tag=4\/c<a):=Iff.rfl
 ((repeat' first|refine Y ?_|refine Y2 ?_ ?_|refine Y1 fun hh=>?_|exact Y0.mk);(all_goals(try conv=>whnf)))
 refine Sy.call_in Sy.lv205 Sy.tab_ok Tryz.func205 rfl _ Tryz.ntmps205 Tryz.call205 rfl (fun _=>?_)
 ((repeat' first|refine Y ?_|refine Y2 ?_ ?_|refine Y1 fun hh=>?_|exact Y0.mk);(all_goals(try conv=>whnf)))
 refine Sy.call_val (.c (.v (.bool true))) Tryz.call212 rfl (fun e a' w' h=>by have:=alone_any ⟨⟨tag,width,l,a,b⟩,e.rv 0⟩ 8 w' (Sy.row_reads h (.inr rfl));rw[show aloneB (OpV.op ⟨⟨tag,width,l,a,b⟩,e.rv 0⟩) 8=true from decide_eq_true ha] at this;exact this) ?_
 ((repeat' first|refine Y ?_|refine Y2 ?_ ?_|refine Y1 fun hh=>?_|exact Y0.mk);(all_goals(try conv=>whnf)))
 refine Sy.call_in Sy.lv223 Sy.tab_ok Tryz.func223 rfl _ Tryz.ntmps223 Tryz.call223 rfl (fun _=>?_)
 ((repeat' first|refine Y ?_|refine Y2 ?_ ?_|refine Y1 fun hh=>?_|exact Y0.mk);(all_goals(try conv=>whnf)))
 refine Sy.call_val (.c (.v (.bool true))) Tryz.call180 rfl (fun e a' w' h=>by have:=keeps_any ⟨⟨tag,width,l,a,b⟩,e.rv 0⟩ w' (Sy.row_reads h (.inr rfl));rw[decide_eq_true hk] at this;exact this) ?_
 by_cases h4:tag=4
 ·rw[decide_eq_true (hcp.2 (.inl h4))]
  ((repeat' first|refine Y ?_|refine Y2 ?_ ?_|refine Y1 fun hh=>?_|exact Y0.mk);(all_goals(try conv=>whnf)))
  all_goals done
 ·by_cases h5:c<a
  ·rw[decide_eq_true (hcp.2 (.inr h5))]
   ((repeat' first|refine Y ?_|refine Y2 ?_ ?_|refine Y1 fun hh=>?_|exact Y0.mk);(all_goals(try conv=>whnf)))
   all_goals done
  ·rw[decide_eq_false (fun h=>(hcp.1 h).elim h4 h5)]
   ((repeat' first|refine Y ?_|refine Y2 ?_ ?_|refine Y1 fun hh=>?_|exact Y0.mk);(all_goals(try conv=>whnf)))
   all_goals done
set_option maxHeartbeats 1000000 in
theorem rfits_any (o:OpV)(c s:Int)(w:World)(hr:OOk (fun b=>b<w.heap.size) w o)(hk:keepsP o.op)(hc:1<=c):
 Calls Tryz.prog 118 #[.agg #[.int .i64 o.op.tag,.int .i64 o.op.width,o.iv,.int .i64 o.op.a,.int .i64 o.op.b],.agg #[.int .i64 c,.int .i64 s]] w (Sy.Ret (.bool (decide (cellP o.op c))) w):=by
 obtain⟨⟨tag,width,l,a,b⟩,v⟩:=o
 have hr:XD.ok (fun b=>b<w.heap.size) w ⟨v,1,l.length,l.map encI⟩:=hr
 refine Sy.calls_of Sy.lv118 Sy.tab_ok Tryz.func118 rfl _ Tryz.ntmps118 [⟨v,1,l.length,l.map encI⟩] [.agg [.v (.int .i64 tag),.v (.int .i64 width),.row 0,.v (.int .i64 a),.v (.int .i64 b)],.agg [.v (.int .i64 c),.v (.int .i64 s)]] rfl rfl rfl ⟨hr,trivial⟩ ?_
 have hcp:cellP ⟨tag,width,l,a,b⟩ c↔(tag=4\/c<a):=Iff.rfl
 have hk:tag=4\/tag=5:=hk
 by_cases h4:tag=4
 ·rw[decide_eq_true (hcp.2 (.inl h4))]
  ((repeat' first|refine Y ?_|refine Y2 ?_ ?_|refine Y1 fun hh=>?_|exact Y0.mk);(all_goals(try conv=>whnf)))
  all_goals done
 ·have h5:tag=5:=hk.resolve_left h4
  by_cases hca:c<a
  ·rw[decide_eq_true (hcp.2 (.inr hca))]
   ((repeat' first|refine Y ?_|refine Y2 ?_ ?_|refine Y1 fun hh=>?_|exact Y0.mk);(all_goals(try conv=>whnf)))
   exact Sy.fin_val fun e=>congrArg Value.bool (decide_eq_true hca)
  ·rw[decide_eq_false (fun h=>(hcp.1 h).elim h4 hca)]
   ((repeat' first|refine Y ?_|refine Y2 ?_ ?_|refine Y1 fun hh=>?_|exact Y0.mk);(all_goals(try conv=>whnf)))
   exact Sy.fin_val fun e=>congrArg Value.bool (decide_eq_false hca)
end
section
def opP (o:Opr)(s:Sn):Prop:=o.width=s.wid/\(keepsP o->∀x∈s.rows,cellP o x.cnt)/\(¬keepsP o->s.rows=[])/\(o.tag=1\/zeroB s.offs=true)/\(o.tag=7\/s.txs=[])
instance(o:Opr)(s:Sn):Decidable (opP o s):=by unfold opP;infer_instance
def fitsP (g:List Opr)(s:Sn):Prop:=rightB g=true/\rightP s/\match g[s.op.toNat]? with
 |some o=>opP o s
 |none=>False
instance(g:List Opr)(s:Sn):Decidable (fitsP g s):=by
 unfold fitsP
 cases g[s.op.toNat]?<;>infer_instance
theorem fits_iff {g:List Opr}{s:Sn}{p:Opr}(h:g[s.op.toNat]?=some p):fitsP g s↔rightB g=true/\rightP s/\opP p s:=by
 unfold fitsP
 rw[h]
theorem keeps_tag {o:Opr}(h:keepsP o):o.tag≠7/\o.tag≠1:=by
 unfold keepsP at h;omega
theorem tbl_cnt {l:List Kc}(h:tblB l=true)(x:Kc)(hx:x∈l):1<=x.cnt:=(okK_rec (chain_ok h x hx)).2
theorem fits_none {g:List Opr}{s:Sn}(h:g[s.op.toNat]?=none):¬fitsP g s:=by
 unfold fitsP
 rw[h]
 exact fun h=>h.2.2
theorem opsOf_at {gl:List OpV}{i:Nat}{p:OpV}(h:gl[i]?=some p):(opsOf gl)[i]?=some p.op:=by unfold opsOf;rw[List.getElem?_map,h];rfl
attribute [local irreducible] ownW tblB namesB rightP rightB checkV fitsP keepsP cellP
set_option maxHeartbeats 8000000 in
theorem sfits_any (gv:Value)(gl:List OpV)(s:SnV)(w:World)(hg:GOk (fun b=>b<w.heap.size) w gv gl)(hr:SOk (fun b=>b<w.heap.size) w s):
 Calls Tryz.prog 143 #[.agg #[gv],.agg (encS s).toArray] w (Sy.Ret (.bool (decide (fitsP (opsOf gl) s.sn))) w):=by
 have hgl:=ok_len hg.1
 have hol:=opsOf_len gl
 obtain⟨⟨op,idx,wid,fin,rows,o,txs⟩,u,t⟩:=s
 have hl1:=ok_len hr.rows
 dsimp only at hl1
 refine Sy.calls_of Sy.lv143 Sy.tab_ok Tryz.func143 rfl _ Tryz.ntmps143 [⟨gv,5,gl.length,gl.map encOV⟩,⟨u,4,rows.length,rows.map encK⟩,⟨t,3,txs.length,txs.map encT⟩] [.agg [.row 0],.agg [.v (.int .i64 op),.v (.int .i64 idx),.v (.int .i64 wid),.v (.bool fin),.row 1,.v (.int .i64 (o 0)),.v (.int .i64 (o 1)),.v (.int .i64 (o 2)),.v (.int .i64 (o 3)),.v (.int .i64 (o 4)),.v (.int .i64 (o 5)),.v (.int .i64 (o 6)),.v (.int .i64 (o 7)),.row 2]] rfl rfl rfl ⟨hg.1,hr.rows,hr.txs,trivial⟩ ?_
 obtain⟨S,hS⟩:∃S:Sn,S=⟨op,idx,wid,fin,rows,o,txs⟩:=⟨_,rfl⟩
 rw[show SnV.sn ⟨⟨op,idx,wid,fin,rows,o,txs⟩,u,t⟩=S from hS.symm]
 obtain⟨C1,hC1⟩:∃C1,C1=(checkV (opsOf gl)).1:=⟨_,rfl⟩
 obtain⟨C2,hC2⟩:∃C2,C2=(checkV (opsOf gl)).2:=⟨_,rfl⟩
 have hrg:rightB (opsOf gl)=true↔C2=0:=by
  rw[hC2]
  unfold rightB
  exact decide_eq_true_iff
 ((repeat' first|refine Y ?_|refine Y2 ?_ ?_|refine Y1 fun hh=>?_|exact Y0.mk);(all_goals(try conv=>whnf)))
 refine Sy.call_val (.tup [.c (.v (.int .i64 C1)),.c (.v (.int .i64 C2))]) Tryz.call157 rfl (fun e a w' h=>by
  rw[hC1,hC2]
  exact _root_.Go.Proofs.YtgkkpefpbfadoaaGreat.check_any (e.rv 0) gl w' ⟨Sy.row_reads h (.inr rfl),fun p hp=>Sy.later_in h (hg.2 p hp)⟩) ?_
 by_cases hc2:C2=0
 ·have hrb:=hrg.2 hc2
  subst hc2
  ((repeat' first|refine Y ?_|refine Y2 ?_ ?_|refine Y1 fun hh=>?_|exact Y0.mk);(all_goals(try conv=>whnf)))
  refine Sy.call_val (.c (.v (.int .i64 (chkE S)))) Tryz.call107 rfl (fun e a w' h=>by
   have:=check_any ⟨⟨op,idx,wid,fin,rows,o,txs⟩,e.rv 1,e.rv 2⟩ w' ⟨Sy.row_reads h (.inr rfl),Sy.row_reads h (.inr rfl)⟩
   rw[hS];exact this) ?_
  by_cases hrt:rightP S
  ·rw[show chkE S=0 from if_pos hrt]
   have hop:0<=op/\op<8:=by
    rw[hS] at hrt
    unfold rightP at hrt
    exact hrt.1
   have hcnt:∀x∈rows,1<=x.cnt:=by
    rw[hS] at hrt
    unfold rightP at hrt
    exact fun x hx=>tbl_cnt hrt.2.2.1 x hx
   have hSo:S.op=op:=by rw[hS]
   by_cases hlt:op<(gl.length:Int)
   ·have hge:=List.getElem?_eq_getElem (show op.toNat<gl.length by omega)
    generalize gl[op.toNat]=p at *
    have hpm:=List.mem_of_getElem? hge
    have hpo:=hg.2 p hpm
    have hal:=good_alone hrb (opsOf_at hge)
    have hiff:=fits_iff (s:=S) (p:=p.op) (by rw[hSo];exact opsOf_at hge)
    obtain⟨⟨tag,width,il,pa,pb⟩,iv⟩:=p
    have hopp:opP ⟨tag,width,il,pa,pb⟩ S↔width=wid/\(keepsP ⟨tag,width,il,pa,pb⟩->∀x∈rows,cellP ⟨tag,width,il,pa,pb⟩ x.cnt)/\(¬keepsP ⟨tag,width,il,pa,pb⟩->rows=[])/\(tag=1\/zeroB o=true)/\(tag=7\/txs=[]):=by rw[hS];exact Iff.rfl
    dsimp only at hiff
    have hyes:opP ⟨tag,width,il,pa,pb⟩ S->decide (fitsP (opsOf gl) S)=true:=fun h=>decide_eq_true (hiff.2 ⟨hrb,hrt,h⟩)
    have hno:¬opP ⟨tag,width,il,pa,pb⟩ S->decide (fitsP (opsOf gl) S)=false:=fun h=>decide_eq_false fun h2=>h (hiff.1 h2).2.2
    rw[hopp] at hyes hno
    have hkp:keepsP ⟨tag,width,il,pa,pb⟩\/¬keepsP ⟨tag,width,il,pa,pb⟩:=Classical.em _
    ((repeat' first|refine Y ?_|refine Y2 ?_ ?_|refine Y1 fun hh=>?_|exact Y0.mk);(all_goals(try conv=>whnf)))
    refine Sy.el_map _ hge ?_
    by_cases hw:width=wid
    ·((repeat' first|refine Y ?_|refine Y2 ?_ ?_|refine Y1 fun hh=>?_|exact Y0.mk);(all_goals(try conv=>whnf)))
     refine Sy.call_val (.c (.v (.bool (decide (keepsP ⟨tag,width,il,pa,pb⟩))))) Tryz.call180 rfl (fun e a w' h=>keeps_any ⟨⟨tag,width,il,pa,pb⟩,iv⟩ w' (Sy.later_in h hpo)) ?_
     rcases hkp with hkp|hkp
     ·have htg:tag≠7/\tag≠1:=keeps_tag hkp
      obtain⟨hn7,hn1⟩:=htg
      rw[decide_eq_true hkp]
      by_cases h7:txs.length=0
      ·((repeat' first|refine Y ?_|refine Y2 ?_ ?_|refine Y1 fun hh=>?_|exact Y0.mk);(all_goals(try conv=>whnf)))
       refine Sy.call_val (.c (.v (.bool true))) Tryz.call180 rfl (fun e a w' h=>by have:=keeps_any ⟨⟨tag,width,il,pa,pb⟩,iv⟩ w' (Sy.later_in h hpo);rw[decide_eq_true hkp] at this;exact this) ?_
       ((repeat' first|refine Y ?_|refine Y2 ?_ ?_|refine Y1 fun hh=>?_|exact Y0.mk);(all_goals(try conv=>whnf)))
       refine Sy.call_in Sy.lv153 Sy.tab_ok Tryz.func153 rfl _ Tryz.ntmps153 Tryz.call153 rfl (fun _=>?_)
       ((repeat' first|refine Y ?_|refine Y2 ?_ ?_|refine Y1 fun hh=>?_|exact Y0.mk);(all_goals(try conv=>whnf)))
       refine Sy.call_in Sy.lv193 Sy.tab_ok Tryz.func193 rfl _ Tryz.ntmps193 Tryz.call193 rfl (fun _=>?_)
       ((repeat' first|refine Y ?_|refine Y2 ?_ ?_|refine Y1 fun hh=>?_|exact Y0.mk);(all_goals(try conv=>whnf)))
       refine Sy.loop_inv Sy.tab_ok (fun n:Nat=>[(8,.c (.v (.int .i64 n)))]) (fun _=>[]) (fun n=>n<=rows.length/\∀x∈rows.take n,cellP ⟨tag,width,il,pa,pb⟩ x.cnt) (fun n=>rows.length-n) 0 ⟨Nat.zero_le _,fun y hy=>by rw[List.take_zero] at hy;cases hy⟩ ?_ (fun n hn=>?_)
       ·((repeat'(first|((conv=>whnf);done)|((try conv=>whnf);first|exact trivial|(refine And.intro ?_ ?_)|rfl|exact fun _ _ _ h=>h|exact fun _ _ _ _=>trivial)));(all_goals(try conv=>whnf)))
       ·obtain⟨hn,hall⟩:=hn
        by_cases hlr:n<rows.length
        ·have hgr:=List.getElem?_eq_getElem hlr
         have hsn:rows.take (n+1)=rows.take n++[rows[n]]:=List.take_succ_eq_append_getElem hlr
         have hxm:=List.getElem_mem hlr
         generalize rows[n]=x at *
         ((repeat' first|refine Y ?_|refine Y2 ?_ ?_|refine Y1 fun hh=>?_|exact Y0.mk);(all_goals(try conv=>whnf)))
         refine Sy.el_map x hgr ?_
         ((repeat' first|refine Y ?_|refine Y2 ?_ ?_|refine Y1 fun hh=>?_|exact Y0.mk);(all_goals(try conv=>whnf)))
         refine Sy.call_in Sy.lv181 Sy.tab_ok Tryz.func181 rfl _ Tryz.ntmps181 Tryz.call181 rfl (fun _=>?_)
         ((repeat' first|refine Y ?_|refine Y2 ?_ ?_|refine Y1 fun hh=>?_|exact Y0.mk);(all_goals(try conv=>whnf)))
         refine Sy.call_val (.c (.v (.bool (decide (cellP ⟨tag,width,il,pa,pb⟩ x.cnt))))) Tryz.call182 rfl (fun e a w' h=>fits_any ⟨⟨tag,width,il,pa,pb⟩,iv⟩ x.cnt x.sum w' (Sy.later_in h hpo) hal hkp (hcnt x hxm)) ?_
         by_cases hcx:cellP ⟨tag,width,il,pa,pb⟩ x.cnt
         ·rw[decide_eq_true hcx]
          ((repeat' first|refine Y ?_|refine Y2 ?_ ?_|refine Y1 fun hh=>?_|exact Y0.mk);(all_goals(try conv=>whnf)))
          refine⟨n+1,⟨by omega,fun z hz=>?_⟩,by omega,?_⟩
          ·rw[hsn] at hz
           rcases List.mem_append.1 hz with hz|hz
           ·exact hall z hz
           ·rw[List.mem_singleton.1 hz];exact hcx
          ·((repeat'(first|((conv=>whnf);done)|((try conv=>whnf);first|exact trivial|(refine And.intro ?_ ?_)|rfl|exact fun _ _ _ h=>h|exact fun _ _ _ _=>trivial)));(all_goals(try conv=>whnf)))
         ·rw[decide_eq_false hcx,hno (fun h=>hcx (h.2.1 hkp x hxm))]
          ((repeat' first|refine Y ?_|refine Y2 ?_ ?_|refine Y1 fun hh=>?_|exact Y0.mk);(all_goals(try conv=>whnf)))
          all_goals done
        ·have e:n=rows.length:=by omega
         subst e
         rw[List.take_length] at hall
         by_cases hz:zeroB o=true
         ·rw[hyes ⟨hw,fun _=>hall,fun h=>absurd hkp h,.inr hz,.inr (List.length_eq_zero_iff.1 h7)⟩]
          ((repeat' first|refine Y ?_|refine Y2 ?_ ?_|refine Y1 fun hh=>?_|exact Y0.mk);(all_goals(try conv=>whnf)))
          exact Sy.fin_val fun e=>congrArg Value.bool hz
         ·rw[hno (fun h=>h.2.2.2.1.elim hn1 hz)]
          ((repeat' first|refine Y ?_|refine Y2 ?_ ?_|refine Y1 fun hh=>?_|exact Y0.mk);(all_goals(try conv=>whnf)))
          exact Sy.fin_val fun e=>congrArg Value.bool (Bool.eq_false_iff.2 hz)
      ·rw[hno (fun h=>h.2.2.2.2.elim hn7 fun e=>h7 (by rw[e];rfl))]
       ((repeat' first|refine Y ?_|refine Y2 ?_ ?_|refine Y1 fun hh=>?_|exact Y0.mk);(all_goals(try conv=>whnf)))
       all_goals done
     ·rw[decide_eq_false hkp]
      by_cases hrw:rows.length=0
      ·have hrw':=List.length_eq_zero_iff.1 hrw
       have hrows:keepsP ⟨tag,width,il,pa,pb⟩->∀x∈rows,cellP ⟨tag,width,il,pa,pb⟩ x.cnt:=fun h=>absurd h hkp
       by_cases h7:tag=7
       ·have hn1:tag≠1:=by omega
        by_cases hz:zeroB o=true
        ·rw[hyes ⟨hw,hrows,fun _=>hrw',.inr hz,.inl h7⟩]
         ((repeat' first|refine Y ?_|refine Y2 ?_ ?_|refine Y1 fun hh=>?_|exact Y0.mk);(all_goals(try conv=>whnf)))
         refine Sy.call_val (.c (.v (.bool false))) Tryz.call180 rfl (fun e a w' h=>by have:=keeps_any ⟨⟨tag,width,il,pa,pb⟩,iv⟩ w' (Sy.later_in h hpo);rw[decide_eq_false hkp] at this;exact this) ?_
         ((repeat' first|refine Y ?_|refine Y2 ?_ ?_|refine Y1 fun hh=>?_|exact Y0.mk);(all_goals(try conv=>whnf)))
         exact Sy.fin_val fun e=>congrArg Value.bool hz
        ·rw[hno (fun h=>h.2.2.2.1.elim hn1 hz)]
         ((repeat' first|refine Y ?_|refine Y2 ?_ ?_|refine Y1 fun hh=>?_|exact Y0.mk);(all_goals(try conv=>whnf)))
         refine Sy.call_val (.c (.v (.bool false))) Tryz.call180 rfl (fun e a w' h=>by have:=keeps_any ⟨⟨tag,width,il,pa,pb⟩,iv⟩ w' (Sy.later_in h hpo);rw[decide_eq_false hkp] at this;exact this) ?_
         ((repeat' first|refine Y ?_|refine Y2 ?_ ?_|refine Y1 fun hh=>?_|exact Y0.mk);(all_goals(try conv=>whnf)))
         exact Sy.fin_val fun e=>congrArg Value.bool (Bool.eq_false_iff.2 hz)
       ·by_cases htx:txs.length=0
        ·by_cases h1:tag=1
         ·rw[hyes ⟨hw,hrows,fun _=>hrw',.inl h1,.inr (List.length_eq_zero_iff.1 htx)⟩]
          ((repeat' first|refine Y ?_|refine Y2 ?_ ?_|refine Y1 fun hh=>?_|exact Y0.mk);(all_goals(try conv=>whnf)))
          refine Sy.call_val (.c (.v (.bool false))) Tryz.call180 rfl (fun e a w' h=>by have:=keeps_any ⟨⟨tag,width,il,pa,pb⟩,iv⟩ w' (Sy.later_in h hpo);rw[decide_eq_false hkp] at this;exact this) ?_
          ((repeat' first|refine Y ?_|refine Y2 ?_ ?_|refine Y1 fun hh=>?_|exact Y0.mk);(all_goals(try conv=>whnf)))
          all_goals done
         ·by_cases hz:zeroB o=true
          ·rw[hyes ⟨hw,hrows,fun _=>hrw',.inr hz,.inr (List.length_eq_zero_iff.1 htx)⟩]
           ((repeat' first|refine Y ?_|refine Y2 ?_ ?_|refine Y1 fun hh=>?_|exact Y0.mk);(all_goals(try conv=>whnf)))
           refine Sy.call_val (.c (.v (.bool false))) Tryz.call180 rfl (fun e a w' h=>by have:=keeps_any ⟨⟨tag,width,il,pa,pb⟩,iv⟩ w' (Sy.later_in h hpo);rw[decide_eq_false hkp] at this;exact this) ?_
           ((repeat' first|refine Y ?_|refine Y2 ?_ ?_|refine Y1 fun hh=>?_|exact Y0.mk);(all_goals(try conv=>whnf)))
           exact Sy.fin_val fun e=>congrArg Value.bool hz
          ·rw[hno (fun h=>h.2.2.2.1.elim h1 hz)]
           ((repeat' first|refine Y ?_|refine Y2 ?_ ?_|refine Y1 fun hh=>?_|exact Y0.mk);(all_goals(try conv=>whnf)))
           refine Sy.call_val (.c (.v (.bool false))) Tryz.call180 rfl (fun e a w' h=>by have:=keeps_any ⟨⟨tag,width,il,pa,pb⟩,iv⟩ w' (Sy.later_in h hpo);rw[decide_eq_false hkp] at this;exact this) ?_
           ((repeat' first|refine Y ?_|refine Y2 ?_ ?_|refine Y1 fun hh=>?_|exact Y0.mk);(all_goals(try conv=>whnf)))
           exact Sy.fin_val fun e=>congrArg Value.bool (Bool.eq_false_iff.2 hz)
        ·rw[hno (fun h=>h.2.2.2.2.elim h7 fun e=>htx (by rw[e];rfl))]
         ((repeat' first|refine Y ?_|refine Y2 ?_ ?_|refine Y1 fun hh=>?_|exact Y0.mk);(all_goals(try conv=>whnf)))
         all_goals done
      ·rw[hno (fun h=>hrw (by rw[h.2.2.1 hkp];rfl))]
       ((repeat' first|refine Y ?_|refine Y2 ?_ ?_|refine Y1 fun hh=>?_|exact Y0.mk);(all_goals(try conv=>whnf)))
       all_goals done
    ·rw[hno (fun h=>hw h.1)]
     ((repeat' first|refine Y ?_|refine Y2 ?_ ?_|refine Y1 fun hh=>?_|exact Y0.mk);(all_goals(try conv=>whnf)))
     all_goals done
   ·rw[decide_eq_false (fits_none (by rw[hSo,List.getElem?_eq_none_iff,hol];omega))]
    ((repeat' first|refine Y ?_|refine Y2 ?_ ?_|refine Y1 fun hh=>?_|exact Y0.mk);(all_goals(try conv=>whnf)))
    all_goals done
  ·rw[show chkE S=280 from if_neg hrt,decide_eq_false (fun h=>hrt (by unfold fitsP at h;exact h.2.1))]
   ((repeat' first|refine Y ?_|refine Y2 ?_ ?_|refine Y1 fun hh=>?_|exact Y0.mk);(all_goals(try conv=>whnf)))
   all_goals done
 ·rw[decide_eq_false (fun h=>hc2 (hrg.1 (by unfold fitsP at h;exact h.1)))]
  ((repeat' first|refine Y ?_|refine Y2 ?_ ?_|refine Y1 fun hh=>?_|exact Y0.mk);(all_goals(try conv=>whnf)))
  all_goals done
end
section
theorem keeps_iff (tag width:Int)(il:List Int)(a b:Int):keepsP ⟨tag,width,il,a,b⟩↔(tag=4\/tag=5):=Iff.rfl
attribute [local irreducible] ownW tblB namesB rightP rightB checkV fitsP keepsP cellP
set_option maxHeartbeats 8000000 in
theorem rsfits_any (gv:Value)(gl:List OpV)(s:SnV)(w:World)(hg:GOk (fun b=>b<w.heap.size) w gv gl)(hr:SOk (fun b=>b<w.heap.size) w s):
 Calls Tryz.prog 67 #[.agg #[gv],.agg (encS s).toArray] w (Sy.Ret (.bool (decide (fitsP (opsOf gl) s.sn))) w):=by
 have hgl:=ok_len hg.1
 have hol:=opsOf_len gl
 obtain⟨⟨op,idx,wid,fin,rows,o,txs⟩,u,t⟩:=s
 have hl1:=ok_len hr.rows
 dsimp only at hl1
 refine Sy.calls_of Sy.lv67 Sy.tab_ok Tryz.func67 rfl _ Tryz.ntmps67 [⟨gv,5,gl.length,gl.map encOV⟩,⟨u,4,rows.length,rows.map encK⟩,⟨t,3,txs.length,txs.map encT⟩] [.agg [.row 0],.agg [.v (.int .i64 op),.v (.int .i64 idx),.v (.int .i64 wid),.v (.bool fin),.row 1,.v (.int .i64 (o 0)),.v (.int .i64 (o 1)),.v (.int .i64 (o 2)),.v (.int .i64 (o 3)),.v (.int .i64 (o 4)),.v (.int .i64 (o 5)),.v (.int .i64 (o 6)),.v (.int .i64 (o 7)),.row 2]] rfl rfl rfl ⟨hg.1,hr.rows,hr.txs,trivial⟩ ?_
 obtain⟨S,hS⟩:∃S:Sn,S=⟨op,idx,wid,fin,rows,o,txs⟩:=⟨_,rfl⟩
 rw[show SnV.sn ⟨⟨op,idx,wid,fin,rows,o,txs⟩,u,t⟩=S from hS.symm]
 obtain⟨RB,hRB⟩:∃RB,RB=rightB (opsOf gl):=⟨_,rfl⟩
 ((repeat' first|refine Y ?_|refine Y2 ?_ ?_|refine Y1 fun hh=>?_|exact Y0.mk);(all_goals(try conv=>whnf)))
 cases hrb:RB
 ·rw[hrb] at hRB
  rw[decide_eq_false (fun h=>by unfold fitsP at h;rw[<-hRB] at h;exact absurd h.1 (by decide))]
  refine Sy.draw_go [] (by kernel_rfl) ?_
  intro e0
  conv=>whnf
  refine zt 0 rfl ?_
  conv=>whnf
  refine zd1 [1] (zx rfl ?_ zy)
  conv=>whnf
  refine Sy.call_val (.c (.v (.bool false))) Tryz.call117 rfl (fun e a w' h=>by rw[hRB];exact _root_.Go.Proofs.YtgkkpefpbfadoaaGreat.right_any (e.rv 0) gl w' ⟨Sy.row_reads h (.inr rfl),fun p hp=>Sy.later_in h (hg.2 p hp)⟩) ?_
  conv=>whnf
  refine Yk ?_
  refine zt 2 rfl ?_
  ((repeat' first|refine Y ?_|refine Y2 ?_ ?_|refine Y1 fun hh=>?_|exact Y0.mk);(all_goals(try conv=>whnf)))
  refine zt 3 rfl ?_
  conv=>whnf
  refine zt 4 rfl ?_
  ((repeat' first|refine Y ?_|refine Y2 ?_ ?_|refine Y1 fun hh=>?_|exact Y0.mk);(all_goals(try conv=>whnf)))
  refine zd1 [5] (zx rfl ?_ zy)
  conv=>whnf
  (try(refine zA ?_;conv=>whnf))
  refine Yk ?_
  refine zt 6 rfl ?_
  ((repeat' first|refine Y ?_|refine Y2 ?_ ?_|refine Y1 fun hh=>?_|exact Y0.mk);(all_goals(try conv=>whnf)))
  refine zt 7 rfl ?_
  ((repeat' first|refine Y ?_|refine Y2 ?_ ?_|refine Y1 fun hh=>?_|exact Y0.mk);(all_goals(try conv=>whnf)))
  refine zt 8 rfl ?_
  conv=>whnf
  refine zt 9 rfl ?_
  ((repeat' first|refine Y ?_|refine Y2 ?_ ?_|refine Y1 fun hh=>?_|exact Y0.mk);(all_goals(try conv=>whnf)))
  refine zt 10 rfl ?_
  ((repeat' first|refine Y ?_|refine Y2 ?_ ?_|refine Y1 fun hh=>?_|exact Y0.mk);(all_goals(try conv=>whnf)))
  refine zt 11 rfl ?_
  ((repeat' first|refine Y ?_|refine Y2 ?_ ?_|refine Y1 fun hh=>?_|exact Y0.mk);(all_goals(try conv=>whnf)))
  refine zt 12 rfl ?_
  ((repeat' first|refine Y ?_|refine Y2 ?_ ?_|refine Y1 fun hh=>?_|exact Y0.mk);(all_goals(try conv=>whnf)))
  refine zt 13 rfl ?_
  ((repeat' first|refine Y ?_|refine Y2 ?_ ?_|refine Y1 fun hh=>?_|exact Y0.mk);(all_goals(try conv=>whnf)))
  refine zt 14 rfl ?_
  ((repeat' first|refine Y ?_|refine Y2 ?_ ?_|refine Y1 fun hh=>?_|exact Y0.mk);(all_goals(try conv=>whnf)))
  refine zt 15 rfl ?_
  ((repeat' first|refine Y ?_|refine Y2 ?_ ?_|refine Y1 fun hh=>?_|exact Y0.mk);(all_goals(try conv=>whnf)))
  refine zt 16 rfl ?_
  conv=>whnf
  refine zt 17 rfl ?_
  ((repeat' first|refine Y ?_|refine Y2 ?_ ?_|refine Y1 fun hh=>?_|exact Y0.mk);(all_goals(try conv=>whnf)))
  refine zt 18 rfl ?_
  ((repeat' first|refine Y ?_|refine Y2 ?_ ?_|refine Y1 fun hh=>?_|exact Y0.mk);(all_goals(try conv=>whnf)))
  refine zt 19 rfl ?_
  ((repeat' first|refine Y ?_|refine Y2 ?_ ?_|refine Y1 fun hh=>?_|exact Y0.mk);(all_goals(try conv=>whnf)))
  refine zt 20 rfl ?_
  ((repeat' first|refine Y ?_|refine Y2 ?_ ?_|refine Y1 fun hh=>?_|exact Y0.mk);(all_goals(try conv=>whnf)))
  refine zt 21 rfl ?_
  ((repeat' first|refine Y ?_|refine Y2 ?_ ?_|refine Y1 fun hh=>?_|exact Y0.mk);(all_goals(try conv=>whnf)))
  refine zt 22 rfl ?_
  ((repeat' first|refine Y ?_|refine Y2 ?_ ?_|refine Y1 fun hh=>?_|exact Y0.mk);(all_goals(try conv=>whnf)))
  refine zt 23 rfl ?_
  ((repeat' first|refine Y ?_|refine Y2 ?_ ?_|refine Y1 fun hh=>?_|exact Y0.mk);(all_goals(try conv=>whnf)))
  refine zt 24 rfl ?_
  ((repeat' first|refine Y ?_|refine Y2 ?_ ?_|refine Y1 fun hh=>?_|exact Y0.mk);(all_goals(try conv=>whnf)))
  refine zt 25 rfl ?_
  ((repeat' first|refine Y ?_|refine Y2 ?_ ?_|refine Y1 fun hh=>?_|exact Y0.mk);(all_goals(try conv=>whnf)))
  refine zt 26 rfl ?_
  ((repeat' first|refine Y ?_|refine Y2 ?_ ?_|refine Y1 fun hh=>?_|exact Y0.mk);(all_goals(try conv=>whnf)))
  refine zt 27 rfl ?_
  ((repeat' first|refine Y ?_|refine Y2 ?_ ?_|refine Y1 fun hh=>?_|exact Y0.mk);(all_goals(try conv=>whnf)))
  refine zw ?_
  skip
  ((repeat' first|refine Y ?_|refine Y2 ?_ ?_|refine Y1 fun hh=>?_|exact Y0.mk);(all_goals(try conv=>whnf)))
  all_goals done
 ·rw[hrb] at hRB
  have hrb':=hRB.symm
  by_cases hrt:rightP S
  ·have hop:0<=op/\op<8:=by
    rw[hS] at hrt
    unfold rightP at hrt
    exact hrt.1
   have hcnt:∀x∈rows,1<=x.cnt:=by
    rw[hS] at hrt
    unfold rightP at hrt
    exact fun x hx=>tbl_cnt hrt.2.2.1 x hx
   have hSo:S.op=op:=by rw[hS]
   by_cases hlt:op<(gl.length:Int)
   ·have hge:=List.getElem?_eq_getElem (show op.toNat<gl.length by omega)
    generalize gl[op.toNat]=p at *
    have hpm:=List.mem_of_getElem? hge
    have hpo:=hg.2 p hpm
    have hiff:=fits_iff (s:=S) (p:=p.op) (by rw[hSo];exact opsOf_at hge)
    obtain⟨⟨tag,width,il,pa,pb⟩,iv⟩:=p
    have hopp:opP ⟨tag,width,il,pa,pb⟩ S↔width=wid/\(keepsP ⟨tag,width,il,pa,pb⟩->∀x∈rows,cellP ⟨tag,width,il,pa,pb⟩ x.cnt)/\(¬keepsP ⟨tag,width,il,pa,pb⟩->rows=[])/\(tag=1\/zeroB o=true)/\(tag=7\/txs=[]):=by rw[hS];exact Iff.rfl
    dsimp only at hiff
    have hyes:opP ⟨tag,width,il,pa,pb⟩ S->decide (fitsP (opsOf gl) S)=true:=fun h=>decide_eq_true (hiff.2 ⟨hrb',hrt,h⟩)
    have hno:¬opP ⟨tag,width,il,pa,pb⟩ S->decide (fitsP (opsOf gl) S)=false:=fun h=>decide_eq_false fun h2=>h (hiff.1 h2).2.2
    rw[hopp] at hyes hno
    have hki:=keeps_iff tag width il pa pb
    refine Sy.draw_go [] (by kernel_rfl) ?_
    intro e0
    conv=>whnf
    refine zt 0 rfl ?_
    conv=>whnf
    refine zd1 [1] (zx rfl ?_ zy)
    conv=>whnf
    refine Sy.call_val (.c (.v (.bool true))) Tryz.call117 rfl (fun e a w' h=>by rw[hRB];exact _root_.Go.Proofs.YtgkkpefpbfadoaaGreat.right_any (e.rv 0) gl w' ⟨Sy.row_reads h (.inr rfl),fun p hp=>Sy.later_in h (hg.2 p hp)⟩) ?_
    conv=>whnf
    refine Yk ?_
    refine zt 2 rfl ?_
    ((repeat' first|refine Y ?_|refine Y2 ?_ ?_|refine Y1 fun hh=>?_|exact Y0.mk);(all_goals(try conv=>whnf)))
    refine zt 3 rfl ?_
    conv=>whnf
    refine zt 4 rfl ?_
    ((repeat' first|refine Y ?_|refine Y2 ?_ ?_|refine Y1 fun hh=>?_|exact Y0.mk);(all_goals(try conv=>whnf)))
    refine zd1 [5] (zx rfl ?_ zy)
    conv=>whnf
    (try(refine zA ?_;conv=>whnf))
    refine Sy.call_val (.c (.v (.bool true))) Tryz.call25 rfl (fun e a w' h=>by
     have:=right_any ⟨⟨op,idx,wid,fin,rows,o,txs⟩,e.rv 1,e.rv 2⟩ w' ⟨Sy.row_reads h (.inr rfl),Sy.row_reads h (.inr rfl)⟩
     rw[show SnV.sn ⟨⟨op,idx,wid,fin,rows,o,txs⟩,e.rv 1,e.rv 2⟩=S from hS.symm,decide_eq_true hrt] at this;exact this) ?_
    conv=>whnf
    refine Yk ?_
    refine zt 6 rfl ?_
    ((repeat' first|refine Y ?_|refine Y2 ?_ ?_|refine Y1 fun hh=>?_|exact Y0.mk);(all_goals(try conv=>whnf)))
    refine zt 7 rfl ?_
    ((repeat' first|refine Y ?_|refine Y2 ?_ ?_|refine Y1 fun hh=>?_|exact Y0.mk);(all_goals(try conv=>whnf)))
    refine zt 8 rfl ?_
    conv=>whnf
    refine zt 9 rfl ?_
    ((repeat' first|refine Y ?_|refine Y2 ?_ ?_|refine Y1 fun hh=>?_|exact Y0.mk);(all_goals(try conv=>whnf)))
    refine zt 10 rfl ?_
    ((repeat' first|refine Y ?_|refine Y2 ?_ ?_|refine Y1 fun hh=>?_|exact Y0.mk);(all_goals(try conv=>whnf)))
    refine zt 11 rfl ?_
    ((repeat' first|refine Y ?_|refine Y2 ?_ ?_|refine Y1 fun hh=>?_|exact Y0.mk);(all_goals(try conv=>whnf)))
    refine zt 12 rfl ?_
    ((repeat' first|refine Y ?_|refine Y2 ?_ ?_|refine Y1 fun hh=>?_|exact Y0.mk);(all_goals(try conv=>whnf)))
    refine zt 13 rfl ?_
    ((repeat' first|refine Y ?_|refine Y2 ?_ ?_|refine Y1 fun hh=>?_|exact Y0.mk);(all_goals(try conv=>whnf)))
    refine zt 14 rfl ?_
    ((repeat' first|refine Y ?_|refine Y2 ?_ ?_|refine Y1 fun hh=>?_|exact Y0.mk);(all_goals(try conv=>whnf)))
    refine zt 15 rfl ?_
    ((repeat' first|refine Y ?_|refine Y2 ?_ ?_|refine Y1 fun hh=>?_|exact Y0.mk);(all_goals(try conv=>whnf)))
    refine zt 16 rfl ?_
    conv=>whnf
    refine zt 17 rfl ?_
    ((repeat' first|refine Y ?_|refine Y2 ?_ ?_|refine Y1 fun hh=>?_|exact Y0.mk);(all_goals(try conv=>whnf)))
    refine zt 18 rfl ?_
    ((repeat' first|refine Y ?_|refine Y2 ?_ ?_|refine Y1 fun hh=>?_|exact Y0.mk);(all_goals(try conv=>whnf)))
    refine zt 19 rfl ?_
    ((repeat' first|refine Y ?_|refine Y2 ?_ ?_|refine Y1 fun hh=>?_|exact Y0.mk);(all_goals(try conv=>whnf)))
    refine zt 20 rfl ?_
    ((repeat' first|refine Y ?_|refine Y2 ?_ ?_|refine Y1 fun hh=>?_|exact Y0.mk);(all_goals(try conv=>whnf)))
    refine zt 21 rfl ?_
    ((repeat' first|refine Y ?_|refine Y2 ?_ ?_|refine Y1 fun hh=>?_|exact Y0.mk);(all_goals(try conv=>whnf)))
    refine zt 22 rfl ?_
    ((repeat' first|refine Y ?_|refine Y2 ?_ ?_|refine Y1 fun hh=>?_|exact Y0.mk);(all_goals(try conv=>whnf)))
    refine zt 23 rfl ?_
    ((repeat' first|refine Y ?_|refine Y2 ?_ ?_|refine Y1 fun hh=>?_|exact Y0.mk);(all_goals(try conv=>whnf)))
    refine Sy.el_map _ hge ?_
    conv=>whnf
    refine zt 24 rfl ?_
    ((repeat' first|refine Y ?_|refine Y2 ?_ ?_|refine Y1 fun hh=>?_|exact Y0.mk);(all_goals(try conv=>whnf)))
    refine zt 25 rfl ?_
    ((repeat' first|refine Y ?_|refine Y2 ?_ ?_|refine Y1 fun hh=>?_|exact Y0.mk);(all_goals(try conv=>whnf)))
    refine zt 26 rfl ?_
    ((repeat' first|refine Y ?_|refine Y2 ?_ ?_|refine Y1 fun hh=>?_|exact Y0.mk);(all_goals(try conv=>whnf)))
    refine zt 27 rfl ?_
    ((repeat' first|refine Y ?_|refine Y2 ?_ ?_|refine Y1 fun hh=>?_|exact Y0.mk);(all_goals(try conv=>whnf)))
    refine zw ?_
    skip
    by_cases hw:width=wid
    ·have hzi:zeroB o=true↔(o 0=0/\o 1=0/\o 2=0/\o 3=0/\o 4=0/\o 5=0/\o 6=0/\o 7=0):=by
      rw[zeroB_iff]
      exact⟨fun h=>⟨h 0,h 1,h 2,h 3,h 4,h 5,h 6,h 7⟩,fun⟨h0,h1,h2,h3,h4,h5,h6,h7⟩=>fin8 h0 h1 h2 h3 h4 h5 h6 h7⟩
     have htl:txs=[]↔txs.length=0:=List.length_eq_zero_iff.symm
     by_cases hk45:tag=4\/tag=5
     ·have hkp:=hki.2 hk45
      have hn7:tag≠7:=by omega
      have hn1:tag≠1:=by omega
      rcases hk45 with h4|h5
      case' inr=>have h4:tag≠4:=by omega
      all_goals
       ((repeat' first|refine Y ?_|refine Y2 ?_ ?_|refine Y1 fun hh=>?_|exact Y0.mk);(all_goals(try conv=>whnf)))
       refine Sy.el_map _ hge ?_
       ((repeat' first|refine Y ?_|refine Y2 ?_ ?_|refine Y1 fun hh=>?_|exact Y0.mk);(all_goals(try conv=>whnf)))
       refine Sy.loop_inv Sy.tab_ok (fun n:Nat=>[(55,.c (.v (.int .i64 n)))]) (fun _=>[]) (fun n=>n<=rows.length/\∀x∈rows.take n,cellP ⟨tag,width,il,pa,pb⟩ x.cnt) (fun n=>rows.length-n) 0 ⟨Nat.zero_le _,fun y hy=>by rw[List.take_zero] at hy;cases hy⟩ ?_ (fun n hn=>?_)
       ·((repeat'(first|((conv=>whnf);done)|((try conv=>whnf);first|exact trivial|(refine And.intro ?_ ?_)|rfl|exact fun _ _ _ h=>h|exact fun _ _ _ _=>trivial)));(all_goals(try conv=>whnf)))
       ·obtain⟨hn,hall⟩:=hn
        by_cases hlr:n<rows.length
        ·have hgr:=List.getElem?_eq_getElem hlr
         have hsn:rows.take (n+1)=rows.take n++[rows[n]]:=List.take_succ_eq_append_getElem hlr
         have hxm:=List.getElem_mem hlr
         generalize rows[n]=x at *
         ((repeat' first|refine Y ?_|refine Y2 ?_ ?_|refine Y1 fun hh=>?_|exact Y0.mk);(all_goals(try conv=>whnf)))
         refine Sy.el_map x hgr ?_
         ((repeat' first|refine Y ?_|refine Y2 ?_ ?_|refine Y1 fun hh=>?_|exact Y0.mk);(all_goals(try conv=>whnf)))
         refine Sy.call_val (.c (.v (.bool (decide (cellP ⟨tag,width,il,pa,pb⟩ x.cnt))))) Tryz.call118 rfl (fun e a w' h=>rfits_any ⟨⟨tag,width,il,pa,pb⟩,iv⟩ x.cnt x.sum w' (Sy.later_in h hpo) hkp (hcnt x hxm)) ?_
         by_cases hcx:cellP ⟨tag,width,il,pa,pb⟩ x.cnt
         ·rw[decide_eq_true hcx]
          ((repeat' first|refine Y ?_|refine Y2 ?_ ?_|refine Y1 fun hh=>?_|exact Y0.mk);(all_goals(try conv=>whnf)))
          refine⟨n+1,⟨by omega,fun z hz=>?_⟩,by omega,?_⟩
          ·rw[hsn] at hz
           rcases List.mem_append.1 hz with hz|hz
           ·exact hall z hz
           ·rw[List.mem_singleton.1 hz];exact hcx
          ·((repeat'(first|((conv=>whnf);done)|((try conv=>whnf);first|exact trivial|(refine And.intro ?_ ?_)|rfl|exact fun _ _ _ h=>h|exact fun _ _ _ _=>trivial)));(all_goals(try conv=>whnf)))
         ·rw[decide_eq_false hcx,hno (fun h=>hcx (h.2.1 hkp x hxm))]
          ((repeat' first|refine Y ?_|refine Y2 ?_ ?_|refine Y1 fun hh=>?_|exact Y0.mk);(all_goals(try conv=>whnf)))
          all_goals done
        ·have e:n=rows.length:=by omega
         subst e
         rw[List.take_length] at hall
         by_cases hz:o 0=0/\o 1=0/\o 2=0/\o 3=0/\o 4=0/\o 5=0/\o 6=0/\o 7=0
         ·have hz':=hz
          obtain⟨z0,z1,z2,z3,z4,z5,z6,z7⟩:=hz'
          by_cases htx:txs.length=0
          ·rw[hyes ⟨hw,fun _=>hall,fun h=>absurd hkp h,.inr (hzi.2 hz),.inr (htl.2 htx)⟩]
           ((repeat' first|refine Y ?_|refine Y2 ?_ ?_|refine Y1 fun hh=>?_|exact Y0.mk);(all_goals(try conv=>whnf)))
           exact Sy.fin_val fun e=>congrArg Value.bool (beq_iff_eq.2 (by omega))
          ·rw[hno (fun h=>h.2.2.2.2.elim hn7 fun e=>htx (htl.1 e))]
           ((repeat' first|refine Y ?_|refine Y2 ?_ ?_|refine Y1 fun hh=>?_|exact Y0.mk);(all_goals(try conv=>whnf)))
           exact Sy.fin_val fun e=>congrArg Value.bool (beq_eq_false_iff_ne.2 (by omega))
         ·rw[hno (fun h=>h.2.2.2.1.elim hn1 fun e=>hz (hzi.1 e))]
          ((repeat' first|refine Y ?_|refine Y2 ?_ ?_|refine Y1 fun hh=>?_|exact Y0.mk);(all_goals(try conv=>whnf)))
          all_goals first|(exfalso;omega)|done
     ·have hkp:¬keepsP ⟨tag,width,il,pa,pb⟩:=fun h=>hk45 (hki.1 h)
      have h4:tag≠4:=by omega
      have h5:tag≠5:=by omega
      by_cases hrw:rows.length=0
      ·have hrows:keepsP ⟨tag,width,il,pa,pb⟩->∀x∈rows,cellP ⟨tag,width,il,pa,pb⟩ x.cnt:=fun h=>absurd h hkp
       have hrw':=List.length_eq_zero_iff.1 hrw
       by_cases h1:tag=1
       ·have hn7:tag≠7:=by omega
        by_cases htx:txs.length=0
        ·rw[hyes ⟨hw,hrows,fun _=>hrw',.inl h1,.inr (htl.2 htx)⟩]
         ((repeat' first|refine Y ?_|refine Y2 ?_ ?_|refine Y1 fun hh=>?_|exact Y0.mk);(all_goals(try conv=>whnf)))
         refine Sy.el_map _ hge ?_
         ((repeat' first|refine Y ?_|refine Y2 ?_ ?_|refine Y1 fun hh=>?_|exact Y0.mk);(all_goals(try conv=>whnf)))
         exact Sy.fin_val fun e=>congrArg Value.bool (beq_iff_eq.2 (by omega))
        ·rw[hno (fun h=>h.2.2.2.2.elim hn7 fun e=>htx (htl.1 e))]
         ((repeat' first|refine Y ?_|refine Y2 ?_ ?_|refine Y1 fun hh=>?_|exact Y0.mk);(all_goals(try conv=>whnf)))
         refine Sy.el_map _ hge ?_
         ((repeat' first|refine Y ?_|refine Y2 ?_ ?_|refine Y1 fun hh=>?_|exact Y0.mk);(all_goals(try conv=>whnf)))
         exact Sy.fin_val fun e=>congrArg Value.bool (beq_eq_false_iff_ne.2 (by omega))
       ·by_cases hz:o 0=0/\o 1=0/\o 2=0/\o 3=0/\o 4=0/\o 5=0/\o 6=0/\o 7=0
        ·have hz':=hz
         obtain⟨z0,z1,z2,z3,z4,z5,z6,z7⟩:=hz'
         by_cases h7:tag=7
         ·rw[hyes ⟨hw,hrows,fun _=>hrw',.inr (hzi.2 hz),.inl h7⟩]
          ((repeat' first|refine Y ?_|refine Y2 ?_ ?_|refine Y1 fun hh=>?_|exact Y0.mk);(all_goals(try conv=>whnf)))
          refine Sy.el_map _ hge ?_
          ((repeat' first|refine Y ?_|refine Y2 ?_ ?_|refine Y1 fun hh=>?_|exact Y0.mk);(all_goals(try conv=>whnf)))
          all_goals done
         ·by_cases htx:txs.length=0
          ·rw[hyes ⟨hw,hrows,fun _=>hrw',.inr (hzi.2 hz),.inr (htl.2 htx)⟩]
           ((repeat' first|refine Y ?_|refine Y2 ?_ ?_|refine Y1 fun hh=>?_|exact Y0.mk);(all_goals(try conv=>whnf)))
           refine Sy.el_map _ hge ?_
           ((repeat' first|refine Y ?_|refine Y2 ?_ ?_|refine Y1 fun hh=>?_|exact Y0.mk);(all_goals(try conv=>whnf)))
           exact Sy.fin_val fun e=>congrArg Value.bool (beq_iff_eq.2 (by omega))
          ·rw[hno (fun h=>h.2.2.2.2.elim h7 fun e=>htx (htl.1 e))]
           ((repeat' first|refine Y ?_|refine Y2 ?_ ?_|refine Y1 fun hh=>?_|exact Y0.mk);(all_goals(try conv=>whnf)))
           refine Sy.el_map _ hge ?_
           ((repeat' first|refine Y ?_|refine Y2 ?_ ?_|refine Y1 fun hh=>?_|exact Y0.mk);(all_goals(try conv=>whnf)))
           exact Sy.fin_val fun e=>congrArg Value.bool (beq_eq_false_iff_ne.2 (by omega))
        ·rw[hno (fun h=>h.2.2.2.1.elim h1 fun e=>hz (hzi.1 e))]
         ((repeat' first|refine Y ?_|refine Y2 ?_ ?_|refine Y1 fun hh=>?_|exact Y0.mk);(all_goals(try conv=>whnf)))
         refine Sy.el_map _ hge ?_
         ((repeat' first|refine Y ?_|refine Y2 ?_ ?_|refine Y1 fun hh=>?_|exact Y0.mk);(all_goals(try conv=>whnf)))
         all_goals first|(exfalso;omega)|done
      ·rw[hno (fun h=>hrw (by rw[h.2.2.1 hkp];rfl))]
       ((repeat' first|refine Y ?_|refine Y2 ?_ ?_|refine Y1 fun hh=>?_|exact Y0.mk);(all_goals(try conv=>whnf)))
       refine Sy.el_map _ hge ?_
       ((repeat' first|refine Y ?_|refine Y2 ?_ ?_|refine Y1 fun hh=>?_|exact Y0.mk);(all_goals(try conv=>whnf)))
       all_goals done
    ·rw[hno (fun h=>hw h.1)]
     ((repeat' first|refine Y ?_|refine Y2 ?_ ?_|refine Y1 fun hh=>?_|exact Y0.mk);(all_goals(try conv=>whnf)))
     all_goals done
   ·rw[decide_eq_false (fits_none (by rw[hSo,List.getElem?_eq_none_iff,hol];omega))]
    refine Sy.draw_go [] (by kernel_rfl) ?_
    intro e0
    conv=>whnf
    refine zt 0 rfl ?_
    conv=>whnf
    refine zd1 [1] (zx rfl ?_ zy)
    conv=>whnf
    refine Sy.call_val (.c (.v (.bool true))) Tryz.call117 rfl (fun e a w' h=>by rw[hRB];exact _root_.Go.Proofs.YtgkkpefpbfadoaaGreat.right_any (e.rv 0) gl w' ⟨Sy.row_reads h (.inr rfl),fun p hp=>Sy.later_in h (hg.2 p hp)⟩) ?_
    conv=>whnf
    refine Yk ?_
    refine zt 2 rfl ?_
    ((repeat' first|refine Y ?_|refine Y2 ?_ ?_|refine Y1 fun hh=>?_|exact Y0.mk);(all_goals(try conv=>whnf)))
    refine zt 3 rfl ?_
    conv=>whnf
    refine zt 4 rfl ?_
    ((repeat' first|refine Y ?_|refine Y2 ?_ ?_|refine Y1 fun hh=>?_|exact Y0.mk);(all_goals(try conv=>whnf)))
    refine zd1 [5] (zx rfl ?_ zy)
    conv=>whnf
    (try(refine zA ?_;conv=>whnf))
    refine Sy.call_val (.c (.v (.bool true))) Tryz.call25 rfl (fun e a w' h=>by
     have:=right_any ⟨⟨op,idx,wid,fin,rows,o,txs⟩,e.rv 1,e.rv 2⟩ w' ⟨Sy.row_reads h (.inr rfl),Sy.row_reads h (.inr rfl)⟩
     rw[show SnV.sn ⟨⟨op,idx,wid,fin,rows,o,txs⟩,e.rv 1,e.rv 2⟩=S from hS.symm,decide_eq_true hrt] at this;exact this) ?_
    conv=>whnf
    refine Yk ?_
    refine zt 6 rfl ?_
    ((repeat' first|refine Y ?_|refine Y2 ?_ ?_|refine Y1 fun hh=>?_|exact Y0.mk);(all_goals(try conv=>whnf)))
    refine zt 7 rfl ?_
    ((repeat' first|refine Y ?_|refine Y2 ?_ ?_|refine Y1 fun hh=>?_|exact Y0.mk);(all_goals(try conv=>whnf)))
    refine zt 8 rfl ?_
    conv=>whnf
    refine zt 9 rfl ?_
    ((repeat' first|refine Y ?_|refine Y2 ?_ ?_|refine Y1 fun hh=>?_|exact Y0.mk);(all_goals(try conv=>whnf)))
    refine zt 10 rfl ?_
    ((repeat' first|refine Y ?_|refine Y2 ?_ ?_|refine Y1 fun hh=>?_|exact Y0.mk);(all_goals(try conv=>whnf)))
    refine zt 11 rfl ?_
    ((repeat' first|refine Y ?_|refine Y2 ?_ ?_|refine Y1 fun hh=>?_|exact Y0.mk);(all_goals(try conv=>whnf)))
    refine zt 12 rfl ?_
    ((repeat' first|refine Y ?_|refine Y2 ?_ ?_|refine Y1 fun hh=>?_|exact Y0.mk);(all_goals(try conv=>whnf)))
    refine zt 13 rfl ?_
    ((repeat' first|refine Y ?_|refine Y2 ?_ ?_|refine Y1 fun hh=>?_|exact Y0.mk);(all_goals(try conv=>whnf)))
    refine zt 14 rfl ?_
    ((repeat' first|refine Y ?_|refine Y2 ?_ ?_|refine Y1 fun hh=>?_|exact Y0.mk);(all_goals(try conv=>whnf)))
    refine zt 15 rfl ?_
    ((repeat' first|refine Y ?_|refine Y2 ?_ ?_|refine Y1 fun hh=>?_|exact Y0.mk);(all_goals(try conv=>whnf)))
    refine zt 16 rfl ?_
    conv=>whnf
    refine zt 17 rfl ?_
    ((repeat' first|refine Y ?_|refine Y2 ?_ ?_|refine Y1 fun hh=>?_|exact Y0.mk);(all_goals(try conv=>whnf)))
    refine zt 18 rfl ?_
    ((repeat' first|refine Y ?_|refine Y2 ?_ ?_|refine Y1 fun hh=>?_|exact Y0.mk);(all_goals(try conv=>whnf)))
    refine zt 19 rfl ?_
    ((repeat' first|refine Y ?_|refine Y2 ?_ ?_|refine Y1 fun hh=>?_|exact Y0.mk);(all_goals(try conv=>whnf)))
    refine zt 20 rfl ?_
    ((repeat' first|refine Y ?_|refine Y2 ?_ ?_|refine Y1 fun hh=>?_|exact Y0.mk);(all_goals(try conv=>whnf)))
    refine zt 21 rfl ?_
    ((repeat' first|refine Y ?_|refine Y2 ?_ ?_|refine Y1 fun hh=>?_|exact Y0.mk);(all_goals(try conv=>whnf)))
    refine zt 22 rfl ?_
    ((repeat' first|refine Y ?_|refine Y2 ?_ ?_|refine Y1 fun hh=>?_|exact Y0.mk);(all_goals(try conv=>whnf)))
    refine zt 23 rfl ?_
    ((repeat' first|refine Y ?_|refine Y2 ?_ ?_|refine Y1 fun hh=>?_|exact Y0.mk);(all_goals(try conv=>whnf)))
    refine zt 24 rfl ?_
    ((repeat' first|refine Y ?_|refine Y2 ?_ ?_|refine Y1 fun hh=>?_|exact Y0.mk);(all_goals(try conv=>whnf)))
    refine zt 25 rfl ?_
    ((repeat' first|refine Y ?_|refine Y2 ?_ ?_|refine Y1 fun hh=>?_|exact Y0.mk);(all_goals(try conv=>whnf)))
    refine zt 26 rfl ?_
    ((repeat' first|refine Y ?_|refine Y2 ?_ ?_|refine Y1 fun hh=>?_|exact Y0.mk);(all_goals(try conv=>whnf)))
    refine zt 27 rfl ?_
    ((repeat' first|refine Y ?_|refine Y2 ?_ ?_|refine Y1 fun hh=>?_|exact Y0.mk);(all_goals(try conv=>whnf)))
    refine zw ?_
    skip
    ((repeat' first|refine Y ?_|refine Y2 ?_ ?_|refine Y1 fun hh=>?_|exact Y0.mk);(all_goals(try conv=>whnf)))
    all_goals done
  ·rw[decide_eq_false (fun h=>hrt (by unfold fitsP at h;exact h.2.1))]
   refine Sy.draw_go [] (by kernel_rfl) ?_
   intro e0
   conv=>whnf
   refine zt 0 rfl ?_
   conv=>whnf
   refine zd1 [1] (zx rfl ?_ zy)
   conv=>whnf
   refine Sy.call_val (.c (.v (.bool true))) Tryz.call117 rfl (fun e a w' h=>by rw[hRB];exact _root_.Go.Proofs.YtgkkpefpbfadoaaGreat.right_any (e.rv 0) gl w' ⟨Sy.row_reads h (.inr rfl),fun p hp=>Sy.later_in h (hg.2 p hp)⟩) ?_
   conv=>whnf
   refine Yk ?_
   refine zt 2 rfl ?_
   ((repeat' first|refine Y ?_|refine Y2 ?_ ?_|refine Y1 fun hh=>?_|exact Y0.mk);(all_goals(try conv=>whnf)))
   refine zt 3 rfl ?_
   conv=>whnf
   refine zt 4 rfl ?_
   ((repeat' first|refine Y ?_|refine Y2 ?_ ?_|refine Y1 fun hh=>?_|exact Y0.mk);(all_goals(try conv=>whnf)))
   refine zd1 [5] (zx rfl ?_ zy)
   conv=>whnf
   (try(refine zA ?_;conv=>whnf))
   refine Sy.call_val (.c (.v (.bool false))) Tryz.call25 rfl (fun e a w' h=>by
    have:=right_any ⟨⟨op,idx,wid,fin,rows,o,txs⟩,e.rv 1,e.rv 2⟩ w' ⟨Sy.row_reads h (.inr rfl),Sy.row_reads h (.inr rfl)⟩
    rw[show SnV.sn ⟨⟨op,idx,wid,fin,rows,o,txs⟩,e.rv 1,e.rv 2⟩=S from hS.symm,decide_eq_false hrt] at this;exact this) ?_
   conv=>whnf
   refine Yk ?_
   refine zt 6 rfl ?_
   ((repeat' first|refine Y ?_|refine Y2 ?_ ?_|refine Y1 fun hh=>?_|exact Y0.mk);(all_goals(try conv=>whnf)))
   refine zt 7 rfl ?_
   ((repeat' first|refine Y ?_|refine Y2 ?_ ?_|refine Y1 fun hh=>?_|exact Y0.mk);(all_goals(try conv=>whnf)))
   refine zt 8 rfl ?_
   conv=>whnf
   refine zt 9 rfl ?_
   ((repeat' first|refine Y ?_|refine Y2 ?_ ?_|refine Y1 fun hh=>?_|exact Y0.mk);(all_goals(try conv=>whnf)))
   refine zt 10 rfl ?_
   ((repeat' first|refine Y ?_|refine Y2 ?_ ?_|refine Y1 fun hh=>?_|exact Y0.mk);(all_goals(try conv=>whnf)))
   refine zt 11 rfl ?_
   ((repeat' first|refine Y ?_|refine Y2 ?_ ?_|refine Y1 fun hh=>?_|exact Y0.mk);(all_goals(try conv=>whnf)))
   refine zt 12 rfl ?_
   ((repeat' first|refine Y ?_|refine Y2 ?_ ?_|refine Y1 fun hh=>?_|exact Y0.mk);(all_goals(try conv=>whnf)))
   refine zt 13 rfl ?_
   ((repeat' first|refine Y ?_|refine Y2 ?_ ?_|refine Y1 fun hh=>?_|exact Y0.mk);(all_goals(try conv=>whnf)))
   refine zt 14 rfl ?_
   ((repeat' first|refine Y ?_|refine Y2 ?_ ?_|refine Y1 fun hh=>?_|exact Y0.mk);(all_goals(try conv=>whnf)))
   refine zt 15 rfl ?_
   ((repeat' first|refine Y ?_|refine Y2 ?_ ?_|refine Y1 fun hh=>?_|exact Y0.mk);(all_goals(try conv=>whnf)))
   refine zt 16 rfl ?_
   conv=>whnf
   refine zt 17 rfl ?_
   ((repeat' first|refine Y ?_|refine Y2 ?_ ?_|refine Y1 fun hh=>?_|exact Y0.mk);(all_goals(try conv=>whnf)))
   refine zt 18 rfl ?_
   ((repeat' first|refine Y ?_|refine Y2 ?_ ?_|refine Y1 fun hh=>?_|exact Y0.mk);(all_goals(try conv=>whnf)))
   refine zt 19 rfl ?_
   ((repeat' first|refine Y ?_|refine Y2 ?_ ?_|refine Y1 fun hh=>?_|exact Y0.mk);(all_goals(try conv=>whnf)))
   refine zt 20 rfl ?_
   ((repeat' first|refine Y ?_|refine Y2 ?_ ?_|refine Y1 fun hh=>?_|exact Y0.mk);(all_goals(try conv=>whnf)))
   refine zt 21 rfl ?_
   ((repeat' first|refine Y ?_|refine Y2 ?_ ?_|refine Y1 fun hh=>?_|exact Y0.mk);(all_goals(try conv=>whnf)))
   refine zt 22 rfl ?_
   ((repeat' first|refine Y ?_|refine Y2 ?_ ?_|refine Y1 fun hh=>?_|exact Y0.mk);(all_goals(try conv=>whnf)))
   refine zt 23 rfl ?_
   ((repeat' first|refine Y ?_|refine Y2 ?_ ?_|refine Y1 fun hh=>?_|exact Y0.mk);(all_goals(try conv=>whnf)))
   refine zt 24 rfl ?_
   ((repeat' first|refine Y ?_|refine Y2 ?_ ?_|refine Y1 fun hh=>?_|exact Y0.mk);(all_goals(try conv=>whnf)))
   refine zt 25 rfl ?_
   ((repeat' first|refine Y ?_|refine Y2 ?_ ?_|refine Y1 fun hh=>?_|exact Y0.mk);(all_goals(try conv=>whnf)))
   refine zt 26 rfl ?_
   ((repeat' first|refine Y ?_|refine Y2 ?_ ?_|refine Y1 fun hh=>?_|exact Y0.mk);(all_goals(try conv=>whnf)))
   refine zt 27 rfl ?_
   ((repeat' first|refine Y ?_|refine Y2 ?_ ?_|refine Y1 fun hh=>?_|exact Y0.mk);(all_goals(try conv=>whnf)))
   refine zw ?_
   skip
   ((repeat' first|refine Y ?_|refine Y2 ?_ ?_|refine Y1 fun hh=>?_|exact Y0.mk);(all_goals(try conv=>whnf)))
   all_goals done
end
end Go.Proofs.YtgkkpefpbfadoaaGreat.Sn
