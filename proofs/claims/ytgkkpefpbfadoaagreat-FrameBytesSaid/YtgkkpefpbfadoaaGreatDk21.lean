/- Snap: groups and whose they are. -/
import Derived.Test.YtgkkpefpbfadoaaGreatDk9
import Derived.Test.YtgkkpefpbfadoaaGreatDk20
namespace Go.Proofs.YtgkkpefpbfadoaaGreat.Sn
open Go Go.RowKit
open Sy (C SV V1 Blk St XD Els)
set_option maxRecDepth 10000
theorem mod8 {k:Int}(_:0<=k):0<=k%8/\k%8<8:=⟨Int.emod_nonneg _ (by decide),Int.emod_lt_of_pos _ (by decide)⟩
theorem mine_any (s k v i n:Int)(w:World):Calls Tryz.prog 151 #[.agg #[.int .i64 s,.int .i64 k,.int .i64 v],.int .i64 i,.int .i64 n] w (Sy.Ret (.bool (decide (mineP s k i n))) w):=by
 refine Sy.calls_of Sy.lv151 Sy.tab_ok Tryz.func151 rfl _ Tryz.ntmps151 [] [.agg [.v (.int .i64 s),.v (.int .i64 k),.v (.int .i64 v)],.c (.v (.int .i64 i)),.c (.v (.int .i64 n))] rfl rfl rfl trivial (V ?_)
 refine Sy.call_in Sy.lv190 Sy.tab_ok Tryz.func190 rfl _ Tryz.ntmps190 Tryz.call190 rfl (fun _=>?_)
 refine V ?_
 refine Sy.call_val (.c (.v (.int .i64 (if recP s k then 0 else 150)))) Tryz.call187 rfl (fun e a w' h=>rec_any s k v w') ?_
 by_cases h1:recP s k
 ·have h1':=h1
  unfold recP at h1'
  have hm:=mod8 h1'.2.2.1
  rw[if_pos h1]
  refine V ?_
  refine Sy.rem_in (by omega) (by omega) (V ?_)
  refine Sy.call_val (.c (.v (.bool (decide (shareP i n))))) Tryz.call184 rfl (fun e a w' h=>share_any i n w') ?_
  by_cases h2:shareP i n
  ·have h2':=h2
   unfold shareP at h2'
   rw[decide_eq_true h2]
   refine V ?_
   refine Sy.call_val (.c (.v (.int .i64 (ownW (k%8) n)))) Tryz.call191 rfl (fun e a w' h=>owner_any (k%8) n w' hm (by omega)) (V ?_)
   exact Sy.fin_val (fun e=>congrArg Value.bool (by
    rw[Bool.eq_iff_iff,beq_iff_eq,decide_eq_true_iff]
    exact⟨fun h=>⟨h1,h2,h⟩,fun h=>h.2.2⟩))
  ·rw[decide_eq_false h2,decide_eq_false (fun h:mineP s k i n=>h2 h.2.1)]
   exact V0
   all_goals done
 ·rw[if_neg h1,decide_eq_false (fun h:mineP s k i n=>h1 h.1)]
  exact V0
  all_goals done
def ownF (i n:Int):List Int:=if shareP i n then ownL i n else[]
def ownE (i n:Int):Int:=if shareP i n then 0 else 2
attribute [local irreducible] ownW
set_option maxHeartbeats 2000000 in
theorem owned_any (i n:Int)(w:World):
 Calls Tryz.prog 147 #[.int .i64 i,.int .i64 n] w (Sy.RetRows Sy.noRow (fun _:Unit=>True) (fun _=>[⟨3,1,(ownF i n).length,(ownF i n).map encI⟩]) (fun _ vs=>.tuple #[vs.headD undef,.int .i64 (ownE i n)]) w):=by
 refine Sy.calls_of Sy.lv147 Sy.tab_ok Tryz.func147 rfl _ Tryz.ntmps147 [] [.c (.v (.int .i64 i)),.c (.v (.int .i64 n))] rfl rfl rfl trivial (V ?_)
 refine Sy.call_val (.c (.v (.bool (decide (shareP i n))))) Tryz.call184 rfl (fun e a w' h=>share_any i n w') ?_
 unfold ownF ownE
 by_cases h:shareP i n
 ·rw[if_pos h,if_pos h,decide_eq_true h]
  unfold shareP at h
  refine V ?_
  refine Sy.call_in Sy.lv186 Sy.tab_ok Tryz.func186 rfl _ Tryz.ntmps186 Tryz.call186 rfl (fun _=>?_)
  refine V ?_
  refine Sy.call_in Sy.lv185 Sy.tab_ok Tryz.func185 rfl _ Tryz.ntmps185 Tryz.call185 rfl (fun _=>?_)
  refine V ?_
  refine Sy.call_in Sy.lv207 Sy.tab_ok Tryz.func207 rfl _ Tryz.ntmps207 Tryz.call207 rfl (fun _=>?_)
  refine V ?_
  refine Sy.sem_subF (Sy.sub_rowc 3 0 3 1 rfl rfl) ?_
  conv=>whnf
  refine Sy.sem_range Sy.lv208 Sy.tab_ok _ rfl rfl Tryz.func208 rfl Tryz.ntmps208 Tryz.call208 rfl (fun _ _=>?_)
  refine V ?_
  refine Sy.loop_inv Sy.tab_ok (fun m:Nat=>[(5,.c (.v (.int .i64 m)))]) (fun m=>[(3,.cells 40 [.row 4]),(4,.row 3 1 (ownN i n m).length (.vs ((ownN i n m).map encI)))]) (fun m=>m<=8) (fun m=>8-m) 0 (Nat.zero_le _) ?_ (fun m hm=>?_)
  ·rw[show ownN i n 0=[] by rfl]
   exact Vs0
  ·have hl:=ownN_len i n m
   have hs:=ownN_succ i n m
   refine V (Vj (fun hh=>?_) fun hh=>?_)
   ·have hm8:m<8:=by omega
    by_cases h5:ownW m n=i
    ·have hb:(ownW m n==i)=true:=beq_iff_eq.2 h5
     rw[if_pos h5] at hs
     refine Sy.draw_go [3,4,5] (by kernel_rfl) ?_
     intro e0
     conv=>whnf
     refine zt 0 rfl ?_
     conv=>whnf
     refine zt 1 rfl ?_
     conv=>whnf
     refine zt 3 rfl ?_
     conv=>whnf
     refine zd1 [2] (zx rfl ?_ zy)
     conv=>whnf
     refine Sy.call_val (.c (.v (.int .i64 (ownW m n)))) Tryz.call191 rfl (fun e a w' _=>owner_any m n w' (by omega) (by omega)) ?_
     conv=>whnf
     refine Yk ?_
     refine zt 4 rfl (V ?_)
     refine zt 5 rfl ?_
     conv=>whnf
     refine zt 6 rfl (V ?_)
     refine zt 7 rfl (V ?_)
     refine zd1 [8] (zx rfl ?_ zy)
     conv=>whnf
     (try(refine zA ?_;conv=>whnf))
     refine Sy.yield_in Sy.tab_ok rfl rfl rfl rfl rfl (fun _=>?_)
     refine V ?_
     refine Sy.need_app 8 rfl ⟨by omega,by omega⟩ ?_
     conv=>whnf
     refine Yk ?_
     refine zt 9 rfl (V ?_)
     refine zt 10 rfl (V ?_)
     refine zw ?_
     skip
     refine V ?_
     refine⟨m+1,by omega,by omega,?_⟩
     rw[hs]
     refine Vs (Vk ?_ ?_)
     all_goals simp[encI]
    ·have hb:(ownW m n==i)=false:=beq_eq_false_iff_ne.2 h5
     rw[if_neg h5,List.append_nil] at hs
     refine Sy.draw_go [] (by kernel_rfl) ?_
     intro e0
     conv=>whnf
     refine zt 0 rfl ?_
     conv=>whnf
     refine zt 1 rfl ?_
     conv=>whnf
     refine zt 3 rfl ?_
     conv=>whnf
     refine zd1 [2] (zx rfl ?_ zy)
     conv=>whnf
     refine Sy.call_val (.c (.v (.int .i64 (ownW m n)))) Tryz.call191 rfl (fun e a w' _=>owner_any m n w' (by omega) (by omega)) ?_
     conv=>whnf
     refine Yk ?_
     refine zt 4 rfl (V ?_)
     refine zt 5 rfl ?_
     conv=>whnf
     refine zt 6 rfl (V ?_)
     refine zt 7 rfl (V ?_)
     refine zd1 [8] (zx rfl ?_ zy)
     conv=>whnf
     (try(refine zA ?_;conv=>whnf))
     refine Yk ?_
     refine zt 9 rfl (V ?_)
     refine zt 10 rfl (V ?_)
     refine zw ?_
     skip
     refine V ?_
     refine⟨m+1,by omega,by omega,?_⟩
     rw[hs]
     exact Vs0
   ·have e:m=8:=by omega
    subst e
    rw[show ownN i n 8=ownL i n from rfl]
    refine V ?_
    exact Sy.fin_r1 (.row 4) rfl
 ·rw[if_neg h,if_neg h,decide_eq_false h]
  refine V ?_
  exact Sy.fin_r1 (.v (.slice none 0 0)) ⟨rfl,rfl⟩
end Go.Proofs.YtgkkpefpbfadoaaGreat.Sn
namespace Go.Proofs.YtgkkpefpbfadoaaGreat.Sn
open Go Go.RowKit
open Sy (C SV V1 Blk St XD Els)
set_option maxRecDepth 10000
def chkE (s:Sn):Int:=if rightP s then 0 else 280
theorem chain_ok {α:Type}{ok:α->Bool}{lt:α->α->Bool}:∀{l:List α}{p:Option α},chain ok lt p l=true->∀x∈l,ok x=true
 |[],_,_,x,hx=>by cases hx
 |y::l,none,h,x,hx=>by
  simp only[chain,Bool.and_eq_true] at h
  rcases List.mem_cons.1 hx with rfl|hx
  ·exact h.1
  ·exact chain_ok h.2 x hx
 |y::l,some z,h,x,hx=>by
  simp only[chain,Bool.and_eq_true] at h
  rcases List.mem_cons.1 hx with rfl|hx
  ·exact h.1.1
  ·exact chain_ok h.2 x hx
theorem tbl_rec {l:List Kc}(h:tblB l=true){x:Kc}(hx:x∈l):recP x.src x.key:=(okK_rec (chain_ok h x hx)).1
attribute [local irreducible] ownW tblB namesB rightP
set_option maxHeartbeats 4000000 in
theorem check_any (s:SnV)(w:World)(hr:SOk (fun b=>b<w.heap.size) w s):Calls Tryz.prog 107 #[.agg (encS s).toArray] w (Sy.Ret (.int .i64 (chkE s.sn)) w):=by
 have hl1:=ok_len hr.rows
 have hl2:=ok_len hr.txs
 obtain⟨⟨op,idx,wid,fin,rows,o,txs⟩,u,t⟩:=s
 dsimp only at hl1 hl2
 refine Sy.calls_of Sy.lv107 Sy.tab_ok Tryz.func107 rfl _ Tryz.ntmps107 [⟨u,4,rows.length,rows.map encK⟩,⟨t,3,txs.length,txs.map encT⟩] [.agg [.v (.int .i64 op),.v (.int .i64 idx),.v (.int .i64 wid),.v (.bool fin),.row 0,.v (.int .i64 (o 0)),.v (.int .i64 (o 1)),.v (.int .i64 (o 2)),.v (.int .i64 (o 3)),.v (.int .i64 (o 4)),.v (.int .i64 (o 5)),.v (.int .i64 (o 6)),.v (.int .i64 (o 7)),.row 1]] rfl rfl rfl ⟨hr.rows,hr.txs,trivial⟩ (V ?_)
 refine Sy.call_r1 ⟨3,1,(ownF idx wid).length,(ownF idx wid).map encI⟩ (fun j=>.tup [.c (.row j),.c (.v (.int .i64 (ownE idx wid)))]) Tryz.call147 (fun e a w' h=>owned_any idx wid w') ?_
 by_cases hsh:shareP idx wid
 ·have hE:ownE idx wid=0:=if_pos hsh
  rw[hE]
  by_cases hop:0<=op/\op<8
  ·refine V (Y1 fun hh=>Y1 fun hh=>?_)
   refine Sy.call_val (.c (.v (.int .i64 (if tblB rows=true then 0 else 220)))) Tryz.call148 rfl (fun e a w' h=>tbl_any (e.rv 0) rows w' (Sy.row_reads h (.inr rfl))) ?_
   by_cases htb:tblB rows=true
   ·rw[if_pos htb]
    refine V ?_
    refine Sy.call_val (.c (.v (.bool (namesB txs)))) Tryz.call149 rfl (fun e a w' h=>named_any (e.rv 1) txs w' (Sy.row_reads h (.inr rfl))) ?_
    by_cases hnm:namesB txs=true
    ·rw[hnm]
     refine V ?_
     refine Sy.call_in Sy.lv152 Sy.tab_ok Tryz.func152 rfl _ Tryz.ntmps152 Tryz.call152 rfl (fun _=>?_)
     refine V ?_
     refine Sy.call_r1 ⟨3,1,(ownF idx wid).length,(ownF idx wid).map encI⟩ (fun j=>.tup [.c (.row j),.c (.v (.int .i64 (ownE idx wid)))]) Tryz.call147 (fun e a w' h=>owned_any idx wid w') ?_
     have hF:ownF idx wid=ownL idx wid:=if_pos hsh
     rw[hE,hF]
     have hol:=ownN_len idx wid 8
     have hol:(ownL idx wid).length<=8:=hol
     refine V ?_
     refine Sy.call_in Sy.lv192 Sy.tab_ok Tryz.func192 rfl _ Tryz.ntmps192 Tryz.call192 rfl (fun _=>?_)
     refine V ?_
     refine Sy.sem_range Sy.lv209 Sy.tab_ok _ rfl rfl Tryz.func209 rfl Tryz.ntmps209 Tryz.call209 rfl (fun _ _=>?_)
     refine V ?_
     refine Sy.loop_inv Sy.tab_ok (fun x:Nat×(Fin 8->Int)=>[(7,.c (.v (.int .i64 x.1)))]) (fun x=>[(6,.cells 36 [.v (.int .i64 (x.2 0)),.v (.int .i64 (x.2 1)),.v (.int .i64 (x.2 2)),.v (.int .i64 (x.2 3)),.v (.int .i64 (x.2 4)),.v (.int .i64 (x.2 5)),.v (.int .i64 (x.2 6)),.v (.int .i64 (x.2 7))])]) (fun x=>x.1<=(ownL idx wid).length/\overP (ownL idx wid) x.1 (fun _=>0) o x.2/\∀z∈(ownL idx wid).take x.1,0<=o (gI z)/\o (gI z)<=40) (fun x=>(ownL idx wid).length-x.1) (0,o) ⟨Nat.zero_le _,over_zero _ _ _,fun z hz=>by rw[List.take_zero] at hz;cases hz⟩ ?_ (fun x hx=>?_)
     ·exact Vs0
     ·obtain⟨j,r⟩:=x
      obtain⟨hj,hov,hbd⟩:=hx
      dsimp only at hj hov hbd⊢
      by_cases hlt:j<(ownL idx wid).length
      ·have hg:=List.getElem?_eq_getElem hlt
       generalize(ownL idx wid)[j]=x at *
       have hxm:=ownL_mem.1 (List.mem_of_getElem? hg)
       have hgv:=gI_val hxm.1
       have hst:=over_step hov hg hxm.1
       have hat:=over_at hov hg hxm.1 (ownL_nodup _ _)
       have htk:(ownL idx wid).take (j+1)=(ownL idx wid).take j++[x]:=by
        obtain⟨hj,he⟩:=List.getElem?_eq_some_iff.1 hg
        rw[List.take_succ_eq_append_getElem hj,he]
       have hown:=hxm.2
       generalize hgg:gI x=g at *
       have hgx:x=(g.val:Int):=hgv.symm
       clear hgv
       refine V (Y1 fun hh=>?_)
       refine Sy.el_map x hg (V ?_)
       by_cases hk:0<=r g/\r g<=40
       ·have hbd2:∀z∈(ownL idx wid).take (j+1),0<=o (gI z)/\o (gI z)<=40:=fun z hz=>by
         rw[htk] at hz
         rcases List.mem_append.1 hz with hz|hz
         ·exact hbd z hz
         ·rw[List.mem_singleton.1 hz,hgg,<-hat];exact hk
        clear hat htk hown hbd hov hgg
        induction g,x,hgx using fin8x
        all_goals
         refine Sy.yield_in Sy.tab_ok rfl rfl rfl rfl rfl (fun _=>?_)
         refine V (Y1 fun hh=>Y1 fun hh=>?_)
         refine⟨(j+1,_),⟨by dsimp only;omega,hst,hbd2⟩,by dsimp only;omega,?_⟩
         dsimp only
         exact Vs0
       ·have hno:chkE ⟨op,idx,wid,fin,rows,o,txs⟩=280:=if_neg fun h=>by
         unfold rightP at h
         have h6:=h.2.2.2.2.2 g
         rw[hat] at hk
         exact hk ⟨h6.1,h6.2.1⟩
        rw[hno]
        clear hno hat htk hown hbd hov hgg hst
        induction g,x,hgx using fin8x
        all_goals
         refine Sy.yield_in Sy.tab_ok rfl rfl rfl rfl rfl (fun _=>?_)
         exact V0
         all_goals done
      ·have e:j=(ownL idx wid).length:=by omega
       subst e
       rw[List.take_length] at hbd
       by_cases hz:r 0=0/\r 1=0/\r 2=0/\r 3=0/\r 4=0/\r 5=0/\r 6=0/\r 7=0
       ·obtain⟨z0,z1,z2,z3,z4,z5,z6,z7⟩:=hz
        refine V (Y1 fun hh=>?_)
        refine Sy.call_in Sy.lv153 Sy.tab_ok Tryz.func153 rfl _ Tryz.ntmps153 Tryz.call153 rfl (fun _=>?_)
        refine V ?_
        refine Sy.call_in Sy.lv193 Sy.tab_ok Tryz.func193 rfl _ Tryz.ntmps193 Tryz.call193 rfl (fun _=>?_)
        refine V ?_
        have hR:chkE ⟨op,idx,wid,fin,rows,o,txs⟩=if ∀x∈rows,ownW (x.key%8) wid=idx then 0 else 280:=by
         unfold chkE
         have key:∀g,r g=0:=fin8 z0 z1 z2 z3 z4 z5 z6 z7
         have hoff:∀g,offP idx wid o g:=fun g=>by
          by_cases hm:ownW (g.val:Int) wid=idx
          ·have hm2:=ownL_mem.2 ⟨(show(0:Int)<=(g.val:Int)/\(g.val:Int)<8 by omega),hm⟩
           have hb2:=hbd _ hm2
           have e:gI (g.val:Int)=g:=Fin.ext (by have:=gI_val (x:=(g.val:Int)) (by omega);omega)
           rw[e] at hb2
           exact⟨hb2.1,hb2.2,fun _=>hm⟩
          ·have hm2:(g.val:Int)∉(ownL idx wid).take (ownL idx wid).length:=fun h=>hm (by rw[List.take_length] at h;exact(ownL_mem.1 h).2)
           have h0:o g=0:=by rw[<-(hov g).2 hm2];exact key g
           exact⟨by omega,by omega,fun h=>absurd h0 h⟩
         by_cases ha:∀x∈rows,ownW (x.key%8) wid=idx
         ·rw[if_pos ha,if_pos]
          unfold rightP
          exact⟨hop,hsh,htb,hnm,ha,hoff⟩
         ·rw[if_neg ha,if_neg]
          intro h
          unfold rightP at h
          exact ha h.2.2.2.2.1
        refine Sy.loop_inv Sy.tab_ok (fun n:Nat=>[(8,.c (.v (.int .i64 n)))]) (fun _=>[]) (fun n=>n<=rows.length/\∀x∈rows.take n,ownW (x.key%8) wid=idx) (fun n=>rows.length-n) 0 ⟨Nat.zero_le _,fun x hx=>by rw[List.take_zero] at hx;cases hx⟩ ?_ (fun n hn=>?_)
        ·exact Vs0
        ·obtain⟨hn,ha⟩:=hn
         by_cases hlt:n<rows.length
         ·have hg:=List.getElem?_eq_getElem hlt
          have hsn:rows.take (n+1)=rows.take n++[rows[n]]:=List.take_succ_eq_append_getElem hlt
          have hxm:=List.getElem_mem hlt
          generalize rows[n]=x at *
          refine V (Y1 fun hh=>?_)
          refine Sy.el_map x hg (V ?_)
          refine Sy.call_in Sy.lv150 Sy.tab_ok Tryz.func150 rfl _ Tryz.ntmps150 Tryz.call150 rfl (fun _=>?_)
          refine V ?_
          refine Sy.call_val (.c (.v (.bool (decide (mineP x.src x.key idx wid))))) Tryz.call151 rfl (fun e a w' h=>mine_any x.src x.key 0 idx wid w') ?_
          by_cases hmn:ownW (x.key%8) wid=idx
          ·rw[decide_eq_true (show mineP x.src x.key idx wid from⟨tbl_rec htb hxm,hsh,hmn⟩)]
           refine V ?_
           refine⟨n+1,⟨by omega,fun y hy=>?_⟩,by omega,?_⟩
           ·rw[hsn] at hy
            rcases List.mem_append.1 hy with hy|hy
            ·exact ha y hy
            ·rw[List.mem_singleton.1 hy];exact hmn
           ·exact Vs0
          ·rw[decide_eq_false (fun h:mineP x.src x.key idx wid=>hmn h.2.2)]
           rw[hR,if_neg (fun h=>hmn (h x hxm))]
           exact V0
           all_goals done
         ·have e:n=rows.length:=by omega
          rw[e,List.take_length] at ha
          rw[hR,if_pos ha]
          exact V0
          all_goals done
       ·have hno:chkE ⟨op,idx,wid,fin,rows,o,txs⟩=280:=if_neg fun h=>by
         unfold rightP at h
         have key:∀g,r g=0:=fun g=>by
          by_cases hm:(g.val:Int)∈(ownL idx wid).take (ownL idx wid).length
          ·exact(hov g).1 hm
          ·rw[(hov g).2 hm]
           have h6:=h.2.2.2.2.2 g
           by_cases h7:o g=0
           ·exact h7
           ·exact absurd (by rw[List.take_length];exact ownL_mem.2 ⟨by omega,h6.2.2 h7⟩) hm
         exact hz ⟨key 0,key 1,key 2,key 3,key 4,key 5,key 6,key 7⟩
        rw[hno]
        exact V0
        all_goals(exfalso;omega)
    ·rw[chkE,if_neg (fun h=>by unfold rightP at h;exact hnm h.2.2.2.1),show namesB txs=false by simpa using hnm]
     exact V0
     all_goals done
   ·rw[if_neg htb,chkE,if_neg (fun h=>by unfold rightP at h;exact htb h.2.2.1)]
    exact V0
    all_goals done
  ·rw[chkE,if_neg (fun h=>hop (by unfold rightP at h;exact h.1))]
   exact V0
   all_goals done
 ·have hE:ownE idx wid=2:=if_neg hsh
  rw[hE,chkE,if_neg (fun h=>hsh (by unfold rightP at h;exact h.2.1))]
  exact V0
  all_goals done
end Go.Proofs.YtgkkpefpbfadoaaGreat.Sn
