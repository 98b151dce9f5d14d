/- Snap: the snapshot of bytes. -/
import Derived.Test.YtgkkpefpbfadoaaGreatDk9
import Derived.Test.YtgkkpefpbfadoaaGreatDk33
import Derived.Test.YtgkkpefpbfadoaaGreatDk12
import Derived.Test.YtgkkpefpbfadoaaGreatDk26
namespace Go.Proofs.YtgkkpefpbfadoaaGreat.Sn
open Go Go.RowKit
open Sy (C SV V1 Blk St XD Els yt yt1 yd1 yw)
set_option maxRecDepth 10000
theorem snOf_mk {b:List Int}{n m E:Nat}(hn:n=cntAt b 4)(hE:endS b=E)(hm:m=ntx b):snOf b=⟨numAt b 0 1,numAt b 1 1,numAt b 2 1,numAt b 3 1==1,ksOf b 6 n,fun g=>numAt b (E+g.val) 1,nsOf b (E+9) m⟩:=by
 subst hn hE hm;rfl
theorem chkE_pos {s:Sn}(h:rightP s):chkE s=0:=if_pos h
theorem chkE_neg {s:Sn}(h:¬rightP s):chkE s=280:=if_neg h
theorem encV_pos {s:Sn}(h:rightP s):encV s=sBs s:=if_pos h
theorem sdV_pos {b:List Int}(h:sdE b=0):sdV b=snOf b:=if_pos h
theorem sdV_neg {b:List Int}{e:Int}(h:sdE b=e)(he:e≠0):sdV b=sn0:=if_neg (by rw[h];exact he)
attribute [local irreducible] tblB ksOf nsOf cntAt numAt rightP tdE tdV snOf sBs encV chkE sdV
set_option maxHeartbeats 8000000 in
theorem sdec_any (v:Value)(b:List Int)(w:World)(hr:XD.ok (fun x=>x<w.heap.size) w ⟨v,1,b.length,b.map encB⟩)(b8:bytesOk b)(hb:b.length<=100000):
 Calls Tryz.prog 171 #[v] w (Sy.RetRows Sy.noRow (fun _:Unit=>True) (fun _=>[⟨122,4,(sdV b).rows.length,(sdV b).rows.map encK⟩,⟨88,3,(sdV b).txs.length,(sdV b).txs.map encT⟩]) (fun _ vs=>retS (sdV b) (sdE b) vs) w):=by
 refine Sy.calls_of Sy.lv171 Sy.tab_ok Tryz.func171 rfl _ Tryz.ntmps171 [⟨v,1,b.length,b.map encB⟩] [.c (.row 0)] rfl rfl rfl ⟨hr,trivial⟩ ?_
 have hbad:∀e,sdE b=e->e≠0->sdV b=sn0:=fun e h1 h2=>sdV_neg h1 h2
 by_cases h6:b.length<6
 ·have hE:sdE b=7:=if_pos h6
  rw[hE,hbad 7 hE (by decide)]
  refine V (Y1 fun hh=>?_)
  exact Sy.fin_r2 (.v (.slice none 0 0)) (.v (.slice none 0 0)) ⟨rfl,rfl⟩ ⟨rfl,rfl⟩ (by decide) (fun e=>rfl)
 ·have hg:∀i,i<b.length->b[i]?=some (numAt b i 1):=fun i h=>at_num h
  have hbd:∀i,0<=numAt b i 1/\numAt b i 1<256:=fun i=>numAt_bound b8 i 1
  have b0:=hbd 0
  have b1:=hbd 1
  have b2:=hbd 2
  have b3:=hbd 3
  have b4:=hbd 4
  have b5:=hbd 5
  obtain⟨n,hn⟩:∃n,n=cntAt b 4:=⟨_,rfl⟩
  have hn2:=cntAt_eq b8 4
  rw[<-hn] at hn2
  have hor:=or_step (numAt b 4 1) (numAt b 5 1) (by omega) b5
  rw[<-numAt_two (hg 4 (by omega)) (hg 5 (by omega)),<-hn2.1] at hor
  obtain⟨E,hEe⟩:∃E,E=6+18*n:=⟨_,rfl⟩
  have hEn:endS b=E:=by rw[hEe,hn];rfl
  have hEi:(6:Int)+18*(n:Int)=(E:Int):=by omega
  refine V (Y1 fun hh=>?_)
  refine Sy.draw_go [] (by kernel_rfl) ?_
  intro e0
  conv=>whnf
  refine zt 0 rfl ?_
  conv=>whnf
  refine zt 1 rfl (V ?_)
  refine zt 2 rfl ?_
  conv=>whnf
  refine Sy.el_map (numAt b 4 1) (hg 4 (by omega)) ?_
  conv=>whnf
  refine zt 3 rfl (V ?_)
  refine zt 4 rfl (V ?_)
  refine Sy.sh_nat (y:=8) ?_
  (conv=>whnf);refine Sy.ar_in (by show _<=numAt b 4 1*256/\numAt b 4 1*256<=_;omega) ?_
  conv=>whnf
  refine zt 5 rfl ?_
  conv=>whnf
  refine zt 6 rfl (V ?_)
  refine zt 7 rfl ?_
  conv=>whnf
  refine Sy.el_map (numAt b 5 1) (hg 5 (by omega)) ?_
  conv=>whnf
  refine zt 8 rfl (V ?_)
  refine zt 9 rfl (V ?_)
  rw[hor]
  conv=>whnf
  refine zt 10 rfl (V ?_)
  refine zt 11 rfl (V ?_)
  refine zt 12 rfl ?_
  conv=>whnf
  refine zw ?_
  skip
  rw[hEi]
  have hk:=hbd (E+8)
  have hkn:(ntx b:Int)=numAt b (E+8) 1:=by unfold ntx;rw[hEn];omega
  by_cases hs1:b.length<=E+8
  ·have hE:sdE b=7:=by unfold sdE;rw[if_neg h6,hEn,if_pos (.inl hs1)]
   rw[hE,hbad 7 hE (by decide)]
   refine V (Y1 fun hh=>?_)
   exact Sy.fin_r2 (.v (.slice none 0 0)) (.v (.slice none 0 0)) ⟨rfl,rfl⟩ ⟨rfl,rfl⟩ (by decide) (fun e=>rfl)
  ·by_cases hs2:b.length<E+9+9*ntx b
   ·have hE:sdE b=7:=by unfold sdE;rw[if_neg h6,hEn,if_pos (.inr hs2)]
    rw[hE,hbad 7 hE (by decide)]
    refine V (Y1 fun hh=>?_)
    refine Sy.el_map (numAt b (E+8) 1) (hg (E+8) (by omega)) (V (Y1 fun hh=>?_))
    exact Sy.fin_r2 (.v (.slice none 0 0)) (.v (.slice none 0 0)) ⟨rfl,rfl⟩ ⟨rfl,rfl⟩ (by decide) (fun e=>rfl)
   ·have hE':sdE b=if numAt b 3 1<=1/\b.length=E+9+9*ntx b/\rightP (snOf b) then 0 else 280:=by unfold sdE;rw[if_neg h6,hEn,if_neg (fun h=>h.elim hs1 hs2)]
    obtain⟨m,hm⟩:∃m,m=ntx b:=⟨_,rfl⟩
    rw[<-hm] at hE' hs2 hkn
    refine V (Y1 fun hh=>?_)
    refine Sy.el_map (numAt b (E+8) 1) (hg (E+8) (by omega)) (V (Y1 fun hh=>?_))
    refine Sy.draw_go [] (by kernel_rfl) ?_
    intro e0
    conv=>whnf
    refine zt 0 rfl ?_
    conv=>whnf
    refine zt 1 rfl (V ?_)
    refine zt 2 rfl ?_
    conv=>whnf
    refine Sy.el_map (numAt b 0 1) (hg 0 (by omega)) ?_
    conv=>whnf
    refine zt 3 rfl (V ?_)
    refine zt 4 rfl ?_
    conv=>whnf
    refine zt 5 rfl (V ?_)
    refine zt 6 rfl ?_
    conv=>whnf
    refine Sy.el_map (numAt b 1 1) (hg 1 (by omega)) ?_
    conv=>whnf
    refine zt 7 rfl (V ?_)
    refine zt 8 rfl ?_
    conv=>whnf
    refine zt 9 rfl (V ?_)
    refine zt 10 rfl ?_
    conv=>whnf
    refine Sy.el_map (numAt b 2 1) (hg 2 (by omega)) ?_
    conv=>whnf
    refine zt 11 rfl (V ?_)
    refine zt 12 rfl ?_
    conv=>whnf
    refine zt 13 rfl (V ?_)
    refine zt 14 rfl ?_
    conv=>whnf
    refine Sy.el_map (numAt b 3 1) (hg 3 (by omega)) ?_
    conv=>whnf
    refine zt 15 rfl (V ?_)
    refine zt 16 rfl ?_
    conv=>whnf
    refine zd1 [17] (zx rfl ?_ zy)
    conv=>whnf
    refine Yk ?_
    refine zd1 [18] (zx rfl ?_ zy)
    conv=>whnf
    refine Yk ?_
    refine zw ?_
    skip
    have hd:=td_slice (b:=b) (o:=4) hn (by omega)
    rw[show 4+2=6 from rfl] at hd
    obtain⟨d,hdd⟩:∃d,d=(b.drop 4).take (2+18*n):=⟨_,rfl⟩
    rw[<-hdd] at hd
    have hdl:d.length=E-4:=by rw[hdd,List.length_take,List.length_drop];omega
    have d8:bytesOk d:=by rw[hdd];exact(b8.drop _).take _
    have hdm:List.take (E-4) (List.drop 4 (b.map encB))=d.map encB:=by
     rw[hdd,<-List.map_drop,<-List.map_take]
     congr 2
     omega
    refine V ?_
    refine Sy.sli_eq 4 E rfl rfl ⟨by omega,by omega⟩ ?_
    conv=>whnf
    rw[hdm,<-hdl]
    refine Sy.call_r1 (v:=fun _ vs=>.tuple #[.agg #[vs.headD undef],.int .i64 (tdE d)]) ⟨122,4,(tdV d).length,(tdV d).map encK⟩ (fun j=>.tup [.agg [.row j],.c (.v (.int .i64 (tdE d)))]) Tryz.call201 (fun e a w' h=>tdec_any (e.rv 3) d w' (Sy.row_reads h (.inr rfl)) d8 (by omega)) ?_
    by_cases ht:tblB (ksOf b 6 n)=true
    ·rw[if_pos ht,if_pos ht] at hd
     rw[hd.1,hd.2]
     have hS:=snOf_mk hn hEn hm
     refine V ?_
     refine Sy.loop_inv Sy.tab_ok (fun x:Nat×(Fin 8->Int)=>[(79,.c (.v (.int .i64 x.1)))]) (fun x=>[(2,.cells 39 [.v (.int .i64 (numAt b 0 1)),.v (.int .i64 (numAt b 1 1)),.v (.int .i64 (numAt b 2 1)),.v (.bool (numAt b 3 1==1)),.row 4,.v (.int .i64 (x.2 0)),.v (.int .i64 (x.2 1)),.v (.int .i64 (x.2 2)),.v (.int .i64 (x.2 3)),.v (.int .i64 (x.2 4)),.v (.int .i64 (x.2 5)),.v (.int .i64 (x.2 6)),.v (.int .i64 (x.2 7)),.v (.slice none 0 0)])]) (fun x=>x.1<=8/\∀g:Fin 8,(g.val<x.1->x.2 g=numAt b (E+g.val) 1)/\(x.1<=g.val->x.2 g=0)) (fun x=>8-x.1) (0,fun _=>0) ⟨Nat.zero_le _,fun g=>⟨fun h=>absurd h (Nat.not_lt_zero _),fun _=>rfl⟩⟩ ?_ (fun x hx=>?_)
     ·exact Vs0
     ·obtain⟨i,r⟩:=x
      obtain⟨hi,hrr⟩:=hx
      dsimp only at hi hrr⊢
      by_cases hlt:i<8
      ·obtain⟨g,hgx⟩:∃g:Fin 8,(i:Int)=(g.val:Int):=⟨⟨i,hlt⟩,rfl⟩
       have hgm:g.val=i:=by omega
       have hbi:=hbd (E+i)
       have hnext:∀g':Fin 8,(g'.val<i+1->upd r g (numAt b (E+i) 1) g'=numAt b (E+g'.val) 1)/\(i+1<=g'.val->upd r g (numAt b (E+i) 1) g'=0):=fun g'=>by
        by_cases e:g'=g
        ·subst e
         rw[upd_same,<-hgm]
         exact⟨fun _=>rfl,fun h=>by omega⟩
        ·have hne:g'.val≠i:=fun h=>e (Fin.ext (by omega))
         rw[upd_other _ e]
         exact⟨fun h=>(hrr g').1 (by omega),fun h=>(hrr g').2 (by omega)⟩
       clear hrr
       refine V (Y1 fun hh=>?_)
       refine Sy.el_map (numAt b (E+i) 1) (hg (E+i) (by omega)) ?_
       generalize numAt b (E+i) 1=z at *
       have hm1:((i+1:Nat):Int)=(i:Int)+1:=by omega
       generalize hmx:(i:Int)=x at *
       induction g,x,hgx using fin8x
       all_goals
        refine V ?_
        refine⟨(i+1,_),⟨by dsimp only;omega,hnext⟩,by dsimp only;omega,?_⟩
        dsimp only
        rw[hm1]
        exact Vs0
      ·have e:i=8:=by omega
       subst e
       have hro:r=fun g=>numAt b (E+g.val) 1:=funext fun g=>(hrr g).1 g.isLt
       obtain⟨l0,l0q⟩:∃l0,l0=b.drop (E+9):=⟨_,rfl⟩
       have l0l:l0.length=b.length-(E+9):=by rw[l0q,List.length_drop]
       have l08:bytesOk l0:=by rw[l0q];exact b8.drop _
       have l0r:=rest_of l0q
       rw[<-hro] at hS
       refine V ?_
       refine Sy.sli_eq (E+9) b.length (by omega) rfl ⟨by omega,by omega⟩ ?_
       conv=>whnf
       rw[l0r.1,l0r.2]
       refine Sy.call_in Sy.lv77 Sy.tab_ok Tryz.func77 rfl _ Tryz.ntmps77 Tryz.call77 rfl (fun _=>?_)
       refine V ?_
       refine Sy.call_mem (fun(x:One) G w'=>XD.ok G w' ⟨x.v,1,l0.length,l0.map encB⟩) (fun x=>.c (.v x.v)) Tryz.call126 (fun x=>x.h) (fun x G G' w1 w2 h hG hk=>XD.ok.keep h hG hk) (fun e a w' h=>(mem_r1 0 (Nat.zero_le _) (cloneB_any (e.rv 6) l0 w' (Sy.row_reads h (.inr rfl)) (by omega))).mono fun _ _⟨x,hE,hb,hx⟩=>⟨x,hE,hb,XD.ok.mono hx fun _ hb=>hb.1⟩) (fun x G=>?_)
       refine V ?_
       refine Sy.el_map (numAt b (E+8) 1) (hg (E+8) (by omega)) ?_
       rw[<-hkn]
       refine V ?_
       refine Sy.sem_subF (Sy.sub_open 7 0 1 l0.length (l0.map encB) rfl rfl (fun e a w' h=>(h.ev w' fun _ _=>rfl).2.1) (oneB _)) ?_
       conv=>whnf
       refine Sy.sem_subF (Sy.sub_rowc 2 13 88 3 rfl rfl) ?_
       conv=>whnf
       refine Sy.loop_inv Sy.tab_ok (fun i:Nat=>[(102,.c (.v (.int .u8 i)))]) (fun i=>[(7,.cells 161 [.row 8,.v (.int .i64 0)]),(8,.ext 1 (b.drop (E+9+9*i)).length (.vs ((b.drop (E+9+9*i)).map encB))),(2,.cells 39 [.v (.int .i64 (numAt b 0 1)),.v (.int .i64 (numAt b 1 1)),.v (.int .i64 (numAt b 2 1)),.v (.bool (numAt b 3 1==1)),.row 4,.v (.int .i64 (r 0)),.v (.int .i64 (r 1)),.v (.int .i64 (r 2)),.v (.int .i64 (r 3)),.v (.int .i64 (r 4)),.v (.int .i64 (r 5)),.v (.int .i64 (r 6)),.v (.int .i64 (r 7)),.row 9]),(9,.row 88 3 (nsOf b (E+9) i).length (.vs ((nsOf b (E+9) i).map encT)))]) (fun i=>i<=m) (fun i=>m-i) 0 (Nat.zero_le _) ?_ (fun i hi=>?_)
       ·rw[show nsOf b (E+9) 0=[] by unfold nsOf;rfl,Nat.mul_zero,Nat.add_zero,<-l0q]
        exact Vs0
       ·by_cases hlt:i<m
        ·obtain⟨l,hl⟩:∃l,l=b.drop (E+9+9*i):=⟨_,rfl⟩
         have ll:l.length=b.length-(E+9+9*i):=by rw[hl,List.length_drop]
         have hl9:9<=l.length:=by omega
         have l8:bytesOk l:=by rw[hl];exact b8.drop _
         rw[<-hl]
         obtain⟨l1,l1q⟩:∃l1,l1=l.drop 1:=⟨_,rfl⟩
         have l1l:l1.length=l.length-1:=by rw[l1q,List.length_drop]
         have l18:bytesOk l1:=by rw[l1q];exact l8.drop _
         obtain⟨l2,l2q⟩:∃l2,l2=l1.drop 4:=⟨_,rfl⟩
         have l2l:l2.length=l1.length-4:=by rw[l2q,List.length_drop]
         have l28:bytesOk l2:=by rw[l2q];exact l18.drop _
         obtain⟨l3,l3q⟩:∃l3,l3=l2.drop 4:=⟨_,rfl⟩
         have l3l:l3.length=l2.length-4:=by rw[l3q,List.length_drop]
         have l38:bytesOk l3:=by rw[l3q];exact l28.drop _
         have hk2:nsOf b (E+9) (i+1)=nsOf b (E+9) i++[⟨num (l.take 1),num (l1.take 4),num (l2.take 4)⟩]:=by
          rw[nsOf_succ,<-hl,l2q,l1q,List.drop_drop];rfl
         have hl4:b.drop (E+9+9*(i+1))=l3:=by
          rw[l3q,l2q,l1q,hl,List.drop_drop,List.drop_drop,List.drop_drop]
          congr 1
         have lu:=u8_num l8
         have l1u:=u32_num l18
         have l2u:=u32_num l28
         replace l1q:=rest_of l1q
         replace l2q:=rest_of l2q
         replace l3q:=rest_of l3q
         have hkl:=nsOf_len b (E+9) i
         refine V (Y1 fun hh=>?_)
         refine Sy.drawB2_go [2] [7,9] [15] (by kernel_rfl) ?_
         intro e0
         conv=>whnf
         refine yt 0 rfl ?_
         conv=>whnf
         refine yt 1 rfl ?_
         conv=>whnf
         refine yt 2 rfl ?_
         conv=>whnf
         refine yt 5 rfl ?_
         conv=>whnf
         refine yt 8 rfl ?_
         conv=>whnf
         refine yd1 [3] (zx rfl ?_ zy)
         conv=>whnf
         refine Sy.call_in Sy.lv128 Sy.tab_ok Tryz.func128 rfl _ Tryz.ntmps128 Tryz.call128 rfl (fun _=>?_)
         refine V ?_
         refine Sy.call_in Sy.lv127 Sy.tab_ok Tryz.func127 rfl _ Tryz.ntmps127 Tryz.call127 rfl (fun _=>?_)
         refine V ?_
         refine Sy.div_in ⟨by decide,by decide⟩ (by decide) ?_
         rw[show(8:Int)/8=1 from rfl]
         refine V ?_
         refine Sy.call_in Sy.lv164 Sy.tab_ok Tryz.func164 rfl _ Tryz.ntmps164 Tryz.call164 rfl (fun _=>?_)
         refine V (Y1 fun hh=>?_)
         refine Sy.need_of ⟨by decide,by omega⟩ ?_
         conv=>whnf
         refine Sy.sli_eq 0 1 rfl rfl ⟨by decide,by omega⟩ (V ?_)
         refine Sy.call_own (view_does l 1 ⟨by decide,by omega⟩ l8) Tryz.call165 ?_
         refine Vl ?_
         intro _ _ _
         conv=>whnf
         refine V ?_
         refine Sy.sli_eq 1 l.length rfl rfl ⟨by omega,by omega⟩ ?_
         conv=>whnf
         rw[l1q.1,l1q.2]
         refine V ?_
         refine Sy.ar_wrap ?_
         rw[lu.1]
         refine V ?_
         refine Yk ?_
         refine yt 4 rfl (V ?_)
         refine yd1 [6] (zx rfl ?_ zy)
         conv=>whnf
         refine Sy.call_in Sy.lv78 Sy.tab_ok Tryz.func78 rfl _ Tryz.ntmps78 Tryz.call78 rfl (fun _=>?_)
         refine V ?_
         refine Sy.call_in Sy.lv127 Sy.tab_ok Tryz.func127 rfl _ Tryz.ntmps127 Tryz.call127 rfl (fun _=>?_)
         refine V ?_
         refine Sy.div_in ⟨by decide,by decide⟩ (by decide) ?_
         rw[show(32:Int)/8=4 from rfl]
         refine V ?_
         refine Sy.call_in Sy.lv164 Sy.tab_ok Tryz.func164 rfl _ Tryz.ntmps164 Tryz.call164 rfl (fun _=>?_)
         refine V (Y1 fun hh=>?_)
         refine Sy.need_of ⟨by decide,by omega⟩ ?_
         conv=>whnf
         refine Sy.sli_eq 0 4 rfl rfl ⟨by decide,by omega⟩ (V ?_)
         refine Sy.call_own (view_does l1 4 ⟨by decide,by omega⟩ l18) Tryz.call165 ?_
         refine Vl ?_
         intro _ _ _
         conv=>whnf
         refine V ?_
         refine Sy.sli_eq 4 l1.length rfl rfl ⟨by omega,by omega⟩ ?_
         conv=>whnf
         rw[l2q.1,l2q.2]
         refine V ?_
         refine Sy.ar_wrap ?_
         rw[l1u.1]
         refine V ?_
         refine Yk ?_
         refine yt 7 rfl (V ?_)
         refine yd1 [9] (zx rfl ?_ zy)
         conv=>whnf
         refine Sy.call_in Sy.lv78 Sy.tab_ok Tryz.func78 rfl _ Tryz.ntmps78 Tryz.call78 rfl (fun _=>?_)
         refine V ?_
         refine Sy.call_in Sy.lv127 Sy.tab_ok Tryz.func127 rfl _ Tryz.ntmps127 Tryz.call127 rfl (fun _=>?_)
         refine V ?_
         refine Sy.div_in ⟨by decide,by decide⟩ (by decide) ?_
         rw[show(32:Int)/8=4 from rfl]
         refine V ?_
         refine Sy.call_in Sy.lv164 Sy.tab_ok Tryz.func164 rfl _ Tryz.ntmps164 Tryz.call164 rfl (fun _=>?_)
         refine V (Y1 fun hh=>?_)
         refine Sy.need_of ⟨by decide,by omega⟩ ?_
         conv=>whnf
         refine Sy.sli_eq 0 4 rfl rfl ⟨by decide,by omega⟩ (V ?_)
         refine Sy.call_own (view_does l2 4 ⟨by decide,by omega⟩ l28) Tryz.call165 ?_
         refine Vl ?_
         intro _ _ _
         conv=>whnf
         refine V ?_
         refine Sy.sli_eq 4 l2.length rfl rfl ⟨by omega,by omega⟩ ?_
         conv=>whnf
         rw[l3q.1,l3q.2]
         refine V ?_
         refine Sy.ar_wrap ?_
         rw[l2u.1]
         refine V ?_
         refine Yk ?_
         refine yt 10 rfl (V ?_)
         refine yt 11 rfl ?_
         conv=>whnf
         refine yd1 [12] (zx rfl ?_ zy)
         conv=>whnf
         refine Yk ?_
         refine yd1 [13] (zx rfl ?_ zy)
         conv=>whnf
         refine Sy.need_app 24 rfl ⟨by omega,by omega⟩ ?_
         conv=>whnf
         refine Yk ?_
         refine yt 14 rfl ?_
         conv=>whnf
         refine yd1 [15] (zx rfl ?_ zy)
         conv=>whnf
         refine Yk ?_
         refine yw ?_
         skip
         refine V ?_
         refine Sy.ar_u8 (by omega) (V ?_)
         refine⟨i+1,by omega,by omega,?_⟩
         rw[hk2,hl4]
         refine Vs (Vk ?_ ?_)
         all_goals simp[encT]
        ·have e:i=m:=by omega
         rw[e]
         replace hS:=hS.symm
         refine V (Y1 fun hh=>?_)
         refine Sy.call_r1 (v:=fun _ vs=>.tuple #[vs.headD undef,.int .i64 (chkE (⟨numAt b 0 1,numAt b 1 1,numAt b 2 1,numAt b 3 1==1,ksOf b 6 n,r,nsOf b (E+9) m⟩:Sn))]) ⟨5,1,(encV (⟨numAt b 0 1,numAt b 1 1,numAt b 2 1,numAt b 3 1==1,ksOf b 6 n,r,nsOf b (E+9) m⟩:Sn)).length,(encV (⟨numAt b 0 1,numAt b 1 1,numAt b 2 1,numAt b 3 1==1,ksOf b 6 n,r,nsOf b (E+9) m⟩:Sn)).map encB⟩ (fun j=>.tup [.c (.row j),.c (.v (.int .i64 (chkE (⟨numAt b 0 1,numAt b 1 1,numAt b 2 1,numAt b 3 1==1,ksOf b 6 n,r,nsOf b (E+9) m⟩:Sn))))]) Tryz.call161 (fun e a w' h=>enc_any ⟨(⟨numAt b 0 1,numAt b 1 1,numAt b 2 1,numAt b 3 1==1,ksOf b 6 n,r,nsOf b (E+9) m⟩:Sn),e.rv 4,e.rv 9⟩ w' ⟨Sy.row_reads h (.inl ⟨_,rfl⟩),Sy.row_reads h (.inl ⟨_,rfl⟩)⟩) ?_
         rw[hS]
         by_cases hrt:rightP (snOf b)
         ·rw[chkE_pos hrt,encV_pos hrt]
          have hiff:=sBs_iff b8 (by omega) (by rw[hEn,<-hm];omega)
          rw[hEn,<-hm] at hiff
          have hs8:bytesOk (sBs (snOf b)):=by
           rw[sBs_of b8 (by omega) (by rw[hEn,<-hm];omega)]
           intro y hy
           rcases List.mem_append.1 hy with hy|hy
           ·rcases List.mem_append.1 hy with hy|hy
            ·exact b8.take _ y hy
            ·rw[List.mem_singleton.1 hy];split<;>omega
           ·exact(b8.drop _).take _ y hy
          refine V ?_
          refine Sy.call_val (.c (.v (.bool (decide (sBs (snOf b)=b))))) Tryz.call53 rfl (fun e a w' h=>bytesEq_any (e.rv 10) (e.rv 0) (sBs (snOf b)) b w' (Sy.row_reads h (.inl ⟨_,rfl⟩)) (Sy.row_reads h (.inr rfl)) hs8 b8) ?_
          by_cases hq:sBs (snOf b)=b
          ·have hE:sdE b=0:=by rw[hE',if_pos ⟨(hiff.1 hq).1,(hiff.1 hq).2,hrt⟩]
           rw[hE,sdV_pos hE,decide_eq_true hq,<-hS]
           refine V ?_
           exact Sy.fin_r2 (.row 4) (.row 9) rfl rfl (by decide) (fun e=>rfl)
          ·have hE:sdE b=280:=by rw[hE',if_neg fun h=>hq (hiff.2 ⟨h.1,h.2.1⟩)]
           rw[hE,hbad 280 hE (by decide),decide_eq_false hq]
           refine V ?_
           exact Sy.fin_r2 (.v (.slice none 0 0)) (.v (.slice none 0 0)) ⟨rfl,rfl⟩ ⟨rfl,rfl⟩ (by decide) (fun e=>rfl)
         ·have hE:sdE b=280:=by rw[hE',if_neg fun h=>hrt h.2.2]
          rw[hE,hbad 280 hE (by decide),chkE_neg hrt]
          refine V ?_
          exact Sy.fin_r2 (.v (.slice none 0 0)) (.v (.slice none 0 0)) ⟨rfl,rfl⟩ ⟨rfl,rfl⟩ (by decide) (fun e=>rfl)
    ·rw[if_neg ht,if_neg ht] at hd
     rw[hd.1,hd.2]
     have hE:sdE b=280:=by
      rw[hE',if_neg]
      intro h
      have h3:=h.2.2
      unfold rightP at h3
      rw[snOf_mk hn hEn hm] at h3
      exact ht h3.2.2.1
     rw[hE,hbad 280 hE (by decide)]
     refine V ?_
     exact Sy.fin_r2 (.v (.slice none 0 0)) (.v (.slice none 0 0)) ⟨rfl,rfl⟩ ⟨rfl,rfl⟩ (by decide) (fun e=>rfl)
end Go.Proofs.YtgkkpefpbfadoaaGreat.Sn
namespace Go.Proofs.YtgkkpefpbfadoaaGreat
open Go Go.RowKit
open Sy (C SV V1 Blk St XD Els)
theorem encB_flat (xs:List Int):(xs.map encB).flatten=xs.map (Value.int .u8):=by
 induction xs with
 |nil=>rfl
 |cons x r ih=>simp[encB,ih]
theorem bytesIn_of {F:Nat->Prop}{w:World}{v:Value}{xs:List Int}(h:XD.ok F w ⟨v,1,xs.length,xs.map encB⟩):∃p c,v=.slice p xs.length c/\Lib.BytesIn w p xs.length xs:=by
 obtain⟨h1,h2,A,c,hv,h3,h4,h5⟩:=h.1
 refine⟨A,c,hv,fun hn=>?_⟩
 obtain⟨a,rfl,_,ha⟩:=h5 hn
 refine Lib.BytesIn.of_cells (fun i hi=>?_) hn
 refine ha i _ ?_
 show(xs.map encB).flatten[i]?=_
 rw[encB_flat,List.getElem?_map,List.getElem?_eq_getElem hi,List.getD,List.getElem?_eq_getElem hi]
 rfl
theorem bytesEq_any (v u:Value)(xs ys:List Int)(w:World)(hx:XD.ok (fun b=>b<w.heap.size) w ⟨v,1,xs.length,xs.map encB⟩)(hy:XD.ok (fun b=>b<w.heap.size) w ⟨u,1,ys.length,ys.map encB⟩):
 Calls Tryz.prog 53 #[v,u] w (Sy.Ret (.bool (Lib.bytesOf xs==Lib.bytesOf ys)) w):=by
 obtain⟨p,c,rfl,h1⟩:=bytesIn_of hx
 obtain⟨q,d,rfl,h2⟩:=bytesIn_of hy
 exact(Tryz.bytes_Equal_all p q _ c _ d xs ys w rfl rfl h1 h2).mono fun E w'⟨he,hw⟩=>by subst hw;exact⟨he,Below.refl _ _⟩
end Go.Proofs.YtgkkpefpbfadoaaGreat
