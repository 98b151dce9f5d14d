/- Snap: bytes.Equal. -/
import Derived.Test.YtgkkpefpbfadoaaGreatDk12
import Derived.Test.YtgkkpefpbfadoaaGreatDk30
import Derived.Test.YtgkkpefpbfadoaaGreatDk9
import Derived.Test.YtgkkpefpbfadoaaGreatDk31
import Derived.Test.YtgkkpefpbfadoaaGreatDk28
namespace Go.Proofs.YtgkkpefpbfadoaaGreat.Sn
open Go Go.RowKit
open Sy (C SV V1 Blk St XD Els)
theorem encB_flat (xs:List Int):(xs.map encB).flatten=xs.map (Value.int .u8):=by
 induction xs with
 |nil=>rfl
 |cons x r ih=>simp[encB,ih]
theorem bytesIn_of {F:Nat->Prop}{w:World}{v:Value}{xs:List Int}(h:XD.ok F w ⟨v,1,xs.length,xs.map encB⟩):∃p c,v=.slice p xs.length c/\Lib.BytesIn w p xs.length xs:=by
 obtain⟨_,_,A,c,hv,_,_,h5⟩:=h.1
 refine⟨A,c,hv,fun hn=>?_⟩
 obtain⟨a,rfl,_,ha⟩:=h5 hn
 refine Lib.BytesIn.of_cells (fun i hi=>?_) hn
 refine ha i _ ?_
 show(xs.map encB).flatten[i]?=_
 rw[encB_flat,List.getElem?_map,List.getElem?_eq_getElem hi,List.getD,List.getElem?_eq_getElem hi]
 rfl
theorem bytesOf_inj:∀{xs ys:List Int},bytesOk xs->bytesOk ys->Lib.bytesOf xs=Lib.bytesOf ys->xs=ys
 |[],[],_,_,_=>rfl
 |[],y::ys,_,_,h=>by cases h
 |x::xs,[],_,_,h=>by cases h
 |x::xs,y::ys,hx,hy,h=>by
  unfold Lib.bytesOf at h
  rw[List.map_cons,List.map_cons] at h
  obtain⟨h1,h2⟩:=List.cons.inj h
  have hx0:=hx x List.mem_cons_self
  have hy0:=hy y List.mem_cons_self
  have h3:=congrArg UInt8.toNat h1
  rw[UInt8.toNat_ofNat',UInt8.toNat_ofNat'] at h3
  have e:x=y:=by omega
  rw[e,bytesOf_inj (fun z hz=>hx z (List.mem_cons_of_mem _ hz)) (fun z hz=>hy z (List.mem_cons_of_mem _ hz)) h2]
theorem bytesEq_any (v u:Value)(xs ys:List Int)(w:World)(hx:XD.ok (fun b=>b<w.heap.size) w ⟨v,1,xs.length,xs.map encB⟩)(hy:XD.ok (fun b=>b<w.heap.size) w ⟨u,1,ys.length,ys.map encB⟩)(h8:bytesOk xs)(h8':bytesOk ys):
 Calls Tryz.prog 53 #[v,u] w (Sy.Ret (.bool (decide (xs=ys))) w):=by
 obtain⟨p,c,rfl,h1⟩:=bytesIn_of hx
 obtain⟨q,d,rfl,h2⟩:=bytesIn_of hy
 have e:(Lib.bytesOf xs==Lib.bytesOf ys)=decide (xs=ys):=by
  rw[Bool.eq_iff_iff,beq_iff_eq,decide_eq_true_iff]
  exact⟨bytesOf_inj h8 h8',fun h=>by rw[h]⟩
 refine(Tryz.bytes_Equal_all p q _ c _ d xs ys w rfl rfl h1 h2).mono fun E w'⟨he,hw⟩=>?_
 subst hw
 rw[e] at he
 exact⟨he,Below.refl _ _⟩
end Go.Proofs.YtgkkpefpbfadoaaGreat.Sn
namespace Go.Proofs.YtgkkpefpbfadoaaGreat.Sn
open Go Go.RowKit
open Sy (C SV V1 Blk St XD Els yt yt1 yd1 yw)
set_option maxRecDepth 10000
theorem or_step (x c:Int)(hx:0<=x/\x<65536)(hc:0<=c/\c<256):IntKind.i64.wrap ((BitVec.ofInt IntKind.i64.bits (x*2^min 8 IntKind.i64.bits)|||BitVec.ofInt IntKind.i64.bits c).toNat:Int)=x*256+c:=by
 obtain⟨xn,rfl⟩:∃n:Nat,x=(n:Int):=⟨x.toNat,by omega⟩
 obtain⟨k,rfl⟩:∃k:Nat,c=(k:Int):=⟨c.toNat,by omega⟩
 have e1:(BitVec.ofInt IntKind.i64.bits ((xn:Int)*2^min 8 IntKind.i64.bits)).toNat=2^8*xn:=by
  show(BitVec.ofInt 64 ((xn:Int)*256)).toNat=256*xn
  rw[BitVec.toNat_ofInt]
  omega
 have e2:(BitVec.ofInt IntKind.i64.bits (k:Int)).toNat=k:=by
  show(BitVec.ofInt 64 (k:Int)).toNat=k
  rw[BitVec.toNat_ofInt]
  omega
 rw[BitVec.toNat_or,e1,e2,<-Nat.two_pow_add_eq_or_of_lt (by omega),IntKind.wrap_i64]
 omega
theorem oneB (l:List Int):∀c∈l.map encB,∀u∈c,u.oneCell'=true:=fun c hc u hu=>by
 obtain⟨x,_,rfl⟩:=List.mem_map.1 hc
 rw[List.mem_singleton.1 hu];rfl
theorem tenc_bad (v:Value)(l:List Kc)(w:World)(hr:XD.ok (fun b=>b<w.heap.size) w ⟨v,4,l.length,l.map encK⟩)(hl:¬tblB l=true):
 Calls Tryz.prog 197 #[.agg #[v]] w (Sy.Ret (.tuple #[.slice none 0 0,.int .i64 220]) w):=by
 refine Sy.calls_of Sy.lv197 Sy.tab_ok Tryz.func197 rfl _ Tryz.ntmps197 [⟨v,4,l.length,l.map encK⟩] [.agg [.row 0]] rfl rfl rfl ⟨hr,trivial⟩ (V ?_)
 refine Sy.call_val (.c (.v (.int .i64 220))) Tryz.call148 rfl (fun e a w' h=>by have:=tbl_any (e.rv 0) l w' (Sy.row_reads h (.inr rfl));rw[if_neg hl] at this;exact this) V0
 done
attribute [local irreducible] tblB ksOf cntAt
set_option maxHeartbeats 8000000 in
theorem tdec_any (v:Value)(b:List Int)(w:World)(hr:XD.ok (fun x=>x<w.heap.size) w ⟨v,1,b.length,b.map encB⟩)(h8:bytesOk b)(hb:b.length<=100000):
 Calls Tryz.prog 201 #[v] w (Sy.RetRows Sy.noRow (fun _:Unit=>True) (fun _=>[⟨122,4,(tdV b).length,(tdV b).map encK⟩]) (fun _ vs=>.tuple #[.agg #[vs.headD undef],.int .i64 (tdE b)]) w):=by
 refine Sy.calls_of Sy.lv201 Sy.tab_ok Tryz.func201 rfl _ Tryz.ntmps201 [⟨v,1,b.length,b.map encB⟩] [.c (.row 0)] rfl rfl rfl ⟨hr,trivial⟩ ?_
 have hbad:∀e,tdE b=e->e≠0->tdV b=[]:=fun e h1 h2=>if_neg (by rw[h1];exact h2)
 by_cases h2:b.length<2
 ·have hE:tdE b=7:=if_pos h2
  rw[hE,hbad 7 hE (by decide)]
  refine V (Y1 fun hh=>?_)
  exact Sy.fin_r1 (.v (.slice none 0 0)) ⟨rfl,rfl⟩ (fun e=>rfl)
 ·have hg0:=List.getElem?_eq_getElem (show 0<b.length by omega)
  have hg1:=List.getElem?_eq_getElem (show 1<b.length by omega)
  have hx:=h8 _ (List.getElem_mem (show 0<b.length by omega))
  have hy:=h8 _ (List.getElem_mem (show 1<b.length by omega))
  have hcn:=(cntAt_eq h8 0).1
  have hc16:=(cntAt_eq h8 0).2
  rw[numAt_two hg0 hg1] at hcn
  generalize b[0]=x at *
  generalize b[1]=y at *
  have hor:=or_step x y (by omega) hy
  rw[<-hcn] at hor
  obtain⟨n,hn⟩:∃n,n=cntAt b 0:=⟨_,rfl⟩
  rw[<-hn] at hor hcn hc16
  have hE':tdE b=if b.length<2+18*n then 7 else if tblB (ksOf b 2 n)=true/\b.length=2+18*n then 0 else 220:=by unfold tdE;rw[if_neg h2,<-hn]
  refine V (Y1 fun hh=>?_)
  refine Sy.draw_go [] (by kernel_rfl) ?_
  intro e0
  conv=>whnf
  refine zt 0 rfl ?_
  conv=>whnf
  refine zt 1 rfl (V ?_)
  refine zt 2 rfl ?_
  conv=>whnf
  refine Sy.el_map x hg0 ?_
  conv=>whnf
  refine zt 3 rfl (V ?_)
  refine zt 4 rfl (V ?_)
  refine Sy.sh_nat (y:=8) ?_
  (conv=>whnf);refine Sy.ar_in (by show _<=x*256/\x*256<=_;omega) ?_
  conv=>whnf
  refine zt 5 rfl ?_
  conv=>whnf
  refine zt 6 rfl (V ?_)
  refine zt 7 rfl ?_
  conv=>whnf
  refine Sy.el_map y hg1 ?_
  conv=>whnf
  refine zt 8 rfl (V ?_)
  refine zt 9 rfl (V ?_)
  refine zt 10 rfl ?_
  conv=>whnf
  refine zw ?_
  skip
  rw[hor]
  by_cases hs:b.length<2+18*n
  ·rw[if_pos hs] at hE'
   rw[hE',hbad 7 hE' (by decide)]
   refine V (Y1 fun hh=>?_)
   exact Sy.fin_r1 (.v (.slice none 0 0)) ⟨rfl,rfl⟩ (fun e=>rfl)
  ·rw[if_neg hs] at hE'
   refine V (Y1 fun hh=>?_)
   refine Sy.sli_eq 2 b.length rfl rfl ⟨by omega,by omega⟩ ?_
   have el:List.take (b.length-2) (List.drop 2 (b.map encB))=(b.drop 2).map encB:=by
    rw[<-List.map_drop,List.take_of_length_le (by rw[List.length_map,List.length_drop];exact Nat.le_refl _)]
   have ell:b.length-2=(b.drop 2).length:=by rw[List.length_drop]
   refine V ?_
   rw[el,ell]
   refine Sy.call_in Sy.lv77 Sy.tab_ok Tryz.func77 rfl _ Tryz.ntmps77 Tryz.call77 rfl (fun _=>?_)
   refine V ?_
   refine Sy.call_mem (fun(x:One) G w'=>XD.ok G w' ⟨x.v,1,(b.drop 2).length,(b.drop 2).map encB⟩) (fun x=>.c (.v x.v)) Tryz.call126 (fun x=>x.h) (fun x G G' w1 w2 h hG hk=>XD.ok.keep h hG hk) (fun e a w' h=>(mem_r1 0 (Nat.zero_le _) (cloneB_any (e.rv 2) (b.drop 2) w' (Sy.row_reads h (.inr rfl)) (by rw[List.length_drop];omega))).mono fun _ _⟨x,hE,hb,hx⟩=>⟨x,hE,hb,XD.ok.mono hx fun _ hb=>hb.1⟩) (fun x G=>?_)
   refine V ?_
   refine Sy.sem_subF (Sy.sub_open 3 0 1 (b.drop 2).length ((b.drop 2).map encB) rfl rfl (fun e a w' h=>(h.ev w' fun _ _=>rfl).2.1) (oneB _)) ?_
   conv=>whnf
   refine Sy.sem_subF (Sy.sub_rowc 4 0 122 4 rfl rfl) ?_
   conv=>whnf
   refine Sy.loop_inv Sy.tab_ok (fun i:Nat=>[(34,.c (.v (.int .i64 i)))]) (fun i=>[(3,.cells 161 [.row 5,.v (.int .i64 0)]),(5,.ext 1 (b.drop (2+18*i)).length (.vs ((b.drop (2+18*i)).map encB))),(4,.cells 34 [.row 6]),(6,.row 122 4 (ksOf b 2 i).length (.vs ((ksOf b 2 i).map encK)))]) (fun i=>i<=n) (fun i=>n-i) 0 (Nat.zero_le _) ?_ (fun i hi=>?_)
   ·rw[show ksOf b 2 0=[] by unfold ksOf;rfl]
    exact Vs0
   ·by_cases hlt:i<n
    ·obtain⟨l,hl⟩:∃l,l=b.drop (2+18*i):=⟨_,rfl⟩
     have hll:l.length=b.length-(2+18*i):=by rw[hl,List.length_drop]
     have hl18:18<=l.length:=by omega
     have l8:bytesOk l:=by rw[hl];exact h8.drop _
     rw[<-hl]
     obtain⟨l1,l1q⟩:∃l1,l1=l.drop 1:=⟨_,rfl⟩
     have l1l:l1.length=l.length-1:=by rw[l1q,List.length_drop]
     have l18:bytesOk l1:=by rw[l1q];exact l8.drop _
     obtain⟨l2,l2q⟩:∃l2,l2=l1.drop 1:=⟨_,rfl⟩
     have l2l:l2.length=l1.length-1:=by rw[l2q,List.length_drop]
     have l28:bytesOk l2:=by rw[l2q];exact l18.drop _
     obtain⟨l3,l3q⟩:∃l3,l3=l2.drop 8:=⟨_,rfl⟩
     have l3l:l3.length=l2.length-8:=by rw[l3q,List.length_drop]
     have l38:bytesOk l3:=by rw[l3q];exact l28.drop _
     obtain⟨l4,l4q⟩:∃l4,l4=l3.drop 8:=⟨_,rfl⟩
     have l4l:l4.length=l3.length-8:=by rw[l4q,List.length_drop]
     have l48:bytesOk l4:=by rw[l4q];exact l38.drop _
     have hk:ksOf b 2 (i+1)=ksOf b 2 i++[⟨num (l.take 1),num (l1.take 1),IntKind.i64.wrap (num (l2.take 8)),IntKind.i64.wrap (num (l3.take 8))⟩]:=by
      rw[ksOf_succ,<-hl,l3q,l2q,l1q,List.drop_drop,List.drop_drop];rfl
     have hl4:b.drop (2+18*(i+1))=l4:=by
      rw[l4q,l3q,l2q,l1q,hl,List.drop_drop,List.drop_drop,List.drop_drop,List.drop_drop]
      congr 1
     have lu:=u8_num l8
     have l1u:=u8_num l18
     replace l1q:=rest_of l1q
     replace l2q:=rest_of l2q
     replace l3q:=rest_of l3q
     replace l4q:=rest_of l4q
     have hkl:=ksOf_len b 2 i
     refine V (Y1 fun hh=>?_)
     refine Sy.drawB2_go [4] [3,6] [19] (by kernel_rfl) ?_
     intro e0
     conv=>whnf
     refine yt 0 rfl ?_
     conv=>whnf
     refine yt 1 rfl ?_
     conv=>whnf
     refine yt 2 rfl ?_
     conv=>whnf
     refine yt 5 rfl ?_
     conv=>whnf
     refine yt 8 rfl ?_
     conv=>whnf
     refine yt 11 rfl ?_
     conv=>whnf
     refine yd1 [3] (zx rfl ?_ zy)
     conv=>whnf
     refine Sy.call_in Sy.lv128 Sy.tab_ok Tryz.func128 rfl _ Tryz.ntmps128 Tryz.call128 rfl (fun _=>?_)
     refine V ?_
     refine Sy.call_in Sy.lv127 Sy.tab_ok Tryz.func127 rfl _ Tryz.ntmps127 Tryz.call127 rfl (fun _=>?_)
     refine V ?_
     refine Sy.div_in ⟨by decide,by decide⟩ (by decide) ?_
     rw[show(8:Int)/8=1 from rfl]
     refine V ?_
     refine Sy.call_in Sy.lv164 Sy.tab_ok Tryz.func164 rfl _ Tryz.ntmps164 Tryz.call164 rfl (fun _=>?_)
     refine V (Y1 fun hh=>?_)
     refine Sy.need_of ⟨by decide,by omega⟩ ?_
     conv=>whnf
     refine Sy.sli_eq 0 1 rfl rfl ⟨by decide,by omega⟩ (V ?_)
     refine Sy.call_own (view_does l 1 ⟨by decide,by omega⟩ l8) Tryz.call165 ?_
     refine Vl ?_
     intro _ _ _
     conv=>whnf
     refine V ?_
     refine Sy.sli_eq 1 l.length rfl rfl ⟨by omega,by omega⟩ ?_
     conv=>whnf
     rw[l1q.1,l1q.2]
     refine V ?_
     refine Sy.ar_wrap ?_
     rw[lu.1]
     refine V ?_
     refine Yk ?_
     refine yt 4 rfl (V ?_)
     refine yd1 [6] (zx rfl ?_ zy)
     conv=>whnf
     refine Sy.call_in Sy.lv128 Sy.tab_ok Tryz.func128 rfl _ Tryz.ntmps128 Tryz.call128 rfl (fun _=>?_)
     refine V ?_
     refine Sy.call_in Sy.lv127 Sy.tab_ok Tryz.func127 rfl _ Tryz.ntmps127 Tryz.call127 rfl (fun _=>?_)
     refine V ?_
     refine Sy.div_in ⟨by decide,by decide⟩ (by decide) ?_
     rw[show(8:Int)/8=1 from rfl]
     refine V ?_
     refine Sy.call_in Sy.lv164 Sy.tab_ok Tryz.func164 rfl _ Tryz.ntmps164 Tryz.call164 rfl (fun _=>?_)
     refine V (Y1 fun hh=>?_)
     refine Sy.need_of ⟨by decide,by omega⟩ ?_
     conv=>whnf
     refine Sy.sli_eq 0 1 rfl rfl ⟨by decide,by omega⟩ (V ?_)
     refine Sy.call_own (view_does l1 1 ⟨by decide,by omega⟩ l18) Tryz.call165 ?_
     refine Vl ?_
     intro _ _ _
     conv=>whnf
     refine V ?_
     refine Sy.sli_eq 1 l1.length rfl rfl ⟨by omega,by omega⟩ ?_
     conv=>whnf
     rw[l2q.1,l2q.2]
     refine V ?_
     refine Sy.ar_wrap ?_
     rw[l1u.1]
     refine V ?_
     refine Yk ?_
     refine yt 7 rfl (V ?_)
     refine yd1 [9] (zx rfl ?_ zy)
     conv=>whnf
     refine Sy.call_in Sy.lv81 Sy.tab_ok Tryz.func81 rfl _ Tryz.ntmps81 Tryz.call81 rfl (fun _=>?_)
     refine V ?_
     refine Sy.call_in Sy.lv127 Sy.tab_ok Tryz.func127 rfl _ Tryz.ntmps127 Tryz.call127 rfl (fun _=>?_)
     refine V ?_
     refine Sy.div_in ⟨by decide,by decide⟩ (by decide) ?_
     rw[show(64:Int)/8=8 from rfl]
     refine V ?_
     refine Sy.call_in Sy.lv164 Sy.tab_ok Tryz.func164 rfl _ Tryz.ntmps164 Tryz.call164 rfl (fun _=>?_)
     refine V (Y1 fun hh=>?_)
     refine Sy.need_of ⟨by decide,by omega⟩ ?_
     conv=>whnf
     refine Sy.sli_eq 0 8 rfl rfl ⟨by decide,by omega⟩ (V ?_)
     refine Sy.call_own (view_does l2 8 ⟨by decide,by omega⟩ l28) Tryz.call165 ?_
     refine Vl ?_
     intro _ _ _
     conv=>whnf
     refine V ?_
     refine Sy.sli_eq 8 l2.length rfl rfl ⟨by omega,by omega⟩ ?_
     conv=>whnf
     rw[l3q.1,l3q.2]
     refine V ?_
     refine Yk ?_
     refine yt 10 rfl (V ?_)
     refine Sy.ar_wrap ?_
     conv=>whnf
     refine yd1 [12] (zx rfl ?_ zy)
     conv=>whnf
     refine Sy.call_in Sy.lv81 Sy.tab_ok Tryz.func81 rfl _ Tryz.ntmps81 Tryz.call81 rfl (fun _=>?_)
     refine V ?_
     refine Sy.call_in Sy.lv127 Sy.tab_ok Tryz.func127 rfl _ Tryz.ntmps127 Tryz.call127 rfl (fun _=>?_)
     refine V ?_
     refine Sy.div_in ⟨by decide,by decide⟩ (by decide) ?_
     rw[show(64:Int)/8=8 from rfl]
     refine V ?_
     refine Sy.call_in Sy.lv164 Sy.tab_ok Tryz.func164 rfl _ Tryz.ntmps164 Tryz.call164 rfl (fun _=>?_)
     refine V (Y1 fun hh=>?_)
     refine Sy.need_of ⟨by decide,by omega⟩ ?_
     conv=>whnf
     refine Sy.sli_eq 0 8 rfl rfl ⟨by decide,by omega⟩ (V ?_)
     refine Sy.call_own (view_does l3 8 ⟨by decide,by omega⟩ l38) Tryz.call165 ?_
     refine Vl ?_
     intro _ _ _
     conv=>whnf
     refine V ?_
     refine Sy.sli_eq 8 l3.length rfl rfl ⟨by omega,by omega⟩ ?_
     conv=>whnf
     rw[l4q.1,l4q.2]
     refine V ?_
     refine Yk ?_
     refine yt 13 rfl (V ?_)
     refine Sy.ar_wrap ?_
     conv=>whnf
     refine yt 14 rfl ?_
     conv=>whnf
     refine yt 15 rfl ?_
     conv=>whnf
     refine yd1 [16] (zx rfl ?_ zy)
     conv=>whnf
     refine Yk ?_
     refine yd1 [17] (zx rfl ?_ zy)
     conv=>whnf
     refine Sy.need_app 32 rfl ⟨by omega,by omega⟩ ?_
     conv=>whnf
     refine Yk ?_
     refine yt 18 rfl ?_
     conv=>whnf
     refine yd1 [19] (zx rfl ?_ zy)
     conv=>whnf
     refine Yk ?_
     refine yw ?_
     skip
     refine V ?_
     refine⟨i+1,by omega,by omega,?_⟩
     rw[hk,hl4]
     refine Vs (Vk ?_ ?_)
     all_goals simp[encK]
    ·have e:i=n:=by omega
     rw[e]
     have hkl:=ksOf_len b 2 n
     have htb:=tBs_of h8 0 (by rw[<-hn];omega)
     rw[<-hn,List.drop_zero] at htb
     refine V (Y1 fun hh=>?_)
     by_cases ht:tblB (ksOf b 2 n)=true
     ·refine Sy.call_r1 (v:=fun _ vs=>.tuple #[vs.headD undef,.int .i64 0]) ⟨5,1,(tBs (ksOf b 2 n)).length,(tBs (ksOf b 2 n)).map encB⟩ (fun j=>.tup [.c (.row j),.c (.v (.int .i64 0))]) Tryz.call197 (fun e a w' h=>tenc_any (e.rv 6) (ksOf b 2 n) w' (Sy.row_reads h (.inl ⟨_,rfl⟩)) ht) (V ?_)
      have hb8:bytesOk (tBs (ksOf b 2 n)):=by rw[htb];exact h8.take _
      refine Sy.call_val (.c (.v (.bool (decide (tBs (ksOf b 2 n)=b))))) Tryz.call53 rfl (fun e a w' h=>bytesEq_any (e.rv 7) (e.rv 0) (tBs (ksOf b 2 n)) b w' (Sy.row_reads h (.inl ⟨_,rfl⟩)) (Sy.row_reads h (.inr rfl)) hb8 h8) ?_
      by_cases hq:b.length=2+18*n
      ·have hE:tdE b=0:=by rw[hE',if_pos ⟨ht,hq⟩]
       rw[hE,show tdV b=ksOf b 2 n by rw[hn];exact if_pos hE,decide_eq_true (show tBs (ksOf b 2 n)=b by rw[htb,List.take_of_length_le (by omega)])]
       refine V ?_
       exact Sy.fin_r1 (.row 6) rfl (fun e=>rfl)
      ·have hE:tdE b=220:=by rw[hE',if_neg fun h=>hq h.2]
       rw[hE,hbad 220 hE (by decide),decide_eq_false (show ¬tBs (ksOf b 2 n)=b by
        rw[htb]
        intro h
        have:=congrArg List.length h
        rw[List.length_take] at this
        omega)]
       refine V ?_
       exact Sy.fin_r1 (.v (.slice none 0 0)) ⟨rfl,rfl⟩ (fun e=>rfl)
     ·have hE:tdE b=220:=by rw[hE',if_neg fun h=>ht h.1]
      rw[hE,hbad 220 hE (by decide)]
      refine Sy.call_val (.tup [.c (.v (.slice none 0 0)),.c (.v (.int .i64 220))]) Tryz.call197 rfl (fun e a w' h=>tenc_bad (e.rv 6) (ksOf b 2 n) w' (Sy.row_reads h (.inl ⟨_,rfl⟩)) ht) (V ?_)
      exact Sy.fin_r1 (.v (.slice none 0 0)) ⟨rfl,rfl⟩ (fun e=>rfl)
end Go.Proofs.YtgkkpefpbfadoaaGreat.Sn
