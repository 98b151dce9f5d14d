/- Graph: Decode. -/
import Derived.Test.YtgkkpefpbfadoaaGreatDk9
import Derived.Test.YtgkkpefpbfadoaaGreatDk30
import Derived.Test.YtgkkpefpbfadoaaGreatDk34
namespace Go.Proofs.YtgkkpefpbfadoaaGreat
open Go Go.RowKit
open Sy (C SV V1 Blk St XD Els)
set_option maxRecDepth 10000
theorem or_step (x c:Int)(hc:0<=c/\c<256):IntKind.i64.wrap ((BitVec.ofInt 64 (IntKind.i64.wrap (x*256))|||BitVec.ofInt 64 c).toNat:Int)=IntKind.i64.wrap (x*256+c):=by
 obtain⟨k,rfl⟩:∃k:Nat,c=(k:Int):=⟨c.toNat,by omega⟩
 have hk:k<2^8:=by have:(2:Nat)^8=256:=rfl;omega
 rw[BitVec.toNat_or,BitVec.toNat_ofInt,BitVec.toNat_ofInt]
 obtain⟨y,hy⟩:∃y,IntKind.i64.wrap (x*256)=y:=⟨_,rfl⟩
 have hy2:=hy
 rw[IntKind.wrap_i64] at hy2
 obtain⟨q,hq⟩:∃q:Nat,(IntKind.i64.wrap (x*256)%((2^64:Nat):Int)).toNat=2^8*q:=by
  refine⟨((IntKind.i64.wrap (x*256)%((2^64:Nat):Int))/256).toNat,?_⟩
  rw[hy]
  show(y%18446744073709551616).toNat=256*((y%18446744073709551616)/256).toNat
  omega
 have h2:(((k:Nat):Int)%((2^64:Nat):Int)).toNat=k:=by
  show((k:Int)%18446744073709551616).toNat=k
  omega
 rw[h2,hq,<-Nat.two_pow_add_eq_or_of_lt hk,<-hq,hy]
 simp only[IntKind.wrap_i64]
 show _=_
 have e:(((y%((2^64:Nat):Int)).toNat+k:Nat):Int)=(y%18446744073709551616)+k:=by
  show(((y%18446744073709551616).toNat+k:Nat):Int)=_
  omega
 rw[e]
 omega
theorem numB_succ (l:List Int)(n:Nat)(h:n<l.length):numB (l.take (n+1))=IntKind.i64.wrap (numB (l.take n)*256+l[n]):=by
 rw[List.take_succ_eq_append_getElem h,numB_snoc]
attribute [local irreducible] gBs checkV parse numB
theorem numG_any (v:Value)(l:List Int)(w:World)(hr:XD.ok (fun b=>b<w.heap.size) w ⟨v,1,l.length,l.map encB⟩)(h8:∀b∈l,0<=b/\b<256):
 Calls Tryz.prog 167 #[v] w (Sy.Ret (.int .i64 (numB l)) w):=by
 have hl:=ok_len hr
 refine Sy.calls_of Sy.lv167 Sy.tab_ok Tryz.func167 rfl _ Tryz.ntmps167 [⟨v,1,l.length,l.map encB⟩] [.c (.row 0)] rfl rfl rfl ⟨hr,trivial⟩ (V ?_)
 refine Sy.loop_inv Sy.tab_ok (fun n:Nat=>[(7,.c (.v (.int .i64 n))),(2,.c (.v (.int .i64 (numB (l.take n)))))]) (fun _=>[]) (fun n=>n<=l.length) (fun n=>l.length-n) 0 (Nat.zero_le _) ?_ (fun n hn=>?_)
 ·rw[show numB (l.take 0)=0 by unfold numB;rfl]
  exact Vs0
 ·refine V (Vj (fun hh=>?_) fun hh=>?_)
  ·have hlt:n<l.length:=by omega
   have hg:=List.getElem?_eq_getElem hlt
   have hs:=numB_succ l n hlt
   have hb:=h8 _ (List.getElem_mem hlt)
   generalize l[n]=c at *
   refine Sy.el_map c hg (V ?_)
   refine Sy.sh_of (by decide) (V ?_)
   refine Sy.ar_wrap (V ?_)
   have ho:IntKind.i64.wrap ((BitVec.ofInt IntKind.i64.bits (IntKind.i64.wrap (numB (l.take n)*2^min (Int.toNat 8) IntKind.i64.bits))|||BitVec.ofInt IntKind.i64.bits c).toNat:Int)=numB (l.take (n+1)):=by rw[hs];exact or_step _ c hb
   rw[ho]
   refine⟨n+1,by omega,by omega,?_⟩
   exact Vs0
  ·have e:n=l.length:=by omega
   rw[e,List.take_length]
   exact Sy.fin_val (fun e=>rfl)
theorem number_at (v:Value)(n:Nat)(xs:List (List Value))(l:List Int)(w:World)(hn:n=l.length)(hx:xs=l.map encB)(hr:XD.ok (fun b=>b<w.heap.size) w ⟨v,1,n,xs⟩)(h8:∀b∈l,0<=b/\b<256):
 Calls Tryz.prog 167 #[v] w (Sy.Ret (.int .i64 (numB l)) w):=by
 subst hn;subst hx;exact numG_any v l w hr h8
def decC (bs:List Int):Sy.Ctr (List OpV):={avs:=[.c (.row 0)],n0:=1,H0:=[(0,.ext 1 bs.length (.vs (bs.map encB)))],p:=fun ls=>opsOf ls=(decV bs).1,sv:=fun _=>.tup [.agg [.row 1],.c (.v (.int .i64 (decV bs).2))],n1:=fun _=>2,H1:=fun ls=>[(1,.row 65 5 ls.length (.vs (ls.map encOV)))],learn:=true,q:=fun ls G w=>∀o∈ls,OOk G w o}
theorem parse_zero (l:List Int):parse 0 l=some ([],l):=by unfold parse;rfl
theorem parse_succ (n:Nat)(l:List Int):parse (n+1) l=(if l.length<19 then none else if l.length<19+inLen l then none else match parse n (l.drop (19+inLen l)) with
 |none=>none
 |some (os,r)=>some (opAt l::os,r)):=by rw[parse];rfl
def partly (c:Nat)(r0:List Int)(n:Nat)(os:List Opr)(l:List Int):Prop:=n<=c/\os.length=n/\(∃k,l=r0.drop k)/\parse c r0=(match parse (c-n) l with
 |none=>none
 |some (qs,r)=>some (os++qs,r))
theorem partly_start (c:Nat)(r0:List Int):partly c r0 0 [] r0:=⟨Nat.zero_le _,rfl,⟨0,rfl⟩,by
 rw[Nat.sub_zero]
 cases parse c r0 with
 |none=>rfl
 |some x=>rfl⟩
theorem partly_short {c:Nat}{r0:List Int}{n:Nat}{os:List Opr}{l:List Int}(h:partly c r0 n os l)(hn:n<c)(hl:l.length<19\/l.length<19+inLen l):parse c r0=none:=by
 rw[h.2.2.2,show c-n=(c-n-1)+1 by omega,parse_succ]
 by_cases h1:l.length<19
 ·rw[if_pos h1]
 ·rw[if_neg h1,if_pos (hl.resolve_left h1)]
theorem partly_succ {c:Nat}{r0:List Int}{n:Nat}{os:List Opr}{l:List Int}(h:partly c r0 n os l)(hn:n<c)(h1:¬l.length<19)(h2:¬l.length<19+inLen l):partly c r0 (n+1) (os++[opAt l]) (l.drop (19+inLen l)):=by
 obtain⟨k0,hk0⟩:=h.2.2.1
 refine⟨hn,by rw[List.length_append,h.2.1];rfl,⟨k0+(19+inLen l),by rw[hk0,List.drop_drop]⟩,?_⟩
 rw[h.2.2.2,show c-n=(c-(n+1))+1 by omega,parse_succ,if_neg h1,if_neg h2]
 cases parse (c-(n+1)) (l.drop (19+inLen l)) with
 |none=>rfl
 |some x=>simp
theorem partly_end {c:Nat}{r0:List Int}{os:List Opr}{l:List Int}(h:partly c r0 c os l):parse c r0=some (os,l):=by
 rw[h.2.2.2,Nat.sub_self,parse_zero]
 simp
set_option maxHeartbeats 8000000 in
theorem decode_does (bs:List Int)(hbs:bs.length<=100000)(h8:∀b∈bs,0<=b/\b<256):Sy.Does Tryz.prog 129 (decC bs):=by
 refine Sy.does_of Sy.lv129 Sy.tab_ok Tryz.func129 rfl _ Tryz.ntmps129 _ rfl rfl (fun e0 w hpre=>?_)
 refine Vo (Vj (fun hh=>?_) fun hh=>?_)
 ·obtain rfl:bs=[]:=List.length_eq_zero_iff.1 (by omega)
  refine Sy.fin_nilrow 65 5 (.tup [.agg [.row 2],.c (.v (.int .i64 7))]) (fun e he=>by show Value.tuple #[.agg #[e.rv 2],.int .i64 7]=_;rw[he];rfl) ?_
  conv=>whnf
  refine Sy.fin_own ([]:List OpV) rfl ?_ rfl (fun w' hw'=>⟨fun _=>False,fun _ h=>h.elim,fun o ho=>by cases ho⟩)
  exact Vs0
 ·obtain⟨c,r,rfl⟩:∃c r,bs=c::r:=by cases bs with
   |nil=>exact absurd rfl (by assumption)
   |cons c r=>exact⟨c,r,rfl⟩
  have hc8:=h8 c (by simp)
  refine Sy.el_map c rfl ?_
  by_cases h9:8<c
  ·refine Vo ?_
   refine Sy.fin_nilrow 65 5 (.tup [.agg [.row 2],.c (.v (.int .i64 160))]) (fun e he=>by show Value.tuple #[.agg #[e.rv 2],.int .i64 160]=_;rw[he];rfl) ?_
   conv=>whnf
   have hd:decV (c::r)=([],160):=by rw[decV_cons,if_pos h9]
   refine Sy.fin_own ([]:List OpV) (by show _=(decV (c::r)).1;rw[hd];rfl) ?_ rfl (fun w' hw'=>⟨fun _=>False,fun _ h=>h.elim,fun o ho=>by cases ho⟩)
   show Sy.finGo _ _ _ (.tup [.agg [.row 1],.c (.v (.int .i64 (decV (c::r)).2))]) _ _
   rw[hd]
   exact Vs0
  ·refine Vo ?_
   refine Sy.sli_eq 1 (r.length+1) rfl (by simp) ⟨by omega,by simp⟩ ?_
   have el:r.length+1-1=r.length:=rfl
   have ex:List.take (r.length+1-1) (List.drop 1 ((c::r).map encB))=r.map encB:=by
    show List.take r.length (r.map encB)=_
    rw[List.take_of_length_le (by simp)]
   refine Vo ?_
   rw[ex,el]
   refine Sy.el_map c rfl (Vo ?_)
   refine Sy.sem_subF (Sy.sub_rowc 2 0 65 5 rfl rfl) ?_
   conv=>whnf
   have hrb:r.length<=100000:=by simp at hbs;omega
   have hr8:∀b∈r,0<=b/\b<256:=fun b hb=>h8 b (by simp[hb])
   obtain⟨cn,rfl⟩:∃cn:Nat,c=(cn:Int):=⟨c.toNat,by omega⟩
   obtain⟨fz,hfz⟩:∃fz,fz=Sy.frz e0 (decC ((cn:Int)::r)).H0 w:=⟨_,rfl⟩
   refine Sy.loop_ends Sy.tab_ok (fun x:Nat×List OpV×List Int×(Nat->Prop)×(World->Prop)=>[(28,.c (.v (.int .u8 x.1)))]) (fun x=>[(2,.cells 25 [.row 5]),(5,.row 65 5 x.2.1.length (.vs (x.2.1.map encOV))),(4,.cells 52 [.row 3]),(3,.ext 1 x.2.2.1.length (.vs (x.2.2.1.map encB)))]) (fun x=>x.2.2.2.1) (fun x=>x.2.2.2.2)
    (fun x=>partly cn r x.1 (opsOf x.2.1) x.2.2.1/\(∀b,fz b->x.2.2.2.1 b)/\∀w',x.2.2.2.2 w'->∀o∈x.2.1,OOk (fun b=>x.2.2.2.1 b/\¬fz b) w' o) (fun x=>cn-x.1) (0,[],r,fz,fun _=>True)
    ⟨partly_start cn r,fun _ h=>h,fun _ _ o ho=>by cases ho⟩ ?_ (fun x hx=>?_)
   ·rw[hfz]
    exact Vs0
   ·obtain⟨n,ls,l,F,E⟩:=x
    obtain⟨hp,hF,hE⟩:=hx
    dsimp only at hp hF hE⊢
    obtain⟨k0,hk0⟩:=hp.2.2.1
    have hl8:∀b∈l,0<=b/\b<256:=fun b hb=>hr8 b (by rw[hk0] at hb;exact List.mem_of_mem_drop hb)
    have hll:l.length<=r.length:=by rw[hk0,List.length_drop];omega
    have hnc:=hp.1
    have hnl:=hp.2.1
    rw[opsOf_len] at hnl
    refine Vd (Vj (fun hh=>?_) fun hh=>?_)
    ·have hlt:n<cn:=by omega
     refine Sy.call_in Sy.lv166 Sy.tab_ok Tryz.func166 rfl _ Tryz.ntmps166 Tryz.call166 rfl (fun _=>?_)
     by_cases h19:l.length<19
     ·have h19':(l.length:Int)<19:=by omega
      refine V ?_
      refine Sy.fin_nilrow 65 5 (.tup [.agg [.row 6],.c (.v (.int .i64 7))]) (fun e he=>by show Value.tuple #[.agg #[e.rv 6],.int .i64 7]=_;rw[he];rfl) ?_
      conv=>whnf
      have hd:decV ((cn:Int)::r)=([],7):=by rw[decV_cons,if_neg h9,Int.toNat_natCast,partly_short hp hlt (.inl h19)]
      refine Sy.fin_own ([]:List OpV) (by show _=(decV ((cn:Int)::r)).1;rw[hd];rfl) ?_ rfl (fun w' hw'=>⟨fun _=>False,fun _ h=>h.elim,fun o ho=>by cases ho⟩)
      show Sy.finGo _ _ _ (.tup [.agg [.row 1],.c (.v (.int .i64 (decV ((cn:Int)::r)).2))]) _ _
      rw[hd]
      exact Vs0
     ·have h19':¬(l.length:Int)<19:=by omega
      refine Vo ?_
      refine Sy.sli_eq 0 19 rfl rfl ⟨by omega,by omega⟩ (Vo ?_)
      refine Sy.sli_eq 19 l.length rfl rfl ⟨by omega,by omega⟩ (Vo ?_)
      have e7:List.take (l.length-19) (List.drop 19 (l.map encB))=(l.drop 19).map encB:=by rw[<-List.map_drop,List.take_of_length_le (by simp)]
      have e6:List.take (19-0) (List.drop 0 (l.map encB))=(l.take 19).map encB:=by rw[List.drop_zero,<-List.map_take]
      have l7:l.length-19=(l.drop 19).length:=by rw[List.length_drop]
      rw[e7,e6,l7]
      have t19:∀i,i<19->(l.take 19)[i]?=l[i]?:=fun i hi=>List.getElem?_take_of_lt hi
      obtain⟨x0,hx0⟩:∃x,l[0]?=some x:=⟨_,List.getElem?_eq_getElem (by omega)⟩
      obtain⟨x1,hx1⟩:∃x,l[1]?=some x:=⟨_,List.getElem?_eq_getElem (by omega)⟩
      obtain⟨x18,hx18⟩:∃x,l[18]?=some x:=⟨_,List.getElem?_eq_getElem (by omega)⟩
      have hb0:=hl8 x0 (List.mem_of_getElem? hx0)
      have hb1:=hl8 x1 (List.mem_of_getElem? hx1)
      have hb18:=hl8 x18 (List.mem_of_getElem? hx18)
      have ea:List.take (10-2) (List.drop 2 ((l.take 19).map encB))=((l.drop 2).take 8).map encB:=by rw[<-List.map_drop,<-List.map_take,List.drop_take,List.take_take];rfl
      have eb:List.take (18-10) (List.drop 10 ((l.take 19).map encB))=((l.drop 10).take 8).map encB:=by rw[<-List.map_drop,<-List.map_take,List.drop_take,List.take_take];rfl
      have la:10-2=((l.drop 2).take 8).length:=by rw[List.length_take,List.length_drop];omega
      have lb:18-10=((l.drop 10).take 8).length:=by rw[List.length_take,List.length_drop];omega
      have m8:∀k,∀b∈(l.drop k).take 8,0<=b/\b<256:=fun k b hb=>hl8 b (List.mem_of_mem_drop (List.mem_of_mem_take hb))
      refine Sy.meetL (ι:=Unit) (fun _=>[.cells 65 [.v (.int .i64 x0),.v (.int .i64 x1),.v (.slice none 0 0),.v (.int .i64 (numB ((l.drop 2).take 8))),.v (.int .i64 (numB ((l.drop 10).take 8)))]]) (fun _=>[(8,.c (.loc 8 0))]) (fun _=>[]) (fun _=>F) (fun _=>E) (fun _=>True) Sy.tab_ok ?_ (fun _ _=>?_)
      ·
       refine Sy.draw_go [] (by kernel_rfl) ?_
       intro e0
       conv=>whnf
       refine zt 0 rfl ?_
       conv=>whnf
       refine zt 1 rfl (V ?_)
       refine zt 2 rfl ?_
       conv=>whnf
       refine Sy.el_map x0 ((t19 0 (by omega)).trans hx0) ?_
       conv=>whnf
       conv=>whnf
       refine zt 3 rfl (V ?_)
       refine zt 4 rfl ?_
       conv=>whnf
       refine zt 5 rfl (V ?_)
       refine zt 6 rfl ?_
       conv=>whnf
       refine Sy.el_map x1 ((t19 1 (by omega)).trans hx1) ?_
       conv=>whnf
       conv=>whnf
       refine zt 7 rfl (V ?_)
       refine zt 8 rfl ?_
       conv=>whnf
       refine zt 11 rfl ?_
       conv=>whnf
       focus
        refine zd1 [9,12,15] (zx rfl ?_ (zx rfl ?_ (zx rfl ?_ zy)))
        focus
         conv=>whnf
         refine Sy.sli_eq 2 10 rfl rfl ⟨by omega,by omega⟩ ?_
         conv=>whnf
         refine Yk ?_
         focus
          refine zd1 [10,12,15] (zx rfl ?_ (zx rfl ?_ (zx rfl ?_ zy)))
          focus
           conv=>whnf
           refine Sy.call_val (.c (.v (.int .i64 (numB ((l.drop 2).take 8))))) Tryz.call167 rfl (fun e a w' h=>number_at _ _ _ _ w' la ea (Sy.row_reads h (.inr rfl)) (m8 2)) ?_
           conv=>whnf
           refine Yk ?_
           focus
            refine zd1 [12,15] (zx rfl ?_ (zx rfl ?_ zy))
            focus
             conv=>whnf
             refine Sy.sli_eq 10 18 rfl rfl ⟨by omega,by omega⟩ ?_
             conv=>whnf
             refine Yk ?_
             focus
              refine zd1 [13,15] (zx rfl ?_ (zx rfl ?_ zy))
              focus
               conv=>whnf
               refine Sy.call_val (.c (.v (.int .i64 (numB ((l.drop 10).take 8))))) Tryz.call167 rfl (fun e a w' h=>number_at _ _ _ _ w' lb eb (Sy.row_reads h (.inr rfl)) (m8 10)) ?_
               conv=>whnf
               refine Yk ?_
               refine zt 14 rfl ?_
               conv=>whnf
               refine zd1 [15] (zx rfl ?_ zy)
               conv=>whnf
               refine Yk ?_
               refine zd1 [16] (zx rfl ?_ zy)
               conv=>whnf
               refine Yk ?_
               refine zw ?_
               refine⟨(),trivial,?_⟩
               exact Vs0
              rotate_right
              focus
               conv=>whnf
               refine Yk ?_
               refine zd1 [13] (zx rfl ?_ zy)
               conv=>whnf
               refine Sy.call_val (.c (.v (.int .i64 (numB ((l.drop 10).take 8))))) Tryz.call167 rfl (fun e a w' h=>number_at _ _ _ _ w' lb eb (Sy.row_reads h (.inr rfl)) (m8 10)) ?_
               conv=>whnf
               refine Yk ?_
               refine zt 14 rfl ?_
               conv=>whnf
               refine zd1 [16] (zx rfl ?_ zy)
               conv=>whnf
               refine Yk ?_
               refine zw ?_
               refine⟨(),trivial,?_⟩
               exact Vs0
            rotate_right
            focus
             conv=>whnf
             refine Yk ?_
             refine zd1 [12] (zx rfl ?_ zy)
             conv=>whnf
             refine Sy.sli_eq 10 18 rfl rfl ⟨by omega,by omega⟩ ?_
             conv=>whnf
             refine Yk ?_
             refine zd1 [13] (zx rfl ?_ zy)
             conv=>whnf
             refine Sy.call_val (.c (.v (.int .i64 (numB ((l.drop 10).take 8))))) Tryz.call167 rfl (fun e a w' h=>number_at _ _ _ _ w' lb eb (Sy.row_reads h (.inr rfl)) (m8 10)) ?_
             conv=>whnf
             refine Yk ?_
             refine zt 14 rfl ?_
             conv=>whnf
             refine zd1 [16] (zx rfl ?_ zy)
             conv=>whnf
             refine Yk ?_
             refine zw ?_
             refine⟨(),trivial,?_⟩
             exact Vs0
          rotate_right
          focus
           conv=>whnf
           refine Yk ?_
           focus
            refine zd1 [10,12] (zx rfl ?_ (zx rfl ?_ zy))
            focus
             conv=>whnf
             refine Sy.call_val (.c (.v (.int .i64 (numB ((l.drop 2).take 8))))) Tryz.call167 rfl (fun e a w' h=>number_at _ _ _ _ w' la ea (Sy.row_reads h (.inr rfl)) (m8 2)) ?_
             conv=>whnf
             refine Yk ?_
             refine zd1 [12] (zx rfl ?_ zy)
             conv=>whnf
             refine Sy.sli_eq 10 18 rfl rfl ⟨by omega,by omega⟩ ?_
             conv=>whnf
             refine Yk ?_
             refine zd1 [13] (zx rfl ?_ zy)
             conv=>whnf
             refine Sy.call_val (.c (.v (.int .i64 (numB ((l.drop 10).take 8))))) Tryz.call167 rfl (fun e a w' h=>number_at _ _ _ _ w' lb eb (Sy.row_reads h (.inr rfl)) (m8 10)) ?_
             conv=>whnf
             refine Yk ?_
             refine zt 14 rfl ?_
             conv=>whnf
             refine zd1 [16] (zx rfl ?_ zy)
             conv=>whnf
             refine Yk ?_
             refine zw ?_
             refine⟨(),trivial,?_⟩
             exact Vs0
            rotate_right
            focus
             conv=>whnf
             refine Sy.sli_eq 10 18 rfl rfl ⟨by omega,by omega⟩ ?_
             conv=>whnf
             refine Yk ?_
             refine zd1 [10] (zx rfl ?_ zy)
             conv=>whnf
             refine Sy.call_val (.c (.v (.int .i64 (numB ((l.drop 2).take 8))))) Tryz.call167 rfl (fun e a w' h=>number_at _ _ _ _ w' la ea (Sy.row_reads h (.inr rfl)) (m8 2)) ?_
             conv=>whnf
             refine Yk ?_
             refine zd1 [13] (zx rfl ?_ zy)
             conv=>whnf
             refine Sy.call_val (.c (.v (.int .i64 (numB ((l.drop 10).take 8))))) Tryz.call167 rfl (fun e a w' h=>number_at _ _ _ _ w' lb eb (Sy.row_reads h (.inr rfl)) (m8 10)) ?_
             conv=>whnf
             refine Yk ?_
             refine zt 14 rfl ?_
             conv=>whnf
             refine zd1 [16] (zx rfl ?_ zy)
             conv=>whnf
             refine Yk ?_
             refine zw ?_
             refine⟨(),trivial,?_⟩
             exact Vs0
          rotate_right
          focus
           conv=>whnf
           refine Sy.sli_eq 10 18 rfl rfl ⟨by omega,by omega⟩ ?_
           conv=>whnf
           refine Yk ?_
           focus
            refine zd1 [10,15] (zx rfl ?_ (zx rfl ?_ zy))
            focus
             conv=>whnf
             refine Sy.call_val (.c (.v (.int .i64 (numB ((l.drop 2).take 8))))) Tryz.call167 rfl (fun e a w' h=>number_at _ _ _ _ w' la ea (Sy.row_reads h (.inr rfl)) (m8 2)) ?_
             conv=>whnf
             refine Yk ?_
             focus
              refine zd1 [13,15] (zx rfl ?_ (zx rfl ?_ zy))
              focus
               conv=>whnf
               refine Sy.call_val (.c (.v (.int .i64 (numB ((l.drop 10).take 8))))) Tryz.call167 rfl (fun e a w' h=>number_at _ _ _ _ w' lb eb (Sy.row_reads h (.inr rfl)) (m8 10)) ?_
               conv=>whnf
               refine Yk ?_
               refine zt 14 rfl ?_
               conv=>whnf
               refine zd1 [15] (zx rfl ?_ zy)
               conv=>whnf
               refine Yk ?_
               refine zd1 [16] (zx rfl ?_ zy)
               conv=>whnf
               refine Yk ?_
               refine zw ?_
               refine⟨(),trivial,?_⟩
               exact Vs0
              rotate_right
              focus
               conv=>whnf
               refine Yk ?_
               refine zd1 [13] (zx rfl ?_ zy)
               conv=>whnf
               refine Sy.call_val (.c (.v (.int .i64 (numB ((l.drop 10).take 8))))) Tryz.call167 rfl (fun e a w' h=>number_at _ _ _ _ w' lb eb (Sy.row_reads h (.inr rfl)) (m8 10)) ?_
               conv=>whnf
               refine Yk ?_
               refine zt 14 rfl ?_
               conv=>whnf
               refine zd1 [16] (zx rfl ?_ zy)
               conv=>whnf
               refine Yk ?_
               refine zw ?_
               refine⟨(),trivial,?_⟩
               exact Vs0
            rotate_right
            focus
             conv=>whnf
             refine Yk ?_
             refine zd1 [10] (zx rfl ?_ zy)
             conv=>whnf
             refine Sy.call_val (.c (.v (.int .i64 (numB ((l.drop 2).take 8))))) Tryz.call167 rfl (fun e a w' h=>number_at _ _ _ _ w' la ea (Sy.row_reads h (.inr rfl)) (m8 2)) ?_
             conv=>whnf
             refine Yk ?_
             refine zd1 [13] (zx rfl ?_ zy)
             conv=>whnf
             refine Sy.call_val (.c (.v (.int .i64 (numB ((l.drop 10).take 8))))) Tryz.call167 rfl (fun e a w' h=>number_at _ _ _ _ w' lb eb (Sy.row_reads h (.inr rfl)) (m8 10)) ?_
             conv=>whnf
             refine Yk ?_
             refine zt 14 rfl ?_
             conv=>whnf
             refine zd1 [16] (zx rfl ?_ zy)
             conv=>whnf
             refine Yk ?_
             refine zw ?_
             refine⟨(),trivial,?_⟩
             exact Vs0
        rotate_right
        focus
         conv=>whnf
         refine Yk ?_
         focus
          refine zd1 [9,12] (zx rfl ?_ (zx rfl ?_ zy))
          focus
           conv=>whnf
           refine Sy.sli_eq 2 10 rfl rfl ⟨by omega,by omega⟩ ?_
           conv=>whnf
           refine Yk ?_
           focus
            refine zd1 [10,12] (zx rfl ?_ (zx rfl ?_ zy))
            focus
             conv=>whnf
             refine Sy.call_val (.c (.v (.int .i64 (numB ((l.drop 2).take 8))))) Tryz.call167 rfl (fun e a w' h=>number_at _ _ _ _ w' la ea (Sy.row_reads h (.inr rfl)) (m8 2)) ?_
             conv=>whnf
             refine Yk ?_
             refine zd1 [12] (zx rfl ?_ zy)
             conv=>whnf
             refine Sy.sli_eq 10 18 rfl rfl ⟨by omega,by omega⟩ ?_
             conv=>whnf
             refine Yk ?_
             refine zd1 [13] (zx rfl ?_ zy)
             conv=>whnf
             refine Sy.call_val (.c (.v (.int .i64 (numB ((l.drop 10).take 8))))) Tryz.call167 rfl (fun e a w' h=>number_at _ _ _ _ w' lb eb (Sy.row_reads h (.inr rfl)) (m8 10)) ?_
             conv=>whnf
             refine Yk ?_
             refine zt 14 rfl ?_
             conv=>whnf
             refine zd1 [16] (zx rfl ?_ zy)
             conv=>whnf
             refine Yk ?_
             refine zw ?_
             refine⟨(),trivial,?_⟩
             exact Vs0
            rotate_right
            focus
             conv=>whnf
             refine Sy.sli_eq 10 18 rfl rfl ⟨by omega,by omega⟩ ?_
             conv=>whnf
             refine Yk ?_
             refine zd1 [10] (zx rfl ?_ zy)
             conv=>whnf
             refine Sy.call_val (.c (.v (.int .i64 (numB ((l.drop 2).take 8))))) Tryz.call167 rfl (fun e a w' h=>number_at _ _ _ _ w' la ea (Sy.row_reads h (.inr rfl)) (m8 2)) ?_
             conv=>whnf
             refine Yk ?_
             refine zd1 [13] (zx rfl ?_ zy)
             conv=>whnf
             refine Sy.call_val (.c (.v (.int .i64 (numB ((l.drop 10).take 8))))) Tryz.call167 rfl (fun e a w' h=>number_at _ _ _ _ w' lb eb (Sy.row_reads h (.inr rfl)) (m8 10)) ?_
             conv=>whnf
             refine Yk ?_
             refine zt 14 rfl ?_
             conv=>whnf
             refine zd1 [16] (zx rfl ?_ zy)
             conv=>whnf
             refine Yk ?_
             refine zw ?_
             refine⟨(),trivial,?_⟩
             exact Vs0
          rotate_right
          focus
           conv=>whnf
           refine Sy.sli_eq 10 18 rfl rfl ⟨by omega,by omega⟩ ?_
           conv=>whnf
           refine Yk ?_
           refine zd1 [9] (zx rfl ?_ zy)
           conv=>whnf
           refine Sy.sli_eq 2 10 rfl rfl ⟨by omega,by omega⟩ ?_
           conv=>whnf
           refine Yk ?_
           refine zd1 [10] (zx rfl ?_ zy)
           conv=>whnf
           refine Sy.call_val (.c (.v (.int .i64 (numB ((l.drop 2).take 8))))) Tryz.call167 rfl (fun e a w' h=>number_at _ _ _ _ w' la ea (Sy.row_reads h (.inr rfl)) (m8 2)) ?_
           conv=>whnf
           refine Yk ?_
           refine zd1 [13] (zx rfl ?_ zy)
           conv=>whnf
           refine Sy.call_val (.c (.v (.int .i64 (numB ((l.drop 10).take 8))))) Tryz.call167 rfl (fun e a w' h=>number_at _ _ _ _ w' lb eb (Sy.row_reads h (.inr rfl)) (m8 10)) ?_
           conv=>whnf
           refine Yk ?_
           refine zt 14 rfl ?_
           conv=>whnf
           refine zd1 [16] (zx rfl ?_ zy)
           conv=>whnf
           refine Yk ?_
           refine zw ?_
           refine⟨(),trivial,?_⟩
           exact Vs0
        rotate_right
        focus
         conv=>whnf
         refine Sy.sli_eq 10 18 rfl rfl ⟨by omega,by omega⟩ ?_
         conv=>whnf
         refine Yk ?_
         focus
          refine zd1 [9,15] (zx rfl ?_ (zx rfl ?_ zy))
          focus
           conv=>whnf
           refine Sy.sli_eq 2 10 rfl rfl ⟨by omega,by omega⟩ ?_
           conv=>whnf
           refine Yk ?_
           focus
            refine zd1 [10,15] (zx rfl ?_ (zx rfl ?_ zy))
            focus
             conv=>whnf
             refine Sy.call_val (.c (.v (.int .i64 (numB ((l.drop 2).take 8))))) Tryz.call167 rfl (fun e a w' h=>number_at _ _ _ _ w' la ea (Sy.row_reads h (.inr rfl)) (m8 2)) ?_
             conv=>whnf
             refine Yk ?_
             focus
              refine zd1 [13,15] (zx rfl ?_ (zx rfl ?_ zy))
              focus
               conv=>whnf
               refine Sy.call_val (.c (.v (.int .i64 (numB ((l.drop 10).take 8))))) Tryz.call167 rfl (fun e a w' h=>number_at _ _ _ _ w' lb eb (Sy.row_reads h (.inr rfl)) (m8 10)) ?_
               conv=>whnf
               refine Yk ?_
               refine zt 14 rfl ?_
               conv=>whnf
               refine zd1 [15] (zx rfl ?_ zy)
               conv=>whnf
               refine Yk ?_
               refine zd1 [16] (zx rfl ?_ zy)
               conv=>whnf
               refine Yk ?_
               refine zw ?_
               refine⟨(),trivial,?_⟩
               exact Vs0
              rotate_right
              focus
               conv=>whnf
               refine Yk ?_
               refine zd1 [13] (zx rfl ?_ zy)
               conv=>whnf
               refine Sy.call_val (.c (.v (.int .i64 (numB ((l.drop 10).take 8))))) Tryz.call167 rfl (fun e a w' h=>number_at _ _ _ _ w' lb eb (Sy.row_reads h (.inr rfl)) (m8 10)) ?_
               conv=>whnf
               refine Yk ?_
               refine zt 14 rfl ?_
               conv=>whnf
               refine zd1 [16] (zx rfl ?_ zy)
               conv=>whnf
               refine Yk ?_
               refine zw ?_
               refine⟨(),trivial,?_⟩
               exact Vs0
            rotate_right
            focus
             conv=>whnf
             refine Yk ?_
             refine zd1 [10] (zx rfl ?_ zy)
             conv=>whnf
             refine Sy.call_val (.c (.v (.int .i64 (numB ((l.drop 2).take 8))))) Tryz.call167 rfl (fun e a w' h=>number_at _ _ _ _ w' la ea (Sy.row_reads h (.inr rfl)) (m8 2)) ?_
             conv=>whnf
             refine Yk ?_
             refine zd1 [13] (zx rfl ?_ zy)
             conv=>whnf
             refine Sy.call_val (.c (.v (.int .i64 (numB ((l.drop 10).take 8))))) Tryz.call167 rfl (fun e a w' h=>number_at _ _ _ _ w' lb eb (Sy.row_reads h (.inr rfl)) (m8 10)) ?_
             conv=>whnf
             refine Yk ?_
             refine zt 14 rfl ?_
             conv=>whnf
             refine zd1 [16] (zx rfl ?_ zy)
             conv=>whnf
             refine Yk ?_
             refine zw ?_
             refine⟨(),trivial,?_⟩
             exact Vs0
          rotate_right
          focus
           conv=>whnf
           refine Yk ?_
           refine zd1 [9] (zx rfl ?_ zy)
           conv=>whnf
           refine Sy.sli_eq 2 10 rfl rfl ⟨by omega,by omega⟩ ?_
           conv=>whnf
           refine Yk ?_
           refine zd1 [10] (zx rfl ?_ zy)
           conv=>whnf
           refine Sy.call_val (.c (.v (.int .i64 (numB ((l.drop 2).take 8))))) Tryz.call167 rfl (fun e a w' h=>number_at _ _ _ _ w' la ea (Sy.row_reads h (.inr rfl)) (m8 2)) ?_
           conv=>whnf
           refine Yk ?_
           refine zd1 [13] (zx rfl ?_ zy)
           conv=>whnf
           refine Sy.call_val (.c (.v (.int .i64 (numB ((l.drop 10).take 8))))) Tryz.call167 rfl (fun e a w' h=>number_at _ _ _ _ w' lb eb (Sy.row_reads h (.inr rfl)) (m8 10)) ?_
           conv=>whnf
           refine Yk ?_
           refine zt 14 rfl ?_
           conv=>whnf
           refine zd1 [16] (zx rfl ?_ zy)
           conv=>whnf
           refine Yk ?_
           refine zw ?_
           refine⟨(),trivial,?_⟩
           exact Vs0
      ·refine Vo ?_
       refine Sy.el_map x18 ((t19 18 (by omega)).trans hx18) ?_
       obtain⟨k,rfl⟩:∃k:Nat,x18=(k:Int):=⟨x18.toNat,by omega⟩
       have hik:inLen l=k:=by unfold inLen;rw[hx18];rfl
       have hdl:(l.drop 19).length=l.length-19:=List.length_drop
       refine Vo ?_
       refine Sy.call_in Sy.lv166 Sy.tab_ok Tryz.func166 rfl _ Tryz.ntmps166 Tryz.call166 rfl (fun _=>?_)
       by_cases hk:(l.drop 19).length<k
       ·have hk':((l.drop 19).length:Int)<k:=by omega
        refine V ?_
        refine Sy.fin_nilrow 65 5 (.tup [.agg [.row 9],.c (.v (.int .i64 7))]) (fun e he=>by show Value.tuple #[.agg #[e.rv 9],.int .i64 7]=_;rw[he];rfl) ?_
        conv=>whnf
        have hd:decV ((cn:Int)::r)=([],7):=by rw[decV_cons,if_neg h9,Int.toNat_natCast,partly_short hp hlt (.inr (by rw[hik];omega))]
        refine Sy.fin_own ([]:List OpV) (by show _=(decV ((cn:Int)::r)).1;rw[hd];rfl) ?_ rfl (fun w' hw'=>⟨fun _=>False,fun _ h=>h.elim,fun o ho=>by cases ho⟩)
        show Sy.finGo _ _ _ (.tup [.agg [.row 1],.c (.v (.int .i64 (decV ((cn:Int)::r)).2))]) _ _
        rw[hd]
        exact Vs0
       ·have hk':¬((l.drop 19).length:Int)<k:=by omega
        refine Vo ?_
        refine Sy.sli_eq 0 k rfl rfl ⟨by omega,by omega⟩ (Vo ?_)
        refine Sy.sli_eq k (l.drop 19).length rfl rfl ⟨by omega,by omega⟩ (Vo ?_)
        refine Sy.sem_subF (Sy.sub_rowc 8 2 3 1 rfl rfl) ?_
        conv=>whnf
        obtain⟨yl,hyl⟩:∃yl,yl=(l.drop 19).take k:=⟨_,rfl⟩
        have l9:k-0=yl.length:=by rw[hyl,List.length_take];omega
        have e9:List.take (k-0) (List.drop 0 ((l.drop 19).map encB))=yl.map encB:=by rw[hyl,List.drop_zero,<-List.map_take];rfl
        have l10:(l.drop 19).length-k=(l.drop (19+k)).length:=by rw[List.length_drop,List.length_drop];omega
        have e10:List.take ((l.drop 19).length-k) (List.drop k ((l.drop 19).map encB))=(l.drop (19+k)).map encB:=by rw[<-List.map_drop,List.drop_drop,List.take_of_length_le (by simp;omega)]
        have hyall:∀b∈yl,0<=b/\b<256:=fun b hb=>hl8 b (List.mem_of_mem_drop (List.mem_of_mem_take (by rw[<-hyl];exact hb)))
        rw[e9,e10,l9,l10]
        refine Sy.loop_inv Sy.tab_ok (fun m:Nat=>[(65,.c (.v (.int .i64 m)))]) (fun m=>[(8,.cells 65 [.v (.int .i64 x0),.v (.int .i64 x1),.row 11,.v (.int .i64 (numB ((l.drop 2).take 8))),.v (.int .i64 (numB ((l.drop 10).take 8)))]),(11,.row 3 1 m (.vs ((yl.take m).map encI)))]) (fun m=>m<=yl.length) (fun m=>yl.length-m) 0 (Nat.zero_le _) ?_ (fun m hm=>?_)
        ·exact Vs0
        ·refine Vd (Vj (fun hh=>?_) fun hh=>?_)
         ·have hlm:m<yl.length:=by omega
          have hgm:=List.getElem?_eq_getElem hlm
          have hts:=List.take_succ_eq_append_getElem hlm
          have hyb:=hyall _ (List.getElem_mem hlm)
          generalize yl[m]=z at *
          refine Sy.el_map z hgm (Vo ?_)
          refine Sy.need_of (by show(m+1)*8<=_/\_;omega) (Vo ?_)
          have hte:(yl.take m).map encI++[[Value.int .i64 z]]=(yl.take (m+1)).map encI:=by rw[hts,List.map_append];rfl
          rw[hte]
          refine⟨m+1,by omega,by omega,?_⟩
          exact Vs0
         ·have em:m=yl.length:=by omega
          subst em
          rw[List.take_length]
          refine Vo ?_
          refine Sy.need_of (by show(ls.length+1)*56<=_/\_;omega) (Vo ?_)
          refine Sy.ar_u8 (by omega) (Vo ?_)
          obtain⟨o,ho⟩:∃o:Opr,o=⟨x0,x1,yl,numB ((l.drop 2).take 8),numB ((l.drop 10).take 8)⟩:=⟨_,rfl⟩
          have hop:opAt l=o:=by
           unfold opAt
           rw[hx0,hx1,hx18,ho,hyl]
           rfl
          refine Sy.end_freeze 11 13 (fun u=>(ls++[(⟨o,u⟩:OpV)]).map encOV) (by decide) rfl rfl (fun e=>by
           show List.map _ ((Els.vs (ls.map encOV)).toC++_)=_
           rw[List.map_append,Sy.Els.den_toC,List.map_append,ho];rfl) (fun u G hG hu=>?_)
          conv=>whnf
          have hps:=partly_succ hp hlt h19 (by rw[hik];omega)
          rw[hop,hik] at hps
          refine Sy.end_here ⟨(n+1,ls++[⟨o,u⟩],l.drop (19+k),fun b=>F b\/G b,fun w'=>E w'/\(XD.ok G w' ⟨u,1,yl.length,yl.map encI⟩/\∀b,G b->F b\/G b)),⟨?_,fun b hb=>.inl (hF b hb),fun w' hw p hp=>?_⟩,by dsimp only;omega,?_⟩
          ·dsimp only
           rw[opsOf,List.map_append,<-opsOf]
           exact hps
          ·rcases List.mem_append.1 hp with hp|hp
           ·exact(hE w' hw.1 p hp).mono fun b hb=>⟨.inl hb.1,hb.2⟩
           ·rw[List.mem_singleton.1 hp]
            have hw2:=hw.2.1
            have hoi:o.ins=yl:=by rw[ho]
            rw[<-hoi] at hw2
            exact XD.ok.mono hw2 fun b hb=>⟨.inr hb,fun hf=>hG b hb (hF b hf)⟩
          ·dsimp only
           refine Vs ?_
           all_goals simp
    ·have en:n=cn:=by omega
     subst en
     have hpe:=partly_end hp
     have hdv:decV ((n:Int)::r)=if(checkV (opsOf ls)).2=0/\gBs (opsOf ls)=(n:Int)::r then(opsOf ls,0) else([],160):=by rw[decV_cons,if_neg h9,Int.toNat_natCast,hpe]
     refine Sy.call_r1 ⟨5,1,(encG (opsOf ls)).length,(encG (opsOf ls)).map encB⟩ (fun j=>.tup [.c (.row j),.c (.v (.int .i64 (checkV (opsOf ls)).2))]) Tryz.call112 (fun e a w' h=>encode_any (e.rv 5) ls w' ⟨Sy.row_reads h (.inl ⟨_,rfl⟩),fun o ho=>(hE w' (h.ev w' fun _ _=>rfl) o ho).mono fun b hb=>h.fl b hb.1⟩) ?_
     by_cases h0:(checkV (opsOf ls)).2=0
     ·rw[h0]
      rw[show encG (opsOf ls)=gBs (opsOf ls) from if_pos h0]
      refine Vo ?_
      refine Sy.call_val (.c (.v (.bool (decide (gBs (opsOf ls)=(n:Int)::r))))) Tryz.call53 rfl (fun e a w' h=>by
       have:=bytesEq_any (e.rv 6) (e.rv 0) (gBs (opsOf ls)) ((n:Int)::r) w' (Sy.row_reads h (.inl ⟨_,rfl⟩)) (Sy.row_reads h (.inr rfl))
       rw[bytesEq_dec (gBs_mem _) h8] at this
       exact this) ?_
      by_cases hq:gBs (opsOf ls)=(n:Int)::r
      ·have hd:decV ((n:Int)::r)=(opsOf ls,0):=by rw[hdv,if_pos ⟨h0,hq⟩]
       rw[decide_eq_true hq]
       refine V ?_
       refine Sy.fin_own ls (by show _=(decV ((n:Int)::r)).1;rw[hd]) ?_ rfl (fun w' hw'=>⟨fun b=>F b/\¬fz b,fun b hb=>by rw[<-hfz];exact hb,hE w' hw'⟩)
       show Sy.finGo _ _ _ (.tup [.agg [.row 1],.c (.v (.int .i64 (decV ((n:Int)::r)).2))]) _ _
       rw[hd]
       exact Vs0
      ·have hd:decV ((n:Int)::r)=([],160):=by rw[hdv,if_neg fun h=>hq h.2]
       rw[decide_eq_false hq]
       refine V ?_
       refine Sy.fin_nilrow 65 5 (.tup [.agg [.row 7],.c (.v (.int .i64 160))]) (fun e he=>by show Value.tuple #[.agg #[e.rv 7],.int .i64 160]=_;rw[he];rfl) ?_
       conv=>whnf
       refine Sy.fin_own ([]:List OpV) (by show _=(decV ((n:Int)::r)).1;rw[hd];rfl) ?_ rfl (fun w' hw'=>⟨fun _=>False,fun _ h=>h.elim,fun o ho=>by cases ho⟩)
       show Sy.finGo _ _ _ (.tup [.agg [.row 1],.c (.v (.int .i64 (decV ((n:Int)::r)).2))]) _ _
       rw[hd]
       exact Vs0
     ·have hd:decV ((n:Int)::r)=([],160):=by rw[hdv,if_neg fun h=>h0 h.1]
      refine V ?_
      refine Sy.fin_nilrow 65 5 (.tup [.agg [.row 7],.c (.v (.int .i64 160))]) (fun e he=>by show Value.tuple #[.agg #[e.rv 7],.int .i64 160]=_;rw[he];rfl) ?_
      conv=>whnf
      refine Sy.fin_own ([]:List OpV) (by show _=(decV ((n:Int)::r)).1;rw[hd];rfl) ?_ rfl (fun w' hw'=>⟨fun _=>False,fun _ h=>h.elim,fun o ho=>by cases ho⟩)
      show Sy.finGo _ _ _ (.tup [.agg [.row 1],.c (.v (.int .i64 (decV ((n:Int)::r)).2))]) _ _
      rw[hd]
      exact Vs0
end Go.Proofs.YtgkkpefpbfadoaaGreat
