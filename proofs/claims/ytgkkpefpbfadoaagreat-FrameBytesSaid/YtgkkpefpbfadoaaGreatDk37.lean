/- Frame: an input that is read. -/
import Derived.Test.YtgkkpefpbfadoaaGreatDk9
import Derived.Test.YtgkkpefpbfadoaaGreatDk36
namespace Go.Proofs.YtgkkpefpbfadoaaGreat
open Go Go.RowKit
open Sy (C SV V1 Blk St XD Els)
set_option maxRecDepth 10000
attribute [local irreducible] Rs.rd Rs.by Rs.rv Ps.rd Ps.n Ps.by Sc.rs lstN recD
theorem lt_two {n:Nat}(x:Int)(u:Value)(h:u.oneCell'=true):SV.lt n (.agg [.v (.int .i64 x),.v u])=true:=by
 show(match u.oneCell' with|true=>true|false=>false)=true
 rw[h]
def inC (s0 s:Rs)(m:MsgV):Sy.Ctr One:={avs:=[.c (.loc 0 0)],n0:=2,H0:=frH m s,pre:=fun F w=>s0.ok F w,sv:=fun x=>.agg [.v (.int .i64 (inP s.p).2.src),.v x.v],n1:=fun _=>2,H1:=fun _=>frH m (((s.rd 1).rd 2).rd (((s.rd 1).p.n 2).toNat)),learn:=true,q:=fun x G w=>XD.ok G w ⟨x.v,3,(inP s.p).2.recs.length,(inP s.p).2.recs.map encR⟩}
theorem in_does {s0 s:Rs}(g:Rg s0 s)(m:MsgV)(hl:s.l.length<=100000):Sy.Does Tryz.prog 132 (inC s0 s m):=by
 have hn:=g.num 1
 rw[by_p] at hn
 refine Sy.does_of Sy.lv132 Sy.tab_ok Tryz.func132 rfl _ Tryz.ntmps132 _ rfl rfl (fun e0 w hpre=>?_)
 refine V ?_
 refine Sy.call_own (u8_does g) Tryz.call128 (YL ?_) (fun e a w' F' h hF'=>XD.ok.mono (XD.later h hpre) hF')
 intro _ _ _
 conv=>whnf
 rw[by_p]
 refine V ?_
 refine Sy.call_own (some_does (g.rd 1) m) Tryz.call130 (YL ?_) (fun e a w' F' h hF'=>XD.ok.mono (XD.later h hpre) hF')
 intro _ _ _
 conv=>whnf
 refine V ?_
 have hR:rawP (s.p.rd 1)=((s.rd 1).rd 2).p.by ((s.rd 1).p.n 2).toNat:=by simp only[rd_p];rfl
 have hB:Sn.bytesOk (rawP (s.p.rd 1))/\(rawP (s.p.rd 1)).length<=100000:=by rw[hR];exact⟨((g.rd 1).rd 2).by _,Nat.le_trans (by_len _ _) (Nat.le_trans (rd_len _ _) (Nat.le_trans (rd_len _ _) hl))⟩
 refine Sy.call_r1 ⟨45,5,(recD ⟨rawP (s.p.rd 1),0⟩).1.length,(recD ⟨rawP (s.p.rd 1),0⟩).1.map encE⟩ (fun j=>.tup [.c (.row j),.c (.v (.int .i64 (recD ⟨rawP (s.p.rd 1),0⟩).2))]) Tryz.call139 (fun e a w' h=>rec_any _ (rawP (s.p.rd 1)) w' (by rw[hR];exact rv_ok (((g.rd 1).rd 2).ok _ _ (XD.ok.mono (XD.later h hpre) h.fl)) _) hB.1 hB.2) ?_
 have hI:(inP s.p).2=⟨s.p.n 1,(recD ⟨rawP (s.p.rd 1),0⟩).1.map (·.r)⟩:=rfl
 have hrl:(recD ⟨rawP (s.p.rd 1),0⟩).1.length<=200:=recD_len _
 generalize(recD ⟨rawP (s.p.rd 1),0⟩).1=l at *
 refine V ?_
 refine Sy.sem_subF (Sy.sub_rowc 3 1 43 3 rfl rfl) (V ?_)
 refine Sy.loop_inv Sy.tab_ok (fun i:Nat=>[(23,.c (.v (.int .i64 i)))]) (fun i=>[(3,.cells 68 [.v (.int .i64 (s.p.n 1)),.row 5]),(5,.row 43 3 ((l.take i).map (·.r)).length (.vs (((l.take i).map (·.r)).map encR)))]) (fun i=>i<=l.length) (fun i=>l.length-i) 0 (Nat.zero_le _) ?_ (fun i hi=>?_)
 ·exact Vs0
 by_cases hlt:i<l.length
 ·have hgt:=List.getElem?_eq_getElem hlt
  have hs:=List.take_succ_eq_append_getElem hlt
  generalize l[i]=x at *
  refine V (Y1 fun hh=>?_)
  refine Sy.el_map x hgt (V ?_)
  have hkl:((l.take i).map (·.r)).length=i:=by rw[List.length_map,List.length_take];omega
  refine Sy.need_app 24 rfl ⟨by omega,by omega⟩ (V ?_)
  refine⟨i+1,by omega,by omega,?_⟩
  rw[hs,List.map_append]
  refine Vs (Vk ?_ ?_)
  all_goals(try simp[encR])
 ·obtain rfl:i=l.length:=by omega
  rw[List.take_length]
  refine V (Y1 fun hh=>?_)
  refine fin_freezeg (fun u=>.agg [.v (.int .i64 (s.p.n 1)),.v u]) 5 43 3 _ _ rfl (fun e=>rfl) (fun u G hG hu=>?_)
  conv=>whnf
  refine Sy.fin_own ⟨u,hu⟩ trivial ?_ ?_ (fun w' hw'=>⟨G,fun b hb=>⟨.inr hb,hG b hb⟩,?_⟩)
  ·unfold inC
   rw[hI]
   exact Vs0
  ·exact lt_two _ _ hu
  ·unfold inC
   rw[hI]
   exact hw'.2.1
abbrev LI:=Rs×List InpV
def lnC (s0 s:Rs)(m:MsgV):Sy.Ctr (LI×One):={avs:=[.c (.loc 0 0),.c (.row 2)],n0:=3,H0:=frH m s++[(2,.mv 132 [.loc 0 0])],pre:=fun F w=>s0.ok F w,p:=fun x=>x.1.1.p=(lstP inP s.p).1/\Rg s0 x.1.1/\x.1.1.l.length<=s.l.length/\insOf x.1.2=(lstP inP s.p).2,sv:=fun x=>.c (.v x.2.v),n1:=fun _=>3,H1:=fun x=>frH m x.1.1,learn:=true,q:=fun x G w=>XD.ok G w ⟨x.2.v,2,x.1.2.length,x.1.2.map encIV⟩/\∀y∈x.1.2,IOk G w y}
theorem lsN_does {s0 s:Rs}(g:Rg s0 s)(m:MsgV)(hb:s.l.length<=100000):Sy.Does Tryz.prog 131 (lnC s0 s m):=by
 have hn:=g.num 1
 rw[by_p] at hn
 refine Sy.does_of Sy.lv131 Sy.tab_ok Tryz.func131 rfl _ Tryz.ntmps131 _ rfl rfl (fun e0 w hpre=>?_)
 obtain⟨fz,hfz⟩:∃fz,fz=Sy.frz e0 (lnC s0 s m).H0 w:=⟨_,rfl⟩
 refine V ?_
 refine Sy.call_own (u8_does g) Tryz.call128 (YL ?_) (fun e a w' F' h hF'=>XD.ok.mono (XD.later h hpre) hF')
 intro _ _ _
 conv=>whnf
 rw[by_p]
 refine V ?_
 refine Sy.sem_subF (Sy.sub_row 5 68 2 rfl) (V ?_)
 have hL:lstP inP s.p=lstN inP (s.p.n 1).toNat (s.rd 1).p:=by rw[rd_p];rfl
 have hl0:=rd_len s 1
 generalize s.p.n 1=k at *
 refine Sy.loop_learn Sy.tab_ok (fun q:Nat×LI×(Nat->Prop)×(World->Prop)=>[(12,.c (.v (.int .i64 q.1))),(5,.c (.row 3))]) (fun q=>[(1,.cells 161 [.v (.slice q.2.1.1.A q.2.1.1.l.length q.2.1.1.c),.v (.int .i64 q.2.1.1.e)]),(3,.row 68 2 q.2.1.2.length (.vs (q.2.1.2.map encIV)))]) (fun q=>q.2.2.1) (fun q=>q.2.2.2) (fun q=>(q.1<=k.toNat/\q.2.1.2.length=q.1/\Rg s0 q.2.1.1/\q.2.1.1.l.length<=s.l.length/\lstP inP s.p=aftQ (insOf q.2.1.2) (lstN inP (k.toNat-q.1) q.2.1.1.p))/\(∀b,fz b->q.2.2.1 b)/\∀w,q.2.2.2 w->∀y∈q.2.1.2,IOk (fun b=>q.2.2.1 b/\¬fz b) w y) (fun q=>k.toNat-q.1) (0,(s.rd 1,[]),Sy.frz e0 (lnC s0 s m).H0 w,fun _=>True) ⟨⟨Nat.zero_le _,rfl,g.rd 1,hl0,hL⟩,fun b hb=>by rw[hfz] at hb;exact hb,fun _ _ y hy=>by cases hy⟩ ?_ (fun q hq=>?_)
 ·exact Vs0
 obtain⟨i,⟨u,acc⟩,F,E⟩:=q
 obtain⟨⟨hi,hacc,gu,hl,hq⟩,hF,hE⟩:=hq
 dsimp only at hi hacc gu hl hq hF hE⊢
 by_cases hlt:i<k.toNat
 ·refine V (Y1 fun hh=>?_)
  refine Sy.call_own (err_does u) Tryz.call170 (YL ?_)
  intro _ _ _
  conv=>whnf
  by_cases he:u.e=0
  ·rw[show k.toNat-i=(k.toNat-(i+1))+1 by omega,lst_s (show u.p.e=0 from he),aftQ_cons] at hq
   refine V ?_
   refine Sy.call_ownG (in_does gu m (by omega)) Tryz.call132 (YL ?_) (fun e a w' F' h hF'=>XD.ok.mono (XD.later h hpre) hF') (fun _ _ _ _ h hk=>XD.ok.keep h (fun _ h=>h) hk)
   intro x _ G
   conv=>whnf
   refine V ?_
   refine Sy.need_app 32 rfl ⟨by omega,by omega⟩ (V ?_)
   refine' ⟨(i+1,(((u.rd 1).rd 2).rd ((u.rd 1).p.n 2).toNat,acc++[⟨(inP u.p).2,x.v⟩]),_,_),⟨⟨by omega,(by rw[List.length_append,hacc];rfl),((gu.rd 1).rd 2).rd _,Nat.le_trans (rd_len _ _) (Nat.le_trans (rd_len _ 2) (Nat.le_trans (rd_len u 1) hl)),?_⟩,?c1,?c2⟩,(by dsimp only;omega),?c3⟩
   case c3=>
    dsimp only
    refine Vs (Vk ?_ ?_)
    all_goals(try simp[encIV])
   case c1=>exact fun b hb=>.inl (hF b hb)
   case c2=>
    intro w' hw y hy
    rcases List.mem_append.1 hy with hy|hy
    ·exact XD.ok.mono (hE w' hw.1 y hy) fun b hb=>⟨.inl hb.1,hb.2⟩
    ·rw[List.mem_singleton.1 hy]
     exact XD.ok.mono hw.2.2.1 fun b hb=>⟨.inr hb,fun hf=>hw.2.1 b hb (hF b hf)⟩
   rw[hq]
   simp only[rd_p]
   unfold insOf
   rw[List.map_append]
   rfl
  ·rw[lst_e (.inr (show u.p.e≠0 from he)),aft_nil] at hq
   refine V ?_
   refine fin_freezeg (fun u=>.c (.v u)) 3 68 2 _ _ rfl (fun e=>rfl) (fun v G hG hv=>?_)
   conv=>whnf
   refine Sy.fin_own ((u,acc),⟨v,hv⟩) ⟨by rw[hq],gu,hl,by rw[hq]⟩ ?_ (lt_v hv) (fun w' hw'=>⟨fun b=>(F b\/G b)/\¬fz b,fun b hb=>by rw[<-hfz];exact hb,XD.ok.mono hw'.2.1 fun b hb=>⟨.inr hb,fun hf=>hG b hb (hF b hf)⟩,fun y hy=>XD.ok.mono (hE w' hw'.1 y hy) fun b hb=>⟨.inl hb.1,hb.2⟩⟩)
   exact Vs0
 ·rw[lst_e (.inl (by omega)),aft_nil] at hq
  refine V (Y1 fun hh=>?_)
  refine fin_freezeg (fun u=>.c (.v u)) 3 68 2 _ _ rfl (fun e=>rfl) (fun v G hG hv=>?_)
  conv=>whnf
  refine Sy.fin_own ((u,acc),⟨v,hv⟩) ⟨by rw[hq],gu,hl,by rw[hq]⟩ ?_ (lt_v hv) (fun w' hw'=>⟨fun b=>(F b\/G b)/\¬fz b,fun b hb=>by rw[<-hfz];exact hb,XD.ok.mono hw'.2.1 fun b hb=>⟨.inr hb,fun hf=>hG b hb (hF b hf)⟩,fun y hy=>XD.ok.mono (hE w' hw'.1 y hy) fun b hb=>⟨.inl hb.1,hb.2⟩⟩)
  exact Vs0
end Go.Proofs.YtgkkpefpbfadoaaGreat
