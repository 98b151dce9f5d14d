/- Frame: the message that bytes are. -/
import Derived.Test.YtgkkpefpbfadoaaGreatDk9
import Derived.Test.YtgkkpefpbfadoaaGreatDk37
namespace Go.Proofs.YtgkkpefpbfadoaaGreat
open Go Go.RowKit
open Sy (C SV V1 Blk St XD Els yt yt1 yd1 yw)
set_option maxRecDepth 10000
structure Mv (b:List Int) where
 m:MsgV
 h:m.msg=readP ⟨b,0⟩
 one:∀i,(m.v i).oneCell'=true
def hdV (k f t e a s:Int):MsgV:=⟨k,f,t,e,a,s,0,[],[],[],Sn.sn0,[],[],[],pk0,fun _=>nilV⟩
theorem mok_nil {F:Nat->Prop}{w:World}{k f t e a s n:Int}{p:Pkt}:MOk F w ⟨k,f,t,e,a,s,n,[],[],[],Sn.sn0,[],[],[],p,fun _=>nilV⟩:=
 ⟨⟨nil_ok,(by intro o ho;cases ho)⟩,nil_ok,(by intro x hx;cases hx),nil_ok,⟨nil_ok,nil_ok⟩,nil_ok,nil_ok,nil_ok⟩
theorem one1_no {l:List Elm}(h:¬l.length=1):one1 l=⟨0,⟨0,0,0⟩,0⟩:=by
 match l with
 |[]=>rfl
 |[_]=>exact absurd rfl h
 |_::_::_=>rfl
theorem new_ok {F G:Nat->Prop}{n N:Nat}(h1:∀b,G b->¬F b)(h0:∀b,b<n->F b)(h2:∀b,G b->b<N):∀b,G b->n<=b/\b<N:=fun b hb=>⟨Nat.le_of_not_lt fun h=>h1 b hb (h0 b h),h2 b hb⟩
attribute [local irreducible] Rs.rd Rs.by Rs.rv Ps.rd Ps.n Ps.by Sc.rs lstN recD depP toldP ackP beatP dataP trigP
set_option maxHeartbeats 8000000 in
theorem read_any (v:Value)(b:List Int)(w:World)(hr:XD.ok (fun x=>x<w.heap.size) w ⟨v,1,b.length,b.map encB⟩)(b8:Sn.bytesOk b)(hb:b.length<=100000):
 Calls Tryz.prog 31 #[v] w (Sy.RetMem (fun(x:Mv b) G w'=>MOk G w' x.m) (fun x=>.agg (encM x.m).toArray) w):=by
 refine Sy.calls_of Sy.lv31 Sy.tab_ok Tryz.func31 rfl _ Tryz.ntmps31 [] [.c (.v v)] rfl (one_arg (Sy.ReadsE.one hr.1)) rfl trivial (V ?_)
 refine Sy.call_own (read_does v b (Sy.ReadsE.one hr.1) (by omega)) Tryz.call77 (YL ?_) (fun e a w' F' h hF'=>(XD.later h (XD.ok.mono hr fun b hb=>⟨hb,fun h=>h⟩)).mono hF') (fun _ x G G' w w' h hG hk=>XD.ok.keep h hG hk)
 intro _ _ _
 conv=>whnf
 rename_i x _ G
 have p0:(x.rs b).p=⟨b,0⟩:=by unfold Sc.rs;rfl
 have g:=x.rg b8
 refine V ?_
 refine Sy.call_own (small_does g (hdV 0 0 0 0 0 0)) Tryz.call80 (YL ?_) (fun e a w' F' h hF'=>XD.ok.mono (h.ev w' fun _ _=>rfl).2.2 hF')
 intro _ _ _
 conv=>whnf
 refine V ?_
 refine Sy.call_own (small_does (g.rd 1) (hdV 0 0 0 0 0 0)) Tryz.call80 (YL ?_) (fun e a w' F' h hF'=>XD.ok.mono (h.ev w' fun _ _=>rfl).2.2 hF')
 intro _ _ _
 conv=>whnf
 refine V ?_
 refine Sy.call_own (small_does ((g.rd 1).rd 1) (hdV 0 0 0 0 0 0)) Tryz.call80 (YL ?_) (fun e a w' F' h hF'=>XD.ok.mono (h.ev w' fun _ _=>rfl).2.2 hF')
 intro _ _ _
 conv=>whnf
 refine V ?_
 refine Sy.call_own (small_does (((g.rd 1).rd 1).rd 1) (hdV 0 0 0 0 0 0)) Tryz.call80 (YL ?_) (fun e a w' F' h hF'=>XD.ok.mono (h.ev w' fun _ _=>rfl).2.2 hF')
 intro _ _ _
 conv=>whnf
 refine V ?_
 have h4:=(((((g.rd 1).rd 1).rd 1).rd 1).rd 8).num 4
 rw[by_p] at h4
 refine Sy.drawB2_go [2] [1] [16,20] (by kernel_rfl) ?_
 intro e0
 conv=>whnf
 refine yt 0 rfl ?_
 conv=>whnf
 refine yt1 1 rfl ?_
 conv=>whnf
 refine yt 2 rfl ?_
 conv=>whnf
 refine yt 3 rfl ?_
 conv=>whnf
 refine yt 4 rfl ?_
 conv=>whnf
 refine yt 5 rfl ?_
 conv=>whnf
 refine yt1 7 rfl ?_
 conv=>whnf
 refine yt1 8 rfl ?_
 conv=>whnf
 refine yt1 9 rfl ?_
 conv=>whnf
 refine yt 10 rfl ?_
 conv=>whnf
 refine yd1 [6] (zx rfl ?_ zy)
 conv=>whnf
 refine Sy.call_own (u64_does ((((g.rd 1).rd 1).rd 1).rd 1)) Tryz.call81 (YL ?_) (fun e a w' F' h hF'=>XD.ok.mono (h.ev w' fun _ _=>rfl).2.2 hF')
 intro _ _ _
 conv=>whnf
 rw[by_p]
 refine Yk ?_
 refine yd1 [11] (zx rfl ?_ zy)
 conv=>whnf
 refine Sy.call_own (u32_does (((((g.rd 1).rd 1).rd 1).rd 1).rd 8)) Tryz.call78 (YL ?_) (fun e a w' F' h hF'=>XD.ok.mono (h.ev w' fun _ _=>rfl).2.2 hF')
 intro _ _ _
 conv=>whnf
 rw[by_p]
 refine Yk ?_
 refine yt1 12 rfl (V ?_)
 refine yt1 13 rfl ?_
 conv=>whnf
 refine yt1 14 rfl ?_
 conv=>whnf
 refine yt 15 rfl ?_
 conv=>whnf
 refine yd1 [16] (zx rfl ?_ zy)
 conv=>whnf
 refine Yk ?_
 refine yt1 17 rfl ?_
 conv=>whnf
 refine yt1 18 rfl ?_
 conv=>whnf
 refine yt1 19 rfl ?_
 conv=>whnf
 refine yd1 [20] (zx rfl ?_ zy)
 conv=>whnf
 refine Yk ?_
 refine yw ?_
 skip
 have hM:hdM ⟨b,0⟩=⟨(x.rs b).p.n 1,((x.rs b).rd 1).p.n 1,(((x.rs b).rd 1).rd 1).p.n 1,(((((x.rs b).rd 1).rd 1).rd 1).rd 1).p.n 8,((((((x.rs b).rd 1).rd 1).rd 1).rd 1).rd 8).p.n 4,((((x.rs b).rd 1).rd 1).rd 1).p.n 1,0,[],[],[],Sn.sn0,[],[],[],pk0⟩:=by simp only[rd_p,p0];rfl
 have hP:(((((((x.rs b).rd 1).rd 1).rd 1).rd 1).rd 8).rd 4).p=hdP ⟨b,0⟩:=by simp only[rd_p,p0];rfl
 have gs:=((((((g.rd 1).rd 1).rd 1).rd 1).rd 8).rd 4)
 have hl:(((((((x.rs b).rd 1).rd 1).rd 1).rd 1).rd 8).rd 4).l.length<=b.length:=Nat.le_trans (rd_len _ _) (Nat.le_trans (rd_len _ _) (Nat.le_trans (rd_len _ _) (Nat.le_trans (rd_len _ _) (Nat.le_trans (rd_len _ _) (Nat.le_trans (rd_len _ _) (by unfold Sc.rs;exact Nat.le_refl _))))))
 generalize(((((((x.rs b).rd 1).rd 1).rd 1).rd 1).rd 8).rd 4)=s at *
 generalize(x.rs b).p.n 1=k at *
 generalize((x.rs b).rd 1).p.n 1=f at *
 generalize(((x.rs b).rd 1).rd 1).p.n 1=t at *
 generalize(((((x.rs b).rd 1).rd 1).rd 1).rd 1).p.n 8=ep at *
 generalize((((((x.rs b).rd 1).rd 1).rd 1).rd 1).rd 8).p.n 4=att at *
 generalize((((x.rs b).rd 1).rd 1).rd 1).p.n 1=ts at *
 refine V ?_
 refine Sy.findC_int [] 1 none rfl (V ?_)
 refine Sy.findC_int [1] 3 none rfl (V ?_)
 refine Sy.findC_int [1,3] 4 none rfl (V ?_)
 refine Sy.findC_int [1,3,4] 5 none rfl (V ?_)
 refine Sy.findC_int [1,3,4,5] 6 none rfl (V ?_)
 refine Sy.findC_int [1,3,4,5,6] 8 none rfl (V ?_)
 have hk:(hdM ⟨b,0⟩).kind=k:=by rw[hM]
 by_cases k1:k=1
 ·have hR:readP ⟨b,0⟩=depP s.p (hdM ⟨b,0⟩):=by unfold readP;rw[hk,hP,if_pos k1]
  refine Sy.findC_int [1,3,4,5,6,8] k (some 0) (by rw[k1];rfl) (V ?_)
  have hW:rawP s.p=(s.rd 2).p.by (s.p.n 2).toNat:=by unfold rawP;rw[rd_p]
  have hB:Sn.bytesOk (rawP s.p)/\(rawP s.p).length<=100000:=by rw[hW];exact⟨(gs.rd 2).by _,Nat.le_trans (by_len _ _) (Nat.le_trans (rd_len _ _) (by omega))⟩
  refine Sy.call_in Sy.lv82 Sy.tab_ok Tryz.func82 rfl _ Tryz.ntmps82 Tryz.call82 rfl (fun _=>?_)
  refine V ?_
  refine Sy.draw_go [1,2] (by kernel_rfl) ?_
  intro e0
  conv=>whnf
  refine zt 0 rfl ?_
  conv=>whnf
  refine zt 1 rfl ?_
  conv=>whnf
  refine zd1 [2] (zx rfl ?_ zy)
  conv=>whnf
  refine Sy.call_own (some_does gs (hdV k f t ep att ts)) Tryz.call130 (YL ?_) (fun e a w' F' h hF'=>XD.ok.mono (h.ev w' fun _ _=>rfl).2.2 hF')
  intro _ _ _
  conv=>whnf
  refine Yk ?_
  refine zd1 [3] (zx rfl ?_ zy)
  conv=>whnf
  refine Sy.call_memG (fun(x:Gv (rawP s.p)) G w'=>GOk G w' x.v x.gl) (fun x=>.tup [.agg [.v x.v],.c (.v (.int .i64 (decV (rawP s.p)).2))]) Tryz.call129 (fun x=>gr_lt _ x) (fun _ _ _ _ h hk=>⟨XD.ok.keep h.1 (fun _ h=>h) hk,fun o ho=>(h.2 o ho).keep (fun _ h=>h) hk⟩) (fun e a w' h=>decode_mem _ _ w' (by rw[hW];exact rv_ok ((gs.rd 2).ok _ _ (XD.ok.mono (h.ev w' fun _ _=>rfl).2.2 h.fl)) _) hB.2 hB.1) (fun x G1=>?_)
  conv=>whnf
  refine Yk ?_
  refine zt 4 rfl ?_
  conv=>whnf
  refine zt 5 rfl ?_
  conv=>whnf
  refine zt 6 rfl ?_
  conv=>whnf
  refine zt 7 rfl ?_
  conv=>whnf
  refine zt 8 rfl ?_
  conv=>whnf
  refine zt 9 rfl ?_
  conv=>whnf
  refine zt 10 rfl ?_
  conv=>whnf
  refine zt 11 rfl ?_
  conv=>whnf
  refine zd1 [12] (zx rfl ?_ zy)
  conv=>whnf
  refine Yk ?_
  refine zw ?_
  skip
  have hs':((s.rd 2).rd (s.p.n 2).toNat).p=someP s.p:=by simp only[rd_p];rfl
  have g1:=(gs.rd 2).rd (s.p.n 2).toNat
  have hl1:=Nat.le_trans (rd_len (s.rd 2) (s.p.n 2).toNat) (Nat.le_trans (rd_len s 2) hl)
  generalize(s.rd 2).rd (s.p.n 2).toNat=s1 at *
  refine V ?_
  refine Sy.draw_go [1,2] (by kernel_rfl) ?_
  intro e0
  conv=>whnf
  refine zt 0 rfl ?_
  conv=>whnf
  refine zt 1 rfl ?_
  conv=>whnf
  refine zt 2 rfl ?_
  conv=>whnf
  refine zd1 [3] (zx rfl ?_ zy)
  conv=>whnf
  refine Yk ?_
  refine zd1 [4] (zx rfl ?_ zy)
  conv=>whnf
  refine Sy.call_ownG (lsN_does g1 {hdV k f t ep att ts with gl:=x.gl,v:=fun i=>if i=0 then x.v else nilV} (by omega)) Tryz.call131 (YL ?_) (fun e a w' F' h hF'=>XD.ok.mono (h.ev w' fun _ _=>rfl).1.2.2 fun b hb=>hF' b (.inl hb)) (fun _ _ _ _ h hk=>⟨XD.ok.keep h.1 (fun _ h=>h) hk,fun y hy=>XD.ok.keep (h.2 y hy) (fun _ h=>h) hk⟩)
  intro _ _ _
  conv=>whnf
  refine Yk ?_
  refine zt 5 rfl ?_
  conv=>whnf
  refine zt 6 rfl ?_
  conv=>whnf
  refine zt 7 rfl ?_
  conv=>whnf
  refine zt 8 rfl ?_
  conv=>whnf
  refine zt 9 rfl ?_
  conv=>whnf
  refine zd1 [10] (zx rfl ?_ zy)
  conv=>whnf
  refine Yk ?_
  refine zw ?_
  skip
  rename_i y hy G2
  refine V ?_
  refine Sy.draw_go [1,2] (by kernel_rfl) ?_
  intro e0
  conv=>whnf
  refine zt 0 rfl ?_
  conv=>whnf
  refine zt 1 rfl ?_
  conv=>whnf
  refine zd1 [2] (zx rfl ?_ zy)
  conv=>whnf
  refine Yk ?_
  refine zd1 [3] (zx rfl ?_ zy)
  conv=>whnf
  refine Sy.call_ownG (lsP_does hy.2.1 {hdV k f t ep att ts with gl:=x.gl,il:=y.1.2,v:=fun i=>if i=0 then x.v else if i=1 then y.2.v else nilV}) Tryz.call133 (YL ?_) (fun e a w' F' h hF'=>XD.ok.mono (h.ev w' fun _ _=>rfl).1.1.2.2 fun b hb=>hF' b (.inl (.inl hb))) (fun _ _ _ _ h hk=>XD.ok.keep h (fun _ h=>h) hk)
  intro _ _ _
  conv=>whnf
  refine Yk ?_
  refine zt 4 rfl ?_
  conv=>whnf
  refine zt 5 rfl ?_
  conv=>whnf
  refine zt 6 rfl ?_
  conv=>whnf
  refine zt 7 rfl ?_
  conv=>whnf
  refine zd1 [8] (zx rfl ?_ zy)
  conv=>whnf
  refine Yk ?_
  refine zw ?_
  skip
  rename_i z hz G3
  have hS:z.1.l.length<=b.length:=Nat.le_trans hz.2.2 (Nat.le_trans hy.2.2.1 hl1)
  refine V ?_
  refine Sy.call_in Sy.lv135 Sy.tab_ok Tryz.func135 rfl _ Tryz.ntmps135 Tryz.call135 rfl (fun _=>?_)
  refine V ?_
  have hC:=hz.2.1.by z.1.l.length
  have hBl:=Nat.le_trans (by_len z.1 z.1.l.length) hS
  have hT:restP z.1.p=Sn.sdV (z.1.p.by z.1.l.length):=rfl
  refine Sy.drawB2_go [2] [1] [18] (by kernel_rfl) ?_
  intro e0
  conv=>whnf
  refine yt 0 rfl ?_
  conv=>whnf
  refine yt 1 rfl ?_
  conv=>whnf
  refine yt 2 rfl ?_
  conv=>whnf
  refine yt 3 rfl ?_
  conv=>whnf
  refine yt 4 rfl ?_
  conv=>whnf
  refine yt 5 rfl ?_
  conv=>whnf
  refine yt 6 rfl ?_
  conv=>whnf
  refine yt 7 rfl ?_
  conv=>whnf
  refine yt 8 rfl ?_
  conv=>whnf
  refine yd1 [9] (zx rfl ?_ zy)
  conv=>whnf
  refine Sy.call_own (left_does hz.2.1 (by omega)) Tryz.call172 (YL ?_) (fun e a w' F' h hF'=>XD.ok.mono (h.ev w' fun _ _=>rfl).1.1.1.2.2 fun b hb=>hF' b (.inl (.inl (.inl hb))))
  intro _ _ _
  conv=>whnf
  refine Yk ?_
  refine yd1 [10] (zx rfl ?_ zy)
  conv=>whnf
  refine Sy.call_own (raw_does hz.2.1 z.1.l.length) Tryz.call168 (YL ?_) (fun e a w' F' h hF'=>XD.ok.mono (h.ev w' fun _ _=>rfl).1.1.1.2.2 fun b hb=>hF' b (.inl (.inl (.inl hb))))
  intro _ _ _
  conv=>whnf
  refine Yk ?_
  refine yd1 [11] (zx rfl ?_ zy)
  conv=>whnf
  refine Sy.call_memG (fun(x:Two) G w'=>Sn.SOk G w' ⟨Sn.sdV (z.1.p.by z.1.l.length),x.a,x.b⟩) (fun x=>.tup [.agg (snC (Sn.sdV (z.1.p.by z.1.l.length)) x.a x.b),.c (.v (.int .i64 (Sn.sdE (z.1.p.by z.1.l.length))))]) Tryz.call171 (fun x=>snC_lt _ _ x) (fun _ _ _ _ h hk=>⟨XD.ok.keep h.rows (fun _ h=>h) hk,XD.ok.keep h.txs (fun _ h=>h) hk⟩) (fun e a w' h=>sdec_mem _ _ w' (rv_ok (hz.2.1.ok _ _ (XD.ok.mono (h.ev w' fun _ _=>rfl).1.1.1.2.2 fun b hb=>h.fl b (.inl (.inl (.inl hb))))) _) hC (by omega)) (fun c G4=>?_)
  conv=>whnf
  refine Yk ?_
  refine yt 12 rfl ?_
  conv=>whnf
  refine yt 13 rfl ?_
  conv=>whnf
  refine yt1 14 rfl ?_
  conv=>whnf
  refine yt1 15 rfl ?_
  conv=>whnf
  refine yt1 16 rfl ?_
  conv=>whnf
  refine yt 17 rfl ?_
  conv=>whnf
  refine yd1 [18] (zx rfl ?_ zy)
  conv=>whnf
  refine Yk ?_
  refine yw ?_
  skip
  refine V ?_
  refine fin_mem ⟨{hdV k f t ep att ts with gl:=x.gl,il:=y.1.2,pls:=(lstP plP y.1.1.p).2,snap:=Sn.sdV (z.1.p.by z.1.l.length),v:=fun i=>if i=0 then x.v else if i=1 then y.2.v else if i=2 then z.2.v else if i=3 then c.a else if i=4 then c.b else nilV},?_,fun i=>?_⟩ (fun e=>rfl) fun w' hs hE hF=>?_
  ·rw[hR,hM]
   unfold depP
   rw[<-hs',<-hy.1,<-hy.2.2.2,<-x.h,<-hz.1,hT]
   rfl
  ·dsimp only;split;exact x.one;split;exact y.2.h;split;exact z.2.h;split;exact c.ha;split;exact c.hb;rfl
  ·have h1:=new_ok hE.1.1.1.2.1 (fun b h=>.inl ⟨h,fun h=>h⟩) (fun b hb=>hF b (.inl (.inl (.inl (.inr hb)))))
   have h2:=new_ok hE.1.1.2.1 (fun b h=>.inl (.inl ⟨h,fun h=>h⟩)) (fun b hb=>hF b (.inl (.inl (.inr hb))))
   have h3:=new_ok hE.1.2.1 (fun b h=>.inl (.inl (.inl ⟨h,fun h=>h⟩))) (fun b hb=>hF b (.inl (.inr hb)))
   have h4:=new_ok hE.2.1 (fun b h=>.inl (.inl (.inl (.inl ⟨h,fun h=>h⟩)))) (fun b hb=>hF b (.inr hb))
   exact{mok_nil (k:=k) (f:=f) (t:=t) (e:=ep) (a:=att) (s:=ts) (n:=0) (p:=pk0) with g:=hE.1.1.1.2.2.1.mono h1,i:=XD.ok.mono hE.1.1.2.2.1.1 h2,ir:=fun q hq=>XD.ok.mono (hE.1.1.2.2.1.2 q hq) h2,p:=XD.ok.mono hE.1.2.2.1 h3,s:=hE.2.2.1.mono h4}
 by_cases k3:k=3
 ·have hR:readP ⟨b,0⟩=trigP s.p (hdM ⟨b,0⟩):=by unfold readP;rw[hk,hP,if_neg k1,if_pos k3]
  refine Sy.findC_int [1,3,4,5,6,8] k (some 1) (by rw[k3];rfl) (V ?_)
  refine Sy.call_in Sy.lv83 Sy.tab_ok Tryz.func83 rfl _ Tryz.ntmps83 Tryz.call83 rfl (fun _=>?_)
  refine V ?_
  refine Sy.call_own (u64_does gs) Tryz.call81 (YL ?_) (fun e a w' F' h hF'=>XD.ok.mono (h.ev w' fun _ _=>rfl).2.2 hF')
  intro _ _ _
  conv=>whnf
  rw[by_p]
  refine V ?_
  exact fin_mem ⟨{hdV k f t ep att ts with num:=s.p.n 8},(by rw[hR,hM];unfold trigP;rfl),fun _=>rfl⟩ (fun e=>rfl) fun w' hs hE hF=>mok_nil
 by_cases k4:k=4
 ·have hR:readP ⟨b,0⟩=toldP s.p (hdM ⟨b,0⟩):=by unfold readP;rw[hk,hP,if_neg k1,if_neg k3,if_pos k4]
  refine Sy.findC_int [1,3,4,5,6,8] k (some 2) (by rw[k4];rfl) (V ?_)
  refine Sy.call_in Sy.lv84 Sy.tab_ok Tryz.func84 rfl _ Tryz.ntmps84 Tryz.call84 rfl (fun _=>?_)
  refine V ?_
  refine Sy.draw_go [1,2] (by kernel_rfl) ?_
  intro e0
  conv=>whnf
  refine zt 0 rfl ?_
  conv=>whnf
  refine zt 1 rfl ?_
  conv=>whnf
  refine zd1 [2] (zx rfl ?_ zy)
  conv=>whnf
  refine Yk ?_
  refine zd1 [3] (zx rfl ?_ zy)
  conv=>whnf
  refine Sy.call_ownG (lsT_does gs (hdV k f t ep att ts)) Tryz.call136 (YL ?_) (fun e a w' F' h hF'=>XD.ok.mono (h.ev w' fun _ _=>rfl).2.2 hF') (fun _ _ _ _ h hk=>XD.ok.keep h (fun _ h=>h) hk)
  intro _ _ _
  conv=>whnf
  refine Yk ?_
  refine zt 4 rfl ?_
  conv=>whnf
  refine zt 5 rfl ?_
  conv=>whnf
  refine zt 6 rfl ?_
  conv=>whnf
  refine zd1 [7] (zx rfl ?_ zy)
  conv=>whnf
  refine Yk ?_
  refine zw ?_
  skip
  rename_i y _ G1
  refine V ?_
  refine fin_mem ⟨{hdV k f t ep att ts with names:=(lstP txP s.p).2,v:=fun i=>if i=5 then y.2.v else nilV},(by rw[hR,hM];unfold toldP;rfl),fun i=>?_⟩ (fun e=>rfl) fun w' hs hE hF=>?_
  ·dsimp only;split;exact y.2.h;rfl
  ·have h0:=new_ok hE.2.1 (fun b h=>.inl ⟨h,fun h=>h⟩) (fun b hb=>hF b (.inr hb))
   exact{mok_nil (k:=k) (f:=f) (t:=t) (e:=ep) (a:=att) (s:=ts) (n:=0) (p:=pk0) with n:=XD.ok.mono hE.2.2.1 h0}
 by_cases k5:k=5
 ·have hR:readP ⟨b,0⟩=ackP s.p (hdM ⟨b,0⟩):=by unfold readP;rw[hk,hP,if_neg k1,if_neg k3,if_neg k4,if_pos k5]
  refine Sy.findC_int [1,3,4,5,6,8] k (some 3) (by rw[k5];rfl) (V ?_)
  refine Sy.call_in Sy.lv85 Sy.tab_ok Tryz.func85 rfl _ Tryz.ntmps85 Tryz.call85 rfl (fun _=>?_)
  refine V ?_
  refine Sy.call_in Sy.lv83 Sy.tab_ok Tryz.func83 rfl _ Tryz.ntmps83 Tryz.call83 rfl (fun _=>?_)
  refine V ?_
  refine Sy.call_own (u64_does gs) Tryz.call81 (YL ?_) (fun e a w' F' h hF'=>XD.ok.mono (h.ev w' fun _ _=>rfl).2.2 hF')
  intro _ _ _
  conv=>whnf
  rw[by_p]
  refine V ?_
  refine Sy.call_in Sy.lv135 Sy.tab_ok Tryz.func135 rfl _ Tryz.ntmps135 Tryz.call135 rfl (fun _=>?_)
  refine V ?_
  have hB:=(gs.rd 8).by (s.rd 8).l.length
  have hS:=Nat.le_trans (rd_len s 8) hl
  have hBl:=Nat.le_trans (by_len (s.rd 8) (s.rd 8).l.length) hS
  have hT:restP (s.rd 8).p=Sn.sdV ((s.rd 8).p.by (s.rd 8).l.length):=rfl
  refine Sy.drawB2_go [2] [1] [18] (by kernel_rfl) ?_
  intro e0
  conv=>whnf
  refine yt 0 rfl ?_
  conv=>whnf
  refine yt 1 rfl ?_
  conv=>whnf
  refine yt 2 rfl ?_
  conv=>whnf
  refine yt 3 rfl ?_
  conv=>whnf
  refine yt 4 rfl ?_
  conv=>whnf
  refine yt 5 rfl ?_
  conv=>whnf
  refine yt 6 rfl ?_
  conv=>whnf
  refine yt 7 rfl ?_
  conv=>whnf
  refine yt 8 rfl ?_
  conv=>whnf
  refine yd1 [9] (zx rfl ?_ zy)
  conv=>whnf
  refine Sy.call_own (left_does (gs.rd 8) (by omega)) Tryz.call172 (YL ?_) (fun e a w' F' h hF'=>XD.ok.mono (h.ev w' fun _ _=>rfl).2.2 hF')
  intro _ _ _
  conv=>whnf
  refine Yk ?_
  refine yd1 [10] (zx rfl ?_ zy)
  conv=>whnf
  refine Sy.call_own (raw_does (gs.rd 8) (s.rd 8).l.length) Tryz.call168 (YL ?_) (fun e a w' F' h hF'=>XD.ok.mono (h.ev w' fun _ _=>rfl).2.2 hF')
  intro _ _ _
  conv=>whnf
  refine Yk ?_
  refine yd1 [11] (zx rfl ?_ zy)
  conv=>whnf
  refine Sy.call_memG (fun(x:Two) G w'=>Sn.SOk G w' ⟨Sn.sdV ((s.rd 8).p.by (s.rd 8).l.length),x.a,x.b⟩) (fun x=>.tup [.agg (snC (Sn.sdV ((s.rd 8).p.by (s.rd 8).l.length)) x.a x.b),.c (.v (.int .i64 (Sn.sdE ((s.rd 8).p.by (s.rd 8).l.length))))]) Tryz.call171 (fun x=>snC_lt _ _ x) (fun _ _ _ _ h hk=>⟨XD.ok.keep h.rows (fun _ h=>h) hk,XD.ok.keep h.txs (fun _ h=>h) hk⟩) (fun e a w' h=>sdec_mem _ _ w' (rv_ok ((gs.rd 8).ok _ _ (XD.ok.mono ((h.ev w' fun _ _=>rfl).2.2) h.fl)) _) hB (by omega)) (fun z G2=>?_)
  conv=>whnf
  refine Yk ?_
  refine yt 12 rfl ?_
  conv=>whnf
  refine yt 13 rfl ?_
  conv=>whnf
  refine yt1 14 rfl ?_
  conv=>whnf
  refine yt1 15 rfl ?_
  conv=>whnf
  refine yt1 16 rfl ?_
  conv=>whnf
  refine yt 17 rfl ?_
  conv=>whnf
  refine yd1 [18] (zx rfl ?_ zy)
  conv=>whnf
  refine Yk ?_
  refine yw ?_
  skip
  refine V ?_
  refine fin_mem ⟨{hdV k f t ep att ts with num:=s.p.n 8,snap:=Sn.sdV ((s.rd 8).p.by (s.rd 8).l.length),v:=fun i=>if i=3 then z.a else if i=4 then z.b else nilV},(by rw[hR,hM];unfold ackP;rw[<-rd_p,hT];rfl),fun i=>?_⟩ (fun e=>rfl) fun w' hs hE hF=>?_
  ·dsimp only;split;exact z.ha;split;exact z.hb;rfl
  ·have h0:=new_ok hE.2.1 (fun b h=>.inl ⟨h,fun h=>h⟩) (fun b hb=>hF b (.inr hb))
   exact{mok_nil (k:=k) (f:=f) (t:=t) (e:=ep) (a:=att) (s:=ts) (n:=0) (p:=pk0) with s:=hE.2.2.1.mono h0}
 by_cases k6:k=6
 ·have hR:readP ⟨b,0⟩=beatP s.p (hdM ⟨b,0⟩):=by unfold readP;rw[hk,hP,if_neg k1,if_neg k3,if_neg k4,if_neg k5,if_pos k6]
  refine Sy.findC_int [1,3,4,5,6,8] k (some 4) (by rw[k6];rfl) (V ?_)
  refine Sy.call_in Sy.lv86 Sy.tab_ok Tryz.func86 rfl _ Tryz.ntmps86 Tryz.call86 rfl (fun _=>?_)
  refine V ?_
  refine Sy.call_ownG (lsI_does gs (hdV k f t ep att ts)) Tryz.call138 (YL ?_) (fun e a w' F' h hF'=>XD.ok.mono (h.ev w' fun _ _=>rfl).2.2 hF') (fun _ _ _ _ h hk=>XD.ok.keep h (fun _ h=>h) hk)
  intro _ _ _
  conv=>whnf
  rename_i y hy G1
  refine V ?_
  refine Sy.call_ownG (lsI_does hy.2.1 (hdV k f t ep att ts)) Tryz.call138 (YL ?_) (fun e a w' F' h hF'=>XD.ok.mono (h.ev w' fun _ _=>rfl).1.2.2 fun b hb=>hF' b (.inl hb)) (fun _ _ _ _ h hk=>XD.ok.keep h (fun _ h=>h) hk)
  intro _ _ _
  conv=>whnf
  rename_i z _ G2
  refine V ?_
  refine fin_mem ⟨{hdV k f t ep att ts with up:=(lstP inI s.p).2,ended:=(lstP inI y.1.p).2,v:=fun i=>if i=6 then y.2.v else if i=7 then z.2.v else nilV},(by rw[hR,hM];unfold beatP;rw[<-hy.1];rfl),fun i=>?_⟩ (fun e=>rfl) fun w' hs hE hF=>?_
  ·dsimp only;split;exact y.2.h;split;exact z.2.h;rfl
  ·have h1:=new_ok hE.1.2.1 (fun b h=>.inl ⟨h,fun h=>h⟩) (fun b hb=>hF b (.inl (.inr hb)))
   have h2:=new_ok hE.2.1 (fun b h=>.inl (.inl ⟨h,fun h=>h⟩)) (fun b hb=>hF b (.inr hb))
   exact{mok_nil (k:=k) (f:=f) (t:=t) (e:=ep) (a:=att) (s:=ts) (n:=0) (p:=pk0) with u:=XD.ok.mono hE.1.2.2.1 h1,e:=XD.ok.mono hE.2.2.1 h2}
 by_cases k8:k=8
 ·have hR:readP ⟨b,0⟩=dataP s.p (hdM ⟨b,0⟩):=by unfold readP;rw[hk,hP,if_neg k1,if_neg k3,if_neg k4,if_neg k5,if_neg k6,if_pos k8]
  refine Sy.findC_int [1,3,4,5,6,8] k (some 5) (by rw[k8];rfl) (V ?_)
  refine Sy.call_in Sy.lv87 Sy.tab_ok Tryz.func87 rfl _ Tryz.ntmps87 Tryz.call87 rfl (fun _=>?_)
  refine V ?_
  refine Sy.drawB2_go [2] [1] [22] (by kernel_rfl) ?_
  intro e0
  conv=>whnf
  refine yt 0 rfl ?_
  conv=>whnf
  refine yt 1 rfl ?_
  conv=>whnf
  refine yt 3 rfl ?_
  conv=>whnf
  refine yt 4 rfl ?_
  conv=>whnf
  refine yt 5 rfl ?_
  conv=>whnf
  refine yt 6 rfl ?_
  conv=>whnf
  refine yt 8 rfl ?_
  conv=>whnf
  refine yt 9 rfl ?_
  conv=>whnf
  refine yt 10 rfl ?_
  conv=>whnf
  refine yt 11 rfl ?_
  conv=>whnf
  refine yt 13 rfl ?_
  conv=>whnf
  refine yt 14 rfl ?_
  conv=>whnf
  refine yt 15 rfl ?_
  conv=>whnf
  refine yt 16 rfl ?_
  conv=>whnf
  refine yd1 [2] (zx rfl ?_ zy)
  conv=>whnf
  refine Sy.call_own (small_does gs (hdV k f t ep att ts)) Tryz.call80 (YL ?_) (fun e a w' F' h hF'=>XD.ok.mono (h.ev w' fun _ _=>rfl).2.2 hF')
  intro _ _ _
  conv=>whnf
  refine Yk ?_
  refine yd1 [7] (zx rfl ?_ zy)
  conv=>whnf
  refine Sy.call_own (u32_does (gs.rd 1)) Tryz.call78 (YL ?_) (fun e a w' F' h hF'=>XD.ok.mono (h.ev w' fun _ _=>rfl).2.2 hF')
  intro _ _ _
  conv=>whnf
  rw[by_p]
  refine Yk ?_
  refine yd1 [12] (zx rfl ?_ zy)
  conv=>whnf
  refine Sy.call_own (u64_does ((gs.rd 1).rd 4)) Tryz.call81 (YL ?_) (fun e a w' F' h hF'=>XD.ok.mono (h.ev w' fun _ _=>rfl).2.2 hF')
  intro _ _ _
  conv=>whnf
  rw[by_p]
  refine Yk ?_
  refine yd1 [17] (zx rfl ?_ zy)
  conv=>whnf
  refine Sy.call_own (u64_does (((gs.rd 1).rd 4).rd 8)) Tryz.call81 (YL ?_) (fun e a w' F' h hF'=>XD.ok.mono (h.ev w' fun _ _=>rfl).2.2 hF')
  intro _ _ _
  conv=>whnf
  rw[by_p]
  refine Yk ?_
  refine yt 18 rfl ?_
  conv=>whnf
  refine yt1 19 rfl ?_
  conv=>whnf
  refine yt1 20 rfl ?_
  conv=>whnf
  refine yt 21 rfl ?_
  conv=>whnf
  refine yd1 [22] (zx rfl ?_ zy)
  conv=>whnf
  refine Yk ?_
  refine yw ?_
  skip
  have hR:readP ⟨b,0⟩={hdM ⟨b,0⟩ with pkt:=⟨s.p.n 1,(s.rd 1).p.n 4,((s.rd 1).rd 4).p.n 8,(((s.rd 1).rd 4).rd 8).p.n 8,one1 (recD ⟨rawP ((((s.rd 1).rd 4).rd 8).rd 8).p,0⟩).1⟩}:=by rw[hR];unfold dataP;simp only[rd_p]
  have g4:=(((gs.rd 1).rd 4).rd 8).rd 8
  have hl4:=Nat.le_trans (rd_len (((s.rd 1).rd 4).rd 8) 8) (Nat.le_trans (rd_len _ 8) (Nat.le_trans (rd_len _ 4) (Nat.le_trans (rd_len s 1) hl)))
  generalize(((s.rd 1).rd 4).rd 8).rd 8=s4 at *
  generalize(((s.rd 1).rd 4).rd 8).p.n 8=a4 at *
  generalize((s.rd 1).rd 4).p.n 8=a3 at *
  generalize(s.rd 1).p.n 4=a2 at *
  generalize s.p.n 1=a1 at *
  refine V ?_
  refine Sy.call_own (some_does g4 {hdV k f t ep att ts with pkt:=⟨a1,a2,a3,a4,⟨0,⟨0,0,0⟩,0⟩⟩}) Tryz.call130 (YL ?_) (fun e a w' F' h hF'=>XD.ok.mono (h.ev w' fun _ _=>rfl).2.2 hF')
  intro _ _ _
  conv=>whnf
  refine V ?_
  have hW:rawP s4.p=(s4.rd 2).p.by (s4.p.n 2).toNat:=by unfold rawP;rw[rd_p]
  have hB:Sn.bytesOk (rawP s4.p)/\(rawP s4.p).length<=100000:=by rw[hW];exact⟨(g4.rd 2).by _,Nat.le_trans (by_len _ _) (Nat.le_trans (rd_len _ _) (by omega))⟩
  refine Sy.call_r1 ⟨45,5,(recD ⟨rawP s4.p,0⟩).1.length,(recD ⟨rawP s4.p,0⟩).1.map encE⟩ (fun j=>.tup [.c (.row j),.c (.v (.int .i64 (recD ⟨rawP s4.p,0⟩).2))]) Tryz.call139 (fun e a w' h=>rec_any _ (rawP s4.p) w' (by rw[hW];exact rv_ok ((g4.rd 2).ok _ _ (XD.ok.mono (h.ev w' fun _ _=>rfl).2.2 h.fl)) _) hB.1 hB.2) ?_
  generalize(recD ⟨rawP s4.p,0⟩).1=l at *
  by_cases h1:l.length=1
  ·obtain⟨x,rfl⟩:=List.length_eq_one_iff.1 h1
   refine V ?_
   refine Sy.el_map x rfl (V ?_)
   exact fin_mem ⟨{hdV k f t ep att ts with pkt:=⟨a1,a2,a3,a4,x⟩},(by rw[hR,hM];rfl),fun _=>rfl⟩ (fun e=>rfl) fun w' hs hE hF=>mok_nil
  ·refine V (Y1 fun hh=>?_)
   exact fin_mem ⟨{hdV k f t ep att ts with pkt:=⟨a1,a2,a3,a4,⟨0,⟨0,0,0⟩,0⟩⟩},(by rw[hR,hM,one1_no h1];rfl),fun _=>rfl⟩ (fun e=>rfl) fun w' hs hE hF=>mok_nil
 have hR:readP ⟨b,0⟩=hdM ⟨b,0⟩:=by unfold readP;rw[hk,if_neg k1,if_neg k3,if_neg k4,if_neg k5,if_neg k6,if_neg k8]
 refine Sy.findC_int [1,3,4,5,6,8] k none (by rw[List.findIdx?_eq_none_iff];simp;omega) (V ?_)
 exact fin_mem ⟨hdV k f t ep att ts,(by rw[hR,hM];rfl),fun _=>rfl⟩ (fun e=>rfl) fun w' hs hE hF=>mok_nil
end Go.Proofs.YtgkkpefpbfadoaaGreat
