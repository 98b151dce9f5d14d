/- Frame: what was sealed; Decode. -/
import Derived.Test.YtgkkpefpbfadoaaGreatDk9
import Derived.Test.YtgkkpefpbfadoaaGreatDk38
import Derived.Test.YtgkkpefpbfadoaaGreatDk34
namespace Go.Proofs.YtgkkpefpbfadoaaGreat
open Go Go.RowKit
open Sy (C SV V1 Blk St XD Els)
set_option maxRecDepth 10000
theorem cloneS_any (v:Value)(bs:List Int)(w:World)(hr:XD.ok (fun b=>b<w.heap.size) w ⟨v,1,bs.length,bs.map encB⟩)(hb:bs.length<=1000000):
 Calls Tryz.prog 79 #[v] w (Sy.RetRows Sy.noRow (fun _:Unit=>True) (fun _=>[⟨5,1,bs.length,bs.map encB⟩]) (fun _ vs=>vs.headD undef) w):=by
 refine Sy.calls_of Sy.lv79 Sy.tab_ok Tryz.func79 rfl _ Tryz.ntmps79 [⟨v,1,bs.length,bs.map encB⟩] [.c (.row 0)] rfl rfl rfl ⟨hr,trivial⟩ (V ?_)
 refine Sy.nil_of (fun h0=>?_) ?_
 ·refine V ?_
  exact Sy.fin_r1 (.v (.slice none 0 0)) ⟨h0,by rw[List.length_eq_zero_iff] at h0;rw[h0];rfl⟩
 ·refine V ?_
  refine Sy.need_of (by show(0+bs.length)*1<=_/\_;omega) (V ?_)
  refine Sy.fin_r1 (.row 2) ?_
  show some (Blk.row 5 1 (0+bs.length) (.vs (bs.map encB)))=_
  rw[Nat.zero_add]
def opnE (b:List Int):Int:=if b.length<4 then 7 else if(⟨b.drop (b.length-4),0⟩:Ps).n 4≠sumV (b.take (b.length-4)) then 130 else 0
def opnV (b:List Int):List Int:=if opnE b=0 then b.take (b.length-4) else[]
attribute [local irreducible] Rs.rd Rs.by Rs.rv Ps.rd Ps.n Ps.by
theorem open_any (v:Value)(b:List Int)(w:World)(hr:XD.ok (fun x=>x<w.heap.size) w ⟨v,1,b.length,b.map encB⟩)(b8:Sn.bytesOk b)(hb:b.length<=100000):
 Calls Tryz.prog 30 #[v] w (Sy.RetRows Sy.noRow (fun _:Unit=>True) (fun _=>[⟨5,1,(opnV b).length,(opnV b).map encB⟩]) (fun _ vs=>.tuple #[vs.headD undef,.int .i64 (opnE b)]) w):=by
 refine Sy.calls_of Sy.lv30 Sy.tab_ok Tryz.func30 rfl _ Tryz.ntmps30 [⟨v,1,b.length,b.map encB⟩] [.c (.row 0)] rfl rfl rfl ⟨hr,trivial⟩ ?_
 by_cases h4:b.length<4
 ·have hE:opnE b=7:=if_pos h4
  have hV:opnV b=[]:=if_neg (by rw[hE];decide)
  rw[hE,hV]
  refine V (Y1 fun hh=>?_)
  exact Sy.fin_r1 (.v (.slice none 0 0)) ⟨rfl,rfl⟩ (fun e=>rfl)
 have hE:opnE b=if(⟨b.drop (b.length-4),0⟩:Ps).n 4≠sumV (b.take (b.length-4)) then 130 else 0:=if_neg h4
 obtain⟨n,hn⟩:∃n,n=b.length-4:=⟨_,rfl⟩
 rw[<-hn] at hE
 have hx:((b.length:Int)-4)=(n:Int):=by omega
 have el:List.take (b.length-n) (List.drop n (b.map encB))=(b.drop n).map encB:=by
  rw[<-List.map_drop,List.take_of_length_le (by rw[List.length_map,List.length_drop];exact Nat.le_refl _)]
 have ell:b.length-n=(b.drop n).length:=by rw[List.length_drop]
 have fl:List.take (n-0) (List.drop 0 (b.map encB))=(b.take n).map encB:=by rw[Nat.sub_zero,List.drop_zero,List.map_take]
 have fll:n-0=(b.take n).length:=by rw[List.length_take];omega
 have d8:Sn.bytesOk (b.drop n):=fun c hc=>b8 c (List.mem_of_mem_drop hc)
 have t8:Sn.bytesOk (b.take n):=fun c hc=>b8 c (List.mem_of_mem_take hc)
 refine V (Y1 fun hh=>?_)
 rw[hx]
 refine Sy.draw_go [] (by kernel_rfl) ?_
 intro e0
 conv=>whnf
 refine zt 0 rfl ?_
 conv=>whnf
 refine zt 1 rfl ?_
 conv=>whnf
 refine zt 5 rfl ?_
 conv=>whnf
 refine zt 6 rfl ?_
 conv=>whnf
 focus
  refine zd1 [2,7] (zx rfl ?_ (zx rfl ?_ zy))
  focus
   conv=>whnf
   refine Sy.sli_eq n b.length rfl rfl ⟨by omega,by omega⟩ ?_
   conv=>whnf
   rw[el,ell]
   refine Yk ?_
   focus
    refine zd1 [3,7] (zx rfl ?_ (zx rfl ?_ zy))
    focus
     conv=>whnf
     refine Sy.call_in Sy.lv77 Sy.tab_ok Tryz.func77 rfl _ Tryz.ntmps77 Tryz.call77 rfl (fun _=>?_)
     refine V ?_
     refine Sy.call_mem (fun(x:Sc) G w'=>XD.ok (fun b=>G b/\0<=b) w' (x.xd (b.drop n))) (fun x=>.c (.v (x.v (b.drop n)))) Tryz.call126 (fun x=>rfl) (fun x G G' w1 w2 h hG hk=>XD.ok.keep h (fun b hb=>⟨hG b hb.1,hb.2⟩) fun b hb=>hk b hb.1) (fun e a w' h=>clone_mem 0 _ (b.drop n) w' (Nat.zero_le _) (Sy.row_reads h (.inr rfl)) (by omega)) (fun x G=>?_)
     refine V ?_
     refine Yk ?_
     focus
      refine zd1 [4,7] (zx rfl ?_ (zx rfl ?_ zy))
      focus
       conv=>whnf
       refine Sy.call_own (u32_does (x.rg d8)) Tryz.call78 (YL ?_) (fun e a w' F' h hF'=>XD.ok.mono (h.ev w' fun _ _=>rfl).2 fun b hb=>hF' b hb.1)
       intro _ _ _
       conv=>whnf
       rw[by_p]
       refine Yk ?_
       refine zd1 [7] (zx rfl ?_ zy)
       conv=>whnf
       refine Sy.sli_eq 0 n rfl rfl ⟨by omega,by omega⟩ ?_
       conv=>whnf
       rw[fl,fll]
       refine Yk ?_
       refine zd1 [8] (zx rfl ?_ zy)
       conv=>whnf
       refine Sy.call_val (.c (.v (.int .u32 (sumV (b.take n))))) Tryz.call58 rfl (fun e a w' h=>sum_any _ (b.take n) w' (Sy.row_reads h (.inr rfl)) t8) ?_
       conv=>whnf
       refine Yk ?_
       refine zt 9 rfl (V ?_)
       refine zt 10 rfl ?_
       conv=>whnf
       refine zw ?_
       skip
      rotate_right
      focus
       conv=>whnf
       refine Sy.sli_eq 0 n rfl rfl ⟨by omega,by omega⟩ ?_
       conv=>whnf
       rw[fl,fll]
       refine Yk ?_
       refine zd1 [4] (zx rfl ?_ zy)
       conv=>whnf
       refine Sy.call_own (u32_does (x.rg d8)) Tryz.call78 (YL ?_) (fun e a w' F' h hF'=>XD.ok.mono (h.ev w' fun _ _=>rfl).2 fun b hb=>hF' b hb.1)
       intro _ _ _
       conv=>whnf
       rw[by_p]
       refine Yk ?_
       refine zd1 [8] (zx rfl ?_ zy)
       conv=>whnf
       refine Sy.call_val (.c (.v (.int .u32 (sumV (b.take n))))) Tryz.call58 rfl (fun e a w' h=>sum_any _ (b.take n) w' (Sy.row_reads h (.inr rfl)) t8) ?_
       conv=>whnf
       refine Yk ?_
       refine zt 9 rfl (V ?_)
       refine zt 10 rfl ?_
       conv=>whnf
       refine zw ?_
       skip
    rotate_right
    focus
     conv=>whnf
     refine Sy.sli_eq 0 n rfl rfl ⟨by omega,by omega⟩ ?_
     conv=>whnf
     rw[fl,fll]
     refine Yk ?_
     refine zd1 [3] (zx rfl ?_ zy)
     conv=>whnf
     refine Sy.call_in Sy.lv77 Sy.tab_ok Tryz.func77 rfl _ Tryz.ntmps77 Tryz.call77 rfl (fun _=>?_)
     refine V ?_
     refine Sy.call_mem (fun(x:Sc) G w'=>XD.ok (fun b=>G b/\0<=b) w' (x.xd (b.drop n))) (fun x=>.c (.v (x.v (b.drop n)))) Tryz.call126 (fun x=>rfl) (fun x G G' w1 w2 h hG hk=>XD.ok.keep h (fun b hb=>⟨hG b hb.1,hb.2⟩) fun b hb=>hk b hb.1) (fun e a w' h=>clone_mem 0 _ (b.drop n) w' (Nat.zero_le _) (Sy.row_reads h (.inr rfl)) (by omega)) (fun x G=>?_)
     refine V ?_
     refine Yk ?_
     refine zd1 [4] (zx rfl ?_ zy)
     conv=>whnf
     refine Sy.call_own (u32_does (x.rg d8)) Tryz.call78 (YL ?_) (fun e a w' F' h hF'=>XD.ok.mono (h.ev w' fun _ _=>rfl).2 fun b hb=>hF' b hb.1)
     intro _ _ _
     conv=>whnf
     rw[by_p]
     refine Yk ?_
     refine zd1 [8] (zx rfl ?_ zy)
     conv=>whnf
     refine Sy.call_val (.c (.v (.int .u32 (sumV (b.take n))))) Tryz.call58 rfl (fun e a w' h=>sum_any _ (b.take n) w' (Sy.row_reads h (.inr rfl)) t8) ?_
     conv=>whnf
     refine Yk ?_
     refine zt 9 rfl (V ?_)
     refine zt 10 rfl ?_
     conv=>whnf
     refine zw ?_
     skip
  rotate_right
  focus
   conv=>whnf
   refine Sy.sli_eq 0 n rfl rfl ⟨by omega,by omega⟩ ?_
   conv=>whnf
   rw[fl,fll]
   refine Yk ?_
   refine zd1 [2] (zx rfl ?_ zy)
   conv=>whnf
   refine Sy.sli_eq n b.length rfl rfl ⟨by omega,by omega⟩ ?_
   conv=>whnf
   rw[el,ell]
   refine Yk ?_
   refine zd1 [3] (zx rfl ?_ zy)
   conv=>whnf
   refine Sy.call_in Sy.lv77 Sy.tab_ok Tryz.func77 rfl _ Tryz.ntmps77 Tryz.call77 rfl (fun _=>?_)
   refine V ?_
   refine Sy.call_mem (fun(x:Sc) G w'=>XD.ok (fun b=>G b/\0<=b) w' (x.xd (b.drop n))) (fun x=>.c (.v (x.v (b.drop n)))) Tryz.call126 (fun x=>rfl) (fun x G G' w1 w2 h hG hk=>XD.ok.keep h (fun b hb=>⟨hG b hb.1,hb.2⟩) fun b hb=>hk b hb.1) (fun e a w' h=>clone_mem 0 _ (b.drop n) w' (Nat.zero_le _) (Sy.row_reads h (.inr rfl)) (by omega)) (fun x G=>?_)
   refine V ?_
   refine Yk ?_
   refine zd1 [4] (zx rfl ?_ zy)
   conv=>whnf
   refine Sy.call_own (u32_does (x.rg d8)) Tryz.call78 (YL ?_) (fun e a w' F' h hF'=>XD.ok.mono (h.ev w' fun _ _=>rfl).2 fun b hb=>hF' b hb.1)
   intro _ _ _
   conv=>whnf
   rw[by_p]
   refine Yk ?_
   refine zd1 [8] (zx rfl ?_ zy)
   conv=>whnf
   refine Sy.call_val (.c (.v (.int .u32 (sumV (b.take n))))) Tryz.call58 rfl (fun e a w' h=>sum_any _ (b.take n) w' (Sy.row_reads h (.inr rfl)) t8) ?_
   conv=>whnf
   refine Yk ?_
   refine zt 9 rfl (V ?_)
   refine zt 10 rfl ?_
   conv=>whnf
   refine zw ?_
   skip
 all_goals
  rw[show(x.rs (b.drop n)).p=⟨b.drop n,0⟩ from rfl]
  generalize(⟨b.drop n,0⟩:Ps).n 4=z at *
  by_cases hz:z=sumV (b.take n)
  ·have hE:opnE b=0:=hE.trans (if_neg fun h=>h hz)
   have hV:opnV b=b.take n:=by unfold opnV;rw[if_pos hE,hn]
   rw[hE,hV]
   refine V ?_
   refine Sy.need_of ⟨by omega,by omega⟩ ?_
   conv=>whnf
   refine Sy.sli_eq 0 n rfl rfl ⟨by omega,by omega⟩ ?_
   conv=>whnf
   rw[fl,fll]
   refine Sy.call_r1 ⟨5,1,(b.take n).length,(b.take n).map encB⟩ (fun j=>.c (.row j)) Tryz.call79 (fun e a w' h=>cloneS_any _ (b.take n) w' (Sy.row_reads h (.inr rfl)) (by omega)) (V ?_)
   exact Sy.fin_r1 (.row 5) rfl (fun e=>rfl)
  ·have hE:opnE b=130:=hE.trans (if_pos hz)
   have hV:opnV b=[]:=if_neg (by rw[hE];decide)
   rw[hE,hV]
   refine V ?_
   exact Sy.fin_r1 (.v (.slice none 0 0)) ⟨rfl,rfl⟩ (fun e=>rfl)
end Go.Proofs.YtgkkpefpbfadoaaGreat
namespace Go.Proofs.YtgkkpefpbfadoaaGreat
open Go Go.RowKit
open Sy (C SV V1 Blk St XD Els)
set_option maxRecDepth 10000
theorem Ps.rd_b {p:Ps}(h:Sn.bytesOk p.l)(k:Nat):Sn.bytesOk (p.rd k).l:=by
 unfold Ps.rd
 split
 ·exact h
 ·split
  ·exact h
  ·exact fun c hc=>h c (List.mem_of_mem_drop hc)
theorem Ps.n_b {p:Ps}(h:Sn.bytesOk p.l)(k:Nat):0<=p.n k/\p.n k<256^k:=by
 unfold Ps.n Ps.by
 split
 ·exact⟨by decide,Int.pow_pos (by decide)⟩
 ·exact Sn.take_bound h k
theorem lst_len {α:Type}(f:Ps->Ps×α):∀(n:Nat)(p:Ps),(lstN f n p).2.length<=n
 |0,p=>Nat.le_refl _
 |n+1,p=>by
  unfold lstN
  split
  ·exact Nat.zero_le _
  ·exact Nat.succ_le_succ (lst_len f n _)
theorem readP_hd {p:Ps}(h:Sn.bytesOk p.l):I64 (readP p).src/\I64 (readP p).dst/\(readP p).ins.length<=255:=by
 have h1:=Ps.rd_b h 1
 have e1:=Ps.n_b h1 1
 have h2:=Ps.rd_b h1 1
 have e2:=Ps.n_b h2 1
 have h6:=Ps.rd_b (Ps.rd_b (Ps.rd_b (Ps.rd_b h2 1) 1) 8) 4
 have h8:=Ps.n_b (Ps.rd_b (Ps.rd_b h6 2) ((hdP p).n 2).toNat) 1
 have hl:=lst_len inP ((someP (hdP p)).n 1).toNat ((someP (hdP p)).rd 1)
 have h8:0<=(someP (hdP p)).n 1/\(someP (hdP p)).n 1<256^1:=h8
 have e3:(lstP inP (someP (hdP p))).2.length<=255:=Nat.le_trans hl (by omega)
 unfold readP I64
 repeat' split
 ·exact⟨⟨by show _<=(p.rd 1).n 1;omega,by show(p.rd 1).n 1<=_;omega⟩,⟨by show _<=((p.rd 1).rd 1).n 1;omega,by show((p.rd 1).rd 1).n 1<=_;omega⟩,e3⟩
 all_goals exact⟨⟨by show _<=(p.rd 1).n 1;omega,by show(p.rd 1).n 1<=_;omega⟩,⟨by show _<=((p.rd 1).rd 1).n 1;omega,by show((p.rd 1).rd 1).n 1<=_;omega⟩,Nat.zero_le _⟩
theorem MOk.keep {F F':Nat->Prop}{w w':World}{m:MsgV}(h:MOk F w m)(hF:∀b,F b->F' b)(hk:∀b,F b->w'.heap[b]?=w.heap[b]?):MOk F' w' m:=
 ⟨⟨XD.ok.keep h.g.1 hF hk,fun o ho=>(h.g.2 o ho).keep hF hk⟩,XD.ok.keep h.i hF hk,fun x hx=>XD.ok.keep (h.ir x hx) hF hk,XD.ok.keep h.p hF hk,⟨XD.ok.keep h.s.rows hF hk,XD.ok.keep h.s.txs hF hk⟩,XD.ok.keep h.n hF hk,XD.ok.keep h.u hF hk,XD.ok.keep h.e hF hk⟩
theorem cells_lt {n:Nat}{m:MsgV}(h:∀i,(m.v i).oneCell'=true):Sy.ltAll n (cellsM C.v m fun i=>.v (m.v i))=true:=by
 show Sy.ltAll n [_,_,_,_,_,_,_,C.v (m.v 0),C.v (m.v 1),C.v (m.v 2),_,_,_,_,C.v (m.v 3),_,_,_,_,_,_,_,_,C.v (m.v 4),C.v (m.v 5),C.v (m.v 6),C.v (m.v 7),_,_,_,_,_,_,_,_,_]=true
 simp only[Sy.ltAll,C.lt,h]
 rfl
def msg0:Msg:=⟨0,0,0,0,0,0,0,[],[],[],Sn.sn0,[],[],[],pk0⟩
def decM (b:List Int):Msg×Int:=if opnE b=0/\okM (readP ⟨opnV b,0⟩)/\layB (readP ⟨opnV b,0⟩)=opnV b then(readP ⟨opnV b,0⟩,0) else(msg0,371)
theorem dec_tup {b:List Int}{m:MsgV}{q:Int}(h:(decM b).2=q):Value.tuple #[.agg (encM m).toArray,.int .i64 q]=.tuple #[.agg (encM m).toArray,.int .i64 (decM b).2]:=by rw[h]
structure Dv (b:List Int) where
 m:MsgV
 h:m.msg=(decM b).1
 one:∀i,(m.v i).oneCell'=true
attribute [local irreducible] readP opnV opnE okM layB
set_option maxHeartbeats 4000000 in
theorem fdec_any (v:Value)(b:List Int)(w:World)(hr:XD.ok (fun x=>x<w.heap.size) w ⟨v,1,b.length,b.map encB⟩)(b8:Sn.bytesOk b)(hb:b.length<=100000):
 Calls Tryz.prog 13 #[v] w (Sy.RetMem (fun(x:Dv b) G w'=>MOk G w' x.m) (fun x=>.tuple #[.agg (encM x.m).toArray,.int .i64 (decM b).2]) w):=by
 refine Sy.calls_of Sy.lv13 Sy.tab_ok Tryz.func13 rfl _ Tryz.ntmps13 [⟨v,1,b.length,b.map encB⟩] [.c (.row 0)] rfl rfl rfl ⟨hr,trivial⟩ (V ?_)
 refine Sy.call_r1 ⟨5,1,(opnV b).length,(opnV b).map encB⟩ (fun j=>.tup [.c (.row j),.c (.v (.int .i64 (opnE b)))]) Tryz.call30 (fun e a w' h=>open_any _ b w' (Sy.row_reads h (.inr rfl)) b8 hb) ?_
 by_cases h0:opnE b=0
 ·have o8:Sn.bytesOk (opnV b):=by unfold opnV;rw[if_pos h0];exact fun c hc=>b8 c (List.mem_of_mem_take hc)
  have ol:(opnV b).length<=100000:=by unfold opnV;rw[if_pos h0,List.length_take];omega
  rw[h0]
  refine V ?_
  refine Sy.call_memG (fun(x:Mv (opnV b)) G w'=>MOk G w' x.m) (fun x=>.agg (cellsM C.v x.m fun i=>.v (x.m.v i))) Tryz.call31 (fun x=>cells_lt x.one) (fun _ _ _ _ h hk=>h.keep (fun _ h=>h) hk) (fun e a w' h=>read_any _ (opnV b) w' (Sy.row_reads h (.inl ⟨_,rfl⟩)) o8 ol) (fun x G=>?_)
  obtain⟨e1,e2,e3⟩:=readP_hd (p:=⟨opnV b,0⟩) o8
  rw[<-x.h] at e1 e2 e3
  have e3:(insOf x.m.il).length<=255:=e3
  rw[insOf_len] at e3
  have hD:decM b=if okM x.m.msg/\layB x.m.msg=opnV b then(x.m.msg,0) else(msg0,371):=by
   unfold decM
   rw[<-x.h]
   by_cases hc:okM x.m.msg/\layB x.m.msg=opnV b
   ·rw[if_pos ⟨h0,hc⟩,if_pos hc]
   ·rw[if_neg (fun h=>hc h.2),if_neg hc]
  refine V ?_
  refine Sy.call_val (.c (.v (.int .i64 (if okM x.m.msg then 0 else 370)))) Tryz.call19 rfl (fun e a w' h=>fcheck_any x.m w' ((h.ev w' fun _ _=>rfl).2.2.1.mono fun b hb=>h.fl b (.inr hb)) (by omega) e1 e2) ?_
  by_cases hok:okM x.m.msg
  ·rw[if_pos hok]
   refine V ?_
   refine Sy.call_r1 ⟨5,1,(layB x.m.msg).length,(layB x.m.msg).map encB⟩ (fun j=>.c (.row j)) Tryz.call21 (fun e a w' h=>flay_any x.m w' ((h.ev w' fun _ _=>rfl).2.2.1.mono fun b hb=>h.fl b (.inr hb)) hok) (V ?_)
   refine Sy.call_in Sy.lv18 Sy.tab_ok Tryz.func18 rfl _ Tryz.ntmps18 Tryz.call18 rfl (fun _=>?_)
   refine V ?_
   refine Sy.call_val (.c (.v (.bool (decide (layB x.m.msg=opnV b))))) Tryz.call53 rfl (fun e a w' h=>by
    have:=bytesEq_any _ _ (layB x.m.msg) (opnV b) w' (Sy.row_reads h (k:=4) (.inl ⟨_,rfl⟩)) (Sy.row_reads h (k:=2) (.inl ⟨_,rfl⟩))
    rw[bytesEq_dec (layB_by _) o8] at this
    exact this) ?_
   by_cases hq:layB x.m.msg=opnV b
   ·rw[decide_eq_true hq]
    rw[if_pos ⟨hok,hq⟩] at hD
    refine V ?_
    exact fin_mem ⟨x.m,by rw[hD],x.one⟩ (fun e=>dec_tup (by rw[hD])) fun w' hs hE hF=>hE.2.2.1.mono (new_ok hE.2.1 (fun b h=>⟨h,fun h=>h⟩) fun b hb=>hF b (.inr hb))
   ·rw[decide_eq_false hq]
    rw[if_neg (fun h=>hq h.2)] at hD
    refine V ?_
    exact fin_mem ⟨hdV 0 0 0 0 0 0,by rw[hD];rfl,fun _=>rfl⟩ (fun e=>dec_tup (m:=hdV 0 0 0 0 0 0) (by rw[hD])) fun w' hs hE hF=>mok_nil
  ·rw[if_neg hok]
   rw[if_neg (fun h=>hok h.1)] at hD
   refine V ?_
   exact fin_mem ⟨hdV 0 0 0 0 0 0,by rw[hD];rfl,fun _=>rfl⟩ (fun e=>dec_tup (m:=hdV 0 0 0 0 0 0) (by rw[hD])) fun w' hs hE hF=>mok_nil
 ·have hD:decM b=(msg0,371):=if_neg fun h=>h0 h.1
  refine V ?_
  exact fin_mem ⟨hdV 0 0 0 0 0 0,by rw[hD];rfl,fun _=>rfl⟩ (fun e=>dec_tup (m:=hdV 0 0 0 0 0 0) (by rw[hD])) fun w' hs hE hF=>mok_nil
end Go.Proofs.YtgkkpefpbfadoaaGreat
namespace Go.Proofs.YtgkkpefpbfadoaaGreat.Sn
set_option maxRecDepth 10000
def InK (x:Kc):Prop:=(-9223372036854775808<=x.cnt/\x.cnt<=9223372036854775807)/\(-9223372036854775808<=x.sum/\x.sum<=9223372036854775807)
theorem num_beN:∀(n:Nat){x:Int},0<=x/\x<256^n->num (beN x n)=x
 |0,x,h=>by
  have:x<1:=h.2
  have e:x=0:=by omega
  subst e;rfl
 |n+1,x,h=>by
  rw[beN_succ x h.1,num_snoc]
  have e:x.fdiv 256=x/256:=Int.fdiv_eq_ediv_of_nonneg _ (by decide)
  have h2:=h.2
  rw[Int.pow_succ] at h2
  rw[e,num_beN n ⟨by omega,by omega⟩,b8_eq]
  omega
theorem i64_u64 {x:Int}(h:-9223372036854775808<=x/\x<=9223372036854775807):IntKind.i64.wrap (u64w x)=x/\0<=u64w x/\u64w x<256^8:=by
 have e:(256:Int)^8=18446744073709551616:=by decide
 rw[e]
 unfold u64w
 rw[IntKind.wrap_i64,IntKind.wrap_u64]
 omega
theorem take_app {α:Type}{a b:List α}{n:Nat}(h:a.length=n):(a++b).take n=a:=by rw[<-h,List.take_left'];rfl
theorem drop_app {α:Type}{a b:List α}{n:Nat}(h:a.length=n):(a++b).drop n=b:=by rw[<-h,List.drop_left'];rfl
theorem num_one {x:Int}(h:0<=x/\x<256):num [b8 x]=x:=by
 rw[b8_of h]
 show 0*256+x=x
 omega
theorem kOf_kBs {x:Kc}(h:recP x.src x.key)(hi:InK x)(r:List Int):kOf (kBs x++r)=x:=by
 unfold recP at h
 have e1:=i64_u64 hi.1
 have e2:=i64_u64 hi.2
 have l1:=beN_len (u64w x.cnt) 8
 have l2:=beN_len (u64w x.sum) 8
 have s0:kBs x++r=[b8 x.src]++([b8 x.key]++(beN (u64w x.cnt) 8++(beN (u64w x.sum) 8++r))):=by unfold kBs;simp
 have d1:(kBs x++r).drop 1=[b8 x.key]++(beN (u64w x.cnt) 8++(beN (u64w x.sum) 8++r)):=by rw[s0];rfl
 have d2:(kBs x++r).drop 2=beN (u64w x.cnt) 8++(beN (u64w x.sum) 8++r):=by rw[s0];rfl
 have d10:(kBs x++r).drop 10=beN (u64w x.sum) 8++r:=by
  rw[show 10=2+8 from rfl,<-List.drop_drop,d2,drop_app l1]
 unfold kOf
 rw[d1,d2,d10,take_app l1,take_app l2,num_beN 8 e1.2,num_beN 8 e2.2,e1.1,e2.1,s0,take_app (n:=1) (a:=[b8 x.src]) rfl,take_app (n:=1) (a:=[b8 x.key]) rfl,num_one (by omega),num_one (by omega)]
theorem nOf_nBs {x:Tx}(h:okN x)(r:List Int):nOf (nBs x++r)=x:=by
 unfold okN at h
 have l1:=beN_len x.att 4
 have l2:=beN_len x.ser 4
 have e:(256:Int)^4=4294967296:=by decide
 have s0:nBs x++r=[b8 x.sink]++(beN x.att 4++(beN x.ser 4++r)):=by unfold nBs;simp
 have d1:(nBs x++r).drop 1=beN x.att 4++(beN x.ser 4++r):=by rw[s0];rfl
 have d5:(nBs x++r).drop 5=beN x.ser 4++r:=by
  rw[show 5=1+4 from rfl,<-List.drop_drop,d1,drop_app l1]
 unfold nOf
 rw[d1,d5,take_app l1,take_app l2,num_beN 4 (by rw[e];omega),num_beN 4 (by rw[e];omega),s0,take_app (n:=1) (a:=[b8 x.sink]) rfl,num_one (by omega)]
theorem ksOf_flat {p:List Int}{o:Nat}(ho:p.length=o):∀{l:List Kc},(∀x∈l,recP x.src x.key/\InK x)->∀r,ksOf (p++((l.map kBs).flatten++r)) o l.length=l:=by
 intro l
 induction l using snoc_ind with
 |h0=>intro _ _;unfold ksOf;rfl
 |h l x ih=>
  intro h r
  have hx:=h x (List.mem_append_right _ (List.mem_singleton.2 rfl))
  have hl:∀y∈l,recP y.src y.key/\InK y:=fun y hy=>h y (List.mem_append_left _ hy)
  have hlen:∀l:List Kc,((l.map kBs).flatten).length=18*l.length:=fun l=>by
   induction l with
   |nil=>rfl
   |cons y l ih=>rw[List.map_cons,List.flatten_cons,List.length_append,kBs_len,ih,List.length_cons];omega
  have e:p++(((l++[x]).map kBs).flatten++r)=p++((l.map kBs).flatten++(kBs x++r)):=by
   rw[List.map_append,List.flatten_append];simp
  rw[e,List.length_append,List.length_singleton,ksOf_succ,ih hl]
  congr 2
  rw[<-List.append_assoc,drop_app (by rw[List.length_append,ho,hlen])]
  exact kOf_kBs hx.1 hx.2 r
theorem nsOf_flat {p:List Int}{o:Nat}(ho:p.length=o):∀{l:List Tx},(∀x∈l,okN x)->∀r,nsOf (p++((l.map nBs).flatten++r)) o l.length=l:=by
 intro l
 induction l using snoc_ind with
 |h0=>intro _ _;unfold nsOf;rfl
 |h l x ih=>
  intro h r
  have hx:=h x (List.mem_append_right _ (List.mem_singleton.2 rfl))
  have hl:∀y∈l,okN y:=fun y hy=>h y (List.mem_append_left _ hy)
  have hlen:∀l:List Tx,((l.map nBs).flatten).length=9*l.length:=fun l=>by
   induction l with
   |nil=>rfl
   |cons y l ih=>rw[List.map_cons,List.flatten_cons,List.length_append,nBs_len,ih,List.length_cons];omega
  have e:p++(((l++[x]).map nBs).flatten++r)=p++((l.map nBs).flatten++(nBs x++r)):=by
   rw[List.map_append,List.flatten_append];simp
  rw[e,List.length_append,List.length_singleton,nsOf_succ,ih hl]
  congr 2
  rw[<-List.append_assoc,drop_app (by rw[List.length_append,ho,hlen])]
  exact nOf_nBs hx r
theorem numAt_app {p q r:List Int}{o n:Nat}(ho:p.length=o)(hq:q.length=n):numAt (p++(q++r)) o n=num q:=by
 unfold numAt
 rw[drop_app ho,take_app hq]
theorem back {s:Sn}(h:rightP s)(hi:∀x∈s.rows,InK x):endS (sBs s)=6+18*s.rows.length/\ntx (sBs s)=s.txs.length/\snOf (sBs s)=s/\numAt (sBs s) 3 1<=1:=by
 obtain⟨hop,hsh,htb,hnm,_,hoff⟩:=h
 have hln:=rows_len (tbl_rows htb)
 have hlt:=names_len hnm
 unfold shareP at hsh
 have hrec:=fun x hx=>(tbl_rows htb).1 x hx
 have htx:∀x∈s.txs,okN x:=fun x hx=>of_decide_eq_true (chain_ok (show chain okT ltT none s.txs=true by unfold namesB at hnm;simp only[Bool.and_eq_true] at hnm;exact hnm.1) x hx)
 have e2:(256:Int)^2=65536:=by decide
 obtain⟨K,hK⟩:∃K,K=(s.rows.map kBs).flatten:=⟨_,rfl⟩
 obtain⟨T,hT⟩:∃T,T=(s.txs.map nBs).flatten:=⟨_,rfl⟩
 have hKl:K.length=18*s.rows.length:=by
  have:=tN_len s.rows s.rows.length (Nat.le_refl _)
  unfold tN at this
  rw[List.take_length,<-hK,List.length_append,beN_len] at this
  omega
 have hb:sBs s=[b8 s.op]++([b8 s.idx]++([b8 s.wid]++([if s.fin=true then 1 else 0]++(beN s.rows.length 2++(K++(oN s.offs 8++([b8 s.txs.length]++T))))))):=by
  unfold sBs sN hBs tBs tN
  rw[List.take_length,List.take_length,<-hK,<-hT]
  simp
 have l2:=beN_len (s.rows.length:Int) 2
 have l8:=oN_len s.offs 8
 have c4:cntAt (sBs s) 4=s.rows.length:=by
  unfold cntAt
  rw[show sBs s=([b8 s.op]++([b8 s.idx]++([b8 s.wid]++[if s.fin=true then 1 else 0])))++(beN s.rows.length 2++(K++(oN s.offs 8++([b8 s.txs.length]++T)))) by rw[hb];simp,numAt_app (o:=4) (n:=2) rfl l2,num_beN 2 ⟨by omega,by rw[e2];omega⟩]
  omega
 have hend:endS (sBs s)=6+18*s.rows.length:=by unfold endS;rw[c4]
 have n3:numAt (sBs s) 3 1=if s.fin=true then 1 else 0:=by
  rw[show sBs s=([b8 s.op]++([b8 s.idx]++[b8 s.wid]))++([if s.fin=true then 1 else 0]++(beN s.rows.length 2++(K++(oN s.offs 8++([b8 s.txs.length]++T))))) by rw[hb];simp,numAt_app (o:=3) (n:=1) rfl rfl]
  show 0*256+_=_
  omega
 have P1:sBs s=([b8 s.op]++([b8 s.idx]++([b8 s.wid]++([if s.fin=true then 1 else 0]++(beN s.rows.length 2++K)))))++(oN s.offs 8++([b8 s.txs.length]++T)):=by rw[hb];simp
 have P1l:([b8 s.op]++([b8 s.idx]++([b8 s.wid]++([if s.fin=true then 1 else 0]++(beN s.rows.length 2++K))))).length=6+18*s.rows.length:=by
  simp only[List.length_append,List.length_cons,List.length_nil,l2,hKl];omega
 have P2:sBs s=([b8 s.op]++([b8 s.idx]++([b8 s.wid]++([if s.fin=true then 1 else 0]++(beN s.rows.length 2++(K++oN s.offs 8))))))++([b8 s.txs.length]++T):=by rw[hb];simp
 have P2l:([b8 s.op]++([b8 s.idx]++([b8 s.wid]++([if s.fin=true then 1 else 0]++(beN s.rows.length 2++(K++oN s.offs 8)))))).length=6+18*s.rows.length+8:=by
  simp only[List.length_append,List.length_cons,List.length_nil,l2,hKl,l8];omega
 have hnt:ntx (sBs s)=s.txs.length:=by
  unfold ntx
  rw[hend]
  have:=numAt_app (q:=[b8 s.txs.length]) (r:=T) (n:=1) P2l rfl
  rw[<-P2,num_one (by omega)] at this
  rw[this];omega
 have n0:numAt (sBs s) 0 1=s.op:=by
  rw[hb,show([b8 s.op]++([b8 s.idx]++([b8 s.wid]++([if s.fin=true then 1 else 0]++(beN s.rows.length 2++(K++(oN s.offs 8++([b8 s.txs.length]++T))))))))=[]++([b8 s.op]++([b8 s.idx]++([b8 s.wid]++([if s.fin=true then 1 else 0]++(beN s.rows.length 2++(K++(oN s.offs 8++([b8 s.txs.length]++T)))))))) from rfl,numAt_app (o:=0) (n:=1) rfl rfl,num_one (by omega)]
 have n1:numAt (sBs s) 1 1=s.idx:=by rw[hb,numAt_app (o:=1) (n:=1) rfl rfl,num_one (by omega)]
 have n2:numAt (sBs s) 2 1=s.wid:=by
  rw[show sBs s=([b8 s.op]++[b8 s.idx])++([b8 s.wid]++([if s.fin=true then 1 else 0]++(beN s.rows.length 2++(K++(oN s.offs 8++([b8 s.txs.length]++T)))))) by rw[hb];simp,numAt_app (o:=2) (n:=1) rfl rfl,num_one (by omega)]
 have hks:ksOf (sBs s) 6 s.rows.length=s.rows:=by
  rw[show sBs s=([b8 s.op]++([b8 s.idx]++([b8 s.wid]++([if s.fin=true then 1 else 0]++beN s.rows.length 2))))++(K++(oN s.offs 8++([b8 s.txs.length]++T))) by rw[hb];simp,hK]
  exact ksOf_flat (by simp only[List.length_append,List.length_cons,List.length_nil,l2]) (fun x hx=>⟨(hrec x hx).1,hi x hx⟩) _
 have hns:nsOf (sBs s) (6+18*s.rows.length+9) s.txs.length=s.txs:=by
  have P3:sBs s=(([b8 s.op]++([b8 s.idx]++([b8 s.wid]++([if s.fin=true then 1 else 0]++(beN s.rows.length 2++(K++oN s.offs 8))))))++[b8 s.txs.length])++(T++[]):=by rw[hb];simp
  rw[P3,hT]
  exact nsOf_flat (by rw[List.length_append,P2l];rfl) htx []
 have hof:(fun g:Fin 8=>numAt (sBs s) (6+18*s.rows.length+g.val) 1)=s.offs:=by
  funext g
  have hg:(oN s.offs 8)[g.val]?=some (b8 (s.offs g)):=by
   unfold oN
   rw[List.getElem?_map,List.getElem?_range g.isLt]
   show some (b8 (s.offs (gI (g.val:Int))))=_
   rw[show gI (g.val:Int)=g from Fin.ext (by have:=gI_val (x:=(g.val:Int)) (by omega);omega)]
  have ho:=hoff g
  unfold offP at ho
  rw[b8_of (by omega)] at hg
  refine numAt_one ?_
  rw[P1,List.getElem?_append_right (by rw[P1l];omega),P1l,show 6+18*s.rows.length+g.val-(6+18*s.rows.length)=g.val by omega,List.getElem?_append_left (by rw[l8];exact g.isLt)]
  exact hg
 refine⟨hend,hnt,?_,by rw[n3];split<;>decide⟩
 rw[snOf_mk c4.symm hend hnt.symm,n0,n1,n2,n3,hks,hns,hof]
 cases s with
 |mk op idx wid fin rows offs txs=>cases fin<;>rfl
theorem sBs_len (s:Sn):(sBs s).length=15+18*s.rows.length+9*s.txs.length:=sN_len s _ (Nat.le_refl _)
theorem back_dec {s:Sn}(h:rightP s)(hi:∀x∈s.rows,InK x):sdE (sBs s)=0/\sdV (sBs s)=s:=by
 obtain⟨h1,h2,h3,h4⟩:=back h hi
 have hl:=sBs_len s
 have hE:sdE (sBs s)=0:=by
  unfold sdE
  rw[if_neg (by omega),h1,h2,if_neg (by omega),if_pos ⟨h4,by omega,by rw[h3];exact h⟩]
 exact⟨hE,by rw[sdV_pos hE,h3]⟩
end Go.Proofs.YtgkkpefpbfadoaaGreat.Sn
