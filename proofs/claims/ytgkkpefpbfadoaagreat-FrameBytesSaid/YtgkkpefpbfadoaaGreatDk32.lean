/- Frame: a reader's numbers. -/
import Derived.Test.YtgkkpefpbfadoaaGreatDk9
import Derived.Test.YtgkkpefpbfadoaaGreatDk31
namespace Go.Proofs.YtgkkpefpbfadoaaGreat
open Go Go.RowKit
open Sy (C SV V1 Blk St XD Els)
set_option maxRecDepth 10000
theorem YL {G R:Prop}(h:R)(e:Bx R->G:=by
 intro h
 (conv=>whnf)
 refine And.intro ?_ (And.intro ?_ (And.intro ?_ (And.intro ?_ h.o)))
 all_goals((repeat'(first|((conv=>whnf);done)|((try conv=>whnf);first|exact trivial|(refine And.intro ?_ ?_)|rfl|exact fun _ _ _ h=>h|exact fun _ _ _ _=>trivial)));(all_goals(try conv=>whnf)))):G:=e ⟨h⟩
structure Rg (s0 s:Rs):Prop where
 ok:∀(F:Nat->Prop)(w:World),s0.ok F w->s.ok F w
 b:Sn.bytesOk s.l
theorem Rg.rd {s0 s:Rs}(h:Rg s0 s)(k:Nat):Rg s0 (s.rd k):=⟨fun F w h0=>Rs.rd_ok (h.ok F w h0) k,by
 unfold Rs.rd
 split
 ·exact h.b
 ·split
  ·exact h.b
  ·exact fun c hc=>h.b c (List.mem_of_mem_drop hc)⟩
def Rs.rv (s:Rs)(k:Nat):Value:=if s.e≠0\/s.l.length<k then .slice none 0 0 else .slice s.A k k
theorem rd_e {A:Option Addr}{c:Nat}{l:List Int}{e:Int}(k:Nat)(h:e≠0):Rs.rd ⟨A,c,l,e⟩ k=⟨A,c,l,e⟩/\Rs.by ⟨A,c,l,e⟩ k=[]/\Rs.rv ⟨A,c,l,e⟩ k=.slice none 0 0:=⟨if_pos h,if_pos (.inl h),if_pos (.inl h)⟩
theorem rd_s {A:Option Addr}{c:Nat}{l:List Int}{k:Nat}(h:l.length<k):Rs.rd ⟨A,c,l,0⟩ k=⟨A,c,l,7⟩/\Rs.by ⟨A,c,l,0⟩ k=[]/\Rs.rv ⟨A,c,l,0⟩ k=.slice none 0 0:=⟨(if_neg fun h=>h rfl).trans (if_pos h),if_pos (.inr h),if_pos (.inr h)⟩
theorem rd_k {A:Option Addr}{c:Nat}{l:List Int}{k:Nat}(h:¬l.length<k):Rs.rd ⟨A,c,l,0⟩ k=⟨if c=k then A else A.map (·.add (k*1)),c-k,l.drop k,0⟩/\Rs.by ⟨A,c,l,0⟩ k=l.take k/\Rs.rv ⟨A,c,l,0⟩ k=.slice A k k:=
 ⟨(if_neg fun h=>h rfl).trans (if_neg h),if_neg fun h'=>h'.elim (fun h=>h rfl) h,if_neg fun h'=>h'.elim (fun h=>h rfl) h⟩
structure Ps where
 l:List Int
 e:Int
def Ps.by (p:Ps)(k:Nat):List Int:=if p.e≠0\/p.l.length<k then[] else p.l.take k
def Ps.rd (p:Ps)(k:Nat):Ps:=if p.e≠0 then p else if p.l.length<k then⟨p.l,7⟩ else⟨p.l.drop k,0⟩
def Ps.n (p:Ps)(k:Nat):Int:=Sn.num (p.by k)
def Rs.p (s:Rs):Ps:=⟨s.l,s.e⟩
theorem rd_p (s:Rs)(k:Nat):(s.rd k).p=s.p.rd k:=by
 obtain⟨A,c,l,e⟩:=s
 unfold Rs.rd Ps.rd Rs.p
 dsimp only
 split
 ·rfl
 ·split<;>rfl
theorem by_p (s:Rs)(k:Nat):Sn.num (s.by k)=s.p.n k:=rfl
def bitC (s0 s:Rs)(k:Nat):Sy.Ctr Unit:={avs:=[.c (.loc 0 0),.c (.v (.int .i64 ((8*k:Nat):Int)))],n0:=1,H0:=rdrH s,pre:=fun F w=>s0.ok F w,sv:=fun _=>.c (.v (.int .u64 (Sn.num (s.by k)))),n1:=fun _=>1,H1:=fun _=>rdrH (s.rd k)}
theorem bit_does {s0 s:Rs}(g:Rg s0 s)(k:Nat)(hk:k<=8):Sy.Does Tryz.prog 127 (bitC s0 s k):=by
 obtain⟨A,c,l,e⟩:=s
 have h8:Sn.bytesOk l:=g.b
 suffices h:Sy.Does Tryz.prog 127 {bitC s0 ⟨A,c,l,e⟩ k with H0:=rdH A c l e} from h
 refine Sy.does_of Sy.lv127 Sy.tab_ok Tryz.func127 rfl _ Tryz.ntmps127 _ rfl rfl (fun e0 w hpre=>?_)
 have hpre:XD.ok (Sy.frz e0 (bitC s0 ⟨A,c,l,e⟩ k).H0 w) w ⟨.slice A l.length c,1,l.length,l.map encB⟩:=g.ok _ _ hpre
 obtain⟨_,_,_,_,hv,hlc,_⟩:=hpre.1
 have hlc:l.length<=c:=by injection hv with _ _ hv;dsimp only at hlc;omega
 clear hv
 refine V ?_
 refine Sy.div_in ⟨by omega,by omega⟩ (by decide) ?_
 rw[show((8*k:Nat):Int)/8=(k:Int) by omega]
 refine V ?_
 refine Sy.call_in Sy.lv164 Sy.tab_ok Tryz.func164 rfl _ Tryz.ntmps164 Tryz.call164 rfl (fun _=>?_)
 by_cases he:e≠0
 ·obtain⟨r1,r2,_⟩:=rd_e (A:=A) (c:=c) (l:=l) k he
  refine V ?_
  refine Sy.fin_own () trivial ?_
  refine Vs (Vk ?_ (Vk ?_ ?_))
  all_goals first|rw[r1]|(rw[r2];rfl)
 obtain rfl:e=0:=Decidable.not_not.1 he
 by_cases hlt:l.length<k
 ·obtain⟨r1,r2,_⟩:=rd_s (A:=A) (c:=c) hlt
  refine V (Y1 fun hh=>?_)
  refine Sy.fin_own () trivial ?_
  refine Vs (Vk ?_ (Vk ?_ ?_))
  all_goals first|rw[r1]|(rw[r2];rfl)
 obtain⟨r1,r2,_⟩:=rd_k (A:=A) (c:=c) hlt
 refine V (Y1 fun hh=>?_)
 refine Sy.slv_hi3 k rfl rfl ⟨by omega,by omega⟩ (V ?_)
 refine Sy.call_own (val_does (.slice A k k) (l.take k) (by rw[List.length_take];omega) (fun c hc=>h8 c (List.mem_of_mem_take hc)) rfl) Tryz.call165 ?_ (fun e a w' F' h hF'=>Rs.by_ok (e:=0) (XD.ok.mono (XD.later h hpre) hF') (by omega))
 refine Vl ?_
 intro _ _ _
 conv=>whnf
 refine V ?_
 refine Sy.slv_lo k rfl ⟨by omega,by omega⟩ (V ?_)
 refine Sy.fin_own () trivial ?_
 refine Vs (Vk ?_ (Vk ?_ ?_))
 all_goals first|rw[r1]|(rw[r2];done)
 all_goals(have hd:(l.drop k).length=l.length-k:=List.length_drop;dsimp only;rw[hd];rfl)
theorem Rg.num {s0 s:Rs}(g:Rg s0 s)(k:Nat):0<=Sn.num (s.by k)/\Sn.num (s.by k)<256^k:=by
 unfold Rs.by
 split
 ·exact⟨by decide,Int.pow_pos (by decide)⟩
 ·exact Sn.take_bound g.b k
def uC (s0 s:Rs)(k:Nat)(v:Value):Sy.Ctr Unit:={avs:=[.c (.loc 0 0)],n0:=1,H0:=rdrH s,pre:=fun F w=>s0.ok F w,sv:=fun _=>.c (.v v),n1:=fun _=>1,H1:=fun _=>rdrH (s.rd k)}
abbrev Sc:=Option Addr×Nat
def Sc.v (x:Sc)(l:List Int):Value:=.slice x.1 l.length x.2
def Sc.xd (x:Sc)(l:List Int):XD:=⟨x.v l,1,l.length,l.map encB⟩
theorem clone_mem (n:Nat)(v:Value)(l:List Int)(w:World)(hn:n<=w.heap.size)(hr:XD.ok (fun b=>b<w.heap.size) w ⟨v,1,l.length,l.map encB⟩)(hb:l.length<=1000000):
 Calls Tryz.prog 126 #[v] w (Sy.RetMem (fun x G w'=>XD.ok (fun b=>G b/\n<=b) w' (Sc.xd x l)) (fun x=>Sc.v x l) w):=(mem_r1 n hn (cloneB_any v l w hr hb)).mono fun E w'⟨x,hE,hb,hx⟩=>by
 obtain⟨_,_,A,c,hv,_⟩:=hx.1
 have hv:x.v=.slice A l.length c:=hv
 refine⟨(A,c),?_,hb,?_⟩
 ·rw[hE]
  show Ending.returned x.v=_
  rw[hv];rfl
 ·show XD.ok _ _ ⟨.slice A l.length c,_,_,_⟩
  rw[<-hv]
  exact hx
attribute [local irreducible] Rs.rd Rs.by Rs.rv
theorem u8_does {s0 s:Rs}(g:Rg s0 s):Sy.Does Tryz.prog 128 (uC s0 s 1 (.int .u8 (Sn.num (s.by 1)))):=by
 have hn:=g.num 1
 refine Sy.does_of Sy.lv128 Sy.tab_ok Tryz.func128 rfl _ Tryz.ntmps128 _ rfl rfl (fun e0 w hpre=>?_)
 refine V ?_
 refine Sy.call_own (bit_does g 1 (by decide)) Tryz.call127 ?_ (fun e a w' F' h hF'=>XD.ok.mono (XD.later h hpre) hF')
 refine Vl ?_
 intro _ _ _
 conv=>whnf
 refine V ?_
 refine Sy.ar_wrap ?_
 rw[show IntKind.u8.wrap (Sn.num (s.by 1))=Sn.num (s.by 1) by rw[IntKind.wrap_u8];omega]
 refine V ?_
 refine Sy.fin_own () trivial ?_
 exact Vs0
theorem u16_does {s0 s:Rs}(g:Rg s0 s):Sy.Does Tryz.prog 169 (uC s0 s 2 (.int .u16 (Sn.num (s.by 2)))):=by
 have hn:=g.num 2
 refine Sy.does_of Sy.lv169 Sy.tab_ok Tryz.func169 rfl _ Tryz.ntmps169 _ rfl rfl (fun e0 w hpre=>?_)
 refine V ?_
 refine Sy.call_own (bit_does g 2 (by decide)) Tryz.call127 ?_ (fun e a w' F' h hF'=>XD.ok.mono (XD.later h hpre) hF')
 refine Vl ?_
 intro _ _ _
 conv=>whnf
 refine V ?_
 refine Sy.ar_wrap ?_
 rw[show IntKind.u16.wrap (Sn.num (s.by 2))=Sn.num (s.by 2) by rw[IntKind.wrap_u16];omega]
 refine V ?_
 refine Sy.fin_own () trivial ?_
 exact Vs0
theorem u32_does {s0 s:Rs}(g:Rg s0 s):Sy.Does Tryz.prog 78 (uC s0 s 4 (.int .u32 (Sn.num (s.by 4)))):=by
 have hn:=g.num 4
 refine Sy.does_of Sy.lv78 Sy.tab_ok Tryz.func78 rfl _ Tryz.ntmps78 _ rfl rfl (fun e0 w hpre=>?_)
 refine V ?_
 refine Sy.call_own (bit_does g 4 (by decide)) Tryz.call127 ?_ (fun e a w' F' h hF'=>XD.ok.mono (XD.later h hpre) hF')
 refine Vl ?_
 intro _ _ _
 conv=>whnf
 refine V ?_
 refine Sy.ar_wrap ?_
 rw[show IntKind.u32.wrap (Sn.num (s.by 4))=Sn.num (s.by 4) by rw[IntKind.wrap_u32];omega]
 refine V ?_
 refine Sy.fin_own () trivial ?_
 exact Vs0
theorem u64_does {s0 s:Rs}(g:Rg s0 s):Sy.Does Tryz.prog 81 (uC s0 s 8 (.int .u64 (Sn.num (s.by 8)))):=by
 refine Sy.does_of Sy.lv81 Sy.tab_ok Tryz.func81 rfl _ Tryz.ntmps81 _ rfl rfl (fun e0 w hpre=>?_)
 refine V ?_
 refine Sy.call_own (bit_does g 8 (by decide)) Tryz.call127 ?_ (fun e a w' F' h hF'=>XD.ok.mono (XD.later h hpre) hF')
 refine Vl ?_
 intro _ _ _
 conv=>whnf
 refine V ?_
 refine Sy.fin_own () trivial ?_
 exact Vs0
theorem err_does (s:Rs):Sy.Does Tryz.prog 170 {avs:=[.c (.loc 0 0)],n0:=1,H0:=rdrH s,sv:=fun _:Unit=>.c (.v (.int .i64 s.e)),n1:=fun _=>1,H1:=fun _=>rdrH s}:=by
 refine Sy.does_of Sy.lv170 Sy.tab_ok Tryz.func170 rfl _ Tryz.ntmps170 _ rfl rfl (fun e0 w hpre=>?_)
 refine V ?_
 refine Sy.fin_own () trivial ?_
 exact Vs0
theorem left_does {s0 s:Rs}(g:Rg s0 s)(hb:s.l.length<=1000000):Sy.Does Tryz.prog 172 {avs:=[.c (.loc 0 0)],n0:=1,H0:=rdrH s,pre:=fun F w=>s0.ok F w,sv:=fun _:Unit=>.c (.v (.int .i64 s.l.length)),n1:=fun _=>1,H1:=fun _=>rdrH s}:=by
 refine Sy.does_of Sy.lv172 Sy.tab_ok Tryz.func172 rfl _ Tryz.ntmps172 _ rfl rfl (fun e0 w hpre=>?_)
 refine V ?_
 refine Sy.call_in Sy.lv202 Sy.tab_ok Tryz.func202 rfl _ Tryz.ntmps202 Tryz.call202 rfl (fun _=>?_)
 refine V ?_
 refine Sy.call_mem (fun(x:Sc) G w'=>XD.ok (fun b=>G b/\0<=b) w' (x.xd s.l)) (fun x=>.c (.v (x.v s.l))) Tryz.call126 (fun x=>rfl) (fun x G G' w1 w2 h hG hk=>XD.ok.keep h (fun b hb=>⟨hG b hb.1,hb.2⟩) fun b hb=>hk b hb.1) (fun e a w' h=>clone_mem 0 _ s.l w' (Nat.zero_le _) (XD.ok.mono (g.ok _ _ (XD.later h hpre)) h.fl) hb) (fun x G=>?_)
 refine V ?_
 refine Sy.fin_own () trivial ?_
 exact Vs0
theorem raw_does {s0 s:Rs}(g:Rg s0 s)(k:Nat):Sy.Does Tryz.prog 168 {avs:=[.c (.loc 0 0),.c (.v (.int .i64 k))],n0:=1,H0:=rdrH s,pre:=fun F w=>s0.ok F w,sv:=fun _:Unit=>.c (.v (s.rv k)),n1:=fun _=>1,H1:=fun _=>rdrH (s.rd k)}:=by
 obtain⟨A,c,l,e⟩:=s
 suffices h:Sy.Does Tryz.prog 168 {avs:=[.c (.loc 0 0),.c (.v (.int .i64 k))],n0:=1,H0:=rdH A c l e,pre:=fun F w=>s0.ok F w,sv:=fun _:Unit=>.c (.v (Rs.rv ⟨A,c,l,e⟩ k)),n1:=fun _=>1,H1:=fun _=>rdrH (Rs.rd ⟨A,c,l,e⟩ k)} from h
 refine Sy.does_of Sy.lv168 Sy.tab_ok Tryz.func168 rfl _ Tryz.ntmps168 _ rfl rfl (fun e0 w hpre=>?_)
 have hpre:s0.ok (Sy.frz e0 (rdH A c l e) w) w:=hpre
 have hpre:XD.ok (Sy.frz e0 (rdH A c l e) w) w ⟨.slice A l.length c,1,l.length,l.map encB⟩:=g.ok _ _ hpre
 obtain⟨_,_,_,_,hv,hlc,_⟩:=hpre.1
 have hlc:l.length<=c:=by injection hv with _ _ hv;dsimp only at hlc;omega
 clear hv
 refine V ?_
 refine Sy.call_in Sy.lv164 Sy.tab_ok Tryz.func164 rfl _ Tryz.ntmps164 Tryz.call164 rfl (fun _=>?_)
 by_cases he:e≠0
 ·obtain⟨r1,_,r2⟩:=rd_e (A:=A) (c:=c) (l:=l) k he
  refine V ?_
  refine Sy.fin_own () trivial ?_
  refine Vs (Vk ?_ (Vk ?_ ?_))
  all_goals first|rw[r1]|(rw[r2];rfl)
 obtain rfl:e=0:=Decidable.not_not.1 he
 by_cases hlt:l.length<k
 ·obtain⟨r1,_,r2⟩:=rd_s (A:=A) (c:=c) hlt
  refine V (Y1 fun hh=>?_)
  refine Sy.fin_own () trivial ?_
  refine Vs (Vk ?_ (Vk ?_ ?_))
  all_goals first|rw[r1]|(rw[r2];rfl)
 obtain⟨r1,_,r2⟩:=rd_k (A:=A) (c:=c) hlt
 refine V (Y1 fun hh=>?_)
 refine Sy.slv_hi3 k rfl rfl ⟨by omega,by omega⟩ (V ?_)
 refine Sy.call_in Sy.lv200 Sy.tab_ok Tryz.func200 rfl _ Tryz.ntmps200 Tryz.call200 rfl (fun _=>?_)
 refine V ?_
 refine Sy.slv_lo k rfl ⟨by omega,by omega⟩ (V ?_)
 refine Sy.fin_own () trivial ?_
 refine Vs (Vk ?_ (Vk ?_ ?_))
 all_goals first|rw[r1]|(rw[r2];done)
 all_goals(have hd:(l.drop k).length=l.length-k:=List.length_drop;dsimp only;rw[hd];rfl)
def Sc.rs (x:Sc)(l:List Int):Rs:=⟨x.1,x.2,l,0⟩
theorem Sc.rg (x:Sc){l:List Int}(h:Sn.bytesOk l):Rg (x.rs l) (x.rs l):=⟨fun _ _ h=>h,h⟩
theorem one_arg {n:Nat}{v:Value}(h:v.oneCell'=true):Sy.allLt n [.c (.v v)]=true:=by
 show(match v.oneCell' with|true=>true|false=>false)=true
 rw[h]
theorem read_does (v:Value)(b:List Int)(hv:v.oneCell'=true)(hb:b.length<=1000000):Sy.Does Tryz.prog 77 {avs:=[.c (.v v)],n0:=0,H0:=[],pre:=fun F w=>XD.ok F w ⟨v,1,b.length,b.map encB⟩,sv:=fun _:Sc=>.c (.loc 0 0),n1:=fun _=>1,H1:=fun x=>rdrH (x.rs b),learn:=true,q:=fun x G w=>(x.rs b).ok G w}:=by
 refine Sy.does_of Sy.lv77 Sy.tab_ok Tryz.func77 rfl _ Tryz.ntmps77 _ (one_arg hv) rfl (fun e0 w hpre=>?_)
 refine V ?_
 refine Sy.call_mem (fun(x:Sc) G w'=>XD.ok (fun b=>G b/\w.heap.size<=b) w' (x.xd b)) (fun x=>.c (.v (x.v b))) Tryz.call126 (fun x=>rfl) (fun x G G' w1 w2 h hG hk=>XD.ok.keep h (fun b hb=>⟨hG b hb.1,hb.2⟩) fun b hb=>hk b hb.1) (fun e a w' h=>clone_mem w.heap.size _ b w' h.bel.size (XD.ok.mono (XD.later h hpre) h.fl) hb) (fun x G=>?_)
 refine V ?_
 refine Sy.fin_own x trivial ?_ rfl (fun w' hw'=>⟨fun b=>(_\/G b)/\w.heap.size<=b,fun b hb=>⟨hb.1,fun h=>by have:=h.1;omega⟩,hw'.2⟩)
 exact Vs0
end Go.Proofs.YtgkkpefpbfadoaaGreat
namespace Go.Proofs.YtgkkpefpbfadoaaGreat
open Go Go.RowKit
open Sy (C SV V1 Blk St XD Els)
set_option maxRecDepth 10000
theorem rd_len (s:Rs)(k:Nat):(s.rd k).l.length<=s.l.length:=by
 unfold Rs.rd
 split
 ·exact Nat.le_refl _
 ·split
  ·exact Nat.le_refl _
  ·(rw[List.length_drop];exact Nat.sub_le _ _)
theorem len_b (l:List Int):((l.length:Int)==0)=decide (l.length=0):=by
 rw[Bool.eq_iff_iff,beq_iff_eq,decide_eq_true_eq];omega
def needP (p:Ps)(w:Int)(ok:Bool):Int:=if w≠0 then w else if p.e≠0 then 7 else if ok=true then 0 else 151
def elP (k:Int)(p:Ps)(w:Int):Ps×Int×Elm:=
 if k=1 then(((p.rd 1).rd 1).rd 8,needP ((p.rd 1).rd 1) (needP (p.rd 1) w (decide (p.n 1<8))) (decide ((p.rd 1).n 1<32)),⟨1,⟨p.n 1,(p.rd 1).n 1,IntKind.i64.wrap (((p.rd 1).rd 1).n 8)⟩,0⟩)
 else if k=2 then(p.rd 8,needP (p.rd 8) w (decide (numP (p.n 8))),⟨2,⟨0,0,0⟩,p.n 8⟩)
 else(p,w,⟨3,⟨0,0,0⟩,0⟩)
def consR (x:Elm)(r:Ps×Int×List Elm):Ps×Int×List Elm:=(r.1,r.2.1,x::r.2.2)
def recL:Nat->Ps->Int->Ps×Int×List Elm
 |0,p,w=>(p,w,[])
 |n+1,p,w=>if needP (p.rd 1) w (decide (1<=p.n 1/\p.n 1<=3))≠0 then(p.rd 1,needP (p.rd 1) w (decide (1<=p.n 1/\p.n 1<=3)),[]) else
  consR (elP (p.n 1) (p.rd 1) 0).2.2 (recL n (elP (p.n 1) (p.rd 1) 0).1 (needP (elP (p.n 1) (p.rd 1) 0).1 (elP (p.n 1) (p.rd 1) 0).2.1 true))
def aft (acc:List Elm)(r:Ps×Int×List Elm):Ps×Int×List Elm:=(r.1,r.2.1,acc++r.2.2)
def recE (r:Ps×Int×List Elm):List Elm×Int:=if needP r.1 r.2.1 (decide (r.1.l.length=0))≠0 then([],needP r.1 r.2.1 (decide (r.1.l.length=0))) else(r.2.2,0)
def recD (p:Ps):List Elm×Int:=if 200<p.n 1 then([],3) else recE (recL (p.n 1).toNat (p.rd 1) (needP (p.rd 1) 0 true))
theorem aft_cons (acc:List Elm)(x:Elm)(r:Ps×Int×List Elm):aft acc (consR x r)=aft (acc++[x]) r:=by unfold aft consR;simp
theorem need0 {p:Ps}{w:Int}{ok:Bool}(h:needP p w ok=0):w=0/\p.e=0/\ok=true:=by
 unfold needP at h
 by_cases h1:w=0
 ·rw[if_neg (by omega)] at h
  by_cases h2:p.e=0
  ·rw[if_neg (by omega)] at h
   cases ok
   ·simp at h
   ·exact⟨h1,h2,rfl⟩
  ·rw[if_pos h2] at h;cases h
 ·rw[if_pos h1] at h;exact absurd h h1
def rcH (s:Rs)(w:Int):List (Nat×Blk):=[(0,.cells 212 [.loc 1 0,.v (.int .i64 w)]),(1,.cells 161 [.v (.slice s.A s.l.length s.c),.v (.int .i64 s.e)])]
theorem need_does (s:Rs)(w:Int)(ok:Bool):Sy.Does Tryz.prog 173 {avs:=[.c (.loc 0 0),.c (.v (.bool ok))],n0:=2,H0:=rcH s w,sv:=fun _:Unit=>.tup [],n1:=fun _=>2,H1:=fun _=>rcH s (needP s.p w ok)}:=by
 refine Sy.does_of Sy.lv173 Sy.tab_ok Tryz.func173 rfl _ Tryz.ntmps173 _ rfl rfl (fun e0 w hpre=>?_)
 refine V (Vj (fun hh=>?_) fun hh=>?_)
 ·refine Sy.call_own (err_does s) Tryz.call170 ?_
  refine Vl ?_
  intro _ _ _
  conv=>whnf
  refine V (Vj (fun hh=>Vj (fun hh=>?_) fun hh=>?_) fun hh=>?_)
  all_goals(refine Sy.fin_own () trivial ?_;refine Vs ?_)
  all_goals(unfold needP Rs.p;simp_all)
 ·refine Sy.fin_own () trivial ?_
  refine Vs ?_
  unfold needP
  simp_all
attribute [local irreducible] Rs.rd Rs.by Rs.rv needP Ps.rd Ps.n Sc.rs
set_option maxHeartbeats 4000000 in
theorem rec_any (v:Value)(b:List Int)(w:World)(hr:XD.ok (fun x=>x<w.heap.size) w ⟨v,1,b.length,b.map encB⟩)(b8:Sn.bytesOk b)(hb:b.length<=100000):
 Calls Tryz.prog 139 #[v] w (Sy.RetRows Sy.noRow (fun _:Unit=>True) (fun _=>[⟨45,5,(recD ⟨b,0⟩).1.length,(recD ⟨b,0⟩).1.map encE⟩]) (fun _ vs=>.tuple #[vs.headD undef,.int .i64 (recD ⟨b,0⟩).2]) w):=by
 refine Sy.calls_of Sy.lv139 Sy.tab_ok Tryz.func139 rfl _ Tryz.ntmps139 [] [.c (.v v)] rfl (one_arg (Sy.ReadsE.one hr.1)) rfl trivial (V ?_)
 refine Sy.call_own (read_does v b (Sy.ReadsE.one hr.1) (by omega)) Tryz.call77 ?_ (fun e a w' F' h hF'=>(XD.later h (XD.ok.mono hr fun b hb=>⟨hb,fun h=>h⟩)).mono hF') (fun _ x G G' w w' h hG hk=>XD.ok.keep h hG hk)
 refine Vl ?_
 intro x _ G
 conv=>whnf
 have p0:(x.rs b).p=⟨b,0⟩:=by unfold Sc.rs;rfl
 have g:=x.rg b8
 refine V ?_
 refine Sy.call_own (u8_does g) Tryz.call128 (YL ?_) (fun e a w' F' h hF'=>XD.ok.mono (h.ev w' fun _ _=>rfl).2.2 hF')
 intro _ _ _
 conv=>whnf
 refine V ?_
 have hn:=g.num 1
 rw[by_p,p0] at hn
 rw[by_p,p0]
 generalize hk:(⟨b,0⟩:Ps).n 1=k at *
 refine Sy.ar_in (by omega) (V (Vj (fun hh=>?_) fun hh=>?_))
 ·have hD:recD ⟨b,0⟩=([],3):=by unfold recD;rw[hk];exact if_pos (by omega)
  rw[hD]
  exact Sy.fin_r1 (.v (.slice none 0 0)) ⟨rfl,rfl⟩ (fun e=>rfl)
 refine Sy.call_own (need_does ((x.rs b).rd 1) 0 true) Tryz.call173 (YL ?_)
 intro _ _ _
 conv=>whnf
 refine V ?_
 refine Sy.findC_int [] 1 none rfl (V ?_)
 refine Sy.findC_int [1] 2 none rfl (V ?_)
 refine Sy.findC_int [1,2] 3 none rfl (V ?_)
 refine Sy.sem_subF (Sy.sub_row 7 45 5 rfl) (V ?_)
 have hD:recD ⟨b,0⟩=recE (recL k.toNat ((x.rs b).rd 1).p (needP ((x.rs b).rd 1).p 0 true)):=by unfold recD;rw[hk,rd_p,p0];exact if_neg (by omega)
 refine Sy.loop_inv Sy.tab_ok (fun q:Nat×Rs×Int×List Elm=>[(35,.c (.v (.int .i64 q.1))),(7,.c (.row 6))]) (fun q=>[(0,.cells 161 [.v (.slice q.2.1.A q.2.1.l.length q.2.1.c),.v (.int .i64 q.2.1.e)]),(1,.cells 212 [.loc 0 0,.v (.int .i64 q.2.2.1)]),(6,.row 45 5 q.2.2.2.length (.vs (q.2.2.2.map encE)))]) (fun q=>q.1<=k.toNat/\q.2.2.2.length=q.1/\Rg (x.rs b) q.2.1/\q.2.1.l.length<=b.length/\recD ⟨b,0⟩=recE (aft q.2.2.2 (recL (k.toNat-q.1) q.2.1.p q.2.2.1))) (fun q=>k.toNat-q.1) (0,(x.rs b).rd 1,needP ((x.rs b).rd 1).p 0 true,[]) ⟨Nat.zero_le _,rfl,g.rd 1,(by have:=(rd_len (x.rs b) 1);rw[show(x.rs b).l=b by unfold Sc.rs;rfl] at this;exact this),hD⟩ ?_ (fun q hq=>?_)
 ·exact Vs0
 obtain⟨i,s,u,acc⟩:=q
 obtain⟨hi,hacc,gs,hl,hq⟩:=hq
 dsimp only at hi hacc gs hl hq⊢
 by_cases hlt:i<k.toNat
 ·rw[show k.toNat-i=(k.toNat-(i+1))+1 by omega] at hq
  have hn2:=gs.num 1
  refine V (Y1 fun hh=>?_)
  refine Sy.call_own (u8_does gs) Tryz.call128 (YL ?_) (fun e a w' F' h hF'=>XD.ok.mono (h.ev w' fun _ _=>rfl).2.2 hF')
  intro _ _ _
  conv=>whnf
  rw[by_p] at hn2⊢
  generalize hc:s.p.n 1=c at *
  refine Sy.ar_in (by omega) (V ?_)
  have hs1:(s.rd 1).p=s.p.rd 1:=rd_p s 1
  have gs1:=gs.rd 1
  have s1l:=Nat.le_trans (rd_len s 1) hl
  generalize s.rd 1=s1 at *
  rw[recL,hc] at hq
  have hb1:s1.l.length<=b.length:=s1l
  obtain⟨t,ht⟩:∃t,t=decide (1<=c/\c<=3):=⟨_,rfl⟩
  rw[<-ht,<-hs1] at hq
  obtain⟨r,hr⟩:∃r,r=needP s1.p u t:=⟨_,rfl⟩
  rw[<-hr] at hq
  by_cases h0:r=0
  ·obtain⟨rfl,_,ht1⟩:=need0 (hr.symm.trans h0)
   have hin:1<=c/\c<=3:=of_decide_eq_true (ht.symm.trans ht1)
   subst h0
   rw[if_neg (fun h=>h rfl),aft_cons] at hq
   clear ht
   subst ht1
   obtain rfl|rfl|rfl:c=1\/c=2\/c=3:=by omega
   ·rw[show elP 1 s1.p 0=(((s1.p.rd 1).rd 1).rd 8,needP ((s1.p.rd 1).rd 1) (needP (s1.p.rd 1) 0 (decide (s1.p.n 1<8))) (decide ((s1.p.rd 1).n 1<32)),⟨1,⟨s1.p.n 1,(s1.p.rd 1).n 1,IntKind.i64.wrap (((s1.p.rd 1).rd 1).n 8)⟩,0⟩) from rfl] at hq
    refine Sy.findC_int [1,2,3] 1 (some 0) rfl (V ?_)
    refine Sy.call_own (need_does s1 0 true) Tryz.call173 (YL ?_)
    intro _ _ _
    conv=>whnf
    rw[<-hr]
    refine V ?_
    refine Sy.call_in Sy.lv174 Sy.tab_ok Tryz.func174 rfl _ Tryz.ntmps174 Tryz.call174 rfl (fun _=>?_)
    refine V ?_
    have n1:=gs1.num 1
    have n2:=(gs1.rd 1).num 1
    rw[by_p] at n1 n2
    refine Sy.call_own (u8_does gs1) Tryz.call128 (YL ?_) (fun e a w' F' h hF'=>XD.ok.mono (h.ev w' fun _ _=>rfl).2.2 hF')
    intro _ _ _
    conv=>whnf
    rw[by_p]
    refine V ?_
    refine Sy.call_own (need_does (s1.rd 1) 0 (decide (s1.p.n 1<8))) Tryz.call173 (YL ?_)
    intro _ _ _
    conv=>whnf
    refine V ?_
    refine Sy.call_own (u8_does (gs1.rd 1)) Tryz.call128 (YL ?_) (fun e a w' F' h hF'=>XD.ok.mono (h.ev w' fun _ _=>rfl).2.2 hF')
    intro _ _ _
    conv=>whnf
    rw[by_p]
    refine V ?_
    refine Sy.call_own (need_does ((s1.rd 1).rd 1) (needP (s1.rd 1).p 0 (decide (s1.p.n 1<8))) (decide ((s1.rd 1).p.n 1<32))) Tryz.call173 (YL ?_)
    intro _ _ _
    conv=>whnf
    refine V ?_
    refine Sy.call_own (u64_does ((gs1.rd 1).rd 1)) Tryz.call81 (YL ?_) (fun e a w' F' h hF'=>XD.ok.mono (h.ev w' fun _ _=>rfl).2.2 hF')
    intro _ _ _
    conv=>whnf
    rw[by_p]
    refine V ?_
    refine Sy.ar_wrap (V ?_)
    refine Sy.call_own (need_does (((s1.rd 1).rd 1).rd 8) (needP ((s1.rd 1).rd 1).p (needP (s1.rd 1).p 0 (decide (s1.p.n 1<8))) (decide ((s1.rd 1).p.n 1<32))) true) Tryz.call173 (YL ?_)
    intro _ _ _
    conv=>whnf
    refine V ?_
    refine Sy.need_app 40 rfl ⟨by omega,by omega⟩ (V ?_)
    refine⟨(i+1,((s1.rd 1).rd 1).rd 8,needP (((s1.rd 1).rd 1).rd 8).p (needP ((s1.rd 1).rd 1).p (needP (s1.rd 1).p 0 (decide (s1.p.n 1<8))) (decide ((s1.rd 1).p.n 1<32))) true,acc++[⟨1,⟨s1.p.n 1,(s1.rd 1).p.n 1,IntKind.i64.wrap (((s1.rd 1).rd 1).p.n 8)⟩,0⟩]),⟨by omega,(by rw[List.length_append,hacc];rfl),((gs1.rd 1).rd 1).rd 8,(Nat.le_trans (rd_len _ _) (Nat.le_trans (rd_len _ _) (Nat.le_trans (rd_len _ _) s1l))),(by simp only[rd_p] at hq⊢;exact hq)⟩,by dsimp only;omega,?_⟩
    refine Vs (Vk ?_ ?_)
    all_goals(try simp[encE])
   ·rw[show elP 2 s1.p 0=(s1.p.rd 8,needP (s1.p.rd 8) 0 (decide (numP (s1.p.n 8))),⟨2,⟨0,0,0⟩,s1.p.n 8⟩) from rfl] at hq
    refine Sy.findC_int [1,2,3] 2 (some 1) rfl (V ?_)
    refine Sy.call_own (need_does s1 0 true) Tryz.call173 (YL ?_)
    intro _ _ _
    conv=>whnf
    rw[<-hr]
    refine V ?_
    refine Sy.call_in Sy.lv175 Sy.tab_ok Tryz.func175 rfl _ Tryz.ntmps175 Tryz.call175 rfl (fun _=>?_)
    refine V ?_
    refine Sy.call_own (u64_does gs1) Tryz.call81 (YL ?_) (fun e a w' F' h hF'=>XD.ok.mono (h.ev w' fun _ _=>rfl).2.2 hF')
    intro _ _ _
    conv=>whnf
    rw[by_p]
    refine V ?_
    refine Sy.call_val (.c (.v (.bool (decide (numP (s1.p.n 8)))))) Tryz.call194 rfl (fun e a w' h=>number_rec (s1.p.n 8) w') (V ?_)
    refine Sy.call_own (need_does (s1.rd 8) 0 (decide (numP (s1.p.n 8)))) Tryz.call173 (YL ?_)
    intro _ _ _
    conv=>whnf
    refine V ?_
    refine Sy.call_own (need_does (s1.rd 8) (needP (s1.rd 8).p 0 (decide (numP (s1.p.n 8)))) true) Tryz.call173 (YL ?_)
    intro _ _ _
    conv=>whnf
    refine V ?_
    refine Sy.need_app 40 rfl ⟨by omega,by omega⟩ (V ?_)
    refine⟨(i+1,s1.rd 8,needP (s1.rd 8).p (needP (s1.rd 8).p 0 (decide (numP (s1.p.n 8)))) true,acc++[⟨2,⟨0,0,0⟩,s1.p.n 8⟩]),⟨by omega,(by rw[List.length_append,hacc];rfl),gs1.rd 8,(Nat.le_trans (rd_len _ _) s1l),(by simp only[rd_p] at hq⊢;exact hq)⟩,by dsimp only;omega,?_⟩
    refine Vs (Vk ?_ ?_)
    all_goals(try simp[encE])
   ·rw[show elP 3 s1.p 0=(s1.p,0,⟨3,⟨0,0,0⟩,0⟩) from rfl] at hq
    refine Sy.findC_int [1,2,3] 3 (some 2) rfl (V ?_)
    refine Sy.call_own (need_does s1 0 true) Tryz.call173 (YL ?_)
    intro _ _ _
    conv=>whnf
    rw[<-hr]
    refine V ?_
    refine Sy.call_in Sy.lv176 Sy.tab_ok Tryz.func176 rfl _ Tryz.ntmps176 Tryz.call176 rfl (fun _=>?_)
    refine V ?_
    refine Sy.call_own (need_does (s1) (0) true) Tryz.call173 (YL ?_)
    intro _ _ _
    conv=>whnf
    refine V ?_
    refine Sy.need_app 40 rfl ⟨by omega,by omega⟩ (V ?_)
    refine⟨(i+1,s1,needP (s1).p (0) true,acc++[⟨3,⟨0,0,0⟩,0⟩]),⟨by omega,(by rw[List.length_append,hacc];rfl),gs1,s1l,(by simp only at hq⊢;exact hq)⟩,by dsimp only;omega,?_⟩
    refine Vs (Vk ?_ ?_)
    all_goals(try simp[encE])
  ·rw[if_pos h0] at hq
   obtain rfl|rfl|rfl|hni:c=1\/c=2\/c=3\/¬(1<=c/\c<=3):=by omega
   all_goals
    first|refine Sy.findC_int [1,2,3] 1 (some 0) rfl ?_|refine Sy.findC_int [1,2,3] 2 (some 1) rfl ?_|refine Sy.findC_int [1,2,3] 3 (some 2) rfl ?_|refine Sy.findC_int [1,2,3] c none (by rw[List.findIdx?_eq_none_iff];simp;omega) ?_
    refine V ?_
    refine Sy.call_own (need_does s1 u t) Tryz.call173 ?_
    refine Vl (Vk ?_ ?_)
    ·intro _ _ _
     conv=>whnf
     rw[<-hr]
     refine V ?_
     refine Sy.call_own (left_does gs1 (by omega)) Tryz.call172 (YL ?_) (fun e a w' F' h hF'=>XD.ok.mono (h.ev w' fun _ _=>rfl).2.2 hF')
     intro _ _ _
     conv=>whnf
     refine V ?_
     refine Sy.call_own (need_does s1 r ((s1.l.length:Int)==0)) Tryz.call173 (YL ?_)
     intro _ _ _
     conv=>whnf
     rw[len_b]
     have hq:recD ⟨b,0⟩=if needP s1.p r (decide (s1.l.length=0))≠0 then([],needP s1.p r (decide (s1.l.length=0))) else(acc,0):=by
      rw[hq]
      show(if _ then _ else(acc++[],(0:Int)))=_
      rw[List.append_nil];rfl
     generalize needP s1.p r (decide (s1.l.length=0))=z at *
     rw[hq]
     refine V (Vj (fun hh=>?_) fun hh=>?_)
     ·rw[if_neg (Decidable.not_not.2 (by omega))]
      exact Sy.fin_r1 (.row 6) rfl (fun e=>rfl)
     ·refine Sy.draw_go [] (by kernel_rfl) ?_
      intro e0
      conv=>whnf
      refine zt 0 rfl ?_
      conv=>whnf
      refine zt 1 rfl ?_
      conv=>whnf
      refine zt 2 rfl ?_
      conv=>whnf
      refine zt 3 rfl ?_
      conv=>whnf
      refine zt 4 rfl ?_
      conv=>whnf
      refine zt 5 rfl ?_
      conv=>whnf
      refine zw ?_
      skip
      refine V ?_
      rw[if_pos (by assumption)]
      exact Sy.fin_r1 (.v (.slice none 0 0)) ⟨rfl,rfl⟩ (fun e=>rfl)
    ·first|(rw[ht];rfl)|rw[ht,decide_eq_false hni]
 ·obtain rfl:i=k.toNat:=by omega
  rw[Nat.sub_self,recL] at hq
  refine V (Y1 fun hh=>?_)
  refine Sy.call_own (left_does gs (by omega)) Tryz.call172 (YL ?_) (fun e a w' F' h hF'=>XD.ok.mono (h.ev w' fun _ _=>rfl).2.2 hF')
  intro _ _ _
  conv=>whnf
  refine V ?_
  refine Sy.call_own (need_does s u ((s.l.length:Int)==0)) Tryz.call173 (YL ?_)
  intro _ _ _
  conv=>whnf
  rw[len_b]
  have hq:recD ⟨b,0⟩=if needP s.p u (decide (s.l.length=0))≠0 then([],needP s.p u (decide (s.l.length=0))) else(acc,0):=by
   rw[hq]
   show(if _ then _ else(acc++[],(0:Int)))=_
   rw[List.append_nil];rfl
  generalize needP s.p u (decide (s.l.length=0))=z at *
  rw[hq]
  refine V (Vj (fun hh=>?_) fun hh=>?_)
  ·rw[if_neg (Decidable.not_not.2 (by omega))]
   exact Sy.fin_r1 (.row 6) rfl (fun e=>rfl)
  ·refine Sy.draw_go [] (by kernel_rfl) ?_
   intro e0
   conv=>whnf
   refine zt 0 rfl ?_
   conv=>whnf
   refine zt 1 rfl ?_
   conv=>whnf
   refine zt 2 rfl ?_
   conv=>whnf
   refine zt 3 rfl ?_
   conv=>whnf
   refine zt 4 rfl ?_
   conv=>whnf
   refine zt 5 rfl ?_
   conv=>whnf
   refine zw ?_
   skip
   refine V ?_
   rw[if_pos (by assumption)]
   exact Sy.fin_r1 (.v (.slice none 0 0)) ⟨rfl,rfl⟩ (fun e=>rfl)
theorem recL_len (n:Nat):∀(p:Ps)(w:Int),(recL n p w).2.2.length<=n:=by
 induction n with
 |zero=>exact fun p w=>Nat.le_refl _
 |succ n ih=>
  intro p w
  unfold recL
  split
  ·exact Nat.zero_le _
  ·exact Nat.succ_le_succ (ih _ _)
theorem recD_len (p:Ps):(recD p).1.length<=200:=by
 unfold recD recE
 split
 ·exact Nat.zero_le _
 ·split
  ·exact Nat.zero_le _
  ·exact Nat.le_trans (recL_len _ _ _) (by omega)
end Go.Proofs.YtgkkpefpbfadoaaGreat
