/- Graph: Encode. -/
import Derived.Test.YtgkkpefpbfadoaaGreatDk9
import Derived.Test.YtgkkpefpbfadoaaGreatDk26
import Derived.Test.YtgkkpefpbfadoaaGreatDk21
import Derived.Test.YtgkkpefpbfadoaaGreatDk17
import Derived.Test.YtgkkpefpbfadoaaGreatDk16
import Derived.Test.YtgkkpefpbfadoaaGreatDk22
namespace Go.Proofs.YtgkkpefpbfadoaaGreat
open Go Go.RowKit
open Sy (C SV V1 Blk St XD Els)
set_option maxRecDepth 10000
theorem insOk_good {gl:List OpV}(h:(checkV (opsOf gl)).2=0):insOk gl:=fun o ho=>by
 obtain⟨i,hi,rfl⟩:=List.mem_iff_getElem.1 ho
 have hol:=opsOf_len gl
 have:=rises_len (check_good h i _ (by omega) (opsOf_get (List.getElem?_eq_getElem hi))).2.2.1
 have:=(check_ok h).2.1
 omega
def encG (g:List Opr):List Int:=if(checkV g).2=0 then gBs g else[]
attribute [local irreducible] beN gN checkV
set_option maxHeartbeats 4000000 in
theorem encode_any (v:Value)(gl:List OpV)(w:World)(hr:GOk (fun b=>b<w.heap.size) w v gl):
 Calls Tryz.prog 112 #[.agg #[v]] w (Sy.RetRows Sy.noRow (fun _:Unit=>True) (fun _=>[⟨5,1,(encG (opsOf gl)).length,(encG (opsOf gl)).map encB⟩]) (fun _ vs=>.tuple #[vs.headD undef,.int .i64 (checkV (opsOf gl)).2]) w):=by
 have hol:=opsOf_len gl
 have hl:=ok_len hr.1
 refine Sy.calls_of Sy.lv112 Sy.tab_ok Tryz.func112 rfl _ Tryz.ntmps112 [⟨v,5,gl.length,gl.map encOV⟩] [.agg [.row 0]] rfl rfl rfl ⟨hr.1,trivial⟩ (V ?_)
 refine Sy.call_val (.tup [.c (.v (.int .i64 (checkV (opsOf gl)).1)),.c (.v (.int .i64 (checkV (opsOf gl)).2))]) Tryz.call157 rfl (fun e a w' h=>check_any (e.rv 0) gl w' ⟨Sy.row_reads h (.inr rfl),fun o ho=>Sy.later_in h (hr.2 o ho)⟩) ?_
 by_cases h0:(checkV (opsOf gl)).2=0
 ·have hio:=insOk_good h0
  have hgl:=gN_len hio.ops
  have h8:=check_ok h0
  rw[hol] at hgl h8
  rw[show encG (opsOf gl)=gBs (opsOf gl) from if_pos h0,h0]
  refine V ?_
  refine Sy.ar_wrap (V ?_)
  refine Sy.loop_inv Sy.tab_ok (fun n:Nat=>[(27,.c (.v (.int .i64 n))),(6,.c (.row 2))]) (fun n=>[(2,.row 5 1 (gN (opsOf gl) n).length (.vs ((gN (opsOf gl) n).map encB)))]) (fun n=>n<=gl.length) (fun n=>gl.length-n) 0 (Nat.zero_le _) ?_ (fun n hn=>?_)
  ·rw[show gN (opsOf gl) 0=[IntKind.u8.wrap gl.length] by unfold gN b8;simp[hol]]
   exact Vs0
  ·have hb:=hgl n hn
   refine Vd (Vj (fun hh=>?_) fun hh=>?_)
   ·have hlt:n<gl.length:=by omega
    have hg:=List.getElem?_eq_getElem hlt
    generalize gl[n]=o at *
    have hs:=gN_succ (opsOf_get hg)
    have hoo:=hr.at hg
    have hlo:=hio o (List.mem_of_getElem? hg)
    have ha:=beN_len (u64w o.op.a) 8
    have hbb:=beN_len (u64w o.op.b) 8
    generalize hG:gN (opsOf gl) n=G at *
    refine Sy.el_map o hg (Vo ?_)
    refine Sy.ar_wrap (Vo ?_)
    refine Sy.ar_wrap (Vo ?_)
    refine Sy.need_app 1 rfl ⟨by omega,by omega⟩ (Vd ?_)
    refine zv ?_
    have eB:List.map encB G++[[.int .u8 (IntKind.u8.wrap o.op.tag)],[.int .u8 (IntKind.u8.wrap o.op.width)]]=List.map encB (G++[b8 o.op.tag,b8 o.op.width]):=by simp[encB,b8]
    have lB:G.length+2=(G++[b8 o.op.tag,b8 o.op.width]).length:=by simp
    (refine open_c 3 2 _ _ _ rfl rfl (hoo) (fun _ h=>h) ?_);(conv=>whnf)
    rw[eB,lB]
    have lb:(G++[b8 o.op.tag,b8 o.op.width]).length<=2000:=by rw[<-lB];omega
    have sB:G++opN o.op 0=(G++[b8 o.op.tag,b8 o.op.width])++beN (u64w o.op.a) 8++beN (u64w o.op.b) 8++[b8 o.op.ins.length]:=by rw[opN];simp
    generalize G++[b8 o.op.tag,b8 o.op.width]=B at *
    have lb2:(B++beN (u64w o.op.a) 8++beN (u64w o.op.b) 8).length<=2016:=by simp only[List.length_append];omega
    refine Sy.draw_go [] (by kernel_rfl) ?_
    intro e0
    conv=>whnf
    refine zt 0 rfl ?_
    conv=>whnf
    refine zt 1 rfl ?_
    conv=>whnf
    refine zt 2 rfl ?_
    conv=>whnf
    refine zt 3 rfl (V ?_)
    refine Sy.ar_wrap ?_
    conv=>whnf
    refine zt 5 rfl ?_
    conv=>whnf
    refine zt 6 rfl ?_
    conv=>whnf
    refine zt 7 rfl (V ?_)
    refine Sy.ar_wrap ?_
    conv=>whnf
    refine zt 9 rfl ?_
    conv=>whnf
    refine zt 10 rfl ?_
    conv=>whnf
    refine zt 11 rfl (V ?_)
    refine zt 12 rfl (V ?_)
    refine Sy.ar_wrap ?_
    conv=>whnf
    focus
     refine zd1 [4,13] (zx rfl ?_ (zx rfl ?_ zy))
     focus
      conv=>whnf
      refine Sy.call_r1 ⟨5,1,(B++beN (u64w o.op.a) 8).length,(B++beN (u64w o.op.a) 8).map encB⟩ (fun j=>.c (.row j)) Tryz.call59 (fun e a w' h=>put64_any (e.rv 5) B (u64w o.op.a) w' (Sy.row_reads h (.inl ⟨_,rfl⟩)) (by omega)) ?_
      conv=>whnf
      refine Yk ?_
      focus
       refine zd1 [8,13] (zx rfl ?_ (zx rfl ?_ zy))
       focus
        conv=>whnf
        refine Sy.call_r1 ⟨5,1,(B++beN (u64w o.op.a) 8++beN (u64w o.op.b) 8).length,(B++beN (u64w o.op.a) 8++beN (u64w o.op.b) 8).map encB⟩ (fun j=>.c (.row j)) Tryz.call59 (fun e a w' h=>put64_any (e.rv _) (B++beN (u64w o.op.a) 8) (u64w o.op.b) w' (Sy.row_reads h (.inl ⟨_,rfl⟩)) (by rw[List.length_append];omega)) ?_
        conv=>whnf
        refine Yk ?_
        refine zd1 [13] (zx rfl ?_ zy)
        conv=>whnf
        refine Yk ?_
        refine zd1 [14] (zx rfl ?_ zy)
        conv=>whnf
        refine Sy.need_app 1 rfl ⟨by omega,by omega⟩ ?_
        conv=>whnf
        refine Yk ?_
        refine zt 15 rfl ?_
        conv=>whnf
        refine zw (Vo ?_)
       rotate_right
       focus
        conv=>whnf
        refine Yk ?_
        refine zd1 [8] (zx rfl ?_ zy)
        conv=>whnf
        refine Sy.call_r1 ⟨5,1,(B++beN (u64w o.op.a) 8++beN (u64w o.op.b) 8).length,(B++beN (u64w o.op.a) 8++beN (u64w o.op.b) 8).map encB⟩ (fun j=>.c (.row j)) Tryz.call59 (fun e a w' h=>put64_any (e.rv _) (B++beN (u64w o.op.a) 8) (u64w o.op.b) w' (Sy.row_reads h (.inl ⟨_,rfl⟩)) (by rw[List.length_append];omega)) ?_
        conv=>whnf
        refine Yk ?_
        refine zd1 [14] (zx rfl ?_ zy)
        conv=>whnf
        refine Sy.need_app 1 rfl ⟨by omega,by omega⟩ ?_
        conv=>whnf
        refine Yk ?_
        refine zt 15 rfl ?_
        conv=>whnf
        refine zw (Vo ?_)
     rotate_right
     focus
      conv=>whnf
      refine Yk ?_
      refine zd1 [4] (zx rfl ?_ zy)
      conv=>whnf
      refine Sy.call_r1 ⟨5,1,(B++beN (u64w o.op.a) 8).length,(B++beN (u64w o.op.a) 8).map encB⟩ (fun j=>.c (.row j)) Tryz.call59 (fun e a w' h=>put64_any (e.rv 5) B (u64w o.op.a) w' (Sy.row_reads h (.inl ⟨_,rfl⟩)) (by omega)) ?_
      conv=>whnf
      refine Yk ?_
      refine zd1 [8] (zx rfl ?_ zy)
      conv=>whnf
      refine Sy.call_r1 ⟨5,1,(B++beN (u64w o.op.a) 8++beN (u64w o.op.b) 8).length,(B++beN (u64w o.op.a) 8++beN (u64w o.op.b) 8).map encB⟩ (fun j=>.c (.row j)) Tryz.call59 (fun e a w' h=>put64_any (e.rv _) (B++beN (u64w o.op.a) 8) (u64w o.op.b) w' (Sy.row_reads h (.inl ⟨_,rfl⟩)) (by rw[List.length_append];omega)) ?_
      conv=>whnf
      refine Yk ?_
      refine zd1 [14] (zx rfl ?_ zy)
      conv=>whnf
      refine Sy.need_app 1 rfl ⟨by omega,by omega⟩ ?_
      conv=>whnf
      refine Yk ?_
      refine zt 15 rfl ?_
      conv=>whnf
      refine zw (Vo ?_)
    all_goals
     refine Sy.loop_inv Sy.tab_ok (fun m:Nat=>[(58,.c (.v (.int .i64 m))),(6,.c (.row 10))]) (fun m=>[(10,.row 5 1 (G++opN o.op m).length (.vs ((G++opN o.op m).map encB)))]) (fun m=>m<=o.op.ins.length) (fun m=>o.op.ins.length-m) 0 (Nat.zero_le _) ?_ (fun m hm=>?_)
     ·rw[sB]
      refine Vs (Vk ?_ ?_)
      ·simp;omega
      ·simp[encB,b8]
     ·have hol2:=opN_len o.op m
      refine Vo (Vj (fun hh=>?_) fun hh=>?_)
      ·have hlm:m<o.op.ins.length:=by omega
       have hgm:=List.getElem?_eq_getElem hlm
       generalize o.op.ins[m]=x at *
       refine Sy.el_map x hgm (Vo ?_)
       refine Sy.ar_wrap (Vo ?_)
       refine Sy.need_app 1 rfl ⟨by simp only[List.length_append];omega,by simp only[List.length_append];omega⟩ ?_
       refine Vo ?_
       refine⟨m+1,by omega,by omega,?_⟩
       rw[opN_succ hgm,<-List.append_assoc]
       refine Vs (Vk ?_ ?_)
       all_goals(try simp[encB,b8])
       all_goals(try omega)
      ·have e:m=o.op.ins.length:=by omega
       subst e
       rw[opN_all,<-hs]
       refine⟨n+1,by omega,by omega,?_⟩
       exact Vs0
   ·have e:n=gl.length:=by omega
    subst e
    rw[show gN (opsOf gl) gl.length=gBs (opsOf gl) by rw[gBs,hol]]
    exact Sy.fin_rows () trivial [.row 2] ⟨rfl,(by intro j hj;cases hj),trivial⟩ (fun e=>rfl)
 ·rw[show encG (opsOf gl)=[] from if_neg h0]
  refine V ?_
  exact Sy.fin_rows () trivial [.v (.slice none 0 0)] ⟨⟨rfl,rfl⟩,(by intro j hj;cases hj),trivial⟩ (fun e=>rfl)
end Go.Proofs.YtgkkpefpbfadoaaGreat
namespace Go.Proofs.YtgkkpefpbfadoaaGreat.Sn
open Go Go.RowKit
open Sy (C SV V1 Blk St XD Els)
set_option maxRecDepth 10000
def kn (x:Kc):Int:=x.src*32+x.key
def ascK (l:List Kc):Prop:=l.Pairwise fun x y=>kn x<kn y
def RowsOk (l:List Kc):Prop:=(∀x∈l,recP x.src x.key/\1<=x.cnt)/\ascK l
theorem cmpK_kn {s k s' k':Int}(h:recP s k)(h':recP s' k'):cmpK s k s' k'=cmpI (s*32+k) (s'*32+k'):=by
 unfold recP at h h'
 unfold cmpK cmpI
 repeat' split
 all_goals omega
theorem chain_pair {l:List Kc}:∀{p:Option Kc},chain okK ltK p l=true->(∀y,p=some y->recP y.src y.key)->ascK l/\∀y,p=some y->∀x∈l,kn y<kn x:=by
 induction l with
 |nil=>exact fun _ _=>⟨List.Pairwise.nil,fun _ _ x hx=>by cases hx⟩
 |cons x l ih=>
  intro p h hp
  have hx:okK x=true:=chain_ok h x List.mem_cons_self
  have hrx:=(okK_rec hx).1
  have hrest:chain okK ltK (some x) l=true:=by
   cases p with
   |none=>simp only[chain,Bool.and_eq_true] at h;exact h.2
   |some y=>simp only[chain,Bool.and_eq_true] at h;exact h.2
  obtain⟨h1,h2⟩:=ih hrest (fun y e=>by cases e;exact hrx)
  refine⟨List.pairwise_cons.2 ⟨fun y hy=>h2 x rfl y hy,h1⟩,fun y e z hz=>?_⟩
  subst e
  simp only[chain,Bool.and_eq_true] at h
  have hlt:cmpK y.src y.key x.src x.key<0:=of_decide_eq_true h.1.2
  rw[cmpK_kn (hp y rfl) hrx] at hlt
  have hyx:kn y<kn x:=by
   unfold kn
   unfold cmpI at hlt
   split at hlt
   ·assumption
   ·split at hlt<;>omega
  rcases List.mem_cons.1 hz with rfl|hz
  ·exact hyx
  ·have:=h2 x rfl z hz
   omega
theorem tbl_rows {l:List Kc}(h:tblB l=true):RowsOk l:=⟨fun _ hx=>okK_rec (chain_ok h _ hx),(chain_pair h (fun _ e=>by cases e)).1⟩
end Go.Proofs.YtgkkpefpbfadoaaGreat.Sn
namespace Go.Proofs.YtgkkpefpbfadoaaGreat.Sn
open Go Go.RowKit
open Sy (C SV V1 Blk St XD Els)
set_option maxRecDepth 10000
theorem ascK_bound:∀{l:List Kc}{a b:Int},ascK l->(∀p∈l,a<=kn p/\kn p<=b)->a<=b+1->(l.length:Int)<=b-a+1
 |[],a,b,_,_,h=>by simp;omega
 |p::r,a,b,ha,hb,_=>by
  have h1:=hb p List.mem_cons_self
  have h2:=ascK_bound (l:=r) (a:=kn p+1) (b:=b) (List.pairwise_cons.1 ha).2 (fun q hq=>⟨by have:=(List.pairwise_cons.1 ha).1 q hq;omega,(hb q (List.mem_cons_of_mem _ hq)).2⟩) (by omega)
  rw[List.length_cons];omega
theorem rows_len {l:List Kc}(h:RowsOk l):l.length<=256:=by
 have:=ascK_bound (a:=0) (b:=255) h.2 (fun p hp=>by
  have:=(h.1 p hp).1
  unfold recP at this
  unfold kn;omega) (by omega)
 omega
theorem names_len {l:List Tx}(h:namesB l=true):l.length<=24:=by
 unfold namesB at h
 simp only[Bool.and_eq_true,decide_eq_true_eq] at h
 exact h.2
end Go.Proofs.YtgkkpefpbfadoaaGreat.Sn
namespace Go.Proofs.YtgkkpefpbfadoaaGreat.Sn
open Go Go.RowKit
open Sy (C SV V1 Blk St XD Els)
set_option maxRecDepth 10000
def kBs (x:Kc):List Int:=[b8 x.src,b8 x.key]++beN (u64w x.cnt) 8++beN (u64w x.sum) 8
def tN (l:List Kc)(n:Nat):List Int:=beN l.length 2++((l.take n).map kBs).flatten
def tBs (l:List Kc):List Int:=tN l l.length
theorem kBs_len (x:Kc):(kBs x).length=18:=by
 unfold kBs
 simp only[List.length_append,beN_len,List.length_cons,List.length_nil]
theorem tN_succ {l:List Kc}{n:Nat}{x:Kc}(h:l[n]?=some x):tN l (n+1)=tN l n++kBs x:=by
 obtain⟨hn,he⟩:=List.getElem?_eq_some_iff.1 h
 unfold tN
 rw[List.take_succ_eq_append_getElem hn,he,List.map_append,List.flatten_append]
 simp
theorem tN_len (l:List Kc):∀n,n<=l.length->(tN l n).length=2+18*n
 |0,_=>by simp[tN,beN_len]
 |n+1,h=>by
  rw[tN_succ (List.getElem?_eq_getElem (show n<l.length by omega)),List.length_append,tN_len l n (by omega),kBs_len];omega
set_option maxHeartbeats 4000000 in
theorem tenc_any (v:Value)(l:List Kc)(w:World)(hr:XD.ok (fun b=>b<w.heap.size) w ⟨v,4,l.length,l.map encK⟩)(hl:tblB l=true):
 Calls Tryz.prog 197 #[.agg #[v]] w (Sy.RetRows Sy.noRow (fun _:Unit=>True) (fun _=>[⟨5,1,(tBs l).length,(tBs l).map encB⟩]) (fun _ vs=>.tuple #[vs.headD undef,.int .i64 0]) w):=by
 have hln:=rows_len (tbl_rows hl)
 refine Sy.calls_of Sy.lv197 Sy.tab_ok Tryz.func197 rfl _ Tryz.ntmps197 [⟨v,4,l.length,l.map encK⟩] [.agg [.row 0]] rfl rfl rfl ⟨hr,trivial⟩ (V ?_)
 refine Sy.call_val (.c (.v (.int .i64 0))) Tryz.call148 rfl (fun e a w' h=>by have:=tbl_any (e.rv 0) l w' (Sy.row_reads h (.inr rfl));rw[if_pos hl] at this;exact this) (V ?_)
 refine Sy.ar_wrap ?_
 rw[show IntKind.u16.wrap (l.length:Int)=(l.length:Int) by rw[IntKind.wrap_u16];omega]
 refine V ?_
 refine Sy.call_r1 ⟨5,1,(tN l 0).length,(tN l 0).map encB⟩ (fun j=>.c (.row j)) Tryz.call158 (fun e a w' h=>by
  have:=put16_any (.slice none 0 0) [] l.length w' nil_ok (by decide) ⟨by omega,by omega⟩
  rw[show tN l 0=[]++beN l.length 2 by simp[tN]]
  exact this) (V ?_)
 refine Sy.loop_inv Sy.tab_ok (fun n:Nat=>[(21,.c (.v (.int .i64 n))),(5,.c (.row 2))]) (fun n=>[(2,.row 5 1 (tN l n).length (.vs ((tN l n).map encB)))]) (fun n=>n<=l.length) (fun n=>l.length-n) 0 (Nat.zero_le _) ?_ (fun n hn=>?_)
 ·exact Vs0
 ·have hgl:=tN_len l n hn
  by_cases hlt:n<l.length
  ·have hg:=List.getElem?_eq_getElem hlt
   generalize l[n]=x at *
   have hs:=tN_succ hg
   have hb1:=beN_len (u64w x.cnt) 8
   have hb2:=beN_len (u64w x.sum) 8
   generalize tN l n=G at *
   refine V (Y1 fun hh=>?_)
   refine Sy.el_map x hg (V ?_)
   refine Sy.ar_wrap (V ?_)
   refine Sy.ar_wrap (V ?_)
   refine Sy.need_app 1 rfl ⟨by omega,by omega⟩ ?_
   have eB:List.map encB G++[[.int .u8 (IntKind.u8.wrap x.src)],[.int .u8 (IntKind.u8.wrap x.key)]]=List.map encB (G++[b8 x.src,b8 x.key]):=by simp[encB,b8]
   have lB:G.length+2=(G++[b8 x.src,b8 x.key]).length:=by simp
   refine V ?_
   rw[eB,lB]
   have sB:G++kBs x=(G++[b8 x.src,b8 x.key])++beN (u64w x.cnt) 8++beN (u64w x.sum) 8:=by unfold kBs;simp
   rw[sB] at hs
   have lb:(G++[b8 x.src,b8 x.key]).length<=9000:=by rw[<-lB];omega
   generalize G++[b8 x.src,b8 x.key]=B at *
   have lb2:(B++beN (u64w x.cnt) 8).length<=9008:=by rw[List.length_append];omega
   refine Sy.draw_go [] (by kernel_rfl) ?_
   intro e0
   conv=>whnf
   refine zt 0 rfl ?_
   conv=>whnf
   refine zt 1 rfl ?_
   conv=>whnf
   refine zt 2 rfl ?_
   conv=>whnf
   refine zt 3 rfl ?_
   conv=>whnf
   refine zt 4 rfl (V ?_)
   refine Sy.ar_wrap ?_
   conv=>whnf
   refine zt 6 rfl ?_
   conv=>whnf
   refine zt 7 rfl ?_
   conv=>whnf
   refine zt 8 rfl ?_
   conv=>whnf
   refine zt 9 rfl (V ?_)
   refine Sy.ar_wrap ?_
   conv=>whnf
   refine zd1 [5] (zx rfl ?_ zy)
   conv=>whnf
   refine Sy.call_r1 ⟨5,1,(B++beN (u64w x.cnt) 8).length,(B++beN (u64w x.cnt) 8).map encB⟩ (fun j=>.c (.row j)) Tryz.call59 (fun e a w' h=>put64_any (e.rv 5) B (u64w x.cnt) w' (Sy.row_reads h (.inl ⟨_,rfl⟩)) (by omega)) ?_
   conv=>whnf
   refine Yk ?_
   refine zd1 [10] (zx rfl ?_ zy)
   conv=>whnf
   refine Sy.call_r1 ⟨5,1,(B++beN (u64w x.cnt) 8++beN (u64w x.sum) 8).length,(B++beN (u64w x.cnt) 8++beN (u64w x.sum) 8).map encB⟩ (fun j=>.c (.row j)) Tryz.call59 (fun e a w' h=>put64_any (e.rv 6) (B++beN (u64w x.cnt) 8) (u64w x.sum) w' (Sy.row_reads h (.inl ⟨_,rfl⟩)) (by omega)) ?_
   conv=>whnf
   refine Yk ?_
   refine zt 11 rfl ?_
   conv=>whnf
   refine zw ?_
   skip
   all_goals(refine V ?_)
   all_goals(refine⟨n+1,by omega,by omega,?_⟩)
   all_goals(rw[hs])
   all_goals(exact Vs0)
  ·have e:n=l.length:=by omega
   subst e
   rw[show tN l l.length=tBs l from rfl]
   refine V (Y1 fun hh=>?_)
   exact Sy.fin_r1 (.row 2) rfl (fun e=>rfl)
end Go.Proofs.YtgkkpefpbfadoaaGreat.Sn
namespace Go.Proofs.YtgkkpefpbfadoaaGreat.Sn
open Go Go.RowKit
open Sy (C SV V1 Blk St XD Els)
set_option maxRecDepth 10000
def retS (s:Sn)(e:Int)(vs:List Value):Value:=.tuple #[.agg #[.int .i64 s.op,.int .i64 s.idx,.int .i64 s.wid,.bool s.fin,vs.headD undef,.int .i64 (s.offs 0),.int .i64 (s.offs 1),.int .i64 (s.offs 2),.int .i64 (s.offs 3),.int .i64 (s.offs 4),.int .i64 (s.offs 5),.int .i64 (s.offs 6),.int .i64 (s.offs 7),(vs.drop 1).headD undef],.int .i64 e]
def nBs (n:Tx):List Int:=[b8 n.sink]++beN n.att 4++beN n.ser 4
def oN (o:Fin 8->Int)(m:Nat):List Int:=(List.range m).map fun k:Nat=>b8 (o (gI k))
def hBs (s:Sn):List Int:=[b8 s.op,b8 s.idx,b8 s.wid,if s.fin=true then 1 else 0]++tBs s.rows
def sN (s:Sn)(n:Nat):List Int:=hBs s++oN s.offs 8++[b8 s.txs.length]++((s.txs.take n).map nBs).flatten
def sBs (s:Sn):List Int:=sN s s.txs.length
def encV (s:Sn):List Int:=if rightP s then sBs s else[]
theorem oN_succ (o:Fin 8->Int)(m:Nat):oN o (m+1)=oN o m++[b8 (o (gI m))]:=by
 unfold oN
 rw[List.range_succ,List.map_append];rfl
theorem oN_len (o:Fin 8->Int)(m:Nat):(oN o m).length=m:=by simp[oN]
theorem nBs_len (n:Tx):(nBs n).length=9:=by
 unfold nBs
 simp only[List.length_append,beN_len,List.length_cons,List.length_nil]
theorem sN_succ {s:Sn}{n:Nat}{x:Tx}(h:s.txs[n]?=some x):sN s (n+1)=sN s n++nBs x:=by
 obtain⟨hn,he⟩:=List.getElem?_eq_some_iff.1 h
 unfold sN
 rw[List.take_succ_eq_append_getElem hn,he,List.map_append,List.flatten_append]
 simp
theorem hBs_len (s:Sn):(hBs s).length=6+18*s.rows.length:=by
 have:=tN_len s.rows s.rows.length (Nat.le_refl _)
 unfold hBs tBs
 rw[List.length_append,this]
 simp only[List.length_cons,List.length_nil];omega
theorem sN_len (s:Sn):∀n,n<=s.txs.length->(sN s n).length=15+18*s.rows.length+9*n
 |0,_=>by simp[sN,hBs_len,oN_len];omega
 |n+1,h=>by
  rw[sN_succ (List.getElem?_eq_getElem (show n<s.txs.length by omega)),List.length_append,sN_len s n (by omega),nBs_len];omega
attribute [local irreducible] ownW tblB namesB rightP
set_option maxHeartbeats 8000000 in
theorem enc_any (s:SnV)(w:World)(hr:SOk (fun b=>b<w.heap.size) w s):
 Calls Tryz.prog 161 #[.agg (encS s).toArray] w (Sy.RetRows Sy.noRow (fun _:Unit=>True) (fun _=>[⟨5,1,(encV s.sn).length,(encV s.sn).map encB⟩]) (fun _ vs=>.tuple #[vs.headD undef,.int .i64 (chkE s.sn)]) w):=by
 have hl1:=ok_len hr.rows
 have hl2:=ok_len hr.txs
 obtain⟨⟨op,idx,wid,fin,rows,o,txs⟩,u,t⟩:=s
 dsimp only at hl1 hl2
 refine Sy.calls_of Sy.lv161 Sy.tab_ok Tryz.func161 rfl _ Tryz.ntmps161 [⟨u,4,rows.length,rows.map encK⟩,⟨t,3,txs.length,txs.map encT⟩] [.agg [.v (.int .i64 op),.v (.int .i64 idx),.v (.int .i64 wid),.v (.bool fin),.row 0,.v (.int .i64 (o 0)),.v (.int .i64 (o 1)),.v (.int .i64 (o 2)),.v (.int .i64 (o 3)),.v (.int .i64 (o 4)),.v (.int .i64 (o 5)),.v (.int .i64 (o 6)),.v (.int .i64 (o 7)),.row 1]] rfl rfl rfl ⟨hr.rows,hr.txs,trivial⟩ ?_
 obtain⟨S,hS⟩:∃S:Sn,S=⟨op,idx,wid,fin,rows,o,txs⟩:=⟨_,rfl⟩
 rw[show SnV.sn ⟨⟨op,idx,wid,fin,rows,o,txs⟩,u,t⟩=S from hS.symm]
 refine V ?_
 refine Sy.call_val (.c (.v (.int .i64 (chkE S)))) Tryz.call107 rfl (fun e a w' h=>by
  have:=check_any ⟨⟨op,idx,wid,fin,rows,o,txs⟩,e.rv 0,e.rv 1⟩ w' ⟨Sy.row_reads h (.inr rfl),Sy.row_reads h (.inr rfl)⟩
  rw[hS];exact this) ?_
 by_cases hrt:rightP S
 ·have hE:chkE S=0:=if_pos hrt
  have hV:encV S=sBs S:=if_pos hrt
  have hrt':=hrt
  rw[hS] at hrt'
  unfold rightP at hrt'
  obtain⟨hop,hsh,htb,hnm,_,hoff⟩:=hrt'
  dsimp only at hop hsh htb hnm hoff
  have hlr:=rows_len (tbl_rows htb)
  have hlt:=names_len hnm
  rw[hE,hV]
  refine V ?_
  refine Sy.ar_wrap (V ?_)
  refine Sy.ar_wrap (V ?_)
  refine Sy.ar_wrap ?_
  have hlen:=hBs_len S
  have hSr:S.rows=rows:=by rw[hS]
  have hSt:S.txs=txs:=by rw[hS]
  have hSo:S.offs=o:=by rw[hS]
  have eH:∀b:Bool,fin=b->([[.int .u8 (IntKind.u8.wrap op)],[.int .u8 (IntKind.u8.wrap idx)],[.int .u8 (IntKind.u8.wrap wid)],[.int .u8 (if b=true then 1 else 0)]]:List (List Value))++List.map encB (tBs rows)=List.map encB (hBs S):=fun b hb=>by
   rw[hS,<-hb]
   simp[encB,b8,hBs]
  rw[hSr] at hlen
  cases fin
  case' true=>
   refine V ?_
   refine Sy.el_of _ rfl (V ?_)
   refine Sy.ar_wrap ?_
   rw[show IntKind.u8.wrap ((0:Int)+1)=1 by rw[IntKind.wrap_u8];rfl]
   refine V ?_
   refine Sy.el_of _ rfl ?_
  all_goals
   have eH:=eH _ rfl
   refine V ?_
   refine Sy.call_r1 ⟨5,1,(tBs rows).length,(tBs rows).map encB⟩ (fun j=>.tup [.c (.row j),.c (.v (.int .i64 0))]) Tryz.call197 (fun e a w' h=>tenc_any (e.rv 0) rows w' (Sy.row_reads h (.inr rfl)) htb) ?_
   have htl:(tBs rows).length=2+18*rows.length:=tN_len rows _ (Nat.le_refl _)
   refine V ?_
   refine Sy.need_app 1 rfl ⟨by omega,by omega⟩ (V ?_)
   refine Sy.loop_inv Sy.tab_ok (fun m:Nat=>[(48,.c (.v (.int .i64 m))),(5,.c (.row 5))]) (fun m=>[(5,.row 5 1 (hBs S++oN o m).length (.vs ((hBs S++oN o m).map encB)))]) (fun m=>m<=8) (fun m=>8-m) 0 (by decide) ?_ (fun m hm=>?_)
   ·refine Vs (Vk ?_ ?_)
    ·rw[List.length_append,hlen,oN_len,htl];omega
    ·exact eH.trans (by simp[oN])
   ·have hol:=oN_len o m
    have hos:=oN_succ o m
    have hPl:(hBs S++oN o m).length=6+18*rows.length+m:=by rw[List.length_append,hlen,oN_len]
    by_cases hlt:m<8
    ·obtain⟨g,hgx⟩:∃g:Fin 8,(m:Int)=(g.val:Int):=⟨⟨m,hlt⟩,rfl⟩
     have hgg:gI m=g:=Fin.ext (by have:=gI_val (x:=(m:Int)) (by omega);omega)
     rw[hgg] at hos
     have ho40:=hoff g
     unfold offP at ho40
     refine V (Y1 fun hh=>?_)
     refine Sy.cell_of (.v (.int .i64 (o g))) (by first|exact off_cell o g m hgx|(show _[_*1]?=_;rw[Nat.mul_one];exact off_cell o g m hgx)) (V ?_)
     refine Sy.ar_wrap (V ?_)
     refine Sy.need_app 1 rfl ⟨by omega,by omega⟩ (V ?_)
     refine⟨m+1,by omega,by omega,?_⟩
     rw[hos,<-List.append_assoc]
     refine Vs (Vk ?_ ?_)
     all_goals(try simp[encB,b8])
     all_goals(try omega)
    ·have e:m=8:=by omega
     subst e
     refine V ?_
     refine Sy.ar_wrap (V ?_)
     refine Sy.need_app 1 rfl ⟨by omega,by omega⟩ (V ?_)
     refine Sy.loop_inv Sy.tab_ok (fun n:Nat=>[(67,.c (.v (.int .i64 n))),(5,.c (.row 7))]) (fun n=>[(7,.row 5 1 (sN S n).length (.vs ((sN S n).map encB)))]) (fun n=>n<=txs.length) (fun n=>txs.length-n) 0 (Nat.zero_le _) ?_ (fun n hn=>?_)
     ·have e0:sN S 0=hBs S++oN o 8++[b8 txs.length]:=by unfold sN;rw[hSo,hSt];simp
      rw[e0]
      refine Vs (Vk ?_ ?_)
      all_goals first|(simp[encB,b8];done)|(simp only[List.length_append,List.length_cons,List.length_nil];done)
     ·have hnl:=sN_len S n (by rw[hSt];exact hn)
      rw[hSr] at hnl
      by_cases hlt2:n<txs.length
      ·have hg:=List.getElem?_eq_getElem hlt2
       have hok:=chain_ok (show chain okT ltT none txs=true by unfold namesB at hnm;simp only[Bool.and_eq_true] at hnm;exact hnm.1) _ (List.getElem_mem hlt2)
       generalize txs[n]=x at *
       have hok:okN x:=of_decide_eq_true hok
       unfold okN at hok
       have hs:=sN_succ (s:=S) (n:=n) (x:=x) (by rw[hSt];exact hg)
       have hb1:=beN_len x.att 4
       generalize sN S n=G at *
       have eB:List.map encB G++[[.int .u8 (IntKind.u8.wrap x.sink)]]=List.map encB (G++[b8 x.sink]):=by simp[encB,b8]
       have lB:G.length+1=(G++[b8 x.sink]).length:=by simp
       have sB:G++nBs x=(G++[b8 x.sink])++beN x.att 4++beN x.ser 4:=by unfold nBs;simp
       rw[sB] at hs
       have lb:(G++[b8 x.sink]).length<=9000:=by rw[<-lB];omega
       have lb2:(G++[b8 x.sink]++beN x.att 4).length<=9008:=by rw[List.length_append,hb1];omega
       refine V (Y1 fun hh=>?_)
       have w1:IntKind.u32.wrap x.att=x.att:=by rw[IntKind.wrap_u32];omega
       have w2:IntKind.u32.wrap x.ser=x.ser:=by rw[IntKind.wrap_u32];omega
       refine Sy.el_map x hg (V ?_)
       refine Sy.draw_go [7] (by kernel_rfl) ?_
       intro e0
       conv=>whnf
       refine zt 0 rfl ?_
       conv=>whnf
       refine zt 1 rfl ?_
       conv=>whnf
       refine zt 2 rfl ?_
       conv=>whnf
       refine zt 3 rfl (V ?_)
       refine Sy.ar_wrap ?_
       conv=>whnf
       refine zt 6 rfl ?_
       conv=>whnf
       refine zt 7 rfl ?_
       conv=>whnf
       refine zt 8 rfl (V ?_)
       refine Sy.ar_wrap ?_
       rw[w1]
       conv=>whnf
       refine zt 10 rfl ?_
       conv=>whnf
       refine zt 11 rfl ?_
       conv=>whnf
       refine zt 12 rfl (V ?_)
       refine Sy.ar_wrap ?_
       rw[w2]
       conv=>whnf
       refine zd1 [4] (zx rfl ?_ zy)
       conv=>whnf
       refine Yk ?_
       refine zd1 [5] (zx rfl ?_ zy)
       conv=>whnf
       refine Sy.need_app 1 rfl ⟨by omega,by omega⟩ ?_
       conv=>whnf
       rw[eB,lB]
       refine Yk ?_
       refine zd1 [9] (zx rfl ?_ zy)
       conv=>whnf
       refine Sy.call_r1 ⟨5,1,(G++[b8 x.sink]++beN x.att 4).length,(G++[b8 x.sink]++beN x.att 4).map encB⟩ (fun j=>.c (.row j)) Tryz.call57 (fun e a w' h=>put32_any (e.rv 10) (G++[b8 x.sink]) x.att w' (Sy.row_reads h (.inl ⟨_,rfl⟩)) (by omega) (by omega)) ?_
       conv=>whnf
       refine Yk ?_
       refine zd1 [13] (zx rfl ?_ zy)
       conv=>whnf
       refine Sy.call_r1 ⟨5,1,(G++[b8 x.sink]++beN x.att 4++beN x.ser 4).length,(G++[b8 x.sink]++beN x.att 4++beN x.ser 4).map encB⟩ (fun j=>.c (.row j)) Tryz.call57 (fun e a w' h=>put32_any (e.rv 11) (G++[b8 x.sink]++beN x.att 4) x.ser w' (Sy.row_reads h (.inl ⟨_,rfl⟩)) (by omega) (by omega)) ?_
       conv=>whnf
       refine Yk ?_
       refine zt 14 rfl ?_
       conv=>whnf
       refine zw ?_
       skip
       all_goals(refine V ?_)
       all_goals(refine⟨n+1,by omega,by omega,?_⟩)
       all_goals(rw[hs])
       all_goals(exact Vs0)
      ·have e:n=txs.length:=by omega
       subst e
       rw[show sN S txs.length=sBs S by unfold sBs;rw[hSt]]
       refine V (Y1 fun hh=>?_)
       exact Sy.fin_r1 (.row 7) rfl (fun e=>rfl)
 ·have hE:chkE S=280:=if_neg hrt
  have hV:encV S=[]:=if_neg hrt
  rw[hE,hV]
  refine V ?_
  exact Sy.fin_r1 (.v (.slice none 0 0)) ⟨rfl,rfl⟩
end Go.Proofs.YtgkkpefpbfadoaaGreat.Sn
