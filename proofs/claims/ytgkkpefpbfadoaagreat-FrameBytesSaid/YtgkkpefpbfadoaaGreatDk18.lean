/- Frame: records and what flows in channels. -/
import Derived.Test.YtgkkpefpbfadoaaGreatDk9
import Derived.Test.YtgkkpefpbfadoaaGreatDk17
namespace Go.Proofs.YtgkkpefpbfadoaaGreat
open Go Go.RowKit
open Sy (C SV V1 Blk St XD Els)
set_option maxRecDepth 10000
theorem number_rec (n:Int)(w:World):Calls Tryz.prog 194 #[.int .u64 n] w (Sy.Ret (.bool (decide (numP n))) w):=by
 refine Sy.calls_of Sy.lv194 Sy.tab_ok Tryz.func194 rfl _ Tryz.ntmps194 [] [.c (.v (.int .u64 n))] rfl rfl rfl trivial (V (Vj (fun hh=>?_) fun hh=>?_))
 all_goals exact Sy.fin_val fun e=>fbool
theorem elem_any (x:Elm)(w:World):Calls Tryz.prog 156 #[.agg (encE x).toArray] w (Sy.Ret (.int .i64 (if elemP x then 0 else 151)) w):=by
 obtain⟨kind,⟨src,key,val⟩,num⟩:=x
 refine Sy.calls_of Sy.lv156 Sy.tab_ok Tryz.func156 rfl _ Tryz.ntmps156 [] [.agg [.v (.int .i64 kind),.v (.int .i64 src),.v (.int .i64 key),.v (.int .i64 val),.v (.int .u64 num)]] rfl rfl rfl trivial ?_
 by_cases h1:kind=1
 ·subst h1
  refine V ?_
  refine Sy.call_val (.c (.v (.int .i64 (if Sn.recP src key then 0 else 150)))) Tryz.call187 rfl (fun e a w' h=>Sn.rec_any src key val w') ?_
  by_cases hp:Sn.recP src key
  ·rw[if_pos hp]
   refine V (Vj (fun hh=>?_) fun hh=>?_)
   all_goals exact Sy.fin_val fun e=>(by first|exact fpos|exact fneg)
  ·rw[if_neg hp]
   refine V ?_
   all_goals exact Sy.fin_val fun e=>(by first|exact fpos|exact fneg)
 by_cases h2:kind=2
 ·subst h2
  refine V ?_
  refine Sy.call_val (.c (.v (.bool (decide (numP num))))) Tryz.call194 rfl (fun e a w' h=>number_rec num w') ?_
  by_cases hp:numP num
  ·rw[decide_eq_true hp]
   refine V (Vj (fun hh=>Vj (fun hh=>Vj (fun hh=>?_) fun hh=>?_) fun hh=>?_) fun hh=>?_)
   all_goals exact Sy.fin_val fun e=>(by first|exact fpos|exact fneg)
  ·rw[decide_eq_false hp]
   refine V ?_
   all_goals exact Sy.fin_val fun e=>(by first|exact fpos|exact fneg)
 ((repeat' first|refine Y ?_|refine Y2 ?_ ?_|refine Y1 fun hh=>?_|exact Y0.mk);(all_goals(try conv=>whnf)))
 all_goals exact Sy.fin_val fun e=>(by first|exact fpos|exact fneg)
def elB (x:Elm):List Int:=b8 x.kind::(if x.kind=1 then[b8 x.r.src,b8 x.r.key]++beN (u64w x.r.val) 8 else if x.kind=2 then beN x.num 8 else[])
def rN (l:List Elm)(n:Nat):List Int:=b8 l.length::((l.take n).map elB).flatten
def rB (l:List Elm):List Int:=rN l l.length
theorem flat_succ {α:Type}{f:α->List Int}{l:List α}{n:Nat}{x:α}(h:l[n]?=some x):((l.take (n+1)).map f).flatten=((l.take n).map f).flatten++f x:=by
 obtain⟨hn,he⟩:=List.getElem?_eq_some_iff.1 h
 rw[List.take_succ_eq_append_getElem hn,he,List.map_append,List.flatten_append]
 simp
theorem flat_len {α:Type}{f:α->List Int}{k:Nat}(hk:∀x,(f x).length<=k)(l:List α)(n:Nat):((l.take n).map f).flatten.length<=k*n:=by
 induction n with
 |zero=>simp
 |succ n ih=>
  by_cases hn:n<l.length
  ·rw[flat_succ (List.getElem?_eq_getElem hn),List.length_append]
   have:=hk l[n]
   rw[Nat.mul_succ];omega
  ·rw[List.take_of_length_le (by omega)] at ih⊢
   rw[Nat.mul_succ];omega
theorem elB_len (x:Elm):(elB x).length<=11:=by
 unfold elB
 have h1:=beN_len (u64w x.r.val) 8
 have h2:=beN_len x.num 8
 split
 ·simp only[List.length_cons,List.length_append,List.length_nil];omega
 ·split
  ·simp only[List.length_cons];omega
  ·simp
theorem rN_succ {l:List Elm}{n:Nat}{x:Elm}(h:l[n]?=some x):rN l (n+1)=rN l n++elB x:=by
 unfold rN;rw[flat_succ h];rfl
theorem rN_len (l:List Elm)(n:Nat):(rN l n).length<=1+11*n:=by
 unfold rN
 have:=flat_len elB_len l n
 rw[List.length_cons];omega
attribute [local irreducible] beN rN
set_option maxHeartbeats 4000000 in
theorem row_any (v:Value)(l:List Elm)(w:World)(hr:XD.ok (fun b=>b<w.heap.size) w ⟨v,5,l.length,l.map encE⟩)(hl:l.length<=200)(hg:∀x∈l,elemP x):
 Calls Tryz.prog 114 #[v] w (Sy.RetRows Sy.noRow (fun _:Unit=>True) (fun _=>[⟨5,1,(rB l).length,(rB l).map encB⟩]) (fun _ vs=>.tuple #[vs.headD undef,.int .i64 0]) w):=by
 refine Sy.calls_of Sy.lv114 Sy.tab_ok Tryz.func114 rfl _ Tryz.ntmps114 [⟨v,5,l.length,l.map encE⟩] [.c (.row 0)] rfl rfl rfl ⟨hr,trivial⟩ (V (Y1 fun hh=>?_))
 refine Sy.call_in Sy.lv159 Sy.tab_ok Tryz.func159 rfl _ Tryz.ntmps159 Tryz.call159 rfl (fun _=>?_)
 refine V ?_
 refine Sy.call_in Sy.lv196 Sy.tab_ok Tryz.func196 rfl _ Tryz.ntmps196 Tryz.call196 rfl (fun _=>?_)
 refine V ?_
 refine Sy.loop_inv Sy.tab_ok (fun n:Nat=>[(8,.c (.v (.int .i64 n)))]) (fun _=>[]) (fun n=>n<=l.length) (fun n=>l.length-n) 0 (Nat.zero_le _) ?_ (fun n hn=>?_)
 ·exact Vs0
 by_cases hlt:n<l.length
 ·have hgt:=List.getElem?_eq_getElem hlt
  have hgx:=hg _ (List.getElem_mem hlt)
  generalize l[n]=x at *
  refine V (Y1 fun hh=>?_)
  refine Sy.el_map x hgt (V ?_)
  refine Sy.call_in Sy.lv160 Sy.tab_ok Tryz.func160 rfl _ Tryz.ntmps160 Tryz.call160 rfl (fun _=>?_)
  refine V ?_
  refine Sy.call_val (.c (.v (.int .i64 0))) Tryz.call156 rfl (fun e a w' h=>(by have:=elem_any x w';rw[if_pos hgx] at this;exact this)) (V ?_)
  refine⟨n+1,by omega,by omega,?_⟩
  exact Vs0
 have en:n=l.length:=by omega
 subst en
 refine V (Y1 fun hh=>?_)
 refine Sy.ar_wrap (V ?_)
 refine Sy.loop_inv Sy.tab_ok (fun n:Nat=>[(20,.c (.v (.int .i64 n))),(4,.c (.row 1))]) (fun n=>[(1,.row 5 1 (rN l n).length (.vs ((rN l n).map encB)))]) (fun n=>n<=l.length) (fun n=>l.length-n) 0 (Nat.zero_le _) ?_ (fun n hn=>?_)
 ·rw[show rN l 0=[b8 l.length] by unfold rN;rfl]
  exact Vs0
 have hbl:=rN_len l n
 by_cases hlt:n<l.length
 ·have hgt:=List.getElem?_eq_getElem hlt
  have hgx:=hg _ (List.getElem_mem hlt)
  generalize l[n]=x at *
  have hs:=rN_succ hgt
  generalize rN l n=G at *
  have eB:List.map encB G++[[.int .u8 (IntKind.u8.wrap x.kind)]]=List.map encB (G++[b8 x.kind]):=by simp[encB,b8]
  have lB:G.length+1=(G++[b8 x.kind]).length:=by simp
  refine V (Y1 fun hh=>?_)
  refine Sy.el_map x hgt (V ?_)
  refine Sy.ar_wrap (V ?_)
  refine Sy.need_app 1 rfl ⟨by omega,by omega⟩ ?_
  conv=>whnf
  rw[eB,lB]
  by_cases h1:x.kind=1
  ·have hs:rN l (n+1)=(G++[b8 x.kind]++[b8 x.r.src,b8 x.r.key])++beN (u64w x.r.val) 8:=by rw[hs];simp[elB,h1]
   generalize hG2:G++[b8 x.kind]=G2 at *
   have e2:List.map encB G2++[[.int .u8 (IntKind.u8.wrap x.r.src)],[.int .u8 (IntKind.u8.wrap x.r.key)]]=List.map encB (G2++[b8 x.r.src,b8 x.r.key]):=by simp[encB,b8]
   have l2:G2.length+2=(G2++[b8 x.r.src,b8 x.r.key]).length:=by simp
   have hbb:=beN_len (u64w x.r.val) 8
   refine V ?_
   refine Sy.draw_go [4] (by kernel_rfl) ?_
   intro e0
   conv=>whnf
   refine zt 0 rfl ?_
   conv=>whnf
   refine zt 1 rfl ?_
   conv=>whnf
   refine zt 2 rfl ?_
   conv=>whnf
   refine zt 3 rfl ?_
   conv=>whnf
   refine zt 4 rfl (V ?_)
   refine Sy.ar_wrap ?_
   conv=>whnf
   refine zt 5 rfl ?_
   conv=>whnf
   refine zt 6 rfl ?_
   conv=>whnf
   refine zt 7 rfl ?_
   conv=>whnf
   refine zt 8 rfl (V ?_)
   refine Sy.ar_wrap ?_
   conv=>whnf
   refine zt 11 rfl ?_
   conv=>whnf
   refine zt 12 rfl ?_
   conv=>whnf
   refine zt 13 rfl ?_
   conv=>whnf
   refine zt 14 rfl (V ?_)
   refine Sy.ar_wrap ?_
   conv=>whnf
   refine zd1 [9] (zx rfl ?_ zy)
   conv=>whnf
   refine Yk ?_
   refine zd1 [10] (zx rfl ?_ zy)
   conv=>whnf
   refine Sy.need_app 1 rfl ⟨by omega,by omega⟩ ?_
   conv=>whnf
   rw[e2,l2]
   refine Yk ?_
   refine zd1 [15] (zx rfl ?_ zy)
   conv=>whnf
   refine Sy.call_r1 ⟨5,1,(G2++[b8 x.r.src,b8 x.r.key]++beN (u64w x.r.val) 8).length,(G2++[b8 x.r.src,b8 x.r.key]++beN (u64w x.r.val) 8).map encB⟩ (fun j=>.c (.row j)) Tryz.call59 (fun e a w' h=>put64_any (e.rv 6) _ (u64w x.r.val) w' (Sy.row_reads h (.inl ⟨_,rfl⟩)) (by omega)) ?_
   conv=>whnf
   refine Yk ?_
   refine zt 16 rfl ?_
   conv=>whnf
   refine zw ?_
   skip
   refine V ?_
   refine⟨n+1,by omega,by omega,?_⟩
   rw[hs]
   exact Vs0
  by_cases h2:x.kind=2
  ·have hs:rN l (n+1)=(G++[b8 x.kind])++beN x.num 8:=by rw[hs];simp[elB,h2]
   refine V ?_
   refine Sy.call_r1 ⟨5,1,(G++[b8 x.kind]++beN x.num 8).length,(G++[b8 x.kind]++beN x.num 8).map encB⟩ (fun j=>.c (.row j)) Tryz.call59 (fun e a w' h=>put64_any (e.rv 4) _ x.num w' (Sy.row_reads h (.inl ⟨_,rfl⟩)) (by omega)) (V ?_)
   refine⟨n+1,by omega,by omega,?_⟩
   rw[hs]
   exact Vs0
  ·have hs:rN l (n+1)=G++[b8 x.kind]:=by rw[hs];simp[elB,h1,h2]
   refine V ?_
   refine⟨n+1,by omega,by omega,?_⟩
   rw[hs]
   exact Vs0
 ·have en:n=l.length:=by omega
  subst en
  refine V ?_
  exact Sy.fin_r1 (.row 1) rfl (fun e=>rfl)
end Go.Proofs.YtgkkpefpbfadoaaGreat
namespace Go.Proofs.YtgkkpefpbfadoaaGreat
open Go Go.RowKit
open Sy (C SV V1 Blk St XD Els)
set_option maxRecDepth 10000
def wOf (n:Int):Int:=if wrkP n then n-3 else 0
theorem mgr_any (n:Int)(w:World):Calls Tryz.prog 97 #[.int .i64 n] w (Sy.Ret (.bool (decide (mgrP n))) w):=by
 refine Sy.calls_of Sy.lv97 Sy.tab_ok Tryz.func97 rfl _ Tryz.ntmps97 [] [.c (.v (.int .i64 n))] rfl rfl rfl trivial (V (Vj (fun hh=>?_) fun hh=>?_))
 all_goals exact Sy.fin_val fun e=>fbool
theorem worker_any (n:Int)(hn:I64 n)(w:World):Calls Tryz.prog 141 #[.int .i64 n] w (Sy.Ret (.tuple #[.int .i64 (wOf n),.bool (decide (wrkP n))]) w):=by
 unfold I64 at hn
 refine Sy.calls_of Sy.lv141 Sy.tab_ok Tryz.func141 rfl _ Tryz.ntmps141 [] [.c (.v (.int .i64 n))] rfl rfl rfl trivial ?_
 by_cases h:wrkP n
 ·rw[wOf,if_pos h,decide_eq_true h]
  unfold wrkP at h
  exact V0
 ·rw[wOf,if_neg h,decide_eq_false h]
  unfold wrkP at h
  refine V ?_
  refine Sy.ar_wrap ?_
  have hw:IntKind.i64.wrap (n-3)<1\/IntKind.i64.wrap (n-3)>4:=by rw[IntKind.wrap_i64];omega
  generalize IntKind.i64.wrap (n-3)=z at *
  exact V0
theorem works_any (n:Int)(hn:I64 n)(w:World):Calls Tryz.prog 98 #[.int .i64 n] w (Sy.Ret (.bool (decide (wrkP n))) w):=by
 refine Sy.calls_of Sy.lv98 Sy.tab_ok Tryz.func98 rfl _ Tryz.ntmps98 [] [.c (.v (.int .i64 n))] rfl rfl rfl trivial (V ?_)
 refine Sy.call_val (.tup [.c (.v (.int .i64 (wOf n))),.c (.v (.bool (decide (wrkP n))))]) Tryz.call141 rfl (fun e a w' h=>worker_any n hn w') V0
def ndE (n:Int):Int:=if 1<=n/\n<=4 then 0 else 370
theorem node_any (n:Int)(w:World):Calls Tryz.prog 179 #[.int .i64 n] w (Sy.Ret (.tuple #[.int .i64 (if 1<=n/\n<=4 then 3+n else 0),.int .i64 (ndE n)]) w):=by
 unfold ndE
 refine Sy.calls_of Sy.lv179 Sy.tab_ok Tryz.func179 rfl _ Tryz.ntmps179 [] [.c (.v (.int .i64 n))] rfl rfl rfl trivial ?_
 by_cases h:1<=n/\n<=4
 ·rw[if_pos h,if_pos h]
  exact V0
 ·rw[if_neg h,if_neg h]
  exact V0
theorem number_any (n:Int)(w:World):Calls Tryz.prog 100 #[.int .u64 n] w (Sy.Ret (.bool (decide (numP n))) w):=by
 refine Sy.calls_of Sy.lv100 Sy.tab_ok Tryz.func100 rfl _ Tryz.ntmps100 [] [.c (.v (.int .u64 n))] rfl rfl rfl trivial (V (Vj (fun hh=>?_) fun hh=>?_))
 all_goals exact Sy.fin_val fun e=>fbool
theorem task_any (n:Int)(w:World):Calls Tryz.prog 106 #[.int .i64 n] w (Sy.Ret (.bool (decide (taskP n))) w):=by
 refine Sy.calls_of Sy.lv106 Sy.tab_ok Tryz.func106 rfl _ Tryz.ntmps106 [] [.c (.v (.int .i64 n))] rfl rfl rfl trivial (V (Vj (fun hh=>?_) fun hh=>?_))
 all_goals exact Sy.fin_val fun e=>fbool
def encK (p:Pkt):List Value:=[.int .i64 p.kind,.int .u32 p.ses,.int .u64 p.seq,.int .u64 p.lim,.int .i64 p.elem.kind,.int .i64 p.elem.r.src,.int .i64 p.elem.r.key,.int .i64 p.elem.r.val,.int .u64 p.elem.num]
theorem packet_any (p:Pkt)(w:World):Calls Tryz.prog 109 #[.agg (encK p).toArray] w (Sy.Ret (.bool (decide (pktP p))) w):=by
 obtain⟨kind,ses,seq,lim,⟨ek,⟨src,key,val⟩,num⟩⟩:=p
 refine Sy.calls_of Sy.lv109 Sy.tab_ok Tryz.func109 rfl _ Tryz.ntmps109 [] [.agg [.v (.int .i64 kind),.v (.int .u32 ses),.v (.int .u64 seq),.v (.int .u64 lim),.v (.int .i64 ek),.v (.int .i64 src),.v (.int .i64 key),.v (.int .i64 val),.v (.int .u64 num)]] rfl rfl rfl trivial ?_
 have hP:∀b,(b=true↔(1<=ses/\ses<=2147483647)/\numP seq/\((kind=1/\lim=0/\elemP ⟨ek,⟨src,key,val⟩,num⟩)\/(kind=2/\lim<=4611686018427387904/\el0 ⟨ek,⟨src,key,val⟩,num⟩)))->Value.bool b=.bool (decide (pktP ⟨kind,ses,seq,lim,⟨ek,⟨src,key,val⟩,num⟩⟩)):=fun b h=>fbool h
 by_cases h1:1<=ses/\ses<=2147483647
 case' neg=>
  rw[<-hP false ⟨fun h=>(by cases h),fun h=>absurd h.1 h1⟩]
  exact V0
 refine V (Y1 fun hh=>Y1 fun hh=>?_)
 refine Sy.call_val (.c (.v (.bool (decide (numP seq))))) Tryz.call100 rfl (fun e a w' h=>number_any seq w') ?_
 by_cases h2:numP seq
 case' neg=>
  rw[decide_eq_false h2,<-hP false ⟨fun h=>(by cases h),fun h=>absurd h.2.1 h2⟩]
  exact V0
 rw[decide_eq_true h2]
 by_cases h3:kind=1
 ·subst h3
  refine V (Vj (fun hh=>?_) fun hh=>?_)
  refine Sy.call_val (.c (.v (.int .i64 (if elemP ⟨ek,⟨src,key,val⟩,num⟩ then 0 else 151)))) Tryz.call156 rfl (fun e a w' h=>elem_any ⟨ek,⟨src,key,val⟩,num⟩ w') ?_
  by_cases h4:elemP ⟨ek,⟨src,key,val⟩,num⟩
  ·rw[if_pos h4]
   refine V ?_
   all_goals exact Sy.fin_val fun e=>hP _ (by simp[*])
  ·rw[if_neg h4]
   refine V ?_
   all_goals exact Sy.fin_val fun e=>hP _ (by simp[*])
  exact Sy.fin_val fun e=>hP _ (by simp[*])
 ·refine V (Vj (fun hh=>Vj (fun hh=>?_) fun hh=>?_) fun hh=>?_)
  all_goals exact Sy.fin_val fun e=>hP _ (by simp[el0,rc0, *])
end Go.Proofs.YtgkkpefpbfadoaaGreat
namespace Go.Proofs.YtgkkpefpbfadoaaGreat
open Go Go.RowKit
open Sy (C SV V1 Blk St XD Els)
set_option maxRecDepth 10000
def nextB {α:Type}(ok:α->Bool)(lt:α->α->Bool)(l:List α)(x:α):Nat->Bool
 |0=>ok x
 |n+1=>ok x&&(match l[n]? with|some y=>lt y x|none=>true)
theorem chain_next {α:Type}{ok:α->Bool}{lt:α->α->Bool}{l:List α}{n:Nat}{x:α}(h:l[n]?=some x):Sn.chain ok lt (Sn.prev l n) (l.drop n)=(nextB ok lt l x n&&Sn.chain ok lt (Sn.prev l (n+1)) (l.drop (n+1))):=by
 cases n with
 |zero=>exact Sn.chain_zero h
 |succ n=>
  have hn:=(List.getElem?_eq_some_iff.1 h).1
  have hg:=List.getElem?_eq_getElem (show n<l.length by omega)
  rw[Sn.chain_succ hg h]
  simp only[nextB,hg]
theorem nextB_eq {α:Type}{ok:α->Bool}{lt:α->α->Bool}{l:List α}{x y:α}{n:Nat}(hy:0<n->l[((n:Int)-1).toNat]?=some y):nextB ok lt l x n=(ok x&&(decide (n=0)||lt y x)):=by
 cases n with
 |zero=>simp[nextB]
 |succ n=>
  have:=hy (Nat.succ_pos n)
  rw[show(((n+1:Nat):Int)-1).toNat=n by omega] at this
  simp[nextB,this]
theorem chain_end {α:Type}{ok:α->Bool}{lt:α->α->Bool}{l:List α}:Sn.chain ok lt (Sn.prev l l.length) (l.drop l.length)=true:=by
 rw[List.drop_length]
 cases Sn.prev l l.length<;>rfl
theorem lessI_any (a b:Int)(w:World):Calls Tryz.prog 154 #[.int .i64 a,.int .i64 b] w (Sy.Ret (.bool (decide (a<b))) w):=by
 refine Sy.calls_of Sy.lv154 Sy.tab_ok Tryz.func154 rfl _ Tryz.ntmps154 [] [.c (.v (.int .i64 a)),.c (.v (.int .i64 b))] rfl rfl rfl trivial V0
set_option maxHeartbeats 4000000 in
theorem tasks_any (v:Value)(l:List Int)(w:World)(hr:XD.ok (fun b=>b<w.heap.size) w ⟨v,1,l.length,l.map encI⟩):
 Calls Tryz.prog 108 #[v] w (Sy.Ret (.bool (tasksB l)) w):=by
 have hl:=ok_len hr
 refine Sy.calls_of Sy.lv108 Sy.tab_ok Tryz.func108 rfl _ Tryz.ntmps108 [⟨v,1,l.length,l.map encI⟩] [.c (.row 0)] rfl rfl rfl ⟨hr,trivial⟩ ?_
 obtain⟨R,hR⟩:∃R,R=tasksB l:=⟨_,rfl⟩
 rw[<-hR]
 refine V ?_
 refine Sy.call_in Sy.lv155 Sy.tab_ok Tryz.func155 rfl _ Tryz.ntmps155 Tryz.call155 rfl (fun _=>?_)
 refine V ?_
 refine Sy.loop_inv Sy.tab_ok (fun n:Nat=>[(9,.c (.v (.int .i64 n)))]) (fun _=>[]) (fun n=>n<=l.length/\Sn.chain _ _ (Sn.prev l n) (l.drop n)=R) (fun n=>l.length-n) 0 ⟨Nat.zero_le _,hR.symm⟩ ?_ (fun n hn=>?_)
 ·exact Vs0
 obtain⟨hn,hc⟩:=hn
 by_cases hlt:n<l.length
 ·have hg:=List.getElem?_eq_getElem hlt
  generalize l[n]=x at *
  rw[chain_next hg] at hc
  refine V (Y1 fun hh=>?_)
  refine Sy.el_map x hg (V ?_)
  obtain⟨y,hy⟩:∃y,0<n->l[((n:Int)-1).toNat]?=some y:=by
   by_cases h0:0<n
   ·exact⟨l[((n:Int)-1).toNat]'(by omega),fun _=>List.getElem?_eq_getElem (by omega)⟩
   ·exact⟨0,fun h=>absurd h h0⟩
  rw[nextB_eq hy] at hc
  all_goals(refine Sy.draw_go [] (by kernel_rfl) ?_;intro e0;conv=>whnf)
  all_goals(refine zt 0 rfl ?_)
  all_goals(conv=>whnf)
  all_goals(refine zt 1 rfl ?_)
  all_goals(conv=>whnf)
  all_goals(refine zt 2 rfl ?_)
  all_goals(conv=>whnf)
  all_goals(refine zd1 [3] (zx rfl ?_ zy))
  all_goals(conv=>whnf)
  all_goals(refine Sy.call_val (.c (.v (.bool (decide (taskP x))))) Tryz.call106 rfl (fun e a w' h=>task_any x w') ?_)
  all_goals(conv=>whnf)
  all_goals(refine Yk ?_)
  all_goals(refine zt 4 rfl ?_)
  all_goals(refine V ?_)
  all_goals(refine zt 5 rfl ?_)
  all_goals(conv=>whnf)
  all_goals(refine zt 6 rfl ?_)
  all_goals(refine V (Vj (fun hh=>?_) fun hh=>?_))
  all_goals(refine zt 7 rfl ?_)
  all_goals(refine V ?_)
  all_goals(refine zt 8 rfl ?_)
  all_goals(refine V ?_)
  all_goals(refine zt 9 rfl ?_)
  all_goals(((repeat' first|refine Y ?_|refine Y2 ?_ ?_|refine Y1 fun hh=>?_|exact Y0.mk);(all_goals(try conv=>whnf))))
  all_goals(refine zt 10 rfl ?_)
  all_goals(refine V ?_)
  all_goals(refine zt 11 rfl ?_)
  all_goals(refine V ?_)
  all_goals(refine zt 12 rfl ?_)
  all_goals(refine V ?_)
  all_goals(refine zt 13 rfl ?_)
  all_goals(refine V ?_)
  all_goals(refine zt 14 rfl ?_)
  all_goals(refine V ?_)
  all_goals(refine zt 15 rfl ?_)
  all_goals(refine V ?_)
  all_goals(try(refine Sy.el_map y (hy (by omega)) ?_))
  all_goals(conv=>whnf)
  all_goals(refine zt 16 rfl ?_)
  all_goals(refine V ?_)
  all_goals(refine zd1 [17] (zx rfl ?_ zy))
  all_goals(conv=>whnf)
  all_goals((try(refine zA ?_;conv=>whnf)))
  all_goals(try(refine Sy.call_val (.c (.v (.bool (decide (y<x))))) Tryz.call154 rfl (fun e a w' h=>lessI_any y x w') ?_))
  all_goals(try conv=>whnf)
  all_goals(refine Yk ?_)
  all_goals(refine zt 18 rfl ?_)
  all_goals(refine V ?_)
  all_goals(refine zt 19 rfl ?_)
  all_goals(refine V ?_)
  all_goals(refine zt 20 rfl ?_)
  all_goals(refine V ?_)
  all_goals(refine zw ?_)
  skip
  all_goals((repeat' first|refine Y ?_|refine Y2 ?_ ?_|refine Y1 fun hh=>?_|exact Y0.mk);(all_goals(try conv=>whnf)))
  all_goals first
   |exact Sy.fin_val fun e=>congrArg Value.bool (by rw[<-hc];simp[*]<;>intros<;>omega)
   |(refine⟨n+1,⟨by omega,by rw[<-hc];simp[*]<;>intros<;>omega⟩,by omega,?_⟩;exact Vs0)
 ·have e:n=l.length:=by omega
  subst e
  rw[chain_end] at hc
  subst hc
  exact V0
theorem okName_any (n:Sn.Tx)(w:World):Calls Tryz.prog 103 #[.agg #[.int .i64 n.sink,.int .i64 n.att,.int .i64 n.ser]] w (Sy.Ret (.bool (Sn.okT n)) w):=by
 refine Sy.calls_of Sy.lv103 Sy.tab_ok Tryz.func103 rfl _ Tryz.ntmps103 [] [.agg [.v (.int .i64 n.sink),.v (.int .i64 n.att),.v (.int .i64 n.ser)]] rfl rfl rfl trivial ?_
 unfold Sn.okT
 refine V ?_
 refine Sy.call_val (.c (.v (.int .i64 (if Sn.okN n then 0 else 2)))) Tryz.call104 rfl (fun e a w' h=>Sn.name_any n w') ?_
 by_cases h:Sn.okN n
 ·rw[if_pos h,decide_eq_true h]
  exact V0
 ·rw[if_neg h,decide_eq_false h]
  exact V0
theorem ltName_any (a b:Sn.Tx)(w:World):Calls Tryz.prog 101 #[.agg #[.int .i64 a.sink,.int .i64 a.att,.int .i64 a.ser],.agg #[.int .i64 b.sink,.int .i64 b.att,.int .i64 b.ser]] w (Sy.Ret (.bool (Sn.ltT a b)) w):=by
 refine Sy.calls_of Sy.lv101 Sy.tab_ok Tryz.func101 rfl _ Tryz.ntmps101 [] [.agg [.v (.int .i64 a.sink),.v (.int .i64 a.att),.v (.int .i64 a.ser)],.agg [.v (.int .i64 b.sink),.v (.int .i64 b.att),.v (.int .i64 b.ser)]] rfl rfl rfl trivial (V ?_)
 refine Sy.call_val (.c (.v (.int .i64 (Sn.cmpT a b)))) Tryz.call102 rfl (fun e a' w' h=>Sn.cmpT_any a b w') (V ?_)
 exact Sy.fin_val fun e=>fbool ((decide_eq_true_iff).trans (Sn.cmpT_lt a b))
attribute [local irreducible] Sn.okT Sn.ltT
set_option maxHeartbeats 4000000 in
theorem risesN_any (v:Value)(l:List Sn.Tx)(w:World)(hr:XD.ok (fun b=>b<w.heap.size) w ⟨v,3,l.length,l.map Sn.encT⟩):
 Calls Tryz.prog 105 #[.agg #[.func (.func 101) #[] #[],.func (.func 103) #[] #[]],v] w (Sy.Ret (.bool (Sn.chain Sn.okT Sn.ltT none l)) w):=by
 have hl:=ok_len hr
 refine Sy.calls_of Sy.lv105 Sy.tab_ok Tryz.func105 rfl _ Tryz.ntmps105 [⟨v,3,l.length,l.map Sn.encT⟩] [.agg [.v (.func (.func 101) #[] #[]),.v (.func (.func 103) #[] #[])],.c (.row 0)] rfl rfl rfl ⟨hr,trivial⟩ ?_
 obtain⟨R,hR⟩:∃R,R=Sn.chain Sn.okT Sn.ltT none l:=⟨_,rfl⟩
 rw[<-hR]
 refine V ?_
 refine Sy.loop_inv Sy.tab_ok (fun n:Nat=>[(9,.c (.v (.int .i64 n)))]) (fun _=>[]) (fun n=>n<=l.length/\Sn.chain _ _ (Sn.prev l n) (l.drop n)=R) (fun n=>l.length-n) 0 ⟨Nat.zero_le _,hR.symm⟩ ?_ (fun n hn=>?_)
 ·exact Vs0
 obtain⟨hn,hc⟩:=hn
 by_cases hlt:n<l.length
 ·have hg:=List.getElem?_eq_getElem hlt
  generalize l[n]=x at *
  rw[chain_next hg] at hc
  refine V (Y1 fun hh=>?_)
  refine Sy.el_map x hg (V ?_)
  obtain⟨y,hy⟩:∃y,0<n->l[((n:Int)-1).toNat]?=some y:=by
   by_cases h0:0<n
   ·exact⟨l[((n:Int)-1).toNat]'(by omega),fun _=>List.getElem?_eq_getElem (by omega)⟩
   ·exact⟨x,fun h=>absurd h h0⟩
  rw[nextB_eq hy] at hc
  all_goals(refine Sy.draw_go [] (by kernel_rfl) ?_;intro e0;conv=>whnf)
  all_goals(refine zt 0 rfl ?_)
  all_goals(conv=>whnf)
  all_goals(refine zt 1 rfl ?_)
  all_goals(conv=>whnf)
  all_goals(refine zt 2 rfl ?_)
  all_goals(conv=>whnf)
  all_goals(refine zd1 [3] (zx rfl ?_ zy))
  all_goals(conv=>whnf)
  all_goals(refine Sy.call_val (.c (.v (.bool (Sn.okT x)))) Tryz.call103 rfl (fun e a w' h=>okName_any x w') ?_)
  all_goals(conv=>whnf)
  all_goals(refine Yk ?_)
  all_goals(refine zt 4 rfl ?_)
  all_goals(refine V ?_)
  all_goals(refine zt 5 rfl ?_)
  all_goals(conv=>whnf)
  all_goals(refine zt 6 rfl ?_)
  all_goals(refine V (Vj (fun hh=>?_) fun hh=>?_))
  all_goals(refine zt 7 rfl ?_)
  all_goals(refine V ?_)
  all_goals(refine zt 8 rfl ?_)
  all_goals(refine V ?_)
  all_goals(refine zt 9 rfl ?_)
  all_goals(((repeat' first|refine Y ?_|refine Y2 ?_ ?_|refine Y1 fun hh=>?_|exact Y0.mk);(all_goals(try conv=>whnf))))
  all_goals(refine zt 10 rfl ?_)
  all_goals(refine V ?_)
  all_goals(refine zt 11 rfl ?_)
  all_goals(refine V ?_)
  all_goals(refine zt 12 rfl ?_)
  all_goals(refine V ?_)
  all_goals(refine zt 13 rfl ?_)
  all_goals(refine V ?_)
  all_goals(refine zt 14 rfl ?_)
  all_goals(refine V ?_)
  all_goals(refine zt 15 rfl ?_)
  all_goals(refine V ?_)
  all_goals(try(refine Sy.el_map y (hy (by omega)) ?_))
  all_goals(conv=>whnf)
  all_goals(refine zt 16 rfl ?_)
  all_goals(refine V ?_)
  all_goals(refine zd1 [17] (zx rfl ?_ zy))
  all_goals(conv=>whnf)
  all_goals((try(refine zA ?_;conv=>whnf)))
  all_goals(try(refine Sy.call_val (.c (.v (.bool (Sn.ltT y x)))) Tryz.call101 rfl (fun e a w' h=>ltName_any y x w') ?_))
  all_goals(try conv=>whnf)
  all_goals(refine Yk ?_)
  all_goals(refine zt 18 rfl ?_)
  all_goals(refine V ?_)
  all_goals(refine zt 19 rfl ?_)
  all_goals(refine V ?_)
  all_goals(refine zt 20 rfl ?_)
  all_goals(refine V ?_)
  all_goals(refine zw ?_)
  skip
  all_goals((repeat' first|refine Y ?_|refine Y2 ?_ ?_|refine Y1 fun hh=>?_|exact Y0.mk);(all_goals(try conv=>whnf)))
  all_goals first
   |exact Sy.fin_val fun e=>congrArg Value.bool (by rw[<-hc];simp[*]<;>intros<;>omega)
   |(refine⟨n+1,⟨by omega,by rw[<-hc];simp[*]<;>intros<;>omega⟩,by omega,?_⟩;exact Vs0)
 ·have e:n=l.length:=by omega
  subst e
  rw[chain_end] at hc
  subst hc
  exact V0
end Go.Proofs.YtgkkpefpbfadoaaGreat
