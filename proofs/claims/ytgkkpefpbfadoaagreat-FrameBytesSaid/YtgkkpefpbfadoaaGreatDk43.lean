/- Frame: which works may be, by definition: plain. -/
import Derived.Test.YtgkkpefpbfadoaaGreatDk24
import Derived.Test.YtgkkpefpbfadoaaGreatDk30
import Derived.Test.YtgkkpefpbfadoaaGreatDk9
import Derived.Test.YtgkkpefpbfadoaaGreatDk42
import Derived.Test.YtgkkpefpbfadoaaGreatDk26
import Derived.Test.YtgkkpefpbfadoaaGreatDk29
namespace Go.Proofs.YtgkkpefpbfadoaaGreat
open Go Go.RowKit
theorem sortL_perm (zs:List Int):(sortL zs).Perm zs:=List.mergeSort_perm _ _
theorem sortL_sorted (zs:List Int):(sortL zs).Pairwise (·<=·):=by
 have:=List.pairwise_mergeSort (le:=fun x y:Int=>decide (x<=y)) (fun a b c h1 h2=>by simp at *;omega) (fun a b=>by simp;omega) zs
 unfold sortL
 simpa using this
theorem sub_list:∀{s l:List Int},l.Pairwise (·<·)->s.Pairwise (·<·)->(∀x∈l,x∈s)->l.Sublist s
 |_,[],_,_,_=>List.nil_sublist _
 |[],a::l,_,_,h=>by have:=h a (by simp);simp at this
 |b::s,a::l,h1,h2,h=>by
  obtain⟨h3,h4⟩:=List.pairwise_cons.1 h1
  obtain⟨h5,h6⟩:=List.pairwise_cons.1 h2
  by_cases hab:a=b
  ·subst hab
   refine(sub_list h4 h6 fun x hx=>?_).cons_cons a
   rcases List.mem_cons.1 (h x (List.mem_cons_of_mem _ hx)) with e|e
   ·have:=h3 x hx;omega
   ·exact e
  ·have ha:a∈s:=by
    rcases List.mem_cons.1 (h a (by simp)) with e|e
    ·exact absurd e hab
    ·exact e
   have hba:=h5 a ha
   refine(sub_list h1 h6 fun x hx=>?_).cons b
   have hxa:a<=x:=by
    rcases List.mem_cons.1 hx with e|e
    ·omega
    ·have:=h3 x e;omega
   rcases List.mem_cons.1 (h x hx) with e|e
   ·omega
   ·exact e
theorem sortL_strict {W:List Int}(h:W.Nodup):(sortL W).Pairwise (·<·):=by
 have h1:(sortL W).Nodup:=(sortL_perm W).nodup_iff.2 h
 exact(List.Pairwise.and (sortL_sorted W) h1).imp fun h=>by omega
theorem sorted_iff {W s:List Int}(h:W.Nodup):s=sortL W↔(∀x∈W,x∈s)/\s.Pairwise (·<·)/\W.length=s.length:=by
 constructor
 ·rintro rfl
  exact⟨fun x hx=>(sortL_perm W).symm.subset hx,sortL_strict h,(sortL_len W).symm⟩
 ·rintro⟨h1,h2,h3⟩
  exact((sub_list (sortL_strict h) h2 fun x hx=>h1 x ((sortL_perm W).subset hx)).eq_of_length (by rw[sortL_len];exact h3)).symm
theorem wants_nodup {g:List Opr}(h:(checkV g).2=0):(wants g).Nodup:=by
 have h8:=check_ok h
 unfold wants List.Nodup
 rw[List.pairwise_map,List.pairwise_filter,List.pairwise_iff_getElem]
 intro i j hi hj hij h1 h2 he
 have hw:=h8.2.2 j hj
 unfold wrongAt at hw
 rw[List.getElem?_eq_getElem hj] at hw
 dsimp only at hw
 unfold wrongE at hw
 have hd:dupB (g.take j) g[j].a=true:=by
  unfold dupB
  rw[List.any_eq_true]
  exact⟨g[i],List.mem_take_iff_getElem.2 ⟨i,by omega,rfl⟩,by rw[h1,he];simp⟩
 split at hw
 ·split at hw
  ·cases hw
  ·rw[if_pos ⟨of_decide_eq_true h2,hd⟩] at hw
   cases hw
 ·cases hw
theorem pair_iff (s:List Int):s.Pairwise (·<·)↔∀i x y,s[i]?=some x->s[i+1]?=some y->x<y:=by
 constructor
 ·intro h i x y hx hy
  obtain⟨h1,rfl⟩:=List.getElem?_eq_some_iff.1 hx
  obtain⟨h2,rfl⟩:=List.getElem?_eq_some_iff.1 hy
  exact(List.pairwise_iff_getElem.1 h) i (i+1) h1 h2 (by omega)
 ·intro h
  induction s with
  |nil=>exact List.Pairwise.nil
  |cons a s ih=>
   have ih:=ih fun i x y hx hy=>h (i+1) x y hx hy
   refine List.pairwise_cons.2 ⟨fun b hb=>?_,ih⟩
   cases s with
   |nil=>cases hb
   |cons c s=>
    have hac:=h 0 a c rfl rfl
    rcases List.mem_cons.1 hb with e|e
    ·omega
    ·have:=(List.pairwise_cons.1 ih).1 b e
     omega
end Go.Proofs.YtgkkpefpbfadoaaGreat
namespace Go.Proofs.YtgkkpefpbfadoaaGreat
open Go Go.RowKit
open Sy (C SV V1 Blk St XD Els)
set_option maxRecDepth 10000
set_option maxHeartbeats 2000000 in
theorem both_any (u v:Value)(a b:List Int)(w:World)(hu:XD.ok (fun b=>b<w.heap.size) w ⟨u,1,a.length,a.map encB⟩)(hv:XD.ok (fun b=>b<w.heap.size) w ⟨v,1,b.length,b.map encB⟩)(ha:a.length<=100000)(hb:b.length<=100000):
 Calls Tryz.prog 39 #[u,v] w (Sy.RetRows Sy.noRow (fun _:Unit=>True) (fun _=>[⟨5,1,(a++b).length,(a++b).map encB⟩]) (fun _ vs=>vs.headD undef) w):=by
 refine Sy.calls_of Sy.lv39 Sy.tab_ok Tryz.func39 rfl _ Tryz.ntmps39 [⟨u,1,a.length,a.map encB⟩,⟨v,1,b.length,b.map encB⟩] [.c (.row 0),.c (.row 1)] rfl rfl rfl ⟨hu,hv,trivial⟩ (V ?_)
 refine Sy.sem_subF (Sy.sub_row 5 5 1 rfl) (V ?_)
 refine Sy.loop_inv Sy.tab_ok (fun n:Nat=>[(6,.c (.v (.int .i64 n))),(5,.c (.row 2))]) (fun n=>[(2,.row 5 1 n (.vs ((a.take n).map encB)))]) (fun n=>n<=a.length) (fun n=>a.length-n) 0 (Nat.zero_le _) ?_ (fun n hn=>?_)
 ·exact Vs0
 by_cases hlt:n<a.length
 ·have hg:=List.getElem?_eq_getElem hlt
  have hs:=List.take_succ_eq_append_getElem hlt
  generalize a[n]=x at *
  refine V (Y1 fun hh=>?_)
  refine Sy.el_map x hg (V ?_)
  refine Sy.need_app 1 rfl ⟨by omega,by omega⟩ (V ?_)
  refine⟨n+1,by omega,by omega,?_⟩
  rw[hs,List.map_append]
  exact Vs0
 obtain rfl:n=a.length:=by omega
 rw[List.take_length]
 refine V (Y1 fun hh=>?_)
 refine Sy.loop_inv Sy.tab_ok (fun n:Nat=>[(7,.c (.v (.int .i64 n))),(5,.c (.row 2))]) (fun n=>[(2,.row 5 1 (a++b.take n).length (.vs ((a++b.take n).map encB)))]) (fun n=>n<=b.length) (fun n=>b.length-n) 0 (Nat.zero_le _) ?_ (fun n hn=>?_)
 ·rw[List.take_zero,List.append_nil]
  exact Vs0
 have hl:(a++b.take n).length=a.length+n:=by rw[List.length_append,List.length_take];omega
 by_cases hlt:n<b.length
 ·have hg:=List.getElem?_eq_getElem hlt
  have hs:a++b.take (n+1)=(a++b.take n)++[b[n]]:=by rw[List.take_succ_eq_append_getElem hlt,List.append_assoc]
  generalize b[n]=x at *
  generalize a++b.take n=G at *
  refine V (Y1 fun hh=>?_)
  refine Sy.el_map x hg (V ?_)
  refine Sy.need_app 1 rfl ⟨by omega,by omega⟩ (V ?_)
  refine⟨n+1,by omega,by omega,?_⟩
  rw[hs]
  refine Vs (Vk ?_ ?_)
  all_goals(try simp[encB])
 obtain rfl:n=b.length:=by omega
 rw[List.take_length]
 refine V (Y1 fun hh=>?_)
 exact Sy.fin_r1 (.row 2) rfl
theorem rsome_any (u v:Value)(a b:List Int)(w:World)(hu:XD.ok (fun b=>b<w.heap.size) w ⟨u,1,a.length,a.map encB⟩)(hv:XD.ok (fun b=>b<w.heap.size) w ⟨v,1,b.length,b.map encB⟩)(ha:a.length<=90000)(hb:b.length<=60000):
 Calls Tryz.prog 41 #[u,v] w (Sy.RetRows Sy.noRow (fun _:Unit=>True) (fun _=>[⟨5,1,(a++someB b).length,(a++someB b).map encB⟩]) (fun _ vs=>vs.headD undef) w):=by
 refine Sy.calls_of Sy.lv41 Sy.tab_ok Tryz.func41 rfl _ Tryz.ntmps41 [⟨u,1,a.length,a.map encB⟩,⟨v,1,b.length,b.map encB⟩] [.c (.row 0),.c (.row 1)] rfl rfl rfl ⟨hu,hv,trivial⟩ ?_
 have hl:=beN_len (b.length:Int) 2
 have hl2:(a++beN b.length 2).length=a.length+2:=by rw[List.length_append,hl]
 refine V ?_
 refine Sy.ar_u64 (by omega) (V ?_)
 refine Sy.call_r1 ⟨5,1,(beN b.length 2).length,(beN b.length 2).map encB⟩ (fun j=>.c (.row j)) Tryz.call40 (fun e a w' h=>high_any 2 b.length w' (by omega) (by decide)) (V ?_)
 refine Sy.call_r1 ⟨5,1,(a++beN b.length 2).length,(a++beN b.length 2).map encB⟩ (fun j=>.c (.row j)) Tryz.call39 (fun e a' w' h=>both_any _ _ a (beN b.length 2) w' (Sy.row_reads h (k:=0) (.inr rfl)) (Sy.row_reads h (k:=2) (.inl ⟨_,rfl⟩)) (by omega) (by omega)) (V ?_)
 refine Sy.call_r1 ⟨5,1,(a++beN b.length 2++b).length,(a++beN b.length 2++b).map encB⟩ (fun j=>.c (.row j)) Tryz.call39 (fun e a' w' h=>both_any _ _ (a++beN b.length 2) b w' (Sy.row_reads h (k:=3) (.inl ⟨_,rfl⟩)) (Sy.row_reads h (k:=1) (.inr rfl)) (by omega) (by omega)) (V ?_)
 unfold someB
 rw[<-List.append_assoc]
 exact Sy.fin_r1 (.row 4) rfl
end Go.Proofs.YtgkkpefpbfadoaaGreat
namespace Go.Proofs.YtgkkpefpbfadoaaGreat
open Go Go.RowKit
open Sy (C SV V1 Blk St XD Els)
set_option maxRecDepth 10000
theorem relem_any (x:Elm)(w:World):Calls Tryz.prog 76 #[.agg (encE x).toArray] w (Sy.Ret (.bool (decide (elemP x))) w):=by
 obtain⟨kind,⟨src,key,val⟩,num⟩:=x
 refine Sy.calls_of Sy.lv76 Sy.tab_ok Tryz.func76 rfl _ Tryz.ntmps76 [] [.agg [.v (.int .i64 kind),.v (.int .i64 src),.v (.int .i64 key),.v (.int .i64 val),.v (.int .u64 num)]] rfl rfl rfl trivial ?_
 by_cases h1:kind=1
 ·subst h1
  refine V ?_
  refine Sy.call_val (.c (.v (.bool (decide (Sn.recP src key))))) Tryz.call120 rfl (fun e a w' h=>Sn.rrec_any src key val w') ?_
  by_cases hp:Sn.recP src key
  ·rw[decide_eq_true hp]
   refine V ?_
   all_goals all_goals exact Sy.fin_val fun e=>fbool
  ·rw[decide_eq_false hp]
   refine V ?_
   all_goals all_goals exact Sy.fin_val fun e=>fbool
 ((repeat' first|refine Y ?_|refine Y2 ?_ ?_|refine Y1 fun hh=>?_|exact Y0.mk);(all_goals(try conv=>whnf)))
 all_goals all_goals exact Sy.fin_val fun e=>fbool
attribute [local irreducible] beN rN
set_option maxHeartbeats 4000000 in
theorem rrow_any (v:Value)(l:List Elm)(w:World)(hr:XD.ok (fun b=>b<w.heap.size) w ⟨v,5,l.length,l.map encE⟩)(hl:l.length<=200)(hn0:∀x∈l,0<=x.num):
 Calls Tryz.prog 45 #[v] w (Sy.RetRows Sy.noRow (fun _:Unit=>True) (fun _=>[⟨5,1,(rB l).length,(rB l).map encB⟩]) (fun _ vs=>vs.headD undef) w):=by
 refine Sy.calls_of Sy.lv45 Sy.tab_ok Tryz.func45 rfl _ Tryz.ntmps45 [⟨v,5,l.length,l.map encE⟩] [.c (.row 0)] rfl rfl rfl ⟨hr,trivial⟩ (V ?_)
 refine Sy.ar_wrap (V ?_)
 refine Sy.loop_inv Sy.tab_ok (fun n:Nat=>[(4,.c (.v (.int .i64 n))),(3,.c (.row 1))]) (fun n=>[(1,.row 5 1 (rN l n).length (.vs ((rN l n).map encB)))]) (fun n=>n<=l.length) (fun n=>l.length-n) 0 (Nat.zero_le _) ?_ (fun n hn=>?_)
 ·rw[show rN l 0=[b8 l.length] by unfold rN;rfl]
  exact Vs0
 have hbl:=rN_len l n
 by_cases hlt:n<l.length
 ·have hgt:=List.getElem?_eq_getElem hlt
  have hnum:=hn0 _ (List.getElem_mem hlt)
  generalize l[n]=x at *
  have hs:=rN_succ hgt
  generalize rN l n=G at *
  have eB:List.map encB G++[[.int .u8 (IntKind.u8.wrap x.kind)]]=List.map encB (G++[b8 x.kind]):=by simp[encB,b8]
  have lB:G.length+1=(G++[b8 x.kind]).length:=by simp
  refine V (Y1 fun hh=>?_)
  refine Sy.el_map x hgt (V ?_)
  refine Sy.ar_wrap (V ?_)
  refine Sy.need_app 1 rfl ⟨by omega,by omega⟩ ?_
  conv=>whnf
  rw[eB,lB]
  by_cases h1:x.kind=1
  ·have hs:rN l (n+1)=(G++[b8 x.kind]++[b8 x.r.src,b8 x.r.key])++beN (u64w x.r.val) 8:=by rw[hs];simp[elB,h1]
   generalize hG2:G++[b8 x.kind]=G2 at *
   have e2:List.map encB G2++[[.int .u8 (IntKind.u8.wrap x.r.src)],[.int .u8 (IntKind.u8.wrap x.r.key)]]=List.map encB (G2++[b8 x.r.src,b8 x.r.key]):=by simp[encB,b8]
   have l2:G2.length+2=(G2++[b8 x.r.src,b8 x.r.key]).length:=by simp
   have hbb:=beN_len (u64w x.r.val) 8
   refine V ?_
   refine Sy.draw_go [4] (by kernel_rfl) ?_
   intro e0
   conv=>whnf
   refine zt 0 rfl ?_
   conv=>whnf
   refine zt 1 rfl ?_
   conv=>whnf
   refine zt 2 rfl ?_
   conv=>whnf
   refine zt 3 rfl ?_
   conv=>whnf
   refine zt 4 rfl (V ?_)
   refine Sy.ar_wrap ?_
   conv=>whnf
   refine zt 5 rfl ?_
   conv=>whnf
   refine zt 6 rfl ?_
   conv=>whnf
   refine zt 7 rfl ?_
   conv=>whnf
   refine zt 8 rfl (V ?_)
   refine Sy.ar_wrap ?_
   conv=>whnf
   refine zt 11 rfl ?_
   conv=>whnf
   refine zt 12 rfl ?_
   conv=>whnf
   refine zt 13 rfl ?_
   conv=>whnf
   refine zt 14 rfl (V ?_)
   refine Sy.ar_wrap ?_
   conv=>whnf
   refine zd1 [9] (zx rfl ?_ zy)
   conv=>whnf
   refine Yk ?_
   refine zd1 [10] (zx rfl ?_ zy)
   conv=>whnf
   refine Sy.need_app 1 rfl ⟨by omega,by omega⟩ ?_
   conv=>whnf
   rw[e2,l2]
   refine Yk ?_
   refine zd1 [15] (zx rfl ?_ zy)
   conv=>whnf
   refine Sy.call_r1 ⟨5,1,(beN (u64w x.r.val) 8).length,(beN (u64w x.r.val) 8).map encB⟩ (fun j=>.c (.row j)) Tryz.call40 (fun e a w' h=>high_any 8 (u64w x.r.val) w' (u64w_nonneg _) (by decide)) ?_
   conv=>whnf
   refine Yk ?_
   refine zd1 [16] (zx rfl ?_ zy)
   conv=>whnf
   refine Sy.call_r1 ⟨5,1,(G2++[b8 x.r.src,b8 x.r.key]++beN (u64w x.r.val) 8).length,(G2++[b8 x.r.src,b8 x.r.key]++beN (u64w x.r.val) 8).map encB⟩ (fun j=>.c (.row j)) Tryz.call39 (fun e a w' h=>both_any _ _ (G2++[b8 x.r.src,b8 x.r.key]) (beN (u64w x.r.val) 8) w' (by exact Sy.row_reads h (.inl ⟨_,rfl⟩)) (by exact Sy.row_reads h (.inl ⟨_,rfl⟩)) (by omega) (by omega)) ?_
   conv=>whnf
   refine Yk ?_
   refine zt 17 rfl ?_
   conv=>whnf
   refine zw ?_
   skip
   refine V (Y1 fun hh=>?_)
   refine⟨n+1,by omega,by omega,?_⟩
   rw[hs]
   exact Vs0
  by_cases h2:x.kind=2
  ·have hs:rN l (n+1)=(G++[b8 x.kind])++beN x.num 8:=by rw[hs];simp[elB,h2]
   have hbb:=beN_len x.num 8
   refine V ?_
   refine Sy.call_r1 ⟨5,1,(beN x.num 8).length,(beN x.num 8).map encB⟩ (fun j=>.c (.row j)) Tryz.call40 (fun e a w' h=>high_any 8 x.num w' hnum (by decide)) (V ?_)
   refine Sy.call_r1 ⟨5,1,(G++[b8 x.kind]++beN x.num 8).length,(G++[b8 x.kind]++beN x.num 8).map encB⟩ (fun j=>.c (.row j)) Tryz.call39 (fun e a w' h=>both_any _ _ (G++[b8 x.kind]) (beN x.num 8) w' (by exact Sy.row_reads h (.inl ⟨_,rfl⟩)) (by exact Sy.row_reads h (.inl ⟨_,rfl⟩)) (by omega) (by omega)) (V ?_)
   refine⟨n+1,by omega,by omega,?_⟩
   rw[hs]
   exact Vs0
  ·have hs:rN l (n+1)=G++[b8 x.kind]:=by rw[hs];simp[elB,h1,h2]
   refine V ?_
   refine⟨n+1,by omega,by omega,?_⟩
   rw[hs]
   exact Vs0
 ·have en:n=l.length:=by omega
  subst en
  refine V (Y1 fun hh=>?_)
  exact Sy.fin_r1 (.row 1) rfl (fun e=>rfl)
set_option maxHeartbeats 2000000 in
theorem rrec_row (v:Value)(l:List Rc)(w:World)(hr:XD.ok (fun b=>b<w.heap.size) w ⟨v,3,l.length,l.map encR⟩)(hl:l.length<=200):
 Calls Tryz.prog 43 #[v] w (Sy.RetRows Sy.noRow (fun _:Unit=>True) (fun _=>[⟨5,1,(rB (l.map elmR)).length,(rB (l.map elmR)).map encB⟩]) (fun _ vs=>vs.headD undef) w):=by
 refine Sy.calls_of Sy.lv43 Sy.tab_ok Tryz.func43 rfl _ Tryz.ntmps43 [⟨v,3,l.length,l.map encR⟩] [.c (.row 0)] rfl rfl rfl ⟨hr,trivial⟩ (V ?_)
 refine Sy.sem_subF (Sy.sub_row 3 45 5 rfl) (V ?_)
 refine Sy.loop_inv Sy.tab_ok (fun n:Nat=>[(4,.c (.v (.int .i64 n))),(3,.c (.row 1))]) (fun n=>[(1,.row 45 5 ((l.take n).map elmR).length (.vs (((l.take n).map elmR).map encE)))]) (fun n=>n<=l.length) (fun n=>l.length-n) 0 (Nat.zero_le _) ?_ (fun n hn=>?_)
 ·exact Vs0
 have hkl:((l.take n).map elmR).length=n:=by rw[List.length_map,List.length_take];omega
 by_cases hlt:n<l.length
 ·have hgt:=List.getElem?_eq_getElem hlt
  have hs:=List.take_succ_eq_append_getElem hlt
  generalize l[n]=x at *
  refine V (Y1 fun hh=>?_)
  refine Sy.el_map x hgt (V ?_)
  refine Sy.need_app 40 rfl ⟨by omega,by omega⟩ (V ?_)
  refine⟨n+1,by omega,by omega,?_⟩
  rw[hs,List.map_append]
  refine Vs (Vk ?_ ?_)
  all_goals(try simp[encE,elmR])
 ·obtain rfl:n=l.length:=by omega
  rw[List.take_length] at hkl⊢
  refine V (Y1 fun hh=>?_)
  refine Sy.call_r1 ⟨5,1,(rB (l.map elmR)).length,(rB (l.map elmR)).map encB⟩ (fun j=>.c (.row j)) Tryz.call45 (fun e a w' h=>rrow_any _ _ w' (by exact Sy.row_reads h (.inl ⟨_,rfl⟩)) (by omega) (fun x hx=>by obtain⟨r,_,rfl⟩:=List.mem_map.1 hx;exact Int.le_refl 0)) (V ?_)
  exact Sy.fin_r1 (.row 2) rfl
def sumL (b:List Int):Int:=b.foldl (·+·) 1
def lowV (b:List Int):Int:=sumL b%65521
def hiL (b:List Int):Nat->Int
 |0=>0
 |n+1=>hiL b n+lowV (b.take (n+1))
theorem sumL_snoc (b:List Int)(c:Int):sumL (b++[c])=sumL b+c:=by unfold sumL;rw[List.foldl_append];rfl
theorem low_bound (b:List Int):0<=lowV b/\lowV b<65521:=by unfold lowV;omega
theorem sumL_bound {b:List Int}(h8:∀c∈b,0<=c/\c<256)(n:Nat):1<=sumL (b.take n)/\sumL (b.take n)<=1+255*n:=by
 induction n with
 |zero=>simp[sumL]
 |succ n ih=>
  by_cases hn:n<b.length
  ·rw[List.take_succ_eq_append_getElem hn,sumL_snoc]
   have:=h8 _ (List.getElem_mem hn)
   omega
  ·rw[List.take_of_length_le (by omega)] at ih⊢
   omega
theorem hiL_bound (b:List Int)(n:Nat):0<=hiL b n/\hiL b n<=65521*n:=by
 induction n with
 |zero=>simp[hiL]
 |succ n ih=>
  have:=low_bound (b.take (n+1))
  unfold hiL
  omega
theorem adl_sum (b:List Int)(n:Nat)(hn:n<=b.length):(adl (b.take n)).1=lowV (b.take n)/\(adl (b.take n)).2=hiL b n%65521:=by
 induction n with
 |zero=>simp[adl,lowV,sumL,hiL]
 |succ n ih=>
  obtain⟨h1,h2⟩:=ih (by omega)
  have hs:=List.take_succ_eq_append_getElem (show n<b.length by omega)
  have hlow:lowV (b.take (n+1))=((adl (b.take n)).1+b[n])%65521:=by
   rw[hs,h1]
   unfold lowV
   rw[sumL_snoc]
   omega
  have hhi:hiL b (n+1)=hiL b n+lowV (b.take (n+1)):=rfl
  rw[hhi,hlow,hs,adl_snoc]
  refine⟨rfl,?_⟩
  dsimp only
  rw[h2]
  omega
theorem low_any (v:Value)(b:List Int)(w:World)(hr:XD.ok (fun b=>b<w.heap.size) w ⟨v,1,b.length,b.map encB⟩)(h8:∀c∈b,0<=c/\c<256)(hb:b.length<=200000):
 Calls Tryz.prog 93 #[v] w (Sy.Ret (.int .u64 (lowV b)) w):=by
 refine Sy.calls_of Sy.lv93 Sy.tab_ok Tryz.func93 rfl _ Tryz.ntmps93 [⟨v,1,b.length,b.map encB⟩] [.c (.row 0)] rfl rfl rfl ⟨hr,trivial⟩ (V ?_)
 refine Sy.loop_inv Sy.tab_ok (fun n:Nat=>[(4,.c (.v (.int .i64 n))),(3,.c (.v (.int .u64 (sumL (b.take n)))))]) (fun _=>[]) (fun n=>n<=b.length) (fun n=>b.length-n) 0 (Nat.zero_le _) ?_ (fun n hn=>?_)
 ·exact Vs0
 have hsb:=sumL_bound h8 n
 by_cases hlt:n<b.length
 ·have hgt:=List.getElem?_eq_getElem hlt
  have hx:=h8 _ (List.getElem_mem hlt)
  have hs:=List.take_succ_eq_append_getElem hlt
  generalize b[n]=x at *
  have ha:=sumL_snoc (b.take n) x
  rw[<-hs] at ha
  refine V (Y1 fun hh=>?_)
  refine Sy.el_map x hgt (V ?_)
  refine Sy.ar_u64 (by omega) (V ?_)
  refine Sy.ar_u64 (by omega) (V ?_)
  refine⟨n+1,by omega,by omega,?_⟩
  rw[ha]
  exact Vs0
 ·obtain rfl:n=b.length:=by omega
  rw[List.take_length] at *
  refine V (Y1 fun hh=>?_)
  refine Sy.rem_in (y:=65521) (by omega) (by decide) V0
theorem rsum_any (v:Value)(b:List Int)(w:World)(hr:XD.ok (fun b=>b<w.heap.size) w ⟨v,1,b.length,b.map encB⟩)(h8:∀c∈b,0<=c/\c<256)(hb:b.length<=200000):
 Calls Tryz.prog 46 #[v] w (Sy.Ret (.int .u32 (sumV b)) w):=by
 refine Sy.calls_of Sy.lv46 Sy.tab_ok Tryz.func46 rfl _ Tryz.ntmps46 [⟨v,1,b.length,b.map encB⟩] [.c (.row 0)] rfl rfl rfl ⟨hr,trivial⟩ (V ?_)
 refine Sy.loop_inv Sy.tab_ok (fun n:Nat=>[(4,.c (.v (.int .i64 ((n:Int)+1)))),(3,.c (.v (.int .u64 (hiL b n))))]) (fun _=>[]) (fun n=>n<=b.length) (fun n=>b.length-n) 0 (Nat.zero_le _) ?_ (fun n hn=>?_)
 ·exact Vs0
 have hbb:=hiL_bound b n
 by_cases hlt:n<b.length
 ·have hlb:=low_bound (b.take (n+1))
  have hHH:hiL b (n+1)=hiL b n+lowV (b.take (n+1)):=rfl
  have fl:List.take (n+1-0) (List.drop 0 (b.map encB))=(b.take (n+1)).map encB:=by rw[Nat.sub_zero,List.drop_zero,List.map_take]
  have fll:n+1-0=(b.take (n+1)).length:=by rw[List.length_take];omega
  refine V (Y1 fun hh=>?_)
  refine Sy.sli_eq 0 (n+1) rfl rfl ⟨by omega,by omega⟩ ?_
  conv=>whnf
  rw[fl,fll]
  refine Sy.call_val (.c (.v (.int .u64 (lowV (b.take (n+1)))))) Tryz.call93 rfl (fun e a w' h=>low_any _ (b.take (n+1)) w' (by exact Sy.row_reads h (.inr rfl)) (fun c hc=>h8 c (List.mem_of_mem_take hc)) (by rw[List.length_take];omega)) (V ?_)
  refine Sy.ar_u64 (by omega) (V ?_)
  refine⟨n+1,by omega,by omega,?_⟩
  rw[hHH]
  exact Vs0
 ·obtain rfl:n=b.length:=by omega
  have hlb:=low_bound b
  obtain⟨a1,a2⟩:=adl_sum b b.length (Nat.le_refl _)
  rw[List.take_length] at a1 a2
  have hS:sumV b=hiL b b.length%65521*65536+lowV b:=by unfold sumV;rw[a1,a2]
  refine V (Y1 fun hh=>?_)
  refine Sy.rem_in (y:=65521) (by omega) (by decide) (V ?_)
  refine Sy.ar_u64 (by omega) (V ?_)
  refine Sy.call_val (.c (.v (.int .u64 (lowV b)))) Tryz.call93 rfl (fun e a w' h=>low_any _ b w' (by exact Sy.row_reads h (.inr rfl)) h8 hb) (V ?_)
  refine Sy.ar_u64 (by omega) (V ?_)
  refine u32_in (by omega) ?_
  rw[<-hS]
  exact V0
theorem rseal_any (v:Value)(b:List Int)(w:World)(hr:XD.ok (fun b=>b<w.heap.size) w ⟨v,1,b.length,b.map encB⟩)(h8:∀c∈b,0<=c/\c<256)(hb:b.length<=90000):
 Calls Tryz.prog 16 #[v] w (Sy.RetRows Sy.noRow (fun _:Unit=>True) (fun _=>[⟨5,1,(b++beN (sumV b) 4).length,(b++beN (sumV b) 4).map encB⟩]) (fun _ vs=>vs.headD undef) w):=by
 have hs:=sumV_bound b
 have hl:=beN_len (sumV b) 4
 refine Sy.calls_of Sy.lv16 Sy.tab_ok Tryz.func16 rfl _ Tryz.ntmps16 [⟨v,1,b.length,b.map encB⟩] [.c (.row 0)] rfl rfl rfl ⟨hr,trivial⟩ (V ?_)
 refine Sy.call_val (.c (.v (.int .u32 (sumV b)))) Tryz.call46 rfl (fun e a w' h=>rsum_any _ b w' (by exact Sy.row_reads h (.inr rfl)) h8 (by omega)) (V ?_)
 refine Sy.ar_u64 (by omega) (V ?_)
 refine Sy.call_r1 ⟨5,1,(beN (sumV b) 4).length,(beN (sumV b) 4).map encB⟩ (fun j=>.c (.row j)) Tryz.call40 (fun e a w' h=>high_any 4 (sumV b) w' hs.1 (by decide)) (V ?_)
 refine Sy.call_r1 ⟨5,1,(b++beN (sumV b) 4).length,(b++beN (sumV b) 4).map encB⟩ (fun j=>.c (.row j)) Tryz.call39 (fun e a w' h=>both_any _ _ b (beN (sumV b) 4) w' (by exact Sy.row_reads h (.inr rfl)) (by exact Sy.row_reads h (.inl ⟨_,rfl⟩)) (by omega) (by omega)) (V ?_)
 exact Sy.fin_r1 (.row 2) rfl
end Go.Proofs.YtgkkpefpbfadoaaGreat
