/- slices.Compact at integers, on a row of the call's own; what comes of a row that rises. -/
import Derived.Test.YtgkkpefpbfadoaaGreatDk12
import Derived.Lib.SlicesCompact
import Derived.Lib.RowBridge
import Derived.Test.YtgkkpefpbfadoaaGreatDk9
import Derived.Test.YtgkkpefpbfadoaaGreatDk10
namespace Go.Proofs.YtgkkpefpbfadoaaGreat
open Go Go.RowKit
open Sy (C SV V1 Blk St XD Els)
set_option maxRecDepth 10000
theorem compact_rows (v:Value)(zs:List Int)(w:World)(hown:Sy.OwnE w 3 1 v zs.length (zs.map encI))(hb:zs.length<=1000000000):
 Calls Tryz.prog 243 #[v] w (Sy.RetRows v (fun _:Unit=>True) (fun _=>[⟨3,1,(Lib.compact zs).length,(Lib.compact zs).map encI⟩]) (fun _ vs=>vs.headD undef) w):=by
 rcases hown.2.2 with⟨A,rfl,hn⟩|⟨g,cap,rfl,hB⟩
 ·have hz:zs=[]:=List.eq_nil_of_length_eq_zero hn
  subst hz
  refine(Tryz.slices_Compact_int_empty A 0 w).mono fun E w'⟨he,hw⟩=>?_
  subst hw
  exact⟨(),[.slice A 0 0],trivial,he,⟨rfl,rfl,rfl,Nat.le_refl _,fun _ _ _=>rfl⟩,⟨by simpa[Lib.compact,Lib.compactUpTo] using hown,(fun x _ u hu=>by cases hu),trivial⟩,fun u hu y hy=>.inl (by simp at hu;subst hu;exact hy)⟩
 ·obtain⟨h1,h2,h3,h4,cur,h5,h6,h7,h8⟩:=hB
  have hl:(zs.map encI).length=zs.length:=by simp
  rw[hl,Nat.mul_one] at h7
  rw[encI_flat] at h7
  have hcs:zs.length<=cur.size:=by rw[hl] at h2;omega
  have hH:Go.Sort.Holds (Value.int .i64) w g 0 zs.toArray:=holds_of_blockI h5 h7
  refine(Tryz.slices_Compact_int g 0 cap zs w hH (by omega) (by rw[hl] at h2;exact h2)).mono fun E w'⟨he,n,hw⟩=>?_
  have hcl:=Lib.compact_length_le zs
  generalize hys:Lib.compact zs++List.replicate (zs.length-(Lib.compact zs).length) 0=ys at hw
  have hyl:ys.length=zs.length:=by rw[<-hys,List.length_append,List.length_replicate];omega
  have hgb:=grownBy_sortedI (w:=w) (g:=g) (n:=n) (os:=#[]) ys.toArray
  have hhp:=heap_sortedI (n:=n) (os:=#[]) ys.toArray h5
  rw[Go.Sort.grow_empty,<-hw] at hgb hhp
  obtain⟨g1,g2,g3,g4,g5⟩:=hgb
  have htake:(Go.Sort.putCells (Value.int .i64) 0 ys.toArray cur).toList.take (Lib.compact zs).length=(Lib.compact zs).map (Value.int .i64):=by
   have h0:=take_putCellsI cur ys (by omega)
   have h9:=congrArg (List.take (Lib.compact zs).length) h0
   rw[List.take_take,Nat.min_eq_left (by omega),<-List.map_take,<-hys,List.take_left] at h9
   rw[<-hys];exact h9
  refine⟨(),[.slice (some ⟨g,0,none⟩) (Lib.compact zs).length cap],trivial,he,⟨g1,g2,g3,g4,fun k hk hf=>g5 k hk (fun e1=>hf ?_)⟩,⟨⟨by rw[List.length_map],fun c hc=>?_,.inr ⟨g,cap,rfl,fun c hc=>?_,?_,h3,h4,_,hhp,?_,?_,?_⟩⟩,(fun x _ u hu=>by cases hu),trivial⟩,fun u hu y hy=>.inl ?_⟩
  ·injection e1 with e1
   exact⟨_,_,_,rfl,h4,e1.symm⟩
  ·obtain⟨x,_,rfl⟩:=List.mem_map.1 hc;rfl
  ·obtain⟨x,_,rfl⟩:=List.mem_map.1 hc;rfl
  ·rw[List.length_map];rw[hl] at h2;omega
  ·simp[Go.Sort.putCells,h6]
  ·rw[List.length_map,Nat.mul_one,encI_flat]
   exact htake
  ·intro u hu
   simp only[Go.Sort.putCells,Array.toList_mapIdx] at hu
   obtain⟨j,hj,rfl⟩:=List.mem_mapIdx.1 hu
   split
   ·rfl
   ·exact h8 _ (List.getElem_mem _)
  ·simp at hu
   subst hu
   obtain⟨p,m,c,hv,hc,rfl⟩:=hy
   cases hv
   exact⟨_,_,_,rfl,h4,rfl⟩
def strict (l:List Int):Prop:=l.Pairwise (·<·)
theorem strict_ext {l m:List Int}(hl:strict l)(hm:strict m)(h:∀x,x∈l↔x∈m):l=m:=by
 have hp:l.Perm m:=(List.perm_ext_iff_of_nodup (hl.imp fun h=>Int.ne_of_lt h) (hm.imp fun h=>Int.ne_of_lt h)).2 h
 exact hp.eq_of_pairwise (le:=(·<·)) (fun a b _ _ h1 h2=>absurd h1 (by omega)) hl hm
theorem compact_spec (zs:List Int)(hs:zs.Pairwise (·<=·)):∀m,m<=zs.length->strict (Lib.compactUpTo zs.toArray m)/\(∀x,x∈Lib.compactUpTo zs.toArray m↔∃i,i<m/\zs[i]?=some x)
 |0,_=>⟨List.Pairwise.nil,fun x=>by simp[Lib.compactUpTo]⟩
 |m+1,hm=>by
  obtain⟨h1,h2⟩:=compact_spec zs hs m (by omega)
  have hg:zs[m]?=some zs[m]:=List.getElem?_eq_getElem (by omega)
  have hd:zs.toArray[m]! =zs[m]:=by simp[getElem!_pos,show m<zs.length by omega]
  rw[Lib.compactUpTo_succ,hd]
  by_cases hk:Lib.keeps zs.toArray m=true
  ·rw[if_pos hk]
   refine⟨List.pairwise_append.2 ⟨h1,List.pairwise_singleton _ _,fun x hx y hy=>?_⟩,fun x=>?_⟩
   ·have hy:y=zs[m]:=by simpa using hy
    subst hy
    obtain⟨i,hi,hx⟩:=(h2 x).1 hx
    have hi2:i<zs.length:=by omega
    rw[List.getElem?_eq_getElem hi2] at hx
    injection hx with hx
    subst hx
    have hm0:0<m:=by omega
    have hprev:zs.toArray[m-1]! =zs[m-1]:=by simp[getElem!_pos,show m-1<zs.length by omega]
    have hne:zs[m]≠zs[m-1]:=fun e=>by
     have:=Lib.keeps_neg (d:=zs.toArray) hm0 (by rw[hd,hprev,e])
     rw[this] at hk;cases hk
    have hle1:zs[m-1]<=zs[m]:=List.pairwise_iff_getElem.1 hs (m-1) m (by omega) (by omega) (by omega)
    have hle2:zs[i]<=zs[m-1]:=by
     by_cases he:i=m-1
     ·subst he;exact Int.le_refl _
     ·exact List.pairwise_iff_getElem.1 hs i (m-1) hi2 (by omega) (by omega)
    omega
   ·rw[List.mem_append,h2]
    constructor
    ·rintro(⟨i,hi,hx⟩|hx)
     ·exact⟨i,by omega,hx⟩
     ·exact⟨m,by omega,by rw[hg];simp at hx;rw[hx]⟩
    ·rintro⟨i,hi,hx⟩
     rcases Nat.lt_succ_iff_lt_or_eq.1 hi with hi|rfl
     ·exact .inl ⟨i,hi,hx⟩
     ·rw[hg] at hx;injection hx with hx;exact .inr (by simp[hx])
  ·rw[if_neg hk,List.append_nil]
   refine⟨h1,fun x=>?_⟩
   rw[h2]
   have hk':¬(m=0\/zs.toArray[m]!≠zs.toArray[m-1]!):=by simpa[Lib.keeps] using hk
   have hm0:0<m:=Nat.pos_of_ne_zero fun e=>hk' (.inl e)
   have hprev:zs.toArray[m-1]! =zs[m-1]:=by simp[getElem!_pos,show m-1<zs.length by omega]
   have he:zs[m]=zs[m-1]:=by
    rw[<-hd,<-hprev]
    exact Decidable.byContradiction fun hn=>hk' (.inr hn)
   constructor
   ·rintro⟨i,hi,hx⟩;exact⟨i,by omega,hx⟩
   ·rintro⟨i,hi,hx⟩
    rcases Nat.lt_succ_iff_lt_or_eq.1 hi with hi|rfl
    ·exact⟨i,hi,hx⟩
    ·exact⟨i-1,by omega,by rw[hg] at hx;rw[List.getElem?_eq_getElem (by omega),<-hx,he]⟩
theorem compact_sort (zs:List Int):strict (Lib.compact (sortL zs))/\∀x,x∈Lib.compact (sortL zs)↔x∈zs:=by
 have hs:(sortL zs).Pairwise (·<=·):=by
  have:=List.pairwise_mergeSort (le:=fun x y:Int=>decide (x<=y)) (fun a b c h1 h2=>by simp at *;omega) (fun a b=>by simp;omega) zs
  unfold sortL
  simpa using this
 obtain⟨h1,h2⟩:=compact_spec (sortL zs) hs (sortL zs).length (Nat.le_refl _)
 refine⟨h1,fun x=>?_⟩
 show x∈Lib.compactUpTo (sortL zs).toArray (sortL zs).length↔_
 rw[h2]
 have hp:x∈sortL zs↔x∈zs:=(List.mergeSort_perm zs _).mem_iff
 rw[<-hp]
 constructor
 ·rintro⟨i,_,hx⟩;exact List.mem_of_getElem? hx
 ·intro hx
  obtain⟨i,hi,rfl⟩:=List.mem_iff_getElem.1 hx
  exact⟨i,hi,List.getElem?_eq_getElem hi⟩
end Go.Proofs.YtgkkpefpbfadoaaGreat
namespace Go.Proofs.YtgkkpefpbfadoaaGreat
open Go Go.RowKit
open Sy (C SV V1 Blk St XD Els)
set_option maxRecDepth 10000
def RowsOk (w:World)(us:List (Value×List Int)):Prop:=∀x∈us,XD.ok (fun b=>b<w.heap.size) w ⟨x.1,1,x.2.length,x.2.map encI⟩
def encU (x:Value×List Int):List Value:=[x.1]
def catN (us:List (Value×List Int))(n:Nat):List Int:=((us.take n).map (·.2)).flatten
theorem catN_succ (us:List (Value×List Int))(n:Nat)(h:n<us.length):catN us (n+1)=catN us n++us[n].2:=by
 unfold catN
 rw[List.take_succ_eq_append_getElem h,List.map_append,List.flatten_append]
 simp
def catL (us:List (Value×List Int)):List Int:=(us.map (·.2)).flatten
theorem catN_all (us:List (Value×List Int)):catN us us.length=catL us:=by rw[catN,List.take_length,catL]
theorem catN_le (us:List (Value×List Int))(n:Nat):(catN us n).length<=(catL us).length:=by
 have:catL us=catN us n++((us.drop n).map (·.2)).flatten:=by
  unfold catL catN
  rw[<-List.flatten_append,<-List.map_append,List.take_append_drop]
 rw[this,List.length_append];omega
attribute [local irreducible] catN catL
theorem concat_any (v:Value)(us:List (Value×List Int))(w:World)(hr:XD.ok (fun b=>b<w.heap.size) w ⟨v,1,us.length,us.map encU⟩)(hu:RowsOk w us)(hb:(catL us).length<=1000000):
 Calls Tryz.prog 242 #[v] w (Sy.RetRows Sy.noRow (fun _:Unit=>True) (fun _=>[⟨3,1,(catL us).length,(catL us).map encI⟩]) (fun _ vs=>vs.headD undef) w):=by
 have hl:=ok_len hr
 refine Sy.calls_of Sy.lv242 Sy.tab_ok Tryz.func242 rfl _ Tryz.ntmps242 [⟨v,1,us.length,us.map encU⟩] [.c (.row 0)] rfl rfl rfl ⟨hr,trivial⟩ (V ?_)
 refine Sy.loop_inv Sy.tab_ok (fun n:Nat=>[(11,.c (.v (.int .i64 n))),(3,.c (.v (.int .i64 (catN us n).length)))]) (fun _=>[]) (fun n=>n<=us.length) (fun n=>us.length-n) 0 (Nat.zero_le _) ?_ (fun n hle=>?_)
 ·refine Vs ?_
  all_goals(unfold catN;rfl)
 ·have hcl:=catN_le us n
  refine V (Vj (fun hh=>?_) fun hh=>?_)
  ·have hlt:n<us.length:=by omega
   have e1:=catN_succ us n hlt
   have hcl2:=catN_le us (n+1)
   have hun:=hu us[n] (List.getElem_mem _)
   refine Sy.el_map us[n] (List.getElem?_eq_getElem hlt) ?_
   generalize us[n]=x at *
   rw[e1,List.length_append] at hcl2
   conv=>whnf
   refine Sy.open_in 1 x.2.length (x.2.map encI) (hun.1.keep (fun b hb=>⟨hb,fun h=>h⟩) (fun _ _=>rfl)) hun.2 (V ?_)
   refine⟨n+1,by omega,by omega,?_⟩
   rw[e1,List.length_append]
   exact Vs0
  ·have e:n=us.length:=by omega
   subst e
   rw[catN_all]
   refine Sy.call_in Sy.lv250 Sy.tab_ok Tryz.func250 rfl _ Tryz.ntmps250 Tryz.call250 rfl (fun _=>?_)
   by_cases h0:(catL us).length=0
   ·rw[h0]
    refine V ?_
    refine Sy.sem_subF (Sy.sub_row 6 3 1 rfl) ?_
    conv=>whnf
    refine Sy.loop_inv Sy.tab_ok (fun n:Nat=>[(27,.c (.v (.int .i64 n))),(6,.c (.row 1))]) (fun n=>[(1,.row 3 1 (catN us n).length (.vs ((catN us n).map encI)))]) (fun n=>n<=us.length) (fun n=>us.length-n) 0 (Nat.zero_le _) ?_ (fun n hle=>?_)
    ·refine Vs (Vk ?_ ?_)
     all_goals(first|rfl|(unfold catN;rfl))
    ·have hcl:=catN_le us n
     refine V (Vj (fun hh=>?_) fun hh=>?_)
     ·have hlt:n<us.length:=by omega
      have e1:=catN_succ us n hlt
      have hcl2:=catN_le us (n+1)
      have hun:=hu us[n] (List.getElem_mem _)
      refine Sy.el_map us[n] (List.getElem?_eq_getElem hlt) ?_
      generalize us[n]=x at *
      rw[e1,List.length_append] at hcl2
      conv=>whnf
      refine Sy.open_in 1 x.2.length (x.2.map encI) (hun.1.keep (fun b hb=>⟨hb,fun h=>h⟩) (fun _ _=>rfl)) hun.2 (V ?_)
      refine Sy.need_app 8 rfl ⟨by omega,by omega⟩ (V ?_)
      refine⟨n+1,by omega,by omega,?_⟩
      rw[e1]
      refine Vs (Vk ?_ ?_)
      all_goals simp
     ·have e:n=us.length:=by omega
      subst e
      rw[catN_all]
      exact Sy.fin_r1 (.row 1) (by rw[h0];rfl)
   ·refine V (Y1 fun hh=>?_)
    refine Sy.sli_nat (lo:=0) ⟨Nat.le_refl _,Nat.zero_le _⟩ (V ?_)
    refine Sy.cnt_eq (catL us).length (by omega) (by omega) ?_
    refine Sy.need_of ⟨by show(catL us).length*8<=_;omega,by omega⟩ (fun cap' hc1 hc2=>?_)
    refine V ?_
    refine Sy.sli_nat (lo:=0) (hi:=0) ⟨Nat.le_refl _,Nat.zero_le _⟩ ?_
    conv=>whnf
    refine Sy.br_dec (fun hh=>?_) (fun hh=>by exfalso;omega)
    conv=>whnf
    refine Sy.rev_in (Nat.zero_le _) (V ?_)
    refine Sy.sem_subF (Sy.sub_bufrow 6 1 0 3 1 cap' _ rfl rfl (Nat.zero_le _)) ?_
    conv=>whnf
    refine Sy.loop_inv Sy.tab_ok (fun n:Nat=>[(27,.c (.v (.int .i64 n))),(6,.c (.row 2))]) (fun n=>[(2,.row 3 1 (catN us n).length (.vs ((catN us n).map encI)))]) (fun n=>n<=us.length) (fun n=>us.length-n) 0 (Nat.zero_le _) ?_ (fun n hle=>?_)
    ·refine Vs (Vk ?_ ?_)
     all_goals(first|rfl|(unfold catN;rfl))
    ·have hcl:=catN_le us n
     refine V (Vj (fun hh=>?_) fun hh=>?_)
     ·have hlt:n<us.length:=by omega
      have e1:=catN_succ us n hlt
      have hcl2:=catN_le us (n+1)
      have hun:=hu us[n] (List.getElem_mem _)
      refine Sy.el_map us[n] (List.getElem?_eq_getElem hlt) ?_
      generalize us[n]=x at *
      rw[e1,List.length_append] at hcl2
      conv=>whnf
      refine Sy.open_in 1 x.2.length (x.2.map encI) (hun.1.keep (fun b hb=>⟨hb,fun h=>h⟩) (fun _ _=>rfl)) hun.2 (V ?_)
      refine Sy.need_app 8 rfl ⟨by omega,by omega⟩ (V ?_)
      refine⟨n+1,by omega,by omega,?_⟩
      rw[e1]
      refine Vs (Vk ?_ ?_)
      all_goals simp
     ·have e:n=us.length:=by omega
      subst e
      rw[catN_all]
      exact Sy.fin_r1 (.row 2) rfl
end Go.Proofs.YtgkkpefpbfadoaaGreat
namespace Go.Proofs.YtgkkpefpbfadoaaGreat
open Go Go.RowKit
def hasSrc (g:List Opr):Nat->Nat->Int->Bool
 |0,_,_=>false
 |f+1,i,s=>match g[i]? with
  |none=>false
  |some o=>if o.tag=1 then decide (o.a=s) else o.ins.any fun k=>hasSrc g f k.toNat s
def srcs (g:List Opr)(i:Nat):List Int:=([0,1,2,3]:List Int).filter (hasSrc g (i+1) i)
def goodTo (g:List Opr)(n:Nat):Prop:=∀j o,j<n->g[j]?=some o->AloneP o j
theorem goodTo.mono {g:List Opr}{n m:Nat}(h:goodTo g n)(hm:m<=n):goodTo g m:=fun j o hj ho=>h j o (by omega) ho
theorem rises_mem {below:Int}:∀{l:List Int}{last:Int},risesB last below l=true->∀k∈l,last<k/\k<below
 |[],_,_,k,hk=>by cases hk
 |n::r,last,h,k,hk=>by
  simp only[risesB,Bool.and_eq_true,decide_eq_true_eq] at h
  rcases List.mem_cons.1 hk with rfl|hk
  ·exact h.1
  ·have:=rises_mem h.2 k hk
   omega
theorem alone_ins {o:Opr}{i:Int}(h:AloneP o i):∀k∈o.ins,0<=k/\k<i:=fun k hk=>by
 have:=rises_mem h.2.2.1 k hk
 omega
theorem any_congr' {l:List Int}{p q:Int->Bool}(h:∀k∈l,p k=q k):l.any p=l.any q:=by
 induction l with
 |nil=>rfl
 |cons x r ih=>rw[List.any_cons,List.any_cons,h x (by simp),ih fun k hk=>h k (by simp[hk])]
theorem hasSrc_fuel (g:List Opr):∀(i:Nat),goodTo g (i+1)->∀f,i<f->∀s,hasSrc g f i s=hasSrc g (i+1) i s:=by
 intro i
 induction i using Nat.strongRecOn with
 |_ i ih=>
  intro hg f hf s
  obtain⟨f,rfl⟩:∃f',f=f'+1:=⟨f-1,by omega⟩
  unfold hasSrc
  cases ho:g[i]? with
  |none=>rfl
  |some o=>
   dsimp only
   split
   ·rfl
   ·refine any_congr' fun k hk=>?_
    have hk':=alone_ins (hg i o (by omega) ho) k hk
    have hlt:k.toNat<i:=by omega
    rw[ih k.toNat hlt (hg.mono (by omega)) f (by omega) s,ih k.toNat hlt (hg.mono (by omega)) i hlt s]
theorem hasSrc_at {g:List Opr}{i:Nat}{o:Opr}(hg:goodTo g (i+1))(ho:g[i]?=some o)(s:Int):hasSrc g (i+1) i s=true↔(o.tag=1/\o.a=s)\/(o.tag≠1/\∃k∈o.ins,hasSrc g (k.toNat+1) k.toNat s=true):=by
 rw[show hasSrc g (i+1) i s=(if o.tag=1 then decide (o.a=s) else o.ins.any fun k=>hasSrc g i k.toNat s) by rw[hasSrc,ho]]
 by_cases h1:o.tag=1
 ·simp[h1]
 ·simp only[h1,if_false,false_and,false_or,List.any_eq_true,ne_eq,not_false_iff,true_and]
  constructor
  ·rintro⟨k,hk,h⟩
   have hk':=alone_ins (hg i o (by omega) ho) k hk
   exact⟨k,hk,by rw[<-hasSrc_fuel g k.toNat (hg.mono (by omega)) i (by omega) s];exact h⟩
  ·rintro⟨k,hk,h⟩
   have hk':=alone_ins (hg i o (by omega) ho) k hk
   exact⟨k,hk,by rw[hasSrc_fuel g k.toNat (hg.mono (by omega)) i (by omega) s];exact h⟩
theorem hasSrc_range (g:List Opr):∀(i:Nat),goodTo g (i+1)->∀s,hasSrc g (i+1) i s=true->0<=s/\s<4:=by
 intro i
 induction i using Nat.strongRecOn with
 |_ i ih=>
  intro hg s h
  cases ho:g[i]? with
  |none=>rw[hasSrc,ho] at h;cases h
  |some o=>
   have ha:=hg i o (by omega) ho
   rcases(hasSrc_at hg ho s).1 h with⟨h1,h2⟩|⟨h1,k,hk,h2⟩
   ·obtain⟨_,_,_,h3⟩:=ha
    omega
   ·have hk':=alone_ins ha k hk
    exact ih k.toNat (by omega) (hg.mono (by omega)) s h2
theorem srcs_mem {g:List Opr}{i:Nat}(hg:goodTo g (i+1))(s:Int):s∈srcs g i↔hasSrc g (i+1) i s=true:=by
 unfold srcs
 rw[List.mem_filter]
 refine⟨fun h=>h.2,fun h=>⟨?_,h⟩⟩
 have:=hasSrc_range g i hg s h
 have:s=0\/s=1\/s=2\/s=3:=by omega
 rcases this with rfl|rfl|rfl|rfl<;>simp
theorem srcs_strict (g:List Opr)(i:Nat):strict (srcs g i):=List.Pairwise.filter _ (by decide)
theorem srcs_len (g:List Opr)(i:Nat):(srcs g i).length<=4:=List.length_filter_le _ _
theorem srcs_src {g:List Opr}{i:Nat}{o:Opr}(hg:goodTo g (i+1))(ho:g[i]?=some o)(h1:o.tag=1):srcs g i=[o.a]:=
 strict_ext (srcs_strict g i) (List.pairwise_singleton _ _) fun x=>by
  rw[srcs_mem hg,hasSrc_at hg ho]
  constructor
  ·rintro(⟨_,h⟩|⟨h,_⟩)
   ·rw[h];exact List.mem_singleton.2 rfl
   ·exact absurd h1 h
  ·intro h
   exact .inl ⟨h1,(List.mem_singleton.1 h).symm⟩
theorem srcs_ins {g:List Opr}{i:Nat}{o:Opr}(hg:goodTo g (i+1))(ho:g[i]?=some o)(h1:o.tag≠1)(x:Int):x∈srcs g i↔∃k∈o.ins,x∈srcs g k.toNat:=by
 rw[srcs_mem hg,hasSrc_at hg ho]
 constructor
 ·rintro(⟨h,_⟩|⟨_,k,hk,h⟩)
  ·exact absurd h h1
  ·have hk':=alone_ins (hg i o (by omega) ho) k hk
   exact⟨k,hk,(srcs_mem (hg.mono (by omega)) x).2 h⟩
 ·rintro⟨k,hk,h⟩
  have hk':=alone_ins (hg i o (by omega) ho) k hk
  exact .inr ⟨h1,k,hk,(srcs_mem (hg.mono (by omega)) x).1 h⟩
def srcRows (g:List Opr)(l:List Int):List (List Int):=l.map fun k=>srcs g k.toNat
theorem srcRows_len (g:List Opr)(l:List Int):(srcRows g l).flatten.length<=4*l.length:=by
 induction l with
 |nil=>simp[srcRows]
 |cons k r ih=>
  have:=srcs_len g k.toNat
  simp only[srcRows,List.map_cons,List.flatten_cons,List.length_append,List.length_cons] at *
  omega
theorem srcs_union {g:List Opr}{i:Nat}{o:Opr}(hg:goodTo g (i+1))(ho:g[i]?=some o)(h1:o.tag≠1):Lib.compact (sortL (srcRows g o.ins).flatten)=srcs g i:=by
 obtain⟨h2,h3⟩:=compact_sort (srcRows g o.ins).flatten
 refine strict_ext h2 (srcs_strict g i) fun x=>?_
 rw[h3,srcs_ins hg ho h1,List.mem_flatten]
 constructor
 ·rintro⟨l,hl,hx⟩
  obtain⟨k,hk,rfl⟩:=List.mem_map.1 hl
  exact⟨k,hk,hx⟩
 ·rintro⟨k,hk,hx⟩
  exact⟨_,List.mem_map_of_mem hk,hx⟩
end Go.Proofs.YtgkkpefpbfadoaaGreat
namespace Go.Proofs.YtgkkpefpbfadoaaGreat
open Go Go.RowKit
open Sy (C SV V1 Blk St XD Els)
set_option maxRecDepth 10000
theorem rises_len0 {below:Int}:∀{l:List Int}{last:Int},risesB last below l=true->l=[]\/last+l.length<below
 |[],_,_=>.inl rfl
 |n::r,last,h=>by
  simp only[risesB,Bool.and_eq_true,decide_eq_true_eq] at h
  right
  rw[List.length_cons]
  rcases rises_len0 h.2 with rfl|h2
  ·simp;omega
  ·omega
theorem rises_len {i:Nat}{l:List Int}(h:risesB (-1) (i:Int) l=true):l.length<=i:=by
 rcases rises_len0 h with rfl|h2
 ·exact Nat.zero_le _
 ·omega
def setI (zs:List Int):List Int:=Lib.compact (sortL zs)
theorem setI_len (zs:List Int):(setI zs).length<=zs.length:=Nat.le_trans (Lib.compact_length_le _) (Nat.le_of_eq (sortL_len zs))
theorem union_any (v:Value)(us:List (Value×List Int))(w:World)(hr:XD.ok (fun b=>b<w.heap.size) w ⟨v,1,us.length,us.map encU⟩)(hu:RowsOk w us)(hb:(catL us).length<=1000000):
 Calls Tryz.prog 228 #[v] w (Sy.RetRows Sy.noRow (fun _:Unit=>True) (fun _=>[⟨3,1,(setI (catL us)).length,(setI (catL us)).map encI⟩]) (fun _ vs=>vs.headD undef) w):=by
 refine Sy.calls_of Sy.lv228 Sy.tab_ok Tryz.func228 rfl _ Tryz.ntmps228 [⟨v,1,us.length,us.map encU⟩] [.c (.row 0)] rfl rfl rfl ⟨hr,trivial⟩ (V ?_)
 refine Sy.call_r1 ⟨3,1,(catL us).length,(catL us).map encI⟩ (fun j=>.c (.row j)) Tryz.call242 (fun e a w' h=>concat_any (e.rv 0) us w' (Sy.row_reads h (.inr rfl)) (fun x hx=>Sy.later_in h (hu x hx)) hb) (V ?_)
 refine Sy.call_mut 1 ⟨3,1,(catL us).length,(sortL (catL us)).map encI⟩ (.tup []) Tryz.call204 (fun e a w' h=>sort_mut (e.rv 1) (catL us) w' (h.hp 1 _ rfl).1 (by omega)) (V ?_)
 have hsl:=sortL_len (catL us)
 refine Sy.call_k1 1 ⟨3,1,(setI (catL us)).length,(setI (catL us)).map encI⟩ (fun j=>.c (.row j)) Tryz.call243 (fun e a w' h=>compact_rows (e.rv 1) (sortL (catL us)) w' (by rw[hsl];exact(h.hp 1 _ rfl).1) (by omega)) (V ?_)
 exact Sy.fin_r1 (.row 2) rfl
def srcH (gv:Value):List (Nat×Blk):=[(0,.cells 25 [.v gv]),(1,.cells 248 [.row 2]),(2,.fn 227 [.loc 0 0,.loc 1 0])]
def srcC (gv:Value)(gl:List OpV)(i:Nat):Sy.Ctr Unit:={avs:=[.c (.v (.int .i64 i)),.c (.loc 0 0),.c (.loc 1 0)],n0:=3,H0:=srcH gv,pre:=fun F w=>GOk F w gv gl,sv:=fun _=>.c (.row 3),n1:=fun _=>4,H1:=fun _=>(3,.row 3 1 (srcs (opsOf gl) i).length (.vs ((srcs (opsOf gl) i).map encI)))::srcH gv}
def srcF (gv:Value)(gl:List OpV)(i:Nat):Sy.Ctr Value:={avs:=[.c (.v (.int .i64 i)),.c (.loc 0 0),.c (.loc 1 0)],n0:=3,H0:=srcH gv,pre:=fun F w=>GOk F w gv gl,sv:=fun u=>.c (.v u),n1:=fun _=>3,H1:=fun _=>srcH gv,learn:=true,q:=fun u G w=>XD.ok G w ⟨u,1,(srcs (opsOf gl) i).length,(srcs (opsOf gl) i).map encI⟩}
theorem srcF_of {gv:Value}{gl:List OpV}{i:Nat}(hone:gv.oneCell'=true)(h:Sy.Does Tryz.prog 227 (srcC gv gl i)):Sy.Does Tryz.prog 227 (srcF gv gl i):=
 Sy.does_freeze (by
  intro k b hk
  unfold srcH at hk
  rcases Sy.get_cons hk with⟨rfl,rfl⟩|⟨_,hk⟩
  ·exact⟨by decide,by show Sy.ltAll _ _=true;simp[Sy.ltAll,C.lt,hone]⟩
  ·rcases Sy.get_cons hk with⟨rfl,rfl⟩|⟨_,hk⟩
   ·exact⟨by decide,rfl⟩
   ·rcases Sy.get_cons hk with⟨rfl,rfl⟩|⟨_,hk⟩
    ·exact⟨by decide,rfl⟩
    ·cases hk) h
set_option maxHeartbeats 1000000 in
theorem src_does (gv:Value)(gl:List OpV)(hone:gv.oneCell'=true)(hlen:gl.length<=1000):∀(i:Nat),i<gl.length->goodTo (opsOf gl) (i+1)->Sy.Does Tryz.prog 227 (srcC gv gl i):=by
 intro i
 induction i using Nat.strongRecOn with
 |_ i ih=>
  intro hi hg
  have hgi:=List.getElem?_eq_getElem hi
  generalize gl[i]=o at *
  have hgo:=opsOf_get hgi
  have ha:=hg i o.op (by omega) hgo
  have hins:=alone_ins ha
  refine Sy.does_of Sy.lv227 Sy.tab_ok Tryz.func227 rfl _ Tryz.ntmps227 _ rfl rfl (fun e0 w hpre=>?_)
  have hpre:GOk (Sy.frz e0 (srcH gv) w) w gv gl:=hpre
  have hoo:=hpre.at hgi
  refine Vo ?_
  refine open_f _ _ _ (hpre.1) (Vo ?_)
  refine Sy.el_map o hgi ?_
  by_cases ht:o.op.tag=1
  ·have hs:=srcs_src hg hgo ht
   refine Vo ?_
   refine open_f _ _ _ (hpre.1) (Vo ?_)
   refine Sy.el_map o hgi (Vo ?_)
   refine Sy.fin_own () trivial ?_
   refine Vs (Vk ?_ ?_)
   all_goals(rw[hs];rfl)
  ·have hs:=srcs_union hg hgo ht
   refine Vo ?_
   refine open_f _ _ _ (hpre.1) (Vo ?_)
   refine Sy.el_map o hgi (Vo ?_)
   refine open_f _ _ _ (hoo) (Vo ?_)
   refine Sy.sem_subF (Sy.sub_row 5 40 1 rfl) ?_
   conv=>whnf
   have hil:o.op.ins.length<=i:=rises_len ha.2.2.1
   refine Sy.loop_learn Sy.tab_ok (fun x:Nat×List (Value×List Int)×(Nat->Prop)×(World->Prop)=>[(29,.c (.v (.int .i64 x.1))),(5,.c (.row 6))]) (fun x=>[(6,.row 40 1 x.2.1.length (.vs (x.2.1.map encU)))]) (fun x=>x.2.2.1) (fun x=>x.2.2.2)
    (fun x=>x.1<=o.op.ins.length/\x.2.1.map (·.2)=srcRows (opsOf gl) (o.op.ins.take x.1)/\(∀b,Sy.frz e0 (srcH gv) w b->x.2.2.1 b)/\∀w',x.2.2.2 w'->∀u∈x.2.1,XD.ok x.2.2.1 w' ⟨u.1,1,u.2.length,u.2.map encI⟩) (fun x=>o.op.ins.length-x.1) (0,[],Sy.frz e0 (srcH gv) w,fun _=>True)
    ⟨Nat.zero_le _,rfl,fun _ h=>h,fun _ _ u hu=>by cases hu⟩ ?_ (fun x hx=>?_)
   ·exact Vs0
   ·obtain⟨n,us,F,E⟩:=x
    obtain⟨hn,hus,hF,hE⟩:=hx
    dsimp only at hn hus hF hE⊢
    have hul:us.length=n:=by
     have:=congrArg List.length hus
     rw[List.length_map,srcRows,List.length_map,List.length_take] at this
     omega
    refine Vd (Vj (fun hh=>?_) fun hh=>?_)
    ·have hlt:n<o.op.ins.length:=by omega
     have hgn:=List.getElem?_eq_getElem hlt
     have hk:=hins _ (List.getElem_mem hlt)
     have htk:o.op.ins.take (n+1)=o.op.ins.take n++[o.op.ins[n]]:=List.take_succ_eq_append_getElem hlt
     generalize o.op.ins[n]=k at *
     refine Sy.el_map k hgn (Vo ?_)
     obtain⟨m,rfl⟩:∃m:Nat,k=(m:Int):=⟨k.toNat,by omega⟩
     refine Sy.call_own (srcF_of hone (ih m (by omega) (by omega) (hg.mono (by omega)))) Tryz.call227 ?_ (fun e a w' F' h hF'=>(GOk.later h hpre).mono hF') (fun _ u G G' w1 w2 hq hG hk'=>⟨hq.1.keep hG hk',hq.2⟩)
     refine Vl ?_
     intro u _ G
     refine Vo ?_
     refine Sy.need_app 24 rfl ⟨by omega,by omega⟩ (Vo ?_)
     refine⟨(n+1,us++[(u,srcs (opsOf gl) m)],fun b=>F b\/G b,fun w'=>E w'/\(∀b,G b->¬F b)/\XD.ok (fun b=>F b\/G b) w' ⟨u,1,(srcs (opsOf gl) m).length,(srcs (opsOf gl) m).map encI⟩),⟨by dsimp only;omega,?_,fun b hb=>.inl (hF b hb),fun w' hw x hx=>?_⟩,by dsimp only;omega,?_⟩
     ·dsimp only
      rw[List.map_append,hus,htk,srcRows,srcRows,List.map_append]
      simp
     ·rcases List.mem_append.1 hx with hx|hx
      ·exact(hE w' hw.1 x hx).mono fun b hb=>.inl hb
      ·rw[List.mem_singleton.1 hx];exact hw.2.2
     ·dsimp only
      refine Vs (Vk ?_ ?_)
      all_goals simp[encU]
    ·have e:n=o.op.ins.length:=by omega
     rw[e,List.take_length] at hus
     have hcat:catL us=(srcRows (opsOf gl) o.op.ins).flatten:=by unfold catL;rw[hus]
     have hcl:=srcRows_len (opsOf gl) o.op.ins
     have hset:setI (catL us)=srcs (opsOf gl) i:=by rw[hcat];exact hs
     refine Sy.call_r1 ⟨3,1,(srcs (opsOf gl) i).length,(srcs (opsOf gl) i).map encI⟩ (fun j=>.c (.row j)) Tryz.call228 (fun e a w' h=>by
      have:=union_any (e.rv 6) us w' (Sy.row_reads h (.inl ⟨_,rfl⟩)) (fun x hx=>(hE w' (h.ev w' fun _ _=>rfl) x hx).mono fun b hb=>h.fl b hb) (by rw[hcat];omega)
      rw[hset] at this;exact this) ?_
     refine Vo ?_
     refine Sy.fin_own () trivial ?_
     exact Vs0
theorem lt_gv {v:Value}(h:v.oneCell'=true)(x:C)(hx:x.lt 0=true):Sy.allLt 0 [.agg [.v v],.c x]=true:=by
 have h1:SV.lt 0 (.agg [.v v])=true:=by show Sy.ltAll 0 [C.v v]=true;simp[Sy.ltAll,C.lt,h]
 have h2:SV.lt 0 (.c x)=true:=hx
 simp[Sy.allLt,h1,h2]
theorem sources_any (v:Value)(gl:List OpV)(i:Nat)(w:World)(hr:GOk (fun b=>b<w.heap.size) w v gl)(hlen:gl.length<=1000)(hi:i<gl.length)(hg:goodTo (opsOf gl) (i+1)):
 Calls Tryz.prog 215 #[.agg #[v],.int .i64 i] w (Sy.RetRows Sy.noRow (fun _:Unit=>True) (fun _=>[⟨3,1,(srcs (opsOf gl) i).length,(srcs (opsOf gl) i).map encI⟩]) (fun _ vs=>vs.headD undef) w):=by
 refine Sy.calls_of Sy.lv215 Sy.tab_ok Tryz.func215 rfl _ Tryz.ntmps215 [] [.agg [.v v],.c (.v (.int .i64 i))] rfl (lt_gv hr.one _ rfl) rfl trivial (Vo ?_)
 refine Sy.call_own (src_does v gl hr.one hlen i hi hg) Tryz.call227 ?_ (fun e a w' F' h hF'=>(GOk.later h (hr.mono fun b hb=>⟨hb,fun h=>h⟩)).mono hF')
 refine Vl ?_
 intro _ _ _
 refine Vo ?_
 exact Sy.fin_r1 (.row 3) rfl
end Go.Proofs.YtgkkpefpbfadoaaGreat
