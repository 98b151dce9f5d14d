/- Graph: the document's Has, With, Sources. -/
import Derived.Test.YtgkkpefpbfadoaaGreatDk9
import Derived.Test.YtgkkpefpbfadoaaGreatDk13
namespace Go.Proofs.YtgkkpefpbfadoaaGreat
open Go Go.RowKit
open Sy (C SV V1 Blk St XD Els)
set_option maxRecDepth 10000
def insF (l:List Int)(n:Int):List Int:=l.filter (fun x=>decide (x<n))++((if l.any (fun x=>decide (n<=x))=true then[n] else[])++l.filter (fun x=>decide (n<x)))
def insL (l:List Int)(n:Int):List Int:=l.filter (fun x=>decide (x<n))++([n]++l.filter (fun x=>decide (n<x)))
theorem insL_mem (l:List Int)(n y:Int):y∈insL l n↔y=n\/y∈l:=by
 unfold insL
 simp only[List.mem_append,List.mem_filter,List.mem_singleton,decide_eq_true_eq]
 constructor
 ·rintro(⟨h,_⟩|h|⟨h,_⟩)
  ·exact .inr h
  ·exact .inl h
  ·exact .inr h
 ·rintro(h|h)
  ·exact .inr (.inl h)
  ·rcases Int.lt_trichotomy y n with h1|h1|h1
   ·exact .inl ⟨h,h1⟩
   ·exact .inr (.inl h1)
   ·exact .inr (.inr ⟨h,h1⟩)
theorem insL_strict {l:List Int}(h:strict l)(n:Int):strict (insL l n):=by
 unfold insL
 refine List.pairwise_append.2 ⟨h.filter _,List.pairwise_append.2 ⟨List.pairwise_singleton _ _,h.filter _,fun x hx y hy=>?_⟩,fun x hx y hy=>?_⟩
 ·have:=(List.mem_filter.1 hy).2
  simp at hx this;omega
 ·have h1:=(List.mem_filter.1 hx).2
  rcases List.mem_append.1 hy with hy|hy
  ·simp at hy h1;omega
  ·have h2:=(List.mem_filter.1 hy).2
   simp at h1 h2;omega
theorem insL_set (zs:List Int)(s:Int):insL (setI zs) s=setI (zs++[s]):=by
 obtain⟨h1,h2⟩:=compact_sort zs
 obtain⟨h3,h4⟩:=compact_sort (zs++[s])
 refine strict_ext (insL_strict h1 s) h3 fun x=>?_
 rw[insL_mem]
 show x=s\/x∈Lib.compact (sortL zs)↔x∈Lib.compact (sortL (zs++[s]))
 rw[h2,h4]
 simp[or_comm]
theorem filter_no {l:List Int}{p:Int->Bool}(h:∀x∈l,p x=false):l.filter p=[]:=List.filter_eq_nil_iff.2 fun x hx=>by rw[h x hx];decide
theorem insF_lt {t:List Int}{x n:Int}(ht:∀y∈t,y<x)(hx:x<n):insF (t++[x]) n=insF t n++[x]/\(t++[x]).any (fun x=>decide (n<=x))=false/\t.any (fun x=>decide (n<=x))=false:=by
 have h1:t.any (fun x=>decide (n<=x))=false:=List.any_eq_false.2 fun y hy=>by have:=ht y hy;simp;omega
 have h2:(t++[x]).any (fun x=>decide (n<=x))=false:=by rw[List.any_append,h1];simp;omega
 refine⟨?_,h2,h1⟩
 unfold insF
 rw[h1,h2,List.filter_append,List.filter_append]
 have h3:t.filter (fun x=>decide (n<x))=[]:=filter_no fun y hy=>by have:=ht y hy;simp;omega
 rw[h3]
 simp[hx,show ¬n<x by omega]
theorem insF_ge {t:List Int}{x n:Int}(ht:∀y∈t,y<x)(hx:n<=x):(t++[x]).any (fun x=>decide (n<=x))=true/\
 (t.any (fun x=>decide (n<=x))=false->insF (t++[x]) n=(insF t n++[n])++(if x=n then[] else[x]))/\(t.any (fun x=>decide (n<=x))=true->insF (t++[x]) n=insF t n++[x]/\x≠n):=by
 have h2:(t++[x]).any (fun x=>decide (n<=x))=true:=by rw[List.any_append];simp[hx]
 refine⟨h2,fun h1=>?_,fun h1=>?_⟩
 ·unfold insF
  rw[h1,h2,List.filter_append,List.filter_append]
  have h3:t.filter (fun x=>decide (n<x))=[]:=filter_no fun y hy=>by
   have:=List.any_eq_false.1 h1 y hy
   simp at this⊢;omega
  rw[h3]
  by_cases he:x=n
  ·subst he;simp
  ·simp[he,show ¬x<n by omega,show n<x by omega]
 ·obtain⟨y,hy,hny⟩:=List.any_eq_true.1 h1
  have:=ht y hy
  have hny:n<=y:=by simpa using hny
  refine⟨?_,by omega⟩
  unfold insF
  rw[h1,h2,List.filter_append,List.filter_append]
  simp[show ¬x<n by omega,show n<x by omega]
theorem insF_end {l:List Int}{n:Int}(h:l.any (fun x=>decide (n<=x))=true):insF l n=insL l n:=by unfold insF insL;rw[if_pos h]
theorem insF_end' {l:List Int}{n:Int}(h:l.any (fun x=>decide (n<=x))=false):insF l n++[n]=insL l n:=by
 unfold insF insL
 rw[if_neg (by rw[h];decide)]
 have h3:l.filter (fun x=>decide (n<x))=[]:=filter_no fun y hy=>by
  have:=List.any_eq_false.1 h y hy
  simp at this⊢;omega
 rw[h3];simp
theorem insF_len (l:List Int)(n:Int):(insF l n).length<=2*l.length+1:=by
 unfold insF
 have h1:=List.length_filter_le (fun x=>decide (x<n)) l
 have h2:=List.length_filter_le (fun x=>decide (n<x)) l
 rw[List.length_append,List.length_append]
 split<;>simp<;>omega
attribute [local irreducible] insF insL
set_option maxHeartbeats 1000000 in
theorem with_any (v:Value)(l:List Int)(n:Int)(w:World)(hr:XD.ok (fun b=>b<w.heap.size) w ⟨v,1,l.length,l.map encI⟩)(hs:strict l)(hb:l.length<=100000):
 Calls Tryz.prog 244 #[v,.int .i64 n] w (Sy.RetRows Sy.noRow (fun _:Unit=>True) (fun _=>[⟨3,1,(insL l n).length,(insL l n).map encI⟩]) (fun _ vs=>vs.headD undef) w):=by
 refine Sy.calls_of Sy.lv244 Sy.tab_ok Tryz.func244 rfl _ Tryz.ntmps244 [⟨v,1,l.length,l.map encI⟩] [.c (.row 0),.c (.v (.int .i64 n))] rfl rfl rfl ⟨hr,trivial⟩ (V ?_)
 refine Sy.sem_subF (Sy.sub_row 5 3 1 rfl) ?_
 conv=>whnf
 refine Sy.loop_inv Sy.tab_ok (fun j:Nat=>[(11,.c (.v (.int .i64 j))),(6,.c (.v (.bool ((l.take j).any (fun x=>decide (n<=x)))))),(5,.c (.row 1))]) (fun j=>[(1,.row 3 1 (insF (l.take j) n).length (.vs ((insF (l.take j) n).map encI)))]) (fun j=>j<=l.length) (fun j=>l.length-j) 0 (Nat.zero_le _) ?_ (fun j hj=>?_)
 ·rw[show insF (l.take 0) n=[] by unfold insF;simp]
  exact Vs0
 ·have hfl:=insF_len (l.take j) n
  rw[List.length_take] at hfl
  refine Vd (Vj (fun hh=>?_) fun hh=>Vj (fun hh=>?_) fun hh=>?_)
  ·have hlt:j<l.length:=by omega
   have hg:=List.getElem?_eq_getElem hlt
   have htk:=List.take_succ_eq_append_getElem hlt
   have hts:∀y∈l.take j,y<l[j]:=fun y hy=>by
    obtain⟨i,hi,rfl⟩:=List.mem_iff_getElem.1 hy
    rw[List.length_take] at hi
    rw[List.getElem_take]
    exact List.pairwise_iff_getElem.1 hs i j (by omega) hlt (by omega)
   refine Sy.el_map l[j] hg ?_
   generalize l[j]=x at *
   have g1:=insF_lt (n:=n) hts
   have g2:=insF_ge (n:=n) hts
   rw[<-htk] at g1 g2
   generalize l.take j=t at *
   generalize hd:t.any (fun x=>decide (n<=x))=d at *
   by_cases hx:x<n
   ·obtain⟨k1,k2,k3⟩:=g1 hx
    subst k3
    refine V (Y1 fun hh=>Y1 fun hh=>?_)
    refine Sy.need_app 8 rfl ⟨by omega,by omega⟩ (V ?_)
    refine⟨j+1,by omega,by omega,?_⟩
    rw[k1,k2]
    refine Vs (Vk ?_ ?_)
    all_goals simp[encI]
   ·obtain⟨k1,k2,k3⟩:=g2 (by omega)
    cases d
    ·have k2:=k2 rfl
     refine V (Y1 fun hh=>?_)
     refine Sy.need_app 8 rfl ⟨by omega,by omega⟩ (V (Vj (fun hh=>?_) fun hh=>?_))
     ·have he:x=n:=by omega
      rw[if_pos he,List.append_nil] at k2
      refine⟨j+1,by omega,by omega,?_⟩
      rw[k1,k2]
      refine Vs (Vk ?_ ?_)
      all_goals simp[encI]
     ·have he:x≠n:=by assumption
      rw[if_neg he] at k2
      refine Sy.need_app 8 rfl ⟨by omega,by omega⟩ (V ?_)
      refine⟨j+1,by omega,by omega,?_⟩
      rw[k1,k2]
      refine Vs (Vk ?_ ?_)
      all_goals simp[encI]
    ·obtain⟨k3,k4⟩:=k3 rfl
     refine V ?_
     refine Sy.need_app 8 rfl ⟨by omega,by omega⟩ (V ?_)
     refine⟨j+1,by omega,by omega,?_⟩
     rw[k1,k3]
     refine Vs (Vk ?_ ?_)
     all_goals simp[encI]
  ·have e:j=l.length:=by omega
   subst e
   rw[List.take_length] at *
   rw[insF_end (by assumption)]
   exact Sy.fin_r1 (.row 1) rfl
  ·have e:j=l.length:=by omega
   subst e
   rw[List.take_length] at *
   have k:=insF_end' (show l.any (fun x=>decide (n<=x))=false by assumption)
   refine Sy.need_app 8 rfl ⟨by omega,by omega⟩ (V ?_)
   rw[<-k]
   refine Sy.fin_r1 (.row 3) ?_
   show some (Blk.row _ _ _ _)=_
   rw[List.length_append,List.map_append]
   rfl
end Go.Proofs.YtgkkpefpbfadoaaGreat
namespace Go.Proofs.YtgkkpefpbfadoaaGreat
open Go Go.RowKit
open Sy (C SV V1 Blk St XD Els)
set_option maxRecDepth 10000
theorem has_any (v:Value)(l:List Int)(x:Int)(w:World)(hr:XD.ok (fun b=>b<w.heap.size) w ⟨v,1,l.length,l.map encI⟩):
 Calls Tryz.prog 218 #[v,.int .i64 x] w (Sy.Ret (.bool (decide (x∈l))) w):=by
 have hl:=ok_len hr
 refine Sy.calls_of Sy.lv218 Sy.tab_ok Tryz.func218 rfl _ Tryz.ntmps218 [⟨v,1,l.length,l.map encI⟩] [.c (.row 0),.c (.v (.int .i64 x))] rfl rfl rfl ⟨hr,trivial⟩ (V ?_)
 refine Sy.loop_inv Sy.tab_ok (fun n:Nat=>[(9,.c (.v (.int .i64 n)))]) (fun _=>[]) (fun n=>n<=l.length/\(x∈l↔x∈l.drop n)) (fun n=>l.length-n) 0 ⟨Nat.zero_le _,Iff.rfl⟩ ?_ (fun n hle=>?_)
 ·exact Vs0
 ·obtain⟨hle,hne⟩:=hle
  refine V (Vj (fun hh=>?_) fun hh=>?_)
  ·have hlt:n<l.length:=by omega
   have hg:=List.getElem?_eq_getElem hlt
   rw[List.drop_eq_getElem_cons hlt,List.mem_cons] at hne
   generalize l[n]=y at *
   refine Sy.el_map y hg (V (Vj (fun hh=>?_) fun hh=>?_))
   ·exact Sy.fin_val (fun e=>congrArg Value.bool (decide_eq_true (hne.2 (.inl (by omega)))).symm)
   ·refine⟨n+1,⟨by omega,by rw[hne];exact⟨fun h=>h.resolve_left (by omega),.inr⟩⟩,by omega,?_⟩
    exact Vs0
  ·have e:n=l.length:=by omega
   subst e
   exact Sy.fin_val (fun e=>congrArg Value.bool (decide_eq_false (by rw[hne,List.drop_length];simp)).symm)
theorem srcRows_succ (g:List Opr)(l:List Int)(n:Nat)(h:n<l.length):(srcRows g (l.take (n+1))).flatten=(srcRows g (l.take n)).flatten++srcs g l[n].toNat:=by
 rw[List.take_succ_eq_append_getElem h,srcRows,List.map_append,List.flatten_append]
 simp[srcRows]
theorem setI_strict (zs:List Int):strict (setI zs):=(compact_sort zs).1
theorem setI_nil:setI []=[]:=by unfold setI;simp[sortL,Lib.compact,Lib.compactUpTo]
attribute [local irreducible] setI
set_option maxHeartbeats 1000000 in
theorem rsources_any:∀(i:Nat)(v:Value)(gl:List OpV)(w:World),GOk (fun b=>b<w.heap.size) w v gl->gl.length<=1000->i<gl.length->goodTo (opsOf gl) (i+1)->
 Calls Tryz.prog 229 #[.agg #[v],.int .i64 i] w (Sy.RetRows Sy.noRow (fun _:Unit=>True) (fun _=>[⟨3,1,(srcs (opsOf gl) i).length,(srcs (opsOf gl) i).map encI⟩]) (fun _ vs=>vs.headD undef) w):=by
 intro i
 induction i using Nat.strongRecOn with
 |_ i ih=>
  intro v gl w hr hlen hi hg
  have hgi:=List.getElem?_eq_getElem hi
  generalize gl[i]=o at *
  have hgo:=opsOf_get hgi
  have ha:=hg i o.op (by omega) hgo
  have hins:=alone_ins ha
  have hoo:=hr.at hgi
  have hil:o.op.ins.length<=i:=rises_len ha.2.2.1
  refine Sy.calls_of Sy.lv229 Sy.tab_ok Tryz.func229 rfl _ Tryz.ntmps229 [⟨v,5,gl.length,gl.map encOV⟩] [.agg [.row 0],.c (.v (.int .i64 i))] rfl rfl rfl ⟨hr.1,trivial⟩ (Vo ?_)
  refine Sy.el_map o hgi ?_
  by_cases ht:o.op.tag=1
  ·have hs:=srcs_src hg hgo ht
   refine Vo ?_
   refine Sy.fin_r1 (.row 3) ?_
   rw[hs];rfl
  ·have hs:setI (srcRows (opsOf gl) o.op.ins).flatten=srcs (opsOf gl) i:=by unfold setI;exact srcs_union hg hgo ht
   refine Vo ?_
   refine open_x _ _ _ (hoo) (fun _ h=>h) (Vo ?_)
   refine Sy.sem_subF (Sy.sub_row 6 3 1 rfl) ?_
   conv=>whnf
   refine Sy.loop_inv Sy.tab_ok (fun n:Nat=>[(25,.c (.v (.int .i64 n))),(6,.c (.row 4))]) (fun n=>[(4,.row 3 1 (setI (srcRows (opsOf gl) (o.op.ins.take n)).flatten).length (.vs ((setI (srcRows (opsOf gl) (o.op.ins.take n)).flatten).map encI)))]) (fun n=>n<=o.op.ins.length) (fun n=>o.op.ins.length-n) 0 (Nat.zero_le _) ?_ (fun n hn=>?_)
   ·rw[show setI (srcRows (opsOf gl) (o.op.ins.take 0)).flatten=[] by rw[List.take_zero];exact setI_nil]
    exact Vs0
   ·refine Vd (Vj (fun hh=>?_) fun hh=>?_)
    ·have hlt:n<o.op.ins.length:=by omega
     have hgn:=List.getElem?_eq_getElem hlt
     have hk:=hins _ (List.getElem_mem hlt)
     have hsr:=srcRows_succ (opsOf gl) o.op.ins n hlt
     have hlr:=srcRows_len (opsOf gl) (o.op.ins.take n)
     rw[List.length_take] at hlr
     generalize o.op.ins[n]=k at *
     refine Sy.el_map k hgn (Vo ?_)
     obtain⟨m,rfl⟩:∃m:Nat,k=(m:Int):=⟨k.toNat,by omega⟩
     have hsl:=srcs_len (opsOf gl) m
     rw[Int.toNat_natCast] at hsr
     refine Sy.call_r1 ⟨3,1,(srcs (opsOf gl) m).length,(srcs (opsOf gl) m).map encI⟩ (fun j=>.c (.row j)) Tryz.call229 (fun e a w' h=>ih m (by omega) (e.rv 0) gl w' ⟨Sy.row_reads h (.inr rfl),fun o ho=>Sy.later_in h (hr.2 o ho)⟩ hlen (by omega) (hg.mono (by omega))) (Vo ?_)
     generalize hA:(srcRows (opsOf gl) (o.op.ins.take n)).flatten=A at *
     refine Sy.loop_inv Sy.tab_ok (fun p:Nat=>[(33,.c (.v (.int .i64 p))),(6,.c (.row 4))]) (fun p=>[(4,.row 3 1 (setI (A++(srcs (opsOf gl) m).take p)).length (.vs ((setI (A++(srcs (opsOf gl) m).take p)).map encI)))]) (fun p=>p<=(srcs (opsOf gl) m).length) (fun p=>(srcs (opsOf gl) m).length-p) 0 (Nat.zero_le _) ?_ (fun p hp=>?_)
     ·rw[List.take_zero,List.append_nil]
      exact Vs0
     ·refine Vd (Vj (fun hh=>?_) fun hh=>?_)
      ·have hlt2:p<(srcs (opsOf gl) m).length:=by omega
       have hgp:=List.getElem?_eq_getElem hlt2
       have htk:=List.take_succ_eq_append_getElem hlt2
       have hlA:=setI_len (A++(srcs (opsOf gl) m).take p)
       rw[List.length_append,List.length_take] at hlA
       have hstr:=setI_strict (A++(srcs (opsOf gl) m).take p)
       generalize(srcs (opsOf gl) m)[p]=s at *
       refine Sy.el_map s hgp (Vo ?_)
       have his:=insL_set (A++(srcs (opsOf gl) m).take p) s
       rw[List.append_assoc,<-htk] at his
       generalize setI (A++(srcs (opsOf gl) m).take p)=Z at *
       refine Sy.call_r1 ⟨3,1,(insL Z s).length,(insL Z s).map encI⟩ (fun j=>.c (.row j)) Tryz.call244 (fun e a w' h=>with_any (e.rv 4) Z s w' (Sy.row_reads h (.inl ⟨_,rfl⟩)) hstr (by omega)) (Vo ?_)
       refine⟨p+1,by omega,by omega,?_⟩
       rw[<-his]
       exact Vs0
      ·have e:p=(srcs (opsOf gl) m).length:=by omega
       subst e
       rw[List.take_length,<-hsr]
       refine⟨n+1,by omega,by omega,?_⟩
       exact Vs0
    ·have e:n=o.op.ins.length:=by omega
     subst e
     rw[List.take_length,hs]
     exact Sy.fin_r1 (.row 4) rfl
def readsAt (g:List Opr)(i:Int)(k:Nat):Bool:=match g[k]? with
 |some o=>decide (i∈o.ins)
 |none=>false
def rdN (g:List Opr)(i:Int)(n:Nat):List Int:=List.map (fun k:Nat=>(k:Int)) ((List.range n).filter (readsAt g i))
def rdrs (g:List Opr)(i:Int):List Int:=rdN g i g.length
theorem rdN_succ (g:List Opr)(i:Int)(n:Nat){o:Opr}(h:g[n]?=some o):rdN g i (n+1)=rdN g i n++(if i∈o.ins then[(n:Int)] else[]):=by
 unfold rdN
 rw[List.range_succ,List.filter_append,List.map_append]
 congr 1
 by_cases hi:i∈o.ins<;>simp[readsAt,h,hi]
theorem rdN_len (g:List Opr)(i:Int)(n:Nat):(rdN g i n).length<=n:=by
 unfold rdN
 rw[List.length_map]
 exact Nat.le_trans (List.length_filter_le _ _) (by rw[List.length_range];omega)
attribute [local irreducible] rdN
set_option maxHeartbeats 1000000 in
theorem rreaders_any (v:Value)(gl:List OpV)(i:Int)(w:World)(hr:GOk (fun b=>b<w.heap.size) w v gl)(hlen:gl.length<=1000):
 Calls Tryz.prog 199 #[.agg #[v],.int .i64 i] w (Sy.RetRows Sy.noRow (fun _:Unit=>True) (fun _=>[⟨3,1,(rdrs (opsOf gl) i).length,(rdrs (opsOf gl) i).map encI⟩]) (fun _ vs=>vs.headD undef) w):=by
 refine Sy.calls_of Sy.lv199 Sy.tab_ok Tryz.func199 rfl _ Tryz.ntmps199 [⟨v,5,gl.length,gl.map encOV⟩] [.agg [.row 0],.c (.v (.int .i64 i))] rfl rfl rfl ⟨hr.1,trivial⟩ (Vo ?_)
 refine Sy.sem_subF (Sy.sub_row 5 3 1 rfl) ?_
 conv=>whnf
 refine Sy.loop_inv Sy.tab_ok (fun n:Nat=>[(11,.c (.v (.int .i64 n))),(5,.c (.row 2))]) (fun n=>[(2,.row 3 1 (rdN (opsOf gl) i n).length (.vs ((rdN (opsOf gl) i n).map encI)))]) (fun n=>n<=gl.length) (fun n=>gl.length-n) 0 (Nat.zero_le _) ?_ (fun n hn=>?_)
 ·rw[show rdN (opsOf gl) i 0=[] by unfold rdN;rfl]
  exact Vs0
 ·have hl:=rdN_len (opsOf gl) i n
  refine Vd (Vj (fun hh=>?_) fun hh=>?_)
  ·have hlt:n<gl.length:=by omega
   have hg:=List.getElem?_eq_getElem hlt
   generalize gl[n]=o at *
   have hs:=rdN_succ (opsOf gl) i n (opsOf_get hg)
   refine Sy.el_map o hg (Vo ?_)
   refine zu (Vo ?_)
   refine Sy.call_val (.c (.v (.bool (decide (i∈o.op.ins))))) Tryz.call218 rfl (fun e a w' h=>has_any o.iv o.op.ins i w' (Sy.later_in h (hr.at hg))) (Vo (Vj (fun hh=>?_) fun hh=>?_))
   ·rw[if_pos (by assumption)] at hs
    refine Sy.need_app 8 rfl ⟨by omega,by omega⟩ (Vo ?_)
    refine⟨n+1,by omega,by omega,?_⟩
    rw[hs]
    refine Vs (Vk ?_ ?_)
    all_goals simp[encI]
   ·rw[if_neg (by assumption),List.append_nil] at hs
    refine⟨n+1,by omega,by omega,?_⟩
    rw[hs]
    exact Vs0
  ·have e:n=gl.length:=by omega
   subst e
   rw[show rdN (opsOf gl) i gl.length=rdrs (opsOf gl) i by unfold rdrs;rw[opsOf_len]]
   exact Sy.fin_r1 (.row 2) rfl
def insSum (g:List Opr)(l:List Int):Nat:=(srcRows g l).flatten.length
theorem insSum_succ (g:List Opr)(l:List Int)(n:Nat)(h:n<l.length):insSum g (l.take (n+1))=insSum g (l.take n)+(srcs g l[n].toNat).length:=by
 unfold insSum
 rw[srcRows_succ _ _ _ h,List.length_append]
attribute [local irreducible] insSum
set_option maxHeartbeats 1000000 in
theorem meets_any (v:Value)(gl:List OpV)(i:Nat)(o:OpV)(w:World)(hr:GOk (fun b=>b<w.heap.size) w v gl)(hlen:gl.length<=1000)(hgi:gl[i]?=some o)(hg:goodTo (opsOf gl) (i+1)):
 Calls Tryz.prog 217 #[.agg #[v],.int .i64 i] w (Sy.Ret (.bool (decide ((srcs (opsOf gl) i).length<insSum (opsOf gl) o.op.ins))) w):=by
 have hi:=(List.getElem?_eq_some_iff.1 hgi).1
 have ha:=hg i o.op (by omega) (opsOf_get hgi)
 have hins:=alone_ins ha
 have hoo:=hr.at hgi
 have hil:o.op.ins.length<=i:=rises_len ha.2.2.1
 refine Sy.calls_of Sy.lv217 Sy.tab_ok Tryz.func217 rfl _ Tryz.ntmps217 [⟨v,5,gl.length,gl.map encOV⟩] [.agg [.row 0],.c (.v (.int .i64 i))] rfl rfl rfl ⟨hr.1,trivial⟩ (Vo ?_)
 refine Sy.el_map o hgi (Vo ?_)
 refine open_x _ _ _ (hoo) (fun _ h=>h) (Vo ?_)
 refine Sy.loop_inv Sy.tab_ok (fun n:Nat=>[(15,.c (.v (.int .i64 n))),(5,.c (.v (.int .i64 (insSum (opsOf gl) (o.op.ins.take n)))))]) (fun n=>[]) (fun n=>n<=o.op.ins.length) (fun n=>o.op.ins.length-n) 0 (Nat.zero_le _) ?_ (fun n hn=>?_)
 ·rw[show insSum (opsOf gl) (o.op.ins.take 0)=0 by unfold insSum;rfl]
  exact Vs0
 ·have hlr:=srcRows_len (opsOf gl) (o.op.ins.take n)
  rw[List.length_take,show(srcRows (opsOf gl) (o.op.ins.take n)).flatten.length=insSum (opsOf gl) (o.op.ins.take n) by unfold insSum;rfl] at hlr
  refine Vd (Vj (fun hh=>?_) fun hh=>?_)
  ·have hlt:n<o.op.ins.length:=by omega
   have hgn:=List.getElem?_eq_getElem hlt
   have hk:=hins _ (List.getElem_mem hlt)
   have hsr:=insSum_succ (opsOf gl) o.op.ins n hlt
   generalize o.op.ins[n]=k at *
   refine Sy.el_map k hgn (Vo ?_)
   obtain⟨m,rfl⟩:∃m:Nat,k=(m:Int):=⟨k.toNat,by omega⟩
   have hsl:=srcs_len (opsOf gl) m
   rw[Int.toNat_natCast] at hsr
   refine Sy.call_r1 ⟨3,1,(srcs (opsOf gl) m).length,(srcs (opsOf gl) m).map encI⟩ (fun j=>.c (.row j)) Tryz.call229 (fun e a w' h=>rsources_any m (e.rv 0) gl w' ⟨Sy.row_reads h (.inr rfl),fun o ho=>Sy.later_in h (hr.2 o ho)⟩ hlen (by omega) (hg.mono (by omega))) (Vo ?_)
   refine⟨n+1,by omega,by omega,?_⟩
   rw[hsr,Int.natCast_add]
   exact Vs0
  ·have e:n=o.op.ins.length:=by omega
   subst e
   rw[List.take_length] at *
   refine Sy.call_r1 ⟨3,1,(srcs (opsOf gl) i).length,(srcs (opsOf gl) i).map encI⟩ (fun j=>.c (.row j)) Tryz.call229 (fun e a w' h=>rsources_any i (e.rv 0) gl w' ⟨Sy.row_reads h (.inr rfl),fun o ho=>Sy.later_in h (hr.2 o ho)⟩ hlen hi hg) (Vo ?_)
   exact Sy.fin_val (fun e=>congrArg Value.bool (decide_eq_decide.2 Int.ofNat_lt))
end Go.Proofs.YtgkkpefpbfadoaaGreat
namespace Go.Proofs.YtgkkpefpbfadoaaGreat
open Go Go.RowKit
open Sy (C SV V1 Blk St XD Els)
set_option maxRecDepth 10000
def tagAt (g:List Opr)(k:Nat):Int:=match g[k]? with
 |some o=>o.tag
 |none=>0
def sinkB (g:List Opr)(l:List Int):Bool:=l.any fun k=>decide (tagAt g k.toNat=7)
def dupB (l:List Opr)(a:Int):Bool:=l.any fun x=>decide (x.tag=1)&&decide (x.a=a)
def wrongE (g:List Opr)(i:Nat)(o:Opr)(wide:Int):Int:=
 if AloneP o i then
  if sinkB g o.ins=true then 160
  else if o.tag=1/\dupB (g.take i) o.a=true then 160
  else if o.tag=6/\insSum g o.ins≠(srcs g i).length then 161
  else if 16<wide then 163 else 0
 else 160
theorem tagAt_get {gl:List OpV}{k:Nat}{o:OpV}(h:gl[k]?=some o):tagAt (opsOf gl) k=o.op.tag:=by unfold tagAt;rw[opsOf_get h]
def sinkC (gl:List OpV)(l:List Int):Sy.Ctr Unit:={avs:=[.c (.row 2),.c (.row 1)],n0:=4,H0:=[(0,.cells 25 [.row 3]),(1,.fn 211 [.loc 0 0]),(2,.ext 1 l.length (.vs (l.map encI))),(3,.ext 5 gl.length (.vs (gl.map encOV)))],sv:=fun _=>.c (.v (.bool (sinkB (opsOf gl) l))),n1:=fun _=>4,H1:=fun _=>[(0,.cells 25 [.row 3]),(1,.fn 211 [.loc 0 0])]}
theorem sink_drop (g:List Opr)(l:List Int)(n:Nat)(h:n<l.length):sinkB g (l.drop n)=(decide (tagAt g l[n].toNat=7)||sinkB g (l.drop (n+1))):=by
 rw[List.drop_eq_getElem_cons h];rfl
theorem sink_does (gl:List OpV)(l:List Int)(hin:∀k∈l,0<=k/\k<gl.length)(hl:l.length<=100000):Sy.Does Tryz.prog 213 (sinkC gl l):=by
 refine Sy.does_of Sy.lv213 Sy.tab_ok Tryz.func213 rfl _ Tryz.ntmps213 _ rfl rfl (fun e0 w hpre=>?_)
 refine Vo ?_
 refine Sy.call_in Sy.lv225 Sy.tab_ok Tryz.func225 rfl _ Tryz.ntmps225 Tryz.call225 rfl (fun _=>?_)
 refine Vo ?_
 refine Sy.loop_inv Sy.tab_ok (fun n:Nat=>[(8,.c (.v (.int .i64 n)))]) (fun _=>[]) (fun n=>n<=l.length/\sinkB (opsOf gl) l=sinkB (opsOf gl) (l.drop n)) (fun n=>l.length-n) 0 ⟨Nat.zero_le _,rfl⟩ ?_ (fun n hn=>?_)
 ·exact Vs0
 ·obtain⟨hn,hs⟩:=hn
  refine Vd (Vj (fun hh=>?_) fun hh=>?_)
  ·have hlt:n<l.length:=by omega
   have hg:=List.getElem?_eq_getElem hlt
   have hk:=hin _ (List.getElem_mem hlt)
   have hd:=sink_drop (opsOf gl) l n hlt
   generalize l[n]=k at *
   refine Sy.el_map k hg (Vo ?_)
   refine Sy.call_in Sy.lv211 Sy.tab_ok Tryz.func211 rfl _ Tryz.ntmps211 Tryz.call211 rfl (fun _=>?_)
   refine Vo ?_
   obtain⟨m,rfl⟩:∃m:Nat,k=(m:Int):=⟨k.toNat,by omega⟩
   rw[Int.toNat_natCast] at hd
   have hgm:=List.getElem?_eq_getElem (show m<gl.length by omega)
   rw[tagAt_get hgm] at hd
   generalize gl[m]'(by omega)=o at *
   refine Sy.el_map o (by rw[Int.toNat_natCast];exact hgm) (Vo (Vj (fun hh=>?_) fun hh=>?_))
   ·rw[decide_eq_true (by assumption),Bool.true_or] at hd
    refine Sy.fin_own () trivial ?_
    refine Vs ?_
    rw[hs,hd]
    simp
   ·rw[decide_eq_false (by assumption),Bool.false_or] at hd
    refine⟨n+1,⟨by omega,by rw[hs,hd]⟩,by omega,?_⟩
    exact Vs0
  ·have e:n=l.length:=by omega
   subst e
   rw[List.drop_length] at hs
   refine Sy.fin_own () trivial ?_
   refine Vs ?_
   rw[hs];rfl
def dupC (o:OpV)(gl:List OpV):Sy.Ctr Unit:={avs:=[.c (.row 2),.c (.row 1)],n0:=3,H0:=[(0,.cells 65 [.v (.int .i64 o.op.tag),.v (.int .i64 o.op.width),.v o.iv,.v (.int .i64 o.op.a),.v (.int .i64 o.op.b)]),(1,.fn 210 [.loc 0 0]),(2,.ext 5 gl.length (.vs (gl.map encOV)))],sv:=fun _=>.c (.v (.bool (dupB (opsOf gl) o.op.a))),n1:=fun _=>3,H1:=fun _=>[(0,.cells 65 [.v (.int .i64 o.op.tag),.v (.int .i64 o.op.width),.v o.iv,.v (.int .i64 o.op.a),.v (.int .i64 o.op.b)]),(1,.fn 210 [.loc 0 0])]}
theorem dup_drop (gl:List OpV)(a:Int)(n:Nat){x:OpV}(h:gl[n]?=some x):dupB (opsOf (gl.drop n)) a=((decide (x.op.tag=1)&&decide (x.op.a=a))||dupB (opsOf (gl.drop (n+1))) a):=by
 obtain⟨hn,he⟩:=List.getElem?_eq_some_iff.1 h
 rw[List.drop_eq_getElem_cons hn,he];rfl
theorem dup_does (o:OpV)(gl:List OpV)(_:∀x∈gl,x.iv.oneCell'=true)(hl:gl.length<=100000):Sy.Does Tryz.prog 214 (dupC o gl):=by
 refine Sy.does_of Sy.lv214 Sy.tab_ok Tryz.func214 rfl _ Tryz.ntmps214 _ rfl rfl (fun e0 w hpre=>?_)
 refine Vo ?_
 refine Sy.call_in Sy.lv226 Sy.tab_ok Tryz.func226 rfl _ Tryz.ntmps226 Tryz.call226 rfl (fun _=>?_)
 refine Vo ?_
 refine Sy.loop_inv Sy.tab_ok (fun n:Nat=>[(8,.c (.v (.int .i64 n)))]) (fun _=>[]) (fun n=>n<=gl.length/\dupB (opsOf gl) o.op.a=dupB (opsOf (gl.drop n)) o.op.a) (fun n=>gl.length-n) 0 ⟨Nat.zero_le _,rfl⟩ ?_ (fun n hn=>?_)
 ·exact Vs0
 ·obtain⟨hn,hs⟩:=hn
  refine Vd (Vj (fun hh=>?_) fun hh=>?_)
  ·have hlt:n<gl.length:=by omega
   have hg:=List.getElem?_eq_getElem hlt
   generalize gl[n]=x at *
   have hd:=dup_drop gl o.op.a n hg
   refine Sy.el_map x hg (Vo ?_)
   refine Sy.call_in Sy.lv210 Sy.tab_ok Tryz.func210 rfl _ Tryz.ntmps210 Tryz.call210 rfl (fun _=>?_)
   refine Vo (Vj (fun hh=>Vj (fun hh=>?_) fun hh=>?_) fun hh=>?_)
   all_goals first
    |(rw[decide_eq_true (show x.op.tag=1 by assumption),decide_eq_true (show x.op.a=o.op.a by omega),Bool.and_self,Bool.true_or] at hd
      refine Sy.fin_own () trivial ?_
      refine Vs ?_
      all_goals(rw[hs,hd];simp))
    |(rw[show(decide (x.op.tag=1)&&decide (x.op.a=o.op.a))=false by simp;omega,Bool.false_or] at hd
      refine⟨n+1,⟨by omega,by rw[hs,hd]⟩,by omega,?_⟩
      exact Vs0)
  ·have e:n=gl.length:=by omega
   subst e
   rw[List.drop_length] at hs
   refine Sy.fin_own () trivial ?_
   refine Vs ?_
   rw[hs];rfl
end Go.Proofs.YtgkkpefpbfadoaaGreat
