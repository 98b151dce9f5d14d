/- Frame: inputs, works. -/
import Derived.Test.YtgkkpefpbfadoaaGreatDk9
import Derived.Test.YtgkkpefpbfadoaaGreatDk18
import Derived.Test.YtgkkpefpbfadoaaGreatDk16
import Derived.Test.YtgkkpefpbfadoaaGreatDk12
namespace Go.Proofs.YtgkkpefpbfadoaaGreat
open Go Go.RowKit
open Sy (C SV V1 Blk St XD Els)
set_option maxRecDepth 10000
theorem all_take {α:Type}{p:α->Bool}{l:List α}{n:Nat}{x:α}(h:(l.take n).all p=true)(hx:l[n]?=some x)(hp:p x=true):(l.take (n+1)).all p=true:=by
 obtain⟨hn,he⟩:=List.getElem?_eq_some_iff.1 hx
 rw[List.take_succ_eq_append_getElem hn,he,List.all_append,h]
 simp[hp]
theorem all_not {α:Type}{p:α->Bool}{l:List α}{n:Nat}{x:α}(hx:l[n]?=some x)(hp:p x=false):l.all p=false:=by
 rw[Bool.eq_false_iff]
 intro h
 rw[List.all_eq_true.1 h x (List.mem_of_getElem? hx)] at hp
 cases hp
def inE (x:Inp):Int:=if inputB x=true then 0 else 170
def rgB (s:Int)(r:Rc):Bool:=recB r&&decide (r.src=s)
set_option maxHeartbeats 2000000 in
theorem input_any (x:InpV)(w:World)(hr:IOk (fun b=>b<w.heap.size) w x):Calls Tryz.prog 203 #[.agg (encIV x).toArray] w (Sy.Ret (.int .i64 (inE x.inp)) w):=by
 obtain⟨⟨src,l⟩,v⟩:=x
 have hl:=ok_len hr
 refine Sy.calls_of Sy.lv203 Sy.tab_ok Tryz.func203 rfl _ Tryz.ntmps203 [⟨v,3,l.length,l.map encR⟩] [.agg [.v (.int .i64 src),.row 0]] rfl rfl rfl ⟨hr,trivial⟩ ?_
 have hP:inE ⟨src,l⟩=if(l.length<=40/\0<=src/\src<8)/\l.all (rgB src)=true then 0 else 170:=by
  unfold inE inputB rgB
  simp only[Bool.and_eq_true,decide_eq_true_eq,and_assoc]
 rw[hP]
 by_cases h1:l.length<=40/\0<=src/\src<8
 ·refine V (Y1 fun hh=>Y1 fun hh=>Y1 fun hh=>?_)
  refine Sy.call_in Sy.lv219 Sy.tab_ok Tryz.func219 rfl _ Tryz.ntmps219 Tryz.call219 rfl (fun _=>?_)
  refine V ?_
  refine Sy.call_in Sy.lv230 Sy.tab_ok Tryz.func230 rfl _ Tryz.ntmps230 Tryz.call230 rfl (fun _=>?_)
  refine V ?_
  refine Sy.loop_inv Sy.tab_ok (fun n:Nat=>[(8,.c (.v (.int .i64 n)))]) (fun _=>[]) (fun n=>n<=l.length/\(l.take n).all (rgB src)=true) (fun n=>l.length-n) 0 ⟨Nat.zero_le _,rfl⟩ ?_ (fun n hn=>?_)
  ·exact Vs0
  obtain⟨hn,ha⟩:=hn
  by_cases hlt:n<l.length
  ·have hg:=List.getElem?_eq_getElem hlt
   generalize l[n]=r at *
   refine V (Y1 fun hh=>?_)
   refine Sy.el_map r hg (V ?_)
   refine Sy.call_in Sy.lv220 Sy.tab_ok Tryz.func220 rfl _ Tryz.ntmps220 Tryz.call220 rfl (fun _=>?_)
   refine V ?_
   refine Sy.call_val (.c (.v (.int .i64 (if Sn.recP r.src r.key then 0 else 150)))) Tryz.call187 rfl (fun e a w' h=>Sn.rec_any r.src r.key r.val w') ?_
   by_cases h2:Sn.recP r.src r.key/\r.src=src
   ·have ha:=all_take ha hg (show rgB src r=true by unfold rgB recB;rw[decide_eq_true h2.1,decide_eq_true h2.2];rfl)
    rw[if_pos h2.1]
    refine V (Y1 fun hh=>?_)
    all_goals(first|(exfalso;omega)|skip)
    refine⟨n+1,⟨by omega,ha⟩,by omega,?_⟩
    exact Vs0
   ·have hb:=all_not hg (show rgB src r=false by unfold rgB recB;simp;intro h3 h4;exact h2 ⟨h3,h4⟩)
    rw[show(if(l.length<=40/\0<=src/\src<8)/\l.all (rgB src)=true then 0 else 170:Int)=170 from if_neg fun h=>by rw[hb] at h;cases h.2]
    by_cases h3:Sn.recP r.src r.key
    ·rw[if_pos h3]
     refine V (Vj (fun hh=>?_) fun hh=>Y0.mk)
     exact absurd ⟨h3,by omega⟩ h2
    ·rw[if_neg h3]
     exact V0
  ·have e:n=l.length:=by omega
   subst e
   rw[List.take_length] at ha
   rw[if_pos ⟨h1,ha⟩]
   exact V0
 ·rw[if_neg fun h=>h1 h.1]
  exact V0
def srcsI (l:List Inp):List Int:=l.map (·.src)
def denoE (g:List Opr)(l:List Inp):Int:=if(checkV g).2≠0 then(checkV g).2 else if l.all inputB=true then(if srcsI l=sortL (wants g) then 0 else 230) else 170
theorem wants_succ {g:List Opr}{n:Nat}{o:Opr}(h:g[n]?=some o):wants (g.take (n+1))=wants (g.take n)++(if o.tag=1 then[o.a] else[]):=by
 obtain⟨hn,he⟩:=List.getElem?_eq_some_iff.1 h
 unfold wants
 rw[List.take_succ_eq_append_getElem hn,he,List.filter_append,List.map_append]
 congr 1
 by_cases h1:o.tag=1
 ·simp[h1]
 ·simp[h1]
theorem wants_len (g:List Opr):(wants g).length<=g.length:=by
 unfold wants
 rw[List.length_map]
 exact List.length_filter_le _ _
theorem insOf_get {l:List InpV}{i:Nat}{x:InpV}(h:l[i]?=some x):(insOf l)[i]?=some x.inp:=by simp[insOf,h]
theorem insOf_len (l:List InpV):(insOf l).length=l.length:=by simp[insOf]
attribute [local irreducible] checkV
set_option maxHeartbeats 4000000 in
theorem deno_any (gv iv:Value)(gl:List OpV)(il:List InpV)(w:World)(hg:GOk (fun b=>b<w.heap.size) w gv gl)(hi:XD.ok (fun b=>b<w.heap.size) w ⟨iv,2,il.length,il.map encIV⟩)(hr:∀x∈il,IOk (fun b=>b<w.heap.size) w x)(hb:il.length<=100000):
 Calls Tryz.prog 177 #[.agg #[gv,iv]] w (Sy.Ret (.int .i64 (denoE (opsOf gl) (insOf il))) w):=by
 have hl1:=ok_len hg.1
 have hl2:=ok_len hi
 have hol:=opsOf_len gl
 have hil:=insOf_len il
 refine Sy.calls_of Sy.lv177 Sy.tab_ok Tryz.func177 rfl _ Tryz.ntmps177 [⟨gv,5,gl.length,gl.map encOV⟩,⟨iv,2,il.length,il.map encIV⟩] [.agg [.row 0,.row 1]] rfl rfl rfl ⟨hg.1,hi,trivial⟩ (V ?_)
 refine Sy.call_val (.tup [.c (.v (.int .i64 (checkV (opsOf gl)).1)),.c (.v (.int .i64 (checkV (opsOf gl)).2))]) Tryz.call157 rfl (fun e a w' h=>check_any (e.rv 0) gl w' ⟨Sy.row_reads h (.inr rfl),fun o ho=>Sy.later_in h (hg.2 o ho)⟩) ?_
 by_cases h0:(checkV (opsOf gl)).2=0
 case' neg=>
  rw[show denoE (opsOf gl) (insOf il)=(checkV (opsOf gl)).2 from if_pos h0]
  exact V0
 have hD:denoE (opsOf gl) (insOf il)=if(insOf il).all inputB=true then(if srcsI (insOf il)=sortL (wants (opsOf gl)) then 0 else 230) else 170:=if_neg (fun h=>h h0)
 have h8:=check_ok h0
 rw[hol] at h8
 rw[h0,hD]
 refine V ?_
 refine Sy.sem_subF (Sy.sub_row 5 3 1 rfl) (V ?_)
 refine Sy.loop_inv Sy.tab_ok (fun n:Nat=>[(24,.c (.v (.int .i64 n))),(5,.c (.row 3))]) (fun n=>[(3,.row 3 1 (srcsI ((insOf il).take n)).length (.vs ((srcsI ((insOf il).take n)).map encI)))]) (fun n=>n<=il.length/\((insOf il).take n).all inputB=true) (fun n=>il.length-n) 0 ⟨Nat.zero_le _,rfl⟩ ?_ (fun n hn=>?_)
 ·exact Vs0
 obtain⟨hn,ha⟩:=hn
 have hsl:(srcsI ((insOf il).take n)).length=n:=by unfold srcsI;rw[List.length_map,List.length_take,hil];omega
 by_cases hlt:n<il.length
 ·have hgt:=List.getElem?_eq_getElem hlt
  have hrx:=hr _ (List.getElem_mem hlt)
  generalize il[n]=x at *
  have hgi:=insOf_get hgt
  have hs:srcsI ((insOf il).take (n+1))=srcsI ((insOf il).take n)++[x.inp.src]:=by
   obtain⟨hn,he⟩:=List.getElem?_eq_some_iff.1 hgi
   unfold srcsI
   rw[List.take_succ_eq_append_getElem hn,he,List.map_append];rfl
  refine V (Y1 fun hh=>?_)
  refine Sy.el_map x hgt (V ?_)
  refine Sy.call_val (.c (.v (.int .i64 (inE x.inp)))) Tryz.call203 rfl (fun e a w' h=>input_any x w' (Sy.later_in h hrx)) ?_
  by_cases hx:inputB x.inp=true
  ·rw[show inE x.inp=0 from if_pos hx]
   have ha:=all_take ha hgi hx
   refine V ?_
   refine Sy.need_app 8 rfl ⟨by omega,by omega⟩ (V ?_)
   refine⟨n+1,⟨by omega,ha⟩,by omega,?_⟩
   rw[hs]
   refine Vs (Vk ?_ ?_)
   all_goals(try simp[encI])
   all_goals(try omega)
  ·have hb:=all_not hgi (Bool.eq_false_iff.2 hx)
   rw[show inE x.inp=170 from if_neg hx,if_neg (by rw[hb];decide)]
   exact V0
 have e:(insOf il).take n=insOf il:=List.take_of_length_le (by omega)
 rw[e] at ha⊢
 rw[if_pos ha]
 clear hsl
 refine V (Y1 fun hh=>?_)
 refine Sy.sem_subF (Sy.sub_row 6 3 1 rfl) (V ?_)
 refine Sy.loop_inv Sy.tab_ok (fun n:Nat=>[(43,.c (.v (.int .i64 n))),(6,.c (.row 4))]) (fun n=>[(4,.row 3 1 (wants ((opsOf gl).take n)).length (.vs ((wants ((opsOf gl).take n)).map encI)))]) (fun n=>n<=gl.length) (fun n=>gl.length-n) 0 (Nat.zero_le _) ?_ (fun m hm=>?_)
 ·exact Vs0
 have hwl:=wants_len ((opsOf gl).take m)
 rw[List.length_take] at hwl
 by_cases hlt2:m<gl.length
 ·have hgt:=List.getElem?_eq_getElem hlt2
  generalize gl[m]=o at *
  have hs:=wants_succ (opsOf_get hgt)
  refine V (Y1 fun hh=>?_)
  refine Sy.el_map o hgt ?_
  by_cases h1:o.op.tag=1
  ·rw[if_pos h1] at hs
   refine V ?_
   refine Sy.need_app 8 rfl ⟨by omega,by omega⟩ (V ?_)
   refine⟨m+1,by omega,by omega,?_⟩
   rw[hs]
   refine Vs (Vk ?_ ?_)
   all_goals(try simp[encI])
   all_goals(try omega)
  ·rw[if_neg h1,List.append_nil] at hs
   refine V ?_
   refine⟨m+1,by omega,by omega,?_⟩
   rw[hs]
   exact Vs0
 have e2:(opsOf gl).take m=opsOf gl:=List.take_of_length_le (by omega)
 have hwl:=wants_len (opsOf gl)
 rw[e2]
 refine V (Y1 fun hh=>?_)
 refine Sy.call_mut 4 ⟨3,1,(wants (opsOf gl)).length,(sortL (wants (opsOf gl))).map encI⟩ (.tup []) Tryz.call204 (fun e a w' h=>sort_mut (e.rv 4) (wants (opsOf gl)) w' (h.hp 4 _ rfl).1 (by omega)) ?_
 have hsl:=sortL_len (wants (opsOf gl))
 refine V ?_
 refine Sy.call_val (.c (.v (.bool (decide (srcsI (insOf il)=sortL (wants (opsOf gl))))))) Tryz.call38 rfl (fun e a w' h=>equalI_any (e.rv 3) (e.rv 4) _ _ w' (Sy.row_reads h (.inl ⟨_,rfl⟩)) (by rw[hsl];exact Sy.row_reads h (.inl ⟨_,rfl⟩))) ?_
 by_cases hq:srcsI (insOf il)=sortL (wants (opsOf gl))
 ·rw[decide_eq_true hq,if_pos hq]
  exact V0
 ·rw[decide_eq_false hq,if_neg hq]
  exact V0
end Go.Proofs.YtgkkpefpbfadoaaGreat
