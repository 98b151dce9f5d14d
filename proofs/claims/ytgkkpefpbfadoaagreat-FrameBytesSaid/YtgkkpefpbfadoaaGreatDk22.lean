/- Snap: the document's Right; Same. -/
import Derived.Test.YtgkkpefpbfadoaaGreatDk9
import Derived.Test.YtgkkpefpbfadoaaGreatDk21
namespace Go.Proofs.YtgkkpefpbfadoaaGreat.Sn
open Go Go.RowKit
open Sy (C SV V1 Blk St XD Els)
set_option maxRecDepth 10000
theorem rgroup_any (k:Int)(w:World)(hk:0<=k/\k<=1000):Calls Tryz.prog 75 #[.int .i64 k] w (Sy.Ret (.int .i64 (k%8)) w):=by
 refine Sy.calls_of Sy.lv75 Sy.tab_ok Tryz.func75 rfl _ Tryz.ntmps75 [] [.c (.v (.int .i64 k))] rfl rfl rfl trivial (V ?_)
 refine Sy.rem_in (by omega) (by omega) V0
 all_goals done
theorem rowned_any (g i n:Int)(w:World)(hg:0<=g/\g<8)(hn:0<=n/\n<=3):Calls Tryz.prog 74 #[.int .i64 g,.int .i64 i,.int .i64 n] w (Sy.Ret (.bool (decide (ownW g n=i))) w):=by
 refine Sy.calls_of Sy.lv74 Sy.tab_ok Tryz.func74 rfl _ Tryz.ntmps74 [] [.c (.v (.int .i64 g)),.c (.v (.int .i64 i)),.c (.v (.int .i64 n))] rfl rfl rfl trivial (V ?_)
 refine Sy.call_val (.c (.v (.int .i64 (ownW g n)))) Tryz.call125 rfl (fun e a w' _=>rowner_any g n w' hg hn) ?_
 by_cases h:ownW g n=i
 ·rw[decide_eq_true h]
  refine V ?_
  exact Sy.fin_val (fun e=>congrArg Value.bool (beq_iff_eq.2 h))
 ·rw[decide_eq_false h]
  refine V ?_
  exact Sy.fin_val (fun e=>congrArg Value.bool (beq_eq_false_iff_ne.2 h))
theorem place_any (op i n:Int)(w:World):Calls Tryz.prog 71 #[.int .i64 op,.int .i64 i,.int .i64 n] w (Sy.Ret (.bool (decide ((0<=op/\op<8)/\shareP i n))) w):=by
 refine Sy.calls_of Sy.lv71 Sy.tab_ok Tryz.func71 rfl _ Tryz.ntmps71 [] [.c (.v (.int .i64 op)),.c (.v (.int .i64 i)),.c (.v (.int .i64 n))] rfl rfl rfl trivial ?_
 by_cases h1:0<=op/\op<8
 ·refine V (Y1 fun hh=>Y1 fun hh=>?_)
  refine Sy.call_val (.c (.v (.bool (decide (shareP i n))))) Tryz.call119 rfl (fun e a w' h=>rshare_any i n w') (V ?_)
  exact Sy.fin_val (fun e=>congrArg Value.bool (by rw[Bool.eq_iff_iff,decide_eq_true_iff,decide_eq_true_iff];exact⟨fun h=>⟨h1,h⟩,fun h=>h.2⟩))
 ·rw[decide_eq_false (fun h=>h1 h.1)]
  exact V0
  all_goals exact Sy.fin_val (fun e=>congrArg Value.bool (by first|exact decide_eq_true (by omega)|exact decide_eq_false (by omega)))
theorem off_cell (o:Fin 8->Int):∀(g:Fin 8)(x:Int),x=(g.val:Int)->([.v (.int .i64 (o 0)),.v (.int .i64 (o 1)),.v (.int .i64 (o 2)),.v (.int .i64 (o 3)),.v (.int .i64 (o 4)),.v (.int .i64 (o 5)),.v (.int .i64 (o 6)),.v (.int .i64 (o 7))]:List C)[x.toNat]?=some (.v (.int .i64 (o g))):=fin8x rfl rfl rfl rfl rfl rfl rfl rfl
attribute [local irreducible] ownW tblB namesB rightP
set_option maxHeartbeats 4000000 in
theorem right_any (s:SnV)(w:World)(hr:SOk (fun b=>b<w.heap.size) w s):Calls Tryz.prog 25 #[.agg (encS s).toArray] w (Sy.Ret (.bool (decide (rightP s.sn))) w):=by
 have hl1:=ok_len hr.rows
 have hl2:=ok_len hr.txs
 obtain⟨⟨op,idx,wid,fin,rows,o,txs⟩,u,t⟩:=s
 dsimp only at hl1 hl2
 refine Sy.calls_of Sy.lv25 Sy.tab_ok Tryz.func25 rfl _ Tryz.ntmps25 [⟨u,4,rows.length,rows.map encK⟩,⟨t,3,txs.length,txs.map encT⟩] [.agg [.v (.int .i64 op),.v (.int .i64 idx),.v (.int .i64 wid),.v (.bool fin),.row 0,.v (.int .i64 (o 0)),.v (.int .i64 (o 1)),.v (.int .i64 (o 2)),.v (.int .i64 (o 3)),.v (.int .i64 (o 4)),.v (.int .i64 (o 5)),.v (.int .i64 (o 6)),.v (.int .i64 (o 7)),.row 1]] rfl rfl rfl ⟨hr.rows,hr.txs,trivial⟩ ?_
 obtain⟨R,hR⟩:∃R,R=decide (rightP ⟨op,idx,wid,fin,rows,o,txs⟩):=⟨_,rfl⟩
 rw[show decide (rightP (SnV.sn ⟨⟨op,idx,wid,fin,rows,o,txs⟩,u,t⟩))=R from hR.symm]
 refine V ?_
 refine Sy.call_val (.c (.v (.bool (decide ((0<=op/\op<8)/\shareP idx wid))))) Tryz.call71 rfl (fun e a w' h=>place_any op idx wid w') ?_
 by_cases hpl:(0<=op/\op<8)/\shareP idx wid
 ·obtain⟨hop,hsh⟩:=hpl
  have hsh':=hsh
  unfold shareP at hsh'
  rw[decide_eq_true ⟨hop,hsh⟩]
  refine V ?_
  refine Sy.call_val (.c (.v (.bool (tblB rows)))) Tryz.call72 rfl (fun e a w' h=>rtbl_any (e.rv 0) rows w' (Sy.row_reads h (.inr rfl))) ?_
  cases htb:tblB rows with
  |true=>
   refine V ?_
   refine Sy.call_val (.c (.v (.bool (namesB txs)))) Tryz.call73 rfl (fun e a w' h=>rises_any (e.rv 1) txs w' (Sy.row_reads h (.inr rfl))) ?_
   cases hnm:namesB txs with
   |true=>
    refine V ?_
    refine Sy.loop_inv Sy.tab_ok (fun n:Nat=>[(31,.c (.v (.int .i64 n)))]) (fun _=>[]) (fun n=>n<=rows.length/\∀x∈rows.take n,ownW (x.key%8) wid=idx) (fun n=>rows.length-n) 0 ⟨Nat.zero_le _,fun x hx=>by rw[List.take_zero] at hx;cases hx⟩ ?_ (fun n hn=>?_)
    ·exact Vs0
    ·obtain⟨hn,ha⟩:=hn
     by_cases hlt:n<rows.length
     ·have hg:=List.getElem?_eq_getElem hlt
      have hsn:rows.take (n+1)=rows.take n++[rows[n]]:=List.take_succ_eq_append_getElem hlt
      have hxm:=List.getElem_mem hlt
      generalize rows[n]=x at *
      have hrc:=tbl_rec htb hxm
      unfold recP at hrc
      have hm8:=mod8 hrc.2.2.1
      refine V (Y1 fun hh=>?_)
      refine Sy.el_map x hg (V ?_)
      by_cases hmn:ownW (x.key%8) wid=idx
      ·have ha2:∀y∈rows.take (n+1),ownW (y.key%8) wid=idx:=fun y hy=>by
        rw[hsn] at hy
        rcases List.mem_append.1 hy with hy|hy
        ·exact ha y hy
        ·rw[List.mem_singleton.1 hy];exact hmn
       refine Sy.draw_go [] (by kernel_rfl) ?_
       intro e0
       conv=>whnf
       refine zt 0 rfl ?_
       conv=>whnf
       refine zt 1 rfl ?_
       conv=>whnf
       refine zt 3 rfl ?_
       conv=>whnf
       refine zt 4 rfl ?_
       conv=>whnf
       refine zt 5 rfl ?_
       conv=>whnf
       refine zt 6 rfl ?_
       conv=>whnf
       refine zd1 [2] (zx rfl ?_ zy)
       conv=>whnf
       refine Sy.call_val (.c (.v (.int .i64 (x.key%8)))) Tryz.call75 rfl (fun e a w' _=>rgroup_any x.key w' (by omega)) ?_
       conv=>whnf
       refine Yk ?_
       refine zd1 [7] (zx rfl ?_ zy)
       conv=>whnf
       refine Sy.call_val (.c (.v (.bool true))) Tryz.call74 rfl (fun e a w' _=>by have:=rowned_any (x.key%8) idx wid w' hm8 (by omega);rw[decide_eq_true hmn] at this;exact this) ?_
       conv=>whnf
       refine Yk ?_
       refine zt 8 rfl (V ?_)
       refine zw ?_
       skip
       all_goals(refine V ?_)
       all_goals(refine⟨n+1,⟨by omega,ha2⟩,by omega,?_⟩)
       all_goals(exact Vs0)
      ·rw[hR,decide_eq_false (fun h=>hmn (by unfold rightP at h;exact h.2.2.2.2.1 x hxm))]
       refine Sy.draw_go [] (by kernel_rfl) ?_
       intro e0
       conv=>whnf
       refine zt 0 rfl ?_
       conv=>whnf
       refine zt 1 rfl ?_
       conv=>whnf
       refine zt 3 rfl ?_
       conv=>whnf
       refine zt 4 rfl ?_
       conv=>whnf
       refine zt 5 rfl ?_
       conv=>whnf
       refine zt 6 rfl ?_
       conv=>whnf
       refine zd1 [2] (zx rfl ?_ zy)
       conv=>whnf
       refine Sy.call_val (.c (.v (.int .i64 (x.key%8)))) Tryz.call75 rfl (fun e a w' _=>rgroup_any x.key w' (by omega)) ?_
       conv=>whnf
       refine Yk ?_
       refine zd1 [7] (zx rfl ?_ zy)
       conv=>whnf
       refine Sy.call_val (.c (.v (.bool false))) Tryz.call74 rfl (fun e a w' _=>by have:=rowned_any (x.key%8) idx wid w' hm8 (by omega);rw[decide_eq_false hmn] at this;exact this) ?_
       conv=>whnf
       refine Yk ?_
       refine zt 8 rfl (V ?_)
       refine zw ?_
       skip
       all_goals(exact V0)
       all_goals done
     ·have e:n=rows.length:=by omega
      rw[e,List.take_length] at ha
      refine V (Y1 fun hh=>?_)
      refine Sy.loop_inv Sy.tab_ok (fun n:Nat=>[(47,.c (.v (.int .i64 n)))]) (fun _=>[]) (fun n=>n<=8/\∀g:Fin 8,g.val<n->offP idx wid o g) (fun n=>8-n) 0 ⟨Nat.zero_le _,fun g hg=>absurd hg (Nat.not_lt_zero _)⟩ ?_ (fun n hn=>?_)
      ·exact Vs0
      ·obtain⟨hn,hof⟩:=hn
       by_cases hlt:n<8
       ·obtain⟨g,hgx⟩:∃g:Fin 8,(n:Int)=(g.val:Int):=⟨⟨n,hlt⟩,rfl⟩
        refine V (Y1 fun hh=>?_)
        refine Sy.cell_of (.v (.int .i64 (o g))) (by first|exact off_cell o g n hgx|(show _[_*1]?=_;rw[Nat.mul_one];exact off_cell o g n hgx)) ?_
        have hnext:offP idx wid o g->∀g:Fin 8,g.val<n+1->offP idx wid o g:=fun h g' hg'=>by
         rcases Nat.lt_succ_iff_lt_or_eq.1 hg' with h1|h1
         ·exact hof g' h1
         ·rw[show g'=g from Fin.ext (by omega)];exact h
        have hbad:¬offP idx wid o g->R=false:=fun h=>by
         rw[hR]
         exact decide_eq_false (fun h2=>h (by unfold rightP at h2;exact h2.2.2.2.2.2 g))
        unfold offP at hnext hbad
        by_cases hr1:0<=o g/\o g<=40
        ·by_cases hz:o g=0
         ·have hnx:=hnext ⟨by omega,by omega,fun h=>absurd hz h⟩
          refine V (Y1 fun hh=>Y1 fun hh=>?_)
          refine⟨n+1,⟨by omega,hnx⟩,by omega,?_⟩
          exact Vs0
         ·refine V (Y1 fun hh=>Y1 fun hh=>?_)
          refine Sy.call_val (.c (.v (.bool (decide (ownW n wid=idx))))) Tryz.call74 rfl (fun e a w' _=>rowned_any n idx wid w' (by omega) (by omega)) ?_
          rw[hgx]
          by_cases how:ownW (g.val:Int) wid=idx
          ·have hnx:=hnext ⟨by omega,by omega,fun _=>how⟩
           rw[decide_eq_true how]
           refine V ?_
           refine⟨n+1,⟨by omega,hnx⟩,by omega,?_⟩
           refine Vs ?_
           exact congrArg (Value.int .i64) (by omega)
          ·rw[decide_eq_false how,hbad (fun h=>how (h.2.2 hz))]
           exact V0
           all_goals done
        ·rw[hbad (fun h=>hr1 ⟨h.1,h.2.1⟩)]
         exact V0
         all_goals done
       ·have e:n=8:=by omega
        subst e
        rw[hR,decide_eq_true (by unfold rightP;exact⟨hop,hsh,htb,hnm,ha,fun g=>hof g g.isLt⟩)]
        exact V0
        all_goals done
   |false=>
    rw[hR,decide_eq_false (fun h=>by unfold rightP at h;rw[hnm] at h;exact absurd h.2.2.2.1 (by decide))]
    exact V0
    all_goals done
  |false=>
   rw[hR,decide_eq_false (fun h=>by unfold rightP at h;rw[htb] at h;exact absurd h.2.2.1 (by decide))]
   exact V0
   all_goals done
 ·rw[hR,decide_eq_false hpl,decide_eq_false (fun h=>hpl (by unfold rightP at h;exact⟨h.1,h.2.1⟩))]
  exact V0
  all_goals done
theorem tx_ext {x y:Tx}(h1:x.sink=y.sink)(h2:x.att=y.att)(h3:x.ser=y.ser):x=y:=by cases x;cases y;simp_all
theorem kc_ext {x y:Kc}(h1:x.src=y.src)(h2:x.key=y.key)(h3:x.cnt=y.cnt)(h4:x.sum=y.sum):x=y:=by cases x;cases y;simp_all
set_option maxHeartbeats 2000000 in
theorem sameT_any (u t:Value)(a b:List Tx)(w:World)(hu:XD.ok (fun b=>b<w.heap.size) w ⟨u,3,a.length,a.map encT⟩)(ht:XD.ok (fun b=>b<w.heap.size) w ⟨t,3,b.length,b.map encT⟩):
 Calls Tryz.prog 96 #[u,t] w (Sy.Ret (.bool (decide (a=b))) w):=by
 have hl1:=ok_len hu
 have hl2:=ok_len ht
 refine Sy.calls_of Sy.lv96 Sy.tab_ok Tryz.func96 rfl _ Tryz.ntmps96 [⟨u,3,a.length,a.map encT⟩,⟨t,3,b.length,b.map encT⟩] [.c (.row 0),.c (.row 1)] rfl rfl rfl ⟨hu,ht,trivial⟩ ?_
 by_cases hlen:a.length=b.length
 ·refine V (Y1 fun hh=>?_)
  refine Sy.loop_inv Sy.tab_ok (fun n:Nat=>[(13,.c (.v (.int .i64 n)))]) (fun _=>[]) (fun n=>n<=a.length/\a.take n=b.take n) (fun n=>a.length-n) 0 ⟨Nat.zero_le _,rfl⟩ ?_ (fun n hn=>?_)
  ·exact Vs0
  ·obtain⟨hn,ht⟩:=hn
   by_cases hlt:n<a.length
   ·have hlb:n<b.length:=by omega
    have ga:=List.getElem?_eq_getElem hlt
    have gb:=List.getElem?_eq_getElem hlb
    have sa:a.take (n+1)=a.take n++[a[n]]:=List.take_succ_eq_append_getElem hlt
    have sb:b.take (n+1)=b.take n++[b[n]]:=List.take_succ_eq_append_getElem hlb
    generalize a[n]=x at *
    generalize b[n]=y at *
    refine V (Y1 fun hh=>?_)
    refine Sy.draw_go [] (by kernel_rfl) ?_
    intro e0
    conv=>whnf
    refine zt 0 rfl ?_
    conv=>whnf
    refine zt 1 rfl ?_
    conv=>whnf
    refine zt 2 rfl (V ?_)
    refine zt 3 rfl ?_
    conv=>whnf
    refine Sy.el_map x ga ?_
    conv=>whnf
    refine zt 4 rfl ?_
    conv=>whnf
    refine zt 5 rfl ?_
    conv=>whnf
    refine zt 6 rfl (V ?_)
    refine zt 7 rfl ?_
    conv=>whnf
    refine Sy.el_map y gb ?_
    conv=>whnf
    refine zt 8 rfl (V ?_)
    refine zw ?_
    skip
    all_goals
     by_cases he:x.sink=y.sink/\x.att=y.att/\x.ser=y.ser
     ·obtain⟨e1,e2,e3⟩:=he
      have hxy:x=y:=tx_ext e1 e2 e3
      refine V ?_
      refine⟨n+1,⟨by omega,by rw[sa,sb,ht,hxy]⟩,by omega,?_⟩
      exact Vs0
     ·rw[decide_eq_false (fun h=>by
       subst h
       rw[ga] at gb
       cases gb
       exact he ⟨rfl,rfl,rfl⟩)]
      exact V0
      all_goals(exfalso;omega)
   ·have e:n=a.length:=by omega
    subst e
    rw[List.take_length,hlen,List.take_length] at ht
    rw[decide_eq_true ht]
    exact V0
    all_goals done
 ·rw[decide_eq_false (fun h=>hlen (by rw[h]))]
  exact V0
  all_goals done
set_option maxHeartbeats 2000000 in
theorem sameK_any (u t:Value)(a b:List Kc)(w:World)(hu:XD.ok (fun b=>b<w.heap.size) w ⟨u,4,a.length,a.map encK⟩)(ht:XD.ok (fun b=>b<w.heap.size) w ⟨t,4,b.length,b.map encK⟩):
 Calls Tryz.prog 95 #[.agg #[u],.agg #[t]] w (Sy.Ret (.bool (decide (a=b))) w):=by
 have hl1:=ok_len hu
 have hl2:=ok_len ht
 refine Sy.calls_of Sy.lv95 Sy.tab_ok Tryz.func95 rfl _ Tryz.ntmps95 [⟨u,4,a.length,a.map encK⟩,⟨t,4,b.length,b.map encK⟩] [.agg [.row 0],.agg [.row 1]] rfl rfl rfl ⟨hu,ht,trivial⟩ ?_
 by_cases hlen:a.length=b.length
 ·refine V (Y1 fun hh=>?_)
  refine Sy.loop_inv Sy.tab_ok (fun n:Nat=>[(16,.c (.v (.int .i64 n)))]) (fun _=>[]) (fun n=>n<=a.length/\a.take n=b.take n) (fun n=>a.length-n) 0 ⟨Nat.zero_le _,rfl⟩ ?_ (fun n hn=>?_)
  ·exact Vs0
  ·obtain⟨hn,ht⟩:=hn
   by_cases hlt:n<a.length
   ·have hlb:n<b.length:=by omega
    have ga:=List.getElem?_eq_getElem hlt
    have gb:=List.getElem?_eq_getElem hlb
    have sa:a.take (n+1)=a.take n++[a[n]]:=List.take_succ_eq_append_getElem hlt
    have sb:b.take (n+1)=b.take n++[b[n]]:=List.take_succ_eq_append_getElem hlb
    generalize a[n]=x at *
    generalize b[n]=y at *
    refine V (Y1 fun hh=>?_)
    refine Sy.draw_go [] (by kernel_rfl) ?_
    intro e0
    conv=>whnf
    refine zt 0 rfl ?_
    conv=>whnf
    refine zt 1 rfl ?_
    conv=>whnf
    refine zt 2 rfl ?_
    conv=>whnf
    refine zt 3 rfl (V ?_)
    refine zt 4 rfl ?_
    conv=>whnf
    refine Sy.el_map x ga ?_
    conv=>whnf
    refine zt 5 rfl ?_
    conv=>whnf
    refine zt 6 rfl ?_
    conv=>whnf
    refine zt 7 rfl ?_
    conv=>whnf
    refine zt 8 rfl (V ?_)
    refine zt 9 rfl ?_
    conv=>whnf
    refine Sy.el_map y gb ?_
    conv=>whnf
    refine zt 10 rfl (V ?_)
    refine zw ?_
    skip
    all_goals
     by_cases he:x.src=y.src/\x.key=y.key/\x.cnt=y.cnt/\x.sum=y.sum
     ·obtain⟨e1,e2,e3,e4⟩:=he
      have hxy:x=y:=kc_ext e1 e2 e3 e4
      refine V ?_
      refine⟨n+1,⟨by omega,by rw[sa,sb,ht,hxy]⟩,by omega,?_⟩
      exact Vs0
     ·rw[decide_eq_false (fun h=>by
       subst h
       rw[ga] at gb
       cases gb
       exact he ⟨rfl,rfl,rfl,rfl⟩)]
      exact V0
      all_goals(exfalso;omega)
   ·have e:n=a.length:=by omega
    subst e
    rw[List.take_length,hlen,List.take_length] at ht
    rw[decide_eq_true ht]
    exact V0
    all_goals done
 ·rw[decide_eq_false (fun h=>hlen (by rw[h]))]
  exact V0
  all_goals done
end Go.Proofs.YtgkkpefpbfadoaaGreat.Sn
namespace Go.Proofs.YtgkkpefpbfadoaaGreat.Sn
open Go Go.RowKit
open Sy (C SV V1 Blk St XD Els)
set_option maxRecDepth 10000
theorem sn_ext {a b:Sn}(h1:a.op=b.op)(h2:a.idx=b.idx)(h3:a.wid=b.wid)(h4:a.fin=b.fin)(h5:a.rows=b.rows)(h6:a.offs=b.offs)(h7:a.txs=b.txs):a=b:=by cases a;cases b;simp_all
set_option maxHeartbeats 4000000 in
theorem rsame_any (a b:SnV)(w:World)(ha:SOk (fun b=>b<w.heap.size) w a)(hb:SOk (fun b=>b<w.heap.size) w b):Calls Tryz.prog 50 #[.agg (encS a).toArray,.agg (encS b).toArray] w (Sy.Ret (.bool (decide (a.sn=b.sn))) w):=by
 obtain⟨⟨op,idx,wid,fin,rows,o,txs⟩,u,t⟩:=a
 obtain⟨⟨op',idx',wid',fin',rows',o',txs'⟩,u',t'⟩:=b
 refine Sy.calls_of Sy.lv50 Sy.tab_ok Tryz.func50 rfl _ Tryz.ntmps50 [⟨u,4,rows.length,rows.map encK⟩,⟨t,3,txs.length,txs.map encT⟩,⟨u',4,rows'.length,rows'.map encK⟩,⟨t',3,txs'.length,txs'.map encT⟩] [.agg [.v (.int .i64 op),.v (.int .i64 idx),.v (.int .i64 wid),.v (.bool fin),.row 0,.v (.int .i64 (o 0)),.v (.int .i64 (o 1)),.v (.int .i64 (o 2)),.v (.int .i64 (o 3)),.v (.int .i64 (o 4)),.v (.int .i64 (o 5)),.v (.int .i64 (o 6)),.v (.int .i64 (o 7)),.row 1],.agg [.v (.int .i64 op'),.v (.int .i64 idx'),.v (.int .i64 wid'),.v (.bool fin'),.row 2,.v (.int .i64 (o' 0)),.v (.int .i64 (o' 1)),.v (.int .i64 (o' 2)),.v (.int .i64 (o' 3)),.v (.int .i64 (o' 4)),.v (.int .i64 (o' 5)),.v (.int .i64 (o' 6)),.v (.int .i64 (o' 7)),.row 3]] rfl rfl rfl ⟨ha.rows,ha.txs,hb.rows,hb.txs,trivial⟩ ?_
 obtain⟨R,hR⟩:∃R,R=decide (Sn.mk op idx wid fin rows o txs=⟨op',idx',wid',fin',rows',o',txs'⟩):=⟨_,rfl⟩
 rw[show decide (SnV.sn ⟨⟨op,idx,wid,fin,rows,o,txs⟩,u,t⟩=SnV.sn ⟨⟨op',idx',wid',fin',rows',o',txs'⟩,u',t'⟩)=R from hR.symm]
 by_cases h1:op=op'/\idx=idx'/\wid=wid'
 ·obtain⟨e1,e2,e3⟩:=h1
  by_cases e4:fin=fin'
  ·have e4b:(fin==fin')=true:=beq_iff_eq.2 e4
   by_cases hz:o 0=o' 0/\o 1=o' 1/\o 2=o' 2/\o 3=o' 3/\o 4=o' 4/\o 5=o' 5/\o 6=o' 6/\o 7=o' 7
   ·obtain⟨z0,z1,z2,z3,z4,z5,z6,z7⟩:=hz
    have e6:o=o':=funext (fin8 z0 z1 z2 z3 z4 z5 z6 z7)
    refine V ?_
    refine Sy.call_val (.c (.v (.bool (decide (rows=rows'))))) Tryz.call95 rfl (fun e a w' h=>sameK_any (e.rv 0) (e.rv 2) rows rows' w' (Sy.row_reads h (.inr rfl)) (Sy.row_reads h (.inr rfl))) ?_
    by_cases e5:rows=rows'
    ·rw[decide_eq_true e5]
     refine V ?_
     refine Sy.call_val (.c (.v (.bool (decide (txs=txs'))))) Tryz.call96 rfl (fun e a w' h=>sameT_any (e.rv 1) (e.rv 3) txs txs' w' (Sy.row_reads h (.inr rfl)) (Sy.row_reads h (.inr rfl))) ?_
     have hR2:R=decide (txs=txs'):=by
      rw[hR,Bool.eq_iff_iff,decide_eq_true_iff,decide_eq_true_iff]
      exact⟨fun h=>(Sn.mk.inj h).2.2.2.2.2.2,fun h=>sn_ext e1 e2 e3 e4 e5 e6 h⟩
     rw[hR2]
     exact V0
     all_goals done
    ·rw[decide_eq_false e5,hR,decide_eq_false (fun h=>e5 (Sn.mk.inj h).2.2.2.2.1)]
     exact V0
     all_goals done
   ·rw[hR,decide_eq_false (fun h=>hz (by
     have e6:=(Sn.mk.inj h).2.2.2.2.2.1
     subst e6
     exact⟨rfl,rfl,rfl,rfl,rfl,rfl,rfl,rfl⟩))]
    exact V0
    all_goals first|(exfalso;omega)|done
  ·have e4b:(fin==fin')=false:=beq_eq_false_iff_ne.2 e4
   rw[hR,decide_eq_false (fun h=>e4 (Sn.mk.inj h).2.2.2.1)]
   exact V0
   all_goals done
 ·rw[hR,decide_eq_false (fun h=>h1 ⟨(Sn.mk.inj h).1,(Sn.mk.inj h).2.1,(Sn.mk.inj h).2.2.1⟩)]
  exact V0
  all_goals first|(exfalso;omega)|done
end Go.Proofs.YtgkkpefpbfadoaaGreat.Sn
namespace Go.Proofs.YtgkkpefpbfadoaaGreat.Sn
open Go Go.RowKit
open Sy (C SV V1 Blk St XD Els)
set_option maxRecDepth 10000
set_option maxHeartbeats 2000000 in
theorem eqT_any (u t:Value)(a b:List Tx)(w:World)(hu:XD.ok (fun b=>b<w.heap.size) w ⟨u,3,a.length,a.map encT⟩)(ht:XD.ok (fun b=>b<w.heap.size) w ⟨t,3,b.length,b.map encT⟩):
 Calls Tryz.prog 37 #[u,t] w (Sy.Ret (.bool (decide (a=b))) w):=by
 have hl1:=ok_len hu
 have hl2:=ok_len ht
 refine Sy.calls_of Sy.lv37 Sy.tab_ok Tryz.func37 rfl _ Tryz.ntmps37 [⟨u,3,a.length,a.map encT⟩,⟨t,3,b.length,b.map encT⟩] [.c (.row 0),.c (.row 1)] rfl rfl rfl ⟨hu,ht,trivial⟩ ?_
 by_cases hlen:a.length=b.length
 ·refine V (Y1 fun hh=>?_)
  refine Sy.loop_inv Sy.tab_ok (fun n:Nat=>[(13,.c (.v (.int .i64 n)))]) (fun _=>[]) (fun n=>n<=a.length/\a.take n=b.take n) (fun n=>a.length-n) 0 ⟨Nat.zero_le _,rfl⟩ ?_ (fun n hn=>?_)
  ·exact Vs0
  ·obtain⟨hn,ht⟩:=hn
   by_cases hlt:n<a.length
   ·have hlb:n<b.length:=by omega
    have ga:=List.getElem?_eq_getElem hlt
    have gb:=List.getElem?_eq_getElem hlb
    have sa:a.take (n+1)=a.take n++[a[n]]:=List.take_succ_eq_append_getElem hlt
    have sb:b.take (n+1)=b.take n++[b[n]]:=List.take_succ_eq_append_getElem hlb
    generalize a[n]=x at *
    generalize b[n]=y at *
    refine V (Y1 fun hh=>?_)
    refine Sy.draw_go [] (by kernel_rfl) ?_
    intro e0
    conv=>whnf
    refine zt 0 rfl ?_
    conv=>whnf
    refine zt 1 rfl ?_
    conv=>whnf
    refine zt 2 rfl (V ?_)
    refine zt 3 rfl ?_
    conv=>whnf
    refine Sy.el_map x ga ?_
    conv=>whnf
    refine zt 4 rfl ?_
    conv=>whnf
    refine zt 5 rfl ?_
    conv=>whnf
    refine zt 6 rfl (V ?_)
    refine zt 7 rfl ?_
    conv=>whnf
    refine Sy.el_map y gb ?_
    conv=>whnf
    refine zt 8 rfl (V ?_)
    refine zw ?_
    skip
    all_goals
     by_cases he:x.sink=y.sink/\x.att=y.att/\x.ser=y.ser
     ·obtain⟨e1,e2,e3⟩:=he
      have hxy:x=y:=tx_ext e1 e2 e3
      refine V ?_
      refine⟨n+1,⟨by omega,by rw[sa,sb,ht,hxy]⟩,by omega,?_⟩
      exact Vs0
     ·rw[decide_eq_false (fun h=>by
       subst h
       rw[ga] at gb
       cases gb
       exact he ⟨rfl,rfl,rfl⟩)]
      exact V0
      all_goals(exfalso;omega)
   ·have e:n=a.length:=by omega
    subst e
    rw[List.take_length,hlen,List.take_length] at ht
    rw[decide_eq_true ht]
    exact V0
    all_goals done
 ·rw[decide_eq_false (fun h=>hlen (by rw[h]))]
  exact V0
  all_goals done
set_option maxHeartbeats 2000000 in
theorem eqK_any (u t:Value)(a b:List Kc)(w:World)(hu:XD.ok (fun b=>b<w.heap.size) w ⟨u,4,a.length,a.map encK⟩)(ht:XD.ok (fun b=>b<w.heap.size) w ⟨t,4,b.length,b.map encK⟩):
 Calls Tryz.prog 140 #[u,t] w (Sy.Ret (.bool (decide (a=b))) w):=by
 have hl1:=ok_len hu
 have hl2:=ok_len ht
 refine Sy.calls_of Sy.lv140 Sy.tab_ok Tryz.func140 rfl _ Tryz.ntmps140 [⟨u,4,a.length,a.map encK⟩,⟨t,4,b.length,b.map encK⟩] [.c (.row 0),.c (.row 1)] rfl rfl rfl ⟨hu,ht,trivial⟩ ?_
 by_cases hlen:a.length=b.length
 ·refine V (Y1 fun hh=>?_)
  refine Sy.loop_inv Sy.tab_ok (fun n:Nat=>[(13,.c (.v (.int .i64 n)))]) (fun _=>[]) (fun n=>n<=a.length/\a.take n=b.take n) (fun n=>a.length-n) 0 ⟨Nat.zero_le _,rfl⟩ ?_ (fun n hn=>?_)
  ·exact Vs0
  ·obtain⟨hn,ht⟩:=hn
   by_cases hlt:n<a.length
   ·have hlb:n<b.length:=by omega
    have ga:=List.getElem?_eq_getElem hlt
    have gb:=List.getElem?_eq_getElem hlb
    have sa:a.take (n+1)=a.take n++[a[n]]:=List.take_succ_eq_append_getElem hlt
    have sb:b.take (n+1)=b.take n++[b[n]]:=List.take_succ_eq_append_getElem hlb
    generalize a[n]=x at *
    generalize b[n]=y at *
    refine V (Y1 fun hh=>?_)
    refine Sy.draw_go [] (by kernel_rfl) ?_
    intro e0
    conv=>whnf
    refine zt 0 rfl ?_
    conv=>whnf
    refine zt 1 rfl ?_
    conv=>whnf
    refine zt 2 rfl (V ?_)
    refine zt 3 rfl ?_
    conv=>whnf
    refine Sy.el_map x ga ?_
    conv=>whnf
    refine zt 4 rfl ?_
    conv=>whnf
    refine zt 5 rfl ?_
    conv=>whnf
    refine zt 6 rfl (V ?_)
    refine zt 7 rfl ?_
    conv=>whnf
    refine Sy.el_map y gb ?_
    conv=>whnf
    refine zt 8 rfl (V ?_)
    refine zw ?_
    skip
    all_goals
     by_cases he:x.src=y.src/\x.key=y.key/\x.cnt=y.cnt/\x.sum=y.sum
     ·obtain⟨e1,e2,e3,e4⟩:=he
      have hxy:x=y:=kc_ext e1 e2 e3 e4
      refine V ?_
      refine⟨n+1,⟨by omega,by rw[sa,sb,ht,hxy]⟩,by omega,?_⟩
      exact Vs0
     ·rw[decide_eq_false (fun h=>by
       subst h
       rw[ga] at gb
       cases gb
       exact he ⟨rfl,rfl,rfl,rfl⟩)]
      exact V0
      all_goals(exfalso;omega)
   ·have e:n=a.length:=by omega
    subst e
    rw[List.take_length,hlen,List.take_length] at ht
    rw[decide_eq_true ht]
    exact V0
    all_goals done
 ·rw[decide_eq_false (fun h=>hlen (by rw[h]))]
  exact V0
  all_goals done
theorem sameTbl_any (u t:Value)(a b:List Kc)(w:World)(hu:XD.ok (fun b=>b<w.heap.size) w ⟨u,4,a.length,a.map encK⟩)(ht:XD.ok (fun b=>b<w.heap.size) w ⟨t,4,b.length,b.map encK⟩):
 Calls Tryz.prog 91 #[.agg #[u],.agg #[t]] w (Sy.Ret (.bool (decide (a=b))) w):=by
 refine Sy.calls_of Sy.lv91 Sy.tab_ok Tryz.func91 rfl _ Tryz.ntmps91 [⟨u,4,a.length,a.map encK⟩,⟨t,4,b.length,b.map encK⟩] [.agg [.row 0],.agg [.row 1]] rfl rfl rfl ⟨hu,ht,trivial⟩ (V ?_)
 refine Sy.call_val (.c (.v (.bool (decide (a=b))))) Tryz.call140 rfl (fun e _ w' h=>eqK_any (e.rv 0) (e.rv 1) a b w' (Sy.row_reads h (.inr rfl)) (Sy.row_reads h (.inr rfl))) V0
 all_goals done
set_option maxHeartbeats 4000000 in
theorem same_any (a b:SnV)(w:World)(ha:SOk (fun b=>b<w.heap.size) w a)(hb:SOk (fun b=>b<w.heap.size) w b):Calls Tryz.prog 36 #[.agg (encS a).toArray,.agg (encS b).toArray] w (Sy.Ret (.bool (decide (a.sn=b.sn))) w):=by
 obtain⟨⟨op,idx,wid,fin,rows,o,txs⟩,u,t⟩:=a
 obtain⟨⟨op',idx',wid',fin',rows',o',txs'⟩,u',t'⟩:=b
 refine Sy.calls_of Sy.lv36 Sy.tab_ok Tryz.func36 rfl _ Tryz.ntmps36 [⟨u,4,rows.length,rows.map encK⟩,⟨t,3,txs.length,txs.map encT⟩,⟨u',4,rows'.length,rows'.map encK⟩,⟨t',3,txs'.length,txs'.map encT⟩] [.agg [.v (.int .i64 op),.v (.int .i64 idx),.v (.int .i64 wid),.v (.bool fin),.row 0,.v (.int .i64 (o 0)),.v (.int .i64 (o 1)),.v (.int .i64 (o 2)),.v (.int .i64 (o 3)),.v (.int .i64 (o 4)),.v (.int .i64 (o 5)),.v (.int .i64 (o 6)),.v (.int .i64 (o 7)),.row 1],.agg [.v (.int .i64 op'),.v (.int .i64 idx'),.v (.int .i64 wid'),.v (.bool fin'),.row 2,.v (.int .i64 (o' 0)),.v (.int .i64 (o' 1)),.v (.int .i64 (o' 2)),.v (.int .i64 (o' 3)),.v (.int .i64 (o' 4)),.v (.int .i64 (o' 5)),.v (.int .i64 (o' 6)),.v (.int .i64 (o' 7)),.row 3]] rfl rfl rfl ⟨ha.rows,ha.txs,hb.rows,hb.txs,trivial⟩ ?_
 obtain⟨R,hR⟩:∃R,R=decide (Sn.mk op idx wid fin rows o txs=⟨op',idx',wid',fin',rows',o',txs'⟩):=⟨_,rfl⟩
 rw[show decide (SnV.sn ⟨⟨op,idx,wid,fin,rows,o,txs⟩,u,t⟩=SnV.sn ⟨⟨op',idx',wid',fin',rows',o',txs'⟩,u',t'⟩)=R from hR.symm]
 by_cases h1:op=op'/\idx=idx'/\wid=wid'
 ·obtain⟨e1,e2,e3⟩:=h1
  by_cases e4:fin=fin'
  ·have e4b:(fin==fin')=true:=beq_iff_eq.2 e4
   by_cases hz:o 0=o' 0/\o 1=o' 1/\o 2=o' 2/\o 3=o' 3/\o 4=o' 4/\o 5=o' 5/\o 6=o' 6/\o 7=o' 7
   ·obtain⟨z0,z1,z2,z3,z4,z5,z6,z7⟩:=hz
    have e6:o=o':=funext (fin8 z0 z1 z2 z3 z4 z5 z6 z7)
    refine V ?_
    refine Sy.call_val (.c (.v (.bool (decide (rows=rows'))))) Tryz.call91 rfl (fun e a w' h=>sameTbl_any (e.rv 0) (e.rv 2) rows rows' w' (Sy.row_reads h (.inr rfl)) (Sy.row_reads h (.inr rfl))) ?_
    by_cases e5:rows=rows'
    ·rw[decide_eq_true e5]
     refine V ?_
     refine Sy.call_val (.c (.v (.bool (decide (txs=txs'))))) Tryz.call37 rfl (fun e a w' h=>eqT_any (e.rv 1) (e.rv 3) txs txs' w' (Sy.row_reads h (.inr rfl)) (Sy.row_reads h (.inr rfl))) ?_
     have hR2:R=decide (txs=txs'):=by
      rw[hR,Bool.eq_iff_iff,decide_eq_true_iff,decide_eq_true_iff]
      exact⟨fun h=>(Sn.mk.inj h).2.2.2.2.2.2,fun h=>sn_ext e1 e2 e3 e4 e5 e6 h⟩
     rw[hR2]
     exact V0
     all_goals done
    ·rw[decide_eq_false e5,hR,decide_eq_false (fun h=>e5 (Sn.mk.inj h).2.2.2.2.1)]
     exact V0
     all_goals done
   ·rw[hR,decide_eq_false (fun h=>hz (by
     have e6:=(Sn.mk.inj h).2.2.2.2.2.1
     subst e6
     exact⟨rfl,rfl,rfl,rfl,rfl,rfl,rfl,rfl⟩))]
    exact V0
    all_goals first|(exfalso;omega)|done
  ·have e4b:(fin==fin')=false:=beq_eq_false_iff_ne.2 e4
   rw[hR,decide_eq_false (fun h=>e4 (Sn.mk.inj h).2.2.2.1)]
   exact V0
   all_goals done
 ·rw[hR,decide_eq_false (fun h=>h1 ⟨(Sn.mk.inj h).1,(Sn.mk.inj h).2.1,(Sn.mk.inj h).2.2.1⟩)]
  exact V0
  all_goals first|(exfalso;omega)|done
end Go.Proofs.YtgkkpefpbfadoaaGreat.Sn
