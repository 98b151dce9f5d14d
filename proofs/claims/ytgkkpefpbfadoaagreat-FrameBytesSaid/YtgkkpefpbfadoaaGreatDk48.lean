/- Snap: the document's bytes of a snapshot. -/
import Derived.Test.YtgkkpefpbfadoaaGreatDk9
import Derived.Test.YtgkkpefpbfadoaaGreatDk30
namespace Go.Proofs.YtgkkpefpbfadoaaGreat.Sn
open Go Go.RowKit
open Sy (C SV V1 Blk St XD Els)
set_option maxRecDepth 10000
attribute [local irreducible] beN
set_option maxHeartbeats 8000000 in
theorem rsbytes_any (s:SnV)(w:World)(hr:SOk (fun b=>b<w.heap.size) w s)(hrt0:rightP s.sn):
 Calls Tryz.prog 44 #[.agg (encS s).toArray] w (Sy.RetRows Sy.noRow (fun _:Unit=>True) (fun _=>[⟨5,1,(sBs s.sn).length,(sBs s.sn).map encB⟩]) (fun _ vs=>vs.headD undef) w):=by
 have hl1:=ok_len hr.rows
 have hl2:=ok_len hr.txs
 obtain⟨⟨op,idx,wid,fin,rows,o,txs⟩,u,t⟩:=s
 dsimp only at hl1 hl2
 refine Sy.calls_of Sy.lv44 Sy.tab_ok Tryz.func44 rfl _ Tryz.ntmps44 [⟨u,4,rows.length,rows.map encK⟩,⟨t,3,txs.length,txs.map encT⟩] [.agg [.v (.int .i64 op),.v (.int .i64 idx),.v (.int .i64 wid),.v (.bool fin),.row 0,.v (.int .i64 (o 0)),.v (.int .i64 (o 1)),.v (.int .i64 (o 2)),.v (.int .i64 (o 3)),.v (.int .i64 (o 4)),.v (.int .i64 (o 5)),.v (.int .i64 (o 6)),.v (.int .i64 (o 7)),.row 1]] rfl rfl rfl ⟨hr.rows,hr.txs,trivial⟩ ?_
 obtain⟨S,hS⟩:∃S:Sn,S=⟨op,idx,wid,fin,rows,o,txs⟩:=⟨_,rfl⟩
 rw[show SnV.sn ⟨⟨op,idx,wid,fin,rows,o,txs⟩,u,t⟩=S from hS.symm] at hrt0⊢
 have hrt':=hrt0
 rw[hS] at hrt'
 unfold rightP at hrt'
 obtain⟨hop,hsh,htb,hnm,_,hoff⟩:=hrt'
 dsimp only at hop hsh htb hnm hoff
 have hlr:=rows_len (tbl_rows htb)
 have hlt:=names_len hnm
 have hlen:=hBs_len S
 have hSr:S.rows=rows:=by rw[hS]
 have hSt:S.txs=txs:=by rw[hS]
 have hSo:S.offs=o:=by rw[hS]
 rw[hSr] at hlen
 have eH:∀b:Bool,fin=b->([[.int .u8 (IntKind.u8.wrap op)],[.int .u8 (IntKind.u8.wrap idx)],[.int .u8 (IntKind.u8.wrap wid)],[.int .u8 (if b=true then 1 else 0)]]:List (List Value))++List.map encB (tBs rows)=List.map encB (hBs S):=fun b hb=>by
  rw[hS,<-hb]
  simp[encB,b8,hBs]
 refine V ?_
 refine Sy.ar_wrap (V ?_)
 refine Sy.ar_wrap (V ?_)
 refine Sy.ar_wrap ?_
 cases fin
 case' true=>
  refine V ?_
  refine Sy.el_of _ rfl ?_
 all_goals
  have eH:=eH _ rfl
  refine V ?_
  refine Sy.call_r1 ⟨5,1,(tBs rows).length,(tBs rows).map encB⟩ (fun j=>.c (.row j)) Tryz.call92 (fun e a w' h=>rtbytes_any (e.rv 0) rows w' (Sy.row_reads h (.inr rfl)) htb) ?_
  have htl:(tBs rows).length=2+18*rows.length:=tN_len rows _ (Nat.le_refl _)
  refine V ?_
  refine Sy.need_app 1 rfl ⟨by omega,by omega⟩ (V ?_)
  refine Sy.loop_inv Sy.tab_ok (fun m:Nat=>[(29,.c (.v (.int .i64 m))),(3,.c (.row 5))]) (fun m=>[(5,.row 5 1 (hBs S++oN o m).length (.vs ((hBs S++oN o m).map encB)))]) (fun m=>m<=8) (fun m=>8-m) 0 (by decide) ?_ (fun m hm=>?_)
  ·refine Vs (Vk ?_ ?_)
   ·rw[List.length_append,hlen,oN_len,htl];omega
   ·exact eH.trans (by simp[oN])
  ·have hol:=oN_len o m
   have hos:=oN_succ o m
   have hPl:(hBs S++oN o m).length=6+18*rows.length+m:=by rw[List.length_append,hlen,oN_len]
   by_cases hlt:m<8
   ·obtain⟨g,hgx⟩:∃g:Fin 8,(m:Int)=(g.val:Int):=⟨⟨m,hlt⟩,rfl⟩
    have hgg:gI m=g:=Fin.ext (by have:=gI_val (x:=(m:Int)) (by omega);omega)
    rw[hgg] at hos
    refine V (Y1 fun hh=>?_)
    refine Sy.cell_of (.v (.int .i64 (o g))) (by first|exact off_cell o g m hgx|(show _[_*1]?=_;rw[Nat.mul_one];exact off_cell o g m hgx)) (V ?_)
    refine Sy.ar_wrap (V ?_)
    refine Sy.need_app 1 rfl ⟨by omega,by omega⟩ (V ?_)
    refine⟨m+1,by omega,by omega,?_⟩
    rw[hos,<-List.append_assoc]
    refine Vs (Vk ?_ ?_)
    all_goals(try simp[encB,b8])
    all_goals(try omega)
   ·have e:m=8:=by omega
    subst e
    refine V ?_
    refine Sy.ar_wrap (V ?_)
    refine Sy.need_app 1 rfl ⟨by omega,by omega⟩ (V ?_)
    refine Sy.loop_inv Sy.tab_ok (fun n:Nat=>[(48,.c (.v (.int .i64 n))),(3,.c (.row 7))]) (fun n=>[(7,.row 5 1 (sN S n).length (.vs ((sN S n).map encB)))]) (fun n=>n<=txs.length) (fun n=>txs.length-n) 0 (Nat.zero_le _) ?_ (fun n hn=>?_)
    ·have e0:sN S 0=hBs S++oN o 8++[b8 txs.length]:=by unfold sN;rw[hSo,hSt];simp
     rw[e0]
     refine Vs (Vk ?_ ?_)
     all_goals first|(simp[encB,b8];done)|(simp only[List.length_append,List.length_cons,List.length_nil];done)
    ·have hnl:=sN_len S n (by rw[hSt];exact hn)
     rw[hSr] at hnl
     by_cases hlt2:n<txs.length
     ·have hg:=List.getElem?_eq_getElem hlt2
      have hok:=chain_ok (show chain okT ltT none txs=true by unfold namesB at hnm;simp only[Bool.and_eq_true] at hnm;exact hnm.1) _ (List.getElem_mem hlt2)
      generalize txs[n]=x at *
      have hok:okN x:=of_decide_eq_true hok
      unfold okN at hok
      have hsx:=sN_succ (s:=S) (n:=n) (x:=x) (by rw[hSt];exact hg)
      have hb1:=beN_len x.att 4
      have hb2:=beN_len x.ser 4
      generalize sN S n=G at *
      refine V (Y1 fun hh=>?_)
      refine Sy.el_map x hg (V ?_)
      refine Sy.ar_wrap (V ?_)
      refine Sy.need_app 1 rfl ⟨by omega,by omega⟩ ?_
      have eB:List.map encB G++[[.int .u8 (IntKind.u8.wrap x.sink)]]=List.map encB (G++[b8 x.sink]):=by simp[encB,b8]
      have lB:G.length+1=(G++[b8 x.sink]).length:=by simp
      refine V ?_
      rw[eB,lB]
      have sB:G++nBs x=(G++[b8 x.sink])++beN x.att 4++beN x.ser 4:=by unfold nBs;simp
      rw[sB] at hsx
      have lb:(G++[b8 x.sink]).length<=9000:=by rw[<-lB];omega
      generalize G++[b8 x.sink]=B at *
      refine Sy.draw_go [10] (by kernel_rfl) ?_
      intro e0
      conv=>whnf
      refine zt 0 rfl ?_
      conv=>whnf
      refine zt 1 rfl ?_
      conv=>whnf
      refine zt 2 rfl ?_
      conv=>whnf
      refine zt 3 rfl (V ?_)
      refine Sy.ar_u64 (by omega) ?_
      conv=>whnf
      refine zt 6 rfl ?_
      conv=>whnf
      refine zt 7 rfl ?_
      conv=>whnf
      refine zt 8 rfl (V ?_)
      refine Sy.ar_u64 (by omega) ?_
      conv=>whnf
      refine zd1 [4] (zx rfl ?_ zy)
      conv=>whnf
      refine Sy.call_r1 ⟨5,1,(beN x.att 4).length,(beN x.att 4).map encB⟩ (fun j=>.c (.row j)) Tryz.call40 (fun e a w' h=>high_any 4 x.att w' (by omega) (by decide)) ?_
      conv=>whnf
      refine Yk ?_
      refine zd1 [5] (zx rfl ?_ zy)
      conv=>whnf
      refine Sy.need_app 1 rfl ⟨by omega,by omega⟩ ?_
      conv=>whnf
      refine Yk ?_
      refine zd1 [9] (zx rfl ?_ zy)
      conv=>whnf
      refine Sy.call_r1 ⟨5,1,(beN x.ser 4).length,(beN x.ser 4).map encB⟩ (fun j=>.c (.row j)) Tryz.call40 (fun e a w' h=>high_any 4 x.ser w' (by omega) (by decide)) ?_
      conv=>whnf
      refine Yk ?_
      refine zd1 [10] (zx rfl ?_ zy)
      conv=>whnf
      refine Sy.need_app 1 rfl ⟨by omega,by omega⟩ ?_
      conv=>whnf
      refine Yk ?_
      refine zt 11 rfl ?_
      conv=>whnf
      refine zw ?_
      skip
      all_goals(refine V ?_)
      all_goals(refine⟨n+1,by omega,by omega,?_⟩)
      all_goals(rw[hsx])
      all_goals(refine Vs (Vk ?_ ?_))
      all_goals first|(simp;done)|(simp;omega)
     ·have e:n=txs.length:=by omega
      subst e
      rw[show sN S txs.length=sBs S by unfold sBs;rw[hSt]]
      refine V (Y1 fun hh=>?_)
      exact Sy.fin_r1 (.row 7) rfl (fun e=>rfl)
end Go.Proofs.YtgkkpefpbfadoaaGreat.Sn
