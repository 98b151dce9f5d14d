/- Frame: the document's names and numbers that rise; packets. Written by wip/tools/gen_dr.py. -/
import Derived.Test.YtgkkpefpbfadoaaGreatDk9
import Derived.Test.YtgkkpefpbfadoaaGreatDk43
import Derived.Test.YtgkkpefpbfadoaaGreatDk20
namespace Go.Proofs.YtgkkpefpbfadoaaGreat
open Go Go.RowKit
open Sy (C SV V1 Blk St XD Els)
set_option maxRecDepth 10000
def okI (n:Int):Bool:=decide (taskP n)
def ltI (a b:Int):Bool:=decide (a<b)
theorem rname17 (n:Sn.Tx)(w:World):Calls Tryz.prog 69 #[.agg (Sn.encT n).toArray] w (Sy.Ret (.bool (Sn.okT n)) w):=by
 refine Sy.calls_of Sy.lv69 Sy.tab_ok Tryz.func69 rfl _ Tryz.ntmps69 [] [.agg [.v (.int .i64 n.sink),.v (.int .i64 n.att),.v (.int .i64 n.ser)]] rfl rfl rfl trivial ?_
 unfold Sn.okT
 by_cases h:Sn.okN n
 ·rw[decide_eq_true h]
  unfold Sn.okN at h
  refine V (Y1 fun hh=>Y1 fun hh=>Y1 fun hh=>Y1 fun hh=>Y1 fun hh=>?_)
  all_goals exact Sy.fin_val (fun e=>congrArg Value.bool (by first|exact decide_eq_true (by omega)|exact decide_eq_false (by omega)))
 ·rw[decide_eq_false h]
  unfold Sn.okN at h
  ((repeat' first|refine Y ?_|refine Y2 ?_ ?_|refine Y1 fun hh=>?_|exact Y0.mk);(all_goals(try conv=>whnf)))
  all_goals exact Sy.fin_val (fun e=>congrArg Value.bool (by first|exact decide_eq_true (by omega)|exact decide_eq_false (by omega)))
theorem below17 (a b:Sn.Tx)(w:World):Calls Tryz.prog 70 #[.agg (Sn.encT a).toArray,.agg (Sn.encT b).toArray] w (Sy.Ret (.bool (Sn.ltT a b)) w):=by
 refine Sy.calls_of Sy.lv70 Sy.tab_ok Tryz.func70 rfl _ Tryz.ntmps70 [] [.agg [.v (.int .i64 a.sink),.v (.int .i64 a.att),.v (.int .i64 a.ser)],.agg [.v (.int .i64 b.sink),.v (.int .i64 b.att),.v (.int .i64 b.ser)]] rfl rfl rfl trivial ?_
 have e:Sn.ltT a b=decide (a.sink<b.sink\/a.sink=b.sink/\(a.att<b.att\/a.att=b.att/\a.ser<b.ser)):=by
  unfold Sn.ltT Sn.lessT
  exact decide_eq_decide.2 (by omega)
 rw[e]
 refine V (Vj (fun hh=>Vj (fun hh=>?_) fun hh=>?_) fun hh=>?_)
 all_goals exact Sy.fin_val (fun e=>congrArg Value.bool (by rw[Bool.eq_iff_iff,decide_eq_true_iff,decide_eq_true_iff];omega))
set_option maxHeartbeats 4000000 in
theorem rnames_any (v:Value)(l:List Sn.Tx)(w:World)(hr:XD.ok (fun b=>b<w.heap.size) w ⟨v,3,l.length,l.map Sn.encT⟩):
 Calls Tryz.prog 24 #[v] w (Sy.Ret (.bool (decide (1<=l.length/\l.length<=24)&&Sn.chain Sn.okT Sn.ltT none l)) w):=by
 have hl:=ok_len hr
 refine Sy.calls_of Sy.lv24 Sy.tab_ok Tryz.func24 rfl _ Tryz.ntmps24 [⟨v,3,l.length,l.map Sn.encT⟩] [.c (.row 0)] rfl rfl rfl ⟨hr,trivial⟩ ?_
 obtain⟨R,hR⟩:∃R,R=Sn.chain Sn.okT Sn.ltT none l:=⟨_,rfl⟩
 rw[<-hR]
 by_cases hlen:1<=l.length/\l.length<=24
 rotate_left
 ·rw[decide_eq_false hlen,Bool.false_and]
  exact V0
  all_goals(exfalso;omega)
 rw[decide_eq_true hlen,Bool.true_and]
 refine V (Y1 fun hh=>Y1 fun hh=>?_)
 refine Sy.loop_inv Sy.tab_ok (fun n:Nat=>[(3,.c (.v (.int .i64 n)))]) (fun _=>[]) (fun n=>n<=l.length/\Sn.chain Sn.okT Sn.ltT (Sn.prev l n) (l.drop n)=R) (fun n=>l.length-n) 0 ⟨Nat.zero_le _,hR.symm⟩ ?_ (fun n hn=>?_)
 ·exact Vs0
 ·obtain⟨hn,hc⟩:=hn
  by_cases hlt:n<l.length
  ·have hg:=List.getElem?_eq_getElem hlt
   generalize l[n]=x at *
   have hbad:Sn.okT x=false->R=false:=fun hb=>by
    rw[<-hc]
    cases n with
    |zero=>exact(Sn.chain_zero hg).trans (by rw[hb];rfl)
    |succ m=>
     have hgm:=List.getElem?_eq_getElem (show m<l.length by omega)
     rw[Sn.chain_succ hgm hg,hb];rfl
   refine V (Y1 fun hh=>?_)
   by_cases h1:Sn.okN x
   ·have hok:Sn.okT x=true:=decide_eq_true h1
    by_cases h0:n=0
    ·have hg0:decide ((n:Int)>0)=false:=decide_eq_false (by omega)
     have hc2:Sn.chain Sn.okT Sn.ltT (Sn.prev l (n+1)) (l.drop (n+1))=R:=by
      subst h0
      rw[<-hc]
      exact((Sn.chain_zero hg).trans (by rw[hok];rfl)).symm
     refine Sy.draw_go [] (by kernel_rfl) ?_
     intro e0
     conv=>whnf
     refine zt 0 rfl ?_
     conv=>whnf
     refine zt 1 rfl ?_
     conv=>whnf
     refine zt 2 rfl (V ?_)
     refine zt 3 rfl ?_
     conv=>whnf
     refine Sy.el_map x hg ?_
     conv=>whnf
     refine zd1 [4] (zx rfl ?_ zy)
     conv=>whnf
     refine Sy.call_val (.c (.v (.bool true))) Tryz.call69 rfl (fun e a w' h=>by have:=rname17 x w';rw[show Sn.okT x=true from decide_eq_true h1] at this;exact this) ?_
     conv=>whnf
     refine Yk ?_
     refine zt 5 rfl (V ?_)
     refine zt 6 rfl ?_
     conv=>whnf
     refine zt 7 rfl (V ?_)
     refine zt 8 rfl (V ?_)
     refine zt 9 rfl (V ?_)
     refine zt 10 rfl (V ?_)
     refine zt 11 rfl (V ?_)
     refine zt 12 rfl (V ?_)
     refine zt 13 rfl (V ?_)
     refine zt 14 rfl (V ?_)
     refine zt 15 rfl (V ?_)
     refine zt 16 rfl (V ?_)
     refine zt 17 rfl (V ?_)
     refine zt 18 rfl (V ?_)
     refine zd1 [19] (zx rfl ?_ zy)
     conv=>whnf
     (try(refine zA ?_;conv=>whnf))
     refine Yk ?_
     refine zt 20 rfl (V ?_)
     refine zt 21 rfl (V ?_)
     refine zt 22 rfl (V ?_)
     refine zw ?_
     skip
     all_goals(refine V ?_)
     all_goals(refine⟨n+1,⟨by omega,hc2⟩,by omega,?_⟩)
     all_goals(exact Vs0)
    ·obtain⟨m,rfl⟩:∃m,n=m+1:=⟨n-1,by omega⟩
     have hml:m<l.length:=by omega
     have hgm:=List.getElem?_eq_getElem hml
     generalize l[m]=y at *
     have hgm2:l[(((m+1:Nat):Int)-1).toNat]?=some y:=by rw[show(((m+1:Nat):Int)-1).toNat=m by omega];exact hgm
     rw[Sn.chain_succ hgm hg,hok] at hc
     by_cases hlt2:Sn.lessT y x
     ·have hl2:Sn.ltT y x=true:=decide_eq_true hlt2
      rw[hl2] at hc
      refine Sy.draw_go [] (by kernel_rfl) ?_
      intro e0
      conv=>whnf
      refine zt 0 rfl ?_
      conv=>whnf
      refine zt 1 rfl ?_
      conv=>whnf
      refine zt 2 rfl (V ?_)
      refine zt 3 rfl ?_
      conv=>whnf
      refine Sy.el_map x hg ?_
      conv=>whnf
      refine zd1 [4] (zx rfl ?_ zy)
      conv=>whnf
      refine Sy.call_val (.c (.v (.bool true))) Tryz.call69 rfl (fun e a w' h=>by have:=rname17 x w';rw[show Sn.okT x=true from decide_eq_true h1] at this;exact this) ?_
      conv=>whnf
      refine Yk ?_
      refine zt 5 rfl (V ?_)
      refine zt 6 rfl ?_
      conv=>whnf
      refine zt 7 rfl (V ?_)
      refine zt 8 rfl (V ?_)
      refine zt 9 rfl (V ?_)
      refine zt 10 rfl (V (Y1 fun hh=>?_))
      refine zt 11 rfl (V ?_)
      refine zt 12 rfl (V ?_)
      refine zt 13 rfl (V ?_)
      refine zt 14 rfl (V ?_)
      refine Sy.el_map y hgm2 ?_
      conv=>whnf
      conv=>whnf
      refine zt 15 rfl (V ?_)
      refine zt 16 rfl (V ?_)
      refine zt 17 rfl (V ?_)
      refine zt 18 rfl (V ?_)
      refine Sy.el_map x hg ?_
      conv=>whnf
      conv=>whnf
      refine zd1 [19] (zx rfl ?_ zy)
      conv=>whnf
      (try(refine zA ?_;conv=>whnf))
      refine Sy.call_val (.c (.v (.bool true))) Tryz.call70 rfl (fun e a w' h=>by have:=below17 y x w';rw[hl2] at this;exact this) ?_
      conv=>whnf
      refine Yk ?_
      refine zt 20 rfl (V ?_)
      refine zt 21 rfl (V ?_)
      refine zt 22 rfl (V ?_)
      refine zw ?_
      skip
      all_goals(refine V ?_)
      all_goals(refine⟨m+1+1,⟨by omega,by rw[<-hc];rfl⟩,by omega,?_⟩)
      all_goals(exact Vs0)
     ·have hl2:Sn.ltT y x=false:=decide_eq_false hlt2
      rw[hl2] at hc
      have hRf:R=false:=by rw[<-hc];rfl
      rw[hRf]
      refine Sy.draw_go [] (by kernel_rfl) ?_
      intro e0
      conv=>whnf
      refine zt 0 rfl ?_
      conv=>whnf
      refine zt 1 rfl ?_
      conv=>whnf
      refine zt 2 rfl (V ?_)
      refine zt 3 rfl ?_
      conv=>whnf
      refine Sy.el_map x hg ?_
      conv=>whnf
      refine zd1 [4] (zx rfl ?_ zy)
      conv=>whnf
      refine Sy.call_val (.c (.v (.bool true))) Tryz.call69 rfl (fun e a w' h=>by have:=rname17 x w';rw[show Sn.okT x=true from decide_eq_true h1] at this;exact this) ?_
      conv=>whnf
      refine Yk ?_
      refine zt 5 rfl (V ?_)
      refine zt 6 rfl ?_
      conv=>whnf
      refine zt 7 rfl (V ?_)
      refine zt 8 rfl (V ?_)
      refine zt 9 rfl (V ?_)
      refine zt 10 rfl (V (Y1 fun hh=>?_))
      refine zt 11 rfl (V ?_)
      refine zt 12 rfl (V ?_)
      refine zt 13 rfl (V ?_)
      refine zt 14 rfl (V ?_)
      refine Sy.el_map y hgm2 ?_
      conv=>whnf
      conv=>whnf
      refine zt 15 rfl (V ?_)
      refine zt 16 rfl (V ?_)
      refine zt 17 rfl (V ?_)
      refine zt 18 rfl (V ?_)
      refine Sy.el_map x hg ?_
      conv=>whnf
      conv=>whnf
      refine zd1 [19] (zx rfl ?_ zy)
      conv=>whnf
      (try(refine zA ?_;conv=>whnf))
      refine Sy.call_val (.c (.v (.bool false))) Tryz.call70 rfl (fun e a w' h=>by have:=below17 y x w';rw[hl2] at this;exact this) ?_
      conv=>whnf
      refine Yk ?_
      refine zt 20 rfl (V ?_)
      refine zt 21 rfl (V ?_)
      refine zt 22 rfl (V ?_)
      refine zw ?_
      skip
      all_goals(exact V0)
      all_goals done
   ·have hRf:=hbad (decide_eq_false h1)
    rw[hRf]
    have hd:(!false)=true:=by decide
    refine Sy.draw_go [] (by kernel_rfl) ?_
    intro e0
    conv=>whnf
    refine zt 0 rfl ?_
    conv=>whnf
    refine zt 1 rfl ?_
    conv=>whnf
    refine zt 2 rfl (V ?_)
    refine zt 3 rfl ?_
    conv=>whnf
    refine Sy.el_map x hg ?_
    conv=>whnf
    refine zd1 [4] (zx rfl ?_ zy)
    conv=>whnf
    refine Sy.call_val (.c (.v (.bool false))) Tryz.call69 rfl (fun e a w' h=>by have:=rname17 x w';rw[show Sn.okT x=false from decide_eq_false h1] at this;exact this) ?_
    conv=>whnf
    refine Yk ?_
    refine zt 5 rfl (V ?_)
    refine zt 6 rfl ?_
    conv=>whnf
    refine zt 7 rfl (V ?_)
    refine zt 8 rfl (V ?_)
    refine zt 9 rfl (V ?_)
    refine zt 10 rfl (V ?_)
    refine zt 11 rfl (V ?_)
    refine zt 12 rfl (V ?_)
    refine zt 13 rfl (V ?_)
    refine zt 14 rfl (V ?_)
    refine zt 15 rfl (V ?_)
    refine zt 16 rfl (V ?_)
    refine zt 17 rfl (V ?_)
    refine zt 18 rfl (V ?_)
    refine zd1 [19] (zx rfl ?_ zy)
    conv=>whnf
    (try(refine zA ?_;conv=>whnf))
    refine Yk ?_
    refine zt 20 rfl (V ?_)
    refine zt 21 rfl (V ?_)
    refine zt 22 rfl (V ?_)
    refine zw ?_
    skip
    all_goals(exact V0)
    all_goals done
  ·have e:n=l.length:=by omega
   subst e
   have hRt:R=true:=by
    rw[<-hc,List.drop_length]
    cases Sn.prev l l.length<;>rfl
   rw[hRt]
   exact V0
set_option maxHeartbeats 4000000 in
theorem rtasks_any (v:Value)(l:List Int)(w:World)(hr:XD.ok (fun b=>b<w.heap.size) w ⟨v,1,l.length,l.map encI⟩):
 Calls Tryz.prog 26 #[v] w (Sy.Ret (.bool (tasksB l)) w):=by
 have hl:=ok_len hr
 refine Sy.calls_of Sy.lv26 Sy.tab_ok Tryz.func26 rfl _ Tryz.ntmps26 [⟨v,1,l.length,l.map encI⟩] [.c (.row 0)] rfl rfl rfl ⟨hr,trivial⟩ ?_
 obtain⟨R,hR⟩:∃R,R=Sn.chain okI ltI none l:=⟨_,rfl⟩
 rw[show tasksB l=R by rw[hR];rfl]
 refine V ?_
 refine Sy.loop_inv Sy.tab_ok (fun n:Nat=>[(3,.c (.v (.int .i64 n)))]) (fun _=>[]) (fun n=>n<=l.length/\Sn.chain okI ltI (Sn.prev l n) (l.drop n)=R) (fun n=>l.length-n) 0 ⟨Nat.zero_le _,hR.symm⟩ ?_ (fun n hn=>?_)
 ·exact Vs0
 ·obtain⟨hn,hc⟩:=hn
  by_cases hlt:n<l.length
  ·have hg:=List.getElem?_eq_getElem hlt
   generalize l[n]=x at *
   have hbad:okI x=false->R=false:=fun hb=>by
    rw[<-hc]
    cases n with
    |zero=>exact(Sn.chain_zero hg).trans (by rw[hb];rfl)
    |succ m=>
     have hgm:=List.getElem?_eq_getElem (show m<l.length by omega)
     rw[Sn.chain_succ hgm hg,hb];rfl
   refine V (Y1 fun hh=>?_)
   by_cases h1:taskP x
   ·have hok:okI x=true:=decide_eq_true h1
    by_cases h0:n=0
    ·have hg0:decide ((n:Int)>0)=false:=decide_eq_false (by omega)
     have hc2:Sn.chain okI ltI (Sn.prev l (n+1)) (l.drop (n+1))=R:=by
      subst h0
      rw[<-hc]
      exact((Sn.chain_zero hg).trans (by rw[hok];rfl)).symm
     unfold taskP at h1
     refine Sy.draw_go [] (by kernel_rfl) ?_
     intro e0
     conv=>whnf
     refine zt 0 rfl ?_
     conv=>whnf
     refine zt 1 rfl ?_
     conv=>whnf
     refine zt 2 rfl (V ?_)
     refine zt 3 rfl ?_
     conv=>whnf
     refine Sy.el_map x hg ?_
     conv=>whnf
     refine zt 4 rfl (V ?_)
     refine zt 5 rfl ?_
     conv=>whnf
     refine zt 6 rfl (V (Y1 fun hh=>?_))
     refine zt 7 rfl (V ?_)
     refine zt 8 rfl (V ?_)
     refine zt 9 rfl (V ?_)
     refine Sy.el_map x hg ?_
     conv=>whnf
     conv=>whnf
     refine zt 10 rfl (V ?_)
     refine zt 11 rfl (V ?_)
     refine zt 12 rfl ?_
     conv=>whnf
     refine zt 13 rfl (V (Y1 fun hh=>?_))
     refine zt 14 rfl (V ?_)
     refine zt 15 rfl (V ?_)
     refine zt 16 rfl (V ?_)
     refine zt 17 rfl (V ?_)
     refine zt 18 rfl (V ?_)
     refine zt 19 rfl (V ?_)
     refine zt 20 rfl (V ?_)
     refine zt 21 rfl (V ?_)
     refine zt 22 rfl (V ?_)
     refine zt 23 rfl (V ?_)
     refine zt 24 rfl (V ?_)
     refine zt 25 rfl (V ?_)
     refine zt 26 rfl (V ?_)
     refine zt 27 rfl (V ?_)
     refine zw ?_
     skip
     all_goals(refine V ?_)
     all_goals(refine⟨n+1,⟨by omega,hc2⟩,by omega,?_⟩)
     all_goals(exact Vs0)
    ·obtain⟨m,rfl⟩:∃m,n=m+1:=⟨n-1,by omega⟩
     have hml:m<l.length:=by omega
     have hgm:=List.getElem?_eq_getElem hml
     generalize l[m]=y at *
     have hgm2:l[(((m+1:Nat):Int)-1).toNat]?=some y:=by rw[show(((m+1:Nat):Int)-1).toNat=m by omega];exact hgm
     rw[Sn.chain_succ hgm hg,hok] at hc
     by_cases hlt2:y<x
     ·have hl2:ltI y x=true:=decide_eq_true hlt2
      rw[hl2] at hc
      unfold taskP at h1
      refine Sy.draw_go [] (by kernel_rfl) ?_
      intro e0
      conv=>whnf
      refine zt 0 rfl ?_
      conv=>whnf
      refine zt 1 rfl ?_
      conv=>whnf
      refine zt 2 rfl (V ?_)
      refine zt 3 rfl ?_
      conv=>whnf
      refine Sy.el_map x hg ?_
      conv=>whnf
      refine zt 4 rfl (V ?_)
      refine zt 5 rfl ?_
      conv=>whnf
      refine zt 6 rfl (V (Y1 fun hh=>?_))
      refine zt 7 rfl (V ?_)
      refine zt 8 rfl (V ?_)
      refine zt 9 rfl (V ?_)
      refine Sy.el_map x hg ?_
      conv=>whnf
      conv=>whnf
      refine zt 10 rfl (V ?_)
      refine zt 11 rfl (V ?_)
      refine zt 12 rfl ?_
      conv=>whnf
      refine zt 13 rfl (V (Y1 fun hh=>?_))
      refine zt 14 rfl (V ?_)
      refine zt 15 rfl (V ?_)
      refine zt 16 rfl (V (Y1 fun hh=>?_))
      refine zt 17 rfl (V ?_)
      refine zt 18 rfl (V ?_)
      refine zt 19 rfl (V ?_)
      refine zt 20 rfl (V ?_)
      refine Sy.el_map y hgm2 ?_
      conv=>whnf
      conv=>whnf
      refine zt 21 rfl (V ?_)
      refine zt 22 rfl (V ?_)
      refine zt 23 rfl (V ?_)
      refine zt 24 rfl (V ?_)
      refine Sy.el_map x hg ?_
      conv=>whnf
      conv=>whnf
      refine zt 25 rfl (V ?_)
      refine zt 26 rfl (V ?_)
      refine zt 27 rfl (V ?_)
      refine zw ?_
      skip
      all_goals(refine V (Y1 fun hh=>?_))
      all_goals(refine⟨m+1+1,⟨by omega,by rw[<-hc];rfl⟩,by omega,?_⟩)
      all_goals(exact Vs0)
     ·have hl2:ltI y x=false:=decide_eq_false hlt2
      rw[hl2] at hc
      have hRf:R=false:=by rw[<-hc];rfl
      rw[hRf]
      unfold taskP at h1
      refine Sy.draw_go [] (by kernel_rfl) ?_
      intro e0
      conv=>whnf
      refine zt 0 rfl ?_
      conv=>whnf
      refine zt 1 rfl ?_
      conv=>whnf
      refine zt 2 rfl (V ?_)
      refine zt 3 rfl ?_
      conv=>whnf
      refine Sy.el_map x hg ?_
      conv=>whnf
      refine zt 4 rfl (V ?_)
      refine zt 5 rfl ?_
      conv=>whnf
      refine zt 6 rfl (V (Y1 fun hh=>?_))
      refine zt 7 rfl (V ?_)
      refine zt 8 rfl (V ?_)
      refine zt 9 rfl (V ?_)
      refine Sy.el_map x hg ?_
      conv=>whnf
      conv=>whnf
      refine zt 10 rfl (V ?_)
      refine zt 11 rfl (V ?_)
      refine zt 12 rfl ?_
      conv=>whnf
      refine zt 13 rfl (V (Y1 fun hh=>?_))
      refine zt 14 rfl (V ?_)
      refine zt 15 rfl (V ?_)
      refine zt 16 rfl (V (Y1 fun hh=>?_))
      refine zt 17 rfl (V ?_)
      refine zt 18 rfl (V ?_)
      refine zt 19 rfl (V ?_)
      refine zt 20 rfl (V ?_)
      refine Sy.el_map y hgm2 ?_
      conv=>whnf
      conv=>whnf
      refine zt 21 rfl (V ?_)
      refine zt 22 rfl (V ?_)
      refine zt 23 rfl (V ?_)
      refine zt 24 rfl (V ?_)
      refine Sy.el_map x hg ?_
      conv=>whnf
      conv=>whnf
      refine zt 25 rfl (V ?_)
      refine zt 26 rfl (V ?_)
      refine zt 27 rfl (V ?_)
      refine zw ?_
      skip
      all_goals(exact V0)
      all_goals done
   ·have hRf:=hbad (decide_eq_false h1)
    rw[hRf]
    have hd:(!false)=true:=by decide
    unfold taskP at h1
    by_cases hx:x<0
    ·skip
     refine Sy.draw_go [] (by kernel_rfl) ?_
     intro e0
     conv=>whnf
     refine zt 0 rfl ?_
     conv=>whnf
     refine zt 1 rfl ?_
     conv=>whnf
     refine zt 2 rfl (V ?_)
     refine zt 3 rfl ?_
     conv=>whnf
     refine Sy.el_map x hg ?_
     conv=>whnf
     refine zt 4 rfl (V ?_)
     refine zt 5 rfl ?_
     conv=>whnf
     refine zt 6 rfl (V ?_)
     refine zt 7 rfl (V ?_)
     refine zt 8 rfl (V ?_)
     refine zt 9 rfl (V ?_)
     refine zt 10 rfl (V ?_)
     refine zt 11 rfl (V ?_)
     refine zt 12 rfl ?_
     conv=>whnf
     refine zt 13 rfl (V ?_)
     refine zt 14 rfl (V ?_)
     refine zt 15 rfl (V ?_)
     refine zt 16 rfl (V ?_)
     refine zt 17 rfl (V ?_)
     refine zt 18 rfl (V ?_)
     refine zt 19 rfl (V ?_)
     refine zt 20 rfl (V ?_)
     refine zt 21 rfl (V ?_)
     refine zt 22 rfl (V ?_)
     refine zt 23 rfl (V ?_)
     refine zt 24 rfl (V ?_)
     refine zt 25 rfl (V ?_)
     refine zt 26 rfl (V ?_)
     refine zt 27 rfl (V ?_)
     refine zw ?_
     skip
     all_goals(exact V0)
     all_goals done
    ·skip
     refine Sy.draw_go [] (by kernel_rfl) ?_
     intro e0
     conv=>whnf
     refine zt 0 rfl ?_
     conv=>whnf
     refine zt 1 rfl ?_
     conv=>whnf
     refine zt 2 rfl (V ?_)
     refine zt 3 rfl ?_
     conv=>whnf
     refine Sy.el_map x hg ?_
     conv=>whnf
     refine zt 4 rfl (V ?_)
     refine zt 5 rfl ?_
     conv=>whnf
     refine zt 6 rfl (V ?_)
     refine zt 7 rfl (V ?_)
     refine zt 8 rfl (V ?_)
     refine zt 9 rfl (V ?_)
     refine Sy.el_map x hg ?_
     conv=>whnf
     conv=>whnf
     refine zt 10 rfl (V ?_)
     refine zt 11 rfl (V ?_)
     refine zt 12 rfl ?_
     conv=>whnf
     refine zt 13 rfl (V (Y1 fun hh=>?_))
     refine zt 14 rfl (V ?_)
     refine zt 15 rfl (V ?_)
     refine zt 16 rfl (V ?_)
     refine zt 17 rfl (V ?_)
     refine zt 18 rfl (V ?_)
     refine zt 19 rfl (V ?_)
     refine zt 20 rfl (V ?_)
     refine zt 21 rfl (V ?_)
     refine zt 22 rfl (V ?_)
     refine zt 23 rfl (V ?_)
     refine zt 24 rfl (V ?_)
     refine zt 25 rfl (V ?_)
     refine zt 26 rfl (V ?_)
     refine zt 27 rfl (V ?_)
     refine zw ?_
     skip
     all_goals(exact V0)
     all_goals done
  ·have e:n=l.length:=by omega
   subst e
   have hRt:R=true:=by
    rw[<-hc,List.drop_length]
    cases Sn.prev l l.length<;>rfl
   rw[hRt]
   exact V0
theorem rnumb_any (n:Int)(w:World):Calls Tryz.prog 23 #[.int .u64 n] w (Sy.Ret (.bool (decide (numP n))) w):=by
 refine Sy.calls_of Sy.lv23 Sy.tab_ok Tryz.func23 rfl _ Tryz.ntmps23 [] [.c (.v (.int .u64 n))] rfl rfl rfl trivial (V (Vj (fun hh=>?_) fun hh=>?_))
 all_goals all_goals exact Sy.fin_val fun e=>fbool
theorem rmgr_any (n:Int)(w:World):Calls Tryz.prog 28 #[.int .i64 n] w (Sy.Ret (.bool (decide (mgrP n))) w):=by
 refine Sy.calls_of Sy.lv28 Sy.tab_ok Tryz.func28 rfl _ Tryz.ntmps28 [] [.c (.v (.int .i64 n))] rfl rfl rfl trivial ?_
 by_cases h:mgrP n
 ·rw[decide_eq_true h]
  unfold mgrP at h
  refine V (Vj (fun hh=>Y0.mk) fun hh=>Vj (fun hh=>Y0.mk) fun hh=>?_)
  all_goals exact Sy.fin_val (fun e=>congrArg Value.bool (by first|(rw[beq_iff_eq];omega)|rfl))
 ·rw[decide_eq_false h]
  unfold mgrP at h
  refine V (Y1 fun hh=>Y1 fun hh=>?_)
  all_goals exact Sy.fin_val (fun e=>congrArg Value.bool (by rw[beq_eq_false_iff_ne];omega))
theorem rwkr_any (n:Int)(w:World):Calls Tryz.prog 29 #[.int .i64 n] w (Sy.Ret (.int .i64 (wOf n)) w):=by
 refine Sy.calls_of Sy.lv29 Sy.tab_ok Tryz.func29 rfl _ Tryz.ntmps29 [] [.c (.v (.int .i64 n))] rfl rfl rfl trivial ?_
 unfold wOf
 by_cases h:wrkP n
 ·rw[if_pos h]
  unfold wrkP at h
  exact V0
 ·rw[if_neg h]
  unfold wrkP at h
  exact V0
theorem rpkt_any (p:Pkt)(w:World):Calls Tryz.prog 27 #[.agg (encK p).toArray] w (Sy.Ret (.bool (decide (pktP p))) w):=by
 obtain⟨kind,ses,seq,lim,⟨ek,⟨rs,rk,rv⟩,en⟩⟩:=p
 refine Sy.calls_of Sy.lv27 Sy.tab_ok Tryz.func27 rfl _ Tryz.ntmps27 [] [.agg [.v (.int .i64 kind),.v (.int .u32 ses),.v (.int .u64 seq),.v (.int .u64 lim),.v (.int .i64 ek),.v (.int .i64 rs),.v (.int .i64 rk),.v (.int .i64 rv),.v (.int .u64 en)]] rfl rfl rfl trivial ?_
 have hP:∀b,(b=true↔(1<=ses/\ses<=2147483647)/\numP seq/\((kind=1/\lim=0/\elemP ⟨ek,⟨rs,rk,rv⟩,en⟩)\/(kind=2/\lim<=4611686018427387904/\el0 ⟨ek,⟨rs,rk,rv⟩,en⟩)))->Value.bool b=.bool (decide (pktP ⟨kind,ses,seq,lim,⟨ek,⟨rs,rk,rv⟩,en⟩⟩)):=fun b h=>fbool h
 by_cases h1:¬(1<=ses/\ses<=2147483647)
 ·rw[<-hP false ⟨fun h=>(by cases h),fun h=>absurd h.1 h1⟩]
  exact V0
  all_goals(exfalso;omega)
 have h1:=Decidable.not_not.1 h1
 refine V (Y1 fun hh=>Y1 fun hh=>?_)
 refine Sy.call_val (.c (.v (.bool (decide (numP seq))))) Tryz.call23 rfl (fun e a w' h=>rnumb_any seq w') ?_
 by_cases h2:¬numP seq
 ·rw[decide_eq_false h2,<-hP false ⟨fun h=>(by cases h),fun h=>absurd h.2.1 h2⟩]
  exact V0
 have h2:=Decidable.not_not.1 h2
 rw[decide_eq_true h2]
 by_cases h3:kind=1
 ·subst h3
  refine V (Vj (fun hh=>?_) fun hh=>?_)
  ·refine Sy.call_val (.c (.v (.bool (decide (elemP ⟨ek,⟨rs,rk,rv⟩,en⟩))))) Tryz.call76 rfl (fun e a w' h=>relem_any ⟨ek,⟨rs,rk,rv⟩,en⟩ w') (V ?_)
   all_goals exact Sy.fin_val fun e=>hP _ (by simp[*])
  all_goals exact Sy.fin_val fun e=>hP _ (by simp[*])
 ·refine V (Vj (fun hh=>Vj (fun hh=>?_) fun hh=>?_) fun hh=>?_)
  all_goals exact Sy.fin_val fun e=>hP _ (by simp[el0,rc0, *])
end Go.Proofs.YtgkkpefpbfadoaaGreat
