/- Snap: which tables and names may be. Written by a program of mine (gen_chain.py). -/
import Derived.Test.YtgkkpefpbfadoaaGreatDk9
import Derived.Test.YtgkkpefpbfadoaaGreatDk17
namespace Go.Proofs.YtgkkpefpbfadoaaGreat.Sn
open Go Go.RowKit
open Sy (C SV V1 Blk St XD Els)
set_option maxRecDepth 10000
theorem key_any (x:Kc)(w:World):Calls Tryz.prog 188 #[.agg #[.int .i64 x.src,.int .i64 x.key,.int .i64 x.cnt,.int .i64 x.sum]] w (Sy.Ret (.agg #[.int .i64 x.src,.int .i64 x.key,.int .i64 0]) w):=by
 refine Sy.calls_of Sy.lv188 Sy.tab_ok Tryz.func188 rfl _ Tryz.ntmps188 [] [.agg [.v (.int .i64 x.src),.v (.int .i64 x.key),.v (.int .i64 x.cnt),.v (.int .i64 x.sum)]] rfl rfl rfl trivial V0
 all_goals done
theorem rkey_any (x:Kc)(w:World):Calls Tryz.prog 121 #[.agg #[.int .i64 x.src,.int .i64 x.key,.int .i64 x.cnt,.int .i64 x.sum]] w (Sy.Ret (.agg #[.int .i64 x.src,.int .i64 x.key,.int .i64 0]) w):=by
 refine Sy.calls_of Sy.lv121 Sy.tab_ok Tryz.func121 rfl _ Tryz.ntmps121 [] [.agg [.v (.int .i64 x.src),.v (.int .i64 x.key),.v (.int .i64 x.cnt),.v (.int .i64 x.sum)]] rfl rfl rfl trivial V0
 all_goals done
theorem okK_rec {x:Kc}(h:okK x=true):recP x.src x.key/\1<=x.cnt:=of_decide_eq_true h
set_option maxHeartbeats 4000000 in
theorem tbl_any (v:Value)(l:List Kc)(w:World)(hr:XD.ok (fun b=>b<w.heap.size) w ⟨v,4,l.length,l.map encK⟩):
 Calls Tryz.prog 148 #[.agg #[v]] w (Sy.Ret (.int .i64 (if tblB l=true then 0 else 220)) w):=by
 have hl:=ok_len hr
 refine Sy.calls_of Sy.lv148 Sy.tab_ok Tryz.func148 rfl _ Tryz.ntmps148 [⟨v,4,l.length,l.map encK⟩] [.agg [.row 0]] rfl rfl rfl ⟨hr,trivial⟩ ?_
 obtain⟨R,hR⟩:∃R,R=chain okK ltK none l:=⟨_,rfl⟩
 rw[show tblB l=R from hR.symm]
 refine V ?_
 refine Sy.loop_inv Sy.tab_ok (fun n:Nat=>[(8,.c (.v (.int .i64 n)))]) (fun _=>[]) (fun n=>n<=l.length/\chain okK ltK (prev l n) (l.drop n)=R) (fun n=>l.length-n) 0 ⟨Nat.zero_le _,hR.symm⟩ ?_ (fun n hn=>?_)
 ·exact Vs0
 ·obtain⟨hn,hc⟩:=hn
  refine V (Vj (fun hh=>?_) fun hh=>?_)
  ·have hlt:n<l.length:=by omega
   have hg:=List.getElem?_eq_getElem hlt
   generalize l[n]=x at *
   have hbad:okK x=false->R=false:=fun hb=>by
    rw[<-hc]
    cases n with
    |zero=>exact(chain_zero hg).trans (by rw[hb];rfl)
    |succ m=>
     have hgm:=List.getElem?_eq_getElem (show m<l.length by omega)
     rw[chain_succ hgm hg,hb];rfl
   refine Sy.el_map x hg (V ?_)
   by_cases h1:recP x.src x.key
   ·by_cases h2:1<=x.cnt
    ·have hok:okK x=true:=decide_eq_true ⟨h1,h2⟩
     by_cases h0:n=0
     ·have hg0:decide ((n:Int)>0)=false:=decide_eq_false (by omega)
      have hc2:chain okK ltK (prev l (n+1)) (l.drop (n+1))=R:=by
       subst h0
       rw[<-hc]
       exact((chain_zero hg).trans (by rw[hok];rfl)).symm
      refine Sy.draw_go [] (by kernel_rfl) ?_
      intro e0
      conv=>whnf
      refine zt 0 rfl ?_
      conv=>whnf
      refine zd1 [1] (zx rfl ?_ zy)
      conv=>whnf
      refine Sy.call_val (.agg [.v (.int .i64 x.src),.v (.int .i64 x.key),.v (.int .i64 0)]) Tryz.call188 rfl (fun e a w' h=>key_any x w') ?_
      conv=>whnf
      refine Yk ?_
      refine zd1 [2] (zx rfl ?_ zy)
      conv=>whnf
      refine Sy.call_val (.c (.v (.int .i64 0))) Tryz.call187 rfl (fun e a w' h=>by have:=rec_any x.src x.key 0 w';rw[if_pos h1] at this;exact this) ?_
      conv=>whnf
      refine Yk ?_
      refine zt 3 rfl (V ?_)
      refine zt 4 rfl ?_
      conv=>whnf
      refine zt 5 rfl (V ?_)
      refine zt 6 rfl (V ?_)
      refine zt 7 rfl (V ?_)
      refine zt 8 rfl (V ?_)
      refine zt 9 rfl (V ?_)
      refine zt 10 rfl ?_
      conv=>whnf
      refine zt 11 rfl (V (Y1 fun hh=>?_))
      refine zt 12 rfl (V ?_)
      refine zt 13 rfl (V ?_)
      refine zt 14 rfl (V ?_)
      refine zt 15 rfl (V ?_)
      refine zt 16 rfl (V ?_)
      refine zt 17 rfl (V ?_)
      refine zt 18 rfl (V ?_)
      refine zt 19 rfl (V ?_)
      refine zt 21 rfl (V ?_)
      refine zd1 [20] (zx rfl ?_ zy)
      conv=>whnf
      (try(refine zA ?_;conv=>whnf))
      refine Yk ?_
      refine zd1 [22] (zx rfl ?_ zy)
      conv=>whnf
      (try(refine zA ?_;conv=>whnf))
      refine Yk ?_
      refine zd1 [23] (zx rfl ?_ zy)
      conv=>whnf
      (try(refine zA ?_;conv=>whnf))
      refine Yk ?_
      refine zt 24 rfl (V ?_)
      refine zt 25 rfl (V ?_)
      refine zt 26 rfl (V ?_)
      refine zw ?_
      skip
      all_goals(refine V ?_)
      all_goals(refine⟨n+1,⟨by omega,hc2⟩,by omega,?_⟩)
      all_goals(exact Vs0)
     ·obtain⟨m,rfl⟩:∃m,n=m+1:=⟨n-1,by omega⟩
      have hml:m<l.length:=by omega
      have hgm:=List.getElem?_eq_getElem hml
      generalize l[m]=y at *
      have hgm2:l[(((m+1:Nat):Int)-1).toNat]?=some y:=by rw[show(((m+1:Nat):Int)-1).toNat=m by omega];exact hgm
      rw[chain_succ hgm hg,hok] at hc
      by_cases hlt2:cmpK y.src y.key x.src x.key<0
      ·have hl2:ltK y x=true:=decide_eq_true hlt2
       rw[hl2] at hc
       refine Sy.draw_go [] (by kernel_rfl) ?_
       intro e0
       conv=>whnf
       refine zt 0 rfl ?_
       conv=>whnf
       refine zd1 [1] (zx rfl ?_ zy)
       conv=>whnf
       refine Sy.call_val (.agg [.v (.int .i64 x.src),.v (.int .i64 x.key),.v (.int .i64 0)]) Tryz.call188 rfl (fun e a w' h=>key_any x w') ?_
       conv=>whnf
       refine Yk ?_
       refine zd1 [2] (zx rfl ?_ zy)
       conv=>whnf
       refine Sy.call_val (.c (.v (.int .i64 0))) Tryz.call187 rfl (fun e a w' h=>by have:=rec_any x.src x.key 0 w';rw[if_pos h1] at this;exact this) ?_
       conv=>whnf
       refine Yk ?_
       refine zt 3 rfl (V ?_)
       refine zt 4 rfl ?_
       conv=>whnf
       refine zt 5 rfl (V ?_)
       refine zt 6 rfl (V ?_)
       refine zt 7 rfl (V ?_)
       refine zt 8 rfl (V ?_)
       refine zt 9 rfl (V ?_)
       refine zt 10 rfl ?_
       conv=>whnf
       refine zt 11 rfl (V (Y1 fun hh=>?_))
       refine zt 12 rfl (V ?_)
       refine zt 13 rfl (V ?_)
       refine zt 14 rfl (V (Y1 fun hh=>?_))
       refine zt 15 rfl (V ?_)
       refine zt 16 rfl (V ?_)
       refine zt 17 rfl (V ?_)
       refine zt 18 rfl (V ?_)
       refine zt 19 rfl (V ?_)
       refine Sy.el_map y hgm2 ?_
       conv=>whnf
       conv=>whnf
       refine zt 21 rfl (V ?_)
       refine zd1 [20] (zx rfl ?_ zy)
       conv=>whnf
       (try(refine zA ?_;conv=>whnf))
       refine Sy.call_val (.agg [.v (.int .i64 y.src),.v (.int .i64 y.key),.v (.int .i64 0)]) Tryz.call188 rfl (fun e a w' h=>key_any y w') ?_
       conv=>whnf
       refine Yk ?_
       refine zd1 [22] (zx rfl ?_ zy)
       conv=>whnf
       (try(refine zA ?_;conv=>whnf))
       refine Sy.call_val (.agg [.v (.int .i64 x.src),.v (.int .i64 x.key),.v (.int .i64 0)]) Tryz.call188 rfl (fun e a w' h=>key_any x w') ?_
       conv=>whnf
       refine Yk ?_
       refine zd1 [23] (zx rfl ?_ zy)
       conv=>whnf
       (try(refine zA ?_;conv=>whnf))
       refine Sy.call_val (.c (.v (.int .i64 (cmpK y.src y.key x.src x.key)))) Tryz.call189 rfl (fun e a w' h=>cmpK_any y.src y.key 0 x.src x.key 0 w') ?_
       conv=>whnf
       refine Yk ?_
       refine zt 24 rfl (V ?_)
       refine zt 25 rfl (V ?_)
       refine zt 26 rfl (V ?_)
       refine zw ?_
       skip
       all_goals(refine V (Y1 fun hh=>?_))
       all_goals(refine⟨m+1+1,⟨by omega,by rw[<-hc];rfl⟩,by omega,?_⟩)
       all_goals(exact Vs0)
      ·have hl2:ltK y x=false:=decide_eq_false hlt2
       rw[hl2] at hc
       have hRf:R=false:=by rw[<-hc];rfl
       rw[hRf]
       refine Sy.draw_go [] (by kernel_rfl) ?_
       intro e0
       conv=>whnf
       refine zt 0 rfl ?_
       conv=>whnf
       refine zd1 [1] (zx rfl ?_ zy)
       conv=>whnf
       refine Sy.call_val (.agg [.v (.int .i64 x.src),.v (.int .i64 x.key),.v (.int .i64 0)]) Tryz.call188 rfl (fun e a w' h=>key_any x w') ?_
       conv=>whnf
       refine Yk ?_
       refine zd1 [2] (zx rfl ?_ zy)
       conv=>whnf
       refine Sy.call_val (.c (.v (.int .i64 0))) Tryz.call187 rfl (fun e a w' h=>by have:=rec_any x.src x.key 0 w';rw[if_pos h1] at this;exact this) ?_
       conv=>whnf
       refine Yk ?_
       refine zt 3 rfl (V ?_)
       refine zt 4 rfl ?_
       conv=>whnf
       refine zt 5 rfl (V ?_)
       refine zt 6 rfl (V ?_)
       refine zt 7 rfl (V ?_)
       refine zt 8 rfl (V ?_)
       refine zt 9 rfl (V ?_)
       refine zt 10 rfl ?_
       conv=>whnf
       refine zt 11 rfl (V (Y1 fun hh=>?_))
       refine zt 12 rfl (V ?_)
       refine zt 13 rfl (V ?_)
       refine zt 14 rfl (V (Y1 fun hh=>?_))
       refine zt 15 rfl (V ?_)
       refine zt 16 rfl (V ?_)
       refine zt 17 rfl (V ?_)
       refine zt 18 rfl (V ?_)
       refine zt 19 rfl (V ?_)
       refine Sy.el_map y hgm2 ?_
       conv=>whnf
       conv=>whnf
       refine zt 21 rfl (V ?_)
       refine zd1 [20] (zx rfl ?_ zy)
       conv=>whnf
       (try(refine zA ?_;conv=>whnf))
       refine Sy.call_val (.agg [.v (.int .i64 y.src),.v (.int .i64 y.key),.v (.int .i64 0)]) Tryz.call188 rfl (fun e a w' h=>key_any y w') ?_
       conv=>whnf
       refine Yk ?_
       refine zd1 [22] (zx rfl ?_ zy)
       conv=>whnf
       (try(refine zA ?_;conv=>whnf))
       refine Sy.call_val (.agg [.v (.int .i64 x.src),.v (.int .i64 x.key),.v (.int .i64 0)]) Tryz.call188 rfl (fun e a w' h=>key_any x w') ?_
       conv=>whnf
       refine Yk ?_
       refine zd1 [23] (zx rfl ?_ zy)
       conv=>whnf
       (try(refine zA ?_;conv=>whnf))
       refine Sy.call_val (.c (.v (.int .i64 (cmpK y.src y.key x.src x.key)))) Tryz.call189 rfl (fun e a w' h=>cmpK_any y.src y.key 0 x.src x.key 0 w') ?_
       conv=>whnf
       refine Yk ?_
       refine zt 24 rfl (V ?_)
       refine zt 25 rfl (V ?_)
       refine zt 26 rfl (V ?_)
       refine zw ?_
       skip
       all_goals(exact V0)
       all_goals done
    ·have hRf:=hbad (decide_eq_false fun h=>h2 h.2)
     have hd:decide (x.cnt<1)=true:=decide_eq_true (by omega)
     rw[hRf]
     refine Sy.draw_go [] (by kernel_rfl) ?_
     intro e0
     conv=>whnf
     refine zt 0 rfl ?_
     conv=>whnf
     refine zd1 [1] (zx rfl ?_ zy)
     conv=>whnf
     refine Sy.call_val (.agg [.v (.int .i64 x.src),.v (.int .i64 x.key),.v (.int .i64 0)]) Tryz.call188 rfl (fun e a w' h=>key_any x w') ?_
     conv=>whnf
     refine Yk ?_
     refine zd1 [2] (zx rfl ?_ zy)
     conv=>whnf
     refine Sy.call_val (.c (.v (.int .i64 0))) Tryz.call187 rfl (fun e a w' h=>by have:=rec_any x.src x.key 0 w';rw[if_pos h1] at this;exact this) ?_
     conv=>whnf
     refine Yk ?_
     refine zt 3 rfl (V ?_)
     refine zt 4 rfl ?_
     conv=>whnf
     refine zt 5 rfl (V ?_)
     refine zt 6 rfl (V ?_)
     refine zt 7 rfl (V ?_)
     refine zt 8 rfl (V ?_)
     refine zt 9 rfl (V ?_)
     refine zt 10 rfl ?_
     conv=>whnf
     refine zt 11 rfl (V ?_)
     refine zt 12 rfl (V ?_)
     refine zt 13 rfl (V ?_)
     refine zt 14 rfl (V ?_)
     refine zt 15 rfl (V ?_)
     refine zt 16 rfl (V ?_)
     refine zt 17 rfl (V ?_)
     refine zt 18 rfl (V ?_)
     refine zt 19 rfl (V ?_)
     refine zt 21 rfl (V ?_)
     refine zd1 [20] (zx rfl ?_ zy)
     conv=>whnf
     (try(refine zA ?_;conv=>whnf))
     refine Yk ?_
     refine zd1 [22] (zx rfl ?_ zy)
     conv=>whnf
     (try(refine zA ?_;conv=>whnf))
     refine Yk ?_
     refine zd1 [23] (zx rfl ?_ zy)
     conv=>whnf
     (try(refine zA ?_;conv=>whnf))
     refine Yk ?_
     refine zt 24 rfl (V ?_)
     refine zt 25 rfl (V ?_)
     refine zt 26 rfl (V ?_)
     refine zw ?_
     skip
     all_goals(exact V0)
     all_goals done
   ·have hRf:=hbad (decide_eq_false fun h=>h1 h.1)
    rw[hRf]
    have hd:((150:Int)!=0)=true:=by decide
    refine Sy.draw_go [] (by kernel_rfl) ?_
    intro e0
    conv=>whnf
    refine zt 0 rfl ?_
    conv=>whnf
    refine zd1 [1] (zx rfl ?_ zy)
    conv=>whnf
    refine Sy.call_val (.agg [.v (.int .i64 x.src),.v (.int .i64 x.key),.v (.int .i64 0)]) Tryz.call188 rfl (fun e a w' h=>key_any x w') ?_
    conv=>whnf
    refine Yk ?_
    refine zd1 [2] (zx rfl ?_ zy)
    conv=>whnf
    refine Sy.call_val (.c (.v (.int .i64 150))) Tryz.call187 rfl (fun e a w' h=>by have:=rec_any x.src x.key 0 w';rw[if_neg h1] at this;exact this) ?_
    conv=>whnf
    refine Yk ?_
    refine zt 3 rfl (V ?_)
    refine zt 4 rfl ?_
    conv=>whnf
    refine zt 5 rfl (V ?_)
    refine zt 6 rfl (V ?_)
    refine zt 7 rfl (V ?_)
    refine zt 8 rfl (V ?_)
    refine zt 9 rfl (V ?_)
    refine zt 10 rfl ?_
    conv=>whnf
    refine zt 11 rfl (V ?_)
    refine zt 12 rfl (V ?_)
    refine zt 13 rfl (V ?_)
    refine zt 14 rfl (V ?_)
    refine zt 15 rfl (V ?_)
    refine zt 16 rfl (V ?_)
    refine zt 17 rfl (V ?_)
    refine zt 18 rfl (V ?_)
    refine zt 19 rfl (V ?_)
    refine zt 21 rfl (V ?_)
    refine zd1 [20] (zx rfl ?_ zy)
    conv=>whnf
    (try(refine zA ?_;conv=>whnf))
    refine Yk ?_
    refine zd1 [22] (zx rfl ?_ zy)
    conv=>whnf
    (try(refine zA ?_;conv=>whnf))
    refine Yk ?_
    refine zd1 [23] (zx rfl ?_ zy)
    conv=>whnf
    (try(refine zA ?_;conv=>whnf))
    refine Yk ?_
    refine zt 24 rfl (V ?_)
    refine zt 25 rfl (V ?_)
    refine zt 26 rfl (V ?_)
    refine zw ?_
    skip
    all_goals(exact V0)
    all_goals done
  ·have e:n=l.length:=by omega
   subst e
   have hRt:R=true:=by
    rw[<-hc,List.drop_length]
    cases prev l l.length<;>rfl
   rw[hRt]
   exact V0
   all_goals done
set_option maxHeartbeats 4000000 in
theorem rtbl_any (v:Value)(l:List Kc)(w:World)(hr:XD.ok (fun b=>b<w.heap.size) w ⟨v,4,l.length,l.map encK⟩):
 Calls Tryz.prog 72 #[.agg #[v]] w (Sy.Ret (.bool (tblB l)) w):=by
 have hl:=ok_len hr
 refine Sy.calls_of Sy.lv72 Sy.tab_ok Tryz.func72 rfl _ Tryz.ntmps72 [⟨v,4,l.length,l.map encK⟩] [.agg [.row 0]] rfl rfl rfl ⟨hr,trivial⟩ ?_
 obtain⟨R,hR⟩:∃R,R=chain okK ltK none l:=⟨_,rfl⟩
 rw[show tblB l=R from hR.symm]
 refine V ?_
 refine Sy.loop_inv Sy.tab_ok (fun n:Nat=>[(8,.c (.v (.int .i64 n)))]) (fun _=>[]) (fun n=>n<=l.length/\chain okK ltK (prev l n) (l.drop n)=R) (fun n=>l.length-n) 0 ⟨Nat.zero_le _,hR.symm⟩ ?_ (fun n hn=>?_)
 ·exact Vs0
 ·obtain⟨hn,hc⟩:=hn
  refine V (Vj (fun hh=>?_) fun hh=>?_)
  ·have hlt:n<l.length:=by omega
   have hg:=List.getElem?_eq_getElem hlt
   generalize l[n]=x at *
   have hbad:okK x=false->R=false:=fun hb=>by
    rw[<-hc]
    cases n with
    |zero=>exact(chain_zero hg).trans (by rw[hb];rfl)
    |succ m=>
     have hgm:=List.getElem?_eq_getElem (show m<l.length by omega)
     rw[chain_succ hgm hg,hb];rfl
   refine Sy.el_map x hg (V ?_)
   by_cases h1:recP x.src x.key
   ·by_cases h2:1<=x.cnt
    ·have hok:okK x=true:=decide_eq_true ⟨h1,h2⟩
     by_cases h0:n=0
     ·have hg0:decide ((n:Int)>0)=false:=decide_eq_false (by omega)
      have hc2:chain okK ltK (prev l (n+1)) (l.drop (n+1))=R:=by
       subst h0
       rw[<-hc]
       exact((chain_zero hg).trans (by rw[hok];rfl)).symm
      refine Sy.draw_go [] (by kernel_rfl) ?_
      intro e0
      conv=>whnf
      refine zt 0 rfl ?_
      conv=>whnf
      refine zd1 [1] (zx rfl ?_ zy)
      conv=>whnf
      refine Sy.call_val (.agg [.v (.int .i64 x.src),.v (.int .i64 x.key),.v (.int .i64 0)]) Tryz.call121 rfl (fun e a w' h=>rkey_any x w') ?_
      conv=>whnf
      refine Yk ?_
      refine zd1 [2] (zx rfl ?_ zy)
      conv=>whnf
      refine Sy.call_val (.c (.v (.bool true))) Tryz.call120 rfl (fun e a w' h=>by have:=rrec_any x.src x.key 0 w';rw[decide_eq_true h1] at this;exact this) ?_
      conv=>whnf
      refine Yk ?_
      refine zt 3 rfl (V ?_)
      refine zt 4 rfl ?_
      conv=>whnf
      refine zt 5 rfl (V ?_)
      refine zt 6 rfl (V ?_)
      refine zt 7 rfl (V ?_)
      refine zt 8 rfl (V ?_)
      refine zt 9 rfl (V ?_)
      refine zt 10 rfl ?_
      conv=>whnf
      refine zt 11 rfl (V (Y1 fun hh=>?_))
      refine zt 12 rfl (V ?_)
      refine zt 13 rfl (V ?_)
      refine zt 14 rfl (V ?_)
      refine zt 15 rfl (V ?_)
      refine zt 16 rfl (V ?_)
      refine zt 17 rfl (V ?_)
      refine zt 18 rfl (V ?_)
      refine zt 19 rfl (V ?_)
      refine zt 21 rfl (V ?_)
      refine zd1 [20] (zx rfl ?_ zy)
      conv=>whnf
      (try(refine zA ?_;conv=>whnf))
      refine Yk ?_
      refine zd1 [22] (zx rfl ?_ zy)
      conv=>whnf
      (try(refine zA ?_;conv=>whnf))
      refine Yk ?_
      refine zd1 [23] (zx rfl ?_ zy)
      conv=>whnf
      (try(refine zA ?_;conv=>whnf))
      refine Yk ?_
      refine zt 24 rfl (V ?_)
      refine zt 25 rfl (V ?_)
      refine zt 26 rfl (V ?_)
      refine zw ?_
      skip
      all_goals(refine V ?_)
      all_goals(refine⟨n+1,⟨by omega,hc2⟩,by omega,?_⟩)
      all_goals(exact Vs0)
     ·obtain⟨m,rfl⟩:∃m,n=m+1:=⟨n-1,by omega⟩
      have hml:m<l.length:=by omega
      have hgm:=List.getElem?_eq_getElem hml
      generalize l[m]=y at *
      have hgm2:l[(((m+1:Nat):Int)-1).toNat]?=some y:=by rw[show(((m+1:Nat):Int)-1).toNat=m by omega];exact hgm
      rw[chain_succ hgm hg,hok] at hc
      by_cases hlt2:cmpK y.src y.key x.src x.key<0
      ·have hl2:ltK y x=true:=decide_eq_true hlt2
       rw[hl2] at hc
       refine Sy.draw_go [] (by kernel_rfl) ?_
       intro e0
       conv=>whnf
       refine zt 0 rfl ?_
       conv=>whnf
       refine zd1 [1] (zx rfl ?_ zy)
       conv=>whnf
       refine Sy.call_val (.agg [.v (.int .i64 x.src),.v (.int .i64 x.key),.v (.int .i64 0)]) Tryz.call121 rfl (fun e a w' h=>rkey_any x w') ?_
       conv=>whnf
       refine Yk ?_
       refine zd1 [2] (zx rfl ?_ zy)
       conv=>whnf
       refine Sy.call_val (.c (.v (.bool true))) Tryz.call120 rfl (fun e a w' h=>by have:=rrec_any x.src x.key 0 w';rw[decide_eq_true h1] at this;exact this) ?_
       conv=>whnf
       refine Yk ?_
       refine zt 3 rfl (V ?_)
       refine zt 4 rfl ?_
       conv=>whnf
       refine zt 5 rfl (V ?_)
       refine zt 6 rfl (V ?_)
       refine zt 7 rfl (V ?_)
       refine zt 8 rfl (V ?_)
       refine zt 9 rfl (V ?_)
       refine zt 10 rfl ?_
       conv=>whnf
       refine zt 11 rfl (V (Y1 fun hh=>?_))
       refine zt 12 rfl (V ?_)
       refine zt 13 rfl (V ?_)
       refine zt 14 rfl (V (Y1 fun hh=>?_))
       refine zt 15 rfl (V ?_)
       refine zt 16 rfl (V ?_)
       refine zt 17 rfl (V ?_)
       refine zt 18 rfl (V ?_)
       refine zt 19 rfl (V ?_)
       refine Sy.el_map y hgm2 ?_
       conv=>whnf
       conv=>whnf
       refine zt 21 rfl (V ?_)
       refine zd1 [20] (zx rfl ?_ zy)
       conv=>whnf
       (try(refine zA ?_;conv=>whnf))
       refine Sy.call_val (.agg [.v (.int .i64 y.src),.v (.int .i64 y.key),.v (.int .i64 0)]) Tryz.call121 rfl (fun e a w' h=>rkey_any y w') ?_
       conv=>whnf
       refine Yk ?_
       refine zd1 [22] (zx rfl ?_ zy)
       conv=>whnf
       (try(refine zA ?_;conv=>whnf))
       refine Sy.call_val (.agg [.v (.int .i64 x.src),.v (.int .i64 x.key),.v (.int .i64 0)]) Tryz.call121 rfl (fun e a w' h=>rkey_any x w') ?_
       conv=>whnf
       refine Yk ?_
       refine zd1 [23] (zx rfl ?_ zy)
       conv=>whnf
       (try(refine zA ?_;conv=>whnf))
       refine Sy.call_val (.c (.v (.int .i64 (cmpK y.src y.key x.src x.key)))) Tryz.call122 rfl (fun e a w' h=>rcmpK_any y.src y.key 0 x.src x.key 0 w') ?_
       conv=>whnf
       refine Yk ?_
       refine zt 24 rfl (V ?_)
       refine zt 25 rfl (V ?_)
       refine zt 26 rfl (V ?_)
       refine zw ?_
       skip
       all_goals(refine V (Y1 fun hh=>?_))
       all_goals(refine⟨m+1+1,⟨by omega,by rw[<-hc];rfl⟩,by omega,?_⟩)
       all_goals(exact Vs0)
      ·have hl2:ltK y x=false:=decide_eq_false hlt2
       rw[hl2] at hc
       have hRf:R=false:=by rw[<-hc];rfl
       rw[hRf]
       refine Sy.draw_go [] (by kernel_rfl) ?_
       intro e0
       conv=>whnf
       refine zt 0 rfl ?_
       conv=>whnf
       refine zd1 [1] (zx rfl ?_ zy)
       conv=>whnf
       refine Sy.call_val (.agg [.v (.int .i64 x.src),.v (.int .i64 x.key),.v (.int .i64 0)]) Tryz.call121 rfl (fun e a w' h=>rkey_any x w') ?_
       conv=>whnf
       refine Yk ?_
       refine zd1 [2] (zx rfl ?_ zy)
       conv=>whnf
       refine Sy.call_val (.c (.v (.bool true))) Tryz.call120 rfl (fun e a w' h=>by have:=rrec_any x.src x.key 0 w';rw[decide_eq_true h1] at this;exact this) ?_
       conv=>whnf
       refine Yk ?_
       refine zt 3 rfl (V ?_)
       refine zt 4 rfl ?_
       conv=>whnf
       refine zt 5 rfl (V ?_)
       refine zt 6 rfl (V ?_)
       refine zt 7 rfl (V ?_)
       refine zt 8 rfl (V ?_)
       refine zt 9 rfl (V ?_)
       refine zt 10 rfl ?_
       conv=>whnf
       refine zt 11 rfl (V (Y1 fun hh=>?_))
       refine zt 12 rfl (V ?_)
       refine zt 13 rfl (V ?_)
       refine zt 14 rfl (V (Y1 fun hh=>?_))
       refine zt 15 rfl (V ?_)
       refine zt 16 rfl (V ?_)
       refine zt 17 rfl (V ?_)
       refine zt 18 rfl (V ?_)
       refine zt 19 rfl (V ?_)
       refine Sy.el_map y hgm2 ?_
       conv=>whnf
       conv=>whnf
       refine zt 21 rfl (V ?_)
       refine zd1 [20] (zx rfl ?_ zy)
       conv=>whnf
       (try(refine zA ?_;conv=>whnf))
       refine Sy.call_val (.agg [.v (.int .i64 y.src),.v (.int .i64 y.key),.v (.int .i64 0)]) Tryz.call121 rfl (fun e a w' h=>rkey_any y w') ?_
       conv=>whnf
       refine Yk ?_
       refine zd1 [22] (zx rfl ?_ zy)
       conv=>whnf
       (try(refine zA ?_;conv=>whnf))
       refine Sy.call_val (.agg [.v (.int .i64 x.src),.v (.int .i64 x.key),.v (.int .i64 0)]) Tryz.call121 rfl (fun e a w' h=>rkey_any x w') ?_
       conv=>whnf
       refine Yk ?_
       refine zd1 [23] (zx rfl ?_ zy)
       conv=>whnf
       (try(refine zA ?_;conv=>whnf))
       refine Sy.call_val (.c (.v (.int .i64 (cmpK y.src y.key x.src x.key)))) Tryz.call122 rfl (fun e a w' h=>rcmpK_any y.src y.key 0 x.src x.key 0 w') ?_
       conv=>whnf
       refine Yk ?_
       refine zt 24 rfl (V ?_)
       refine zt 25 rfl (V ?_)
       refine zt 26 rfl (V ?_)
       refine zw ?_
       skip
       all_goals(exact V0)
       all_goals done
    ·have hRf:=hbad (decide_eq_false fun h=>h2 h.2)
     have hd:decide (x.cnt<1)=true:=decide_eq_true (by omega)
     rw[hRf]
     refine Sy.draw_go [] (by kernel_rfl) ?_
     intro e0
     conv=>whnf
     refine zt 0 rfl ?_
     conv=>whnf
     refine zd1 [1] (zx rfl ?_ zy)
     conv=>whnf
     refine Sy.call_val (.agg [.v (.int .i64 x.src),.v (.int .i64 x.key),.v (.int .i64 0)]) Tryz.call121 rfl (fun e a w' h=>rkey_any x w') ?_
     conv=>whnf
     refine Yk ?_
     refine zd1 [2] (zx rfl ?_ zy)
     conv=>whnf
     refine Sy.call_val (.c (.v (.bool true))) Tryz.call120 rfl (fun e a w' h=>by have:=rrec_any x.src x.key 0 w';rw[decide_eq_true h1] at this;exact this) ?_
     conv=>whnf
     refine Yk ?_
     refine zt 3 rfl (V ?_)
     refine zt 4 rfl ?_
     conv=>whnf
     refine zt 5 rfl (V ?_)
     refine zt 6 rfl (V ?_)
     refine zt 7 rfl (V ?_)
     refine zt 8 rfl (V ?_)
     refine zt 9 rfl (V ?_)
     refine zt 10 rfl ?_
     conv=>whnf
     refine zt 11 rfl (V ?_)
     refine zt 12 rfl (V ?_)
     refine zt 13 rfl (V ?_)
     refine zt 14 rfl (V ?_)
     refine zt 15 rfl (V ?_)
     refine zt 16 rfl (V ?_)
     refine zt 17 rfl (V ?_)
     refine zt 18 rfl (V ?_)
     refine zt 19 rfl (V ?_)
     refine zt 21 rfl (V ?_)
     refine zd1 [20] (zx rfl ?_ zy)
     conv=>whnf
     (try(refine zA ?_;conv=>whnf))
     refine Yk ?_
     refine zd1 [22] (zx rfl ?_ zy)
     conv=>whnf
     (try(refine zA ?_;conv=>whnf))
     refine Yk ?_
     refine zd1 [23] (zx rfl ?_ zy)
     conv=>whnf
     (try(refine zA ?_;conv=>whnf))
     refine Yk ?_
     refine zt 24 rfl (V ?_)
     refine zt 25 rfl (V ?_)
     refine zt 26 rfl (V ?_)
     refine zw ?_
     skip
     all_goals(exact V0)
     all_goals done
   ·have hRf:=hbad (decide_eq_false fun h=>h1 h.1)
    rw[hRf]
    have hd:(!false)=true:=by decide
    refine Sy.draw_go [] (by kernel_rfl) ?_
    intro e0
    conv=>whnf
    refine zt 0 rfl ?_
    conv=>whnf
    refine zd1 [1] (zx rfl ?_ zy)
    conv=>whnf
    refine Sy.call_val (.agg [.v (.int .i64 x.src),.v (.int .i64 x.key),.v (.int .i64 0)]) Tryz.call121 rfl (fun e a w' h=>rkey_any x w') ?_
    conv=>whnf
    refine Yk ?_
    refine zd1 [2] (zx rfl ?_ zy)
    conv=>whnf
    refine Sy.call_val (.c (.v (.bool false))) Tryz.call120 rfl (fun e a w' h=>by have:=rrec_any x.src x.key 0 w';rw[decide_eq_false h1] at this;exact this) ?_
    conv=>whnf
    refine Yk ?_
    refine zt 3 rfl (V ?_)
    refine zt 4 rfl ?_
    conv=>whnf
    refine zt 5 rfl (V ?_)
    refine zt 6 rfl (V ?_)
    refine zt 7 rfl (V ?_)
    refine zt 8 rfl (V ?_)
    refine zt 9 rfl (V ?_)
    refine zt 10 rfl ?_
    conv=>whnf
    refine zt 11 rfl (V ?_)
    refine zt 12 rfl (V ?_)
    refine zt 13 rfl (V ?_)
    refine zt 14 rfl (V ?_)
    refine zt 15 rfl (V ?_)
    refine zt 16 rfl (V ?_)
    refine zt 17 rfl (V ?_)
    refine zt 18 rfl (V ?_)
    refine zt 19 rfl (V ?_)
    refine zt 21 rfl (V ?_)
    refine zd1 [20] (zx rfl ?_ zy)
    conv=>whnf
    (try(refine zA ?_;conv=>whnf))
    refine Yk ?_
    refine zd1 [22] (zx rfl ?_ zy)
    conv=>whnf
    (try(refine zA ?_;conv=>whnf))
    refine Yk ?_
    refine zd1 [23] (zx rfl ?_ zy)
    conv=>whnf
    (try(refine zA ?_;conv=>whnf))
    refine Yk ?_
    refine zt 24 rfl (V ?_)
    refine zt 25 rfl (V ?_)
    refine zt 26 rfl (V ?_)
    refine zw ?_
    skip
    all_goals(exact V0)
    all_goals done
  ·have e:n=l.length:=by omega
   subst e
   have hRt:R=true:=by
    rw[<-hc,List.drop_length]
    cases prev l l.length<;>rfl
   rw[hRt]
   exact V0
   all_goals done
set_option maxHeartbeats 4000000 in
theorem named_any (v:Value)(l:List Tx)(w:World)(hr:XD.ok (fun b=>b<w.heap.size) w ⟨v,3,l.length,l.map encT⟩):
 Calls Tryz.prog 149 #[v] w (Sy.Ret (.bool (namesB l)) w):=by
 have hl:=ok_len hr
 refine Sy.calls_of Sy.lv149 Sy.tab_ok Tryz.func149 rfl _ Tryz.ntmps149 [⟨v,3,l.length,l.map encT⟩] [.c (.row 0)] rfl rfl rfl ⟨hr,trivial⟩ ?_
 obtain⟨R,hR⟩:∃R,R=chain okT ltT none l:=⟨_,rfl⟩
 rw[show namesB l=(R&&decide (l.length<=24)) by rw[hR];rfl]
 refine V ?_
 refine Sy.loop_inv Sy.tab_ok (fun n:Nat=>[(7,.c (.v (.int .i64 n)))]) (fun _=>[]) (fun n=>n<=l.length/\chain okT ltT (prev l n) (l.drop n)=R) (fun n=>l.length-n) 0 ⟨Nat.zero_le _,hR.symm⟩ ?_ (fun n hn=>?_)
 ·exact Vs0
 ·obtain⟨hn,hc⟩:=hn
  refine V (Vj (fun hh=>?_) fun hh=>?_)
  ·have hlt:n<l.length:=by omega
   have hg:=List.getElem?_eq_getElem hlt
   generalize l[n]=x at *
   have hbad:okT x=false->R=false:=fun hb=>by
    rw[<-hc]
    cases n with
    |zero=>exact(chain_zero hg).trans (by rw[hb];rfl)
    |succ m=>
     have hgm:=List.getElem?_eq_getElem (show m<l.length by omega)
     rw[chain_succ hgm hg,hb];rfl
   refine Sy.el_map x hg (V ?_)
   by_cases h1:okN x
   ·skip
    have hok:okT x=true:=decide_eq_true h1
    by_cases h0:n=0
    ·have hg0:decide ((n:Int)>0)=false:=decide_eq_false (by omega)
     have hc2:chain okT ltT (prev l (n+1)) (l.drop (n+1))=R:=by
      subst h0
      rw[<-hc]
      exact((chain_zero hg).trans (by rw[hok];rfl)).symm
     refine Sy.draw_go [] (by kernel_rfl) ?_
     intro e0
     conv=>whnf
     refine zt 0 rfl ?_
     conv=>whnf
     refine zd1 [1] (zx rfl ?_ zy)
     conv=>whnf
     refine Sy.call_val (.c (.v (.int .i64 0))) Tryz.call104 rfl (fun e a w' h=>by have:=name_any x w';rw[if_pos h1] at this;exact this) ?_
     conv=>whnf
     refine Yk ?_
     refine zt 2 rfl (V ?_)
     refine zt 3 rfl ?_
     conv=>whnf
     refine zt 4 rfl (V ?_)
     refine zt 5 rfl (V ?_)
     refine zt 6 rfl (V ?_)
     refine zt 7 rfl (V ?_)
     refine zt 8 rfl (V ?_)
     refine zt 9 rfl (V ?_)
     refine zt 10 rfl (V ?_)
     refine zt 11 rfl (V ?_)
     refine zt 12 rfl (V ?_)
     refine zd1 [13] (zx rfl ?_ zy)
     conv=>whnf
     (try(refine zA ?_;conv=>whnf))
     refine Yk ?_
     refine zt 14 rfl (V ?_)
     refine zt 15 rfl (V ?_)
     refine zt 16 rfl (V ?_)
     refine zw ?_
     skip
     all_goals(refine V ?_)
     all_goals(refine⟨n+1,⟨by omega,hc2⟩,by omega,?_⟩)
     all_goals(exact Vs0)
    ·obtain⟨m,rfl⟩:∃m,n=m+1:=⟨n-1,by omega⟩
     have hml:m<l.length:=by omega
     have hgm:=List.getElem?_eq_getElem hml
     generalize l[m]=y at *
     have hgm2:l[(((m+1:Nat):Int)-1).toNat]?=some y:=by rw[show(((m+1:Nat):Int)-1).toNat=m by omega];exact hgm
     rw[chain_succ hgm hg,hok] at hc
     by_cases hlt2:lessT y x
     ·have hl2:ltT y x=true:=decide_eq_true hlt2
      rw[hl2] at hc
      have hct:=(cmpT_lt y x).2 hlt2
      refine Sy.draw_go [] (by kernel_rfl) ?_
      intro e0
      conv=>whnf
      refine zt 0 rfl ?_
      conv=>whnf
      refine zd1 [1] (zx rfl ?_ zy)
      conv=>whnf
      refine Sy.call_val (.c (.v (.int .i64 0))) Tryz.call104 rfl (fun e a w' h=>by have:=name_any x w';rw[if_pos h1] at this;exact this) ?_
      conv=>whnf
      refine Yk ?_
      refine zt 2 rfl (V ?_)
      refine zt 3 rfl ?_
      conv=>whnf
      refine zt 4 rfl (V ?_)
      refine zt 5 rfl (V ?_)
      refine zt 6 rfl (V ?_)
      refine zt 7 rfl (V (Y1 fun hh=>?_))
      refine zt 8 rfl (V ?_)
      refine zt 9 rfl (V ?_)
      refine zt 10 rfl (V ?_)
      refine zt 11 rfl (V ?_)
      refine Sy.el_map y hgm2 ?_
      conv=>whnf
      conv=>whnf
      refine zt 12 rfl (V ?_)
      refine zd1 [13] (zx rfl ?_ zy)
      conv=>whnf
      (try(refine zA ?_;conv=>whnf))
      refine Sy.call_val (.c (.v (.int .i64 (cmpT y x)))) Tryz.call102 rfl (fun e a w' h=>cmpT_any y x w') ?_
      conv=>whnf
      refine Yk ?_
      refine zt 14 rfl (V ?_)
      refine zt 15 rfl (V ?_)
      refine zt 16 rfl (V ?_)
      refine zw ?_
      skip
      all_goals(refine V (Y1 fun hh=>?_))
      all_goals(refine⟨m+1+1,⟨by omega,by rw[<-hc];rfl⟩,by omega,?_⟩)
      all_goals(exact Vs0)
     ·have hl2:ltT y x=false:=decide_eq_false hlt2
      rw[hl2] at hc
      have hRf:R=false:=by rw[<-hc];rfl
      rw[hRf,Bool.false_and]
      have hct:¬cmpT y x<0:=fun h=>hlt2 ((cmpT_lt y x).1 h)
      refine Sy.draw_go [] (by kernel_rfl) ?_
      intro e0
      conv=>whnf
      refine zt 0 rfl ?_
      conv=>whnf
      refine zd1 [1] (zx rfl ?_ zy)
      conv=>whnf
      refine Sy.call_val (.c (.v (.int .i64 0))) Tryz.call104 rfl (fun e a w' h=>by have:=name_any x w';rw[if_pos h1] at this;exact this) ?_
      conv=>whnf
      refine Yk ?_
      refine zt 2 rfl (V ?_)
      refine zt 3 rfl ?_
      conv=>whnf
      refine zt 4 rfl (V ?_)
      refine zt 5 rfl (V ?_)
      refine zt 6 rfl (V ?_)
      refine zt 7 rfl (V (Y1 fun hh=>?_))
      refine zt 8 rfl (V ?_)
      refine zt 9 rfl (V ?_)
      refine zt 10 rfl (V ?_)
      refine zt 11 rfl (V ?_)
      refine Sy.el_map y hgm2 ?_
      conv=>whnf
      conv=>whnf
      refine zt 12 rfl (V ?_)
      refine zd1 [13] (zx rfl ?_ zy)
      conv=>whnf
      (try(refine zA ?_;conv=>whnf))
      refine Sy.call_val (.c (.v (.int .i64 (cmpT y x)))) Tryz.call102 rfl (fun e a w' h=>cmpT_any y x w') ?_
      conv=>whnf
      refine Yk ?_
      refine zt 14 rfl (V ?_)
      refine zt 15 rfl (V ?_)
      refine zt 16 rfl (V ?_)
      refine zw ?_
      skip
      all_goals(exact V0)
      all_goals done
   ·have hRf:=hbad (decide_eq_false h1)
    rw[hRf,Bool.false_and]
    have hd:((2:Int)!=0)=true:=by decide
    refine Sy.draw_go [] (by kernel_rfl) ?_
    intro e0
    conv=>whnf
    refine zt 0 rfl ?_
    conv=>whnf
    refine zd1 [1] (zx rfl ?_ zy)
    conv=>whnf
    refine Sy.call_val (.c (.v (.int .i64 2))) Tryz.call104 rfl (fun e a w' h=>by have:=name_any x w';rw[if_neg h1] at this;exact this) ?_
    conv=>whnf
    refine Yk ?_
    refine zt 2 rfl (V ?_)
    refine zt 3 rfl ?_
    conv=>whnf
    refine zt 4 rfl (V ?_)
    refine zt 5 rfl (V ?_)
    refine zt 6 rfl (V ?_)
    refine zt 7 rfl (V ?_)
    refine zt 8 rfl (V ?_)
    refine zt 9 rfl (V ?_)
    refine zt 10 rfl (V ?_)
    refine zt 11 rfl (V ?_)
    refine zt 12 rfl (V ?_)
    refine zd1 [13] (zx rfl ?_ zy)
    conv=>whnf
    (try(refine zA ?_;conv=>whnf))
    refine Yk ?_
    refine zt 14 rfl (V ?_)
    refine zt 15 rfl (V ?_)
    refine zt 16 rfl (V ?_)
    refine zw ?_
    skip
    all_goals(exact V0)
    all_goals done
  ·have e:n=l.length:=by omega
   subst e
   have hRt:R=true:=by
    rw[<-hc,List.drop_length]
    cases prev l l.length<;>rfl
   rw[hRt,Bool.true_and]
   refine V ?_
   exact Sy.fin_val (fun e=>congrArg Value.bool (by rw[Bool.eq_iff_iff,decide_eq_true_iff,decide_eq_true_iff];omega))
set_option maxHeartbeats 4000000 in
theorem rises_any (v:Value)(l:List Tx)(w:World)(hr:XD.ok (fun b=>b<w.heap.size) w ⟨v,3,l.length,l.map encT⟩):
 Calls Tryz.prog 73 #[v] w (Sy.Ret (.bool (namesB l)) w):=by
 have hl:=ok_len hr
 refine Sy.calls_of Sy.lv73 Sy.tab_ok Tryz.func73 rfl _ Tryz.ntmps73 [⟨v,3,l.length,l.map encT⟩] [.c (.row 0)] rfl rfl rfl ⟨hr,trivial⟩ ?_
 obtain⟨R,hR⟩:∃R,R=chain okT ltT none l:=⟨_,rfl⟩
 rw[show namesB l=(R&&decide (l.length<=24)) by rw[hR];rfl]
 refine V ?_
 refine Sy.loop_inv Sy.tab_ok (fun n:Nat=>[(7,.c (.v (.int .i64 n)))]) (fun _=>[]) (fun n=>n<=l.length/\chain okT ltT (prev l n) (l.drop n)=R) (fun n=>l.length-n) 0 ⟨Nat.zero_le _,hR.symm⟩ ?_ (fun n hn=>?_)
 ·exact Vs0
 ·obtain⟨hn,hc⟩:=hn
  refine V (Vj (fun hh=>?_) fun hh=>?_)
  ·have hlt:n<l.length:=by omega
   have hg:=List.getElem?_eq_getElem hlt
   generalize l[n]=x at *
   have hbad:okT x=false->R=false:=fun hb=>by
    rw[<-hc]
    cases n with
    |zero=>exact(chain_zero hg).trans (by rw[hb];rfl)
    |succ m=>
     have hgm:=List.getElem?_eq_getElem (show m<l.length by omega)
     rw[chain_succ hgm hg,hb];rfl
   refine Sy.el_map x hg (V ?_)
   by_cases h1:okN x
   ·skip
    have hok:okT x=true:=decide_eq_true h1
    by_cases h0:n=0
    ·have hg0:decide ((n:Int)>0)=false:=decide_eq_false (by omega)
     have hc2:chain okT ltT (prev l (n+1)) (l.drop (n+1))=R:=by
      subst h0
      rw[<-hc]
      exact((chain_zero hg).trans (by rw[hok];rfl)).symm
     refine Sy.draw_go [] (by kernel_rfl) ?_
     intro e0
     conv=>whnf
     refine zt 0 rfl ?_
     conv=>whnf
     refine zd1 [1] (zx rfl ?_ zy)
     conv=>whnf
     refine Sy.call_val (.c (.v (.bool true))) Tryz.call123 rfl (fun e a w' h=>by have:=rname_any x w';rw[show okT x=true from decide_eq_true h1] at this;exact this) ?_
     conv=>whnf
     refine Yk ?_
     refine zt 2 rfl (V ?_)
     refine zt 3 rfl ?_
     conv=>whnf
     refine zt 4 rfl (V ?_)
     refine zt 5 rfl (V ?_)
     refine zt 6 rfl (V ?_)
     refine zt 7 rfl (V ?_)
     refine zt 8 rfl (V ?_)
     refine zt 9 rfl (V ?_)
     refine zt 10 rfl (V ?_)
     refine zt 11 rfl (V ?_)
     refine zt 12 rfl (V ?_)
     refine zd1 [13] (zx rfl ?_ zy)
     conv=>whnf
     (try(refine zA ?_;conv=>whnf))
     refine Yk ?_
     refine zt 14 rfl (V ?_)
     refine zt 15 rfl (V ?_)
     refine zt 16 rfl (V ?_)
     refine zw ?_
     skip
     all_goals(refine V ?_)
     all_goals(refine⟨n+1,⟨by omega,hc2⟩,by omega,?_⟩)
     all_goals(exact Vs0)
    ·obtain⟨m,rfl⟩:∃m,n=m+1:=⟨n-1,by omega⟩
     have hml:m<l.length:=by omega
     have hgm:=List.getElem?_eq_getElem hml
     generalize l[m]=y at *
     have hgm2:l[(((m+1:Nat):Int)-1).toNat]?=some y:=by rw[show(((m+1:Nat):Int)-1).toNat=m by omega];exact hgm
     rw[chain_succ hgm hg,hok] at hc
     by_cases hlt2:lessT y x
     ·have hl2:ltT y x=true:=decide_eq_true hlt2
      rw[hl2] at hc
      refine Sy.draw_go [] (by kernel_rfl) ?_
      intro e0
      conv=>whnf
      refine zt 0 rfl ?_
      conv=>whnf
      refine zd1 [1] (zx rfl ?_ zy)
      conv=>whnf
      refine Sy.call_val (.c (.v (.bool true))) Tryz.call123 rfl (fun e a w' h=>by have:=rname_any x w';rw[show okT x=true from decide_eq_true h1] at this;exact this) ?_
      conv=>whnf
      refine Yk ?_
      refine zt 2 rfl (V ?_)
      refine zt 3 rfl ?_
      conv=>whnf
      refine zt 4 rfl (V ?_)
      refine zt 5 rfl (V ?_)
      refine zt 6 rfl (V ?_)
      refine zt 7 rfl (V (Y1 fun hh=>?_))
      refine zt 8 rfl (V ?_)
      refine zt 9 rfl (V ?_)
      refine zt 10 rfl (V ?_)
      refine zt 11 rfl (V ?_)
      refine Sy.el_map y hgm2 ?_
      conv=>whnf
      conv=>whnf
      refine zt 12 rfl (V ?_)
      refine zd1 [13] (zx rfl ?_ zy)
      conv=>whnf
      (try(refine zA ?_;conv=>whnf))
      refine Sy.call_val (.c (.v (.bool true))) Tryz.call124 rfl (fun e a w' h=>by have:=less_any y x w';rw[hl2] at this;exact this) ?_
      conv=>whnf
      refine Yk ?_
      refine zt 14 rfl (V ?_)
      refine zt 15 rfl (V ?_)
      refine zt 16 rfl (V ?_)
      refine zw ?_
      skip
      all_goals(refine V ?_)
      all_goals(refine⟨m+1+1,⟨by omega,by rw[<-hc];rfl⟩,by omega,?_⟩)
      all_goals(exact Vs0)
     ·have hl2:ltT y x=false:=decide_eq_false hlt2
      rw[hl2] at hc
      have hRf:R=false:=by rw[<-hc];rfl
      rw[hRf,Bool.false_and]
      refine Sy.draw_go [] (by kernel_rfl) ?_
      intro e0
      conv=>whnf
      refine zt 0 rfl ?_
      conv=>whnf
      refine zd1 [1] (zx rfl ?_ zy)
      conv=>whnf
      refine Sy.call_val (.c (.v (.bool true))) Tryz.call123 rfl (fun e a w' h=>by have:=rname_any x w';rw[show okT x=true from decide_eq_true h1] at this;exact this) ?_
      conv=>whnf
      refine Yk ?_
      refine zt 2 rfl (V ?_)
      refine zt 3 rfl ?_
      conv=>whnf
      refine zt 4 rfl (V ?_)
      refine zt 5 rfl (V ?_)
      refine zt 6 rfl (V ?_)
      refine zt 7 rfl (V (Y1 fun hh=>?_))
      refine zt 8 rfl (V ?_)
      refine zt 9 rfl (V ?_)
      refine zt 10 rfl (V ?_)
      refine zt 11 rfl (V ?_)
      refine Sy.el_map y hgm2 ?_
      conv=>whnf
      conv=>whnf
      refine zt 12 rfl (V ?_)
      refine zd1 [13] (zx rfl ?_ zy)
      conv=>whnf
      (try(refine zA ?_;conv=>whnf))
      refine Sy.call_val (.c (.v (.bool false))) Tryz.call124 rfl (fun e a w' h=>by have:=less_any y x w';rw[hl2] at this;exact this) ?_
      conv=>whnf
      refine Yk ?_
      refine zt 14 rfl (V ?_)
      refine zt 15 rfl (V ?_)
      refine zt 16 rfl (V ?_)
      refine zw ?_
      skip
      all_goals(exact V0)
      all_goals done
   ·have hRf:=hbad (decide_eq_false h1)
    rw[hRf,Bool.false_and]
    have hd:(!false)=true:=by decide
    refine Sy.draw_go [] (by kernel_rfl) ?_
    intro e0
    conv=>whnf
    refine zt 0 rfl ?_
    conv=>whnf
    refine zd1 [1] (zx rfl ?_ zy)
    conv=>whnf
    refine Sy.call_val (.c (.v (.bool false))) Tryz.call123 rfl (fun e a w' h=>by have:=rname_any x w';rw[show okT x=false from decide_eq_false h1] at this;exact this) ?_
    conv=>whnf
    refine Yk ?_
    refine zt 2 rfl (V ?_)
    refine zt 3 rfl ?_
    conv=>whnf
    refine zt 4 rfl (V ?_)
    refine zt 5 rfl (V ?_)
    refine zt 6 rfl (V ?_)
    refine zt 7 rfl (V ?_)
    refine zt 8 rfl (V ?_)
    refine zt 9 rfl (V ?_)
    refine zt 10 rfl (V ?_)
    refine zt 11 rfl (V ?_)
    refine zt 12 rfl (V ?_)
    refine zd1 [13] (zx rfl ?_ zy)
    conv=>whnf
    (try(refine zA ?_;conv=>whnf))
    refine Yk ?_
    refine zt 14 rfl (V ?_)
    refine zt 15 rfl (V ?_)
    refine zt 16 rfl (V ?_)
    refine zw ?_
    skip
    all_goals(exact V0)
    all_goals done
  ·have e:n=l.length:=by omega
   subst e
   have hRt:R=true:=by
    rw[<-hc,List.drop_length]
    cases prev l l.length<;>rfl
   rw[hRt,Bool.true_and]
   refine V ?_
   exact Sy.fin_val (fun e=>congrArg Value.bool (by rw[Bool.eq_iff_iff,decide_eq_true_iff,decide_eq_true_iff];omega))
end Go.Proofs.YtgkkpefpbfadoaaGreat.Sn
