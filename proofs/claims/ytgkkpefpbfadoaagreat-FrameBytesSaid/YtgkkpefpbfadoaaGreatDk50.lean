/- Frame: the law Reads, walked. -/
import Derived.Test.YtgkkpefpbfadoaaGreatDk9
import Derived.Test.YtgkkpefpbfadoaaGreatDk49
import Derived.Test.YtgkkpefpbfadoaaGreatRows
import Derived.Test.YtgkkpefpbfadoaaGreatChecked
import Derived.WalkKit
import Derived.ProofKit
import Derived.OpenShut
import Derived.Below
import Derived.ReadAgain
import Derived.ChangeSame
import Derived.Lib.SmallJoins
namespace Go.Proofs.YtgkkpefpbfadoaaGreat
open Go Go.RowKit
open Sy (C SV V1 Blk St XD Els)
set_option maxRecDepth 10000
theorem decM_lim {b:List Int}(h:Sn.bytesOk b):0<=(decM b).1.pkt.lim:=by
 have h8:Sn.bytesOk (opnV b):=by
  unfold opnV
  split
  ·exact fun c hc=>h c (List.mem_of_mem_take hc)
  ·exact fun c hc=>by cases hc
 have h0:0<=(readP ⟨opnV b,0⟩).pkt.lim:=by
  have h4:Sn.bytesOk (hdP ⟨opnV b,0⟩).l:=Ps.rd_b (Ps.rd_b (Ps.rd_b (Ps.rd_b (Ps.rd_b (Ps.rd_b h8 1) 1) 1) 1) 8) 4
  have h5:=(Ps.n_b (Ps.rd_b (Ps.rd_b (Ps.rd_b h4 1) 4) 8) 8).1
  unfold readP
  repeat' split
  all_goals first|exact h5|exact Int.le_refl 0
 unfold decM
 split
 ·exact h0
 ·exact Int.le_refl 0
theorem decM_err {b:List Int}(h:(decM b).2≠0):decM b=(msg0,371):=by
 unfold decM at *
 split
 ·rename_i hc
  rw[if_pos hc] at h
  exact absurd rfl h
 ·rfl
theorem rows_lt3 {n:Nat}{l:List C}{c:Int}(h:Sy.ltAll (n+1) l=true):Sy.allLt (n+1) [.c (.row 0),.agg l,.c (.v (.int .i64 c))]=true:=by
 show(match true with|true=>(match Sy.ltAll (n+1) l with|true=>true|false=>false)|false=>false)=true
 rw[h]
attribute [local irreducible] msgB decM okM layB
set_option maxHeartbeats 8000000 in
theorem lreads_any (m:MsgV)(v:Value)(b:List Int)(cut:Int)(hc:I64 cut)(w:World)(hr:MOk (fun b=>b<w.heap.size) w m)(hm:MW m.msg)(hs:I64 m.src)(hd:I64 m.dst)(hv:XD.ok (fun x=>x<w.heap.size) w ⟨v,1,b.length,b.map encB⟩)(b8:Sn.bytesOk b):
 Calls Tryz.prog 4 #[v,.agg (encM m).toArray,.int .i64 cut] w (Sy.Ret (.bool true) w):=by
 have hl0:=ok_len hv
 refine Sy.calls_of Sy.lv4 Sy.tab_ok Tryz.func4 rfl _ Tryz.ntmps4 [⟨v,1,b.length,b.map encB⟩] [.c (.row 0),.agg (cellsM C.v m fun i=>.v (m.v i)),.c (.v (.int .i64 cut))] rfl (rows_lt3 (Sy.ltAll_v (msg_one hr))) rfl ⟨hv,trivial⟩ (V ?_)
 refine Sy.call_val (.c (.v (.bool true))) Tryz.call7 rfl (fun e a w' h=>fwakes_any w') (V (Vj (fun hh=>Y0.mk) fun hh=>?_))
 refine Sy.call_ex (fun b:Bool=>b=false->m.il.length<=20) (fun b=>.c (.v (.bool b))) Tryz.call8 (fun _ _=>rfl) (fun e a w' h=>over_any m w' (MOk.later h hr)) (fun o ho=>?_)
 cases o with
 |true=>(exact V0)
 |false=>
  have hil:=ho rfl
  refine V ?_
  refine Sy.need_of (by show(0+b.length)*1<=_/\_;omega) (V ?_)
  rw[List.nil_append,show 0+b.length=b.length from Nat.zero_add _]
  refine Sy.call_memG (fun(x:Dv b) G w'=>MOk G w' x.m) (fun x=>.tup [.agg (cellsM C.v x.m fun i=>.v (x.m.v i)),.c (.v (.int .i64 (decM b).2))]) Tryz.call13 (fun x=>tup_lt2 (cells_lt x.one)) (fun _ _ _ _ h hk=>h.keep (fun _ h=>h) hk) (fun e a w' h=>fdec_any _ b w' (Sy.row_reads h (k:=3) (.inl ⟨_,rfl⟩)) b8 (by omega)) (fun x G=>?_)
  obtain⟨x1,x2,x3⟩:=x.hd b8
  have x4:0<=x.m.pkt.lim:=by have:=decM_lim b8;rw[<-x.h] at this;exact this
  by_cases hD:(decM b).2=0
  focus
   obtain⟨hok,hmb⟩:=dec_ok_msg b8 (show decM b=(x.m.msg,0) by rw[<-hD,x.h])
   rw[hD]
   refine V ?_
   refine Sy.call_val (.c (.v (.bool true))) Tryz.call10 rfl (fun e a w' h=>by
    have:=right27_any x.m w' ((h.ev w' fun _ _=>rfl).2.2.1.mono fun b hb=>h.fl b (.inr hb)) x1
    rw[decide_eq_true hok] at this
    exact this) (V ?_)
   refine Sy.call_r1 ⟨5,1,(msgB x.m.msg).length,(msgB x.m.msg).map encB⟩ (fun j=>.c (.row j)) Tryz.call12 (fun e a w' h=>rbytes_any x.m w' ((h.ev w' fun _ _=>rfl).2.2.1.mono fun b hb=>h.fl b (.inr hb)) hok x4) ?_
   rw[hmb]
   refine V ?_
   refine Sy.call_val (.c (.v (.bool true))) Tryz.call11 rfl (fun e a w' h=>by
    have:=sameB_any _ _ b b w' (by exact Sy.row_reads h (k:=0) (.inr rfl)) (by exact Sy.row_reads h (k:=5) (.inl ⟨_,rfl⟩))
    rw[decide_eq_true rfl] at this
    exact this) ?_
  rotate_left
  focus
   have hE:=decM_err hD
   have hx:x.m.msg=(hdV 0 0 0 0 0 0).msg:=by rw[x.h,hE];rfl
   rw[show(decM b).2=371 by rw[hE]]
   refine V ?_
   refine Sy.call_val (.c (.v (.bool true))) Tryz.call14 rfl (fun e a w' h=>by
    have:=fsame_any x.m (hdV 0 0 0 0 0 0) w' ((h.ev w' fun _ _=>rfl).2.2.1.mono fun b hb=>h.fl b (.inr hb)) mok_nil
    rw[decide_eq_true hx] at this
    exact this) ?_
  all_goals
   refine V ?_
   refine Sy.call_val (.c (.v (.bool (decide (okM m.msg))))) Tryz.call10 rfl (fun e a w' h=>right27_any m w' (MOk.later h hr) (by omega)) ?_
   by_cases hok:okM m.msg
   ·rw[decide_eq_true hok]
    have hl:=layB_len hok
    have hz:layB m.msg++beN (sumV (layB m.msg)) 4=msgB m.msg:=by unfold msgB;rfl
    have hDm:=dec_msgB hok hm
    have hlm:=msgB_len hok
    have hbm:=msgB_by m.msg
    refine V ?_
    refine Sy.call_mem (fun(x:One) G w'=>XD.ok G w' ⟨x.v,1,(layB m.msg).length,(layB m.msg).map encB⟩) (fun x=>.c (.v x.v)) Tryz.call15 (fun x=>x.h) (fun x G G' w1 w2 h hG hk=>XD.ok.keep h hG hk) (fun e a w' h=>(mem_r1 0 (Nat.zero_le _) (rlay_any m w' (MOk.later h hr) hok ⟨okM_num hok,hm.l⟩)).mono fun _ _⟨x,hE,hb,hx⟩=>⟨x,hE,hb,XD.ok.mono hx fun _ hb=>hb.1⟩) (fun z G2=>?_)
    obtain⟨z,z1⟩:=z
    refine V ?_
    refine Sy.call_r1 ⟨5,1,(msgB m.msg).length,(msgB m.msg).map encB⟩ (fun j=>.c (.row j)) Tryz.call16 (fun e a w' h=>by
     rw[<-hz]
     exact rseal_any _ (layB m.msg) w' (XD.ok.mono (h.ev w' fun _ _=>rfl).2 fun b hb=>h.fl b hb) (layB_by m.msg) (by omega)) (V ?_)
    refine Sy.call_memG (fun(x:Dv (msgB m.msg)) G w'=>MOk G w' x.m) (fun x=>.tup [.agg (cellsM C.v x.m fun i=>.v (x.m.v i)),.c (.v (.int .i64 (decM (msgB m.msg)).2))]) Tryz.call13 (fun x=>tup_lt2 (cells_lt x.one)) (fun _ _ _ _ h hk=>h.keep (fun _ h=>h) hk) (fun e a w' h=>fdec_any _ (msgB m.msg) w' (by first|exact Sy.row_reads h (k:=5) (.inl ⟨_,rfl⟩)|exact Sy.row_reads h (k:=6) (.inl ⟨_,rfl⟩)) hbm (by omega)) (fun y G2=>?_)
    rw[show(decM (msgB m.msg)).2=0 by rw[hDm]]
    have hy:y.m.msg=m.msg:=by rw[y.h,hDm]
    refine Vc ?_
    refine Sy.cut_sem ?_
    refine Sy.sem_subF (Sy.sub_openS 9 1 (layB m.msg).length ((layB m.msg).map encB) rfl (fun e a w' h=>(XD.ok.mono (h.ev w' fun _ _=>rfl).1.2 fun b hb=>.inl hb).1) (Sn.oneB _)) ?_
    conv=>whnf
    refine Sy.seq_go Sy.tab_ok ?_
    refine Sy.region_go Sy.tab_ok (V ?_)
    refine Sy.call_val (.c (.v (.bool true))) Tryz.call17 rfl (fun e a w' h=>by
     have:=rsame27_any y.m m w' ((h.ev w' fun _ _=>rfl).2.2.1.mono fun b hb=>h.fl b (.inr hb)) (MOk.later h hr)
     rw[decide_eq_true hy] at this
     exact this) (V ?_)
    have hx0:0<=Sy.maxI cut 0:=by unfold Sy.maxI;split<;>omega
    have hl1:16<=(layB m.msg).length:=by unfold layB;rw[List.length_append,hdB_len];omega
    obtain⟨k,hk,hkl⟩:∃k:Nat,Sy.maxI cut 0%((layB m.msg).length:Int)=k/\k<(layB m.msg).length:=by
     have e1:=Int.emod_nonneg (Sy.maxI cut 0) (b:=((layB m.msg).length:Int)) (by omega)
     have e2:=Int.emod_lt_of_pos (Sy.maxI cut 0) (b:=((layB m.msg).length:Int)) (by omega)
     exact⟨(Sy.maxI cut 0%((layB m.msg).length:Int)).toNat,by omega,by omega⟩
    refine Sy.rem_in hx0 (by omega) ?_
    rw[hk]
    refine V ?_
    refine Sy.sli_eq 0 k rfl rfl (by omega) ?_
    conv=>whnf
    have hyt:List.take (k-0) (List.drop 0 ((layB m.msg).map encB))=((layB m.msg).take k).map encB/\k-0=((layB m.msg).take k).length:=by
     rw[Nat.sub_zero,List.drop_zero,<-List.map_take,List.length_take]
     exact⟨rfl,by omega⟩
    have hZb:By ((layB m.msg).take k):=fun c hc=>layB_by m.msg c (List.mem_of_mem_take hc)
    have hZl:((layB m.msg).take k).length<=20000:=by rw[List.length_take];omega
    rw[hyt.1,hyt.2]
    obtain⟨Z,hZ⟩:∃Z,(layB m.msg).take k=Z:=⟨_,rfl⟩
    rw[hZ] at hyt hZb hZl⊢
    have hsb:By (Z++beN (sumV Z) 4):=hZb.app (By.be _ _)
    have hsl:=beN_len (sumV Z) 4
    have hcl:(Z++beN (sumV Z) 4).length<=30000:=by rw[List.length_append];omega
    refine Sy.call_r1 ⟨5,1,(Z++beN (sumV Z) 4).length,(Z++beN (sumV Z) 4).map encB⟩ (fun j=>.c (.row j)) Tryz.call16 (fun e a w' h=>rseal_any _ Z w' (by first|exact Sy.row_reads h (k:=8) (.inr rfl)|exact Sy.row_reads h (k:=9) (.inr rfl)) hZb (by omega)) ?_
    obtain⟨D,hDq⟩:∃D,Z++beN (sumV Z) 4=D:=⟨_,rfl⟩
    rw[hDq] at hsb hcl⊢
    refine V ?_
    refine Sy.call_memG (fun(x:Dv D) G w'=>MOk G w' x.m) (fun x=>.tup [.agg (cellsM C.v x.m fun i=>.v (x.m.v i)),.c (.v (.int .i64 (decM D).2))]) Tryz.call13 (fun x=>tup_lt2 (cells_lt x.one)) (fun _ _ _ _ h hk=>h.keep (fun _ h=>h) hk) (fun e a w' h=>fdec_any _ D w' (by first|exact Sy.row_reads h (k:=9) (.inl ⟨_,rfl⟩)|exact Sy.row_reads h (k:=10) (.inl ⟨_,rfl⟩)) hsb (by omega)) (fun u G3=>?_)
    obtain⟨u1,u2,u3⟩:=u.hd hsb
    have u4:0<=u.m.pkt.lim:=by have:=decM_lim hsb;rw[<-u.h] at this;exact this
    by_cases hU:(decM D).2=0
    ·obtain⟨uok,umb⟩:=dec_ok_msg hsb (show decM D=(u.m.msg,0) by rw[<-hU,u.h])
     have hLZ:layB u.m.msg=Z:=by
      unfold msgB at umb
      have umb:=umb.trans hDq.symm
      have:=congrArg List.length umb
      rw[List.length_append,List.length_append,beN_len,beN_len] at this
      exact(List.append_inj umb (by omega)).1
     rw[hU]
     refine V ?_
     refine Sy.draw_go [] (by kernel_rfl) ?_
     intro e0
     conv=>whnf
     refine zt 0 rfl ?_
     conv=>whnf
     refine zd1 [1] (zx rfl ?_ zy)
     conv=>whnf
     refine Sy.call_val (.c (.v (.bool true))) Tryz.call10 rfl (fun e a w' h=>by
      have:=right27_any u.m w' ((h.ev w' fun _ _=>rfl).2.2.1.mono fun b hb=>h.fl b (.inr hb)) u1
      rw[decide_eq_true uok] at this
      exact this) (V ?_)
     refine Yk ?_
     refine zt 2 rfl ?_
     conv=>whnf
     refine zt 3 rfl (V ?_)
     refine zt 5 rfl (V ?_)
     refine zt 6 rfl (V ?_)
     focus
      refine zd1 [4,7] (zx rfl ?_ (zx rfl ?_ zy))
      focus
       conv=>whnf
       (try(refine zA ?_;conv=>whnf))
       refine Sy.call_r1 ⟨5,1,(layB u.m.msg).length,(layB u.m.msg).map encB⟩ (fun j=>.c (.row j)) Tryz.call15 (fun e a w' h=>rlay_any u.m w' ((h.ev w' fun _ _=>rfl).2.2.1.mono fun b hb=>h.fl b (.inr hb)) uok ⟨okM_num uok,u4⟩) ?_
       rw[hLZ]
       refine V ?_
       refine Yk ?_
       refine zd1 [7] (zx rfl ?_ zy)
       conv=>whnf
       (try(refine zA ?_;conv=>whnf))
       refine Sy.sli_eq 0 k rfl rfl (by omega) ?_
       conv=>whnf
       rw[hyt.1,hyt.2]
       refine V ?_
       refine Yk ?_
       refine zd1 [8] (zx rfl ?_ zy)
       conv=>whnf
       (try(refine zA ?_;conv=>whnf))
       refine Sy.call_val (.c (.v (.bool true))) Tryz.call11 rfl (fun e a w' h=>by
        have:=sameB_any _ _ Z Z w' (by first|exact Sy.row_reads h (k:=11) (.inl ⟨_,rfl⟩)|exact Sy.row_reads h (k:=12) (.inl ⟨_,rfl⟩)|exact Sy.row_reads h (k:=13) (.inl ⟨_,rfl⟩)) (by first|exact Sy.row_reads h (k:=12) (.inr rfl)|exact Sy.row_reads h (k:=11) (.inr rfl)|exact Sy.row_reads h (k:=13) (.inr rfl))
        rw[decide_eq_true rfl] at this
        exact this) (V ?_)
       refine Yk ?_
       refine zt 9 rfl (V ?_)
       refine zt 10 rfl ?_
       conv=>whnf
       refine zw ?_
       skip
      rotate_right
      focus
       conv=>whnf
       (try(refine zA ?_;conv=>whnf))
       refine Sy.sli_eq 0 k rfl rfl (by omega) ?_
       conv=>whnf
       rw[hyt.1,hyt.2]
       refine V ?_
       refine Yk ?_
       refine zd1 [4] (zx rfl ?_ zy)
       conv=>whnf
       (try(refine zA ?_;conv=>whnf))
       refine Sy.call_r1 ⟨5,1,(layB u.m.msg).length,(layB u.m.msg).map encB⟩ (fun j=>.c (.row j)) Tryz.call15 (fun e a w' h=>rlay_any u.m w' ((h.ev w' fun _ _=>rfl).2.2.1.mono fun b hb=>h.fl b (.inr hb)) uok ⟨okM_num uok,u4⟩) ?_
       rw[hLZ]
       refine V ?_
       refine Yk ?_
       refine zd1 [8] (zx rfl ?_ zy)
       conv=>whnf
       (try(refine zA ?_;conv=>whnf))
       refine Sy.call_val (.c (.v (.bool true))) Tryz.call11 rfl (fun e a w' h=>by
        have:=sameB_any _ _ Z Z w' (by first|exact Sy.row_reads h (k:=11) (.inl ⟨_,rfl⟩)|exact Sy.row_reads h (k:=12) (.inl ⟨_,rfl⟩)|exact Sy.row_reads h (k:=13) (.inl ⟨_,rfl⟩)) (by first|exact Sy.row_reads h (k:=12) (.inr rfl)|exact Sy.row_reads h (k:=11) (.inr rfl)|exact Sy.row_reads h (k:=13) (.inr rfl))
        rw[decide_eq_true rfl] at this
        exact this) (V ?_)
       refine Yk ?_
       refine zt 9 rfl (V ?_)
       refine zt 10 rfl ?_
       conv=>whnf
       refine zw ?_
       skip
     all_goals(exact V0)
    ·rw[show(decM D).2=371 by rw[decM_err hU]]
     exact V0
   ·rw[decide_eq_false hok]
    exact V0
end Go.Proofs.YtgkkpefpbfadoaaGreat
namespace Go.Proofs.YtgkkpefpbfadoaaGreat
open Go Go.RowKit Go.WideShapes Go.ChangeShapes
theorem own:ownKnob Tryz.prog.godebug=none:=by kernel_rfl
theorem kids:Kids Tryz.prog (·<Tryz.prog.types.size):=kids_rows (by kernel_rfl) (by kernel_rfl)
theorem full:∀t e,t<Tryz.prog.types.size->Tryz.prog.underlying t=some (.slice e)->0<Tryz.prog.cellsOf e:=slices_full_of Tryz.prog (by kernel_rfl)
section
variable {H : Type} {enc : TypeId × Value → H} {P : Program}
theorem trodAll_later {base:Nat}{sp:Nat->Bool}{held:Bool}{W W':World}(hb:Below W.heap.size W W'):∀{ts:List TypeId}{vs:List Value}{ds:List (DataW H)}{ps:List MemPlace},DataW.TrodAll enc P W base sp held ts vs ds ps->DataW.TrodAll enc P W' base sp held ts vs ds ps
 |[],[],[],_,h=>h
 |_::_,_::_,_::_,_,⟨p,q,⟨n,h1⟩,h2,e⟩=>⟨p,q,⟨n,DataW.trod_carry n _ _ _ h1 fun x hx=>hb.same (DataW.trod_lt n _ _ _ h1 x hx)⟩,trodAll_later hb h2,e⟩
theorem law_post {f:Func}{s:ChangeSpec}{apart fresh:Bool}{W W':World}{args:Array Value}{ds gs:List (DataW H)}{before:List MemPlace}{t:TypeId}(hv:s.vars=[])(hp:∀t∈f.params.toList,t<Tryz.prog.types.size)
 (hrt:f.resultTypes=#[t])(hu:Tryz.prog.underlying t=some .bool)(hW:DataW.Whole enc Tryz.prog f.params.toList s.vars apart W args.toList ds gs before)(hb:Below W.heap.size W W')
 (hr:(s.fn H (ds++gs)).results=[.lit (.bool true)])(ha:(s.fn H (ds++gs)).args=ds)(hvs:(s.fn H (ds++gs)).vars=[]):s.post enc Tryz.prog f apart fresh false false W args (.bool true) W':=by
 have hW':=hW
 obtain⟨p,q,hA,hV,rfl,-,-⟩:=hW
 rw[hv] at hV
 obtain⟨rfl,rfl⟩:=trodVars_none hV
 have hlt:∀x∈p,x.block<W.heap.size:=fun x hx=>hA.lt x hx
 have hA2:=(trodAll_later hb hA).respare (spare':=fun b=>decide (b<W.heap.size)) kids full hp fun x hx=>by simpa using hlt x hx
 refine⟨ds,[],p++[],[],p,[],hW',?_,?_,?_,World.keptBut_mono (fun x hx=>⟨hx,.inr (.inl (by simpa using hx))⟩) (hb.frame (·∈p++[])),fun h=>by cases h⟩
 ·rw[hrt,hr]
  exact trodAll_mk1 (shut_bool hu true)
 ·rw[ha]
  exact hA2
 ·rw[hvs,hv]
  rfl
end
end Go.Proofs.YtgkkpefpbfadoaaGreat
