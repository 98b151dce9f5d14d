/- Snap: what bytes are, as plain Lean. -/
import Derived.Test.YtgkkpefpbfadoaaGreatDk30
import Derived.Test.YtgkkpefpbfadoaaGreatDk9
import Derived.Test.YtgkkpefpbfadoaaGreatDk29
namespace Go.Proofs.YtgkkpefpbfadoaaGreat.Sn
set_option maxRecDepth 10000
def kOf (x:List Int):Kc:=⟨num (x.take 1),num ((x.drop 1).take 1),IntKind.i64.wrap (num ((x.drop 2).take 8)),IntKind.i64.wrap (num ((x.drop 10).take 8))⟩
def nOf (x:List Int):Tx:=⟨num (x.take 1),num ((x.drop 1).take 4),num ((x.drop 5).take 4)⟩
def ksOf (b:List Int)(o n:Nat):List Kc:=(List.range n).map fun i=>kOf (b.drop (o+18*i))
def nsOf (b:List Int)(o n:Nat):List Tx:=(List.range n).map fun i=>nOf (b.drop (o+9*i))
theorem ksOf_succ (b:List Int)(o n:Nat):ksOf b o (n+1)=ksOf b o n++[kOf (b.drop (o+18*n))]:=by unfold ksOf;rw[List.range_succ,List.map_append];rfl
theorem nsOf_succ (b:List Int)(o n:Nat):nsOf b o (n+1)=nsOf b o n++[nOf (b.drop (o+9*n))]:=by unfold nsOf;rw[List.range_succ,List.map_append];rfl
theorem ksOf_len (b:List Int)(o n:Nat):(ksOf b o n).length=n:=by unfold ksOf;rw[List.length_map,List.length_range]
theorem nsOf_len (b:List Int)(o n:Nat):(nsOf b o n).length=n:=by unfold nsOf;rw[List.length_map,List.length_range]
def numAt (b:List Int)(o n:Nat):Int:=num ((b.drop o).take n)
theorem numAt_one {b:List Int}{i:Nat}{x:Int}(h:b[i]?=some x):numAt b i 1=x:=by
 obtain⟨hi,he⟩:=List.getElem?_eq_some_iff.1 h
 unfold numAt
 rw[List.drop_eq_getElem_cons hi,he]
 show 0*256+x=x
 omega
theorem numAt_two {b:List Int}{i:Nat}{x y:Int}(h:b[i]?=some x)(h2:b[i+1]?=some y):numAt b i 2=x*256+y:=by
 obtain⟨hi,he⟩:=List.getElem?_eq_some_iff.1 h
 obtain⟨hi2,he2⟩:=List.getElem?_eq_some_iff.1 h2
 unfold numAt
 rw[List.drop_eq_getElem_cons hi,he,List.drop_eq_getElem_cons hi2,he2]
 show(0*256+x)*256+y=_
 omega
theorem at_num {b:List Int}{i:Nat}(h:i<b.length):b[i]?=some (numAt b i 1):=by
 have:=List.getElem?_eq_getElem h
 rw[numAt_one this]
 exact this
theorem bytesOk.take {l:List Int}(h:bytesOk l)(n:Nat):bytesOk (l.take n):=fun x hx=>h x (List.mem_of_mem_take hx)
theorem bytesOk.drop {l:List Int}(h:bytesOk l)(n:Nat):bytesOk (l.drop n):=fun x hx=>h x (List.mem_of_mem_drop hx)
theorem numAt_bound {b:List Int}(h:bytesOk b)(o n:Nat):0<=numAt b o n/\numAt b o n<256^n:=by
 have:=num_bound ((h.drop o).take n)
 refine⟨this.1,Int.lt_of_lt_of_le this.2 ?_⟩
 have hl:((b.drop o).take n).length<=n:=List.length_take_le _ _
 have:((256^((b.drop o).take n).length:Nat):Int)<=((256^n:Nat):Int):=Int.ofNat_le.2 (Nat.pow_le_pow_right (by decide) hl)
 simpa using this
theorem b8_of {x:Int}(h:0<=x/\x<256):b8 x=x:=by rw[b8_eq];omega
theorem beN_num:∀{l:List Int},bytesOk l->beN (num l) l.length=l:=by
 intro l
 induction l using snoc_ind with
 |h0=>intro _;rfl
 |h l b ih=>
  intro h
  have hl:bytesOk l:=fun x hx=>h x (List.mem_append_left _ hx)
  have hb:=h b (List.mem_append_right _ (List.mem_singleton.2 rfl))
  have hn:=num_bound hl
  rw[num_snoc,List.length_append,List.length_singleton,beN_succ _ (by omega)]
  have e:(num l*256+b).fdiv 256=num l:=by rw[Int.fdiv_eq_ediv_of_nonneg _ (by decide)];omega
  rw[e,ih hl,b8_eq]
  congr 2
  omega
theorem beN_at {b:List Int}(h:bytesOk b){o n:Nat}(hl:o+n<=b.length):beN (numAt b o n) n=(b.drop o).take n:=by
 have:=beN_num ((h.drop o).take n)
 rw[List.length_take,List.length_drop,Nat.min_eq_left (by omega)] at this
 exact this
theorem u64_i64 {x:Int}(h:0<=x/\x<256^8):u64w (IntKind.i64.wrap x)=x:=by
 have h2:x<18446744073709551616:=h.2
 unfold u64w
 rw[IntKind.wrap_u64,IntKind.wrap_i64]
 omega
theorem take_part {l:List Int}(a n m:Nat)(h:a+n=m):l.take a++(l.drop a).take n=l.take m:=by rw[<-h,List.take_add]
theorem one_byte {b:List Int}(h:bytesOk b){o:Nat}(hl:o<b.length):[b8 (numAt b o 1)]=(b.drop o).take 1:=by
 have:=beN_at h (o:=o) (n:=1) (by omega)
 rw[<-this,beN,beN]
 simp[Int.fdiv_eq_ediv_of_nonneg]
theorem kBs_of {x:List Int}(h:bytesOk x)(hl:18<=x.length):kBs (kOf x)=x.take 18:=by
 have e0:=one_byte h (o:=0) (by omega)
 have e1:=one_byte h (o:=1) (by omega)
 have e2:=beN_at h (o:=2) (n:=8) (by omega)
 have e3:=beN_at h (o:=10) (n:=8) (by omega)
 unfold kBs kOf
 dsimp only
 rw[show u64w (IntKind.i64.wrap (num ((x.drop 2).take 8)))=num ((x.drop 2).take 8) from u64_i64 (numAt_bound h 2 8),show u64w (IntKind.i64.wrap (num ((x.drop 10).take 8)))=num ((x.drop 10).take 8) from u64_i64 (numAt_bound h 10 8)]
 rw[show[b8 (num (x.take 1)),b8 (num ((x.drop 1).take 1))]=[b8 (numAt x 0 1)]++[b8 (numAt x 1 1)] from rfl,e0,e1]
 rw[show beN (num ((x.drop 2).take 8)) 8=(x.drop 2).take 8 from e2,show beN (num ((x.drop 10).take 8)) 8=(x.drop 10).take 8 from e3]
 rw[List.drop_zero,take_part 1 1 2 rfl,take_part 2 8 10 rfl,take_part 10 8 18 rfl]
theorem nBs_of {x:List Int}(h:bytesOk x)(hl:9<=x.length):nBs (nOf x)=x.take 9:=by
 have e0:=one_byte h (o:=0) (by omega)
 have e1:=beN_at h (o:=1) (n:=4) (by omega)
 have e2:=beN_at h (o:=5) (n:=4) (by omega)
 unfold nBs nOf
 dsimp only
 rw[show[b8 (num (x.take 1))]=[b8 (numAt x 0 1)] from rfl,e0]
 rw[show beN (num ((x.drop 1).take 4)) 4=(x.drop 1).take 4 from e1,show beN (num ((x.drop 5).take 4)) 4=(x.drop 5).take 4 from e2]
 rw[List.drop_zero,take_part 1 4 5 rfl,take_part 5 4 9 rfl]
theorem ks_flat {b:List Int}(h:bytesOk b)(o:Nat):∀n,o+18*n<=b.length->((ksOf b o n).map kBs).flatten=(b.drop o).take (18*n)
 |0,_=>by simp[ksOf]
 |n+1,hn=>by
  rw[ksOf_succ,List.map_append,List.flatten_append,ks_flat h o n (by omega)]
  simp only[List.map_cons,List.map_nil,List.flatten_cons,List.flatten_nil,List.append_nil]
  rw[kBs_of (h.drop _) (by rw[List.length_drop];omega),<-List.drop_drop,take_part (18*n) 18 (18*(n+1)) (by omega)]
theorem ns_flat {b:List Int}(h:bytesOk b)(o:Nat):∀n,o+9*n<=b.length->((nsOf b o n).map nBs).flatten=(b.drop o).take (9*n)
 |0,_=>by simp[nsOf]
 |n+1,hn=>by
  rw[nsOf_succ,List.map_append,List.flatten_append,ns_flat h o n (by omega)]
  simp only[List.map_cons,List.map_nil,List.flatten_cons,List.flatten_nil,List.append_nil]
  rw[nBs_of (h.drop _) (by rw[List.length_drop];omega),<-List.drop_drop,take_part (9*n) 9 (9*(n+1)) (by omega)]
def cntAt (b:List Int)(o:Nat):Nat:=(numAt b o 2).toNat
theorem cntAt_eq {b:List Int}(h:bytesOk b)(o:Nat):(cntAt b o:Int)=numAt b o 2/\cntAt b o<65536:=by
 have:=numAt_bound h o 2
 unfold cntAt
 have h2:numAt b o 2<65536:=this.2
 omega
theorem tBs_of {b:List Int}(h:bytesOk b)(o:Nat)(hl:o+2+18*cntAt b o<=b.length):tBs (ksOf b (o+2) (cntAt b o))=(b.drop o).take (2+18*cntAt b o):=by
 have hc:=cntAt_eq h o
 unfold tBs tN
 rw[ksOf_len,take_all_of (ksOf_len _ _ _),ks_flat h _ _ hl,hc.1,beN_at h (by omega),<-List.drop_drop,take_part _ _ _ rfl]
 where take_all_of {l:List Kc} {n:Nat} (h:l.length=n):l.take n=l:=by rw[<-h,List.take_length]
def tdE (b:List Int):Int:=if b.length<2 then 7 else if b.length<2+18*cntAt b 0 then 7 else if tblB (ksOf b 2 (cntAt b 0))=true/\b.length=2+18*cntAt b 0 then 0 else 220
def tdV (b:List Int):List Kc:=if tdE b=0 then ksOf b 2 (cntAt b 0) else[]
def endS (b:List Int):Nat:=6+18*cntAt b 4
def ntx (b:List Int):Nat:=(numAt b (endS b+8) 1).toNat
def snOf (b:List Int):Sn:=⟨numAt b 0 1,numAt b 1 1,numAt b 2 1,numAt b 3 1==1,ksOf b 6 (cntAt b 4),fun g=>numAt b (endS b+g.val) 1,nsOf b (endS b+9) (ntx b)⟩
def sdE (b:List Int):Int:=if b.length<6 then 7 else if b.length<=endS b+8\/b.length<endS b+9+9*ntx b then 7 else if numAt b 3 1<=1/\b.length=endS b+9+9*ntx b/\rightP (snOf b) then 0 else 280
def sdV (b:List Int):Sn:=if sdE b=0 then snOf b else sn0
theorem off_flat {b:List Int}(h:bytesOk b)(e:Nat):∀n,n<=8->e+n<=b.length->oN (fun g=>numAt b (e+g.val) 1) n=(b.drop e).take n
 |0,_,_=>by simp[oN]
 |n+1,hn,hl=>by
  rw[oN_succ,off_flat h e n (by omega) (by omega)]
  have hg:(gI (n:Int)).val=n:=by have:=gI_val (x:=(n:Int)) (by omega);omega
  rw[hg,one_byte h (by omega),<-List.drop_drop,take_part _ _ _ rfl]
theorem sBs_of {b:List Int}(h:bytesOk b)(h6:6<=b.length)(hl:endS b+9+9*ntx b<=b.length):sBs (snOf b)=b.take 3++[if numAt b 3 1=1 then 1 else 0]++(b.drop 4).take (endS b+5+9*ntx b):=by
 have hc:=cntAt_eq h 4
 have hn1:=numAt_bound h (endS b+8) 1
 have hn:(ntx b:Int)=numAt b (endS b+8) 1:=by unfold ntx;omega
 have hend:endS b=6+18*cntAt b 4:=rfl
 have e0:=one_byte h (o:=0) (by omega)
 have e1:=one_byte h (o:=1) (by omega)
 have e2:=one_byte h (o:=2) (by omega)
 have et:=tBs_of h 4 (by omega)
 have eo:=off_flat h (endS b) 8 (by decide) (by omega)
 have en:=ns_flat h (endS b+9) (ntx b) (by omega)
 have eb:=one_byte h (o:=endS b+8) (by omega)
 have htl:(snOf b).txs.length=ntx b:=nsOf_len _ _ _
 unfold sBs sN
 rw[List.take_length,htl,hn]
 show hBs (snOf b)++oN (fun g=>numAt b (endS b+g.val) 1) 8++[b8 (numAt b (endS b+8) 1)]++((nsOf b (endS b+9) (ntx b)).map nBs).flatten=_
 rw[eo,en,eb]
 unfold hBs
 show[b8 (numAt b 0 1)]++([b8 (numAt b 1 1)]++([b8 (numAt b 2 1)]++[if(numAt b 3 1==1)=true then 1 else 0]))++tBs (ksOf b (4+2) (cntAt b 4))++_++_++_=_
 rw[e0,e1,e2,et]
 have h3:b.take 3=(b.drop 0).take 1++((b.drop 1).take 1++(b.drop 2).take 1):=by
  rw[<-List.append_assoc,List.drop_zero,take_part 1 1 2 rfl,take_part 2 1 3 rfl]
 have hr:(b.drop 4).take (endS b+5+9*ntx b)=(b.drop 4).take (2+18*cntAt b 4)++(b.drop (endS b)).take 8++(b.drop (endS b+8)).take 1++(b.drop (endS b+9)).take (9*ntx b):=by
  rw[show b.drop (endS b)=(b.drop 4).drop (2+18*cntAt b 4) by rw[List.drop_drop];congr 1;omega,take_part _ _ _ rfl,show b.drop (endS b+8)=(b.drop 4).drop (2+18*cntAt b 4+8) by rw[List.drop_drop];congr 1;omega,take_part _ _ _ rfl,show b.drop (endS b+9)=(b.drop 4).drop (2+18*cntAt b 4+8+1) by rw[List.drop_drop];congr 1;omega,take_part (2+18*cntAt b 4+8+1) (9*ntx b) (endS b+5+9*ntx b) (by omega)]
 rw[h3,hr]
 simp only[List.append_assoc,beq_iff_eq]
theorem sBs_iff {b:List Int}(h:bytesOk b)(h6:6<=b.length)(hl:endS b+9+9*ntx b<=b.length):sBs (snOf b)=b↔numAt b 3 1<=1/\b.length=endS b+9+9*ntx b:=by
 have hend:endS b=6+18*cntAt b 4:=rfl
 rw[sBs_of h h6 hl]
 have h3:=numAt_bound h 3 1
 have e3:=one_byte h (o:=3) (by omega)
 rw[b8_of ⟨h3.1,h3.2⟩] at e3
 have hsp:b=b.take 3++(b.drop 3).take 1++b.drop 4:=by
  rw[take_part 3 1 4 rfl,List.take_append_drop]
 constructor
 ·intro he
  have hlen:=congrArg List.length he
  simp only[List.length_append,List.length_take,List.length_drop,List.length_cons,List.length_nil] at hlen
  have h4:=congrArg (fun l=>l[3]?) he
  rw[List.append_assoc,List.getElem?_append_right (by rw[List.length_take];omega),List.length_take,show 3-min 3 b.length=0 by omega] at h4
  have h4:b[3]?=some (if numAt b 3 1=1 then 1 else 0):=h4.symm.trans rfl
  have h5:=numAt_one h4
  refine⟨?_,by omega⟩
  split at h5<;>omega
 ·rintro⟨h1,h2⟩
  have e:(if numAt b 3 1=1 then(1:Int) else 0)=numAt b 3 1:=by
   have:=h3.1
   split<;>omega
  rw[e,e3,List.take_of_length_le (l:=b.drop 4) (by rw[List.length_drop];omega)]
  exact hsp.symm
theorem td_slice {b:List Int}{o n:Nat}(hn:n=cntAt b o)(hl:o+2+18*n<=b.length):tdE ((b.drop o).take (2+18*n))=(if tblB (ksOf b (o+2) n)=true then 0 else 220)/\tdV ((b.drop o).take (2+18*n))=(if tblB (ksOf b (o+2) n)=true then ksOf b (o+2) n else[]):=by
 have hlen:((b.drop o).take (2+18*n)).length=2+18*n:=by rw[List.length_take,List.length_drop];omega
 have hc:cntAt ((b.drop o).take (2+18*n)) 0=n:=by
  rw[hn]
  unfold cntAt numAt
  rw[List.drop_zero,List.take_take,Nat.min_eq_left (by omega)]
 have hk:ksOf ((b.drop o).take (2+18*n)) 2 n=ksOf b (o+2) n:=by
  unfold ksOf
  refine List.map_congr_left fun i hi=>?_
  have hi:=List.mem_range.1 hi
  have hx:∀a k,a+k<=18->((((b.drop o).take (2+18*n)).drop (2+18*i)).drop a).take k=((b.drop (o+2+18*i)).drop a).take k:=fun a k h=>by
   rw[List.drop_drop,List.drop_take,List.take_take,List.drop_drop,List.drop_drop,Nat.min_eq_left (by omega)]
   congr 2
   omega
  have h0:=hx 0 1 (by decide)
  rw[List.drop_zero,List.drop_zero] at h0
  unfold kOf
  rw[h0,hx 1 1 (by decide),hx 2 8 (by decide),hx 10 8 (by decide)]
 have hE:tdE ((b.drop o).take (2+18*n))=(if tblB (ksOf b (o+2) n)=true then 0 else 220):=by
  unfold tdE
  rw[hlen,hc,hk,if_neg (by omega),if_neg (by omega)]
  by_cases ht:tblB (ksOf b (o+2) n)=true
  ·rw[if_pos ⟨ht,rfl⟩,if_pos ht]
  ·rw[if_neg (fun h=>ht h.1),if_neg ht]
 refine⟨hE,?_⟩
 unfold tdV
 rw[hE,hc,hk]
 by_cases ht:tblB (ksOf b (o+2) n)=true
 ·rw[if_pos ht,if_pos rfl,if_pos ht]
 ·rw[if_neg ht,if_neg (by decide),if_neg ht]
end Go.Proofs.YtgkkpefpbfadoaaGreat.Sn
namespace Go.Proofs.YtgkkpefpbfadoaaGreat
open Go Go.RowKit
open Sy (C SV V1 Blk St XD Els)
set_option maxRecDepth 10000
def By (l:List Int):Prop:=∀c∈l,0<=c/\c<256
theorem By.app {a b:List Int}(h:By a)(k:By b):By (a++b):=fun c hc=>(List.mem_append.1 hc).elim (h c) (k c)
theorem By.b8 (x:Int){a:List Int}(h:By a):By (b8 x::a):=fun c hc=>by
 rcases List.mem_cons.1 hc with rfl|hc
 ·exact b8_mem x
 ·exact h c hc
theorem By.nil:By []:=fun c hc=>by cases hc
theorem By.be (x:Int)(n:Nat):By (beN x n):=beN_mem x n
theorem By.flat {α:Type}{f:α->List Int}{l:List α}(h:∀x∈l,By (f x)):By (l.map f).flatten:=fun c hc=>by
 obtain⟨q,hq,hc⟩:=List.mem_flatten.1 hc
 obtain⟨x,hx,rfl⟩:=List.mem_map.1 hq
 exact h x hx c hc
theorem By.some {l:List Int}(h:By l):By (someB l):=(By.be _ _).app h
theorem elB_by (x:Elm):By (elB x):=by
 unfold elB
 refine By.b8 _ ?_
 split
 ·exact(By.b8 _ (By.b8 _ By.nil)).app (By.be _ _)
 ·split
  ·exact By.be _ _
  ·exact By.nil
theorem rB_by (l:List Elm):By (rB l):=By.b8 _ (By.flat fun x _=>elB_by x)
theorem kBs_by (x:Sn.Kc):By (Sn.kBs x):=((By.b8 _ (By.b8 _ By.nil)).app (By.be _ _)).app (By.be _ _)
theorem nBs_by (x:Sn.Tx):By (Sn.nBs x):=((By.b8 _ By.nil).app (By.be _ _)).app (By.be _ _)
theorem sBs_by (s:Sn.Sn):By (Sn.sBs s):=by
 unfold Sn.sBs Sn.sN Sn.hBs Sn.tBs Sn.tN
 refine(((By.b8 _ (By.b8 _ (By.b8 _ ?_))).app ?_).app (By.b8 _ By.nil)).app (By.flat fun x _=>nBs_by x)
 ·refine By.app (fun c hc=>?_) ((By.be _ _).app (By.flat fun x _=>kBs_by x))
  rw[List.mem_singleton.1 hc]
  split<;>decide
 ·unfold Sn.oN
  intro c hc
  obtain⟨k,_,rfl⟩:=List.mem_map.1 hc
  exact b8_mem _
theorem ints_by (l:List Int):By (b8 l.length::l.map b8):=By.b8 _ fun c hc=>by
 obtain⟨k,_,rfl⟩:=List.mem_map.1 hc
 exact b8_mem _
theorem layB_by (m:Msg):By (layB m):=by
 unfold layB hdB bodyL
 refine(((By.b8 _ (By.b8 _ (By.b8 _ (By.b8 _ By.nil)))).app (By.be _ _)).app (By.be _ _)).app ?_
 repeat' split
 ·unfold depL
  exact(By.some (gBs_mem _)).app ((By.b8 _ (By.flat fun x _=>By.b8 _ (By.some (rB_by _)))).app ((By.b8 _ (By.flat fun x _=>By.b8 _ (By.b8 _ By.nil))).app (sBs_by _)))
 ·exact By.be _ _
 ·exact By.b8 _ (By.flat fun x _=>nBs_by x)
 ·exact(By.be _ _).app (sBs_by _)
 ·exact(ints_by _).app (ints_by _)
 ·unfold dataL
  refine((((By.b8 _ By.nil).app (By.be _ _)).app (By.be _ _)).app (By.be _ _)).app (By.some ?_)
  split
  ·exact rB_by _
  ·exact By.nil
 ·exact By.nil
theorem layB_len {m:Msg}(h:okM m):(layB m).length<=20000:=by
 have hh:=hdB_len m
 unfold layB
 rw[List.length_append,hh]
 have hk:=h.1
 unfold bodyL
 split
 ·rename_i k
  rw[body1 k] at hk
  simp only[Bool.and_eq_true] at hk
  have h2:=hk.2
  unfold depB at h2
  simp only[Bool.and_eq_true,decide_eq_true_eq] at h2
  obtain⟨hL,_,hf⟩:=h2.1
  have hd:=laid_deno hL
  have hgc:=deno_chk hd
  have h1:=(check_ok hgc).2.1
  have h3:(gBs m.gr).length<=1+119*m.gr.length:=by
   obtain⟨gl,hgl⟩:∃gl:List OpV,opsOf gl=m.gr:=⟨m.gr.map fun o=>⟨o,nilV⟩,by simp[opsOf,Function.comp_def]⟩
   rw[<-hgl] at hgc⊢
   exact gN_len (insOk_good hgc).ops (opsOf gl).length (Nat.le_refl _)
  obtain⟨hia,his⟩:=deno_ins hd
  have h4:=inN_len hia m.ins.length
  have h5:m.ins.length<=8:=by
   have q:=congrArg List.length his
   have q2:=wants_len m.gr
   rw[sortL_len] at q
   unfold srcsI at q
   rw[List.length_map] at q
   omega
  have h6:=laid_pls hL
  have h7:=plN_len m.pls m.pls.length
  have h8:=snap_len hf.2.1
  have c:=beN_len (gBs m.gr).length 2
  unfold inN at h4
  unfold plN at h7
  rw[List.take_length] at h4 h7
  unfold depL someB
  simp only[List.length_append,c]
  omega
 ·split
  ·rw[beN_len];omega
  ·split
   ·rename_i k
    rw[body4 k] at hk
    simp at hk
    have:=tlN_len m m.names.length
    unfold tlN at this
    rw[List.length_append,hh,List.take_length] at this
    unfold toldL
    omega
   ·split
    ·rename_i k
     rw[body5 k] at hk
     simp at hk
     have:=snap_len hk.2.2.2
     unfold ackL
     rw[List.length_append,beN_len];omega
    ·split
     ·rename_i k
      rw[body6 k] at hk
      simp at hk
      have h1:=tasks_len hk.2.1
      have h2:=tasks_len hk.2.2
      unfold beatL
      simp only[List.length_append,List.length_cons,List.length_map];omega
     ·split
      ·have c1:=beN_len m.pkt.ses 4
       have c2:=beN_len m.pkt.seq 8
       have c3:=beN_len m.pkt.lim 8
       have hr:(if m.pkt.kind=1 then rB [m.pkt.elem] else[]).length<=12:=by
        split
        ·exact rN_len [m.pkt.elem] 1
        ·simp
       unfold dataL
       generalize(if m.pkt.kind=1 then rB [m.pkt.elem] else[])=R at hr⊢
       have c4:=beN_len R.length 2
       unfold someB
       simp only[List.length_append,List.length_cons,List.length_nil,c1,c2,c3,c4]
       omega
      ·simp
def msgB (m:Msg):List Int:=layB m++beN (sumV (layB m)) 4
def encMs (m:Msg):List Int:=if okM m then msgB m else[]
def chkM (m:Msg):Int:=if okM m then 0 else 370
attribute [local irreducible] layB okM
set_option maxHeartbeats 2000000 in
theorem fenc_any (m:MsgV)(w:World)(hr:MOk (fun b=>b<w.heap.size) w m)(hb:m.il.length<=100000)(hs:I64 m.src)(hd:I64 m.dst):
 Calls Tryz.prog 9 #[.agg (encM m).toArray] w (Sy.RetRows Sy.noRow (fun _:Unit=>True) (fun _=>[⟨5,1,(encMs m.msg).length,(encMs m.msg).map encB⟩]) (fun _ vs=>.tuple #[vs.headD undef,.int .i64 (chkM m.msg)]) w):=by
 refine Sy.calls_of Sy.lv9 Sy.tab_ok Tryz.func9 rfl _ Tryz.ntmps9 [] [.agg (cellsM C.v m fun i=>.v (m.v i))] rfl (lt_one (Sy.ltAll_v (msg_one hr))) rfl trivial (V ?_)
 refine Sy.call_val (.c (.v (.int .i64 (chkM m.msg)))) Tryz.call19 rfl (fun e a w' h=>fcheck_any m w' (MOk.later h hr) hb hs hd) ?_
 by_cases hok:okM m.msg
 ·rw[show chkM m.msg=0 from if_pos hok,show encMs m.msg=msgB m.msg from if_pos hok]
  have hl:=layB_len hok
  refine V ?_
  refine Sy.call_r1 ⟨5,1,(layB m.msg).length,(layB m.msg).map encB⟩ (fun j=>.c (.row j)) Tryz.call21 (fun e a w' h=>flay_any m w' (MOk.later h hr) hok) (V ?_)
  refine Sy.call_r1 ⟨5,1,(msgB m.msg).length,(msgB m.msg).map encB⟩ (fun j=>.c (.row j)) Tryz.call20 (fun e a w' h=>seal_any (e.rv 1) (layB m.msg) w' (Sy.row_reads h (.inl ⟨_,rfl⟩)) (layB_by m.msg) (by omega)) (V ?_)
  exact Sy.fin_r1 (.row 2) rfl (fun e=>rfl)
 ·rw[show chkM m.msg=370 from if_neg hok,show encMs m.msg=[] from if_neg hok]
  refine V ?_
  exact Sy.fin_r1 (.v (.slice none 0 0)) ⟨rfl,rfl⟩ (fun e=>rfl)
end Go.Proofs.YtgkkpefpbfadoaaGreat
namespace Go.Proofs.YtgkkpefpbfadoaaGreat
open Go Go.RowKit
open Sy (C SV V1 Blk St XD Els)
set_option maxRecDepth 10000
structure Rs where
 A:Option Addr
 c:Nat
 l:List Int
 e:Int
def Rs.v (s:Rs):Value:=.slice s.A s.l.length s.c
def Rs.ok (F:Nat->Prop)(w:World)(s:Rs):Prop:=XD.ok F w ⟨s.v,1,s.l.length,s.l.map encB⟩
def Rs.rd (s:Rs)(k:Nat):Rs:=if s.e≠0 then s else if s.l.length<k then{s with e:=7} else⟨if s.c=k then s.A else s.A.map (·.add (k*1)),s.c-k,s.l.drop k,0⟩
def Rs.by (s:Rs)(k:Nat):List Int:=if s.e≠0\/s.l.length<k then[] else s.l.take k
theorem Rs.rd_ok {F:Nat->Prop}{w:World}{s:Rs}(h:s.ok F w)(k:Nat):(s.rd k).ok F w:=by
 unfold Rs.rd
 split
 ·exact h
 ·split
  ·exact h
  ·rename_i hl
   obtain⟨⟨h1,h2,A,c,hv,h3,h4,h5⟩,h6⟩:=h
   have hv:Value.slice s.A s.l.length s.c=.slice A s.l.length c:=hv
   injection hv with e1 _ e2
   subst e1;subst e2
   have h3:s.l.length<=s.c:=h3
   have hld:(s.l.drop k).length=s.l.length-k:=List.length_drop
   refine⟨⟨by simp,fun c hc=>?_,_,_,rfl,by dsimp only;omega,by dsimp only;omega,fun hp=>?_⟩,fun c hc=>?_⟩
   ·obtain⟨x,_,rfl⟩:=List.mem_map.1 hc;rfl
   ·dsimp only at hp
    obtain⟨p,hA,hF,hc⟩:=h5 (by dsimp only;omega)
    refine⟨if s.c=k then p else p.add (k*1),?_,?_,fun i u hu=>?_⟩
    ·have hA:s.A=some p:=hA
     rw[hA];split<;>rfl
    ·split
     ·exact hF
     ·rw[Sy.addr_block];exact hF
    ·have hne:¬s.c=k:=by omega
     rw[if_neg hne,Sy.addr_add]
     refine hc _ u ?_
     dsimp only at hu⊢
     rw[List.map_drop] at hu
     have hf:=Sy.flat_drop (sz:=1) (xs:=s.l.map encB) (fun c hc=>by obtain⟨x,_,rfl⟩:=List.mem_map.1 hc;rfl) k
     rw[hf,List.getElem?_drop] at hu
     exact hu
   ·obtain⟨x,_,rfl⟩:=List.mem_map.1 hc
    intro u hu
    rw[List.mem_singleton.1 hu];rfl
theorem Rs.by_ok {F:Nat->Prop}{w:World}{A:Option Addr}{c:Nat}{l:List Int}{e:Int}(h:Rs.ok F w ⟨A,c,l,e⟩){k:Nat}(hk:k<=l.length):XD.ok F w ⟨.slice A k k,1,(l.take k).length,(l.take k).map encB⟩:=by
 obtain⟨⟨h1,h2,A',c',hv,h3,h4,h5⟩,h6⟩:=h
 have hv:Value.slice A l.length c=.slice A' l.length c':=hv
 injection hv with e1 _ e2
 subst e1;subst e2
 have hlt:(l.take k).length=k:=by rw[List.length_take];omega
 rw[hlt]
 refine⟨⟨by rw[List.length_map];exact hlt,fun c hc=>h2 c (by rw[List.map_take] at hc;exact List.mem_of_mem_take hc),_,_,rfl,Nat.le_refl _,by have h3:l.length<=c:=h3;omega,fun hp=>?_⟩,fun c hc=>h6 c (by rw[List.map_take] at hc;exact List.mem_of_mem_take hc)⟩
 obtain⟨p,hA,hF,hc⟩:=h5 (by dsimp only at hp⊢;omega)
 refine⟨p,hA,hF,fun i u hu=>hc i u ?_⟩
 dsimp only at hu⊢
 rw[List.map_take,Sy.flat_take (sz:=1) (xs:=l.map encB) (fun c hc=>by obtain⟨x,_,rfl⟩:=List.mem_map.1 hc;rfl)] at hu
 rw[List.getElem?_take] at hu
 split at hu
 ·exact hu
 ·cases hu
def rdH (A:Option Addr)(c:Nat)(l:List Int)(e:Int):List (Nat×Blk):=[(0,.cells 161 [.v (.slice A l.length c),.v (.int .i64 e)])]
def rdrH (s:Rs):List (Nat×Blk):=rdH s.A s.c s.l s.e
def valC (u:Value)(l:List Int):Sy.Ctr Unit:={avs:=[.c (.v u),.c (.loc 0 0)],n0:=1,H0:=[(0,.cells 22 [.v (.int .u64 0)])],pre:=fun F w=>XD.ok F w ⟨u,1,l.length,l.map encB⟩,sv:=fun _=>.tup [],n1:=fun _=>1,H1:=fun _=>[(0,.cells 22 [.v (.int .u64 (Sn.num l))])]}
theorem val_does (u:Value)(l:List Int)(hl:l.length<=8)(h8:Sn.bytesOk l)(hu:u.oneCell'=true):Sy.Does Tryz.prog 165 (valC u l):=by
 refine Sy.does_of Sy.lv165 Sy.tab_ok Tryz.func165 rfl _ Tryz.ntmps165 _ (by show(match u.oneCell' with|true=>true|false=>false)=true;rw[hu]) rfl (fun e0 w hpre=>?_)
 have hpre:XD.ok (Sy.frz e0 (valC u l).H0 w) w ⟨u,1,l.length,l.map encB⟩:=hpre
 obtain⟨_,_,A,c,hv,_⟩:=hpre.1
 have hv:u=.slice A l.length c:=hv
 subst hv
 refine Vc ?_
 refine Sy.sem_subF (Sy.sub_openS 0 1 l.length (l.map encB) rfl (Sy.reads_w0 hpre.1) hpre.2) ?_
 conv=>whnf
 refine Sy.loop_inv Sy.tab_ok (fun i:Nat=>[(6,.c (.v (.int .i64 i)))]) (fun i=>[(0,.cells 22 [.v (.int .u64 (Sn.num (l.drop (l.length-i))))])]) (fun i=>i<=l.length) (fun i=>l.length-i) 0 (Nat.zero_le _) ?_ (fun i hi=>?_)
 ·rw[show Sn.num (l.drop (l.length-0))=0 by rw[Nat.sub_zero,List.drop_length];rfl]
  exact Vs0
 ·by_cases hlt:i<l.length
  ·have hg:=List.getElem?_eq_getElem (show l.length-1-i<l.length by omega)
   have hb:=h8 _ (List.getElem_mem (show l.length-1-i<l.length by omega))
   have hd:l.drop (l.length-(i+1))=l[l.length-1-i]::l.drop (l.length-i):=by
    rw[show l.length-(i+1)=l.length-1-i by omega,List.drop_eq_getElem_cons (by omega),show l.length-1-i+1=l.length-i by omega]
   generalize l[l.length-1-i]=b at *
   have hx:=Sn.num_bound (l:=l.drop (l.length-i)) fun y hy=>h8 y (List.mem_of_mem_drop hy)
   rw[List.length_drop,show l.length-(l.length-i)=i by omega] at hx
   have hor:=Sn.or_high _ b i (by omega) hx hb
   have hnum:Sn.num (l.drop (l.length-(i+1)))=b*256^i+Sn.num (l.drop (l.length-i)):=by
    rw[hd,Sn.num_cons,List.length_drop,show l.length-(l.length-i)=i by omega]
   generalize Sn.num (l.drop (l.length-i))=x at *
   have hix:((l.length:Int)-1-(i:Int)).toNat=l.length-1-i:=by omega
   refine V (Y1 fun hh=>?_)
   refine Sy.draw_go [0] (by kernel_rfl) ?_
   intro e0
   conv=>whnf
   refine zt 1 rfl ?_
   conv=>whnf
   refine zt 2 rfl ?_
   conv=>whnf
   refine zt 3 rfl (V ?_)
   refine zt 4 rfl (V ?_)
   refine zt 5 rfl ?_
   conv=>whnf
   refine zt 6 rfl (V ?_)
   refine zt 7 rfl (V ?_)
   refine zt 8 rfl ?_
   conv=>whnf
   refine Sy.el_map b (by rw[hix];exact hg) ?_
   conv=>whnf
   refine zt 9 rfl (V ?_)
   refine Sy.ar_u64 (by omega) ?_
   conv=>whnf
   refine zt 10 rfl ?_
   conv=>whnf
   refine zt 11 rfl (V ?_)
   refine zt 12 rfl (V ?_)
   refine Sy.sh_nat (y:=8*i) ?_
   conv=>whnf
   refine Sy.ar_wrap ?_
   conv=>whnf
   refine zd1 [0] (zx rfl ?_ zy)
   conv=>whnf
   refine Yk ?_
   refine zt 13 rfl (V ?_)
   refine zd1 [14] (zx rfl ?_ zy)
   conv=>whnf
   refine Yk ?_
   refine zw ?_
   skip
   refine V ?_
   refine⟨i+1,by omega,by omega,?_⟩
   rw[hor,<-hnum]
   exact Vs0
  ·have e:i=l.length:=by omega
   subst e
   rw[Nat.sub_self,List.drop_zero]
   refine V (Y1 fun hh=>?_)
   refine Sy.fin_own () trivial ?_
   exact Vs0
end Go.Proofs.YtgkkpefpbfadoaaGreat
