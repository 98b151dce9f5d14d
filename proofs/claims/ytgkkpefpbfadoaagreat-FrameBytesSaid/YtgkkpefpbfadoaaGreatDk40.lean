/- Frame: a message's bytes are read as that message: plain. -/
import Derived.Test.YtgkkpefpbfadoaaGreatDk39
import Derived.Test.YtgkkpefpbfadoaaGreatDk9
namespace Go.Proofs.YtgkkpefpbfadoaaGreat
set_option maxRecDepth 10000
theorem ps_app {x:List Int}{k:Nat}(h:x.length=k)(r:List Int):(⟨x++r,0⟩:Ps).rd k=⟨r,0⟩/\(⟨x++r,0⟩:Ps).by k=x:=by
 have hl:¬(x++r).length<k:=by rw[List.length_append];omega
 refine⟨(if_neg (fun h=>h rfl)).trans ((if_neg hl).trans ?_),(if_neg fun h=>h.elim (fun h=>h rfl) hl).trans ?_⟩
 ·rw[<-h];simp
 ·rw[<-h];simp
theorem ps_n {x:Int}{k:Nat}(h:0<=x/\x<256^k)(r:List Int):(⟨beN x k++r,0⟩:Ps).rd k=⟨r,0⟩/\(⟨beN x k++r,0⟩:Ps).n k=x:=by
 obtain⟨h1,h2⟩:=ps_app (beN_len x k) r
 exact⟨h1,by unfold Ps.n;rw[h2,Sn.num_beN k h]⟩
theorem ps_1 {x:Int}(h:0<=x/\x<256)(r:List Int):(⟨b8 x::r,0⟩:Ps).rd 1=⟨r,0⟩/\(⟨b8 x::r,0⟩:Ps).n 1=x:=by
 obtain⟨h1,h2⟩:=ps_app (x:=[b8 x]) (k:=1) rfl r
 exact⟨h1,by unfold Ps.n;rw[show b8 x::r=[b8 x]++r from rfl,h2,Sn.num_one h]⟩
theorem ps_some {l:List Int}(h:l.length<65536)(r:List Int):rawP ⟨someB l++r,0⟩=l/\someP ⟨someB l++r,0⟩=⟨r,0⟩:=by
 obtain⟨h1,h2⟩:=ps_n (x:=(l.length:Int)) (k:=2) ⟨by omega,by show _<(65536:Int);omega⟩ (l++r)
 obtain⟨h3,h4⟩:=ps_app (x:=l) rfl r
 unfold rawP someP someB
 rw[List.append_assoc,h1,h2,Int.toNat_natCast]
 exact⟨h4,h3⟩
theorem lst_app {α:Type}{f:Ps->Ps×α}{enc:α->List Int}:∀(l:List α),(∀x∈l,∀r,f ⟨enc x++r,0⟩=(⟨r,0⟩,x))->∀r,lstN f l.length ⟨(l.map enc).flatten++r,0⟩=(⟨r,0⟩,l)
 |[],_,r=>rfl
 |x::l,h,r=>by
  rw[List.map_cons,List.flatten_cons,List.append_assoc,List.length_cons,lst_s rfl,h x List.mem_cons_self,lst_app l fun y hy=>h y (List.mem_cons_of_mem _ hy)]
  rfl
theorem lst_lay {α:Type}{f:Ps->Ps×α}{enc:α->List Int}(l:List α)(hl:l.length<256)(h:∀x∈l,∀r,f ⟨enc x++r,0⟩=(⟨r,0⟩,x))(r:List Int):lstP f ⟨b8 l.length::((l.map enc).flatten++r),0⟩=(⟨r,0⟩,l):=by
 obtain⟨h1,h2⟩:=ps_1 (x:=(l.length:Int)) ⟨by omega,by omega⟩ ((l.map enc).flatten++r)
 unfold lstP
 rw[h1,h2,Int.toNat_natCast]
 exact lst_app l h r
theorem need_ok (l:List Int):needP ⟨l,0⟩ 0 true=0:=rfl
theorem elP_lay {x:Elm}(h:elemP x)(hv:I64 x.r.val)(r:List Int):(⟨elB x++r,0⟩:Ps).n 1=x.kind/\(1<=x.kind/\x.kind<=3)/\elP x.kind ((⟨elB x++r,0⟩:Ps).rd 1) 0=(⟨r,0⟩,0,x)/\((⟨elB x++r,0⟩:Ps).rd 1).e=0:=by
 obtain⟨k,⟨s,y,v⟩,n⟩:=x
 unfold elemP numP rc0 Sn.recP at h
 dsimp only at h hv⊢
 have hk:1<=k/\k<=3:=by omega
 have e:elB ⟨k,⟨s,y,v⟩,n⟩++r=b8 k::((if k=1 then[b8 s,b8 y]++beN (u64w v) 8 else if k=2 then beN n 8 else[])++r):=by unfold elB;rfl
 rw[e]
 obtain⟨h1,h2⟩:=ps_1 (x:=k) ⟨by omega,by omega⟩ ((if k=1 then[b8 s,b8 y]++beN (u64w v) 8 else if k=2 then beN n 8 else[])++r)
 rw[h1,h2]
 refine⟨rfl,hk,?_,rfl⟩
 obtain rfl|rfl|rfl:k=1\/k=2\/k=3:=by omega
 ·have hh:(0<=s/\s<8/\0<=y/\y<32)/\n=0:=by omega
  obtain⟨q1,q2⟩:=ps_1 (x:=s) ⟨by omega,by omega⟩ (b8 y::(beN (u64w v) 8++r))
  obtain⟨q3,q4⟩:=ps_1 (x:=y) ⟨by omega,by omega⟩ (beN (u64w v) 8++r)
  have hi:=Sn.i64_u64 hv
  obtain⟨q5,q6⟩:=ps_n (x:=u64w v) (k:=8) hi.2 r
  rw[if_pos rfl,show[b8 s,b8 y]++beN (u64w v) 8++r=b8 s::b8 y::(beN (u64w v) 8++r) from rfl]
  unfold elP
  rw[if_pos rfl,q1,q2,q3,q4,q5,q6,decide_eq_true (by omega),decide_eq_true (by omega),need_ok,need_ok,hi.1,hh.2]
 ·have hh:(1<=n/\n<=4611686018427387904)/\s=0/\y=0/\v=0:=by omega
  obtain⟨q1,q2⟩:=ps_n (x:=n) (k:=8) ⟨by omega,by show n<(18446744073709551616:Int);omega⟩ r
  rw[if_neg (by decide),if_pos rfl]
  unfold elP
  rw[if_neg (by decide),if_pos rfl,q1,q2,decide_eq_true (show numP n from hh.1),need_ok,hh.2.1,hh.2.2.1,hh.2.2.2]
 ·have hh:s=0/\y=0/\v=0/\n=0:=by omega
  rw[if_neg (by decide),if_neg (by decide)]
  unfold elP
  rw[if_neg (by decide),if_neg (by decide),hh.1,hh.2.1,hh.2.2.1,hh.2.2.2]
  rfl
theorem recL_lay:∀(l:List Elm),(∀x∈l,elemP x/\I64 x.r.val)->recL l.length ⟨(l.map elB).flatten,0⟩ 0=(⟨[],0⟩,0,l)
 |[],_=>rfl
 |x::l,h=>by
  have hx:=h x List.mem_cons_self
  obtain⟨h1,h2,h3,h4⟩:=elP_lay hx.1 hx.2 (l.map elB).flatten
  rw[List.map_cons,List.flatten_cons,List.length_cons,recL,h1,decide_eq_true h2]
  have hn:needP ((⟨elB x++(l.map elB).flatten,0⟩:Ps).rd 1) 0 true=0:=by unfold needP;rw[h4];rfl
  rw[hn,if_neg (fun h=>h rfl),h3]
  dsimp only
  rw[need_ok,recL_lay l fun y hy=>h y (List.mem_cons_of_mem _ hy)]
  rfl
theorem recD_lay {l:List Elm}(hl:l.length<=200)(h:∀x∈l,elemP x/\I64 x.r.val):(recD ⟨rB l,0⟩).1=l:=by
 have e:rB l=b8 l.length::(l.map elB).flatten:=by unfold rB rN;rw[List.take_length]
 obtain⟨h1,h2⟩:=ps_1 (x:=(l.length:Int)) ⟨by omega,by omega⟩ (l.map elB).flatten
 unfold recD
 rw[e,h1,h2,if_neg (by omega),need_ok,Int.toNat_natCast,recL_lay l h]
 rfl
structure MW (m:Msg):Prop where
 g:∀o∈m.gr,(-9223372036854775808<=o.a/\o.a<=9223372036854775807)/\(-9223372036854775808<=o.b/\o.b<=9223372036854775807)
 i:∀x∈m.ins,∀r∈x.recs,I64 r.val
 k:∀x∈m.snap.rows,Sn.InK x
 v:I64 m.pkt.elem.r.val
 l:0<=m.pkt.lim
theorem hd_lay {m:Msg}(h1:0<=m.kind/\m.kind<256)(h2:0<=m.src/\m.src<256)(h3:0<=m.dst/\m.dst<256)(h4:0<=m.task/\m.task<256)(h5:0<=m.epoch/\m.epoch<=2147483647)(h6:0<=m.att/\m.att<=1048576)(r:List Int):
 hdM ⟨hdB m++r,0⟩=⟨m.kind,m.src,m.dst,m.epoch,m.att,m.task,0,[],[],[],Sn.sn0,[],[],[],pk0⟩/\hdP ⟨hdB m++r,0⟩=⟨r,0⟩:=by
 have e:hdB m++r=b8 m.kind::b8 m.src::b8 m.dst::b8 m.task::(beN m.epoch 8++(beN m.att 4++r)):=by unfold hdB;simp
 obtain⟨a1,b1⟩:=ps_1 h1 (b8 m.src::b8 m.dst::b8 m.task::(beN m.epoch 8++(beN m.att 4++r)))
 obtain⟨a2,b2⟩:=ps_1 h2 (b8 m.dst::b8 m.task::(beN m.epoch 8++(beN m.att 4++r)))
 obtain⟨a3,b3⟩:=ps_1 h3 (b8 m.task::(beN m.epoch 8++(beN m.att 4++r)))
 obtain⟨a4,b4⟩:=ps_1 h4 (beN m.epoch 8++(beN m.att 4++r))
 obtain⟨a5,b5⟩:=ps_n (x:=m.epoch) (k:=8) ⟨h5.1,by show _<(18446744073709551616:Int);omega⟩ (beN m.att 4++r)
 obtain⟨a6,b6⟩:=ps_n (x:=m.att) (k:=4) ⟨h6.1,by show _<(4294967296:Int);omega⟩ r
 unfold hdM hdP
 rw[e,a1,a2,a3,a4,a5,a6,b1,b2,b3,b4,b5,b6]
 exact⟨rfl,rfl⟩
theorem in_lay {x:Inp}(h:inputB x=true)(hv:∀r∈x.recs,I64 r.val)(r:List Int):inP ⟨inB x++r,0⟩=(⟨r,0⟩,x):=by
 have hl:=inB_len h
 unfold inputB at h
 simp only[Bool.and_eq_true,decide_eq_true_eq,List.all_eq_true] at h
 obtain⟨⟨h1,h2⟩,h3⟩:=h
 obtain⟨a1,b1⟩:=ps_1 (x:=x.src) ⟨by omega,by omega⟩ (someB (rB (x.recs.map elmR))++r)
 have hl2:(rB (x.recs.map elmR)).length<65536:=by
  unfold inB someB at hl
  rw[List.length_cons,List.length_append] at hl
  omega
 obtain⟨a2,b2⟩:=ps_some hl2 r
 unfold inP
 rw[show inB x++r=b8 x.src::(someB (rB (x.recs.map elmR))++r) from rfl,a1,b1,a2,b2,recD_lay (by rw[List.length_map];omega) (fun e he=>by
  obtain⟨c,hc,rfl⟩:=List.mem_map.1 he
  exact⟨.inl ⟨rfl,of_decide_eq_true (h3 c hc).1,rfl⟩,hv c hc⟩),List.map_map]
 show(_,(⟨x.src,x.recs.map id⟩:Inp))=_
 rw[List.map_id]
theorem pl_lay {p:Plc}(h1:0<=p.task/\p.task<256)(h2:0<=p.wkr/\p.wkr<256)(r:List Int):plP ⟨plB p++r,0⟩=(⟨r,0⟩,p):=by
 obtain⟨a1,b1⟩:=ps_1 h1 (b8 p.wkr::r)
 obtain⟨a2,b2⟩:=ps_1 h2 r
 unfold plP
 rw[show plB p++r=b8 p.task::b8 p.wkr::r from rfl,a1,b1,a2,b2]
theorem tx_lay {x:Sn.Tx}(h:Sn.okN x)(r:List Int):txP ⟨Sn.nBs x++r,0⟩=(⟨r,0⟩,x):=by
 unfold Sn.okN at h
 obtain⟨a1,b1⟩:=ps_1 (x:=x.sink) ⟨by omega,by omega⟩ (beN x.att 4++(beN x.ser 4++r))
 obtain⟨a2,b2⟩:=ps_n (x:=x.att) (k:=4) ⟨by omega,by show _<(4294967296:Int);omega⟩ (beN x.ser 4++r)
 obtain⟨a3,b3⟩:=ps_n (x:=x.ser) (k:=4) ⟨by omega,by show _<(4294967296:Int);omega⟩ r
 unfold txP
 rw[show Sn.nBs x++r=b8 x.sink::(beN x.att 4++(beN x.ser 4++r)) by unfold Sn.nBs;simp,a1,b1,a2,b2,a3,b3]
theorem int_lay {x:Int}(h:taskP x)(r:List Int):inI ⟨[b8 x]++r,0⟩=(⟨r,0⟩,x):=by
 unfold taskP at h
 obtain⟨a1,b1⟩:=ps_1 (x:=x) ⟨by omega,by omega⟩ r
 unfold inI
 rw[show[b8 x]++r=b8 x::r from rfl,a1,b1]
theorem ints_lay {l:List Int}(h:tasksB l=true)(r:List Int):lstP inI ⟨(b8 l.length::l.map b8)++r,0⟩=(⟨r,0⟩,l):=by
 have hl:=tasks_len h
 have:=lst_lay (f:=inI) (enc:=fun x=>[b8 x]) l (by omega) (fun x hx r=>int_lay (of_decide_eq_true (Sn.chain_ok h x hx)) r) r
 rw[show(l.map fun x=>[b8 x]).flatten=l.map b8 by
  clear this h hl
  induction l with
  |nil=>rfl
  |cons x l ih=>rw[List.map_cons,List.flatten_cons,ih];rfl] at this
 exact this
theorem rest_lay {s:Sn.Sn}(h:Sn.rightP s)(hi:∀x∈s.rows,Sn.InK x):restP ⟨Sn.sBs s,0⟩=s:=by
 obtain⟨_,h2⟩:=ps_app (x:=Sn.sBs s) rfl []
 unfold restP
 rw[List.append_nil] at h2
 show Sn.sdV ((⟨Sn.sBs s,0⟩:Ps).by (Sn.sBs s).length)=s
 rw[h2]
 exact(Sn.back_dec h hi).2
theorem pls_mem:∀{l:List Plc}{i:Int},plsB i l=true->∀p∈l,(i<=p.task/\p.task<i+l.length)/\1<=p.wkr/\p.wkr<=4
 |[],_,_,p,hp=>by cases hp
 |x::l,i,h,p,hp=>by
  unfold plsB at h
  simp only[Bool.and_eq_true,decide_eq_true_eq] at h
  obtain⟨h1,h2⟩:=h
  unfold plcP at h1
  rw[List.length_cons]
  rcases List.mem_cons.1 hp with rfl|hp
  ·omega
  ·have:=pls_mem h2 p hp
   omega
theorem msg_ext {a b:Msg}(h1:a.kind=b.kind)(h2:a.src=b.src)(h3:a.dst=b.dst)(h4:a.epoch=b.epoch)(h5:a.att=b.att)(h6:a.task=b.task)(h7:a.num=b.num)(h8:a.gr=b.gr)(h9:a.ins=b.ins)(g1:a.pls=b.pls)(g2:a.snap=b.snap)(g3:a.names=b.names)(g4:a.up=b.up)(g5:a.ended=b.ended)(g6:a.pkt=b.pkt):a=b:=by
 cases a;cases b
 simp only at *
 subst_vars
 rfl
attribute [local irreducible] hdB Sn.sBs beN gBs
theorem read_lay {m:Msg}(hok:okM m)(hw:MW m):readP ⟨layB m,0⟩=m:=by
 have hkk:1<=m.kind/\m.kind<=8:=by
  by_cases h:1<=m.kind/\m.kind<=8
  ·exact h
  ·have:=hok.1
   rw[body9 (by omega)] at this
   cases this
 obtain⟨hk,⟨n1,n2,n3,n4,n5,n6,n7⟩,he,ha⟩:=hok
 have go:∀{body:List Int},bodyL m=body->(0<=m.src/\m.src<256)->(0<=m.dst/\m.dst<256)->(0<=m.task/\m.task<256)->hdM ⟨layB m,0⟩=⟨m.kind,m.src,m.dst,m.epoch,m.att,m.task,0,[],[],[],Sn.sn0,[],[],[],pk0⟩/\hdP ⟨layB m,0⟩=⟨body,0⟩:=fun hb b c t=>by
  unfold layB
  rw[hb]
  exact hd_lay ⟨by omega,by omega⟩ b c t ⟨by omega,by omega⟩ ⟨by omega,by omega⟩ _
 by_cases k1:m.kind=1
 ·rw[body1 k1] at hk
  simp only[Bool.and_eq_true,decide_eq_true_eq] at hk
  obtain⟨⟨hs,hd⟩,hdp⟩:=hk
  unfold mgrP at hs
  unfold wrkP at hd
  unfold depB at hdp
  simp only[Bool.and_eq_true,decide_eq_true_eq] at hdp
  obtain⟨hL,ht,hf⟩:=hdp.1
  have hpl:=laid_pls hL
  have hdn:=laid_deno hL
  have hgc:=deno_chk hdn
  obtain⟨hia,his⟩:=deno_ins hdn
  have hil:m.ins.length<=8:=by
   have q:=congrArg List.length his
   have q2:=wants_len m.gr
   have h1:=(check_ok hgc).2.1
   rw[sortL_len] at q
   unfold srcsI at q
   rw[List.length_map] at q
   omega
  have hps:plsB 0 m.pls=true:=by
   unfold laidE at hL
   rw[if_neg (fun h=>h hdn)] at hL
   split at hL
   ·rename_i h;exact h.2
   ·cases hL
  have hgl:(gBs m.gr).length<=2000:=by
   obtain⟨gl,hgl⟩:∃gl:List OpV,opsOf gl=m.gr:=⟨m.gr.map fun o=>⟨o,nilV⟩,by simp[opsOf,Function.comp_def]⟩
   rw[<-hgl] at hgc⊢
   have h1:=(check_ok hgc).2.1
   have h2:=gN_len (insOk_good hgc).ops (opsOf gl).length (Nat.le_refl _)
   unfold gBs;omega
  obtain⟨e1,e2⟩:=go (by unfold bodyL;exact if_pos k1) ⟨by omega,by omega⟩ ⟨by omega,by omega⟩ ⟨by omega,by omega⟩
  obtain⟨a1,b1⟩:=ps_some (l:=gBs m.gr) (by omega) ((b8 m.ins.length::(m.ins.map inB).flatten)++((b8 m.pls.length::(m.pls.map plB).flatten)++Sn.sBs m.snap))
  have a2:=lst_lay (f:=inP) (enc:=inB) m.ins (by omega) (fun x hx r=>in_lay (List.all_eq_true.1 hia x hx) (hw.i x hx) r) ((b8 m.pls.length::(m.pls.map plB).flatten)++Sn.sBs m.snap)
  have a3:=lst_lay (f:=plP) (enc:=plB) m.pls (by omega) (fun x hx r=>by have:=pls_mem hps x hx;exact pl_lay (by omega) (by omega) r) (Sn.sBs m.snap)
  unfold readP
  rw[e1,e2,if_pos k1]
  unfold depP depL
  rw[a1,b1,List.cons_append,a2,List.cons_append,a3,dec_enc hgc (good_small hgc hw.g),rest_lay hf.2.1 hw.k]
  exact msg_ext rfl rfl rfl rfl rfl rfl (by have:=n2;dsimp only;omega) rfl rfl rfl rfl (by rcases n5 with h|h;omega;exact h.symm) (by rcases n6 with h|h;omega;exact h.1.symm) (by rcases n6 with h|h;omega;exact h.2.symm) (by rcases n7 with h|h;omega;exact h.symm)
 obtain⟨z1,z2,z3⟩:m.gr=[]/\m.ins=[]/\m.pls=[]:=n3.resolve_left k1
 by_cases k3:m.kind=3
 ·rw[body3 k3] at hk
  simp only[Bool.and_eq_true,decide_eq_true_eq] at hk
  obtain⟨⟨hs,hd⟩,hn⟩:=hk
  unfold mgrP at hs;unfold wrkP at hd;unfold numP at hn
  obtain⟨e1,e2⟩:=go (body:=beN m.num 8++[]) (by unfold bodyL;rw[if_neg k1,if_pos k3,List.append_nil]) ⟨by omega,by omega⟩ ⟨by omega,by omega⟩ ⟨by omega,by omega⟩
  obtain⟨a1,b1⟩:=ps_n (x:=m.num) (k:=8) ⟨by omega,by show _<(18446744073709551616:Int);omega⟩ []
  unfold readP
  rw[e1,e2,if_neg k1,if_pos k3]
  unfold trigP
  rw[b1]
  exact msg_ext rfl rfl rfl rfl rfl rfl rfl z1.symm z2.symm z3.symm (by rcases n4 with h|h|h;omega;omega;exact h.symm) (by rcases n5 with h|h;omega;exact h.symm) (by rcases n6 with h|h;omega;exact h.1.symm) (by rcases n6 with h|h;omega;exact h.2.symm) (by rcases n7 with h|h;omega;exact h.symm)
 by_cases k4:m.kind=4
 ·rw[body4 k4] at hk
  simp only[Bool.and_eq_true,decide_eq_true_eq] at hk
  obtain⟨⟨hs,hd⟩,hl,hc⟩:=hk
  unfold mgrP at hs;unfold wrkP at hd
  obtain⟨e1,e2⟩:=go (body:=toldL m) (by unfold bodyL;rw[if_neg k1,if_neg k3,if_pos k4]) ⟨by omega,by omega⟩ ⟨by omega,by omega⟩ ⟨by omega,by omega⟩
  have a1:=lst_lay (f:=txP) (enc:=Sn.nBs) m.names (by omega) (fun x hx r=>tx_lay (of_decide_eq_true (Sn.chain_ok hc x hx)) r) []
  rw[List.append_nil] at a1
  unfold readP
  rw[e1,e2,if_neg k1,if_neg k3,if_pos k4]
  unfold toldP toldL
  rw[a1]
  exact msg_ext rfl rfl rfl rfl rfl rfl (by rcases n2 with h|h|h;omega;omega;exact h.symm) z1.symm z2.symm z3.symm (by rcases n4 with h|h|h;omega;omega;exact h.symm) rfl (by rcases n6 with h|h;omega;exact h.1.symm) (by rcases n6 with h|h;omega;exact h.2.symm) (by rcases n7 with h|h;omega;exact h.symm)
 by_cases k5:m.kind=5
 ·rw[body5 k5] at hk
  simp only[Bool.and_eq_true,decide_eq_true_eq] at hk
  obtain⟨⟨hs,hd⟩,ht,hn,hr⟩:=hk
  unfold wrkP at hs;unfold mgrP at hd;unfold taskP at ht;unfold numP at hn
  obtain⟨e1,e2⟩:=go (body:=ackL m) (by unfold bodyL;rw[if_neg k1,if_neg k3,if_neg k4,if_pos k5]) ⟨by omega,by omega⟩ ⟨by omega,by omega⟩ ⟨by omega,by omega⟩
  obtain⟨a1,b1⟩:=ps_n (x:=m.num) (k:=8) ⟨by omega,by show _<(18446744073709551616:Int);omega⟩ (Sn.sBs m.snap)
  unfold readP
  rw[e1,e2,if_neg k1,if_neg k3,if_neg k4,if_pos k5]
  unfold ackP ackL
  rw[a1,b1,rest_lay hr hw.k]
  exact msg_ext rfl rfl rfl rfl rfl rfl rfl z1.symm z2.symm z3.symm rfl (by rcases n5 with h|h;omega;exact h.symm) (by rcases n6 with h|h;omega;exact h.1.symm) (by rcases n6 with h|h;omega;exact h.2.symm) (by rcases n7 with h|h;omega;exact h.symm)
 have z4:m.snap=Sn.sn0:=by rcases n4 with h|h|h;omega;omega;exact h
 by_cases k6:m.kind=6
 ·rw[body6 k6] at hk
  simp only[Bool.and_eq_true,decide_eq_true_eq] at hk
  obtain⟨⟨hs,hd⟩,hu,hn⟩:=hk
  unfold wrkP at hs;unfold mgrP at hd
  obtain⟨e1,e2⟩:=go (body:=beatL m) (by unfold bodyL;rw[if_neg k1,if_neg k3,if_neg k4,if_neg k5,if_pos k6]) ⟨by omega,by omega⟩ ⟨by omega,by omega⟩ ⟨by omega,by omega⟩
  have a1:=ints_lay hu (b8 m.ended.length::m.ended.map b8)
  have a2:=ints_lay hn []
  rw[List.append_nil] at a2
  unfold readP
  rw[e1,e2,if_neg k1,if_neg k3,if_neg k4,if_neg k5,if_pos k6]
  unfold beatP beatL
  rw[a1,a2]
  exact msg_ext rfl rfl rfl rfl rfl rfl (by rcases n2 with h|h|h;omega;omega;exact h.symm) z1.symm z2.symm z3.symm z4.symm (by rcases n5 with h|h;omega;exact h.symm) rfl rfl (by rcases n7 with h|h;omega;exact h.symm)
 have z5:m.up=[]/\m.ended=[]:=n6.resolve_left k6
 have z6:m.names=[]:=n5.resolve_left k4
 have z7:m.num=0:=by rcases n2 with h|h|h;omega;omega;exact h
 by_cases k8:m.kind=8
 ·rw[body8 k8] at hk
  simp only[Bool.and_eq_true,decide_eq_true_eq] at hk
  obtain⟨⟨hs,hd⟩,ht,hp1,hp2,hp3⟩:=hk
  unfold wrkP at hs hd;unfold numP at hp2
  have hlm:=hw.l
  have hlm2:m.pkt.lim<=4611686018427387904:=by rcases hp3 with h|h<;>omega
  obtain⟨R,hR⟩:∃R,R=(if m.pkt.kind=1 then rB [m.pkt.elem] else[]):=⟨_,rfl⟩
  have hRl:R.length<65536:=by
   rw[hR]
   split
   ·have:=rN_len [m.pkt.elem] 1
    exact Nat.lt_of_le_of_lt this (by decide)
   ·decide
  have hRe:one1 (recD ⟨R,0⟩).1=m.pkt.elem:=by
   rw[hR]
   by_cases hk1:m.pkt.kind=1
   ·rw[if_pos hk1,recD_lay (l:=[m.pkt.elem]) (by simp) fun x hx=>by
     rw[List.mem_singleton.1 hx]
     exact⟨by rcases hp3 with h|h;exact h.2.2;omega,hw.v⟩]
    rfl
   ·rw[if_neg hk1]
    have:el0 m.pkt.elem:=by rcases hp3 with h|h;omega;exact h.2.2
    unfold el0 rc0 at this
    obtain⟨q1,⟨q2,q3,q4⟩,q5⟩:=this
    generalize m.pkt.elem=x at *
    obtain⟨k,⟨a,b,c⟩,d⟩:=x
    simp only at *
    subst_vars
    rfl
  obtain⟨e1,e2⟩:=go (body:=b8 m.pkt.kind::(beN m.pkt.ses 4++(beN m.pkt.seq 8++(beN m.pkt.lim 8++(someB R++[]))))) (by unfold bodyL;rw[if_neg k1,if_neg k3,if_neg k4,if_neg k5,if_neg k6,if_pos k8,hR];unfold dataL;simp) ⟨by omega,by omega⟩ ⟨by omega,by omega⟩ ⟨by omega,by omega⟩
  obtain⟨a1,b1⟩:=ps_1 (x:=m.pkt.kind) ⟨by omega,by omega⟩ (beN m.pkt.ses 4++(beN m.pkt.seq 8++(beN m.pkt.lim 8++(someB R++[]))))
  obtain⟨a2,b2⟩:=ps_n (x:=m.pkt.ses) (k:=4) ⟨by omega,by show _<(4294967296:Int);omega⟩ (beN m.pkt.seq 8++(beN m.pkt.lim 8++(someB R++[])))
  obtain⟨a3,b3⟩:=ps_n (x:=m.pkt.seq) (k:=8) ⟨by omega,by show _<(18446744073709551616:Int);omega⟩ (beN m.pkt.lim 8++(someB R++[]))
  obtain⟨a4,b4⟩:=ps_n (x:=m.pkt.lim) (k:=8) ⟨by omega,by show _<(18446744073709551616:Int);omega⟩ (someB R++[])
  obtain⟨a5,_⟩:=ps_some hRl []
  unfold readP
  rw[e1,e2,if_neg k1,if_neg k3,if_neg k4,if_neg k5,if_neg k6,if_pos k8]
  unfold dataP
  rw[a1,b1,a2,b2,a3,b3,a4,b4,a5,hRe]
  exact msg_ext rfl rfl rfl rfl rfl rfl z7.symm z1.symm z2.symm z3.symm z4.symm z6.symm z5.1.symm z5.2.symm rfl
 have z8:m.pkt=pk0:=n7.resolve_left k8
 have hb:bodyL m=[]:=by unfold bodyL;rw[if_neg k1,if_neg k3,if_neg k4,if_neg k5,if_neg k6,if_neg k8]
 have hq:(0<=m.src/\m.src<256)/\(0<=m.dst/\m.dst<256)/\0<=m.task/\m.task<256:=by
  obtain k2|k7:m.kind=2\/m.kind=7:=by omega
  ·rw[body2 k2] at hk
   simp only[decide_eq_true_eq] at hk
   obtain⟨hs,hd⟩:=hk
   unfold mgrP at hs;unfold wrkP at hd
   omega
  ·rw[body7 k7] at hk
   simp only[Bool.and_eq_true,decide_eq_true_eq] at hk
   obtain⟨⟨hs,hd⟩,ht⟩:=hk
   unfold wrkP at hs;unfold mgrP at hd;unfold taskP at ht
   omega
 obtain⟨e1,e2⟩:=go hb hq.1 hq.2.1 hq.2.2
 unfold readP
 rw[e1,e2,if_neg k1,if_neg k3,if_neg k4,if_neg k5,if_neg k6,if_neg k8]
 exact msg_ext rfl rfl rfl rfl rfl rfl z7.symm z1.symm z2.symm z3.symm z4.symm z6.symm z5.1.symm z5.2.symm z8.symm
theorem opn_seal (b:List Int):opnE (b++beN (sumV b) 4)=0/\opnV (b++beN (sumV b) 4)=b:=by
 have hl:(b++beN (sumV b) 4).length=b.length+4:=by rw[List.length_append,beN_len]
 have hn:(b++beN (sumV b) 4).length-4=b.length:=by omega
 have hE:opnE (b++beN (sumV b) 4)=0:=by
  obtain⟨_,b1⟩:=ps_n (x:=sumV b) (k:=4) (sumV_bound b) []
  rw[List.append_nil] at b1
  unfold opnE
  rw[if_neg (by omega),hn,List.drop_left,List.take_left,b1,if_neg (fun h=>h rfl)]
 refine⟨hE,?_⟩
 unfold opnV
 rw[if_pos hE,hn,List.take_left]
theorem dec_msgB {m:Msg}(hok:okM m)(hw:MW m):decM (msgB m)=(m,0):=by
 obtain⟨h1,h2⟩:=opn_seal (layB m)
 unfold decM msgB
 rw[h1,h2,read_lay hok hw,if_pos ⟨rfl,hok,rfl⟩]
theorem dec_ok_msg {b:List Int}(h8:Sn.bytesOk b){m:Msg}(h:decM b=(m,0)):okM m/\msgB m=b:=by
 unfold decM at h
 split at h
 ·rename_i hc
  obtain⟨h0,hok,hl⟩:=hc
  have hm:readP ⟨opnV b,0⟩=m:=congrArg Prod.fst h
  rw[hm] at hok hl
  refine⟨hok,?_⟩
  have hV:opnV b=b.take (b.length-4):=by unfold opnV;rw[if_pos h0]
  unfold opnE at h0
  split at h0
  ·cases h0
  ·split at h0
   ·cases h0
   ·rename_i h4 hz
    have hz:=Decidable.not_not.1 hz
    have hdl:(b.drop (b.length-4)).length=4:=by rw[List.length_drop];omega
    have hd8:Sn.bytesOk (b.drop (b.length-4)):=fun c hc=>h8 c (List.mem_of_mem_drop hc)
    have hn:(⟨b.drop (b.length-4),0⟩:Ps).n 4=Sn.num (b.drop (b.length-4)):=by
     obtain⟨_,e⟩:=ps_app hdl []
     rw[List.append_nil] at e
     unfold Ps.n
     rw[e]
    unfold msgB
    rw[hl,hV,<-hz,hn]
    have:=Sn.beN_num hd8
    rw[hdl] at this
    rw[this,List.take_append_drop]
 ·cases h
end Go.Proofs.YtgkkpefpbfadoaaGreat
namespace Go.Proofs.YtgkkpefpbfadoaaGreat
open Go Go.RowKit
open Sy (C SV V1 Blk St XD Els)
set_option maxRecDepth 10000
def wkV:MsgV:=hdV 2 1 4 2 3 0
theorem wk_ok:okM wkV.msg:=⟨by rw[body2 rfl];exact decide_eq_true ⟨⟨by decide,by decide⟩,by decide,by decide⟩,⟨by simp[wkV,hdV,MsgV.msg],by simp[wkV,hdV,MsgV.msg],by simp[wkV,hdV,MsgV.msg,opsOf,insOf],by simp[wkV,hdV,MsgV.msg],by simp[wkV,hdV,MsgV.msg],by simp[wkV,hdV,MsgV.msg],by simp[wkV,hdV,MsgV.msg]⟩,⟨by decide,by decide⟩,by decide,by decide⟩
theorem wk_mw:MW wkV.msg:=⟨(by intro o ho;cases ho),(by intro o ho;cases ho),(by intro o ho;cases ho),⟨by decide,by decide⟩,by decide⟩
theorem wk_dec:decM (msgB wkV.msg)=(wkV.msg,0):=dec_msgB wk_ok wk_mw
theorem wk_len:(msgB wkV.msg).length=20:=by
 unfold msgB layB
 rw[List.length_append,List.length_append,hdB_len,beN_len]
 rfl
theorem msgB_by (m:Msg):By (msgB m):=(layB_by m).app (By.be _ _)
theorem tup_lt2 {n:Nat}{l:List C}{e:Int}(h:Sy.ltAll n l=true):SV.lt n (.tup [.agg l,.c (.v (.int .i64 e))])=true:=by
 show(match Sy.ltAll n l with|true=>true|false=>false)=true
 rw[h]
attribute [local irreducible] msgB decM okM layB
set_option maxHeartbeats 4000000 in
theorem fwakes_any (w:World):Calls Tryz.prog 7 #[] w (Sy.Ret (.bool true) w):=by
 have hE:encMs wkV.msg=msgB wkV.msg:=if_pos wk_ok
 have hC:chkM wkV.msg=0:=if_pos wk_ok
 have hl:=wk_len
 refine Sy.calls_of Sy.lv7 Sy.tab_ok Tryz.func7 rfl _ Tryz.ntmps7 [] [] rfl rfl rfl trivial (V ?_)
 refine Sy.call_r1 ⟨5,1,(msgB wkV.msg).length,(msgB wkV.msg).map encB⟩ (fun j=>.tup [.c (.row j),.c (.v (.int .i64 0))]) Tryz.call9 (fun e a w' h=>by
  have:=fenc_any wkV w' mok_nil (by decide) ⟨by decide,by decide⟩ ⟨by decide,by decide⟩
  rw[hE,hC] at this
  exact this) (V ?_)
 refine Sy.call_memG (fun(x:Dv (msgB wkV.msg)) G w'=>MOk G w' x.m) (fun x=>.tup [.agg (cellsM C.v x.m fun i=>.v (x.m.v i)),.c (.v (.int .i64 0))]) Tryz.call13 (fun x=>tup_lt2 (cells_lt x.one)) (fun _ _ _ _ h hk=>h.keep (fun _ h=>h) hk) (fun e a w' h=>by
  have:=fdec_any _ (msgB wkV.msg) w' (Sy.row_reads h (k:=0) (.inl ⟨_,rfl⟩)) (msgB_by _) (by omega)
  rw[show(decM (msgB wkV.msg)).2=0 by rw[wk_dec]] at this
  exact this) (fun x G=>?_)
 have hx:x.m.msg=wkV.msg:=by rw[x.h,wk_dec]
 have h1:x.m.epoch=2:=congrArg Msg.epoch hx
 have h2:x.m.att=3:=congrArg Msg.att hx
 refine V (Y1 fun hh=>?_)
 exact Sy.fin_val fun e=>by
  show Value.bool (x.m.att==3)=_
  rw[h2];rfl
theorem over_any (m:MsgV)(w:World)(hr:MOk (fun b=>b<w.heap.size) w m):Calls Tryz.prog 8 #[.agg (encM m).toArray] w (Sy.RetEx (fun b:Bool=>b=false->m.il.length<=20) (fun b=>.bool b) w):=by
 refine Sy.calls_of Sy.lv8 Sy.tab_ok Tryz.func8 rfl _ Tryz.ntmps8 (slicesM m) [.agg (cellsM C.v m C.row)] rfl rfl rfl hr.facts ?_
 ((repeat' first|refine Y ?_|refine Y2 ?_ ?_|refine Y1 fun hh=>?_|exact Y0.mk);(all_goals(try conv=>whnf)))
 all_goals try exact Sy.fin_ex true (fun h=>by cases h) (fun e=>rfl)
 refine Sy.loop_inv Sy.tab_ok (fun n:Nat=>[(68,.c (.v (.int .i64 n)))]) (fun _=>[]) (fun n=>n<=m.gl.length) (fun n=>m.gl.length-n) 0 (Nat.zero_le _) ?_ (fun n hn=>?_)
 ·exact Vs0
 by_cases hlt:n<m.gl.length
 ·have hgt:=List.getElem?_eq_getElem hlt
  have hx:=hr.g.2 _ (List.getElem_mem hlt)
  generalize m.gl[n]=x at *
  refine Vo (Y1 fun hh=>?_)
  refine Sy.el_map x hgt (Vo ?_)
  refine open_x _ _ _ (hx) (fun _ h=>h) (Vo (Vj (fun hh=>?_) fun hh=>?_))
  ·exact Sy.fin_ex true (fun h=>by cases h) (fun e=>rfl)
  ·refine⟨n+1,by omega,by omega,?_⟩
   exact Vs0
 refine V (Y1 fun hh=>?_)
 refine Sy.loop_inv Sy.tab_ok (fun n:Nat=>[(82,.c (.v (.int .i64 n)))]) (fun _=>[]) (fun n=>n<=m.il.length) (fun n=>m.il.length-n) 0 (Nat.zero_le _) ?_ (fun n hn=>?_)
 ·exact Vs0
 by_cases hlt:n<m.il.length
 ·have hgt:=List.getElem?_eq_getElem hlt
  have hx:=hr.ir _ (List.getElem_mem hlt)
  generalize m.il[n]=x at *
  refine Vo (Y1 fun hh=>?_)
  refine Sy.el_map x hgt (Vo ?_)
  refine open_x _ _ _ (hx) (fun _ h=>h) (Vo (Vj (fun hh=>?_) fun hh=>?_))
  ·exact Sy.fin_ex true (fun h=>by cases h) (fun e=>rfl)
  ·refine⟨n+1,by omega,by omega,?_⟩
   exact Vs0
 refine V (Y1 fun hh=>?_)
 exact Sy.fin_ex false (fun _=>by omega) (fun e=>rfl)
end Go.Proofs.YtgkkpefpbfadoaaGreat
