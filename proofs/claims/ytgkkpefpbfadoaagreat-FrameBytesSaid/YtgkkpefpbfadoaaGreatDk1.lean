/-
  A symbolic executor for the model's code, second make: 1: values, states, and what it means that a state describes a frame and a world. Conditions: none; nothing here speaks of one program.
-/
import Derived.WalkKit
import Derived.WalkSpells
import Derived.WalkLawsBesides
import Derived.OrdersIn
import Derived.OrdersHeld
import Derived.Deep.MidRow
import Derived.Deep.LoopGhost
import Derived.RangeFuncRecord
import Derived.Maps.AppendAt
import Derived.Great.BuildSlice
import Derived.Lib.AppendZerosOnto
import Derived.Laws.StructEq
namespace Go.Proofs.YtgkkpefpbfadoaaGreat.Sy
open Go Go.RowKit
inductive C where
 |v (x:Value)
 |loc (k off:Nat)
 |row (k:Nat)
 |ep (k i off:Nat)
 |sl (k lo n:Nat)
inductive V1 where
 |c (x:C)
 |agg (cs:List C)
inductive SV where
 |c (x:C)
 |agg (cs:List C)
 |tup (vs:List V1)
 |un
inductive Els where
 |vs (l:List (List Value))
 |cs (l:List (List C))
 |ns (k:Nat) (l:List (Option Nat×List Value))
inductive LSt where
 |ready
 |busy
 |done (c:Code)
inductive Blk where
 |cells (ty:Nat) (cs:List C)
 |row (ety esz n:Nat) (xs:Els)
 |ext (esz n:Nat) (xs:Els)
 |buf (ety esz cap:Nat) (xs:Els)
 |fn (f:Nat) (caps:List C)
 |mv (f:Nat) (first:List C)
 |lrec (j nt:Nat) (ps:List Nat) (as bd:Code) (st:LSt)
 |mp (es:List (Value×Value)) (q:Nat->List Nat->Nat->Prop:=fun _ _ _=>True)
 |mc (ks:List Value) (cs:List C)
 |it (g:Nat) (st:List Nat) (cl:Nat) (left:List Nat) (cur:Option Nat:=none)
 |bag (ety esz:Nat) (l:List (Value×Nat×List (List Value)))
 |dead
structure Env where
 ad:Nat->Nat
 rv:Nat->Value
 ra:Nat->Addr
 es:Nat->Nat
 cp:Nat->Nat
 G:List Nat
def env0:Env:=⟨fun _=>0,fun _=>.slice none 0 0,fun _=>⟨0,0,none⟩,fun _=>0,fun _=>0,[]⟩
def C.den (e:Env):C->Value
 |.v x=>x
 |.loc k off=>.pointer (some ⟨e.ad k,off,none⟩)
 |.row k=>e.rv k
 |.ep k i off=>.pointer (some ((e.ra k).add (i*e.es k+off)))
 |.sl k lo n=>.slice (some ((e.ra k).add (lo*e.es k))) n (e.cp k-lo)
def V1.den (e:Env):V1->Value
 |.c x=>x.den e
 |.agg cs=>.agg (cs.map (C.den e)).toArray
def SV.den (e:Env):SV->Value
 |.c x=>x.den e
 |.agg cs=>.agg (cs.map (C.den e)).toArray
 |.tup vs=>.tuple (vs.map (V1.den e)).toArray
 |.un=>undef
def nsEl (k:Nat)(x:Option Nat×List Value):List C:=(match x.1 with
 |some j=>.ep k j 0
 |none=>.v (.pointer none))::x.2.map C.v
def Els.den (e:Env):Els->List (List Value)
 |.vs l=>l
 |.cs l=>l.map fun c=>c.map (C.den e)
 |.ns k l=>l.map fun x=>(nsEl k x).map (C.den e)
def V1.sv:V1->SV
 |.c x=>.c x
 |.agg cs=>.agg cs
theorem V1.den_sv (e:Env)(x:V1):x.sv.den e=x.den e:=by cases x<;>rfl
def C.lt (n:Nat):C->Bool
 |.v x=>x.oneCell'
 |.loc k _=>Nat.blt k n
 |.row k=>Nat.blt k n
 |.ep k _ _=>Nat.blt k n
 |.sl k _ _=>Nat.blt k n
def ltAll (n:Nat):List C->Bool
 |[]=>true
 |c::r=>match c.lt n with|true=>ltAll n r|false=>false
def V1.lt (n:Nat):V1->Bool
 |.c x=>x.lt n
 |.agg cs=>ltAll n cs
def ltAll1 (n:Nat):List V1->Bool
 |[]=>true
 |c::r=>match c.lt n with|true=>ltAll1 n r|false=>false
def SV.lt (n:Nat):SV->Bool
 |.c x=>x.lt n
 |.agg cs=>ltAll n cs
 |.tup vs=>ltAll1 n vs
 |.un=>true
def Els.lt (n:Nat):Els->Prop
 |.vs l=>∀c∈l,∀u∈c,u.oneCell'=true
 |.cs l=>∀c∈l,ltAll n c=true
 |.ns k l=>k<n/\∀x∈l,∀u∈x.2,u.oneCell'=true
def Blk.lt (n:Nat):Blk->Prop
 |.cells _ cs=>ltAll n cs=true
 |.row _ _ _ xs=>xs.lt n
 |.ext _ _ xs=>xs.lt n
 |.buf _ _ _ xs=>xs.lt n
 |.fn _ cs=>ltAll n cs=true
 |.lrec _ _ _ _ _ _=>True
 |.mp es _=>∀x∈es,x.2.oneCell'=true
 |.mc _ cs=>ltAll n cs=true
 |.mv _ cs=>ltAll n cs=true
 |.it _ _ _ _ _=>True
 |.bag _ _ _=>True
 |.dead=>True
theorem blt_iff {a b:Nat}:Nat.blt a b=true↔a<b:=by simp[Nat.blt,Nat.succ_le_iff]
theorem ltAll_mem {n:Nat}:∀{l:List C},ltAll n l=true->∀c∈l,c.lt n=true
 |[],_,c,hc=>by cases hc
 |x::r,h,c,hc=>by
  unfold ltAll at h
  cases hx:x.lt n with
  |false=>rw[hx] at h;cases h
  |true=>
   rw[hx] at h
   rcases List.mem_cons.1 hc with rfl|hc
   ·exact hx
   ·exact ltAll_mem h c hc
theorem ltAll_of {n:Nat}:∀{l:List C},(∀c∈l,c.lt n=true)->ltAll n l=true
 |[],_=>rfl
 |x::r,h=>by
  unfold ltAll
  rw[h x (by simp)]
  exact ltAll_of fun c hc=>h c (by simp[hc])
theorem ltAll_v {n:Nat}{xs:List Value}(h:∀x∈xs,x.oneCell'=true):ltAll n (xs.map C.v)=true:=ltAll_of fun c hc=>by
 obtain⟨x,hx,rfl⟩:=List.mem_map.1 hc
 exact h x hx
theorem ltAll1_mem {n:Nat}:∀{l:List V1},ltAll1 n l=true->∀c∈l,c.lt n=true
 |[],_,c,hc=>by cases hc
 |x::r,h,c,hc=>by
  unfold ltAll1 at h
  cases hx:x.lt n with
  |false=>rw[hx] at h;cases h
  |true=>
   rw[hx] at h
   rcases List.mem_cons.1 hc with rfl|hc
   ·exact hx
   ·exact ltAll1_mem h c hc
theorem C.lt_mono {n m:Nat}(h:n<=m){c:C}(hc:c.lt n=true):c.lt m=true:=by
 cases c<;>simp only[C.lt] at hc⊢<;>first|exact hc|exact blt_iff.2 (Nat.lt_of_lt_of_le (blt_iff.1 hc) h)
theorem ltAll_mono {n m:Nat}(h:n<=m){l:List C}(hl:ltAll n l=true):ltAll m l=true:=ltAll_of fun c hc=>C.lt_mono h (ltAll_mem hl c hc)
theorem V1.lt_mono {n m:Nat}(h:n<=m){c:V1}(hc:c.lt n=true):c.lt m=true:=by
 cases c with
 |c x=>exact C.lt_mono h hc
 |agg cs=>exact ltAll_mono h hc
theorem ltAll1_of {n:Nat}:∀{l:List V1},(∀c∈l,c.lt n=true)->ltAll1 n l=true
 |[],_=>rfl
 |x::r,h=>by
  unfold ltAll1
  rw[h x (by simp)]
  exact ltAll1_of fun c hc=>h c (by simp[hc])
theorem SV.lt_mono {n m:Nat}(h:n<=m){c:SV}(hc:c.lt n=true):c.lt m=true:=by
 cases c with
 |c x=>exact C.lt_mono h hc
 |agg cs=>exact ltAll_mono h hc
 |tup vs=>exact ltAll1_of fun c hv=>V1.lt_mono h (ltAll1_mem hc c hv)
 |un=>rfl
theorem Els.lt_mono {n m:Nat}(h:n<=m){x:Els}(hx:x.lt n):x.lt m:=by
 cases x with
 |vs l=>exact hx
 |cs l=>exact fun c hc=>ltAll_mono h (hx c hc)
 |ns k l=>exact⟨Nat.lt_of_lt_of_le hx.1 h,hx.2⟩
theorem Blk.lt_mono {n m:Nat}(h:n<=m){b:Blk}(hb:b.lt n):b.lt m:=by
 cases b with
 |cells t cs=>exact ltAll_mono h hb
 |row e z k xs=>exact Els.lt_mono h hb
 |ext z k xs=>exact Els.lt_mono h hb
 |buf e z k xs=>exact Els.lt_mono h hb
 |fn f cs=>exact ltAll_mono h hb
 |lrec j nt ps as bd st=>trivial
 |mp es q=>exact hb
 |mc ks cs=>exact ltAll_mono h hb
 |mv f cs=>exact ltAll_mono h hb
 |it g st cl left cur=>trivial
 |bag a b l=>trivial
 |dead=>trivial
def Env.same (n:Nat)(e e':Env):Prop:=∀k,k<n->e'.ad k=e.ad k/\e'.rv k=e.rv k/\e'.ra k=e.ra k/\e'.es k=e.es k/\e'.cp k=e.cp k
theorem Env.same.refl (n:Nat)(e:Env):Env.same n e e:=fun _ _=>⟨rfl,rfl,rfl,rfl,rfl⟩
theorem Env.same.mono {n m:Nat}{e e':Env}(h:Env.same m e e')(hn:n<=m):Env.same n e e':=fun k hk=>h k (Nat.lt_of_lt_of_le hk hn)
theorem Env.same.trans {n:Nat}{e e' e'':Env}(h:Env.same n e e')(k:Env.same n e' e''):Env.same n e e'':=fun j hj=>
 ⟨(k j hj).1.trans (h j hj).1,(k j hj).2.1.trans (h j hj).2.1,(k j hj).2.2.1.trans (h j hj).2.2.1,(k j hj).2.2.2.1.trans (h j hj).2.2.2.1,(k j hj).2.2.2.2.trans (h j hj).2.2.2.2⟩
theorem Env.same.symm {n:Nat}{e e':Env}(h:Env.same n e e'):Env.same n e' e:=fun j hj=>⟨(h j hj).1.symm,(h j hj).2.1.symm,(h j hj).2.2.1.symm,(h j hj).2.2.2.1.symm,(h j hj).2.2.2.2.symm⟩
theorem C.den_same {n:Nat}{e e':Env}(h:Env.same n e e'){c:C}(hc:c.lt n=true):c.den e'=c.den e:=by
 cases c<;>simp only[C.lt] at hc<;>simp only[C.den]
 ·rw[(h _ (blt_iff.1 hc)).1]
 ·rw[(h _ (blt_iff.1 hc)).2.1]
 ·rw[(h _ (blt_iff.1 hc)).2.2.1,(h _ (blt_iff.1 hc)).2.2.2.1]
 ·rw[(h _ (blt_iff.1 hc)).2.2.1,(h _ (blt_iff.1 hc)).2.2.2.1,(h _ (blt_iff.1 hc)).2.2.2.2]
theorem map_den_same {n:Nat}{e e':Env}(h:Env.same n e e'){l:List C}(hl:ltAll n l=true):l.map (C.den e')=l.map (C.den e):=
 List.map_congr_left fun c hc=>C.den_same h (ltAll_mem hl c hc)
theorem V1.den_same {n:Nat}{e e':Env}(h:Env.same n e e'){c:V1}(hc:c.lt n=true):c.den e'=c.den e:=by
 cases c with
 |c x=>exact C.den_same h hc
 |agg cs=>simp only[V1.den,map_den_same h hc]
theorem SV.den_same {n:Nat}{e e':Env}(h:Env.same n e e'){c:SV}(hc:c.lt n=true):c.den e'=c.den e:=by
 cases c with
 |c x=>exact C.den_same h hc
 |agg cs=>simp only[SV.den,map_den_same h hc]
 |tup vs=>
  simp only[SV.den]
  rw[List.map_congr_left fun c hv=>V1.den_same h (ltAll1_mem hc c hv)]
 |un=>rfl
theorem nsEl_lt {n k:Nat}(hk:k<n){x:Option Nat×List Value}(hx:∀u∈x.2,u.oneCell'=true):ltAll n (nsEl k x)=true:=ltAll_of fun c hc=>by
 unfold nsEl at hc
 rcases List.mem_cons.1 hc with rfl|hc
 ·cases x.1 with
  |none=>rfl
  |some j=>exact blt_iff.2 hk
 ·exact ltAll_mem (ltAll_v hx) c hc
theorem Els.den_same {n:Nat}{e e':Env}(h:Env.same n e e'){x:Els}(hx:x.lt n):x.den e'=x.den e:=by
 cases x with
 |vs l=>rfl
 |cs l=>exact List.map_congr_left fun c hc=>map_den_same h (hx c hc)
 |ns k l=>exact List.map_congr_left fun x hc=>map_den_same h (nsEl_lt hx.1 (hx.2 x hc))
theorem C.one_of {n:Nat}{e:Env}(ho:∀k,(e.rv k).oneCell'=true){c:C}(h:c.lt n=true):(c.den e).oneCell'=true:=by
 cases c with
 |v x=>exact h
 |loc k off=>rfl
 |row k=>exact ho k
 |ep k i off=>rfl
 |sl k lo n=>rfl
theorem Els.one_of {n:Nat}{e:Env}(ho:∀k,(e.rv k).oneCell'=true){x:Els}(h:x.lt n):∀c∈x.den e,∀u∈c,u.oneCell'=true:=by
 cases x with
 |vs l=>exact h
 |cs l=>
  intro c hc u hu
  obtain⟨c',hc',rfl⟩:=List.mem_map.1 hc
  obtain⟨d,hd,rfl⟩:=List.mem_map.1 hu
  exact C.one_of ho (ltAll_mem (h c' hc') d hd)
 |ns k l=>
  intro c hc u hu
  obtain⟨x,hx,rfl⟩:=List.mem_map.1 hc
  obtain⟨d,hd,rfl⟩:=List.mem_map.1 hu
  exact C.one_of ho (ltAll_mem (nsEl_lt h.1 (h.2 x hx)) d hd)
def get {α:Type}:List (Nat×α)->Nat->Option α
 |[],_=>none
 |(k,v)::r,i=>match Nat.beq k i with|true=>some v|false=>get r i
theorem get_same {α:Type}(k:Nat)(v:α)(r:List (Nat×α)):get ((k,v)::r) k=some v:=by simp[get]
theorem get_other {α:Type}{k i:Nat}(h:k≠i)(v:α)(r:List (Nat×α)):get ((k,v)::r) i=get r i:=by
 have:Nat.beq k i=false:=by
  cases hb:Nat.beq k i with
  |false=>rfl
  |true=>exact absurd (Nat.eq_of_beq_eq_true hb) h
 simp[get,this]
theorem get_cons {α:Type}{k i:Nat}{v u:α}{r:List (Nat×α)}(h:get ((k,v)::r) i=some u):(k=i/\u=v)\/(k≠i/\get r i=some u):=by
 by_cases hk:k=i
 ·subst hk
  rw[get_same] at h
  exact .inl ⟨rfl,by injection h with h;exact h.symm⟩
 ·rw[get_other hk] at h
  exact .inr ⟨hk,h⟩
theorem mem_of_get {α:Type}:∀{l:List (Nat×α)}{k:Nat}{v:α},get l k=some v->(k,v)∈l
 |[],k,v,h=>by cases h
 |(j,u)::r,k,v,h=>by
  rcases get_cons h with⟨rfl,rfl⟩|⟨_,h⟩
  ·simp
  ·exact List.mem_cons_of_mem _ (mem_of_get h)
structure TI where
 d:TypeDesc
 size:Nat
 bytes:Nat
 zero:Value
 eqok:Bool:=false
abbrev Tab:=List (Nat×TI)
def rowB:TypeDesc->Bool
 |.struct _=>true
 |.array _ _=>true
 |_=>false
def TIok (P:Program)(t:Nat)(i:TI):Prop:=P.underlying t=some i.d/\(P.info? t).map (fun j=>(j.zero,j.size,j.bytes))=some (some i.zero,i.size,i.bytes)/\
 (i.eqok=true->P.eqGuardType P.depth t=false/\P.stoodInHeld t=false/\(P.fieldsOf t).toList.all (fun f=>!(f.name== "_"))=true)/\(rowB i.d=false->i.size=1)
theorem tiok {P:Program}{t:Nat}{i:TI}(h1:P.underlying t=some i.d)(h2:(P.info? t).map (fun j=>(j.zero,j.size,j.bytes))=some (some i.zero,i.size,i.bytes))(h3:i.eqok=true->P.eqGuardType P.depth t=false/\P.stoodInHeld t=false/\(P.fieldsOf t).toList.all (fun f=>!(f.name== "_"))=true)(h4:rowB i.d=false->i.size=1):TIok P t i:=⟨h1,h2,h3,h4⟩
def TabOk (P:Program):Tab->Prop
 |[]=>True
 |(t,i)::r=>TIok P t i/\TabOk P r
theorem TabOk.at {P:Program}:∀{T:Tab},TabOk P T->∀{t:Nat}{i:TI},get T t=some i->TIok P t i
 |[],_,t,i,h=>by cases h
 |(u,j)::r,h,t,i,hg=>by
  rcases get_cons hg with⟨rfl,rfl⟩|⟨_,hg⟩
  ·exact h.1
  ·exact TabOk.at h.2 hg
theorem TabOk.get {P:Program}{T:Tab}(h:TabOk P T){t:Nat}{i:TI}(hg:get T t=some i):P.underlying t=some i.d/\∃j,P.info? t=some j/\j.zero=some i.zero/\j.size=i.size/\j.bytes=i.bytes/\
 (i.eqok=true->P.eqGuardType P.depth t=false/\P.stoodInHeld t=false/\(P.fieldsOf t).toList.all (fun f=>!(f.name== "_"))=true):=by
 obtain⟨h1,h2,h3,_⟩:=h.at hg
 refine⟨h1,?_⟩
 cases hp:P.info? t with
 |none=>rw[hp] at h2;cases h2
 |some q=>
  rw[hp] at h2
  simp only[Option.map_some,Option.some.injEq,Prod.mk.injEq] at h2
  exact⟨q,rfl,h2.1,h2.2.1,h2.2.2,h3⟩
theorem TabOk.one {P:Program}{T:Tab}(h:TabOk P T){t:Nat}{i:TI}(hg:Sy.get T t=some i)(hr:rowB i.d=false):i.size=1:=(h.at hg).2.2.2 hr
structure St where
 fr:List (Nat×SV)
 H:List (Nat×Blk)
 nx:Nat
 F:Nat->Prop
 E:World->Prop
 g:List (List (Nat×SV)):=[]
structure Cx where
 P:Program
 T:Tab
 w0:World
 nt:Nat
 rd:Option Nat:=none
 gh:List Act:=[]
 own:Nat->Prop:=fun _=>False
 n0:Nat:=0
 e0:Env:=env0
 pins:List (Nat×Nat):=[]
 lv:List (Nat×List Nat):=[]
 lvg:List (List (Nat×List Nat)):=[]
def fenOf:Option Nat->Fence
 |none=>Fence.wide
 |some l=>Fence.wide.inRound l
def Cx.fen (X:Cx):Fence:=fenOf X.rd
theorem fen_fn (r:Option Nat)(f:Nat):(fenOf r).fn f:=by cases r<;>trivial
theorem fen_depth (r:Option Nat):(fenOf r).depth.isSome=true->∀n,1<=n:=by cases r<;>intro h<;>cases h
theorem addr_block (a:Addr)(n:Nat):(a.add n).block=a.block:=by unfold Addr.add;split<;>rfl
theorem addr_add (a:Addr)(i j:Nat):(a.add i).add j=a.add (i+j):=by
 unfold Addr.add
 by_cases hi:i=0<;>by_cases hj:j=0<;>simp[hi,hj,Nat.add_assoc]
theorem addr_mid (b i:Nat):(⟨b,0,none⟩:Addr).add i=⟨b,i,none⟩:=by rw[Addr.add_mid,Nat.zero_add]
theorem flat_len {α:Type}{sz:Nat}:∀{xs:List (List α)},(∀c∈xs,c.length=sz)->xs.flatten.length=xs.length*sz
 |[],_=>by simp
 |x::r,h=>by
  rw[List.flatten_cons,List.length_append,h x (by simp),flat_len (fun c hc=>h c (by simp[hc])),List.length_cons,Nat.add_mul,Nat.one_mul,Nat.add_comm]
theorem flat_get {α:Type}{sz:Nat}:∀{xs:List (List α)},(∀c∈xs,c.length=sz)->∀{i o:Nat}{c:List α}{u:α},xs[i]?=some c->c[o]?=some u->xs.flatten[i*sz+o]?=some u
 |[],_,i,o,c,u,hc,_=>by simp at hc
 |x::r,h,i,o,c,u,hc,hu=>by
  have hx:=h x (by simp)
  cases i with
  |zero=>
   simp only[List.getElem?_cons_zero,Option.some.injEq] at hc
   subst hc
   have:=(List.getElem?_eq_some_iff.1 hu).1
   rw[List.flatten_cons,List.getElem?_append_left (by omega),Nat.zero_mul,Nat.zero_add];exact hu
  |succ i=>
   rw[List.getElem?_cons_succ] at hc
   rw[List.flatten_cons,List.getElem?_append_right (by rw[hx,Nat.add_mul];omega),hx,show(i+1)*sz+o-sz=i*sz+o by rw[Nat.add_mul];omega]
   exact flat_get (fun c hc=>h c (by simp[hc])) hc hu
theorem flat_take {α:Type}{sz:Nat}:∀{xs:List (List α)},(∀c∈xs,c.length=sz)->∀n,(xs.take n).flatten=xs.flatten.take (n*sz)
 |[],_,n=>by simp
 |x::r,h,0=>by simp
 |x::r,h,n+1=>by
  have hx:=h x (by simp)
  rw[List.take_succ_cons,List.flatten_cons,List.flatten_cons,flat_take (fun c hc=>h c (by simp[hc])) n,List.take_append,hx,List.take_of_length_le (l:=x) (by rw[hx,Nat.add_mul];omega),show(n+1)*sz-sz=n*sz by rw[Nat.add_mul];omega]
theorem flat_drop {α:Type}{sz:Nat}:∀{xs:List (List α)},(∀c∈xs,c.length=sz)->∀n,(xs.drop n).flatten=xs.flatten.drop (n*sz)
 |[],_,n=>by simp
 |x::r,h,0=>by simp
 |x::r,h,n+1=>by
  have hx:=h x (by simp)
  rw[List.drop_succ_cons,List.flatten_cons,flat_drop (fun c hc=>h c (by simp[hc])) n,List.drop_append,hx,List.drop_eq_nil_of_le (as:=x) (by rw[hx,Nat.add_mul];omega),List.nil_append,show(n+1)*sz-sz=n*sz by rw[Nat.add_mul];omega]
def ReadsE (F:Nat->Prop)(w:World)(size:Nat)(v:Value)(n:Nat)(xs:List (List Value)):Prop:=
 xs.length=n/\(∀c∈xs,c.length=size)/\∃A c,v=.slice A n c/\n<=c/\c<=maxLen/\(0<n->∃a,A=some a/\F a.block/\∀j u,xs.flatten[j]?=some u->w.cell? (a.add j)=some u)
theorem ReadsE.keep {F F':Nat->Prop}{w w':World}{size n:Nat}{v:Value}{xs:List (List Value)}(h:ReadsE F w size v n xs)(hF:∀b,F b->F' b)(hk:∀b,F b->w'.heap[b]?=w.heap[b]?):ReadsE F' w' size v n xs:=by
 obtain⟨hl,hs,A,c,hv,h1,h2,h3⟩:=h
 refine⟨hl,hs,A,c,hv,h1,h2,fun hn=>?_⟩
 obtain⟨a,ha,hb,hc⟩:=h3 hn
 exact⟨a,ha,hF _ hb,fun j u hu=>(World.cell?_of_block (hk _ (by rw[addr_block];exact hb))).trans (hc j u hu)⟩
theorem ReadsE.one {F:Nat->Prop}{w:World}{size n:Nat}{v:Value}{xs:List (List Value)}(h:ReadsE F w size v n xs):v.oneCell'=true:=by
 obtain⟨_,_,A,c,hv,_⟩:=h
 rw[hv];rfl
def OwnB (w:World)(ety esz g cap:Nat)(xs:List (List Value)):Prop:=
 (∀c∈xs,c.length=esz)/\xs.length<=cap/\cap<=maxLen/\0<cap/\∃cur,w.heap[g]?=some (.cells cur ety (0,0))/\cur.size=cap*esz/\cur.toList.take (xs.length*esz)=xs.flatten/\∀u∈cur.toList,u.oneCell'=true
def OwnE (w:World)(ety esz:Nat)(v:Value)(n:Nat)(xs:List (List Value)):Prop:=
 xs.length=n/\(∀c∈xs,c.length=esz)/\((∃A,v=.slice A 0 0/\n=0)\/∃g cap,v=.slice (some ⟨g,0,none⟩) n cap/\OwnB w ety esz g cap xs)
theorem OwnB.keep {w w':World}{ety esz g cap:Nat}{xs:List (List Value)}(h:OwnB w ety esz g cap xs)(hk:w'.heap[g]?=w.heap[g]?):OwnB w' ety esz g cap xs:=by
 obtain⟨h1,h2,h3,h4,cur,h5,r⟩:=h
 exact⟨h1,h2,h3,h4,cur,hk.trans h5,r⟩
theorem OwnB.lt {w:World}{ety esz g cap:Nat}{xs:List (List Value)}(h:OwnB w ety esz g cap xs):g<w.heap.size:=by
 obtain⟨_,_,_,_,cur,h5,_⟩:=h
 exact(Array.getElem?_eq_some_iff.1 h5).1
theorem OwnB.cells {w:World}{ety esz g cap:Nat}{xs:List (List Value)}(h:OwnB w ety esz g cap xs):∀j u,xs.flatten[j]?=some u->w.cell? ⟨g,j,none⟩=some u:=by
 obtain⟨h1,h2,h3,h4,cur,h5,h6,h7,_⟩:=h
 intro j u hu
 rw[<-h7,List.getElem?_take] at hu
 rw[cell_of_row w g j cur ety (0,0) h5]
 split at hu
 ·simpa using hu
 ·cases hu
def rfoot (v:Value)(x:Nat):Prop:=∃p n c,v=.slice (some p) n c/\0<c/\p.block=x
theorem OwnE.keep {w w':World}{ety esz n:Nat}{v:Value}{xs:List (List Value)}(h:OwnE w ety esz v n xs)(hk:∀x,rfoot v x->w'.heap[x]?=w.heap[x]?):OwnE w' ety esz v n xs:=by
 obtain⟨h1,h2,h3⟩:=h
 refine⟨h1,h2,?_⟩
 rcases h3 with h3|⟨g,cap,hv,hb⟩
 ·exact .inl h3
 ·have hc:=hb.2.2.2.1
  exact .inr ⟨g,cap,hv,hb.keep (hk g ⟨_,_,_,hv,hc,rfl⟩)⟩
theorem OwnE.lt {w:World}{ety esz n:Nat}{v:Value}{xs:List (List Value)}(h:OwnE w ety esz v n xs){x:Nat}(hx:rfoot v x):x<w.heap.size:=by
 obtain⟨p,m,c,hv,hc,rfl⟩:=hx
 rcases h.2.2 with⟨A,hv',_⟩|⟨g,cap,hv',hb⟩
 ·rw[hv'] at hv;injection hv with _ _ h3;omega
 ·rw[hv'] at hv;injection hv with h1;injection h1 with h1;rw[<-h1];exact hb.lt
theorem OwnE.one {w:World}{ety esz n:Nat}{v:Value}{xs:List (List Value)}(h:OwnE w ety esz v n xs):v.oneCell'=true:=by
 rcases h.2.2 with⟨A,hv',_⟩|⟨g,cap,hv',hb⟩<;>rw[hv']<;>rfl
def LSt.state:LSt->LoopState
 |.ready=>.ready
 |.busy=>.busy
 |.done _=>.done
def LSt.pend:LSt->Option Code
 |.done c=>some c
 |_=>none
def recOf (f:FuncId)(tmps:Array Value)(ps:List Nat)(as bd:Code)(D:Nat)(st:LSt):Loop:={state:=st.state,pending:=st.pend,fn:=f,tmps:=tmps,params:=ps.toArray,assign:=as,body:=bd,defers:=D}
def Blk.holds (F:Nat->Prop)(X:Cx)(e:Env)(k:Nat)(w:World):Blk->Prop
 |.cells ty cs=>w.heap[e.ad k]?=some (.cells (cs.map (C.den e)).toArray ty (0,0))
 |.row ety esz n xs=>OwnE w ety esz (e.rv k) n (xs.den e)/\e.es k=esz/\∀p l c,e.rv k=.slice (some p) l c->e.ra k=p
 |.ext esz n xs=>ReadsE F w esz (e.rv k) n (xs.den e)/\e.es k=esz/\∀p l c,e.rv k=.slice (some p) l c->e.ra k=p
 |.buf ety esz cap xs=>OwnB w ety esz (e.ad k) cap (xs.den e)/\e.es k=esz/\e.cp k=cap/\e.ra k=⟨e.ad k,0,none⟩
 |.fn f cs=>e.rv k=.func (.func f) #[] (cs.map (C.den e)).toArray
 |.mv f cs=>e.rv k=.func (.func f) (cs.map (C.den e)).toArray #[]
 |.lrec j nt ps as bd st=>e.rv k=.func (.yield (e.ad k)) #[] #[]/\∃b f D,X.gh.reverse[j]?=some b/\b.tmps.size=nt/\w.heap[e.ad k]?=some (.loop (recOf f b.tmps ps as bd D st))
 |.mp es q=>e.rv k=.map (some (e.ad k))/\∃en cl,w.heap[e.ad k]?=some (.map en cl)/\en.toList.map (fun x=>(x.key,x.val))=es/\(en.toList.map (·.born)).Nodup/\(∀b∈en.toList.map (·.born),b<cl)/\q (e.ad k) (en.toList.map (·.born)) cl
 |.mc ks cs=>e.rv k=.map (some (e.ad k))/\∃en cl,w.heap[e.ad k]?=some (.map en cl)/\en.toList.map (·.key)=ks/\en.toList.map (·.val)=cs.map (C.den e)
 |.it g st cl left cur=>∃seen last,w.heap[e.ad k]?=some (.mapIter (some g) cl seen last)/\cl<=last/\(∀i b,st[i]?=some b->(seen.contains b=false↔i∈left))/\(∀i,i∈left->i<st.length)/\∀i,cur=some i->last=cl/\∃b,seen.back?=some b/\st[i]?=some b
 |.bag ety esz l=>(∀x∈l,OwnE w ety esz x.1 x.2.1 x.2.2)/\l.Pairwise fun x y=>∀b,rfoot x.1 b->¬rfoot y.1 b
 |.dead=>True
def Blk.foot (e:Env)(k:Nat):Blk->Nat->Prop
 |.cells _ _,x=>x=e.ad k
 |.row _ _ _ _,x=>rfoot (e.rv k) x
 |.buf _ _ _ _,x=>x=e.ad k
 |.lrec _ _ _ _ _ _,x=>x=e.ad k
 |.mp _ _,x=>x=e.ad k
 |.mc _ _,x=>x=e.ad k
 |.it _ _ _ _ _,x=>x=e.ad k
 |.bag _ _ l,x=>∃y∈l,rfoot y.1 x
 |_,_=>False
structure Bel (own:Nat->Prop)(w w':World):Prop where
 os:w'.os=w.os
 tape:w'.tape=w.tape
 output:w'.output=w.output
 size:w.heap.size<=w'.heap.size
 block:∀k,k<w.heap.size->¬own k->w'.heap[k]?=w.heap[k]?
theorem Bel.below {w w':World}(h:Bel (fun _=>False) w w'):Below w.heap.size w w':=⟨h.os,h.tape,h.output,h.size,fun k hk=>h.block k hk (fun h=>h)⟩
def markOf (D:Nat):Deferred:={target:=.collected D,args:=#[]}
structure Rep (X:Cx)(e:Env)(S:St)(a:Act)(w:World):Prop where
 sz:a.tmps.size=X.nt
 fr:∀t v,get S.fr t=some v->a.tmps[t]?=some (v.den e)
 frlt:∀t v,get S.fr t=some v->v.lt S.nx=true
 hp:∀k b,get S.H k=some b->b.holds S.F X e k w
 hlt:∀k b,get S.H k=some b->k<S.nx/\b.lt S.nx
 sep:∀k k' b b' x,get S.H k=some b->get S.H k'=some b'->k≠k'->b.foot e k x->b'.foot e k' x->False
 ff:∀k b x,get S.H k=some b->b.foot e k x->¬S.F x
 bel:Bel X.own X.w0 w
 fl:∀x,S.F x->x<w.heap.size
 f0:∀x,x<X.w0.heap.size->¬X.own x->S.F x
 ev:∀w',(∀x,S.F x->w'.heap[x]?=w.heap[x]?)->S.E w'
 one:∀k,(e.rv k).oneCell'=true
 gl:∀(i:Nat)(fr:List (Nat×SV)),S.g[i]?=some fr->∃b:Act,X.gh[i]?=some b/\∀(t:Nat)(v:SV),get fr t=some v->b.tmps[t]?=some (v.den e)/\v.lt S.nx=true
 glen:S.g.length=X.gh.length
 mkd:(a::X.gh).flatMap (·.defers)=e.G.map markOf
 mnd:e.G.Nodup
 mks:∀D∈e.G,w.heap[D]?=some (.deferred (some []))/\¬S.F D/\∀k b,get S.H k=some b->¬b.foot e k D
 es:Env.same X.n0 X.e0 e
 n0:X.n0<=S.nx
 pin:∀p∈X.pins,e.ad p.1=p.2/\p.1<S.nx
 rdm:X.rd.isSome=true->a.defers=[]
structure RepV (X:Cx)(e:Env)(S:St)(a:Act)(w:World):Prop where
 fr:∀t v,get S.fr t=some v->a.tmps[t]?=some (v.den e)
 frlt:∀t v,get S.fr t=some v->v.lt S.nx=true
 hp:∀k b,get S.H k=some b->∃F,b.holds F X e k w
 hlt:∀k b,get S.H k=some b->k<S.nx/\b.lt S.nx
 one:∀k,(e.rv k).oneCell'=true
theorem Rep.v {X:Cx}{e:Env}{S:St}{a:Act}{w:World}(h:Rep X e S a w):RepV X e S a w:=⟨h.fr,h.frlt,fun k b hk=>⟨_,h.hp k b hk⟩,h.hlt,h.one⟩
theorem Blk.foot_lt {F:Nat->Prop}{X:Cx}{e:Env}{k x:Nat}{w:World}{b:Blk}(h:b.holds F X e k w)(hx:b.foot e k x):x<w.heap.size:=by
 cases b with
 |cells ty cs=>
  have hx:x=e.ad k:=hx
  subst hx
  exact(Array.getElem?_eq_some_iff.1 h).1
 |row ety esz n xs=>exact h.1.lt hx
 |ext esz n xs=>exact hx.elim
 |buf ety esz cap xs=>
  have hx:x=e.ad k:=hx
  subst hx
  exact h.1.lt
 |fn f cs=>exact hx.elim
 |mv f cs=>exact hx.elim
 |lrec j nt ps as bd st=>
  have hx:x=e.ad k:=hx
  subst hx
  obtain⟨_,b,f,D,_,_,h⟩:=h
  exact(Array.getElem?_eq_some_iff.1 h).1
 |mp es q=>
  have hx:x=e.ad k:=hx
  subst hx
  obtain⟨_,en,cl,h,_⟩:=h
  exact(Array.getElem?_eq_some_iff.1 h).1
 |mc ks cs=>
  have hx:x=e.ad k:=hx
  subst hx
  obtain⟨_,en,cl,h,_⟩:=h
  exact(Array.getElem?_eq_some_iff.1 h).1
 |it g st cl left cur=>
  have hx:x=e.ad k:=hx
  subst hx
  obtain⟨seen,last,h,_⟩:=h
  exact(Array.getElem?_eq_some_iff.1 h).1
 |bag ety esz l=>
  obtain⟨y,hy,hx⟩:=hx
  exact(h.1 y hy).lt hx
 |dead=>exact hx.elim
theorem Rep.foot_lt {X:Cx}{e:Env}{S:St}{a:Act}{w:World}(h:Rep X e S a w){k x:Nat}{b:Blk}(hk:get S.H k=some b)(hx:b.foot e k x):x<w.heap.size:=Blk.foot_lt (h.hp k b hk) hx
theorem Rep.foot_new {X:Cx}{e:Env}{S:St}{a:Act}{w:World}(h:Rep X e S a w){k x:Nat}{b:Blk}(hk:get S.H k=some b)(hx:b.foot e k x)(ho:¬X.own x):X.w0.heap.size<=x:=by
 rcases Nat.lt_or_ge x X.w0.heap.size with hl|hg
 ·exact absurd (h.f0 x hl ho) (h.ff k b x hk hx)
 ·exact hg
theorem Blk.holds_keep {F F':Nat->Prop}{X:Cx}{e e':Env}{k n:Nat}{w w':World}{b:Blk}(h:b.holds F X e k w)(hs:Env.same n e e')(hkn:k<n)(hlt:b.lt n)
 (hF:∀x,F x->F' x)(hf:∀x,b.foot e k x->w'.heap[x]?=w.heap[x]?)(hk:∀x,F x->w'.heap[x]?=w.heap[x]?):b.holds F' X e' k w':=by
 obtain⟨s1,s2,s3,s4,s5⟩:=hs k hkn
 cases b with
 |cells ty cs=>
  show w'.heap[e'.ad k]?=some (.cells (cs.map (C.den e')).toArray ty (0,0))
  rw[s1,map_den_same hs hlt,hf _ rfl]
  exact h
 |row ety esz n' xs=>
  refine⟨?_,by rw[s4];exact h.2.1,by rw[s2,s3];exact h.2.2⟩
  rw[s2,Els.den_same hs hlt]
  exact h.1.keep hf
 |ext esz n' xs=>
  refine⟨?_,by rw[s4];exact h.2.1,by rw[s2,s3];exact h.2.2⟩
  rw[s2,Els.den_same hs hlt]
  exact ReadsE.keep h.1 hF hk
 |buf ety esz cap xs=>
  refine⟨?_,by rw[s4];exact h.2.1,by rw[s5];exact h.2.2.1,by rw[s1,s3];exact h.2.2.2⟩
  rw[s1,Els.den_same hs hlt]
  exact h.1.keep (hf _ rfl)
 |fn f cs=>
  show e'.rv k=.func (.func f) #[] (cs.map (C.den e')).toArray
  rw[s2,map_den_same hs hlt]
  exact h
 |mv f cs=>
  show e'.rv k=.func (.func f) (cs.map (C.den e')).toArray #[]
  rw[s2,map_den_same hs hlt]
  exact h
 |lrec j nt ps as bd st=>
  obtain⟨h1,b,f,D,h2,h3,h4⟩:=h
  refine⟨by rw[s1,s2];exact h1,b,f,D,h2,h3,?_⟩
  rw[s1,hf _ rfl]
  exact h4
 |mp es q=>
  obtain⟨h1,en,cl,h2,h3⟩:=h
  refine⟨by rw[s1,s2];exact h1,en,cl,?_,by rw[s1];exact h3⟩
  rw[s1,hf _ rfl]
  exact h2
 |mc ks cs=>
  obtain⟨h1,en,cl,h2,h3,h4⟩:=h
  refine⟨by rw[s1,s2];exact h1,en,cl,?_,h3,by rw[map_den_same hs hlt];exact h4⟩
  rw[s1,hf _ rfl]
  exact h2
 |it g st cl left cur=>
  obtain⟨seen,last,h2,h3⟩:=h
  refine⟨seen,last,?_,h3⟩
  rw[s1,hf _ rfl]
  exact h2
 |bag ety esz l=>exact⟨fun x hx=>(h.1 x hx).keep fun b hb=>hf b ⟨x,hx,hb⟩,h.2⟩
 |dead=>trivial
theorem Blk.foot_same {e e':Env}{k n x:Nat}{b:Blk}(hs:Env.same n e e')(hkn:k<n)(h:b.foot e' k x):b.foot e k x:=by
 obtain⟨s1,s2,s3,s4,s5⟩:=hs k hkn
 cases b with
 |cells ty cs=>exact Eq.trans (b:=e'.ad k) h s1
 |row ety esz n' xs=>show rfoot (e.rv k) x;rw[<-s2];exact h
 |ext esz n' xs=>exact h
 |buf ety esz cap xs=>exact Eq.trans (b:=e'.ad k) h s1
 |fn f cs=>exact h
 |mv f cs=>exact h
 |lrec j nt ps as bd st=>exact Eq.trans (b:=e'.ad k) h s1
 |mp es q=>exact Eq.trans (b:=e'.ad k) h s1
 |mc ks cs=>exact Eq.trans (b:=e'.ad k) h s1
 |it g st cl left cur=>exact Eq.trans (b:=e'.ad k) h s1
 |bag ety esz l=>exact h
 |dead=>exact h
section
variable {X : Cx} {e : Env} {S : St} {a : Act} {w : World}
def Kept (e:Env)(S:St)(k0:Nat)(x:Nat):Prop:=S.F x\/(∃k b,get S.H k=some b/\k≠k0/\b.foot e k x)\/x∈e.G
theorem Rep.kept_lt (h:Rep X e S a w){k0 x:Nat}(hx:Kept e S k0 x):x<w.heap.size:=by
 rcases hx with hx|⟨k,b,hk,_,hx⟩|hx
 ·exact h.fl x hx
 ·exact h.foot_lt hk hx
 ·exact(Array.getElem?_eq_some_iff.1 (h.mks x hx).1).1
theorem Rep.not_kept (h:Rep X e S a w){k x:Nat}{b:Blk}(hk:get S.H k=some b)(hx:b.foot e k x):¬Kept e S k x:=by
 rintro(hf|⟨k',b',hk',hne,hf⟩|hf)
 ·exact h.ff k b x hk hx hf
 ·exact h.sep k' k b' b x hk' hk hne hf hx
 ·exact(h.mks x hf).2.2 k b hk hx
theorem Rep.not_kept_new (h:Rep X e S a w){k0 x:Nat}(hx:w.heap.size<=x):¬Kept e S k0 x:=fun hk=>by
 have:=h.kept_lt hk;omega
theorem Rep.drawn (h:Rep X e S a w)(n:Nat):Rep X e S a {w with drawn:=n}:=
 {h with hp:=fun k b hk=>Blk.holds_keep (h.hp k b hk) (Env.same.refl S.nx e) (h.hlt k b hk).1 (h.hlt k b hk).2 (fun _ h=>h) (fun _ _=>rfl) (fun _ _=>rfl),bel:=⟨h.bel.os,h.bel.tape,h.bel.output,h.bel.size,h.bel.block⟩,fl:=h.fl,ev:=fun w' hw=>h.ev w' hw,mks:=h.mks}
def St.put (S:St)(d:Option Nat)(v:SV):St:=match d with
 |some t=>(match S with|⟨fr,H,nx,F,E,g⟩=>⟨(t,v)::fr,H,nx,F,E,g⟩)
 |none=>S
def St.setH (S:St)(k:Nat)(b:Blk):St:=match S with|⟨fr,H,nx,F,E,g⟩=>⟨fr,(k,b)::H,nx,F,E,g⟩
def St.onlyH (S:St)(H':List (Nat×Blk)):St:=match S with|⟨fr,_,nx,F,E,g⟩=>⟨fr,H',nx,F,E,g⟩
def St.new (S:St)(b:Blk):St:=match S with|⟨fr,H,nx,F,E,g⟩=>⟨fr,(nx,b)::H,nx+1,F,E,g⟩
def dstOk (n:Nat):Option Nat->Bool
 |some t=>Nat.blt t n
 |none=>true
theorem Rep.put (h:Rep X e S a w){d:Option Nat}{v:SV}(hd:dstOk X.nt d=true)(hv:v.lt S.nx=true):Rep X e (S.put d v) (a.put d (v.den e)) w:=by
 cases d with
 |none=>exact h
 |some t=>
  have ht:t<X.nt:=blt_iff.1 hd
  refine{h with sz:=by simpa[Act.put] using h.sz,fr:=fun i u hi=>?_,frlt:=fun i u hi=>?_}
  ·rcases get_cons hi with⟨rfl,rfl⟩|⟨hne,hi⟩
   ·have:=h.sz
    simp[Act.put,this,ht]
   ·have:=h.fr i u hi
    simp[Act.put,hne,this]
  ·rcases get_cons hi with⟨rfl,rfl⟩|⟨_,hi⟩
   ·exact hv
   ·exact h.frlt i u hi
def pick {α:Type}(fr:List (Nat×α)):List Nat->List (Nat×α)
 |[]=>[]
 |t::r=>(match get fr t with
  |some v=>(t,v)::pick fr r
  |none=>pick fr r)
theorem pick_get {α:Type}{fr:List (Nat×α)}:∀{l:List Nat}{t:Nat}{v:α},get (pick fr l) t=some v->get fr t=some v
 |[],t,v,h=>by cases h
 |u::r,t,v,h=>by
  unfold pick at h
  split at h
  ·rename_i x hx
   rcases get_cons h with⟨rfl,rfl⟩|⟨_,h⟩
   ·exact hx
   ·exact pick_get h
  ·exact pick_get h
def St.prune (S:St)(l:Option (List Nat)):St:=match l with
 |some l=>(match S with|⟨fr,H,nx,F,E,g⟩=>⟨pick fr l,H,nx,F,E,g⟩)
 |none=>S
theorem Rep.prune (h:Rep X e S a w)(l:Option (List Nat)):Rep X e (S.prune l) a w:=by
 cases l with
 |none=>exact h
 |some l=>exact{h with fr:=fun t v hv=>h.fr t v (pick_get hv),frlt:=fun t v hv=>h.frlt t v (pick_get hv)}
theorem Rep.step {e':Env}{w':World}{k0:Nat}{b0:Blk}{nx':Nat}(h:Rep X e S a w)(hs:Env.same S.nx e e')(hG:e'.G=e.G)(hnx:S.nx<=nx')(hk0:k0<nx')(hb0:b0.lt nx')
 (hos:w'.os=w.os)(htape:w'.tape=w.tape)(hout:w'.output=w.output)(hsize:w.heap.size<=w'.heap.size)
 (hrest:∀x,Kept e S k0 x->w'.heap[x]?=w.heap[x]?)
 (hone:∀k,(e'.rv k).oneCell'=true)(hnew:b0.holds S.F X e' k0 w')(hfoot:∀x,b0.foot e' k0 x->¬Kept e S k0 x):
 Rep X e' {S with H:=(k0,b0)::S.H,nx:=nx'} a w':=by
 have hF:∀x,S.F x->w'.heap[x]?=w.heap[x]?:=fun x hx=>hrest x (.inl hx)
 refine⟨h.sz,fun t v ht=>?_,fun t v ht=>SV.lt_mono hnx (h.frlt t v ht),fun k b hk=>?_,fun k b hk=>?_,fun k k' b b' x hk hk' hne hx hx'=>?_,fun k b x hk hx=>?_,?_,fun x hx=>Nat.lt_of_lt_of_le (h.fl x hx) hsize,h.f0,fun w'' hw=>h.ev w'' fun x hx=>(hw x hx).trans (hF x hx),hone,fun i fr hi=>?_,h.glen,by rw[hG];exact h.mkd,by rw[hG];exact h.mnd,fun D hD=>?_,h.es.trans (hs.mono h.n0),Nat.le_trans h.n0 hnx,fun p hp=>⟨(hs _ (h.pin p hp).2).1.trans (h.pin p hp).1,Nat.lt_of_lt_of_le (h.pin p hp).2 hnx⟩,h.rdm⟩
 ·rw[SV.den_same hs (h.frlt t v ht)]
  exact h.fr t v ht
 ·rcases get_cons hk with⟨rfl,rfl⟩|⟨hne,hk⟩
  ·exact hnew
  ·exact Blk.holds_keep (h.hp k b hk) hs (h.hlt k b hk).1 (h.hlt k b hk).2 (fun _ h=>h) (fun x hx=>hrest x (.inr (.inl ⟨k,b,hk,Ne.symm hne,hx⟩))) hF
 ·rcases get_cons hk with⟨rfl,rfl⟩|⟨_,hk⟩
  ·exact⟨hk0,hb0⟩
  ·exact⟨Nat.lt_of_lt_of_le (h.hlt k b hk).1 hnx,Blk.lt_mono hnx (h.hlt k b hk).2⟩
 ·rcases get_cons hk with⟨e1,e2⟩|⟨hn,hk2⟩<;>rcases get_cons hk' with⟨e3,e4⟩|⟨hn',hk2'⟩
  ·exact hne (e1.symm.trans e3)
  ·subst e1;subst e2
   exact hfoot x hx (.inr (.inl ⟨k',b',hk2',Ne.symm hn',Blk.foot_same hs (h.hlt k' b' hk2').1 hx'⟩))
  ·subst e3;subst e4
   exact hfoot x hx' (.inr (.inl ⟨k,b,hk2,Ne.symm hn,Blk.foot_same hs (h.hlt k b hk2).1 hx⟩))
  ·exact h.sep k k' b b' x hk2 hk2' hne (Blk.foot_same hs (h.hlt k b hk2).1 hx) (Blk.foot_same hs (h.hlt k' b' hk2').1 hx')
 ·rcases get_cons hk with⟨rfl,rfl⟩|⟨_,hk⟩
  ·exact fun hf=>hfoot x hx (.inl hf)
  ·exact h.ff k b x hk (Blk.foot_same hs (h.hlt k b hk).1 hx)
 ·refine⟨hos.trans h.bel.os,htape.trans h.bel.tape,hout.trans h.bel.output,Nat.le_trans h.bel.size hsize,fun x hx ho=>?_⟩
  rw[hF x (h.f0 x hx ho)]
  exact h.bel.block x hx ho
 ·obtain⟨b,hb,hv⟩:=h.gl i fr hi
  refine⟨b,hb,fun t v ht=>?_⟩
  obtain⟨h1,h2⟩:=hv t v ht
  exact⟨by rw[SV.den_same hs h2];exact h1,SV.lt_mono hnx h2⟩
 ·rw[hG] at hD
  obtain⟨h1,h2,h3⟩:=h.mks D hD
  refine⟨(hrest D (.inr (.inr hD))).trans h1,h2,fun k b hk hx=>?_⟩
  rcases get_cons hk with⟨rfl,rfl⟩|⟨_,hk⟩
  ·exact hfoot D hx (.inr (.inr hD))
  ·exact h3 k b hk (Blk.foot_same hs (h.hlt k b hk).1 hx)
theorem Rep.alloc (h:Rep X e S a w)(ty:Nat)(cs:List C)(hl:ltAll S.nx cs=true):
 Rep X {e with ad:=fun j=>if j=S.nx then w.heap.size else e.ad j} (S.new (.cells ty cs)) a (w.alloc (.cells (cs.map (C.den e)).toArray ty)):=by
 have hs:Env.same S.nx e {e with ad:=fun j=>if j=S.nx then w.heap.size else e.ad j}:=fun k hk=>⟨by simp[Nat.ne_of_lt hk],rfl,rfl,rfl,rfl⟩
 refine h.step (k0:=S.nx) (b0:=.cells ty cs) hs rfl (Nat.le_succ _) (Nat.lt_succ_self _) (show ltAll _ _=true from ltAll_mono (Nat.le_succ _) hl) rfl rfl rfl (by simp) (fun x hx=>heap_alloc_old w _ (h.kept_lt hx)) h.one ?_ (fun x hx=>?_)
 ·show(w.alloc _).heap[if S.nx=S.nx then w.heap.size else e.ad S.nx]?=_
  rw[map_den_same hs hl,if_pos rfl]
  exact heap_alloc_new w _
 ·have hx:x=if S.nx=S.nx then w.heap.size else e.ad S.nx:=hx
  rw[if_pos rfl] at hx
  exact h.not_kept_new (by omega)
theorem Rep.kill (h:Rep X e S a w)(k:Nat)(hk:k<S.nx):Rep X e (S.setH k .dead) a w:=
 h.step (k0:=k) (b0:=.dead) (Env.same.refl _ _) rfl (Nat.le_refl _) hk trivial rfl rfl rfl (Nat.le_refl _) (fun _ _=>rfl) h.one trivial (fun _ hx=>hx.elim)
def addrOf:Value->Addr
 |.slice (some a) _ _=>a
 |_=>⟨0,0,none⟩
def Env.withRow (e:Env)(k:Nat)(v:Value)(z:Nat):Env:={e with rv:=fun j=>if j=k then v else e.rv j,ra:=fun j=>if j=k then addrOf v else e.ra j,es:=fun j=>if j=k then z else e.es j}
theorem Env.withRow_same (e:Env)(k:Nat)(v:Value)(z:Nat):Env.same k e (e.withRow k v z):=fun j hj=>by simp[Env.withRow,Nat.ne_of_lt hj]
theorem Env.withRow_rv (e:Env)(k:Nat)(v:Value)(z:Nat):(e.withRow k v z).rv k=v:=by simp[Env.withRow]
theorem Env.withRow_ra (e:Env)(k:Nat)(v:Value)(z:Nat):(e.withRow k v z).ra k=addrOf v:=by simp[Env.withRow]
theorem Env.withRow_es (e:Env)(k:Nat)(v:Value)(z:Nat):(e.withRow k v z).es k=z:=by simp[Env.withRow]
theorem addrOf_slice {v:Value}:∀p l c,v=.slice (some p) l c->addrOf v=p:=fun p l c h=>by rw[h];rfl
theorem Rep.newRow (h:Rep X e S a w){w':World}{ety esz n:Nat}{xs:Els}{v:Value}(hlt:xs.lt S.nx)
 (hos:w'.os=w.os)(htape:w'.tape=w.tape)(hout:w'.output=w.output)(hsize:w.heap.size<=w'.heap.size)
 (hkeep:∀x,Kept e S S.nx x->w'.heap[x]?=w.heap[x]?)(hown:OwnE w' ety esz v n (xs.den e))(hfree:∀x,rfoot v x->¬Kept e S S.nx x):
 Rep X (e.withRow S.nx v esz) (S.new (.row ety esz n xs)) a w':=by
 have hs:=Env.withRow_same e S.nx v esz
 refine h.step (k0:=S.nx) (b0:=.row ety esz n xs) hs rfl (Nat.le_succ _) (Nat.lt_succ_self _) (Els.lt_mono (Nat.le_succ _) hlt) hos htape hout hsize hkeep (fun k=>?_) ⟨?_,Env.withRow_es _ _ _ _,fun p l c hp=>?_⟩ (fun x hx=>?_)
 ·by_cases hk:k=S.nx
  ·subst hk;rw[Env.withRow_rv];exact hown.one
  ·simp only[Env.withRow,if_neg hk];exact h.one k
 ·rw[Env.withRow_rv,Els.den_same hs hlt];exact hown
 ·rw[Env.withRow_rv] at hp
  rw[Env.withRow_ra];exact addrOf_slice p l c hp
 ·have hx:rfoot ((e.withRow S.nx v esz).rv S.nx) x:=hx
  rw[Env.withRow_rv] at hx
  exact hfree x hx
theorem Rep.newExt (h:Rep X e S a w){esz n:Nat}{xs:Els}{v:Value}(hlt:xs.lt S.nx)(hr:ReadsE S.F w esz v n (xs.den e)):Rep X (e.withRow S.nx v esz) (S.new (.ext esz n xs)) a w:=by
 have hs:=Env.withRow_same e S.nx v esz
 refine h.step (k0:=S.nx) (b0:=.ext esz n xs) hs rfl (Nat.le_succ _) (Nat.lt_succ_self _) (Els.lt_mono (Nat.le_succ _) hlt) rfl rfl rfl (Nat.le_refl _) (fun _ _=>rfl) (fun k=>?_) ⟨?_,Env.withRow_es _ _ _ _,fun p l c hp=>?_⟩ (fun _ hx=>hx.elim)
 ·by_cases hk:k=S.nx
  ·subst hk;rw[Env.withRow_rv];exact hr.one
  ·simp only[Env.withRow,if_neg hk];exact h.one k
 ·rw[Env.withRow_rv,Els.den_same hs hlt];exact hr
 ·rw[Env.withRow_rv] at hp
  rw[Env.withRow_ra];exact addrOf_slice p l c hp
theorem Rep.newFn (h:Rep X e S a w){f:Nat}{cs:List C}(hlt:ltAll S.nx cs=true):Rep X (e.withRow S.nx (.func (.func f) #[] (cs.map (C.den e)).toArray) 0) (S.new (.fn f cs)) a w:=by
 have hs:=Env.withRow_same e S.nx (.func (.func f) #[] (cs.map (C.den e)).toArray) 0
 refine h.step (k0:=S.nx) (b0:=.fn f cs) hs rfl (Nat.le_succ _) (Nat.lt_succ_self _) (show ltAll _ _=true from ltAll_mono (Nat.le_succ _) hlt) rfl rfl rfl (Nat.le_refl _) (fun _ _=>rfl) (fun k=>?_) ?_ (fun _ hx=>hx.elim)
 ·by_cases hk:k=S.nx
  ·subst hk;rw[Env.withRow_rv];rfl
  ·simp only[Env.withRow,if_neg hk];exact h.one k
 ·show(e.withRow S.nx _ 0).rv S.nx=.func (.func f) #[] (cs.map (C.den (e.withRow S.nx _ 0))).toArray
  rw[Env.withRow_rv,map_den_same hs hlt]
theorem Rep.newMv (h:Rep X e S a w){f:Nat}{cs:List C}(hlt:ltAll S.nx cs=true):Rep X (e.withRow S.nx (.func (.func f) (cs.map (C.den e)).toArray #[]) 0) (S.new (.mv f cs)) a w:=by
 have hs:=Env.withRow_same e S.nx (.func (.func f) (cs.map (C.den e)).toArray #[]) 0
 refine h.step (k0:=S.nx) (b0:=.mv f cs) hs rfl (Nat.le_succ _) (Nat.lt_succ_self _) (show ltAll _ _=true from ltAll_mono (Nat.le_succ _) hlt) rfl rfl rfl (Nat.le_refl _) (fun _ _=>rfl) (fun k=>?_) ?_ (fun _ hx=>hx.elim)
 ·by_cases hk:k=S.nx
  ·subst hk;rw[Env.withRow_rv];rfl
  ·simp only[Env.withRow,if_neg hk];exact h.one k
 ·show(e.withRow S.nx _ 0).rv S.nx=.func (.func f) (cs.map (C.den (e.withRow S.nx _ 0))).toArray #[]
  rw[Env.withRow_rv,map_den_same hs hlt]
def Env.withBuf (e:Env)(k g z c:Nat):Env:={e with ad:=fun j=>if j=k then g else e.ad j,ra:=fun j=>if j=k then⟨g,0,none⟩ else e.ra j,es:=fun j=>if j=k then z else e.es j,cp:=fun j=>if j=k then c else e.cp j}
theorem Env.withBuf_same (e:Env)(k g z c:Nat):Env.same k e (e.withBuf k g z c):=fun j hj=>by simp[Env.withBuf,Nat.ne_of_lt hj]
theorem Env.withBuf_at (e:Env)(k g z c:Nat):(e.withBuf k g z c).ad k=g/\(e.withBuf k g z c).ra k=⟨g,0,none⟩/\(e.withBuf k g z c).es k=z/\(e.withBuf k g z c).cp k=c:=by simp[Env.withBuf]
theorem Rep.newBuf (h:Rep X e S a w){w':World}{ety esz cap g:Nat}{xs:Els}(hlt:xs.lt S.nx)
 (hos:w'.os=w.os)(htape:w'.tape=w.tape)(hout:w'.output=w.output)(hsize:w.heap.size<=w'.heap.size)
 (hkeep:∀x,Kept e S S.nx x->w'.heap[x]?=w.heap[x]?)(hown:OwnB w' ety esz g cap (xs.den e))(hfree:¬Kept e S S.nx g):
 Rep X (e.withBuf S.nx g esz cap) (S.new (.buf ety esz cap xs)) a w':=by
 have hs:=Env.withBuf_same e S.nx g esz cap
 obtain⟨a1,a2,a3,a4⟩:=Env.withBuf_at e S.nx g esz cap
 refine h.step (k0:=S.nx) (b0:=.buf ety esz cap xs) hs rfl (Nat.le_succ _) (Nat.lt_succ_self _) (Els.lt_mono (Nat.le_succ _) hlt) hos htape hout hsize hkeep h.one ⟨?_,a3,a4,by rw[a1,a2]⟩ (fun x hx=>?_)
 ·rw[a1,Els.den_same hs hlt];exact hown
 ·have hx:x=(e.withBuf S.nx g esz cap).ad S.nx:=hx
  rw[a1] at hx
  rw[hx];exact hfree
end
end Go.Proofs.YtgkkpefpbfadoaaGreat.Sy
namespace Go.Proofs.YtgkkpefpbfadoaaGreat.Sy
open Go Go.RowKit
structure brP (b:Bool)(A B:Prop):Prop where
 out:(b=true->A)/\(b=false->B)
structure arP (k:IntKind)(x:Int)(K:Int->Prop):Prop where
 out:K (k.wrap x)
structure idxP (i:Int)(n:Nat)(K:Nat->Prop):Prop where
 out:(0<=i/\i<n)/\K i.toNat
structure elP (xs:List (List Value))(i:Nat)(K:List Value->Prop):Prop where
 out:∃c,xs[i]?=some c/\K c
structure elcP (xs:List (List C))(i:Nat)(K:List C->Prop):Prop where
 out:∃c,xs[i]?=some c/\K c
structure needP (p K:Prop):Prop where
 out:p/\K
theorem brT {A B:Prop}(h:A):brP true A B:=by refine⟨?_⟩;exact⟨fun _=>h,fun e=>(by cases e)⟩
theorem brF {A B:Prop}(h:B):brP false A B:=by refine⟨?_⟩;exact⟨fun e=>(by cases e),fun _=>h⟩
theorem br_pos {b:Bool}{A B:Prop}(e:b=true)(h:A):brP b A B:=by subst e;exact brT h
theorem br_neg {b:Bool}{A B:Prop}(e:b=false)(h:B):brP b A B:=by subst e;exact brF h
theorem br_split {b:Bool}{A B:Prop}(h:b=true->A)(h':b=false->B):brP b A B:=by refine⟨?_⟩;exact⟨h,h'⟩
theorem br_dec {p:Prop} [Decidable p]{A B:Prop}(h:p->A)(h':¬p->B):brP (decide p) A B:=br_split (fun e=>h (of_decide_eq_true e)) (fun e=>h' (of_decide_eq_false e))
theorem br_eq {x y:Int}{A B:Prop}(h:x=y->A)(h':x≠y->B):brP (x==y) A B:=br_split (fun e=>h (by simpa using e)) (fun e=>h' (by simpa using e))
theorem br_ne {x y:Int}{A B:Prop}(h:x≠y->A)(h':x=y->B):brP (x !=y) A B:=br_split (fun e=>h (by simpa using e)) (fun e=>h' (by simpa using e))
theorem br_not {b:Bool}{A B:Prop}(h:brP b B A):brP (!b) A B:=by
 replace h:=h.out
 refine⟨?_⟩
 exact⟨fun e=>h.2 (by cases b<;>first|rfl|cases e),fun e=>h.1 (by cases b<;>first|rfl|cases e)⟩
theorem br_dT {p:Prop} [Decidable p]{A B:Prop}(hp:p)(h:A):brP (decide p) A B:=br_pos (decide_eq_true hp) h
theorem br_dF {p:Prop} [Decidable p]{A B:Prop}(hp:¬p)(h:B):brP (decide p) A B:=br_neg (decide_eq_false hp) h
theorem br_eT {x y:Int}{A B:Prop}(hp:x=y)(h:A):brP (x==y) A B:=br_pos (by simpa using hp) h
theorem br_eF {x y:Int}{A B:Prop}(hp:x≠y)(h:B):brP (x==y) A B:=br_neg (by simpa using hp) h
theorem br_nT {x y:Int}{A B:Prop}(hp:x≠y)(h:A):brP (x !=y) A B:=br_pos (by simpa using hp) h
theorem br_nF {x y:Int}{A B:Prop}(hp:x=y)(h:B):brP (x !=y) A B:=br_neg (by simpa using hp) h
theorem br_bneT {b:Bool}{A B:Prop}(h:brP b B A):brP (true !=b) A B:=by
 rw[show(true !=b)=!b by cases b<;>rfl]
 exact br_not h
theorem br_bneF {b:Bool}{A B:Prop}(h:brP b A B):brP (false !=b) A B:=by
 rw[show(false !=b)=b by cases b<;>rfl]
 exact h
theorem br_bneT' {b:Bool}{A B:Prop}(h:brP b B A):brP (b !=true) A B:=by
 rw[show(b !=true)=!b by cases b<;>rfl]
 exact br_not h
theorem br_bneF' {b:Bool}{A B:Prop}(h:brP b A B):brP (b !=false) A B:=by
 rw[show(b !=false)=b by cases b<;>rfl]
 exact h
theorem br_and {b c:Bool}{A B:Prop}(h:brP b (brP c A B) B):brP (b&&c) A B:=by
 replace h:=h.out
 refine⟨?_⟩
 cases b with
 |true=>exact⟨fun e=>(h.1 rfl).out.1 (by simpa using e),fun e=>(h.1 rfl).out.2 (by simpa using e)⟩
 |false=>exact⟨fun e=>by simp at e,fun _=>h.2 rfl⟩
theorem br_lself {l:List UInt8}{A B:Prop}(h:A):brP (l==l) A B:=br_pos (beq_self_eq_true l) h
theorem br_case {b:Bool}{A B:Prop}(h:brP b A B):(b=true/\A)\/(b=false/\B):=by
 replace h:=h.out
 cases b
 ·exact .inr ⟨rfl,h.2 rfl⟩
 ·exact .inl ⟨rfl,h.1 rfl⟩
theorem ar_wrap {k:IntKind}{x:Int}{K:Int->Prop}(h:K (k.wrap x)):arP k x K:=by refine⟨?_⟩;exact h
theorem ar_get {k:IntKind}{x:Int}{K:Int->Prop}(h:arP k x K):K (k.wrap x):=by replace h:=h.out;exact h
theorem ar_in {x:Int}{K:Int->Prop}(hx:-9223372036854775808<=x/\x<=9223372036854775807)(h:K x):arP .i64 x K:=by
 refine⟨?_⟩
 have:IntKind.i64.wrap x=x:=by rw[IntKind.wrap_i64];omega
 rw[this];exact h
theorem ar_u8 {x:Int}{K:Int->Prop}(hx:0<=x/\x<=255)(h:K x):arP .u8 x K:=by
 refine⟨?_⟩
 have:IntKind.u8.wrap x=x:=by rw[IntKind.wrap_u8];omega
 rw[this];exact h
theorem ar_u64 {x:Int}{K:Int->Prop}(hx:0<=x/\x<=18446744073709551615)(h:K x):arP .u64 x K:=by
 refine⟨?_⟩
 have:IntKind.u64.wrap x=x:=by rw[IntKind.wrap_u64];omega
 rw[this];exact h
theorem idx_in {i:Int}{n:Nat}{K:Nat->Prop}(h0:0<=i)(h1:i<n)(h:K i.toNat):idxP i n K:=by refine⟨?_⟩;exact⟨⟨h0,h1⟩,h⟩
theorem idx_nat {i n:Nat}{K:Nat->Prop}(h1:i<n)(h:K i):idxP (i:Int) n K:=by refine⟨?_⟩;exact⟨⟨by omega,by omega⟩,h⟩
theorem idx_get {i:Int}{n:Nat}{K:Nat->Prop}(h:idxP i n K):(0<=i/\i<n)/\K i.toNat:=by replace h:=h.out;exact h
theorem el_of {xs:List (List Value)}{i:Nat}{K:List Value->Prop}(c:List Value)(hc:xs[i]?=some c)(h:K c):elP xs i K:=by refine⟨?_⟩;exact⟨c,hc,h⟩
theorem el_get {xs:List (List Value)}{i:Nat}{K:List Value->Prop}(h:elP xs i K):∃c,xs[i]?=some c/\K c:=by replace h:=h.out;exact h
theorem elc_get {xs:List (List C)}{i:Nat}{K:List C->Prop}(h:elcP xs i K):∃c,xs[i]?=some c/\K c:=by replace h:=h.out;exact h
theorem el_map {α:Type}{enc:α->List Value}{l:List α}{i:Nat}{K:List Value->Prop}(x:α)(hx:l[i]?=some x)(h:K (enc x)):elP (l.map enc) i K:=el_of _ (by rw[List.getElem?_map,hx];rfl) h
theorem need_of {p K:Prop}(hp:p)(h:K):needP p K:=by refine⟨?_⟩;exact⟨hp,h⟩
theorem need_get {p K:Prop}(h:needP p K):p/\K:=by replace h:=h.out;exact h
def St.ev (S:St):Operand->Option SV
 |.tmp t=>get S.fr t
 |.const v=>(match v.oneCell' with
  |true=>some (.c (.v v))
  |false=>none)
 |.global g=>some (.c (.v (.pointer (some ⟨g,0,none⟩))))
 |.func f=>some (.c (.v (.func (.func f) #[] #[])))
section
variable {X : Cx} {e : Env} {S : St} {a : Act} {w : World}
theorem RepV.ev_den (h:RepV X e S a w){x:Operand}{v:SV}(hx:S.ev x=some v):a.eval x=v.den e/\v.lt S.nx=true:=by
 cases x with
 |tmp t=>
  have:=h.fr t v hx
  exact⟨by simp[Act.eval,this],h.frlt t v hx⟩
 |const u=>
  simp only[St.ev] at hx
  split at hx
  ·rename_i ho
   cases hx
   exact⟨rfl,ho⟩
  ·cases hx
 |global g=>cases hx;exact⟨rfl,rfl⟩
 |func f=>cases hx;exact⟨rfl,rfl⟩
theorem Rep.ev_den (h:Rep X e S a w){x:Operand}{v:SV}(hx:S.ev x=some v):a.eval x=v.den e/\v.lt S.nx=true:=h.v.ev_den hx
def Yv (X:Cx)(e:Env)(S:St)(a:Act)(o:Oper)(K:SV->Prop):Prop:=
 ∃v:SV,K v/\∀w,RepV X e S a w->v.lt S.nx=true/\(execOp a.eval o).run X.P w=.ok (.value (v.den e)) w
def evK (S:St)(x:Operand)(K:SV->Prop):Prop:=match S.ev x with|some v=>K v|none=>False
theorem evK_get {S:St}{x:Operand}{K:SV->Prop}(h:evK S x K):∃v,S.ev x=some v/\K v:=by
 unfold evK at h
 cases hv:S.ev x with
 |none=>rw[hv] at h;exact h.elim
 |some v=>rw[hv] at h;exact⟨v,rfl,h⟩
theorem move_ok (e:Env)(a:Act){o:Oper}{x:Operand}{K:SV->Prop}(ho:o.op=.move x\/o.op=.assign x)(hk:evK S x K):Yv X e S a o K:=by
 obtain⟨v,hv,hK⟩:=evK_get hk
 refine⟨v,hK,fun w h=>?_⟩
 obtain⟨hd,hl⟩:=h.ev_den hv
 refine⟨hl,?_⟩
 rcases ho with ho|ho<;>simp[execOp,ho,hd]
def xvPick (S:St)(c x y:Operand)(K:SV->Prop):Prop:=match S.ev c with
 |some (.c (.v (.bool t)))=>brP t (evK S x K) (evK S y K)
 |_=>False
theorem pick_ok (e:Env)(a:Act){o:Oper}{c x y:Operand}{K:SV->Prop}(ho:o.op=.pick c x y)(hk:xvPick S c x y K):Yv X e S a o K:=by
 unfold xvPick at hk
 split at hk
 ·rename_i t hc
  rcases br_case hk with⟨e1,hk2⟩|⟨e1,hk2⟩
  all_goals
   obtain⟨v,hv,hK⟩:=evK_get hk2
   refine⟨v,hK,fun w h=>?_⟩
   have hcd:=(h.ev_den hc).1
   simp only[SV.den,C.den,e1] at hcd
   obtain⟨hd,hl⟩:=h.ev_den hv
   exact⟨hl,by simp[execOp,ho,hd,hcd,asBool]⟩
 ·exact hk.elim
theorem run_isAgg {P:Program}{t:TypeId}{d:TypeDesc}(hu:P.underlying t=some d)(w:World):(isAgg t).run P w=.ok (rowB d) w:=by
 cases d<;>simp[isAgg,run_underlying hu,rowB]
theorem run_sizeOf {P:Program}{t:TypeId}{j:TypeInfo}(hi:P.info? t=some j)(w:World):(sizeOf t).run P w=.ok j.size w:=by
 simp[sizeOf,typeInfo,hi]
def xfield (X:Cx)(t f:Nat):Option (Nat×TI):=
 match get X.T t with
 |some ti=>(match ti.d with
  |.struct fs=>(match fs.toList[f]? with
   |some fd=>(match get X.T fd.type with
    |some fi=>some (fd.offset,fi)
    |none=>none)
   |none=>none)
  |_=>none)
 |none=>none
theorem xfield_get {t f off:Nat}{fi:TI}(h:xfield X t f=some (off,fi)):∃(ti:TI)(fs:Array Field)(fd:Field),get X.T t=some ti/\ti.d=.struct fs/\fs[f]?=some fd/\fd.offset=off/\get X.T fd.type=some fi:=by
 unfold xfield at h
 split at h
 ·rename_i ti hti
  split at h
  ·rename_i fs hfs
   split at h
   ·rename_i fd hfd
    split at h
    ·rename_i fi' hfi
     simp only[Option.some.injEq,Prod.mk.injEq] at h
     obtain⟨rfl,rfl⟩:=h
     exact⟨ti,fs,fd,hti,hfs,by simpa using hfd,rfl,hfi⟩
    ·cases h
   ·cases h
  ·cases h
 ·cases h
def xvFieldAddr (X:Cx)(S:St)(t:Nat)(x:Operand)(f:Nat)(K:SV->Prop):Prop:=match xfield X t f with
 |some (off,fi)=>(match Nat.beq fi.size 0 with
  |true=>False
  |false=>(match S.ev x with
   |some (.c (.loc k o))=>K (.c (.loc k (o+off)))
   |some (.c (.ep k i o))=>K (.c (.ep k i (o+off)))
   |some (.c (.v (.pointer (some p))))=>K (.c (.v (.pointer (some (p.add off)))))
   |_=>False))
 |none=>False
theorem run_fieldAddr (hT:TabOk X.P X.T){t f off:Nat}{fi:TI}(hf:xfield X t f=some (off,fi))(hz:Nat.beq fi.size 0=false)(p:Addr)(w:World):
 (Instr.fieldAt t (.pointer (some p)) f).run X.P w=.ok (.pointer (some (p.add off))) w:=by
 obtain⟨ti,fs,fd,hti,hd,hfd,rfl,hfi⟩:=xfield_get hf
 have hu:=(TabOk.get hT hti).1
 rw[hd] at hu
 obtain⟨_,j,hj,_,hjs,_,_⟩:=TabOk.get hT hfi
 have hne:j.size≠0:=by
  rw[hjs]
  intro h0
  rw[h0] at hz
  exact absurd hz (by decide)
 simp[Instr.fieldAt,run_underlying hu,hfd,Instr.sureAddr,fieldPlace,run_sizeOf hj,hne]
theorem fieldAddr_ok (hT:TabOk X.P X.T)(e:Env)(a:Act){o:Oper}{t f:Nat}{x:Operand}{K:SV->Prop}(ho:o.op=.fieldAddr t x f)(hk:xvFieldAddr X S t x f K):Yv X e S a o K:=by
 unfold xvFieldAddr at hk
 split at hk
 ·rename_i off fi hf
  split at hk
  ·exact hk.elim
  ·rename_i hz
   split at hk
   ·rename_i k o' hx
    refine⟨_,hk,fun w h=>?_⟩
    obtain⟨hd,hl⟩:=h.ev_den hx
    refine⟨hl,?_⟩
    have hr:=run_fieldAddr hT hf hz ⟨e.ad k,o',none⟩ w
    rw[Addr.add_mid] at hr
    simp only[SV.den,C.den] at hd⊢
    simp[execOp,ho,hd,hr]
   ·rename_i k i o' hx
    refine⟨_,hk,fun w h=>?_⟩
    obtain⟨hd,hl⟩:=h.ev_den hx
    refine⟨hl,?_⟩
    have hr:=run_fieldAddr hT hf hz ((e.ra k).add (i*e.es k+o')) w
    rw[addr_add,Nat.add_assoc] at hr
    simp only[SV.den,C.den] at hd⊢
    simp[execOp,ho,hd,hr]
   ·rename_i p hx
    refine⟨_,hk,fun w h=>?_⟩
    obtain⟨hd,hl⟩:=h.ev_den hx
    refine⟨rfl,?_⟩
    have hr:=run_fieldAddr hT hf hz p w
    simp only[SV.den,C.den] at hd⊢
    simp[execOp,ho,hd,hr]
   ·exact hk.elim
 ·exact hk.elim
theorem take_drop_get {α:Type}{xs:List α}{o n:Nat}{cs:List α}(h:(xs.drop o).take n=cs)(j:Nat)(v:α)(hj:cs[j]?=some v):xs[o+j]?=some v:=by
 subst h
 rw[List.getElem?_take] at hj
 split at hj
 ·rwa[List.getElem?_drop] at hj
 ·cases hj
theorem cell_of_block {w:World}{b o:Nat}{cs:Array Value}{ty:TypeId}{v:Value}(hb:w.heap[b]?=some (.cells cs ty (0,0)))(hv:cs[o]?=some v):w.cell? ⟨b,o,none⟩=some v:=by
 rw[cell_of_row w b o cs ty (0,0) hb];exact hv
def isRow (S:St)(k:Nat)(xs:Els):Prop:=(∃ety esz n,get S.H k=some (.row ety esz n xs))\/(∃esz n,get S.H k=some (.ext esz n xs))\/∃ety esz cap,get S.H k=some (.buf ety esz cap xs)
theorem row_lt (h:RepV X e S a w){k:Nat}{xs:Els}(hk:isRow S k xs):xs.lt S.nx:=by
 rcases hk with⟨_,_,_,hk⟩|⟨_,_,hk⟩|⟨_,_,_,hk⟩<;>exact(h.hlt k _ hk).2
theorem row_szs (h:RepV X e S a w){k:Nat}{xs:Els}(hk:isRow S k xs):∀c∈xs.den e,c.length=e.es k:=by
 rcases hk with⟨_,_,_,hk⟩|⟨_,_,hk⟩|⟨_,_,_,hk⟩<;>obtain⟨F,hh⟩:=h.hp k _ hk
 ·rw[hh.2.1];exact hh.1.2.1
 ·rw[hh.2.1];exact hh.1.2.1
 ·rw[hh.2.1];exact hh.1.1
theorem row_value (h:RepV X e S a w){k m:Nat}(hk:(∃ety esz xs,get S.H k=some (.row ety esz m xs))\/∃esz xs,get S.H k=some (.ext esz m xs))(hm:0<m):∃c,e.rv k=.slice (some (e.ra k)) m c:=by
 rcases hk with⟨_,_,_,hk⟩|⟨_,_,hk⟩<;>obtain⟨F,hh,_,h3⟩:=h.hp k _ hk
 ·rcases hh.2.2 with⟨_,_,hn⟩|⟨g,cap,hv,_⟩
  ·omega
  ·exact⟨cap,by rw[h3 _ _ _ hv];exact hv⟩
 ·obtain⟨_,_,A,c,hv,_,_,hc2⟩:=hh
  obtain⟨p,rfl,_⟩:=hc2 hm
  exact⟨c,by rw[h3 _ _ _ hv];exact hv⟩
theorem row_len (h:RepV X e S a w){k m:Nat}(hk:(∃ety esz xs,get S.H k=some (.row ety esz m xs))\/∃esz xs,get S.H k=some (.ext esz m xs)):∃A c,e.rv k=.slice A m c/\m<=c:=by
 rcases hk with⟨_,_,_,hk⟩|⟨_,_,hk⟩<;>obtain⟨F,hh,_,h3⟩:=h.hp k _ hk
 ·rcases hh.2.2 with⟨A,hv,hn⟩|⟨g,cap,hv,hb⟩
  ·exact⟨A,0,by rw[hv,hn],by omega⟩
  ·exact⟨_,cap,hv,by rw[<-hh.1];exact hb.2.1⟩
 ·obtain⟨_,_,A,c,hv,hc,_⟩:=hh
  exact⟨A,c,hv,hc⟩
theorem row_flat (h:RepV X e S a w){k:Nat}{xs:Els}(hk:isRow S k xs):∀j u,(xs.den e).flatten[j]?=some u->w.cell? ((e.ra k).add j)=some u:=by
 intro j u hu
 rcases hk with⟨ety,esz,n,hk⟩|⟨esz,n,hk⟩|⟨ety,esz,cap,hk⟩<;>obtain⟨F,hh⟩:=h.hp k _ hk
 ·have hj:j<n*esz:=by rw[<-hh.1.1,<-flat_len hh.1.2.1];exact(List.getElem?_eq_some_iff.1 hu).1
  rcases hh.1.2.2 with⟨A,hv,hn⟩|⟨g,cap,hv,hb⟩
  ·rw[hn,Nat.zero_mul] at hj;omega
  ·rw[hh.2.2 _ _ _ hv,addr_mid]
   exact hb.cells j u hu
 ·have hj:j<n*esz:=by rw[<-hh.1.1,<-flat_len hh.1.2.1];exact(List.getElem?_eq_some_iff.1 hu).1
  have hn:0<n:=by
   rcases Nat.eq_zero_or_pos n with h0|h0
   ·rw[h0,Nat.zero_mul] at hj;omega
   ·exact h0
  obtain⟨_,_,A,c',hv,_,_,hc2⟩:=hh.1
  obtain⟨p,rfl,_,hcell⟩:=hc2 hn
  rw[hh.2.2 _ _ _ hv]
  exact hcell j _ hu
 ·rw[hh.2.2.2,addr_mid]
  exact hh.1.cells j u hu
theorem row_cells (h:RepV X e S a w){k:Nat}{xs:Els}(hk:isRow S k xs){i:Nat}{c:List Value}(hc:(xs.den e)[i]?=some c):∀o u,c[o]?=some u->w.cell? ((e.ra k).add (i*e.es k+o))=some u:=
 fun _ _ hu=>row_flat h hk _ _ (flat_get (row_szs h hk) hc hu)
theorem run_load_one {P:Program}{t:TypeId}{d:TypeDesc}(hu:P.underlying t=some d)(hr:rowB d=false){p:Addr}{v:Value}{w:World}(hc:w.cell? p=some v):
 (Instr.loadAt t (.pointer (some p))).run P w=.ok v w:=by
 simp[Instr.loadAt,Instr.sureAddr,loadVar,run_isAgg hu,hr,load,Sem.run,hc]
theorem run_load_agg {P:Program}{t:TypeId}{d:TypeDesc}{j:TypeInfo}(hu:P.underlying t=some d)(hr:rowB d=true)(hi:P.info? t=some j){p:Addr}{cs:List Value}{w:World}(hl:cs.length=j.size)
 (hc:∀i v,cs[i]?=some v->w.cell? (p.add i)=some v):(Instr.loadAt t (.pointer (some p))).run P w=.ok (.agg cs.toArray) w:=by
 have:=run_loadCells_list (P:=P) w p cs hc
 simp[Instr.loadAt,Instr.sureAddr,loadVar,run_isAgg hu,hr,run_sizeOf hi,<-hl,this]
structure elnP (xs:List (Option Nat×List Value))(i:Nat)(K:Option Nat×List Value->Prop):Prop where
 out:∃c,xs[i]?=some c/\K c
theorem eln_get {xs:List (Option Nat×List Value)}{i:Nat}{K:Option Nat×List Value->Prop}(h:elnP xs i K):∃c,xs[i]?=some c/\K c:=by replace h:=h.out;exact h
def loadCell (ti:TI)(cs:List C)(o:Nat)(K:SV->Prop):Prop:=match rowB ti.d with
 |true=>(match Nat.ble (o+ti.size) cs.length with
  |true=>K (.agg ((cs.drop o).take ti.size))
  |false=>False)
 |false=>(match cs[o]? with
  |some c=>K (.c c)
  |none=>False)
def loadEl (ti:TI)(xs:Els)(i o:Nat)(K:SV->Prop):Prop:=match xs with
 |.vs l=>elP l i fun c=>loadCell ti (c.map C.v) o K
 |.cs l=>elcP l i fun c=>loadCell ti c o K
 |.ns k l=>elnP l i fun x=>loadCell ti (nsEl k x) o K
def xvLoad (X:Cx)(S:St)(t:Nat)(x:Operand)(K:SV->Prop):Prop:=match get X.T t with
 |some ti=>(match S.ev x with
  |some (.c (.loc k o))=>(match get S.H k with
   |some (.cells _ cs)=>loadCell ti cs o K
   |_=>False)
  |some (.c (.ep k i o))=>(match get S.H k with
   |some (.row _ _ _ xs)=>loadEl ti xs i o K
   |some (.ext _ _ xs)=>loadEl ti xs i o K
   |some (.buf _ _ _ xs)=>loadEl ti xs i o K
   |_=>False)
  |_=>False)
 |none=>False
theorem ltAll_drop_take {n o m:Nat}{xs:List C}(h:ltAll n xs=true):ltAll n ((xs.drop o).take m)=true:=
 ltAll_of fun c hc=>ltAll_mem h c (List.mem_of_mem_drop (List.mem_of_mem_take hc))
theorem ltAll_get {n o:Nat}{xs:List C}{c:C}(h:ltAll n xs=true)(hc:xs[o]?=some c):c.lt n=true:=ltAll_mem h c (List.mem_of_getElem? hc)
theorem loadCell_ok (hT:TabOk X.P X.T)(e:Env)(a:Act){o:Oper}{t:Nat}{x:Operand}{K:SV->Prop}(ho:o.op=.load t x){ti:TI}(hti:get X.T t=some ti){cs:List C}{o':Nat}(hk:loadCell ti cs o' K)
 (at_:∀w,RepV X e S a w->ltAll S.nx cs=true/\∃p:Addr,a.eval x=.pointer (some p)/\∀i c,cs[o'+i]?=some c->w.cell? (p.add i)=some (c.den e)):Yv X e S a o K:=by
 obtain⟨hu,j,hj,_,hjs,_,_⟩:=TabOk.get hT hti
 unfold loadCell at hk
 split at hk
 ·rename_i hr
  split at hk
  ·rename_i hle
   have hle:o'+ti.size<=cs.length:=Nat.le_of_ble_eq_true hle
   refine⟨_,hk,fun w h=>?_⟩
   obtain⟨hlt,p,hd,hp⟩:=at_ w h
   refine⟨ltAll_drop_take hlt,?_⟩
   have hrun:=run_load_agg (p:=p) (cs:=((cs.drop o').take ti.size).map (C.den e)) (w:=w) hu hr hj (by simp;omega) (fun i v hi=>by
    rw[List.getElem?_map] at hi
    cases hc:((cs.drop o').take ti.size)[i]? with
    |none=>rw[hc] at hi;cases hi
    |some c=>
     rw[hc] at hi
     simp only[Option.map_some,Option.some.injEq] at hi
     subst hi
     exact hp i c (take_drop_get rfl i c hc))
   simp only[SV.den]
   simp[execOp,ho,hd,hrun]
  ·exact hk.elim
 ·rename_i hr
  split at hk
  ·rename_i c hc
   refine⟨_,hk,fun w h=>?_⟩
   obtain⟨hlt,p,hd,hp⟩:=at_ w h
   refine⟨ltAll_get hlt hc,?_⟩
   have h0:=hp 0 c hc
   have hp0:p.add 0=p:=by unfold Addr.add;simp
   rw[hp0] at h0
   have hrun:=run_load_one (w:=w) hu hr h0
   simp only[SV.den]
   simp[execOp,ho,hd,hrun]
  ·exact hk.elim
theorem loadEl_ok (hT:TabOk X.P X.T)(e:Env)(a:Act){o:Oper}{t:Nat}{x:Operand}{K:SV->Prop}(ho:o.op=.load t x){ti:TI}(hti:get X.T t=some ti){k i o':Nat}(hx:S.ev x=some (.c (.ep k i o'))){xs:Els}
 (hrow:isRow S k xs)(hk:loadEl ti xs i o' K):Yv X e S a o K:=by
 have main:∀(cs:List C)(hk:loadCell ti cs o' K)(hlt:∀w,RepV X e S a w->ltAll S.nx cs=true)(hc:(xs.den e)[i]?=some (cs.map (C.den e))),Yv X e S a o K:=by
  intro cs hk hlt hc
  refine loadCell_ok hT e a ho hti hk fun w h=>⟨hlt w h,_,(h.ev_den hx).1,fun m c hm=>?_⟩
  rw[addr_add,Nat.add_assoc]
  exact row_cells h hrow hc _ _ (by rw[List.getElem?_map,hm];rfl)
 cases xs with
 |vs l=>
  obtain⟨c,hc,hk⟩:=el_get hk
  exact main _ hk (fun w h=>ltAll_v (row_lt h hrow c (List.mem_of_getElem? hc))) (by
   show l[i]?=_
   rw[hc,List.map_map];exact congrArg some (List.map_id' c).symm)
 |cs l=>
  obtain⟨c,hc,hk⟩:=elc_get hk
  exact main _ hk (fun w h=>row_lt h hrow c (List.mem_of_getElem? hc)) (by
   show(l.map fun c=>c.map (C.den e))[i]?=_
   rw[List.getElem?_map,hc];rfl)
 |ns k' l=>
  obtain⟨c,hc,hk⟩:=eln_get hk
  exact main _ hk (fun w h=>nsEl_lt (row_lt h hrow).1 ((row_lt h hrow).2 c (List.mem_of_getElem? hc))) (by
   show(l.map fun x=>(nsEl k' x).map (C.den e))[i]?=_
   rw[List.getElem?_map,hc];rfl)
theorem load_ok (hT:TabOk X.P X.T)(e:Env)(a:Act){o:Oper}{t:Nat}{x:Operand}{K:SV->Prop}(ho:o.op=.load t x)(hk:xvLoad X S t x K):Yv X e S a o K:=by
 unfold xvLoad at hk
 split at hk
 ·rename_i ti hti
  split at hk
  ·rename_i k o' hx
   split at hk
   ·rename_i ty cs hH
    refine loadCell_ok hT e a ho hti hk fun w h=>?_
    obtain⟨F,hb⟩:=h.hp k _ hH
    refine⟨(h.hlt k _ hH).2,_,(h.ev_den hx).1,fun i c hc=>?_⟩
    rw[Addr.add_mid]
    exact cell_of_block hb (by simp[hc])
   ·exact hk.elim
  ·rename_i k i o' hx
   split at hk
   ·rename_i ety esz n xs hH;exact loadEl_ok hT e a ho hti hx (.inl ⟨_,_,_,hH⟩) hk
   ·rename_i esz n xs hH;exact loadEl_ok hT e a ho hti hx (.inr (.inl ⟨_,_,hH⟩)) hk
   ·rename_i ety esz cap xs hH;exact loadEl_ok hT e a ho hti hx (.inr (.inr ⟨_,_,_,hH⟩)) hk
   ·exact hk.elim
  ·exact hk.elim
 ·exact hk.elim
end
end Go.Proofs.YtgkkpefpbfadoaaGreat.Sy
