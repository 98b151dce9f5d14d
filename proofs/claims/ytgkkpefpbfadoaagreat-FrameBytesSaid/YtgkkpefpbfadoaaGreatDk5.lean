/-
  The symbolic executor, 10: the operations of a region, code, weaker states, loops.
-/
import Derived.Test.YtgkkpefpbfadoaaGreatDk4
import Derived.TacticsIn
import Derived.Sort.LoopGhostIn
namespace Go.Proofs.YtgkkpefpbfadoaaGreat.Sy
open Go Go.RowKit
section
variable {X : Cx} {e : Env} {S : St} {a : Act} {w : World}
def guardS (S:St)(ops:List Oper)(j:Nat):Option SV:=match ops[j]? with
 |some oj=>(match oj.dst with
  |some d=>get S.fr d
  |none=>none)
 |none=>none
def xskip (X:Cx)(o:Oper)(S:St)(K:St->Prop):Prop:=match dstOk X.nt o.dst with
 |true=>K (S.put o.dst .un)
 |false=>False
def xguard (X:Cx)(ops:List Oper)(o:Oper)(S:St)(K:St->Prop):Prop:=match o.guard with
 |none=>xop X o S K
 |some (j,want)=>(match guardS S ops j with
  |some (.c (.v (.bool t)))=>brP t (match want with
   |true=>xop X o S K
   |false=>xskip X o S K) (match want with
   |true=>xskip X o S K
   |false=>xop X o S K)
  |some .un=>xskip X o S K
  |_=>False)
def forceNat (n:Nat)(K:Nat->Prop):Prop:=match n with
 |0=>K 0
 |1=>K 1
 |n+2=>K (n+2)
def forceC (c:C)(K:C->Prop):Prop:=match c with
 |.v x=>K (.v x)
 |.loc k o=>forceNat k fun k=>forceNat o fun o=>K (.loc k o)
 |.row k=>forceNat k fun k=>K (.row k)
 |.ep k i o=>forceNat k fun k=>forceNat o fun o=>K (.ep k i o)
 |.sl k o n=>forceNat k fun k=>K (.sl k o n)
def forceL:List C->(List C->Prop)->Prop
 |[],K=>K []
 |c::r,K=>forceC c fun c=>forceL r fun r=>K (c::r)
def forceSV (v:SV)(K:SV->Prop):Prop:=match v with
 |.c x=>forceC x fun x=>K (.c x)
 |.agg cs=>forceL cs fun cs=>K (.agg cs)
 |v=>K v
def forceEls (x:Els)(K:Els->Prop):Prop:=match x with
 |.vs l=>K (.vs l)
 |.cs l=>K (.cs l)
 |.ns k l=>forceNat k fun k=>K (.ns k l)
def forceBlk (b:Blk)(K:Blk->Prop):Prop:=match b with
 |.cells t cs=>forceL cs fun cs=>K (.cells t cs)
 |.row t z n xs=>forceEls xs fun xs=>K (.row t z n xs)
 |.ext z n xs=>forceEls xs fun xs=>K (.ext z n xs)
 |.buf t z n xs=>forceEls xs fun xs=>K (.buf t z n xs)
 |.lrec j nt ps as bd st=>forceNat j fun j=>K (.lrec j nt ps as bd st)
 |.fn f cs=>forceL cs fun cs=>K (.fn f cs)
 |.mc ks cs=>forceL cs fun cs=>K (.mc ks cs)
 |.mv f cs=>forceL cs fun cs=>K (.mv f cs)
 |b=>K b
def forceFr (fr:List (Nat×SV))(K:List (Nat×SV)->Prop):Prop:=match fr with
 |[]=>K []
 |(t,v)::r=>forceSV v fun v=>K ((t,v)::r)
def forceH (H:List (Nat×Blk))(K:List (Nat×Blk)->Prop):Prop:=match H with
 |[]=>K []
 |(k,b)::r=>forceNat k fun k=>forceBlk b fun b=>K ((k,b)::r)
def St.force (S:St)(K:St->Prop):Prop:=match S with
 |⟨fr,H,nx,F,E,g⟩=>forceFr fr fun fr=>forceH H fun H=>forceNat nx fun nx=>K ⟨fr,H,nx,F,E,g⟩
theorem forceNat_eq (n:Nat)(K:Nat->Prop):forceNat n K=K n:=by
 match n with
 |0=>rfl
 |1=>rfl
 |n+2=>rfl
theorem forceC_eq (c:C)(K:C->Prop):forceC c K=K c:=by cases c<;>simp only[forceC,forceNat_eq]
theorem forceL_eq:∀(l:List C)(K:List C->Prop),forceL l K=K l
 |[],K=>rfl
 |c::r,K=>by simp only[forceL,forceC_eq,forceL_eq r]
theorem forceSV_eq (v:SV)(K:SV->Prop):forceSV v K=K v:=by cases v<;>simp only[forceSV,forceC_eq,forceL_eq]
theorem forceEls_eq (x:Els)(K:Els->Prop):forceEls x K=K x:=by cases x<;>first|rfl|simp only[forceEls,forceNat_eq]
theorem forceBlk_eq (b:Blk)(K:Blk->Prop):forceBlk b K=K b:=by cases b<;>simp only[forceBlk,forceL_eq,forceEls_eq,forceNat_eq]
theorem forceFr_eq (fr:List (Nat×SV))(K:List (Nat×SV)->Prop):forceFr fr K=K fr:=by cases fr<;>simp only[forceFr,forceSV_eq]
theorem forceH_eq (H:List (Nat×Blk))(K:List (Nat×Blk)->Prop):forceH H K=K H:=by cases H<;>simp only[forceH,forceNat_eq,forceBlk_eq]
theorem force_eq (S:St)(K:St->Prop):St.force S K=K S:=by cases S;simp only[St.force,forceFr_eq,forceH_eq,forceNat_eq]
def forceFrs:List (Nat×SV)->(List (Nat×SV)->Prop)->Prop
 |[],K=>K []
 |(t,v)::r,K=>forceNat t fun t=>forceSV v fun v=>forceFrs r fun r=>K ((t,v)::r)
def forceHs:List (Nat×Blk)->(List (Nat×Blk)->Prop)->Prop
 |[],K=>K []
 |(k,b)::r,K=>forceNat k fun k=>forceBlk b fun b=>forceHs r fun r=>K ((k,b)::r)
def forceGs:List (List (Nat×SV))->(List (List (Nat×SV))->Prop)->Prop
 |[],K=>K []
 |f::r,K=>forceFrs f fun f=>forceGs r fun r=>K (f::r)
def St.forceAll (S:St)(K:St->Prop):Prop:=match S with
 |⟨fr,H,nx,F,E,g⟩=>forceFrs fr fun fr=>forceHs H fun H=>forceNat nx fun nx=>forceGs g fun g=>K ⟨fr,H,nx,F,E,g⟩
theorem forceFrs_eq:∀(l:List (Nat×SV))(K:List (Nat×SV)->Prop),forceFrs l K=K l
 |[],K=>rfl
 |(t,v)::r,K=>by simp only[forceFrs,forceNat_eq,forceSV_eq,forceFrs_eq r]
theorem forceHs_eq:∀(l:List (Nat×Blk))(K:List (Nat×Blk)->Prop),forceHs l K=K l
 |[],K=>rfl
 |(t,v)::r,K=>by simp only[forceHs,forceNat_eq,forceBlk_eq,forceHs_eq r]
theorem forceGs_eq:∀(l:List (List (Nat×SV)))(K:List (List (Nat×SV))->Prop),forceGs l K=K l
 |[],K=>rfl
 |f::r,K=>by simp only[forceGs,forceFrs_eq,forceGs_eq r]
theorem forceAll_eq (S:St)(K:St->Prop):St.forceAll S K=K S:=by cases S;simp only[St.forceAll,forceFrs_eq,forceHs_eq,forceNat_eq,forceGs_eq]
def xopsF (X:Cx)(ops:List Oper):List Oper->St->(St->Prop)->Prop
 |[],S,K=>K S
 |o::r,S,K=>xguard X ops o S fun S'=>St.force S' fun S'=>xopsF X ops r S' K
def xops (X:Cx)(id:Nat)(ops:List Oper)(l:List Oper)(S:St)(K:St->Prop):Prop:=St.forceAll (S.prune (get X.lv id)) fun S=>xopsF X ops l S K
theorem yielded_of (h:RepV X e S a w){ops:List Oper}{j:Nat}{v:SV}(hg:guardS S ops j=some v):∃d,((ops.toArray[j]?).bind (·.dst))=some d/\a.tmps[d]?=some (v.den e):=by
 unfold guardS at hg
 split at hg
 ·rename_i oj hj
  split at hg
  ·rename_i d hd
   exact⟨d,by simp[hj,hd],h.fr d v hg⟩
  ·cases hg
 ·cases hg
theorem xguard_ok (hT:TabOk X.P X.T)(h:Rep X e S a w){ops:List Oper}{o:Oper}{K:St->Prop}(hk:xguard X ops o S K){KK:Act->World->Prop}(Q:Exit->Act->World->Prop)(hKK:∀e' S' a' w',Rep X e' S' a' w'->K S'->KK a' w'):
 if Region.wanted o (yielded ops.toArray a.tmps)=true then o.wpIn X.fen 0 X.P a w KK Q else KK (a.put o.dst undef) w:=by
 have skip:xskip X o S K->KK (a.put o.dst undef) w:=fun hs=>by
  unfold xskip at hs
  split at hs
  ·rename_i hd
   exact hKK _ _ _ _ (h.put (v:=.un) hd rfl) hs
  ·exact hs.elim
 have go:xop X o S K->o.wpIn X.fen 0 X.P a w KK Q:=fun ho=>xop_ok hT h ho KK Q hKK
 unfold xguard at hk
 split at hk
 ·rename_i hg
  rw[if_pos (by simp[Region.wanted,hg])]
  exact go hk
 ·rename_i j want hg
  split at hk
  ·rename_i t hs
   obtain⟨d,hd,hv⟩:=yielded_of h.v hs
   have hy:yielded ops.toArray a.tmps j=some t:=by
    unfold yielded
    rw[hd,Option.bind_some,hv]
    rfl
   have hw:Region.wanted o (yielded ops.toArray a.tmps)=(t==want):=by
    simp only[Region.wanted,hg,hy]
    cases t<;>cases want<;>rfl
   rw[hw]
   rcases br_case hk with⟨rfl,hk2⟩|⟨rfl,hk2⟩<;>cases want<;>simp only at hk2
   ·exact skip hk2
   ·exact go hk2
   ·exact go hk2
   ·exact skip hk2
  ·rename_i hs
   obtain⟨d,hd,hv⟩:=yielded_of h.v hs
   have hy:yielded ops.toArray a.tmps j=none:=by
    unfold yielded
    rw[hd,Option.bind_some,hv]
    rfl
   rw[if_neg (by simp[Region.wanted,hg,hy])]
   exact skip hk
  ·exact hk.elim
theorem xopsF_ok (hT:TabOk X.P X.T){ops:List Oper}{Q:Exit->Act->World->Prop}:∀{l:List Oper}{e:Env}{S:St}{a:Act}{w:World}{K:St->Prop},Rep X e S a w->xopsF X ops l S K->(∀e' S' a' w',Rep X e' S' a' w'->K S'->Q .normal a' w')->wpListIn X.fen 0 X.P ops.toArray Q l a w
 |[],e,S,a,w,K,h,hk,hQ=>hQ _ _ _ _ h hk
 |o::r,e,S,a,w,K,h,hk,hQ=>by
  refine wpListIn_step fun KK hKK=>?_
  have:=xguard_ok hT h hk (KK:=KK) Q fun e' S' a' w' hR hS'=>hKK _ _ (xopsF_ok hT hR (by rw[force_eq] at hS';exact hS') hQ)
  split
  ·rename_i hw;rw[if_pos hw] at this;exact this
  ·rename_i hw;rw[if_neg hw] at this;exact⟨fun f _=>fen_fn _ f,this⟩
theorem xops_ok (hT:TabOk X.P X.T){ops:List Oper}{Q:Exit->Act->World->Prop}{l:List Oper}{K:St->Prop}(id:Nat)(h:Rep X e S a w)(hk:xops X id ops l S K)(hQ:∀e' S' a' w',Rep X e' S' a' w'->K S'->Q .normal a' w'):wpListIn X.fen 0 X.P ops.toArray Q l a w:=by
 unfold xops at hk
 rw[forceAll_eq] at hk
 exact xopsF_ok hT (h.prune _) hk hQ
def compat (X:Cx)(Q:Exit->St->Prop)(Qr:Exit->Act->World->Prop):Prop:=∀ex e S a w,Rep X e S a w->Q ex S->Qr ex a w
structure semP (X:Cx)(c:Code)(S:St)(Q:Exit->St->Prop):Prop where
 out:∀e a w,Rep X e S a w->∀Qr,compat X Q Qr->c.wpIn X.fen 0 X.P Qr a w
structure cutP (X:Cx)(x y:Code)(S:St)(Q:Exit->St->Prop):Prop where
 out:∀e a w,Rep X e S a w->∀Qr,compat X Q Qr->(Code.seq x y).wpIn X.fen 0 X.P Qr a w
def hasGuard:List Oper->Bool
 |[]=>false
 |o::r=>match o.guard with
  |some _=>true
  |none=>hasGuard r
def then_ (Q:Exit->St->Prop)(K:St->Prop):Exit->St->Prop:=fun ex S'=>match ex with
 |.normal=>K S'
 |ex=>Q ex S'
def inBlk (id:Nat)(Q:Exit->St->Prop):Exit->St->Prop:=fun ex S'=>match ex with
 |.exit i=>(match Nat.beq i id with
  |true=>Q .normal S'
  |false=>Q (.exit i) S')
 |ex=>Q ex S'
def xcode (X:Cx):Code->St->(Exit->St->Prop)->Prop
 |.skip,S,Q=>Q .normal S
 |.region id ops draw,S,Q=>(match draw with
  |false=>xops X id ops.toList ops.toList S (Q .normal)
  |true=>semP X (.region id ops true) S Q)
 |.seq x y,S,Q=>(match x with
  |.cond c p q=>semP X (.seq (.cond c p q) y) S Q
  |.block id p=>semP X (.seq (.block id p) y) S Q
  |.rangeFunc g ps p q=>semP X (.seq (.rangeFunc g ps p q) y) S Q
  |.region id ops false=>(match hasGuard ops.toList with
   |true=>cutP X (.region id ops false) y S Q
   |false=>xops X id ops.toList ops.toList S fun S'=>xcode X y S' Q)
  |.region id ops true=>cutP X (.region id ops true) y S Q
  |x=>xcode X x S (then_ Q fun S'=>xcode X y S' Q))
 |.cond c p q,S,Q=>semP X (.cond c p q) S Q
 |.block id p,S,Q=>semP X (.block id p) S Q
 |.loop p,S,Q=>semP X (.loop p) S Q
 |.rangeFunc g ps p q,S,Q=>semP X (.rangeFunc g ps p q) S Q
 |.exit id,S,Q=>Q (.exit id) S
 |.ret,S,Q=>Q .ret S
 |_,_,_=>False
theorem compat_then {Q:Exit->St->Prop}{Qr:Exit->Act->World->Prop}(hQ:compat X Q Qr){K:St->Prop}{Kr:Act->World->Prop}(hK:∀e S a w,Rep X e S a w->K S->Kr a w):compat X (then_ Q K) (Exit.then Kr Qr):=by
 intro ex e S a w hR h
 cases ex with
 |normal=>exact hK e S a w hR h
 |exit id=>exact hQ _ _ _ _ _ hR h
 |goto l=>exact hQ _ _ _ _ _ hR h
 |ret=>exact hQ _ _ _ _ _ hR h
 |panic ch=>exact hQ _ _ _ _ _ hR h
 |outgrown=>exact hQ _ _ _ _ _ hR h
theorem compat_inBlk {id:Nat}{Q:Exit->St->Prop}{Qr:Exit->Act->World->Prop}(hQ:compat X Q Qr):compat X (inBlk id Q) (Exit.inBlock id Qr):=by
 intro ex e S a w hR h
 cases ex with
 |exit i=>
  simp only[inBlk] at h
  simp only[Exit.inBlock]
  split at h
  ·rename_i hi
   rw[if_pos (Nat.eq_of_beq_eq_true hi)]
   exact hQ _ _ _ _ _ hR h
  ·rename_i hi
   rw[if_neg (fun e1=>by subst e1;simp at hi)]
   exact hQ _ _ _ _ _ hR h
 |normal=>exact hQ _ _ _ _ _ hR h
 |goto l=>exact hQ _ _ _ _ _ hR h
 |ret=>exact hQ _ _ _ _ _ hR h
 |panic ch=>exact hQ _ _ _ _ _ hR h
 |outgrown=>exact hQ _ _ _ _ _ hR h
theorem sem_get {c:Code}{Q:Exit->St->Prop}(hs:semP X c S Q)(h:Rep X e S a w){Qr:Exit->Act->World->Prop}(hQ:compat X Q Qr):c.wpIn X.fen 0 X.P Qr a w:=by
 replace hs:=hs.out
 exact hs e a w h Qr hQ
theorem xcode_ok (hT:TabOk X.P X.T):∀(c:Code){e:Env}{S:St}{a:Act}{w:World}{Q:Exit->St->Prop}{Qr:Exit->Act->World->Prop},Rep X e S a w->xcode X c S Q->compat X Q Qr->c.wpIn X.fen 0 X.P Qr a w:=by
 intro c
 induction c with
 |skip=>intro e S a w Q Qr h hk hQ;exact wpIn_skip (hQ _ _ _ _ _ h hk)
 |region id ops draw=>
  intro e S a w Q Qr h hk hQ
  simp only[xcode] at hk
  cases draw with
  |true=>exact sem_get hk h hQ
  |false=>
   refine wpIn_region_list ?_
   have:=xops_ok hT (ops:=ops.toList) (Q:=Qr) id h hk fun e' S' a' w' hR hS=>hQ _ _ _ _ _ hR hS
   simpa using this
 |seq x y ihx ihy=>
  intro e S a w Q Qr h hk hQ
  have plain:xcode X x S (then_ Q fun S'=>xcode X y S' Q)->(Code.seq x y).wpIn X.fen 0 X.P Qr a w:=fun hx=>by
   refine wpIn_seq (ihx h hx (compat_then hQ fun e' S' a' w' hR hS'=>ihy hR hS' hQ))
  cases x with
  |region id ops draw=>
   cases draw with
   |true=>(simp only[xcode] at hk;exact hk.out e a w h Qr hQ)
   |false=>
    simp only[xcode] at hk
    split at hk
    ·exact hk.out e a w h Qr hQ
    ·exact plain (by simp only[xcode];exact hk)
  |_=>(simp only[xcode] at hk<;>first|exact sem_get hk h hQ|exact plain hk|exact plain (by simp only[xcode];exact hk))
 |cond c p q _ _=>intro e S a w Q Qr h hk hQ;exact sem_get hk h hQ
 |block id p _=>intro e S a w Q Qr h hk hQ;exact sem_get hk h hQ
 |loop p _=>intro e S a w Q Qr h hk hQ;exact sem_get hk h hQ
 |exit id=>intro e S a w Q Qr h hk hQ;exact wpIn_exit (hQ _ _ _ _ _ h hk)
 |ret=>intro e S a w Q Qr h hk hQ;exact wpIn_ret (hQ _ _ _ _ _ h hk)
 |rangeFunc f ps x y _ _=>intro e S a w Q Qr h hk hQ;exact sem_get hk h hQ
 |scope p _=>intro e S a w Q Qr h hk hQ;exact hk.elim
 |label l=>intro e S a w Q Qr h hk hQ;exact hk.elim
 |goto l=>intro e S a w Q Qr h hk hQ;exact hk.elim
 |refuse why=>intro e S a w Q Qr h hk hQ;exact hk.elim
structure Sub (X:Cx)(S S':St):Prop where
 out:∀e a w,Rep X e S a w->∃e',Rep X e' S' a w
theorem sub_get {S S':St}(hs:Sub X S S')(h:Rep X e S a w):∃e',Rep X e' S' a w:=by replace hs:=hs.out;exact hs e a w h
theorem seq_go (hT:TabOk X.P X.T){x y:Code}{Q:Exit->St->Prop}(hx:semP X x S (then_ Q fun S'=>xcode X y S' Q)):semP X (.seq x y) S Q:=by
 refine⟨?_⟩
 intro e a w h Qr hQ
 exact wpIn_seq (sem_get hx h (compat_then hQ fun e' S' a' w' hR hS'=>xcode_ok hT y hR hS' hQ))
theorem region_go (hT:TabOk X.P X.T){id:Nat}{ops:Array Oper}{Q:Exit->St->Prop}(hx:xops X id ops.toList ops.toList S (Q .normal)):semP X (.region id ops false) S Q:=by
 refine⟨?_⟩
 intro e a w h Qr hQ
 refine wpIn_region_list ?_
 have:=xops_ok hT (ops:=ops.toList) (Q:=Qr) id h hx fun e' S' a' w' hR hS=>hQ _ _ _ _ _ hR hS
 simpa using this
theorem cut_sem {x y:Code}{Q:Exit->St->Prop}(hx:semP X (.seq x y) S Q):cutP X x y S Q:=⟨hx.out⟩
theorem cut_go (hT:TabOk X.P X.T){id:Nat}{ops:Array Oper}{y:Code}{Q:Exit->St->Prop}(hx:xops X id ops.toList ops.toList S fun S'=>xcode X y S' Q):cutP X (.region id ops false) y S Q:=
 cut_sem (seq_go hT (region_go hT hx))
theorem cond_go (hT:TabOk X.P X.T){c:Operand}{p q:Code}{Q:Exit->St->Prop}(t:Bool)(hc:S.ev c=some (.c (.v (.bool t))))(hb:brP t (xcode X p S Q) (xcode X q S Q)):semP X (.cond c p q) S Q:=by
 refine⟨?_⟩
 intro e a w h Qr hQ
 have hd:=(h.ev_den hc).1
 simp only[SV.den,C.den] at hd
 refine wpIn_cond hd ?_
 rcases br_case hb with⟨rfl,hk2⟩|⟨rfl,hk2⟩
 ·exact xcode_ok hT p h hk2 hQ
 ·exact xcode_ok hT q h hk2 hQ
theorem block_go (hT:TabOk X.P X.T){id:Nat}{p:Code}{Q:Exit->St->Prop}(hp:xcode X p S (inBlk id Q)):semP X (.block id p) S Q:=by
 refine⟨?_⟩
 intro e a w h Qr hQ
 exact wpIn_block (xcode_ok hT p h hp (compat_inBlk hQ))
theorem sem_sub {S S':St}{c:Code}{Q:Exit->St->Prop}(hs:Sub X S S')(hc:semP X c S' Q):semP X c S Q:=by
 refine⟨?_⟩
 intro e a w h Qr hQ
 obtain⟨e',h'⟩:=sub_get hs h
 exact sem_get hc h' hQ
end
end Go.Proofs.YtgkkpefpbfadoaaGreat.Sy
namespace Go.Proofs.YtgkkpefpbfadoaaGreat.Sy
open Go Go.RowKit
def pairC:C->C->List (Nat×Nat)
 |.loc k _,.loc k' _=>[(k,k')]
 |.row k,.row k'=>[(k,k')]
 |.ep k _ _,.ep k' _ _=>[(k,k')]
 |.sl k _ _,.sl k' _ _=>[(k,k')]
 |_,_=>[]
def pairL:List C->List C->List (Nat×Nat)
 |c::r,c'::r'=>pairC c c'++pairL r r'
 |_,_=>[]
def pairSV:SV->SV->List (Nat×Nat)
 |.c x,.c y=>pairC x y
 |.agg x,.agg y=>pairL x y
 |_,_=>[]
def pairBlk:Blk->Blk->List (Nat×Nat)
 |.cells _ x,.cells _ y=>pairL x y
 |.fn _ x,.fn _ y=>pairL x y
 |_,_=>[]
def rhoFr (fr:List (Nat×SV)):List (Nat×SV)->List (Nat×Nat)
 |[]=>[]
 |(t,v)::r=>(match get fr t with
  |some v'=>pairSV v v'++rhoFr fr r
  |none=>rhoFr fr r)
def rhoG:List (List (Nat×SV))->List (List (Nat×SV))->List (Nat×Nat)
 |f::r,f'::r'=>rhoFr f f'++rhoG r r'
 |_,_=>[]
def ap (r:List (Nat×Nat))(k:Nat):Nat:=match get r k with
 |some j=>j
 |none=>k
def rhoH (H:List (Nat×Blk))(r:List (Nat×Nat)):List (Nat×Blk)->List (Nat×Nat)
 |[]=>[]
 |(k,b)::l=>(match get H (ap r k) with
  |some b'=>pairBlk b b'++rhoH H r l
  |none=>rhoH H r l)
def dedupR (seen:List Nat):List (Nat×Nat)->List (Nat×Nat)
 |[]=>[]
 |(k,j)::r=>(match seen.any (Nat.beq k) with
  |true=>dedupR seen r
  |false=>(k,j)::dedupR (k::seen) r)
def forceR:List (Nat×Nat)->(List (Nat×Nat)->Prop)->Prop
 |[],K=>K []
 |(k,j)::r,K=>forceNat k fun k=>forceNat j fun j=>forceR r fun r=>K ((k,j)::r)
theorem forceR_eq:∀(l:List (Nat×Nat))(K:List (Nat×Nat)->Prop),forceR l K=K l
 |[],K=>rfl
 |(t,v)::r,K=>by simp only[forceR,forceNat_eq,forceR_eq r]
def findK (S S':St)(K:List (Nat×Nat)->Prop):Prop:=
 forceR (dedupR [] (rhoFr S.fr S'.fr++rhoG S.g S'.g)) fun r=>forceR (dedupR [] (r++rhoH S.H r S'.H)) fun r=>forceR (dedupR [] (r++rhoH S.H r S'.H)) K
theorem findK_get {S S':St}{K:List (Nat×Nat)->Prop}(h:findK S S' K):∃r,K r:=by
 unfold findK at h
 simp only[forceR_eq] at h
 exact⟨_,h⟩
section
variable (ρ : Nat → Nat) (n : Nat)
def idOk (k k':Nat):Prop:=(Nat.beq k' (ρ k)&&Nat.blt k n)=true
def CEq:C->C->Prop
 |.v x,.v y=>y=x
 |.loc k o,.loc k' o'=>idOk ρ n k k'/\o'=o
 |.row k,.row k'=>idOk ρ n k k'
 |.ep k i o,.ep k' i' o'=>idOk ρ n k k'/\i'=i/\o'=o
 |.sl k o m,.sl k' o' m'=>idOk ρ n k k'/\o'=o/\m'=m
 |_,_=>False
def CsEq:List C->List C->Prop
 |[],[]=>True
 |c::r,c'::r'=>CEq ρ n c c'/\CsEq r r'
 |_,_=>False
def SVEq:SV->SV->Prop
 |.c x,.c y=>CEq ρ n x y
 |.agg x,.agg y=>CsEq ρ n x y
 |.un,.un=>True
 |_,_=>False
def CssEq:List (List C)->List (List C)->Prop
 |[],[]=>True
 |c::r,c'::r'=>CsEq ρ n c c'/\CssEq r r'
 |_,_=>False
def ElsEq:Els->Els->Prop
 |.vs x,.vs y=>y=x
 |.cs x,.cs y=>CssEq ρ n x y
 |.ns k x,.ns k' y=>idOk ρ n k k'/\y=x
 |_,_=>False
def curEq:Option Nat->Option Nat->Prop
 |none,_=>True
 |some i,c=>c=some i
def BlkEq:Blk->Blk->Prop
 |.cells t x,.cells t' y=>t'=t/\CsEq ρ n x y
 |.row t z m x,.row t' z' m' y=>(t'=t/\z'=z)/\m'=m/\ElsEq ρ n x y
 |.ext z m x,.ext z' m' y=>z'=z/\m'=m/\ElsEq ρ n x y
 |.buf t z m x,.buf t' z' m' y=>(t'=t/\z'=z)/\m'=m/\ElsEq ρ n x y
 |.fn f x,.fn f' y=>f'=f/\CsEq ρ n x y
 |.mv f x,.mv f' y=>f'=f/\CsEq ρ n x y
 |.lrec j nt ps as bd st,.lrec j' nt' ps' as' bd' st'=>(j'=j/\nt'=nt/\ps'=ps)/\as'=as/\bd'=bd/\st'=st
 |.mc ks x,.mc ks' y=>ks'=ks/\CsEq ρ n x y
 |.mp es q,.mp es' q'=>es'=es/\∀a st cl,q' a st cl->q a st cl
 |.it g st cl left cur,.it g' st' cl' left' cur'=>g'=g/\st'=st/\cl'=cl/\left'=left/\curEq cur cur'
 |.bag a b l,.bag a' b' l'=>a'=a/\b'=b/\l'=l
 |.dead,_=>True
 |_,_=>False
def SubFr (fr:List (Nat×SV)):List (Nat×SV)->Prop
 |[]=>True
 |(t,v)::r=>(match get fr t with
  |some v'=>SVEq ρ n v v'
  |none=>False)/\SubFr fr r
def SubH (H:List (Nat×Blk)):List (Nat×Blk)->Prop
 |[]=>True
 |(k,b)::r=>(match get H (ρ k) with
  |some b'=>BlkEq ρ n b b'
  |none=>False)/\Nat.blt k n=true/\SubH H r
def SubG:List (List (Nat×SV))->List (List (Nat×SV))->Prop
 |[],[]=>True
 |f::r,f'::r'=>SubFr ρ n f f'/\SubG r r'
 |_,_=>False
end
def apartB (ρ:Nat->Nat):List (Nat×Blk)->Bool
 |[]=>true
 |(k,_)::r=>match r.all (fun x=>!(Nat.beq (ρ x.1) (ρ k))||Nat.beq x.1 k) with
  |true=>apartB ρ r
  |false=>false
def fixB (ρ:Nat->Nat)(n0 nx:Nat):Bool:=match Nat.ble n0 nx with
 |true=>(List.range n0).all fun k=>Nat.beq (ρ k) k
 |false=>false
def pinB (ρ:Nat->Nat)(nx:Nat):List (Nat×Nat)->Bool
 |[]=>true
 |(k,_)::r=>match Nat.beq (ρ k) k&&Nat.blt k nx with
  |true=>pinB ρ nx r
  |false=>false
theorem pinB_get {ρ:Nat->Nat}{nx:Nat}:∀{l:List (Nat×Nat)},pinB ρ nx l=true->∀p∈l,ρ p.1=p.1/\p.1<nx
 |[],_,p,hp=>by cases hp
 |(k,v)::r,h,p,hp=>by
  unfold pinB at h
  split at h
  ·rename_i hk
   rw[Bool.and_eq_true] at hk
   rcases List.mem_cons.1 hp with rfl|hp
   ·exact⟨Nat.eq_of_beq_eq_true hk.1,blt_iff.1 hk.2⟩
   ·exact pinB_get h p hp
  ·cases h
def SubOk (r:List (Nat×Nat))(X:Cx)(S S':St):Prop:=
 SubFr (ap r) S'.nx S.fr S'.fr/\SubH (ap r) S'.nx S.H S'.H/\apartB (ap r) S'.H=true/\SubG (ap r) S'.nx S.g S'.g/\fixB (ap r) X.n0 S'.nx=true/\pinB (ap r) S'.nx X.pins=true
def SubGo (X:Cx)(S S':St):Prop:=St.forceAll S fun S=>St.forceAll S' fun S'=>match S with
 |⟨fr,H,nx,F,E,g⟩=>(match S' with
  |⟨fr',H',nx',F',E',g'⟩=>(F'=F/\E'=E)/\findK ⟨fr,H,nx,F,E,g⟩ ⟨fr',H',nx',F',E',g'⟩ fun r=>SubOk r X ⟨fr,H,nx,F,E,g⟩ ⟨fr',H',nx',F',E',g'⟩)
theorem subGo_get {X:Cx}{S S':St}(h:SubGo X S S'):(∃r,SubOk r X S S')/\S'.F=S.F/\S'.E=S.E:=by
 unfold SubGo at h
 rw[forceAll_eq,forceAll_eq] at h
 cases S;cases S'
 exact⟨findK_get h.2,h.1.1,h.1.2⟩
def Env.ren (e:Env)(ρ:Nat->Nat):Env:=⟨fun k=>e.ad (ρ k),fun k=>e.rv (ρ k),fun k=>e.ra (ρ k),fun k=>e.es (ρ k),fun k=>e.cp (ρ k),e.G⟩
section
variable {ρ : Nat → Nat} {n m : Nat} {e : Env}
theorem idOk_get {k k':Nat}(h:idOk ρ n k k'):k'=ρ k/\Nat.blt k n=true:=by
 unfold idOk at h
 rw[Bool.and_eq_true] at h
 exact⟨Nat.eq_of_beq_eq_true h.1,h.2⟩
theorem CEq.den {c c':C}(h:CEq ρ n c c'):c'.den e=c.den (e.ren ρ)/\(c'.lt m=true->c.lt n=true):=by
 cases c<;>cases c'<;>simp only[CEq] at h<;>first|exact h.elim|skip
 ·subst h;exact⟨rfl,fun h=>h⟩
 ·obtain⟨h,rfl⟩:=h;obtain⟨rfl,h2⟩:=idOk_get h;exact⟨rfl,fun _=>h2⟩
 ·obtain⟨rfl,h2⟩:=idOk_get h;exact⟨rfl,fun _=>h2⟩
 ·obtain⟨h,rfl,rfl⟩:=h;obtain⟨rfl,h2⟩:=idOk_get h;exact⟨rfl,fun _=>h2⟩
 ·obtain⟨h,rfl,rfl⟩:=h;obtain⟨rfl,h2⟩:=idOk_get h;exact⟨rfl,fun _=>h2⟩
theorem CsEq.den:∀{x y:List C},CsEq ρ n x y->y.map (C.den e)=x.map (C.den (e.ren ρ))/\(ltAll m y=true->ltAll n x=true)
 |[],[],_=>⟨rfl,fun _=>rfl⟩
 |c::r,c'::r',h=>by
  obtain⟨h1,h2⟩:=h
  obtain⟨i1,i2⟩:=CsEq.den h2
  obtain⟨j1,j2⟩:=h1.den (e:=e) (m:=m)
  refine⟨by rw[List.map_cons,List.map_cons,j1,i1],fun hl=>ltAll_of fun x hx=>?_⟩
  rcases List.mem_cons.1 hx with rfl|hx
  ·exact j2 (ltAll_mem hl _ (by simp))
  ·exact ltAll_mem (i2 (ltAll_of fun y hy=>ltAll_mem hl y (by simp[hy]))) x hx
 |[],_::_,h=>h.elim
 |_::_,[],h=>h.elim
theorem SVEq.den {x y:SV}(h:SVEq ρ n x y):y.den e=x.den (e.ren ρ)/\(y.lt m=true->x.lt n=true):=by
 cases x<;>cases y<;>simp only[SVEq] at h<;>first|exact h.elim|skip
 ·exact h.den
 ·obtain⟨h1,h2⟩:=h.den (e:=e) (m:=m);exact⟨by simp only[SV.den,h1],h2⟩
 ·exact⟨rfl,fun _=>rfl⟩
theorem CssEq.den:∀{x y:List (List C)},CssEq ρ n x y->y.map (fun c=>c.map (C.den e))=x.map (fun c=>c.map (C.den (e.ren ρ)))/\((∀c∈y,ltAll m c=true)->∀c∈x,ltAll n c=true)
 |[],[],_=>⟨rfl,fun _ c hc=>by cases hc⟩
 |c::r,c'::r',h=>by
  obtain⟨h1,h2⟩:=h
  obtain⟨i1,i2⟩:=CssEq.den h2
  obtain⟨j1,j2⟩:=h1.den (e:=e) (m:=m)
  refine⟨by simp only[List.map_cons,j1,i1],fun hl d hd=>?_⟩
  rcases List.mem_cons.1 hd with rfl|hd
  ·exact j2 (hl _ (by simp))
  ·exact i2 (fun y hy=>hl y (by simp[hy])) d hd
 |[],_::_,h=>h.elim
 |_::_,[],h=>h.elim
theorem ElsEq.den {x y:Els}(h:ElsEq ρ n x y):y.den e=x.den (e.ren ρ)/\(y.lt m->x.lt n):=by
 cases x<;>cases y<;>simp only[ElsEq] at h<;>first|exact h.elim|skip
 ·subst h;exact⟨rfl,fun h=>h⟩
 ·exact h.den
 ·rename_i k x k' y
  obtain⟨h1,rfl⟩:=h
  obtain⟨rfl,h2⟩:=idOk_get h1
  refine⟨?_,fun hl=>⟨blt_iff.1 h2,hl.2⟩⟩
  simp only[Els.den]
  refine List.map_congr_left fun x _=>?_
  unfold nsEl
  rw[List.map_cons,List.map_cons]
  refine congr (congrArg _ ?_) ?_
  ·cases x.1<;>rfl
  ·rw[map_den_v',map_den_v']
theorem BlkEq.den {F:Nat->Prop}{X:Cx}{k:Nat}{w:World}{b b':Blk}(h:BlkEq ρ n b b'):(b'.holds F X e (ρ k) w->b.holds F X (e.ren ρ) k w)/\(b'.lt m->b.lt n)/\∀x,b.foot (e.ren ρ) k x->b'.foot e (ρ k) x:=by
 cases b<;>cases b'<;>simp only[BlkEq] at h<;>first|exact h.elim|skip
 ·obtain⟨rfl,h⟩:=h
  obtain⟨h1,h2⟩:=h.den (e:=e) (m:=m)
  exact⟨fun hh=>by
   show w.heap[e.ad (ρ k)]?=_
   rw[<-h1];exact hh,h2,fun x hx=>hx⟩
 ·obtain⟨⟨rfl,rfl⟩,rfl,h⟩:=h
  obtain⟨h1,h2⟩:=h.den (e:=e) (m:=m)
  exact⟨fun hh=>⟨by rw[<-h1];exact hh.1,hh.2⟩,h2,fun x hx=>hx⟩
 ·obtain⟨rfl,rfl,h⟩:=h
  obtain⟨h1,h2⟩:=h.den (e:=e) (m:=m)
  exact⟨fun hh=>⟨by rw[<-h1];exact hh.1,hh.2⟩,h2,fun x hx=>hx⟩
 ·obtain⟨⟨rfl,rfl⟩,rfl,h⟩:=h
  obtain⟨h1,h2⟩:=h.den (e:=e) (m:=m)
  exact⟨fun hh=>⟨by rw[<-h1];exact hh.1,hh.2⟩,h2,fun x hx=>hx⟩
 ·obtain⟨rfl,h⟩:=h
  obtain⟨h1,h2⟩:=h.den (e:=e) (m:=m)
  exact⟨fun hh=>by
   show e.rv (ρ k)=_
   rw[<-h1];exact hh,h2,fun x hx=>hx⟩
 ·obtain⟨rfl,h⟩:=h
  obtain⟨h1,h2⟩:=h.den (e:=e) (m:=m)
  exact⟨fun hh=>by
   show e.rv (ρ k)=_
   rw[<-h1];exact hh,h2,fun x hx=>hx⟩
 ·obtain⟨⟨rfl,rfl,rfl⟩,rfl,rfl,rfl⟩:=h
  exact⟨fun hh=>hh,fun _=>trivial,fun x hx=>hx⟩
 ·obtain⟨rfl,hq⟩:=h
  exact⟨fun⟨h1,en,cl,h2,h3,h4,h5,h6⟩=>⟨h1,en,cl,h2,h3,h4,h5,hq _ _ _ h6⟩,fun hh=>hh,fun x hx=>hx⟩
 ·obtain⟨rfl,h⟩:=h
  obtain⟨h1,h2⟩:=h.den (e:=e) (m:=m)
  exact⟨fun⟨h3,en,cl,h4,h5,h6⟩=>⟨h3,en,cl,h4,h5,by rw[<-h1];exact h6⟩,h2,fun x hx=>hx⟩
 ·obtain⟨rfl,rfl,rfl,rfl,hc⟩:=h
  refine⟨fun⟨seen,last,h1,h2,h3,h4,h5⟩=>⟨seen,last,h1,h2,h3,h4,fun i hi=>?_⟩,fun hh=>hh,fun x hx=>hx⟩
  subst hi
  exact h5 i hc
 ·obtain⟨rfl,rfl,rfl⟩:=h
  exact⟨fun hh=>hh,fun _=>trivial,fun x hx=>hx⟩
 all_goals first
  |exact⟨fun _=>trivial,fun _=>trivial,fun x hx=>hx.elim⟩
theorem SubFr.mem {fr:List (Nat×SV)}:∀{l:List (Nat×SV)},SubFr ρ n fr l->∀{t:Nat}{v:SV},(t,v)∈l->∃v',get fr t=some v'/\SVEq ρ n v v'
 |[],_,t,v,hm=>by cases hm
 |(t',u)::r,h,t,v,hm=>by
  rcases List.mem_cons.1 hm with he|hm
  ·cases he
   have h:=h.1
   split at h
   ·rename_i v' hv';exact⟨v',hv',h⟩
   ·exact h.elim
  ·exact SubFr.mem h.2 hm
theorem SubH.mem {H:List (Nat×Blk)}:∀{l:List (Nat×Blk)},SubH ρ n H l->∀{k:Nat}{b:Blk},(k,b)∈l->∃b',get H (ρ k)=some b'/\BlkEq ρ n b b'/\Nat.blt k n=true
 |[],_,k,b,hm=>by cases hm
 |(k',c)::r,h,k,b,hm=>by
  rcases List.mem_cons.1 hm with he|hm
  ·cases he
   obtain⟨h1,h2,_⟩:=h
   split at h1
   ·rename_i b' hb';exact⟨b',hb',h1,h2⟩
   ·exact h1.elim
  ·exact SubH.mem h.2.2 hm
theorem SubG.get:∀{g g':List (List (Nat×SV))},SubG ρ n g g'->g.length=g'.length/\∀(i:Nat)(f':List (Nat×SV)),g'[i]?=some f'->∃f,g[i]?=some f/\SubFr ρ n f f'
 |[],[],_=>⟨rfl,fun i f h=>by simp at h⟩
 |f::r,f'::r',h=>by
  obtain⟨h1,h2⟩:=h
  obtain⟨i1,i2⟩:=SubG.get h2
  refine⟨by simp[i1],fun i x hx=>?_⟩
  cases i with
  |zero=>
   simp only[List.getElem?_cons_zero,Option.some.injEq] at hx
   subst hx
   exact⟨f,rfl,h1⟩
  |succ i=>exact i2 i x hx
 |[],_::_,h=>h.elim
 |_::_,[],h=>h.elim
theorem apartB_mem:∀{l:List (Nat×Blk)},apartB ρ l=true->∀{k k':Nat}{b b':Blk},(k,b)∈l->(k',b')∈l->ρ k=ρ k'->k=k'
 |[],_,k,k',b,b',hm,_,_=>by cases hm
 |(j,c)::r,h,k,k',b,b',hm,hm',he=>by
  unfold apartB at h
  split at h
  ·rename_i ha
   have hall:∀x∈r,ρ x.1=ρ j->x.1=j:=fun x hx hxe=>by
    have:=List.all_eq_true.1 ha x hx
    simpa[hxe] using this
   rcases List.mem_cons.1 hm with e1|hm<;>rcases List.mem_cons.1 hm' with e2|hm'
   ·cases e1;cases e2;rfl
   ·cases e1;exact(hall _ hm' he.symm).symm
   ·cases e2;exact hall _ hm he
   ·exact apartB_mem h hm hm' he
  ·cases h
end
section
variable {X : Cx} {e : Env} {S : St} {a : Act} {w : World}
theorem sub_of (r:List (Nat×Nat)){S S':St}(h:SubOk r X S S')(hF:S'.F=S.F)(hE:∀w,S.E w->S'.E w):Sub X S S':=by
 refine⟨?_⟩
 intro e a w hR
 obtain⟨hfr,hH,hap,hG,hfix,hpin⟩:=h
 have fixed:X.n0<=S'.nx/\∀k,k<X.n0->ap r k=k:=by
  unfold fixB at hfix
  split at hfix
  ·rename_i hle
   exact⟨Nat.le_of_ble_eq_true hle,fun k hk=>Nat.eq_of_beq_eq_true (List.all_eq_true.1 hfix k (List.mem_range.2 hk))⟩
  ·cases hfix
 have hg:=SubG.get hG
 refine⟨e.ren (ap r),hR.sz,fun t v hv=>?_,fun t v hv=>?_,fun k b hk=>?_,fun k b hk=>?_,fun k k' b b' x hk hk' hne hx hx'=>?_,fun k b x hk hx=>?_,hR.bel,fun x hx=>?_,fun x hx ho=>?_,fun w' hw=>?_,fun k=>hR.one _,fun i f hf=>?_,by rw[<-hg.1];exact hR.glen,hR.mkd,hR.mnd,fun D hD=>?_,fun k hk=>?_,fixed.1,fun p hp=>?_,hR.rdm⟩
 ·obtain⟨v',h1,h2⟩:=hfr.mem (mem_of_get hv)
  rw[<-(h2.den (e:=e) (m:=S.nx)).1]
  exact hR.fr t _ h1
 ·obtain⟨v',h1,h2⟩:=hfr.mem (mem_of_get hv)
  exact(h2.den (e:=e) (m:=S.nx)).2 (hR.frlt t _ h1)
 ·obtain⟨b',h1,h2,_⟩:=hH.mem (mem_of_get hk)
  rw[hF]
  exact(h2.den (m:=S.nx)).1 (hR.hp _ _ h1)
 ·obtain⟨b',h1,h2,h3⟩:=hH.mem (mem_of_get hk)
  exact⟨blt_iff.1 h3,(h2.den (F:=S.F) (X:=X) (w:=w) (e:=e) (k:=k) (m:=S.nx)).2.1 (hR.hlt _ _ h1).2⟩
 ·have m1:=mem_of_get hk
  have m2:=mem_of_get hk'
  obtain⟨c,h1,h2,_⟩:=hH.mem m1
  obtain⟨c',h1',h2',_⟩:=hH.mem m2
  exact hR.sep _ _ _ _ x h1 h1' (fun e1=>hne (apartB_mem hap m1 m2 e1)) ((h2.den (F:=S.F) (X:=X) (w:=w) (m:=S.nx)).2.2 x hx) ((h2'.den (F:=S.F) (X:=X) (w:=w) (m:=S.nx)).2.2 x hx')
 ·obtain⟨c,h1,h2,_⟩:=hH.mem (mem_of_get hk)
  rw[hF]
  exact hR.ff _ _ x h1 ((h2.den (F:=S.F) (X:=X) (w:=w) (m:=S.nx)).2.2 x hx)
 ·rw[hF] at hx;exact hR.fl x hx
 ·rw[hF];exact hR.f0 x hx ho
 ·exact hE w' (hR.ev w' fun x hx=>hw x (by rw[hF];exact hx))
 ·obtain⟨f0,h1,h2⟩:=hg.2 i f hf
  obtain⟨b,hb,hv⟩:=hR.gl i f0 h1
  refine⟨b,hb,fun t v ht=>?_⟩
  obtain⟨v',h3,h4⟩:=h2.mem (mem_of_get ht)
  obtain⟨h5,h6⟩:=hv t v' h3
  exact⟨by rw[<-(h4.den (e:=e) (m:=S.nx)).1];exact h5,(h4.den (e:=e) (m:=S.nx)).2 h6⟩
 ·obtain⟨h1,h2,h3⟩:=hR.mks D hD
  refine⟨h1,by rw[hF];exact h2,fun k b hk hx=>?_⟩
  obtain⟨c,h4,h5,_⟩:=hH.mem (mem_of_get hk)
  exact h3 _ _ h4 ((h5.den (F:=S.F) (X:=X) (w:=w) (m:=S.nx)).2.2 D hx)
 ·have:=hR.es k hk
  show e.ad (ap r k)=_/\e.rv (ap r k)=_/\e.ra (ap r k)=_/\e.es (ap r k)=_/\e.cp (ap r k)=_
  rw[fixed.2 k hk]
  exact this
 ·obtain⟨h1,h2⟩:=pinB_get hpin p hp
  exact⟨by show e.ad (ap r p.1)=_;rw[h1];exact(hR.pin p hp).1,h2⟩
theorem sub_auto {S S':St}(h:SubGo X S S'):Sub X S S':=by
 obtain⟨⟨r,h1⟩,h2,h3⟩:=subGo_get h
 exact sub_of r h1 h2 fun w hw=>by rw[h3];exact hw
def writesOps:List Oper->List Nat
 |[]=>[]
 |o::r=>(match o.dst with
  |some d=>d::writesOps r
  |none=>writesOps r)
def writes:Code->List Nat
 |.region _ ops _=>writesOps ops.toList
 |.seq x y=>writes x++writes y
 |.cond _ x y=>writes x++writes y
 |.block _ x=>writes x
 |.loop x=>writes x
 |_=>[]
def keepFr (ws:List Nat):List (Nat×SV)->List (Nat×SV)
 |[]=>[]
 |(t,v)::r=>(match ws.any (Nat.beq t) with
  |true=>keepFr ws r
  |false=>(match v with
   |.tup _=>keepFr (t::ws) r
   |v=>(t,v)::keepFr (t::ws) r))
def dedupH (seen:List Nat):List (Nat×Blk)->List (Nat×Blk)
 |[]=>[]
 |(k,b)::r=>(match seen.any (Nat.beq k) with
  |true=>dedupH seen r
  |false=>(match b with
   |.dead=>dedupH (k::seen) r
   |b=>(k,b)::dedupH (k::seen) r))
def firstReg:Code->Option Nat
 |.region id _ _=>some id
 |.seq x y=>(match firstReg x with
  |some i=>some i
  |none=>firstReg y)
 |.block _ x=>firstReg x
 |.loop x=>firstReg x
 |_=>none
def liveAt (X:Cx)(c:Code):Option (List Nat):=match firstReg c with
 |some i=>get X.lv i
 |none=>none
def St.inv (S:St)(ws:List Nat)(fr:List (Nat×SV))(H:List (Nat×Blk)):St:=match S with
 |⟨fr0,H0,nx,F,E,g⟩=>⟨fr++keepFr (fr.map (·.1)++ws) fr0,dedupH [] (H++H0),nx,F,E,g⟩
theorem loop_inv (hT:TabOk X.P X.T){p:Code}{Q:Exit->St->Prop}{ι:Type}(fr:ι->List (Nat×SV))(H:ι->List (Nat×Blk))(ok:ι->Prop)(μ:ι->Nat)(i0:ι)(h0:ok i0)
 (hs:SubGo X (S.prune (liveAt X p)) ((S.prune (liveAt X p)).inv (writes p) (fr i0) (H i0)))
 (round:∀i,ok i->St.forceAll ((S.prune (liveAt X p)).inv (writes p) (fr i) (H i)) fun S1=>xcode X p S1 (then_ Q fun S'=>∃j,ok j/\μ j<μ i/\SubGo X S' ((S.prune (liveAt X p)).inv (writes p) (fr j) (H j)))):semP X (.loop p) S Q:=by
 refine⟨?_⟩
 intro e a w h Qr hQ
 obtain⟨e0,hR0⟩:=sub_get (sub_auto hs) (h.prune (liveAt X p))
 refine wpIn_loop_ghost (fun n a w=>∃i e,ok i/\μ i=n/\Rep X e ((S.prune (liveAt X p)).inv (writes p) (fr i) (H i)) a w) (μ i0) ⟨i0,e0,h0,rfl,hR0⟩ ?_
 rintro n a w ⟨i,e,hi,rfl,hR⟩
 have:=round i hi
 rw[forceAll_eq] at this
 refine xcode_ok hT p hR this (compat_then hQ fun e' S' a' w' hR' hS'=>?_)
 obtain⟨j,hj,hlt,h3⟩:=hS'
 obtain⟨e2,hR2⟩:=sub_get (sub_auto h3) hR'
 exact⟨μ j,hlt,j,e2,hj,rfl,hR2⟩
theorem sub_row {S:St}(t ety esz:Nat)(ht:get S.fr t=some (.c (.v (.slice none 0 0)))):Sub X S {S with fr:=(t,.c (.row S.nx))::S.fr,H:=(S.nx,.row ety esz 0 (.vs []))::S.H,nx:=S.nx+1}:=by
 refine⟨?_⟩
 intro e a w h
 have hR:=h.newRow (w':=w) (ety:=ety) (esz:=esz) (n:=0) (xs:=.vs []) (v:=.slice none 0 0) (fun c hc=>by cases hc) rfl rfl rfl (Nat.le_refl _) (fun _ _=>rfl) ⟨rfl,fun c hc=>(by cases hc),.inl ⟨none,rfl,rfl⟩⟩ (fun x hx=>absurd hx (noRow_foot x))
 refine⟨_,{hR with fr:=fun i v hv=>?_,frlt:=fun i v hv=>?_}⟩
 ·rcases get_cons hv with⟨rfl,rfl⟩|⟨_,hv⟩
  ·have:=h.fr t _ ht
   simp only[SV.den,C.den,Env.withRow_rv] at this⊢
   exact this
  ·exact hR.fr i v hv
 ·rcases get_cons hv with⟨rfl,rfl⟩|⟨_,hv⟩
  ·exact blt_iff.2 (Nat.lt_succ_self _)
  ·exact hR.frlt i v hv
theorem sub_rowc {S:St}(k o ety esz:Nat){ty:Nat}{cs:List C}(hk:get S.H k=some (.cells ty cs))(ho:cs[o]?=some (.v (.slice none 0 0))):Sub X S {S with H:=(k,.cells ty (cs.set o (.row S.nx)))::(S.nx,.row ety esz 0 (.vs []))::S.H,nx:=S.nx+1}:=by
 refine⟨?_⟩
 intro e a w h
 have hR:=h.newRow (w':=w) (ety:=ety) (esz:=esz) (n:=0) (xs:=.vs []) (v:=.slice none 0 0) (fun c hc=>by cases hc) rfl rfl rfl (Nat.le_refl _) (fun _ _=>rfl) ⟨rfl,fun c hc=>(by cases hc),.inl ⟨none,rfl,rfl⟩⟩ (fun x hx=>absurd hx (noRow_foot x))
 have hlt:=h.hlt k _ hk
 have hk':get (S.new (.row ety esz 0 (.vs []))).H k=some (.cells ty cs):=(get_other (Ne.symm (Nat.ne_of_lt hlt.1)) _ _).trans hk
 refine⟨_,hR.setSame (k:=k) (b0:=.cells ty (cs.set o (.row S.nx))) hk' (ltAll_of fun c hc=>?_) (fun _ hx=>hx) ?_⟩
 ·rcases List.mem_or_eq_of_mem_set hc with hc|rfl
  ·exact C.lt_mono (Nat.le_succ _) (ltAll_mem hlt.2 c hc)
  ·exact blt_iff.2 (Nat.lt_succ_self _)
 ·have hh:=hR.hp k _ hk'
  show w.heap[_]?=_
  rw[show w.heap[_]?=_ from hh,List.map_set]
  congr 3
  have e1:C.den (e.withRow S.nx (.slice none 0 0) esz) (.row S.nx)=.slice none 0 0:=Env.withRow_rv _ _ _ _
  rw[e1]
  refine(List.ext_getElem? fun i=>?_)
  rw[List.getElem?_set]
  by_cases hi:o=i
  ·subst hi
   obtain⟨h1,h2⟩:=List.getElem?_eq_some_iff.1 ho
   rw[if_pos rfl,if_pos (by simpa using h1),List.getElem?_map,ho]
   rfl
  ·simp[hi]
end
end Go.Proofs.YtgkkpefpbfadoaaGreat.Sy
namespace Go.Proofs.YtgkkpefpbfadoaaGreat.Sy
open Go Go.RowKit
section
variable {X : Cx} {e : Env} {S : St} {a : Act} {w : World}
def xresult (X:Cx)(S:St):ResultVar->Option V1
 |.tmp t=>(match get S.fr t with
  |some (.c x)=>some (.c x)
  |some (.agg cs)=>some (.agg cs)
  |_=>none)
 |.cell p t=>(match get S.fr p with
  |some (.c (.loc k o))=>(match get S.H k with
   |some (.cells _ cs)=>(match get X.T t with
    |some ti=>(match rowB ti.d with
     |true=>(match Nat.ble (o+ti.size) cs.length with
      |true=>some (.agg ((cs.drop o).take ti.size))
      |false=>none)
     |false=>(match cs[o]? with
      |some c=>some (.c c)
      |none=>none))
    |none=>none)
   |_=>none)
  |_=>none)
def xresults (X:Cx)(S:St):List ResultVar->Option (List V1)
 |[]=>some []
 |r::l=>match xresult X S r with
  |some v=>(match xresults X S l with
   |some vs=>some (v::vs)
   |none=>none)
  |none=>none
def oneOf:List V1->SV
 |[v]=>v.sv
 |vs=>.tup vs
def resOne (tmps:Array Value):ResultVar->Sem Value
 |.tmp t=>pure (tmps.getD t undef)
 |.cell a t=>do loadVar t (<-asAddr (tmps.getD a undef))
theorem results_eq (fn:Func)(tmps:Array Value):results fn tmps=(do let vs<-fn.results.mapM (resOne tmps);pure (if h:vs.size=1 then vs[0] else .tuple vs)):=by
 unfold results
 congr 1
theorem xresult_ok (hT:TabOk X.P X.T)(h:Rep X e S a w){r:ResultVar}{v:V1}(hv:xresult X S r=some v):
 (resOne a.tmps r).run X.P w=.ok (v.den e) w/\v.lt S.nx=true:=by
 unfold resOne
 cases r with
 |tmp t=>
  simp only[xresult] at hv
  split at hv
  ·rename_i x hx
   cases hv
   have:=h.fr t _ hx
   exact⟨by simp[this,SV.den,V1.den],h.frlt t _ hx⟩
  ·rename_i x hx
   cases hv
   have:=h.fr t _ hx
   exact⟨by simp[this,SV.den,V1.den],h.frlt t _ hx⟩
  ·cases hv
 |cell p t=>
  simp only[xresult] at hv
  split at hv
  ·rename_i k o' hx
   have hp:=h.fr p _ hx
   split at hv
   ·rename_i ty cs hH
    have hb:w.heap[e.ad k]?=some (.cells (cs.map (C.den e)).toArray ty (0,0)):=h.hp k _ hH
    have hlt:ltAll S.nx cs=true:=(h.hlt k _ hH).2
    split at hv
    ·rename_i ti hti
     obtain⟨hu,j,hj,_,hjs,_⟩:=TabOk.get hT hti
     split at hv
     ·rename_i hr
      split at hv
      ·rename_i hle
       have hle:o'+ti.size<=cs.length:=Nat.le_of_ble_eq_true hle
       cases hv
       have hrun:=run_load_agg (p:=⟨e.ad k,o',none⟩) (cs:=((cs.drop o').take ti.size).map (C.den e)) (w:=w) hu hr hj (by simp;omega) (fun i v hi=>by
        rw[Addr.add_mid]
        refine cell_of_block hb ?_
        rw[List.getElem?_map] at hi
        cases hc:((cs.drop o').take ti.size)[i]? with
        |none=>rw[hc] at hi;cases hi
        |some c=>
         rw[hc] at hi
         simp only[Option.map_some,Option.some.injEq] at hi
         subst hi
         have:=take_drop_get rfl i c hc
         simp[this])
       simp only[Instr.loadAt,Instr.sureAddr,Sem.run_bind,Sem.run_pure,Result.andThen_ok] at hrun
       exact⟨by simp[hp,SV.den,C.den,asAddr,hrun,V1.den],ltAll_drop_take hlt⟩
      ·cases hv
     ·rename_i hr
      split at hv
      ·rename_i c hc
       cases hv
       have hrun:=run_load_one (w:=w) (v:=c.den e) hu hr (cell_of_block (o:=o') hb (by simp[hc]))
       simp only[Instr.loadAt,Instr.sureAddr,Sem.run_bind,Sem.run_pure,Result.andThen_ok] at hrun
       exact⟨by simp[hp,SV.den,C.den,asAddr,hrun,V1.den],ltAll_get hlt hc⟩
      ·cases hv
    ·cases hv
   ·cases hv
  ·cases hv
theorem xresults_ok (hT:TabOk X.P X.T)(h:Rep X e S a w):∀{l:List ResultVar}{vs:List V1},xresults X S l=some vs->
 (List.mapM (resOne a.tmps) l).run X.P w=.ok (vs.map (V1.den e)) w/\ltAll1 S.nx vs=true
 |[],vs,hv=>by cases hv;exact⟨rfl,rfl⟩
 |r::l,vs,hv=>by
  simp only[xresults] at hv
  split at hv
  ·rename_i v h1
   split at hv
   ·rename_i vs' h2
    cases hv
    obtain⟨i1,i2⟩:=xresult_ok hT h h1
    obtain⟨j1,j2⟩:=xresults_ok hT h h2
    refine⟨?_,ltAll1_of fun c hc=>?_⟩
    ·rw[List.mapM_cons]
     simp only[Sem.run_bind,i1,Result.andThen_ok,j1,Sem.run_pure,List.map_cons]
    ·rcases List.mem_cons.1 hc with rfl|hc
     ·exact i2
     ·exact ltAll1_mem j2 c hc
   ·cases hv
  ·cases hv
theorem results_ok (hT:TabOk X.P X.T)(h:Rep X e S a w){fn:Func}{vs:List V1}(hvs:xresults X S fn.results.toList=some vs):(results fn a.tmps).run X.P w=.ok ((oneOf vs).den e) w/\(oneOf vs).lt S.nx=true:=by
 obtain⟨hm,hl⟩:=xresults_ok hT h hvs
 refine⟨?_,?_⟩
 ·have hm2:(fn.results.mapM (resOne a.tmps)).run X.P w=.ok (vs.map (V1.den e)).toArray w:=by
   rw[<-Array.toArray_toList (xs:=fn.results),List.mapM_toArray]
   simp only[map_eq_pure_bind,Sem.run_bind,hm,Result.andThen_ok,Sem.run_pure]
  rw[results_eq]
  simp only[Sem.run_bind,hm2,Result.andThen_ok,Sem.run_pure]
  congr 1
  match vs with
  |[]=>rfl
  |[v]=>simp[oneOf,V1.den_sv]
  |v::u::r=>simp[oneOf,SV.den]
 ·match vs with
  |[]=>rfl
  |[v]=>
   have:=ltAll1_mem hl v (by simp)
   cases v<;>exact this
  |v::u::r=>exact hl
theorem Rep.unmark (h:Rep X e S a w){ds:List Deferred}{d:Deferred}(hd:a.defers=d::ds):∃D,d=markOf D/\(Instr.takeDeferred D).run X.P w=.ok [] (w.putObj D (.deferred none))/\Rep X {e with G:=e.G.tail} S {a with defers:=ds} (w.putObj D (.deferred none)):=by
 have hm:=h.mkd
 rw[List.flatMap_cons,hd] at hm
 cases hG:e.G with
 |nil=>rw[hG] at hm;cases hm
 |cons D G=>
  rw[hG] at hm
  simp only[List.cons_append,List.map_cons,List.cons.injEq] at hm
  obtain⟨hm1,hm2⟩:=hm
  have hnd:=h.mnd
  rw[hG] at hnd
  have hD:=h.mks D (by rw[hG];simp)
  have hlt:D<w.heap.size:=(Array.getElem?_eq_some_iff.1 hD.1).1
  have hne:∀x,Kept e S S.nx x->x∉e.G->(w.putObj D (.deferred none)).heap[x]?=w.heap[x]?:=fun x _ hx=>World.putObj_heap_other (fun e1=>hx (by rw[e1,hG];simp))
  have hF:∀x,S.F x->(w.putObj D (.deferred none)).heap[x]?=w.heap[x]?:=fun x hx=>World.putObj_heap_other (fun e1=>by subst e1;exact hD.2.1 hx)
  have hs:Env.same S.nx e {e with G:=e.G.tail}:=fun _ _=>⟨rfl,rfl,rfl,rfl,rfl⟩
  refine⟨D,hm1,run_takeDeferred hD.1,⟨h.sz,h.fr,h.frlt,fun k b hk=>?_,h.hlt,h.sep,h.ff,⟨h.bel.os,h.bel.tape,h.bel.output,by rw[World.putObj_size];exact h.bel.size,fun x hx ho=>?_⟩,fun x hx=>by rw[World.putObj_size];exact h.fl x hx,h.f0,fun w'' hw=>h.ev w'' fun x hx=>(hw x hx).trans (hF x hx),h.one,h.gl,h.glen,?_,?_,fun D' hD'=>?_,h.es,h.n0,h.pin,fun hr=>by have:=h.rdm hr;rw[hd] at this;cases this⟩⟩
  ·exact Blk.holds_keep (h.hp k b hk) hs (h.hlt k b hk).1 (h.hlt k b hk).2 (fun _ h=>h) (fun x hx=>World.putObj_heap_other (fun e1=>by subst e1;exact hD.2.2 k b hk hx)) hF
  ·exact(hF x (h.f0 x hx ho)).trans (h.bel.block x hx ho)
  ·rw[List.flatMap_cons];simp only[List.tail_cons];exact hm2
  ·simp only[List.tail_cons];exact(List.nodup_cons.1 hnd).2
  ·simp only[List.tail_cons] at hD'
   have hne:D'≠D:=fun e1=>(List.nodup_cons.1 hnd).1 (e1▸hD')
   have:=h.mks D' (by rw[hG];simp[hD'])
   exact⟨(World.putObj_heap_other hne).trans this.1,this.2⟩
theorem leaves_ok {fn:Func}{R:Ending->World->Prop}:∀(ds:List Deferred){e:Env}{a:Act}{w:World},Rep X e S a w->a.defers=ds->
 (∀e' w',Rep X e' S {a with defers:=[]} w'->∃v,(results fn a.tmps).run X.P w'=.ok v w'/\R (.returned v) w')->LeavesInM Fence.wide 0 X.P fn a.tmps R ds .returning w
 |[],e,a,w,h,hd,hk=>by
  have:a={a with defers:=[]}:=by cases a;cases hd;rfl
  exact hk e w (this▸h)
 |d::ds,e,a,w,h,hd,hk=>by
  obtain⟨D,rfl,h1,h2⟩:=h.unmark hd
  exact⟨(fun h=>by cases h),.inl ⟨D,_,rfl,h1,leaves_ok ds (a:={a with defers:=ds}) h2 rfl hk⟩⟩
structure finP (X:Cx)(S:St)(v:SV)(R:Ending->World->Prop):Prop where
 out:∀e a w,Rep X e S a w->R (.returned (v.den e)) w
def xret (X:Cx)(fn:Func)(R:Ending->World->Prop)(ex:Exit)(S:St):Prop:=match ex with
 |.normal=>(match xresults X S fn.results.toList with
  |some vs=>finP X S (oneOf vs) R
  |none=>False)
 |.ret=>(match xresults X S fn.results.toList with
  |some vs=>finP X S (oneOf vs) R
  |none=>False)
 |_=>False
theorem xret_ok (hT:TabOk X.P X.T){fn:Func}{R:Ending->World->Prop}:compat X (xret X fn R) (bodyPostM Fence.wide 0 X.P fn R):=by
 intro ex e S a w h hk
 have key:(match xresults X S fn.results.toList with
  |some vs=>finP X S (oneOf vs) R
  |none=>False)->LeavesInM Fence.wide 0 X.P fn a.tmps R a.defers .returning w:=by
  intro hk
  split at hk
  ·rename_i vs hvs
   replace hk:=hk.out
   exact leaves_ok a.defers h rfl fun e' w' hR=>⟨_,(results_ok hT hR hvs).1,hk _ _ _ hR⟩
  ·exact hk.elim
 cases ex with
 |normal=>exact key hk
 |ret=>exact key hk
 |exit id=>exact hk.elim
 |goto l=>exact hk.elim
 |panic ch=>exact hk.elim
 |outgrown=>exact hk.elim
def number:Nat->List SV->List (Nat×SV)
 |_,[]=>[]
 |i,v::r=>(i,v)::number (i+1) r
theorem get_number {t:Nat}{v:SV}:∀{l:List SV}{j:Nat},get (number j l) t=some v->j<=t/\l[t-j]?=some v
 |[],j,h=>by cases h
 |u::r,j,h=>by
  rcases get_cons h with⟨rfl,rfl⟩|⟨hne,h⟩
  ·exact⟨Nat.le_refl _,by simp⟩
  ·obtain⟨h1,h2⟩:=get_number h
   refine⟨by omega,?_⟩
   rw[show t-j=(t-(j+1))+1 by omega,List.getElem?_cons_succ]
   exact h2
def actOf (args:Array Value)(nt:Nat):Act:={tmps:=args++Array.replicate (nt-args.size) undef,defers:=[]}
theorem actOf_size {args:Array Value}{nt:Nat}(h:args.size<=nt):(actOf args nt).tmps.size=nt:=by simp[actOf];omega
def St.withFr (S:St)(fr:List (Nat×SV)):St:=match S with|⟨_,H,nx,F,E,g⟩=>⟨fr,H,nx,F,E,g⟩
theorem Rep.setFr {args:Array Value}{nt:Nat}(h:Rep X e S (actOf args nt) w)(avs:List SV)(hargs:args=denAll e avs)(hl:∀v∈avs,v.lt S.nx=true)(_:avs.length<=nt):Rep X e (S.withFr (number 0 avs)) (actOf args nt) w:=by
 refine{h with fr:=fun t v hv=>?_,frlt:=fun t v hv=>?_}
 ·obtain⟨_,h2⟩:=get_number hv
  rw[Nat.sub_zero] at h2
  have hlt:t<avs.length:=(List.getElem?_eq_some_iff.1 h2).1
  subst hargs
  show((denAll e avs)++_)[t]?=_
  rw[Array.getElem?_append_left (by simpa[denAll] using hlt)]
  simp[denAll,h2]
 ·obtain⟨_,h2⟩:=get_number hv
  exact hl v (List.mem_of_getElem? h2)
def St.bare (w:World)(own:Nat->Prop):St:={fr:=[],H:=[],nx:=0,F:=fun x=>x<w.heap.size/\¬own x,E:=fun _=>True}
theorem rep_bare {lv:List (Nat×List Nat)}{P:Program}{T:Tab}{w:World}{nt:Nat}{own:Nat->Prop}{args:Array Value}(hn:args.size<=nt):
 Rep {P:=P,T:=T,w0:=w,nt:=nt,own:=own,lv:=lv} env0 (St.bare w own) (actOf args nt) w:=by
 refine⟨actOf_size hn,fun t v hv=>(by cases hv),fun t v hv=>(by cases hv),fun k b hk=>(by cases hk),fun k b hk=>(by cases hk),fun k k' b b' x hk=>(by cases hk),fun k b x hk=>(by cases hk),⟨rfl,rfl,rfl,Nat.le_refl _,fun _ _ _=>rfl⟩,fun x hx=>hx.1,fun x hx ho=>⟨hx,ho⟩,fun _ _=>trivial,fun _=>rfl,fun i fr hi=>by simp[St.bare] at hi,rfl,rfl,List.nodup_nil,fun D hD=>(by cases hD),fun k hk=>(by cases hk),Nat.le_refl _,(fun p hp=>by cases hp),fun _=>rfl⟩
structure XD where
 v:Value
 esz:Nat
 n:Nat
 xs:List (List Value)
def XD.ok (F:Nat->Prop)(w:World)(d:XD):Prop:=ReadsE F w d.esz d.v d.n d.xs/\∀c∈d.xs,∀u∈c,u.oneCell'=true
def St.exts (S:St):List XD->St
 |[]=>S
 |⟨_,esz,n,xs⟩::l=>(S.new (.ext esz n (.vs xs))).exts l
def Env.exts (e:Env)(k:Nat):List XD->Env
 |[]=>e
 |d::l=>(e.withRow k d.v d.esz).exts (k+1) l
theorem Rep.exts:∀(l:List XD){e:Env}{S:St},Rep X e S a w->(∀d∈l,d.ok S.F w)->Rep X (e.exts S.nx l) (S.exts l) a w
 |[],e,S,h,_=>h
 |d::l,e,S,h,hl=>by
  have h1:=h.newExt (esz:=d.esz) (n:=d.n) (xs:=.vs d.xs) (v:=d.v) (hl d (by simp)).2 (hl d (by simp)).1
  exact Rep.exts l h1 fun d' hd=>hl d' (by simp[hd])
def allLt (n:Nat):List SV->Bool
 |[]=>true
 |v::r=>match v.lt n with
  |true=>allLt n r
  |false=>false
theorem allLt_mem {n:Nat}:∀{l:List SV},allLt n l=true->∀v∈l,v.lt n=true
 |[],_,v,hv=>by cases hv
 |x::r,h,v,hv=>by
  unfold allLt at h
  split at h
  ·rename_i hx
   rcases List.mem_cons.1 hv with rfl|hv
   ·exact hx
   ·exact allLt_mem h v hv
  ·cases h
def AllOk (F:Nat->Prop)(w:World):List XD->Prop
 |[]=>True
 |d::l=>d.ok F w/\AllOk F w l
theorem AllOk.mem {F:Nat->Prop}:∀{l:List XD},AllOk F w l->∀d∈l,d.ok F w
 |[],_,d,hd=>by cases hd
 |x::r,h,d,hd=>by
  rcases List.mem_cons.1 hd with rfl|hd
  ·exact h.1
  ·exact AllOk.mem h.2 d hd
theorem calls_go {lv:List (Nat×List Nat)}{P:Program}{T:Tab}{f:FuncId}{fn:Func}{c:Code}{w:World}{R:Ending->World->Prop}(hT:TabOk P T)(hf:P.funcs[f]?=some fn)(hb:fn.body=some c){nt:Nat}(hnt:fn.ntmps=nt){args:Array Value}{own:Nat->Prop}{n0:Nat}{e0:Env}{e:Env}{S:St}
 (h:Rep {P:=P,T:=T,w0:=w,nt:=nt,own:=own,n0:=n0,e0:=e0,lv:=lv} e S (actOf args nt) w)(hx:xcode {P:=P,T:=T,w0:=w,nt:=nt,own:=own,n0:=n0,e0:=e0,lv:=lv} c S (xret {P:=P,T:=T,w0:=w,nt:=nt,own:=own,n0:=n0,e0:=e0,lv:=lv} fn R)):Calls P f args w R:=by
 refine callsIn_wide (n:=0).1 (callsIn_of_wp_marks hf hb trivial ?_)
 rw[hnt]
 exact xcode_ok hT c h hx (xret_ok hT)
theorem calls_of (lv:List (Nat×List Nat)){P:Program}{T:Tab}{f:FuncId}{fn:Func}{c:Code}{w:World}{R:Ending->World->Prop}(hT:TabOk P T)(hf:P.funcs[f]?=some fn)(hb:fn.body=some c)(nt:Nat)(hnt:fn.ntmps=nt){args:Array Value}(exts:List XD)(avs:List SV)(hargs:args=denAll (env0.exts 0 exts) avs)(hl:allLt exts.length avs=true)(hn:Nat.ble avs.length nt=true)
 (hd:AllOk (fun x=>x<w.heap.size) w exts)
 (hx:St.forceAll (((St.bare w fun _=>False).exts exts).withFr (number 0 avs)) fun S=>xcode {P:=P,T:=T,w0:=w,nt:=nt,lv:=lv} c S (xret {P:=P,T:=T,w0:=w,nt:=nt,lv:=lv} fn R)):Calls P f args w R:=by
 rw[forceAll_eq] at hx
 have hn:=Nat.le_of_ble_eq_true hn
 have hsz:args.size=avs.length:=by rw[hargs];simp[denAll]
 have h0:=rep_bare (lv:=lv) (P:=P) (T:=T) (w:=w) (nt:=nt) (own:=fun _=>False) (args:=args) (by omega)
 have h1:=Rep.exts exts h0 (fun d hd'=>⟨(AllOk.mem hd d hd').1.keep (fun b hb=>⟨hb,fun h=>h⟩) (fun _ _=>rfl),(AllOk.mem hd d hd').2⟩)
 have hnx:∀(l:List XD)(S:St),(S.exts l).nx=S.nx+l.length:=by
  intro l
  induction l with
  |nil=>intro S;rfl
  |cons d l ih=>intro S;rw[St.exts,ih,new_nx,List.length_cons];omega
 have h2:=h1.setFr avs hargs (fun v hv=>by rw[hnx];simpa[St.bare] using allLt_mem hl v hv) hn
 exact calls_go hT hf hb hnt h2 hx
theorem fin_of {v:SV}{R:Ending->World->Prop}(h:∀e a w,Rep X e S a w->R (.returned (v.den e)) w):finP X S v R:=by refine⟨?_⟩;exact h
theorem fin_val {lv:List (Nat×List Nat)}{P:Program}{T:Tab}{w0:World}{nt:Nat}{v:SV}{u:Value}(h:∀e,v.den e=u):finP {P:=P,T:=T,w0:=w0,nt:=nt,lv:=lv} S v (Ret u w0):=fin_of fun e a w hR=>⟨by rw[h],hR.bel.below⟩
def dropRecs (n:Nat):List (Nat×Blk)->List (Nat×Blk)
 |[]=>[]
 |(k,b)::r=>(match b with
  |.lrec j nt ps as bd st=>(match Nat.blt j n with
   |true=>(k,.lrec j nt ps as bd st)
   |false=>(k,.dead))
  |b=>(k,b))::dropRecs n r
theorem get_dropRecs {n:Nat}:∀{H:List (Nat×Blk)}{k:Nat}{b:Blk},get (dropRecs n H) k=some b->∃b0,get H k=some b0/\(b=.dead\/(b=b0/\∀j nt ps as bd st,b=.lrec j nt ps as bd st->j<n))
 |[],k,b,h=>by cases h
 |(j,c)::r,k,b,h=>by
  unfold dropRecs at h
  have cons:∀c',get ((j,c')::dropRecs n r) k=some b->(j=k->∃b0,get ((j,c)::r) k=some b0/\(b=.dead\/(b=b0/\∀j nt ps as bd st,b=.lrec j nt ps as bd st->j<n)))->∃b0,get ((j,c)::r) k=some b0/\(b=.dead\/(b=b0/\∀j nt ps as bd st,b=.lrec j nt ps as bd st->j<n)):=by
   intro c' h h0
   rcases get_cons h with⟨e1,_⟩|⟨hne,h⟩
   ·exact h0 e1
   ·obtain⟨b0,h1,h2⟩:=get_dropRecs h
    exact⟨b0,by rw[get_other hne];exact h1,h2⟩
  split at h
  ·split at h
   ·rename_i j' nt ps as bd st hj
    refine cons _ h fun e1=>?_
    subst e1
    rw[get_same] at h
    injection h with h
    exact⟨_,get_same _ _ _,.inr ⟨h.symm,fun j0 _ _ _ _ _ he=>by rw[<-h] at he;injection he with he;subst he;exact blt_iff.1 hj⟩⟩
   ·refine cons _ h fun e1=>?_
    subst e1
    rw[get_same] at h
    injection h with h
    exact⟨_,get_same _ _ _,.inl h.symm⟩
  ·rename_i hn
   refine cons _ h fun e1=>?_
   subst e1
   rw[get_same] at h
   injection h with h
   exact⟨_,get_same _ _ _,.inr ⟨h.symm,fun j0 nt ps as bd st he=>absurd (h.trans he) (by intro h2;exact hn _ _ _ _ _ _ h2)⟩⟩
def St.leave (S:St):St:=match S with
 |⟨_,H,nx,F,E,fr::g⟩=>⟨fr,dropRecs g.length H,nx,F,E,g⟩
 |S=>S
theorem holds_gh {F:Nat->Prop}{X X':Cx}{e:Env}{k:Nat}{w:World}{b:Blk}(h:b.holds F X e k w)(hg:∀j nt ps as bd st,b=.lrec j nt ps as bd st->X'.gh.reverse[j]?=X.gh.reverse[j]?):b.holds F X' e k w:=by
 cases b with
 |lrec j nt ps as bd st=>
  obtain⟨h1,b,f,D,h2,h3⟩:=h
  exact⟨h1,b,f,D,by rw[hg j nt ps as bd st rfl];exact h2,h3⟩
 |_=>exact h
theorem reverse_push {α:Type}{l:List α}{x:α}{j:Nat}(h:j<l.length):(x::l).reverse[j]?=l.reverse[j]?:=by
 rw[List.reverse_cons,List.getElem?_append_left (by simpa using h)]
def Cx.in (X:Cx)(lv:List (Nat×List Nat))(nt:Nat)(rd:Option Nat)(b:Act):Cx:={X with nt:=nt,rd:=rd,gh:=b::X.gh,lv:=lv,lvg:=X.lv::X.lvg}
def St.push (S:St):St:=match S with|⟨fr,H,nx,F,E,g⟩=>⟨[],H,nx,F,E,fr::g⟩
theorem Rep.push {lv:List (Nat×List Nat)}(h:Rep X e S a w){nt:Nat}{rd:Option Nat}{a0:Act}(hs:a0.tmps.size=nt)(hd:a0.defers=[]):Rep (X.in lv nt rd a) e S.push a0 w:=by
 refine⟨hs,fun t v hv=>(by cases hv),fun t v hv=>(by cases hv),fun k b hk=>holds_gh (h.hp k b hk) fun j nt' ps as bd st hb=>?_,h.hlt,h.sep,h.ff,h.bel,h.fl,h.f0,h.ev,h.one,fun i fr hi=>?_,by show S.g.length+1=X.gh.length+1;rw[h.glen],?_,h.mnd,h.mks,h.es,h.n0,h.pin,fun _=>hd⟩
 ·have:=h.hp k b hk
  rw[hb] at this
  obtain⟨_,b',_,_,h2,_⟩:=this
  have hj:=(List.getElem?_eq_some_iff.1 h2).1
  exact reverse_push (by simpa using hj)
 ·cases i with
  |zero=>
   have hi:S.fr=fr:=by simpa[St.push] using hi
   subst hi
   exact⟨a,rfl,fun t v hv=>⟨h.fr t v hv,h.frlt t v hv⟩⟩
  |succ i=>exact h.gl i fr hi
 ·show a0.defers++(a::X.gh).flatMap (·.defers)=_
  rw[hd,List.nil_append];exact h.mkd
theorem Rep.leave {lv:List (Nat×List Nat)}{nt:Nat}{rd:Option Nat}{b:Act}(h:Rep (X.in lv nt rd b) e S a w)(hd:a.defers=[])(hb:b.tmps.size=X.nt)(hrdb:X.rd.isSome=true->b.defers=[]):Rep X e S.leave b w:=by
 cases S with
 |mk fr H nx F E g=>
  cases g with
  |nil=>exact absurd h.glen (by simp[Cx.in])
  |cons fr0 g=>
   have hgl:=h.glen
   have hlen:g.length=X.gh.length:=by simpa[Cx.in] using hgl
   obtain⟨b',hb',hv⟩:=h.gl 0 fr0 rfl
   have:b=b':=by simpa[Cx.in] using hb'
   subst this
   have old:∀{k c},get (dropRecs g.length H) k=some c->c≠.dead->get H k=some c/\∀j nt ps as bd st,c=.lrec j nt ps as bd st->j<g.length:=fun{k c} hk hc=>by
    obtain⟨b0,h1,h2⟩:=get_dropRecs hk
    rcases h2 with h2|⟨rfl,h2⟩
    ·exact absurd h2 hc
    ·exact⟨h1,h2⟩
   have foot0:∀{k c x},get (dropRecs g.length H) k=some c->c.foot e k x->get H k=some c:=fun{k c x} hk hx=>by
    refine(old hk fun hc=>?_).1
    subst hc;exact hx
   refine⟨hb,fun t v ht=>(hv t v ht).1,fun t v ht=>(hv t v ht).2,fun k c hk=>?_,fun k c hk=>?_,fun k k' c c' x hk hk' hne hx hx'=>h.sep k k' c c' x (foot0 hk hx) (foot0 hk' hx') hne hx hx',fun k c x hk hx=>h.ff k c x (foot0 hk hx) hx,h.bel,h.fl,h.f0,h.ev,h.one,fun i f hi=>h.gl (i+1) f hi,hlen,?_,h.mnd,fun D hD=>⟨(h.mks D hD).1,(h.mks D hD).2.1,fun k c hk hx=>(h.mks D hD).2.2 k c (foot0 hk hx) hx⟩,h.es,h.n0,h.pin,hrdb⟩
   ·by_cases hc:c=.dead
    ·subst hc;trivial
    ·obtain⟨h1,h2⟩:=old hk hc
     exact holds_gh (h.hp k c h1) fun j nt' ps as bd st hb=>(reverse_push (by rw[<-hlen];exact h2 j nt' ps as bd st hb)).symm
   ·by_cases hc:c=.dead
    ·subst hc
     obtain⟨b0,h1,_⟩:=get_dropRecs hk
     exact⟨(h.hlt k b0 h1).1,trivial⟩
    ·exact h.hlt k c (old hk hc).1
   ·have:=h.mkd
    rw[List.flatMap_cons,hd,List.nil_append] at this
    exact this
def xretK (X:Cx)(fn:Func)(K:St->SV->Prop)(ex:Exit)(S:St):Prop:=match ex with
 |.normal=>(match xresults X S fn.results.toList with
  |some vs=>K S.leave (oneOf vs)
  |none=>False)
 |.ret=>(match xresults X S fn.results.toList with
  |some vs=>K S.leave (oneOf vs)
  |none=>False)
 |_=>False
theorem leave_nx (S:St):S.leave.nx=S.nx:=by
 cases S with
 |mk fr H nx F E g=>cases g<;>rfl
theorem xretK_ok {lv:List (Nat×List Nat)}{X':Cx}{b:Act}(hT:TabOk X.P X.T){fn:Func}{nt:Nat}{d:Option Nat}(hd:dstOk X.nt d=true)(hb:b.tmps.size=X.nt)(hrdb:X.rd.isSome=true->b.defers=[]){K:St->Prop}{KK:Act->World->Prop}(hKK:∀e' S' a' w',Rep X e' S' a' w'->K S'->KK a' w')(hX:X'=X.in lv nt none b):
 compat X' (xretK X' fn fun S' v=>K (S'.put d v)) (bodyPostM Fence.wide 0 X.P fn fun E w'=>∃v,E=.returned v/\KK (b.put d v) w'):=by
 subst hX
 intro ex e S a w h hk
 have key:(match xresults (X.in lv nt none b) S fn.results.toList with
  |some vs=>K (S.leave.put d (oneOf vs))
  |none=>False)->LeavesInM Fence.wide 0 X.P fn a.tmps (fun E w'=>∃v,E=.returned v/\KK (b.put d v) w') a.defers .returning w:=by
  intro hk
  split at hk
  ·rename_i vs hvs
   refine leaves_ok (X:=X.in lv nt none b) a.defers h rfl fun e' w' hR=>?_
   obtain⟨h1,h2⟩:=results_ok (X:=X.in lv nt none b) hT hR hvs
   exact⟨_,h1,_,rfl,hKK _ _ _ _ ((hR.leave rfl hb hrdb).put hd (by rw[leave_nx];exact h2)) hk⟩
  ·exact hk.elim
 cases ex with
 |normal=>exact key hk
 |ret=>exact key hk
 |exit id=>exact hk.elim
 |goto l=>exact hk.elim
 |panic ch=>exact hk.elim
 |outgrown=>exact hk.elim
theorem push_nx (S:St):S.push.nx=S.nx:=by cases S;rfl
theorem call_in (lv:List (Nat×List Nat))(hT:TabOk X.P X.T){d:Option Nat}{f:Nat}{args:List SV}{K:St->Prop}{fn:Func}{c:Code}(hf:X.P.funcs[f]?=some fn)(hb:fn.body=some c)(nt:Nat)(hnt:fn.ntmps=nt)(hcall:∀as w,(callFunc f as).run X.P w=.ok (.enter f as) w)(hn:Nat.ble args.length nt=true)
 (hx:∀b,St.forceAll (S.push.withFr (number 0 args)) fun S'=>xcode (X.in lv nt none b) c S' (xretK (X.in lv nt none b) fn fun S' v=>K (S'.put d v))):callP X S d f args K:=by
 refine⟨fun hd hlt=>.inl ⟨hcall,fun e a w h KK hKK=>?_⟩⟩
 have hx:=hx a
 rw[forceAll_eq] at hx
 have hn:=Nat.le_of_ble_eq_true hn
 have hsz:(denAll e args).size=args.length:=by simp[denAll]
 have main:CallsIn Fence.wide 0 X.P f (denAll e args) w fun E w'=>∃v,E=.returned v/\KK (a.put d v) w':=by
  refine callsIn_of_wp_marks hf hb trivial ?_
  rw[hnt]
  have h1:=h.push (lv:=lv) (nt:=nt) (rd:=none) (a0:=actOf (denAll e args) nt) (actOf_size (by omega)) rfl
  have h2:=h1.setFr args rfl (fun v hv=>by rw[push_nx];exact hlt v hv) hn
  exact xcode_ok (X:=X.in lv nt none a) hT c h2 hx (xretK_ok hT hd h.sz h.rdm hKK rfl)
 have hr:X.fen=fenOf X.rd:=rfl
 rw[hr]
 cases X.rd with
 |none=>exact main
 |some l=>exact main
end
end Go.Proofs.YtgkkpefpbfadoaaGreat.Sy
