/-
  The symbolic executor, 8: copy, clear, parts of slices.
-/
import Derived.Test.YtgkkpefpbfadoaaGreatDk3
import Derived.MapKept
import Derived.Maps.Range
namespace Go.Proofs.YtgkkpefpbfadoaaGreat.Sy
open Go Go.RowKit
section
variable {X : Cx} {e : Env} {S : St} {a : Act} {w : World}
structure copP (m n:Nat)(K:Nat->Prop):Prop where
 out:K (min m n)
theorem buf_write (h:Rep X e S a w){k ety esz cap i:Nat}{xs ys:Els}(hH:get S.H k=some (.buf ety esz cap xs))(hly:ys.lt S.nx)(hysz:∀c∈ys.den e,c.length=esz)(hi:i<=xs.len)(hle:i+ys.len<=cap):
 Rep X e (S.setH k (.buf ety esz cap ((xs.take i).app (ys.app (xs.drop (i+ys.len)))))) a (w.setCells (e.ad k) (i*esz) (ys.den e).flatten)/\(storeCells ⟨e.ad k,i*esz,none⟩ (ys.den e).flatten).run X.P w=.ok () (w.setCells (e.ad k) (i*esz) (ys.den e).flatten):=by
 obtain⟨hown,hes,hcp,hra⟩:=h.hp k _ hH
 have hy1:=flat_all (e:=e) h.one hly
 have hsp:=hown.splices (i:=i) (ys:=ys.den e) (by rw[Els.den_len];exact hi) (by rw[Els.den_len];exact hle) hysz hy1
 rw[Els.den_len] at hsp
 refine⟨h.write (k:=k) (g:=e.ad k) (b0:=.buf ety esz cap ((xs.take i).app (ys.app (xs.drop (i+ys.len))))) hH rfl (Els.app_lt (Els.take_lt (h.hlt k _ hH).2 _) (Els.app_lt hly (Els.drop_lt (h.hlt k _ hH).2 _))) (fun _ hx=>hx) ⟨by
  rw[Els.den_app,Els.den_app,Els.den_take,Els.den_drop];exact hsp.1,hes,hcp,hra⟩,?_⟩
 obtain⟨cur',hcur',hle'⟩:=hsp.2
 have hst:=run_storeCells_cells (P:=X.P) (e.ad k) (i*esz) (ys.den e).flatten 0 w (fun q hq=>by
  rw[cell_of_row w _ _ cur'.toArray ety (0,0) hcur']
  simp;omega) (fun q hq=>frozen_of_row w _ _ cur'.toArray ety hcur') hy1
 simpa only[Nat.add_zero] using hst
def xCopy (X:Cx)(S:St)(d:Option Nat)(t:Nat)(s x:Operand)(K:St->Prop):Prop:=match get X.T t with
 |some ti=>(match ti.d with
  |.slice el=>(match get X.T el with
   |some ei=>(match S.ev s with
    |some (.c (.sl k lo n))=>(match get S.H k with
     |some (.buf ety sz cap xs)=>(match Nat.beq sz ei.size with
      |true=>srcK S ei.size x fun m ys=>needP (lo+n<=xs.len) (copP m n fun c=>K ((S.setH k (.buf ety sz cap ((xs.take lo).app ((ys.take c).app (xs.drop (lo+c)))))).put d (.c (.v (.int .i64 c)))))
      |false=>False)
     |_=>False)
    |_=>False)
   |none=>False)
  |_=>False)
 |none=>False
theorem copy_ok (hT:TabOk X.P X.T)(h:Rep X e S a w){o:Oper}(hd:dstOk X.nt o.dst=true){t t':Nat}{s x:Operand}{K:St->Prop}(ho:o.op=.call {callee:=.builtin .copy,args:=#[s,x],argTypes:=#[t,t']})(hk:xCopy X S o.dst t s x K):Wv X a w o K:=by
 intro KK Q hKK
 unfold xCopy at hk
 split at hk
 ·rename_i ti hti
  split at hk
  ·rename_i el hdd
   split at hk
   ·rename_i ei hei
    split at hk
    ·rename_i k lo n hs
     split at hk
     ·rename_i ety sz cap xs hH
      split at hk
      ·rename_i h2
       have h2:=Nat.eq_of_beq_eq_true h2
       subst h2
       obtain⟨m,ys,hk,hsrc⟩:=srcK_get (X:=X) hk
       obtain⟨hle,hk⟩:=need_get hk
       replace hk:=hk.out
       have hu:=(TabOk.get hT hti).1
       rw[hdd] at hu
       obtain⟨_,j,hj,hjz,hjs,hjb,_⟩:=TabOk.get hT hei
       obtain⟨A,c,hx,hly,hyl,hysz,hcell⟩:=hsrc e a w h
       obtain⟨hown,hes,hcp,hra⟩:=h.hp k _ hH
       have hcap:xs.len<=cap:=by rw[<-Els.den_len e];exact hown.2.1
       have hyl':ys.len=m:=by rw[<-Els.den_len e];exact hyl
       have htl:(ys.take (min m n)).len=min m n:=by rw[<-Els.den_len e,Els.den_take,List.length_take,hyl];omega
       obtain⟨hR,hst⟩:=buf_write h (i:=lo) (ys:=ys.take (min m n)) hH (Els.take_lt hly _) (by rw[Els.den_take];exact szs_take hysz _) (by omega) (by rw[htl];omega)
       rw[htl] at hR
       have hsd:a.eval s=.slice (some ⟨e.ad k,lo*ei.size,none⟩) n (cap-lo):=by
        have:=(h.ev_den hs).1
        simp only[SV.den,C.den,hra,hcp,addr_mid,hes] at this
        exact this
       have hf:(Builtin.firstCells j.size (min m n) (.slice A m c)).run X.P w=.ok ((ys.take (min m n)).den e).flatten.toArray w:=by
        rw[Els.den_take,flat_take hysz]
        rcases Nat.eq_zero_or_pos (min m n) with hm|hm
        ·rw[hm]
         cases A<;>simp[Builtin.firstCells,loadCells,loadCellsFrom]
        ·obtain⟨p,rfl,hc⟩:=hcell (by omega)
         refine run_firstCells_some (P:=X.P) w j.size _ p m c _ ?_ (fun i u hu=>hc i u (get_of_take hu))
         rw[List.length_take,flat_len hysz,hyl,hjs,Nat.min_eq_left]
         exact Nat.mul_le_mul_right _ (Nat.min_le_left _ _)
       have hrun:(execOp a.eval o).run X.P w=.ok (.value (.int .i64 (min m n:Nat))) (w.setCells (e.ad k) (lo*ei.size) ((ys.take (min m n)).den e).flatten):=by
        have e1:Nat.min m n=min m n:=rfl
        simp only[execOp,ho,resolve,invoke,builtin,List.map_toArray,List.map_cons,List.map_nil,hsd,hx,Sem.run_bind,Sem.run_pure,Result.andThen_ok,Builtin.copy_]
        simp[run_underlying hu,run_sizeOf hj,Builtin.lenOf,e1,hf,hst,goInt]
       exact wpo_value hrun (hKK _ _ _ _ (hR.put (v:=.c (.v (.int .i64 (min m n:Nat)))) hd rfl) hk)
      ·exact hk.elim
     ·exact hk.elim
    ·exact hk.elim
   ·exact hk.elim
  ·exact hk.elim
 ·exact hk.elim
def xClear (X:Cx)(S:St)(d:Option Nat)(t:Nat)(s:Operand)(K:St->Prop):Prop:=match get X.T t with
 |some ti=>(match ti.d with
  |.slice el=>(match get X.T el with
   |some ei=>(match okZero ei with
    |true=>(match S.ev s with
     |some (.c (.sl k lo n))=>(match get S.H k with
      |some (.buf ety sz cap xs)=>(match Nat.beq sz ei.size with
       |true=>needP (lo+n<=xs.len) (K ((S.setH k (.buf ety sz cap ((xs.take lo).app ((Els.vs (List.replicate n (zeroE ei))).app (xs.drop (lo+n)))))).put d (.tup [])))
       |false=>False)
      |_=>False)
     |some (.c (.row k))=>(match get S.H k with
      |some (.row _ _ 0 _)=>K (S.put d (.tup []))
      |some (.ext _ 0 _)=>K (S.put d (.tup []))
      |_=>False)
     |_=>False)
    |false=>False)
   |none=>False)
  |_=>False)
 |none=>False
theorem clear_ok (hT:TabOk X.P X.T)(h:Rep X e S a w){o:Oper}(hd:dstOk X.nt o.dst=true){t:Nat}{s:Operand}{K:St->Prop}(ho:o.op=.call {callee:=.builtin .clear,args:=#[s],argTypes:=#[t]})(hk:xClear X S o.dst t s K):Wv X a w o K:=by
 intro KK Q hKK
 unfold xClear at hk
 split at hk
 ·rename_i ti hti
  split at hk
  ·rename_i el hdd
   have hu:=(TabOk.get hT hti).1
   rw[hdd] at hu
   split at hk
   ·rename_i ei hei
    split at hk
    ·rename_i hz
     split at hk
     ·rename_i k lo n hs
      split at hk
      ·rename_i ety sz cap xs hH
       split at hk
       ·rename_i h2
        have h2:=Nat.eq_of_beq_eq_true h2
        subst h2
        obtain⟨hle,hk⟩:=need_get hk
        obtain⟨_,j,hj,hjz,hjs,hjb,_⟩:=TabOk.get hT hei
        obtain⟨z1,z2,z3⟩:=okZero_get hz
        obtain⟨hown,hes,hcp,hra⟩:=h.hp k _ hH
        have hcap:xs.len<=cap:=by rw[<-Els.den_len e];exact hown.2.1
        have hzl:(zeroE ei).length=ei.size:=by simp[zeroE,z1]
        have hlen:(Els.vs (List.replicate n (zeroE ei))).len=n:=by simp[Els.len]
        obtain⟨hR,hst⟩:=buf_write h (i:=lo) (ys:=.vs (List.replicate n (zeroE ei))) hH (fun d hd u hu=>by rw[List.eq_of_mem_replicate hd] at hu;exact List.all_eq_true.1 z3 u hu) (replicate_szs hzl) (by omega) (by rw[hlen];omega)
        rw[hlen] at hR
        have hsd:a.eval s=.slice (some ⟨e.ad k,lo*ei.size,none⟩) n (cap-lo):=by
         have:=(h.ev_den hs).1
         simp only[SV.den,C.den,hra,hcp,addr_mid,hes] at this
         exact this
        have hzc:(Builtin.zeroCells ei.zero.cells n).toList=((Els.vs (List.replicate n (zeroE ei))).den e).flatten:=by rw[zeroCells_flat z1];rfl
        have hrun:(execOp a.eval o).run X.P w=.ok (.value (.tuple #[])) (w.setCells (e.ad k) (lo*ei.size) ((Els.vs (List.replicate n (zeroE ei))).den e).flatten):=by
         simp only[execOp,ho,resolve,invoke,builtin,List.map_toArray,List.map_cons,List.map_nil,hsd,Sem.run_bind,Sem.run_pure,Result.andThen_ok,Builtin.clear_]
         rcases Nat.eq_zero_or_pos n with hn|hn
         ·subst hn
          simp[run_underlying hu,Els.den,World.setCells]
         ·obtain⟨n',rfl⟩:∃n',n=n'+1:=⟨n-1,by omega⟩
          simp[run_underlying hu,run_zeroValue hj hjz,hzc,hst]
        exact wpo_value hrun (hKK _ _ _ _ (hR.put (v:=.tup []) hd rfl) hk)
       ·exact hk.elim
      ·exact hk.elim
     ·rename_i k hs
      have fin:(∃ety sz xs,get S.H k=some (.row ety sz 0 xs))\/(∃sz xs,get S.H k=some (.ext sz 0 xs))->K (S.put o.dst (.tup []))->o.wpIn X.fen 0 X.P a w KK Q:=by
       intro hH hk
       obtain⟨A,c,hv,_⟩:=row_len h.v (m:=0) hH
       have hsd:a.eval s=.slice A 0 c:=by
        have:=(h.ev_den hs).1
        simp only[SV.den,C.den] at this
        rw[this,hv]
       have hrun:(execOp a.eval o).run X.P w=.ok (.value (.tuple #[])) w:=by
        simp only[execOp,ho,resolve,invoke,builtin,List.map_toArray,List.map_cons,List.map_nil,hsd,Sem.run_bind,Sem.run_pure,Result.andThen_ok,Builtin.clear_]
        cases A<;>simp[run_underlying hu]
       exact wpo_value hrun (hKK _ _ _ _ (h.put (v:=.tup []) hd rfl) hk)
      split at hk
      ·rename_i hH;exact fin (.inl ⟨_,_,_,hH⟩) hk
      ·rename_i hH;exact fin (.inr ⟨_,_,hH⟩) hk
      ·exact hk.elim
     ·exact hk.elim
    ·exact hk.elim
   ·exact hk.elim
  ·exact hk.elim
 ·exact hk.elim
structure sliP (lo hi:Int)(n:Nat)(K:Nat->Nat->Prop):Prop where
 out:(0<=lo/\lo<=hi/\hi<=n)/\K lo.toNat hi.toNat
theorem sli_nat {lo hi n:Nat}{K:Nat->Nat->Prop}(h:lo<=hi/\hi<=n)(hk:K lo hi):sliP (lo:Int) (hi:Int) n K:=by refine⟨?_⟩;exact⟨⟨by omega,by omega,by omega⟩,hk⟩
theorem sli_eq {lo hi:Int}{n:Nat}{K:Nat->Nat->Prop}(l h':Nat)(e1:lo=(l:Int))(e2:hi=(h':Int))(h:l<=h'/\h'<=n)(hk:K l h'):sliP lo hi n K:=by subst e1;subst e2;exact sli_nat h hk
theorem sli_get {lo hi:Int}{n:Nat}{K:Nat->Nat->Prop}(h:sliP lo hi n K):(0<=lo/\lo<=hi/\hi<=n)/\K lo.toNat hi.toNat:=by replace h:=h.out;exact h
structure revP (esz cap need:Nat)(xs:Els)(K1:Prop)(K2:Els->Prop):Prop where
 out:(need<=xs.len/\K1)\/(need<=cap/\∀sp:List (List Value),sp.length=cap-xs.len->(∀c∈sp,c.length=esz)->K2 (xs.app (.vs sp)))
theorem rev_in {esz cap need:Nat}{xs:Els}{K1:Prop}{K2:Els->Prop}(h:need<=xs.len)(hk:K1):revP esz cap need xs K1 K2:=by refine⟨?_⟩;exact .inl ⟨h,hk⟩
def optInt (S:St)(d:Int):Option Operand->Option Int
 |none=>some d
 |some x=>match S.ev x with
  |some (.c (.v (.int _ n)))=>some n
  |_=>none
def optVal (S:St):Option Operand->Option (Option Value)
 |none=>some none
 |some x=>match S.ev x with
  |some (.c (.v y))=>some (some y)
  |_=>none
structure slvP (P:Program)(t z:Nat)(v:Value)(l h m:Option Value)(K:Value->Prop):Prop where
 out:∃u,u.oneCell'=true/\(∀(el:Nat)(j:TypeInfo),P.underlying t=some (.slice el)->P.info? el=some j->j.size=z->∀w,(Instr.slice t v l h m).run P w=.ok u w)/\K u
def xSlice (X:Cx)(S:St)(d:Option Nat)(t:Nat)(x:Operand)(lo hi mx:Option Operand)(K:St->Prop):Prop:=match get X.T t with
 |some ti=>(match ti.d with
  |.slice el=>(match get X.T el with
   |some ei=>(match S.ev x with
    |some (.c (.row k))=>(match mx with
     |none=>(match get S.H k with
      |some (.ext esz n xs)=>(match Nat.beq esz ei.size with
       |true=>(match optInt S 0 lo with
        |some l=>(match optInt S n hi with
         |some h=>sliP l h n fun l h=>K ((S.new (.ext esz (h-l) (xs.sub l (h-l)))).put d (.c (.row S.nx)))
         |none=>False)
        |none=>False)
       |false=>False)
      |some (.row _ _ n _)=>(match optInt S 0 lo with
       |some l=>(match optInt S n hi with
        |some h=>sliP l h n fun _ _=>K ((S.new .dead).put d (.c (.row S.nx)))
        |none=>False)
       |none=>False)
      |_=>False)
     |some m=>(match get S.H k with
      |some (.ext esz n xs)=>(match Nat.beq esz ei.size with
       |true=>(match optInt S 0 lo with
        |some l=>(match optInt S n hi with
         |some h=>(match hi with
          |none=>False
          |some _=>match S.ev m with
           |some (.c (.v (.int _ m)))=>needP (h<=m/\m<=(n:Int)) (sliP l h n fun l h=>K ((S.new (.ext esz (h-l) (xs.sub l (h-l)))).put d (.c (.row S.nx))))
           |_=>False)
         |none=>False)
        |none=>False)
       |false=>False)
      |_=>False))
    |some (.c (.sl k lo0 n))=>(match get S.H k with
     |some (.buf ety esz cap xs)=>(match Nat.beq esz ei.size with
      |true=>(match optInt S 0 lo with
       |some l=>(match optInt S n hi with
        |some h=>(match mx with
         |none=>sliP l h (cap-lo0) fun l h=>brP (decide (lo0+l<cap))
          (revP esz cap (lo0+h) xs (K (S.put d (.c (.sl k (lo0+l) (h-l))))) (fun ys=>K ((S.setH k (.buf ety esz cap ys)).put d (.c (.sl k (lo0+l) (h-l))))))
          (K ((S.new (.row ety esz 0 (.vs []))).put d (.c (.row S.nx))))
         |some m=>(match hi with
          |none=>False
          |some _=>match S.ev m with
          |some (.c (.v (.int _ m)))=>needP (0<=l/\l<=h/\h<=m/\m<=(cap-lo0:Nat)) (K ((S.new .dead).put d (.c (.row S.nx))))
          |_=>False))
        |none=>False)
       |none=>False)
      |false=>False)
     |_=>False)
    |some (.c (.v v))=>(match optVal S lo with
     |some l=>(match optVal S hi with
      |some h=>(match optVal S mx with
       |some m=>slvP X.P t ei.size v l h m fun u=>K (S.put d (.c (.v u)))
       |none=>False)
      |none=>False)
     |none=>False)
    |_=>False)
   |none=>False)
  |.string=>(match mx with
   |none=>(match S.ev x with
    |some (.c (.v (.string s)))=>(match optInt S 0 lo with
     |some l=>(match optInt S s.size hi with
      |some h=>sliP l h s.size fun l h=>K (S.put d (.c (.v (.string (s.extract l h)))))
      |none=>False)
     |none=>False)
    |_=>False)
   |some _=>False)
  |_=>False)
 |none=>False
theorem optInt_ok (h:RepV X e S a w){d n:Int}{x:Option Operand}(hx:optInt S d x=some n):(x=none/\n=d)\/∃y k,x=some y/\a.eval y=.int k n:=by
 cases x with
 |none=>simp only[optInt,Option.some.injEq] at hx;exact .inl ⟨rfl,hx.symm⟩
 |some y=>
  simp only[optInt] at hx
  split at hx
  ·rename_i k m hy
   simp only[Option.some.injEq] at hx
   subst hx
   exact .inr ⟨y,k,rfl,(h.ev_den hy).1⟩
  ·cases hx
theorem run_sliceBounds {P:Program}(isSlice:Bool){n c:Nat}{lo hi:Option Operand}{l h:Int}{ρ:Operand->Value}(hlo:(lo=none/\l=0)\/∃y k,lo=some y/\ρ y=.int k l)(hhi:(hi=none/\h=n)\/∃y k,hi=some y/\ρ y=.int k h)
 (hb:0<=l/\l<=h/\h<=c)(w:World):(Instr.sliceBounds isSlice n c (lo.map ρ) (hi.map ρ) none).run P w=.ok (l.toNat,h.toNat,c) w:=by
 have h3:0<=h:=by omega
 have h4:l<=(h.toNat:Int):=by omega
 rcases hlo with⟨rfl,rfl⟩|⟨y,k,rfl,hy⟩<;>rcases hhi with⟨rfl,rfl⟩|⟨z,k',rfl,hz⟩
 ·simp[Instr.sliceBounds]
 ·simp[Instr.sliceBounds,Instr.sliceBound,hz,asIntOf,hb.2.2,h3]
 ·simp[Instr.sliceBounds,Instr.sliceBound,hy,asIntOf,hb.1,hb.2.1]
 ·simp[Instr.sliceBounds,Instr.sliceBound,hy,hz,asIntOf,hb.2.2,h3,hb.1]
  intro hc
  exfalso
  omega
theorem run_sliceBounds3 {P:Program}{n c:Nat}{lo hi:Option Operand}{l h m:Int}{ρ:Operand->Value}{y:Operand}{km:IntKind}(hlo:(lo=none/\l=0)\/∃y k,lo=some y/\ρ y=.int k l)(hhi:∃y k,hi=some y/\ρ y=.int k h)(hm:ρ y=.int km m)
 (hb:0<=l/\l<=h/\h<=m/\m<=c)(w:World):(Instr.sliceBounds true n c (lo.map ρ) (hi.map ρ) (some (ρ y))).run P w=.ok (l.toNat,h.toNat,m.toNat) w:=by
 obtain⟨z,k',rfl,hz⟩:=hhi
 have h1:0<=h:=by omega
 have h2:0<=m:=by omega
 have h3:h<=(m.toNat:Int):=by omega
 have h4:l<=(h.toNat:Int):=by omega
 rcases hlo with⟨rfl,rfl⟩|⟨y,k,rfl,hy⟩
 ·simp[Instr.sliceBounds,Instr.sliceBound,hz,hm,asIntOf,hb.2.2.2,h1,h2,h3,-Int.ofNat_toNat]
 ·simp[Instr.sliceBounds,Instr.sliceBound,hy,hz,hm,asIntOf,hb.2.2.2,h1,h2,hb.1,h3,h4,-Int.ofNat_toNat]
theorem optVal_ok (h:RepV X e S a w){x:Option Operand}{y:Option Value}(hx:optVal S x=some y):x.map a.eval=y:=by
 cases x with
 |none=>simp only[optVal,Option.some.injEq] at hx;exact hx
 |some z=>
  simp only[optVal] at hx
  split at hx
  ·rename_i u hz
   simp only[Option.some.injEq] at hx
   subst hx
   exact congrArg some (h.ev_den hz).1
  ·cases hx
theorem slv_lo {P:Program}{t z:Nat}{A:Option Addr}{n c:Nat}{K:Value->Prop}{k:IntKind}{x:Int}(l:Nat)(e:x=(l:Int))(h:l<=n/\n<=c)(hk:K (.slice (if c=l then A else A.map (·.add (l*z))) (n-l) (c-l))):slvP P t z (.slice A n c) (some (.int k x)) none none K:=⟨⟨_,rfl,fun el j hu hj hz w=>by
 subst e;subst hz
 have h1:=run_sizeOf hj
 simp[Instr.slice,run_underlying hu,Instr.sliceBounds,Instr.sliceBound,asIntOf,h1,h.1],hk⟩⟩
theorem slv_hi3 {P:Program}{t z:Nat}{A:Option Addr}{n c:Nat}{K:Value->Prop}{k k':IntKind}{x y:Int}(l:Nat)(e:x=(l:Int))(e':y=(l:Int))(h:l<=n/\n<=c)(hk:K (.slice A l l)):slvP P t z (.slice A n c) none (some (.int k x)) (some (.int k' y)) K:=⟨⟨_,rfl,fun el j hu hj hz w=>by
 subst e;subst e'
 have h1:=run_sizeOf hj
 have hA:(A.map (·.add 0))=A:=by cases A<;>simp[Addr.add]
 have h2:l<=c:=by omega
 by_cases h0:l=0<;>simp[Instr.slice,run_underlying hu,Instr.sliceBounds,Instr.sliceBound,asIntOf,h1,hA,h0,h2],hk⟩⟩
def optI (d:Int):Option Value->Option Int
 |none=>some d
 |some (.int _ n)=>some n
 |_=>none
def slvNil (l h:Option Value)(K:Value->Prop):Prop:=match optI 0 l with
 |some l=>(match optI 0 h with
  |some h=>sliP l h 0 fun _ _=>K (.slice none 0 0)
  |none=>False)
 |none=>False
theorem slv_nil {P:Program}{t z:Nat}{l h:Option Value}{K:Value->Prop}(hk:slvNil l h K):slvP P t z (.slice none 0 0) l h none K:=by
 unfold slvNil at hk
 split at hk
 ·rename_i l' hl
  split at hk
  ·rename_i h' hh
   obtain⟨hb,hk2⟩:=sli_get hk
   have e1:l'=0:=by omega
   have e2:h'=0:=by omega
   subst e1;subst e2
   refine⟨.slice none 0 0,rfl,fun el j hu hj hz w=>?_,hk2⟩
   have h1:=run_sizeOf hj
   have c1:l=none\/∃k,l=some (.int k 0):=by
    unfold optI at hl
    split at hl
    ·exact .inl rfl
    ·simp at hl;subst hl;exact .inr ⟨_,rfl⟩
    ·cases hl
   have c2:h=none\/∃k,h=some (.int k 0):=by
    unfold optI at hh
    split at hh
    ·exact .inl rfl
    ·simp at hh;subst hh;exact .inr ⟨_,rfl⟩
    ·cases hh
   rcases c1 with rfl|⟨k1,rfl⟩<;>rcases c2 with rfl|⟨k2,rfl⟩<;>simp[Instr.slice,run_underlying hu,Instr.sliceBounds,Instr.sliceBound,asIntOf,h1]
  ·exact hk.elim
 ·exact hk.elim
theorem OwnB.reveal {ety esz g cap:Nat}{xs:List (List Value)}(h:OwnB w ety esz g cap xs):∃sp:List (List Value),sp.length=cap-xs.length/\(∀c∈sp,c.length=esz)/\(∀c∈sp,∀u∈c,u.oneCell'=true)/\OwnB w ety esz g cap (xs++sp):=by
 obtain⟨h1,h2,h3,h4,cur,h5,h6,h7,h8⟩:=h
 have hl:(cur.toList.drop (xs.length*esz)).length=(cap-xs.length)*esz:=by rw[List.length_drop,Array.length_toList,h6,Nat.sub_mul]
 refine⟨chunk esz (cap-xs.length) (cur.toList.drop (xs.length*esz)),chunk_len _ _ _,chunk_szs hl,fun c hc u hu=>h8 u (List.mem_of_mem_drop (mem_chunk _ _ _ c hc u hu)),szs_app h1 (chunk_szs hl),by rw[List.length_append,chunk_len];omega,h3,h4,cur,h5,h6,?_,h8⟩
 rw[List.length_append,chunk_len,List.flatten_append,chunk_flat hl,<-h7,List.take_append_drop]
 exact List.take_of_length_le (by rw[Array.length_toList,h6];exact Nat.mul_le_mul_right _ (by omega))
theorem Rep.newDead (h:Rep X e S a w){v:Value}(hv:v.oneCell'=true):Rep X (e.withRow S.nx v 0) (S.new .dead) a w:=by
 refine h.step (k0:=S.nx) (b0:=.dead) (Env.withRow_same e S.nx v 0) rfl (Nat.le_succ _) (Nat.lt_succ_self _) trivial rfl rfl rfl (Nat.le_refl _) (fun _ _=>rfl) (fun k=>?_) trivial (fun _ hx=>hx.elim)
 by_cases hk:k=S.nx
 ·subst hk;rw[Env.withRow_rv];exact hv
 ·simp only[Env.withRow,if_neg hk];exact h.one k
theorem Rep.setSame (h:Rep X e S a w){k:Nat}{b b0:Blk}(hk:get S.H k=some b)(hl0:b0.lt S.nx)(hfoot:∀x,b0.foot e k x->b.foot e k x)(hnew:b0.holds S.F X e k w):Rep X e (S.setH k b0) a w:=
 h.step (k0:=k) (b0:=b0) (Env.same.refl _ _) rfl (Nat.le_refl _) (h.hlt k _ hk).1 hl0 rfl rfl rfl (Nat.le_refl _) (fun _ _=>rfl) h.one hnew (fun x hx=>h.not_kept hk (hfoot x hx))
theorem slice_ok (hT:TabOk X.P X.T)(h:Rep X e S a w){o:Oper}(hd:dstOk X.nt o.dst=true){t:Nat}{x:Operand}{lo hi mx:Option Operand}{K:St->Prop}(ho:o.op=.slice t x lo hi mx)(hk:xSlice X S o.dst t x lo hi mx K):Wv X a w o K:=by
 intro KK Q hKK
 unfold xSlice at hk
 split at hk
 ·rename_i ti hti
  have hu0:=(TabOk.get hT hti).1
  split at hk
  ·rename_i el hdd
   have hu:=hu0
   rw[hdd] at hu
   split at hk
   ·rename_i ei hei
    obtain⟨_,j,hj,_,hjs,_,_⟩:=TabOk.get hT hei
    split at hk
    ·rename_i k hx
     split at hk
     ·split at hk
      ·rename_i esz n xs hH
       split at hk
       ·rename_i he
        have he:=Nat.eq_of_beq_eq_true he
        split at hk
        ·rename_i l hl
         split at hk
         ·rename_i h' hh
          obtain⟨hbd,hk⟩:=sli_get hk
          have hdx:=(h.ev_den hx).1
          simp only[SV.den,C.den] at hdx
          obtain⟨⟨hlen,hsz,A,c,hv,hnc,hcm,hcells⟩,hes,hra⟩:=h.hp k _ hH
          rw[hv] at hdx
          have hb:=run_sliceBounds (P:=X.P) true (n:=n) (c:=c) (optInt_ok h.v hl) (optInt_ok h.v hh) (by omega) w
          have hrun:(execOp a.eval o).run X.P w=.ok (.value (.slice (if c=l.toNat then A else A.map (·.add (l.toNat*j.size))) (h'.toNat-l.toNat) (c-l.toNat))) w:=by
           simp[execOp,ho,Instr.sliceAt,Instr.slice,run_underlying hu,hdx,hb,run_sizeOf hj]
          have hlt:=(h.hlt k _ hH).2
          have hR:=h.newExt (esz:=esz) (n:=h'.toNat-l.toNat) (xs:=xs.sub l.toNat (h'.toNat-l.toNat)) (v:=.slice (if c=l.toNat then A else A.map (·.add (l.toNat*j.size))) (h'.toNat-l.toNat) (c-l.toNat)) (Els.sub_lt hlt _ _) (by
           rw[Els.den_sub]
           refine⟨by rw[List.length_take,List.length_drop,hlen];omega,szs_take (szs_drop hsz _) _,_,_,rfl,by omega,by omega,fun hpos=>?_⟩
           obtain⟨p,rfl,hF,hc⟩:=hcells (by omega)
           have hne:¬c=l.toNat:=by omega
           refine⟨p.add (l.toNat*j.size),by simp[hne],by rw[addr_block];exact hF,fun i u hu'=>?_⟩
           rw[addr_add,hjs,<-he]
           refine hc _ u ?_
           rw[flat_take (szs_drop hsz _),flat_drop hsz] at hu'
           exact take_drop_get rfl i u hu')
          have hp:=hR.put (d:=o.dst) (v:=.c (.row S.nx)) hd (blt_iff.2 (Nat.lt_succ_self _))
          simp only[SV.den,C.den,Env.withRow_rv] at hp
          exact wpo_value hrun (hKK _ _ _ _ hp hk)
         ·exact hk.elim
        ·exact hk.elim
       ·exact hk.elim
      ·rename_i ety esz n xs hH
       split at hk
       ·rename_i l hl
        split at hk
        ·rename_i h' hh
         obtain⟨hbd,hk⟩:=sli_get hk
         have hdx:=(h.ev_den hx).1
         simp only[SV.den,C.den] at hdx
         have hown:=(h.hp k _ hH).1
         obtain⟨A,c,hv,hnc⟩:∃A c,e.rv k=.slice A n c/\n<=c:=by
          rcases hown.2.2 with⟨A,hv,hn⟩|⟨g,cap,hv,hb⟩
          ·exact⟨A,0,by rw[hv,hn],by omega⟩
          ·exact⟨_,_,hv,by have:=hb.2.1;have:=hown.1;omega⟩
         rw[hv] at hdx
         have hb:=run_sliceBounds (P:=X.P) true (n:=n) (c:=c) (optInt_ok h.v hl) (optInt_ok h.v hh) (by omega) w
         have hrun:(execOp a.eval o).run X.P w=.ok (.value (.slice (if c=l.toNat then A else A.map (·.add (l.toNat*j.size))) (h'.toNat-l.toNat) (c-l.toNat))) w:=by
          simp[execOp,ho,Instr.sliceAt,Instr.slice,run_underlying hu,hdx,hb,run_sizeOf hj]
         have hR:=h.newDead (v:=.slice (if c=l.toNat then A else A.map (·.add (l.toNat*j.size))) (h'.toNat-l.toNat) (c-l.toNat)) rfl
         have hp:=hR.put (d:=o.dst) (v:=.c (.row S.nx)) hd (blt_iff.2 (Nat.lt_succ_self _))
         simp only[SV.den,C.den,Env.withRow_rv] at hp
         exact wpo_value hrun (hKK _ _ _ _ hp hk)
        ·exact hk.elim
       ·exact hk.elim
      ·exact hk.elim
     ·rename_i mo
      split at hk
      ·rename_i esz n xs hH
       split at hk
       ·rename_i he
        have he:=Nat.eq_of_beq_eq_true he
        split at hk
        ·rename_i l hl
         split at hk
         ·rename_i h' hh
          split at hk
          ·exact hk.elim
          ·split at hk
           ·rename_i m hm
            obtain⟨⟨hm1,hm2⟩,hk⟩:=need_get hk
            obtain⟨hbd,hk⟩:=sli_get hk
            have hdx:=(h.ev_den hx).1
            have hmd:=(h.ev_den hm).1
            simp only[SV.den,C.den] at hdx hmd
            obtain⟨⟨hlen,hsz,A,c,hv,hnc,hcm,hcells⟩,hes,hra⟩:=h.hp k _ hH
            rw[hv] at hdx
            rcases optInt_ok h.v hh with⟨hh0,_⟩|hh0
            ·cases hh0
            ·have hb:=run_sliceBounds3 (P:=X.P) (n:=n) (c:=c) (optInt_ok h.v hl) hh0 hmd ⟨hbd.1,hbd.2.1,hm1,by omega⟩ w
             simp only[Option.map_some] at hb
             have hrun:(execOp a.eval o).run X.P w=.ok (.value (.slice (if m.toNat=l.toNat then A else A.map (·.add (l.toNat*j.size))) (h'.toNat-l.toNat) (m.toNat-l.toNat))) w:=by
              simp only[execOp,ho,Instr.sliceAt,Sem.run_bind,run_underlying hu,Result.andThen_ok,hdx,Instr.slice,Option.map_some,hb,run_sizeOf hj,Sem.run_pure]
             have hlt:=(h.hlt k _ hH).2
             have hR:=h.newExt (esz:=esz) (n:=h'.toNat-l.toNat) (xs:=xs.sub l.toNat (h'.toNat-l.toNat)) (v:=.slice (if m.toNat=l.toNat then A else A.map (·.add (l.toNat*j.size))) (h'.toNat-l.toNat) (m.toNat-l.toNat)) (Els.sub_lt hlt _ _) (by
              rw[Els.den_sub]
              refine⟨by rw[List.length_take,List.length_drop,hlen];omega,szs_take (szs_drop hsz _) _,_,_,rfl,by omega,by omega,fun hpos=>?_⟩
              obtain⟨p,rfl,hF,hc⟩:=hcells (by omega)
              have hne:¬m.toNat=l.toNat:=by omega
              refine⟨p.add (l.toNat*j.size),by simp[hne],by rw[addr_block];exact hF,fun i u hu'=>?_⟩
              rw[addr_add,hjs,<-he]
              refine hc _ u ?_
              rw[flat_take (szs_drop hsz _),flat_drop hsz] at hu'
              exact take_drop_get rfl i u hu')
             have hp:=hR.put (d:=o.dst) (v:=.c (.row S.nx)) hd (blt_iff.2 (Nat.lt_succ_self _))
             simp only[SV.den,C.den,Env.withRow_rv] at hp
             exact wpo_value hrun (hKK _ _ _ _ hp hk)
           ·exact hk.elim
         ·exact hk.elim
        ·exact hk.elim
       ·exact hk.elim
      ·exact hk.elim
    ·rename_i k lo0 n hx
     split at hk
     ·rename_i ety esz cap xs hH
      split at hk
      ·rename_i he
       have he:=Nat.eq_of_beq_eq_true he
       subst he
       split at hk
       ·rename_i l hl
        split at hk
        ·rename_i h' hh
         obtain⟨hown,hes,hcp,hra⟩:=h.hp k _ hH
         have hdx:a.eval x=.slice (some ⟨e.ad k,lo0*ei.size,none⟩) n (cap-lo0):=by
          have:=(h.ev_den hx).1
          simp only[SV.den,C.den,hra,hcp,addr_mid,hes] at this
          exact this
         split at hk
         ·obtain⟨hbd,hk⟩:=sli_get hk
          have hb:=run_sliceBounds (P:=X.P) true (n:=n) (c:=cap-lo0) (optInt_ok h.v hl) (optInt_ok h.v hh) hbd w
          have hrun:(execOp a.eval o).run X.P w=.ok (.value (.slice (if cap-lo0=l.toNat then some ⟨e.ad k,lo0*ei.size,none⟩ else some ⟨e.ad k,(lo0+l.toNat)*ei.size,none⟩) (h'.toNat-l.toNat) (cap-lo0-l.toNat))) w:=by
           have e1:(⟨e.ad k,lo0*ei.size,none⟩:Addr).add (l.toNat*ei.size)=⟨e.ad k,(lo0+l.toNat)*ei.size,none⟩:=by rw[Addr.add_mid,<-Nat.add_mul]
           simp only[execOp,ho,Instr.sliceAt,Sem.run_bind,run_underlying hu,Result.andThen_ok,hdx,Option.map_none,Instr.slice,hb,run_sizeOf hj,hjs,Option.map_some,e1,Sem.run_pure]
          have hden:lo0+l.toNat<cap->(SV.c (.sl k (lo0+l.toNat) (h'.toNat-l.toNat))).den e=.slice (if cap-lo0=l.toNat then some ⟨e.ad k,lo0*ei.size,none⟩ else some ⟨e.ad k,(lo0+l.toNat)*ei.size,none⟩) (h'.toNat-l.toNat) (cap-lo0-l.toNat):=fun hlt=>by
           rw[if_neg (by omega)]
           simp only[SV.den,C.den,hra,hcp,hes,addr_mid,Nat.sub_sub]
          rcases br_case hk with⟨hin,hk⟩|⟨hin,hk⟩
          ·have hin:=of_decide_eq_true hin
           have hd0:=hden hin
           replace hk:=hk.out
           refine wpo_value hrun ?_
           rw[<-hd0]
           rcases hk with⟨_,hk⟩|⟨hc,hk⟩
           ·exact hKK _ _ _ _ (h.put hd (blt_iff.2 (h.hlt k _ hH).1)) hk
           ·obtain⟨sp,s1,s2,s3,s4⟩:=hown.reveal
            rw[Els.den_len] at s1
            have hR:=h.setSame (b0:=.buf ety ei.size cap (xs.app (.vs sp))) hH (Els.app_lt (h.hlt k _ hH).2 s3) (fun _ hx=>hx) ⟨by rw[Els.den_app];exact s4,hes,hcp,hra⟩
            exact hKK _ _ _ _ (hR.put (v:=.c (.sl k (lo0+l.toNat) (h'.toNat-l.toNat))) hd (blt_iff.2 (h.hlt k _ hH).1)) (hk sp s1 s2)
          ·have hin:=of_decide_eq_false hin
           have z1:cap-lo0=l.toNat:=by omega
           have z2:h'.toNat-l.toNat=0:=by omega
           have z3:cap-lo0-l.toNat=0:=by omega
           rw[if_pos z1,z2,z3] at hrun
           have hR:=h.newRow (w':=w) (ety:=ety) (esz:=ei.size) (n:=0) (xs:=.vs []) (v:=.slice (some ⟨e.ad k,lo0*ei.size,none⟩) 0 0) (fun c hc=>by cases hc) rfl rfl rfl (Nat.le_refl _) (fun _ _=>rfl) ⟨rfl,fun c hc=>(by cases hc),.inl ⟨_,rfl,rfl⟩⟩ (fun y hy=>by
            obtain⟨p,n',c',hv,hc',_⟩:=hy
            injection hv with _ _ hv;omega)
           have hp:=hR.put (d:=o.dst) (v:=.c (.row S.nx)) hd (blt_iff.2 (Nat.lt_succ_self _))
           simp only[SV.den,C.den,Env.withRow_rv] at hp
           exact wpo_value hrun (hKK _ _ _ _ hp hk)
         ·rename_i my
          split at hk
          ·exact hk.elim
          split at hk
          ·rename_i km m hm
           obtain⟨hbd,hk⟩:=need_get hk
           have hmd:=(h.ev_den hm).1
           simp only[SV.den,C.den] at hmd
           rcases optInt_ok h.v hh with⟨hh0,_⟩|hh0
           ·cases hh0
           ·have hb:=run_sliceBounds3 (P:=X.P) (n:=n) (c:=cap-lo0) (optInt_ok h.v hl) hh0 hmd hbd w
            simp only[Option.map_some] at hb
            refine wpo_value (show(execOp a.eval o).run X.P w=.ok (.value (.slice (if m.toNat=l.toNat then some ⟨e.ad k,lo0*ei.size,none⟩ else some ((⟨e.ad k,lo0*ei.size,none⟩:Addr).add (l.toNat*ei.size))) (h'.toNat-l.toNat) (m.toNat-l.toNat))) w by
             simp only[execOp,ho,Instr.sliceAt,Sem.run_bind,run_underlying hu,Result.andThen_ok,hdx,Instr.slice,Option.map_some,hb,run_sizeOf hj,hjs,Sem.run_pure]) ?_
            have hR:=h.newDead (v:=.slice (if m.toNat=l.toNat then some ⟨e.ad k,lo0*ei.size,none⟩ else some ((⟨e.ad k,lo0*ei.size,none⟩:Addr).add (l.toNat*ei.size))) (h'.toNat-l.toNat) (m.toNat-l.toNat)) rfl
            have hp:=hR.put (d:=o.dst) (v:=.c (.row S.nx)) hd (blt_iff.2 (Nat.lt_succ_self _))
            simp only[SV.den,C.den,Env.withRow_rv] at hp
            exact hKK _ _ _ _ hp hk
          ·exact hk.elim
        ·exact hk.elim
       ·exact hk.elim
      ·exact hk.elim
     ·exact hk.elim
    ·rename_i v hx
     split at hk
     ·rename_i l hl
      split at hk
      ·rename_i h' hh
       split at hk
       ·rename_i m hm
        obtain⟨u,hu1,hrun,hk⟩:=hk.out
        have hdx:=(h.ev_den hx).1
        simp only[SV.den,C.den] at hdx
        have hrun:=hrun el j hu hj hjs w
        refine wpo_value (show(execOp a.eval o).run X.P w=.ok (.value u) w by
         simp[execOp,ho,Instr.sliceAt,run_underlying hu,hdx,optVal_ok h.v hl,optVal_ok h.v hh,optVal_ok h.v hm,hrun]) ?_
        exact hKK _ _ _ _ (h.put (v:=.c (.v u)) hd hu1) hk
       ·exact hk.elim
      ·exact hk.elim
     ·exact hk.elim
    ·exact hk.elim
   ·exact hk.elim
  ·rename_i hdd
   have hu:=hu0
   rw[hdd] at hu
   split at hk
   ·split at hk
    ·rename_i s hx
     split at hk
     ·rename_i l hl
      split at hk
      ·rename_i h' hh
       obtain⟨hbd,hk⟩:=sli_get hk
       have hdx:=(h.ev_den hx).1
       simp only[SV.den,C.den] at hdx
       have hb:=run_sliceBounds (P:=X.P) false (n:=s.size) (c:=s.size) (optInt_ok h.v hl) (optInt_ok h.v hh) hbd w
       refine wpo_value (show(execOp a.eval o).run X.P w=.ok (.value (.string (s.extract l.toNat h'.toNat))) w by simp[execOp,ho,Instr.sliceAt,Instr.slice,run_underlying hu,hdx,hb]) ?_
       exact hKK _ _ _ _ (h.put (v:=.c (.v (.string (s.extract l.toNat h'.toNat)))) hd rfl) hk
      ·exact hk.elim
     ·exact hk.elim
    ·exact hk.elim
   ·exact hk.elim
  ·exact hk.elim
 ·exact hk.elim
end
end Go.Proofs.YtgkkpefpbfadoaaGreat.Sy
namespace Go.Proofs.YtgkkpefpbfadoaaGreat.Sy
open Go Go.RowKit
section
variable {X : Cx} {e : Env} {S : St} {a : Act} {w : World}
theorem getObj_at {P:Program}{w:World}{r:Nat}{en:Array MapEntry}{cl:Nat}(h:w.heap[r]?=some (.map en cl)):(getObj r).run P w=.ok (.map en cl) w:=by simp[getObj,Sem.run,h]
theorem setObj_at {P:Program}{w:World}{r:Nat}{en:Array MapEntry}{cl:Nat}(o':Obj)(h:w.heap[r]?=some (.map en cl)):(setObj r o').run P w=.ok () {w with heap:=w.heap.setIfInBounds r o'}:=by simp[setObj,Sem.run,h]
def FindIs (P:Program)(kt:TypeId)(kv:Value)(es:List (Value×Value))(r:Option (Nat×Value)):Prop:=
 (∀en:List MapEntry,en.map (fun x=>(x.key,x.val))=es->∀w,(Instr.findKey kt kv en).run P w=.ok r w)/\∀i v,r=some (i,v)->∃k',es[i]?=some (k',v)/\Instr.sameBits 10000 k' kv=true
structure findP (P:Program)(kt:TypeId)(kv:Value)(es:List (Value×Value))(K:Option (Nat×Value)->Prop):Prop where
 out:∃r,(∀b w,(Instr.checkKey b 10000 kt kv).run P w=.ok () w)/\FindIs P kt kv es r/\K r
structure findC (P:Program)(kt:TypeId)(kv:Value)(ks:List Value)(K:Option Nat->Prop):Prop where
 out:∃r:Option Nat,(∀b w,(Instr.checkKey b 10000 kt kv).run P w=.ok () w)/\(∀vs:List Value,vs.length=ks.length->FindIs P kt kv (ks.zip vs) (r.bind fun i=>(vs[i]?).map fun v=>(i,v)))/\K r
def mcOf (S:St)(x:Operand):Option (Nat×List Value×List C):=match S.ev x with
 |some (.c (.row k))=>(match get S.H k with
  |some (.mc ks cs)=>some (k,ks,cs)
  |_=>none)
 |_=>none
theorem mcOf_get {x:Operand}{k:Nat}{ks:List Value}{cs:List C}(h:mcOf S x=some (k,ks,cs)):S.ev x=some (.c (.row k))/\get S.H k=some (.mc ks cs):=by
 unfold mcOf at h
 split at h
 ·rename_i k' hx
  split at h
  ·rename_i ks' cs' hH
   cases h
   exact⟨hx,hH⟩
  ·cases h
 ·cases h
theorem zip_entries {l:List MapEntry}{ks vs:List Value}(h1:l.map (·.key)=ks)(h2:l.map (·.val)=vs):l.map (fun x=>(x.key,x.val))=ks.zip vs:=by
 subst h1;subst h2
 rw[List.zip_map']
def lookC (ei:TI)(r:Option Nat)(cs:List C)(K:SV->Prop):Prop:=match r with
 |some i=>(match cs[i]? with
  |some c=>K (.tup [.c c,.c (.v (.bool true))])
  |none=>False)
 |none=>K (.tup [.c (.v ei.zero),.c (.v (.bool false))])
def mapOf (S:St)(x:Operand):Option (Nat×List (Value×Value)):=match S.ev x with
 |some (.c (.row k))=>(match get S.H k with
  |some (.mp es _)=>some (k,es)
  |_=>none)
 |_=>none
theorem mapOf_get {x:Operand}{k:Nat}{es:List (Value×Value)}(h:mapOf S x=some (k,es)):S.ev x=some (.c (.row k))/\∃q,get S.H k=some (.mp es q):=by
 unfold mapOf at h
 split at h
 ·rename_i k' hx
  split at h
  ·rename_i es' hH
   cases h
   exact⟨hx,_,hH⟩
  ·cases h
 ·cases h
def lookVal (ei:TI)(ok:Bool)(r:Option (Nat×Value))(K:SV->Prop):Prop:=match ok with
 |true=>(match r with
  |some (_,v)=>K (.tup [.c (.v v),.c (.v (.bool true))])
  |none=>K (.tup [.c (.v ei.zero),.c (.v (.bool false))]))
 |false=>(match r with
  |some (_,v)=>K (.c (.v v))
  |none=>K (.c (.v ei.zero)))
def lookSV (ei:TI)(ok:Bool)(r:Option (Nat×Value)):SV:=match ok with
 |true=>(match r with
  |some (_,v)=>.tup [.c (.v v),.c (.v (.bool true))]
  |none=>.tup [.c (.v ei.zero),.c (.v (.bool false))])
 |false=>(match r with
  |some (_,v)=>.c (.v v)
  |none=>.c (.v ei.zero))
theorem lookVal_eq {ei:TI}{ok:Bool}{r:Option (Nat×Value)}{K:SV->Prop}(h:lookVal ei ok r K):K (lookSV ei ok r):=by
 cases ok<;>cases r<;>exact h
theorem lookSV_lt {ei:TI}{ok:Bool}{r:Option (Nat×Value)}{n:Nat}(hz:ei.zero.oneCell'=true)(hr:∀q,r=some q->q.2.oneCell'=true):(lookSV ei ok r).lt n=true:=by
 cases ok with
 |false=>
  cases r with
  |none=>exact hz
  |some q=>exact hr q rfl
 |true=>
  cases r with
  |none=>
   show(match ei.zero.oneCell' with|true=>true|false=>false)=true
   rw[hz]
  |some q=>
   show(match q.2.oneCell' with|true=>true|false=>false)=true
   rw[hr q rfl]
theorem run_lookup {P:Program}{t kt et g:Nat}{kv:Value}{en:Array MapEntry}{cl:Nat}{ei:TI}{j:TypeInfo}{w:World}{r:Option (Nat×Value)}(e:Env)(hu:P.underlying t=some (.map kt et))(hb:w.heap[g]?=some (.map en cl))(hchk:∀b w,(Instr.checkKey b 10000 kt kv).run P w=.ok () w)
 (hfind:(Instr.findKey kt kv en.toList).run P w=.ok r w)(hj:P.info? et=some j)(hjz:j.zero=some ei.zero)(ok:Bool):(Instr.lookup t (.map (some g)) kv ok).run P w=.ok ((lookSV ei ok r).den e) w:=by
 cases ok<;>cases r with
 |none=>simp[Instr.lookup,run_underlying hu,getObj_at hb,hchk,hfind,run_zeroValue hj hjz,lookSV,SV.den,V1.den,C.den]
 |some q=>simp[Instr.lookup,run_underlying hu,getObj_at hb,hchk,hfind,lookSV,SV.den,V1.den,C.den]
def xvLookup (X:Cx)(S:St)(t:Nat)(x i:Operand)(ok:Bool)(K:SV->Prop):Prop:=match get X.T t with
 |some ti=>(match ti.d with
  |.map kt et=>(match get X.T et with
   |some ei=>(match ei.zero.oneCell' with
    |true=>(match mapOf S x with
     |some (_,es)=>(match S.ev i with
      |some (.c (.v kv))=>findP X.P kt kv es fun r=>lookVal ei ok r K
      |some (.agg cs)=>(match plainVals cs with
       |some vs=>findP X.P kt (.agg vs.toArray) es fun r=>lookVal ei ok r K
       |none=>False)
      |_=>False)
     |none=>(match ok with
      |true=>(match mcOf S x with
       |some (_,ks,cs)=>(match S.ev i with
        |some (.c (.v kv))=>findC X.P kt kv ks fun r=>lookC ei r cs K
        |_=>False)
       |none=>False)
      |false=>False))
    |false=>False)
   |none=>False)
  |_=>False)
 |none=>False
theorem lookup_core (hT:TabOk X.P X.T)(e:Env)(a:Act){o:Oper}{t kt et:Nat}{x i:Operand}{ok:Bool}{K:SV->Prop}(ho:o.op=.lookup t x i ok){ti ei:TI}(hti:get X.T t=some ti)(hdd:ti.d=.map kt et)(hei:get X.T et=some ei)(hz:ei.zero.oneCell'=true)
 {k:Nat}{es:List (Value×Value)}(hx:mapOf S x=some (k,es)){kv:Value}(hi:∀w,RepV X e S a w->a.eval i=kv)(hk:findP X.P kt kv es fun r=>lookVal ei ok r K):Yv X e S a o K:=by
 obtain⟨r,hchk,hfind,hk⟩:=hk.out
 obtain⟨hxv,q0,hH⟩:=mapOf_get hx
 obtain⟨hu,_⟩:=TabOk.get hT hti
 rw[hdd] at hu
 obtain⟨_,j,hj,hjz,_⟩:=TabOk.get hT hei
 refine⟨lookSV ei ok r,lookVal_eq hk,fun w h=>?_⟩
 obtain⟨F,hrv,en,cl,hb,hen,_⟩:=h.hp k _ hH
 have hxd:=(h.ev_den hxv).1
 simp only[SV.den,C.den,hrv] at hxd
 refine⟨lookSV_lt hz fun q hq=>?_,?_⟩
 ·obtain⟨k',hk',_⟩:=hfind.2 q.1 q.2 hq
  exact(h.hlt k _ hH).2 _ (List.mem_of_getElem? hk')
 ·have hrun:=run_lookup e hu hb hchk (hfind.1 en.toList hen w) hj hjz ok
  simp[execOp,ho,hxd,hi w h,hrun]
theorem lookup_ok (hT:TabOk X.P X.T)(e:Env)(a:Act){o:Oper}{t:Nat}{x i:Operand}{ok:Bool}{K:SV->Prop}(ho:o.op=.lookup t x i ok)(hk:xvLookup X S t x i ok K):Yv X e S a o K:=by
 unfold xvLookup at hk
 split at hk
 ·rename_i ti hti
  split at hk
  ·rename_i kt et hdd
   split at hk
   ·rename_i ei hei
    split at hk
    ·rename_i hz
     split at hk
     ·rename_i k es hx
      split at hk
      ·rename_i kv hi
       exact lookup_core hT e a ho hti hdd hei hz hx (fun w h=>(h.ev_den hi).1) hk
      ·rename_i cs hi
       split at hk
       ·rename_i vs hvs
        exact lookup_core hT e a ho hti hdd hei hz hx (fun w h=>by
         have:=(h.ev_den hi).1
         rw[this,plainVals_eq hvs]
         simp only[SV.den,map_den_v']) hk
       ·exact hk.elim
      ·exact hk.elim
     ·split at hk
      ·split at hk
       ·rename_i j ks cs hx
        split at hk
        ·rename_i kv hi
         obtain⟨hxv,hH⟩:=mcOf_get hx
         have hu:=(TabOk.get hT hti).1
         rw[hdd] at hu
         obtain⟨_,ji,hj,hjz,_⟩:=TabOk.get hT hei
         obtain⟨r,hchk,hfind,hk⟩:=hk.out
         unfold lookC at hk
         have go:∀(w:World),RepV X e S a w->∀r',(∀en:List MapEntry,en.map (·.key)=ks->en.map (·.val)=cs.map (C.den e)->(r.bind fun i=>((cs.map (C.den e))[i]?).map fun v=>(i,v))=r')->(execOp a.eval o).run X.P w=.ok (.value ((lookSV ei true r').den e)) w:=by
          intro w h r' hr'
          obtain⟨F,hrv,en,cl,hb,h1,h2⟩:=h.hp j _ hH
          have hxd:=(h.ev_den hxv).1
          simp only[SV.den,C.den,hrv] at hxd
          have hid:=(h.ev_den hi).1
          simp only[SV.den,C.den] at hid
          have hl:(cs.map (C.den e)).length=ks.length:=by rw[<-h1,<-h2,List.length_map,List.length_map]
          have hf:=(hfind _ hl).1 en.toList (zip_entries h1 h2) w
          rw[hr' _ h1 h2] at hf
          have hrun:=run_lookup e hu hb hchk hf hj hjz true
          simp[execOp,ho,hxd,hid,hrun]
         split at hk
         ·rename_i i
          split at hk
          ·rename_i c hc
           refine⟨_,hk,fun w h=>⟨?_,?_⟩⟩
           ·have:=ltAll_get ((h.hlt j _ hH).2) hc
            show(match c.lt S.nx with|true=>true|false=>false)=true
            rw[this]
           ·exact go w h (some (i,c.den e)) fun en _ _=>by simp[List.getElem?_map,hc]
          ·exact hk.elim
         ·refine⟨_,hk,fun w h=>⟨?_,go w h none fun en _ _=>rfl⟩⟩
          show(match ei.zero.oneCell' with|true=>true|false=>false)=true
          rw[hz]
        ·exact hk.elim
       ·exact hk.elim
      ·exact hk.elim
    ·exact hk.elim
   ·exact hk.elim
  ·exact hk.elim
 ·exact hk.elim
def xMakeMap (S:St)(d:Option Nat)(r:Option Operand)(K:St->Prop):Prop:=match r with
 |none=>K ((S.new (.mp [])).put d (.c (.row S.nx)))
 |some _=>False
def Env.withMap (e:Env)(k g:Nat):Env:={e with ad:=fun j=>if j=k then g else e.ad j,rv:=fun j=>if j=k then .map (some g) else e.rv j}
theorem Rep.newMap (h:Rep X e S a w):Rep X (e.withMap S.nx w.heap.size) (S.new (.mp [])) a (w.alloc (.map #[] 0)):=by
 have hs:Env.same S.nx e (e.withMap S.nx w.heap.size):=fun k hk=>⟨by simp[Env.withMap,Nat.ne_of_lt hk],by simp[Env.withMap,Nat.ne_of_lt hk],rfl,rfl,rfl⟩
 have h1:(e.withMap S.nx w.heap.size).ad S.nx=w.heap.size:=by simp[Env.withMap]
 have h2:(e.withMap S.nx w.heap.size).rv S.nx=.map (some w.heap.size):=by simp[Env.withMap]
 refine h.step (k0:=S.nx) (b0:=.mp []) hs rfl (Nat.le_succ _) (Nat.lt_succ_self _) (fun x hx=>by cases hx) rfl rfl rfl (by simp) (fun x hx=>heap_alloc_old w _ (h.kept_lt hx)) (fun k=>?_) ⟨by rw[h1,h2],#[],0,?_,rfl,List.nodup_nil,fun b hb=>(by cases hb),trivial⟩ (fun x hx=>?_)
 ·by_cases hk:k=S.nx
  ·subst hk;rw[h2];rfl
  ·simp only[Env.withMap,if_neg hk];exact h.one k
 ·rw[h1];exact heap_alloc_new w _
 ·have hx:x=(e.withMap S.nx w.heap.size).ad S.nx:=hx
  rw[h1] at hx
  exact h.not_kept_new (by omega)
theorem makeMap_ok (h:Rep X e S a w){o:Oper}(hd:dstOk X.nt o.dst=true){t:Nat}{r:Option Operand}{K:St->Prop}(ho:o.op=.makeMap t r)(hk:xMakeMap S o.dst r K):Wv X a w o K:=by
 intro KK Q hKK
 unfold xMakeMap at hk
 split at hk
 ·have hrun:(execOp a.eval o).run X.P w=.ok (.value (.map (some w.heap.size))) (w.alloc (.map #[] 0)):=by
   simp[execOp,ho,Instr.makeMap]
  have h1:=h.newMap.put (d:=o.dst) (v:=.c (.row S.nx)) hd (blt_iff.2 (Nat.lt_succ_self _))
  have h2:SV.den (e.withMap S.nx w.heap.size) (.c (.row S.nx))=.map (some w.heap.size):=by simp[SV.den,C.den,Env.withMap]
  rw[h2] at h1
  exact wpo_value hrun (hKK _ _ _ _ h1 hk)
 ·exact hk.elim
def setEs (es:List (Value×Value))(kv v:Value)(r:Option (Nat×Value)):List (Value×Value):=match r with
 |some (i,_)=>es.set i (kv,v)
 |none=>es++[(kv,v)]
def snocL {α:Type}:List α->α->List α
 |[],y=>[y]
 |x::r,y=>x::snocL r y
theorem snocL_eq {α:Type}:∀(l:List α)(y:α),snocL l y=l++[y]
 |[],_=>rfl
 |x::r,y=>congrArg (x::·) (snocL_eq r y)
def addC (S:St)(j:Nat)(kv:Value)(c:C)(ks:List Value)(cs:List C)(r:Option Nat)(K:St->Prop):Prop:=match r with
 |none=>K (S.setH j (.mc (snocL ks kv) (snocL cs c)))
 |some _=>False
def xMapUpdate (X:Cx)(S:St)(t:Nat)(m k x:Operand)(K:St->Prop):Prop:=match get X.T t with
 |some ti=>(match ti.d with
  |.map kt _=>(match mapOf S m with
   |some (j,es)=>(match S.ev x with
    |some (.c (.v v))=>(match S.ev k with
     |some (.c (.v kv))=>findP X.P kt kv es fun r=>K (S.setH j (.mp (setEs es kv v r)))
     |some (.agg cs)=>(match plainVals cs with
      |some vs=>findP X.P kt (.agg vs.toArray) es fun r=>K (S.setH j (.mp (setEs es (.agg vs.toArray) v r)))
      |none=>False)
     |_=>False)
    |some (.c c)=>(match es with
     |[]=>(match S.ev k with
      |some (.c (.v kv))=>findC X.P kt kv [] fun r=>addC S j kv c [] [] r K
      |_=>False)
     |_=>False)
    |_=>False)
   |none=>(match mcOf S m with
    |some (j,ks,cs)=>(match S.ev x with
     |some (.c c)=>(match S.ev k with
      |some (.c (.v kv))=>findC X.P kt kv ks fun r=>addC S j kv c ks cs r K
      |_=>False)
     |_=>False)
    |none=>False))
  |_=>False)
 |none=>False
theorem mapUpdate_core (hT:TabOk X.P X.T)(h:Rep X e S a w){o:Oper}(hd:dstOk X.nt o.dst=true){t kt et:Nat}{m k x:Operand}{K:St->Prop}(ho:o.op=.mapUpdate t m k x\/o.op=.insert t m k x){ti:TI}(hti:get X.T t=some ti)(hdd:ti.d=.map kt et)
 {j:Nat}{es:List (Value×Value)}(hm:mapOf S m=some (j,es)){v kv:Value}(hx:S.ev x=some (.c (.v v)))(hi:a.eval k=kv)(hk:findP X.P kt kv es fun r=>K ((S.setH j (.mp (setEs es kv v r))).put o.dst .un)):Wv X a w o K:=by
 intro KK Q hKK
 obtain⟨r,hchk,hfind,hk⟩:=hk.out
 obtain⟨hxv,q0,hH⟩:=mapOf_get hm
 obtain⟨hu,_⟩:=TabOk.get hT hti
 rw[hdd] at hu
 obtain⟨hrv,en,cl,hb,hen,hnd,hbl,_⟩:=h.hp j _ hH
 have hmd:=(h.ev_den hxv).1
 simp only[SV.den,C.den,hrv] at hmd
 obtain⟨hvd,hvl⟩:=h.ev_den hx
 simp only[SV.den,C.den] at hvd
 have hv1:v.oneCell'=true:=hvl
 have hlt:=h.hlt j _ hH
 have step:∀en' cl',en'.toList.map (fun x:MapEntry=>(x.key,x.val))=setEs es kv v r->(en'.toList.map (·.born)).Nodup->(∀b∈en'.toList.map (·.born),b<cl')->Rep X e (S.setH j (.mp (setEs es kv v r))) a {w with heap:=w.heap.setIfInBounds (e.ad j) (.map en' cl')}:=by
  intro en' cl' hen' hnd' hbl'
  have hsz:e.ad j<w.heap.size:=(Array.getElem?_eq_some_iff.1 hb).1
  refine h.step (k0:=j) (b0:=.mp (setEs es kv v r)) (Env.same.refl _ _) rfl (Nat.le_refl _) hlt.1 (fun z hz=>?_) rfl rfl rfl (by simp) (fun y hy=>?_) h.one ⟨hrv,en',cl',?_,hen',hnd',hbl',trivial⟩ (fun y hy=>h.not_kept hH hy)
  ·unfold setEs at hz
   split at hz
   ·rcases List.mem_or_eq_of_mem_set hz with hz|hz
    ·exact hlt.2 z hz
    ·rw[hz];exact hv1
   ·rcases List.mem_append.1 hz with hz|hz
    ·exact hlt.2 z hz
    ·rw[List.mem_singleton.1 hz];exact hv1
  ·have hne:e.ad j≠y:=fun e1=>h.not_kept hH (x:=y) e1.symm hy
   show(w.heap.setIfInBounds (e.ad j) _)[y]?=_
   rw[Array.getElem?_setIfInBounds_ne hne]
  ·show(w.heap.setIfInBounds (e.ad j) _)[e.ad j]?=_
   rw[Array.getElem?_setIfInBounds_self_of_lt hsz]
 have fin:∀w',(Instr.mapUpdate t (.map (some (e.ad j))) kv v).run X.P w=.ok () w'->Rep X e (S.setH j (.mp (setEs es kv v r))) a w'->o.wpIn X.fen 0 X.P a w KK Q:=by
  intro w' hrun hR
  refine wpo_skip (w':=w') (by rcases ho with ho|ho<;>simp[execOp,ho,hmd,hi,hvd,hrun]) (hKK _ _ _ _ (hR.put (d:=o.dst) (v:=.un) hd rfl) hk)
 cases r with
 |none=>
  refine fin _ ?_ (step (en.push {key:=kv,val:=v,born:=cl}) (cl+1) ?_ ?_ ?_)
  ·simp[Instr.mapUpdate,run_underlying hu,getObj_at hb,hchk,hfind.1 en.toList hen w,setObj_at _ hb]
  ·simp[setEs,hen]
  ·rw[Array.toList_push,List.map_append]
   refine List.nodup_append.2 ⟨hnd,by simp,fun a ha b hb'=>?_⟩
   have hb':b=cl:=by simpa using hb'
   have:=hbl a ha
   omega
  ·intro b hb'
   rw[Array.toList_push,List.map_append] at hb'
   rcases List.mem_append.1 hb' with hb'|hb'
   ·have:=hbl b hb';omega
   ·have hb':b=cl:=by simpa using hb'
    omega
 |some q=>
  obtain⟨i,v0⟩:=q
  obtain⟨k',hk',hsb⟩:=hfind.2 i v0 rfl
  have hki:((en[i]?).map (·.key)).getD kv=k':=by
   rw[<-hen,List.getElem?_map] at hk'
   rw[<-Array.getElem?_toList]
   cases hq:en.toList[i]? with
   |none=>rw[hq] at hk';cases hk'
   |some z=>rw[hq] at hk';simp at hk';simp[hk'.1]
  have hborn:(en.modify i fun z=>{z with key:=kv,val:=v}).toList.map (·.born)=en.toList.map (·.born):=by
   rw[Array.toList_modify]
   apply List.ext_getElem?
   intro n
   rw[List.getElem?_map,List.getElem?_modify,List.getElem?_map]
   by_cases hn:i=n
   ·subst hn;cases en.toList[i]?<;>simp
   ·simp[hn]
  refine fin _ ?_ (step (en.modify i fun z=>{z with key:=kv,val:=v}) cl ?_ (by rw[hborn];exact hnd) (by rw[hborn];exact hbl))
  ·simp[Instr.mapUpdate,run_underlying hu,getObj_at hb,hchk,hfind.1 en.toList hen w,hki,Instr.keyThatStays,hsb,setObj_at _ hb]
  ·simp only[setEs,Array.toList_modify]
   rw[<-hen]
   apply List.ext_getElem?
   intro n
   rw[List.getElem?_map,List.getElem?_modify,List.getElem?_set]
   by_cases hn:i=n
   ·subst hn
    rw[<-hen,List.getElem?_map] at hk'
    cases hq:en.toList[i]? with
    |none=>rw[hq] at hk';cases hk'
    |some z=>
     have hlt2:i<en.toList.length:=(List.getElem?_eq_some_iff.1 hq).1
     simp at hlt2
     simp[hlt2]
   ·simp[hn]
theorem addC_core (hT:TabOk X.P X.T)(h:Rep X e S a w){o:Oper}(hd:dstOk X.nt o.dst=true){t kt et:Nat}{m k x:Operand}{K:St->Prop}(ho:o.op=.mapUpdate t m k x\/o.op=.insert t m k x){ti:TI}(hti:get X.T t=some ti)(hdd:ti.d=.map kt et)
 {j:Nat}{b:Blk}(hH:get S.H j=some b)(hfoot:∀y,y=e.ad j->b.foot e j y){ks:List Value}{cs:List C}{cl:Nat}{en:Array MapEntry}(hrv:e.rv j=.map (some (e.ad j)))(hb:w.heap[e.ad j]?=some (.map en cl))(h1:en.toList.map (·.key)=ks)(h2:en.toList.map (·.val)=cs.map (C.den e))(hcl:ltAll S.nx cs=true)
 (hxv:S.ev m=some (.c (.row j))){c:C}{kv:Value}(hx:S.ev x=some (.c c))(hi:S.ev k=some (.c (.v kv)))(hk:findC X.P kt kv ks fun r=>addC S j kv c ks cs r fun S'=>K (S'.put o.dst .un)):Wv X a w o K:=by
 intro KK Q hKK
 have hu:=(TabOk.get hT hti).1
 rw[hdd] at hu
 obtain⟨r,hchk,hfind,hk⟩:=hk.out
 unfold addC at hk
 split at hk
 ·have hmd:=(h.ev_den hxv).1
  simp only[SV.den,C.den,hrv] at hmd
  obtain⟨hvd,hvl⟩:=h.ev_den hx
  have hid:=(h.ev_den hi).1
  simp only[SV.den,C.den] at hid
  replace hvd:a.eval x=c.den e:=hvd
  have hl:(cs.map (C.den e)).length=ks.length:=by rw[<-h1,<-h2,List.length_map,List.length_map]
  have hf:=(hfind _ hl).1 en.toList (zip_entries h1 h2) w
  have hlt:=h.hlt j _ hH
  have hsz:e.ad j<w.heap.size:=(Array.getElem?_eq_some_iff.1 hb).1
  have hne:∀y,Kept e S j y->e.ad j≠y:=fun y hy e1=>h.not_kept hH (x:=y) (hfoot y e1.symm) hy
  have hR:Rep X e (S.setH j (.mc (snocL ks kv) (snocL cs c))) a {w with heap:=w.heap.setIfInBounds (e.ad j) (.map (en.push {key:=kv,val:=c.den e,born:=cl}) (cl+1))}:=by
   refine h.step (k0:=j) (b0:=.mc (snocL ks kv) (snocL cs c)) (Env.same.refl _ _) rfl (Nat.le_refl _) hlt.1 ?_ rfl rfl rfl (by simp) (fun y hy=>?_) h.one ⟨hrv,en.push {key:=kv,val:=c.den e,born:=cl},cl+1,?_,?_,?_⟩ (fun y hy=>h.not_kept hH (hfoot y hy))
   ·show ltAll S.nx (snocL cs c)=true
    rw[snocL_eq]
    refine ltAll_of fun d hdm=>?_
    ·rcases List.mem_append.1 hdm with hdm|hdm
     ·exact ltAll_mem hcl d hdm
     ·rw[List.mem_singleton.1 hdm];exact hvl
   ·show(w.heap.setIfInBounds (e.ad j) _)[y]?=_
    rw[Array.getElem?_setIfInBounds_ne (hne y hy)]
   ·show(w.heap.setIfInBounds (e.ad j) _)[e.ad j]?=_
    rw[Array.getElem?_setIfInBounds_self_of_lt hsz]
   ·rw[snocL_eq,Array.toList_push,List.map_append,h1];rfl
   ·rw[snocL_eq,Array.toList_push,List.map_append,List.map_append,h2];rfl
  refine wpo_skip (w':=_) ?_ (hKK _ _ _ _ (hR.put (d:=o.dst) (v:=.un) hd rfl) hk)
  rcases ho with ho|ho<;>simp[execOp,ho,hmd,hid,hvd,Instr.mapUpdate,run_underlying hu,getObj_at hb,hchk,hf,setObj_at _ hb]
 ·exact hk.elim
theorem mapUpdate_ok (hT:TabOk X.P X.T)(h:Rep X e S a w){o:Oper}(hd:dstOk X.nt o.dst=true){t:Nat}{m k x:Operand}{K:St->Prop}(ho:o.op=.mapUpdate t m k x\/o.op=.insert t m k x)(hk:xMapUpdate X S t m k x fun S'=>K (S'.put o.dst .un)):Wv X a w o K:=by
 unfold xMapUpdate at hk
 split at hk
 ·rename_i ti hti
  split at hk
  ·rename_i kt et hdd
   split at hk
   ·rename_i j es hm
    split at hk
    ·rename_i v hx
     split at hk
     ·rename_i kv hi
      exact mapUpdate_core hT h hd ho hti hdd hm hx (h.ev_den hi).1 hk
     ·rename_i cs hi
      split at hk
      ·rename_i vs hvs
       exact mapUpdate_core hT h hd ho hti hdd hm hx (by
        have:=(h.ev_den hi).1
        rw[this,plainVals_eq hvs]
        simp only[SV.den,map_den_v']) hk
      ·exact hk.elim
     ·exact hk.elim
    ·rename_i c _ hx
     split at hk
     ·split at hk
      ·rename_i kv hi
       obtain⟨hxv,q0,hH⟩:=mapOf_get hm
       obtain⟨hrv,en,cl,hb,hen,_⟩:=h.hp j _ hH
       have hen:en.toList=[]:=List.map_eq_nil_iff.1 hen
       exact addC_core hT h hd ho hti hdd hH (fun _ hy=>hy) hrv hb (by rw[hen];rfl) (by rw[hen];rfl) rfl hxv hx hi hk
      ·exact hk.elim
     ·exact hk.elim
    ·exact hk.elim
   ·split at hk
    ·rename_i j ks cs hm
     split at hk
     ·rename_i c hx
      split at hk
      ·rename_i kv hi
       obtain⟨hxv,hH⟩:=mcOf_get hm
       obtain⟨hrv,en,cl,hb,h1,h2⟩:=h.hp j _ hH
       exact addC_core hT h hd ho hti hdd hH (fun _ hy=>hy) hrv hb h1 h2 (h.hlt j _ hH).2 hxv hx hi hk
      ·exact hk.elim
     ·exact hk.elim
    ·exact hk.elim
  ·exact hk.elim
 ·exact hk.elim
def itQ (g:Nat)(st:List Nat)(cl:Nat):Nat->List Nat->Nat->Prop:=fun a st' cl'=>a=g/\st'=st/\cl'=cl
structure rngP (es:List (Value×Value))(K:Nat->List Nat->Nat->Prop):Prop where
 out:∀g st cl,st.length=es.length->st.Nodup->(∀b∈st,b<cl)->K g st cl
structure nxtP (H:List (Nat×Blk))(g:Nat)(st:List Nat)(cl:Nat)(left:List Nat)(K:Option (Nat×V1×Value)->Prop):Prop where
 out:∃j es,get H j=some (.mp es (itQ g st cl))/\(left=[]->K none)/\∀i kv v,i∈left->es[i]?=some (kv,v)->∃x:V1,(∀e:Env,x.den e=kv)/\(∀n,x.lt n=true)/\K (some (i,x,v))
def mapTB (X:Cx)(t:Nat):Bool:=match get X.T t with
 |some ti=>(match ti.d with
  |.map _ _=>true
  |_=>false)
 |none=>false
theorem mapTB_get {t:Nat}(h:mapTB X t=true):∃ti kt et,get X.T t=some ti/\ti.d=.map kt et:=by
 unfold mapTB at h
 split at h
 ·rename_i ti hti
  split at h
  ·rename_i kt et hd
   exact⟨ti,kt,et,hti,hd⟩
  ·cases h
 ·cases h
def xRange (S:St)(d:Option Nat)(x:Operand)(K:St->Prop):Prop:=match mapOf S x with
 |some (j,es)=>rngP es fun g st cl=>K (((S.setH j (.mp es (itQ g st cl))).new (.it g st cl (List.range es.length))).put d (.c (.loc S.nx 0)))
 |none=>False
def xNext (S:St)(d:Option Nat)(x:Operand)(K:St->Prop):Prop:=match S.ev x with
 |some (.c (.loc k 0))=>(match get S.H k with
  |some (.it g st cl left _)=>nxtP S.H g st cl left fun r=>(match r with
   |none=>K (S.put d (.tup [.c (.v (.bool false))]))
   |some (i,kv,v)=>K ((S.setH k (.it g st cl (left.filter fun j=>!(Nat.beq j i)) (some i))).put d (.tup [.c (.v (.bool true)),kv,.c (.v v)])))
  |_=>False)
 |_=>False
theorem Rep.sameBlk (h:Rep X e S a w){k:Nat}{b b0:Blk}(hk:get S.H k=some b)(hl0:b0.lt S.nx)(hfoot:∀x,b0.foot e k x->b.foot e k x)(hnew:b0.holds S.F X e k w):Rep X e (S.setH k b0) a w:=
 h.step (k0:=k) (b0:=b0) (Env.same.refl _ _) rfl (Nat.le_refl _) (h.hlt k b hk).1 hl0 rfl rfl rfl (Nat.le_refl _) (fun _ _=>rfl) h.one hnew (fun x hx=>h.not_kept hk (hfoot x hx))
theorem range_ok (hT:TabOk X.P X.T)(h:Rep X e S a w){o:Oper}(hd:dstOk X.nt o.dst=true){t:Nat}{x:Operand}{K:St->Prop}(ho:o.op=.range t x){ti:TI}{kt et:Nat}(hti:get X.T t=some ti)(hdd:ti.d=.map kt et)(hk:xRange S o.dst x K):Wv X a w o K:=by
 intro KK Q hKK
 unfold xRange at hk
 split at hk
 ·rename_i j es hm
  obtain⟨hxv,q0,hH⟩:=mapOf_get hm
  obtain⟨hu,_⟩:=TabOk.get hT hti
  rw[hdd] at hu
  obtain⟨hrv,en,cl,hb,hen,hnd,hbl,_⟩:=h.hp j _ hH
  have hxd:=(h.ev_den hxv).1
  simp only[SV.den,C.den,hrv] at hxd
  have hK:=hk.out (e.ad j) (en.toList.map (·.born)) cl (by rw[<-hen];simp) hnd hbl
  have hlt:=h.hlt j _ hH
  have h1:Rep X e (S.setH j (.mp es (itQ (e.ad j) (en.toList.map (·.born)) cl))) a w:=h.sameBlk hH hlt.2 (fun _ hx=>hx) ⟨hrv,en,cl,hb,hen,hnd,hbl,rfl,rfl,rfl⟩
  have hrun:(execOp a.eval o).run X.P w=.ok (.value (.pointer (some ⟨w.heap.size,0,none⟩))) (w.alloc (.mapIter (some (e.ad j)) cl #[] cl)):=by
   have:=run_range_map w t kt et (e.ad j) en cl hu hb (P:=X.P)
   simp[execOp,ho,hxd,this,Result.andThen]
  have hnx:(S.setH j (.mp es (itQ (e.ad j) (en.toList.map (·.born)) cl))).nx=S.nx:=by cases S;rfl
  have hs:Env.same S.nx e {e with ad:=fun i=>if i=S.nx then w.heap.size else e.ad i}:=fun k hk=>⟨by simp[Nat.ne_of_lt hk],rfl,rfl,rfl,rfl⟩
  have h2:Rep X {e with ad:=fun i=>if i=S.nx then w.heap.size else e.ad i} ((S.setH j (.mp es (itQ (e.ad j) (en.toList.map (·.born)) cl))).new (.it (e.ad j) (en.toList.map (·.born)) cl (List.range es.length))) a (w.alloc (.mapIter (some (e.ad j)) cl #[] cl)):=by
   have hS:∀(S1:St),S1.nx=S.nx->Rep X e S1 a w->Rep X {e with ad:=fun i=>if i=S.nx then w.heap.size else e.ad i} (S1.new (.it (e.ad j) (en.toList.map (·.born)) cl (List.range es.length))) a (w.alloc (.mapIter (some (e.ad j)) cl #[] cl)):=by
    intro S1 hn h1
    have hs1:Env.same S1.nx e {e with ad:=fun i=>if i=S.nx then w.heap.size else e.ad i}:=by rw[hn];exact hs
    have:=h1.step (e':={e with ad:=fun i=>if i=S.nx then w.heap.size else e.ad i}) (w':=w.alloc (.mapIter (some (e.ad j)) cl #[] cl)) (k0:=S1.nx) (b0:=.it (e.ad j) (en.toList.map (·.born)) cl (List.range es.length)) (nx':=S1.nx+1) hs1 rfl (Nat.le_succ _) (Nat.lt_succ_self _) trivial rfl rfl rfl (by simp) (fun x hx=>heap_alloc_old w _ (h1.kept_lt hx)) h1.one
     ⟨#[],cl,by
      show(w.alloc _).heap[if S1.nx=S.nx then w.heap.size else e.ad S1.nx]?=_
      rw[if_pos hn]
      exact heap_alloc_new w _,Nat.le_refl _,fun i b hib=>by
       have:=(List.getElem?_eq_some_iff.1 hib).1
       have hle:en.toList.length=es.length:=by rw[<-hen];simp
       simp at this hle
       simp
       omega,fun i hi=>by
       have hle:en.toList.length=es.length:=by rw[<-hen];simp
       rw[List.length_map,hle]
       exact List.mem_range.1 hi,fun i hi=>(by cases hi)⟩
     (fun x hx=>by
      have hx:x=if S1.nx=S.nx then w.heap.size else e.ad S1.nx:=hx
      rw[if_pos hn] at hx
      exact h1.not_kept_new (by omega))
    cases S1
    exact this
   exact hS _ hnx h1
  have h3:=h2.put (d:=o.dst) (v:=.c (.loc S.nx 0)) hd (by
   show Nat.blt S.nx _=true
   refine blt_iff.2 ?_
   cases S;exact Nat.lt_succ_self _)
  have h4:SV.den {e with ad:=fun i=>if i=S.nx then w.heap.size else e.ad i} (.c (.loc S.nx 0))=.pointer (some ⟨w.heap.size,0,none⟩):=by simp[SV.den,C.den]
  rw[h4] at h3
  exact wpo_value hrun (hKK _ _ _ _ h3 hK)
 ·exact hk.elim
theorem next_ok (h:Rep X e S a w){o:Oper}(hd:dstOk X.nt o.dst=true){x:Operand}{K:St->Prop}(ho:o.op=.next x false)(hk:xNext S o.dst x K):Wv X a w o K:=by
 intro KK Q hKK
 unfold xNext at hk
 split at hk
 ·rename_i k hx
  split at hk
  ·rename_i g st cl left cur hH
   obtain⟨j,es,hj,hnone,hsome⟩:=hk.out
   obtain⟨seen,last,hit,hle,hseen,hlb,_⟩:=h.hp k _ hH
   obtain⟨hrv,en,cl',hb,hen,hnd,hbl,hq1,hq2,hq3⟩:=h.hp j _ hj
   subst hq3
   have hxd:=(h.ev_den hx).1
   simp only[SV.den,C.den] at hxd
   rw[hq1] at hb
   have hold:∀z∈en.toList,z.born<cl':=fun z hz=>hbl _ (List.mem_map_of_mem hz)
   have hst:∀i(z:MapEntry),en.toList[i]?=some z->st[i]?=some z.born:=fun i z hz=>by rw[<-hq2,List.getElem?_map,hz];rfl
   have hel:∀i(z:MapEntry),en.toList[i]?=some z->es[i]?=some (z.key,z.val):=fun i z hz=>by rw[<-hen,List.getElem?_map,hz];rfl
   rcases run_next_at (P:=X.P) w o.type (e.ad k) g cl' last seen en cl' hit hb hold hle with⟨h0,hrun⟩|⟨z,hz,w1,hw1,hrun⟩
   ·have hleft:left=[]:=by
     refine List.eq_nil_iff_forall_not_mem.2 fun i hi=>?_
     have hil:=hlb i hi
     rw[<-hq2,List.length_map] at hil
     have hz:=List.getElem?_eq_getElem hil
     have hsz:=(hseen i _ (hst i _ hz)).2 hi
     have hm:en.toList[i]∈(leftOf en seen).toList:=by
      unfold leftOf
      rw[Array.toList_filter,List.mem_filter]
      exact⟨List.getElem_mem hil,by rw[hsz];rfl⟩
     have:=List.length_pos_of_mem hm
     rw[Array.length_toList] at this
     omega
    refine wpo_value (w':=w) (show(execOp a.eval o).run X.P w=.ok (.value (.tuple #[.bool false])) w by simp[execOp,ho,hxd,hrun,Result.andThen]) ?_
    exact hKK _ _ _ _ (h.put (d:=o.dst) (v:=.tup [.c (.v (.bool false))]) hd rfl) (hnone hleft)
   ·obtain⟨hem,hes⟩:=mem_left hz
    obtain⟨i,hi⟩:=List.getElem?_of_mem hem
    have hil:i∈left:=(hseen i _ (hst i z hi)).1 hes
    obtain⟨x,hxd2,hxl,hK⟩:=hsome i z.key z.val hil (hel i z hi)
    have h1:Rep X e S a w1:=by
     rcases hw1 with rfl|rfl
     ·exact h
     ·exact h.drawn _
    have hit1:w1.heap[e.ad k]?=some (.mapIter (some g) cl' seen last):=by rcases hw1 with rfl|rfl<;>exact hit
    have hset:=MapKept.heap_set (o':=.mapIter (some g) cl' (seen.push z.born) cl') hit1
    have h2:Rep X e (S.setH k (.it g st cl' (left.filter fun j=>!(Nat.beq j i)) (some i))) a (ChangeMaps.setBlock w1 (e.ad k) (.mapIter (some g) cl' (seen.push z.born) cl')):=by
     have hlt:=h1.hlt k _ hH
     refine h1.step (k0:=k) (b0:=.it g st cl' (left.filter fun j=>!(Nat.beq j i)) (some i)) (Env.same.refl _ _) rfl (Nat.le_refl _) hlt.1 trivial rfl rfl rfl (by simp[ChangeMaps.setBlock]) (fun y hy=>?_) h1.one ⟨seen.push z.born,cl',hset.1,Nat.le_refl _,fun i' b hb'=>?_,fun i' hi'=>hlb i' (List.mem_filter.1 hi').1,fun i' hi'=>⟨rfl,z.born,by simp,by rw[<-Option.some.inj hi'];exact hst i z hi⟩⟩ (fun y hy=>h1.not_kept hH hy)
     ·exact hset.2 y fun e1=>h1.not_kept hH (x:=y) e1 hy
     ·rw[contains_push,List.mem_filter,<-hseen i' b hb']
      have hzi:=hst i z hi
      have hnd2:st.Nodup:=by rw[<-hq2];exact hnd
      by_cases hii:i'=i
      ·subst hii
       rw[hzi] at hb'
       cases hb'
       simp
      ·have hne:b≠z.born:=fun e1=>by
        subst e1
        have g1:=List.getElem?_eq_some_iff.1 hb'
        have g2:=List.getElem?_eq_some_iff.1 hzi
        exact hii ((List.getElem_inj hnd2).1 (g1.2.trans g2.2.symm))
       have hb3:Nat.beq i' i=false:=by
        cases hb4:Nat.beq i' i with
        |false=>rfl
        |true=>exact absurd (Nat.eq_of_beq_eq_true hb4) hii
       rw[hb3]
       simp[hne]
    have hv1:=(h.hlt j _ hj).2 _ (List.mem_of_getElem? (hel i z hi))
    have h3:=h2.put (d:=o.dst) (v:=.tup [.c (.v (.bool true)),x,.c (.v z.val)]) hd (by
     simp only[SV.lt]
     exact ltAll1_of fun c hc=>by
      simp only[List.mem_cons,List.mem_nil_iff,or_false] at hc
      rcases hc with rfl|rfl|rfl
      ·rfl
      ·exact hxl _
      ·exact hv1)
    have h4:SV.den e (.tup [.c (.v (.bool true)),x,.c (.v z.val)])=.tuple #[.bool true,z.key,z.val]:=by simp only[SV.den,List.map_cons,List.map_nil];rw[hxd2];rfl
    rw[h4] at h3
    exact wpo_value (show(execOp a.eval o).run X.P w=.ok (.value (.tuple #[.bool true,z.key,z.val])) _ by simp[execOp,ho,hxd,hrun,Result.andThen]) (hKK _ _ _ _ h3 hK)
  ·exact hk.elim
 ·exact hk.elim
structure entP (H:List (Nat×Blk))(g:Nat)(st:List Nat)(cl:Nat)(i:Nat)(K:V1->Value->Prop):Prop where
 out:∃j es,get H j=some (.mp es (itQ g st cl))/\∀kv v,es[i]?=some (kv,v)->∃x:V1,(∀e:Env,x.den e=kv)/\(∀n,x.lt n=true)/\K x v
def xEntry (S:St)(d:Option Nat)(x:Operand)(K:St->Prop):Prop:=match S.ev x with
 |some (.c (.loc k 0))=>(match get S.H k with
  |some (.it g st cl _ (some i))=>entP S.H g st cl i fun x v=>K (S.put d (.tup [x,.c (.v v)]))
  |_=>False)
 |_=>False
theorem find_born:∀{l:List MapEntry}{i:Nat}{z:MapEntry},(l.map (·.born)).Nodup->l[i]?=some z->l.find? (fun y=>y.born==z.born)=some z
 |[],i,z,_,h=>by simp at h
 |y::l,0,z,_,h=>by
  have:y=z:=by simpa using h
  subst this
  simp
 |y::l,i+1,z,hn,h=>by
  have h:l[i]?=some z:=by simpa using h
  rw[List.map_cons,List.nodup_cons] at hn
  have hne:(y.born==z.born)=false:=by
   rw[beq_eq_false_iff_ne]
   intro he
   exact hn.1 (he▸List.mem_map_of_mem (List.mem_of_getElem? h))
  rw[List.find?_cons,hne]
  exact find_born hn.2 h
theorem entry_ok (h:Rep X e S a w){o:Oper}(hd:dstOk X.nt o.dst=true){x:Operand}{K:St->Prop}(ho:o.op=.entry x)(hk:xEntry S o.dst x K):Wv X a w o K:=by
 intro KK Q hKK
 unfold xEntry at hk
 split at hk
 ·rename_i k hx
  split at hk
  ·rename_i g st cl left i hH
   obtain⟨j,es,hj,hsome⟩:=hk.out
   obtain⟨seen,last,hit,_,_,_,hcur⟩:=h.hp k _ hH
   obtain⟨hrv,en,cl',hb,hen,hnd,_,hq1,hq2,hq3⟩:=h.hp j _ hj
   subst hq3
   obtain⟨rfl,b,hsb,hsi⟩:=hcur i rfl
   have hxd:=(h.ev_den hx).1
   simp only[SV.den,C.den] at hxd
   rw[hq1] at hb
   rw[<-hq2,List.getElem?_map] at hsi
   obtain⟨z,hz,hzb⟩:=Option.map_eq_some_iff.1 hsi
   have hel:es[i]?=some (z.key,z.val):=by rw[<-hen,List.getElem?_map,hz];rfl
   obtain⟨x,hxd2,hxl,hK⟩:=hsome z.key z.val hel
   have hf:en.find? (fun y=>y.born==b)=some z:=by
    rw[<-Array.find?_toList,<-hzb]
    exact find_born hnd hz
   have hrun:(execOp a.eval o).run X.P w=.ok (.value (.tuple #[z.key,z.val])) w:=by
    have h1:(getObj (e.ad k)).run X.P w=.ok (.mapIter (some g) last seen last) w:=by simp[getObj,Sem.run,hit]
    have h2:(getObj g).run X.P w=.ok (.map en last) w:=by simp[getObj,Sem.run,hb]
    simp[execOp,ho,hxd,Instr.entry,h1,h2,hsb,hf,Result.andThen]
   have hv1:=(h.hlt j _ hj).2 _ (List.mem_of_getElem? hel)
   have h3:=h.put (d:=o.dst) (v:=.tup [x,.c (.v z.val)]) hd (by
    simp only[SV.lt]
    exact ltAll1_of fun c hc=>by
     simp only[List.mem_cons,List.mem_nil_iff,or_false] at hc
     rcases hc with rfl|rfl
     ·exact hxl _
     ·exact hv1)
   have h4:SV.den e (.tup [x,.c (.v z.val)])=.tuple #[z.key,z.val]:=by simp only[SV.den,List.map_cons,List.map_nil];rw[hxd2];rfl
   rw[h4] at h3
   exact wpo_value hrun (hKK _ _ _ _ h3 hK)
  ·exact hk.elim
 ·exact hk.elim
theorem findNow_int {k:IntKind}{x:Int}:∀(l:List (Int×Value))(en:List MapEntry)(j:Nat),en.map (fun z=>(z.key,z.val))=l.map (fun z=>(Value.int k z.1,z.2))->
 Instr.findNow (.int k) (.int k x) en j=some ((l.findIdx? (fun z=>z.1==x)).bind fun i=>(l[i]?).map fun z=>(j+i,z.2))
 |[],[],j,_=>rfl
 |z::l,y::en,j,h=>by
  simp only[List.map_cons,List.cons.injEq,Prod.mk.injEq] at h
  obtain⟨⟨h1,h2⟩,h3⟩:=h
  have ih:=findNow_int (k:=k) (x:=x) l en (j+1) h3
  unfold Instr.findNow
  rw[h1]
  simp only[Instr.sameNow,if_true]
  by_cases hz:z.1=x
  ·have:(x==z.1)=true:=by simp[hz]
   rw[this]
   simp[List.findIdx?_cons,hz,h2]
  ·have:(x==z.1)=false:=by simp[Ne.symm hz]
   rw[this]
   simp only
   rw[ih]
   have hz':(z.1==x)=false:=by simpa using hz
   rw[List.findIdx?_cons,hz']
   simp only[Bool.false_eq_true,if_false]
   cases hf:l.findIdx? (fun z=>z.1==x) with
   |none=>rfl
   |some i=>simp[Nat.add_assoc,Nat.add_comm 1 i]
 |[],_::_,_,h=>by simp at h
 |_::_,[],_,h=>by simp at h
theorem find_int {P:Program}{kt:TypeId}{k:IntKind}(hu:P.underlying kt=some (.int k))(l:List (Int×Value))(x:Int):FindIs P kt (.int k x) (l.map fun z=>(Value.int k z.1,z.2)) ((l.findIdx? (fun z=>z.1==x)).bind fun i=>(l[i]?).map fun z=>(i,z.2)):=by
 refine⟨fun en hen w=>?_,fun i v hr=>?_⟩
 ·have:=findNow_int (k:=k) (x:=x) l en 0 hen
  simp[Instr.findKey,run_underlying hu,this]
 ·obtain⟨i',hf,hr⟩:=Option.bind_eq_some_iff.1 hr
  obtain⟨z,hz,hr⟩:=Option.map_eq_some_iff.1 hr
  cases hr
  obtain⟨h1,h2,_⟩:=List.findIdx?_eq_some_iff_getElem.1 hf
  have hz':=(List.getElem?_eq_some_iff.1 hz).2
  rw[hz'] at h2
  refine⟨.int k z.1,by rw[List.getElem?_map,hz];rfl,?_⟩
  simp at h2
  simp[Instr.sameBits,h2]
theorem check_simple {P:Program}{kt:TypeId}{d:TypeDesc}(hu:P.underlying kt=some d)(hd:match d with|.int _=>True|.string=>True|.bool=>True|_=>False)(v:Value)(b:Bool)(w:World):(Instr.checkKey b 10000 kt v).run P w=.ok () w:=by
 have h1:∀n,(Instr.checkKey b (n+1) kt v).run P w=.ok () w:=fun n=>by
  cases d<;>first|exact hd.elim|(unfold Instr.checkKey;simp[run_underlying hu])
 exact h1 9999
theorem map_hit {P:Program}{kt:TypeId}{k:IntKind}{K:Option (Nat×Value)->Prop}(l:List (Int×Value))(x:Int)(i:Nat)(v:Value)(hu:P.underlying kt=some (.int k))(hi:l[i]?=some (x,v))(hno:∀j z,j<i->l[j]?=some z->z.1≠x)(hk:K (some (i,v))):
 findP P kt (.int k x) (l.map fun z=>(Value.int k z.1,z.2)) K:=by
 have hf:l.findIdx? (fun z=>z.1==x)=some i:=by
  rw[List.findIdx?_eq_some_iff_getElem]
  obtain⟨h1,h2⟩:=List.getElem?_eq_some_iff.1 hi
  refine⟨h1,by rw[h2];simp,fun j hj=>?_⟩
  have:=hno j _ hj (List.getElem?_eq_getElem (by omega))
  simpa using this
 have:=find_int hu l x
 rw[hf] at this
 simp only[Option.bind_some,hi,Option.map_some] at this
 exact⟨_,fun b w=>check_simple hu trivial _ b w,this,hk⟩
theorem zip_keys (k:IntKind):∀(xs:List Int)(vs:List Value),(xs.map (Value.int k)).zip vs=(xs.zip vs).map fun z=>(Value.int k z.1,z.2)
 |[],_=>rfl
 |_::_,[]=>rfl
 |x::xs,v::vs=>by simp[zip_keys k xs vs]
theorem zip_find {x:Int}:∀{xs:List Int}{vs:List Value},vs.length=xs.length->(xs.zip vs).findIdx? (fun z=>z.1==x)=xs.findIdx? (·==x)
 |[],[],_=>rfl
 |y::xs,v::vs,h=>by
  have ih:=zip_find (x:=x) (xs:=xs) (vs:=vs) (by simpa using h)
  rw[List.zip_cons_cons,List.findIdx?_cons,List.findIdx?_cons,ih]
 |[],_::_,h=>by cases h
 |_::_,[],h=>by cases h
theorem findC_int {P:Program}{kt:TypeId}{k:IntKind}{K:Option Nat->Prop}(xs:List Int)(x:Int)(r:Option Nat)(hr:xs.findIdx? (·==x)=r)(hk:K r)(hu:P.underlying kt=some (.int k):=by rfl):findC P kt (.int k x) (xs.map (Value.int k)) K:=by
 refine⟨r,fun b w=>check_simple hu trivial _ b w,fun vs hl=>?_,hk⟩
 rw[List.length_map] at hl
 have:=find_int hu (xs.zip vs) x
 rw[<-zip_keys,zip_find hl,hr] at this
 refine(congrArg (FindIs P kt (.int k x) _) ?_).mp this
 cases r with
 |none=>rfl
 |some i=>
  have hi:i<xs.length:=(List.findIdx?_eq_some_iff_getElem.1 hr).1
  simp[hi,hl]
theorem map_miss {P:Program}{kt:TypeId}{k:IntKind}{K:Option (Nat×Value)->Prop}(l:List (Int×Value))(x:Int)(hu:P.underlying kt=some (.int k))(hno:∀z∈l,z.1≠x)(hk:K none):findP P kt (.int k x) (l.map fun z=>(Value.int k z.1,z.2)) K:=by
 have hf:l.findIdx? (fun z=>z.1==x)=none:=by
  rw[List.findIdx?_eq_none_iff]
  intro z hz
  simpa using hno z hz
 have:=find_int hu l x
 rw[hf] at this
 exact⟨_,fun b w=>check_simple hu trivial _ b w,this,hk⟩
end
end Go.Proofs.YtgkkpefpbfadoaaGreat.Sy
namespace Go.Proofs.YtgkkpefpbfadoaaGreat.Sy
open Go Go.RowKit
section
variable {X : Cx} {e : Env} {S : St} {a : Act} {w : World}
theorem callsIn_of {r:Option Nat}{P:Program}{f:FuncId}{args:Array Value}{w:World}{R:Ending->World->Prop}(h:Calls P f args w R):CallsIn (fenOf r) 0 P f args w R:=by
 have h:=callsIn_wide (n:=0).2 h
 cases r with
 |none=>exact h
 |some l=>exact h
structure Grown (v0:Value)(w w':World):Prop where
 os:w'.os=w.os
 tape:w'.tape=w.tape
 output:w'.output=w.output
 size:w.heap.size<=w'.heap.size
 block:∀k,k<w.heap.size->¬rfoot v0 k->w'.heap[k]?=w.heap[k]?
def noRow:Value:=.slice none 0 0
theorem noRow_foot (x:Nat):¬rfoot noRow x:=fun⟨p,n,c,hv,_⟩=>by cases hv
theorem grown_of {w w':World}(h:Below w.heap.size w w'):Grown noRow w w':=⟨h.os,h.tape,h.output,h.size,fun k hk _=>h.block k hk⟩
theorem Grown.below {w w':World}(h:Grown noRow w w'):Below w.heap.size w w':=⟨h.os,h.tape,h.output,h.size,fun k hk=>h.block k hk (noRow_foot k)⟩
theorem Rep.grown (h:Rep X e S a w){w':World}{v0:Value}(hb:Grown v0 w w')(hk:∀x,rfoot v0 x->¬Kept e S S.nx x):Rep X e S a w':=by
 have hkeep:∀x,Kept e S S.nx x->w'.heap[x]?=w.heap[x]?:=fun x hx=>hb.block x (h.kept_lt hx) (fun hf=>hk x hf hx)
 refine⟨h.sz,h.fr,h.frlt,fun k b hk=>Blk.holds_keep (h.hp k b hk) (Env.same.refl S.nx e) (h.hlt k b hk).1 (h.hlt k b hk).2 (fun _ h=>h) (fun x hx=>hkeep x (.inr (.inl ⟨k,b,hk,Nat.ne_of_lt (h.hlt k b hk).1,hx⟩))) (fun x hx=>hkeep x (.inl hx)),h.hlt,h.sep,h.ff,
  ⟨hb.os.trans h.bel.os,hb.tape.trans h.bel.tape,hb.output.trans h.bel.output,Nat.le_trans h.bel.size hb.size,fun x hx ho=>(hkeep x (.inl (h.f0 x hx ho))).trans (h.bel.block x hx ho)⟩,
  fun x hx=>Nat.lt_of_lt_of_le (h.fl x hx) hb.size,h.f0,fun w'' hw=>h.ev w'' fun x hx=>(hw x hx).trans (hkeep x (.inl hx)),h.one,h.gl,h.glen,h.mkd,h.mnd,fun D hD=>⟨(hkeep D (.inr (.inr hD))).trans (h.mks D hD).1,(h.mks D hD).2⟩,h.es,h.n0,h.pin,h.rdm⟩
theorem Rep.below (h:Rep X e S a w){w':World}(hb:Below w.heap.size w w'):Rep X e S a w':=h.grown (grown_of hb) fun x hx=>absurd hx (noRow_foot x)
def evs (S:St):List Operand->Option (List SV)
 |[]=>some []
 |x::r=>match S.ev x with
  |some v=>(match evs S r with
   |some l=>some (v::l)
   |none=>none)
  |none=>none
def denAll (e:Env)(l:List SV):Array Value:=(l.map (SV.den e)).toArray
theorem evs_den (h:RepV X e S a w):∀{xs:List Operand}{l:List SV},evs S xs=some l->xs.map a.eval=l.map (SV.den e)/\∀v∈l,v.lt S.nx=true
 |[],l,hl=>by cases hl;exact⟨rfl,fun v hv=>by cases hv⟩
 |x::r,l,hl=>by
  simp only[evs] at hl
  split at hl
  ·rename_i v hv
   split at hl
   ·rename_i l' hl'
    cases hl
    obtain⟨h1,h2⟩:=evs_den h hl'
    obtain⟨h3,h4⟩:=h.ev_den hv
    refine⟨by simp only[List.map_cons,h3,h1],fun u hu=>?_⟩
    rcases List.mem_cons.1 hu with rfl|hu
    ·exact h4
    ·exact h2 u hu
   ·cases hl
  ·cases hl
structure callP (X:Cx)(S:St)(d:Option Nat)(f:Nat)(args:List SV)(K:St->Prop):Prop where
 out:dstOk X.nt d=true->(∀v∈args,v.lt S.nx=true)->((∀as w,(callFunc f as).run X.P w=.ok (.enter f as) w)/\
 ∀e a w,Rep X e S a w->∀KK:Act->World->Prop,(∀e' S' a' w',Rep X e' S' a' w'->K S'->KK a' w')->CallsIn X.fen 0 X.P f (denAll e args) w fun E w'=>∃v,E=.returned v/\KK (a.put d v) w')\/
 ∃sv:SV,sv.lt S.nx=true/\K (S.put d sv)/\∀e a w,Rep X e S a w->(callFunc f (denAll e args)).run X.P w=.ok (.value (sv.den e)) w
structure yieldP (X:Cx)(S:St)(d:Option Nat)(k:Nat)(args:List SV)(K:St->Prop):Prop where
 out:dstOk X.nt d=true->(∀v∈args,v.lt S.nx=true)->∀e a w,Rep X e S a w->∀KK:Act->World->Prop,(∀e' S' a' w',Rep X e' S' a' w'->K S'->KK a' w')->
  ∃f tmps as bd,(Instr.yield (e.ad k) (denAll e args)).run X.P w=.ok (.round (e.ad k) f tmps as bd) w/\RoundIn X.fen 0 X.P (e.ad k) f tmps as bd w fun E w'=>∃v,E=.returned v/\KK (a.put d v) w'
def xCall (S:St)(d:Option Nat)(X:Cx)(fo:Operand)(args:List Operand)(K:St->Prop):Prop:=match S.ev fo with
 |some (.c (.v (.func (.func f) as bs)))=>(match as.toList,bs.toList with
  |[],[]=>(match evs S args with
   |some l=>callP X S d f l K
   |none=>False)
  |[],b::bs=>(match evs S args with
   |some l=>(match(b::bs).all Value.oneCell' with
    |true=>callP X S d f (l++(b::bs).map fun x=>SV.c (C.v x)) K
    |false=>False)
   |none=>False)
  |_,_=>False)
 |some (.c (.row k))=>(match get S.H k with
  |some (.fn f cs)=>(match evs S args with
   |some l=>callP X S d f (l++cs.map SV.c) K
   |none=>False)
  |some (.mv f cs)=>(match evs S args with
   |some l=>callP X S d f (cs.map SV.c++l) K
   |none=>False)
  |some (.lrec _ _ _ _ _ _)=>(match evs S args with
   |some l=>yieldP X S d k l K
   |none=>False)
  |_=>False)
 |_=>False
theorem call_ok (h:Rep X e S a w){o:Oper}(hd:dstOk X.nt o.dst=true){fo:Operand}{args:Array Operand}{ts:Array TypeId}{K:St->Prop}(ho:o.op=.call {callee:=.value fo,args:=args,argTypes:=ts})(hk:xCall S o.dst X fo args.toList K):Wv X a w o K:=by
 intro KK Q hKK
 have enter:∀(f:Nat)(as cs:Array Value)(l:List SV)(L:List SV),evs S args.toList=some l->a.eval fo=.func (.func f) as cs->as++denAll e l++cs=denAll e L->(∀v∈L,v.lt S.nx=true)->callP X S o.dst f L K->o.wpIn X.fen 0 X.P a w KK Q:=by
  intro f as cs l L hl hf hL hlt hk
  have hargs:args.map a.eval=denAll e l:=by
   apply Array.ext'
   simp only[Array.toList_map,denAll]
   exact(evs_den h.v hl).1
  rcases hk.out hd hlt with⟨hcall,hk⟩|⟨sv,hsv,hk,hext⟩
  case inr=>
   have hrun:(execOp a.eval o).run X.P w=.ok (.value (sv.den e)) w:=by
    simp[execOp,ho,resolve,hf,Deferred.ofValue,invoke,hargs,hext e a w h,hL]
   exact wpo_value hrun (hKK _ _ _ _ (h.put hd hsv) hk)
  have hrun:(execOp a.eval o).run X.P w=.ok (.enter f (denAll e L)) w:=by
   simp[execOp,ho,resolve,hf,Deferred.ofValue,invoke,hargs,hcall,hL]
  refine⟨fun f _=>fen_fn _ f,?_⟩
  rw[semAt_of hrun (fun d hd=>by cases hd)]
  refine⟨fun hdp=>fen_depth _ hdp 0,(hk e a w h KK hKK).mono fun E w'⟨v,hE,hv⟩=>by subst hE;exact hv⟩
 unfold xCall at hk
 split at hk
 ·rename_i f as bs hf
  split at hk
  ·rename_i has hbs
   split at hk
   ·rename_i l hl
    have hd:=(h.ev_den hf).1
    simp only[SV.den,C.den] at hd
    have has:as=#[]:=Array.ext' (by simpa using has)
    have hbs:bs=#[]:=Array.ext' (by simpa using hbs)
    subst has;subst hbs
    exact enter f #[] #[] l l hl hd (by simp) (evs_den h.v hl).2 hk
   ·exact hk.elim
  ·rename_i b0 bs0 has hbs
   split at hk
   ·rename_i l hl
    split at hk
    ·rename_i hone
     have hd:=(h.ev_den hf).1
     simp only[SV.den,C.den] at hd
     have has:as=#[]:=Array.ext' (by simpa using has)
     have hbs:bs=(b0::bs0).toArray:=Array.ext' (by simpa using hbs)
     subst has;subst hbs
     refine enter f #[] _ l _ hl hd ?_ (fun v hv=>?_) hk
     ·simp[denAll,Function.comp_def,SV.den,C.den]
     ·rcases List.mem_append.1 hv with hv|hv
      ·exact(evs_den h.v hl).2 v hv
      ·obtain⟨x,hx,rfl⟩:=List.mem_map.1 hv
       exact List.all_eq_true.1 hone x hx
    ·exact hk.elim
   ·exact hk.elim
  ·exact hk.elim
 ·rename_i k hf
  split at hk
  ·rename_i f cs hH
   split at hk
   ·rename_i l hl
    have hd:=(h.ev_den hf).1
    have hfn:e.rv k=.func (.func f) #[] (cs.map (C.den e)).toArray:=h.hp k _ hH
    simp only[SV.den,C.den,hfn] at hd
    refine enter f #[] _ l _ hl hd ?_ (fun v hv=>?_) hk
    ·simp[denAll,Function.comp_def,SV.den]
    ·rcases List.mem_append.1 hv with hv|hv
     ·exact(evs_den h.v hl).2 v hv
     ·obtain⟨c,hc,rfl⟩:=List.mem_map.1 hv
      exact ltAll_mem (h.hlt k _ hH).2 c hc
   ·exact hk.elim
  ·rename_i f cs hH
   split at hk
   ·rename_i l hl
    have hd:=(h.ev_den hf).1
    have hfn:e.rv k=.func (.func f) (cs.map (C.den e)).toArray #[]:=h.hp k _ hH
    simp only[SV.den,C.den,hfn] at hd
    refine enter f _ #[] l _ hl hd ?_ (fun v hv=>?_) hk
    ·simp[denAll,Function.comp_def,SV.den]
    ·rcases List.mem_append.1 hv with hv|hv
     ·obtain⟨c,hc,rfl⟩:=List.mem_map.1 hv
      exact ltAll_mem (h.hlt k _ hH).2 c hc
     ·exact(evs_den h.v hl).2 v hv
   ·exact hk.elim
  ·rename_i hH
   split at hk
   ·rename_i l hl
    have hdf:=(h.ev_den hf).1
    have hfn:=(h.hp k _ hH).1
    simp only[SV.den,C.den,hfn] at hdf
    have hargs:args.map a.eval=denAll e l:=by
     apply Array.ext'
     simp only[Array.toList_map,denAll]
     exact(evs_den h.v hl).1
    obtain⟨f,tmps,as,bd,hy,hr⟩:=hk.out hd (evs_den h.v hl).2 e a w h KK hKK
    have hrun:(execOp a.eval o).run X.P w=.ok (.round (e.ad k) f tmps as bd) w:=by
     simp[execOp,ho,resolve,hdf,Deferred.ofValue,invoke,hargs,hy]
    refine⟨fun f _=>fen_fn _ f,?_⟩
    rw[semAt_of hrun (fun d hd=>by cases hd)]
    refine⟨fun hdp=>fen_depth _ hdp 0,hr.mono fun E w'⟨v,hE,hv⟩=>by subst hE;exact hv⟩
   ·exact hk.elim
  ·exact hk.elim
 ·exact hk.elim
def Ret (v:Value)(w:World)(E:Ending)(w':World):Prop:=E=.returned v/\Below w.heap.size w w'
theorem call_val {d:Option Nat}{f:Nat}{args:List SV}{K:St->Prop}(sv:SV)(hcall:∀as w,(callFunc f as).run X.P w=.ok (.enter f as) w)(hl:sv.lt S.nx=true)
 (hc:∀e a w,Rep X e S a w->Calls X.P f (denAll e args) w (Ret (sv.den e) w))(hk:K (S.put d sv)):callP X S d f args K:=by
 refine⟨fun hd _=>.inl ⟨hcall,fun e a w h KK hKK=>callsIn_of ((hc e a w h).mono fun E w'⟨hE,hb⟩=>⟨_,hE,?_⟩)⟩⟩
 exact hKK _ _ _ _ ((h.below hb).put hd hl) hk
def RetEx {α:Type}(p:α->Prop)(v:α->Value)(w:World)(E:Ending)(w':World):Prop:=∃x,p x/\E=.returned (v x)/\Below w.heap.size w w'
theorem call_ex {α:Type}{d:Option Nat}{f:Nat}{args:List SV}{K:St->Prop}(p:α->Prop)(sv:α->SV)(hcall:∀as w,(callFunc f as).run X.P w=.ok (.enter f as) w)(hl:∀x,p x->(sv x).lt S.nx=true)
 (hc:∀e a w,Rep X e S a w->Calls X.P f (denAll e args) w (RetEx p (fun x=>(sv x).den e) w))(hk:∀x,p x->K (S.put d (sv x))):callP X S d f args K:=by
 refine⟨fun hd _=>.inl ⟨hcall,fun e a w h KK hKK=>callsIn_of ((hc e a w h).mono fun E w'⟨x,hp,hE,hb⟩=>⟨_,hE,?_⟩)⟩⟩
 exact hKK _ _ _ _ ((h.below hb).put hd (hl x hp)) (hk x hp)
structure RD where
 ety:Nat
 esz:Nat
 n:Nat
 xs:List (List Value)
def OwnAll (w:World):List RD->List Value->Prop
 |[],[]=>True
 |r::l,v::vs=>OwnE w r.ety r.esz v r.n r.xs/\(∀x,rfoot v x->∀u∈vs,¬rfoot u x)/\OwnAll w l vs
 |_,_=>False
def RetRows {α:Type}(v0:Value)(p:α->Prop)(rs:α->List RD)(v:α->List Value->Value)(w:World)(E:Ending)(w':World):Prop:=
 ∃x vs,p x/\E=.returned (v x vs)/\Grown v0 w w'/\OwnAll w' (rs x) vs/\∀u∈vs,∀y,rfoot u y->rfoot v0 y\/w.heap.size<=y
def St.rows (S:St):List RD->St
 |[]=>S
 |⟨ety,esz,n,xs⟩::l=>(S.new (.row ety esz n (.vs xs))).rows l
def Env.withRows (e:Env)(k:Nat):List RD->List Value->Env
 |r::l,v::vs=>(e.withRow k v r.esz).withRows (k+1) l vs
 |_,_=>e
theorem new_nx (S:St)(b:Blk):(S.new b).nx=S.nx+1:=rfl
theorem rows_nx:∀(l:List RD)(S:St),(S.rows l).nx=S.nx+l.length
 |[],S=>rfl
 |r::l,S=>by rw[St.rows,rows_nx l,new_nx,List.length_cons];omega
theorem OwnE.els_one {ety esz n:Nat}{v:Value}{xs:List (List Value)}(h:OwnE w ety esz v n xs):∀c∈xs,∀u∈c,u.oneCell'=true:=by
 rcases h.2.2 with⟨A,_,hn⟩|⟨g,cap,_,hb⟩
 ·have:=h.1
  rw[hn] at this
  rw[List.eq_nil_of_length_eq_zero this]
  intro c hc;cases hc
 ·exact fun c hc u hu=>hb.one u (List.mem_flatten.2 ⟨c,hc,hu⟩)
theorem Rep.rows:∀(l:List RD)(vs:List Value){e:Env}{S:St},Rep X e S a w->OwnAll w l vs->(∀u∈vs,∀y,rfoot u y->¬Kept e S S.nx y)->Rep X (e.withRows S.nx l vs) (S.rows l) a w
 |[],[],e,S,h,_,_=>h
 |r::l,v::vs,e,S,h,⟨ho,hsep,hr⟩,hf=>by
  have h1:=h.newRow (w':=w) (ety:=r.ety) (esz:=r.esz) (n:=r.n) (xs:=.vs r.xs) (v:=v) ho.els_one rfl rfl rfl (Nat.le_refl _) (fun _ _=>rfl) ho (hf v (by simp))
  refine Rep.rows l vs h1 hr fun u hu y hy hk=>?_
  rcases hk with hk|⟨k,b,hk,hne,hx⟩|hk
  ·exact hf u (by simp[hu]) y hy (.inl hk)
  ·rcases get_cons hk with⟨e1,e2⟩|⟨hne',hk2⟩
   ·subst e1;subst e2
    have hx:rfoot ((e.withRow S.nx v r.esz).rv S.nx) y:=hx
    rw[Env.withRow_rv] at hx
    exact hsep y hx u hu hy
   ·exact hf u (by simp[hu]) y hy (.inr (.inl ⟨k,b,hk2,Nat.ne_of_lt (h.hlt k b hk2).1,Blk.foot_same (Env.withRow_same e S.nx v r.esz) (h.hlt k b hk2).1 hx⟩))
  ·exact hf u (by simp[hu]) y hy (.inr (.inr hk))
 |[],_::_,_,_,_,h,_=>h.elim
 |_::_,[],_,_,_,h,_=>h.elim
theorem call_rows {α:Type}{d:Option Nat}{f:Nat}{args:List SV}{K:St->Prop}(k:Option Nat)(p:α->Prop)(rs:α->List RD)(sv:α->SV)(hcall:∀as w,(callFunc f as).run X.P w=.ok (.enter f as) w)
 (hk0:∀j,k=some j->∃ety esz n xs,get S.H j=some (.row ety esz n xs))(hl:∀x,p x->(sv x).lt (S.nx+(rs x).length)=true)
 (hc:∀e a w,Rep X e S a w->Calls X.P f (denAll e args) w (RetRows (match k with|some j=>e.rv j|none=>noRow) p rs (fun x vs=>(sv x).den (e.withRows S.nx (rs x) vs)) w))
 (hk:∀x,p x->K (((S.killed k).rows (rs x)).put d (sv x))):callP X S d f args K:=by
 refine⟨fun hd _=>.inl ⟨hcall,fun e a w h KK hKK=>callsIn_of ((hc e a w h).mono fun E w'⟨x,vs,hp,hE,hg,hown,hfr⟩=>⟨_,hE,?_⟩)⟩⟩
 have hR:Rep X e (S.killed k) a w'/\∀u∈vs,∀y,rfoot u y->¬Kept e (S.killed k) (S.killed k).nx y:=by
  cases k with
  |none=>
   exact⟨h.grown hg fun y hy=>absurd hy (noRow_foot y),fun u hu y hy=>by
    rcases hfr u hu y hy with hy|hy
    ·exact absurd hy (noRow_foot y)
    ·exact h.not_kept_new hy⟩
  |some j=>
   obtain⟨ety,esz,n,xs,hH⟩:=hk0 j rfl
   have hkill:=h.kill j (h.hlt j _ hH).1
   have hkept:∀y,Kept e (S.setH j .dead) S.nx y->Kept e S j y:=by
    rintro y (hy|⟨k',b',hk',hne,hy⟩|hy)
    ·exact .inl hy
    ·rcases get_cons hk' with⟨e1,e2⟩|⟨hne',hk2⟩
     ·subst e2;exact hy.elim
     ·exact .inr (.inl ⟨k',b',hk2,Ne.symm hne',hy⟩)
    ·exact .inr (.inr hy)
   have hfoot:∀y,rfoot (e.rv j) y->¬Kept e (S.setH j .dead) S.nx y:=fun y hy hk=>h.not_kept hH (x:=y) hy (hkept y hk)
   exact⟨hkill.grown hg hfoot,fun u hu y hy=>by
    rcases hfr u hu y hy with hy|hy
    ·exact hfoot y hy
    ·exact hkill.not_kept_new hy⟩
 have hnx:=killed_nx S k
 have h2:=Rep.rows (rs x) vs hR.1 hown hR.2
 rw[hnx] at h2
 exact hKK _ _ _ _ (h2.put hd (by rw[rows_nx,hnx];exact hl x hp)) (hk x hp)
def RetMem {α:Type}(p:α->(Nat->Prop)->World->Prop)(v:α->Value)(w:World)(E:Ending)(w':World):Prop:=
 ∃x,E=.returned (v x)/\Below w.heap.size w w'/\p x (fun b=>w.heap.size<=b/\b<w'.heap.size) w'
def St.knows (S:St)(F':Nat->Prop)(E':World->Prop):St:=match S with|⟨fr,H,nx,_,_,g⟩=>⟨fr,H,nx,F',E',g⟩
theorem Rep.learn (h:Rep X e S a w){G:Nat->Prop}{p:(Nat->Prop)->World->Prop}(hG:∀b,G b->b<w.heap.size/\(∀k c,get S.H k=some c->¬c.foot e k b)/\b∉e.G)(hp:p G w)
 (hkeep:∀(G G':Nat->Prop)(w w':World),p G w->(∀b,G b->G' b)->(∀b,G b->w'.heap[b]?=w.heap[b]?)->p G' w'):
 Rep X e (S.knows (fun b=>S.F b\/G b) (fun w=>S.E w/\p (fun b=>S.F b\/G b) w)) a w:=by
 refine{h with hp:=fun k b hk=>Blk.holds_keep (h.hp k b hk) (Env.same.refl S.nx e) (h.hlt k b hk).1 (h.hlt k b hk).2 (fun _ h=>.inl h) (fun _ _=>rfl) (fun _ _=>rfl),ff:=fun k b x hk hx=>?_,fl:=fun x hx=>?_,f0:=fun x hx ho=>.inl (h.f0 x hx ho),ev:=fun w' hw=>⟨h.ev w' fun x hx=>hw x (.inl hx),?_⟩,mks:=fun D hD=>⟨(h.mks D hD).1,?_,(h.mks D hD).2.2⟩}
 ·rintro(hf|hf)
  ·exact h.ff k b x hk hx hf
  ·exact(hG x hf).2.1 k b hk hx
 ·rcases hx with hx|hx
  ·exact h.fl x hx
  ·exact(hG x hx).1
 ·exact hkeep G _ w w' hp (fun b hb=>.inr hb) (fun b hb=>hw b (.inr hb))
 ·rintro(hf|hf)
  ·exact(h.mks D hD).2.1 hf
  ·exact(hG D hf).2.2 hD
theorem call_mem {α:Type}{d:Option Nat}{f:Nat}{args:List SV}{K:St->Prop}(p:α->(Nat->Prop)->World->Prop)(sv:α->SV)(hcall:∀as w,(callFunc f as).run X.P w=.ok (.enter f as) w)
 (hl:∀x,(sv x).lt S.nx=true)(hkeep:∀(x:α)(G G':Nat->Prop)(w w':World),p x G w->(∀b,G b->G' b)->(∀b,G b->w'.heap[b]?=w.heap[b]?)->p x G' w')
 (hc:∀e a w,Rep X e S a w->Calls X.P f (denAll e args) w (RetMem p (fun x=>(sv x).den e) w))
 (hk:∀(x:α)(G:Nat->Prop),K ((S.knows (fun b=>S.F b\/G b) (fun w=>S.E w/\p x (fun b=>S.F b\/G b) w)).put d (sv x))):callP X S d f args K:=by
 refine⟨fun hd _=>.inl ⟨hcall,fun e a w h KK hKK=>callsIn_of ((hc e a w h).mono fun E w'⟨x,hE,hb,hp⟩=>⟨_,hE,?_⟩)⟩⟩
 have hR:=(h.below hb).learn (G:=fun b=>w.heap.size<=b/\b<w'.heap.size) (fun b hG=>⟨hG.2,fun k c hk hf=>by have:=h.foot_lt hk hf;omega,fun hm=>by have:=h.kept_lt (k0:=S.nx) (.inr (.inr hm));omega⟩) hp (hkeep x)
 exact hKK _ _ _ _ (hR.put hd (hl x)) (hk x _)
structure openP (X:Cx)(S:St)(x:Value)(K:St->SV->Prop):Prop where
 out:K S (.c (.v x))\/∃S' v,v.lt S'.nx=true/\(∀e a w,Rep X e S a w->∃e',Rep X e' S' a w/\v.den e'=x)/\K S' v
theorem open_skip {x:Value}{K:St->SV->Prop}(h:K S (.c (.v x))):openP X S x K:=by refine⟨?_⟩;exact .inl h
theorem open_as {x:Value}{K:St->SV->Prop}(S':St)(v:SV)(hv:v.lt S'.nx=true)(hR:∀e a w,Rep X e S a w->∃e',Rep X e' S' a w/\v.den e'=x)(h:K S' v):openP X S x K:=by refine⟨?_⟩;exact .inr ⟨S',v,hv,hR,h⟩
theorem open_ext {x:Value}{K:St->SV->Prop}(esz n:Nat)(xs:List (List Value))(hr:∀e a w,Rep X e S a w->ReadsE S.F w esz x n xs)(h1:∀c∈xs,∀u∈c,u.oneCell'=true)(h:K (S.new (.ext esz n (.vs xs))) (.c (.row S.nx))):openP X S x K:=by
 refine open_as (S.new (.ext esz n (.vs xs))) (.c (.row S.nx)) (show Nat.blt S.nx (S.nx+1)=true from blt_iff.2 (Nat.lt_succ_self _)) (fun e a w hR=>⟨_,hR.newExt (xs:=.vs xs) (v:=x) h1 (hr e a w hR),?_⟩) h
 simp only[SV.den,C.den,Env.withRow_rv]
theorem open_ok (h:Rep X e S a w){d:Option Nat}(hd:dstOk X.nt d=true){x:Value}(hx:x.oneCell'=true){K:St->Prop}(hk:openP X S x fun S' v=>K (S'.put d v)):∃e' S',Rep X e' S' (a.put d x) w/\K S':=by
 replace hk:=hk.out
 rcases hk with hk|⟨S',v,hv,hR,hk⟩
 ·exact⟨e,_,h.put (v:=.c (.v x)) hd hx,hk⟩
 ·obtain⟨e',hR',hden⟩:=hR e a w h
  have hp:=hR'.put hd hv
  rw[hden] at hp
  exact⟨e',_,hp,hk⟩
def sliceTy (X:Cx)(t:Nat):Bool:=match get X.T t with
 |some ti=>sliceTB ti.d
 |none=>false
def putOpen (X:Cx)(S:St)(o:Oper)(K:St->Prop)(v:SV):Prop:=match sliceTy X o.type with
 |true=>(match v with
  |.c (.v x)=>openP X S x fun S' v=>K (S'.put o.dst v)
  |v=>K (S.put o.dst v))
 |false=>K (S.put o.dst v)
theorem Yv.wvOpen (h:Rep X e S a w){o:Oper}(hd:dstOk X.nt o.dst=true){K:St->Prop}(hy:Yv X e S a o (putOpen X S o K)):Wv X a w o K:=by
 intro KK Q hKK
 obtain⟨v,hK,hyv⟩:=hy
 obtain⟨hl,hrun⟩:=hyv w h.v
 refine wpo_value hrun ?_
 have plain:K (S.put o.dst v)->KK (a.put o.dst (v.den e)) w:=fun hK=>hKK _ _ _ _ (h.put hd hl) hK
 unfold putOpen at hK
 split at hK
 ·split at hK
  ·obtain⟨e',S',hR,hK⟩:=open_ok h hd hl hK
   exact hKK _ _ _ _ hR hK
  ·exact plain hK
 ·exact plain hK
def nilConst:Operand->Option Value
 |.const v=>(match isNil v with
  |true=>some v
  |false=>none)
 |_=>none
theorem nilConst_eq {x:Operand}{v:Value}(h:nilConst x=some v):x=.const v:=by
 cases x<;>simp only[nilConst] at h<;>first|(cases h;done)|skip
 split at h
 ·cases h;rfl
 ·cases h
def xop (X:Cx)(o:Oper)(S:St)(K:St->Prop):Prop:=match dstOk X.nt o.dst with
 |false=>False
 |true=>(match o.op with
  |.move x=>evK S x fun v=>K (S.put o.dst v)
  |.assign x=>evK S x fun v=>K (S.put o.dst v)
  |.pick c x y=>xvPick S c x y fun v=>K (S.put o.dst v)
  |.alloc t=>xAlloc X S o.dst t K
  |.box t x=>xBox S o.dst t x K
  |.build t ps=>xvBuild X S t ps.toList fun v=>K (S.put o.dst v)
  |.buildSlice t n ps=>xBuildSlice X S o.dst t n ps.toList K
  |.load t x=>xvLoad X S t x (putOpen X S o K)
  |.store t p x=>xStore X S o.dst t p x K
  |.binOp op t x y _=>(match nilConst y with
   |some z=>xvNil X S op t x z fun v=>K (S.put o.dst v)
   |none=>xvBin X S op t x y fun v=>K (S.put o.dst v))
  |.unOp op _ x=>xvUn S op x fun v=>K (S.put o.dst v)
  |.convert s d x=>xvConv X S s d x fun v=>K (S.put o.dst v)
  |.fieldAddr t x f=>xvFieldAddr X S t x f fun v=>K (S.put o.dst v)
  |.indexAddr t x i=>xvIndexAddr X S t x i fun v=>K (S.put o.dst v)
  |.index t x i=>xvIndex X S t x i (putOpen X S o K)
  |.field t x f=>xvField X S t x f (putOpen X S o K)
  |.slice t x lo hi mx=>xSlice X S o.dst t x lo hi mx K
  |.makeSlice t l c=>xMakeSlice X S o.dst t l c K
  |.makeFunc fn first caps=>xMakeFunc S o.dst fn first.toList caps.toList K
  |.makeMap _ r=>xMakeMap S o.dst r K
  |.lookup t x i ok=>xvLookup X S t x i ok fun v=>K (S.put o.dst v)
  |.mapUpdate t m k x=>xMapUpdate X S t m k x fun S'=>K (S'.put o.dst .un)
  |.insert t m k x=>xMapUpdate X S t m k x fun S'=>K (S'.put o.dst .un)
  |.range t x=>(match mapTB X t with
   |true=>xRange S o.dst x K
   |false=>False)
  |.next x s=>(match s with
   |false=>xNext S o.dst x K
   |true=>False)
  |.entry x=>xEntry S o.dst x K
  |.extract x i=>xvExtract S x i (putOpen X S o K)
  |.nilCheck x=>evK S x fun v=>(match v with
   |.c (.loc _ _)=>K (S.put o.dst v)
   |.c (.ep _ _ _)=>K (S.put o.dst v)
   |_=>False)
  |.call c=>(match c.callee with
   |.value fo=>xCall S o.dst X fo c.args.toList K
   |.builtin b=>(match b with
    |.append=>(match c.args.toList,c.argTypes.toList with
     |[s,x],[t,t']=>(match Nat.beq t t' with
      |true=>xAppend X S o.dst t s x K
      |false=>xAppendZ X S o.dst t t' s x K)
     |_,_=>False)
    |.copy=>(match c.args.toList,c.argTypes.toList with
     |[s,x],[t,_]=>xCopy X S o.dst t s x K
     |_,_=>False)
    |.clear=>(match c.args.toList,c.argTypes.toList with
     |[s],[t]=>xClear X S o.dst t s K
     |_,_=>False)
    |b=>xvBuiltin X S b c.args.toList c.argTypes.toList fun v=>K (S.put o.dst v))
   |_=>False)
  |_=>False)
theorem nilCheck_ok (h:Rep X e S a w){o:Oper}(hd:dstOk X.nt o.dst=true){x:Operand}{K:St->Prop}(ho:o.op=.nilCheck x)(hk:evK S x fun v=>(match v with
 |.c (.loc _ _)=>K (S.put o.dst v)
 |.c (.ep _ _ _)=>K (S.put o.dst v)
 |_=>False)):Wv X a w o K:=by
 intro KK Q hKK
 obtain⟨v,hv,hk⟩:=evK_get hk
 obtain⟨hdv,hl⟩:=h.ev_den hv
 split at hk
 ·refine wpo_value (v:=a.eval x) (w':=w) (by simp only[SV.den,C.den] at hdv;simp[execOp,ho,hdv]) ?_
  rw[hdv];exact hKK _ _ _ _ (h.put hd hl) hk
 ·refine wpo_value (v:=a.eval x) (w':=w) (by simp only[SV.den,C.den] at hdv;simp[execOp,ho,hdv]) ?_
  rw[hdv];exact hKK _ _ _ _ (h.put hd hl) hk
 ·exact hk.elim
theorem xop_ok (hT:TabOk X.P X.T)(h:Rep X e S a w){o:Oper}{K:St->Prop}(hk:xop X o S K):Wv X a w o K:=by
 unfold xop at hk
 split at hk
 ·exact hk.elim
 ·rename_i hd
  split at hk
  ·rename_i x ho;exact Yv.wv h hd (move_ok e a (.inl ho) hk)
  ·rename_i x ho;exact Yv.wv h hd (move_ok e a (.inr ho) hk)
  ·rename_i c x y ho;exact Yv.wv h hd (pick_ok e a ho hk)
  ·rename_i t ho;exact alloc_ok hT h hd ho hk
  ·rename_i t x ho;exact box_ok h hd ho hk
  ·rename_i t ps ho;exact Yv.wv h hd (build_ok hT e a ho hk)
  ·rename_i t n ps ho;exact buildSlice_ok hT h hd ho hk
  ·rename_i t x ho;exact Yv.wvOpen h hd (load_ok hT e a ho hk)
  ·rename_i t p x ho;exact store_ok hT h hd ho hk
  ·rename_i op t x y t' ho
   split at hk
   ·rename_i z hz
    have:=nilConst_eq hz
    subst this
    exact Yv.wv h hd (nil_ok hT e a ho hk)
   ·exact Yv.wv h hd (bin_ok hT e a ho hk)
  ·rename_i op t x ho;exact Yv.wv h hd (un_ok e a ho hk)
  ·rename_i s d x ho;exact Yv.wv h hd (conv_ok hT e a ho hk)
  ·rename_i t x f ho;exact Yv.wv h hd (fieldAddr_ok hT e a ho hk)
  ·rename_i t x i ho;exact Yv.wv h hd (indexAddr_ok hT e a ho hk)
  ·rename_i t x i ho;exact Yv.wvOpen h hd (index_ok hT e a ho hk)
  ·rename_i t x f ho;exact Yv.wvOpen h hd (field_ok hT e a ho hk)
  ·rename_i t x lo hi mx ho;exact slice_ok hT h hd ho hk
  ·rename_i t l c ho;exact makeSlice_ok hT h hd ho hk
  ·rename_i fn first caps ho;exact makeFunc_ok h hd ho hk
  ·rename_i t r ho;exact makeMap_ok h hd ho hk
  ·rename_i t x i ok ho;exact Yv.wv h hd (lookup_ok hT e a ho hk)
  ·rename_i t m k x ho;exact mapUpdate_ok hT h hd (.inl ho) hk
  ·rename_i t m k x ho;exact mapUpdate_ok hT h hd (.inr ho) hk
  ·rename_i t x ho
   split at hk
   ·rename_i hm
    obtain⟨ti,kt,et,h1,h2⟩:=mapTB_get hm
    exact range_ok hT h hd ho h1 h2 hk
   ·exact hk.elim
  ·rename_i x s ho
   split at hk
   ·exact next_ok h hd ho hk
   ·exact hk.elim
  ·rename_i x ho;exact entry_ok h hd ho hk
  ·rename_i x i ho;exact Yv.wvOpen h hd (extract_ok e a ho hk)
  ·rename_i x ho;exact nilCheck_ok h hd ho hk
  ·rename_i c ho
   obtain⟨callee,args,ts⟩:=c
   split at hk
   ·rename_i fo hc
    simp only at hc
    subst hc
    exact call_ok h hd ho hk
   ·rename_i b hc
    simp only at hc
    subst hc
    split at hk
    ·split at hk
     ·rename_i s x t t' h1 h2
      have h3:args=#[s,x]:=Array.ext' (by simpa using h1)
      have h4:ts=#[t,t']:=Array.ext' (by simpa using h2)
      subst h3;subst h4
      split at hk
      ·rename_i htt
       have htt:=Nat.eq_of_beq_eq_true htt
       subst htt
       exact append_ok hT h hd ho hk
      ·exact appendZ_ok hT h hd ho hk
     ·exact hk.elim
    ·split at hk
     ·rename_i s x t t' h1 h2
      have h3:args=#[s,x]:=Array.ext' (by simpa using h1)
      have h4:ts=#[t,t']:=Array.ext' (by simpa using h2)
      subst h3;subst h4
      exact copy_ok hT h hd ho hk
     ·exact hk.elim
    ·split at hk
     ·rename_i s t h1 h2
      have h3:args=#[s]:=Array.ext' (by simpa using h1)
      have h4:ts=#[t]:=Array.ext' (by simpa using h2)
      subst h3;subst h4
      exact clear_ok hT h hd ho hk
     ·exact hk.elim
    ·exact Yv.wv h hd (builtin_ok hT e a ho hk)
   ·exact hk.elim
  ·exact hk.elim
end
end Go.Proofs.YtgkkpefpbfadoaaGreat.Sy
