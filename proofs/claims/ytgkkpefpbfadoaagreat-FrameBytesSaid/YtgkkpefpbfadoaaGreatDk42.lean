/- Frame: a message and bytes as they come in, opened. -/
import Derived.Test.YtgkkpefpbfadoaaGreatDk41
import Derived.Test.YtgkkpefpbfadoaaGreatDk9
import Derived.Test.YtgkkpefpbfadoaaGreatDk17
import Derived.Test.YtgkkpefpbfadoaaGreatDk16
namespace Go.Proofs.YtgkkpefpbfadoaaGreat
open Go Go.RowKit
open Sy (C SV V1 Blk St XD Els)
def At (w:World)(t:TypeId)(c:List Value)(o:Nat):Prop:=Rd Tryz.prog w t ((c.drop o).take (Tryz.prog.cellsOf t))
theorem sub_part {α:Type}(c:List α){o n a m:Nat}(h:Nat.ble (a+m) n=true):(((c.drop o).take n).drop a).take m=(c.drop (o+a)).take m:=by
 have h:=Nat.le_of_ble_eq_true h
 rw[List.drop_take,List.take_take,List.drop_drop,Nat.min_eq_left (by omega)]
theorem At.field {w:World}{t:TypeId}{fs:Array Field}{c:List Value}{o:Nat}(hu:Tryz.prog.underlying t=some (.struct fs))(h:At w t c o)(i:Nat){f:Field}(hf:fs[i]?=some f)(hb:Nat.ble (f.offset+Tryz.prog.cellsOf f.type) (Tryz.prog.cellsOf t)=true:=by kernel_rfl):At w f.type c (o+f.offset):=by
 have:=Rd.field hu h i hf
 rw[sub_part c hb] at this
 exact this
theorem At.array {w:World}{t e:TypeId}{k:Nat}{c:List Value}{o:Nat}(hu:Tryz.prog.underlying t=some (.array k e))(h:At w t c o)(i:Nat)(hi:i<k)(hb:Nat.ble (i*Tryz.prog.cellsOf e+Tryz.prog.cellsOf e) (Tryz.prog.cellsOf t)=true:=by kernel_rfl):At w e c (o+i*Tryz.prog.cellsOf e):=by
 have:=(Rd.array hu h).2 i hi
 rw[sub_part c hb] at this
 exact this
theorem At.of {w:World}{t:TypeId}{fs:Array Field}{c:List Value}(hu:Tryz.prog.underlying t=some (.struct fs))(n:Nat)(h:Rd Tryz.prog w t c)(hn:Tryz.prog.cellsOf t=n:=by kernel_rfl):At w t c 0/\c.length=n:=by
 have hl:=(h.struct hu).1
 refine⟨?_,hl.trans hn⟩
 unfold At
 rw[List.drop_zero,<-hl,List.take_length]
 exact h
theorem At.int {w:World}{t:TypeId}{k:IntKind}{c:List Value}{o:Nat}(hu:Tryz.prog.underlying t=some (.int k))(h:At w t c o)(h1:Tryz.prog.cellsOf t=1:=by kernel_rfl):∃n,c[o]?=some (.int k n)/\(Lit.int k n).wf=true:=by
 obtain⟨n,hn,hw⟩:=Rd.int hu h
 rw[h1] at hn
 exact⟨n,take1 hn,hw⟩
theorem At.bool {w:World}{t:TypeId}{c:List Value}{o:Nat}(hu:Tryz.prog.underlying t=some .bool)(h:At w t c o)(h1:Tryz.prog.cellsOf t=1:=by kernel_rfl):∃n,c[o]?=some (.bool n):=by
 obtain⟨n,hn⟩:=Rd.bool hu h
 rw[h1] at hn
 exact⟨n,take1 hn⟩
theorem At.slice {w:World}{t e:TypeId}{c:List Value}{o:Nat}{α:Type}{enc:α->List Value}{p:α->Prop}(z:Nat)(hu:Tryz.prog.underlying t=some (.slice e))(h:At w t c o)(he:∀c,Rd Tryz.prog w e c->∃x,c=enc x/\p x)(h1:∀x,p x->∀u∈enc x,u.oneCell'=true)(hz:0<z:=by decide)(h2:Tryz.prog.cellsOf t=1:=by kernel_rfl)(h3:Tryz.prog.cellsOf e=z:=by kernel_rfl):
 ∃(v:Value)(l:List α),c[o]?=some v/\XD.ok (fun b=>b<w.heap.size) w ⟨v,z,l.length,l.map enc⟩/\∀x∈l,p x:=by
 obtain⟨v,xs,hv,hr,hx⟩:=Rd.slice hu (by rw[h3];exact hz) h
 obtain⟨l,rfl,hl⟩:=list_of (enc:=enc) (p:=p) fun c hc=>he c (hx c hc)
 rw[h3,List.length_map] at hr
 rw[h2] at hv
 exact⟨v,l,take1 hv,⟨hr,fun c hc u hu=>by
  obtain⟨x,hx,rfl⟩:=List.mem_map.1 hc
  exact h1 x (hl x hx) u hu⟩,hl⟩
theorem dr {α:Type}{c:List α}{n:Nat}{x:α}(h:c[n]?=some x):c.drop n=x::c.drop (n+1):=by
 obtain⟨hn,he⟩:=List.getElem?_eq_some_iff.1 h
 rw[List.drop_eq_getElem_cons hn,he]
theorem cells_of {α:Type}{c l:List α}(h:c.drop 0=l):c=l:=by rw[<-h,List.drop_zero]
theorem open_int {w:World}{c:List Value}(h:Rd Tryz.prog w 3 c):∃x:Int,c=encI x/\True:=by
 obtain⟨x,hx,_⟩:=h.i64 Tryz.underlying3
 exact⟨x,hx,trivial⟩
theorem open_byte {w:World}{c:List Value}(h:Rd Tryz.prog w 5 c):∃x:Int,c=encB x/\0<=x/\x<256:=by
 obtain⟨x,hx,hw⟩:=h.int Tryz.underlying5
 have:=bounds_u8 hw
 exact⟨x,hx,this.1,by omega⟩
theorem open_rec {w:World}{c:List Value}(h:Rd Tryz.prog w 43 c):∃x:Rc,c=encR x/\I64 x.val:=by
 obtain⟨h,hl⟩:=At.of Tryz.underlying43 3 h
 obtain⟨x,e0,_⟩:=(show At w 3 c 0 from h.field Tryz.underlying43 0 rfl).int Tryz.underlying3
 obtain⟨y,e1,_⟩:=(show At w 3 c 1 from h.field Tryz.underlying43 1 rfl).int Tryz.underlying3
 obtain⟨z,e2,hz⟩:=(show At w 2 c 2 from h.field Tryz.underlying43 2 rfl).int Tryz.underlying2
 exact⟨⟨x,y,z⟩,cells_of (by rw[dr e0,dr e1,dr e2,List.drop_of_length_le (by omega)];rfl),bounds_i64 hz⟩
theorem open_plc {w:World}{c:List Value}(h:Rd Tryz.prog w 84 c):∃x:Plc,c=encP x/\True:=by
 obtain⟨h,hl⟩:=At.of Tryz.underlying84 2 h
 obtain⟨x,e0,_⟩:=(show At w 3 c 0 from h.field Tryz.underlying84 0 rfl).int Tryz.underlying3
 obtain⟨y,e1,_⟩:=(show At w 3 c 1 from h.field Tryz.underlying84 1 rfl).int Tryz.underlying3
 exact⟨⟨x,y⟩,cells_of (by rw[dr e0,dr e1,List.drop_of_length_le (by omega)];rfl),trivial⟩
theorem open_tx {w:World}{c:List Value}(h:Rd Tryz.prog w 88 c):∃x:Sn.Tx,c=Sn.encT x/\True:=by
 obtain⟨h,hl⟩:=At.of Tryz.underlying88 3 h
 obtain⟨x,e0,_⟩:=(show At w 3 c 0 from h.field Tryz.underlying88 0 rfl).int Tryz.underlying3
 obtain⟨y,e1,_⟩:=(show At w 3 c 1 from h.field Tryz.underlying88 1 rfl).int Tryz.underlying3
 obtain⟨z,e2,_⟩:=(show At w 3 c 2 from h.field Tryz.underlying88 2 rfl).int Tryz.underlying3
 exact⟨⟨x,y,z⟩,cells_of (by rw[dr e0,dr e1,dr e2,List.drop_of_length_le (by omega)];rfl),trivial⟩
theorem open_kc {w:World}{c:List Value}(h:Rd Tryz.prog w 122 c):∃x:Sn.Kc,c=Sn.encK x/\Sn.InK x:=by
 obtain⟨h,hl⟩:=At.of Tryz.underlying122 4 h
 obtain⟨x,e0,_⟩:=(show At w 3 c 0 from h.field Tryz.underlying122 0 rfl).int Tryz.underlying3
 obtain⟨y,e1,_⟩:=(show At w 3 c 1 from h.field Tryz.underlying122 1 rfl).int Tryz.underlying3
 have g:=(show At w 120 c 2 from h.field Tryz.underlying122 2 rfl)
 obtain⟨z,e2,hz⟩:=(show At w 2 c 2 from g.field Tryz.underlying120 0 rfl).int Tryz.underlying2
 obtain⟨u,e3,hu⟩:=(show At w 2 c 3 from g.field Tryz.underlying120 1 rfl).int Tryz.underlying2
 exact⟨⟨x,y,z,u⟩,cells_of (by rw[dr e0,dr e1,dr e2,dr e3,List.drop_of_length_le (by omega)];rfl),bounds_i64 hz,bounds_i64 hu⟩
theorem open_op {w:World}{c:List Value}(h:Rd Tryz.prog w 65 c):∃x:OpV,c=encOV x/\OOk (fun b=>b<w.heap.size) w x/\I64 x.op.a/\I64 x.op.b:=by
 obtain⟨h,hl⟩:=At.of Tryz.underlying65 5 h
 obtain⟨x,e0,_⟩:=(show At w 3 c 0 from h.field Tryz.underlying65 0 rfl).int Tryz.underlying3
 obtain⟨y,e1,_⟩:=(show At w 3 c 1 from h.field Tryz.underlying65 1 rfl).int Tryz.underlying3
 obtain⟨v,l,e2,hr,_⟩:=(show At w 40 c 2 from h.field Tryz.underlying65 2 rfl).slice 1 Tryz.underlying40 (fun _ h=>open_int h) (fun x _ u hu=>by rw[List.mem_singleton.1 hu];rfl)
 obtain⟨a,e3,ha⟩:=(show At w 2 c 3 from h.field Tryz.underlying65 3 rfl).int Tryz.underlying2
 obtain⟨b,e4,hb⟩:=(show At w 2 c 4 from h.field Tryz.underlying65 4 rfl).int Tryz.underlying2
 exact⟨⟨⟨x,y,l,a,b⟩,v⟩,cells_of (by rw[dr e0,dr e1,dr e2,dr e3,dr e4,List.drop_of_length_le (by omega)];rfl),hr,bounds_i64 ha,bounds_i64 hb⟩
theorem open_inp {w:World}{c:List Value}(h:Rd Tryz.prog w 68 c):∃x:InpV,c=encIV x/\IOk (fun b=>b<w.heap.size) w x/\∀r∈x.inp.recs,I64 r.val:=by
 obtain⟨h,hl⟩:=At.of Tryz.underlying68 2 h
 obtain⟨x,e0,_⟩:=(show At w 3 c 0 from h.field Tryz.underlying68 0 rfl).int Tryz.underlying3
 obtain⟨v,l,e1,hr,hp⟩:=(show At w 66 c 1 from h.field Tryz.underlying68 1 rfl).slice 3 Tryz.underlying66 (fun _ h=>open_rec h) (fun x _ u hu=>by
  simp only[encR,List.mem_cons,List.mem_nil_iff,or_false] at hu
  rcases hu with rfl|rfl|rfl<;>rfl)
 exact⟨⟨⟨x,l⟩,v⟩,cells_of (by rw[dr e0,dr e1,List.drop_of_length_le (by omega)];rfl),hr,hp⟩
theorem open_bytes {w:World}{c:List Value}(h:Rd Tryz.prog w 52 c):∃(v:Value)(l:List Int),c=[v]/\XD.ok (fun b=>b<w.heap.size) w ⟨v,1,l.length,l.map encB⟩/\Sn.bytesOk l:=by
 obtain⟨v,xs,hv,hr,hx⟩:=Rd.slice Tryz.underlying52 (by rw[show Tryz.prog.cellsOf 5=1 by kernel_rfl];decide) h
 obtain⟨l,rfl,hl⟩:=list_of (enc:=encB) (p:=fun b=>0<=b/\b<256) fun c hc=>open_byte (hx c hc)
 rw[show Tryz.prog.cellsOf 5=1 by kernel_rfl,List.length_map] at hr
 exact⟨v,l,hv,⟨hr,fun c hc u hu=>by
  obtain⟨x,_,rfl⟩:=List.mem_map.1 hc
  rw[List.mem_singleton.1 hu];rfl⟩,hl⟩
def offs (a b c d e f g h:Int):Fin 8->Int:=fun i=>match i.val with
 |0=>a
 |1=>b
 |2=>c
 |3=>d
 |4=>e
 |5=>f
 |6=>g
 |_=>h
def vals (a b c d e f g h:Value):Nat->Value
 |0=>a
 |1=>b
 |2=>c
 |3=>d
 |4=>e
 |5=>f
 |6=>g
 |_=>h
structure MT (m:MsgV):Prop where
 w:MW m.msg
 s:I64 m.src
 d:I64 m.dst
set_option maxRecDepth 10000 in
theorem open_msg {w:World}{c:List Value}(h:Rd Tryz.prog w 49 c):∃m:MsgV,c=encM m/\MOk (fun b=>b<w.heap.size) w m/\MT m:=by
 obtain⟨h,hl⟩:=At.of Tryz.underlying49 36 h
 obtain⟨k,e0,_⟩:=(show At w 3 c 0 from h.field Tryz.underlying49 0 rfl).int Tryz.underlying3
 obtain⟨f,e1,hf⟩:=(show At w 3 c 1 from h.field Tryz.underlying49 1 rfl).int Tryz.underlying3
 obtain⟨t,e2,ht⟩:=(show At w 3 c 2 from h.field Tryz.underlying49 2 rfl).int Tryz.underlying3
 obtain⟨ep,e3,_⟩:=(show At w 22 c 3 from h.field Tryz.underlying49 3 rfl).int Tryz.underlying22
 obtain⟨at',e4,_⟩:=(show At w 3 c 4 from h.field Tryz.underlying49 4 rfl).int Tryz.underlying3
 obtain⟨ts,e5,_⟩:=(show At w 3 c 5 from h.field Tryz.underlying49 5 rfl).int Tryz.underlying3
 obtain⟨nm,e6,_⟩:=(show At w 22 c 6 from h.field Tryz.underlying49 6 rfl).int Tryz.underlying22
 have hL:=(show At w 31 c 7 from h.field Tryz.underlying49 7 rfl)
 have hW:=(show At w 28 c 7 from hL.field Tryz.underlying31 0 rfl)
 have hG:=(show At w 25 c 7 from hW.field Tryz.underlying28 0 rfl)
 obtain⟨v0,gl,e7,r0,p0⟩:=(show At w 23 c 7 from hG.field Tryz.underlying25 0 rfl).slice 5 Tryz.underlying23 (fun _ h=>open_op h) (fun x hx u hu=>by
  simp only[encOV,List.mem_cons,List.mem_nil_iff,or_false] at hu
  rcases hu with rfl|rfl|rfl|rfl|rfl<;>first|rfl|exact Sy.ReadsE.one hx.1.1)
 obtain⟨v1,il,e8,r1,p1⟩:=(show At w 26 c 8 from hW.field Tryz.underlying28 1 rfl).slice 2 Tryz.underlying26 (fun _ h=>open_inp h) (fun x hx u hu=>by
  simp only[encIV,List.mem_cons,List.mem_nil_iff,or_false] at hu
  rcases hu with rfl|rfl<;>first|rfl|exact Sy.ReadsE.one hx.1.1)
 obtain⟨v2,pl,e9,r2,_⟩:=(show At w 29 c 9 from hL.field Tryz.underlying31 1 rfl).slice 2 Tryz.underlying29 (fun _ h=>open_plc h) (fun x _ u hu=>by
  simp only[encP,List.mem_cons,List.mem_nil_iff,or_false] at hu
  rcases hu with rfl|rfl<;>rfl)
 have hS:=(show At w 39 c 10 from h.field Tryz.underlying49 8 rfl)
 obtain⟨op,e10,_⟩:=(show At w 3 c 10 from hS.field Tryz.underlying39 0 rfl).int Tryz.underlying3
 obtain⟨ix,e11,_⟩:=(show At w 3 c 11 from hS.field Tryz.underlying39 1 rfl).int Tryz.underlying3
 obtain⟨wd,e12,_⟩:=(show At w 3 c 12 from hS.field Tryz.underlying39 2 rfl).int Tryz.underlying3
 obtain⟨fi,e13⟩:=(show At w 4 c 13 from hS.field Tryz.underlying39 3 rfl).bool Tryz.underlying4
 have hT:=(show At w 34 c 14 from hS.field Tryz.underlying39 4 rfl)
 obtain⟨v3,rw',e14,r3,p3⟩:=(show At w 32 c 14 from hT.field Tryz.underlying34 0 rfl).slice 4 Tryz.underlying32 (fun _ h=>open_kc h) (fun x _ u hu=>by
  simp only[Sn.encK,List.mem_cons,List.mem_nil_iff,or_false] at hu
  rcases hu with rfl|rfl|rfl|rfl<;>rfl)
 have hO:=(show At w 36 c 15 from hS.field Tryz.underlying39 5 rfl)
 obtain⟨o0,e15,_⟩:=(show At w 3 c 15 from hO.array Tryz.underlying36 0 (by decide)).int Tryz.underlying3
 obtain⟨o1,e16,_⟩:=(show At w 3 c 16 from hO.array Tryz.underlying36 1 (by decide)).int Tryz.underlying3
 obtain⟨o2,e17,_⟩:=(show At w 3 c 17 from hO.array Tryz.underlying36 2 (by decide)).int Tryz.underlying3
 obtain⟨o3,e18,_⟩:=(show At w 3 c 18 from hO.array Tryz.underlying36 3 (by decide)).int Tryz.underlying3
 obtain⟨o4,e19,_⟩:=(show At w 3 c 19 from hO.array Tryz.underlying36 4 (by decide)).int Tryz.underlying3
 obtain⟨o5,e20,_⟩:=(show At w 3 c 20 from hO.array Tryz.underlying36 5 (by decide)).int Tryz.underlying3
 obtain⟨o6,e21,_⟩:=(show At w 3 c 21 from hO.array Tryz.underlying36 6 (by decide)).int Tryz.underlying3
 obtain⟨o7,e22,_⟩:=(show At w 3 c 22 from hO.array Tryz.underlying36 7 (by decide)).int Tryz.underlying3
 obtain⟨v4,tx,e23,r4,_⟩:=(show At w 37 c 23 from hS.field Tryz.underlying39 6 rfl).slice 3 Tryz.underlying37 (fun _ h=>open_tx h) (fun x _ u hu=>by
  simp only[Sn.encT,List.mem_cons,List.mem_nil_iff,or_false] at hu
  rcases hu with rfl|rfl|rfl<;>rfl)
 obtain⟨v5,nl,e24,r5,_⟩:=(show At w 37 c 24 from h.field Tryz.underlying49 9 rfl).slice 3 Tryz.underlying37 (fun _ h=>open_tx h) (fun x _ u hu=>by
  simp only[Sn.encT,List.mem_cons,List.mem_nil_iff,or_false] at hu
  rcases hu with rfl|rfl|rfl<;>rfl)
 obtain⟨v6,ul,e25,r6,_⟩:=(show At w 40 c 25 from h.field Tryz.underlying49 10 rfl).slice 1 Tryz.underlying40 (fun _ h=>open_int h) (fun x _ u hu=>by rw[List.mem_singleton.1 hu];rfl)
 obtain⟨v7,dl,e26,r7,_⟩:=(show At w 40 c 26 from h.field Tryz.underlying49 11 rfl).slice 1 Tryz.underlying40 (fun _ h=>open_int h) (fun x _ u hu=>by rw[List.mem_singleton.1 hu];rfl)
 have hP:=(show At w 47 c 27 from h.field Tryz.underlying49 12 rfl)
 obtain⟨pk,e27,_⟩:=(show At w 3 c 27 from hP.field Tryz.underlying47 0 rfl).int Tryz.underlying3
 obtain⟨ps,e28,_⟩:=(show At w 41 c 28 from hP.field Tryz.underlying47 1 rfl).int Tryz.underlying41
 obtain⟨pq,e29,_⟩:=(show At w 22 c 29 from hP.field Tryz.underlying47 2 rfl).int Tryz.underlying22
 obtain⟨pm,e30,hm⟩:=(show At w 22 c 30 from hP.field Tryz.underlying47 3 rfl).int Tryz.underlying22
 have hE:=(show At w 45 c 31 from hP.field Tryz.underlying47 4 rfl)
 obtain⟨ek,e31,_⟩:=(show At w 3 c 31 from hE.field Tryz.underlying45 0 rfl).int Tryz.underlying3
 have hR:=(show At w 43 c 32 from hE.field Tryz.underlying45 1 rfl)
 obtain⟨rs,e32,_⟩:=(show At w 3 c 32 from hR.field Tryz.underlying43 0 rfl).int Tryz.underlying3
 obtain⟨rk,e33,_⟩:=(show At w 3 c 33 from hR.field Tryz.underlying43 1 rfl).int Tryz.underlying3
 obtain⟨rv,e34,hv⟩:=(show At w 2 c 34 from hR.field Tryz.underlying43 2 rfl).int Tryz.underlying2
 obtain⟨en,e35,_⟩:=(show At w 22 c 35 from hE.field Tryz.underlying45 2 rfl).int Tryz.underlying22
 refine⟨⟨k,f,t,ep,at',ts,nm,gl,il,pl,⟨op,ix,wd,fi,rw',offs o0 o1 o2 o3 o4 o5 o6 o7,tx⟩,nl,ul,dl,⟨pk,ps,pq,pm,⟨ek,⟨rs,rk,rv⟩,en⟩⟩,vals v0 v1 v2 v3 v4 v5 v6 v7⟩,cells_of ?_,⟨⟨r0,fun o ho=>(p0 o ho).1⟩,r1,fun x hx=>(p1 x hx).1,r2,⟨r3,r4⟩,r5,r6,r7⟩,⟨⟨fun o ho=>?_,fun x hx=>?_,p3,bounds_i64 hv,(bounds_u64 hm).1⟩,bounds_i64 hf,bounds_i64 ht⟩⟩
 ·rw[dr e0,dr e1,dr e2,dr e3,dr e4,dr e5,dr e6,dr e7,dr e8,dr e9,dr e10,dr e11,dr e12,dr e13,dr e14,dr e15,dr e16,dr e17,dr e18,dr e19,dr e20,dr e21,dr e22,dr e23,dr e24,dr e25,dr e26,dr e27,dr e28,dr e29,dr e30,dr e31,dr e32,dr e33,dr e34,dr e35,List.drop_of_length_le (by omega)]
  rfl
 ·obtain⟨y,hy,rfl⟩:=List.mem_map.1 ho
  exact(p0 y hy).2
 ·obtain⟨y,hy,rfl⟩:=List.mem_map.1 hx
  exact(p1 y hy).2
theorem agg_msg {cs:Array Value}{m:MsgV}(h:cs.toList=encM m):cs=(encM m).toArray:=by rw[<-Array.toArray_toList (xs:=cs),h]
end Go.Proofs.YtgkkpefpbfadoaaGreat
namespace Go.Proofs.YtgkkpefpbfadoaaGreat
open Go Go.RowKit
open Sy (C SV V1 Blk St XD Els)
set_option maxRecDepth 10000
theorem rc_ext {x y:Rc}(h1:x.src=y.src)(h2:x.key=y.key)(h3:x.val=y.val):x=y:=by cases x;cases y;simp_all
theorem plc_ext {x y:Plc}(h1:x.task=y.task)(h2:x.wkr=y.wkr):x=y:=by cases x;cases y;simp_all
set_option maxHeartbeats 2000000 in
theorem sameB_any (u t:Value)(a b:List Int)(w:World)(hu:XD.ok (fun b=>b<w.heap.size) w ⟨u,1,a.length,a.map encB⟩)(ht:XD.ok (fun b=>b<w.heap.size) w ⟨t,1,b.length,b.map encB⟩):
 Calls Tryz.prog 11 #[u,t] w (Sy.Ret (.bool (decide (a=b))) w):=by
 have hl1:=ok_len hu
 have hl2:=ok_len ht
 refine Sy.calls_of Sy.lv11 Sy.tab_ok Tryz.func11 rfl _ Tryz.ntmps11 [⟨u,1,a.length,a.map encB⟩,⟨t,1,b.length,b.map encB⟩] [.c (.row 0),.c (.row 1)] rfl rfl rfl ⟨hu,ht,trivial⟩ ?_
 by_cases hlen:a.length=b.length
 ·refine V (Y1 fun hh=>?_)
  refine Sy.loop_inv Sy.tab_ok (fun n:Nat=>[(5,.c (.v (.int .i64 n)))]) (fun _=>[]) (fun n=>n<=a.length/\a.take n=b.take n) (fun n=>a.length-n) 0 ⟨Nat.zero_le _,rfl⟩ ?_ (fun n hn=>?_)
  ·exact Vs0
  ·obtain⟨hn,ht⟩:=hn
   by_cases hlt:n<a.length
   ·have hlb:n<b.length:=by omega
    have ga:=List.getElem?_eq_getElem hlt
    have gb:=List.getElem?_eq_getElem hlb
    have sa:a.take (n+1)=a.take n++[a[n]]:=List.take_succ_eq_append_getElem hlt
    have sb:b.take (n+1)=b.take n++[b[n]]:=List.take_succ_eq_append_getElem hlb
    generalize a[n]=x at *
    generalize b[n]=y at *
    refine V (Y1 fun hh=>?_)
    refine Sy.draw_go [] (by kernel_rfl) ?_
    intro e0
    conv=>whnf
    refine zt 0 rfl ?_
    conv=>whnf
    refine zt 1 rfl ?_
    conv=>whnf
    refine zt 2 rfl (V ?_)
    refine zt 3 rfl ?_
    conv=>whnf
    refine Sy.el_map x ga ?_
    conv=>whnf
    refine zt 4 rfl ?_
    conv=>whnf
    refine zt 5 rfl ?_
    conv=>whnf
    refine zt 6 rfl (V ?_)
    refine zt 7 rfl ?_
    conv=>whnf
    refine Sy.el_map y gb ?_
    conv=>whnf
    refine zt 8 rfl (V ?_)
    refine zw ?_
    skip
    all_goals
     by_cases he:x=y
     ·have hxy:x=y:=he
      refine V ?_
      refine⟨n+1,⟨by omega,by rw[sa,sb,ht,hxy]⟩,by omega,?_⟩
      exact Vs0
     ·rw[decide_eq_false (fun h=>by
       subst h
       rw[ga] at gb
       cases gb
       exact he rfl)]
      exact V0
      all_goals(exfalso;omega)
   ·have e:n=a.length:=by omega
    subst e
    rw[List.take_length,hlen,List.take_length] at ht
    rw[decide_eq_true ht]
    exact V0
    all_goals done
 ·rw[decide_eq_false (fun h=>hlen (by rw[h]))]
  exact V0
  all_goals done
set_option maxHeartbeats 2000000 in
theorem sameI_any (u t:Value)(a b:List Int)(w:World)(hu:XD.ok (fun b=>b<w.heap.size) w ⟨u,1,a.length,a.map encI⟩)(ht:XD.ok (fun b=>b<w.heap.size) w ⟨t,1,b.length,b.map encI⟩):
 Calls Tryz.prog 52 #[u,t] w (Sy.Ret (.bool (decide (a=b))) w):=by
 have hl1:=ok_len hu
 have hl2:=ok_len ht
 refine Sy.calls_of Sy.lv52 Sy.tab_ok Tryz.func52 rfl _ Tryz.ntmps52 [⟨u,1,a.length,a.map encI⟩,⟨t,1,b.length,b.map encI⟩] [.c (.row 0),.c (.row 1)] rfl rfl rfl ⟨hu,ht,trivial⟩ ?_
 by_cases hlen:a.length=b.length
 ·refine V (Y1 fun hh=>?_)
  refine Sy.loop_inv Sy.tab_ok (fun n:Nat=>[(5,.c (.v (.int .i64 n)))]) (fun _=>[]) (fun n=>n<=a.length/\a.take n=b.take n) (fun n=>a.length-n) 0 ⟨Nat.zero_le _,rfl⟩ ?_ (fun n hn=>?_)
  ·exact Vs0
  ·obtain⟨hn,ht⟩:=hn
   by_cases hlt:n<a.length
   ·have hlb:n<b.length:=by omega
    have ga:=List.getElem?_eq_getElem hlt
    have gb:=List.getElem?_eq_getElem hlb
    have sa:a.take (n+1)=a.take n++[a[n]]:=List.take_succ_eq_append_getElem hlt
    have sb:b.take (n+1)=b.take n++[b[n]]:=List.take_succ_eq_append_getElem hlb
    generalize a[n]=x at *
    generalize b[n]=y at *
    refine V (Y1 fun hh=>?_)
    refine Sy.draw_go [] (by kernel_rfl) ?_
    intro e0
    conv=>whnf
    refine zt 0 rfl ?_
    conv=>whnf
    refine zt 1 rfl ?_
    conv=>whnf
    refine zt 2 rfl (V ?_)
    refine zt 3 rfl ?_
    conv=>whnf
    refine Sy.el_map x ga ?_
    conv=>whnf
    refine zt 4 rfl ?_
    conv=>whnf
    refine zt 5 rfl ?_
    conv=>whnf
    refine zt 6 rfl (V ?_)
    refine zt 7 rfl ?_
    conv=>whnf
    refine Sy.el_map y gb ?_
    conv=>whnf
    refine zt 8 rfl (V ?_)
    refine zw ?_
    skip
    all_goals
     by_cases he:x=y
     ·have hxy:x=y:=he
      refine V ?_
      refine⟨n+1,⟨by omega,by rw[sa,sb,ht,hxy]⟩,by omega,?_⟩
      exact Vs0
     ·rw[decide_eq_false (fun h=>by
       subst h
       rw[ga] at gb
       cases gb
       exact he rfl)]
      exact V0
      all_goals(exfalso;omega)
   ·have e:n=a.length:=by omega
    subst e
    rw[List.take_length,hlen,List.take_length] at ht
    rw[decide_eq_true ht]
    exact V0
    all_goals done
 ·rw[decide_eq_false (fun h=>hlen (by rw[h]))]
  exact V0
  all_goals done
set_option maxHeartbeats 2000000 in
theorem sameP_any (u t:Value)(a b:List Plc)(w:World)(hu:XD.ok (fun b=>b<w.heap.size) w ⟨u,2,a.length,a.map encP⟩)(ht:XD.ok (fun b=>b<w.heap.size) w ⟨t,2,b.length,b.map encP⟩):
 Calls Tryz.prog 49 #[u,t] w (Sy.Ret (.bool (decide (a=b))) w):=by
 have hl1:=ok_len hu
 have hl2:=ok_len ht
 refine Sy.calls_of Sy.lv49 Sy.tab_ok Tryz.func49 rfl _ Tryz.ntmps49 [⟨u,2,a.length,a.map encP⟩,⟨t,2,b.length,b.map encP⟩] [.c (.row 0),.c (.row 1)] rfl rfl rfl ⟨hu,ht,trivial⟩ ?_
 by_cases hlen:a.length=b.length
 ·refine V (Y1 fun hh=>?_)
  refine Sy.loop_inv Sy.tab_ok (fun n:Nat=>[(5,.c (.v (.int .i64 n)))]) (fun _=>[]) (fun n=>n<=a.length/\a.take n=b.take n) (fun n=>a.length-n) 0 ⟨Nat.zero_le _,rfl⟩ ?_ (fun n hn=>?_)
  ·exact Vs0
  ·obtain⟨hn,ht⟩:=hn
   by_cases hlt:n<a.length
   ·have hlb:n<b.length:=by omega
    have ga:=List.getElem?_eq_getElem hlt
    have gb:=List.getElem?_eq_getElem hlb
    have sa:a.take (n+1)=a.take n++[a[n]]:=List.take_succ_eq_append_getElem hlt
    have sb:b.take (n+1)=b.take n++[b[n]]:=List.take_succ_eq_append_getElem hlb
    generalize a[n]=x at *
    generalize b[n]=y at *
    refine V (Y1 fun hh=>?_)
    refine Sy.draw_go [] (by kernel_rfl) ?_
    intro e0
    conv=>whnf
    refine zt 0 rfl ?_
    conv=>whnf
    refine zt 1 rfl ?_
    conv=>whnf
    refine zt 2 rfl (V ?_)
    refine zt 3 rfl ?_
    conv=>whnf
    refine Sy.el_map x ga ?_
    conv=>whnf
    refine zt 4 rfl ?_
    conv=>whnf
    refine zt 5 rfl ?_
    conv=>whnf
    refine zt 6 rfl (V ?_)
    refine zt 7 rfl ?_
    conv=>whnf
    refine Sy.el_map y gb ?_
    conv=>whnf
    refine zt 8 rfl (V ?_)
    refine zw ?_
    skip
    all_goals
     by_cases he:x.task=y.task/\x.wkr=y.wkr
     ·obtain⟨e0,e1⟩:=he
      have hxy:x=y:=plc_ext e0 e1
      refine V ?_
      refine⟨n+1,⟨by omega,by rw[sa,sb,ht,hxy]⟩,by omega,?_⟩
      exact Vs0
     ·rw[decide_eq_false (fun h=>by
       subst h
       rw[ga] at gb
       cases gb
       exact he ⟨rfl,rfl⟩)]
      exact V0
      all_goals(exfalso;omega)
   ·have e:n=a.length:=by omega
    subst e
    rw[List.take_length,hlen,List.take_length] at ht
    rw[decide_eq_true ht]
    exact V0
    all_goals done
 ·rw[decide_eq_false (fun h=>hlen (by rw[h]))]
  exact V0
  all_goals done
set_option maxHeartbeats 2000000 in
theorem sameR_any (u t:Value)(a b:List Rc)(w:World)(hu:XD.ok (fun b=>b<w.heap.size) w ⟨u,3,a.length,a.map encR⟩)(ht:XD.ok (fun b=>b<w.heap.size) w ⟨t,3,b.length,b.map encR⟩):
 Calls Tryz.prog 94 #[u,t] w (Sy.Ret (.bool (decide (a=b))) w):=by
 have hl1:=ok_len hu
 have hl2:=ok_len ht
 refine Sy.calls_of Sy.lv94 Sy.tab_ok Tryz.func94 rfl _ Tryz.ntmps94 [⟨u,3,a.length,a.map encR⟩,⟨t,3,b.length,b.map encR⟩] [.c (.row 0),.c (.row 1)] rfl rfl rfl ⟨hu,ht,trivial⟩ ?_
 by_cases hlen:a.length=b.length
 ·refine V (Y1 fun hh=>?_)
  refine Sy.loop_inv Sy.tab_ok (fun n:Nat=>[(5,.c (.v (.int .i64 n)))]) (fun _=>[]) (fun n=>n<=a.length/\a.take n=b.take n) (fun n=>a.length-n) 0 ⟨Nat.zero_le _,rfl⟩ ?_ (fun n hn=>?_)
  ·exact Vs0
  ·obtain⟨hn,ht⟩:=hn
   by_cases hlt:n<a.length
   ·have hlb:n<b.length:=by omega
    have ga:=List.getElem?_eq_getElem hlt
    have gb:=List.getElem?_eq_getElem hlb
    have sa:a.take (n+1)=a.take n++[a[n]]:=List.take_succ_eq_append_getElem hlt
    have sb:b.take (n+1)=b.take n++[b[n]]:=List.take_succ_eq_append_getElem hlb
    generalize a[n]=x at *
    generalize b[n]=y at *
    refine V (Y1 fun hh=>?_)
    refine Sy.draw_go [] (by kernel_rfl) ?_
    intro e0
    conv=>whnf
    refine zt 0 rfl ?_
    conv=>whnf
    refine zt 1 rfl ?_
    conv=>whnf
    refine zt 2 rfl (V ?_)
    refine zt 3 rfl ?_
    conv=>whnf
    refine Sy.el_map x ga ?_
    conv=>whnf
    refine zt 4 rfl ?_
    conv=>whnf
    refine zt 5 rfl ?_
    conv=>whnf
    refine zt 6 rfl (V ?_)
    refine zt 7 rfl ?_
    conv=>whnf
    refine Sy.el_map y gb ?_
    conv=>whnf
    refine zt 8 rfl (V ?_)
    refine zw ?_
    skip
    all_goals
     by_cases he:x.src=y.src/\x.key=y.key/\x.val=y.val
     ·obtain⟨e0,e1,e2⟩:=he
      have hxy:x=y:=rc_ext e0 e1 e2
      refine V ?_
      refine⟨n+1,⟨by omega,by rw[sa,sb,ht,hxy]⟩,by omega,?_⟩
      exact Vs0
     ·rw[decide_eq_false (fun h=>by
       subst h
       rw[ga] at gb
       cases gb
       exact he ⟨rfl,rfl,rfl⟩)]
      exact V0
      all_goals(exfalso;omega)
   ·have e:n=a.length:=by omega
    subst e
    rw[List.take_length,hlen,List.take_length] at ht
    rw[decide_eq_true ht]
    exact V0
    all_goals done
 ·rw[decide_eq_false (fun h=>hlen (by rw[h]))]
  exact V0
  all_goals done
end Go.Proofs.YtgkkpefpbfadoaaGreat
