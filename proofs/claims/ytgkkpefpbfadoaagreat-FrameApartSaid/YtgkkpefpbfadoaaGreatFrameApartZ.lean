/- 'FrameApart': whatever two messages come in, they have the same bytes just where they are the same; what came in reads as it did. No conditions. -/
import Derived.Test.YtgkkpefpbfadoaaGreatAk54
import Derived.Test.YtgkkpefpbfadoaaGreatRows
import Derived.Test.YtgkkpefpbfadoaaGreatChecked
import Derived.WalkKit
import Derived.ProofKit
import Derived.OpenShut
import Derived.Below
import Derived.ReadAgain
import Derived.ChangeSame
import Derived.Lib.SmallJoins
namespace Go.Proofs.YtgkkpefpbfadoaaGreat
open Go Go.RowKit
open Sy (C SV V1 Blk St XD Els)
def At (w : World) (t : TypeId) (c : List Value) (o : Nat) : Prop := Rd Tryz.prog w t ((c.drop o).take (Tryz.prog.cellsOf t))
theorem sub_part {α : Type} (c : List α) {o n a m : Nat} (h : Nat.ble (a + m) n = true) : (((c.drop o).take n).drop a).take m = (c.drop (o + a)).take m := by
 have h := Nat.le_of_ble_eq_true h
 rw [List.drop_take, List.take_take, List.drop_drop, Nat.min_eq_left (by omega)]
theorem At.field {w : World} {t : TypeId} {fs : Array Field} {c : List Value} {o : Nat} (hu : Tryz.prog.underlying t = some (.struct fs)) (h : At w t c o) (i : Nat) {f : Field} (hf : fs[i]? = some f) (hb : Nat.ble (f.offset + Tryz.prog.cellsOf f.type) (Tryz.prog.cellsOf t) = true := by kernel_rfl) : At w f.type c (o + f.offset) := by
 have := Rd.field hu h i hf
 rw [sub_part c hb] at this
 exact this
theorem At.array {w : World} {t e : TypeId} {k : Nat} {c : List Value} {o : Nat} (hu : Tryz.prog.underlying t = some (.array k e)) (h : At w t c o) (i : Nat) (hi : i < k) (hb : Nat.ble (i * Tryz.prog.cellsOf e + Tryz.prog.cellsOf e) (Tryz.prog.cellsOf t) = true := by kernel_rfl) : At w e c (o + i * Tryz.prog.cellsOf e) := by
 have := (Rd.array hu h).2 i hi
 rw [sub_part c hb] at this
 exact this
theorem At.of {w : World} {t : TypeId} {fs : Array Field} {c : List Value} (hu : Tryz.prog.underlying t = some (.struct fs)) (n : Nat) (h : Rd Tryz.prog w t c) (hn : Tryz.prog.cellsOf t = n := by kernel_rfl) : At w t c 0 ∧ c.length = n := by
 have hl := (h.struct hu).1
 refine ⟨?_, hl.trans hn⟩
 unfold At
 rw [List.drop_zero, ← hl, List.take_length]
 exact h
theorem At.int {w : World} {t : TypeId} {k : IntKind} {c : List Value} {o : Nat} (hu : Tryz.prog.underlying t = some (.int k)) (h : At w t c o) (h1 : Tryz.prog.cellsOf t = 1 := by kernel_rfl) : ∃ n, c[o]? = some (.int k n) ∧ (Lit.int k n).wf = true := by
 obtain ⟨n, hn, hw⟩ := Rd.int hu h
 rw [h1] at hn
 exact ⟨n, take1 hn, hw⟩
theorem At.bool {w : World} {t : TypeId} {c : List Value} {o : Nat} (hu : Tryz.prog.underlying t = some .bool) (h : At w t c o) (h1 : Tryz.prog.cellsOf t = 1 := by kernel_rfl) : ∃ n, c[o]? = some (.bool n) := by
 obtain ⟨n, hn⟩ := Rd.bool hu h
 rw [h1] at hn
 exact ⟨n, take1 hn⟩
theorem At.slice {w : World} {t e : TypeId} {c : List Value} {o : Nat} {α : Type} {enc : α → List Value} {p : α → Prop} (z : Nat) (hu : Tryz.prog.underlying t = some (.slice e)) (h : At w t c o) (he : ∀ c, Rd Tryz.prog w e c → ∃ x, c = enc x ∧ p x) (h1 : ∀ x, p x → ∀ u ∈ enc x, u.oneCell' = true) (hz : 0 < z := by decide) (h2 : Tryz.prog.cellsOf t = 1 := by kernel_rfl) (h3 : Tryz.prog.cellsOf e = z := by kernel_rfl) :
  ∃ (v : Value) (l : List α), c[o]? = some v ∧ XD.ok (fun b => b < w.heap.size) w ⟨v, z, l.length, l.map enc⟩ ∧ ∀ x ∈ l, p x := by
 obtain ⟨v, xs, hv, hr, hx⟩ := Rd.slice hu (by rw [h3]; exact hz) h
 obtain ⟨l, rfl, hl⟩ := list_of (enc := enc) (p := p) fun c hc => he c (hx c hc)
 rw [h3, List.length_map] at hr
 rw [h2] at hv
 exact ⟨v, l, take1 hv, ⟨hr, fun c hc u hu => by
  obtain ⟨x, hx, rfl⟩ := List.mem_map.1 hc
  exact h1 x (hl x hx) u hu⟩, hl⟩
theorem dr {α : Type} {c : List α} {n : Nat} {x : α} (h : c[n]? = some x) : c.drop n = x :: c.drop (n + 1) := by
 obtain ⟨hn, he⟩ := List.getElem?_eq_some_iff.1 h
 rw [List.drop_eq_getElem_cons hn, he]
theorem cells_of {α : Type} {c l : List α} (h : c.drop 0 = l) : c = l := by rw [← h, List.drop_zero]
theorem open_int {w : World} {c : List Value} (h : Rd Tryz.prog w 3 c) : ∃ x : Int, c = encI x ∧ True := by
 obtain ⟨x, hx, _⟩ := h.i64 Tryz.underlying3
 exact ⟨x, hx, trivial⟩
theorem open_rec {w : World} {c : List Value} (h : Rd Tryz.prog w 43 c) : ∃ x : Rc, c = encR x ∧ I64 x.val := by
 obtain ⟨h, hl⟩ := At.of Tryz.underlying43 3 h
 obtain ⟨x, e0, _⟩ := (show At w 3 c 0 from h.field Tryz.underlying43 0 rfl).int Tryz.underlying3
 obtain ⟨y, e1, _⟩ := (show At w 3 c 1 from h.field Tryz.underlying43 1 rfl).int Tryz.underlying3
 obtain ⟨z, e2, hz⟩ := (show At w 2 c 2 from h.field Tryz.underlying43 2 rfl).int Tryz.underlying2
 exact ⟨⟨x, y, z⟩, cells_of (by rw [dr e0, dr e1, dr e2, List.drop_of_length_le (by omega)]; rfl), bounds_i64 hz⟩
theorem open_plc {w : World} {c : List Value} (h : Rd Tryz.prog w 84 c) : ∃ x : Plc, c = encP x ∧ True := by
 obtain ⟨h, hl⟩ := At.of Tryz.underlying84 2 h
 obtain ⟨x, e0, _⟩ := (show At w 3 c 0 from h.field Tryz.underlying84 0 rfl).int Tryz.underlying3
 obtain ⟨y, e1, _⟩ := (show At w 3 c 1 from h.field Tryz.underlying84 1 rfl).int Tryz.underlying3
 exact ⟨⟨x, y⟩, cells_of (by rw [dr e0, dr e1, List.drop_of_length_le (by omega)]; rfl), trivial⟩
theorem open_tx {w : World} {c : List Value} (h : Rd Tryz.prog w 88 c) : ∃ x : Sn.Tx, c = Sn.encT x ∧ True := by
 obtain ⟨h, hl⟩ := At.of Tryz.underlying88 3 h
 obtain ⟨x, e0, _⟩ := (show At w 3 c 0 from h.field Tryz.underlying88 0 rfl).int Tryz.underlying3
 obtain ⟨y, e1, _⟩ := (show At w 3 c 1 from h.field Tryz.underlying88 1 rfl).int Tryz.underlying3
 obtain ⟨z, e2, _⟩ := (show At w 3 c 2 from h.field Tryz.underlying88 2 rfl).int Tryz.underlying3
 exact ⟨⟨x, y, z⟩, cells_of (by rw [dr e0, dr e1, dr e2, List.drop_of_length_le (by omega)]; rfl), trivial⟩
theorem open_kc {w : World} {c : List Value} (h : Rd Tryz.prog w 122 c) : ∃ x : Sn.Kc, c = Sn.encK x ∧ Sn.InK x := by
 obtain ⟨h, hl⟩ := At.of Tryz.underlying122 4 h
 obtain ⟨x, e0, _⟩ := (show At w 3 c 0 from h.field Tryz.underlying122 0 rfl).int Tryz.underlying3
 obtain ⟨y, e1, _⟩ := (show At w 3 c 1 from h.field Tryz.underlying122 1 rfl).int Tryz.underlying3
 have g := (show At w 120 c 2 from h.field Tryz.underlying122 2 rfl)
 obtain ⟨z, e2, hz⟩ := (show At w 2 c 2 from g.field Tryz.underlying120 0 rfl).int Tryz.underlying2
 obtain ⟨u, e3, hu⟩ := (show At w 2 c 3 from g.field Tryz.underlying120 1 rfl).int Tryz.underlying2
 exact ⟨⟨x, y, z, u⟩, cells_of (by rw [dr e0, dr e1, dr e2, dr e3, List.drop_of_length_le (by omega)]; rfl), bounds_i64 hz, bounds_i64 hu⟩
theorem open_op {w : World} {c : List Value} (h : Rd Tryz.prog w 65 c) : ∃ x : OpV, c = encOV x ∧ OOk (fun b => b < w.heap.size) w x ∧ I64 x.op.a ∧ I64 x.op.b := by
 obtain ⟨h, hl⟩ := At.of Tryz.underlying65 5 h
 obtain ⟨x, e0, _⟩ := (show At w 3 c 0 from h.field Tryz.underlying65 0 rfl).int Tryz.underlying3
 obtain ⟨y, e1, _⟩ := (show At w 3 c 1 from h.field Tryz.underlying65 1 rfl).int Tryz.underlying3
 obtain ⟨v, l, e2, hr, _⟩ := (show At w 40 c 2 from h.field Tryz.underlying65 2 rfl).slice 1 Tryz.underlying40 (fun _ h => open_int h) (fun x _ u hu => by rw [List.mem_singleton.1 hu]; rfl)
 obtain ⟨a, e3, ha⟩ := (show At w 2 c 3 from h.field Tryz.underlying65 3 rfl).int Tryz.underlying2
 obtain ⟨b, e4, hb⟩ := (show At w 2 c 4 from h.field Tryz.underlying65 4 rfl).int Tryz.underlying2
 exact ⟨⟨⟨x, y, l, a, b⟩, v⟩, cells_of (by rw [dr e0, dr e1, dr e2, dr e3, dr e4, List.drop_of_length_le (by omega)]; rfl), hr, bounds_i64 ha, bounds_i64 hb⟩
theorem open_inp {w : World} {c : List Value} (h : Rd Tryz.prog w 68 c) : ∃ x : InpV, c = encIV x ∧ IOk (fun b => b < w.heap.size) w x ∧ ∀ r ∈ x.inp.recs, I64 r.val := by
 obtain ⟨h, hl⟩ := At.of Tryz.underlying68 2 h
 obtain ⟨x, e0, _⟩ := (show At w 3 c 0 from h.field Tryz.underlying68 0 rfl).int Tryz.underlying3
 obtain ⟨v, l, e1, hr, hp⟩ := (show At w 66 c 1 from h.field Tryz.underlying68 1 rfl).slice 3 Tryz.underlying66 (fun _ h => open_rec h) (fun x _ u hu => by
  simp only [encR, List.mem_cons, List.mem_nil_iff, or_false] at hu
  rcases hu with rfl | rfl | rfl <;> rfl)
 exact ⟨⟨⟨x, l⟩, v⟩, cells_of (by rw [dr e0, dr e1, List.drop_of_length_le (by omega)]; rfl), hr, hp⟩
def offs (a b c d e f g h : Int) : Fin 8 → Int := fun i => match i.val with
 | 0 => a
 | 1 => b
 | 2 => c
 | 3 => d
 | 4 => e
 | 5 => f
 | 6 => g
 | _ => h
def vals (a b c d e f g h : Value) : Nat → Value
 | 0 => a
 | 1 => b
 | 2 => c
 | 3 => d
 | 4 => e
 | 5 => f
 | 6 => g
 | _ => h
structure MT (m : MsgV) : Prop where
 w : MW m.msg
 s : I64 m.src
 d : I64 m.dst
set_option maxRecDepth 10000 in
theorem open_msg {w : World} {c : List Value} (h : Rd Tryz.prog w 49 c) : ∃ m : MsgV, c = encM m ∧ MOk (fun b => b < w.heap.size) w m ∧ MT m := by
 obtain ⟨h, hl⟩ := At.of Tryz.underlying49 36 h
 obtain ⟨k, e0, _⟩ := (show At w 3 c 0 from h.field Tryz.underlying49 0 rfl).int Tryz.underlying3
 obtain ⟨f, e1, hf⟩ := (show At w 3 c 1 from h.field Tryz.underlying49 1 rfl).int Tryz.underlying3
 obtain ⟨t, e2, ht⟩ := (show At w 3 c 2 from h.field Tryz.underlying49 2 rfl).int Tryz.underlying3
 obtain ⟨ep, e3, _⟩ := (show At w 22 c 3 from h.field Tryz.underlying49 3 rfl).int Tryz.underlying22
 obtain ⟨at', e4, _⟩ := (show At w 3 c 4 from h.field Tryz.underlying49 4 rfl).int Tryz.underlying3
 obtain ⟨ts, e5, _⟩ := (show At w 3 c 5 from h.field Tryz.underlying49 5 rfl).int Tryz.underlying3
 obtain ⟨nm, e6, _⟩ := (show At w 22 c 6 from h.field Tryz.underlying49 6 rfl).int Tryz.underlying22
 have hL := (show At w 31 c 7 from h.field Tryz.underlying49 7 rfl)
 have hW := (show At w 28 c 7 from hL.field Tryz.underlying31 0 rfl)
 have hG := (show At w 25 c 7 from hW.field Tryz.underlying28 0 rfl)
 obtain ⟨v0, gl, e7, r0, p0⟩ := (show At w 23 c 7 from hG.field Tryz.underlying25 0 rfl).slice 5 Tryz.underlying23 (fun _ h => open_op h) (fun x hx u hu => by
  simp only [encOV, List.mem_cons, List.mem_nil_iff, or_false] at hu
  rcases hu with rfl | rfl | rfl | rfl | rfl <;> first | rfl | exact Sy.ReadsE.one hx.1.1)
 obtain ⟨v1, il, e8, r1, p1⟩ := (show At w 26 c 8 from hW.field Tryz.underlying28 1 rfl).slice 2 Tryz.underlying26 (fun _ h => open_inp h) (fun x hx u hu => by
  simp only [encIV, List.mem_cons, List.mem_nil_iff, or_false] at hu
  rcases hu with rfl | rfl <;> first | rfl | exact Sy.ReadsE.one hx.1.1)
 obtain ⟨v2, pl, e9, r2, _⟩ := (show At w 29 c 9 from hL.field Tryz.underlying31 1 rfl).slice 2 Tryz.underlying29 (fun _ h => open_plc h) (fun x _ u hu => by
  simp only [encP, List.mem_cons, List.mem_nil_iff, or_false] at hu
  rcases hu with rfl | rfl <;> rfl)
 have hS := (show At w 39 c 10 from h.field Tryz.underlying49 8 rfl)
 obtain ⟨op, e10, _⟩ := (show At w 3 c 10 from hS.field Tryz.underlying39 0 rfl).int Tryz.underlying3
 obtain ⟨ix, e11, _⟩ := (show At w 3 c 11 from hS.field Tryz.underlying39 1 rfl).int Tryz.underlying3
 obtain ⟨wd, e12, _⟩ := (show At w 3 c 12 from hS.field Tryz.underlying39 2 rfl).int Tryz.underlying3
 obtain ⟨fi, e13⟩ := (show At w 4 c 13 from hS.field Tryz.underlying39 3 rfl).bool Tryz.underlying4
 have hT := (show At w 34 c 14 from hS.field Tryz.underlying39 4 rfl)
 obtain ⟨v3, rw', e14, r3, p3⟩ := (show At w 32 c 14 from hT.field Tryz.underlying34 0 rfl).slice 4 Tryz.underlying32 (fun _ h => open_kc h) (fun x _ u hu => by
  simp only [Sn.encK, List.mem_cons, List.mem_nil_iff, or_false] at hu
  rcases hu with rfl | rfl | rfl | rfl <;> rfl)
 have hO := (show At w 36 c 15 from hS.field Tryz.underlying39 5 rfl)
 obtain ⟨o0, e15, _⟩ := (show At w 3 c 15 from hO.array Tryz.underlying36 0 (by decide)).int Tryz.underlying3
 obtain ⟨o1, e16, _⟩ := (show At w 3 c 16 from hO.array Tryz.underlying36 1 (by decide)).int Tryz.underlying3
 obtain ⟨o2, e17, _⟩ := (show At w 3 c 17 from hO.array Tryz.underlying36 2 (by decide)).int Tryz.underlying3
 obtain ⟨o3, e18, _⟩ := (show At w 3 c 18 from hO.array Tryz.underlying36 3 (by decide)).int Tryz.underlying3
 obtain ⟨o4, e19, _⟩ := (show At w 3 c 19 from hO.array Tryz.underlying36 4 (by decide)).int Tryz.underlying3
 obtain ⟨o5, e20, _⟩ := (show At w 3 c 20 from hO.array Tryz.underlying36 5 (by decide)).int Tryz.underlying3
 obtain ⟨o6, e21, _⟩ := (show At w 3 c 21 from hO.array Tryz.underlying36 6 (by decide)).int Tryz.underlying3
 obtain ⟨o7, e22, _⟩ := (show At w 3 c 22 from hO.array Tryz.underlying36 7 (by decide)).int Tryz.underlying3
 obtain ⟨v4, tx, e23, r4, _⟩ := (show At w 37 c 23 from hS.field Tryz.underlying39 6 rfl).slice 3 Tryz.underlying37 (fun _ h => open_tx h) (fun x _ u hu => by
  simp only [Sn.encT, List.mem_cons, List.mem_nil_iff, or_false] at hu
  rcases hu with rfl | rfl | rfl <;> rfl)
 obtain ⟨v5, nl, e24, r5, _⟩ := (show At w 37 c 24 from h.field Tryz.underlying49 9 rfl).slice 3 Tryz.underlying37 (fun _ h => open_tx h) (fun x _ u hu => by
  simp only [Sn.encT, List.mem_cons, List.mem_nil_iff, or_false] at hu
  rcases hu with rfl | rfl | rfl <;> rfl)
 obtain ⟨v6, ul, e25, r6, _⟩ := (show At w 40 c 25 from h.field Tryz.underlying49 10 rfl).slice 1 Tryz.underlying40 (fun _ h => open_int h) (fun x _ u hu => by rw [List.mem_singleton.1 hu]; rfl)
 obtain ⟨v7, dl, e26, r7, _⟩ := (show At w 40 c 26 from h.field Tryz.underlying49 11 rfl).slice 1 Tryz.underlying40 (fun _ h => open_int h) (fun x _ u hu => by rw [List.mem_singleton.1 hu]; rfl)
 have hP := (show At w 47 c 27 from h.field Tryz.underlying49 12 rfl)
 obtain ⟨pk, e27, _⟩ := (show At w 3 c 27 from hP.field Tryz.underlying47 0 rfl).int Tryz.underlying3
 obtain ⟨ps, e28, _⟩ := (show At w 41 c 28 from hP.field Tryz.underlying47 1 rfl).int Tryz.underlying41
 obtain ⟨pq, e29, _⟩ := (show At w 22 c 29 from hP.field Tryz.underlying47 2 rfl).int Tryz.underlying22
 obtain ⟨pm, e30, hm⟩ := (show At w 22 c 30 from hP.field Tryz.underlying47 3 rfl).int Tryz.underlying22
 have hE := (show At w 45 c 31 from hP.field Tryz.underlying47 4 rfl)
 obtain ⟨ek, e31, _⟩ := (show At w 3 c 31 from hE.field Tryz.underlying45 0 rfl).int Tryz.underlying3
 have hR := (show At w 43 c 32 from hE.field Tryz.underlying45 1 rfl)
 obtain ⟨rs, e32, _⟩ := (show At w 3 c 32 from hR.field Tryz.underlying43 0 rfl).int Tryz.underlying3
 obtain ⟨rk, e33, _⟩ := (show At w 3 c 33 from hR.field Tryz.underlying43 1 rfl).int Tryz.underlying3
 obtain ⟨rv, e34, hv⟩ := (show At w 2 c 34 from hR.field Tryz.underlying43 2 rfl).int Tryz.underlying2
 obtain ⟨en, e35, _⟩ := (show At w 22 c 35 from hE.field Tryz.underlying45 2 rfl).int Tryz.underlying22
 refine ⟨⟨k, f, t, ep, at', ts, nm, gl, il, pl, ⟨op, ix, wd, fi, rw', offs o0 o1 o2 o3 o4 o5 o6 o7, tx⟩, nl, ul, dl, ⟨pk, ps, pq, pm, ⟨ek, ⟨rs, rk, rv⟩, en⟩⟩, vals v0 v1 v2 v3 v4 v5 v6 v7⟩, cells_of ?_, ⟨⟨r0, fun o ho => (p0 o ho).1⟩, r1, fun x hx => (p1 x hx).1, r2, ⟨r3, r4⟩, r5, r6, r7⟩, ⟨⟨fun o ho => ?_, fun x hx => ?_, p3, bounds_i64 hv, (bounds_u64 hm).1⟩, bounds_i64 hf, bounds_i64 ht⟩⟩
 ·rw [dr e0, dr e1, dr e2, dr e3, dr e4, dr e5, dr e6, dr e7, dr e8, dr e9, dr e10, dr e11, dr e12, dr e13, dr e14, dr e15, dr e16, dr e17, dr e18, dr e19, dr e20, dr e21, dr e22, dr e23, dr e24, dr e25, dr e26, dr e27, dr e28, dr e29, dr e30, dr e31, dr e32, dr e33, dr e34, dr e35, List.drop_of_length_le (by omega)]
  rfl
 ·obtain ⟨y, hy, rfl⟩ := List.mem_map.1 ho
  exact (p0 y hy).2
 ·obtain ⟨y, hy, rfl⟩ := List.mem_map.1 hx
  exact (p1 y hy).2
theorem agg_msg {cs : Array Value} {m : MsgV} (h : cs.toList = encM m) : cs = (encM m).toArray := by rw [← Array.toArray_toList (xs := cs), h]
end Go.Proofs.YtgkkpefpbfadoaaGreat
namespace Go.Proofs.YtgkkpefpbfadoaaGreat
open Go Go.RowKit Go.WideShapes Go.ChangeShapes
theorem own : ownKnob Tryz.prog.godebug = none := by kernel_rfl
theorem kids : Kids Tryz.prog (· < Tryz.prog.types.size) := kids_rows (by kernel_rfl) (by kernel_rfl)
theorem full : ∀ t e, t < Tryz.prog.types.size → Tryz.prog.underlying t = some (.slice e) → 0 < Tryz.prog.cellsOf e := slices_full_of Tryz.prog (by kernel_rfl)
section
variable {H : Type} {enc : TypeId × Value → H} {P : Program}
theorem trodAll_later {base : Nat} {sp : Nat → Bool} {held : Bool} {W W' : World} (hb : Below W.heap.size W W') : ∀ {ts : List TypeId} {vs : List Value} {ds : List (DataW H)} {ps : List MemPlace}, DataW.TrodAll enc P W base sp held ts vs ds ps → DataW.TrodAll enc P W' base sp held ts vs ds ps
 | [], [], [], _, h => h
 | _ :: _, _ :: _, _ :: _, _, ⟨p, q, ⟨n, h1⟩, h2, e⟩ => ⟨p, q, ⟨n, DataW.trod_carry n _ _ _ h1 fun x hx => hb.same (DataW.trod_lt n _ _ _ h1 x hx)⟩, trodAll_later hb h2, e⟩
theorem law_post {f : Func} {s : ChangeSpec} {apart fresh : Bool} {W W' : World} {args : Array Value} {ds gs : List (DataW H)} {before : List MemPlace} {t : TypeId} (hv : s.vars = []) (hp : ∀ t ∈ f.params.toList, t < Tryz.prog.types.size)
  (hrt : f.resultTypes = #[t]) (hu : Tryz.prog.underlying t = some .bool) (hW : DataW.Whole enc Tryz.prog f.params.toList s.vars apart W args.toList ds gs before) (hb : Below W.heap.size W W')
  (hr : (s.fn H (ds ++ gs)).results = [.lit (.bool true)]) (ha : (s.fn H (ds ++ gs)).args = ds) (hvs : (s.fn H (ds ++ gs)).vars = []) : s.post enc Tryz.prog f apart fresh false false W args (.bool true) W' := by
 have hW' := hW
 obtain ⟨p, q, hA, hV, rfl, -, -⟩ := hW
 rw [hv] at hV
 obtain ⟨rfl, rfl⟩ := trodVars_none hV
 have hlt : ∀ x ∈ p, x.block < W.heap.size := fun x hx => hA.lt x hx
 have hA2 := (trodAll_later hb hA).respare (spare' := fun b => decide (b < W.heap.size)) kids full hp fun x hx => by simpa using hlt x hx
 refine ⟨ds, [], p ++ [], [], p, [], hW', ?_, ?_, ?_, World.keptBut_mono (fun x hx => ⟨hx, .inr (.inl (by simpa using hx))⟩) (hb.frame (· ∈ p ++ [])), fun h => by cases h⟩
 ·rw [hrt, hr]
  exact trodAll_mk1 (shut_bool hu true)
 ·rw [ha]
  exact hA2
 ·rw [hvs, hv]
  rfl
end
end Go.Proofs.YtgkkpefpbfadoaaGreat
namespace Go.Proofs.YtgkkpefpbfadoaaGreat
open Go Go.RowKit Go.WideShapes Go.ChangeShapes Go.ChangeAt Go.Joins
open Sy (XD)
namespace FrameApartN
set_option maxRecDepth 100000 in
theorem lifted (os : Os) (started : os.Started) (H : Type) (enc : TypeId × Value → H) :
  ReturnsInHanded {} Tryz.checked os 6 .any (Rows.frameApartSpec.pre6 enc Tryz.prog Tryz.f6 Rows.frameApartRow.domain false) (Rows.frameApartSpec.post enc Tryz.prog Tryz.f6 false true false false) := by
 refine returnsInHanded_of_change (C := Tryz.checked) own started (by kernel_rfl) Tryz.func6
  (ChangeSpec.witness6 (enc := enc) (C := Tryz.checked) false ⟨#[], #[.agg #[.int .i64 0, .int .i64 0, .int .i64 0, .int .u64 0, .int .i64 0, .int .i64 0, .int .u64 0, .slice none 0 0, .slice none 0 0, .slice none 0 0, .int .i64 0, .int .i64 0, .int .i64 0, .bool false, .slice none 0 0, .int .i64 0, .int .i64 0, .int .i64 0, .int .i64 0, .int .i64 0, .int .i64 0, .int .i64 0, .int .i64 0, .slice none 0 0, .slice none 0 0, .slice none 0 0, .slice none 0 0, .int .i64 0, .int .u32 0, .int .u64 0, .int .u64 0, .int .i64 0, .int .i64 0, .int .i64 0, .int .i64 0, .int .u64 0], .agg #[.int .i64 0, .int .i64 0, .int .i64 0, .int .u64 0, .int .i64 0, .int .i64 0, .int .u64 0, .slice none 0 0, .slice none 0 0, .slice none 0 0, .int .i64 0, .int .i64 0, .int .i64 0, .bool false, .slice none 0 0, .int .i64 0, .int .i64 0, .int .i64 0, .int .i64 0, .int .i64 0, .int .i64 0, .int .i64 0, .int .i64 0, .slice none 0 0, .slice none 0 0, .slice none 0 0, .slice none 0 0, .int .i64 0, .int .u32 0, .int .u64 0, .int .u64 0, .int .i64 0, .int .i64 0, .int .i64 0, .int .i64 0, .int .u64 0]], []⟩ 8 (by kernel_rfl) (by kernel_rfl) (by kernel_rfl) (by kernel_rfl)) ?_
 intro W base args ds gs before hval0 hW hcnd _
 have hval : ∀ (j : Nat) t v, Tryz.f6.params[j]? = some t → args[j]? = some v → Value.okWide Tryz.prog W .any base t v := hval0
 have hW' := hW
 obtain ⟨p, q, hA0, hV, rfl, hfz, hnd⟩ := hW
 have hA : DataW.TrodAll enc Tryz.prog W 0 (fun _ => true) true Tryz.f6.params.toList args.toList ds p := hA0
 rw [Tryz.params6] at hA hval
 obtain ⟨v0, v1, d0, d1, p0, p1, rfl, rfl, rfl, h0, h1⟩ := trodAll_two hA
 obtain ⟨rfl, rfl⟩ := trodVars_none hV
 have o0 := hval 0 49 v0 rfl rfl
 have r0 := Rd.of h0
 have o1 := hval 1 49 v1 rfl rfl
 have r1 := Rd.of h1
 clear hA0 hval0
 obtain ⟨cs0, rfl, _⟩ := okWide_struct Tryz.underlying49 o0
 obtain ⟨m, hx0, hr, hm⟩ := open_msg r0
 obtain rfl := agg_msg hx0
 obtain ⟨cs1, rfl, _⟩ := okWide_struct Tryz.underlying49 o1
 obtain ⟨n, hx1, hr1, hm1⟩ := open_msg r1
 obtain rfl := agg_msg hx1
 refine (lapart_any m n W hr hm.w hm.s hm.d hr1 hm1.w hm1.s hm1.d).mono fun e W' ⟨he, hb⟩ => ?_
 subst he
 exact ⟨_, rfl, law_post (t := 4) rfl (by rw [Tryz.params6]; decide +kernel) (by kernel_rfl) Tryz.underlying4 hW' hb rfl rfl rfl⟩
theorem over : Rows.frameApartRow.holds Tryz.pinned (OpenSpec.ofChange Rows.frameApartSpec) :=
 OpenClaim.holds_of_wide 6 Tryz.f6 rfl rfl rfl rfl rfl rfl rfl ⟨rfl, rfl, rfl, rfl, rfl⟩ rfl rfl rfl rfl rfl (by kernel_rfl) Tryz.func6 (by kernel_rfl)
  (of_decide_eq_true (by kernel_rfl)) (by unfold Func.isWrapper; first | (rw [if_pos (by decide +kernel)]; kernel_rfl) | (rw [if_neg (by decide +kernel)]; exact ⟨rfl, rfl⟩))
  (fun os started H enc _ => lifted os started H enc)
theorem proved : Rows.FrameApartSaid := over
end FrameApartN
end Go.Proofs.YtgkkpefpbfadoaaGreat
