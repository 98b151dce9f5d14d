/- Frame: the laws Back and Apart, walked. -/
import Derived.Test.YtgkkpefpbfadoaaGreatAk52
import Derived.Test.YtgkkpefpbfadoaaGreatAk53
import Derived.Test.YtgkkpefpbfadoaaGreatAk6
import Derived.ChangeArms
import Derived.ChangeOld
import Derived.ChangeReads
import Derived.OpenShut
import Derived.Below
namespace Go.Proofs.YtgkkpefpbfadoaaGreat
open Go Go.RowKit
open Sy (C SV V1 Blk St XD Els)
set_option maxRecDepth 10000
theorem decM_hd {b : List Int} (h : Sn.bytesOk b) : I64 (decM b).1.src ∧ I64 (decM b).1.dst ∧ (decM b).1.ins.length ≤ 255 := by
 have h8 : Sn.bytesOk (opnV b) := by
  unfold opnV
  split
  ·exact fun c hc => h c (List.mem_of_mem_take hc)
  ·exact fun c hc => by cases hc
 unfold decM
 split
 ·exact readP_hd h8
 ·exact ⟨⟨by decide, by decide⟩, ⟨by decide, by decide⟩, by decide⟩
theorem Dv.hd {b : List Int} (x : Dv b) (h : Sn.bytesOk b) : x.m.il.length ≤ 100000 ∧ I64 x.m.src ∧ I64 x.m.dst := by
 obtain ⟨h1, h2, h3⟩ := decM_hd h
 rw [← x.h] at h1 h2 h3
 have h3 : (insOf x.m.il).length ≤ 255 := h3
 rw [insOf_len] at h3
 exact ⟨by omega, h1, h2⟩
theorem row_lt {n : Nat} {l : List C} (h : Sy.ltAll (n + 1) l = true) : Sy.allLt (n + 1) [.agg l, .c (.row 0)] = true := by
 show (match Sy.ltAll (n + 1) l with | true => true | false => false) = true
 rw [h]
attribute [local irreducible] msgB decM okM layB
theorem msgB_inj {m n : Msg} (hm : okM m) (hn : okM n) (gm : MW m) (gn : MW n) (h : msgB m = msgB n) : m = n := by
 have h1 := dec_msgB hm gm
 rw [h, dec_msgB hn gn] at h1
 exact (congrArg Prod.fst h1).symm
theorem two_agg {n : Nat} {l k : List C} (h : Sy.ltAll n l = true) (h2 : Sy.ltAll n k = true) : Sy.allLt n [.agg l, .agg k] = true := by
 show (match Sy.ltAll n l with | true => (match Sy.ltAll n k with | true => true | false => false) | false => false) = true
 rw [h, h2]
set_option maxHeartbeats 8000000 in
theorem lapart_any (m n : MsgV) (w : World) (hr : MOk (fun b => b < w.heap.size) w m) (hm : MW m.msg) (hs : I64 m.src) (hd : I64 m.dst) (hr2 : MOk (fun b => b < w.heap.size) w n) (hn : MW n.msg) (hs2 : I64 n.src) (hd2 : I64 n.dst) :
  Calls Tryz.prog 6 #[.agg (encM m).toArray, .agg (encM n).toArray] w (Sy.Ret (.bool true) w) := by
 refine Sy.calls_of Sy.lv6 Sy.tab_ok Tryz.func6 rfl _ Tryz.ntmps6 [] [.agg (cellsM C.v m fun i => .v (m.v i)), .agg (cellsM C.v n fun i => .v (n.v i))] rfl (two_agg (Sy.ltAll_v (msg_one hr)) (Sy.ltAll_v (msg_one hr2))) rfl trivial ?_
 ((repeat' first|refine Y ?_|refine Y2 ?_ ?_|refine Y1 fun hh=>?_|exact Y0.mk);(all_goals (try conv => whnf)))
 refine Sy.call_val (.c (.v (.bool true))) Tryz.call7 rfl (fun e a w' h => fwakes_any w') ?_
 ((repeat' first|refine Y ?_|refine Y2 ?_ ?_|refine Y1 fun hh=>?_|exact Y0.mk);(all_goals (try conv => whnf)))
 refine Sy.call_ex (fun b : Bool => b = false → m.il.length ≤ 20) (fun b => .c (.v (.bool b))) Tryz.call8 (fun _ _ => rfl) (fun e a w' h => over_any m w' (MOk.later h hr)) (fun o ho => ?_)
 cases o with
 | true => ((repeat' first|refine Y ?_|refine Y2 ?_ ?_|refine Y1 fun hh=>?_|exact Y0.mk);(all_goals (try conv => whnf)))
 |false =>
  have hil := ho rfl
  ((repeat' first|refine Y ?_|refine Y2 ?_ ?_|refine Y1 fun hh=>?_|exact Y0.mk);(all_goals (try conv => whnf)))
  refine Sy.call_ex (fun b : Bool => b = false → n.il.length ≤ 20) (fun b => .c (.v (.bool b))) Tryz.call8 (fun _ _ => rfl) (fun e a w' h => over_any n w' (MOk.later h hr2)) (fun o ho => ?_)
  cases o with
  | true => ((repeat' first|refine Y ?_|refine Y2 ?_ ?_|refine Y1 fun hh=>?_|exact Y0.mk);(all_goals (try conv => whnf)))
  |false =>
   have hil2 := ho rfl
   ((repeat' first|refine Y ?_|refine Y2 ?_ ?_|refine Y1 fun hh=>?_|exact Y0.mk);(all_goals (try conv => whnf)))
   refine Sy.call_r1 ⟨5, 1, (encMs m.msg).length, (encMs m.msg).map encB⟩ (fun j => .tup [.c (.row j), .c (.v (.int .i64 (chkM m.msg)))]) Tryz.call9 (fun e a w' h => fenc_any m w' (MOk.later h hr) (by omega) hs hd) ?_
   ((repeat' first|refine Y ?_|refine Y2 ?_ ?_|refine Y1 fun hh=>?_|exact Y0.mk);(all_goals (try conv => whnf)))
   refine Sy.call_r1 ⟨5, 1, (encMs n.msg).length, (encMs n.msg).map encB⟩ (fun j => .tup [.c (.row j), .c (.v (.int .i64 (chkM n.msg)))]) Tryz.call9 (fun e a w' h => fenc_any n w' (MOk.later h hr2) (by omega) hs2 hd2) ?_
   by_cases hok : okM m.msg
   ·rw [show encMs m.msg = msgB m.msg from if_pos hok, show chkM m.msg = 0 from if_pos hok]
    by_cases hok2 : okM n.msg
    ·rw [show encMs n.msg = msgB n.msg from if_pos hok2, show chkM n.msg = 0 from if_pos hok2]
     have hI : (msgB m.msg = msgB n.msg) ↔ m.msg = n.msg := ⟨msgB_inj hok hok2 hm hn, fun h => by rw [h]⟩
     ((repeat' first|refine Y ?_|refine Y2 ?_ ?_|refine Y1 fun hh=>?_|exact Y0.mk);(all_goals (try conv => whnf)))
     refine Sy.draw_go [] (by kernel_rfl) ?_
     intro e0
     conv => whnf
     refine zt 0 rfl ?_
     conv => whnf
     refine zt 1 rfl ?_
     conv => whnf
     refine zt 3 rfl ?_
     conv => whnf
     refine zt 4 rfl ?_
     conv => whnf
     refine zd1 [2] (zx rfl ?_ zy)
     conv => whnf
     refine Sy.call_in Sy.lv18 Sy.tab_ok Tryz.func18 rfl _ Tryz.ntmps18 Tryz.call18 rfl (fun _ => ?_)
     ((repeat' first|refine Y ?_|refine Y2 ?_ ?_|refine Y1 fun hh=>?_|exact Y0.mk);(all_goals (try conv => whnf)))
     refine Sy.call_val (.c (.v (.bool (decide (m.msg = n.msg))))) Tryz.call53 rfl (fun e a w' h => by
      have := bytesEq_any _ _ (msgB m.msg) (msgB n.msg) w' (Sy.row_reads h (k := 2) (.inl ⟨_, rfl⟩)) (Sy.row_reads h (k := 3) (.inl ⟨_, rfl⟩))
      rw [bytesEq_dec (msgB_by _) (msgB_by _), decide_eq_decide.2 hI] at this
      exact this) ?_
     ((repeat' first|refine Y ?_|refine Y2 ?_ ?_|refine Y1 fun hh=>?_|exact Y0.mk);(all_goals (try conv => whnf)))
     refine Yk ?_
     refine zd1 [5] (zx rfl ?_ zy)
     conv => whnf
     refine Sy.call_val (.c (.v (.bool (decide (m.msg = n.msg))))) Tryz.call14 rfl (fun e a w' h => fsame_any m n w' (MOk.later h hr) (MOk.later h hr2)) ?_
     conv => whnf
     refine Yk ?_
     refine zt 6 rfl ?_
     ((repeat' first|refine Y ?_|refine Y2 ?_ ?_|refine Y1 fun hh=>?_|exact Y0.mk);(all_goals (try conv => whnf)))
     refine zt 7 rfl ?_
     conv => whnf
     refine zw ?_
     skip
     rw [beq_self_eq_true]
     ((repeat' first|refine Y ?_|refine Y2 ?_ ?_|refine Y1 fun hh=>?_|exact Y0.mk);(all_goals (try conv => whnf)))
    ·rw [show chkM n.msg = 370 from if_neg hok2]
     ((repeat' first|refine Y ?_|refine Y2 ?_ ?_|refine Y1 fun hh=>?_|exact Y0.mk);(all_goals (try conv => whnf)))
   ·rw [show chkM m.msg = 370 from if_neg hok]
    ((repeat' first|refine Y ?_|refine Y2 ?_ ?_|refine Y1 fun hh=>?_|exact Y0.mk);(all_goals (try conv => whnf)))
end Go.Proofs.YtgkkpefpbfadoaaGreat
namespace Go.Proofs.YtgkkpefpbfadoaaGreat
open Go Go.RowKit
def Rd (P : Program) (w : World) (t : TypeId) (cs : List Value) : Prop := ∃ (H : Type) (enc : TypeId × Value → H) (n : Nat) (x : DataW H × List MemPlace), DataW.trod enc P w 0 (fun _ => true) true n t cs = some x
theorem Rd.of {H : Type} {enc : TypeId × Value → H} {P : Program} {w : World} {t : TypeId} {v : Value} {d : DataW H} {p : List MemPlace} (h : DataW.Trod enc P w 0 (fun _ => true) true t v d p) : Rd P w t v.cells.toList := by
 obtain ⟨n, hn⟩ := h
 exact ⟨H, enc, n, _, hn⟩
theorem Rd.int {P : Program} {w : World} {t : TypeId} {k : IntKind} {cs : List Value} (hu : P.underlying t = some (.int k)) (h : Rd P w t cs) : ∃ n, cs = [.int k n] ∧ (Lit.int k n).wf = true := by
 obtain ⟨H, enc, n, x, hx⟩ := h
 obtain ⟨i, h1, _, h2⟩ := DataW.trod_int hu hx
 exact ⟨i, h1, h2⟩
theorem Rd.i64 {P : Program} {w : World} {t : TypeId} {cs : List Value} (hu : P.underlying t = some (.int .i64)) (h : Rd P w t cs) : ∃ n, cs = [.int .i64 n] ∧ -9223372036854775808 ≤ n ∧ n ≤ 9223372036854775807 := by
 obtain ⟨i, h1, h2⟩ := h.int hu
 exact ⟨i, h1, bounds_i64 h2⟩
theorem Rd.bool {P : Program} {w : World} {t : TypeId} {cs : List Value} (hu : P.underlying t = some .bool) (h : Rd P w t cs) : ∃ b, cs = [.bool b] := by
 obtain ⟨H, enc, n, x, hx⟩ := h
 obtain ⟨i, h1, _⟩ := DataW.trod_bool hu hx
 exact ⟨i, h1⟩
theorem Rd.struct {P : Program} {w : World} {t : TypeId} {fs : Array Field} {cs : List Value} (hu : P.underlying t = some (.struct fs)) (h : Rd P w t cs) : cs.length = P.cellsOf t ∧ ∀ f ∈ fs.toList, Rd P w f.type ((cs.drop f.offset).take (P.cellsOf f.type)) := by
 obtain ⟨H, enc, n, x, hx⟩ := h
 obtain ⟨xs, m, _, _, hl, hn, hf⟩ := DataW.trod_struct hu hx
 refine ⟨hl, fun f hm => ?_⟩
 obtain ⟨i, hi⟩ := List.mem_iff_getElem?.1 hm
 have hi' : fs[i]? = some f := by simpa using hi
 have hlt : i < xs.length := by rw [hn]; exact (Array.getElem?_eq_some_iff.1 hi').1
 exact ⟨H, enc, m, xs[i], by rw [hf i f hi', List.getElem?_eq_getElem hlt]⟩
theorem Rd.field {P : Program} {w : World} {t : TypeId} {fs : Array Field} {cs : List Value} (hu : P.underlying t = some (.struct fs)) (h : Rd P w t cs) (i : Nat) {f : Field} (hf : fs[i]? = some f) : Rd P w f.type ((cs.drop f.offset).take (P.cellsOf f.type)) :=
 (h.struct hu).2 f (by
  have := (Array.getElem?_eq_some_iff.1 hf)
  exact Array.mem_toList_iff.2 (this.2 ▸ Array.getElem_mem _))
theorem Rd.array {P : Program} {w : World} {t e : TypeId} {k : Nat} {cs : List Value} (hu : P.underlying t = some (.array k e)) (h : Rd P w t cs) : cs.length = P.cellsOf t ∧ ∀ i, i < k → Rd P w e ((cs.drop (i * P.cellsOf e)).take (P.cellsOf e)) := by
 obtain ⟨H, enc, n, x, hx⟩ := h
 obtain ⟨xs, m, _, _, hl, hn, hf⟩ := DataW.trod_array hu hx
 exact ⟨hl, fun i hi => ⟨H, enc, m, xs[i]'(by omega), by rw [hf i hi, List.getElem?_eq_getElem]⟩⟩
theorem Rd.slice {P : Program} {w : World} {t e : TypeId} {cs : List Value} (hu : P.underlying t = some (.slice e)) (hz : 0 < P.cellsOf e) (h : Rd P w t cs) :
  ∃ (v : Value) (xs : List (List Value)), cs = [v] ∧ Sy.ReadsE (fun b => b < w.heap.size) w (P.cellsOf e) v xs.length xs ∧ ∀ c ∈ xs, Rd P w e c := by
 obtain ⟨H, enc, n, x, hx⟩ := h
 rcases DataW.trod_slice hu hx with ⟨rfl, _⟩ | ⟨a, len, cap, elems, rest, m, _, rfl, _, _, hc, hm, hl, he, _⟩
 ·exact ⟨_, [], rfl, ⟨rfl, fun c hc => (by cases hc), _, _, rfl, Nat.le_refl _, Nat.zero_le _, fun h => absurd h (Nat.lt_irrefl _)⟩, fun c hc => (by cases hc)⟩
 ·have one : ∀ i, i < len → ∃ (c : List Value) (y : DataW H × List MemPlace), w.cells? 0 (a.add (i * P.cellsOf e)) (P.cellsOf e) = some c ∧ DataW.trod enc P w 0 (fun _ => true) true m e c = some y := by
   intro i hi
   have := he i hi
   rw [List.getElem?_eq_getElem (by omega)] at this
   obtain ⟨c, h1, h2⟩ := Option.bind_eq_some_iff.1 this
   exact ⟨c, _, h1, h2⟩
  refine ⟨_, (List.range len).map fun i => (w.cells? 0 (a.add (i * P.cellsOf e)) (P.cellsOf e)).getD [], rfl, ?_, ?_⟩
  ·have hszs : ∀ c ∈ (List.range len).map (fun i => (w.cells? 0 (a.add (i * P.cellsOf e)) (P.cellsOf e)).getD []), c.length = P.cellsOf e := by
    intro c hc
    obtain ⟨i, hi, rfl⟩ := List.mem_map.1 hc
    obtain ⟨c, y, h1, _⟩ := one i (by simpa using hi)
    rw [h1]
    exact (World.cells?_some h1).2.1
   refine ⟨rfl, hszs, some a, cap, by simp, by simpa using hc, hm, fun hp => ⟨a, rfl, ?_, fun j u hu => ?_⟩⟩
   ·obtain ⟨c, y, h1, _⟩ := one 0 (by simpa using hp)
    have := World.cells?_block h1 hz
    rwa [Sy.addr_block] at this
   ·have hj : j < len * P.cellsOf e := by
     have := (List.getElem?_eq_some_iff.1 hu).1
     rw [Sy.flat_len hszs] at this
     simpa using this
    have hi : j / P.cellsOf e < len := Nat.div_lt_of_lt_mul (by rw [Nat.mul_comm]; exact hj)
    have hk : j % P.cellsOf e < P.cellsOf e := Nat.mod_lt _ hz
    obtain ⟨c, y, h1, _⟩ := one _ hi
    obtain ⟨_, h2, h3⟩ := World.cells?_some h1
    have h4 := h3 _ hk
    rw [Sy.addr_add, Nat.div_add_mod' j (P.cellsOf e), List.getElem?_eq_getElem (by omega)] at h4
    have h5 := Sy.flat_get hszs (i := j / P.cellsOf e) (o := j % P.cellsOf e) (c := c) (u := c[j % P.cellsOf e]'(by omega)) (by simp [List.getElem?_range hi, h1]) (List.getElem?_eq_getElem _)
    rw [Nat.div_add_mod' j (P.cellsOf e)] at h5
    rw [h4, ← h5, hu]
  ·intro c hc
   obtain ⟨i, hi, rfl⟩ := List.mem_map.1 hc
   obtain ⟨c, y, h1, h2⟩ := one i (by simpa using hi)
   rw [h1]
   exact ⟨H, enc, m, y, h2⟩
theorem list_of {α : Type} {enc : α → List Value} {p : α → Prop} : ∀ {xs : List (List Value)}, (∀ c ∈ xs, ∃ x, c = enc x ∧ p x) → ∃ l : List α, xs = l.map enc ∧ ∀ x ∈ l, p x
 | [], _ => ⟨[], rfl, fun x hx => (by cases hx)⟩
 |c :: r, h => by
  obtain ⟨x, rfl, hp⟩ := h c (by simp)
  obtain ⟨l, rfl, hl⟩ := list_of (xs := r) fun c hc => h c (by simp [hc])
  exact ⟨x :: l, rfl, fun y hy => by
   rcases List.mem_cons.1 hy with rfl | hy
   ·exact hp
   ·exact hl y hy⟩
theorem take1 {α : Type} {cs : List α} {i : Nat} {x : α} (h : (cs.drop i).take 1 = [x]) : cs[i]? = some x := by
 have := congrArg (fun l => l[0]?) h
 simpa [List.getElem?_take, List.getElem?_drop] using this
end Go.Proofs.YtgkkpefpbfadoaaGreat
