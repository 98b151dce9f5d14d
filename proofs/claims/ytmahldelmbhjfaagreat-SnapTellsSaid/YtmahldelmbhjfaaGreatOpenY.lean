/- What comes in, opened: a reading that came through gives the cells that a slice holds, and a reading of each element. -/
import Derived.Test.YtmahldelmbhjfaaGreatSyF
import Derived.ChangeArms
import Derived.ChangeOld
import Derived.ChangeReads
import Derived.OpenShut
import Derived.Below
namespace Go.Proofs.YtmahldelmbhjfaaGreat
open Go Go.RowKit

/-- The cells read as a value of type t. -/
def Rd (P : Program) (w : World) (t : TypeId) (cs : List Value) : Prop := ∃ (H : Type) (enc : TypeId × Value → H) (n : Nat) (x : DataW H × List MemPlace), DataW.trod enc P w 0 (fun _ => true) true n t cs = some x
theorem Rd.of {H : Type} {enc : TypeId × Value → H} {P : Program} {w : World} {t : TypeId} {v : Value} {d : DataW H} {p : List MemPlace} (h : DataW.Trod enc P w 0 (fun _ => true) true t v d p) : Rd P w t v.cells.toList := by
  obtain ⟨n, hn⟩ := h
  exact ⟨H, enc, n, _, hn⟩
theorem Rd.later {P : Program} {w w' : World} {t : TypeId} {cs : List Value} (h : Rd P w t cs) (hb : Below w.heap.size w w') : Rd P w' t cs := by
  obtain ⟨H, enc, n, x, hx⟩ := h
  exact ⟨H, enc, n, x, DataW.trod_carry n _ _ _ hx fun p hp => hb.same (DataW.trod_lt n _ _ _ hx p hp)⟩
theorem Rd.int {P : Program} {w : World} {t : TypeId} {k : IntKind} {cs : List Value} (hu : P.underlying t = some (.int k)) (h : Rd P w t cs) : ∃ n, cs = [.int k n] ∧ (Lit.int k n).wf = true := by
  obtain ⟨H, enc, n, x, hx⟩ := h
  obtain ⟨i, h1, _, h2⟩ := DataW.trod_int hu hx
  exact ⟨i, h1, h2⟩
theorem Rd.i64 {P : Program} {w : World} {t : TypeId} {cs : List Value} (hu : P.underlying t = some (.int .i64)) (h : Rd P w t cs) : ∃ n, cs = [.int .i64 n] ∧ -9223372036854775808 ≤ n ∧ n ≤ 9223372036854775807 := by
  obtain ⟨i, h1, h2⟩ := h.int hu
  exact ⟨i, h1, bounds_i64 h2⟩
theorem Rd.bool {P : Program} {w : World} {t : TypeId} {cs : List Value} (hu : P.underlying t = some .bool) (h : Rd P w t cs) : ∃ b, cs = [.bool b] := by
  obtain ⟨H, enc, n, x, hx⟩ := h
  obtain ⟨i, h1, _⟩ := DataW.trod_bool hu hx
  exact ⟨i, h1⟩
theorem Rd.string {P : Program} {w : World} {t : TypeId} {cs : List Value} (hu : P.underlying t = some .string) (h : Rd P w t cs) : ∃ s : ByteArray, cs = [.string s] ∧ s.size ≤ maxLen := by
  obtain ⟨H, enc, n, x, hx⟩ := h
  obtain ⟨i, h1, _, h2⟩ := DataW.trod_string hu hx
  exact ⟨i, h1, h2⟩
theorem Rd.struct {P : Program} {w : World} {t : TypeId} {fs : Array Field} {cs : List Value} (hu : P.underlying t = some (.struct fs)) (h : Rd P w t cs) : cs.length = P.cellsOf t ∧ ∀ f ∈ fs.toList, Rd P w f.type ((cs.drop f.offset).take (P.cellsOf f.type)) := by
  obtain ⟨H, enc, n, x, hx⟩ := h
  obtain ⟨xs, m, _, _, hl, hn, hf⟩ := DataW.trod_struct hu hx
  refine ⟨hl, fun f hm => ?_⟩
  obtain ⟨i, hi⟩ := List.mem_iff_getElem?.1 hm
  have hi' : fs[i]? = some f := by simpa using hi
  have hlt : i < xs.length := by rw [hn]; exact (Array.getElem?_eq_some_iff.1 hi').1
  exact ⟨H, enc, m, xs[i], by rw [hf i f hi', List.getElem?_eq_getElem hlt]⟩
theorem Rd.field {P : Program} {w : World} {t : TypeId} {fs : Array Field} {cs : List Value} (hu : P.underlying t = some (.struct fs)) (h : Rd P w t cs) (i : Nat) {f : Field} (hf : fs[i]? = some f) : Rd P w f.type ((cs.drop f.offset).take (P.cellsOf f.type)) :=
  (h.struct hu).2 f (by
    have := (Array.getElem?_eq_some_iff.1 hf)
    exact Array.mem_toList_iff.2 (this.2 ▸ Array.getElem_mem _))
theorem Rd.array {P : Program} {w : World} {t e : TypeId} {k : Nat} {cs : List Value} (hu : P.underlying t = some (.array k e)) (h : Rd P w t cs) : cs.length = P.cellsOf t ∧ ∀ i, i < k → Rd P w e ((cs.drop (i * P.cellsOf e)).take (P.cellsOf e)) := by
  obtain ⟨H, enc, n, x, hx⟩ := h
  obtain ⟨xs, m, _, _, hl, hn, hf⟩ := DataW.trod_array hu hx
  exact ⟨hl, fun i hi => ⟨H, enc, m, xs[i]'(by omega), by rw [hf i hi, List.getElem?_eq_getElem]⟩⟩
/-- A slice: its elements, each by its cells. -/
theorem Rd.slice {P : Program} {w : World} {t e : TypeId} {cs : List Value} (hu : P.underlying t = some (.slice e)) (hz : 0 < P.cellsOf e) (h : Rd P w t cs) :
    ∃ (v : Value) (xs : List (List Value)), cs = [v] ∧ Sy.ReadsE (fun b => b < w.heap.size) w (P.cellsOf e) v xs.length xs ∧ ∀ c ∈ xs, Rd P w e c := by
  obtain ⟨H, enc, n, x, hx⟩ := h
  rcases DataW.trod_slice hu hx with ⟨rfl, _⟩ | ⟨a, len, cap, elems, rest, m, _, rfl, _, _, hc, hm, hl, he, _⟩
  · exact ⟨_, [], rfl, ⟨rfl, fun c hc => (by cases hc), _, _, rfl, Nat.le_refl _, Nat.zero_le _, fun h => absurd h (Nat.lt_irrefl _)⟩, fun c hc => (by cases hc)⟩
  · have one : ∀ i, i < len → ∃ (c : List Value) (y : DataW H × List MemPlace), w.cells? 0 (a.add (i * P.cellsOf e)) (P.cellsOf e) = some c ∧ DataW.trod enc P w 0 (fun _ => true) true m e c = some y := by
      intro i hi
      have := he i hi
      rw [List.getElem?_eq_getElem (by omega)] at this
      obtain ⟨c, h1, h2⟩ := Option.bind_eq_some_iff.1 this
      exact ⟨c, _, h1, h2⟩
    refine ⟨_, (List.range len).map fun i => (w.cells? 0 (a.add (i * P.cellsOf e)) (P.cellsOf e)).getD [], rfl, ?_, ?_⟩
    · have hszs : ∀ c ∈ (List.range len).map (fun i => (w.cells? 0 (a.add (i * P.cellsOf e)) (P.cellsOf e)).getD []), c.length = P.cellsOf e := by
        intro c hc
        obtain ⟨i, hi, rfl⟩ := List.mem_map.1 hc
        obtain ⟨c, y, h1, _⟩ := one i (by simpa using hi)
        rw [h1]
        exact (World.cells?_some h1).2.1
      refine ⟨rfl, hszs, some a, cap, by simp, by simpa using hc, hm, fun hp => ⟨a, rfl, ?_, fun j u hu => ?_⟩⟩
      · obtain ⟨c, y, h1, _⟩ := one 0 (by simpa using hp)
        have := World.cells?_block h1 hz
        rwa [Sy.addr_block] at this
      · have hj : j < len * P.cellsOf e := by
          have := (List.getElem?_eq_some_iff.1 hu).1
          rw [Sy.flat_len hszs] at this
          simpa using this
        have hi : j / P.cellsOf e < len := Nat.div_lt_of_lt_mul (by rw [Nat.mul_comm]; exact hj)
        have hk : j % P.cellsOf e < P.cellsOf e := Nat.mod_lt _ hz
        obtain ⟨c, y, h1, _⟩ := one _ hi
        obtain ⟨_, h2, h3⟩ := World.cells?_some h1
        have h4 := h3 _ hk
        rw [Sy.addr_add, Nat.div_add_mod' j (P.cellsOf e), List.getElem?_eq_getElem (by omega)] at h4
        have h5 := Sy.flat_get hszs (i := j / P.cellsOf e) (o := j % P.cellsOf e) (c := c) (u := c[j % P.cellsOf e]'(by omega)) (by simp [List.getElem?_range hi, h1]) (List.getElem?_eq_getElem _)
        rw [Nat.div_add_mod' j (P.cellsOf e)] at h5
        rw [h4, ← h5, hu]
    · intro c hc
      obtain ⟨i, hi, rfl⟩ := List.mem_map.1 hc
      obtain ⟨c, y, h1, h2⟩ := one i (by simpa using hi)
      rw [h1]
      exact ⟨H, enc, m, y, h2⟩
/-- Lists of things that are what is read. -/
theorem list_of {α : Type} {enc : α → List Value} {p : α → Prop} : ∀ {xs : List (List Value)}, (∀ c ∈ xs, ∃ x, c = enc x ∧ p x) → ∃ l : List α, xs = l.map enc ∧ ∀ x ∈ l, p x
  | [], _ => ⟨[], rfl, fun x hx => (by cases hx)⟩
  | c :: r, h => by
    obtain ⟨x, rfl, hp⟩ := h c (by simp)
    obtain ⟨l, rfl, hl⟩ := list_of (xs := r) fun c hc => h c (by simp [hc])
    exact ⟨x :: l, rfl, fun y hy => by
      rcases List.mem_cons.1 hy with rfl | hy
      · exact hp
      · exact hl y hy⟩
theorem take1 {α : Type} {cs : List α} {i : Nat} {x : α} (h : (cs.drop i).take 1 = [x]) : cs[i]? = some x := by
  have := congrArg (fun l => l[0]?) h
  simpa [List.getElem?_take, List.getElem?_drop] using this
theorem list2 {α : Type} {cs : List α} {x y : α} (hl : cs.length = 2) (h0 : cs[0]? = some x) (h1 : cs[1]? = some y) : cs = [x, y] := by
  match cs, hl with
  | [a, b], _ => simp at h0 h1; rw [h0, h1]
theorem list3 {α : Type} {cs : List α} {x y z : α} (hl : cs.length = 3) (h0 : cs[0]? = some x) (h1 : cs[1]? = some y) (h2 : cs[2]? = some z) : cs = [x, y, z] := by
  match cs, hl with
  | [a, b, c], _ => simp at h0 h1 h2; rw [h0, h1, h2]
theorem list4 {α : Type} {cs : List α} {x y z u : α} (hl : cs.length = 4) (h0 : cs[0]? = some x) (h1 : cs[1]? = some y) (h2 : cs[2]? = some z) (h3 : cs[3]? = some u) : cs = [x, y, z, u] := by
  match cs, hl with
  | [a, b, c, d], _ => simp at h0 h1 h2 h3; rw [h0, h1, h2, h3]
end Go.Proofs.YtmahldelmbhjfaaGreat
