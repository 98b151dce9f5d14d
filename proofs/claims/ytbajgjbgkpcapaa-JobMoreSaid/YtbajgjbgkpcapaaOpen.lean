/- What comes in, opened: a reading that came through gives the cells that a slice holds, and a reading of each element. -/
import Derived.Test.YtbajgjbgkpcapaaSx8
import Derived.ChangeArms
import Derived.ChangeOld
import Derived.ChangeReads
import Derived.Below
namespace Go.Proofs.Ytbajgjbgkpcapaa
open Go Go.RowKit

/-- The cells read as a value of type t. -/
def Rd (P : Program) (w : World) (t : TypeId) (cs : List Value) : Prop := ∃ (H : Type) (enc : TypeId × Value → H) (n : Nat) (x : DataW H × List MemPlace), DataW.trod enc P w 0 (fun _ => true) true n t cs = some x
theorem Rd.of {H : Type} {enc : TypeId × Value → H} {P : Program} {w : World} {t : TypeId} {v : Value} {d : DataW H} {p : List MemPlace} (h : DataW.Trod enc P w 0 (fun _ => true) true t v d p) : Rd P w t v.cells.toList := by
  obtain ⟨n, hn⟩ := h
  exact ⟨H, enc, n, _, hn⟩
theorem Rd.later {P : Program} {w w' : World} {t : TypeId} {cs : List Value} (h : Rd P w t cs) (hb : Below w.heap.size w w') : Rd P w' t cs := by
  obtain ⟨H, enc, n, x, hx⟩ := h
  exact ⟨H, enc, n, x, DataW.trod_carry n _ _ _ hx fun p hp => hb.same (DataW.trod_lt n _ _ _ hx p hp)⟩
theorem Rd.int {P : Program} {w : World} {t : TypeId} {k : IntKind} {cs : List Value} (hu : P.underlying t = some (.int k)) (h : Rd P w t cs) : ∃ n, cs = [.int k n] ∧ (Lit.int k n).wf = true := by
  obtain ⟨H, enc, n, x, hx⟩ := h
  obtain ⟨i, h1, _, h2⟩ := DataW.trod_int hu hx
  exact ⟨i, h1, h2⟩
theorem Rd.bool {P : Program} {w : World} {t : TypeId} {cs : List Value} (hu : P.underlying t = some .bool) (h : Rd P w t cs) : ∃ b, cs = [.bool b] := by
  obtain ⟨H, enc, n, x, hx⟩ := h
  obtain ⟨i, h1, _⟩ := DataW.trod_bool hu hx
  exact ⟨i, h1⟩
theorem Rd.string {P : Program} {w : World} {t : TypeId} {cs : List Value} (hu : P.underlying t = some .string) (h : Rd P w t cs) : ∃ s : ByteArray, cs = [.string s] ∧ s.size ≤ maxLen := by
  obtain ⟨H, enc, n, x, hx⟩ := h
  obtain ⟨i, h1, _, h2⟩ := DataW.trod_string hu hx
  exact ⟨i, h1, h2⟩
theorem Rd.struct {P : Program} {w : World} {t : TypeId} {fs : Array Field} {cs : List Value} (hu : P.underlying t = some (.struct fs)) (h : Rd P w t cs) : cs.length = P.cellsOf t ∧ ∀ f ∈ fs.toList, Rd P w f.type ((cs.drop f.offset).take (P.cellsOf f.type)) := by
  obtain ⟨H, enc, n, x, hx⟩ := h
  obtain ⟨xs, m, _, _, hl, hn, hf⟩ := DataW.trod_struct hu hx
  refine ⟨hl, fun f hm => ?_⟩
  obtain ⟨i, hi⟩ := List.mem_iff_getElem?.1 hm
  have hi' : fs[i]? = some f := by simpa using hi
  have hlt : i < xs.length := by rw [hn]; exact (Array.getElem?_eq_some_iff.1 hi').1
  exact ⟨H, enc, m, xs[i], by rw [hf i f hi', List.getElem?_eq_getElem hlt]⟩
theorem Rd.slice {P : Program} {w : World} {t e : TypeId} {cs : List Value} (hu : P.underlying t = some (.slice e)) (hz : 0 < P.cellsOf e) (h : Rd P w t cs) :
    ∃ (v : Value) (n : Nat) (xs : List Value), cs = [v] ∧ Sx.Reads (fun b => b < w.heap.size) w (P.cellsOf e) v n xs ∧ n ≤ maxLen ∧ ∀ i, i < n → Rd P w e ((xs.drop (i * P.cellsOf e)).take (P.cellsOf e)) := by
  obtain ⟨H, enc, n, x, hx⟩ := h
  rcases DataW.trod_slice hu hx with ⟨rfl, _⟩ | ⟨a, len, cap, elems, rest, m, _, rfl, _, _, hc, hm, hl, he, _⟩
  · exact ⟨_, 0, [], rfl, ⟨by simp, _, _, rfl, Nat.le_refl _, Nat.zero_le _, fun h => absurd h (Nat.lt_irrefl _)⟩, Nat.zero_le _, fun i hi => absurd hi (Nat.not_lt_zero _)⟩
  · have one : ∀ i, i < len → ∃ (c : List Value) (y : DataW H × List MemPlace), w.cells? 0 (a.add (i * P.cellsOf e)) (P.cellsOf e) = some c ∧ DataW.trod enc P w 0 (fun _ => true) true m e c = some y := by
      intro i hi
      have := he i hi
      rw [List.getElem?_eq_getElem (by omega)] at this
      obtain ⟨c, h1, h2⟩ := Option.bind_eq_some_iff.1 this
      exact ⟨c, _, h1, h2⟩
    have cell : ∀ j, j < len * P.cellsOf e → ∃ u, w.cell? (a.add j) = some u := by
      intro j hj
      have hi : j / P.cellsOf e < len := Nat.div_lt_of_lt_mul (by rw [Nat.mul_comm]; exact hj)
      obtain ⟨c, y, h1, _⟩ := one _ hi
      obtain ⟨_, h2, h3⟩ := World.cells?_some h1
      have hk : j % P.cellsOf e < P.cellsOf e := Nat.mod_lt _ hz
      have := h3 _ hk
      rw [Sx.addr_add, Nat.div_add_mod' j (P.cellsOf e), List.getElem?_eq_getElem (by omega)] at this
      exact ⟨_, this⟩
    refine ⟨_, len, (List.range (len * P.cellsOf e)).map fun j => (w.cell? (a.add j)).getD undef, rfl, ⟨by simp, _, _, rfl, hc, hm, fun hp => ⟨a, rfl, ?_, fun j u hu => ?_⟩⟩, Nat.le_trans hc hm, fun i hi => ?_⟩
    · obtain ⟨c, y, h1, _⟩ := one 0 hp
      have := World.cells?_block h1 hz
      rwa [Sx.addr_block] at this
    · rw [List.getElem?_map] at hu
      rcases Nat.lt_or_ge j (len * P.cellsOf e) with hj | hj
      · rw [List.getElem?_range hj] at hu
        obtain ⟨u', hu'⟩ := cell j hj
        rw [hu']
        simpa [hu'] using hu
      · rw [List.getElem?_eq_none (by simpa using hj)] at hu
        cases hu
    · obtain ⟨c, y, h1, h2⟩ := one i hi
      obtain ⟨_, hcl, h3⟩ := World.cells?_some h1
      have hle : i * P.cellsOf e + P.cellsOf e ≤ len * P.cellsOf e := by
        have : (i + 1) * P.cellsOf e ≤ len * P.cellsOf e := Nat.mul_le_mul_right _ hi
        rwa [Nat.add_mul, Nat.one_mul] at this
      have hcs : (((List.range (len * P.cellsOf e)).map fun j => (w.cell? (a.add j)).getD undef).drop (i * P.cellsOf e)).take (P.cellsOf e) = c := by
        apply List.ext_getElem?
        intro j
        rcases Nat.lt_or_ge j (P.cellsOf e) with hj | hj
        · have := h3 j hj
          rw [Sx.addr_add] at this
          rw [List.getElem?_take_of_lt hj, List.getElem?_drop, List.getElem?_map, List.getElem?_range (by omega), ← this]
          obtain ⟨u, hu⟩ := cell (i * P.cellsOf e + j) (by omega)
          simp [hu]
        · rw [List.getElem?_eq_none (by simp; omega), List.getElem?_eq_none (by omega)]
      rw [hcs]
      exact ⟨H, enc, m, y, h2⟩
end Go.Proofs.Ytbajgjbgkpcapaa
