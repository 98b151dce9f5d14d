/- Sets of numbers, as maps. -/
import Derived.Test.YtbajgjbgkpcapaaEnc
import Derived.Test.YtbajgjbgkpcapaaSyG
namespace Go.Proofs.Ytbajgjbgkpcapaa
open Go Go.RowKit

/-- A set of numbers, as a map's entries. -/
def setE (ks : List Int) : List (Value × Value) := (ks.map fun k => (k, Value.bool true)).map fun z => (Value.int .i64 z.1, z.2)
theorem set_add {P : Program} {kt : Nat} {K : Option (Nat × Value) → Prop} (ks : List Int) (x : Int) (hu : P.underlying kt = some (.int .i64)) (hn : ks.Nodup) (hk : ∀ r, (x ∈ ks ∧ ∃ i, r = some (i, .bool true) ∧ ks[i]? = some x) ∨ (x ∉ ks ∧ r = none) → K r) : Sy.findP P kt (.int .i64 x) (setE ks) K := by
  by_cases hx : x ∈ ks
  · obtain ⟨i, hi, he⟩ := List.mem_iff_getElem.1 hx
    have hg : ks[i]? = some x := by rw [List.getElem?_eq_getElem hi, he]
    refine Sy.map_hit (ks.map fun k => (k, Value.bool true)) x i (.bool true) hu (by simp [hg]) (fun j z hj hz => ?_) (hk _ (.inl ⟨hx, i, rfl, hg⟩))
    rw [List.getElem?_map] at hz
    obtain ⟨y, hy, rfl⟩ := Option.map_eq_some_iff.1 hz
    intro e
    have e : y = x := e
    subst e
    obtain ⟨hj', hy⟩ := List.getElem?_eq_some_iff.1 hy
    have := (List.getElem_inj hn).1 (hy.trans he.symm)
    omega
  · refine Sy.map_miss (ks.map fun k => (k, Value.bool true)) x hu (fun z hz => ?_) (hk _ (.inr ⟨hx, rfl⟩))
    obtain ⟨y, hy, rfl⟩ := List.mem_map.1 hz
    intro e
    have e : y = x := e
    subst e; exact hx hy
theorem set_same (ks : List Int) {i : Nat} {x : Int} (h : ks[i]? = some x) : (setE ks).set i (.int .i64 x, .bool true) = setE ks := by
  obtain ⟨hi, he⟩ := List.getElem?_eq_some_iff.1 h
  unfold setE
  refine List.ext_getElem? fun j => ?_
  rw [List.getElem?_set]
  split
  · rename_i e; subst e
    simp [hi, he]
  · rfl
theorem set_new (ks : List Int) (x : Int) : setE ks ++ [(.int .i64 x, .bool true)] = setE (ks ++ [x]) := by simp [setE]
theorem set_nil : setE [] = [] := rfl
theorem set_step {ks : List Int} {ts : List Int} {m : Nat} {x : Int} (hg : ts[m]? = some x) (hm : ∀ y, y ∈ ks ↔ y ∈ ts.take m) (y : Int) : (y ∈ ks ∨ y = x) ↔ y ∈ ts.take (m + 1) := by
  obtain ⟨hl, he⟩ := List.getElem?_eq_some_iff.1 hg
  rw [List.take_succ_eq_append_getElem hl, List.mem_append, List.mem_singleton, he, hm]
end Go.Proofs.Ytbajgjbgkpcapaa
