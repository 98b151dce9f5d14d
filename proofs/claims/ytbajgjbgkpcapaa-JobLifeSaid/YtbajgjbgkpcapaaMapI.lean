/- Maps from integers to integers. -/
import Derived.Test.YtbajgjbgkpcapaaEnc
import Derived.Test.YtbajgjbgkpcapaaSyG
namespace Go.Proofs.Ytbajgjbgkpcapaa
open Go Go.RowKit

def mpI (l : List (Int × Int)) : List (Value × Value) := l.map fun z => (Value.int .i64 z.1, Value.int .i64 z.2)
theorem mpI_len (l : List (Int × Int)) : (mpI l).length = l.length := by unfold mpI; rw [List.length_map]
theorem mpI_eq (l : List (Int × Int)) : mpI l = (l.map fun z => (z.1, Value.int .i64 z.2)).map fun z => (Value.int .i64 z.1, z.2) := by unfold mpI; rw [List.map_map]; rfl
theorem mpI_add (l : List (Int × Int)) (x c : Int) : Sy.setEs (mpI l) (.int .i64 x) (.int .i64 c) none = mpI (l ++ [(x, c)]) := by
  unfold mpI Sy.setEs; rw [List.map_append]; rfl
/-- The key is not there. -/
theorem miss_i {P : Program} {kt : TypeId} {K : Option (Nat × Value) → Prop} (l : List (Int × Int)) (x : Int) (hno : ∀ z ∈ l, z.1 ≠ x) (hk : K none) (hu : P.underlying kt = some (.int .i64) := by rfl) : Sy.findP P kt (.int .i64 x) (mpI l) K := by
  rw [mpI_eq]
  refine Sy.map_miss _ x hu (fun z hz => ?_) hk
  obtain ⟨y, hy, rfl⟩ := List.mem_map.1 hz
  exact hno y hy
theorem first_of {l : List (Int × Int)} {x c : Int} (hnd : (l.map Prod.fst).Nodup) (hm : (x, c) ∈ l) : ∃ p, l[p]? = some (x, c) ∧ ∀ (j : Nat) (z : Int × Int), j < p → l[j]? = some z → z.1 ≠ x := by
  obtain ⟨p, hp⟩ := List.mem_iff_getElem?.1 hm
  refine ⟨p, hp, fun j z hj hz he => ?_⟩
  have h1 : (l.map Prod.fst)[j]? = some x := by rw [List.getElem?_map, hz]; exact congrArg some he
  have h2 : (l.map Prod.fst)[p]? = some x := by rw [List.getElem?_map, hp]; rfl
  have hlt := (List.getElem?_eq_some_iff.1 h1).1
  have := (List.getElem?_inj hlt hnd).1 (h1.trans h2.symm)
  omega
/-- The key is there. -/
theorem hit_i {P : Program} {kt : TypeId} {K : Option (Nat × Value) → Prop} (l : List (Int × Int)) (x c : Int) (hnd : (l.map Prod.fst).Nodup) (hm : (x, c) ∈ l) (hk : ∀ p, p < l.length → l[p]? = some (x, c) → K (some (p, .int .i64 c))) (hu : P.underlying kt = some (.int .i64) := by rfl) : Sy.findP P kt (.int .i64 x) (mpI l) K := by
  obtain ⟨p, hp, hno⟩ := first_of hnd hm
  rw [mpI_eq]
  refine Sy.map_hit _ x p (.int .i64 c) hu (by rw [List.getElem?_map, hp]; rfl) (fun j z hj hz => ?_) (hk p (List.getElem?_eq_some_iff.1 hp).1 hp)
  rw [List.getElem?_map] at hz
  obtain ⟨y, hy, rfl⟩ := Option.map_eq_some_iff.1 hz
  exact hno j y hj hy
theorem mpI_set (l : List (Int × Int)) (x c d : Int) (p : Nat) (_ : l[p]? = some (x, d)) : Sy.setEs (mpI l) (.int .i64 x) (.int .i64 c) (some (p, .int .i64 d)) = mpI (l.set p (x, c)) := by
  unfold mpI Sy.setEs
  rw [List.map_set]
theorem mpI_one {l : List (Int × Int)} : ∀ z ∈ mpI l, z.1.oneCell' = true := fun z hz => by
  unfold mpI at hz
  obtain ⟨y, _, rfl⟩ := List.mem_map.1 hz
  rfl
theorem mpI_at {l : List (Int × Int)} {i : Nat} {kv v : Value} (h : (mpI l)[i]? = some (kv, v)) : ∃ c, l[i]? = some c ∧ kv = .int .i64 c.1 ∧ v = .int .i64 c.2 := by
  unfold mpI at h
  rw [List.getElem?_map] at h
  obtain ⟨c, hc, he⟩ := Option.map_eq_some_iff.1 h
  exact ⟨c, hc, (congrArg Prod.fst he).symm, (congrArg Prod.snd he).symm⟩
/-- One less is left. -/
theorem left_less {left : List Nat} {i : Nat} (h : i ∈ left) : (left.filter fun j => !(Nat.beq j i)).length < left.length := by
  have : (left.filter fun j => !(Nat.beq j i)).length ≠ left.length := fun he => by
    have := List.length_filter_eq_length_iff.1 he i h
    simp at this
  have h2 := List.length_filter_le (fun j => !(Nat.beq j i)) left
  omega
theorem left_not {left : List Nat} {i k : Nat} (h : k ∉ left.filter fun j => !(Nat.beq j i)) : k = i ∨ k ∉ left := by
  by_cases hk : k = i
  · exact .inl hk
  · exact .inr fun hm => h (List.mem_filter.2 ⟨hm, by cases hb : Nat.beq k i with
      | true => exact absurd (Nat.eq_of_beq_eq_true hb) hk
      | false => rfl⟩)
end Go.Proofs.Ytbajgjbgkpcapaa
