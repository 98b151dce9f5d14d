/- Maps from uint64 to bool, by their keys and what stands at each. -/
import Derived.Test.YtkmdmjnbjoakbaaEnc
import Derived.Test.YtkmdmjnbjoakbaaSyG
namespace Go.Proofs.Ytkmdmjnbjoakbaa
open Go Go.RowKit

def mpU (ks : List Int) (f : Int → Bool) : List (Value × Value) := ks.map fun k => (Value.int .u64 k, Value.bool (f k))
def updB (f : Int → Bool) (x : Int) (b : Bool) : Int → Bool := fun y => if y = x then b else f y
theorem updB_at (f : Int → Bool) (x : Int) (b : Bool) : updB f x b x = b := by unfold updB; rw [if_pos rfl]
theorem updB_ne {f : Int → Bool} {x y : Int} {b : Bool} (h : y ≠ x) : updB f x b y = f y := by unfold updB; rw [if_neg h]
theorem updB_true (x : Int) : updB (fun _ => true) x true = fun _ => true := by
  funext y
  unfold updB
  split <;> rfl
theorem mpU_nil (f : Int → Bool) : mpU [] f = [] := rfl
theorem mpU_eq (ks : List Int) (f : Int → Bool) : mpU ks f = (ks.map fun k => (k, Value.bool (f k))).map fun z => (Value.int .u64 z.1, z.2) := by unfold mpU; rw [List.map_map]; rfl
theorem mpU_one {ks : List Int} {f : Int → Bool} : ∀ z ∈ mpU ks f, z.1.oneCell' = true := fun z hz => by
  unfold mpU at hz
  obtain ⟨y, _, rfl⟩ := List.mem_map.1 hz
  rfl
theorem mpU_at {ks : List Int} {f : Int → Bool} {i : Nat} {kv v : Value} (h : (mpU ks f)[i]? = some (kv, v)) : ∃ c, ks[i]? = some c ∧ kv = .int .u64 c ∧ v = .bool (f c) := by
  unfold mpU at h
  rw [List.getElem?_map] at h
  obtain ⟨c, hc, he⟩ := Option.map_eq_some_iff.1 h
  exact ⟨c, hc, (congrArg Prod.fst he).symm, (congrArg Prod.snd he).symm⟩
theorem u_miss {P : Program} {kt : TypeId} {K : Option (Nat × Value) → Prop} {ks : List Int} {f : Int → Bool} (x : Int) (hno : x ∉ ks) (hk : K none) (hu : P.underlying kt = some (.int .u64) := by rfl) : Sy.findP P kt (.int .u64 x) (mpU ks f) K := by
  rw [mpU_eq]
  refine Sy.map_miss _ x hu (fun z hz => ?_) hk
  obtain ⟨y, hy, rfl⟩ := List.mem_map.1 hz
  exact fun e => hno (e ▸ hy)
theorem u_hit {P : Program} {kt : TypeId} {K : Option (Nat × Value) → Prop} {ks : List Int} {f : Int → Bool} (x : Int) (hn : ks.Nodup) (hm : x ∈ ks) (hk : ∀ i, ks[i]? = some x → K (some (i, .bool (f x)))) (hu : P.underlying kt = some (.int .u64) := by rfl) : Sy.findP P kt (.int .u64 x) (mpU ks f) K := by
  rw [mpU_eq]
  obtain ⟨i, hi, he⟩ := List.mem_iff_getElem.1 hm
  have hg : ks[i]? = some x := by rw [List.getElem?_eq_getElem hi, he]
  refine Sy.map_hit _ x i (.bool (f x)) hu (by simp [hg]) (fun j z hj hz => ?_) (hk i hg)
  rw [List.getElem?_map] at hz
  obtain ⟨y, hy, rfl⟩ := Option.map_eq_some_iff.1 hz
  intro e
  have e : y = x := e
  subst e
  obtain ⟨hj', hy⟩ := List.getElem?_eq_some_iff.1 hy
  have := (List.getElem_inj hn).1 (hy.trans he.symm)
  omega
theorem u_add {ks : List Int} {f : Int → Bool} {x : Int} (b : Bool) (h : x ∉ ks) : Sy.setEs (mpU ks f) (.int .u64 x) (.bool b) none = mpU (ks ++ [x]) (updB f x b) := by
  unfold mpU Sy.setEs
  have h1 : ks.map (fun k => (Value.int .u64 k, Value.bool (f k))) = ks.map (fun k => (Value.int .u64 k, Value.bool (updB f x b k))) := List.map_congr_left fun k hk => by
    rw [updB_ne fun e => h (by rw [← e]; exact hk)]
  rw [List.map_append, List.map_singleton, updB_at, h1]
theorem u_set {ks : List Int} {f : Int → Bool} {x : Int} {i : Nat} {v : Value} (b : Bool) (hn : ks.Nodup) (h : ks[i]? = some x) : Sy.setEs (mpU ks f) (.int .u64 x) (.bool b) (some (i, v)) = mpU ks (updB f x b) := by
  unfold mpU Sy.setEs
  refine List.ext_getElem? fun j => ?_
  obtain ⟨hi, he⟩ := List.getElem?_eq_some_iff.1 h
  by_cases hj : i = j
  · subst hj
    simp [hi, he, updB_at]
  · rw [List.getElem?_set_ne hj, List.getElem?_map, List.getElem?_map]
    cases hg : ks[j]? with
    | none => rfl
    | some y =>
      have hne : y ≠ x := fun e => by
        obtain ⟨hj2, hy⟩ := List.getElem?_eq_some_iff.1 hg
        have := (List.getElem_inj hn).1 (he.trans (e.symm.trans hy.symm))
        exact hj this
      simp [updB_ne hne]
/-- One less is left. -/
theorem left_less {left : List Nat} {i : Nat} (h : i ∈ left) : (left.filter fun j => !(Nat.beq j i)).length < left.length := by
  have : (left.filter fun j => !(Nat.beq j i)).length ≠ left.length := fun he => by
    have := List.length_filter_eq_length_iff.1 he i h
    simp at this
  have h2 := List.length_filter_le (fun j => !(Nat.beq j i)) left
  omega
/-- What a lookup gives where nothing stands. -/
theorem mpU_congr {ks : List Int} {f g : Int → Bool} (h : ∀ k ∈ ks, f k = g k) : mpU ks f = mpU ks g := List.map_congr_left fun k hk => by rw [h k hk]
end Go.Proofs.Ytkmdmjnbjoakbaa
