/- Graph: the sources of an operator: plain laws. -/
import Derived.Test.YtmahldelmbhjfaaGreatGB
import Derived.Test.YtmahldelmbhjfaaGreatCompactI
import Derived.Test.YtmahldelmbhjfaaGreatConcat
namespace Go.Proofs.YtmahldelmbhjfaaGreat
open Go Go.RowKit

def hasSrc (g : List Opr) : Nat → Nat → Int → Bool
  | 0, _, _ => false
  | f + 1, i, s => match g[i]? with
    | none => false
    | some o => if o.tag = 1 then decide (o.a = s) else o.ins.any fun k => hasSrc g f k.toNat s
def srcs (g : List Opr) (i : Nat) : List Int := ([0, 1, 2, 3] : List Int).filter (hasSrc g (i + 1) i)
/-- The operators below n may stand alone. -/
def goodTo (g : List Opr) (n : Nat) : Prop := ∀ j o, j < n → g[j]? = some o → AloneP o j
theorem goodTo.mono {g : List Opr} {n m : Nat} (h : goodTo g n) (hm : m ≤ n) : goodTo g m := fun j o hj ho => h j o (by omega) ho
theorem rises_mem {below : Int} : ∀ {l : List Int} {last : Int}, risesB last below l = true → ∀ k ∈ l, last < k ∧ k < below
  | [], _, _, k, hk => by cases hk
  | n :: r, last, h, k, hk => by
    simp only [risesB, Bool.and_eq_true, decide_eq_true_eq] at h
    rcases List.mem_cons.1 hk with rfl | hk
    · exact h.1
    · have := rises_mem h.2 k hk
      omega
theorem alone_ins {o : Opr} {i : Int} (h : AloneP o i) : ∀ k ∈ o.ins, 0 ≤ k ∧ k < i := fun k hk => by
  have := rises_mem h.2.2.1 k hk
  omega
theorem any_congr' {l : List Int} {p q : Int → Bool} (h : ∀ k ∈ l, p k = q k) : l.any p = l.any q := by
  induction l with
  | nil => rfl
  | cons x r ih => rw [List.any_cons, List.any_cons, h x (by simp), ih fun k hk => h k (by simp [hk])]
theorem hasSrc_fuel (g : List Opr) : ∀ (i : Nat), goodTo g (i + 1) → ∀ f, i < f → ∀ s, hasSrc g f i s = hasSrc g (i + 1) i s := by
  intro i
  induction i using Nat.strongRecOn with
  | _ i ih =>
    intro hg f hf s
    obtain ⟨f, rfl⟩ : ∃ f', f = f' + 1 := ⟨f - 1, by omega⟩
    unfold hasSrc
    cases ho : g[i]? with
    | none => rfl
    | some o =>
      dsimp only
      split
      · rfl
      · refine any_congr' fun k hk => ?_
        have hk' := alone_ins (hg i o (by omega) ho) k hk
        have hlt : k.toNat < i := by omega
        rw [ih k.toNat hlt (hg.mono (by omega)) f (by omega) s, ih k.toNat hlt (hg.mono (by omega)) i hlt s]
theorem hasSrc_at {g : List Opr} {i : Nat} {o : Opr} (hg : goodTo g (i + 1)) (ho : g[i]? = some o) (s : Int) : hasSrc g (i + 1) i s = true ↔ (o.tag = 1 ∧ o.a = s) ∨ (o.tag ≠ 1 ∧ ∃ k ∈ o.ins, hasSrc g (k.toNat + 1) k.toNat s = true) := by
  rw [show hasSrc g (i + 1) i s = (if o.tag = 1 then decide (o.a = s) else o.ins.any fun k => hasSrc g i k.toNat s) by rw [hasSrc, ho]]
  by_cases h1 : o.tag = 1
  · simp [h1]
  · simp only [h1, if_false, false_and, false_or, List.any_eq_true, ne_eq, not_false_iff, true_and]
    constructor
    · rintro ⟨k, hk, h⟩
      have hk' := alone_ins (hg i o (by omega) ho) k hk
      exact ⟨k, hk, by rw [← hasSrc_fuel g k.toNat (hg.mono (by omega)) i (by omega) s]; exact h⟩
    · rintro ⟨k, hk, h⟩
      have hk' := alone_ins (hg i o (by omega) ho) k hk
      exact ⟨k, hk, by rw [hasSrc_fuel g k.toNat (hg.mono (by omega)) i (by omega) s]; exact h⟩
theorem hasSrc_range (g : List Opr) : ∀ (i : Nat), goodTo g (i + 1) → ∀ s, hasSrc g (i + 1) i s = true → 0 ≤ s ∧ s < 4 := by
  intro i
  induction i using Nat.strongRecOn with
  | _ i ih =>
    intro hg s h
    cases ho : g[i]? with
    | none => rw [hasSrc, ho] at h; cases h
    | some o =>
      have ha := hg i o (by omega) ho
      rcases (hasSrc_at hg ho s).1 h with ⟨h1, h2⟩ | ⟨h1, k, hk, h2⟩
      · obtain ⟨_, _, _, h3⟩ := ha
        omega
      · have hk' := alone_ins ha k hk
        exact ih k.toNat (by omega) (hg.mono (by omega)) s h2
theorem srcs_mem {g : List Opr} {i : Nat} (hg : goodTo g (i + 1)) (s : Int) : s ∈ srcs g i ↔ hasSrc g (i + 1) i s = true := by
  unfold srcs
  rw [List.mem_filter]
  refine ⟨fun h => h.2, fun h => ⟨?_, h⟩⟩
  have := hasSrc_range g i hg s h
  have : s = 0 ∨ s = 1 ∨ s = 2 ∨ s = 3 := by omega
  rcases this with rfl | rfl | rfl | rfl <;> simp
theorem srcs_strict (g : List Opr) (i : Nat) : strict (srcs g i) := List.Pairwise.filter _ (by decide)
theorem srcs_len (g : List Opr) (i : Nat) : (srcs g i).length ≤ 4 := List.length_filter_le _ _
theorem srcs_src {g : List Opr} {i : Nat} {o : Opr} (hg : goodTo g (i + 1)) (ho : g[i]? = some o) (h1 : o.tag = 1) : srcs g i = [o.a] :=
  strict_ext (srcs_strict g i) (List.pairwise_singleton _ _) fun x => by
    rw [srcs_mem hg, hasSrc_at hg ho]
    constructor
    · rintro (⟨_, h⟩ | ⟨h, _⟩)
      · rw [h]; exact List.mem_singleton.2 rfl
      · exact absurd h1 h
    · intro h
      exact .inl ⟨h1, (List.mem_singleton.1 h).symm⟩
theorem srcs_ins {g : List Opr} {i : Nat} {o : Opr} (hg : goodTo g (i + 1)) (ho : g[i]? = some o) (h1 : o.tag ≠ 1) (x : Int) : x ∈ srcs g i ↔ ∃ k ∈ o.ins, x ∈ srcs g k.toNat := by
  rw [srcs_mem hg, hasSrc_at hg ho]
  constructor
  · rintro (⟨h, _⟩ | ⟨_, k, hk, h⟩)
    · exact absurd h h1
    · have hk' := alone_ins (hg i o (by omega) ho) k hk
      exact ⟨k, hk, (srcs_mem (hg.mono (by omega)) x).2 h⟩
  · rintro ⟨k, hk, h⟩
    have hk' := alone_ins (hg i o (by omega) ho) k hk
    exact .inr ⟨h1, k, hk, (srcs_mem (hg.mono (by omega)) x).1 h⟩
/-- Rows of the inputs' sources. -/
def srcRows (g : List Opr) (l : List Int) : List (List Int) := l.map fun k => srcs g k.toNat
theorem srcRows_len (g : List Opr) (l : List Int) : (srcRows g l).flatten.length ≤ 4 * l.length := by
  induction l with
  | nil => simp [srcRows]
  | cons k r ih =>
    have := srcs_len g k.toNat
    simp only [srcRows, List.map_cons, List.flatten_cons, List.length_append, List.length_cons] at *
    omega
theorem srcs_union {g : List Opr} {i : Nat} {o : Opr} (hg : goodTo g (i + 1)) (ho : g[i]? = some o) (h1 : o.tag ≠ 1) : Lib.compact (sortL (srcRows g o.ins).flatten) = srcs g i := by
  obtain ⟨h2, h3⟩ := compact_sort (srcRows g o.ins).flatten
  refine strict_ext h2 (srcs_strict g i) fun x => ?_
  rw [h3, srcs_ins hg ho h1, List.mem_flatten]
  constructor
  · rintro ⟨l, hl, hx⟩
    obtain ⟨k, hk, rfl⟩ := List.mem_map.1 hl
    exact ⟨k, hk, hx⟩
  · rintro ⟨k, hk, hx⟩
    exact ⟨_, List.mem_map_of_mem hk, hx⟩
end Go.Proofs.YtmahldelmbhjfaaGreat
