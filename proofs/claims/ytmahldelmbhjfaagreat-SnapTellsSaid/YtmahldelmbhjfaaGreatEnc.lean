/- Small words for what all chapters use: integers as elements, lists read one by one. -/
import Derived.Test.YtmahldelmbhjfaaGreatAb
namespace Go.Proofs.YtmahldelmbhjfaaGreat
open Go Go.RowKit
open Sy (C SV V1 Blk St XD Els)

def I64 (x : Int) : Prop := -9223372036854775808 ≤ x ∧ x ≤ 9223372036854775807
theorem snoc_fold {α β : Type} (f : β → α → β) (b : β) (l : List α) (n : Nat) (h : n < l.length) : (l.take (n + 1)).foldl f b = f ((l.take n).foldl f b) l[n] := by
  rw [List.take_succ_eq_append_getElem h, List.foldl_append]; rfl
def encI (i : Int) : List Value := [.int .i64 i]
theorem ok_len {F : Nat → Prop} {w : World} {v : Value} {esz n : Nat} {xs : List (List Value)} (hr : XD.ok F w ⟨v, esz, n, xs⟩) : n ≤ 9223372036854775807 := by
  have := hr.1; obtain ⟨_, _, _, _, _, h1, h2, _⟩ := this; unfold maxLen at h2; show n ≤ _; have h1 : n ≤ _ := h1; omega
theorem nil_ok {F : Nat → Prop} {w : World} {esz : Nat} : XD.ok F w ⟨.slice none 0 0, esz, 0, []⟩ :=
  ⟨⟨rfl, fun c hc => (by cases hc), none, 0, rfl, Nat.le_refl _, by simp [maxLen], fun h0 => absurd h0 (Nat.lt_irrefl 0)⟩, fun c hc => (by cases hc)⟩
theorem lst_ne {α : Type} {xs ys : List α} (n : Nat) {x y : α} (hx : xs[n]? = some x) (hy : ys[n]? = some y) (h : x ≠ y) : xs ≠ ys := fun e => by
  subst e; rw [hx] at hy; exact h (Option.some.inj hy)
theorem lst_eq {α : Type} {xs ys : List α} (n : Nat) (h1 : n = xs.length) (hl : xs.length = ys.length) (h : ∀ i, i < n → xs[i]? = ys[i]?) : xs = ys := by
  subst h1
  refine List.ext_getElem? fun i => ?_
  by_cases hi : i < xs.length
  · exact h i hi
  · rw [List.getElem?_eq_none (by omega), List.getElem?_eq_none (by omega)]
theorem pre_succ {α : Type} {xs ys : List α} {n : Nat} {x y : α} (hx : xs[n]? = some x) (hy : ys[n]? = some y) (h : x = y) (hp : ∀ i, i < n → xs[i]? = ys[i]?) : ∀ i, i < n + 1 → xs[i]? = ys[i]? := fun i hi => by
  by_cases e : i = n
  · subst e; rw [hx, hy, h]
  · exact hp i (by omega)
end Go.Proofs.YtmahldelmbhjfaaGreat
