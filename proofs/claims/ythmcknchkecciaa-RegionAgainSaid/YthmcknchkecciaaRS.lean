/- Region: plain laws of Anew. -/
import Derived.Test.YthmcknchkecciaaRN
namespace Go.Proofs.Ythmcknchkecciaa
open Go Go.RowKit

/-- The operator of a subtask. -/
def opAt (g : List Opr) (t : Int) : Nat := (opV g t).1
def Tin (g : List Opr) (l : List Int) : Prop := ∀ t ∈ l, 0 ≤ t ∧ t < ((subsL g).length : Int)
theorem anew_in {g : List Opr} (h0 : (checkV g).2 = 0) {l : List Int} (hl : Tin g l) : anewE g l = 0 ∧ anewV g l = tasksL g (opsC g l) := by
  have hs : subtasks g = ((subsL g).length : Int) := by rw [subs_all h0]; rfl
  have hth : thereB g l = true := by
    unfold thereB
    rw [List.all_eq_true]
    intro t ht
    rw [hs]
    exact decide_eq_true (hl t ht)
  have hE : anewE g l = 0 := by unfold anewE; rw [if_pos h0, if_pos hth]
  exact ⟨hE, by unfold anewV; rw [if_pos hE]⟩
theorem opAt_of {g : List Opr} (h0 : (checkV g).2 = 0) {j : Nat} {s : Nat × Nat} (h : (subsL g)[j]? = some s) : opAt g (j : Int) = s.1 := by
  have hs : subtasks g = ((subsL g).length : Int) := by rw [subs_all h0]; rfl
  have hj := (List.getElem?_eq_some_iff.1 h).1
  have ha : askE g (j : Int) (subtasks g) = 0 := by unfold askE; rw [if_pos h0, if_neg (by omega)]
  unfold opAt opV
  rw [if_pos ha, Int.toNat_natCast, h]
  rfl
theorem anew_mem {g : List Opr} (h0 : (checkV g).2 = 0) {l : List Int} {x : Int} : x ∈ tasksL g (opsC g l) ↔ (0 ≤ x ∧ x < ((subsL g).length : Int)) ∧ ∃ t ∈ l, regOf g (opAt g x) = regOf g (opAt g t) := by
  have hg := check_good h0
  rw [tasksL_mem]
  constructor
  · rintro ⟨j, s, hj, hs, rfl⟩
    have hlt := (List.getElem?_eq_some_iff.1 hj).1
    obtain ⟨r, hr, hs⟩ := List.mem_flatten.1 hs
    obtain ⟨t, ht, rfl⟩ := List.mem_map.1 hr
    have := (ofL_mem.1 hs).2
    rw [Int.toNat_natCast] at this
    exact ⟨by omega, t, ht, by rw [opAt_of h0 hj, this]; rfl⟩
  · rintro ⟨⟨h1, h2⟩, t, ht, he⟩
    obtain ⟨j, rfl⟩ : ∃ j : Nat, x = (j : Int) := ⟨x.toNat, by omega⟩
    have hlt : j < (subsL g).length := by omega
    have hj := List.getElem?_eq_getElem hlt
    have hm := subsL_mem hg (List.getElem_mem hlt)
    generalize (subsL g)[j] = s at *
    refine ⟨j, s, hj, ?_, rfl⟩
    rw [opAt_of h0 hj] at he
    refine List.mem_flatten.2 ⟨_, List.mem_map.2 ⟨t, ht, rfl⟩, ofL_mem.2 ⟨by omega, ?_⟩⟩
    rw [Int.toNat_natCast, he]; rfl
/-- What comes of all begun anew is what was begun anew. -/
theorem anew_twice {g : List Opr} (h0 : (checkV g).2 = 0) (l : List Int) : tasksL g (opsC g (tasksL g (opsC g l))) = tasksL g (opsC g l) := by
  refine strict_ext (tasksL_strict _ _) (tasksL_strict _ _) fun x => ?_
  rw [anew_mem h0]
  constructor
  · rintro ⟨hb, t, ht, he⟩
    obtain ⟨_, u, hu, he2⟩ := (anew_mem h0).1 ht
    exact (anew_mem h0).2 ⟨hb, u, hu, he.trans he2⟩
  · intro hx
    exact ⟨((anew_mem h0).1 hx).1, x, hx, rfl⟩
theorem anew_both {g : List Opr} (h0 : (checkV g).2 = 0) (l m : List Int) : Lib.compact (sortL (tasksL g (opsC g l) ++ tasksL g (opsC g m))) = tasksL g (opsC g (l ++ m)) := by
  obtain ⟨h1, h2⟩ := compact_sort (tasksL g (opsC g l) ++ tasksL g (opsC g m))
  refine strict_ext h1 (tasksL_strict _ _) fun x => ?_
  rw [h2, List.mem_append, anew_mem h0, anew_mem h0, anew_mem h0]
  constructor
  · rintro (⟨hb, t, ht, he⟩ | ⟨hb, t, ht, he⟩)
    · exact ⟨hb, t, List.mem_append_left _ ht, he⟩
    · exact ⟨hb, t, List.mem_append_right _ ht, he⟩
  · rintro ⟨hb, t, ht, he⟩
    rcases List.mem_append.1 ht with ht | ht
    · exact .inl ⟨hb, t, ht, he⟩
    · exact .inr ⟨hb, t, ht, he⟩
theorem anew_has {g : List Opr} (h0 : (checkV g).2 = 0) {l : List Int} (hl : Tin g l) {t : Int} (ht : t ∈ l) : t ∈ tasksL g (opsC g l) := (anew_mem h0).2 ⟨hl t ht, t, ht, rfl⟩
end Go.Proofs.Ythmcknchkecciaa
