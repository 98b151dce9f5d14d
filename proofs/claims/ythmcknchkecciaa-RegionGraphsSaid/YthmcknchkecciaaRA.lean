/- Region: places: root, hang. -/
import Derived.Test.YthmcknchkecciaaRSpec
import Derived.Test.YthmcknchkecciaaGShort
namespace Go.Proofs.Ythmcknchkecciaa
open Go Go.RowKit
open Sy (C SV V1 Blk St XD Els)
set_option maxRecDepth 10000

/-- r tells the last ones by which places hang. -/
def RootOk (ps : Nat → Option Nat) (r : Nat → Nat) : Prop := ∀ x, (ps x = none → r x = x) ∧ ∀ j, ps x = some j → j < x ∧ r x = r j
theorem RootOk.le {ps : Nat → Option Nat} {r : Nat → Nat} (h : RootOk ps r) : ∀ x, r x ≤ x := by
  intro x
  induction x using Nat.strongRecOn with
  | _ x ih =>
    cases hp : ps x with
    | none => rw [(h x).1 hp]; exact Nat.le_refl _
    | some j =>
      obtain ⟨h1, h2⟩ := (h x).2 j hp
      have := ih j h1
      omega
theorem RootOk.top {ps : Nat → Option Nat} {r : Nat → Nat} (h : RootOk ps r) : ∀ x, ps (r x) = none := by
  intro x
  induction x using Nat.strongRecOn with
  | _ x ih =>
    cases hp : ps x with
    | none => rw [(h x).1 hp]; exact hp
    | some j =>
      obtain ⟨h1, h2⟩ := (h x).2 j hp
      rw [h2]; exact ih j h1
theorem RootOk.idem {ps : Nat → Option Nat} {r : Nat → Nat} (h : RootOk ps r) (x : Nat) : r (r x) = r x := (h (r x)).1 (h.top x)
theorem RootOk.start : RootOk (fun _ => none) id := fun x => ⟨fun _ => rfl, fun j hj => by cases hj⟩
def setP (ps : Nat → Option Nat) (i j : Nat) : Nat → Option Nat := fun x => if x = i then some j else ps x
theorem RootOk.hang {ps : Nat → Option Nat} {r : Nat → Nat} (h : RootOk ps r) {a b hi lo : Nat} (hh : (hi = r a ∧ lo = r b) ∨ (hi = r b ∧ lo = r a)) (hlt : lo < hi) : RootOk (setP ps hi lo) (hangF r a b) := by
  have e1 : max (r a) (r b) = hi := by rcases hh with ⟨rfl, rfl⟩ | ⟨rfl, rfl⟩ <;> omega
  have e2 : min (r a) (r b) = lo := by rcases hh with ⟨rfl, rfl⟩ | ⟨rfl, rfl⟩ <;> omega
  have rhi : r hi = hi := by rcases hh with ⟨rfl, _⟩ | ⟨rfl, _⟩ <;> exact h.idem _
  have rlo : r lo = lo := by rcases hh with ⟨_, rfl⟩ | ⟨_, rfl⟩ <;> exact h.idem _
  have hf : ∀ x, hangF r a b x = if r x = hi then lo else r x := fun x => by unfold hangF; rw [e1, e2]
  intro x
  unfold setP
  by_cases hx : x = hi
  · subst hx
    rw [if_pos rfl]
    refine ⟨fun h => (by cases h), fun j hj => ?_⟩
    cases hj
    refine ⟨hlt, ?_⟩
    rw [hf, hf, rhi, if_pos rfl, rlo, if_neg (by omega)]
  · rw [if_neg hx]
    refine ⟨fun hn => ?_, fun j hj => ?_⟩
    · rw [hf, (h x).1 hn, if_neg hx]
    · obtain ⟨h1, h2⟩ := (h x).2 j hj
      exact ⟨h1, by rw [hf, hf, h2]⟩
theorem RootOk.hang_same {ps : Nat → Option Nat} {r : Nat → Nat} (h : RootOk ps r) {a b : Nat} (he : r a = r b) : RootOk ps (hangF r a b) := by
  have : hangF r a b = r := by
    funext x
    unfold hangF
    rw [he, Nat.max_self, Nat.min_self]
    split <;> first | rfl | (rename_i h1; exact h1.symm)
  rw [this]; exact h
def nodes (n : Nat) (ps : Nat → Option Nat) : List (Option Nat × List Value) := (List.range n).map fun i => (ps i, [.int .i64 (i : Int)])
theorem nodes_get {n i : Nat} (ps : Nat → Option Nat) (h : i < n) : (nodes n ps)[i]? = some (ps i, [.int .i64 (i : Int)]) := by
  unfold nodes
  rw [List.getElem?_map, List.getElem?_range h]
  rfl
theorem nodes_len (n : Nat) (ps : Nat → Option Nat) : (nodes n ps).length = n := by simp [nodes]
theorem nodes_set {n i j : Nat} (ps : Nat → Option Nat) (h : i < n) : (nodes n ps).set i (some j, [.int .i64 (i : Int)]) = nodes n (setP ps i j) := by
  apply List.ext_getElem?
  intro x
  by_cases hx : x = i
  · subst hx
    rw [List.getElem?_set_self (by rw [nodes_len]; exact h), nodes_get _ h]
    simp [setP]
  · rw [List.getElem?_set_ne (by omega)]
    by_cases hn : x < n
    · rw [nodes_get _ hn, nodes_get _ hn]
      simp [setP, hx]
    · rw [List.getElem?_eq_none (by rw [nodes_len]; omega), List.getElem?_eq_none (by rw [nodes_len]; omega)]
def nrow (n : Nat) (ps : Nat → Option Nat) : Blk := .row 84 2 n (.ns 0 (nodes n ps))
def rootC (n i : Nat) (ps : Nat → Option Nat) (r : Nat → Nat) : Sy.Ctr Unit := { avs := [.c (.ep 0 i 0)], n0 := 1, H0 := [(0, nrow n ps)], sv := fun _ => .c (.ep 0 (r i) 0), n1 := fun _ => 1, H1 := fun _ => [(0, nrow n ps)] }
theorem root_does {n i : Nat} {ps : Nat → Option Nat} {r : Nat → Nat} (h : RootOk ps r) (hi : i < n) : Sy.Does Try.prog 53 (rootC n i ps r) := by
  refine Sy.does_of Sy.lv53 Sy.tab_ok Try.func53 rfl _ Try.ntmps53 _ rfl rfl (fun e0 w hpre => ?_)
  ((repeat' ((conv => whnf);(first|refine zA ?_|(refine zI ?_ ?_<;> intro hh<;> first|(exfalso;omega)|skip)|(refine zl ?_ ?_<;> intro hh)|refine zq ?_|refine zv ?_|exact Sy.fin_val fun e=>rfl)));(all_goals (try conv => whnf)))
  refine Sy.loop_inv Sy.tab_ok (fun x : Nat => [(0, .c (.ep 0 x 0))]) (fun x => []) (fun x => x < n ∧ r x = r i) (fun x => x) i ⟨hi, rfl⟩ ?_ (fun x hx => ?_)
  · ((repeat' (first|((conv => whnf);done)|((try conv => whnf);first|exact trivial|(refine And.intro ?_ ?_)|rfl|exact fun _ _ _ h=>h|exact fun _ _ _ _=>trivial)));(all_goals (try conv => whnf)))
  · obtain ⟨hx, hrx⟩ := hx
    have hg := nodes_get ps hx
    cases hp : ps x with
    | none =>
      rw [hp] at hg
      have e : x = r i := by rw [← hrx]; exact ((h x).1 hp).symm
      subst e
      ((repeat' ((conv => whnf);(first|refine zA ?_|(refine zI ?_ ?_<;> intro hh<;> first|(exfalso;omega)|skip)|(refine zl ?_ ?_<;> intro hh)|refine zq ?_|refine zv ?_|exact Sy.fin_val fun e=>rfl)));(all_goals (try conv => whnf)))
      refine Sy.eln_of _ hg ?_
      ((repeat' ((conv => whnf);(first|refine zA ?_|(refine zI ?_ ?_<;> intro hh<;> first|(exfalso;omega)|skip)|(refine zl ?_ ?_<;> intro hh)|refine zq ?_|refine zv ?_|exact Sy.fin_val fun e=>rfl)));(all_goals (try conv => whnf)))
      refine Sy.fin_own () trivial ?_
      ((conv => whnf);(refine And.intro ?_ (And.intro ?_ (And.intro ?_ ?_)));(all_goals ((repeat' (first|((conv => whnf);done)|((try conv => whnf);first|exact trivial|(refine And.intro ?_ ?_)|rfl|exact fun _ _ _ h=>h|exact fun _ _ _ _=>trivial)));(all_goals (try conv => whnf)))))
    | some j =>
      rw [hp] at hg
      obtain ⟨h1, h2⟩ := (h x).2 j hp
      ((repeat' ((conv => whnf);(first|refine zA ?_|(refine zI ?_ ?_<;> intro hh<;> first|(exfalso;omega)|skip)|(refine zl ?_ ?_<;> intro hh)|refine zq ?_|refine zv ?_|exact Sy.fin_val fun e=>rfl)));(all_goals (try conv => whnf)))
      refine Sy.eln_of _ hg ?_
      ((repeat' ((conv => whnf);(first|refine zA ?_|(refine zI ?_ ?_<;> intro hh<;> first|(exfalso;omega)|skip)|(refine zl ?_ ?_<;> intro hh)|refine zq ?_|refine zv ?_|exact Sy.fin_val fun e=>rfl)));(all_goals (try conv => whnf)))
      refine Sy.eln_of _ hg ?_
      ((repeat' ((conv => whnf);(first|refine zA ?_|(refine zI ?_ ?_<;> intro hh<;> first|(exfalso;omega)|skip)|(refine zl ?_ ?_<;> intro hh)|refine zq ?_|refine zv ?_|exact Sy.fin_val fun e=>rfl)));(all_goals (try conv => whnf)))
      refine ⟨j, ⟨by omega, by rw [← h2]; exact hrx⟩, h1, ?_⟩
      ((repeat' (first|((conv => whnf);done)|((try conv => whnf);first|exact trivial|(refine And.intro ?_ ?_)|rfl|exact fun _ _ _ h=>h|exact fun _ _ _ _=>trivial)));(all_goals (try conv => whnf)))
def hungP (ps : Nat → Option Nat) (r : Nat → Nat) (a b : Nat) : Nat → Option Nat := if r a < r b then setP ps (r b) (r a) else if r b < r a then setP ps (r a) (r b) else ps
theorem hung_ok {ps : Nat → Option Nat} {r : Nat → Nat} (h : RootOk ps r) (a b : Nat) : RootOk (hungP ps r a b) (hangF r a b) := by
  unfold hungP
  split
  · exact h.hang (.inr ⟨rfl, rfl⟩) (by assumption)
  · split
    · exact h.hang (.inl ⟨rfl, rfl⟩) (by assumption)
    · exact h.hang_same (by omega)
def hangC (n a b : Nat) (ps : Nat → Option Nat) (r : Nat → Nat) : Sy.Ctr Unit := { avs := [.c (.ep 0 a 0), .c (.ep 0 b 0)], n0 := 1, H0 := [(0, nrow n ps)], sv := fun _ => .tup [], n1 := fun _ => 1, H1 := fun _ => [(0, nrow n (hungP ps r a b))] }
set_option maxHeartbeats 1000000 in
theorem hang_does {n a b : Nat} {ps : Nat → Option Nat} {r : Nat → Nat} (h : RootOk ps r) (ha : a < n) (hb : b < n) : Sy.Does Try.prog 52 (hangC n a b ps r) := by
  have hla := h.le a
  have hlb := h.le b
  have hga := nodes_get ps (show r a < n by omega)
  have hgb := nodes_get ps (show r b < n by omega)
  refine Sy.does_of Sy.lv52 Sy.tab_ok Try.func52 rfl _ Try.ntmps52 _ rfl rfl (fun e0 w hpre => ?_)
  ((repeat' ((conv => whnf);(first|refine zA ?_|(refine zI ?_ ?_<;> intro hh<;> first|(exfalso;omega)|skip)|(refine zl ?_ ?_<;> intro hh)|refine zq ?_|refine zv ?_|exact Sy.fin_val fun e=>rfl)));(all_goals (try conv => whnf)))
  refine Sy.call_own (root_does h ha) Try.call53 ?_
  ((conv => whnf);(refine And.intro ?_ (And.intro ?_ (And.intro ?_ (And.intro ?_ ?_))));(all_goals ((repeat' (first|((conv => whnf);done)|((try conv => whnf);first|exact trivial|(refine And.intro ?_ ?_)|rfl|exact fun _ _ _ h=>h|exact fun _ _ _ _=>trivial)));(all_goals (try conv => whnf))));rotate_right)
  intro _ _ _
  ((repeat' ((conv => whnf);(first|refine zA ?_|(refine zI ?_ ?_<;> intro hh<;> first|(exfalso;omega)|skip)|(refine zl ?_ ?_<;> intro hh)|refine zq ?_|refine zv ?_|exact Sy.fin_val fun e=>rfl)));(all_goals (try conv => whnf)))
  refine Sy.call_own (root_does h hb) Try.call53 ?_
  ((conv => whnf);(refine And.intro ?_ (And.intro ?_ (And.intro ?_ (And.intro ?_ ?_))));(all_goals ((repeat' (first|((conv => whnf);done)|((try conv => whnf);first|exact trivial|(refine And.intro ?_ ?_)|rfl|exact fun _ _ _ h=>h|exact fun _ _ _ _=>trivial)));(all_goals (try conv => whnf))));rotate_right)
  intro _ _ _
  ((repeat' ((conv => whnf);(first|refine zA ?_|(refine zI ?_ ?_<;> intro hh<;> first|(exfalso;omega)|skip)|(refine zl ?_ ?_<;> intro hh)|refine zq ?_|refine zv ?_|exact Sy.fin_val fun e=>rfl)));(all_goals (try conv => whnf)))
  have ta := h.top a
  have tb := h.top b
  by_cases h1 : r a < r b
  · have h1' : (r a : Int) < r b := by omega
    have e1 : hungP ps r a b = setP ps (r b) (r a) := by unfold hungP; rw [if_pos h1]
    refine Sy.draw_go [] (by kernel_rfl) ?_
    intro e0
    conv => whnf
    refine zt 0 rfl ?_
    conv => whnf
    refine zt 1 rfl ?_
    conv => whnf
    refine zt 2 rfl ?_
    conv => whnf
    refine zt 3 rfl ?_
    conv => whnf
    refine Sy.eln_of _ hga ?_
    conv => whnf
    conv => whnf
    refine zt 4 rfl ?_
    conv => whnf
    refine zt 5 rfl ?_
    conv => whnf
    refine zt 6 rfl ?_
    conv => whnf
    refine zt 7 rfl ?_
    conv => whnf
    refine Sy.eln_of _ hgb ?_
    conv => whnf
    conv => whnf
    refine zt 8 rfl ?_
    (conv => whnf);(repeat' ((first|refine zA ?_|(refine zI ?_ ?_<;> intro hh<;> first|(exfalso;omega)|skip)|(refine zl ?_ ?_<;> intro hh)|refine zq ?_|refine zv ?_|refine zu ?_|exact Sy.fin_val fun e=>rfl);(try conv => whnf)))
    refine zt 9 rfl ?_
    conv => whnf
    refine zw ?_
    ((repeat' ((conv => whnf);(first|refine zA ?_|(refine zI ?_ ?_<;> intro hh<;> first|(exfalso;omega)|skip)|(refine zl ?_ ?_<;> intro hh)|refine zq ?_|refine zv ?_|exact Sy.fin_val fun e=>rfl)));(all_goals (try conv => whnf)))
    refine Sy.eln_of _ hgb ?_
    ((repeat' ((conv => whnf);(first|refine zA ?_|(refine zI ?_ ?_<;> intro hh<;> first|(exfalso;omega)|skip)|(refine zl ?_ ?_<;> intro hh)|refine zq ?_|refine zv ?_|exact Sy.fin_val fun e=>rfl)));(all_goals (try conv => whnf)))
    rw [nodes_set ps (show r b < n by omega), ← e1]
    refine Sy.fin_own () trivial ?_
    ((conv => whnf);(refine And.intro ?_ (And.intro ?_ (And.intro ?_ ?_)));(all_goals ((repeat' (first|((conv => whnf);done)|((try conv => whnf);first|exact trivial|(refine And.intro ?_ ?_)|rfl|exact fun _ _ _ h=>h|exact fun _ _ _ _=>trivial)));(all_goals (try conv => whnf)))))
  · have h1' : ¬ (r a : Int) < r b := by omega
    refine Sy.draw_go [] (by kernel_rfl) ?_
    intro e0
    conv => whnf
    refine zt 0 rfl ?_
    conv => whnf
    refine zt 1 rfl ?_
    conv => whnf
    refine zt 2 rfl ?_
    conv => whnf
    refine zt 3 rfl ?_
    conv => whnf
    refine Sy.eln_of _ hga ?_
    conv => whnf
    conv => whnf
    refine zt 4 rfl ?_
    conv => whnf
    refine zt 5 rfl ?_
    conv => whnf
    refine zt 6 rfl ?_
    conv => whnf
    refine zt 7 rfl ?_
    conv => whnf
    refine Sy.eln_of _ hgb ?_
    conv => whnf
    conv => whnf
    refine zt 8 rfl ?_
    (conv => whnf);(repeat' ((first|refine zA ?_|(refine zI ?_ ?_<;> intro hh<;> first|(exfalso;omega)|skip)|(refine zl ?_ ?_<;> intro hh)|refine zq ?_|refine zv ?_|refine zu ?_|exact Sy.fin_val fun e=>rfl);(try conv => whnf)))
    refine zt 9 rfl ?_
    conv => whnf
    refine zw ?_
    ((repeat' ((conv => whnf);(first|refine zA ?_|(refine zI ?_ ?_<;> intro hh<;> first|(exfalso;omega)|skip)|(refine zl ?_ ?_<;> intro hh)|refine zq ?_|refine zv ?_|exact Sy.fin_val fun e=>rfl)));(all_goals (try conv => whnf)))
    by_cases h2 : r b < r a
    · have h2' : (r b : Int) < r a := by omega
      have e1 : hungP ps r a b = setP ps (r a) (r b) := by unfold hungP; rw [if_neg h1, if_pos h2]
      refine Sy.draw_go [] (by kernel_rfl) ?_
      intro e0
      conv => whnf
      refine zt 0 rfl ?_
      conv => whnf
      refine zt 1 rfl ?_
      conv => whnf
      refine zt 2 rfl ?_
      conv => whnf
      refine zt 3 rfl ?_
      conv => whnf
      refine Sy.eln_of _ hgb ?_
      conv => whnf
      conv => whnf
      refine zt 4 rfl ?_
      conv => whnf
      refine zt 5 rfl ?_
      conv => whnf
      refine zt 6 rfl ?_
      conv => whnf
      refine zt 7 rfl ?_
      conv => whnf
      refine Sy.eln_of _ hga ?_
      conv => whnf
      conv => whnf
      refine zt 8 rfl ?_
      (conv => whnf);(repeat' ((first|refine zA ?_|(refine zI ?_ ?_<;> intro hh<;> first|(exfalso;omega)|skip)|(refine zl ?_ ?_<;> intro hh)|refine zq ?_|refine zv ?_|refine zu ?_|exact Sy.fin_val fun e=>rfl);(try conv => whnf)))
      refine zt 9 rfl ?_
      conv => whnf
      refine zw ?_
      ((repeat' ((conv => whnf);(first|refine zA ?_|(refine zI ?_ ?_<;> intro hh<;> first|(exfalso;omega)|skip)|(refine zl ?_ ?_<;> intro hh)|refine zq ?_|refine zv ?_|exact Sy.fin_val fun e=>rfl)));(all_goals (try conv => whnf)))
      refine Sy.eln_of _ hga ?_
      ((repeat' ((conv => whnf);(first|refine zA ?_|(refine zI ?_ ?_<;> intro hh<;> first|(exfalso;omega)|skip)|(refine zl ?_ ?_<;> intro hh)|refine zq ?_|refine zv ?_|exact Sy.fin_val fun e=>rfl)));(all_goals (try conv => whnf)))
      rw [nodes_set ps (show r a < n by omega), ← e1]
      refine Sy.fin_own () trivial ?_
      ((conv => whnf);(refine And.intro ?_ (And.intro ?_ (And.intro ?_ ?_)));(all_goals ((repeat' (first|((conv => whnf);done)|((try conv => whnf);first|exact trivial|(refine And.intro ?_ ?_)|rfl|exact fun _ _ _ h=>h|exact fun _ _ _ _=>trivial)));(all_goals (try conv => whnf)))))
    · have h2' : ¬ (r b : Int) < r a := by omega
      have e1 : hungP ps r a b = ps := by unfold hungP; rw [if_neg h1, if_neg h2]
      refine Sy.draw_go [] (by kernel_rfl) ?_
      intro e0
      conv => whnf
      refine zt 0 rfl ?_
      conv => whnf
      refine zt 1 rfl ?_
      conv => whnf
      refine zt 2 rfl ?_
      conv => whnf
      refine zt 3 rfl ?_
      conv => whnf
      refine Sy.eln_of _ hgb ?_
      conv => whnf
      conv => whnf
      refine zt 4 rfl ?_
      conv => whnf
      refine zt 5 rfl ?_
      conv => whnf
      refine zt 6 rfl ?_
      conv => whnf
      refine zt 7 rfl ?_
      conv => whnf
      refine Sy.eln_of _ hga ?_
      conv => whnf
      conv => whnf
      refine zt 8 rfl ?_
      (conv => whnf);(repeat' ((first|refine zA ?_|(refine zI ?_ ?_<;> intro hh<;> first|(exfalso;omega)|skip)|(refine zl ?_ ?_<;> intro hh)|refine zq ?_|refine zv ?_|refine zu ?_|exact Sy.fin_val fun e=>rfl);(try conv => whnf)))
      refine zt 9 rfl ?_
      conv => whnf
      refine zw ?_
      ((repeat' ((conv => whnf);(first|refine zA ?_|(refine zI ?_ ?_<;> intro hh<;> first|(exfalso;omega)|skip)|(refine zl ?_ ?_<;> intro hh)|refine zq ?_|refine zv ?_|exact Sy.fin_val fun e=>rfl)));(all_goals (try conv => whnf)))
      refine Sy.fin_own () trivial ?_
      ((conv => whnf);(refine And.intro ?_ (And.intro ?_ (And.intro ?_ ?_)));(all_goals ((repeat' (first|((conv => whnf);done)|((try conv => whnf);first|exact trivial|(refine And.intro ?_ ?_)|rfl|exact fun _ _ _ h=>h|exact fun _ _ _ _=>trivial)));(all_goals (try conv => whnf)))))
      rw [e1]
end Go.Proofs.Ythmcknchkecciaa
