/- slices.Sort at numbers: the sort by insertion. -/
import Derived.Test.YtkmdmjnbjoakbaaEnc
import Derived.Test.YtkmdmjnbjoakbaaSpec
import Derived.Test.YtkmdmjnbjoakbaaSyG
namespace Go.Proofs.Ytkmdmjnbjoakbaa
open Go Go.RowKit
open Sy (C SV V1 Blk St XD Els)
set_option maxRecDepth 10000

def sortL (zs : List Int) : List Int := zs.mergeSort fun x y => decide (x ≤ y)
theorem sortL_len (zs : List Int) : (sortL zs).length = zs.length := List.length_mergeSort _
theorem sortL_perm (zs : List Int) : (sortL zs).Perm zs := List.mergeSort_perm _ _
theorem sortL_sorted (zs : List Int) : (sortL zs).Pairwise (· ≤ ·) := by
  have := List.pairwise_mergeSort (le := fun x y : Int => decide (x ≤ y)) (fun a b c h1 h2 => by simp at *; omega) (fun a b => by simp; omega) zs
  unfold sortL
  simpa using this
theorem perm_sorted_eq : ∀ {l l' : List Int}, l.Pairwise (· ≤ ·) → l'.Pairwise (· ≤ ·) → l.Perm l' → l = l'
  | [], l', _, _, h => (List.nil_perm.1 h).symm
  | a :: l, [], _, _, h => absurd h.length_eq (by simp)
  | a :: l, b :: l', h1, h2, h => by
    obtain ⟨h3, h4⟩ := List.pairwise_cons.1 h1
    obtain ⟨h5, h6⟩ := List.pairwise_cons.1 h2
    have hab : a = b := by
      have ha : a ∈ b :: l' := h.subset (by simp)
      have hb : b ∈ a :: l := h.symm.subset (by simp)
      rcases List.mem_cons.1 ha with e | ha
      · exact e
      · rcases List.mem_cons.1 hb with e | hb
        · exact e.symm
        · have := h3 b hb
          have := h5 a ha
          omega
    subst hab
    rw [perm_sorted_eq h4 h6 h.cons_inv]
theorem sortL_eq {zs l : List Int} (hp : zs.Perm l) (hs : l.Pairwise (· ≤ ·)) : sortL zs = l :=
  perm_sorted_eq (sortL_sorted zs) hs ((sortL_perm zs).trans hp)

/-- The list, its elements from a up to i sorted. -/
def insF (xs : List Int) (a i : Nat) : List Int := xs.take a ++ (sortL ((xs.take i).drop a) ++ xs.drop i)
theorem seg_split (xs : List Int) (a i : Nat) (h : a ≤ i) : xs.take a ++ ((xs.take i).drop a ++ xs.drop i) = xs := by
  rw [← List.append_assoc, show xs.take a = (xs.take i).take a by rw [List.take_take, Nat.min_eq_left h], List.take_append_drop, List.take_append_drop]
theorem insF_len (xs : List Int) (a i : Nat) (h : a ≤ i) : (insF xs a i).length = xs.length := by
  have := congrArg List.length (seg_split xs a i h)
  simp only [insF, List.length_append, sortL_len] at this ⊢
  exact this
theorem insF_one (xs : List Int) (a i : Nat) (h : a ≤ i) (h' : i ≤ a + 1) : insF xs a i = xs := by
  have : sortL ((xs.take i).drop a) = (xs.take i).drop a := by
    refine sortL_eq (List.Perm.refl _) ?_
    have hl : ((xs.take i).drop a).length ≤ 1 := by rw [List.length_drop, List.length_take]; omega
    generalize (xs.take i).drop a = l at *
    match l, hl with
    | [], _ => exact List.Pairwise.nil
    | [x], _ => exact List.pairwise_singleton _ _
  rw [insF, this, seg_split xs a i h]
theorem insF_put {xs S1 S2 : List Int} {a i : Nat} {x : Int} (ha : a ≤ i) (hx : xs[i]? = some x) (hs : S1 ++ S2 = sortL ((xs.take i).drop a)) (h1 : ∀ s ∈ S1, s ≤ x) (h2 : ∀ s ∈ S2, x < s) :
    xs.take a ++ (S1 ++ x :: (S2 ++ xs.drop (i + 1))) = insF xs a (i + 1) := by
  obtain ⟨hi, rfl⟩ := List.getElem?_eq_some_iff.1 hx
  have hseg : (xs.take (i + 1)).drop a = (xs.take i).drop a ++ [xs[i]] := by
    rw [List.take_succ_eq_append_getElem hi, List.drop_append_of_le_length (by rw [List.length_take]; omega)]
  have hsorted : (S1 ++ S2).Pairwise (· ≤ ·) := hs ▸ sortL_sorted _
  obtain ⟨p1, p2, p3⟩ := List.pairwise_append.1 hsorted
  have : sortL ((xs.take (i + 1)).drop a) = S1 ++ xs[i] :: S2 := by
    refine sortL_eq ?_ ?_
    · rw [hseg]
      refine ((sortL_perm _).symm.append_right _).trans ?_
      rw [← hs, List.append_assoc]
      exact List.Perm.append_left _ (List.perm_append_singleton _ _)
    · refine List.pairwise_append.2 ⟨p1, List.pairwise_cons.2 ⟨fun s hs => Int.le_of_lt (h2 s hs), p2⟩, fun s hs t ht => ?_⟩
      rcases List.mem_cons.1 ht with rfl | ht
      · exact h1 s hs
      · exact p3 s hs t ht
  rw [insF, this]
  simp
theorem insF_get {xs : List Int} {a i : Nat} (hi : i < xs.length) : insF xs a i = xs.take a ++ (sortL ((xs.take i).drop a) ++ xs[i] :: ([] ++ xs.drop (i + 1))) := by
  rw [insF, List.drop_eq_getElem_cons hi, List.nil_append]
theorem mid_get {P S1 R : List Int} {x : Int} {j : Nat} (hj : j = P.length + S1.length) : (P ++ (S1 ++ x :: R))[j]? = some x := by
  subst hj
  rw [List.getElem?_append_right (by omega), List.getElem?_append_right (by omega)]
  simp [show P.length + S1.length - P.length - S1.length = 0 by omega]
theorem mid_pre {P S1 R : List Int} {x y : Int} {j : Nat} (hj : j = P.length + S1.length + 1) : (P ++ (S1 ++ [y] ++ x :: R))[j - 1]? = some y := by
  rw [List.append_assoc]
  exact mid_get (by omega)
theorem mid_set {P S1 R : List Int} {x z : Int} {j : Nat} (hj : j = P.length + S1.length) : (P ++ (S1 ++ x :: R)).set j z = P ++ (S1 ++ z :: R) := by
  subst hj
  rw [List.set_append_right _ _ (by omega), List.set_append_right _ _ (by omega), show P.length + S1.length - P.length - S1.length = 0 by omega, List.set_cons_zero]
theorem mid_swap {P S1 R : List Int} {x y : Int} {j : Nat} (hj : j = P.length + S1.length + 1) : ((P ++ (S1 ++ [y] ++ x :: R)).set j y).set (j - 1) x = P ++ (S1 ++ x :: ([y] ++ R)) := by
  have h1 := mid_set (P := P) (S1 := S1 ++ [y]) (R := R) (x := x) (z := y) (j := j) (by simp; omega)
  rw [h1, List.append_assoc]
  exact mid_set (by omega)
theorem last_le {S : List Int} {y x : Int} (hs : (S ++ [y]).Pairwise (· ≤ ·)) (h : y ≤ x) : ∀ s ∈ S ++ [y], s ≤ x := by
  intro s h1
  rcases List.mem_append.1 h1 with h1 | h1
  · have := (List.pairwise_append.1 hs).2.2 s h1 y (by simp)
    omega
  · rw [List.mem_singleton.1 h1]; exact h

theorem nil_or_snoc (S : List Int) : S = [] ∨ ∃ S0 y, S = S0 ++ [y] := by
  by_cases h : S = []
  · exact .inl h
  · exact .inr ⟨S.dropLast, S.getLast h, (List.dropLast_concat_getLast h).symm⟩
theorem lessU_any (x y : Int) (w : World) : Calls Try.prog 65 #[.int .u64 x, .int .u64 y] w (Sy.Ret (.bool (decide (x < y))) w) := by
  refine Sy.calls_of Sy.lv65 Sy.tab_ok Try.func65 rfl _ Try.ntmps65 [] [.c (.v (.int .u64 x)), .c (.v (.int .u64 y))] rfl rfl rfl trivial ?_
  ((repeat' ((conv => whnf);(first|refine zA ?_|(refine zI ?_ ?_<;> intro hh<;> first|(exfalso;omega)|skip)|(refine zl ?_ ?_<;> intro hh)|refine zq ?_|refine zv ?_|refine zu ?_|exact Sy.fin_val fun e=>rfl)));(all_goals (try conv => whnf)))
  refine Sy.call_in Sy.lv57 Sy.tab_ok Try.func57 rfl _ Try.ntmps57 Try.call57 rfl (fun _ => ?_)
  ((repeat' ((conv => whnf);(first|refine zA ?_|(refine zI ?_ ?_<;> intro hh<;> first|(exfalso;omega)|skip)|(refine zl ?_ ?_<;> intro hh)|refine zq ?_|refine zv ?_|refine zu ?_|exact Sy.fin_val fun e=>rfl)));(all_goals (try conv => whnf)))

set_option maxHeartbeats 4000000 in
theorem ins_any (v : Value) (xs : List Int) (a b : Nat) (w : World) (hown : Sy.OwnE w 25 1 v xs.length (xs.map encU)) (hab : a ≤ b) (hb : b ≤ xs.length) (hl : xs.length ≤ 1000) :
    Calls Try.prog 59 #[v, .int .i64 a, .int .i64 b] w (Sy.RetMut v (.tuple #[]) ⟨25, 1, xs.length, (insF xs a b).map encU⟩ w) := by
  refine Sy.calls_mut Sy.lv59 Sy.tab_ok Try.func59 rfl _ Try.ntmps59 v 25 1 xs.length (xs.map encU) hown [] [.c (.row 0), .c (.v (.int .i64 a)), .c (.v (.int .i64 b))] ?_ rfl rfl trivial ?_
  · simp [Sy.denAll, SV.den, C.den, Sy.Env.exts, Sy.Env.withRow]
  · ((repeat' ((conv => whnf);(first|refine zA ?_|(refine zI ?_ ?_<;> intro hh<;> first|(exfalso;omega)|skip)|(refine zl ?_ ?_<;> intro hh)|refine zq ?_|refine zv ?_|refine zu ?_|exact Sy.fin_val fun e=>rfl)));(all_goals (try conv => whnf)))
    refine Sy.loop_inv Sy.tab_ok (fun i : Nat => [(6, .c (.v (.int .i64 i)))]) (fun i => [(0, .row 25 1 xs.length (.vs ((insF xs a (min i b)).map encU)))]) (fun i => a ≤ i ∧ i ≤ b + 1) (fun i => b + 1 - i) (a + 1) ⟨by omega, by omega⟩ ?_ (fun i hle => ?_)
    · rw [insF_one xs a (min (a + 1) b) (by omega) (by omega)]
      ((repeat' (first|((conv => whnf);done)|((try conv => whnf);first|exact trivial|(refine And.intro ?_ ?_)|rfl|exact fun _ _ _ h=>h|exact fun _ _ _ _=>trivial)));(all_goals (try conv => whnf)))
    · obtain ⟨h1, h2⟩ := hle
      ((repeat' ((conv => whnf);(first|refine zA ?_|(refine zI ?_ ?_<;> intro hh<;> first|(exfalso;omega)|skip)|(refine zl ?_ ?_<;> intro hh)|refine zq ?_|refine zv ?_|refine zu ?_|exact Sy.fin_val fun e=>rfl)));(all_goals (try conv => whnf)))
      · have hib : i < b := by omega
        have hil : i < xs.length := by omega
        rw [show min i b = i by omega, insF_get hil]
        have hx := List.getElem?_eq_getElem hil
        have hput := fun S1 S2 => insF_put (S1 := S1) (S2 := S2) h1 hx
        have hsl : (sortL ((xs.take i).drop a)).length = i - a := by rw [sortL_len, List.length_drop, List.length_take]; omega
        have hPl : (xs.take a).length = a := by rw [List.length_take]; omega
        have hsrt := sortL_sorted ((xs.take i).drop a)
        generalize xs[i] = x at *
        generalize sortL ((xs.take i).drop a) = S at *
        generalize xs.take a = P at *
        generalize xs.drop (i + 1) = Q at *
        refine Sy.loop_inv Sy.tab_ok (fun p : Nat × List Int × List Int => [(7, .c (.v (.int .i64 p.1)))]) (fun p => [(0, .row 25 1 xs.length (.vs ((P ++ (p.2.1 ++ x :: (p.2.2 ++ Q))).map encU)))]) (fun p => p.1 = a + p.2.1.length ∧ p.2.1 ++ p.2.2 = S ∧ ∀ s ∈ p.2.2, x < s) (fun p => p.2.1.length) (i, S, []) ⟨by dsimp only; omega, by simp, fun s hs => by cases hs⟩ ?_ (fun p hle => ?_)
        · ((repeat' (first|((conv => whnf);done)|((try conv => whnf);first|exact trivial|(refine And.intro ?_ ?_)|rfl|exact fun _ _ _ h=>h|exact fun _ _ _ _=>trivial)));(all_goals (try conv => whnf)))
        · obtain ⟨j, S1, S2⟩ := p
          obtain ⟨hj, h3, h4⟩ := hle
          dsimp only at *
          have hS : S1.length + S2.length = i - a := by rw [← hsl, ← h3, List.length_append]
          rcases nil_or_snoc S1 with rfl | ⟨S0, y, rfl⟩
          · rw [List.length_nil, Nat.add_zero] at hj
            have hd : decide ((a : Int) < (j : Int)) = false := decide_eq_false (by omega)
            ((repeat' ((conv => whnf);(first|refine zA ?_|(refine zI ?_ ?_<;> intro hh<;> first|(exfalso;omega)|skip)|(refine zl ?_ ?_<;> intro hh)|refine zq ?_|refine zv ?_|refine zu ?_|exact Sy.fin_val fun e=>rfl)));(all_goals (try conv => whnf)))
            all_goals (refine Sy.draw_go [] (by kernel_rfl) ?_; intro e0; conv => whnf)
            all_goals (refine zt 0 rfl ?_)
            all_goals (conv => whnf)
            all_goals (refine zt 1 rfl ?_)
            all_goals (conv => whnf)
            all_goals (refine zt 2 rfl ?_)
            all_goals ((conv => whnf);(repeat' ((first|refine zA ?_|(refine zI ?_ ?_<;> intro hh<;> first|(exfalso;omega)|skip)|(refine zl ?_ ?_<;> intro hh)|refine zq ?_|refine zv ?_|refine zu ?_|exact Sy.fin_val fun e=>rfl);(try conv => whnf))))
            all_goals (refine zt 3 rfl ?_)
            all_goals (conv => whnf)
            all_goals (refine zt 4 rfl ?_)
            all_goals ((conv => whnf);(repeat' ((first|refine zA ?_|(refine zI ?_ ?_<;> intro hh<;> first|(exfalso;omega)|skip)|(refine zl ?_ ?_<;> intro hh)|refine zq ?_|refine zv ?_|refine zu ?_|exact Sy.fin_val fun e=>rfl);(try conv => whnf))))
            all_goals (refine zt 5 rfl ?_)
            all_goals ((conv => whnf);(repeat' ((first|refine zA ?_|(refine zI ?_ ?_<;> intro hh<;> first|(exfalso;omega)|skip)|(refine zl ?_ ?_<;> intro hh)|refine zq ?_|refine zv ?_|refine zu ?_|exact Sy.fin_val fun e=>rfl);(try conv => whnf))))
            all_goals (refine zt 6 rfl ?_)
            all_goals ((conv => whnf);(repeat' ((first|refine zA ?_|(refine zI ?_ ?_<;> intro hh<;> first|(exfalso;omega)|skip)|(refine zl ?_ ?_<;> intro hh)|refine zq ?_|refine zv ?_|refine zu ?_|exact Sy.fin_val fun e=>rfl);(try conv => whnf))))
            all_goals (refine zt 7 rfl ?_)
            all_goals ((conv => whnf);(repeat' ((first|refine zA ?_|(refine zI ?_ ?_<;> intro hh<;> first|(exfalso;omega)|skip)|(refine zl ?_ ?_<;> intro hh)|refine zq ?_|refine zv ?_|refine zu ?_|exact Sy.fin_val fun e=>rfl);(try conv => whnf))))
            all_goals (refine zt 8 rfl ?_)
            all_goals ((conv => whnf);(repeat' ((first|refine zA ?_|(refine zI ?_ ?_<;> intro hh<;> first|(exfalso;omega)|skip)|(refine zl ?_ ?_<;> intro hh)|refine zq ?_|refine zv ?_|refine zu ?_|exact Sy.fin_val fun e=>rfl);(try conv => whnf))))
            all_goals (refine zt 9 rfl ?_)
            all_goals ((conv => whnf);(repeat' ((first|refine zA ?_|(refine zI ?_ ?_<;> intro hh<;> first|(exfalso;omega)|skip)|(refine zl ?_ ?_<;> intro hh)|refine zq ?_|refine zv ?_|refine zu ?_|exact Sy.fin_val fun e=>rfl);(try conv => whnf))))
            all_goals (refine zt 10 rfl ?_)
            all_goals ((conv => whnf);(repeat' ((first|refine zA ?_|(refine zI ?_ ?_<;> intro hh<;> first|(exfalso;omega)|skip)|(refine zl ?_ ?_<;> intro hh)|refine zq ?_|refine zv ?_|refine zu ?_|exact Sy.fin_val fun e=>rfl);(try conv => whnf))))
            all_goals (refine zt 11 rfl ?_)
            all_goals ((conv => whnf);(repeat' ((first|refine zA ?_|(refine zI ?_ ?_<;> intro hh<;> first|(exfalso;omega)|skip)|(refine zl ?_ ?_<;> intro hh)|refine zq ?_|refine zv ?_|refine zu ?_|exact Sy.fin_val fun e=>rfl);(try conv => whnf))))
            all_goals (refine zt 12 rfl ?_)
            all_goals ((conv => whnf);(repeat' ((first|refine zA ?_|(refine zI ?_ ?_<;> intro hh<;> first|(exfalso;omega)|skip)|(refine zl ?_ ?_<;> intro hh)|refine zq ?_|refine zv ?_|refine zu ?_|exact Sy.fin_val fun e=>rfl);(try conv => whnf))))
            all_goals (refine zd1 [13] (zx rfl ?_ zy))
            all_goals (conv => whnf)
            all_goals ((refine zA ?_;conv => whnf))
            all_goals (skip)
            all_goals (refine ⟨(by repeat' ((conv => whnf);first|exact trivial|(refine And.intro ?_ ?_)|rfl)), ?_⟩)
            all_goals (refine zt 14 rfl ?_)
            all_goals ((conv => whnf);(repeat' ((first|refine zA ?_|(refine zI ?_ ?_<;> intro hh<;> first|(exfalso;omega)|skip)|(refine zl ?_ ?_<;> intro hh)|refine zq ?_|refine zv ?_|refine zu ?_|exact Sy.fin_val fun e=>rfl);(try conv => whnf))))
            all_goals (refine zw ?_)
            all_goals (((repeat' ((conv => whnf);(first|refine zA ?_|(refine zI ?_ ?_<;> intro hh<;> first|(exfalso;omega)|skip)|(refine zl ?_ ?_<;> intro hh)|refine zq ?_|refine zv ?_|refine zu ?_|exact Sy.fin_val fun e=>rfl)));(all_goals (try conv => whnf))))
            refine ⟨i + 1, ⟨by omega, by omega⟩, by omega, ?_⟩
            rw [show min (i + 1) b = i + 1 by omega, ← hput [] S2 h3 (fun s hs => by cases hs) h4]
            ((repeat' (first|((conv => whnf);done)|((try conv => whnf);first|exact trivial|(refine And.intro ?_ ?_)|rfl|exact fun _ _ _ h=>h|exact fun _ _ _ _=>trivial)));(all_goals (try conv => whnf)))
          · rw [List.length_append] at hj
            have hj : j = a + S0.length + 1 := hj
            rw [List.length_append, List.length_singleton] at hS
            have hgx : (P ++ (S0 ++ [y] ++ x :: (S2 ++ Q)))[j]? = some x := mid_get (by simp; omega)
            have hgy : (P ++ (S0 ++ [y] ++ x :: (S2 ++ Q)))[((j : Int) - 1).toNat]? = some y := by
              rw [show ((j : Int) - 1).toNat = j - 1 by omega]; exact mid_pre (by omega)
            have hd : decide ((a : Int) < (j : Int)) = true := decide_eq_true (by omega)
            ((repeat' ((conv => whnf);(first|refine zA ?_|(refine zI ?_ ?_<;> intro hh<;> first|(exfalso;omega)|skip)|(refine zl ?_ ?_<;> intro hh)|refine zq ?_|refine zv ?_|refine zu ?_|exact Sy.fin_val fun e=>rfl)));(all_goals (try conv => whnf)))
            all_goals (refine Sy.draw_go [] (by kernel_rfl) ?_; intro e0; conv => whnf)
            all_goals (refine zt 0 rfl ?_)
            all_goals (conv => whnf)
            all_goals (refine zt 1 rfl ?_)
            all_goals (conv => whnf)
            all_goals (refine zt 2 rfl ?_)
            all_goals ((conv => whnf);(repeat' ((first|refine zA ?_|(refine zI ?_ ?_<;> intro hh<;> first|(exfalso;omega)|skip)|(refine zl ?_ ?_<;> intro hh)|refine zq ?_|refine zv ?_|refine zu ?_|exact Sy.fin_val fun e=>rfl);(try conv => whnf))))
            all_goals (refine zt 3 rfl ?_)
            all_goals (conv => whnf)
            all_goals (refine zt 4 rfl ?_)
            all_goals ((conv => whnf);(repeat' ((first|refine zA ?_|(refine zI ?_ ?_<;> intro hh<;> first|(exfalso;omega)|skip)|(refine zl ?_ ?_<;> intro hh)|refine zq ?_|refine zv ?_|refine zu ?_|exact Sy.fin_val fun e=>rfl);(try conv => whnf))))
            all_goals (refine zt 5 rfl ?_)
            all_goals ((conv => whnf);(repeat' ((first|refine zA ?_|(refine zI ?_ ?_<;> intro hh<;> first|(exfalso;omega)|skip)|(refine zl ?_ ?_<;> intro hh)|refine zq ?_|refine zv ?_|refine zu ?_|exact Sy.fin_val fun e=>rfl);(try conv => whnf))))
            all_goals (refine zt 6 rfl ?_)
            all_goals ((conv => whnf);(repeat' ((first|refine zA ?_|(refine zI ?_ ?_<;> intro hh<;> first|(exfalso;omega)|skip)|(refine zl ?_ ?_<;> intro hh)|refine zq ?_|refine zv ?_|refine zu ?_|exact Sy.fin_val fun e=>rfl);(try conv => whnf))))
            all_goals (refine zt 7 rfl ?_)
            all_goals ((conv => whnf);(repeat' ((first|refine zA ?_|(refine zI ?_ ?_<;> intro hh<;> first|(exfalso;omega)|skip)|(refine zl ?_ ?_<;> intro hh)|refine zq ?_|refine zv ?_|refine zu ?_|exact Sy.fin_val fun e=>rfl);(try conv => whnf))))
            all_goals (refine Sy.el_map x hgx ?_)
            all_goals (conv => whnf)
            all_goals (refine zt 8 rfl ?_)
            all_goals ((conv => whnf);(repeat' ((first|refine zA ?_|(refine zI ?_ ?_<;> intro hh<;> first|(exfalso;omega)|skip)|(refine zl ?_ ?_<;> intro hh)|refine zq ?_|refine zv ?_|refine zu ?_|exact Sy.fin_val fun e=>rfl);(try conv => whnf))))
            all_goals (refine zt 9 rfl ?_)
            all_goals ((conv => whnf);(repeat' ((first|refine zA ?_|(refine zI ?_ ?_<;> intro hh<;> first|(exfalso;omega)|skip)|(refine zl ?_ ?_<;> intro hh)|refine zq ?_|refine zv ?_|refine zu ?_|exact Sy.fin_val fun e=>rfl);(try conv => whnf))))
            all_goals (refine zt 10 rfl ?_)
            all_goals ((conv => whnf);(repeat' ((first|refine zA ?_|(refine zI ?_ ?_<;> intro hh<;> first|(exfalso;omega)|skip)|(refine zl ?_ ?_<;> intro hh)|refine zq ?_|refine zv ?_|refine zu ?_|exact Sy.fin_val fun e=>rfl);(try conv => whnf))))
            all_goals (refine zt 11 rfl ?_)
            all_goals ((conv => whnf);(repeat' ((first|refine zA ?_|(refine zI ?_ ?_<;> intro hh<;> first|(exfalso;omega)|skip)|(refine zl ?_ ?_<;> intro hh)|refine zq ?_|refine zv ?_|refine zu ?_|exact Sy.fin_val fun e=>rfl);(try conv => whnf))))
            all_goals (refine zt 12 rfl ?_)
            all_goals ((conv => whnf);(repeat' ((first|refine zA ?_|(refine zI ?_ ?_<;> intro hh<;> first|(exfalso;omega)|skip)|(refine zl ?_ ?_<;> intro hh)|refine zq ?_|refine zv ?_|refine zu ?_|exact Sy.fin_val fun e=>rfl);(try conv => whnf))))
            all_goals (refine Sy.el_map y hgy ?_)
            all_goals (conv => whnf)
            all_goals (refine zd1 [13] (zx rfl ?_ zy))
            all_goals (conv => whnf)
            all_goals ((refine zA ?_;conv => whnf))
            all_goals (refine Sy.call_val (.c (.v (.bool (decide (x < y))))) Try.call65 rfl (fun e a w' h => lessU_any x y w') ?_)
            all_goals (refine ⟨(by repeat' ((conv => whnf);first|exact trivial|(refine And.intro ?_ ?_)|rfl)), ?_⟩)
            all_goals (refine zt 14 rfl ?_)
            all_goals ((conv => whnf);(repeat' ((first|refine zA ?_|(refine zI ?_ ?_<;> intro hh<;> first|(exfalso;omega)|skip)|(refine zl ?_ ?_<;> intro hh)|refine zq ?_|refine zv ?_|refine zu ?_|exact Sy.fin_val fun e=>rfl);(try conv => whnf))))
            all_goals (refine zw ?_)
            all_goals (((repeat' ((conv => whnf);(first|refine zA ?_|(refine zI ?_ ?_<;> intro hh<;> first|(exfalso;omega)|skip)|(refine zl ?_ ?_<;> intro hh)|refine zq ?_|refine zv ?_|refine zu ?_|exact Sy.fin_val fun e=>rfl)));(all_goals (try conv => whnf))))
            · have hxy : x < y := by assumption
              have hsw : (((P ++ (S0 ++ [y] ++ x :: (S2 ++ Q))).map encU).set j (Sy.splice (encU x) 0 [Value.int .u64 y])).set ((j : Int) - 1).toNat (Sy.splice (encU y) 0 [Value.int .u64 x]) = (P ++ (S0 ++ x :: (y :: S2 ++ Q))).map encU := by
                show (((P ++ (S0 ++ [y] ++ x :: (S2 ++ Q))).map encU).set j (encU y)).set ((j : Int) - 1).toNat (encU x) = _
                rw [show ((j : Int) - 1).toNat = j - 1 by omega, ← List.map_set, ← List.map_set, mid_swap (by omega)]
                simp
              have hgz : ∀ c : List Value, (((P ++ (S0 ++ [y] ++ x :: (S2 ++ Q))).map encU).set j c)[((j : Int) - 1).toNat]? = some (encU y) := fun c => by
                rw [List.getElem?_set_ne (by omega), List.getElem?_map, hgy]; rfl
              refine Sy.draw_go [0] (by kernel_rfl) ?_
              intro e0
              conv => whnf
              refine zt 0 rfl ?_
              conv => whnf
              refine zt 1 rfl ?_
              conv => whnf
              refine zt 2 rfl ?_
              conv => whnf
              refine zt 3 rfl ?_
              conv => whnf
              refine zt 4 rfl ?_
              (conv => whnf);(repeat' ((first|refine zA ?_|(refine zI ?_ ?_<;> intro hh<;> first|(exfalso;omega)|skip)|(refine zl ?_ ?_<;> intro hh)|refine zq ?_|refine zv ?_|refine zu ?_|exact Sy.fin_val fun e=>rfl);(try conv => whnf)))
              refine zt 5 rfl ?_
              conv => whnf
              refine zt 6 rfl ?_
              conv => whnf
              refine zt 7 rfl ?_
              (conv => whnf);(repeat' ((first|refine zA ?_|(refine zI ?_ ?_<;> intro hh<;> first|(exfalso;omega)|skip)|(refine zl ?_ ?_<;> intro hh)|refine zq ?_|refine zv ?_|refine zu ?_|exact Sy.fin_val fun e=>rfl);(try conv => whnf)))
              refine zt 10 rfl ?_
              conv => whnf
              refine zt 11 rfl ?_
              conv => whnf
              focus
                refine zd1 [8, 12] (zx rfl ?_ (zx rfl ?_ zy))
                focus
                  conv => whnf
                  refine Sy.idx_in (by omega) (by omega) ?_
                  conv => whnf
                  refine ⟨(by repeat' ((conv => whnf);first|exact trivial|(refine And.intro ?_ ?_)|rfl)), ?_⟩
                  focus
                    refine zd1 [9, 12] (zx rfl ?_ (zx rfl ?_ zy))
                    focus
                      conv => whnf
                      refine Sy.el_map y hgy ?_
                      conv => whnf
                      refine ⟨(by repeat' ((conv => whnf);first|exact trivial|(refine And.intro ?_ ?_)|rfl)), ?_⟩
                      refine zd1 [12] (zx rfl ?_ zy)
                      conv => whnf
                      refine Sy.idx_nat (by omega) ?_
                      conv => whnf
                      refine ⟨(by repeat' ((conv => whnf);first|exact trivial|(refine And.intro ?_ ?_)|rfl)), ?_⟩
                      refine zd1 [13] (zx rfl ?_ zy)
                      conv => whnf
                      refine Sy.el_map x hgx ?_
                      conv => whnf
                      refine ⟨(by repeat' ((conv => whnf);first|exact trivial|(refine And.intro ?_ ?_)|rfl)), ?_⟩
                      refine zd1 [14] (zx rfl ?_ zy)
                      conv => whnf
                      refine Sy.idx_nat (by omega) ?_
                      conv => whnf
                      refine ⟨(by repeat' ((conv => whnf);first|exact trivial|(refine And.intro ?_ ?_)|rfl)), ?_⟩
                      refine zd1 [15] (zx rfl ?_ zy)
                      conv => whnf
                      refine Sy.el_map x hgx ?_
                      conv => whnf
                      refine ⟨(by repeat' ((conv => whnf);first|exact trivial|(refine And.intro ?_ ?_)|rfl)), ?_⟩
                      refine zd1 [16] (zx rfl ?_ zy)
                      conv => whnf
                      refine Sy.idx_in (by omega) (by omega) ?_
                      conv => whnf
                      refine ⟨(by repeat' ((conv => whnf);first|exact trivial|(refine And.intro ?_ ?_)|rfl)), ?_⟩
                      refine zd1 [17] (zx rfl ?_ zy)
                      conv => whnf
                      refine Sy.el_of (encU y) (hgz _) ?_
                      conv => whnf
                      refine ⟨(by repeat' ((conv => whnf);first|exact trivial|(refine And.intro ?_ ?_)|rfl)), ?_⟩
                      refine zw ?_
                      ((repeat' ((conv => whnf);(first|refine zA ?_|(refine zI ?_ ?_<;> intro hh<;> first|(exfalso;omega)|skip)|(refine zl ?_ ?_<;> intro hh)|refine zq ?_|refine zv ?_|refine zu ?_|exact Sy.fin_val fun e=>rfl)));(all_goals (try conv => whnf)))
                      refine ⟨(j - 1, S0, y :: S2), ⟨by dsimp only; omega, by rw [← h3]; simp, fun s hs => ?_⟩, by simp, ?_⟩
                      · rcases List.mem_cons.1 hs with rfl | hs
                        · exact hxy
                        · exact h4 s hs
                      · rw [hsw]
                        ((repeat' (first|((conv => whnf);done)|((try conv => whnf);first|exact trivial|(refine And.intro ?_ ?_)|rfl|exact fun _ _ _ h=>h|exact fun _ _ _ _=>trivial)));(all_goals (try conv => whnf)))
                        exact congrArg (Value.int .i64) (by dsimp only; omega)
                    rotate_right
                    focus
                      conv => whnf
                      refine Sy.idx_nat (by omega) ?_
                      conv => whnf
                      refine ⟨(by repeat' ((conv => whnf);first|exact trivial|(refine And.intro ?_ ?_)|rfl)), ?_⟩
                      focus
                        refine zd1 [9, 13] (zx rfl ?_ (zx rfl ?_ zy))
                        focus
                          conv => whnf
                          refine Sy.el_map y hgy ?_
                          conv => whnf
                          refine ⟨(by repeat' ((conv => whnf);first|exact trivial|(refine And.intro ?_ ?_)|rfl)), ?_⟩
                          refine zd1 [13] (zx rfl ?_ zy)
                          conv => whnf
                          refine Sy.el_map x hgx ?_
                          conv => whnf
                          refine ⟨(by repeat' ((conv => whnf);first|exact trivial|(refine And.intro ?_ ?_)|rfl)), ?_⟩
                          refine zd1 [14] (zx rfl ?_ zy)
                          conv => whnf
                          refine Sy.idx_nat (by omega) ?_
                          conv => whnf
                          refine ⟨(by repeat' ((conv => whnf);first|exact trivial|(refine And.intro ?_ ?_)|rfl)), ?_⟩
                          refine zd1 [15] (zx rfl ?_ zy)
                          conv => whnf
                          refine Sy.el_map x hgx ?_
                          conv => whnf
                          refine ⟨(by repeat' ((conv => whnf);first|exact trivial|(refine And.intro ?_ ?_)|rfl)), ?_⟩
                          refine zd1 [16] (zx rfl ?_ zy)
                          conv => whnf
                          refine Sy.idx_in (by omega) (by omega) ?_
                          conv => whnf
                          refine ⟨(by repeat' ((conv => whnf);first|exact trivial|(refine And.intro ?_ ?_)|rfl)), ?_⟩
                          refine zd1 [17] (zx rfl ?_ zy)
                          conv => whnf
                          refine Sy.el_of (encU y) (hgz _) ?_
                          conv => whnf
                          refine ⟨(by repeat' ((conv => whnf);first|exact trivial|(refine And.intro ?_ ?_)|rfl)), ?_⟩
                          refine zw ?_
                          ((repeat' ((conv => whnf);(first|refine zA ?_|(refine zI ?_ ?_<;> intro hh<;> first|(exfalso;omega)|skip)|(refine zl ?_ ?_<;> intro hh)|refine zq ?_|refine zv ?_|refine zu ?_|exact Sy.fin_val fun e=>rfl)));(all_goals (try conv => whnf)))
                          refine ⟨(j - 1, S0, y :: S2), ⟨by dsimp only; omega, by rw [← h3]; simp, fun s hs => ?_⟩, by simp, ?_⟩
                          · rcases List.mem_cons.1 hs with rfl | hs
                            · exact hxy
                            · exact h4 s hs
                          · rw [hsw]
                            ((repeat' (first|((conv => whnf);done)|((try conv => whnf);first|exact trivial|(refine And.intro ?_ ?_)|rfl|exact fun _ _ _ h=>h|exact fun _ _ _ _=>trivial)));(all_goals (try conv => whnf)))
                            exact congrArg (Value.int .i64) (by dsimp only; omega)
                        rotate_right
                        focus
                          conv => whnf
                          refine Sy.el_map x hgx ?_
                          conv => whnf
                          refine ⟨(by repeat' ((conv => whnf);first|exact trivial|(refine And.intro ?_ ?_)|rfl)), ?_⟩
                          refine zd1 [9] (zx rfl ?_ zy)
                          conv => whnf
                          refine Sy.el_map y hgy ?_
                          conv => whnf
                          refine ⟨(by repeat' ((conv => whnf);first|exact trivial|(refine And.intro ?_ ?_)|rfl)), ?_⟩
                          refine zd1 [14] (zx rfl ?_ zy)
                          conv => whnf
                          refine Sy.idx_nat (by omega) ?_
                          conv => whnf
                          refine ⟨(by repeat' ((conv => whnf);first|exact trivial|(refine And.intro ?_ ?_)|rfl)), ?_⟩
                          refine zd1 [15] (zx rfl ?_ zy)
                          conv => whnf
                          refine Sy.el_map x hgx ?_
                          conv => whnf
                          refine ⟨(by repeat' ((conv => whnf);first|exact trivial|(refine And.intro ?_ ?_)|rfl)), ?_⟩
                          refine zd1 [16] (zx rfl ?_ zy)
                          conv => whnf
                          refine Sy.idx_in (by omega) (by omega) ?_
                          conv => whnf
                          refine ⟨(by repeat' ((conv => whnf);first|exact trivial|(refine And.intro ?_ ?_)|rfl)), ?_⟩
                          refine zd1 [17] (zx rfl ?_ zy)
                          conv => whnf
                          refine Sy.el_of (encU y) (hgz _) ?_
                          conv => whnf
                          refine ⟨(by repeat' ((conv => whnf);first|exact trivial|(refine And.intro ?_ ?_)|rfl)), ?_⟩
                          refine zw ?_
                          ((repeat' ((conv => whnf);(first|refine zA ?_|(refine zI ?_ ?_<;> intro hh<;> first|(exfalso;omega)|skip)|(refine zl ?_ ?_<;> intro hh)|refine zq ?_|refine zv ?_|refine zu ?_|exact Sy.fin_val fun e=>rfl)));(all_goals (try conv => whnf)))
                          refine ⟨(j - 1, S0, y :: S2), ⟨by dsimp only; omega, by rw [← h3]; simp, fun s hs => ?_⟩, by simp, ?_⟩
                          · rcases List.mem_cons.1 hs with rfl | hs
                            · exact hxy
                            · exact h4 s hs
                          · rw [hsw]
                            ((repeat' (first|((conv => whnf);done)|((try conv => whnf);first|exact trivial|(refine And.intro ?_ ?_)|rfl|exact fun _ _ _ h=>h|exact fun _ _ _ _=>trivial)));(all_goals (try conv => whnf)))
                            exact congrArg (Value.int .i64) (by dsimp only; omega)
                rotate_right
                focus
                  conv => whnf
                  refine Sy.idx_nat (by omega) ?_
                  conv => whnf
                  refine ⟨(by repeat' ((conv => whnf);first|exact trivial|(refine And.intro ?_ ?_)|rfl)), ?_⟩
                  focus
                    refine zd1 [8, 13] (zx rfl ?_ (zx rfl ?_ zy))
                    focus
                      conv => whnf
                      refine Sy.idx_in (by omega) (by omega) ?_
                      conv => whnf
                      refine ⟨(by repeat' ((conv => whnf);first|exact trivial|(refine And.intro ?_ ?_)|rfl)), ?_⟩
                      focus
                        refine zd1 [9, 13] (zx rfl ?_ (zx rfl ?_ zy))
                        focus
                          conv => whnf
                          refine Sy.el_map y hgy ?_
                          conv => whnf
                          refine ⟨(by repeat' ((conv => whnf);first|exact trivial|(refine And.intro ?_ ?_)|rfl)), ?_⟩
                          refine zd1 [13] (zx rfl ?_ zy)
                          conv => whnf
                          refine Sy.el_map x hgx ?_
                          conv => whnf
                          refine ⟨(by repeat' ((conv => whnf);first|exact trivial|(refine And.intro ?_ ?_)|rfl)), ?_⟩
                          refine zd1 [14] (zx rfl ?_ zy)
                          conv => whnf
                          refine Sy.idx_nat (by omega) ?_
                          conv => whnf
                          refine ⟨(by repeat' ((conv => whnf);first|exact trivial|(refine And.intro ?_ ?_)|rfl)), ?_⟩
                          refine zd1 [15] (zx rfl ?_ zy)
                          conv => whnf
                          refine Sy.el_map x hgx ?_
                          conv => whnf
                          refine ⟨(by repeat' ((conv => whnf);first|exact trivial|(refine And.intro ?_ ?_)|rfl)), ?_⟩
                          refine zd1 [16] (zx rfl ?_ zy)
                          conv => whnf
                          refine Sy.idx_in (by omega) (by omega) ?_
                          conv => whnf
                          refine ⟨(by repeat' ((conv => whnf);first|exact trivial|(refine And.intro ?_ ?_)|rfl)), ?_⟩
                          refine zd1 [17] (zx rfl ?_ zy)
                          conv => whnf
                          refine Sy.el_of (encU y) (hgz _) ?_
                          conv => whnf
                          refine ⟨(by repeat' ((conv => whnf);first|exact trivial|(refine And.intro ?_ ?_)|rfl)), ?_⟩
                          refine zw ?_
                          ((repeat' ((conv => whnf);(first|refine zA ?_|(refine zI ?_ ?_<;> intro hh<;> first|(exfalso;omega)|skip)|(refine zl ?_ ?_<;> intro hh)|refine zq ?_|refine zv ?_|refine zu ?_|exact Sy.fin_val fun e=>rfl)));(all_goals (try conv => whnf)))
                          refine ⟨(j - 1, S0, y :: S2), ⟨by dsimp only; omega, by rw [← h3]; simp, fun s hs => ?_⟩, by simp, ?_⟩
                          · rcases List.mem_cons.1 hs with rfl | hs
                            · exact hxy
                            · exact h4 s hs
                          · rw [hsw]
                            ((repeat' (first|((conv => whnf);done)|((try conv => whnf);first|exact trivial|(refine And.intro ?_ ?_)|rfl|exact fun _ _ _ h=>h|exact fun _ _ _ _=>trivial)));(all_goals (try conv => whnf)))
                            exact congrArg (Value.int .i64) (by dsimp only; omega)
                        rotate_right
                        focus
                          conv => whnf
                          refine Sy.el_map x hgx ?_
                          conv => whnf
                          refine ⟨(by repeat' ((conv => whnf);first|exact trivial|(refine And.intro ?_ ?_)|rfl)), ?_⟩
                          refine zd1 [9] (zx rfl ?_ zy)
                          conv => whnf
                          refine Sy.el_map y hgy ?_
                          conv => whnf
                          refine ⟨(by repeat' ((conv => whnf);first|exact trivial|(refine And.intro ?_ ?_)|rfl)), ?_⟩
                          refine zd1 [14] (zx rfl ?_ zy)
                          conv => whnf
                          refine Sy.idx_nat (by omega) ?_
                          conv => whnf
                          refine ⟨(by repeat' ((conv => whnf);first|exact trivial|(refine And.intro ?_ ?_)|rfl)), ?_⟩
                          refine zd1 [15] (zx rfl ?_ zy)
                          conv => whnf
                          refine Sy.el_map x hgx ?_
                          conv => whnf
                          refine ⟨(by repeat' ((conv => whnf);first|exact trivial|(refine And.intro ?_ ?_)|rfl)), ?_⟩
                          refine zd1 [16] (zx rfl ?_ zy)
                          conv => whnf
                          refine Sy.idx_in (by omega) (by omega) ?_
                          conv => whnf
                          refine ⟨(by repeat' ((conv => whnf);first|exact trivial|(refine And.intro ?_ ?_)|rfl)), ?_⟩
                          refine zd1 [17] (zx rfl ?_ zy)
                          conv => whnf
                          refine Sy.el_of (encU y) (hgz _) ?_
                          conv => whnf
                          refine ⟨(by repeat' ((conv => whnf);first|exact trivial|(refine And.intro ?_ ?_)|rfl)), ?_⟩
                          refine zw ?_
                          ((repeat' ((conv => whnf);(first|refine zA ?_|(refine zI ?_ ?_<;> intro hh<;> first|(exfalso;omega)|skip)|(refine zl ?_ ?_<;> intro hh)|refine zq ?_|refine zv ?_|refine zu ?_|exact Sy.fin_val fun e=>rfl)));(all_goals (try conv => whnf)))
                          refine ⟨(j - 1, S0, y :: S2), ⟨by dsimp only; omega, by rw [← h3]; simp, fun s hs => ?_⟩, by simp, ?_⟩
                          · rcases List.mem_cons.1 hs with rfl | hs
                            · exact hxy
                            · exact h4 s hs
                          · rw [hsw]
                            ((repeat' (first|((conv => whnf);done)|((try conv => whnf);first|exact trivial|(refine And.intro ?_ ?_)|rfl|exact fun _ _ _ h=>h|exact fun _ _ _ _=>trivial)));(all_goals (try conv => whnf)))
                            exact congrArg (Value.int .i64) (by dsimp only; omega)
                    rotate_right
                    focus
                      conv => whnf
                      refine Sy.el_map x hgx ?_
                      conv => whnf
                      refine ⟨(by repeat' ((conv => whnf);first|exact trivial|(refine And.intro ?_ ?_)|rfl)), ?_⟩
                      refine zd1 [8] (zx rfl ?_ zy)
                      conv => whnf
                      refine Sy.idx_in (by omega) (by omega) ?_
                      conv => whnf
                      refine ⟨(by repeat' ((conv => whnf);first|exact trivial|(refine And.intro ?_ ?_)|rfl)), ?_⟩
                      refine zd1 [9] (zx rfl ?_ zy)
                      conv => whnf
                      refine Sy.el_map y hgy ?_
                      conv => whnf
                      refine ⟨(by repeat' ((conv => whnf);first|exact trivial|(refine And.intro ?_ ?_)|rfl)), ?_⟩
                      refine zd1 [14] (zx rfl ?_ zy)
                      conv => whnf
                      refine Sy.idx_nat (by omega) ?_
                      conv => whnf
                      refine ⟨(by repeat' ((conv => whnf);first|exact trivial|(refine And.intro ?_ ?_)|rfl)), ?_⟩
                      refine zd1 [15] (zx rfl ?_ zy)
                      conv => whnf
                      refine Sy.el_map x hgx ?_
                      conv => whnf
                      refine ⟨(by repeat' ((conv => whnf);first|exact trivial|(refine And.intro ?_ ?_)|rfl)), ?_⟩
                      refine zd1 [16] (zx rfl ?_ zy)
                      conv => whnf
                      refine Sy.idx_in (by omega) (by omega) ?_
                      conv => whnf
                      refine ⟨(by repeat' ((conv => whnf);first|exact trivial|(refine And.intro ?_ ?_)|rfl)), ?_⟩
                      refine zd1 [17] (zx rfl ?_ zy)
                      conv => whnf
                      refine Sy.el_of (encU y) (hgz _) ?_
                      conv => whnf
                      refine ⟨(by repeat' ((conv => whnf);first|exact trivial|(refine And.intro ?_ ?_)|rfl)), ?_⟩
                      refine zw ?_
                      ((repeat' ((conv => whnf);(first|refine zA ?_|(refine zI ?_ ?_<;> intro hh<;> first|(exfalso;omega)|skip)|(refine zl ?_ ?_<;> intro hh)|refine zq ?_|refine zv ?_|refine zu ?_|exact Sy.fin_val fun e=>rfl)));(all_goals (try conv => whnf)))
                      refine ⟨(j - 1, S0, y :: S2), ⟨by dsimp only; omega, by rw [← h3]; simp, fun s hs => ?_⟩, by simp, ?_⟩
                      · rcases List.mem_cons.1 hs with rfl | hs
                        · exact hxy
                        · exact h4 s hs
                      · rw [hsw]
                        ((repeat' (first|((conv => whnf);done)|((try conv => whnf);first|exact trivial|(refine And.intro ?_ ?_)|rfl|exact fun _ _ _ h=>h|exact fun _ _ _ _=>trivial)));(all_goals (try conv => whnf)))
                        exact congrArg (Value.int .i64) (by dsimp only; omega)
            · refine ⟨i + 1, ⟨by omega, by omega⟩, by omega, ?_⟩
              rw [show min (i + 1) b = i + 1 by omega, ← hput (S0 ++ [y]) S2 h3 (last_le (List.pairwise_append.1 (h3 ▸ hsrt)).1 (by omega)) h4]
              ((repeat' (first|((conv => whnf);done)|((try conv => whnf);first|exact trivial|(refine And.intro ?_ ?_)|rfl|exact fun _ _ _ h=>h|exact fun _ _ _ _=>trivial)));(all_goals (try conv => whnf)))
      · rw [show min i b = b by omega]
        exact Sy.fin_mut rfl (fun e => rfl)
end Go.Proofs.Ytkmdmjnbjoakbaa
