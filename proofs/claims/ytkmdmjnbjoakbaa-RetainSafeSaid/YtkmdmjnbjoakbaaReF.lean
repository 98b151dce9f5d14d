/- slices.Sort at numbers: falling rows of up to 16. -/
import Derived.Test.YtkmdmjnbjoakbaaReE
namespace Go.Proofs.Ytkmdmjnbjoakbaa
open Go Go.RowKit
open Sy (C SV V1 Blk St XD Els)
set_option maxRecDepth 10000

theorem pdq12_any (v : Value) (xs : List Int) (a b : Nat) (lim : Int) (w : World) (hown : Sy.OwnE w 25 1 v xs.length (xs.map encU)) (hab : a ≤ b) (hb : b ≤ xs.length) (h12 : b ≤ a + 12) (hl : xs.length ≤ 1000) :
    Calls Try.prog 54 #[v, .int .i64 a, .int .i64 b, .int .i64 lim] w (Sy.RetMut v (.tuple #[]) ⟨25, 1, xs.length, (insF xs a b).map encU⟩ w) := by
  refine Sy.calls_mut Sy.lv54 Sy.tab_ok Try.func54 rfl _ Try.ntmps54 v 25 1 xs.length (xs.map encU) hown [] [.c (.row 0), .c (.v (.int .i64 a)), .c (.v (.int .i64 b)), .c (.v (.int .i64 lim))] ?_ rfl rfl trivial ?_
  · simp [Sy.denAll, SV.den, C.den, Sy.Env.exts, Sy.Env.withRow]
  · ((repeat' ((conv => whnf);(first|refine zA ?_|(refine zI ?_ ?_<;> intro hh<;> first|(exfalso;omega)|skip)|(refine zl ?_ ?_<;> intro hh)|refine zq ?_|refine zv ?_|refine zu ?_|exact Sy.fin_val fun e=>rfl)));(all_goals (try conv => whnf)))
    refine Sy.loop_rounds 1 (Sy.loop_round Sy.tab_ok ?_)
    ((repeat' ((conv => whnf);(first|refine zA ?_|(refine zI ?_ ?_<;> intro hh<;> first|(exfalso;omega)|skip)|(refine zl ?_ ?_<;> intro hh)|refine zq ?_|refine zv ?_|refine zu ?_|exact Sy.fin_val fun e=>rfl)));(all_goals (try conv => whnf)))
    refine Sy.call_mut 0 ⟨25, 1, xs.length, (insF xs a b).map encU⟩ (.tup []) Try.call59 (fun e a' w' h => ins_any (e.rv 0) xs a b w' (h.hp 0 _ rfl).1 hab hb hl) ?_
    ((repeat' ((conv => whnf);(first|refine zA ?_|(refine zI ?_ ?_<;> intro hh<;> first|(exfalso;omega)|skip)|(refine zl ?_ ?_<;> intro hh)|refine zq ?_|refine zv ?_|refine zu ?_|exact Sy.fin_val fun e=>rfl)));(all_goals (try conv => whnf)))
    exact Sy.fin_mut rfl (fun e => rfl)

theorem divq {x : Int} {q : Nat} {K : Int → Prop} (h0 : (q : Int) = x / 4 ∧ 0 ≤ x ∧ x ≤ 9223372036854775807) (h : K q) : Sy.divP .i64 x 4 K :=
  Sy.div_in ⟨h0.2.1, h0.2.2⟩ (by decide) (h0.1 ▸ h)
theorem choose_any (v : Value) (ds : List Int) (q : Nat) (x1 x2 x3 : Int) (w : World) (hr : XD.ok (fun b => b < w.heap.size) w ⟨v, 1, ds.length, ds.map encU⟩) (hn : 13 ≤ ds.length ∧ ds.length ≤ 16) (hq : q = ds.length / 4)
    (h1 : ds[q]? = some x1) (h2 : ds[2 * q]? = some x2) (h3 : ds[3 * q]? = some x3) (h12 : x2 < x1) (h23 : x3 < x2) :
    Calls Try.prog 62 #[v, .int .i64 (0 : Nat), .int .i64 ds.length] w (Sy.Ret (.tuple #[.int .i64 (2 * q : Nat), .int .i64 0]) w) := by
  refine Sy.calls_of Sy.lv62 Sy.tab_ok Try.func62 rfl _ Try.ntmps62 [⟨v, 1, ds.length, ds.map encU⟩] [.c (.row 0), .c (.v (.int .i64 (0 : Nat))), .c (.v (.int .i64 ds.length))] rfl rfl rfl ⟨hr, trivial⟩ ?_
  ((repeat' ((conv => whnf);(first|refine zA ?_|(refine zI ?_ ?_<;> intro hh<;> first|(exfalso;omega)|skip)|(refine zl ?_ ?_<;> intro hh)|refine zq ?_|refine zv ?_|refine zu ?_|exact Sy.fin_val fun e=>rfl)));(all_goals (try conv => whnf)))
  have h1' : ds[(((0 : Nat) : Int) + (q : Int) * 1).toNat]? = some x1 := by rw [show (((0 : Nat) : Int) + (q : Int) * 1).toNat = q by omega]; exact h1
  have h2' : ds[(((0 : Nat) : Int) + (q : Int) * 2).toNat]? = some x2 := by rw [show (((0 : Nat) : Int) + (q : Int) * 2).toNat = 2 * q by omega]; exact h2
  have h3' : ds[(((0 : Nat) : Int) + (q : Int) * 3).toNat]? = some x3 := by rw [show (((0 : Nat) : Int) + (q : Int) * 3).toNat = 3 * q by omega]; exact h3
  refine divq (q := q) (by omega) ?_
  ((repeat' ((conv => whnf);(first|refine zA ?_|(refine zI ?_ ?_<;> intro hh<;> first|(exfalso;omega)|skip)|(refine zl ?_ ?_<;> intro hh)|refine zq ?_|refine zv ?_|refine zu ?_|exact Sy.fin_val fun e=>rfl)));(all_goals (try conv => whnf)))
  refine divq (q := q) (by omega) ?_
  ((repeat' ((conv => whnf);(first|refine zA ?_|(refine zI ?_ ?_<;> intro hh<;> first|(exfalso;omega)|skip)|(refine zl ?_ ?_<;> intro hh)|refine zq ?_|refine zv ?_|refine zu ?_|exact Sy.fin_val fun e=>rfl)));(all_goals (try conv => whnf)))
  refine divq (q := q) (by omega) ?_
  ((repeat' ((conv => whnf);(first|refine zA ?_|(refine zI ?_ ?_<;> intro hh<;> first|(exfalso;omega)|skip)|(refine zl ?_ ?_<;> intro hh)|refine zq ?_|refine zv ?_|refine zu ?_|exact Sy.fin_val fun e=>rfl)));(all_goals (try conv => whnf)))
  refine Sy.call_in Sy.lv74 Sy.tab_ok Try.func74 rfl _ Try.ntmps74 Try.call74 rfl (fun _ => ?_)
  ((repeat' ((conv => whnf);(first|refine zA ?_|(refine zI ?_ ?_<;> intro hh<;> first|(exfalso;omega)|skip)|(refine zl ?_ ?_<;> intro hh)|refine zq ?_|refine zv ?_|refine zu ?_|exact Sy.fin_val fun e=>rfl)));(all_goals (try conv => whnf)))
  refine Sy.call_in Sy.lv75 Sy.tab_ok Try.func75 rfl _ Try.ntmps75 Try.call75 rfl (fun _ => ?_)
  ((repeat' ((conv => whnf);(first|refine zA ?_|(refine zI ?_ ?_<;> intro hh<;> first|(exfalso;omega)|skip)|(refine zl ?_ ?_<;> intro hh)|refine zq ?_|refine zv ?_|refine zu ?_|exact Sy.fin_val fun e=>rfl)));(all_goals (try conv => whnf)))
  refine Sy.draw_go [] (by kernel_rfl) ?_
  intro e0
  conv => whnf
  refine zt 0 rfl ?_
  conv => whnf
  refine zt 1 rfl ?_
  conv => whnf
  refine zt 2 rfl ?_
  (conv => whnf);(repeat' ((first|refine zA ?_|(refine zI ?_ ?_<;> intro hh<;> first|(exfalso;omega)|skip)|(refine zl ?_ ?_<;> intro hh)|refine zq ?_|refine zv ?_|refine zu ?_|exact Sy.fin_val fun e=>rfl);(try conv => whnf)))
  refine zt 3 rfl ?_
  conv => whnf
  refine Sy.el_map x2 h2' ?_
  conv => whnf
  refine zt 4 rfl ?_
  conv => whnf
  refine zt 5 rfl ?_
  conv => whnf
  refine zt 6 rfl ?_
  (conv => whnf);(repeat' ((first|refine zA ?_|(refine zI ?_ ?_<;> intro hh<;> first|(exfalso;omega)|skip)|(refine zl ?_ ?_<;> intro hh)|refine zq ?_|refine zv ?_|refine zu ?_|exact Sy.fin_val fun e=>rfl);(try conv => whnf)))
  refine zt 7 rfl ?_
  conv => whnf
  refine Sy.el_map x1 h1' ?_
  conv => whnf
  refine zd1 [8] (zx rfl ?_ zy)
  conv => whnf
  refine Sy.call_val (.c (.v (.bool (decide (x2 < x1))))) Try.call65 rfl (fun e a w' h => lessU_any x2 x1 w') ?_
  refine ⟨(by repeat' ((conv => whnf);first|exact trivial|(refine And.intro ?_ ?_)|rfl)), ?_⟩
  refine zw ?_
  ((repeat' ((conv => whnf);(first|refine zA ?_|(refine zI ?_ ?_<;> intro hh<;> first|(exfalso;omega)|skip)|(refine zl ?_ ?_<;> intro hh)|refine zq ?_|refine zv ?_|refine zu ?_|exact Sy.fin_val fun e=>rfl)));(all_goals (try conv => whnf)))
  refine Sy.call_in Sy.lv75 Sy.tab_ok Try.func75 rfl _ Try.ntmps75 Try.call75 rfl (fun _ => ?_)
  ((repeat' ((conv => whnf);(first|refine zA ?_|(refine zI ?_ ?_<;> intro hh<;> first|(exfalso;omega)|skip)|(refine zl ?_ ?_<;> intro hh)|refine zq ?_|refine zv ?_|refine zu ?_|exact Sy.fin_val fun e=>rfl)));(all_goals (try conv => whnf)))
  refine Sy.draw_go [] (by kernel_rfl) ?_
  intro e0
  conv => whnf
  refine zt 0 rfl ?_
  conv => whnf
  refine zt 1 rfl ?_
  conv => whnf
  refine zt 2 rfl ?_
  (conv => whnf);(repeat' ((first|refine zA ?_|(refine zI ?_ ?_<;> intro hh<;> first|(exfalso;omega)|skip)|(refine zl ?_ ?_<;> intro hh)|refine zq ?_|refine zv ?_|refine zu ?_|exact Sy.fin_val fun e=>rfl);(try conv => whnf)))
  refine zt 3 rfl ?_
  conv => whnf
  refine Sy.el_map x3 h3' ?_
  conv => whnf
  refine zt 4 rfl ?_
  conv => whnf
  refine zt 5 rfl ?_
  conv => whnf
  refine zt 6 rfl ?_
  (conv => whnf);(repeat' ((first|refine zA ?_|(refine zI ?_ ?_<;> intro hh<;> first|(exfalso;omega)|skip)|(refine zl ?_ ?_<;> intro hh)|refine zq ?_|refine zv ?_|refine zu ?_|exact Sy.fin_val fun e=>rfl);(try conv => whnf)))
  refine zt 7 rfl ?_
  conv => whnf
  refine Sy.el_map x1 h1' ?_
  conv => whnf
  refine zd1 [8] (zx rfl ?_ zy)
  conv => whnf
  refine Sy.call_val (.c (.v (.bool (decide (x3 < x1))))) Try.call65 rfl (fun e a w' h => lessU_any x3 x1 w') ?_
  refine ⟨(by repeat' ((conv => whnf);first|exact trivial|(refine And.intro ?_ ?_)|rfl)), ?_⟩
  refine zw ?_
  ((repeat' ((conv => whnf);(first|refine zA ?_|(refine zI ?_ ?_<;> intro hh<;> first|(exfalso;omega)|skip)|(refine zl ?_ ?_<;> intro hh)|refine zq ?_|refine zv ?_|refine zu ?_|exact Sy.fin_val fun e=>rfl)));(all_goals (try conv => whnf)))
  refine Sy.call_in Sy.lv75 Sy.tab_ok Try.func75 rfl _ Try.ntmps75 Try.call75 rfl (fun _ => ?_)
  ((repeat' ((conv => whnf);(first|refine zA ?_|(refine zI ?_ ?_<;> intro hh<;> first|(exfalso;omega)|skip)|(refine zl ?_ ?_<;> intro hh)|refine zq ?_|refine zv ?_|refine zu ?_|exact Sy.fin_val fun e=>rfl)));(all_goals (try conv => whnf)))
  refine Sy.draw_go [] (by kernel_rfl) ?_
  intro e0
  conv => whnf
  refine zt 0 rfl ?_
  conv => whnf
  refine zt 1 rfl ?_
  conv => whnf
  refine zt 2 rfl ?_
  (conv => whnf);(repeat' ((first|refine zA ?_|(refine zI ?_ ?_<;> intro hh<;> first|(exfalso;omega)|skip)|(refine zl ?_ ?_<;> intro hh)|refine zq ?_|refine zv ?_|refine zu ?_|exact Sy.fin_val fun e=>rfl);(try conv => whnf)))
  refine zt 3 rfl ?_
  conv => whnf
  refine Sy.el_map x3 h3' ?_
  conv => whnf
  refine zt 4 rfl ?_
  conv => whnf
  refine zt 5 rfl ?_
  conv => whnf
  refine zt 6 rfl ?_
  (conv => whnf);(repeat' ((first|refine zA ?_|(refine zI ?_ ?_<;> intro hh<;> first|(exfalso;omega)|skip)|(refine zl ?_ ?_<;> intro hh)|refine zq ?_|refine zv ?_|refine zu ?_|exact Sy.fin_val fun e=>rfl);(try conv => whnf)))
  refine zt 7 rfl ?_
  conv => whnf
  refine Sy.el_map x2 h2' ?_
  conv => whnf
  refine zd1 [8] (zx rfl ?_ zy)
  conv => whnf
  refine Sy.call_val (.c (.v (.bool (decide (x3 < x2))))) Try.call65 rfl (fun e a w' h => lessU_any x3 x2 w') ?_
  refine ⟨(by repeat' ((conv => whnf);first|exact trivial|(refine And.intro ?_ ?_)|rfl)), ?_⟩
  refine zw ?_
  ((repeat' ((conv => whnf);(first|refine zA ?_|(refine zI ?_ ?_<;> intro hh<;> first|(exfalso;omega)|skip)|(refine zl ?_ ?_<;> intro hh)|refine zq ?_|refine zv ?_|refine zu ?_|exact Sy.fin_val fun e=>rfl)));(all_goals (try conv => whnf)))
  exact Sy.fin_val (fun e => by
    show Value.tuple #[.int .i64 (((0 : Nat) : Int) + (q : Int) * 2), .int .i64 0] = _
    rw [show ((0 : Nat) : Int) + (q : Int) * 2 = ((2 * q : Nat) : Int) by omega])

theorem set_perm (X : List Int) (i : Nat) (x y : Int) (h : X[i]? = some x) : (x :: X.set i y).Perm (y :: X) := by
  obtain ⟨hi, rfl⟩ := List.getElem?_eq_some_iff.1 h
  have h1 : X.set i y = X.take i ++ y :: X.drop (i + 1) := by rw [List.set_eq_take_append_cons_drop, if_pos hi]
  have h2 : X.take i ++ X[i] :: X.drop (i + 1) = X := by rw [← List.drop_eq_getElem_cons hi, List.take_append_drop]
  have p1 : (X.take i ++ y :: X.drop (i + 1)).Perm (y :: (X.take i ++ X.drop (i + 1))) := List.perm_middle
  have p2 : (X.take i ++ X[i] :: X.drop (i + 1)).Perm (X[i] :: (X.take i ++ X.drop (i + 1))) := List.perm_middle
  rw [h2] at p2
  rw [h1]
  exact (p1.cons _).trans ((List.Perm.swap _ _ _).trans (p2.symm.cons _))
theorem swap_perm {X : List Int} {i j : Nat} {x y : Int} (hi : X[i]? = some x) (hj : X[j]? = some y) (hne : i ≠ j) : ((X.set i y).set j x).Perm X := by
  have h1 := set_perm X i x y hi
  have h2 := set_perm (X.set i y) j y x (by rw [List.getElem?_set_ne hne]; exact hj)
  exact (h2.trans h1).cons_inv
theorem swap_self {X : List Int} {i : Nat} {x y : Int} (hi : X[i]? = some x) (hj : X[i]? = some y) : (X.set i y).set i x = X := by
  obtain ⟨h, rfl⟩ := List.getElem?_eq_some_iff.1 hi
  simp
/-- Behind a parting: those ahead of j are less than its element, and those behind it are not. -/
structure Parted (X : List Int) (j : Nat) (pv : Int) : Prop where
  at_ : X[j]? = some pv
  lo : ∀ k u, k < j → X[k]? = some u → u < pv
  hi : ∀ k u, j < k → X[k]? = some u → pv ≤ u
theorem parted_split {X : List Int} {j : Nat} {pv : Int} (h : Parted X j pv) : X = X.take j ++ pv :: X.drop (j + 1) ∧ (∀ u ∈ X.take j, u < pv) ∧ (∀ u ∈ X.drop (j + 1), pv ≤ u) := by
  obtain ⟨hj, he⟩ := List.getElem?_eq_some_iff.1 h.at_
  refine ⟨by rw [← he, ← List.drop_eq_getElem_cons hj, List.take_append_drop], fun u hu => ?_, fun u hu => ?_⟩
  · obtain ⟨k, hk, rfl⟩ := List.mem_iff_getElem.1 hu
    rw [List.length_take] at hk
    exact h.lo k _ (by omega) (by rw [List.getElem_take, List.getElem?_eq_getElem])
  · obtain ⟨k, hk, rfl⟩ := List.mem_iff_getElem.1 hu
    rw [List.length_drop] at hk
    exact h.hi (j + 1 + k) _ (by omega) (by rw [List.getElem_drop, List.getElem?_eq_getElem])
theorem parted_count {X : List Int} {j : Nat} {pv : Int} (h : Parted X j pv) : X.countP (fun u => decide (u < pv)) = j := by
  obtain ⟨h1, h2, h3⟩ := parted_split h
  have hj := (List.getElem?_eq_some_iff.1 h.at_).1
  rw [h1, List.countP_append, List.countP_cons, List.countP_eq_length.2 (fun u hu => decide_eq_true (h2 u hu)), List.countP_eq_zero.2 (fun u hu => by simpa using h3 u hu)]
  simp
  omega
/-- The parts sorted: all is. -/
theorem parted_sort {X ds : List Int} {j : Nat} {pv : Int} (h : Parted X j pv) (hp : X.Perm ds) : sortL (X.take j) ++ pv :: sortL (X.drop (j + 1)) = sortL ds := by
  obtain ⟨h1, h2, h3⟩ := parted_split h
  refine (sortL_eq ?_ ?_).symm
  · refine hp.symm.trans ?_
    conv => lhs; rw [h1]
    exact (sortL_perm _).symm.append ((sortL_perm _).symm.cons _)
  · refine List.pairwise_append.2 ⟨sortL_sorted _, List.pairwise_cons.2 ⟨fun u hu => h3 u ((sortL_perm _).subset hu), sortL_sorted _⟩, fun u hu t ht => ?_⟩
    have hu' := h2 u ((sortL_perm _).subset hu)
    rcases List.mem_cons.1 ht with rfl | ht
    · omega
    · have := h3 t ((sortL_perm _).subset ht); omega
end Go.Proofs.Ytkmdmjnbjoakbaa
