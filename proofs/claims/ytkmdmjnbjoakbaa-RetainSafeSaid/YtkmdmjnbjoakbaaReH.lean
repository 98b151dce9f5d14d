/- slices.Sort at numbers: falling rows. -/
import Derived.Test.YtkmdmjnbjoakbaaReG
import Derived.Test.YtkmdmjnbjoakbaaShelf
namespace Go.Proofs.Ytkmdmjnbjoakbaa
open Go Go.RowKit
open Sy (C SV V1 Blk St XD Els)
set_option maxRecDepth 10000

theorem fall_get {ds : List Int} (h : ds.Pairwise (fun a b => b < a)) {i j : Nat} {a b : Int} (hi : ds[i]? = some a) (hj : ds[j]? = some b) (hij : i < j) : b < a := by
  obtain ⟨h1, rfl⟩ := List.getElem?_eq_some_iff.1 hi
  obtain ⟨h2, rfl⟩ := List.getElem?_eq_some_iff.1 hj
  exact List.pairwise_iff_getElem.1 h i j h1 h2 hij
theorem fall_parted {ds : List Int} (h : ds.Pairwise (fun a b => b < a)) {p : Nat} {pv : Int} (hp : ds[p]? = some pv) : ds.countP (fun u => decide (u < pv)) = ds.length - 1 - p := by
  obtain ⟨hl, he⟩ := List.getElem?_eq_some_iff.1 hp
  have h1 : ds = ds.take p ++ pv :: ds.drop (p + 1) := by rw [← he, ← List.drop_eq_getElem_cons hl, List.take_append_drop]
  have h2 : (ds.take p).countP (fun u => decide (u < pv)) = 0 := List.countP_eq_zero.2 fun u hu => by
    obtain ⟨k, hk, rfl⟩ := List.mem_iff_getElem.1 hu
    rw [List.length_take] at hk
    have := fall_get h (List.getElem?_eq_getElem (show k < ds.length by omega)) hp (by omega)
    simp; omega
  have h3 : (ds.drop (p + 1)).countP (fun u => decide (u < pv)) = (ds.drop (p + 1)).length := List.countP_eq_length.2 fun u hu => by
    obtain ⟨k, hk, rfl⟩ := List.mem_iff_getElem.1 hu
    rw [List.length_drop] at hk
    have := fall_get h hp (List.getElem?_eq_getElem (show p + 1 + k < ds.length by omega)) (by omega)
    simp; exact this
  rw [h1, List.countP_append, List.countP_cons, h2, h3, List.length_append, List.length_cons, List.length_take, List.length_drop]
  simp
  omega
theorem two_up {Y : List Int} {j n : Nat} {pv : Int} (h : Parted Y j pv) (hl : Y.length = n) : insF (insF Y 0 j) (j + 1) n = sortL (Y.take j) ++ pv :: sortL (Y.drop (j + 1)) := by
  obtain ⟨hj, he⟩ := List.getElem?_eq_some_iff.1 h.at_
  have h1 : insF Y 0 j = sortL (Y.take j) ++ pv :: Y.drop (j + 1) := by
    rw [insF, List.take_zero, List.drop_zero, List.nil_append, ← he, ← List.drop_eq_getElem_cons hj]
  have hA : (sortL (Y.take j)).length = j := by rw [sortL_len, List.length_take]; omega
  rw [h1]
  generalize sortL (Y.take j) = A at *
  have hn : (A ++ pv :: Y.drop (j + 1)).length = n := by rw [List.length_append, List.length_cons, List.length_drop]; omega
  rw [insF, List.take_of_length_le (Nat.le_of_eq hn), List.drop_of_length_le (Nat.le_of_eq hn), List.append_nil]
  have e1 : (A ++ pv :: Y.drop (j + 1)).take (j + 1) = A ++ [pv] := by subst hA; rw [List.take_append, List.take_of_length_le (Nat.le_succ _)]; simp
  have e2 : (A ++ pv :: Y.drop (j + 1)).drop (j + 1) = Y.drop (j + 1) := by subst hA; simp [List.drop_append]
  rw [e1, e2]
  simp
theorem two_down {Y : List Int} {j n : Nat} {pv : Int} (h : Parted Y j pv) (hl : Y.length = n) : insF (insF Y (j + 1) n) 0 j = sortL (Y.take j) ++ pv :: sortL (Y.drop (j + 1)) := by
  obtain ⟨hj, he⟩ := List.getElem?_eq_some_iff.1 h.at_
  have h1 : insF Y (j + 1) n = Y.take j ++ pv :: sortL (Y.drop (j + 1)) := by
    rw [insF, List.take_of_length_le (Nat.le_of_eq hl), List.drop_of_length_le (Nat.le_of_eq hl), List.append_nil, List.take_succ_eq_append_getElem hj, he]
    simp
  have hA : (Y.take j).length = j := by rw [List.length_take]; omega
  rw [h1]
  generalize Y.take j = A at *
  have e1 : (A ++ pv :: sortL (Y.drop (j + 1))).take j = A := by subst hA; simp
  have e2 : (A ++ pv :: sortL (Y.drop (j + 1))).drop j = pv :: sortL (Y.drop (j + 1)) := by subst hA; simp
  rw [insF, List.take_zero, List.nil_append, e1, e2, List.drop_zero]
set_option maxHeartbeats 2000000 in
theorem pdqF_any (v : Value) (ds : List Int) (lim : Int) (w : World) (hown : Sy.OwnE w 25 1 v ds.length (ds.map encU)) (hf : ds.Pairwise (fun a b => b < a)) (hn : 13 ≤ ds.length ∧ ds.length ≤ 16) (hlim : lim ≠ 0) :
    Calls Try.prog 54 #[v, .int .i64 (0 : Nat), .int .i64 ds.length, .int .i64 lim] w (Sy.RetMut v (.tuple #[]) ⟨25, 1, ds.length, (sortL ds).map encU⟩ w) := by
  refine Sy.calls_mut Sy.lv54 Sy.tab_ok Try.func54 rfl _ Try.ntmps54 v 25 1 ds.length (ds.map encU) hown [] [.c (.row 0), .c (.v (.int .i64 (0 : Nat))), .c (.v (.int .i64 ds.length)), .c (.v (.int .i64 lim))] ?_ rfl rfl trivial ?_
  · simp [Sy.denAll, SV.den, C.den, Sy.Env.exts, Sy.Env.withRow]
  · obtain ⟨q, hq⟩ : ∃ q, q = ds.length / 4 := ⟨_, rfl⟩
    obtain ⟨x1, h1⟩ : ∃ x, ds[q]? = some x := ⟨ds[q], List.getElem?_eq_getElem (by omega)⟩
    obtain ⟨x2, h2⟩ : ∃ x, ds[2 * q]? = some x := ⟨ds[2 * q], List.getElem?_eq_getElem (by omega)⟩
    obtain ⟨x3, h3⟩ : ∃ x, ds[3 * q]? = some x := ⟨ds[3 * q], List.getElem?_eq_getElem (by omega)⟩
    have h12 := fall_get hf h1 h2 (by omega)
    have h23 := fall_get hf h2 h3 (by omega)
    ((repeat' ((conv => whnf);(first|refine zA ?_|(refine zI ?_ ?_<;> intro hh<;> first|(exfalso;omega)|skip)|(refine zl ?_ ?_<;> intro hh)|refine zq ?_|refine zv ?_|refine zu ?_|exact Sy.fin_val fun e=>rfl)));(all_goals (try conv => whnf)))
    refine Sy.loop_rounds 2 (Sy.loop_round Sy.tab_ok ?_)
    ((repeat' ((conv => whnf);(first|refine zA ?_|(refine zI ?_ ?_<;> intro hh<;> first|(exfalso;omega)|skip)|(refine zl ?_ ?_<;> intro hh)|refine zq ?_|refine zv ?_|refine zu ?_|exact Sy.fin_val fun e=>rfl)));(all_goals (try conv => whnf)))
    refine Sy.call_val (.tup [.c (.v (.int .i64 (2 * q : Nat))), .c (.v (.int .i64 0))]) Try.call62 rfl (fun e a w' h => choose_any (e.rv 0) ds q x1 x2 x3 w' (Sy.row_reads h (.inl ⟨_, rfl⟩)) hn hq h1 h2 h3 h12 h23) ?_
    have hd : decide ((0 : Int) < ((0 : Nat) : Int)) = false := rfl
    ((repeat' ((conv => whnf);(first|refine zA ?_|(refine zI ?_ ?_<;> intro hh<;> first|(exfalso;omega)|skip)|(refine zl ?_ ?_<;> intro hh)|refine zq ?_|refine zv ?_|refine zu ?_|exact Sy.fin_val fun e=>rfl)));(all_goals (try conv => whnf)))
    have hd : decide (((0 : Nat) : Int) > 0) = false := rfl
    have hd' : decide ((0 : Int) < ((0 : Nat) : Int)) = false := rfl
    all_goals (refine Sy.draw_go [] (by kernel_rfl) ?_; intro e0; conv => whnf)
    all_goals (refine zt 0 rfl ?_)
    all_goals (conv => whnf)
    all_goals (refine zt 1 rfl ?_)
    all_goals ((conv => whnf);(repeat' ((first|refine zA ?_|(refine zI ?_ ?_<;> intro hh<;> first|(exfalso;omega)|skip)|(refine zl ?_ ?_<;> intro hh)|refine zq ?_|refine zv ?_|refine zu ?_|exact Sy.fin_val fun e=>rfl);(try conv => whnf))))
    all_goals (refine zt 2 rfl ?_)
    all_goals (conv => whnf)
    all_goals (refine zt 3 rfl ?_)
    all_goals ((conv => whnf);(repeat' ((first|refine zA ?_|(refine zI ?_ ?_<;> intro hh<;> first|(exfalso;omega)|skip)|(refine zl ?_ ?_<;> intro hh)|refine zq ?_|refine zv ?_|refine zu ?_|exact Sy.fin_val fun e=>rfl);(try conv => whnf))))
    all_goals (refine zt 4 rfl ?_)
    all_goals ((conv => whnf);(repeat' ((first|refine zA ?_|(refine zI ?_ ?_<;> intro hh<;> first|(exfalso;omega)|skip)|(refine zl ?_ ?_<;> intro hh)|refine zq ?_|refine zv ?_|refine zu ?_|exact Sy.fin_val fun e=>rfl);(try conv => whnf))))
    all_goals (refine zt 5 rfl ?_)
    all_goals ((conv => whnf);(repeat' ((first|refine zA ?_|(refine zI ?_ ?_<;> intro hh<;> first|(exfalso;omega)|skip)|(refine zl ?_ ?_<;> intro hh)|refine zq ?_|refine zv ?_|refine zu ?_|exact Sy.fin_val fun e=>rfl);(try conv => whnf))))
    all_goals (refine zt 6 rfl ?_)
    all_goals ((conv => whnf);(repeat' ((first|refine zA ?_|(refine zI ?_ ?_<;> intro hh<;> first|(exfalso;omega)|skip)|(refine zl ?_ ?_<;> intro hh)|refine zq ?_|refine zv ?_|refine zu ?_|exact Sy.fin_val fun e=>rfl);(try conv => whnf))))
    all_goals (refine zt 7 rfl ?_)
    all_goals ((conv => whnf);(repeat' ((first|refine zA ?_|(refine zI ?_ ?_<;> intro hh<;> first|(exfalso;omega)|skip)|(refine zl ?_ ?_<;> intro hh)|refine zq ?_|refine zv ?_|refine zu ?_|exact Sy.fin_val fun e=>rfl);(try conv => whnf))))
    all_goals (refine zt 8 rfl ?_)
    all_goals ((conv => whnf);(repeat' ((first|refine zA ?_|(refine zI ?_ ?_<;> intro hh<;> first|(exfalso;omega)|skip)|(refine zl ?_ ?_<;> intro hh)|refine zq ?_|refine zv ?_|refine zu ?_|exact Sy.fin_val fun e=>rfl);(try conv => whnf))))
    all_goals (refine zt 9 rfl ?_)
    all_goals ((conv => whnf);(repeat' ((first|refine zA ?_|(refine zI ?_ ?_<;> intro hh<;> first|(exfalso;omega)|skip)|(refine zl ?_ ?_<;> intro hh)|refine zq ?_|refine zv ?_|refine zu ?_|exact Sy.fin_val fun e=>rfl);(try conv => whnf))))
    all_goals (refine zt 10 rfl ?_)
    all_goals ((conv => whnf);(repeat' ((first|refine zA ?_|(refine zI ?_ ?_<;> intro hh<;> first|(exfalso;omega)|skip)|(refine zl ?_ ?_<;> intro hh)|refine zq ?_|refine zv ?_|refine zu ?_|exact Sy.fin_val fun e=>rfl);(try conv => whnf))))
    all_goals (refine zt 11 rfl ?_)
    all_goals ((conv => whnf);(repeat' ((first|refine zA ?_|(refine zI ?_ ?_<;> intro hh<;> first|(exfalso;omega)|skip)|(refine zl ?_ ?_<;> intro hh)|refine zq ?_|refine zv ?_|refine zu ?_|exact Sy.fin_val fun e=>rfl);(try conv => whnf))))
    all_goals (refine zd1 [12] (zx rfl ?_ zy))
    all_goals (conv => whnf)
    all_goals ((refine zA ?_;conv => whnf))
    all_goals (skip)
    all_goals (refine ⟨(by repeat' ((conv => whnf);first|exact trivial|(refine And.intro ?_ ?_)|rfl)), ?_⟩)
    all_goals (refine zt 13 rfl ?_)
    all_goals ((conv => whnf);(repeat' ((first|refine zA ?_|(refine zI ?_ ?_<;> intro hh<;> first|(exfalso;omega)|skip)|(refine zl ?_ ?_<;> intro hh)|refine zq ?_|refine zv ?_|refine zu ?_|exact Sy.fin_val fun e=>rfl);(try conv => whnf))))
    all_goals (refine zt 14 rfl ?_)
    all_goals ((conv => whnf);(repeat' ((first|refine zA ?_|(refine zI ?_ ?_<;> intro hh<;> first|(exfalso;omega)|skip)|(refine zl ?_ ?_<;> intro hh)|refine zq ?_|refine zv ?_|refine zu ?_|exact Sy.fin_val fun e=>rfl);(try conv => whnf))))
    all_goals (refine zw ?_)
    all_goals (((repeat' ((conv => whnf);(first|refine zA ?_|(refine zI ?_ ?_<;> intro hh<;> first|(exfalso;omega)|skip)|(refine zl ?_ ?_<;> intro hh)|refine zq ?_|refine zv ?_|refine zu ?_|exact Sy.fin_val fun e=>rfl)));(all_goals (try conv => whnf))))
    refine Sy.call_mutx 0 1 (partP ds x2) (fun r => ⟨25, 1, ds.length, r.1.map encU⟩) (fun r => .tup [.c (.v (.int .i64 r.2.1)), .c (.v (.bool r.2.2))]) Try.call67 (fun e a w' h => part_any (e.rv 0) ds (2 * q) x2 w' (h.hp 0 _ rfl).1 (by omega) (by omega) h2) (fun r hr => ?_)
    obtain ⟨Y, j, b⟩ := r
    obtain ⟨hperm, hpart⟩ := hr
    dsimp only at hperm hpart ⊢
    have hj : j = ds.length - 1 - 2 * q := by rw [← fall_parted hf h2, ← parted_count hpart]; exact hperm.countP_eq _
    have hYl : Y.length = ds.length := hperm.length_eq
    have hsort := parted_sort hpart hperm
    ((repeat' ((conv => whnf);(first|refine zA ?_|(refine zI ?_ ?_<;> intro hh<;> first|(exfalso;omega)|skip)|(refine zl ?_ ?_<;> intro hh)|refine zq ?_|refine zv ?_|refine zu ?_|exact Sy.fin_val fun e=>rfl)));(all_goals (try conv => whnf)))
    refine Sy.div_in ⟨by omega, by omega⟩ (by decide) ?_
    ((repeat' ((conv => whnf);(first|refine zA ?_|(refine zI ?_ ?_<;> intro hh<;> first|(exfalso;omega)|skip)|(refine zl ?_ ?_<;> intro hh)|refine zq ?_|refine zv ?_|refine zu ?_|exact Sy.fin_val fun e=>rfl)));(all_goals (try conv => whnf)))
    · refine Sy.call_mut 0 ⟨25, 1, ds.length, (insF Y 0 j).map encU⟩ (.tup []) Try.call54 (fun e a w' h => by have := pdq12_any (e.rv 0) Y 0 j lim w' (by rw [hYl]; exact (h.hp 0 _ rfl).1) (by omega) (by omega) (by omega) (by omega); rw [hYl] at this; exact this) ?_
      have hZl : (insF Y 0 j).length = ds.length := by rw [insF_len _ _ _ (by omega), hYl]
      ((repeat' ((conv => whnf);(first|refine zA ?_|(refine zI ?_ ?_<;> intro hh<;> first|(exfalso;omega)|skip)|(refine zl ?_ ?_<;> intro hh)|refine zq ?_|refine zv ?_|refine zu ?_|exact Sy.fin_val fun e=>rfl)));(all_goals (try conv => whnf)))
      refine Sy.loop_round Sy.tab_ok ?_
      ((repeat' ((conv => whnf);(first|refine zA ?_|(refine zI ?_ ?_<;> intro hh<;> first|(exfalso;omega)|skip)|(refine zl ?_ ?_<;> intro hh)|refine zq ?_|refine zv ?_|refine zu ?_|exact Sy.fin_val fun e=>rfl)));(all_goals (try conv => whnf)))
      refine Sy.call_mut 0 ⟨25, 1, ds.length, (sortL ds).map encU⟩ (.tup []) Try.call59 (fun e a w' h => by have := ins_any (e.rv 0) (insF Y 0 j) (j + 1) ds.length w' (by rw [hZl]; exact (h.hp 0 _ rfl).1) (by omega) (by omega) (by omega); rw [hZl, two_up hpart hYl, hsort] at this; exact this) ?_
      ((repeat' ((conv => whnf);(first|refine zA ?_|(refine zI ?_ ?_<;> intro hh<;> first|(exfalso;omega)|skip)|(refine zl ?_ ?_<;> intro hh)|refine zq ?_|refine zv ?_|refine zu ?_|exact Sy.fin_val fun e=>rfl)));(all_goals (try conv => whnf)))
      exact Sy.fin_mut rfl (fun e => rfl)
    · refine Sy.call_mut 0 ⟨25, 1, ds.length, (insF Y (j + 1) ds.length).map encU⟩ (.tup []) Try.call54 (fun e a w' h => by have := pdq12_any (e.rv 0) Y (j + 1) ds.length lim w' (by rw [hYl]; exact (h.hp 0 _ rfl).1) (by omega) (by omega) (by omega) (by omega); rw [hYl] at this; exact this) ?_
      have hZl : (insF Y (j + 1) ds.length).length = ds.length := by rw [insF_len _ _ _ (by omega), hYl]
      ((repeat' ((conv => whnf);(first|refine zA ?_|(refine zI ?_ ?_<;> intro hh<;> first|(exfalso;omega)|skip)|(refine zl ?_ ?_<;> intro hh)|refine zq ?_|refine zv ?_|refine zu ?_|exact Sy.fin_val fun e=>rfl)));(all_goals (try conv => whnf)))
      refine Sy.loop_round Sy.tab_ok ?_
      ((repeat' ((conv => whnf);(first|refine zA ?_|(refine zI ?_ ?_<;> intro hh<;> first|(exfalso;omega)|skip)|(refine zl ?_ ?_<;> intro hh)|refine zq ?_|refine zv ?_|refine zu ?_|exact Sy.fin_val fun e=>rfl)));(all_goals (try conv => whnf)))
      refine Sy.call_mut 0 ⟨25, 1, ds.length, (sortL ds).map encU⟩ (.tup []) Try.call59 (fun e a w' h => by have := ins_any (e.rv 0) (insF Y (j + 1) ds.length) 0 j w' (by rw [hZl]; exact (h.hp 0 _ rfl).1) (by omega) (by omega) (by omega); rw [hZl, two_down hpart hYl, hsort] at this; exact this) ?_
      ((repeat' ((conv => whnf);(first|refine zA ?_|(refine zI ?_ ?_<;> intro hh<;> first|(exfalso;omega)|skip)|(refine zl ?_ ?_<;> intro hh)|refine zq ?_|refine zv ?_|refine zu ?_|exact Sy.fin_val fun e=>rfl)));(all_goals (try conv => whnf)))
      exact Sy.fin_mut rfl (fun e => rfl)

theorem len_any (x : Nat) (w : World) (h : x ≤ 1000) : Calls Try.prog 55 #[.int .u64 x] w (Sy.Ret (.int .i64 (Lib.bitLen x)) w) :=
  (Try.bits_Len (x : Int) w (by omega) (by omega)).mono fun E w' ⟨h1, h2⟩ => by subst h2; exact ⟨h1, Below.refl _ _⟩
theorem sortU_any (v : Value) (ds : List Int) (w : World) (hown : Sy.OwnE w 25 1 v ds.length (ds.map encU)) (hf : ds.Pairwise (fun a b => b < a)) (hn : ds.length ≤ 16) :
    Calls Try.prog 45 #[v] w (Sy.RetMut v (.tuple #[]) ⟨25, 1, ds.length, (sortL ds).map encU⟩ w) := by
  refine Sy.calls_mut Sy.lv45 Sy.tab_ok Try.func45 rfl _ Try.ntmps45 v 25 1 ds.length (ds.map encU) hown [] [.c (.row 0)] ?_ rfl rfl trivial ?_
  · simp [Sy.denAll, SV.den, C.den, Sy.Env.exts, Sy.Env.withRow]
  · ((repeat' ((conv => whnf);(first|refine zA ?_|(refine zI ?_ ?_<;> intro hh<;> first|(exfalso;omega)|skip)|(refine zl ?_ ?_<;> intro hh)|refine zq ?_|refine zv ?_|refine zu ?_|exact Sy.fin_val fun e=>rfl)));(all_goals (try conv => whnf)))
    refine Sy.ar_u64 (by omega) ?_
    ((repeat' ((conv => whnf);(first|refine zA ?_|(refine zI ?_ ?_<;> intro hh<;> first|(exfalso;omega)|skip)|(refine zl ?_ ?_<;> intro hh)|refine zq ?_|refine zv ?_|refine zu ?_|exact Sy.fin_val fun e=>rfl)));(all_goals (try conv => whnf)))
    refine Sy.call_val (.c (.v (.int .i64 (Lib.bitLen ds.length)))) Try.call55 rfl (fun e a w' h => len_any ds.length w' (by omega)) ?_
    ((repeat' ((conv => whnf);(first|refine zA ?_|(refine zI ?_ ?_<;> intro hh<;> first|(exfalso;omega)|skip)|(refine zl ?_ ?_<;> intro hh)|refine zq ?_|refine zv ?_|refine zu ?_|exact Sy.fin_val fun e=>rfl)));(all_goals (try conv => whnf)))
    refine Sy.call_mut 0 ⟨25, 1, ds.length, (sortL ds).map encU⟩ (.tup []) Try.call54 (fun e a w' h => ?_) ?_
    · by_cases h12 : ds.length ≤ 12
      · have := pdq12_any (e.rv 0) ds 0 ds.length (Lib.bitLen ds.length) w' (h.hp 0 _ rfl).1 (by omega) (by omega) (by omega) (by omega)
        rw [show insF ds 0 ds.length = sortL ds by simp [insF]] at this
        exact this
      · exact pdqF_any (e.rv 0) ds (Lib.bitLen ds.length) w' (h.hp 0 _ rfl).1 hf (by omega) (by
          have : ds.length = 13 ∨ ds.length = 14 ∨ ds.length = 15 ∨ ds.length = 16 := by omega
          rcases this with h | h | h | h <;> rw [h] <;> decide)
    · ((repeat' ((conv => whnf);(first|refine zA ?_|(refine zI ?_ ?_<;> intro hh<;> first|(exfalso;omega)|skip)|(refine zl ?_ ?_<;> intro hh)|refine zq ?_|refine zv ?_|refine zu ?_|exact Sy.fin_val fun e=>rfl)));(all_goals (try conv => whnf)))
      exact Sy.fin_mut rfl (fun e => rfl)
end Go.Proofs.Ytkmdmjnbjoakbaa
