/- Slots: rows of workers and of places: equal, cloned (written by wip/tools/gen_slots.py) -/
import Derived.Test.YtjhjmeajdebcbaaSSpec
namespace Go.Proofs.Ytjhjmeajdebcbaa
open Go Go.RowKit
open Sy (C SV V1 Blk St XD Els)
set_option maxRecDepth 10000

theorem equalW_any (u v : Value) (xs ys : List (Int × Int)) (w : World) (hx : XD.ok (fun b => b < w.heap.size) w ⟨u, 2, xs.length, xs.map enc2⟩) (hy : XD.ok (fun b => b < w.heap.size) w ⟨v, 2, ys.length, ys.map enc2⟩) :
    Calls Try.prog 57 #[u, v] w (Sy.Ret (.bool (decide (xs = ys))) w) := by
  have hl := ok_len hx
  have hl' := ok_len hy
  refine Sy.calls_of Sy.lv57 Sy.tab_ok Try.func57 rfl _ Try.ntmps57 [⟨u, 2, xs.length, xs.map enc2⟩, ⟨v, 2, ys.length, ys.map enc2⟩] [.c (.row 0), .c (.row 1)] rfl rfl rfl ⟨hx, hy, trivial⟩ ?_
  ((repeat' ((conv => whnf);(first|refine zA ?_|(refine zI ?_ ?_<;> intro hh<;> first|(exfalso;omega)|skip)|(refine zl ?_ ?_<;> intro hh)|refine zq ?_|refine zv ?_|refine zu ?_|exact Sy.fin_val fun e=>rfl)));(all_goals (try conv => whnf)))
  · refine Sy.loop_inv Sy.tab_ok (fun n : Nat => [(13, .c (.v (.int .i64 n)))]) (fun _ => []) (fun n => n ≤ xs.length ∧ ∀ i, i < n → xs[i]? = ys[i]?) (fun n => xs.length - n) 0 ⟨Nat.zero_le _, fun i hi => by omega⟩ ?_ (fun n hle => ?_)
    · ((repeat' (first|((conv => whnf);done)|((try conv => whnf);first|exact trivial|(refine And.intro ?_ ?_)|rfl|exact fun _ _ _ h=>h|exact fun _ _ _ _=>trivial)));(all_goals (try conv => whnf)))
    · obtain ⟨hle, hpre⟩ := hle
      ((repeat' ((conv => whnf);(first|refine zA ?_|(refine zI ?_ ?_<;> intro hh<;> first|(exfalso;omega)|skip)|(refine zl ?_ ?_<;> intro hh)|refine zq ?_|refine zv ?_|refine zu ?_|exact Sy.fin_val fun e=>rfl)));(all_goals (try conv => whnf)))
      · have hlt : n < xs.length := by omega
        have h1 := List.getElem?_eq_getElem hlt
        have h2 := List.getElem?_eq_getElem (show n < ys.length by omega)
        generalize xs[n] = x at *
        generalize ys[n]'(by omega) = y at *
        all_goals (refine Sy.draw_go [] (by kernel_rfl) ?_; intro e0; conv => whnf)
        all_goals (refine zt 0 rfl ?_)
        all_goals (conv => whnf)
        all_goals (refine zt 1 rfl ?_)
        all_goals (conv => whnf)
        all_goals (refine zt 2 rfl ?_)
        all_goals ((conv => whnf);(repeat' ((first|refine zA ?_|(refine zI ?_ ?_<;> intro hh<;> first|(exfalso;omega)|skip)|(refine zl ?_ ?_<;> intro hh)|refine zq ?_|refine zv ?_|refine zu ?_|exact Sy.fin_val fun e=>rfl);(try conv => whnf))))
        all_goals (refine zt 3 rfl ?_)
        all_goals (conv => whnf)
        all_goals (refine Sy.el_map x h1 ?_)
        all_goals (conv => whnf)
        all_goals (refine zt 4 rfl ?_)
        all_goals (conv => whnf)
        all_goals (refine zt 5 rfl ?_)
        all_goals (conv => whnf)
        all_goals (refine zt 6 rfl ?_)
        all_goals ((conv => whnf);(repeat' ((first|refine zA ?_|(refine zI ?_ ?_<;> intro hh<;> first|(exfalso;omega)|skip)|(refine zl ?_ ?_<;> intro hh)|refine zq ?_|refine zv ?_|refine zu ?_|exact Sy.fin_val fun e=>rfl);(try conv => whnf))))
        all_goals (refine zt 7 rfl ?_)
        all_goals (conv => whnf)
        all_goals (refine Sy.el_map y h2 ?_)
        all_goals (conv => whnf)
        all_goals (refine zt 8 rfl ?_)
        all_goals ((conv => whnf);(repeat' ((first|refine zA ?_|(refine zI ?_ ?_<;> intro hh<;> first|(exfalso;omega)|skip)|(refine zl ?_ ?_<;> intro hh)|refine zq ?_|refine zv ?_|refine zu ?_|exact Sy.fin_val fun e=>rfl);(try conv => whnf))))
        all_goals (refine zw ?_)
        all_goals (((repeat' ((conv => whnf);(first|refine zA ?_|(refine zI ?_ ?_<;> intro hh<;> first|(exfalso;omega)|skip)|(refine zl ?_ ?_<;> intro hh)|refine zq ?_|refine zv ?_|refine zu ?_|exact Sy.fin_val fun e=>rfl)));(all_goals (try conv => whnf))))
        all_goals first
          | exact Sy.fin_val (fun e => congrArg Value.bool (decide_eq_false (lst_ne n h1 h2 (by intro hh; subst hh; contradiction))).symm)
          | (refine ⟨n + 1, ⟨by omega, pre_succ h1 h2 (by cases x; cases y; simp_all) hpre⟩, by omega, ?_⟩; ((repeat' (first|((conv => whnf);done)|((try conv => whnf);first|exact trivial|(refine And.intro ?_ ?_)|rfl|exact fun _ _ _ h=>h|exact fun _ _ _ _=>trivial)));(all_goals (try conv => whnf))))
      · exact Sy.fin_val (fun e => congrArg Value.bool (decide_eq_true (lst_eq n (by omega) (by omega) hpre)).symm)
  · exact Sy.fin_val (fun e => congrArg Value.bool (decide_eq_false (by intro hh; subst hh; contradiction)).symm)
theorem cloneW_any (v : Value) (ps : List (Int × Int)) (w : World) (hr : XD.ok (fun b => b < w.heap.size) w ⟨v, 2, ps.length, ps.map enc2⟩) (hb : ps.length ≤ 1000000) :
    Calls Try.prog 62 #[v] w (Sy.RetRows Sy.noRow (fun _ : Unit => True) (fun _ => [⟨31, 2, ps.length, ps.map enc2⟩]) (fun _ vs => vs.headD undef) w) := by
  refine Sy.calls_of Sy.lv62 Sy.tab_ok Try.func62 rfl _ Try.ntmps62 [⟨v, 2, ps.length, ps.map enc2⟩] [.c (.row 0)] rfl rfl rfl ⟨hr, trivial⟩ ?_
  ((repeat' ((conv => whnf);(first|refine zA ?_|(refine zI ?_ ?_<;> intro hh<;> first|(exfalso;omega)|skip)|(refine zl ?_ ?_<;> intro hh)|refine zq ?_|refine zv ?_|refine zu ?_|exact Sy.fin_val fun e=>rfl)));(all_goals (try conv => whnf)))
  refine Sy.nil_of (fun h0 => ?_) ?_
  · ((repeat' ((conv => whnf);(first|refine zA ?_|(refine zI ?_ ?_<;> intro hh<;> first|(exfalso;omega)|skip)|(refine zl ?_ ?_<;> intro hh)|refine zq ?_|refine zv ?_|refine zu ?_|exact Sy.fin_val fun e=>rfl)));(all_goals (try conv => whnf)))
    exact Sy.fin_rows () trivial [.v (.slice none 0 0)] ⟨⟨h0, by simp [List.eq_nil_of_length_eq_zero h0]⟩, (by intro j hj; cases hj), trivial⟩ (fun e => rfl)
  · ((repeat' ((conv => whnf);(first|refine zA ?_|(refine zI ?_ ?_<;> intro hh<;> first|(exfalso;omega)|skip)|(refine zl ?_ ?_<;> intro hh)|refine zq ?_|refine zv ?_|refine zu ?_|exact Sy.fin_val fun e=>rfl)));(all_goals (try conv => whnf)))
    refine Sy.need_app 16 rfl ⟨by omega, by omega⟩ ?_
    ((repeat' ((conv => whnf);(first|refine zA ?_|(refine zI ?_ ?_<;> intro hh<;> first|(exfalso;omega)|skip)|(refine zl ?_ ?_<;> intro hh)|refine zq ?_|refine zv ?_|refine zu ?_|exact Sy.fin_val fun e=>rfl)));(all_goals (try conv => whnf)))
    refine Sy.fin_rows () trivial [.row 2] ⟨?_, (by intro j hj; cases hj), trivial⟩ (fun e => rfl)
    show some (Blk.row 31 Sy.ti31.size (0 + ps.length) (Els.vs ([] ++ ps.map enc2))) = _
    rw [Nat.zero_add, List.nil_append]
    rfl
theorem equalP_any (u v : Value) (xs ys : List (Int × Int)) (w : World) (hx : XD.ok (fun b => b < w.heap.size) w ⟨u, 2, xs.length, xs.map enc2⟩) (hy : XD.ok (fun b => b < w.heap.size) w ⟨v, 2, ys.length, ys.map enc2⟩) :
    Calls Try.prog 58 #[u, v] w (Sy.Ret (.bool (decide (xs = ys))) w) := by
  have hl := ok_len hx
  have hl' := ok_len hy
  refine Sy.calls_of Sy.lv58 Sy.tab_ok Try.func58 rfl _ Try.ntmps58 [⟨u, 2, xs.length, xs.map enc2⟩, ⟨v, 2, ys.length, ys.map enc2⟩] [.c (.row 0), .c (.row 1)] rfl rfl rfl ⟨hx, hy, trivial⟩ ?_
  ((repeat' ((conv => whnf);(first|refine zA ?_|(refine zI ?_ ?_<;> intro hh<;> first|(exfalso;omega)|skip)|(refine zl ?_ ?_<;> intro hh)|refine zq ?_|refine zv ?_|refine zu ?_|exact Sy.fin_val fun e=>rfl)));(all_goals (try conv => whnf)))
  · refine Sy.loop_inv Sy.tab_ok (fun n : Nat => [(13, .c (.v (.int .i64 n)))]) (fun _ => []) (fun n => n ≤ xs.length ∧ ∀ i, i < n → xs[i]? = ys[i]?) (fun n => xs.length - n) 0 ⟨Nat.zero_le _, fun i hi => by omega⟩ ?_ (fun n hle => ?_)
    · ((repeat' (first|((conv => whnf);done)|((try conv => whnf);first|exact trivial|(refine And.intro ?_ ?_)|rfl|exact fun _ _ _ h=>h|exact fun _ _ _ _=>trivial)));(all_goals (try conv => whnf)))
    · obtain ⟨hle, hpre⟩ := hle
      ((repeat' ((conv => whnf);(first|refine zA ?_|(refine zI ?_ ?_<;> intro hh<;> first|(exfalso;omega)|skip)|(refine zl ?_ ?_<;> intro hh)|refine zq ?_|refine zv ?_|refine zu ?_|exact Sy.fin_val fun e=>rfl)));(all_goals (try conv => whnf)))
      · have hlt : n < xs.length := by omega
        have h1 := List.getElem?_eq_getElem hlt
        have h2 := List.getElem?_eq_getElem (show n < ys.length by omega)
        generalize xs[n] = x at *
        generalize ys[n]'(by omega) = y at *
        all_goals (refine Sy.draw_go [] (by kernel_rfl) ?_; intro e0; conv => whnf)
        all_goals (refine zt 0 rfl ?_)
        all_goals (conv => whnf)
        all_goals (refine zt 1 rfl ?_)
        all_goals (conv => whnf)
        all_goals (refine zt 2 rfl ?_)
        all_goals ((conv => whnf);(repeat' ((first|refine zA ?_|(refine zI ?_ ?_<;> intro hh<;> first|(exfalso;omega)|skip)|(refine zl ?_ ?_<;> intro hh)|refine zq ?_|refine zv ?_|refine zu ?_|exact Sy.fin_val fun e=>rfl);(try conv => whnf))))
        all_goals (refine zt 3 rfl ?_)
        all_goals (conv => whnf)
        all_goals (refine Sy.el_map x h1 ?_)
        all_goals (conv => whnf)
        all_goals (refine zt 4 rfl ?_)
        all_goals (conv => whnf)
        all_goals (refine zt 5 rfl ?_)
        all_goals (conv => whnf)
        all_goals (refine zt 6 rfl ?_)
        all_goals ((conv => whnf);(repeat' ((first|refine zA ?_|(refine zI ?_ ?_<;> intro hh<;> first|(exfalso;omega)|skip)|(refine zl ?_ ?_<;> intro hh)|refine zq ?_|refine zv ?_|refine zu ?_|exact Sy.fin_val fun e=>rfl);(try conv => whnf))))
        all_goals (refine zt 7 rfl ?_)
        all_goals (conv => whnf)
        all_goals (refine Sy.el_map y h2 ?_)
        all_goals (conv => whnf)
        all_goals (refine zt 8 rfl ?_)
        all_goals ((conv => whnf);(repeat' ((first|refine zA ?_|(refine zI ?_ ?_<;> intro hh<;> first|(exfalso;omega)|skip)|(refine zl ?_ ?_<;> intro hh)|refine zq ?_|refine zv ?_|refine zu ?_|exact Sy.fin_val fun e=>rfl);(try conv => whnf))))
        all_goals (refine zw ?_)
        all_goals (((repeat' ((conv => whnf);(first|refine zA ?_|(refine zI ?_ ?_<;> intro hh<;> first|(exfalso;omega)|skip)|(refine zl ?_ ?_<;> intro hh)|refine zq ?_|refine zv ?_|refine zu ?_|exact Sy.fin_val fun e=>rfl)));(all_goals (try conv => whnf))))
        all_goals first
          | exact Sy.fin_val (fun e => congrArg Value.bool (decide_eq_false (lst_ne n h1 h2 (by intro hh; subst hh; contradiction))).symm)
          | (refine ⟨n + 1, ⟨by omega, pre_succ h1 h2 (by cases x; cases y; simp_all) hpre⟩, by omega, ?_⟩; ((repeat' (first|((conv => whnf);done)|((try conv => whnf);first|exact trivial|(refine And.intro ?_ ?_)|rfl|exact fun _ _ _ h=>h|exact fun _ _ _ _=>trivial)));(all_goals (try conv => whnf))))
      · exact Sy.fin_val (fun e => congrArg Value.bool (decide_eq_true (lst_eq n (by omega) (by omega) hpre)).symm)
  · exact Sy.fin_val (fun e => congrArg Value.bool (decide_eq_false (by intro hh; subst hh; contradiction)).symm)
theorem cloneP_any (v : Value) (ps : List (Int × Int)) (w : World) (hr : XD.ok (fun b => b < w.heap.size) w ⟨v, 2, ps.length, ps.map enc2⟩) (hb : ps.length ≤ 1000000) :
    Calls Try.prog 63 #[v] w (Sy.RetRows Sy.noRow (fun _ : Unit => True) (fun _ => [⟨67, 2, ps.length, ps.map enc2⟩]) (fun _ vs => vs.headD undef) w) := by
  refine Sy.calls_of Sy.lv63 Sy.tab_ok Try.func63 rfl _ Try.ntmps63 [⟨v, 2, ps.length, ps.map enc2⟩] [.c (.row 0)] rfl rfl rfl ⟨hr, trivial⟩ ?_
  ((repeat' ((conv => whnf);(first|refine zA ?_|(refine zI ?_ ?_<;> intro hh<;> first|(exfalso;omega)|skip)|(refine zl ?_ ?_<;> intro hh)|refine zq ?_|refine zv ?_|refine zu ?_|exact Sy.fin_val fun e=>rfl)));(all_goals (try conv => whnf)))
  refine Sy.nil_of (fun h0 => ?_) ?_
  · ((repeat' ((conv => whnf);(first|refine zA ?_|(refine zI ?_ ?_<;> intro hh<;> first|(exfalso;omega)|skip)|(refine zl ?_ ?_<;> intro hh)|refine zq ?_|refine zv ?_|refine zu ?_|exact Sy.fin_val fun e=>rfl)));(all_goals (try conv => whnf)))
    exact Sy.fin_rows () trivial [.v (.slice none 0 0)] ⟨⟨h0, by simp [List.eq_nil_of_length_eq_zero h0]⟩, (by intro j hj; cases hj), trivial⟩ (fun e => rfl)
  · ((repeat' ((conv => whnf);(first|refine zA ?_|(refine zI ?_ ?_<;> intro hh<;> first|(exfalso;omega)|skip)|(refine zl ?_ ?_<;> intro hh)|refine zq ?_|refine zv ?_|refine zu ?_|exact Sy.fin_val fun e=>rfl)));(all_goals (try conv => whnf)))
    refine Sy.need_app 16 rfl ⟨by omega, by omega⟩ ?_
    ((repeat' ((conv => whnf);(first|refine zA ?_|(refine zI ?_ ?_<;> intro hh<;> first|(exfalso;omega)|skip)|(refine zl ?_ ?_<;> intro hh)|refine zq ?_|refine zv ?_|refine zu ?_|exact Sy.fin_val fun e=>rfl)));(all_goals (try conv => whnf)))
    refine Sy.fin_rows () trivial [.row 2] ⟨?_, (by intro j hj; cases hj), trivial⟩ (fun e => rfl)
    show some (Blk.row 67 Sy.ti67.size (0 + ps.length) (Els.vs ([] ++ ps.map enc2))) = _
    rw [Nat.zero_add, List.nil_append]
    rfl
end Go.Proofs.Ytjhjmeajdebcbaa
