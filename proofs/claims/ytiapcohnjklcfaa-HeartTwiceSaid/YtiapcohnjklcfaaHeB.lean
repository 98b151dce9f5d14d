/- Heart: equal slices, the same hearts. -/
import Derived.Test.YtiapcohnjklcfaaRefA
namespace Go.Proofs.Ytiapcohnjklcfaa
open Go Go.RowKit
open Sy (C SV V1 Blk St XD Els)
set_option maxRecDepth 10000
attribute [local irreducible] okN okH ok0

theorem equalI_any (u v : Value) (xs ys : List Int) (w : World) (hx : XD.ok (fun b => b < w.heap.size) w ⟨u, 1, xs.length, xs.map encI⟩) (hy : XD.ok (fun b => b < w.heap.size) w ⟨v, 1, ys.length, ys.map encI⟩) :
    Calls Try.prog 14 #[u, v] w (Sy.Ret (.bool (decide (xs = ys))) w) := by
  have hl := ok_len hx
  have hl' := ok_len hy
  refine Sy.calls_of Sy.lv14 Sy.tab_ok Try.func14 rfl _ Try.ntmps14 [⟨u, 1, xs.length, xs.map encI⟩, ⟨v, 1, ys.length, ys.map encI⟩] [.c (.row 0), .c (.row 1)] rfl rfl rfl ⟨hx, hy, trivial⟩ ?_
  ((repeat' ((conv => whnf);(first|refine z1 ?_|refine z2 ?_|refine z3 ?_|refine z4 ?_|refine z5 ?_|refine z6 ?_|refine z7 ?_|refine z8 ?_|refine z9 ?_|refine za ?_|refine zb ?_|refine zc ?_|refine zd ?_|refine ze ?_|refine zf ?_|refine zg ?_|refine zh ?_|((first|refine zi ?_ ?_|refine zj ?_ ?_|refine zk ?_ ?_)<;> intro hh <;> first|(exfalso;omega)|skip)|(refine zl ?_ ?_<;> intro hh)|refine zm ?_|refine zn ?_|refine zo ?_|refine zp ?_|refine zq ?_|refine zr ?_|refine zs _ rfl ?_|refine zu ?_|exact Sy.fin_val (fun e=>rfl))));(all_goals (try conv => whnf)))
  · refine Sy.loop_inv Sy.tab_ok (fun n : Nat => [(13, .c (.v (.int .i64 n)))]) (fun _ => []) (fun n => n ≤ xs.length ∧ ∀ i, i < n → xs[i]? = ys[i]?) (fun n => xs.length - n) 0 ⟨Nat.zero_le _, fun i hi => by omega⟩ ?_ (fun n hle => ?_)
    · ((repeat' (first|((conv => whnf);done)|((try conv => whnf);first|exact trivial|(refine And.intro ?_ ?_)|rfl)));(all_goals (try conv => whnf)))
    · obtain ⟨hle, hpre⟩ := hle
      ((repeat' ((conv => whnf);(first|refine z1 ?_|refine z2 ?_|refine z3 ?_|refine z4 ?_|refine z5 ?_|refine z6 ?_|refine z7 ?_|refine z8 ?_|refine z9 ?_|refine za ?_|refine zb ?_|refine zc ?_|refine zd ?_|refine ze ?_|refine zf ?_|refine zg ?_|refine zh ?_|((first|refine zi ?_ ?_|refine zj ?_ ?_|refine zk ?_ ?_)<;> intro hh <;> first|(exfalso;omega)|skip)|(refine zl ?_ ?_<;> intro hh)|refine zm ?_|refine zn ?_|refine zo ?_|refine zp ?_|refine zq ?_|refine zr ?_|refine zs _ rfl ?_|refine zu ?_|exact Sy.fin_val (fun e=>rfl))));(all_goals (try conv => whnf)))
      · have hlt : n < xs.length := by omega
        have h1 := List.getElem?_eq_getElem hlt
        have h2 := List.getElem?_eq_getElem (show n < ys.length by omega)
        generalize xs[n] = x at *
        generalize ys[n]'(by omega) = y at *
        all_goals (refine Sy.draw_go [] (by kernel_rfl) ?_; intro e0; conv => whnf)
        all_goals (refine zt 0 rfl ?_)
        all_goals (conv => whnf)
        all_goals (refine zt 1 rfl ?_)
        all_goals (conv => whnf)
        all_goals (refine zt 2 rfl ?_)
        all_goals ((conv => whnf);(repeat' ((first|refine z1 ?_|refine z2 ?_|refine z3 ?_|refine z4 ?_|refine z5 ?_|refine z6 ?_|refine z7 ?_|refine z8 ?_|refine z9 ?_|refine za ?_|refine zb ?_|refine zc ?_|refine zd ?_|refine ze ?_|refine zf ?_|refine zg ?_|refine zh ?_|((first|refine zi ?_ ?_|refine zj ?_ ?_|refine zk ?_ ?_)<;> intro hh <;> first|(exfalso;omega)|skip)|(refine zl ?_ ?_<;> intro hh)|refine zm ?_|refine zn ?_|refine zo ?_|refine zp ?_|refine zq ?_|refine zr ?_|refine zs _ rfl ?_|refine zu ?_|exact Sy.fin_val (fun e=>rfl));(try conv => whnf))))
        all_goals (refine zt 3 rfl ?_)
        all_goals (conv => whnf)
        all_goals (refine Sy.el_map x h1 ?_)
        all_goals (conv => whnf)
        all_goals (refine zt 4 rfl ?_)
        all_goals (conv => whnf)
        all_goals (refine zt 5 rfl ?_)
        all_goals (conv => whnf)
        all_goals (refine zt 6 rfl ?_)
        all_goals ((conv => whnf);(repeat' ((first|refine z1 ?_|refine z2 ?_|refine z3 ?_|refine z4 ?_|refine z5 ?_|refine z6 ?_|refine z7 ?_|refine z8 ?_|refine z9 ?_|refine za ?_|refine zb ?_|refine zc ?_|refine zd ?_|refine ze ?_|refine zf ?_|refine zg ?_|refine zh ?_|((first|refine zi ?_ ?_|refine zj ?_ ?_|refine zk ?_ ?_)<;> intro hh <;> first|(exfalso;omega)|skip)|(refine zl ?_ ?_<;> intro hh)|refine zm ?_|refine zn ?_|refine zo ?_|refine zp ?_|refine zq ?_|refine zr ?_|refine zs _ rfl ?_|refine zu ?_|exact Sy.fin_val (fun e=>rfl));(try conv => whnf))))
        all_goals (refine zt 7 rfl ?_)
        all_goals (conv => whnf)
        all_goals (refine Sy.el_map y h2 ?_)
        all_goals (conv => whnf)
        all_goals (refine zt 8 rfl ?_)
        all_goals ((conv => whnf);(repeat' ((first|refine z1 ?_|refine z2 ?_|refine z3 ?_|refine z4 ?_|refine z5 ?_|refine z6 ?_|refine z7 ?_|refine z8 ?_|refine z9 ?_|refine za ?_|refine zb ?_|refine zc ?_|refine zd ?_|refine ze ?_|refine zf ?_|refine zg ?_|refine zh ?_|((first|refine zi ?_ ?_|refine zj ?_ ?_|refine zk ?_ ?_)<;> intro hh <;> first|(exfalso;omega)|skip)|(refine zl ?_ ?_<;> intro hh)|refine zm ?_|refine zn ?_|refine zo ?_|refine zp ?_|refine zq ?_|refine zr ?_|refine zs _ rfl ?_|refine zu ?_|exact Sy.fin_val (fun e=>rfl));(try conv => whnf))))
        all_goals (refine zw ?_)
        all_goals (((repeat' ((conv => whnf);(first|refine z1 ?_|refine z2 ?_|refine z3 ?_|refine z4 ?_|refine z5 ?_|refine z6 ?_|refine z7 ?_|refine z8 ?_|refine z9 ?_|refine za ?_|refine zb ?_|refine zc ?_|refine zd ?_|refine ze ?_|refine zf ?_|refine zg ?_|refine zh ?_|((first|refine zi ?_ ?_|refine zj ?_ ?_|refine zk ?_ ?_)<;> intro hh <;> first|(exfalso;omega)|skip)|(refine zl ?_ ?_<;> intro hh)|refine zm ?_|refine zn ?_|refine zo ?_|refine zp ?_|refine zq ?_|refine zr ?_|refine zs _ rfl ?_|refine zu ?_|exact Sy.fin_val (fun e=>rfl))));(all_goals (try conv => whnf))))
        all_goals first
          | exact Sy.fin_val (fun e => congrArg Value.bool (decide_eq_false (lst_ne n h1 h2 (by assumption))).symm)
          | (refine ⟨n + 1, ⟨by omega, pre_succ h1 h2 (by assumption) hpre⟩, by omega, ?_⟩; ((repeat' (first|((conv => whnf);done)|((try conv => whnf);first|exact trivial|(refine And.intro ?_ ?_)|rfl)));(all_goals (try conv => whnf))))
      · exact Sy.fin_val (fun e => congrArg Value.bool (decide_eq_true (lst_eq n (by omega) (by omega) hpre)).symm)
  · exact Sy.fin_val (fun e => congrArg Value.bool (decide_eq_false (by intro hh; subst hh; contradiction)).symm)
theorem sameI_any (u v : Value) (xs ys : List Int) (w : World) (hx : XD.ok (fun b => b < w.heap.size) w ⟨u, 1, xs.length, xs.map encI⟩) (hy : XD.ok (fun b => b < w.heap.size) w ⟨v, 1, ys.length, ys.map encI⟩) :
    Calls Try.prog 20 #[u, v] w (Sy.Ret (.bool (decide (xs = ys))) w) := by
  have hl := ok_len hx
  have hl' := ok_len hy
  refine Sy.calls_of Sy.lv20 Sy.tab_ok Try.func20 rfl _ Try.ntmps20 [⟨u, 1, xs.length, xs.map encI⟩, ⟨v, 1, ys.length, ys.map encI⟩] [.c (.row 0), .c (.row 1)] rfl rfl rfl ⟨hx, hy, trivial⟩ ?_
  ((repeat' ((conv => whnf);(first|refine z1 ?_|refine z2 ?_|refine z3 ?_|refine z4 ?_|refine z5 ?_|refine z6 ?_|refine z7 ?_|refine z8 ?_|refine z9 ?_|refine za ?_|refine zb ?_|refine zc ?_|refine zd ?_|refine ze ?_|refine zf ?_|refine zg ?_|refine zh ?_|((first|refine zi ?_ ?_|refine zj ?_ ?_|refine zk ?_ ?_)<;> intro hh <;> first|(exfalso;omega)|skip)|(refine zl ?_ ?_<;> intro hh)|refine zm ?_|refine zn ?_|refine zo ?_|refine zp ?_|refine zq ?_|refine zr ?_|refine zs _ rfl ?_|refine zu ?_|exact Sy.fin_val (fun e=>rfl))));(all_goals (try conv => whnf)))
  · refine Sy.loop_inv Sy.tab_ok (fun n : Nat => [(13, .c (.v (.int .i64 n)))]) (fun _ => []) (fun n => n ≤ xs.length ∧ ∀ i, i < n → xs[i]? = ys[i]?) (fun n => xs.length - n) 0 ⟨Nat.zero_le _, fun i hi => by omega⟩ ?_ (fun n hle => ?_)
    · ((repeat' (first|((conv => whnf);done)|((try conv => whnf);first|exact trivial|(refine And.intro ?_ ?_)|rfl)));(all_goals (try conv => whnf)))
    · obtain ⟨hle, hpre⟩ := hle
      ((repeat' ((conv => whnf);(first|refine z1 ?_|refine z2 ?_|refine z3 ?_|refine z4 ?_|refine z5 ?_|refine z6 ?_|refine z7 ?_|refine z8 ?_|refine z9 ?_|refine za ?_|refine zb ?_|refine zc ?_|refine zd ?_|refine ze ?_|refine zf ?_|refine zg ?_|refine zh ?_|((first|refine zi ?_ ?_|refine zj ?_ ?_|refine zk ?_ ?_)<;> intro hh <;> first|(exfalso;omega)|skip)|(refine zl ?_ ?_<;> intro hh)|refine zm ?_|refine zn ?_|refine zo ?_|refine zp ?_|refine zq ?_|refine zr ?_|refine zs _ rfl ?_|refine zu ?_|exact Sy.fin_val (fun e=>rfl))));(all_goals (try conv => whnf)))
      · have hlt : n < xs.length := by omega
        have h1 := List.getElem?_eq_getElem hlt
        have h2 := List.getElem?_eq_getElem (show n < ys.length by omega)
        generalize xs[n] = x at *
        generalize ys[n]'(by omega) = y at *
        all_goals (refine Sy.draw_go [] (by kernel_rfl) ?_; intro e0; conv => whnf)
        all_goals (refine zt 0 rfl ?_)
        all_goals (conv => whnf)
        all_goals (refine zt 1 rfl ?_)
        all_goals (conv => whnf)
        all_goals (refine zt 2 rfl ?_)
        all_goals ((conv => whnf);(repeat' ((first|refine z1 ?_|refine z2 ?_|refine z3 ?_|refine z4 ?_|refine z5 ?_|refine z6 ?_|refine z7 ?_|refine z8 ?_|refine z9 ?_|refine za ?_|refine zb ?_|refine zc ?_|refine zd ?_|refine ze ?_|refine zf ?_|refine zg ?_|refine zh ?_|((first|refine zi ?_ ?_|refine zj ?_ ?_|refine zk ?_ ?_)<;> intro hh <;> first|(exfalso;omega)|skip)|(refine zl ?_ ?_<;> intro hh)|refine zm ?_|refine zn ?_|refine zo ?_|refine zp ?_|refine zq ?_|refine zr ?_|refine zs _ rfl ?_|refine zu ?_|exact Sy.fin_val (fun e=>rfl));(try conv => whnf))))
        all_goals (refine zt 3 rfl ?_)
        all_goals (conv => whnf)
        all_goals (refine Sy.el_map x h1 ?_)
        all_goals (conv => whnf)
        all_goals (refine zt 4 rfl ?_)
        all_goals (conv => whnf)
        all_goals (refine zt 5 rfl ?_)
        all_goals (conv => whnf)
        all_goals (refine zt 6 rfl ?_)
        all_goals ((conv => whnf);(repeat' ((first|refine z1 ?_|refine z2 ?_|refine z3 ?_|refine z4 ?_|refine z5 ?_|refine z6 ?_|refine z7 ?_|refine z8 ?_|refine z9 ?_|refine za ?_|refine zb ?_|refine zc ?_|refine zd ?_|refine ze ?_|refine zf ?_|refine zg ?_|refine zh ?_|((first|refine zi ?_ ?_|refine zj ?_ ?_|refine zk ?_ ?_)<;> intro hh <;> first|(exfalso;omega)|skip)|(refine zl ?_ ?_<;> intro hh)|refine zm ?_|refine zn ?_|refine zo ?_|refine zp ?_|refine zq ?_|refine zr ?_|refine zs _ rfl ?_|refine zu ?_|exact Sy.fin_val (fun e=>rfl));(try conv => whnf))))
        all_goals (refine zt 7 rfl ?_)
        all_goals (conv => whnf)
        all_goals (refine Sy.el_map y h2 ?_)
        all_goals (conv => whnf)
        all_goals (refine zt 8 rfl ?_)
        all_goals ((conv => whnf);(repeat' ((first|refine z1 ?_|refine z2 ?_|refine z3 ?_|refine z4 ?_|refine z5 ?_|refine z6 ?_|refine z7 ?_|refine z8 ?_|refine z9 ?_|refine za ?_|refine zb ?_|refine zc ?_|refine zd ?_|refine ze ?_|refine zf ?_|refine zg ?_|refine zh ?_|((first|refine zi ?_ ?_|refine zj ?_ ?_|refine zk ?_ ?_)<;> intro hh <;> first|(exfalso;omega)|skip)|(refine zl ?_ ?_<;> intro hh)|refine zm ?_|refine zn ?_|refine zo ?_|refine zp ?_|refine zq ?_|refine zr ?_|refine zs _ rfl ?_|refine zu ?_|exact Sy.fin_val (fun e=>rfl));(try conv => whnf))))
        all_goals (refine zw ?_)
        all_goals (((repeat' ((conv => whnf);(first|refine z1 ?_|refine z2 ?_|refine z3 ?_|refine z4 ?_|refine z5 ?_|refine z6 ?_|refine z7 ?_|refine z8 ?_|refine z9 ?_|refine za ?_|refine zb ?_|refine zc ?_|refine zd ?_|refine ze ?_|refine zf ?_|refine zg ?_|refine zh ?_|((first|refine zi ?_ ?_|refine zj ?_ ?_|refine zk ?_ ?_)<;> intro hh <;> first|(exfalso;omega)|skip)|(refine zl ?_ ?_<;> intro hh)|refine zm ?_|refine zn ?_|refine zo ?_|refine zp ?_|refine zq ?_|refine zr ?_|refine zs _ rfl ?_|refine zu ?_|exact Sy.fin_val (fun e=>rfl))));(all_goals (try conv => whnf))))
        all_goals first
          | exact Sy.fin_val (fun e => congrArg Value.bool (decide_eq_false (lst_ne n h1 h2 (by assumption))).symm)
          | (refine ⟨n + 1, ⟨by omega, pre_succ h1 h2 (by assumption) hpre⟩, by omega, ?_⟩; ((repeat' (first|((conv => whnf);done)|((try conv => whnf);first|exact trivial|(refine And.intro ?_ ?_)|rfl)));(all_goals (try conv => whnf))))
      · exact Sy.fin_val (fun e => congrArg Value.bool (decide_eq_true (lst_eq n (by omega) (by omega) hpre)).symm)
  · exact Sy.fin_val (fun e => congrArg Value.bool (decide_eq_false (by intro hh; subst hh; contradiction)).symm)
theorem equalP_any (u v : Value) (xs ys : List Pulse) (w : World) (hx : XD.ok (fun b => b < w.heap.size) w ⟨u, 3, xs.length, xs.map encP⟩) (hy : XD.ok (fun b => b < w.heap.size) w ⟨v, 3, ys.length, ys.map encP⟩) :
    Calls Try.prog 43 #[u, v] w (Sy.Ret (.bool (decide (xs = ys))) w) := by
  have hl := ok_len hx
  have hl' := ok_len hy
  refine Sy.calls_of Sy.lv43 Sy.tab_ok Try.func43 rfl _ Try.ntmps43 [⟨u, 3, xs.length, xs.map encP⟩, ⟨v, 3, ys.length, ys.map encP⟩] [.c (.row 0), .c (.row 1)] rfl rfl rfl ⟨hx, hy, trivial⟩ ?_
  ((repeat' ((conv => whnf);(first|refine z1 ?_|refine z2 ?_|refine z3 ?_|refine z4 ?_|refine z5 ?_|refine z6 ?_|refine z7 ?_|refine z8 ?_|refine z9 ?_|refine za ?_|refine zb ?_|refine zc ?_|refine zd ?_|refine ze ?_|refine zf ?_|refine zg ?_|refine zh ?_|((first|refine zi ?_ ?_|refine zj ?_ ?_|refine zk ?_ ?_)<;> intro hh <;> first|(exfalso;omega)|skip)|(refine zl ?_ ?_<;> intro hh)|refine zm ?_|refine zn ?_|refine zo ?_|refine zp ?_|refine zq ?_|refine zr ?_|refine zs _ rfl ?_|refine zu ?_|exact Sy.fin_val (fun e=>rfl))));(all_goals (try conv => whnf)))
  · refine Sy.loop_inv Sy.tab_ok (fun n : Nat => [(13, .c (.v (.int .i64 n)))]) (fun _ => []) (fun n => n ≤ xs.length ∧ ∀ i, i < n → xs[i]? = ys[i]?) (fun n => xs.length - n) 0 ⟨Nat.zero_le _, fun i hi => by omega⟩ ?_ (fun n hle => ?_)
    · ((repeat' (first|((conv => whnf);done)|((try conv => whnf);first|exact trivial|(refine And.intro ?_ ?_)|rfl)));(all_goals (try conv => whnf)))
    · obtain ⟨hle, hpre⟩ := hle
      ((repeat' ((conv => whnf);(first|refine z1 ?_|refine z2 ?_|refine z3 ?_|refine z4 ?_|refine z5 ?_|refine z6 ?_|refine z7 ?_|refine z8 ?_|refine z9 ?_|refine za ?_|refine zb ?_|refine zc ?_|refine zd ?_|refine ze ?_|refine zf ?_|refine zg ?_|refine zh ?_|((first|refine zi ?_ ?_|refine zj ?_ ?_|refine zk ?_ ?_)<;> intro hh <;> first|(exfalso;omega)|skip)|(refine zl ?_ ?_<;> intro hh)|refine zm ?_|refine zn ?_|refine zo ?_|refine zp ?_|refine zq ?_|refine zr ?_|refine zs _ rfl ?_|refine zu ?_|exact Sy.fin_val (fun e=>rfl))));(all_goals (try conv => whnf)))
      · have hlt : n < xs.length := by omega
        have h1 := List.getElem?_eq_getElem hlt
        have h2 := List.getElem?_eq_getElem (show n < ys.length by omega)
        generalize xs[n] = x at *
        generalize ys[n]'(by omega) = y at *
        all_goals (refine Sy.draw_go [] (by kernel_rfl) ?_; intro e0; conv => whnf)
        all_goals (refine zt 0 rfl ?_)
        all_goals (conv => whnf)
        all_goals (refine zt 1 rfl ?_)
        all_goals (conv => whnf)
        all_goals (refine zt 2 rfl ?_)
        all_goals ((conv => whnf);(repeat' ((first|refine z1 ?_|refine z2 ?_|refine z3 ?_|refine z4 ?_|refine z5 ?_|refine z6 ?_|refine z7 ?_|refine z8 ?_|refine z9 ?_|refine za ?_|refine zb ?_|refine zc ?_|refine zd ?_|refine ze ?_|refine zf ?_|refine zg ?_|refine zh ?_|((first|refine zi ?_ ?_|refine zj ?_ ?_|refine zk ?_ ?_)<;> intro hh <;> first|(exfalso;omega)|skip)|(refine zl ?_ ?_<;> intro hh)|refine zm ?_|refine zn ?_|refine zo ?_|refine zp ?_|refine zq ?_|refine zr ?_|refine zs _ rfl ?_|refine zu ?_|exact Sy.fin_val (fun e=>rfl));(try conv => whnf))))
        all_goals (refine zt 3 rfl ?_)
        all_goals (conv => whnf)
        all_goals (refine Sy.el_map x h1 ?_)
        all_goals (conv => whnf)
        all_goals (refine zt 4 rfl ?_)
        all_goals (conv => whnf)
        all_goals (refine zt 5 rfl ?_)
        all_goals (conv => whnf)
        all_goals (refine zt 6 rfl ?_)
        all_goals ((conv => whnf);(repeat' ((first|refine z1 ?_|refine z2 ?_|refine z3 ?_|refine z4 ?_|refine z5 ?_|refine z6 ?_|refine z7 ?_|refine z8 ?_|refine z9 ?_|refine za ?_|refine zb ?_|refine zc ?_|refine zd ?_|refine ze ?_|refine zf ?_|refine zg ?_|refine zh ?_|((first|refine zi ?_ ?_|refine zj ?_ ?_|refine zk ?_ ?_)<;> intro hh <;> first|(exfalso;omega)|skip)|(refine zl ?_ ?_<;> intro hh)|refine zm ?_|refine zn ?_|refine zo ?_|refine zp ?_|refine zq ?_|refine zr ?_|refine zs _ rfl ?_|refine zu ?_|exact Sy.fin_val (fun e=>rfl));(try conv => whnf))))
        all_goals (refine zt 7 rfl ?_)
        all_goals (conv => whnf)
        all_goals (refine Sy.el_map y h2 ?_)
        all_goals (conv => whnf)
        all_goals (refine zt 8 rfl ?_)
        all_goals ((conv => whnf);(repeat' ((first|refine z1 ?_|refine z2 ?_|refine z3 ?_|refine z4 ?_|refine z5 ?_|refine z6 ?_|refine z7 ?_|refine z8 ?_|refine z9 ?_|refine za ?_|refine zb ?_|refine zc ?_|refine zd ?_|refine ze ?_|refine zf ?_|refine zg ?_|refine zh ?_|((first|refine zi ?_ ?_|refine zj ?_ ?_|refine zk ?_ ?_)<;> intro hh <;> first|(exfalso;omega)|skip)|(refine zl ?_ ?_<;> intro hh)|refine zm ?_|refine zn ?_|refine zo ?_|refine zp ?_|refine zq ?_|refine zr ?_|refine zs _ rfl ?_|refine zu ?_|exact Sy.fin_val (fun e=>rfl));(try conv => whnf))))
        all_goals (refine zw ?_)
        all_goals (((repeat' ((conv => whnf);(first|refine z1 ?_|refine z2 ?_|refine z3 ?_|refine z4 ?_|refine z5 ?_|refine z6 ?_|refine z7 ?_|refine z8 ?_|refine z9 ?_|refine za ?_|refine zb ?_|refine zc ?_|refine zd ?_|refine ze ?_|refine zf ?_|refine zg ?_|refine zh ?_|((first|refine zi ?_ ?_|refine zj ?_ ?_|refine zk ?_ ?_)<;> intro hh <;> first|(exfalso;omega)|skip)|(refine zl ?_ ?_<;> intro hh)|refine zm ?_|refine zn ?_|refine zo ?_|refine zp ?_|refine zq ?_|refine zr ?_|refine zs _ rfl ?_|refine zu ?_|exact Sy.fin_val (fun e=>rfl))));(all_goals (try conv => whnf))))
        all_goals first
          | exact Sy.fin_val (fun e => congrArg Value.bool (decide_eq_false (lst_ne n h1 h2 (by intro hh; subst hh; contradiction))).symm)
          | (refine ⟨n + 1, ⟨by omega, pre_succ h1 h2 (by cases x; cases y; simp_all) hpre⟩, by omega, ?_⟩; ((repeat' (first|((conv => whnf);done)|((try conv => whnf);first|exact trivial|(refine And.intro ?_ ?_)|rfl)));(all_goals (try conv => whnf))))
      · exact Sy.fin_val (fun e => congrArg Value.bool (decide_eq_true (lst_eq n (by omega) (by omega) hpre)).symm)
  · exact Sy.fin_val (fun e => congrArg Value.bool (decide_eq_false (by intro hh; subst hh; contradiction)).symm)
end Go.Proofs.Ytiapcohnjklcfaa
