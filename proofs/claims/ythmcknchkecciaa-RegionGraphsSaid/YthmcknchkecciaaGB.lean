/- Graph: which graphs are the same. -/
import Derived.Test.YthmcknchkecciaaGA
namespace Go.Proofs.Ythmcknchkecciaa
open Go Go.RowKit
open Sy (C SV V1 Blk St XD Els)
set_option maxRecDepth 10000

theorem equalI_any (u v : Value) (xs ys : List Int) (w : World) (hx : XD.ok (fun b => b < w.heap.size) w ⟨u, 1, xs.length, xs.map encI⟩) (hy : XD.ok (fun b => b < w.heap.size) w ⟨v, 1, ys.length, ys.map encI⟩) :
    Calls Try.prog 25 #[u, v] w (Sy.Ret (.bool (decide (xs = ys))) w) := by
  have hl := ok_len hx
  have hl' := ok_len hy
  refine Sy.calls_of Sy.lv25 Sy.tab_ok Try.func25 rfl _ Try.ntmps25 [⟨u, 1, xs.length, xs.map encI⟩, ⟨v, 1, ys.length, ys.map encI⟩] [.c (.row 0), .c (.row 1)] rfl rfl rfl ⟨hx, hy, trivial⟩ ?_
  ((repeat' ((conv => whnf);(first|refine zA ?_|(refine zI ?_ ?_<;> intro hh<;> first|(exfalso;omega)|skip)|(refine zl ?_ ?_<;> intro hh)|refine zq ?_|refine zv ?_|refine zu ?_|exact Sy.fin_val fun e=>rfl)));(all_goals (try conv => whnf)))
  · refine Sy.loop_inv Sy.tab_ok (fun n : Nat => [(13, .c (.v (.int .i64 n)))]) (fun _ => []) (fun n => n ≤ xs.length ∧ ∀ i, i < n → xs[i]? = ys[i]?) (fun n => xs.length - n) 0 ⟨Nat.zero_le _, fun i hi => by omega⟩ ?_ (fun n hle => ?_)
    · ((repeat' (first|((conv => whnf);done)|((try conv => whnf);first|exact trivial|(refine And.intro ?_ ?_)|rfl|exact fun _ _ _ h=>h|exact fun _ _ _ _=>trivial)));(all_goals (try conv => whnf)))
    · obtain ⟨hle, hpre⟩ := hle
      ((repeat' ((conv => whnf);(first|refine zA ?_|(refine zI ?_ ?_<;> intro hh<;> first|(exfalso;omega)|skip)|(refine zl ?_ ?_<;> intro hh)|refine zq ?_|refine zv ?_|refine zu ?_|exact Sy.fin_val fun e=>rfl)));(all_goals (try conv => whnf)))
      · have hlt : n < xs.length := by omega
        have h1 := List.getElem?_eq_getElem hlt
        have h2 := List.getElem?_eq_getElem (show n < ys.length by omega)
        generalize xs[n] = x at *
        generalize ys[n]'(by omega) = y at *
        all_goals (refine Sy.draw_go [] (by kernel_rfl) ?_; intro e0; conv => whnf)
        all_goals (refine zt 0 rfl ?_)
        all_goals (conv => whnf)
        all_goals (refine zt 1 rfl ?_)
        all_goals (conv => whnf)
        all_goals (refine zt 2 rfl ?_)
        all_goals ((conv => whnf);(repeat' ((first|refine zA ?_|(refine zI ?_ ?_<;> intro hh<;> first|(exfalso;omega)|skip)|(refine zl ?_ ?_<;> intro hh)|refine zq ?_|refine zv ?_|refine zu ?_|exact Sy.fin_val fun e=>rfl);(try conv => whnf))))
        all_goals (refine zt 3 rfl ?_)
        all_goals (conv => whnf)
        all_goals (refine Sy.el_map x h1 ?_)
        all_goals (conv => whnf)
        all_goals (refine zt 4 rfl ?_)
        all_goals (conv => whnf)
        all_goals (refine zt 5 rfl ?_)
        all_goals (conv => whnf)
        all_goals (refine zt 6 rfl ?_)
        all_goals ((conv => whnf);(repeat' ((first|refine zA ?_|(refine zI ?_ ?_<;> intro hh<;> first|(exfalso;omega)|skip)|(refine zl ?_ ?_<;> intro hh)|refine zq ?_|refine zv ?_|refine zu ?_|exact Sy.fin_val fun e=>rfl);(try conv => whnf))))
        all_goals (refine zt 7 rfl ?_)
        all_goals (conv => whnf)
        all_goals (refine Sy.el_map y h2 ?_)
        all_goals (conv => whnf)
        all_goals (refine zt 8 rfl ?_)
        all_goals ((conv => whnf);(repeat' ((first|refine zA ?_|(refine zI ?_ ?_<;> intro hh<;> first|(exfalso;omega)|skip)|(refine zl ?_ ?_<;> intro hh)|refine zq ?_|refine zv ?_|refine zu ?_|exact Sy.fin_val fun e=>rfl);(try conv => whnf))))
        all_goals (refine zw ?_)
        all_goals (((repeat' ((conv => whnf);(first|refine zA ?_|(refine zI ?_ ?_<;> intro hh<;> first|(exfalso;omega)|skip)|(refine zl ?_ ?_<;> intro hh)|refine zq ?_|refine zv ?_|refine zu ?_|exact Sy.fin_val fun e=>rfl)));(all_goals (try conv => whnf))))
        all_goals first
          | exact Sy.fin_val (fun e => congrArg Value.bool (decide_eq_false (lst_ne n h1 h2 (by assumption))).symm)
          | (refine ⟨n + 1, ⟨by omega, pre_succ h1 h2 (by assumption) hpre⟩, by omega, ?_⟩; ((repeat' (first|((conv => whnf);done)|((try conv => whnf);first|exact trivial|(refine And.intro ?_ ?_)|rfl|exact fun _ _ _ h=>h|exact fun _ _ _ _=>trivial)));(all_goals (try conv => whnf))))
      · exact Sy.fin_val (fun e => congrArg Value.bool (decide_eq_true (lst_eq n (by omega) (by omega) hpre)).symm)
  · exact Sy.fin_val (fun e => congrArg Value.bool (decide_eq_false (by intro hh; subst hh; contradiction)).symm)
theorem opN_get {xs : List OpV} {n : Nat} {x : OpV} (h : xs[n]? = some x) : (opsOf xs)[n]? = some x.op := by simp [opsOf, h]
set_option maxHeartbeats 4000000 in
theorem rsame_any (u v : Value) (xs ys : List OpV) (w : World) (hx : GOk (fun b => b < w.heap.size) w u xs) (hy : GOk (fun b => b < w.heap.size) w v ys) :
    Calls Try.prog 17 #[.agg #[u], .agg #[v]] w (Sy.Ret (.bool (decide (opsOf xs = opsOf ys))) w) := by
  have hl := ok_len hx.1
  have hl' := ok_len hy.1
  refine Sy.calls_of Sy.lv17 Sy.tab_ok Try.func17 rfl _ Try.ntmps17 [⟨u, 5, xs.length, xs.map encOV⟩, ⟨v, 5, ys.length, ys.map encOV⟩] [.agg [.row 0], .agg [.row 1]] rfl rfl rfl ⟨hx.1, hy.1, trivial⟩ ?_
  ((repeat' ((conv => whnf);(first|refine zA ?_|(refine zI ?_ ?_<;> intro hh<;> first|(exfalso;omega)|skip)|(refine zl ?_ ?_<;> intro hh)|refine zq ?_|refine zv ?_|refine zu ?_|exact Sy.fin_val fun e=>rfl)));(all_goals (try conv => whnf)))
  · refine Sy.loop_inv Sy.tab_ok (fun n : Nat => [(19, .c (.v (.int .i64 n)))]) (fun _ => []) (fun n => n ≤ xs.length ∧ ∀ i, i < n → (opsOf xs)[i]? = (opsOf ys)[i]?) (fun n => xs.length - n) 0 ⟨Nat.zero_le _, fun i hi => by omega⟩ ?_ (fun n hle => ?_)
    · ((repeat' (first|((conv => whnf);done)|((try conv => whnf);first|exact trivial|(refine And.intro ?_ ?_)|rfl|exact fun _ _ _ h=>h|exact fun _ _ _ _=>trivial)));(all_goals (try conv => whnf)))
    · obtain ⟨hle, hpre⟩ := hle
      ((repeat' ((conv => whnf);(first|refine zA ?_|(refine zI ?_ ?_<;> intro hh<;> first|(exfalso;omega)|skip)|(refine zl ?_ ?_<;> intro hh)|refine zu ?_|exact Sy.fin_val fun e=>rfl)));(all_goals (try conv => whnf)))
      · have hlt : n < xs.length := by omega
        have h1 := List.getElem?_eq_getElem hlt
        have h2 := List.getElem?_eq_getElem (show n < ys.length by omega)
        generalize xs[n] = x at *
        generalize ys[n]'(by omega) = y at *
        have hxo := hx.at h1
        have hyo := hy.at h2
        have hlx := ok_len hxo
        have hne : x.op ≠ y.op → opsOf xs ≠ opsOf ys := fun h => lst_ne n (opN_get h1) (opN_get h2) h
        have hsc := fun h => pre_succ (opN_get h1) (opN_get h2) h hpre
        refine zv ?_
        all_goals (refine Sy.draw_go [4,5] (by kernel_rfl) ?_; intro e0; conv => whnf)
        all_goals (refine zt 0 rfl ?_)
        all_goals (conv => whnf)
        all_goals (refine zt 1 rfl ?_)
        all_goals (conv => whnf)
        all_goals (refine zt 2 rfl ?_)
        all_goals (conv => whnf)
        all_goals (refine zt 3 rfl ?_)
        all_goals ((conv => whnf);(repeat' ((first|refine zA ?_|(refine zI ?_ ?_<;> intro hh<;> first|(exfalso;omega)|skip)|(refine zl ?_ ?_<;> intro hh)|refine zq ?_|refine zv ?_|refine zu ?_|exact Sy.fin_val fun e=>rfl);(try conv => whnf))))
        all_goals (refine zt 4 rfl ?_)
        all_goals (conv => whnf)
        all_goals (refine Sy.el_map x h1 ?_)
        all_goals (conv => whnf)
        all_goals (refine zt 5 rfl ?_)
        all_goals (conv => whnf)
        all_goals (refine zt 6 rfl ?_)
        all_goals (conv => whnf)
        all_goals (refine zt 7 rfl ?_)
        all_goals (conv => whnf)
        all_goals (refine zt 8 rfl ?_)
        all_goals ((conv => whnf);(repeat' ((first|refine zA ?_|(refine zI ?_ ?_<;> intro hh<;> first|(exfalso;omega)|skip)|(refine zl ?_ ?_<;> intro hh)|refine zq ?_|refine zv ?_|refine zu ?_|exact Sy.fin_val fun e=>rfl);(try conv => whnf))))
        all_goals (refine zt 9 rfl ?_)
        all_goals (conv => whnf)
        all_goals (refine Sy.el_map y h2 ?_)
        all_goals (conv => whnf)
        all_goals (focus
          refine zd1 [10, 11] (zx rfl ?_ (zx rfl ?_ zy))
          focus
            conv => whnf
            all_goals (refine ⟨(by repeat' ((conv => whnf);first|exact trivial|(refine And.intro ?_ ?_)|rfl)), ?_⟩)
            all_goals (refine zd1 [11] (zx rfl ?_ zy))
            all_goals (conv => whnf)
            all_goals (refine ⟨(by repeat' ((conv => whnf);first|exact trivial|(refine And.intro ?_ ?_)|rfl)), ?_⟩)
            all_goals (refine zd1 [12] (zx rfl ?_ zy))
            all_goals (conv => whnf)
            all_goals (refine ⟨(by repeat' ((conv => whnf);first|exact trivial|(refine And.intro ?_ ?_)|rfl)), ?_⟩)
            all_goals (refine zd1 [13] (zx rfl ?_ zy))
            all_goals (conv => whnf)
            all_goals (refine ⟨(by repeat' ((conv => whnf);first|exact trivial|(refine And.intro ?_ ?_)|rfl)), ?_⟩)
            all_goals (refine zw ?_)
            skip
          rotate_right
          focus
            conv => whnf
            all_goals (refine ⟨(by repeat' ((conv => whnf);first|exact trivial|(refine And.intro ?_ ?_)|rfl)), ?_⟩)
            all_goals (refine zd1 [10] (zx rfl ?_ zy))
            all_goals (conv => whnf)
            all_goals (refine ⟨(by repeat' ((conv => whnf);first|exact trivial|(refine And.intro ?_ ?_)|rfl)), ?_⟩)
            all_goals (refine zd1 [12] (zx rfl ?_ zy))
            all_goals (conv => whnf)
            all_goals (refine ⟨(by repeat' ((conv => whnf);first|exact trivial|(refine And.intro ?_ ?_)|rfl)), ?_⟩)
            all_goals (refine zd1 [13] (zx rfl ?_ zy))
            all_goals (conv => whnf)
            all_goals (refine ⟨(by repeat' ((conv => whnf);first|exact trivial|(refine And.intro ?_ ?_)|rfl)), ?_⟩)
            all_goals (refine zw ?_)
            skip)
        all_goals ((repeat' ((conv => whnf);(first|refine zA ?_|(refine zI ?_ ?_<;> intro hh<;> first|(exfalso;omega)|skip)|(refine zl ?_ ?_<;> intro hh)|refine zq ?_|refine zv ?_|exact Sy.fin_val fun e=>rfl)));(all_goals (try conv => whnf)))
        any_goals (exact Sy.fin_val (fun e => congrArg Value.bool (decide_eq_false (hne (opr_ne (by omega)))).symm))
        all_goals (refine open_x _ _ _ (hxo) (fun _ h => h) ?_; ((repeat' ((conv => whnf);(first|refine zA ?_|(refine zI ?_ ?_<;> intro hh<;> first|(exfalso;omega)|skip)|(refine zl ?_ ?_<;> intro hh)|refine zq ?_|refine zv ?_|exact Sy.fin_val fun e=>rfl)));(all_goals (try conv => whnf))))
        all_goals (refine open_x _ _ _ (hyo) (fun _ h => h) ?_; ((repeat' ((conv => whnf);(first|refine zA ?_|(refine zI ?_ ?_<;> intro hh<;> first|(exfalso;omega)|skip)|(refine zl ?_ ?_<;> intro hh)|refine zq ?_|refine zv ?_|exact Sy.fin_val fun e=>rfl)));(all_goals (try conv => whnf))))
        any_goals (exact Sy.fin_val (fun e => congrArg Value.bool (decide_eq_false (hne (opr_ne (.inr (.inr (.inl (fun h => by have := congrArg List.length h; omega))))))).symm))
        · refine open_x _ _ _ (hxo) (fun _ h => h) ?_
          ((repeat' ((conv => whnf);(first|refine zA ?_|(refine zI ?_ ?_<;> intro hh<;> first|(exfalso;omega)|skip)|(refine zl ?_ ?_<;> intro hh)|refine zq ?_|refine zv ?_|exact Sy.fin_val fun e=>rfl)));(all_goals (try conv => whnf)))
          (refine open_c 5 2 _ _ _ rfl rfl (hxo) (fun _ h => h) ?_); (conv => whnf)
          (refine open_c 4 2 _ _ _ rfl rfl (hyo) (fun _ h => h) ?_); (conv => whnf)
          refine Sy.loop_inv Sy.tab_ok (fun m : Nat => [(70, .c (.v (.int .i64 m)))]) (fun _ => []) (fun m => m ≤ x.op.ins.length ∧ ∀ i, i < m → x.op.ins[i]? = y.op.ins[i]?) (fun m => x.op.ins.length - m) 0 ⟨Nat.zero_le _, fun i hi => absurd hi (Nat.not_lt_zero _)⟩ ?_ (fun m hm => ?_)
          · ((repeat' (first|((conv => whnf);done)|((try conv => whnf);first|exact trivial|(refine And.intro ?_ ?_)|rfl|exact fun _ _ _ h=>h|exact fun _ _ _ _=>trivial)));(all_goals (try conv => whnf)))
          · obtain ⟨hm, hpre2⟩ := hm
            ((repeat' ((conv => whnf);(first|refine zA ?_|(refine zI ?_ ?_<;> intro hh<;> first|(exfalso;omega)|skip)|(refine zl ?_ ?_<;> intro hh)|refine zu ?_|exact Sy.fin_val fun e=>rfl)));(all_goals (try conv => whnf)))
            · have hlt2 : m < x.op.ins.length := by omega
              have g1 := List.getElem?_eq_getElem hlt2
              have g2 := List.getElem?_eq_getElem (show m < y.op.ins.length by omega)
              generalize x.op.ins[m] = p at *
              generalize y.op.ins[m]'(by omega) = q at *
              refine zv ?_
              all_goals (refine Sy.draw_go [] (by kernel_rfl) ?_; intro e0; conv => whnf)
              all_goals (refine zt 0 rfl ?_)
              all_goals (conv => whnf)
              all_goals (refine zt 1 rfl ?_)
              all_goals (conv => whnf)
              all_goals (refine zt 2 rfl ?_)
              all_goals (conv => whnf)
              all_goals (refine zt 3 rfl ?_)
              all_goals ((conv => whnf);(repeat' ((first|refine zA ?_|(refine zI ?_ ?_<;> intro hh<;> first|(exfalso;omega)|skip)|(refine zl ?_ ?_<;> intro hh)|refine zq ?_|refine zv ?_|refine zu ?_|exact Sy.fin_val fun e=>rfl);(try conv => whnf))))
              all_goals (refine zt 4 rfl ?_)
              all_goals (conv => whnf)
              all_goals (refine Sy.el_map p g1 ?_)
              all_goals (conv => whnf)
              all_goals (refine zt 5 rfl ?_)
              all_goals (conv => whnf)
              all_goals (refine zt 6 rfl ?_)
              all_goals (conv => whnf)
              all_goals (refine zt 7 rfl ?_)
              all_goals (conv => whnf)
              all_goals (refine zt 8 rfl ?_)
              all_goals ((conv => whnf);(repeat' ((first|refine zA ?_|(refine zI ?_ ?_<;> intro hh<;> first|(exfalso;omega)|skip)|(refine zl ?_ ?_<;> intro hh)|refine zq ?_|refine zv ?_|refine zu ?_|exact Sy.fin_val fun e=>rfl);(try conv => whnf))))
              all_goals (refine zt 9 rfl ?_)
              all_goals (conv => whnf)
              all_goals (refine Sy.el_map q g2 ?_)
              all_goals (conv => whnf)
              all_goals (refine zt 10 rfl ?_)
              all_goals ((conv => whnf);(repeat' ((first|refine zA ?_|(refine zI ?_ ?_<;> intro hh<;> first|(exfalso;omega)|skip)|(refine zl ?_ ?_<;> intro hh)|refine zq ?_|refine zv ?_|refine zu ?_|exact Sy.fin_val fun e=>rfl);(try conv => whnf))))
              all_goals (refine zw ?_)
              all_goals (((repeat' ((conv => whnf);(first|refine zA ?_|(refine zI ?_ ?_<;> intro hh<;> first|(exfalso;omega)|skip)|(refine zl ?_ ?_<;> intro hh)|refine zq ?_|refine zv ?_|refine zu ?_|exact Sy.fin_val fun e=>rfl)));(all_goals (try conv => whnf))))
              all_goals first
                | exact Sy.fin_val (fun e => congrArg Value.bool (decide_eq_false (hne (opr_ne (.inr (.inr (.inl (lst_ne m g1 g2 (by assumption)))))))).symm)
                | (refine ⟨m + 1, ⟨by omega, pre_succ g1 g2 (by assumption) hpre2⟩, by omega, ?_⟩; ((repeat' (first|((conv => whnf);done)|((try conv => whnf);first|exact trivial|(refine And.intro ?_ ?_)|rfl|exact fun _ _ _ h=>h|exact fun _ _ _ _=>trivial)));(all_goals (try conv => whnf))))
            · have e3 : x.op.ins = y.op.ins := lst_eq m (by omega) (by omega) hpre2
              refine ⟨n + 1, ⟨by omega, hsc (opr_ext (by assumption) (by assumption) e3 (by assumption) (by assumption))⟩, by omega, ?_⟩
              ((repeat' (first|((conv => whnf);done)|((try conv => whnf);first|exact trivial|(refine And.intro ?_ ?_)|rfl|exact fun _ _ _ h=>h|exact fun _ _ _ _=>trivial)));(all_goals (try conv => whnf)))
        · refine open_x _ _ _ (hxo) (fun _ h => h) ?_
          ((repeat' ((conv => whnf);(first|refine zA ?_|(refine zI ?_ ?_<;> intro hh<;> first|(exfalso;omega)|skip)|(refine zl ?_ ?_<;> intro hh)|refine zq ?_|refine zv ?_|exact Sy.fin_val fun e=>rfl)));(all_goals (try conv => whnf)))
          (refine open_c 4 2 _ _ _ rfl rfl (hxo) (fun _ h => h) ?_); (conv => whnf)
          (refine open_c 5 2 _ _ _ rfl rfl (hyo) (fun _ h => h) ?_); (conv => whnf)
          refine Sy.loop_inv Sy.tab_ok (fun m : Nat => [(70, .c (.v (.int .i64 m)))]) (fun _ => []) (fun m => m ≤ x.op.ins.length ∧ ∀ i, i < m → x.op.ins[i]? = y.op.ins[i]?) (fun m => x.op.ins.length - m) 0 ⟨Nat.zero_le _, fun i hi => absurd hi (Nat.not_lt_zero _)⟩ ?_ (fun m hm => ?_)
          · ((repeat' (first|((conv => whnf);done)|((try conv => whnf);first|exact trivial|(refine And.intro ?_ ?_)|rfl|exact fun _ _ _ h=>h|exact fun _ _ _ _=>trivial)));(all_goals (try conv => whnf)))
          · obtain ⟨hm, hpre2⟩ := hm
            ((repeat' ((conv => whnf);(first|refine zA ?_|(refine zI ?_ ?_<;> intro hh<;> first|(exfalso;omega)|skip)|(refine zl ?_ ?_<;> intro hh)|refine zu ?_|exact Sy.fin_val fun e=>rfl)));(all_goals (try conv => whnf)))
            · have hlt2 : m < x.op.ins.length := by omega
              have g1 := List.getElem?_eq_getElem hlt2
              have g2 := List.getElem?_eq_getElem (show m < y.op.ins.length by omega)
              generalize x.op.ins[m] = p at *
              generalize y.op.ins[m]'(by omega) = q at *
              refine zv ?_
              all_goals (refine Sy.draw_go [] (by kernel_rfl) ?_; intro e0; conv => whnf)
              all_goals (refine zt 0 rfl ?_)
              all_goals (conv => whnf)
              all_goals (refine zt 1 rfl ?_)
              all_goals (conv => whnf)
              all_goals (refine zt 2 rfl ?_)
              all_goals (conv => whnf)
              all_goals (refine zt 3 rfl ?_)
              all_goals ((conv => whnf);(repeat' ((first|refine zA ?_|(refine zI ?_ ?_<;> intro hh<;> first|(exfalso;omega)|skip)|(refine zl ?_ ?_<;> intro hh)|refine zq ?_|refine zv ?_|refine zu ?_|exact Sy.fin_val fun e=>rfl);(try conv => whnf))))
              all_goals (refine zt 4 rfl ?_)
              all_goals (conv => whnf)
              all_goals (refine Sy.el_map p g1 ?_)
              all_goals (conv => whnf)
              all_goals (refine zt 5 rfl ?_)
              all_goals (conv => whnf)
              all_goals (refine zt 6 rfl ?_)
              all_goals (conv => whnf)
              all_goals (refine zt 7 rfl ?_)
              all_goals (conv => whnf)
              all_goals (refine zt 8 rfl ?_)
              all_goals ((conv => whnf);(repeat' ((first|refine zA ?_|(refine zI ?_ ?_<;> intro hh<;> first|(exfalso;omega)|skip)|(refine zl ?_ ?_<;> intro hh)|refine zq ?_|refine zv ?_|refine zu ?_|exact Sy.fin_val fun e=>rfl);(try conv => whnf))))
              all_goals (refine zt 9 rfl ?_)
              all_goals (conv => whnf)
              all_goals (refine Sy.el_map q g2 ?_)
              all_goals (conv => whnf)
              all_goals (refine zt 10 rfl ?_)
              all_goals ((conv => whnf);(repeat' ((first|refine zA ?_|(refine zI ?_ ?_<;> intro hh<;> first|(exfalso;omega)|skip)|(refine zl ?_ ?_<;> intro hh)|refine zq ?_|refine zv ?_|refine zu ?_|exact Sy.fin_val fun e=>rfl);(try conv => whnf))))
              all_goals (refine zw ?_)
              all_goals (((repeat' ((conv => whnf);(first|refine zA ?_|(refine zI ?_ ?_<;> intro hh<;> first|(exfalso;omega)|skip)|(refine zl ?_ ?_<;> intro hh)|refine zq ?_|refine zv ?_|refine zu ?_|exact Sy.fin_val fun e=>rfl)));(all_goals (try conv => whnf))))
              all_goals first
                | exact Sy.fin_val (fun e => congrArg Value.bool (decide_eq_false (hne (opr_ne (.inr (.inr (.inl (lst_ne m g1 g2 (by assumption)))))))).symm)
                | (refine ⟨m + 1, ⟨by omega, pre_succ g1 g2 (by assumption) hpre2⟩, by omega, ?_⟩; ((repeat' (first|((conv => whnf);done)|((try conv => whnf);first|exact trivial|(refine And.intro ?_ ?_)|rfl|exact fun _ _ _ h=>h|exact fun _ _ _ _=>trivial)));(all_goals (try conv => whnf))))
            · have e3 : x.op.ins = y.op.ins := lst_eq m (by omega) (by omega) hpre2
              refine ⟨n + 1, ⟨by omega, hsc (opr_ext (by assumption) (by assumption) e3 (by assumption) (by assumption))⟩, by omega, ?_⟩
              ((repeat' (first|((conv => whnf);done)|((try conv => whnf);first|exact trivial|(refine And.intro ?_ ?_)|rfl|exact fun _ _ _ h=>h|exact fun _ _ _ _=>trivial)));(all_goals (try conv => whnf)))
      · exact Sy.fin_val (fun e => congrArg Value.bool (decide_eq_true (lst_eq n (by rw [opsOf_len]; omega) (by rw [opsOf_len, opsOf_len]; omega) hpre)).symm)
  · exact Sy.fin_val (fun e => congrArg Value.bool (decide_eq_false (by intro hh; have := congrArg List.length hh; rw [opsOf_len, opsOf_len] at this; omega)).symm)
end Go.Proofs.Ythmcknchkecciaa
