/- Slots: the document's Free, Same; copied, same. -/
import Derived.Test.YtjhjmeajdebcbaaSW
namespace Go.Proofs.Ytjhjmeajdebcbaa
open Go Go.RowKit
open Sy (C SV V1 Blk St XD Els)
set_option maxRecDepth 10000

theorem sumL_take {l : List (Int × Int)} {n : Nat} {p : Int × Int} (h : l[n]? = some p) : sumL (l.take (n + 1)) = sumL (l.take n) + p.2 := by
  obtain ⟨hn, he⟩ := List.getElem?_eq_some_iff.1 h
  rw [List.take_succ_eq_append_getElem hn, he, sumL_snoc]
theorem sumL_bound {l : List (Int × Int)} (h : ∀ p ∈ l, 0 ≤ p.2 ∧ p.2 ≤ 8) : 0 ≤ sumL l ∧ sumL l ≤ 8 * l.length := by
  have := sumAt_nat h (List.range l.length)
  rwa [sumAt_range _ _ rfl, List.length_range] at this
attribute [local irreducible] FlOk sumL frL
theorem rfree_any (u v : Value) (ws ps : List (Int × Int)) (w : World) (hok : FlOk ws ps) (hu : XD.ok (fun b => b < w.heap.size) w ⟨u, 2, ws.length, ws.map enc2⟩) (hv : XD.ok (fun b => b < w.heap.size) w ⟨v, 2, ps.length, ps.map enc2⟩) :
    Calls Try.prog 27 #[.agg #[u, v]] w (Sy.Ret (.int .i64 (sumL (frL ws ps))) w) := by
  obtain ⟨hwl, hpl⟩ := ok_lens hok
  have hwv : ∀ p ∈ ws, 0 ≤ p.2 ∧ p.2 ≤ 8 := fun p hp => by
    have : okW p := by unfold FlOk at hok; exact hok.1.1 p hp
    unfold okW at this; omega
  have hfs := free_sum (ws := ws) (ps := ps) (by unfold FlOk at hok; exact hok.1.2) (fun q hq => by unfold FlOk at hok; exact (hok.2.1.1 q hq).2) ps.length (Nat.le_refl _)
  rw [List.take_length] at hfs
  rw [hfs]
  refine Sy.calls_of Sy.lv27 Sy.tab_ok Try.func27 rfl _ Try.ntmps27 [⟨u, 2, ws.length, ws.map enc2⟩, ⟨v, 2, ps.length, ps.map enc2⟩] [.agg [.row 0, .row 1]] rfl rfl rfl ⟨hu, hv, trivial⟩ ?_
  ((repeat' ((conv => whnf);(first|refine zA ?_|(refine zI ?_ ?_<;> intro hh<;> first|(exfalso;omega)|skip)|(refine zl ?_ ?_<;> intro hh)|refine zq ?_|refine zv ?_|refine zu ?_|exact Sy.fin_val fun e=>rfl)));(all_goals (try conv => whnf)))
  refine Sy.loop_inv Sy.tab_ok (fun n : Nat => [(4, .c (.v (.int .i64 n))), (3, .c (.v (.int .i64 (sumL (ws.take n)))))]) (fun n => []) (fun n => n ≤ ws.length) (fun n => ws.length - n) 0 (Nat.zero_le _) ?_ (fun n hn => ?_)
  · rw [List.take_zero, show sumL [] = 0 by unfold sumL; rfl]
    ((repeat' (first|((conv => whnf);done)|((try conv => whnf);first|exact trivial|(refine And.intro ?_ ?_)|rfl|exact fun _ _ _ h=>h|exact fun _ _ _ _=>trivial)));(all_goals (try conv => whnf)))
  · have hb1 := sumL_bound (l := ws.take n) (fun p hp => hwv p (List.mem_of_mem_take hp))
    rw [List.length_take] at hb1
    ((repeat' ((conv => whnf);(first|refine zA ?_|(refine zI ?_ ?_<;> intro hh<;> first|(exfalso;omega)|skip)|(refine zl ?_ ?_<;> intro hh)|refine zq ?_|refine zv ?_|refine zu ?_|exact Sy.fin_val fun e=>rfl)));(all_goals (try conv => whnf)))
    · have hlt : n < ws.length := by omega
      have hgn := List.getElem?_eq_getElem hlt
      have hpv := hwv _ (List.getElem_mem hlt)
      generalize ws[n] = p at *
      have hst := sumL_take hgn
      refine Sy.el_map p hgn ?_
      ((repeat' ((conv => whnf);(first|refine zA ?_|(refine zI ?_ ?_<;> intro hh<;> first|(exfalso;omega)|skip)|(refine zl ?_ ?_<;> intro hh)|refine zq ?_|refine zv ?_|refine zu ?_|exact Sy.fin_val fun e=>rfl)));(all_goals (try conv => whnf)))
      refine ⟨n + 1, by omega, by omega, ?_⟩
      rw [hst]
      ((repeat' (first|((conv => whnf);done)|((try conv => whnf);first|exact trivial|(refine And.intro ?_ ?_)|rfl|exact fun _ _ _ h=>h|exact fun _ _ _ _=>trivial)));(all_goals (try conv => whnf)))
    · have e : n = ws.length := by omega
      rw [e, List.take_length] at hb1
      rw [e, List.take_length]
      ((repeat' ((conv => whnf);(first|refine zA ?_|(refine zI ?_ ?_<;> intro hh<;> first|(exfalso;omega)|skip)|(refine zl ?_ ?_<;> intro hh)|refine zq ?_|refine zv ?_|refine zu ?_|exact Sy.fin_val fun e=>rfl)));(all_goals (try conv => whnf)))
      all_goals done
theorem same_any (u v : Value) (xs ys : List Int) (w : World) (hx : XD.ok (fun b => b < w.heap.size) w ⟨u, 1, xs.length, xs.map encI⟩) (hy : XD.ok (fun b => b < w.heap.size) w ⟨v, 1, ys.length, ys.map encI⟩) :
    Calls Try.prog 25 #[u, v] w (Sy.Ret (.bool (decide (xs = ys))) w) := by
  have hl := ok_len hx
  have hl' := ok_len hy
  refine Sy.calls_of Sy.lv25 Sy.tab_ok Try.func25 rfl _ Try.ntmps25 [⟨u, 1, xs.length, xs.map encI⟩, ⟨v, 1, ys.length, ys.map encI⟩] [.c (.row 0), .c (.row 1)] rfl rfl rfl ⟨hx, hy, trivial⟩ ?_
  by_cases hlen : xs.length = ys.length
  · ((repeat' ((conv => whnf);(first|refine zA ?_|(refine zI ?_ ?_<;> intro hh<;> first|(exfalso;omega)|skip)|(refine zl ?_ ?_<;> intro hh)|refine zq ?_|refine zv ?_|refine zu ?_|exact Sy.fin_val fun e=>rfl)));(all_goals (try conv => whnf)))
    · refine Sy.loop_inv Sy.tab_ok (fun n : Nat => [(13, .c (.v (.int .i64 n)))]) (fun _ => []) (fun n => n ≤ xs.length ∧ ∀ i, i < n → xs[i]? = ys[i]?) (fun n => xs.length - n) 0 ⟨Nat.zero_le _, fun i hi => by omega⟩ ?_ (fun n hle => ?_)
      · ((repeat' (first|((conv => whnf);done)|((try conv => whnf);first|exact trivial|(refine And.intro ?_ ?_)|rfl|exact fun _ _ _ h=>h|exact fun _ _ _ _=>trivial)));(all_goals (try conv => whnf)))
      · obtain ⟨hle, hpre⟩ := hle
        ((repeat' ((conv => whnf);(first|refine zA ?_|(refine zI ?_ ?_<;> intro hh<;> first|(exfalso;omega)|skip)|(refine zl ?_ ?_<;> intro hh)|refine zq ?_|refine zv ?_|refine zu ?_|exact Sy.fin_val fun e=>rfl)));(all_goals (try conv => whnf)))
        · have hlt : n < xs.length := by omega
          have h1 := List.getElem?_eq_getElem hlt
          have h2 := List.getElem?_eq_getElem (show n < ys.length by omega)
          generalize xs[n] = x at *
          generalize ys[n]'(by omega) = y at *
          all_goals (refine Sy.draw_go [] (by kernel_rfl) ?_; intro e0; conv => whnf)
          all_goals (refine zt 0 rfl ?_)
          all_goals (conv => whnf)
          all_goals (refine zt 1 rfl ?_)
          all_goals (conv => whnf)
          all_goals (refine zt 2 rfl ?_)
          all_goals ((conv => whnf);(repeat' ((first|refine zA ?_|(refine zI ?_ ?_<;> intro hh<;> first|(exfalso;omega)|skip)|(refine zl ?_ ?_<;> intro hh)|refine zq ?_|refine zv ?_|refine zu ?_|exact Sy.fin_val fun e=>rfl);(try conv => whnf))))
          all_goals (refine zt 3 rfl ?_)
          all_goals (conv => whnf)
          all_goals (refine Sy.el_map x h1 ?_)
          all_goals (conv => whnf)
          all_goals (refine zt 4 rfl ?_)
          all_goals (conv => whnf)
          all_goals (refine zt 5 rfl ?_)
          all_goals (conv => whnf)
          all_goals (refine zt 6 rfl ?_)
          all_goals ((conv => whnf);(repeat' ((first|refine zA ?_|(refine zI ?_ ?_<;> intro hh<;> first|(exfalso;omega)|skip)|(refine zl ?_ ?_<;> intro hh)|refine zq ?_|refine zv ?_|refine zu ?_|exact Sy.fin_val fun e=>rfl);(try conv => whnf))))
          all_goals (refine zt 7 rfl ?_)
          all_goals (conv => whnf)
          all_goals (refine Sy.el_map y h2 ?_)
          all_goals (conv => whnf)
          all_goals (refine zt 8 rfl ?_)
          all_goals ((conv => whnf);(repeat' ((first|refine zA ?_|(refine zI ?_ ?_<;> intro hh<;> first|(exfalso;omega)|skip)|(refine zl ?_ ?_<;> intro hh)|refine zq ?_|refine zv ?_|refine zu ?_|exact Sy.fin_val fun e=>rfl);(try conv => whnf))))
          all_goals (refine zw ?_)
          all_goals (((repeat' ((conv => whnf);(first|refine zA ?_|(refine zI ?_ ?_<;> intro hh<;> first|(exfalso;omega)|skip)|(refine zl ?_ ?_<;> intro hh)|refine zq ?_|refine zv ?_|refine zu ?_|exact Sy.fin_val fun e=>rfl)));(all_goals (try conv => whnf))))
          all_goals first
            | exact Sy.fin_val (fun e => congrArg Value.bool (decide_eq_false (lst_ne n h1 h2 (by assumption))).symm)
            | (refine ⟨n + 1, ⟨by omega, pre_succ h1 h2 (by assumption) hpre⟩, by omega, ?_⟩; ((repeat' (first|((conv => whnf);done)|((try conv => whnf);first|exact trivial|(refine And.intro ?_ ?_)|rfl|exact fun _ _ _ h=>h|exact fun _ _ _ _=>trivial)));(all_goals (try conv => whnf))))
        · exact Sy.fin_val (fun e => congrArg Value.bool (decide_eq_true (lst_eq n (by omega) (by omega) hpre)).symm)
  · ((repeat' ((conv => whnf);(first|refine zA ?_|(refine zI ?_ ?_<;> intro hh<;> first|(exfalso;omega)|skip)|(refine zl ?_ ?_<;> intro hh)|refine zq ?_|refine zv ?_|refine zu ?_|exact Sy.fin_val fun e=>rfl)));(all_goals (try conv => whnf)))
    · exact Sy.fin_val (fun e => congrArg Value.bool (decide_eq_false (fun h => hlen (by rw [h]))).symm)
theorem copied_any (u v : Value) (ws ps : List (Int × Int)) (w : World) (hu : XD.ok (fun b => b < w.heap.size) w ⟨u, 2, ws.length, ws.map enc2⟩) (hv : XD.ok (fun b => b < w.heap.size) w ⟨v, 2, ps.length, ps.map enc2⟩) (hw : ws.length ≤ 1000) (hp : ps.length ≤ 1000) :
    Calls Try.prog 14 #[.agg #[u, v]] w (Sy.RetRows Sy.noRow (fun _ : Unit => True) (fun _ => [⟨31, 2, ws.length, ws.map enc2⟩, ⟨67, 2, ps.length, ps.map enc2⟩]) (fun _ vs => .agg #[vs.headD undef, (vs.drop 1).headD undef]) w) := by
  refine Sy.calls_of Sy.lv14 Sy.tab_ok Try.func14 rfl _ Try.ntmps14 [⟨u, 2, ws.length, ws.map enc2⟩, ⟨v, 2, ps.length, ps.map enc2⟩] [.agg [.row 0, .row 1]] rfl rfl rfl ⟨hu, hv, trivial⟩ ?_
  ((repeat' ((conv => whnf);(first|refine zA ?_|(refine zI ?_ ?_<;> intro hh<;> first|(exfalso;omega)|skip)|(refine zl ?_ ?_<;> intro hh)|refine zq ?_|refine zv ?_|refine zu ?_|exact Sy.fin_val fun e=>rfl)));(all_goals (try conv => whnf)))
  refine Sy.draw_go [3] (by kernel_rfl) ?_
  intro e0
  conv => whnf
  refine zt 1 rfl ?_
  conv => whnf
  refine zt 2 rfl ?_
  conv => whnf
  refine zt 5 rfl ?_
  conv => whnf
  refine zt 6 rfl ?_
  conv => whnf
  focus
    refine zd1 [0, 4] (zx rfl ?_ (zx rfl ?_ zy))
    focus
      conv => whnf
      refine ⟨(by repeat' ((conv => whnf);first|exact trivial|(refine And.intro ?_ ?_)|rfl)), ?_⟩
      focus
        refine zd1 [3, 4] (zx rfl ?_ (zx rfl ?_ zy))
        focus
          conv => whnf
          refine Sy.need_of (by show (0 + ws.length) * 16 ≤ _ ∧ _; omega) ?_
          conv => whnf
          refine ⟨(by repeat' ((conv => whnf);first|exact trivial|(refine And.intro ?_ ?_)|rfl)), ?_⟩
          refine zd1 [4] (zx rfl ?_ zy)
          conv => whnf
          refine ⟨(by repeat' ((conv => whnf);first|exact trivial|(refine And.intro ?_ ?_)|rfl)), ?_⟩
          refine zd1 [7] (zx rfl ?_ zy)
          conv => whnf
          refine Sy.need_of (by show (0 + ps.length) * 16 ≤ _ ∧ _; omega) ?_
          conv => whnf
          refine ⟨(by repeat' ((conv => whnf);first|exact trivial|(refine And.intro ?_ ?_)|rfl)), ?_⟩
          refine zt 8 rfl ?_
          conv => whnf
          refine zd1 [9] (zx rfl ?_ zy)
          conv => whnf
          refine ⟨(by repeat' ((conv => whnf);first|exact trivial|(refine And.intro ?_ ?_)|rfl)), ?_⟩
          refine zw ?_
          skip
        rotate_right
        focus
          conv => whnf
          refine ⟨(by repeat' ((conv => whnf);first|exact trivial|(refine And.intro ?_ ?_)|rfl)), ?_⟩
          refine zd1 [3] (zx rfl ?_ zy)
          conv => whnf
          refine Sy.need_of (by show (0 + ws.length) * 16 ≤ _ ∧ _; omega) ?_
          conv => whnf
          refine ⟨(by repeat' ((conv => whnf);first|exact trivial|(refine And.intro ?_ ?_)|rfl)), ?_⟩
          refine zd1 [7] (zx rfl ?_ zy)
          conv => whnf
          refine Sy.need_of (by show (0 + ps.length) * 16 ≤ _ ∧ _; omega) ?_
          conv => whnf
          refine ⟨(by repeat' ((conv => whnf);first|exact trivial|(refine And.intro ?_ ?_)|rfl)), ?_⟩
          refine zt 8 rfl ?_
          conv => whnf
          refine zd1 [9] (zx rfl ?_ zy)
          conv => whnf
          refine ⟨(by repeat' ((conv => whnf);first|exact trivial|(refine And.intro ?_ ?_)|rfl)), ?_⟩
          refine zw ?_
          skip
    rotate_right
    focus
      conv => whnf
      refine ⟨(by repeat' ((conv => whnf);first|exact trivial|(refine And.intro ?_ ?_)|rfl)), ?_⟩
      refine zd1 [0] (zx rfl ?_ zy)
      conv => whnf
      refine ⟨(by repeat' ((conv => whnf);first|exact trivial|(refine And.intro ?_ ?_)|rfl)), ?_⟩
      refine zd1 [3] (zx rfl ?_ zy)
      conv => whnf
      refine Sy.need_of (by show (0 + ws.length) * 16 ≤ _ ∧ _; omega) ?_
      conv => whnf
      refine ⟨(by repeat' ((conv => whnf);first|exact trivial|(refine And.intro ?_ ?_)|rfl)), ?_⟩
      refine zd1 [7] (zx rfl ?_ zy)
      conv => whnf
      refine Sy.need_of (by show (0 + ps.length) * 16 ≤ _ ∧ _; omega) ?_
      conv => whnf
      refine ⟨(by repeat' ((conv => whnf);first|exact trivial|(refine And.intro ?_ ?_)|rfl)), ?_⟩
      refine zt 8 rfl ?_
      conv => whnf
      refine zd1 [9] (zx rfl ?_ zy)
      conv => whnf
      refine ⟨(by repeat' ((conv => whnf);first|exact trivial|(refine And.intro ?_ ?_)|rfl)), ?_⟩
      refine zw ?_
      skip
  all_goals (((repeat' ((conv => whnf);(first|refine zA ?_|(refine zI ?_ ?_<;> intro hh<;> first|(exfalso;omega)|skip)|(refine zl ?_ ?_<;> intro hh)|refine zq ?_|refine zv ?_|refine zu ?_|exact Sy.fin_val fun e=>rfl)));(all_goals (try conv => whnf))))
  all_goals
    have hw' : some (Blk.row 31 Sy.ti31.size (0 + ws.length) (Els.vs ([] ++ ws.map enc2))) = some (Blk.row 31 Sy.ti31.size ws.length (Els.vs (ws.map enc2))) := by
      rw [Nat.zero_add, List.nil_append]
    have hp' : some (Blk.row 67 Sy.ti67.size (0 + ps.length) (Els.vs ([] ++ ps.map enc2))) = some (Blk.row 67 Sy.ti67.size ps.length (Els.vs (ps.map enc2))) := by
      rw [Nat.zero_add, List.nil_append]
    first
      | exact Sy.fin_r2 (.row 6) (.row 7) hw' hp'
      | exact Sy.fin_r2 (.row 5) (.row 7) hw' hp'
theorem rsame_any (u v u' v' : Value) (ws ps ws' ps' : List (Int × Int)) (w : World) (hu : XD.ok (fun b => b < w.heap.size) w ⟨u, 2, ws.length, ws.map enc2⟩) (hv : XD.ok (fun b => b < w.heap.size) w ⟨v, 2, ps.length, ps.map enc2⟩) (hu' : XD.ok (fun b => b < w.heap.size) w ⟨u', 2, ws'.length, ws'.map enc2⟩) (hv' : XD.ok (fun b => b < w.heap.size) w ⟨v', 2, ps'.length, ps'.map enc2⟩) :
    Calls Try.prog 18 #[.agg #[u, v], .agg #[u', v']] w (Sy.Ret (.bool (decide (ws = ws' ∧ ps = ps'))) w) := by
  have hl := ok_len hu
  have hl2 := ok_len hv
  have hl3 := ok_len hu'
  have hl4 := ok_len hv'
  refine Sy.calls_of Sy.lv18 Sy.tab_ok Try.func18 rfl _ Try.ntmps18 [⟨u, 2, ws.length, ws.map enc2⟩, ⟨v, 2, ps.length, ps.map enc2⟩, ⟨u', 2, ws'.length, ws'.map enc2⟩, ⟨v', 2, ps'.length, ps'.map enc2⟩] [.agg [.row 0, .row 1], .agg [.row 2, .row 3]] rfl rfl rfl ⟨hu, hv, hu', hv', trivial⟩ ?_
  by_cases h1 : ws.length = ws'.length
  · by_cases h2 : ps.length = ps'.length
    · ((repeat' ((conv => whnf);(first|refine zA ?_|(refine zI ?_ ?_<;> intro hh<;> first|(exfalso;omega)|skip)|(refine zl ?_ ?_<;> intro hh)|refine zq ?_|refine zv ?_|refine zu ?_|exact Sy.fin_val fun e=>rfl)));(all_goals (try conv => whnf)))
      refine Sy.loop_inv Sy.tab_ok (fun n : Nat => [(5, .c (.v (.int .i64 n)))]) (fun _ => []) (fun n => n ≤ ws.length ∧ ∀ i, i < n → ws[i]? = ws'[i]?) (fun n => ws.length - n) 0 ⟨Nat.zero_le _, fun i hi => by omega⟩ ?_ (fun n hle => ?_)
      · ((repeat' (first|((conv => whnf);done)|((try conv => whnf);first|exact trivial|(refine And.intro ?_ ?_)|rfl|exact fun _ _ _ h=>h|exact fun _ _ _ _=>trivial)));(all_goals (try conv => whnf)))
      · obtain ⟨hle, hpre⟩ := hle
        ((repeat' ((conv => whnf);(first|refine zA ?_|(refine zI ?_ ?_<;> intro hh<;> first|(exfalso;omega)|skip)|(refine zl ?_ ?_<;> intro hh)|refine zq ?_|refine zv ?_|refine zu ?_|exact Sy.fin_val fun e=>rfl)));(all_goals (try conv => whnf)))
        · have hlt : n < ws.length := by omega
          have g1 := List.getElem?_eq_getElem hlt
          have g2 := List.getElem?_eq_getElem (show n < ws'.length by omega)
          generalize ws[n] = x at *
          generalize ws'[n]'(by omega) = y at *
          all_goals (refine Sy.draw_go [] (by kernel_rfl) ?_; intro e0; conv => whnf)
          all_goals (refine zt 0 rfl ?_)
          all_goals (conv => whnf)
          all_goals (refine zt 1 rfl ?_)
          all_goals (conv => whnf)
          all_goals (refine zt 2 rfl ?_)
          all_goals (conv => whnf)
          all_goals (refine zt 3 rfl ?_)
          all_goals ((conv => whnf);(repeat' ((first|refine zA ?_|(refine zI ?_ ?_<;> intro hh<;> first|(exfalso;omega)|skip)|(refine zl ?_ ?_<;> intro hh)|refine zq ?_|refine zv ?_|refine zu ?_|exact Sy.fin_val fun e=>rfl);(try conv => whnf))))
          all_goals (refine zt 4 rfl ?_)
          all_goals (conv => whnf)
          all_goals (refine Sy.el_map x g1 ?_)
          all_goals (conv => whnf)
          all_goals (refine zt 5 rfl ?_)
          all_goals (conv => whnf)
          all_goals (refine zt 6 rfl ?_)
          all_goals (conv => whnf)
          all_goals (refine zt 7 rfl ?_)
          all_goals (conv => whnf)
          all_goals (refine zt 8 rfl ?_)
          all_goals ((conv => whnf);(repeat' ((first|refine zA ?_|(refine zI ?_ ?_<;> intro hh<;> first|(exfalso;omega)|skip)|(refine zl ?_ ?_<;> intro hh)|refine zq ?_|refine zv ?_|refine zu ?_|exact Sy.fin_val fun e=>rfl);(try conv => whnf))))
          all_goals (refine zt 9 rfl ?_)
          all_goals (conv => whnf)
          all_goals (refine Sy.el_map y g2 ?_)
          all_goals (conv => whnf)
          all_goals (refine zt 10 rfl ?_)
          all_goals ((conv => whnf);(repeat' ((first|refine zA ?_|(refine zI ?_ ?_<;> intro hh<;> first|(exfalso;omega)|skip)|(refine zl ?_ ?_<;> intro hh)|refine zq ?_|refine zv ?_|refine zu ?_|exact Sy.fin_val fun e=>rfl);(try conv => whnf))))
          all_goals (refine zw ?_)
          all_goals (((repeat' ((conv => whnf);(first|refine zA ?_|(refine zI ?_ ?_<;> intro hh<;> first|(exfalso;omega)|skip)|(refine zl ?_ ?_<;> intro hh)|refine zq ?_|refine zv ?_|refine zu ?_|exact Sy.fin_val fun e=>rfl)));(all_goals (try conv => whnf))))
          all_goals first
            | exact Sy.fin_val (fun e => congrArg Value.bool (decide_eq_false (fun hh => lst_ne n g1 g2 (by intro hh; subst hh; contradiction) hh.1)).symm)
            | (refine ⟨n + 1, ⟨by omega, pre_succ g1 g2 (by cases x; cases y; simp_all) hpre⟩, by omega, ?_⟩; ((repeat' (first|((conv => whnf);done)|((try conv => whnf);first|exact trivial|(refine And.intro ?_ ?_)|rfl|exact fun _ _ _ h=>h|exact fun _ _ _ _=>trivial)));(all_goals (try conv => whnf))))
        · have hwe : ws = ws' := lst_eq n (by omega) (by omega) hpre
          refine Sy.loop_inv Sy.tab_ok (fun n : Nat => [(6, .c (.v (.int .i64 n)))]) (fun _ => []) (fun n => n ≤ ps.length ∧ ∀ i, i < n → ps[i]? = ps'[i]?) (fun n => ps.length - n) 0 ⟨Nat.zero_le _, fun i hi => by omega⟩ ?_ (fun n hle => ?_)
          · ((repeat' (first|((conv => whnf);done)|((try conv => whnf);first|exact trivial|(refine And.intro ?_ ?_)|rfl|exact fun _ _ _ h=>h|exact fun _ _ _ _=>trivial)));(all_goals (try conv => whnf)))
          · obtain ⟨hle, hpre⟩ := hle
            ((repeat' ((conv => whnf);(first|refine zA ?_|(refine zI ?_ ?_<;> intro hh<;> first|(exfalso;omega)|skip)|(refine zl ?_ ?_<;> intro hh)|refine zq ?_|refine zv ?_|refine zu ?_|exact Sy.fin_val fun e=>rfl)));(all_goals (try conv => whnf)))
            · have hlt : n < ps.length := by omega
              have g1 := List.getElem?_eq_getElem hlt
              have g2 := List.getElem?_eq_getElem (show n < ps'.length by omega)
              generalize ps[n] = x at *
              generalize ps'[n]'(by omega) = y at *
              all_goals (refine Sy.draw_go [] (by kernel_rfl) ?_; intro e0; conv => whnf)
              all_goals (refine zt 0 rfl ?_)
              all_goals (conv => whnf)
              all_goals (refine zt 1 rfl ?_)
              all_goals (conv => whnf)
              all_goals (refine zt 2 rfl ?_)
              all_goals (conv => whnf)
              all_goals (refine zt 3 rfl ?_)
              all_goals ((conv => whnf);(repeat' ((first|refine zA ?_|(refine zI ?_ ?_<;> intro hh<;> first|(exfalso;omega)|skip)|(refine zl ?_ ?_<;> intro hh)|refine zq ?_|refine zv ?_|refine zu ?_|exact Sy.fin_val fun e=>rfl);(try conv => whnf))))
              all_goals (refine zt 4 rfl ?_)
              all_goals (conv => whnf)
              all_goals (refine Sy.el_map x g1 ?_)
              all_goals (conv => whnf)
              all_goals (refine zt 5 rfl ?_)
              all_goals (conv => whnf)
              all_goals (refine zt 6 rfl ?_)
              all_goals (conv => whnf)
              all_goals (refine zt 7 rfl ?_)
              all_goals (conv => whnf)
              all_goals (refine zt 8 rfl ?_)
              all_goals ((conv => whnf);(repeat' ((first|refine zA ?_|(refine zI ?_ ?_<;> intro hh<;> first|(exfalso;omega)|skip)|(refine zl ?_ ?_<;> intro hh)|refine zq ?_|refine zv ?_|refine zu ?_|exact Sy.fin_val fun e=>rfl);(try conv => whnf))))
              all_goals (refine zt 9 rfl ?_)
              all_goals (conv => whnf)
              all_goals (refine Sy.el_map y g2 ?_)
              all_goals (conv => whnf)
              all_goals (refine zt 10 rfl ?_)
              all_goals ((conv => whnf);(repeat' ((first|refine zA ?_|(refine zI ?_ ?_<;> intro hh<;> first|(exfalso;omega)|skip)|(refine zl ?_ ?_<;> intro hh)|refine zq ?_|refine zv ?_|refine zu ?_|exact Sy.fin_val fun e=>rfl);(try conv => whnf))))
              all_goals (refine zw ?_)
              all_goals (((repeat' ((conv => whnf);(first|refine zA ?_|(refine zI ?_ ?_<;> intro hh<;> first|(exfalso;omega)|skip)|(refine zl ?_ ?_<;> intro hh)|refine zq ?_|refine zv ?_|refine zu ?_|exact Sy.fin_val fun e=>rfl)));(all_goals (try conv => whnf))))
              all_goals first
                | exact Sy.fin_val (fun e => congrArg Value.bool (decide_eq_false (fun hh => lst_ne n g1 g2 (by intro hh; subst hh; contradiction) hh.2)).symm)
                | (refine ⟨n + 1, ⟨by omega, pre_succ g1 g2 (by cases x; cases y; simp_all) hpre⟩, by omega, ?_⟩; ((repeat' (first|((conv => whnf);done)|((try conv => whnf);first|exact trivial|(refine And.intro ?_ ?_)|rfl|exact fun _ _ _ h=>h|exact fun _ _ _ _=>trivial)));(all_goals (try conv => whnf))))
            · exact Sy.fin_val (fun e => congrArg Value.bool (decide_eq_true ⟨hwe, lst_eq _ (by omega) (by omega) hpre⟩).symm)
    · rw [decide_eq_false (fun h : ws = ws' ∧ ps = ps' => h2 (by rw [h.2]))]
      ((repeat' ((conv => whnf);(first|refine zA ?_|(refine zI ?_ ?_<;> intro hh<;> first|(exfalso;omega)|skip)|(refine zl ?_ ?_<;> intro hh)|refine zq ?_|refine zv ?_|refine zu ?_|exact Sy.fin_val fun e=>rfl)));(all_goals (try conv => whnf)))
      all_goals done
  · rw [decide_eq_false (fun h : ws = ws' ∧ ps = ps' => h1 (by rw [h.1]))]
    ((repeat' ((conv => whnf);(first|refine zA ?_|(refine zI ?_ ?_<;> intro hh<;> first|(exfalso;omega)|skip)|(refine zl ?_ ?_<;> intro hh)|refine zq ?_|refine zv ?_|refine zu ?_|exact Sy.fin_val fun e=>rfl)));(all_goals (try conv => whnf)))
    all_goals done
end Go.Proofs.Ytjhjmeajdebcbaa
