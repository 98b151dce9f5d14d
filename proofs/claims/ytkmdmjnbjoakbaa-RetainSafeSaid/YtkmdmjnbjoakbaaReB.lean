/- Retain: the document's Right; the same shelves; copies. -/
import Derived.Test.YtkmdmjnbjoakbaaReA
namespace Go.Proofs.Ytkmdmjnbjoakbaa
open Go Go.RowKit
open Sy (C SV V1 Blk St XD Els)
set_option maxRecDepth 10000

theorem okL_ne {ks : List Kp} {n : Nat} (hlt : n < ks.length) {l : Kp} (hok : okL l (ks.drop n) = okL k0 ks) (hn : ¬ (l.number < ks[n].number ∧ ks[n].number ≤ 4611686018427387904 ∧ (l.opn = true → ks[n].opn = true))) : okL k0 ks = false := by
  rw [← hok, okL_drop ks n hlt, (kok_false _ _).2 hn]; rfl
set_option maxHeartbeats 2000000 in
theorem right_any (keep : Int) (v : Value) (ks : List Kp) (w : World) (hr : XD.ok (fun b => b < w.heap.size) w ⟨v, 3, ks.length, ks.map encK⟩) :
    Calls Try.prog 23 #[.agg #[.int .i64 keep, v]] w (Sy.Ret (.bool (okS keep ks)) w) := by
  have hl := ok_len hr
  refine Sy.calls_of Sy.lv23 Sy.tab_ok Try.func23 rfl _ Try.ntmps23 [⟨v, 3, ks.length, ks.map encK⟩] [.agg [.v (.int .i64 keep), .row 0]] rfl rfl rfl ⟨hr, trivial⟩ ?_
  by_cases h0 : ok0 keep ks.length = true
  · have h0' := h0
    simp only [ok0, Bool.and_eq_true, decide_eq_true_eq, and_assoc] at h0'
    obtain ⟨g1, g2, g3⟩ := h0'
    ((repeat' ((conv => whnf);(first|refine zA ?_|(refine zI ?_ ?_<;> intro hh<;> first|(exfalso;omega)|skip)|(refine zl ?_ ?_<;> intro hh)|refine zq ?_|refine zv ?_|refine zu ?_|exact Sy.fin_val fun e=>rfl)));(all_goals (try conv => whnf)))
    refine Sy.loop_inv Sy.tab_ok (fun n : Nat => [(3, .c (.v (.int .i64 n)))]) (fun _ => []) (fun n => n ≤ ks.length ∧ okL (lastK ks n) (ks.drop n) = okL k0 ks ∧ 0 ≤ (lastK ks n).number) (fun n => ks.length - n) 0 ⟨Nat.zero_le _, rfl, Int.le_refl _⟩ ?_ (fun n hle => ?_)
    · ((repeat' (first|((conv => whnf);done)|((try conv => whnf);first|exact trivial|(refine And.intro ?_ ?_)|rfl|exact fun _ _ _ h=>h|exact fun _ _ _ _=>trivial)));(all_goals (try conv => whnf)))
    · obtain ⟨hle, hok, hpos⟩ := hle
      ((repeat' ((conv => whnf);(first|refine zA ?_|(refine zI ?_ ?_<;> intro hh<;> first|(exfalso;omega)|skip)|(refine zl ?_ ?_<;> intro hh)|refine zq ?_|refine zv ?_|refine zu ?_|exact Sy.fin_val fun e=>rfl)));(all_goals (try conv => whnf)))
      · have hlt : n < ks.length := by omega
        refine Sy.el_map ks[n] (List.getElem?_eq_getElem hlt) ?_
        have e1 := okL_drop ks n hlt (lastK ks n)
        have e2 := lastK_succ ks n hlt
        have hne : ¬ ((lastK ks n).number < ks[n].number ∧ ks[n].number ≤ 4611686018427387904 ∧ ((lastK ks n).opn = true → ks[n].opn = true)) → okL k0 ks = false := okL_ne hlt hok
        obtain ⟨q, hq, hln⟩ : ∃ q, ks[n - 1]? = some q ∧ (0 < n → lastK ks n = q) := ⟨ks[n - 1], List.getElem?_eq_getElem (by omega), fun h => by
          obtain ⟨m, rfl⟩ : ∃ m, n = m + 1 := ⟨n - 1, by omega⟩
          rw [lastK_succ _ _ (by omega)]; rfl⟩
        have hq' : ks[((n : Int) - 1).toNat]? = some q := by rw [show ((n : Int) - 1).toNat = n - 1 by omega]; exact hq
        have hl0 : n = 0 → lastK ks n = k0 := fun h => by subst h; rfl
        generalize ks[n] = p at *
        ((repeat' ((conv => whnf);(first|refine zA ?_|(refine zI ?_ ?_<;> intro hh<;> first|(exfalso;omega)|skip)|(refine zl ?_ ?_<;> intro hh)|refine zq ?_|refine zv ?_|refine zu ?_|exact Sy.fin_val fun e=>rfl)));(all_goals (try conv => whnf)))
        all_goals (try (exact Sy.fin_val (fun e => congrArg Value.bool (show false = okS keep ks from by
          rw [okS, hne (by intro ⟨x1, x2, x3⟩; omega), Bool.and_false]))))
        all_goals (refine Sy.draw_go [] (by kernel_rfl) ?_; intro e0; conv => whnf)
        all_goals (refine zt 0 rfl ?_)
        all_goals (conv => whnf)
        all_goals (refine zt 1 rfl ?_)
        all_goals ((conv => whnf);(repeat' ((first|refine zA ?_|(refine zI ?_ ?_<;> intro hh<;> first|(exfalso;omega)|skip)|(refine zl ?_ ?_<;> intro hh)|refine zq ?_|refine zv ?_|refine zu ?_|exact Sy.fin_val fun e=>rfl);(try conv => whnf))))
        all_goals (refine zt 2 rfl ?_)
        all_goals (conv => whnf)
        all_goals (refine zt 3 rfl ?_)
        all_goals ((conv => whnf);(repeat' ((first|refine zA ?_|(refine zI ?_ ?_<;> intro hh<;> first|(exfalso;omega)|skip)|(refine zl ?_ ?_<;> intro hh)|refine zq ?_|refine zv ?_|refine zu ?_|exact Sy.fin_val fun e=>rfl);(try conv => whnf))))
        all_goals (refine zt 4 rfl ?_)
        all_goals ((conv => whnf);(repeat' ((first|refine zA ?_|(refine zI ?_ ?_<;> intro hh<;> first|(exfalso;omega)|skip)|(refine zl ?_ ?_<;> intro hh)|refine zq ?_|refine zv ?_|refine zu ?_|exact Sy.fin_val fun e=>rfl);(try conv => whnf))))
        all_goals (refine zt 5 rfl ?_)
        all_goals ((conv => whnf);(repeat' ((first|refine zA ?_|(refine zI ?_ ?_<;> intro hh<;> first|(exfalso;omega)|skip)|(refine zl ?_ ?_<;> intro hh)|refine zq ?_|refine zv ?_|refine zu ?_|exact Sy.fin_val fun e=>rfl);(try conv => whnf))))
        all_goals (refine zt 6 rfl ?_)
        all_goals ((conv => whnf);(repeat' ((first|refine zA ?_|(refine zI ?_ ?_<;> intro hh<;> first|(exfalso;omega)|skip)|(refine zl ?_ ?_<;> intro hh)|refine zq ?_|refine zv ?_|refine zu ?_|exact Sy.fin_val fun e=>rfl);(try conv => whnf))))
        all_goals (refine zt 7 rfl ?_)
        all_goals ((conv => whnf);(repeat' ((first|refine zA ?_|(refine zI ?_ ?_<;> intro hh<;> first|(exfalso;omega)|skip)|(refine zl ?_ ?_<;> intro hh)|refine zq ?_|refine zv ?_|refine zu ?_|exact Sy.fin_val fun e=>rfl);(try conv => whnf))))
        all_goals (refine zt 8 rfl ?_)
        all_goals ((conv => whnf);(repeat' ((first|refine zA ?_|(refine zI ?_ ?_<;> intro hh<;> first|(exfalso;omega)|skip)|(refine zl ?_ ?_<;> intro hh)|refine zq ?_|refine zv ?_|refine zu ?_|exact Sy.fin_val fun e=>rfl);(try conv => whnf))))
        all_goals (refine zt 9 rfl ?_)
        all_goals ((conv => whnf);(repeat' ((first|refine zA ?_|(refine zI ?_ ?_<;> intro hh<;> first|(exfalso;omega)|skip)|(refine zl ?_ ?_<;> intro hh)|refine zq ?_|refine zv ?_|refine zu ?_|exact Sy.fin_val fun e=>rfl);(try conv => whnf))))
        all_goals (try (refine Sy.el_map q hq' ?_))
        all_goals (conv => whnf)
        all_goals (refine zt 10 rfl ?_)
        all_goals ((conv => whnf);(repeat' ((first|refine zA ?_|(refine zI ?_ ?_<;> intro hh<;> first|(exfalso;omega)|skip)|(refine zl ?_ ?_<;> intro hh)|refine zq ?_|refine zv ?_|refine zu ?_|exact Sy.fin_val fun e=>rfl);(try conv => whnf))))
        all_goals (refine zt 11 rfl ?_)
        all_goals ((conv => whnf);(repeat' ((first|refine zA ?_|(refine zI ?_ ?_<;> intro hh<;> first|(exfalso;omega)|skip)|(refine zl ?_ ?_<;> intro hh)|refine zq ?_|refine zv ?_|refine zu ?_|exact Sy.fin_val fun e=>rfl);(try conv => whnf))))
        all_goals (refine zt 12 rfl ?_)
        all_goals ((conv => whnf);(repeat' ((first|refine zA ?_|(refine zI ?_ ?_<;> intro hh<;> first|(exfalso;omega)|skip)|(refine zl ?_ ?_<;> intro hh)|refine zq ?_|refine zv ?_|refine zu ?_|exact Sy.fin_val fun e=>rfl);(try conv => whnf))))
        all_goals (refine zt 13 rfl ?_)
        all_goals ((conv => whnf);(repeat' ((first|refine zA ?_|(refine zI ?_ ?_<;> intro hh<;> first|(exfalso;omega)|skip)|(refine zl ?_ ?_<;> intro hh)|refine zq ?_|refine zv ?_|refine zu ?_|exact Sy.fin_val fun e=>rfl);(try conv => whnf))))
        all_goals (refine zt 14 rfl ?_)
        all_goals ((conv => whnf);(repeat' ((first|refine zA ?_|(refine zI ?_ ?_<;> intro hh<;> first|(exfalso;omega)|skip)|(refine zl ?_ ?_<;> intro hh)|refine zq ?_|refine zv ?_|refine zu ?_|exact Sy.fin_val fun e=>rfl);(try conv => whnf))))
        all_goals (refine zt 15 rfl ?_)
        all_goals ((conv => whnf);(repeat' ((first|refine zA ?_|(refine zI ?_ ?_<;> intro hh<;> first|(exfalso;omega)|skip)|(refine zl ?_ ?_<;> intro hh)|refine zq ?_|refine zv ?_|refine zu ?_|exact Sy.fin_val fun e=>rfl);(try conv => whnf))))
        all_goals (refine zt 16 rfl ?_)
        all_goals ((conv => whnf);(repeat' ((first|refine zA ?_|(refine zI ?_ ?_<;> intro hh<;> first|(exfalso;omega)|skip)|(refine zl ?_ ?_<;> intro hh)|refine zq ?_|refine zv ?_|refine zu ?_|exact Sy.fin_val fun e=>rfl);(try conv => whnf))))
        all_goals (refine zt 17 rfl ?_)
        all_goals ((conv => whnf);(repeat' ((first|refine zA ?_|(refine zI ?_ ?_<;> intro hh<;> first|(exfalso;omega)|skip)|(refine zl ?_ ?_<;> intro hh)|refine zq ?_|refine zv ?_|refine zu ?_|exact Sy.fin_val fun e=>rfl);(try conv => whnf))))
        all_goals (refine zt 18 rfl ?_)
        all_goals ((conv => whnf);(repeat' ((first|refine zA ?_|(refine zI ?_ ?_<;> intro hh<;> first|(exfalso;omega)|skip)|(refine zl ?_ ?_<;> intro hh)|refine zq ?_|refine zv ?_|refine zu ?_|exact Sy.fin_val fun e=>rfl);(try conv => whnf))))
        all_goals (refine zt 19 rfl ?_)
        all_goals ((conv => whnf);(repeat' ((first|refine zA ?_|(refine zI ?_ ?_<;> intro hh<;> first|(exfalso;omega)|skip)|(refine zl ?_ ?_<;> intro hh)|refine zq ?_|refine zv ?_|refine zu ?_|exact Sy.fin_val fun e=>rfl);(try conv => whnf))))
        all_goals (refine zt 20 rfl ?_)
        all_goals ((conv => whnf);(repeat' ((first|refine zA ?_|(refine zI ?_ ?_<;> intro hh<;> first|(exfalso;omega)|skip)|(refine zl ?_ ?_<;> intro hh)|refine zq ?_|refine zv ?_|refine zu ?_|exact Sy.fin_val fun e=>rfl);(try conv => whnf))))
        all_goals (try (refine Sy.el_map q hq' ?_))
        all_goals (conv => whnf)
        all_goals (refine zt 21 rfl ?_)
        all_goals ((conv => whnf);(repeat' ((first|refine zA ?_|(refine zI ?_ ?_<;> intro hh<;> first|(exfalso;omega)|skip)|(refine zl ?_ ?_<;> intro hh)|refine zq ?_|refine zv ?_|refine zu ?_|exact Sy.fin_val fun e=>rfl);(try conv => whnf))))
        all_goals (refine zt 22 rfl ?_)
        all_goals ((conv => whnf);(repeat' ((first|refine zA ?_|(refine zI ?_ ?_<;> intro hh<;> first|(exfalso;omega)|skip)|(refine zl ?_ ?_<;> intro hh)|refine zq ?_|refine zv ?_|refine zu ?_|exact Sy.fin_val fun e=>rfl);(try conv => whnf))))
        all_goals (refine zt 23 rfl ?_)
        all_goals ((conv => whnf);(repeat' ((first|refine zA ?_|(refine zI ?_ ?_<;> intro hh<;> first|(exfalso;omega)|skip)|(refine zl ?_ ?_<;> intro hh)|refine zq ?_|refine zv ?_|refine zu ?_|exact Sy.fin_val fun e=>rfl);(try conv => whnf))))
        all_goals (refine zt 24 rfl ?_)
        all_goals ((conv => whnf);(repeat' ((first|refine zA ?_|(refine zI ?_ ?_<;> intro hh<;> first|(exfalso;omega)|skip)|(refine zl ?_ ?_<;> intro hh)|refine zq ?_|refine zv ?_|refine zu ?_|exact Sy.fin_val fun e=>rfl);(try conv => whnf))))
        all_goals (refine zt 25 rfl ?_)
        all_goals ((conv => whnf);(repeat' ((first|refine zA ?_|(refine zI ?_ ?_<;> intro hh<;> first|(exfalso;omega)|skip)|(refine zl ?_ ?_<;> intro hh)|refine zq ?_|refine zv ?_|refine zu ?_|exact Sy.fin_val fun e=>rfl);(try conv => whnf))))
        all_goals (refine zt 26 rfl ?_)
        all_goals ((conv => whnf);(repeat' ((first|refine zA ?_|(refine zI ?_ ?_<;> intro hh<;> first|(exfalso;omega)|skip)|(refine zl ?_ ?_<;> intro hh)|refine zq ?_|refine zv ?_|refine zu ?_|exact Sy.fin_val fun e=>rfl);(try conv => whnf))))
        all_goals (refine zt 27 rfl ?_)
        all_goals ((conv => whnf);(repeat' ((first|refine zA ?_|(refine zI ?_ ?_<;> intro hh<;> first|(exfalso;omega)|skip)|(refine zl ?_ ?_<;> intro hh)|refine zq ?_|refine zv ?_|refine zu ?_|exact Sy.fin_val fun e=>rfl);(try conv => whnf))))
        all_goals (refine zw ?_)
        all_goals (((repeat' ((conv => whnf);(first|refine zA ?_|(refine zI ?_ ?_<;> intro hh<;> first|(exfalso;omega)|skip)|(refine zl ?_ ?_<;> intro hh)|refine zq ?_|refine zv ?_|refine zu ?_|exact Sy.fin_val fun e=>rfl)));(all_goals (try conv => whnf))))
        all_goals first
          | (exact Sy.fin_val (fun e => congrArg Value.bool (show false = okS keep ks from by
              rw [okS, hne (by rw [hln (by omega)]; intro ⟨x1, x2, x3⟩; first | omega | simp_all), Bool.and_false])))
          | skip
        all_goals (
            refine ⟨n + 1, ⟨by omega, ?_, ?_⟩, by omega, ?_⟩
            · rw [e2, ← hok, e1]
              have hk : kok (lastK ks n) p = true := by
                by_cases hz : n = 0
                · rw [hl0 hz]; exact (kok_true _ _).2 ⟨by show 0 < _; omega, by omega, fun h => by cases h⟩
                · rw [hln (by omega)]; exact (kok_true _ _).2 ⟨by omega, by omega, fun h => by first | assumption | exact absurd (h.symm.trans (show q.opn = false by assumption)) (by decide) | (exfalso; omega)⟩
              rw [hk, Bool.true_and]
            · rw [e2]; omega
            · ((repeat' (first|((conv => whnf);done)|((try conv => whnf);first|exact trivial|(refine And.intro ?_ ?_)|rfl|exact fun _ _ _ h=>h|exact fun _ _ _ _=>trivial)));(all_goals (try conv => whnf))))
      · have e : n = ks.length := by omega
        subst e
        exact Sy.fin_val (fun e => congrArg Value.bool (show true = okS keep ks from by
          rw [okS, h0, ← hok, List.drop_length]; simp [okL]))
  · have h1 : false = okS keep ks := by simp [okS, h0]
    ((repeat' ((conv => whnf);(first|refine zA ?_|(refine zI ?_ ?_<;> intro hh<;> first|(exfalso;omega)|skip)|(refine zl ?_ ?_<;> intro hh)|refine zq ?_|refine zv ?_|refine zu ?_|exact Sy.fin_val fun e=>rfl)));(all_goals (try conv => whnf)))
    all_goals first
      | exact Sy.fin_val (fun e => congrArg Value.bool h1)
      | (exfalso; apply h0; simp only [ok0, Bool.and_eq_true, decide_eq_true_eq]; omega)
theorem equalK_any (u v : Value) (xs ys : List Kp) (w : World) (hx : XD.ok (fun b => b < w.heap.size) w ⟨u, 3, xs.length, xs.map encK⟩) (hy : XD.ok (fun b => b < w.heap.size) w ⟨v, 3, ys.length, ys.map encK⟩) :
    Calls Try.prog 38 #[u, v] w (Sy.Ret (.bool (decide (xs = ys))) w) := by
  have hl := ok_len hx
  have hl' := ok_len hy
  refine Sy.calls_of Sy.lv38 Sy.tab_ok Try.func38 rfl _ Try.ntmps38 [⟨u, 3, xs.length, xs.map encK⟩, ⟨v, 3, ys.length, ys.map encK⟩] [.c (.row 0), .c (.row 1)] rfl rfl rfl ⟨hx, hy, trivial⟩ ?_
  ((repeat' ((conv => whnf);(first|refine zA ?_|(refine zI ?_ ?_<;> intro hh<;> first|(exfalso;omega)|skip)|(refine zl ?_ ?_<;> intro hh)|refine zq ?_|refine zv ?_|refine zu ?_|exact Sy.fin_val fun e=>rfl)));(all_goals (try conv => whnf)))
  · refine Sy.loop_inv Sy.tab_ok (fun n : Nat => [(13, .c (.v (.int .i64 n)))]) (fun _ => []) (fun n => n ≤ xs.length ∧ ∀ i, i < n → xs[i]? = ys[i]?) (fun n => xs.length - n) 0 ⟨Nat.zero_le _, fun i hi => by omega⟩ ?_ (fun n hle => ?_)
    · ((repeat' (first|((conv => whnf);done)|((try conv => whnf);first|exact trivial|(refine And.intro ?_ ?_)|rfl|exact fun _ _ _ h=>h|exact fun _ _ _ _=>trivial)));(all_goals (try conv => whnf)))
    · obtain ⟨hle, hpre⟩ := hle
      ((repeat' ((conv => whnf);(first|refine zA ?_|(refine zI ?_ ?_<;> intro hh<;> first|(exfalso;omega)|skip)|(refine zl ?_ ?_<;> intro hh)|refine zq ?_|refine zv ?_|refine zu ?_|exact Sy.fin_val fun e=>rfl)));(all_goals (try conv => whnf)))
      · have hlt : n < xs.length := by omega
        have h1 := List.getElem?_eq_getElem hlt
        have h2 := List.getElem?_eq_getElem (show n < ys.length by omega)
        generalize xs[n] = x at *
        generalize ys[n]'(by omega) = y at *
        all_goals (refine Sy.draw_go [] (by kernel_rfl) ?_; intro e0; conv => whnf)
        all_goals (refine zt 0 rfl ?_)
        all_goals (conv => whnf)
        all_goals (refine zt 1 rfl ?_)
        all_goals (conv => whnf)
        all_goals (refine zt 2 rfl ?_)
        all_goals ((conv => whnf);(repeat' ((first|refine zA ?_|(refine zI ?_ ?_<;> intro hh<;> first|(exfalso;omega)|skip)|(refine zl ?_ ?_<;> intro hh)|refine zq ?_|refine zv ?_|refine zu ?_|exact Sy.fin_val fun e=>rfl);(try conv => whnf))))
        all_goals (refine zt 3 rfl ?_)
        all_goals (conv => whnf)
        all_goals (refine Sy.el_map x h1 ?_)
        all_goals (conv => whnf)
        all_goals (refine zt 4 rfl ?_)
        all_goals (conv => whnf)
        all_goals (refine zt 5 rfl ?_)
        all_goals (conv => whnf)
        all_goals (refine zt 6 rfl ?_)
        all_goals ((conv => whnf);(repeat' ((first|refine zA ?_|(refine zI ?_ ?_<;> intro hh<;> first|(exfalso;omega)|skip)|(refine zl ?_ ?_<;> intro hh)|refine zq ?_|refine zv ?_|refine zu ?_|exact Sy.fin_val fun e=>rfl);(try conv => whnf))))
        all_goals (refine zt 7 rfl ?_)
        all_goals (conv => whnf)
        all_goals (refine Sy.el_map y h2 ?_)
        all_goals (conv => whnf)
        all_goals (refine zt 8 rfl ?_)
        all_goals ((conv => whnf);(repeat' ((first|refine zA ?_|(refine zI ?_ ?_<;> intro hh<;> first|(exfalso;omega)|skip)|(refine zl ?_ ?_<;> intro hh)|refine zq ?_|refine zv ?_|refine zu ?_|exact Sy.fin_val fun e=>rfl);(try conv => whnf))))
        all_goals (refine zw ?_)
        all_goals (((repeat' ((conv => whnf);(first|refine zA ?_|(refine zI ?_ ?_<;> intro hh<;> first|(exfalso;omega)|skip)|(refine zl ?_ ?_<;> intro hh)|refine zq ?_|refine zv ?_|refine zu ?_|exact Sy.fin_val fun e=>rfl)));(all_goals (try conv => whnf))))
        all_goals first
          | exact Sy.fin_val (fun e => congrArg Value.bool (decide_eq_false (lst_ne n h1 h2 (by intro hh; subst hh; contradiction))).symm)
          | (refine ⟨n + 1, ⟨by omega, pre_succ h1 h2 (by cases x; cases y; simp_all) hpre⟩, by omega, ?_⟩; ((repeat' (first|((conv => whnf);done)|((try conv => whnf);first|exact trivial|(refine And.intro ?_ ?_)|rfl|exact fun _ _ _ h=>h|exact fun _ _ _ _=>trivial)));(all_goals (try conv => whnf))))
      · exact Sy.fin_val (fun e => congrArg Value.bool (decide_eq_true (lst_eq n (by omega) (by omega) hpre)).symm)
  · exact Sy.fin_val (fun e => congrArg Value.bool (decide_eq_false (by intro hh; subst hh; contradiction)).symm)

def sameB (k1 : Int) (xs : List Kp) (k2 : Int) (ys : List Kp) : Bool := decide (k1 = k2 ∧ xs = ys)
theorem same_any (k1 k2 : Int) (u v : Value) (xs ys : List Kp) (w : World) (hx : XD.ok (fun b => b < w.heap.size) w ⟨u, 3, xs.length, xs.map encK⟩) (hy : XD.ok (fun b => b < w.heap.size) w ⟨v, 3, ys.length, ys.map encK⟩) :
    Calls Try.prog 25 #[.agg #[.int .i64 k1, u], .agg #[.int .i64 k2, v]] w (Sy.Ret (.bool (sameB k1 xs k2 ys)) w) := by
  refine Sy.calls_of Sy.lv25 Sy.tab_ok Try.func25 rfl _ Try.ntmps25 [⟨u, 3, xs.length, xs.map encK⟩, ⟨v, 3, ys.length, ys.map encK⟩] [.agg [.v (.int .i64 k1), .row 0], .agg [.v (.int .i64 k2), .row 1]] rfl rfl rfl ⟨hx, hy, trivial⟩ ?_
  ((repeat' ((conv => whnf);(first|refine zA ?_|(refine zI ?_ ?_<;> intro hh<;> first|(exfalso;omega)|skip)|(refine zl ?_ ?_<;> intro hh)|refine zq ?_|refine zv ?_|refine zu ?_|exact Sy.fin_val fun e=>rfl)));(all_goals (try conv => whnf)))
  · refine Sy.call_val (.c (.v (.bool (decide (xs = ys))))) Try.call38 rfl (fun e a w' h => equalK_any _ _ xs ys w' (Sy.row_reads h (.inr rfl)) (Sy.row_reads h (.inr rfl))) ?_
    ((repeat' ((conv => whnf);(first|refine zA ?_|(refine zI ?_ ?_<;> intro hh<;> first|(exfalso;omega)|skip)|(refine zl ?_ ?_<;> intro hh)|refine zq ?_|refine zv ?_|refine zu ?_|exact Sy.fin_val fun e=>rfl)));(all_goals (try conv => whnf)))
    all_goals exact Sy.fin_val (fun e => congrArg Value.bool (by simp_all [sameB]))
  all_goals exact Sy.fin_val (fun e => congrArg Value.bool (by simp_all [sameB]))
theorem rsame_any (k1 k2 : Int) (u v : Value) (xs ys : List Kp) (w : World) (hx : XD.ok (fun b => b < w.heap.size) w ⟨u, 3, xs.length, xs.map encK⟩) (hy : XD.ok (fun b => b < w.heap.size) w ⟨v, 3, ys.length, ys.map encK⟩) :
    Calls Try.prog 13 #[.agg #[.int .i64 k1, u], .agg #[.int .i64 k2, v]] w (Sy.Ret (.bool (sameB k1 xs k2 ys)) w) := by
  have hl := ok_len hx
  have hl' := ok_len hy
  refine Sy.calls_of Sy.lv13 Sy.tab_ok Try.func13 rfl _ Try.ntmps13 [⟨u, 3, xs.length, xs.map encK⟩, ⟨v, 3, ys.length, ys.map encK⟩] [.agg [.v (.int .i64 k1), .row 0], .agg [.v (.int .i64 k2), .row 1]] rfl rfl rfl ⟨hx, hy, trivial⟩ ?_
  ((repeat' ((conv => whnf);(first|refine zA ?_|(refine zI ?_ ?_<;> intro hh<;> first|(exfalso;omega)|skip)|(refine zl ?_ ?_<;> intro hh)|refine zq ?_|refine zv ?_|refine zu ?_|exact Sy.fin_val fun e=>rfl)));(all_goals (try conv => whnf)))
  · refine Sy.loop_inv Sy.tab_ok (fun n : Nat => [(5, .c (.v (.int .i64 n)))]) (fun _ => []) (fun n => n ≤ xs.length ∧ ∀ i, i < n → xs[i]? = ys[i]?) (fun n => xs.length - n) 0 ⟨Nat.zero_le _, fun i hi => by omega⟩ ?_ (fun n hle => ?_)
    · ((repeat' (first|((conv => whnf);done)|((try conv => whnf);first|exact trivial|(refine And.intro ?_ ?_)|rfl|exact fun _ _ _ h=>h|exact fun _ _ _ _=>trivial)));(all_goals (try conv => whnf)))
    · obtain ⟨hle, hpre⟩ := hle
      ((repeat' ((conv => whnf);(first|refine zA ?_|(refine zI ?_ ?_<;> intro hh<;> first|(exfalso;omega)|skip)|(refine zl ?_ ?_<;> intro hh)|refine zq ?_|refine zv ?_|refine zu ?_|exact Sy.fin_val fun e=>rfl)));(all_goals (try conv => whnf)))
      · have hlt : n < xs.length := by omega
        have h1 := List.getElem?_eq_getElem hlt
        have h2 := List.getElem?_eq_getElem (show n < ys.length by omega)
        generalize xs[n] = x at *
        generalize ys[n]'(by omega) = y at *
        all_goals (refine Sy.draw_go [] (by kernel_rfl) ?_; intro e0; conv => whnf)
        all_goals (refine zt 0 rfl ?_)
        all_goals (conv => whnf)
        all_goals (refine zt 1 rfl ?_)
        all_goals (conv => whnf)
        all_goals (refine zt 2 rfl ?_)
        all_goals (conv => whnf)
        all_goals (refine zt 3 rfl ?_)
        all_goals ((conv => whnf);(repeat' ((first|refine zA ?_|(refine zI ?_ ?_<;> intro hh<;> first|(exfalso;omega)|skip)|(refine zl ?_ ?_<;> intro hh)|refine zq ?_|refine zv ?_|refine zu ?_|exact Sy.fin_val fun e=>rfl);(try conv => whnf))))
        all_goals (refine zt 4 rfl ?_)
        all_goals (conv => whnf)
        all_goals (refine Sy.el_map x h1 ?_)
        all_goals (conv => whnf)
        all_goals (refine zt 5 rfl ?_)
        all_goals (conv => whnf)
        all_goals (refine zt 6 rfl ?_)
        all_goals (conv => whnf)
        all_goals (refine zt 7 rfl ?_)
        all_goals (conv => whnf)
        all_goals (refine zt 8 rfl ?_)
        all_goals ((conv => whnf);(repeat' ((first|refine zA ?_|(refine zI ?_ ?_<;> intro hh<;> first|(exfalso;omega)|skip)|(refine zl ?_ ?_<;> intro hh)|refine zq ?_|refine zv ?_|refine zu ?_|exact Sy.fin_val fun e=>rfl);(try conv => whnf))))
        all_goals (refine zt 9 rfl ?_)
        all_goals (conv => whnf)
        all_goals (refine Sy.el_map y h2 ?_)
        all_goals (conv => whnf)
        all_goals (refine zt 10 rfl ?_)
        all_goals ((conv => whnf);(repeat' ((first|refine zA ?_|(refine zI ?_ ?_<;> intro hh<;> first|(exfalso;omega)|skip)|(refine zl ?_ ?_<;> intro hh)|refine zq ?_|refine zv ?_|refine zu ?_|exact Sy.fin_val fun e=>rfl);(try conv => whnf))))
        all_goals (refine zw ?_)
        all_goals (((repeat' ((conv => whnf);(first|refine zA ?_|(refine zI ?_ ?_<;> intro hh<;> first|(exfalso;omega)|skip)|(refine zl ?_ ?_<;> intro hh)|refine zq ?_|refine zv ?_|refine zu ?_|exact Sy.fin_val fun e=>rfl)));(all_goals (try conv => whnf))))
        all_goals first
          | exact Sy.fin_val (fun e => congrArg Value.bool (decide_eq_false (fun hc => lst_ne n h1 h2 (by intro hh; subst hh; contradiction) hc.2)).symm)
          | (refine ⟨n + 1, ⟨by omega, pre_succ h1 h2 (by cases x; cases y; simp_all) hpre⟩, by omega, ?_⟩; ((repeat' (first|((conv => whnf);done)|((try conv => whnf);first|exact trivial|(refine And.intro ?_ ?_)|rfl|exact fun _ _ _ h=>h|exact fun _ _ _ _=>trivial)));(all_goals (try conv => whnf))))
      · exact Sy.fin_val (fun e => congrArg Value.bool (decide_eq_true ⟨by assumption, lst_eq n (by omega) (by omega) hpre⟩).symm)
  all_goals exact Sy.fin_val (fun e => congrArg Value.bool (decide_eq_false (by rintro ⟨h1, h3⟩; subst h3; contradiction)).symm)
theorem sameU_any (u v : Value) (xs ys : List Int) (w : World) (hx : XD.ok (fun b => b < w.heap.size) w ⟨u, 1, xs.length, xs.map encU⟩) (hy : XD.ok (fun b => b < w.heap.size) w ⟨v, 1, ys.length, ys.map encU⟩) :
    Calls Try.prog 14 #[u, v] w (Sy.Ret (.bool (decide (xs = ys))) w) := by
  have hl := ok_len hx
  have hl' := ok_len hy
  refine Sy.calls_of Sy.lv14 Sy.tab_ok Try.func14 rfl _ Try.ntmps14 [⟨u, 1, xs.length, xs.map encU⟩, ⟨v, 1, ys.length, ys.map encU⟩] [.c (.row 0), .c (.row 1)] rfl rfl rfl ⟨hx, hy, trivial⟩ ?_
  ((repeat' ((conv => whnf);(first|refine zA ?_|(refine zI ?_ ?_<;> intro hh<;> first|(exfalso;omega)|skip)|(refine zl ?_ ?_<;> intro hh)|refine zq ?_|refine zv ?_|refine zu ?_|exact Sy.fin_val fun e=>rfl)));(all_goals (try conv => whnf)))
  · refine Sy.loop_inv Sy.tab_ok (fun n : Nat => [(13, .c (.v (.int .i64 n)))]) (fun _ => []) (fun n => n ≤ xs.length ∧ ∀ i, i < n → xs[i]? = ys[i]?) (fun n => xs.length - n) 0 ⟨Nat.zero_le _, fun i hi => by omega⟩ ?_ (fun n hle => ?_)
    · ((repeat' (first|((conv => whnf);done)|((try conv => whnf);first|exact trivial|(refine And.intro ?_ ?_)|rfl|exact fun _ _ _ h=>h|exact fun _ _ _ _=>trivial)));(all_goals (try conv => whnf)))
    · obtain ⟨hle, hpre⟩ := hle
      ((repeat' ((conv => whnf);(first|refine zA ?_|(refine zI ?_ ?_<;> intro hh<;> first|(exfalso;omega)|skip)|(refine zl ?_ ?_<;> intro hh)|refine zq ?_|refine zv ?_|refine zu ?_|exact Sy.fin_val fun e=>rfl)));(all_goals (try conv => whnf)))
      · have hlt : n < xs.length := by omega
        have h1 := List.getElem?_eq_getElem hlt
        have h2 := List.getElem?_eq_getElem (show n < ys.length by omega)
        generalize xs[n] = x at *
        generalize ys[n]'(by omega) = y at *
        all_goals (refine Sy.draw_go [] (by kernel_rfl) ?_; intro e0; conv => whnf)
        all_goals (refine zt 0 rfl ?_)
        all_goals (conv => whnf)
        all_goals (refine zt 1 rfl ?_)
        all_goals (conv => whnf)
        all_goals (refine zt 2 rfl ?_)
        all_goals ((conv => whnf);(repeat' ((first|refine zA ?_|(refine zI ?_ ?_<;> intro hh<;> first|(exfalso;omega)|skip)|(refine zl ?_ ?_<;> intro hh)|refine zq ?_|refine zv ?_|refine zu ?_|exact Sy.fin_val fun e=>rfl);(try conv => whnf))))
        all_goals (refine zt 3 rfl ?_)
        all_goals (conv => whnf)
        all_goals (refine Sy.el_map x h1 ?_)
        all_goals (conv => whnf)
        all_goals (refine zt 4 rfl ?_)
        all_goals (conv => whnf)
        all_goals (refine zt 5 rfl ?_)
        all_goals (conv => whnf)
        all_goals (refine zt 6 rfl ?_)
        all_goals ((conv => whnf);(repeat' ((first|refine zA ?_|(refine zI ?_ ?_<;> intro hh<;> first|(exfalso;omega)|skip)|(refine zl ?_ ?_<;> intro hh)|refine zq ?_|refine zv ?_|refine zu ?_|exact Sy.fin_val fun e=>rfl);(try conv => whnf))))
        all_goals (refine zt 7 rfl ?_)
        all_goals (conv => whnf)
        all_goals (refine Sy.el_map y h2 ?_)
        all_goals (conv => whnf)
        all_goals (refine zt 8 rfl ?_)
        all_goals ((conv => whnf);(repeat' ((first|refine zA ?_|(refine zI ?_ ?_<;> intro hh<;> first|(exfalso;omega)|skip)|(refine zl ?_ ?_<;> intro hh)|refine zq ?_|refine zv ?_|refine zu ?_|exact Sy.fin_val fun e=>rfl);(try conv => whnf))))
        all_goals (refine zw ?_)
        all_goals (((repeat' ((conv => whnf);(first|refine zA ?_|(refine zI ?_ ?_<;> intro hh<;> first|(exfalso;omega)|skip)|(refine zl ?_ ?_<;> intro hh)|refine zq ?_|refine zv ?_|refine zu ?_|exact Sy.fin_val fun e=>rfl)));(all_goals (try conv => whnf))))
        all_goals first
          | exact Sy.fin_val (fun e => congrArg Value.bool (decide_eq_false (lst_ne n h1 h2 (by assumption))).symm)
          | (refine ⟨n + 1, ⟨by omega, pre_succ h1 h2 (by assumption) hpre⟩, by omega, ?_⟩; ((repeat' (first|((conv => whnf);done)|((try conv => whnf);first|exact trivial|(refine And.intro ?_ ?_)|rfl|exact fun _ _ _ h=>h|exact fun _ _ _ _=>trivial)));(all_goals (try conv => whnf))))
      · exact Sy.fin_val (fun e => congrArg Value.bool (decide_eq_true (lst_eq n (by omega) (by omega) hpre)).symm)
  · exact Sy.fin_val (fun e => congrArg Value.bool (decide_eq_false (by intro hh; subst hh; contradiction)).symm)
theorem copied_any (keep : Int) (v : Value) (ks : List Kp) (w : World) (hr : XD.ok (fun b => b < w.heap.size) w ⟨v, 3, ks.length, ks.map encK⟩) (hb : ks.length ≤ 100) :
    Calls Try.prog 10 #[.agg #[.int .i64 keep, v]] w (Sy.RetRows Sy.noRow (fun _ : Unit => True) (fun _ => [⟨39, 3, ks.length, ks.map encK⟩]) (fun _ vs => .agg #[.int .i64 keep, vs.headD undef]) w) := by
  refine Sy.calls_of Sy.lv10 Sy.tab_ok Try.func10 rfl _ Try.ntmps10 [⟨v, 3, ks.length, ks.map encK⟩] [.agg [.v (.int .i64 keep), .row 0]] rfl rfl rfl ⟨hr, trivial⟩ ?_
  ((repeat' ((conv => whnf);(first|refine zA ?_|(refine zI ?_ ?_<;> intro hh<;> first|(exfalso;omega)|skip)|(refine zl ?_ ?_<;> intro hh)|refine zq ?_|refine zv ?_|refine zu ?_|exact Sy.fin_val fun e=>rfl)));(all_goals (try conv => whnf)))
  refine Sy.need_of (by show (0 + ks.length) * 16 ≤ _ ∧ _; omega) ?_
  ((repeat' ((conv => whnf);(first|refine zA ?_|(refine zI ?_ ?_<;> intro hh<;> first|(exfalso;omega)|skip)|(refine zl ?_ ?_<;> intro hh)|refine zq ?_|refine zv ?_|refine zu ?_|exact Sy.fin_val fun e=>rfl)));(all_goals (try conv => whnf)))
  refine Sy.fin_rows () trivial [.row 4] ⟨?_, (by intro j hj; cases hj), trivial⟩ (fun e => rfl)
  show some (Blk.row 39 3 (0 + ks.length) (.vs (ks.map encK))) = _
  rw [Nat.zero_add]

theorem new_any (keep : Int) (w : World) :
    Calls Try.prog 21 #[.int .i64 keep] w (Sy.Ret (if 1 ≤ keep ∧ keep ≤ 4 then .tuple #[.agg #[.int .i64 keep, .slice none 0 0], .int .i64 0] else .tuple #[.agg #[.int .i64 0, .slice none 0 0], .int .i64 2]) w) := by
  refine Sy.calls_of Sy.lv21 Sy.tab_ok Try.func21 rfl _ Try.ntmps21 [] [.c (.v (.int .i64 keep))] rfl rfl rfl trivial ?_
  ((repeat' ((conv => whnf);(first|refine zA ?_|(refine zI ?_ ?_<;> intro hh<;> first|(exfalso;omega)|skip)|(refine zl ?_ ?_<;> intro hh)|refine zq ?_|refine zv ?_|refine zu ?_|exact Sy.fin_val fun e=>rfl)));(all_goals (try conv => whnf)))
  all_goals first
    | exact Sy.fin_val (fun e => by rw [if_pos (by omega)]; rfl)
    | exact Sy.fin_val (fun e => by rw [if_neg (by omega)]; rfl)
theorem chkE_ok {keep : Int} {ks : List Kp} (h : okS keep ks = true) : chkE keep ks = 0 := by rw [chkE, if_pos h]
theorem chkE_no {keep : Int} {ks : List Kp} (h : ¬ okS keep ks = true) : chkE keep ks = 330 := by rw [chkE, if_neg h]
theorem okS_bd {keep : Int} {ks : List Kp} (h : okS keep ks = true) : 1 ≤ keep ∧ keep ≤ 4 ∧ ks.length ≤ 16 ∧ okL k0 ks = true := by
  simpa [okS, ok0, and_assoc] using h
attribute [local irreducible] okS chkE
theorem latest_any (keep : Int) (v : Value) (ks : List Kp) (w : World) (hr : XD.ok (fun b => b < w.heap.size) w ⟨v, 3, ks.length, ks.map encK⟩) :
    Calls Try.prog 17 #[.agg #[.int .i64 keep, v]] w (Sy.Ret (.tuple #[.agg #[.int .u64 (latestV keep ks).1.number, .bool (latestV keep ks).1.save, .bool (latestV keep ks).1.opn], .bool (latestV keep ks).2]) w) := by
  have hl := ok_len hr
  refine Sy.calls_of Sy.lv17 Sy.tab_ok Try.func17 rfl _ Try.ntmps17 [⟨v, 3, ks.length, ks.map encK⟩] [.agg [.v (.int .i64 keep), .row 0]] rfl rfl rfl ⟨hr, trivial⟩ ?_
  by_cases hk : okS keep ks = true
  · ((repeat' ((conv => whnf);(first|refine zA ?_|(refine zI ?_ ?_<;> intro hh<;> first|(exfalso;omega)|skip)|(refine zl ?_ ?_<;> intro hh)|refine zq ?_|refine zv ?_|refine zu ?_|exact Sy.fin_val fun e=>rfl)));(all_goals (try conv => whnf)))
    refine Sy.call_val (.c (.v (.int .i64 0))) Try.call24 rfl (fun e a w' h => by have := check_any keep (e.rv 0) ks w' (Sy.row_reads h (.inr rfl)); rw [chkE_ok hk] at this; exact this) ?_
    ((repeat' ((conv => whnf);(first|refine zA ?_|(refine zI ?_ ?_<;> intro hh<;> first|(exfalso;omega)|skip)|(refine zl ?_ ?_<;> intro hh)|refine zq ?_|refine zv ?_|refine zu ?_|exact Sy.fin_val fun e=>rfl)));(all_goals (try conv => whnf)))
    · exact Sy.fin_val (fun e => by rw [latestV, if_neg (by omega)]; rfl)
    · have hp : 0 < ks.length := by omega
      refine Sy.el_map (lastOf ks) (by
        rw [lastOf, show ks.length = (ks.length - 1) + 1 by omega, lastK_succ _ _ (by omega), ← List.getElem?_eq_getElem]
        congr 1; omega) ?_
      ((repeat' ((conv => whnf);(first|refine zA ?_|(refine zI ?_ ?_<;> intro hh<;> first|(exfalso;omega)|skip)|(refine zl ?_ ?_<;> intro hh)|refine zq ?_|refine zv ?_|refine zu ?_|exact Sy.fin_val fun e=>rfl)));(all_goals (try conv => whnf)))
      exact Sy.fin_val (fun e => by rw [latestV, if_pos ⟨hk, hp⟩]; rfl)
  · ((repeat' ((conv => whnf);(first|refine zA ?_|(refine zI ?_ ?_<;> intro hh<;> first|(exfalso;omega)|skip)|(refine zl ?_ ?_<;> intro hh)|refine zq ?_|refine zv ?_|refine zu ?_|exact Sy.fin_val fun e=>rfl)));(all_goals (try conv => whnf)))
    refine Sy.call_val (.c (.v (.int .i64 330))) Try.call24 rfl (fun e a w' h => by have := check_any keep (e.rv 0) ks w' (Sy.row_reads h (.inr rfl)); rw [chkE_no hk] at this; exact this) ?_
    ((repeat' ((conv => whnf);(first|refine zA ?_|(refine zI ?_ ?_<;> intro hh<;> first|(exfalso;omega)|skip)|(refine zl ?_ ?_<;> intro hh)|refine zq ?_|refine zv ?_|refine zu ?_|exact Sy.fin_val fun e=>rfl)));(all_goals (try conv => whnf)))
    exact Sy.fin_val (fun e => by rw [latestV, if_neg (by intro h; exact hk h.1)]; rfl)
end Go.Proofs.Ytkmdmjnbjoakbaa
