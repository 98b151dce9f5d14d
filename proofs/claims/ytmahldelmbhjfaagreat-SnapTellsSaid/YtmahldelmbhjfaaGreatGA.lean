/- Graph: rises, Alone, the document's Alone. -/
import Derived.Test.YtmahldelmbhjfaaGreatGSpec
namespace Go.Proofs.YtmahldelmbhjfaaGreat
open Go Go.RowKit
open Sy (C SV V1 Blk St XD Els)
set_option maxRecDepth 10000

theorem rises_any (v : Value) (l : List Int) (below : Int) (w : World) (hr : XD.ok (fun b => b < w.heap.size) w ⟨v, 1, l.length, l.map encI⟩) :
    Calls Tryz.prog 99 #[v, .int .i64 below] w (Sy.Ret (.bool (risesB (-1) below l)) w) := by
  have hl := ok_len hr
  refine Sy.calls_of Sy.lv99 Sy.tab_ok Tryz.func99 rfl _ Tryz.ntmps99 [⟨v, 1, l.length, l.map encI⟩] [.c (.row 0), .c (.v (.int .i64 below))] rfl rfl rfl ⟨hr, trivial⟩ ?_
  ((repeat' ((conv => whnf);(first|refine zA ?_|(refine zI ?_ ?_<;> intro hh<;> first|(exfalso;omega)|skip)|(refine zl ?_ ?_<;> intro hh)|refine zq ?_|refine zv ?_|refine zu ?_|exact Sy.fin_val fun e=>rfl)));(all_goals (try conv => whnf)))
  refine Sy.loop_inv Sy.tab_ok (fun n : Nat => [(10, .c (.v (.int .i64 n))), (5, .c (.v (.int .i64 (lastI l n))))]) (fun _ => []) (fun n => n ≤ l.length ∧ risesB (lastI l n) below (l.drop n) = risesB (-1) below l) (fun n => l.length - n) 0 ⟨Nat.zero_le _, rfl⟩ ?_ (fun n hle => ?_)
  · ((repeat' (first|((conv => whnf);done)|((try conv => whnf);first|exact trivial|(refine And.intro ?_ ?_)|rfl|exact fun _ _ _ h=>h|exact fun _ _ _ _=>trivial)));(all_goals (try conv => whnf)))
  · obtain ⟨hle, hok⟩ := hle
    ((repeat' ((conv => whnf);(first|refine zA ?_|(refine zI ?_ ?_<;> intro hh<;> first|(exfalso;omega)|skip)|(refine zl ?_ ?_<;> intro hh)|refine zu ?_|exact Sy.fin_val fun e=>rfl)));(all_goals (try conv => whnf)))
    · have hlt : n < l.length := by omega
      have e1 := rises_drop below l n hlt (lastI l n)
      have e2 := lastI_succ l n hlt
      refine Sy.el_map l[n] (List.getElem?_eq_getElem hlt) ?_
      generalize l[n] = x at *
      generalize lastI l n = y at *
      ((repeat' ((conv => whnf);(first|refine zA ?_|(refine zI ?_ ?_<;> intro hh<;> first|(exfalso;omega)|skip)|(refine zl ?_ ?_<;> intro hh)|refine zq ?_|refine zv ?_|refine zu ?_|exact Sy.fin_val fun e=>rfl)));(all_goals (try conv => whnf)))
      · exact Sy.fin_val (fun e => congrArg Value.bool (by rw [← hok, e1, decide_eq_false (by omega)]; rfl))
      · exact Sy.fin_val (fun e => congrArg Value.bool (by rw [← hok, e1, decide_eq_true (show y < x by omega), decide_eq_false (by omega)]; rfl))
      · refine ⟨n + 1, ⟨by omega, ?_⟩, by omega, ?_⟩
        · rw [e2, ← hok, e1, decide_eq_true (show y < x by omega), decide_eq_true (show x < below by omega)]; rfl
        · rw [e2]
          ((repeat' (first|((conv => whnf);done)|((try conv => whnf);first|exact trivial|(refine And.intro ?_ ?_)|rfl|exact fun _ _ _ h=>h|exact fun _ _ _ _=>trivial)));(all_goals (try conv => whnf)))
    · have e : n = l.length := by omega
      subst e
      exact Sy.fin_val (fun e => congrArg Value.bool (by rw [← hok, List.drop_length]; rfl))
set_option maxHeartbeats 2000000 in
theorem alone_any (o : OpV) (i : Int) (w : World) (hr : OOk (fun b => b < w.heap.size) w o) :
    Calls Tryz.prog 85 #[.agg #[.int .i64 o.op.tag, .int .i64 o.op.width, o.iv, .int .i64 o.op.a, .int .i64 o.op.b], .int .i64 i] w (Sy.Ret (.bool (aloneB o.op i)) w) := by
  obtain ⟨⟨tag, width, l, a, b⟩, v⟩ := o
  have hr : XD.ok (fun b => b < w.heap.size) w ⟨v, 1, l.length, l.map encI⟩ := hr
  have hl := ok_len hr
  refine Sy.calls_of Sy.lv85 Sy.tab_ok Tryz.func85 rfl _ Tryz.ntmps85 [⟨v, 1, l.length, l.map encI⟩] [.agg [.v (.int .i64 tag), .v (.int .i64 width), .row 0, .v (.int .i64 a), .v (.int .i64 b)], .c (.v (.int .i64 i))] rfl rfl rfl ⟨hr, trivial⟩ ?_
  generalize hrs : risesB (-1) i l = rs
  have key : aloneB ⟨tag, width, l, a, b⟩ i = decide (1 ≤ width ∧ width ≤ 3 ∧ rs = true ∧ ((tag = 6 ∧ 1 < (l.length : Int) ∧ a = 0 ∧ b = 0) ∨ (tag = 1 ∧ (l.length : Int) = 0 ∧ 0 ≤ a ∧ a < 4 ∧ b = 0) ∨ (tag = 2 ∧ (l.length : Int) = 1) ∨ (tag = 3 ∧ (l.length : Int) = 1 ∧ 0 < a ∧ 0 ≤ b ∧ b < a) ∨ (tag = 5 ∧ (l.length : Int) = 1 ∧ 1 ≤ a ∧ a ≤ 8 ∧ b = 0) ∨ ((tag = 4 ∨ tag = 7) ∧ (l.length : Int) = 1 ∧ a = 0 ∧ b = 0))) := by
    unfold aloneB AloneP
    simp only [hrs]
  rw [key]
  clear key
  by_cases hw : 1 ≤ width ∧ width ≤ 3
  · ((repeat' ((conv => whnf);(first|refine zA ?_|(refine zI ?_ ?_<;> intro hh<;> first|(exfalso;omega)|skip)|(refine zl ?_ ?_<;> intro hh)|refine zq ?_|refine zv ?_|refine zu ?_|exact Sy.fin_val fun e=>rfl)));(all_goals (try conv => whnf)))
    refine Sy.call_val (.c (.v (.bool rs))) Tryz.call99 rfl (fun e a w' h => by have := rises_any (e.rv 0) l i w' (Sy.row_reads h (.inr rfl)); rw [hrs] at this; exact this) ?_
    cases rs
    · ((repeat' ((conv => whnf);(first|refine zA ?_|(refine zI ?_ ?_<;> intro hh<;> first|(exfalso;omega)|skip)|(refine zl ?_ ?_<;> intro hh)|refine zq ?_|refine zv ?_|refine zu ?_|exact Sy.fin_val fun e=>rfl)));(all_goals (try conv => whnf)))
      exact Sy.fin_val (fun e => congrArg Value.bool (by simp))
    · have hcase : tag = 1 ∨ tag = 2 ∨ tag = 3 ∨ tag = 4 ∨ tag = 5 ∨ tag = 6 ∨ tag = 7 ∨ (tag ≠ 1 ∧ tag ≠ 2 ∧ tag ≠ 3 ∧ tag ≠ 4 ∧ tag ≠ 5 ∧ tag ≠ 6 ∧ tag ≠ 7) := by omega
      obtain ⟨hw1, hw2⟩ := hw
      have hn0 : (0 : Int) ≤ (l.length : Int) := Int.natCast_nonneg _
      rcases hcase with rfl | rfl | rfl | rfl | rfl | rfl | rfl | ⟨t1, t2, t3, t4, t5, t6, t7⟩
      all_goals ((repeat' ((conv => whnf);(first|refine zA ?_|(refine zI ?_ ?_<;> intro hh<;> first|(exfalso;omega)|skip)|(refine zl ?_ ?_<;> intro hh)|refine zq ?_|refine zv ?_|refine zu ?_|exact Sy.fin_val fun e=>rfl)));(all_goals (try conv => whnf)))
      all_goals exact Sy.fin_val (fun e => congrArg Value.bool (by
        rw [Bool.eq_iff_iff]
        simp only [decide_eq_true_eq, beq_iff_eq, true_and, and_true, Bool.false_eq_true, true_iff, false_iff, *]
        try (simp; done)
        try omega))
  · ((repeat' ((conv => whnf);(first|refine zA ?_|(refine zI ?_ ?_<;> intro hh<;> first|(exfalso;omega)|skip)|(refine zl ?_ ?_<;> intro hh)|refine zq ?_|refine zv ?_|refine zu ?_|exact Sy.fin_val fun e=>rfl)));(all_goals (try conv => whnf)))
    all_goals exact Sy.fin_val (fun e => congrArg Value.bool (by rw [eq_comm]; exact decide_eq_false (fun h => by omega)))
theorem rises_ne {l : List Int} {below : Int} {n : Nat} (hlt : n < l.length) {y : Int} (hok : risesB y below (l.drop n) = risesB (-1) below l) (hn : ¬ (y < l[n] ∧ l[n] < below)) : risesB (-1) below l = false := by
  rw [← hok, rises_drop below l n hlt]
  by_cases h1 : y < l[n]
  · rw [decide_eq_true h1, decide_eq_false (fun h => hn ⟨h1, h⟩)]; rfl
  · rw [decide_eq_false h1]; rfl
set_option maxHeartbeats 4000000 in
theorem ralone_any (o : OpV) (i : Int) (w : World) (hr : OOk (fun b => b < w.heap.size) w o) :
    Calls Tryz.prog 104 #[.agg #[.int .i64 o.op.tag, .int .i64 o.op.width, o.iv, .int .i64 o.op.a, .int .i64 o.op.b], .int .i64 i] w (Sy.Ret (.bool (aloneB o.op i)) w) := by
  obtain ⟨⟨tag, width, l, a, b⟩, v⟩ := o
  have hr : XD.ok (fun b => b < w.heap.size) w ⟨v, 1, l.length, l.map encI⟩ := hr
  have hl := ok_len hr
  refine Sy.calls_of Sy.lv104 Sy.tab_ok Tryz.func104 rfl _ Tryz.ntmps104 [⟨v, 1, l.length, l.map encI⟩] [.agg [.v (.int .i64 tag), .v (.int .i64 width), .row 0, .v (.int .i64 a), .v (.int .i64 b)], .c (.v (.int .i64 i))] rfl rfl rfl ⟨hr, trivial⟩ ?_
  have key : ∀ rs, risesB (-1) i l = rs → aloneB ⟨tag, width, l, a, b⟩ i = decide (1 ≤ width ∧ width ≤ 3 ∧ rs = true ∧ ((tag = 6 ∧ 1 < (l.length : Int) ∧ a = 0 ∧ b = 0) ∨ (tag = 1 ∧ (l.length : Int) = 0 ∧ 0 ≤ a ∧ a < 4 ∧ b = 0) ∨ (tag = 2 ∧ (l.length : Int) = 1) ∨ (tag = 3 ∧ (l.length : Int) = 1 ∧ 0 < a ∧ 0 ≤ b ∧ b < a) ∨ (tag = 5 ∧ (l.length : Int) = 1 ∧ 1 ≤ a ∧ a ≤ 8 ∧ b = 0) ∨ ((tag = 4 ∨ tag = 7) ∧ (l.length : Int) = 1 ∧ a = 0 ∧ b = 0))) := by
    intro rs hrs
    unfold aloneB AloneP
    simp only [hrs]
  by_cases hw : 1 ≤ width ∧ width ≤ 3
  · ((repeat' ((conv => whnf);(first|refine zA ?_|(refine zI ?_ ?_<;> intro hh<;> first|(exfalso;omega)|skip)|(refine zl ?_ ?_<;> intro hh)|refine zq ?_|refine zv ?_|refine zu ?_|exact Sy.fin_val fun e=>rfl)));(all_goals (try conv => whnf)))
    refine Sy.loop_inv Sy.tab_ok (fun n : Nat => [(20, .c (.v (.int .i64 n)))]) (fun _ => []) (fun n => n ≤ l.length ∧ risesB (lastI l n) i (l.drop n) = risesB (-1) i l ∧ -1 ≤ lastI l n) (fun n => l.length - n) 0 ⟨Nat.zero_le _, rfl, Int.le_refl _⟩ ?_ (fun n hle => ?_)
    · ((repeat' (first|((conv => whnf);done)|((try conv => whnf);first|exact trivial|(refine And.intro ?_ ?_)|rfl|exact fun _ _ _ h=>h|exact fun _ _ _ _=>trivial)));(all_goals (try conv => whnf)))
    · obtain ⟨hle, hok, hpos⟩ := hle
      ((repeat' ((conv => whnf);(first|refine zA ?_|(refine zI ?_ ?_<;> intro hh<;> first|(exfalso;omega)|skip)|(refine zl ?_ ?_<;> intro hh)|refine zu ?_|exact Sy.fin_val fun e=>rfl)));(all_goals (try conv => whnf)))
      · have hlt : n < l.length := by omega
        have e1 := rises_drop i l n hlt (lastI l n)
        have e2 := lastI_succ l n hlt
        have hne := rises_ne hlt hok
        obtain ⟨q, hq, hln⟩ : ∃ q, l[((n : Int) - 1).toNat]? = some q ∧ (0 < n → lastI l n = q) := ⟨l[n - 1], by rw [show ((n : Int) - 1).toNat = n - 1 by omega]; exact List.getElem?_eq_getElem (by omega), fun h => by
          obtain ⟨m, rfl⟩ : ∃ m, n = m + 1 := ⟨n - 1, by omega⟩
          rw [lastI_succ _ _ (by omega)]; rfl⟩
        have hl0 : n = 0 → lastI l n = -1 := fun h => by subst h; rfl
        refine Sy.el_map l[n] (List.getElem?_eq_getElem hlt) ?_
        generalize l[n] = x at *
        generalize lastI l n = y at *
        ((repeat' ((conv => whnf);(first|refine zA ?_|(refine zI ?_ ?_<;> intro hh<;> first|(exfalso;omega)|skip)|(refine zl ?_ ?_<;> intro hh)|refine zq ?_|refine zv ?_|refine zu ?_|exact Sy.fin_val fun e=>rfl)));(all_goals (try conv => whnf)))
        any_goals (refine Sy.el_map q hq ?_; ((repeat' ((conv => whnf);(first|refine zA ?_|(refine zI ?_ ?_<;> intro hh<;> first|(exfalso;omega)|skip)|(refine zl ?_ ?_<;> intro hh)|refine zq ?_|refine zv ?_|refine zu ?_|exact Sy.fin_val fun e=>rfl)));(all_goals (try conv => whnf))))
        all_goals first
          | (refine ⟨n + 1, ⟨by omega, ?_, ?_⟩, by omega, ?_⟩
             · rw [e2, ← hok, e1, decide_eq_true (show y < x by first | (have := hln (by omega); omega) | (have := hl0 (by omega); omega)), decide_eq_true (show x < i by omega)]; rfl
             · rw [e2]; omega
             · ((repeat' (first|((conv => whnf);done)|((try conv => whnf);first|exact trivial|(refine And.intro ?_ ?_)|rfl|exact fun _ _ _ h=>h|exact fun _ _ _ _=>trivial)));(all_goals (try conv => whnf))); done)
          | exact Sy.fin_val (fun e => congrArg Value.bool (by rw [key false (hne (by first | omega | (have := hln (by omega); omega)))]; simp))
      · have e : n = l.length := by omega
        subst e
        rw [List.drop_length] at hok
        rw [key true hok.symm]
        have hcase : tag = 1 ∨ tag = 2 ∨ tag = 3 ∨ tag = 4 ∨ tag = 5 ∨ tag = 6 ∨ tag = 7 ∨ (tag ≠ 1 ∧ tag ≠ 2 ∧ tag ≠ 3 ∧ tag ≠ 4 ∧ tag ≠ 5 ∧ tag ≠ 6 ∧ tag ≠ 7) := by omega
        obtain ⟨hw1, hw2⟩ := hw
        have hn0 : (0 : Int) ≤ (l.length : Int) := Int.natCast_nonneg _
        refine zv ?_
        all_goals (refine Sy.draw_go [] (by kernel_rfl) ?_; intro e0; conv => whnf)
        all_goals (refine zt 0 rfl ?_)
        all_goals (conv => whnf)
        all_goals (refine zt 1 rfl ?_)
        all_goals (conv => whnf)
        all_goals (refine zt 2 rfl ?_)
        all_goals ((conv => whnf);(repeat' ((first|refine zA ?_|(refine zI ?_ ?_<;> intro hh<;> first|(exfalso;omega)|skip)|(refine zl ?_ ?_<;> intro hh)|refine zq ?_|refine zv ?_|refine zu ?_|exact Sy.fin_val fun e=>rfl);(try conv => whnf))))
        all_goals (refine zt 3 rfl ?_)
        all_goals (conv => whnf)
        all_goals (refine zt 4 rfl ?_)
        all_goals (conv => whnf)
        all_goals (refine zt 5 rfl ?_)
        all_goals ((conv => whnf);(repeat' ((first|refine zA ?_|(refine zI ?_ ?_<;> intro hh<;> first|(exfalso;omega)|skip)|(refine zl ?_ ?_<;> intro hh)|refine zq ?_|refine zv ?_|refine zu ?_|exact Sy.fin_val fun e=>rfl);(try conv => whnf))))
        all_goals (refine zt 6 rfl ?_)
        all_goals (conv => whnf)
        all_goals (refine zt 7 rfl ?_)
        all_goals ((conv => whnf);(repeat' ((first|refine zA ?_|(refine zI ?_ ?_<;> intro hh<;> first|(exfalso;omega)|skip)|(refine zl ?_ ?_<;> intro hh)|refine zq ?_|refine zv ?_|refine zu ?_|exact Sy.fin_val fun e=>rfl);(try conv => whnf))))
        all_goals (refine zt 8 rfl ?_)
        all_goals ((conv => whnf);(repeat' ((first|refine zA ?_|(refine zI ?_ ?_<;> intro hh<;> first|(exfalso;omega)|skip)|(refine zl ?_ ?_<;> intro hh)|refine zq ?_|refine zv ?_|refine zu ?_|exact Sy.fin_val fun e=>rfl);(try conv => whnf))))
        all_goals (refine zt 9 rfl ?_)
        all_goals ((conv => whnf);(repeat' ((first|refine zA ?_|(refine zI ?_ ?_<;> intro hh<;> first|(exfalso;omega)|skip)|(refine zl ?_ ?_<;> intro hh)|refine zq ?_|refine zv ?_|refine zu ?_|exact Sy.fin_val fun e=>rfl);(try conv => whnf))))
        all_goals (refine zt 10 rfl ?_)
        all_goals ((conv => whnf);(repeat' ((first|refine zA ?_|(refine zI ?_ ?_<;> intro hh<;> first|(exfalso;omega)|skip)|(refine zl ?_ ?_<;> intro hh)|refine zq ?_|refine zv ?_|refine zu ?_|exact Sy.fin_val fun e=>rfl);(try conv => whnf))))
        all_goals (refine zt 11 rfl ?_)
        all_goals (conv => whnf)
        all_goals (refine zt 12 rfl ?_)
        all_goals (conv => whnf)
        all_goals (refine zw ?_)
        skip
        all_goals rcases hcase with rfl | rfl | rfl | rfl | rfl | rfl | rfl | ⟨t1, t2, t3, t4, t5, t6, t7⟩
        all_goals ((repeat' ((conv => whnf);(first|refine zA ?_|(refine zI ?_ ?_<;> intro hh<;> first|(exfalso;omega)|skip)|(refine zl ?_ ?_<;> intro hh)|refine zq ?_|refine zv ?_|refine zu ?_|exact Sy.fin_val fun e=>rfl)));(all_goals (try conv => whnf)))
        all_goals exact Sy.fin_val (fun e => congrArg Value.bool (by
          rw [Bool.eq_iff_iff]
          simp only [decide_eq_true_eq, beq_iff_eq, true_and, and_true, Bool.false_eq_true, false_iff, *]
          try (simp; done)
          try omega))
  · ((repeat' ((conv => whnf);(first|refine zA ?_|(refine zI ?_ ?_<;> intro hh<;> first|(exfalso;omega)|skip)|(refine zl ?_ ?_<;> intro hh)|refine zq ?_|refine zv ?_|refine zu ?_|exact Sy.fin_val fun e=>rfl)));(all_goals (try conv => whnf)))
    all_goals exact Sy.fin_val (fun e => congrArg Value.bool (by rw [key _ rfl, eq_comm]; exact decide_eq_false (fun h => by omega)))
end Go.Proofs.YtmahldelmbhjfaaGreat
