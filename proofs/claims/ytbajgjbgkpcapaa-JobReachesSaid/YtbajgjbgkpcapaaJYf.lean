/- Job: the document's Reach; the law Reaches. -/
import Derived.Test.YtbajgjbgkpcapaaJYe
namespace Go.Proofs.Ytbajgjbgkpcapaa
open Go Go.RowKit
open Sy (C SV V1 Blk St XD Els)
set_option maxRecDepth 10000

theorem yreach_bad (j : Jb) (ho : ¬ okB j) (w : World) : Calls Try.prog 19 #[keyJ j] w (Sy.Ret (.slice none 0 0) w) := by
  have hck : chk j.s j.f j.m = 350 := by unfold okB at ho; unfold chk; rw [if_neg ho]
  refine Sy.calls_of Sy.lv19 Sy.tab_ok Try.func19 rfl _ Try.ntmps19 [] [.agg [.v (.int .i64 j.s), .v (.int .i64 j.f), .v (.int .i64 j.m)]] rfl rfl rfl trivial ?_
  ((repeat' ((conv => whnf);(first|refine zA ?_|(refine zI ?_ ?_<;> intro hh<;> first|(exfalso;omega)|skip)|(refine zl ?_ ?_<;> intro hh)|refine zq ?_|refine zv ?_|refine zu ?_|exact Sy.fin_val fun e=>rfl)));(all_goals (try conv => whnf)))
  refine Sy.call_val (.c (.v (.int .i64 350))) Try.call11 rfl (fun _ _ w' _ => by have := ycheck_any j w'; rw [hck] at this; exact this) ?_
  ((repeat' ((conv => whnf);(first|refine zA ?_|(refine zI ?_ ?_<;> intro hh<;> first|(exfalso;omega)|skip)|(refine zl ?_ ?_<;> intro hh)|refine zq ?_|refine zv ?_|refine zu ?_|exact Sy.fin_val fun e=>rfl)));(all_goals (try conv => whnf)))
  all_goals done
theorem refR_no {n : Nat} {j : Jb} {t : Int} (h1 : j.s ≠ t) (h2 : ∀ i : Nat, i < 9 → ¬ (err j ((i : Int) + 1) = 0 ∧ nxt j ((i : Int) + 1) ≠ j ∧ refR n (nxt j ((i : Int) + 1)) t = true)) : refR (n + 1) j t = false := by
  rw [refR, decide_eq_false h1, Bool.false_or, List.any_eq_false]
  intro i hi h
  rw [Bool.and_eq_true, Bool.and_eq_true] at h
  exact h2 i (List.mem_range.1 hi) ⟨of_decide_eq_true h.1, of_decide_eq_true h.2.1, h.2.2⟩
theorem refR_yes {n : Nat} {j : Jb} {t : Int} (i : Nat) (hi : i < 9) (h : err j ((i : Int) + 1) = 0 ∧ nxt j ((i : Int) + 1) ≠ j ∧ refR n (nxt j ((i : Int) + 1)) t = true) : refR (n + 1) j t = true := by
  rw [refR, Bool.or_eq_true, List.any_eq_true]
  exact .inr ⟨i, List.mem_range.2 hi, by rw [decide_eq_true h.1, decide_eq_true h.2.1, h.2.2]; rfl⟩
attribute [local irreducible] okB okJ chk rch mpJ dJ mayQ reachL refR
set_option maxHeartbeats 2000000 in
theorem yrefr : ∀ (n : Nat) (j : Jb) (t : Int) (w : World), n ≤ 4 → Calls Try.prog 20 #[keyJ j, .int .i64 t, .int .i64 n] w (Sy.Ret (.bool (refR n j t)) w) := by
  intro n
  induction n with
  | zero =>
    intro j t w _
    refine Sy.calls_of Sy.lv20 Sy.tab_ok Try.func20 rfl _ Try.ntmps20 [] [.agg [.v (.int .i64 j.s), .v (.int .i64 j.f), .v (.int .i64 j.m)], .c (.v (.int .i64 t)), .c (.v (.int .i64 (0 : Nat)))] rfl rfl rfl trivial ?_
    have hr : refR 0 j t = decide (j.s = t) := by unfold refR; rfl
    by_cases hs : j.s = t
    · rw [hr, decide_eq_true hs]
      ((repeat' ((conv => whnf);(first|refine zA ?_|(refine zI ?_ ?_<;> intro hh<;> first|(exfalso;omega)|skip)|(refine zl ?_ ?_<;> intro hh)|refine zq ?_|refine zv ?_|refine zu ?_|exact Sy.fin_val fun e=>rfl)));(all_goals (try conv => whnf)))
      all_goals done
    · rw [hr, decide_eq_false hs]
      ((repeat' ((conv => whnf);(first|refine zA ?_|(refine zI ?_ ?_<;> intro hh<;> first|(exfalso;omega)|skip)|(refine zl ?_ ?_<;> intro hh)|refine zq ?_|refine zv ?_|refine zu ?_|exact Sy.fin_val fun e=>rfl)));(all_goals (try conv => whnf)))
      all_goals done
  | succ n ih =>
    intro j t w h4
    refine Sy.calls_of Sy.lv20 Sy.tab_ok Try.func20 rfl _ Try.ntmps20 [] [.agg [.v (.int .i64 j.s), .v (.int .i64 j.f), .v (.int .i64 j.m)], .c (.v (.int .i64 t)), .c (.v (.int .i64 (n + 1 : Nat)))] rfl rfl rfl trivial ?_
    by_cases hs : j.s = t
    · have hr : refR (n + 1) j t = true := by unfold refR; rw [decide_eq_true hs]; rfl
      rw [hr]
      ((repeat' ((conv => whnf);(first|refine zA ?_|(refine zI ?_ ?_<;> intro hh<;> first|(exfalso;omega)|skip)|(refine zl ?_ ?_<;> intro hh)|refine zq ?_|refine zv ?_|refine zu ?_|exact Sy.fin_val fun e=>rfl)));(all_goals (try conv => whnf)))
      all_goals done
    · have hno := refR_no (n := n) (j := j) hs
      have hyes := fun i => refR_yes (n := n) (j := j) (t := t) i
      ((repeat' ((conv => whnf);(first|refine zA ?_|(refine zI ?_ ?_<;> intro hh<;> first|(exfalso;omega)|skip)|(refine zl ?_ ?_<;> intro hh)|refine zq ?_|refine zv ?_|refine zu ?_|exact Sy.fin_val fun e=>rfl)));(all_goals (try conv => whnf)))
      refine Sy.loop_inv Sy.tab_ok (fun i : Nat => [(7, .c (.v (.int .i64 ((i : Int) + 1))))]) (fun _ => []) (fun i => i ≤ 9 ∧ ∀ k : Nat, k < i → ¬ (err j ((k : Int) + 1) = 0 ∧ nxt j ((k : Int) + 1) ≠ j ∧ refR n (nxt j ((k : Int) + 1)) t = true)) (fun i => 9 - i) 0 ⟨Nat.zero_le _, fun k hk => absurd hk (Nat.not_lt_zero _)⟩ ?_ (fun i hi => ?_)
      · ((repeat' (first|((conv => whnf);done)|((try conv => whnf);first|exact trivial|(refine And.intro ?_ ?_)|rfl|exact fun _ _ _ h=>h|exact fun _ _ _ _=>trivial)));(all_goals (try conv => whnf)))
      · obtain ⟨hi, hall⟩ := hi
        by_cases h9 : i = 9
        · subst h9
          rw [hno hall]
          ((repeat' ((conv => whnf);(first|refine zA ?_|(refine zI ?_ ?_<;> intro hh<;> first|(exfalso;omega)|skip)|(refine zl ?_ ?_<;> intro hh)|refine zq ?_|refine zv ?_|refine zu ?_|exact Sy.fin_val fun e=>rfl)));(all_goals (try conv => whnf)))
          all_goals done
        · have hi9 : i < 9 := by omega
          have hy := hyes i hi9
          have hdo : ∀ w, Calls Try.prog 10 #[keyJ j, .int .i64 ((i : Int) + 1)] w (Sy.Ret (doV (dJ j ((i : Int) + 1))) w) := fun w => yref_any j _ w
          have hstep : ¬ (err j ((i : Int) + 1) = 0 ∧ nxt j ((i : Int) + 1) ≠ j ∧ refR n (nxt j ((i : Int) + 1)) t = true) → ∀ k : Nat, k < i + 1 → ¬ (err j ((k : Int) + 1) = 0 ∧ nxt j ((k : Int) + 1) ≠ j ∧ refR n (nxt j ((k : Int) + 1)) t = true) := fun h k hk => by
            by_cases hki : k = i
            · rw [hki]; exact h
            · exact hall k (by omega)
          have hn1 : nxt j ((i : Int) + 1) = ⟨(dJ j ((i : Int) + 1)).1, (dJ j ((i : Int) + 1)).2.1, (dJ j ((i : Int) + 1)).2.2.1⟩ := rfl
          have hn2 : err j ((i : Int) + 1) = (dJ j ((i : Int) + 1)).2.2.2 := rfl
          rw [hn1, hn2] at hstep hy
          clear hno hyes hall hn1 hn2
          generalize dJ j ((i : Int) + 1) = D at *
          obtain ⟨a, b, c, e⟩ := D
          dsimp only at hstep hy
          ((repeat' ((conv => whnf);(first|refine zA ?_|(refine zI ?_ ?_<;> intro hh<;> first|(exfalso;omega)|skip)|(refine zl ?_ ?_<;> intro hh)|refine zq ?_|refine zv ?_|refine zu ?_|exact Sy.fin_val fun e=>rfl)));(all_goals (try conv => whnf)))
          refine Sy.call_val (.tup [.agg [.v (.int .i64 a), .v (.int .i64 b), .v (.int .i64 c)], .c (.v (.int .i64 e))]) Try.call10 rfl (fun _ _ w' _ => hdo w') ?_
          by_cases he : e = 0
          · by_cases hn : (⟨a, b, c⟩ : Jb) = j
            · have h1 : a = j.s := congrArg Jb.s hn
              have h2 : b = j.f := congrArg Jb.f hn
              have h3 : c = j.m := congrArg Jb.m hn
              have hs2 := hstep fun h => h.2.1 hn
              clear hn hstep hy
              ((repeat' ((conv => whnf);(first|refine zA ?_|(refine zI ?_ ?_<;> intro hh<;> first|(exfalso;omega)|skip)|(refine zl ?_ ?_<;> intro hh)|refine zq ?_|refine zv ?_|refine zu ?_|exact Sy.fin_val fun e=>rfl)));(all_goals (try conv => whnf)))
              refine ⟨i + 1, ⟨by omega, hs2⟩, by omega, ?_⟩
              ((repeat' (first|((conv => whnf);done)|((try conv => whnf);first|exact trivial|(refine And.intro ?_ ?_)|rfl|exact fun _ _ _ h=>h|exact fun _ _ _ _=>trivial)));(all_goals (try conv => whnf)))
            · have hb : (!(a == j.s && (b == j.f && c == j.m))) = true := by
                have := eqB_iff ⟨a, b, c⟩ j
                unfold eqB at this
                rw [this, decide_eq_false hn]; rfl
              have e1 : ((n : Nat) : Int) = ((n + 1 : Nat) : Int) - 1 := by omega
              have hcall : ∀ w, Calls Try.prog 20 #[keyJ ⟨a, b, c⟩, .int .i64 t, .int .i64 (((n + 1 : Nat) : Int) - 1)] w (Sy.Ret (.bool (refR n ⟨a, b, c⟩ t)) w) := fun w => by
                rw [← e1]; exact ih _ t w (by omega)
              generalize refR n ⟨a, b, c⟩ t = R at *
              ((repeat' ((conv => whnf);(first|refine zA ?_|(refine zI ?_ ?_<;> intro hh<;> first|(exfalso;omega)|skip)|(refine zl ?_ ?_<;> intro hh)|refine zq ?_|refine zv ?_|refine zu ?_|exact Sy.fin_val fun e=>rfl)));(all_goals (try conv => whnf)))
              refine Sy.call_val (.c (.v (.bool R))) Try.call20 rfl (fun _ _ w' _ => hcall w') ?_
              cases R
              · have hs2 := hstep fun h => by cases h.2.2
                ((repeat' ((conv => whnf);(first|refine zA ?_|(refine zI ?_ ?_<;> intro hh<;> first|(exfalso;omega)|skip)|(refine zl ?_ ?_<;> intro hh)|refine zq ?_|refine zv ?_|refine zu ?_|exact Sy.fin_val fun e=>rfl)));(all_goals (try conv => whnf)))
                refine ⟨i + 1, ⟨by omega, hs2⟩, by omega, ?_⟩
                ((repeat' (first|((conv => whnf);done)|((try conv => whnf);first|exact trivial|(refine And.intro ?_ ?_)|rfl|exact fun _ _ _ h=>h|exact fun _ _ _ _=>trivial)));(all_goals (try conv => whnf)))
              · rw [hy ⟨he, hn, rfl⟩]
                ((repeat' ((conv => whnf);(first|refine zA ?_|(refine zI ?_ ?_<;> intro hh<;> first|(exfalso;omega)|skip)|(refine zl ?_ ?_<;> intro hh)|refine zq ?_|refine zv ?_|refine zu ?_|exact Sy.fin_val fun e=>rfl)));(all_goals (try conv => whnf)))
                all_goals done
          · have hs2 := hstep fun h => he h.1
            ((repeat' ((conv => whnf);(first|refine zA ?_|(refine zI ?_ ?_<;> intro hh<;> first|(exfalso;omega)|skip)|(refine zl ?_ ?_<;> intro hh)|refine zq ?_|refine zv ?_|refine zu ?_|exact Sy.fin_val fun e=>rfl)));(all_goals (try conv => whnf)))
            refine ⟨i + 1, ⟨by omega, hs2⟩, by omega, ?_⟩
            ((repeat' (first|((conv => whnf);done)|((try conv => whnf);first|exact trivial|(refine And.intro ?_ ?_)|rfl|exact fun _ _ _ h=>h|exact fun _ _ _ _=>trivial)));(all_goals (try conv => whnf)))
end Go.Proofs.Ytbajgjbgkpcapaa
