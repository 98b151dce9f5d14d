/- Job: the law Reaches. -/
import Derived.Test.YtbajgjbgkpcapaaJYf
namespace Go.Proofs.Ytbajgjbgkpcapaa
open Go Go.RowKit
open Sy (C SV V1 Blk St XD Els)
set_option maxRecDepth 10000

def reachU (j : Jb) (n : Nat) : List Int := ((List.range n).map fun (i : Nat) => (i : Int)).filter fun t => decide (rch j t)
theorem reachU_succ (j : Jb) (n : Nat) : reachU j (n + 1) = reachU j n ++ (if rch j n then [(n : Int)] else []) := by
  unfold reachU
  rw [List.range_succ, List.map_append, List.filter_append, List.map_singleton, List.filter_cons, List.filter_nil]
  by_cases h : rch j n
  · rw [if_pos (decide_eq_true h), if_pos h]
  · rw [if_neg (by simpa using h), if_neg h]
theorem reachU_all (j : Jb) : reachU j 8 = reachL j := rfl
theorem reachU_len (j : Jb) (n : Nat) : (reachU j n).length ≤ n := by
  unfold reachU
  have := List.length_filter_le (fun t => decide (rch j t)) ((List.range n).map fun (i : Nat) => (i : Int))
  rw [List.length_map, List.length_range] at this
  exact this
theorem reachU_pre (j : Jb) : ∀ k n, ∃ r, reachU j (n + k) = reachU j n ++ r
  | 0, n => ⟨[], by rw [List.append_nil]; rfl⟩
  | k + 1, n => by
    obtain ⟨r, hr⟩ := reachU_pre j k n
    exact ⟨r ++ (if rch j ((n + k : Nat) : Int) then [((n + k : Nat) : Int)] else []), by rw [← Nat.add_assoc, reachU_succ, hr, List.append_assoc]⟩
theorem reachU_at {j : Jb} {n : Nat} (hn : n < 8) (h : rch j n) : (reachL j)[(reachU j n).length]? = some (n : Int) := by
  obtain ⟨r, hr⟩ := reachU_pre j (7 - n) (n + 1)
  rw [show n + 1 + (7 - n) = 8 by omega, reachU_all, reachU_succ, if_pos h] at hr
  rw [hr]
  simp
attribute [local irreducible] okB okJ chk rch mpJ dJ mayQ reachL refR reachU
set_option maxHeartbeats 1000000 in
theorem reaches_any (j : Jb) (w : World) : Calls Try.prog 6 #[keyJ j] w (Sy.Ret (.bool true) w) := by
  refine Sy.calls_of Sy.lv6 Sy.tab_ok Try.func6 rfl _ Try.ntmps6 [] [.agg [.v (.int .i64 j.s), .v (.int .i64 j.f), .v (.int .i64 j.m)]] rfl rfl rfl trivial ?_
  ((repeat' ((conv => whnf);(first|refine zA ?_|(refine zI ?_ ?_<;> intro hh<;> first|(exfalso;omega)|skip)|(refine zl ?_ ?_<;> intro hh)|refine zq ?_|refine zv ?_|refine zu ?_|exact Sy.fin_val fun e=>rfl)));(all_goals (try conv => whnf)))
  refine Sy.call_val (.c (.v (.bool true))) Try.call8 rfl (fun _ _ w' _ => ywakes_any w') ?_
  ((repeat' ((conv => whnf);(first|refine zA ?_|(refine zI ?_ ?_<;> intro hh<;> first|(exfalso;omega)|skip)|(refine zl ?_ ?_<;> intro hh)|refine zq ?_|refine zv ?_|refine zu ?_|exact Sy.fin_val fun e=>rfl)));(all_goals (try conv => whnf)))
  by_cases ho : okB j
  · have hoj : decide (okJ j.s j.f j.m) = true := decide_eq_true (by unfold okB at ho; exact ho)
    refine Sy.call_r1 ⟨3, 1, (reachL j).length, (reachL j).map encI⟩ (fun j => .c (.row j)) Try.call19 (fun _ _ w' _ => yreach_any j ho w') ?_
    ((repeat' ((conv => whnf);(first|refine zA ?_|(refine zI ?_ ?_<;> intro hh<;> first|(exfalso;omega)|skip)|(refine zl ?_ ?_<;> intro hh)|refine zq ?_|refine zv ?_|refine zu ?_|exact Sy.fin_val fun e=>rfl)));(all_goals (try conv => whnf)))
    refine Sy.call_val (.c (.v (.bool true))) Try.call12 rfl (fun _ _ w' _ => by have := yright_any j w'; rw [hoj] at this; exact this) ?_
    ((repeat' ((conv => whnf);(first|refine zA ?_|(refine zI ?_ ?_<;> intro hh<;> first|(exfalso;omega)|skip)|(refine zl ?_ ?_<;> intro hh)|refine zq ?_|refine zv ?_|refine zu ?_|exact Sy.fin_val fun e=>rfl)));(all_goals (try conv => whnf)))
    refine Sy.loop_inv Sy.tab_ok (fun n : Nat => [(16, .c (.v (.int .i64 n))), (4, .c (.v (.int .i64 (reachU j n).length)))]) (fun _ => []) (fun n => n ≤ 8) (fun n => 8 - n) 0 (Nat.zero_le _) ?_ (fun n hn => ?_)
    · rw [show (reachU j 0).length = 0 by unfold reachU; rfl]
      ((repeat' (first|((conv => whnf);done)|((try conv => whnf);first|exact trivial|(refine And.intro ?_ ?_)|rfl|exact fun _ _ _ h=>h|exact fun _ _ _ _=>trivial)));(all_goals (try conv => whnf)))
    · have hul := reachU_len j n
      by_cases h8 : n = 8
      · subst h8
        rw [reachU_all]
        ((repeat' ((conv => whnf);(first|refine zA ?_|(refine zI ?_ ?_<;> intro hh<;> first|(exfalso;omega)|skip)|(refine zl ?_ ?_<;> intro hh)|refine zq ?_|refine zv ?_|refine zu ?_|exact Sy.fin_val fun e=>rfl)));(all_goals (try conv => whnf)))
        exact Sy.fin_val (fun e => congrArg Value.bool (beq_self_eq_true _))
      · have hn8 : n < 8 := by omega
        have hcall : ∀ w, Calls Try.prog 20 #[keyJ j, .int .i64 n, .int .i64 4] w (Sy.Ret (.bool (decide (rch j n))) w) := fun w => by
          rw [← refR_eq (n : Int) ho]; exact yrefr 4 j n w (Nat.le_refl _)
        have hs := reachU_succ j n
        by_cases hr : rch j n
        · have hat := reachU_at hn8 hr
          have hlt := (List.getElem?_eq_some_iff.1 hat).1
          rw [if_pos hr] at hs
          have hl : (reachU j (n + 1)).length = (reachU j n).length + 1 := by rw [hs, List.length_append]; rfl
          ((repeat' ((conv => whnf);(first|refine zA ?_|(refine zI ?_ ?_<;> intro hh<;> first|(exfalso;omega)|skip)|(refine zl ?_ ?_<;> intro hh)|refine zq ?_|refine zv ?_|refine zu ?_|exact Sy.fin_val fun e=>rfl)));(all_goals (try conv => whnf)))
          refine Sy.call_val (.c (.v (.bool true))) Try.call20 rfl (fun _ _ w' _ => by have := hcall w'; rw [decide_eq_true hr] at this; exact this) ?_
          ((repeat' ((conv => whnf);(first|refine zA ?_|(refine zI ?_ ?_<;> intro hh<;> first|(exfalso;omega)|skip)|(refine zl ?_ ?_<;> intro hh)|refine zq ?_|refine zv ?_|refine zu ?_|exact Sy.fin_val fun e=>rfl)));(all_goals (try conv => whnf)))
          refine Sy.el_map (n : Int) hat ?_
          ((repeat' ((conv => whnf);(first|refine zA ?_|(refine zI ?_ ?_<;> intro hh<;> first|(exfalso;omega)|skip)|(refine zl ?_ ?_<;> intro hh)|refine zq ?_|refine zv ?_|refine zu ?_|exact Sy.fin_val fun e=>rfl)));(all_goals (try conv => whnf)))
          refine ⟨n + 1, by omega, by omega, ?_⟩
          rw [hl]
          ((repeat' (first|((conv => whnf);done)|((try conv => whnf);first|exact trivial|(refine And.intro ?_ ?_)|rfl|exact fun _ _ _ h=>h|exact fun _ _ _ _=>trivial)));(all_goals (try conv => whnf)))
        · rw [if_neg hr, List.append_nil] at hs
          ((repeat' ((conv => whnf);(first|refine zA ?_|(refine zI ?_ ?_<;> intro hh<;> first|(exfalso;omega)|skip)|(refine zl ?_ ?_<;> intro hh)|refine zq ?_|refine zv ?_|refine zu ?_|exact Sy.fin_val fun e=>rfl)));(all_goals (try conv => whnf)))
          refine Sy.call_val (.c (.v (.bool false))) Try.call20 rfl (fun _ _ w' _ => by have := hcall w'; rw [decide_eq_false hr] at this; exact this) ?_
          ((repeat' ((conv => whnf);(first|refine zA ?_|(refine zI ?_ ?_<;> intro hh<;> first|(exfalso;omega)|skip)|(refine zl ?_ ?_<;> intro hh)|refine zq ?_|refine zv ?_|refine zu ?_|exact Sy.fin_val fun e=>rfl)));(all_goals (try conv => whnf)))
          refine ⟨n + 1, by omega, by omega, ?_⟩
          rw [hs]
          ((repeat' (first|((conv => whnf);done)|((try conv => whnf);first|exact trivial|(refine And.intro ?_ ?_)|rfl|exact fun _ _ _ h=>h|exact fun _ _ _ _=>trivial)));(all_goals (try conv => whnf)))
  · have hoj : decide (okJ j.s j.f j.m) = false := decide_eq_false (by unfold okB at ho; exact ho)
    refine Sy.call_val (.c (.v (.slice none 0 0))) Try.call19 rfl (fun _ _ w' _ => yreach_bad j ho w') ?_
    ((repeat' ((conv => whnf);(first|refine zA ?_|(refine zI ?_ ?_<;> intro hh<;> first|(exfalso;omega)|skip)|(refine zl ?_ ?_<;> intro hh)|refine zq ?_|refine zv ?_|refine zu ?_|exact Sy.fin_val fun e=>rfl)));(all_goals (try conv => whnf)))
    refine Sy.call_val (.c (.v (.bool false))) Try.call12 rfl (fun _ _ w' _ => by have := yright_any j w'; rw [hoj] at this; exact this) ?_
    ((repeat' ((conv => whnf);(first|refine zA ?_|(refine zI ?_ ?_<;> intro hh<;> first|(exfalso;omega)|skip)|(refine zl ?_ ?_<;> intro hh)|refine zq ?_|refine zv ?_|refine zu ?_|exact Sy.fin_val fun e=>rfl)));(all_goals (try conv => whnf)))
    all_goals done
end Go.Proofs.Ytbajgjbgkpcapaa
