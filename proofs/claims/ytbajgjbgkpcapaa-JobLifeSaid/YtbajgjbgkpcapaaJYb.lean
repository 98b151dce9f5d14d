/- Job: what was shown of package job in the old way, as this engine takes it; May. -/
import Derived.Test.YtbajgjbgkpcapaaJobE
import Derived.Test.YtbajgjbgkpcapaaJYa
namespace Go.Proofs.Ytbajgjbgkpcapaa
open Go Go.RowKit
open Sy (C SV V1 Blk St XD Els)
set_option maxRecDepth 10000

def dJ (j : Jb) (h : Int) : Int × Int × Int × Int := dS j.s j.f j.m h
theorem ydo_any (j : Jb) (h : Int) (ho : okJ j.s j.f j.m) (hh : 1 ≤ h ∧ h ≤ 9) (w : World) : Calls Try.prog 21 #[keyJ j, .int .i64 h] w (Sy.Ret (doV (dJ j h)) w) := do_S j.s j.f j.m h ho hh w
theorem yDo_any (j : Jb) (h : Int) (w : World) : Calls Try.prog 9 #[keyJ j, .int .i64 h] w (Sy.Ret (doV (dJ j h)) w) := jobDo_any j.s j.f j.m h w
theorem yref_any (j : Jb) (h : Int) (w : World) : Calls Try.prog 10 #[keyJ j, .int .i64 h] w (Sy.Ret (doV (dJ j h)) w) := refDo_any j.s j.f j.m h w
theorem ycheck_any (j : Jb) (w : World) : Calls Try.prog 11 #[keyJ j] w (Sy.Ret (.int .i64 (chk j.s j.f j.m)) w) := check_any j.s j.f j.m w
theorem yright_any (j : Jb) (w : World) : Calls Try.prog 12 #[keyJ j] w (Sy.Ret (.bool (decide (okJ j.s j.f j.m))) w) := right_any j.s j.f j.m w
theorem yover_any (j : Jb) (w : World) : Calls Try.prog 17 #[keyJ j] w (Sy.Ret (.bool (ovrS j.s j.f j.m)) w) := over_any j.s j.f j.m w
theorem ylives_any (j : Jb) (w : World) : Calls Try.prog 16 #[keyJ j] w (Sy.Ret (.bool (livS j.s j.f j.m)) w) := lives_any j.s j.f j.m w
theorem ywakes_any (w : World) : Calls Try.prog 8 #[] w (Sy.Ret (.bool true) w) := wakes_any w
/-- The happenings that are not refused, of the first n. -/
def mayQ (j : Jb) (n : Nat) : List Int := ((List.range n).map fun (i : Nat) => (i : Int) + 1).filter fun h => decide ((dJ j h).2.2.2 = 0)
theorem may_succ (j : Jb) (n : Nat) : mayQ j (n + 1) = mayQ j n ++ (if (dJ j ((n : Int) + 1)).2.2.2 = 0 then [(n : Int) + 1] else []) := by
  unfold mayQ
  rw [List.range_succ, List.map_append, List.filter_append, List.map_singleton, List.filter_cons, List.filter_nil]
  by_cases h : (dJ j ((n : Int) + 1)).2.2.2 = 0
  · rw [if_pos (decide_eq_true h), if_pos h]
  · rw [if_neg (by simpa using h), if_neg h]
theorem may_len (j : Jb) (n : Nat) : (mayQ j n).length ≤ n := by
  unfold mayQ
  have := List.length_filter_le (fun h => decide ((dJ j h).2.2.2 = 0)) ((List.range n).map fun (i : Nat) => (i : Int) + 1)
  rw [List.length_map, List.length_range] at this
  exact this
theorem may_mem {j : Jb} {n : Nat} {h : Int} : h ∈ mayQ j n ↔ (1 ≤ h ∧ h ≤ n) ∧ (dJ j h).2.2.2 = 0 := by
  unfold mayQ
  rw [List.mem_filter, List.mem_map]
  constructor
  · rintro ⟨⟨i, hi, rfl⟩, h2⟩
    rw [List.mem_range] at hi
    exact ⟨by omega, of_decide_eq_true h2⟩
  · rintro ⟨⟨h1, h2⟩, h3⟩
    exact ⟨⟨(h - 1).toNat, List.mem_range.2 (by omega), by omega⟩, decide_eq_true h3⟩
attribute [local irreducible] dJ
theorem ymay_any (j : Jb) (w : World) : Calls Try.prog 13 #[keyJ j] w (Sy.RetRows Sy.noRow (fun _ : Unit => True) (fun _ => [⟨3, 1, (mayQ j 9).length, (mayQ j 9).map encI⟩]) (fun _ vs => vs.headD undef) w) := by
  refine Sy.calls_of Sy.lv13 Sy.tab_ok Try.func13 rfl _ Try.ntmps13 [] [.agg [.v (.int .i64 j.s), .v (.int .i64 j.f), .v (.int .i64 j.m)]] rfl rfl rfl trivial ?_
  ((repeat' ((conv => whnf);(first|refine zA ?_|(refine zI ?_ ?_<;> intro hh<;> first|(exfalso;omega)|skip)|(refine zl ?_ ?_<;> intro hh)|refine zq ?_|refine zv ?_|refine zu ?_|exact Sy.fin_val fun e=>rfl)));(all_goals (try conv => whnf)))
  refine Sy.sem_subF (Sy.sub_row 3 3 1 rfl) ?_
  conv => whnf
  refine Sy.loop_inv Sy.tab_ok (fun n : Nat => [(4, .c (.v (.int .i64 ((n : Int) + 1)))), (3, .c (.row 1))]) (fun n => [(1, .row 3 1 (mayQ j n).length (.vs ((mayQ j n).map encI)))]) (fun n => n ≤ 9) (fun n => 9 - n) 0 (Nat.zero_le _) ?_ (fun n hn => ?_)
  · ((repeat' (first|((conv => whnf);done)|((try conv => whnf);first|exact trivial|(refine And.intro ?_ ?_)|rfl|exact fun _ _ _ h=>h|exact fun _ _ _ _=>trivial)));(all_goals (try conv => whnf)))
  · have hl := may_len j n
    by_cases h9 : n = 9
    · subst h9
      ((repeat' ((conv => whnf);(first|refine zA ?_|(refine zI ?_ ?_<;> intro hh<;> first|(exfalso;omega)|skip)|(refine zl ?_ ?_<;> intro hh)|refine zq ?_|refine zv ?_|refine zu ?_|exact Sy.fin_val fun e=>rfl)));(all_goals (try conv => whnf)))
      exact Sy.fin_r1 (.row 1) rfl
    · have hs := may_succ j n
      have hdo : ∀ w, Calls Try.prog 9 #[keyJ j, .int .i64 ((n : Int) + 1)] w (Sy.Ret (doV (dJ j ((n : Int) + 1))) w) := fun w => yDo_any j _ w
      generalize dJ j ((n : Int) + 1) = D at *
      obtain ⟨a, b, c, e⟩ := D
      dsimp only at hs
      ((repeat' ((conv => whnf);(first|refine zA ?_|(refine zI ?_ ?_<;> intro hh<;> first|(exfalso;omega)|skip)|(refine zl ?_ ?_<;> intro hh)|refine zq ?_|refine zv ?_|refine zu ?_|exact Sy.fin_val fun e=>rfl)));(all_goals (try conv => whnf)))
      refine Sy.call_val (.tup [.agg [.v (.int .i64 a), .v (.int .i64 b), .v (.int .i64 c)], .c (.v (.int .i64 e))]) Try.call9 rfl (fun _ _ w' _ => hdo w') ?_
      by_cases he : e = 0
      · rw [if_pos he] at hs
        ((repeat' ((conv => whnf);(first|refine zA ?_|(refine zI ?_ ?_<;> intro hh<;> first|(exfalso;omega)|skip)|(refine zl ?_ ?_<;> intro hh)|refine zq ?_|refine zv ?_|refine zu ?_|exact Sy.fin_val fun e=>rfl)));(all_goals (try conv => whnf)))
        refine Sy.need_of (by show ((mayQ j n).length + 1) * 8 ≤ _ ∧ _; omega) ?_
        ((repeat' ((conv => whnf);(first|refine zA ?_|(refine zI ?_ ?_<;> intro hh<;> first|(exfalso;omega)|skip)|(refine zl ?_ ?_<;> intro hh)|refine zq ?_|refine zv ?_|refine zu ?_|exact Sy.fin_val fun e=>rfl)));(all_goals (try conv => whnf)))
        have es : (mayQ j n).map encI ++ [[Value.int .i64 ((n : Int) + 1)]] = (mayQ j (n + 1)).map encI := by rw [hs, List.map_append]; rfl
        have el : (mayQ j n).length + 1 = (mayQ j (n + 1)).length := by rw [hs, List.length_append]; rfl
        rw [es, el]
        refine ⟨n + 1, by omega, by omega, ?_⟩
        ((repeat' (first|((conv => whnf);done)|((try conv => whnf);first|exact trivial|(refine And.intro ?_ ?_)|rfl|exact fun _ _ _ h=>h|exact fun _ _ _ _=>trivial)));(all_goals (try conv => whnf)))
      · rw [if_neg he, List.append_nil] at hs
        ((repeat' ((conv => whnf);(first|refine zA ?_|(refine zI ?_ ?_<;> intro hh<;> first|(exfalso;omega)|skip)|(refine zl ?_ ?_<;> intro hh)|refine zq ?_|refine zv ?_|refine zu ?_|exact Sy.fin_val fun e=>rfl)));(all_goals (try conv => whnf)))
        refine ⟨n + 1, by omega, by omega, ?_⟩
        rw [hs]
        ((repeat' (first|((conv => whnf);done)|((try conv => whnf);first|exact trivial|(refine And.intro ?_ ?_)|rfl|exact fun _ _ _ h=>h|exact fun _ _ _ _=>trivial)));(all_goals (try conv => whnf)))
end Go.Proofs.Ytbajgjbgkpcapaa
