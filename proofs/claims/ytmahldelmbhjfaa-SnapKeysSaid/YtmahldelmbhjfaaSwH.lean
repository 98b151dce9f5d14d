/- Snap: the cell of a key; the law Keys. -/
import Derived.Test.YtmahldelmbhjfaaSwG
import Derived.Test.YtmahldelmbhjfaaSwE
namespace Go.Proofs.Ytmahldelmbhjfaa
open Go Go.RowKit
open Sy (C SV V1 Blk St XD Els)
set_option maxRecDepth 10000

theorem cmpK_zero (s k s' k' : Int) : cmpK s k s' k' = 0 ↔ s = s' ∧ k = k' := by
  unfold cmpK
  by_cases h1 : s < s' ∨ (s = s' ∧ k < k')
  · rw [if_pos h1]; omega
  · rw [if_neg h1]
    by_cases h2 : s = s' ∧ k = k'
    · rw [if_pos h2]; exact ⟨fun _ => h2, fun _ => rfl⟩
    · rw [if_neg h2]; exact ⟨fun h => absurd h (by decide), fun h => absurd h h2⟩
set_option maxHeartbeats 2000000 in
theorem get_any (v : Value) (l : List Kc) (s k x : Int) (w : World) (hr : XD.ok (fun b => b < w.heap.size) w ⟨v, 4, l.length, l.map encK⟩) :
    Calls Try.prog 25 #[.agg #[v], .agg #[.int .i64 s, .int .i64 k, .int .i64 x]] w (Sy.Ret (.agg #[.int .i64 (getK l s k).1, .int .i64 (getK l s k).2]) w) := by
  have hl := ok_len hr
  refine Sy.calls_of Sy.lv25 Sy.tab_ok Try.func25 rfl _ Try.ntmps25 [⟨v, 4, l.length, l.map encK⟩] [.agg [.row 0], .agg [.v (.int .i64 s), .v (.int .i64 k), .v (.int .i64 x)]] rfl rfl rfl ⟨hr, trivial⟩ ?_
  ((repeat' ((conv => whnf);(first|refine zA ?_|(refine zI ?_ ?_<;> intro hh<;> first|(exfalso;omega)|skip)|(refine zl ?_ ?_<;> intro hh)|refine zq ?_|refine zv ?_|refine zu ?_|exact Sy.fin_val fun e=>rfl)));(all_goals (try conv => whnf)))
  refine Sy.call_in Sy.lv54 Sy.tab_ok Try.func54 rfl _ Try.ntmps54 Try.call54 rfl (fun _ => ?_)
  ((repeat' ((conv => whnf);(first|refine zA ?_|(refine zI ?_ ?_<;> intro hh<;> first|(exfalso;omega)|skip)|(refine zl ?_ ?_<;> intro hh)|refine zq ?_|refine zv ?_|refine zu ?_|exact Sy.fin_val fun e=>rfl)));(all_goals (try conv => whnf)))
  refine Sy.loop_inv Sy.tab_ok (fun n : Nat => [(8, .c (.v (.int .i64 n)))]) (fun _ => []) (fun n => n ≤ l.length ∧ ∀ y ∈ l.take n, ¬ (y.src = s ∧ y.key = k)) (fun n => l.length - n) 0 ⟨Nat.zero_le _, fun y hy => by rw [List.take_zero] at hy; cases hy⟩ ?_ (fun n hn => ?_)
  · ((repeat' (first|((conv => whnf);done)|((try conv => whnf);first|exact trivial|(refine And.intro ?_ ?_)|rfl|exact fun _ _ _ h=>h|exact fun _ _ _ _=>trivial)));(all_goals (try conv => whnf)))
  · obtain ⟨hn, hno⟩ := hn
    by_cases hlt : n < l.length
    · have hg := List.getElem?_eq_getElem hlt
      have hsn : l.take (n + 1) = l.take n ++ [l[n]] := List.take_succ_eq_append_getElem hlt
      generalize l[n] = y at *
      obtain ⟨c, hc⟩ : ∃ c, c = cmpK y.src y.key s k := ⟨_, rfl⟩
      have hcz := cmpK_zero y.src y.key s k
      rw [← hc] at hcz
      ((repeat' ((conv => whnf);(first|refine zA ?_|(refine zI ?_ ?_<;> intro hh<;> first|(exfalso;omega)|skip)|(refine zl ?_ ?_<;> intro hh)|refine zq ?_|refine zv ?_|refine zu ?_|exact Sy.fin_val fun e=>rfl)));(all_goals (try conv => whnf)))
      refine Sy.el_map y hg ?_
      ((repeat' ((conv => whnf);(first|refine zA ?_|(refine zI ?_ ?_<;> intro hh<;> first|(exfalso;omega)|skip)|(refine zl ?_ ?_<;> intro hh)|refine zq ?_|refine zv ?_|refine zu ?_|exact Sy.fin_val fun e=>rfl)));(all_goals (try conv => whnf)))
      refine Sy.call_in Sy.lv55 Sy.tab_ok Try.func55 rfl _ Try.ntmps55 Try.call55 rfl (fun _ => ?_)
      ((repeat' ((conv => whnf);(first|refine zA ?_|(refine zI ?_ ?_<;> intro hh<;> first|(exfalso;omega)|skip)|(refine zl ?_ ?_<;> intro hh)|refine zq ?_|refine zv ?_|refine zu ?_|exact Sy.fin_val fun e=>rfl)));(all_goals (try conv => whnf)))
      refine Sy.draw_go [] (by kernel_rfl) ?_
      intro e0
      conv => whnf
      refine zt 0 rfl ?_
      conv => whnf
      refine zt 2 rfl ?_
      conv => whnf
      refine zd1 [1] (zx rfl ?_ zy)
      conv => whnf
      refine Sy.call_val (.agg [.v (.int .i64 y.src), .v (.int .i64 y.key), .v (.int .i64 0)]) Try.call57 rfl (fun e a w' h => key_any y w') ?_
      conv => whnf
      refine ⟨(by repeat' ((conv => whnf);first|exact trivial|(refine And.intro ?_ ?_)|rfl)), ?_⟩
      refine zd1 [3] (zx rfl ?_ zy)
      conv => whnf
      refine Sy.call_in Sy.lv56 Sy.tab_ok Try.func56 rfl _ Try.ntmps56 Try.call56 rfl (fun _ => ?_)
      ((repeat' ((conv => whnf);(first|refine zA ?_|(refine zI ?_ ?_<;> intro hh<;> first|(exfalso;omega)|skip)|(refine zl ?_ ?_<;> intro hh)|refine zq ?_|refine zv ?_|refine zu ?_|exact Sy.fin_val fun e=>rfl)));(all_goals (try conv => whnf)))
      refine Sy.call_val (.c (.v (.int .i64 c))) Try.call96 rfl (fun e a w' h => by rw [hc]; exact cmpK_any y.src y.key 0 s k x w') ?_
      ((repeat' ((conv => whnf);(first|refine zA ?_|(refine zI ?_ ?_<;> intro hh<;> first|(exfalso;omega)|skip)|(refine zl ?_ ?_<;> intro hh)|refine zq ?_|refine zv ?_|refine zu ?_|exact Sy.fin_val fun e=>rfl)));(all_goals (try conv => whnf)))
      refine ⟨(by repeat' ((conv => whnf);first|exact trivial|(refine And.intro ?_ ?_)|rfl)), ?_⟩
      refine zt 4 rfl ?_
      conv => whnf
      refine zw ?_
      skip
      by_cases he : y.src = s ∧ y.key = k
      · rw [getK_hit hno hg he]
        have hc0 : c = 0 := hcz.2 he
        subst hc0
        ((repeat' ((conv => whnf);(first|refine zA ?_|(refine zI ?_ ?_<;> intro hh<;> first|(exfalso;omega)|skip)|(refine zl ?_ ?_<;> intro hh)|refine zq ?_|refine zv ?_|refine zu ?_|exact Sy.fin_val fun e=>rfl)));(all_goals (try conv => whnf)))
        refine Sy.el_map y hg ?_
        ((repeat' ((conv => whnf);(first|refine zA ?_|(refine zI ?_ ?_<;> intro hh<;> first|(exfalso;omega)|skip)|(refine zl ?_ ?_<;> intro hh)|refine zq ?_|refine zv ?_|refine zu ?_|exact Sy.fin_val fun e=>rfl)));(all_goals (try conv => whnf)))
        done
      · have hc0 : c ≠ 0 := fun h => he (hcz.1 h)
        ((repeat' ((conv => whnf);(first|refine zA ?_|(refine zI ?_ ?_<;> intro hh<;> first|(exfalso;omega)|skip)|(refine zl ?_ ?_<;> intro hh)|refine zq ?_|refine zv ?_|refine zu ?_|exact Sy.fin_val fun e=>rfl)));(all_goals (try conv => whnf)))
        refine ⟨n + 1, ⟨by omega, fun z hz => ?_⟩, by omega, ?_⟩
        · rw [hsn] at hz
          rcases List.mem_append.1 hz with hz | hz
          · exact hno z hz
          · rw [List.mem_singleton.1 hz]; exact he
        · ((repeat' (first|((conv => whnf);done)|((try conv => whnf);first|exact trivial|(refine And.intro ?_ ?_)|rfl|exact fun _ _ _ h=>h|exact fun _ _ _ _=>trivial)));(all_goals (try conv => whnf)))
    · have e : n = l.length := by omega
      subst e
      rw [List.take_length] at hno
      rw [getK_miss hno]
      ((repeat' ((conv => whnf);(first|refine zA ?_|(refine zI ?_ ?_<;> intro hh<;> first|(exfalso;omega)|skip)|(refine zl ?_ ?_<;> intro hh)|refine zq ?_|refine zv ?_|refine zu ?_|exact Sy.fin_val fun e=>rfl)));(all_goals (try conv => whnf)))
      done
end Go.Proofs.Ytmahldelmbhjfaa
