/- Snap: groups and whose they are. -/
import Derived.Test.YtgkkpefpbfadoaaGreatAk22
namespace Go.Proofs.YtgkkpefpbfadoaaGreat.Sn
open Go Go.RowKit
open Sy (C SV V1 Blk St XD Els)
set_option maxRecDepth 10000
theorem mod8 {k : Int} (_ : 0 ≤ k) : 0 ≤ k % 8 ∧ k % 8 < 8 := ⟨Int.emod_nonneg _ (by decide), Int.emod_lt_of_pos _ (by decide)⟩
theorem mine_any (s k v i n : Int) (w : World) : Calls Tryz.prog 151 #[.agg #[.int .i64 s, .int .i64 k, .int .i64 v], .int .i64 i, .int .i64 n] w (Sy.Ret (.bool (decide (mineP s k i n))) w) := by
 refine Sy.calls_of Sy.lv151 Sy.tab_ok Tryz.func151 rfl _ Tryz.ntmps151 [] [.agg [.v (.int .i64 s), .v (.int .i64 k), .v (.int .i64 v)], .c (.v (.int .i64 i)), .c (.v (.int .i64 n))] rfl rfl rfl trivial ?_
 ((repeat' first|refine Y ?_|refine Y2 ?_ ?_|refine Y1 fun hh=>?_|exact Y0.mk);(all_goals (try conv => whnf)))
 refine Sy.call_in Sy.lv190 Sy.tab_ok Tryz.func190 rfl _ Tryz.ntmps190 Tryz.call190 rfl (fun _ => ?_)
 ((repeat' first|refine Y ?_|refine Y2 ?_ ?_|refine Y1 fun hh=>?_|exact Y0.mk);(all_goals (try conv => whnf)))
 refine Sy.call_val (.c (.v (.int .i64 (if recP s k then 0 else 150)))) Tryz.call187 rfl (fun e a w' h => rec_any s k v w') ?_
 by_cases h1 : recP s k
 ·have h1' := h1
  unfold recP at h1'
  have hm := mod8 h1'.2.2.1
  rw [if_pos h1]
  ((repeat' first|refine Y ?_|refine Y2 ?_ ?_|refine Y1 fun hh=>?_|exact Y0.mk);(all_goals (try conv => whnf)))
  refine Sy.rem_in (by omega) (by omega) ?_
  ((repeat' first|refine Y ?_|refine Y2 ?_ ?_|refine Y1 fun hh=>?_|exact Y0.mk);(all_goals (try conv => whnf)))
  refine Sy.call_val (.c (.v (.bool (decide (shareP i n))))) Tryz.call184 rfl (fun e a w' h => share_any i n w') ?_
  by_cases h2 : shareP i n
  ·have h2' := h2
   unfold shareP at h2'
   rw [decide_eq_true h2]
   ((repeat' first|refine Y ?_|refine Y2 ?_ ?_|refine Y1 fun hh=>?_|exact Y0.mk);(all_goals (try conv => whnf)))
   refine Sy.call_val (.c (.v (.int .i64 (ownW (k % 8) n)))) Tryz.call191 rfl (fun e a w' h => owner_any (k % 8) n w' hm (by omega)) ?_
   ((repeat' first|refine Y ?_|refine Y2 ?_ ?_|refine Y1 fun hh=>?_|exact Y0.mk);(all_goals (try conv => whnf)))
   exact Sy.fin_val (fun e => congrArg Value.bool (by
    rw [Bool.eq_iff_iff, beq_iff_eq, decide_eq_true_iff]
    exact ⟨fun h => ⟨h1, h2, h⟩, fun h => h.2.2⟩))
  ·rw [decide_eq_false h2, decide_eq_false (fun h : mineP s k i n => h2 h.2.1)]
   ((repeat' first|refine Y ?_|refine Y2 ?_ ?_|refine Y1 fun hh=>?_|exact Y0.mk);(all_goals (try conv => whnf)))
   all_goals done
 ·rw [if_neg h1, decide_eq_false (fun h : mineP s k i n => h1 h.1)]
  ((repeat' first|refine Y ?_|refine Y2 ?_ ?_|refine Y1 fun hh=>?_|exact Y0.mk);(all_goals (try conv => whnf)))
  all_goals done
def ownF (i n : Int) : List Int := if shareP i n then ownL i n else []
def ownE (i n : Int) : Int := if shareP i n then 0 else 2
attribute [local irreducible] ownW
set_option maxHeartbeats 2000000 in
theorem owned_any (i n : Int) (w : World) :
  Calls Tryz.prog 147 #[.int .i64 i, .int .i64 n] w (Sy.RetRows Sy.noRow (fun _ : Unit => True) (fun _ => [⟨3, 1, (ownF i n).length, (ownF i n).map encI⟩]) (fun _ vs => .tuple #[vs.headD undef, .int .i64 (ownE i n)]) w) := by
 refine Sy.calls_of Sy.lv147 Sy.tab_ok Tryz.func147 rfl _ Tryz.ntmps147 [] [.c (.v (.int .i64 i)), .c (.v (.int .i64 n))] rfl rfl rfl trivial ?_
 ((repeat' first|refine Y ?_|refine Y2 ?_ ?_|refine Y1 fun hh=>?_|exact Y0.mk);(all_goals (try conv => whnf)))
 refine Sy.call_val (.c (.v (.bool (decide (shareP i n))))) Tryz.call184 rfl (fun e a w' h => share_any i n w') ?_
 unfold ownF ownE
 by_cases h : shareP i n
 ·rw [if_pos h, if_pos h, decide_eq_true h]
  unfold shareP at h
  ((repeat' first|refine Y ?_|refine Y2 ?_ ?_|refine Y1 fun hh=>?_|exact Y0.mk);(all_goals (try conv => whnf)))
  refine Sy.call_in Sy.lv186 Sy.tab_ok Tryz.func186 rfl _ Tryz.ntmps186 Tryz.call186 rfl (fun _ => ?_)
  ((repeat' first|refine Y ?_|refine Y2 ?_ ?_|refine Y1 fun hh=>?_|exact Y0.mk);(all_goals (try conv => whnf)))
  refine Sy.call_in Sy.lv185 Sy.tab_ok Tryz.func185 rfl _ Tryz.ntmps185 Tryz.call185 rfl (fun _ => ?_)
  ((repeat' first|refine Y ?_|refine Y2 ?_ ?_|refine Y1 fun hh=>?_|exact Y0.mk);(all_goals (try conv => whnf)))
  refine Sy.call_in Sy.lv207 Sy.tab_ok Tryz.func207 rfl _ Tryz.ntmps207 Tryz.call207 rfl (fun _ => ?_)
  ((repeat' first|refine Y ?_|refine Y2 ?_ ?_|refine Y1 fun hh=>?_|exact Y0.mk);(all_goals (try conv => whnf)))
  refine Sy.sem_subF (Sy.sub_rowc 3 0 3 1 rfl rfl) ?_
  conv => whnf
  refine Sy.sem_range Sy.lv208 Sy.tab_ok _ rfl rfl Tryz.func208 rfl Tryz.ntmps208 Tryz.call208 rfl (fun _ _ => ?_)
  ((repeat' first|refine Y ?_|refine Y2 ?_ ?_|refine Y1 fun hh=>?_|exact Y0.mk);(all_goals (try conv => whnf)))
  refine Sy.loop_inv Sy.tab_ok (fun m : Nat => [(5, .c (.v (.int .i64 m)))]) (fun m => [(3, .cells 40 [.row 4]), (4, .row 3 1 (ownN i n m).length (.vs ((ownN i n m).map encI)))]) (fun m => m ≤ 8) (fun m => 8 - m) 0 (Nat.zero_le _) ?_ (fun m hm => ?_)
  ·rw [show ownN i n 0 = [] by rfl]
   ((repeat' (first|((conv => whnf);done)|((try conv => whnf);first|exact trivial|(refine And.intro ?_ ?_)|rfl|exact fun _ _ _ h=>h|exact fun _ _ _ _=>trivial)));(all_goals (try conv => whnf)))
  ·have hl := ownN_len i n m
   have hs := ownN_succ i n m
   ((repeat' first|refine Y ?_|refine Y2 ?_ ?_|refine Y1 fun hh=>?_|exact Y0.mk);(all_goals (try conv => whnf)))
   ·have hm8 : m < 8 := by omega
    by_cases h5 : ownW m n = i
    ·have hb : (ownW m n == i) = true := beq_iff_eq.2 h5
     rw [if_pos h5] at hs
     refine Sy.draw_go [3,4,5] (by kernel_rfl) ?_
     intro e0
     conv => whnf
     refine zt 0 rfl ?_
     conv => whnf
     refine zt 1 rfl ?_
     conv => whnf
     refine zt 3 rfl ?_
     conv => whnf
     refine zd1 [2] (zx rfl ?_ zy)
     conv => whnf
     refine Sy.call_val (.c (.v (.int .i64 (ownW m n)))) Tryz.call191 rfl (fun e a w' _ => owner_any m n w' (by omega) (by omega)) ?_
     conv => whnf
     refine Yk ?_
     refine zt 4 rfl ?_
     ((repeat' first|refine Y ?_|refine Y2 ?_ ?_|refine Y1 fun hh=>?_|exact Y0.mk);(all_goals (try conv => whnf)))
     refine zt 5 rfl ?_
     conv => whnf
     refine zt 6 rfl ?_
     ((repeat' first|refine Y ?_|refine Y2 ?_ ?_|refine Y1 fun hh=>?_|exact Y0.mk);(all_goals (try conv => whnf)))
     refine zt 7 rfl ?_
     ((repeat' first|refine Y ?_|refine Y2 ?_ ?_|refine Y1 fun hh=>?_|exact Y0.mk);(all_goals (try conv => whnf)))
     refine zd1 [8] (zx rfl ?_ zy)
     conv => whnf
     (try (refine zA ?_;conv => whnf))
     refine Sy.yield_in Sy.tab_ok rfl rfl rfl rfl rfl (fun _ => ?_)
     ((repeat' first|refine Y ?_|refine Y2 ?_ ?_|refine Y1 fun hh=>?_|exact Y0.mk);(all_goals (try conv => whnf)))
     refine Sy.need_app 8 rfl ⟨by omega, by omega⟩ ?_
     conv => whnf
     refine Yk ?_
     refine zt 9 rfl ?_
     ((repeat' first|refine Y ?_|refine Y2 ?_ ?_|refine Y1 fun hh=>?_|exact Y0.mk);(all_goals (try conv => whnf)))
     refine zt 10 rfl ?_
     ((repeat' first|refine Y ?_|refine Y2 ?_ ?_|refine Y1 fun hh=>?_|exact Y0.mk);(all_goals (try conv => whnf)))
     refine zw ?_
     skip
     ((repeat' first|refine Y ?_|refine Y2 ?_ ?_|refine Y1 fun hh=>?_|exact Y0.mk);(all_goals (try conv => whnf)))
     refine ⟨m + 1, by omega, by omega, ?_⟩
     rw [hs]
     ((repeat' (first|((conv => whnf);done)|((try conv => whnf);first|exact trivial|(refine And.intro ?_ ?_)|rfl|exact fun _ _ _ h=>h|exact fun _ _ _ _=>trivial)));(all_goals (try conv => whnf)))
     all_goals simp [encI]
    ·have hb : (ownW m n == i) = false := beq_eq_false_iff_ne.2 h5
     rw [if_neg h5, List.append_nil] at hs
     refine Sy.draw_go [] (by kernel_rfl) ?_
     intro e0
     conv => whnf
     refine zt 0 rfl ?_
     conv => whnf
     refine zt 1 rfl ?_
     conv => whnf
     refine zt 3 rfl ?_
     conv => whnf
     refine zd1 [2] (zx rfl ?_ zy)
     conv => whnf
     refine Sy.call_val (.c (.v (.int .i64 (ownW m n)))) Tryz.call191 rfl (fun e a w' _ => owner_any m n w' (by omega) (by omega)) ?_
     conv => whnf
     refine Yk ?_
     refine zt 4 rfl ?_
     ((repeat' first|refine Y ?_|refine Y2 ?_ ?_|refine Y1 fun hh=>?_|exact Y0.mk);(all_goals (try conv => whnf)))
     refine zt 5 rfl ?_
     conv => whnf
     refine zt 6 rfl ?_
     ((repeat' first|refine Y ?_|refine Y2 ?_ ?_|refine Y1 fun hh=>?_|exact Y0.mk);(all_goals (try conv => whnf)))
     refine zt 7 rfl ?_
     ((repeat' first|refine Y ?_|refine Y2 ?_ ?_|refine Y1 fun hh=>?_|exact Y0.mk);(all_goals (try conv => whnf)))
     refine zd1 [8] (zx rfl ?_ zy)
     conv => whnf
     (try (refine zA ?_;conv => whnf))
     refine Yk ?_
     refine zt 9 rfl ?_
     ((repeat' first|refine Y ?_|refine Y2 ?_ ?_|refine Y1 fun hh=>?_|exact Y0.mk);(all_goals (try conv => whnf)))
     refine zt 10 rfl ?_
     ((repeat' first|refine Y ?_|refine Y2 ?_ ?_|refine Y1 fun hh=>?_|exact Y0.mk);(all_goals (try conv => whnf)))
     refine zw ?_
     skip
     ((repeat' first|refine Y ?_|refine Y2 ?_ ?_|refine Y1 fun hh=>?_|exact Y0.mk);(all_goals (try conv => whnf)))
     refine ⟨m + 1, by omega, by omega, ?_⟩
     rw [hs]
     ((repeat' (first|((conv => whnf);done)|((try conv => whnf);first|exact trivial|(refine And.intro ?_ ?_)|rfl|exact fun _ _ _ h=>h|exact fun _ _ _ _=>trivial)));(all_goals (try conv => whnf)))
   ·have e : m = 8 := by omega
    subst e
    rw [show ownN i n 8 = ownL i n from rfl]
    ((repeat' first|refine Y ?_|refine Y2 ?_ ?_|refine Y1 fun hh=>?_|exact Y0.mk);(all_goals (try conv => whnf)))
    exact Sy.fin_r1 (.row 4) rfl
 ·rw [if_neg h, if_neg h, decide_eq_false h]
  ((repeat' first|refine Y ?_|refine Y2 ?_ ?_|refine Y1 fun hh=>?_|exact Y0.mk);(all_goals (try conv => whnf)))
  exact Sy.fin_r1 (.v (.slice none 0 0)) ⟨rfl, rfl⟩
end Go.Proofs.YtgkkpefpbfadoaaGreat.Sn
