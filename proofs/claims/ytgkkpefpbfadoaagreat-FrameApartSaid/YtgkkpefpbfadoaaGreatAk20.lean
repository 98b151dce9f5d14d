/- Frame: what rises: subtasks' numbers, names. -/
import Derived.Test.YtgkkpefpbfadoaaGreatAk19
namespace Go.Proofs.YtgkkpefpbfadoaaGreat
open Go Go.RowKit
open Sy (C SV V1 Blk St XD Els)
set_option maxRecDepth 10000
def nextB {α : Type} (ok : α → Bool) (lt : α → α → Bool) (l : List α) (x : α) : Nat → Bool
 | 0 => ok x
 | n + 1 => ok x && (match l[n]? with | some y => lt y x | none => true)
theorem chain_next {α : Type} {ok : α → Bool} {lt : α → α → Bool} {l : List α} {n : Nat} {x : α} (h : l[n]? = some x) : Sn.chain ok lt (Sn.prev l n) (l.drop n) = (nextB ok lt l x n && Sn.chain ok lt (Sn.prev l (n + 1)) (l.drop (n + 1))) := by
 cases n with
 | zero => exact Sn.chain_zero h
 |succ n =>
  have hn := (List.getElem?_eq_some_iff.1 h).1
  have hg := List.getElem?_eq_getElem (show n < l.length by omega)
  rw [Sn.chain_succ hg h]
  simp only [nextB, hg]
theorem nextB_eq {α : Type} {ok : α → Bool} {lt : α → α → Bool} {l : List α} {x y : α} {n : Nat} (hy : 0 < n → l[((n : Int) - 1).toNat]? = some y) : nextB ok lt l x n = (ok x && (decide (n = 0) || lt y x)) := by
 cases n with
 | zero => simp [nextB]
 |succ n =>
  have := hy (Nat.succ_pos n)
  rw [show (((n + 1 : Nat) : Int) - 1).toNat = n by omega] at this
  simp [nextB, this]
theorem chain_end {α : Type} {ok : α → Bool} {lt : α → α → Bool} {l : List α} : Sn.chain ok lt (Sn.prev l l.length) (l.drop l.length) = true := by
 rw [List.drop_length]
 cases Sn.prev l l.length <;> rfl
theorem lessI_any (a b : Int) (w : World) : Calls Tryz.prog 154 #[.int .i64 a, .int .i64 b] w (Sy.Ret (.bool (decide (a < b))) w) := by
 refine Sy.calls_of Sy.lv154 Sy.tab_ok Tryz.func154 rfl _ Tryz.ntmps154 [] [.c (.v (.int .i64 a)), .c (.v (.int .i64 b))] rfl rfl rfl trivial ?_
 ((repeat' first|refine Y ?_|refine Y2 ?_ ?_|refine Y1 fun hh=>?_|exact Y0.mk);(all_goals (try conv => whnf)))
set_option maxHeartbeats 4000000 in
theorem tasks_any (v : Value) (l : List Int) (w : World) (hr : XD.ok (fun b => b < w.heap.size) w ⟨v, 1, l.length, l.map encI⟩) :
  Calls Tryz.prog 108 #[v] w (Sy.Ret (.bool (tasksB l)) w) := by
 have hl := ok_len hr
 refine Sy.calls_of Sy.lv108 Sy.tab_ok Tryz.func108 rfl _ Tryz.ntmps108 [⟨v, 1, l.length, l.map encI⟩] [.c (.row 0)] rfl rfl rfl ⟨hr, trivial⟩ ?_
 obtain ⟨R, hR⟩ : ∃ R, R = tasksB l := ⟨_, rfl⟩
 rw [← hR]
 ((repeat' first|refine Y ?_|refine Y2 ?_ ?_|refine Y1 fun hh=>?_|exact Y0.mk);(all_goals (try conv => whnf)))
 refine Sy.call_in Sy.lv155 Sy.tab_ok Tryz.func155 rfl _ Tryz.ntmps155 Tryz.call155 rfl (fun _ => ?_)
 ((repeat' first|refine Y ?_|refine Y2 ?_ ?_|refine Y1 fun hh=>?_|exact Y0.mk);(all_goals (try conv => whnf)))
 refine Sy.loop_inv Sy.tab_ok (fun n : Nat => [(9, .c (.v (.int .i64 n)))]) (fun _ => []) (fun n => n ≤ l.length ∧ Sn.chain _ _ (Sn.prev l n) (l.drop n) = R) (fun n => l.length - n) 0 ⟨Nat.zero_le _, hR.symm⟩ ?_ (fun n hn => ?_)
 ·((repeat' (first|((conv => whnf);done)|((try conv => whnf);first|exact trivial|(refine And.intro ?_ ?_)|rfl|exact fun _ _ _ h=>h|exact fun _ _ _ _=>trivial)));(all_goals (try conv => whnf)))
 obtain ⟨hn, hc⟩ := hn
 by_cases hlt : n < l.length
 ·have hg := List.getElem?_eq_getElem hlt
  generalize l[n] = x at *
  rw [chain_next hg] at hc
  ((repeat' first|refine Y ?_|refine Y2 ?_ ?_|refine Y1 fun hh=>?_|exact Y0.mk);(all_goals (try conv => whnf)))
  refine Sy.el_map x hg ?_
  ((repeat' first|refine Y ?_|refine Y2 ?_ ?_|refine Y1 fun hh=>?_|exact Y0.mk);(all_goals (try conv => whnf)))
  obtain ⟨y, hy⟩ : ∃ y, 0 < n → l[((n : Int) - 1).toNat]? = some y := by
   by_cases h0 : 0 < n
   ·exact ⟨l[((n : Int) - 1).toNat]'(by omega), fun _ => List.getElem?_eq_getElem (by omega)⟩
   ·exact ⟨0, fun h => absurd h h0⟩
  rw [nextB_eq hy] at hc
  all_goals (refine Sy.draw_go [] (by kernel_rfl) ?_; intro e0; conv => whnf)
  all_goals (refine zt 0 rfl ?_)
  all_goals (conv => whnf)
  all_goals (refine zt 1 rfl ?_)
  all_goals (conv => whnf)
  all_goals (refine zt 2 rfl ?_)
  all_goals (conv => whnf)
  all_goals (refine zd1 [3] (zx rfl ?_ zy))
  all_goals (conv => whnf)
  all_goals (refine Sy.call_val (.c (.v (.bool (decide (taskP x))))) Tryz.call106 rfl (fun e a w' h => task_any x w') ?_)
  all_goals (conv => whnf)
  all_goals (refine Yk ?_)
  all_goals (refine zt 4 rfl ?_)
  all_goals (((repeat' first|refine Y ?_|refine Y2 ?_ ?_|refine Y1 fun hh=>?_|exact Y0.mk);(all_goals (try conv => whnf))))
  all_goals (refine zt 5 rfl ?_)
  all_goals (conv => whnf)
  all_goals (refine zt 6 rfl ?_)
  all_goals (((repeat' first|refine Y ?_|refine Y2 ?_ ?_|refine Y1 fun hh=>?_|exact Y0.mk);(all_goals (try conv => whnf))))
  all_goals (refine zt 7 rfl ?_)
  all_goals (((repeat' first|refine Y ?_|refine Y2 ?_ ?_|refine Y1 fun hh=>?_|exact Y0.mk);(all_goals (try conv => whnf))))
  all_goals (refine zt 8 rfl ?_)
  all_goals (((repeat' first|refine Y ?_|refine Y2 ?_ ?_|refine Y1 fun hh=>?_|exact Y0.mk);(all_goals (try conv => whnf))))
  all_goals (refine zt 9 rfl ?_)
  all_goals (((repeat' first|refine Y ?_|refine Y2 ?_ ?_|refine Y1 fun hh=>?_|exact Y0.mk);(all_goals (try conv => whnf))))
  all_goals (refine zt 10 rfl ?_)
  all_goals (((repeat' first|refine Y ?_|refine Y2 ?_ ?_|refine Y1 fun hh=>?_|exact Y0.mk);(all_goals (try conv => whnf))))
  all_goals (refine zt 11 rfl ?_)
  all_goals (((repeat' first|refine Y ?_|refine Y2 ?_ ?_|refine Y1 fun hh=>?_|exact Y0.mk);(all_goals (try conv => whnf))))
  all_goals (refine zt 12 rfl ?_)
  all_goals (((repeat' first|refine Y ?_|refine Y2 ?_ ?_|refine Y1 fun hh=>?_|exact Y0.mk);(all_goals (try conv => whnf))))
  all_goals (refine zt 13 rfl ?_)
  all_goals (((repeat' first|refine Y ?_|refine Y2 ?_ ?_|refine Y1 fun hh=>?_|exact Y0.mk);(all_goals (try conv => whnf))))
  all_goals (refine zt 14 rfl ?_)
  all_goals (((repeat' first|refine Y ?_|refine Y2 ?_ ?_|refine Y1 fun hh=>?_|exact Y0.mk);(all_goals (try conv => whnf))))
  all_goals (refine zt 15 rfl ?_)
  all_goals (((repeat' first|refine Y ?_|refine Y2 ?_ ?_|refine Y1 fun hh=>?_|exact Y0.mk);(all_goals (try conv => whnf))))
  all_goals (try (refine Sy.el_map y (hy (by omega)) ?_))
  all_goals (conv => whnf)
  all_goals (refine zt 16 rfl ?_)
  all_goals (((repeat' first|refine Y ?_|refine Y2 ?_ ?_|refine Y1 fun hh=>?_|exact Y0.mk);(all_goals (try conv => whnf))))
  all_goals (refine zd1 [17] (zx rfl ?_ zy))
  all_goals (conv => whnf)
  all_goals ((try (refine zA ?_;conv => whnf)))
  all_goals (try (refine Sy.call_val (.c (.v (.bool (decide (y < x))))) Tryz.call154 rfl (fun e a w' h => lessI_any y x w') ?_))
  all_goals (try conv => whnf)
  all_goals (refine Yk ?_)
  all_goals (refine zt 18 rfl ?_)
  all_goals (((repeat' first|refine Y ?_|refine Y2 ?_ ?_|refine Y1 fun hh=>?_|exact Y0.mk);(all_goals (try conv => whnf))))
  all_goals (refine zt 19 rfl ?_)
  all_goals (((repeat' first|refine Y ?_|refine Y2 ?_ ?_|refine Y1 fun hh=>?_|exact Y0.mk);(all_goals (try conv => whnf))))
  all_goals (refine zt 20 rfl ?_)
  all_goals (((repeat' first|refine Y ?_|refine Y2 ?_ ?_|refine Y1 fun hh=>?_|exact Y0.mk);(all_goals (try conv => whnf))))
  all_goals (refine zw ?_)
  skip
  all_goals ((repeat' first|refine Y ?_|refine Y2 ?_ ?_|refine Y1 fun hh=>?_|exact Y0.mk);(all_goals (try conv => whnf)))
  all_goals first
   | exact Sy.fin_val fun e => congrArg Value.bool (by rw [← hc]; simp [*] <;> intros <;> omega)
   | (refine ⟨n + 1, ⟨by omega, by rw [← hc]; simp [*] <;> intros <;> omega⟩, by omega, ?_⟩; ((repeat' (first|((conv => whnf);done)|((try conv => whnf);first|exact trivial|(refine And.intro ?_ ?_)|rfl|exact fun _ _ _ h=>h|exact fun _ _ _ _=>trivial)));(all_goals (try conv => whnf))))
 ·have e : n = l.length := by omega
  subst e
  rw [chain_end] at hc
  subst hc
  ((repeat' first|refine Y ?_|refine Y2 ?_ ?_|refine Y1 fun hh=>?_|exact Y0.mk);(all_goals (try conv => whnf)))
theorem okName_any (n : Sn.Tx) (w : World) : Calls Tryz.prog 103 #[.agg #[.int .i64 n.sink, .int .i64 n.att, .int .i64 n.ser]] w (Sy.Ret (.bool (Sn.okT n)) w) := by
 refine Sy.calls_of Sy.lv103 Sy.tab_ok Tryz.func103 rfl _ Tryz.ntmps103 [] [.agg [.v (.int .i64 n.sink), .v (.int .i64 n.att), .v (.int .i64 n.ser)]] rfl rfl rfl trivial ?_
 unfold Sn.okT
 ((repeat' first|refine Y ?_|refine Y2 ?_ ?_|refine Y1 fun hh=>?_|exact Y0.mk);(all_goals (try conv => whnf)))
 refine Sy.call_val (.c (.v (.int .i64 (if Sn.okN n then 0 else 2)))) Tryz.call104 rfl (fun e a w' h => Sn.name_any n w') ?_
 by_cases h : Sn.okN n
 ·rw [if_pos h, decide_eq_true h]
  ((repeat' first|refine Y ?_|refine Y2 ?_ ?_|refine Y1 fun hh=>?_|exact Y0.mk);(all_goals (try conv => whnf)))
 ·rw [if_neg h, decide_eq_false h]
  ((repeat' first|refine Y ?_|refine Y2 ?_ ?_|refine Y1 fun hh=>?_|exact Y0.mk);(all_goals (try conv => whnf)))
theorem ltName_any (a b : Sn.Tx) (w : World) : Calls Tryz.prog 101 #[.agg #[.int .i64 a.sink, .int .i64 a.att, .int .i64 a.ser], .agg #[.int .i64 b.sink, .int .i64 b.att, .int .i64 b.ser]] w (Sy.Ret (.bool (Sn.ltT a b)) w) := by
 refine Sy.calls_of Sy.lv101 Sy.tab_ok Tryz.func101 rfl _ Tryz.ntmps101 [] [.agg [.v (.int .i64 a.sink), .v (.int .i64 a.att), .v (.int .i64 a.ser)], .agg [.v (.int .i64 b.sink), .v (.int .i64 b.att), .v (.int .i64 b.ser)]] rfl rfl rfl trivial ?_
 ((repeat' first|refine Y ?_|refine Y2 ?_ ?_|refine Y1 fun hh=>?_|exact Y0.mk);(all_goals (try conv => whnf)))
 refine Sy.call_val (.c (.v (.int .i64 (Sn.cmpT a b)))) Tryz.call102 rfl (fun e a' w' h => Sn.cmpT_any a b w') ?_
 ((repeat' first|refine Y ?_|refine Y2 ?_ ?_|refine Y1 fun hh=>?_|exact Y0.mk);(all_goals (try conv => whnf)))
 exact Sy.fin_val fun e => fbool ((decide_eq_true_iff).trans (Sn.cmpT_lt a b))
attribute [local irreducible] Sn.okT Sn.ltT
set_option maxHeartbeats 4000000 in
theorem risesN_any (v : Value) (l : List Sn.Tx) (w : World) (hr : XD.ok (fun b => b < w.heap.size) w ⟨v, 3, l.length, l.map Sn.encT⟩) :
  Calls Tryz.prog 105 #[.agg #[.func (.func 101) #[] #[], .func (.func 103) #[] #[]], v] w (Sy.Ret (.bool (Sn.chain Sn.okT Sn.ltT none l)) w) := by
 have hl := ok_len hr
 refine Sy.calls_of Sy.lv105 Sy.tab_ok Tryz.func105 rfl _ Tryz.ntmps105 [⟨v, 3, l.length, l.map Sn.encT⟩] [.agg [.v (.func (.func 101) #[] #[]), .v (.func (.func 103) #[] #[])], .c (.row 0)] rfl rfl rfl ⟨hr, trivial⟩ ?_
 obtain ⟨R, hR⟩ : ∃ R, R = Sn.chain Sn.okT Sn.ltT none l := ⟨_, rfl⟩
 rw [← hR]
 ((repeat' first|refine Y ?_|refine Y2 ?_ ?_|refine Y1 fun hh=>?_|exact Y0.mk);(all_goals (try conv => whnf)))
 refine Sy.loop_inv Sy.tab_ok (fun n : Nat => [(9, .c (.v (.int .i64 n)))]) (fun _ => []) (fun n => n ≤ l.length ∧ Sn.chain _ _ (Sn.prev l n) (l.drop n) = R) (fun n => l.length - n) 0 ⟨Nat.zero_le _, hR.symm⟩ ?_ (fun n hn => ?_)
 ·((repeat' (first|((conv => whnf);done)|((try conv => whnf);first|exact trivial|(refine And.intro ?_ ?_)|rfl|exact fun _ _ _ h=>h|exact fun _ _ _ _=>trivial)));(all_goals (try conv => whnf)))
 obtain ⟨hn, hc⟩ := hn
 by_cases hlt : n < l.length
 ·have hg := List.getElem?_eq_getElem hlt
  generalize l[n] = x at *
  rw [chain_next hg] at hc
  ((repeat' first|refine Y ?_|refine Y2 ?_ ?_|refine Y1 fun hh=>?_|exact Y0.mk);(all_goals (try conv => whnf)))
  refine Sy.el_map x hg ?_
  ((repeat' first|refine Y ?_|refine Y2 ?_ ?_|refine Y1 fun hh=>?_|exact Y0.mk);(all_goals (try conv => whnf)))
  obtain ⟨y, hy⟩ : ∃ y, 0 < n → l[((n : Int) - 1).toNat]? = some y := by
   by_cases h0 : 0 < n
   ·exact ⟨l[((n : Int) - 1).toNat]'(by omega), fun _ => List.getElem?_eq_getElem (by omega)⟩
   ·exact ⟨x, fun h => absurd h h0⟩
  rw [nextB_eq hy] at hc
  all_goals (refine Sy.draw_go [] (by kernel_rfl) ?_; intro e0; conv => whnf)
  all_goals (refine zt 0 rfl ?_)
  all_goals (conv => whnf)
  all_goals (refine zt 1 rfl ?_)
  all_goals (conv => whnf)
  all_goals (refine zt 2 rfl ?_)
  all_goals (conv => whnf)
  all_goals (refine zd1 [3] (zx rfl ?_ zy))
  all_goals (conv => whnf)
  all_goals (refine Sy.call_val (.c (.v (.bool (Sn.okT x)))) Tryz.call103 rfl (fun e a w' h => okName_any x w') ?_)
  all_goals (conv => whnf)
  all_goals (refine Yk ?_)
  all_goals (refine zt 4 rfl ?_)
  all_goals (((repeat' first|refine Y ?_|refine Y2 ?_ ?_|refine Y1 fun hh=>?_|exact Y0.mk);(all_goals (try conv => whnf))))
  all_goals (refine zt 5 rfl ?_)
  all_goals (conv => whnf)
  all_goals (refine zt 6 rfl ?_)
  all_goals (((repeat' first|refine Y ?_|refine Y2 ?_ ?_|refine Y1 fun hh=>?_|exact Y0.mk);(all_goals (try conv => whnf))))
  all_goals (refine zt 7 rfl ?_)
  all_goals (((repeat' first|refine Y ?_|refine Y2 ?_ ?_|refine Y1 fun hh=>?_|exact Y0.mk);(all_goals (try conv => whnf))))
  all_goals (refine zt 8 rfl ?_)
  all_goals (((repeat' first|refine Y ?_|refine Y2 ?_ ?_|refine Y1 fun hh=>?_|exact Y0.mk);(all_goals (try conv => whnf))))
  all_goals (refine zt 9 rfl ?_)
  all_goals (((repeat' first|refine Y ?_|refine Y2 ?_ ?_|refine Y1 fun hh=>?_|exact Y0.mk);(all_goals (try conv => whnf))))
  all_goals (refine zt 10 rfl ?_)
  all_goals (((repeat' first|refine Y ?_|refine Y2 ?_ ?_|refine Y1 fun hh=>?_|exact Y0.mk);(all_goals (try conv => whnf))))
  all_goals (refine zt 11 rfl ?_)
  all_goals (((repeat' first|refine Y ?_|refine Y2 ?_ ?_|refine Y1 fun hh=>?_|exact Y0.mk);(all_goals (try conv => whnf))))
  all_goals (refine zt 12 rfl ?_)
  all_goals (((repeat' first|refine Y ?_|refine Y2 ?_ ?_|refine Y1 fun hh=>?_|exact Y0.mk);(all_goals (try conv => whnf))))
  all_goals (refine zt 13 rfl ?_)
  all_goals (((repeat' first|refine Y ?_|refine Y2 ?_ ?_|refine Y1 fun hh=>?_|exact Y0.mk);(all_goals (try conv => whnf))))
  all_goals (refine zt 14 rfl ?_)
  all_goals (((repeat' first|refine Y ?_|refine Y2 ?_ ?_|refine Y1 fun hh=>?_|exact Y0.mk);(all_goals (try conv => whnf))))
  all_goals (refine zt 15 rfl ?_)
  all_goals (((repeat' first|refine Y ?_|refine Y2 ?_ ?_|refine Y1 fun hh=>?_|exact Y0.mk);(all_goals (try conv => whnf))))
  all_goals (try (refine Sy.el_map y (hy (by omega)) ?_))
  all_goals (conv => whnf)
  all_goals (refine zt 16 rfl ?_)
  all_goals (((repeat' first|refine Y ?_|refine Y2 ?_ ?_|refine Y1 fun hh=>?_|exact Y0.mk);(all_goals (try conv => whnf))))
  all_goals (refine zd1 [17] (zx rfl ?_ zy))
  all_goals (conv => whnf)
  all_goals ((try (refine zA ?_;conv => whnf)))
  all_goals (try (refine Sy.call_val (.c (.v (.bool (Sn.ltT y x)))) Tryz.call101 rfl (fun e a w' h => ltName_any y x w') ?_))
  all_goals (try conv => whnf)
  all_goals (refine Yk ?_)
  all_goals (refine zt 18 rfl ?_)
  all_goals (((repeat' first|refine Y ?_|refine Y2 ?_ ?_|refine Y1 fun hh=>?_|exact Y0.mk);(all_goals (try conv => whnf))))
  all_goals (refine zt 19 rfl ?_)
  all_goals (((repeat' first|refine Y ?_|refine Y2 ?_ ?_|refine Y1 fun hh=>?_|exact Y0.mk);(all_goals (try conv => whnf))))
  all_goals (refine zt 20 rfl ?_)
  all_goals (((repeat' first|refine Y ?_|refine Y2 ?_ ?_|refine Y1 fun hh=>?_|exact Y0.mk);(all_goals (try conv => whnf))))
  all_goals (refine zw ?_)
  skip
  all_goals ((repeat' first|refine Y ?_|refine Y2 ?_ ?_|refine Y1 fun hh=>?_|exact Y0.mk);(all_goals (try conv => whnf)))
  all_goals first
   | exact Sy.fin_val fun e => congrArg Value.bool (by rw [← hc]; simp [*] <;> intros <;> omega)
   | (refine ⟨n + 1, ⟨by omega, by rw [← hc]; simp [*] <;> intros <;> omega⟩, by omega, ?_⟩; ((repeat' (first|((conv => whnf);done)|((try conv => whnf);first|exact trivial|(refine And.intro ?_ ?_)|rfl|exact fun _ _ _ h=>h|exact fun _ _ _ _=>trivial)));(all_goals (try conv => whnf))))
 ·have e : n = l.length := by omega
  subst e
  rw [chain_end] at hc
  subst hc
  ((repeat' first|refine Y ?_|refine Y2 ?_ ?_|refine Y1 fun hh=>?_|exact Y0.mk);(all_goals (try conv => whnf)))
end Go.Proofs.YtgkkpefpbfadoaaGreat
