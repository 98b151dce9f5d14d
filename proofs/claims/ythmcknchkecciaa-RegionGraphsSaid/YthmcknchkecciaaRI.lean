/- Region: the law Numbers. -/
import Derived.Test.YthmcknchkecciaaRH
namespace Go.Proofs.Ythmcknchkecciaa
open Go Go.RowKit
open Sy (C SV V1 Blk St XD Els)
set_option maxRecDepth 10000

theorem subC_add (g : List Opr) (i k : Nat) : subC g i k = subC g i 0 + k := by unfold subC; exact subN_len g i k
theorem taskN_skip {g : List Opr} {i j : Nat} (h : j ≠ i) : ∀ k, taskN g [(i : Int)] j k = taskN g [(i : Int)] j 0
  | 0 => rfl
  | k + 1 => by
    rw [taskN_k, if_neg (by simp; omega), List.append_nil, taskN_skip h k]
theorem taskN_ahead {g : List Opr} {i : Nat} : ∀ j, j ≤ i → taskN g [(i : Int)] j 0 = []
  | 0, _ => by unfold taskN; rw [subN_zero]; exact pick_nil _
  | j + 1, h => by rw [taskN_i, taskN_skip (by omega), taskN_ahead j (by omega)]
def runN (s k : Nat) : List Int := (List.range k).map fun j : Nat => ((s + j : Nat) : Int)
theorem runN_succ (s k : Nat) : runN s (k + 1) = runN s k ++ [((s + k : Nat) : Int)] := by unfold runN; rw [List.range_succ, List.map_append]; rfl
theorem runN_len (s k : Nat) : (runN s k).length = k := by simp [runN]
theorem runN_get {s k j : Nat} (h : j < k) : (runN s k)[j]? = some ((s + j : Nat) : Int) := by unfold runN; rw [List.getElem?_map, List.getElem?_range h]; rfl
theorem taskN_at (g : List Opr) (i : Nat) : ∀ k, taskN g [(i : Int)] i k = runN (subC g i 0) k
  | 0 => taskN_ahead i (Nat.le_refl i)
  | k + 1 => by
    have h := subC_add g i k
    rw [taskN_k, if_pos (by simp), taskN_at g i k, runN_succ, h]
theorem taskN_behind {g : List Opr} {i : Nat} : ∀ j, taskN g [(i : Int)] (i + 1 + j) 0 = runN (subC g i 0) (widN g i)
  | 0 => by rw [Nat.add_zero, taskN_i, taskN_at]
  | j + 1 => by rw [show i + 1 + (j + 1) = (i + 1 + j) + 1 by omega, taskN_i, taskN_skip (by omega), taskN_behind j]
theorem tasks_one {g : List Opr} {i : Nat} (hi : i < g.length) : tasksL g [(i : Int)] = runN (subC g i 0) (widN g i) := by
  have := taskN_behind (g := g) (i := i) (g.length - (i + 1))
  rw [show i + 1 + (g.length - (i + 1)) = g.length by omega] at this
  rw [← this]
  unfold taskN tasksL subsL
  rfl
theorem subs_all {g : List Opr} (h : (checkV g).2 = 0) : subtasks g = (subC g g.length 0 : Int) := by
  unfold subtasks subC
  rw [if_pos h]
  exact wide_subs _ (Nat.le_refl _) (check_good h)
theorem subC_mono {g : List Opr} {i : Nat} : ∀ j, subC g i 0 ≤ subC g (i + j) 0
  | 0 => Nat.le_refl _
  | j + 1 => by
    have := subC_mono (g := g) (i := i) j
    have h2 := subC_add g (i + j) (widN g (i + j))
    rw [show i + (j + 1) = (i + j) + 1 by omega, subC_i]
    omega
theorem subC_lt {g : List Opr} {i k : Nat} (hi : i < g.length) (hk : k < widN g i) : subC g i k < subC g g.length 0 := by
  have h1 := subC_mono (g := g) (i := i + 1) (g.length - (i + 1))
  rw [show i + 1 + (g.length - (i + 1)) = g.length by omega, subC_i] at h1
  have h2 := subC_add g i (widN g i)
  have h3 := subC_add g i k
  omega
theorem op_at {g : List Opr} (h : (checkV g).2 = 0) {i k : Nat} (hi : i < g.length) (hk : k < widN g i) : askE g (subC g i k : Int) (subtasks g) = 0 ∧ opV g (subC g i k : Int) = (i, k) := by
  have h1 := subC_lt hi hk
  have ha : askE g (subC g i k : Int) (subtasks g) = 0 := by
    unfold askE
    rw [if_pos h, subs_all h, if_neg (by omega)]
  refine ⟨ha, ?_⟩
  unfold opV
  rw [if_pos ha, Int.toNat_natCast, show (subsL g)[subC g i k]? = some (i, k) from subsL_at hi hk]
  rfl
attribute [local irreducible] checkV regOf subN pick taskN subC ofL tasksL subtasks askE opV opsC thereB tasksV
set_option maxHeartbeats 4000000 in
theorem numbers_any (v : Value) (gl : List OpV) (w : World) (hr : GOk (fun b => b < w.heap.size) w v gl) :
    Calls Try.prog 5 #[.agg #[v]] w (Sy.Ret (.bool true) w) := by
  have hone := hr.one
  refine Sy.calls_of Sy.lv5 Sy.tab_ok Try.func5 rfl _ Try.ntmps5 [] [.agg [.v v]] rfl (by simp [Sy.allLt, SV.lt, Sy.ltAll, C.lt, hone]) rfl trivial ?_
  ((repeat' ((conv => whnf);(first|refine zA ?_|(refine zI ?_ ?_<;> intro hh<;> first|(exfalso;omega)|skip)|(refine zl ?_ ?_<;> intro hh)|refine zq ?_|refine zv ?_|exact Sy.fin_val fun e=>rfl)));(all_goals (try conv => whnf)))
  refine Sy.call_val (.c (.v (.bool true))) Try.call11 rfl (fun e a w' h => wakes_any w') ?_
  ((repeat' ((conv => whnf);(first|refine zA ?_|(refine zI ?_ ?_<;> intro hh<;> first|(exfalso;omega)|skip)|(refine zl ?_ ?_<;> intro hh)|refine zq ?_|refine zv ?_|exact Sy.fin_val fun e=>rfl)));(all_goals (try conv => whnf)))
  refine Sy.call_own (short_does v gl hone) Try.call12 ?_ (fun e a w' F' h hF' => (GOk.later h (hr.mono fun b hb => ⟨hb, fun h => h⟩)).mono hF') (fun _ ls G G' w1 w2 hq hG hk o ho => (hq o ho).keep hG hk)
  ((conv => whnf);(refine And.intro ?_ (And.intro ?_ (And.intro ?_ (And.intro ?_ ?_))));(all_goals ((repeat' (first|((conv => whnf);done)|((try conv => whnf);first|exact trivial|(refine And.intro ?_ ?_)|rfl|exact fun _ _ _ h=>h|exact fun _ _ _ _=>trivial)));(all_goals (try conv => whnf))));rotate_right)
  intro ls hls G
  have hol := opsOf_len ls
  have hln : ls.length ≤ 9 := by rw [← hol, show opsOf ls = shortM (opsOf gl) from hls]; exact shortM_len _
  ((repeat' ((conv => whnf);(first|refine zA ?_|(refine zI ?_ ?_<;> intro hh<;> first|(exfalso;omega)|skip)|(refine zl ?_ ?_<;> intro hh)|refine zq ?_|refine zv ?_|exact Sy.fin_val fun e=>rfl)));(all_goals (try conv => whnf)))
  refine Sy.call_val (.c (.v (.int .i64 (subtasks (opsOf ls))))) Try.call20 rfl (fun e a w' h => subtasks_any (e.rv 1) ls w' ⟨Sy.row_reads h (.inl ⟨_, rfl⟩), fun o ho => ((h.ev w' fun _ _ => rfl).2.2 o ho).mono fun b hb => h.fl b hb⟩) ?_
  by_cases h0 : (checkV (opsOf ls)).2 = 0
  · have h8 := check_ok h0
    have hg := check_good h0
    rw [hol] at h8
    have hsa := subs_all h0
    rw [hol] at hsa
    have hwide := subN_le (g := opsOf ls) (opsOf ls).length hg (Nat.le_refl _)
    have hsp : 0 < subC (opsOf ls) ls.length 0 := by unfold subC; rw [← hol]; omega
    have hsu : subC (opsOf ls) ls.length 0 ≤ 24 := by unfold subC; rw [← hol]; omega
    rw [hsa]
    ((repeat' ((conv => whnf);(first|refine zA ?_|(refine zI ?_ ?_<;> intro hh<;> first|(exfalso;omega)|skip)|(refine zl ?_ ?_<;> intro hh)|refine zq ?_|refine zv ?_|exact Sy.fin_val fun e=>rfl)));(all_goals (try conv => whnf)))
    refine Sy.loop_inv Sy.tab_ok (fun i : Nat => [(23, .c (.v (.int .i64 i))), (5, .c (.v (.int .i64 (subC (opsOf ls) i 0))))]) (fun i => []) (fun i => i ≤ ls.length) (fun i => ls.length - i) 0 (Nat.zero_le _) ?_ (fun i hi => ?_)
    · rw [show subC (opsOf ls) 0 0 = 0 by unfold subC; rw [subN_zero]; rfl]
      ((repeat' (first|((conv => whnf);done)|((try conv => whnf);first|exact trivial|(refine And.intro ?_ ?_)|rfl|exact fun _ _ _ h=>h|exact fun _ _ _ _=>trivial)));(all_goals (try conv => whnf)))
    · ((repeat' ((conv => whnf);(first|refine zA ?_|(refine zI ?_ ?_<;> intro hh<;> first|(exfalso;omega)|skip)|(refine zl ?_ ?_<;> intro hh)|refine zq ?_|refine zv ?_|exact Sy.fin_val fun e=>rfl)));(all_goals (try conv => whnf)))
      · have hlt : i < ls.length := by omega
        have ha : askE (opsOf ls) i (opsOf ls).length = 0 := by unfold askE; rw [if_pos h0, if_neg (by omega)]
        have hv : tasksV (opsOf ls) i = runN (subC (opsOf ls) i 0) (widN (opsOf ls) i) := by unfold tasksV; rw [if_pos ha]; exact tasks_one (by omega)
        rw [hol] at ha
        refine Sy.call_r1 ⟨3, 1, widN (opsOf ls) i, (runN (subC (opsOf ls) i 0) (widN (opsOf ls) i)).map encI⟩ (fun j => .tup [.c (.row j), .c (.v (.int .i64 0))]) Try.call21 (fun e a w' h => by
          have := gtasks_any (e.rv 1) ls i w' ⟨Sy.row_reads h (.inl ⟨_, rfl⟩), fun o ho => ((h.ev w' fun _ _ => rfl).2.2 o ho).mono fun b hb => h.fl b hb⟩
          rw [hv, ha, runN_len] at this
          exact this) ?_
        ((repeat' ((conv => whnf);(first|refine zA ?_|(refine zI ?_ ?_<;> intro hh<;> first|(exfalso;omega)|skip)|(refine zl ?_ ?_<;> intro hh)|refine zq ?_|refine zv ?_|exact Sy.fin_val fun e=>rfl)));(all_goals (try conv => whnf)))
        refine Sy.loop_inv Sy.tab_ok (fun k : Nat => [(38, .c (.v (.int .i64 k))), (5, .c (.v (.int .i64 (subC (opsOf ls) i k))))]) (fun k => []) (fun k => k ≤ widN (opsOf ls) i) (fun k => widN (opsOf ls) i - k) 0 (Nat.zero_le _) ?_ (fun k hk => ?_)
        · ((repeat' (first|((conv => whnf);done)|((try conv => whnf);first|exact trivial|(refine And.intro ?_ ?_)|rfl|exact fun _ _ _ h=>h|exact fun _ _ _ _=>trivial)));(all_goals (try conv => whnf)))
        · ((repeat' ((conv => whnf);(first|refine zA ?_|(refine zI ?_ ?_<;> intro hh<;> first|(exfalso;omega)|skip)|(refine zl ?_ ?_<;> intro hh)|refine zq ?_|refine zv ?_|exact Sy.fin_val fun e=>rfl)));(all_goals (try conv => whnf)))
          · have hkw : k < widN (opsOf ls) i := by omega
            have hlt2 := subC_lt (g := opsOf ls) (i := i) (k := k) (by omega) hkw
            have hsk := subC_add (opsOf ls) i k
            obtain ⟨hoa, hov⟩ := op_at h0 (i := i) (k := k) (by omega) hkw
            have hc := subC_k (opsOf ls) i k
            refine Sy.el_map _ (runN_get hkw) ?_
            rw [← hsk]
            rw [hol] at hlt2
            ((repeat' ((conv => whnf);(first|refine zA ?_|(refine zI ?_ ?_<;> intro hh<;> first|(exfalso;omega)|skip)|(refine zl ?_ ?_<;> intro hh)|refine zq ?_|refine zv ?_|exact Sy.fin_val fun e=>rfl)));(all_goals (try conv => whnf)))
            refine Sy.call_val (.tup [.c (.v (.int .i64 i)), .c (.v (.int .i64 k)), .c (.v (.int .i64 0))]) Try.call22 rfl (fun e a w' h => by
              have := op_any (e.rv 1) ls (subC (opsOf ls) i k) w' ⟨Sy.row_reads h (.inl ⟨_, rfl⟩), fun o ho => ((h.ev w' fun _ _ => rfl).2.2 o ho).mono fun b hb => h.fl b hb⟩
              rw [hov, hoa] at this
              exact this) ?_
            ((repeat' ((conv => whnf);(first|refine zA ?_|(refine zI ?_ ?_<;> intro hh<;> first|(exfalso;omega)|skip)|(refine zl ?_ ?_<;> intro hh)|refine zq ?_|refine zv ?_|exact Sy.fin_val fun e=>rfl)));(all_goals (try conv => whnf)))
            refine ⟨k + 1, by omega, by omega, ?_⟩
            rw [hc]
            ((repeat' (first|((conv => whnf);done)|((try conv => whnf);first|exact trivial|(refine And.intro ?_ ?_)|rfl|exact fun _ _ _ h=>h|exact fun _ _ _ _=>trivial)));(all_goals (try conv => whnf)))
          · have e : k = widN (opsOf ls) i := by omega
            refine ⟨i + 1, by omega, by omega, ?_⟩
            rw [subC_i, ← e]
            ((repeat' (first|((conv => whnf);done)|((try conv => whnf);first|exact trivial|(refine And.intro ?_ ?_)|rfl|exact fun _ _ _ h=>h|exact fun _ _ _ _=>trivial)));(all_goals (try conv => whnf)))
      · have e : i = ls.length := by omega
        subst e
        exact Sy.fin_val (fun e => congrArg Value.bool (by simp))
  · have hs0 : subtasks (opsOf ls) = 0 := by unfold subtasks; rw [if_neg h0]
    rw [hs0]
    ((repeat' ((conv => whnf);(first|refine zA ?_|(refine zI ?_ ?_<;> intro hh<;> first|(exfalso;omega)|skip)|(refine zl ?_ ?_<;> intro hh)|refine zq ?_|refine zv ?_|exact Sy.fin_val fun e=>rfl)));(all_goals (try conv => whnf)))
    refine Sy.loop_inv Sy.tab_ok (fun i : Nat => [(23, .c (.v (.int .i64 i))), (5, .c (.v (.int .i64 0)))]) (fun i => []) (fun i => i ≤ ls.length) (fun i => ls.length - i) 0 (Nat.zero_le _) ?_ (fun i hi => ?_)
    · ((repeat' (first|((conv => whnf);done)|((try conv => whnf);first|exact trivial|(refine And.intro ?_ ?_)|rfl|exact fun _ _ _ h=>h|exact fun _ _ _ _=>trivial)));(all_goals (try conv => whnf)))
    · ((repeat' ((conv => whnf);(first|refine zA ?_|(refine zI ?_ ?_<;> intro hh<;> first|(exfalso;omega)|skip)|(refine zl ?_ ?_<;> intro hh)|refine zq ?_|refine zv ?_|exact Sy.fin_val fun e=>rfl)));(all_goals (try conv => whnf)))
      · have hlt : i < ls.length := by omega
        have ha : askE (opsOf ls) i ls.length ≠ 0 := by unfold askE; rw [if_neg h0]; exact h0
        have hv : tasksV (opsOf ls) i = [] := by unfold tasksV; rw [hol, if_neg ha]
        refine Sy.call_r1 ⟨3, 1, ([] : List Int).length, ([] : List Int).map encI⟩ (fun j => .tup [.c (.row j), .c (.v (.int .i64 (askE (opsOf ls) i ls.length)))]) Try.call21 (fun e a w' h => by
          have := gtasks_any (e.rv 1) ls i w' ⟨Sy.row_reads h (.inl ⟨_, rfl⟩), fun o ho => ((h.ev w' fun _ _ => rfl).2.2 o ho).mono fun b hb => h.fl b hb⟩
          rw [hv] at this
          exact this) ?_
        ((repeat' ((conv => whnf);(first|refine zA ?_|(refine zI ?_ ?_<;> intro hh<;> first|(exfalso;omega)|skip)|(refine zl ?_ ?_<;> intro hh)|refine zq ?_|refine zv ?_|exact Sy.fin_val fun e=>rfl)));(all_goals (try conv => whnf)))
        refine ⟨i + 1, by omega, by omega, ?_⟩
        ((repeat' (first|((conv => whnf);done)|((try conv => whnf);first|exact trivial|(refine And.intro ?_ ?_)|rfl|exact fun _ _ _ h=>h|exact fun _ _ _ _=>trivial)));(all_goals (try conv => whnf)))
end Go.Proofs.Ythmcknchkecciaa
