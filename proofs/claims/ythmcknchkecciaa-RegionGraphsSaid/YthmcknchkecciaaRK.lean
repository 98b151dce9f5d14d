/- Region: the document's Tasks, Op. -/
import Derived.Test.YthmcknchkecciaaRJ
namespace Go.Proofs.Ythmcknchkecciaa
open Go Go.RowKit
open Sy (C SV V1 Blk St XD Els)
set_option maxRecDepth 10000

attribute [local irreducible] checkV regOf subN pick taskN subC tasksL subtasks askE opV opsC thereB tasksV roundE edgeN insL rseq
set_option maxHeartbeats 4000000 in
theorem rtasks_any (v : Value) (gl : List OpV) (op : Nat) (w : World) (hr : GOk (fun b => b < w.heap.size) w v gl) (hlen : gl.length ≤ 100) (hg : goodTo (opsOf gl) gl.length) (ho : op < gl.length) :
    Calls Try.prog 31 #[.agg #[v], .int .i64 op] w (Sy.RetRows Sy.noRow (fun _ : Unit => True) (fun _ => [⟨3, 1, (tasksL (opsOf gl) [(op : Int)]).length, (tasksL (opsOf gl) [(op : Int)]).map encI⟩]) (fun _ vs => vs.headD undef) w) := by
  have hol := opsOf_len gl
  have hg' : goodTo (opsOf gl) (opsOf gl).length := by rw [hol]; exact hg
  have hto := tasks_one (g := opsOf gl) (i := op) (by omega)
  refine Sy.calls_of Sy.lv31 Sy.tab_ok Try.func31 rfl _ Try.ntmps31 [⟨v, 5, gl.length, gl.map encOV⟩] [.agg [.row 0], .c (.v (.int .i64 op))] rfl rfl rfl ⟨hr.1, trivial⟩ ?_
  ((repeat' ((conv => whnf);(first|refine zA ?_|(refine zI ?_ ?_<;> intro hh<;> first|(exfalso;omega)|skip)|(refine zl ?_ ?_<;> intro hh)|refine zq ?_|refine zv ?_|exact Sy.fin_val fun e=>rfl)));(all_goals (try conv => whnf)))
  refine Sy.sli_nat (lo := 0) ⟨by omega, by omega⟩ ?_
  ((repeat' ((conv => whnf);(first|refine zA ?_|(refine zI ?_ ?_<;> intro hh<;> first|(exfalso;omega)|skip)|(refine zl ?_ ?_<;> intro hh)|refine zq ?_|refine zv ?_|exact Sy.fin_val fun e=>rfl)));(all_goals (try conv => whnf)))
  have hvl : (List.take (op - 0) (List.drop 0 (gl.map encOV))) = (gl.take op).map encOV := by rw [Nat.sub_zero, List.drop_zero, List.map_take]
  rw [hvl, Nat.sub_zero]
  refine Sy.loop_inv Sy.tab_ok (fun i : Nat => [(15, .c (.v (.int .i64 i))), (5, .c (.v (.int .i64 (subC (opsOf gl) i 0))))]) (fun i => []) (fun i => i ≤ op) (fun i => op - i) 0 (Nat.zero_le _) ?_ (fun i hi => ?_)
  · rw [show subC (opsOf gl) 0 0 = 0 by unfold subC; rw [subN_zero]; rfl]
    ((repeat' (first|((conv => whnf);done)|((try conv => whnf);first|exact trivial|(refine And.intro ?_ ?_)|rfl|exact fun _ _ _ h=>h|exact fun _ _ _ _=>trivial)));(all_goals (try conv => whnf)))
  · have hcl := subC_le (k := 0) hg' (show i ≤ (opsOf gl).length by omega)
    ((repeat' ((conv => whnf);(first|refine zA ?_|(refine zI ?_ ?_<;> intro hh<;> first|(exfalso;omega)|skip)|(refine zl ?_ ?_<;> intro hh)|refine zq ?_|refine zv ?_|exact Sy.fin_val fun e=>rfl)));(all_goals (try conv => whnf)))
    · have hlt : i < op := by omega
      have hgi := List.getElem?_eq_getElem (show i < gl.length by omega)
      generalize gl[i]'(by omega) = o at *
      have hgo := opsOf_get hgi
      have hw := widN_good hg (by omega) hgo
      have hsc := subC_add (opsOf gl) i (widN (opsOf gl) i)
      have hgt : (gl.take op)[i]? = some o := by rw [List.getElem?_take_of_lt hlt]; exact hgi
      refine Sy.el_map o hgt ?_
      ((repeat' ((conv => whnf);(first|refine zA ?_|(refine zI ?_ ?_<;> intro hh<;> first|(exfalso;omega)|skip)|(refine zl ?_ ?_<;> intro hh)|refine zq ?_|refine zv ?_|exact Sy.fin_val fun e=>rfl)));(all_goals (try conv => whnf)))
      refine ⟨i + 1, by omega, by omega, ?_⟩
      rw [subC_i, hsc]
      ((repeat' (first|((conv => whnf);done)|((try conv => whnf);first|exact trivial|(refine And.intro ?_ ?_)|rfl|exact fun _ _ _ h=>h|exact fun _ _ _ _=>trivial)));(all_goals (try conv => whnf)))
      exact congrArg (Value.int .i64) (by omega)
    · have e : i = op := by omega
      subst e
      have hgi := List.getElem?_eq_getElem ho
      generalize gl[i] = o at *
      have hgo := opsOf_get hgi
      have hw := widN_good hg ho hgo
      refine Sy.el_map o hgi ?_
      ((repeat' ((conv => whnf);(first|refine zA ?_|(refine zI ?_ ?_<;> intro hh<;> first|(exfalso;omega)|skip)|(refine zl ?_ ?_<;> intro hh)|refine zq ?_|refine zv ?_|exact Sy.fin_val fun e=>rfl)));(all_goals (try conv => whnf)))
      refine Sy.sem_subF (Sy.sub_row 8 3 1 rfl) ?_
      conv => whnf
      rw [hto]
      refine Sy.loop_inv Sy.tab_ok (fun k : Nat => [(30, .c (.v (.int .i64 k))), (8, .c (.row 3))]) (fun k => [(3, .row 3 1 k (.vs ((runN (subC (opsOf gl) i 0) k).map encI)))]) (fun k => k ≤ widN (opsOf gl) i) (fun k => widN (opsOf gl) i - k) 0 (Nat.zero_le _) ?_ (fun k hk => ?_)
      · ((repeat' (first|((conv => whnf);done)|((try conv => whnf);first|exact trivial|(refine And.intro ?_ ?_)|rfl|exact fun _ _ _ h=>h|exact fun _ _ _ _=>trivial)));(all_goals (try conv => whnf)))
      · by_cases hkw : k < widN (opsOf gl) i
        · have hkw' : (k : Int) < o.op.width := by omega
          ((repeat' ((conv => whnf);(first|refine zA ?_|(refine zI ?_ ?_<;> intro hh<;> first|(exfalso;omega)|skip)|(refine zl ?_ ?_<;> intro hh)|refine zq ?_|refine zv ?_|exact Sy.fin_val fun e=>rfl)));(all_goals (try conv => whnf)))
          refine Sy.need_of (by show (k + 1) * 8 ≤ _ ∧ _; omega) ?_
          ((repeat' ((conv => whnf);(first|refine zA ?_|(refine zI ?_ ?_<;> intro hh<;> first|(exfalso;omega)|skip)|(refine zl ?_ ?_<;> intro hh)|refine zq ?_|refine zv ?_|exact Sy.fin_val fun e=>rfl)));(all_goals (try conv => whnf)))
          have es : (runN (subC (opsOf gl) i 0) k).map encI ++ [[Value.int .i64 ((subC (opsOf gl) i 0 : Int) + k)]] = (runN (subC (opsOf gl) i 0) (k + 1)).map encI := by rw [runN_succ, List.map_append]; rfl
          rw [es]
          refine ⟨k + 1, by omega, by omega, ?_⟩
          ((repeat' (first|((conv => whnf);done)|((try conv => whnf);first|exact trivial|(refine And.intro ?_ ?_)|rfl|exact fun _ _ _ h=>h|exact fun _ _ _ _=>trivial)));(all_goals (try conv => whnf)))
        · have hkw' : ¬ (k : Int) < o.op.width := by omega
          have ek : k = widN (opsOf gl) i := by omega
          subst ek
          ((repeat' ((conv => whnf);(first|refine zA ?_|(refine zI ?_ ?_<;> intro hh<;> first|(exfalso;omega)|skip)|(refine zl ?_ ?_<;> intro hh)|refine zq ?_|refine zv ?_|exact Sy.fin_val fun e=>rfl)));(all_goals (try conv => whnf)))
          rw [runN_len]
          exact Sy.fin_r1 (.row 3) rfl
/-- A subtask's operator and its index, as the document tells them. -/
def ropV (g : List Opr) (n : Int) : Int × Int := if askE g n (subtasks g) = 0 then ((opV g n).1, (opV g n).2) else (-1, -1)
set_option maxHeartbeats 4000000 in
theorem rop_any (v : Value) (gl : List OpV) (n : Int) (w : World) (hr : GOk (fun b => b < w.heap.size) w v gl) (h0 : (checkV (opsOf gl)).2 = 0) :
    Calls Try.prog 32 #[.agg #[v], .int .i64 n] w (Sy.Ret (.tuple #[.int .i64 (ropV (opsOf gl) n).1, .int .i64 (ropV (opsOf gl) n).2]) w) := by
  have hol := opsOf_len gl
  have h8 := check_ok h0
  have hg := check_good h0
  have hg' := hg
  rw [hol] at h8 hg
  have hsa := subs_all h0
  refine Sy.calls_of Sy.lv32 Sy.tab_ok Try.func32 rfl _ Try.ntmps32 [⟨v, 5, gl.length, gl.map encOV⟩] [.agg [.row 0], .c (.v (.int .i64 n))] rfl rfl rfl ⟨hr.1, trivial⟩ ?_
  ((repeat' ((conv => whnf);(first|refine zA ?_|(refine zI ?_ ?_<;> intro hh<;> first|(exfalso;omega)|skip)|(refine zl ?_ ?_<;> intro hh)|refine zq ?_|refine zv ?_|exact Sy.fin_val fun e=>rfl)));(all_goals (try conv => whnf)))
  refine Sy.loop_inv Sy.tab_ok (fun i : Nat => [(12, .c (.v (.int .i64 i)))]) (fun i => []) (fun i => i ≤ gl.length ∧ ¬ (0 ≤ n ∧ n < subC (opsOf gl) i 0)) (fun i => gl.length - i) 0 ⟨Nat.zero_le _, by unfold subC; rw [subN_zero]; show ¬ (_ ∧ _ < (0 : Int)); omega⟩ ?_ (fun i hi => ?_)
  · ((repeat' (first|((conv => whnf);done)|((try conv => whnf);first|exact trivial|(refine And.intro ?_ ?_)|rfl|exact fun _ _ _ h=>h|exact fun _ _ _ _=>trivial)));(all_goals (try conv => whnf)))
  · obtain ⟨hi, hno⟩ := hi
    ((repeat' ((conv => whnf);(first|refine zA ?_|(refine zI ?_ ?_<;> intro hh<;> first|(exfalso;omega)|skip)|(refine zl ?_ ?_<;> intro hh)|refine zq ?_|refine zv ?_|exact Sy.fin_val fun e=>rfl)));(all_goals (try conv => whnf)))
    · have hlt : i < gl.length := by omega
      have hto := tasks_one (g := opsOf gl) (i := i) (by omega)
      have hgi := List.getElem?_eq_getElem hlt
      have hw := widN_good hg hlt (opsOf_get hgi)
      refine Sy.call_r1 ⟨3, 1, widN (opsOf gl) i, (runN (subC (opsOf gl) i 0) (widN (opsOf gl) i)).map encI⟩ (fun j => .c (.row j)) Try.call31 (fun e a w' h => by
        have := rtasks_any (e.rv 0) gl i w' ⟨Sy.row_reads h (.inr rfl), fun o ho => Sy.later_in h (hr.2 o ho)⟩ (by omega) hg hlt
        rw [hto, runN_len] at this
        exact this) ?_
      ((repeat' ((conv => whnf);(first|refine zA ?_|(refine zI ?_ ?_<;> intro hh<;> first|(exfalso;omega)|skip)|(refine zl ?_ ?_<;> intro hh)|refine zq ?_|refine zv ?_|exact Sy.fin_val fun e=>rfl)));(all_goals (try conv => whnf)))
      refine Sy.loop_inv Sy.tab_ok (fun k : Nat => [(19, .c (.v (.int .i64 k)))]) (fun k => []) (fun k => k ≤ widN (opsOf gl) i ∧ ¬ (0 ≤ n ∧ n < subC (opsOf gl) i k)) (fun k => widN (opsOf gl) i - k) 0 ⟨Nat.zero_le _, hno⟩ ?_ (fun k hk => ?_)
      · ((repeat' (first|((conv => whnf);done)|((try conv => whnf);first|exact trivial|(refine And.intro ?_ ?_)|rfl|exact fun _ _ _ h=>h|exact fun _ _ _ _=>trivial)));(all_goals (try conv => whnf)))
      · obtain ⟨hk, hnk⟩ := hk
        have hc := subC_k (opsOf gl) i k
        have hsk := subC_add (opsOf gl) i k
        ((repeat' ((conv => whnf);(first|refine zA ?_|(refine zI ?_ ?_<;> intro hh<;> first|(exfalso;omega)|skip)|(refine zl ?_ ?_<;> intro hh)|refine zq ?_|refine zv ?_|exact Sy.fin_val fun e=>rfl)));(all_goals (try conv => whnf)))
        · have hkw : k < widN (opsOf gl) i := by omega
          refine Sy.el_map _ (runN_get hkw) ?_
          rw [← hsk]
          obtain ⟨hoa, hov⟩ := op_at h0 (i := i) (k := k) (by omega) hkw
          ((repeat' ((conv => whnf);(first|refine zA ?_|(refine zI ?_ ?_<;> intro hh<;> first|(exfalso;omega)|skip)|(refine zl ?_ ?_<;> intro hh)|refine zq ?_|refine zv ?_|exact Sy.fin_val fun e=>rfl)));(all_goals (try conv => whnf)))
          · have hn : n = (subC (opsOf gl) i k : Int) := by omega
            have hv : ropV (opsOf gl) n = ((i : Int), (k : Int)) := by unfold ropV; rw [hn, if_pos hoa, hov]
            exact Sy.fin_val (fun e => by rw [hv]; rfl)
          · refine ⟨k + 1, ⟨by omega, by rw [hc]; omega⟩, by omega, ?_⟩
            ((repeat' (first|((conv => whnf);done)|((try conv => whnf);first|exact trivial|(refine And.intro ?_ ?_)|rfl|exact fun _ _ _ h=>h|exact fun _ _ _ _=>trivial)));(all_goals (try conv => whnf)))
        · have e : k = widN (opsOf gl) i := by omega
          refine ⟨i + 1, ⟨by omega, by rw [subC_i, ← e]; exact hnk⟩, by omega, ?_⟩
          ((repeat' (first|((conv => whnf);done)|((try conv => whnf);first|exact trivial|(refine And.intro ?_ ?_)|rfl|exact fun _ _ _ h=>h|exact fun _ _ _ _=>trivial)));(all_goals (try conv => whnf)))
    · have e : i = gl.length := by omega
      subst e
      have ha : askE (opsOf gl) n (subtasks (opsOf gl)) ≠ 0 := fun h => by
        obtain ⟨_, h1, h2⟩ := askE_ok h
        rw [hsa, hol] at h2
        exact hno ⟨h1, h2⟩
      have hv : ropV (opsOf gl) n = (-1, -1) := if_neg ha
      exact Sy.fin_val (fun e => by rw [hv]; rfl)
end Go.Proofs.Ythmcknchkecciaa
