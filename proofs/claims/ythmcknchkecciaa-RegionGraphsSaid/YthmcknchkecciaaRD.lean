/- Region: tasks, asks, Tasks. -/
import Derived.Test.YthmcknchkecciaaRC
import Derived.Test.YthmcknchkecciaaPSpec
import Derived.Test.YthmcknchkecciaaGSub
import Derived.Test.YthmcknchkecciaaIdxI
namespace Go.Proofs.Ythmcknchkecciaa
open Go Go.RowKit
open Sy (C SV V1 Blk St XD Els)
set_option maxRecDepth 10000

def inOps (S : List Int) (s : Nat × Nat) : Bool := decide ((s.1 : Int) ∈ S)
/-- The numbers of the subtasks of some operators. -/
def tasksL (g : List Opr) (S : List Int) : List Int := pick (inOps S) (subsL g)
def taskN (g : List Opr) (S : List Int) (i k : Nat) : List Int := pick (inOps S) (subN g i k)
def subC (g : List Opr) (i k : Nat) : Nat := (subN g i k).length
theorem taskN_k (g : List Opr) (S : List Int) (i k : Nat) : taskN g S i (k + 1) = taskN g S i k ++ (if (i : Int) ∈ S then [(subC g i k : Int)] else []) := by
  unfold taskN subC
  rw [subN_k, pick_snoc]
  congr 1
  unfold inOps
  by_cases h : (i : Int) ∈ S
  · rw [if_pos h, if_pos (decide_eq_true h)]
  · rw [if_neg h, if_neg (by rw [decide_eq_false h]; simp)]
theorem taskN_i (g : List Opr) (S : List Int) (i : Nat) : taskN g S (i + 1) 0 = taskN g S i (widN g i) := by unfold taskN; rw [subN_i]
theorem subC_k (g : List Opr) (i k : Nat) : subC g i (k + 1) = subC g i k + 1 := by unfold subC; rw [subN_k, List.length_append]; rfl
theorem subC_i (g : List Opr) (i : Nat) : subC g (i + 1) 0 = subC g i (widN g i) := by unfold subC; rw [subN_i]
theorem taskN_len (g : List Opr) (S : List Int) (i k : Nat) : (taskN g S i k).length ≤ subC g i k := pick_len _ _
theorem subC_le {g : List Opr} (hg : goodTo g g.length) {i k : Nat} (hi : i ≤ g.length) : subC g i k ≤ 3 * i + k := by
  have := (subN_le i hg hi).2
  unfold subC
  rw [subN_len]
  omega
attribute [local irreducible] regOf subN pick taskN subC
set_option maxHeartbeats 2000000 in
theorem tasks_any (v u : Value) (gl : List OpV) (S : List Int) (w : World) (hr : GOk (fun b => b < w.heap.size) w v gl) (hu : XD.ok (fun b => b < w.heap.size) w ⟨u, 1, S.length, S.map encI⟩) (hlen : gl.length ≤ 100) (hg : goodTo (opsOf gl) gl.length) :
    Calls Try.prog 41 #[.agg #[v], u] w (Sy.RetRows Sy.noRow (fun _ : Unit => True) (fun _ => [⟨3, 1, (tasksL (opsOf gl) S).length, (tasksL (opsOf gl) S).map encI⟩]) (fun _ vs => vs.headD undef) w) := by
  have hol := opsOf_len gl
  have hsl := ok_len hu
  have hg' : goodTo (opsOf gl) (opsOf gl).length := by rw [hol]; exact hg
  refine Sy.calls_of Sy.lv41 Sy.tab_ok Try.func41 rfl _ Try.ntmps41 [⟨v, 5, gl.length, gl.map encOV⟩, ⟨u, 1, S.length, S.map encI⟩] [.agg [.row 0], .c (.row 1)] rfl rfl rfl ⟨hr.1, hu, trivial⟩ ?_
  ((repeat' ((conv => whnf);(first|refine zA ?_|(refine zI ?_ ?_<;> intro hh<;> first|(exfalso;omega)|skip)|(refine zl ?_ ?_<;> intro hh)|refine zq ?_|refine zv ?_|exact Sy.fin_val fun e=>rfl)));(all_goals (try conv => whnf)))
  refine Sy.call_in Sy.lv44 Sy.tab_ok Try.func44 rfl _ Try.ntmps44 Try.call44 rfl (fun _ => ?_)
  ((repeat' ((conv => whnf);(first|refine zA ?_|(refine zI ?_ ?_<;> intro hh<;> first|(exfalso;omega)|skip)|(refine zl ?_ ?_<;> intro hh)|refine zq ?_|refine zv ?_|exact Sy.fin_val fun e=>rfl)));(all_goals (try conv => whnf)))
  refine Sy.sem_subF (Sy.sub_rowc 4 0 3 1 rfl rfl) ?_
  conv => whnf
  refine Sy.sem_range Sy.lv56 Sy.tab_ok _ rfl rfl Try.func56 rfl Try.ntmps56 Try.call56 rfl (fun _ _ => ?_)
  ((repeat' ((conv => whnf);(first|refine zA ?_|(refine zI ?_ ?_<;> intro hh<;> first|(exfalso;omega)|skip)|(refine zl ?_ ?_<;> intro hh)|refine zq ?_|refine zv ?_|exact Sy.fin_val fun e=>rfl)));(all_goals (try conv => whnf)))
  refine Sy.loop_inv Sy.tab_ok (fun i : Nat => [(9, .c (.v (.int .i64 i)))]) (fun i => [(4, .cells 36 [.row 8]), (8, .row 3 1 (taskN (opsOf gl) S i 0).length (.vs ((taskN (opsOf gl) S i 0).map encI))), (5, .cells 3 [.v (.int .i64 (subC (opsOf gl) i 0))])]) (fun i => i ≤ gl.length) (fun i => gl.length - i) 0 (Nat.zero_le _) ?_ (fun i hi => ?_)
  · rw [show taskN (opsOf gl) S 0 0 = [] by unfold taskN; rw [subN_zero]; exact pick_nil _, show subC (opsOf gl) 0 0 = 0 by unfold subC; rw [subN_zero]; rfl]
    ((repeat' (first|((conv => whnf);done)|((try conv => whnf);first|exact trivial|(refine And.intro ?_ ?_)|rfl|exact fun _ _ _ h=>h|exact fun _ _ _ _=>trivial)));(all_goals (try conv => whnf)))
  · ((repeat' ((conv => whnf);(first|refine zA ?_|(refine zI ?_ ?_<;> intro hh<;> first|(exfalso;omega)|skip)|(refine zl ?_ ?_<;> intro hh)|refine zq ?_|refine zv ?_|exact Sy.fin_val fun e=>rfl)));(all_goals (try conv => whnf)))
    · have hlt : i < gl.length := by omega
      have hgi := List.getElem?_eq_getElem hlt
      generalize gl[i] = o at *
      have hgo := opsOf_get hgi
      have hw := widN_good hg hlt hgo
      refine Sy.el_map o hgi ?_
      ((repeat' ((conv => whnf);(first|refine zA ?_|(refine zI ?_ ?_<;> intro hh<;> first|(exfalso;omega)|skip)|(refine zl ?_ ?_<;> intro hh)|refine zq ?_|refine zv ?_|exact Sy.fin_val fun e=>rfl)));(all_goals (try conv => whnf)))
      refine Sy.loop_inv Sy.tab_ok (fun k : Nat => [(16, .c (.v (.int .i64 k)))]) (fun k => [(4, .cells 36 [.row 8]), (8, .row 3 1 (taskN (opsOf gl) S i k).length (.vs ((taskN (opsOf gl) S i k).map encI))), (5, .cells 3 [.v (.int .i64 (subC (opsOf gl) i k))])]) (fun k => k ≤ widN (opsOf gl) i) (fun k => widN (opsOf gl) i - k) 0 (Nat.zero_le _) ?_ (fun k hk => ?_)
      · ((repeat' (first|((conv => whnf);done)|((try conv => whnf);first|exact trivial|(refine And.intro ?_ ?_)|rfl|exact fun _ _ _ h=>h|exact fun _ _ _ _=>trivial)));(all_goals (try conv => whnf)))
      · have hs := taskN_k (opsOf gl) S i k
        have hc := subC_k (opsOf gl) i k
        have hcl := subC_le (k := k) hg' (show i ≤ (opsOf gl).length by omega)
        have htl := taskN_len (opsOf gl) S i k
        by_cases hkw : k < widN (opsOf gl) i
        · have hkw' : (k : Int) < o.op.width := by omega
          ((repeat' ((conv => whnf);(first|refine zA ?_|(refine zI ?_ ?_<;> intro hh<;> first|(exfalso;omega)|skip)|(refine zl ?_ ?_<;> intro hh)|refine zq ?_|refine zv ?_|exact Sy.fin_val fun e=>rfl)));(all_goals (try conv => whnf)))
          refine Sy.yield_in Sy.tab_ok rfl rfl rfl rfl rfl (fun _ => ?_)
          ((repeat' ((conv => whnf);(first|refine zA ?_|(refine zI ?_ ?_<;> intro hh<;> first|(exfalso;omega)|skip)|(refine zl ?_ ?_<;> intro hh)|refine zq ?_|refine zv ?_|exact Sy.fin_val fun e=>rfl)));(all_goals (try conv => whnf)))
          refine Sy.call_val (.c (.v (.bool (decide ((i : Int) ∈ S))))) Try.call28 rfl (fun e a w' h => contains_any (e.rv 1) S i w' (Sy.row_reads h (.inr rfl))) ?_
          by_cases hm : (i : Int) ∈ S
          · rw [if_pos hm] at hs
            ((repeat' ((conv => whnf);(first|refine zA ?_|(refine zI ?_ ?_<;> intro hh<;> first|(exfalso;omega)|skip)|(refine zl ?_ ?_<;> intro hh)|refine zq ?_|refine zv ?_|exact Sy.fin_val fun e=>rfl)));(all_goals (try conv => whnf)))
            refine Sy.need_of (by show ((taskN (opsOf gl) S i k).length + 1) * 8 ≤ _ ∧ _; omega) ?_
            ((repeat' ((conv => whnf);(first|refine zA ?_|(refine zI ?_ ?_<;> intro hh<;> first|(exfalso;omega)|skip)|(refine zl ?_ ?_<;> intro hh)|refine zq ?_|refine zv ?_|exact Sy.fin_val fun e=>rfl)));(all_goals (try conv => whnf)))
            have es : (taskN (opsOf gl) S i k).map encI ++ [[Value.int .i64 (subC (opsOf gl) i k : Int)]] = (taskN (opsOf gl) S i (k + 1)).map encI := by rw [hs, List.map_append]; rfl
            have el : (taskN (opsOf gl) S i k).length + 1 = (taskN (opsOf gl) S i (k + 1)).length := by rw [hs, List.length_append]; rfl
            rw [es, el]
            refine ⟨k + 1, by omega, by omega, ?_⟩
            rw [hc]
            ((repeat' (first|((conv => whnf);done)|((try conv => whnf);first|exact trivial|(refine And.intro ?_ ?_)|rfl|exact fun _ _ _ h=>h|exact fun _ _ _ _=>trivial)));(all_goals (try conv => whnf)))
          · rw [if_neg hm, List.append_nil] at hs
            ((repeat' ((conv => whnf);(first|refine zA ?_|(refine zI ?_ ?_<;> intro hh<;> first|(exfalso;omega)|skip)|(refine zl ?_ ?_<;> intro hh)|refine zq ?_|refine zv ?_|exact Sy.fin_val fun e=>rfl)));(all_goals (try conv => whnf)))
            refine ⟨k + 1, by omega, by omega, ?_⟩
            rw [hc, hs]
            ((repeat' (first|((conv => whnf);done)|((try conv => whnf);first|exact trivial|(refine And.intro ?_ ?_)|rfl|exact fun _ _ _ h=>h|exact fun _ _ _ _=>trivial)));(all_goals (try conv => whnf)))
        · have hkw' : ¬ (k : Int) < o.op.width := by omega
          have ek : k = widN (opsOf gl) i := by omega
          ((repeat' ((conv => whnf);(first|refine zA ?_|(refine zI ?_ ?_<;> intro hh<;> first|(exfalso;omega)|skip)|(refine zl ?_ ?_<;> intro hh)|refine zq ?_|refine zv ?_|exact Sy.fin_val fun e=>rfl)));(all_goals (try conv => whnf)))
          refine ⟨i + 1, by omega, by omega, ?_⟩
          rw [taskN_i, subC_i, ← ek]
          ((repeat' (first|((conv => whnf);done)|((try conv => whnf);first|exact trivial|(refine And.intro ?_ ?_)|rfl|exact fun _ _ _ h=>h|exact fun _ _ _ _=>trivial)));(all_goals (try conv => whnf)))
    · have e : i = gl.length := by omega
      subst e
      have e2 : taskN (opsOf gl) S gl.length 0 = tasksL (opsOf gl) S := by unfold taskN tasksL subsL; rw [hol]
      rw [e2]
      exact Sy.fin_r1 (.row 8) rfl
end Go.Proofs.Ythmcknchkecciaa
