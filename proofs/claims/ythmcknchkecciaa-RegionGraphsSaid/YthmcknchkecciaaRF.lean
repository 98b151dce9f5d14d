/- Region: Op. -/
import Derived.Test.YthmcknchkecciaaRE
namespace Go.Proofs.Ythmcknchkecciaa
open Go Go.RowKit
open Sy (C SV V1 Blk St XD Els)
set_option maxRecDepth 10000

/-- A subtask's operator and its index. -/
def opV (g : List Opr) (n : Int) : Nat × Nat := if askE g n (subtasks g) = 0 then ((subsL g)[n.toNat]?).getD (0, 0) else (0, 0)
attribute [local irreducible] checkV regOf subN pick taskN subC ofL tasksL subtasks askE
set_option maxHeartbeats 2000000 in
theorem op_any (v : Value) (gl : List OpV) (n : Int) (w : World) (hr : GOk (fun b => b < w.heap.size) w v gl) :
    Calls Try.prog 22 #[.agg #[v], .int .i64 n] w (Sy.Ret (.tuple #[.int .i64 (opV (opsOf gl) n).1, .int .i64 (opV (opsOf gl) n).2, .int .i64 (askE (opsOf gl) n (subtasks (opsOf gl)))]) w) := by
  have hol := opsOf_len gl
  refine Sy.calls_of Sy.lv22 Sy.tab_ok Try.func22 rfl _ Try.ntmps22 [⟨v, 5, gl.length, gl.map encOV⟩] [.agg [.row 0], .c (.v (.int .i64 n))] rfl rfl rfl ⟨hr.1, trivial⟩ ?_
  ((repeat' ((conv => whnf);(first|refine zA ?_|(refine zI ?_ ?_<;> intro hh<;> first|(exfalso;omega)|skip)|(refine zl ?_ ?_<;> intro hh)|refine zq ?_|refine zv ?_|exact Sy.fin_val fun e=>rfl)));(all_goals (try conv => whnf)))
  refine Sy.draw_go [] (by kernel_rfl) ?_
  intro e0
  conv => whnf
  refine zt 0 rfl ?_
  conv => whnf
  refine zt 1 rfl ?_
  conv => whnf
  refine zt 2 rfl ?_
  conv => whnf
  refine zd1 [3] (zx rfl ?_ zy)
  conv => whnf
  refine Sy.call_val (.c (.v (.int .i64 (subtasks (opsOf gl))))) Try.call20 rfl (fun e a w' h => subtasks_any (e.rv 0) gl w' ⟨Sy.row_reads h (.inr rfl), fun o ho => Sy.later_in h (hr.2 o ho)⟩) ?_
  conv => whnf
  refine ⟨(by repeat' ((conv => whnf);first|exact trivial|(refine And.intro ?_ ?_)|rfl)), ?_⟩
  refine zd1 [4] (zx rfl ?_ zy)
  conv => whnf
  refine Sy.call_val (.c (.v (.int .i64 (askE (opsOf gl) n (subtasks (opsOf gl)))))) Try.call43 rfl (fun e a w' h => rasks_any (e.rv 0) gl n (subtasks (opsOf gl)) w' ⟨Sy.row_reads h (.inr rfl), fun o ho => Sy.later_in h (hr.2 o ho)⟩) ?_
  conv => whnf
  refine ⟨(by repeat' ((conv => whnf);first|exact trivial|(refine And.intro ?_ ?_)|rfl)), ?_⟩
  refine zt 5 rfl ?_
  conv => whnf
  refine zw ?_
  skip
  by_cases h0 : askE (opsOf gl) n (subtasks (opsOf gl)) = 0
  · obtain ⟨hc, h1, h2⟩ := askE_ok h0
    have h8 := check_ok hc
    have hg := check_good hc
    have hg' := hg
    rw [hol] at h8 hg
    have hv : opV (opsOf gl) n = ((subsL (opsOf gl))[n.toNat]?).getD (0, 0) := if_pos h0
    rw [hv]
    ((repeat' ((conv => whnf);(first|refine zA ?_|(refine zI ?_ ?_<;> intro hh<;> first|(exfalso;omega)|skip)|(refine zl ?_ ?_<;> intro hh)|refine zq ?_|refine zv ?_|exact Sy.fin_val fun e=>rfl)));(all_goals (try conv => whnf)))
    refine Sy.call_in Sy.lv44 Sy.tab_ok Try.func44 rfl _ Try.ntmps44 Try.call44 rfl (fun _ => ?_)
    ((repeat' ((conv => whnf);(first|refine zA ?_|(refine zI ?_ ?_<;> intro hh<;> first|(exfalso;omega)|skip)|(refine zl ?_ ?_<;> intro hh)|refine zq ?_|refine zv ?_|exact Sy.fin_val fun e=>rfl)));(all_goals (try conv => whnf)))
    refine Sy.sem_range Sy.lv56 Sy.tab_ok _ rfl rfl Try.func56 rfl Try.ntmps56 Try.call56 rfl (fun _ _ => ?_)
    ((repeat' ((conv => whnf);(first|refine zA ?_|(refine zI ?_ ?_<;> intro hh<;> first|(exfalso;omega)|skip)|(refine zl ?_ ?_<;> intro hh)|refine zq ?_|refine zv ?_|exact Sy.fin_val fun e=>rfl)));(all_goals (try conv => whnf)))
    obtain ⟨t, rfl⟩ : ∃ t : Nat, n = (t : Int) := ⟨n.toNat, by omega⟩
    refine Sy.loop_inv Sy.tab_ok (fun i : Nat => [(9, .c (.v (.int .i64 i)))]) (fun i => [(6, .cells 3 [.v (.int .i64 (subC (opsOf gl) i 0))])]) (fun i => i ≤ gl.length ∧ subC (opsOf gl) i 0 ≤ t) (fun i => gl.length - i) 0 ⟨Nat.zero_le _, by unfold subC; rw [subN_zero]; exact Nat.zero_le _⟩ ?_ (fun i hi => ?_)
    · rw [show subC (opsOf gl) 0 0 = 0 by unfold subC; rw [subN_zero]; rfl]
      ((repeat' (first|((conv => whnf);done)|((try conv => whnf);first|exact trivial|(refine And.intro ?_ ?_)|rfl|exact fun _ _ _ h=>h|exact fun _ _ _ _=>trivial)));(all_goals (try conv => whnf)))
    · obtain ⟨hi, hit⟩ := hi
      ((repeat' ((conv => whnf);(first|refine zA ?_|(refine zI ?_ ?_<;> intro hh<;> first|(exfalso;omega)|skip)|(refine zl ?_ ?_<;> intro hh)|refine zq ?_|refine zv ?_|exact Sy.fin_val fun e=>rfl)));(all_goals (try conv => whnf)))
      · have hlt : i < gl.length := by omega
        have hgi := List.getElem?_eq_getElem hlt
        generalize gl[i] = o at *
        have hgo := opsOf_get hgi
        have hw := widN_good hg hlt hgo
        refine Sy.el_map o hgi ?_
        ((repeat' ((conv => whnf);(first|refine zA ?_|(refine zI ?_ ?_<;> intro hh<;> first|(exfalso;omega)|skip)|(refine zl ?_ ?_<;> intro hh)|refine zq ?_|refine zv ?_|exact Sy.fin_val fun e=>rfl)));(all_goals (try conv => whnf)))
        refine Sy.loop_inv Sy.tab_ok (fun k : Nat => [(16, .c (.v (.int .i64 k)))]) (fun k => [(6, .cells 3 [.v (.int .i64 (subC (opsOf gl) i k))])]) (fun k => k ≤ widN (opsOf gl) i ∧ subC (opsOf gl) i k ≤ t) (fun k => widN (opsOf gl) i - k) 0 ⟨Nat.zero_le _, hit⟩ ?_ (fun k hk => ?_)
        · ((repeat' (first|((conv => whnf);done)|((try conv => whnf);first|exact trivial|(refine And.intro ?_ ?_)|rfl|exact fun _ _ _ h=>h|exact fun _ _ _ _=>trivial)));(all_goals (try conv => whnf)))
        · obtain ⟨hk, hkt⟩ := hk
          have hc := subC_k (opsOf gl) i k
          have hcl := subC_le (k := k) hg' (show i ≤ (opsOf gl).length by omega)
          by_cases hkw : k < widN (opsOf gl) i
          · have hkw' : (k : Int) < o.op.width := by omega
            have hat := subsL_at (g := opsOf gl) (i := i) (k := k) (by omega) hkw
            have hsl : (subN (opsOf gl) i k).length = subC (opsOf gl) i k := by unfold subC; rfl
            rw [hsl] at hat
            ((repeat' ((conv => whnf);(first|refine zA ?_|(refine zI ?_ ?_<;> intro hh<;> first|(exfalso;omega)|skip)|(refine zl ?_ ?_<;> intro hh)|refine zq ?_|refine zv ?_|exact Sy.fin_val fun e=>rfl)));(all_goals (try conv => whnf)))
            refine Sy.yield_in Sy.tab_ok rfl rfl rfl rfl rfl (fun _ => ?_)
            ((repeat' ((conv => whnf);(first|refine zA ?_|(refine zI ?_ ?_<;> intro hh<;> first|(exfalso;omega)|skip)|(refine zl ?_ ?_<;> intro hh)|refine zq ?_|refine zv ?_|exact Sy.fin_val fun e=>rfl)));(all_goals (try conv => whnf)))
            · have ht : t = subC (opsOf gl) i k := by omega
              exact Sy.fin_val (fun e => by rw [h0, Int.toNat_natCast, ht, hat]; rfl)
            · refine ⟨k + 1, ⟨by omega, by omega⟩, by omega, ?_⟩
              rw [hc]
              ((repeat' (first|((conv => whnf);done)|((try conv => whnf);first|exact trivial|(refine And.intro ?_ ?_)|rfl|exact fun _ _ _ h=>h|exact fun _ _ _ _=>trivial)));(all_goals (try conv => whnf)))
          · have hkw' : ¬ (k : Int) < o.op.width := by omega
            have ek : k = widN (opsOf gl) i := by omega
            subst ek
            ((repeat' ((conv => whnf);(first|refine zA ?_|(refine zI ?_ ?_<;> intro hh<;> first|(exfalso;omega)|skip)|(refine zl ?_ ?_<;> intro hh)|refine zq ?_|refine zv ?_|exact Sy.fin_val fun e=>rfl)));(all_goals (try conv => whnf)))
            refine ⟨i + 1, ⟨by omega, by rw [subC_i]; exact hkt⟩, by omega, ?_⟩
            rw [subC_i]
            ((repeat' (first|((conv => whnf);done)|((try conv => whnf);first|exact trivial|(refine And.intro ?_ ?_)|rfl|exact fun _ _ _ h=>h|exact fun _ _ _ _=>trivial)));(all_goals (try conv => whnf)))
      · exfalso
        have e : i = gl.length := by omega
        subst e
        have hws := wide_subs (g := opsOf gl) (opsOf gl).length (Nat.le_refl _) hg'
        have hst : subtasks (opsOf gl) = wideN (opsOf gl) (opsOf gl).length := by unfold subtasks; rw [if_pos hc]
        rw [hst, hws] at h2
        unfold subC at hit
        rw [hol] at h2
        omega
  · have hv : opV (opsOf gl) n = (0, 0) := if_neg h0
    rw [hv]
    ((repeat' ((conv => whnf);(first|refine zA ?_|(refine zI ?_ ?_<;> intro hh<;> first|(exfalso;omega)|skip)|(refine zl ?_ ?_<;> intro hh)|refine zq ?_|refine zv ?_|exact Sy.fin_val fun e=>rfl)));(all_goals (try conv => whnf)))
    done
end Go.Proofs.Ythmcknchkecciaa
