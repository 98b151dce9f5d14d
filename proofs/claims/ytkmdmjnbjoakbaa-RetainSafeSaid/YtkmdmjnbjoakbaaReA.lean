/- Retain: Check. -/
import Derived.Test.YtkmdmjnbjoakbaaSpec
namespace Go.Proofs.Ytkmdmjnbjoakbaa
open Go Go.RowKit
open Sy (C SV V1 Blk St XD Els)
set_option maxRecDepth 10000

abbrev cK (k : Kp) : List C := [.v (.int .u64 k.number), .v (.bool k.save), .v (.bool k.opn)]
theorem check_any (keep : Int) (v : Value) (ks : List Kp) (w : World) (hr : XD.ok (fun b => b < w.heap.size) w ⟨v, 3, ks.length, ks.map encK⟩) :
    Calls Try.prog 24 #[.agg #[.int .i64 keep, v]] w (Sy.Ret (.int .i64 (chkE keep ks)) w) := by
  have hl := ok_len hr
  refine Sy.calls_of Sy.lv24 Sy.tab_ok Try.func24 rfl _ Try.ntmps24 [⟨v, 3, ks.length, ks.map encK⟩] [.agg [.v (.int .i64 keep), .row 0]] rfl rfl rfl ⟨hr, trivial⟩ ?_
  by_cases h0 : ok0 keep ks.length = true
  · have h0' := h0
    simp only [ok0, Bool.and_eq_true, decide_eq_true_eq, and_assoc] at h0'
    obtain ⟨g1, g2, g3⟩ := h0'
    ((repeat' ((conv => whnf);(first|refine zA ?_|(refine zI ?_ ?_<;> intro hh<;> first|(exfalso;omega)|skip)|(refine zl ?_ ?_<;> intro hh)|refine zq ?_|refine zv ?_|refine zu ?_|exact Sy.fin_val fun e=>rfl)));(all_goals (try conv => whnf)))
    refine Sy.loop_inv Sy.tab_ok (fun n : Nat => [(24, .c (.v (.int .i64 n)))]) (fun n => [(2, .cells 39 (cK (lastK ks n)))]) (fun n => n ≤ ks.length ∧ okL (lastK ks n) (ks.drop n) = okL k0 ks) (fun n => ks.length - n) 0 ⟨Nat.zero_le _, rfl⟩ ?_ (fun n hle => ?_)
    · ((repeat' (first|((conv => whnf);done)|((try conv => whnf);first|exact trivial|(refine And.intro ?_ ?_)|rfl|exact fun _ _ _ h=>h|exact fun _ _ _ _=>trivial)));(all_goals (try conv => whnf)))
    · obtain ⟨hle, hok⟩ := hle
      ((repeat' ((conv => whnf);(first|refine zA ?_|(refine zI ?_ ?_<;> intro hh<;> first|(exfalso;omega)|skip)|(refine zl ?_ ?_<;> intro hh)|refine zq ?_|refine zv ?_|refine zu ?_|exact Sy.fin_val fun e=>rfl)));(all_goals (try conv => whnf)))
      · have hlt : n < ks.length := by omega
        have e1 := okL_drop ks n hlt (lastK ks n)
        have e2 := lastK_succ ks n hlt
        refine Sy.el_map ks[n] (List.getElem?_eq_getElem hlt) ?_
        generalize ks[n] = p at *
        generalize lastK ks n = l at *
        ((repeat' ((conv => whnf);(first|refine zA ?_|(refine zI ?_ ?_<;> intro hh<;> first|(exfalso;omega)|skip)|(refine zl ?_ ?_<;> intro hh)|refine zq ?_|refine zv ?_|refine zu ?_|exact Sy.fin_val fun e=>rfl)));(all_goals (try conv => whnf)))
        all_goals first
          | (refine ⟨n + 1, ⟨by omega, ?_⟩, by omega, ?_⟩
             · rw [e2, ← hok, e1, (kok_true _ _).2 ⟨by omega, by omega, by simp [*]⟩, Bool.true_and]
             · rw [e2]
               ((repeat' (first|((conv => whnf);done)|((try conv => whnf);first|exact trivial|(refine And.intro ?_ ?_)|rfl|exact fun _ _ _ h=>h|exact fun _ _ _ _=>trivial)));(all_goals (try conv => whnf))); done)
          | (exact Sy.fin_val (fun e => congrArg (Value.int .i64) (show (330 : Int) = chkE keep ks from by
              rw [chkE, okS, ← hok, e1, (kok_false _ _).2 (by intro ⟨x1, x2, x3⟩; first | omega | simp_all)]
              simp)))
      · have e : n = ks.length := by omega
        subst e
        exact Sy.fin_val (fun e => congrArg (Value.int .i64) (show (0 : Int) = chkE keep ks from by
          rw [chkE, okS, h0, ← hok, List.drop_length]; simp [okL]))
  · have h1 : (330 : Int) = chkE keep ks := by simp [chkE, okS, h0]
    ((repeat' ((conv => whnf);(first|refine zA ?_|(refine zI ?_ ?_<;> intro hh<;> first|(exfalso;omega)|skip)|(refine zl ?_ ?_<;> intro hh)|refine zq ?_|refine zv ?_|refine zu ?_|exact Sy.fin_val fun e=>rfl)));(all_goals (try conv => whnf)))
    all_goals first
      | exact Sy.fin_val (fun e => congrArg (Value.int .i64) h1)
      | (exfalso; apply h0; simp only [ok0, Bool.and_eq_true, decide_eq_true_eq]; omega)
end Go.Proofs.Ytkmdmjnbjoakbaa
