/- slices.Index, slices.Contains at integers. -/
import Derived.Test.YthmcknchkecciaaEnc
namespace Go.Proofs.Ythmcknchkecciaa
open Go Go.RowKit
open Sy (C SV V1 Blk St XD Els)
set_option maxRecDepth 10000

def idxP (xs : List Int) (x r : Int) : Prop := (r = -1 ∧ x ∉ xs) ∨ ∃ i : Nat, r = (i : Int) ∧ xs[i]? = some x
theorem index_any (v : Value) (xs : List Int) (x : Int) (w : World) (hr : XD.ok (fun b => b < w.heap.size) w ⟨v, 1, xs.length, xs.map encI⟩) :
    Calls Try.prog 48 #[v, .int .i64 x] w (Sy.RetEx (idxP xs x) (fun r => .int .i64 r) w) := by
  have hl := ok_len hr
  refine Sy.calls_of Sy.lv48 Sy.tab_ok Try.func48 rfl _ Try.ntmps48 [⟨v, 1, xs.length, xs.map encI⟩] [.c (.row 0), .c (.v (.int .i64 x))] rfl rfl rfl ⟨hr, trivial⟩ ?_
  ((repeat' ((conv => whnf);(first|refine zA ?_|(refine zI ?_ ?_<;> intro hh<;> first|(exfalso;omega)|skip)|(refine zl ?_ ?_<;> intro hh)|refine zq ?_|refine zv ?_|refine zu ?_|exact Sy.fin_val fun e=>rfl)));(all_goals (try conv => whnf)))
  refine Sy.loop_inv Sy.tab_ok (fun n : Nat => [(8, .c (.v (.int .i64 n)))]) (fun _ => []) (fun n => n ≤ xs.length ∧ ∀ i, i < n → xs[i]? ≠ some x) (fun n => xs.length - n) 0 ⟨Nat.zero_le _, fun i hi => absurd hi (Nat.not_lt_zero i)⟩ ?_ (fun n hle => ?_)
  · ((repeat' (first|((conv => whnf);done)|((try conv => whnf);first|exact trivial|(refine And.intro ?_ ?_)|rfl|exact fun _ _ _ h=>h|exact fun _ _ _ _=>trivial)));(all_goals (try conv => whnf)))
  · obtain ⟨hle, hne⟩ := hle
    ((repeat' ((conv => whnf);(first|refine zA ?_|(refine zI ?_ ?_<;> intro hh<;> first|(exfalso;omega)|skip)|(refine zl ?_ ?_<;> intro hh)|refine zq ?_|refine zv ?_|refine zu ?_|exact Sy.fin_val fun e=>rfl)));(all_goals (try conv => whnf)))
    · have hlt : n < xs.length := by omega
      have hg := List.getElem?_eq_getElem hlt
      generalize xs[n] = y at *
      refine Sy.el_map y hg ?_
      ((repeat' ((conv => whnf);(first|refine zA ?_|(refine zI ?_ ?_<;> intro hh<;> first|(exfalso;omega)|skip)|(refine zl ?_ ?_<;> intro hh)|refine zq ?_|refine zv ?_|refine zu ?_|exact Sy.fin_val fun e=>rfl)));(all_goals (try conv => whnf)))
      · exact Sy.fin_ex (n : Int) (.inr ⟨n, rfl, by rw [hg]; simp [*]⟩) (fun e => rfl)
      · refine ⟨n + 1, ⟨by omega, fun i hi => ?_⟩, by omega, ?_⟩
        · by_cases e : i = n
          · subst e; rw [hg]; intro h; injection h with h; omega
          · exact hne i (by omega)
        · ((repeat' (first|((conv => whnf);done)|((try conv => whnf);first|exact trivial|(refine And.intro ?_ ?_)|rfl|exact fun _ _ _ h=>h|exact fun _ _ _ _=>trivial)));(all_goals (try conv => whnf)))
    · have e : n = xs.length := by omega
      subst e
      refine Sy.fin_ex (-1) (.inl ⟨rfl, fun hm => ?_⟩) (fun e => rfl)
      obtain ⟨i, hi⟩ := List.mem_iff_getElem?.1 hm
      exact hne i (List.getElem?_eq_some_iff.1 hi).1 hi
theorem contains_any (v : Value) (xs : List Int) (x : Int) (w : World) (hr : XD.ok (fun b => b < w.heap.size) w ⟨v, 1, xs.length, xs.map encI⟩) :
    Calls Try.prog 28 #[v, .int .i64 x] w (Sy.Ret (.bool (decide (x ∈ xs))) w) := by
  refine Sy.calls_of Sy.lv28 Sy.tab_ok Try.func28 rfl _ Try.ntmps28 [⟨v, 1, xs.length, xs.map encI⟩] [.c (.row 0), .c (.v (.int .i64 x))] rfl rfl rfl ⟨hr, trivial⟩ ?_
  ((repeat' ((conv => whnf);(first|refine zA ?_|(refine zI ?_ ?_<;> intro hh<;> first|(exfalso;omega)|skip)|(refine zl ?_ ?_<;> intro hh)|refine zq ?_|refine zv ?_|refine zu ?_|exact Sy.fin_val fun e=>rfl)));(all_goals (try conv => whnf)))
  refine Sy.call_ex (idxP xs x) (fun r => .c (.v (.int .i64 r))) Try.call48 (fun _ _ => rfl) (fun e a w' h => index_any _ xs x w' (Sy.row_reads h (.inr rfl))) (fun r hr => ?_)
  ((repeat' ((conv => whnf);(first|refine zA ?_|(refine zI ?_ ?_<;> intro hh<;> first|(exfalso;omega)|skip)|(refine zl ?_ ?_<;> intro hh)|refine zq ?_|refine zv ?_|refine zu ?_|exact Sy.fin_val fun e=>rfl)));(all_goals (try conv => whnf)))
  refine Sy.fin_val (fun e => congrArg Value.bool (decide_eq_decide.2 ?_))
  rcases hr with ⟨h1, h2⟩ | ⟨i, h1, h2⟩
  · constructor
    · intro h; omega
    · intro h; exact absurd h h2
  · constructor
    · intro _; exact List.mem_of_getElem? h2
    · intro _; omega
end Go.Proofs.Ythmcknchkecciaa
