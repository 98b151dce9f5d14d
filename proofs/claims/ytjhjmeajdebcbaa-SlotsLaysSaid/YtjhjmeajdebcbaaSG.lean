/- Slots: right, task, Check. -/
import Derived.Test.YtjhjmeajdebcbaaSF
namespace Go.Proofs.Ytjhjmeajdebcbaa
open Go Go.RowKit
open Sy (C SV V1 Blk St XD Els)
set_option maxRecDepth 10000

def okW (p : Int × Int) : Prop := 1 ≤ p.1 ∧ p.1 ≤ 4 ∧ 1 ≤ p.2 ∧ p.2 ≤ 8
instance (p : Int × Int) : Decidable (okW p) := by unfold okW; infer_instance
def okT (n : Int) : Prop := 0 ≤ n ∧ n < 16
instance (n : Int) : Decidable (okT n) := by unfold okT; infer_instance
/-- A floor that may be. -/
def FlOk (ws ps : List (Int × Int)) : Prop := ((∀ p ∈ ws, okW p) ∧ asc ws) ∧ ((∀ q ∈ ps, okT q.1 ∧ ∃ p ∈ ws, p.1 = q.2) ∧ asc ps) ∧ ∀ p ∈ ws, cntW ps p.1 ≤ p.2
instance (ws ps : List (Int × Int)) : Decidable (FlOk ws ps) := by unfold FlOk asc; infer_instance
def chkE (ws ps : List (Int × Int)) : Int := if FlOk ws ps then 0 else 210
def hasW (ws : List (Int × Int)) (id : Int) : Prop := ∃ p ∈ ws, p.1 = id
instance (ws : List (Int × Int)) (id : Int) : Decidable (hasW ws id) := by unfold hasW; infer_instance
theorem asc_bound : ∀ {l : List (Int × Int)} {a b : Int}, asc l → (∀ p ∈ l, a ≤ p.1 ∧ p.1 ≤ b) → a ≤ b + 1 → (l.length : Int) ≤ b - a + 1
  | [], a, b, _, _, h => by simp; omega
  | p :: r, a, b, ha, hb, _ => by
    have h1 := hb p (List.mem_cons_self ..)
    have h2 := asc_bound (l := r) (a := p.1 + 1) (b := b) (List.pairwise_cons.1 ha).2 (fun q hq => ⟨by have := (List.pairwise_cons.1 ha).1 q hq; omega, (hb q (List.mem_cons_of_mem _ hq)).2⟩) (by omega)
    rw [List.length_cons]; omega
theorem ok_lens {ws ps : List (Int × Int)} (h : FlOk ws ps) : ws.length ≤ 4 ∧ ps.length ≤ 16 := by
  obtain ⟨⟨h1, h2⟩, ⟨h3, h4⟩, _⟩ := h
  have a := asc_bound (a := 1) (b := 4) h2 (fun p hp => ⟨(h1 p hp).1, (h1 p hp).2.1⟩) (by omega)
  have b := asc_bound (a := 0) (b := 15) h4 (fun p hp => by have := (h3 p hp).1; unfold okT at this; omega) (by omega)
  omega
theorem ok_free {ws ps : List (Int × Int)} (h : FlOk ws ps) : FrOk ws ps := by
  have hl := ok_lens h
  obtain ⟨⟨h1, h2⟩, ⟨h3, _⟩, _⟩ := h
  exact ⟨h2, fun p hp => (h1 p hp).2.2, fun q hq => (h3 q hq).2, by omega, by omega⟩
theorem right_any (p : Int × Int) (w : World) : Calls Try.prog 34 #[.agg #[.int .i64 p.1, .int .i64 p.2]] w (Sy.Ret (.bool (decide (okW p))) w) := by
  refine Sy.calls_of Sy.lv34 Sy.tab_ok Try.func34 rfl _ Try.ntmps34 [] [.agg [.v (.int .i64 p.1), .v (.int .i64 p.2)]] rfl rfl rfl trivial ?_
  by_cases h1 : 1 ≤ p.1
  · by_cases h2 : p.1 ≤ 4
    · by_cases h3 : 1 ≤ p.2
      · by_cases h4 : p.2 ≤ 8
        · ((repeat' ((conv => whnf);(first|refine zA ?_|(refine zI ?_ ?_<;> intro hh<;> first|(exfalso;omega)|skip)|(refine zl ?_ ?_<;> intro hh)|refine zq ?_|refine zv ?_|refine zu ?_|exact Sy.fin_val fun e=>rfl)));(all_goals (try conv => whnf)))
          exact Sy.fin_val (fun e => congrArg Value.bool (by rw [decide_eq_true h4, decide_eq_true (show okW p from ⟨h1, h2, h3, h4⟩)]))
        · ((repeat' ((conv => whnf);(first|refine zA ?_|(refine zI ?_ ?_<;> intro hh<;> first|(exfalso;omega)|skip)|(refine zl ?_ ?_<;> intro hh)|refine zq ?_|refine zv ?_|refine zu ?_|exact Sy.fin_val fun e=>rfl)));(all_goals (try conv => whnf)))
          exact Sy.fin_val (fun e => congrArg Value.bool (by rw [decide_eq_false h4, decide_eq_false (fun h : okW p => h4 h.2.2.2)]))
      · rw [decide_eq_false (fun h : okW p => h3 h.2.2.1)]
        ((repeat' ((conv => whnf);(first|refine zA ?_|(refine zI ?_ ?_<;> intro hh<;> first|(exfalso;omega)|skip)|(refine zl ?_ ?_<;> intro hh)|refine zq ?_|refine zv ?_|refine zu ?_|exact Sy.fin_val fun e=>rfl)));(all_goals (try conv => whnf)))
        all_goals done
    · rw [decide_eq_false (fun h : okW p => h2 h.2.1)]
      ((repeat' ((conv => whnf);(first|refine zA ?_|(refine zI ?_ ?_<;> intro hh<;> first|(exfalso;omega)|skip)|(refine zl ?_ ?_<;> intro hh)|refine zq ?_|refine zv ?_|refine zu ?_|exact Sy.fin_val fun e=>rfl)));(all_goals (try conv => whnf)))
      all_goals done
  · rw [decide_eq_false (fun h : okW p => h1 h.1)]
    ((repeat' ((conv => whnf);(first|refine zA ?_|(refine zI ?_ ?_<;> intro hh<;> first|(exfalso;omega)|skip)|(refine zl ?_ ?_<;> intro hh)|refine zq ?_|refine zv ?_|refine zu ?_|exact Sy.fin_val fun e=>rfl)));(all_goals (try conv => whnf)))
    all_goals done
theorem task_any (n : Int) (w : World) : Calls Try.prog 39 #[.int .i64 n] w (Sy.Ret (.bool (decide (okT n))) w) := by
  refine Sy.calls_of Sy.lv39 Sy.tab_ok Try.func39 rfl _ Try.ntmps39 [] [.c (.v (.int .i64 n))] rfl rfl rfl trivial ?_
  by_cases h1 : 0 ≤ n
  · by_cases h2 : n < 16
    · ((repeat' ((conv => whnf);(first|refine zA ?_|(refine zI ?_ ?_<;> intro hh<;> first|(exfalso;omega)|skip)|(refine zl ?_ ?_<;> intro hh)|refine zq ?_|refine zv ?_|refine zu ?_|exact Sy.fin_val fun e=>rfl)));(all_goals (try conv => whnf)))
      exact Sy.fin_val (fun e => congrArg Value.bool (by rw [decide_eq_true h2, decide_eq_true (show okT n from ⟨h1, h2⟩)]))
    · ((repeat' ((conv => whnf);(first|refine zA ?_|(refine zI ?_ ?_<;> intro hh<;> first|(exfalso;omega)|skip)|(refine zl ?_ ?_<;> intro hh)|refine zq ?_|refine zv ?_|refine zu ?_|exact Sy.fin_val fun e=>rfl)));(all_goals (try conv => whnf)))
      exact Sy.fin_val (fun e => congrArg Value.bool (by rw [decide_eq_false h2, decide_eq_false (fun h : okT n => h2 h.2)]))
  · rw [decide_eq_false (fun h : okT n => h1 h.1)]
    ((repeat' ((conv => whnf);(first|refine zA ?_|(refine zI ?_ ?_<;> intro hh<;> first|(exfalso;omega)|skip)|(refine zl ?_ ?_<;> intro hh)|refine zq ?_|refine zv ?_|refine zu ?_|exact Sy.fin_val fun e=>rfl)));(all_goals (try conv => whnf)))
    all_goals done
theorem asc_snoc {l : List (Int × Int)} {n : Nat} {p : Int × Int} (h : asc (l.take n)) (hp : l[n]? = some p) (hlt : ∀ q, 0 < n → l[n - 1]? = some q → q.1 < p.1) : asc (l.take (n + 1)) := by
  obtain ⟨hn, he⟩ := List.getElem?_eq_some_iff.1 hp
  unfold asc
  rw [List.take_succ_eq_append_getElem hn, he]
  refine List.pairwise_append.2 ⟨h, List.pairwise_singleton _ _, fun a ha b hb => ?_⟩
  rw [List.mem_singleton.1 hb]
  obtain ⟨j, hj⟩ := List.mem_iff_getElem?.1 ha
  have hjn : j < n := by
    have := (List.getElem?_eq_some_iff.1 hj).1
    rw [List.length_take] at this; omega
  have hq := List.getElem?_eq_getElem (show n - 1 < l.length by omega)
  have h1 := hlt _ (by omega) hq
  rcases Nat.lt_or_eq_of_le (Nat.le_sub_one_of_lt hjn) with h2 | h2
  · have hq2 : (l.take n)[n - 1]? = some l[n - 1] := by rw [List.getElem?_take_of_lt (by omega)]; exact hq
    have := asc_lt h hj hq2 h2
    omega
  · rw [List.getElem?_take_of_lt hjn, h2, hq] at hj
    rw [← Option.some.inj hj]; exact h1
theorem not_asc {l : List (Int × Int)} {n : Nat} {p q : Int × Int} (hp : l[n]? = some p) (h0 : 0 < n) (hq : l[n - 1]? = some q) (h : ¬ q.1 < p.1) : ¬ asc l := fun ha => h (asc_lt ha hq hp (by omega))
end Go.Proofs.Ytjhjmeajdebcbaa
