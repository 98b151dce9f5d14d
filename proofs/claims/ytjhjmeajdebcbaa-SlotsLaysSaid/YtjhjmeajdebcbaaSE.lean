/- Slots: worker, place: searched for (written by wip/tools/gen_slots.py) -/
import Derived.Test.YtjhjmeajdebcbaaSSpec
namespace Go.Proofs.Ytjhjmeajdebcbaa
open Go Go.RowKit
open Sy (C SV V1 Blk St XD Els)
set_option maxRecDepth 10000

set_option maxHeartbeats 1000000 in
theorem worker_any (u v : Value) (ws ps : List (Int × Int)) (x : Int) (w : World) (hu : XD.ok (fun b => b < w.heap.size) w ⟨u, 2, ws.length, ws.map enc2⟩) (hv : XD.ok (fun b => b < w.heap.size) w ⟨v, 2, ps.length, ps.map enc2⟩) (hb : ws.length ≤ 1000000) :
    Calls Try.prog 33 #[.agg #[u, v], .int .i64 x] w (Sy.RetEx (srchP ws x) (fun r => .tuple #[.int .i64 r.1, .bool r.2]) w) := by
  refine Sy.calls_of Sy.lv33 Sy.tab_ok Try.func33 rfl _ Try.ntmps33 [⟨u, 2, ws.length, ws.map enc2⟩, ⟨v, 2, ps.length, ps.map enc2⟩] [.agg [.row 0, .row 1], .c (.v (.int .i64 x))] rfl rfl rfl ⟨hu, hv, trivial⟩ ?_
  ((repeat' ((conv => whnf);(first|refine zA ?_|(refine zI ?_ ?_<;> intro hh<;> first|(exfalso;omega)|skip)|(refine zl ?_ ?_<;> intro hh)|refine zq ?_|refine zv ?_|refine zu ?_|exact Sy.fin_val fun e=>rfl)));(all_goals (try conv => whnf)))
  refine Sy.call_in Sy.lv64 Sy.tab_ok Try.func64 rfl _ Try.ntmps64 Try.call64 rfl (fun _ => ?_)
  ((repeat' ((conv => whnf);(first|refine zA ?_|(refine zI ?_ ?_<;> intro hh<;> first|(exfalso;omega)|skip)|(refine zl ?_ ?_<;> intro hh)|refine zq ?_|refine zv ?_|refine zu ?_|exact Sy.fin_val fun e=>rfl)));(all_goals (try conv => whnf)))
  refine Sy.call_in Sy.lv78 Sy.tab_ok Try.func78 rfl _ Try.ntmps78 Try.call78 rfl (fun _ => ?_)
  ((repeat' ((conv => whnf);(first|refine zA ?_|(refine zI ?_ ?_<;> intro hh<;> first|(exfalso;omega)|skip)|(refine zl ?_ ?_<;> intro hh)|refine zq ?_|refine zv ?_|refine zu ?_|exact Sy.fin_val fun e=>rfl)));(all_goals (try conv => whnf)))
  refine Sy.loop_inv Sy.tab_ok (fun p : Nat × Nat => [(9, .c (.v (.int .i64 p.1))), (10, .c (.v (.int .i64 p.2)))]) (fun _ => []) (fun p => p.1 ≤ p.2 ∧ p.2 ≤ ws.length ∧ (asc ws → (∀ (i : Nat) (k : Int × Int), i < p.1 → ws[i]? = some k → k.1 < x) ∧ (∀ (i : Nat) (k : Int × Int), p.2 ≤ i → ws[i]? = some k → x ≤ k.1))) (fun p => p.2 - p.1) (0, ws.length) ⟨Nat.zero_le _, Nat.le_refl _, fun _ => ⟨fun i k h => absurd h (Nat.not_lt_zero _), fun i k h hk => absurd ((List.getElem?_eq_some_iff.1 hk).1) (by show ¬ i < ws.length; exact Nat.not_lt.2 h)⟩⟩ ?_ (fun p hle => ?_)
  · ((repeat' (first|((conv => whnf);done)|((try conv => whnf);first|exact trivial|(refine And.intro ?_ ?_)|rfl|exact fun _ _ _ h=>h|exact fun _ _ _ _=>trivial)));(all_goals (try conv => whnf)))
  · obtain ⟨i, j⟩ := p
    obtain ⟨hij, hj, hlh⟩ := hle
    dsimp only at *
    ((repeat' ((conv => whnf);(first|refine zA ?_|(refine zI ?_ ?_<;> intro hh<;> first|(exfalso;omega)|skip)|(refine zl ?_ ?_<;> intro hh)|refine zq ?_|refine zv ?_|refine zu ?_|exact Sy.fin_val fun e=>rfl)));(all_goals (try conv => whnf)))
    · refine Sy.ar_u64 (by omega) ?_
      ((repeat' ((conv => whnf);(first|refine zA ?_|(refine zI ?_ ?_<;> intro hh<;> first|(exfalso;omega)|skip)|(refine zl ?_ ?_<;> intro hh)|refine zq ?_|refine zv ?_|refine zu ?_|exact Sy.fin_val fun e=>rfl)));(all_goals (try conv => whnf)))
      refine Sy.sh_nat (y := 1) ?_
      ((repeat' ((conv => whnf);(first|refine zA ?_|(refine zI ?_ ?_<;> intro hh<;> first|(exfalso;omega)|skip)|(refine zl ?_ ?_<;> intro hh)|refine zq ?_|refine zv ?_|refine zu ?_|exact Sy.fin_val fun e=>rfl)));(all_goals (try conv => whnf)))
      refine Sy.ar_eq (half i j) (by omega) ?_
      ((repeat' ((conv => whnf);(first|refine zA ?_|(refine zI ?_ ?_<;> intro hh<;> first|(exfalso;omega)|skip)|(refine zl ?_ ?_<;> intro hh)|refine zq ?_|refine zv ?_|refine zu ?_|exact Sy.fin_val fun e=>rfl)));(all_goals (try conv => whnf)))
      have hlt : (i + j) / 2 < ws.length := by omega
      have h5 : i ≤ (i + j) / 2 := by omega
      have h6 : (i + j) / 2 < j := by omega
      have hg := List.getElem?_eq_getElem hlt
      generalize ws[(i + j) / 2] = p at *
      generalize (i + j) / 2 = m at *
      refine Sy.el_map p hg ?_
      ((repeat' ((conv => whnf);(first|refine zA ?_|(refine zI ?_ ?_<;> intro hh<;> first|(exfalso;omega)|skip)|(refine zl ?_ ?_<;> intro hh)|refine zq ?_|refine zv ?_|refine zu ?_|exact Sy.fin_val fun e=>rfl)));(all_goals (try conv => whnf)))
      refine Sy.call_in Sy.lv79 Sy.tab_ok Try.func79 rfl _ Try.ntmps79 Try.call79 rfl (fun _ => ?_)
      ((repeat' ((conv => whnf);(first|refine zA ?_|(refine zI ?_ ?_<;> intro hh<;> first|(exfalso;omega)|skip)|(refine zl ?_ ?_<;> intro hh)|refine zq ?_|refine zv ?_|refine zu ?_|exact Sy.fin_val fun e=>rfl)));(all_goals (try conv => whnf)))
      refine Sy.call_in Sy.lv65 Sy.tab_ok Try.func65 rfl _ Try.ntmps65 Try.call65 rfl (fun _ => ?_)
      ((repeat' ((conv => whnf);(first|refine zA ?_|(refine zI ?_ ?_<;> intro hh<;> first|(exfalso;omega)|skip)|(refine zl ?_ ?_<;> intro hh)|refine zq ?_|refine zv ?_|refine zu ?_|exact Sy.fin_val fun e=>rfl)));(all_goals (try conv => whnf)))
      refine Sy.call_in Sy.lv80 Sy.tab_ok Try.func80 rfl _ Try.ntmps80 Try.call80 rfl (fun _ => ?_)
      ((repeat' ((conv => whnf);(first|refine zA ?_|(refine zI ?_ ?_<;> intro hh<;> first|(exfalso;omega)|skip)|(refine zl ?_ ?_<;> intro hh)|refine zq ?_|refine zv ?_|refine zu ?_|exact Sy.fin_val fun e=>rfl)));(all_goals (try conv => whnf)))
      refine Sy.call_in Sy.lv88 Sy.tab_ok Try.func88 rfl _ Try.ntmps88 Try.call88 rfl (fun _ => ?_)
      ((repeat' ((conv => whnf);(first|refine zA ?_|(refine zI ?_ ?_<;> intro hh<;> first|(exfalso;omega)|skip)|(refine zl ?_ ?_<;> intro hh)|refine zq ?_|refine zv ?_|refine zu ?_|exact Sy.fin_val fun e=>rfl)));(all_goals (try conv => whnf)))
      refine Sy.call_in Sy.lv88 Sy.tab_ok Try.func88 rfl _ Try.ntmps88 Try.call88 rfl (fun _ => ?_)
      by_cases hc : p.1 < x
      · ((repeat' ((conv => whnf);(first|refine zA ?_|(refine zI ?_ ?_<;> intro hh<;> first|(exfalso;omega)|skip)|(refine zl ?_ ?_<;> intro hh)|refine zq ?_|refine zv ?_|refine zu ?_|exact Sy.fin_val fun e=>rfl)));(all_goals (try conv => whnf)))
        refine ⟨(m + 1, j), ⟨by dsimp only; omega, by dsimp only; omega, fun ha => ⟨fun m' q hm hq => ?_, (hlh ha).2⟩⟩, by dsimp only; omega, ?_⟩
        · dsimp only at hm
          rcases Nat.lt_or_eq_of_le (Nat.lt_succ_iff.1 hm) with hm | rfl
          · have := asc_lt ha hq hg hm; omega
          · rw [hg] at hq; cases hq; exact hc
        · ((repeat' (first|((conv => whnf);done)|((try conv => whnf);first|exact trivial|(refine And.intro ?_ ?_)|rfl|exact fun _ _ _ h=>h|exact fun _ _ _ _=>trivial)));(all_goals (try conv => whnf)))
      · ((repeat' ((conv => whnf);(first|refine zA ?_|(refine zI ?_ ?_<;> intro hh<;> first|(exfalso;omega)|skip)|(refine zl ?_ ?_<;> intro hh)|refine zq ?_|refine zv ?_|refine zu ?_|exact Sy.fin_val fun e=>rfl)));(all_goals (try conv => whnf)))
        all_goals (refine ⟨(i, m), ⟨by dsimp only; omega, by dsimp only; omega, fun ha => ⟨(hlh ha).1, fun m' q hm hq => by
          dsimp only at hm
          rcases Nat.lt_or_eq_of_le hm with hm | rfl
          · have := asc_lt ha hg hq hm; omega
          · rw [hg] at hq; cases hq; omega⟩⟩, by dsimp only; omega, ?_⟩)
        all_goals (((repeat' (first|((conv => whnf);done)|((try conv => whnf);first|exact trivial|(refine And.intro ?_ ?_)|rfl|exact fun _ _ _ h=>h|exact fun _ _ _ _=>trivial)));(all_goals (try conv => whnf))))
    · have hlt : i < ws.length := by omega
      have hg := List.getElem?_eq_getElem hlt
      generalize ws[i] = p at *
      have hfin : ∀ r : Bool, (r = true ↔ p.1 = x) → srchP ws x (i, r) := fun r hr => by
        refine ⟨by dsimp only; omega, fun h => ⟨p, hg, hr.1 h⟩, fun ha => ⟨(hlh ha).1, fun m q hm hq => (hlh ha).2 m q (by dsimp only at hm; omega) hq, fun h q hq he => ?_⟩⟩
        obtain ⟨m, hm⟩ := List.mem_iff_getElem?.1 hq
        have hne : p.1 ≠ x := fun h2 => by have := hr.2 h2; dsimp only at h; rw [h] at this; cases this
        rcases Nat.lt_trichotomy m i with h2 | h2 | h2
        · have := (hlh ha).1 m q h2 hm; omega
        · subst h2; rw [hg] at hm; cases hm; exact hne he
        · have h3 := asc_lt ha hg hm h2
          have h4 := (hlh ha).2 i p (by omega) hg
          omega
      refine Sy.el_map p hg ?_
      ((repeat' ((conv => whnf);(first|refine zA ?_|(refine zI ?_ ?_<;> intro hh<;> first|(exfalso;omega)|skip)|(refine zl ?_ ?_<;> intro hh)|refine zq ?_|refine zv ?_|refine zu ?_|exact Sy.fin_val fun e=>rfl)));(all_goals (try conv => whnf)))
      refine Sy.call_in Sy.lv79 Sy.tab_ok Try.func79 rfl _ Try.ntmps79 Try.call79 rfl (fun _ => ?_)
      ((repeat' ((conv => whnf);(first|refine zA ?_|(refine zI ?_ ?_<;> intro hh<;> first|(exfalso;omega)|skip)|(refine zl ?_ ?_<;> intro hh)|refine zq ?_|refine zv ?_|refine zu ?_|exact Sy.fin_val fun e=>rfl)));(all_goals (try conv => whnf)))
      refine Sy.call_in Sy.lv65 Sy.tab_ok Try.func65 rfl _ Try.ntmps65 Try.call65 rfl (fun _ => ?_)
      ((repeat' ((conv => whnf);(first|refine zA ?_|(refine zI ?_ ?_<;> intro hh<;> first|(exfalso;omega)|skip)|(refine zl ?_ ?_<;> intro hh)|refine zq ?_|refine zv ?_|refine zu ?_|exact Sy.fin_val fun e=>rfl)));(all_goals (try conv => whnf)))
      refine Sy.call_in Sy.lv80 Sy.tab_ok Try.func80 rfl _ Try.ntmps80 Try.call80 rfl (fun _ => ?_)
      ((repeat' ((conv => whnf);(first|refine zA ?_|(refine zI ?_ ?_<;> intro hh<;> first|(exfalso;omega)|skip)|(refine zl ?_ ?_<;> intro hh)|refine zq ?_|refine zv ?_|refine zu ?_|exact Sy.fin_val fun e=>rfl)));(all_goals (try conv => whnf)))
      refine Sy.call_in Sy.lv88 Sy.tab_ok Try.func88 rfl _ Try.ntmps88 Try.call88 rfl (fun _ => ?_)
      ((repeat' ((conv => whnf);(first|refine zA ?_|(refine zI ?_ ?_<;> intro hh<;> first|(exfalso;omega)|skip)|(refine zl ?_ ?_<;> intro hh)|refine zq ?_|refine zv ?_|refine zu ?_|exact Sy.fin_val fun e=>rfl)));(all_goals (try conv => whnf)))
      refine Sy.call_in Sy.lv88 Sy.tab_ok Try.func88 rfl _ Try.ntmps88 Try.call88 rfl (fun _ => ?_)
      rcases Int.lt_trichotomy p.1 x with hc | hc | hc
      · ((repeat' ((conv => whnf);(first|refine zA ?_|(refine zI ?_ ?_<;> intro hh<;> first|(exfalso;omega)|skip)|(refine zl ?_ ?_<;> intro hh)|refine zq ?_|refine zv ?_|refine zu ?_|exact Sy.fin_val fun e=>rfl)));(all_goals (try conv => whnf)))
        exact Sy.fin_ex (i, false) (hfin false ⟨fun h => (by cases h), fun h => by omega⟩) (fun e => rfl)
      · ((repeat' ((conv => whnf);(first|refine zA ?_|(refine zI ?_ ?_<;> intro hh<;> first|(exfalso;omega)|skip)|(refine zl ?_ ?_<;> intro hh)|refine zq ?_|refine zv ?_|refine zu ?_|exact Sy.fin_val fun e=>rfl)));(all_goals (try conv => whnf)))
        exact Sy.fin_ex (i, true) (hfin true ⟨fun _ => hc, fun _ => rfl⟩) (fun e => rfl)
      · ((repeat' ((conv => whnf);(first|refine zA ?_|(refine zI ?_ ?_<;> intro hh<;> first|(exfalso;omega)|skip)|(refine zl ?_ ?_<;> intro hh)|refine zq ?_|refine zv ?_|refine zu ?_|exact Sy.fin_val fun e=>rfl)));(all_goals (try conv => whnf)))
        exact Sy.fin_ex (i, false) (hfin false ⟨fun h => (by cases h), fun h => by omega⟩) (fun e => rfl)
    · refine Sy.fin_ex (i, false) ⟨by dsimp only; omega, fun h => (by cases h), fun ha => ⟨(hlh ha).1, fun m q hm hq => (hlh ha).2 m q (by dsimp only at hm; omega) hq, fun _ q hq he => ?_⟩⟩ (fun e => rfl)
      obtain ⟨m, hm⟩ := List.mem_iff_getElem?.1 hq
      have h1 := (List.getElem?_eq_some_iff.1 hm).1
      have := (hlh ha).1 m q (by omega) hm
      omega
set_option maxHeartbeats 1000000 in
theorem place_any (u v : Value) (ws ps : List (Int × Int)) (x : Int) (w : World) (hu : XD.ok (fun b => b < w.heap.size) w ⟨u, 2, ws.length, ws.map enc2⟩) (hv : XD.ok (fun b => b < w.heap.size) w ⟨v, 2, ps.length, ps.map enc2⟩) (hb : ps.length ≤ 1000000) :
    Calls Try.prog 47 #[.agg #[u, v], .int .i64 x] w (Sy.RetEx (srchP ps x) (fun r => .tuple #[.int .i64 r.1, .bool r.2]) w) := by
  refine Sy.calls_of Sy.lv47 Sy.tab_ok Try.func47 rfl _ Try.ntmps47 [⟨u, 2, ws.length, ws.map enc2⟩, ⟨v, 2, ps.length, ps.map enc2⟩] [.agg [.row 0, .row 1], .c (.v (.int .i64 x))] rfl rfl rfl ⟨hu, hv, trivial⟩ ?_
  ((repeat' ((conv => whnf);(first|refine zA ?_|(refine zI ?_ ?_<;> intro hh<;> first|(exfalso;omega)|skip)|(refine zl ?_ ?_<;> intro hh)|refine zq ?_|refine zv ?_|refine zu ?_|exact Sy.fin_val fun e=>rfl)));(all_goals (try conv => whnf)))
  refine Sy.call_in Sy.lv74 Sy.tab_ok Try.func74 rfl _ Try.ntmps74 Try.call74 rfl (fun _ => ?_)
  ((repeat' ((conv => whnf);(first|refine zA ?_|(refine zI ?_ ?_<;> intro hh<;> first|(exfalso;omega)|skip)|(refine zl ?_ ?_<;> intro hh)|refine zq ?_|refine zv ?_|refine zu ?_|exact Sy.fin_val fun e=>rfl)));(all_goals (try conv => whnf)))
  refine Sy.call_in Sy.lv85 Sy.tab_ok Try.func85 rfl _ Try.ntmps85 Try.call85 rfl (fun _ => ?_)
  ((repeat' ((conv => whnf);(first|refine zA ?_|(refine zI ?_ ?_<;> intro hh<;> first|(exfalso;omega)|skip)|(refine zl ?_ ?_<;> intro hh)|refine zq ?_|refine zv ?_|refine zu ?_|exact Sy.fin_val fun e=>rfl)));(all_goals (try conv => whnf)))
  refine Sy.loop_inv Sy.tab_ok (fun p : Nat × Nat => [(9, .c (.v (.int .i64 p.1))), (10, .c (.v (.int .i64 p.2)))]) (fun _ => []) (fun p => p.1 ≤ p.2 ∧ p.2 ≤ ps.length ∧ (asc ps → (∀ (i : Nat) (k : Int × Int), i < p.1 → ps[i]? = some k → k.1 < x) ∧ (∀ (i : Nat) (k : Int × Int), p.2 ≤ i → ps[i]? = some k → x ≤ k.1))) (fun p => p.2 - p.1) (0, ps.length) ⟨Nat.zero_le _, Nat.le_refl _, fun _ => ⟨fun i k h => absurd h (Nat.not_lt_zero _), fun i k h hk => absurd ((List.getElem?_eq_some_iff.1 hk).1) (by show ¬ i < ps.length; exact Nat.not_lt.2 h)⟩⟩ ?_ (fun p hle => ?_)
  · ((repeat' (first|((conv => whnf);done)|((try conv => whnf);first|exact trivial|(refine And.intro ?_ ?_)|rfl|exact fun _ _ _ h=>h|exact fun _ _ _ _=>trivial)));(all_goals (try conv => whnf)))
  · obtain ⟨i, j⟩ := p
    obtain ⟨hij, hj, hlh⟩ := hle
    dsimp only at *
    ((repeat' ((conv => whnf);(first|refine zA ?_|(refine zI ?_ ?_<;> intro hh<;> first|(exfalso;omega)|skip)|(refine zl ?_ ?_<;> intro hh)|refine zq ?_|refine zv ?_|refine zu ?_|exact Sy.fin_val fun e=>rfl)));(all_goals (try conv => whnf)))
    · refine Sy.ar_u64 (by omega) ?_
      ((repeat' ((conv => whnf);(first|refine zA ?_|(refine zI ?_ ?_<;> intro hh<;> first|(exfalso;omega)|skip)|(refine zl ?_ ?_<;> intro hh)|refine zq ?_|refine zv ?_|refine zu ?_|exact Sy.fin_val fun e=>rfl)));(all_goals (try conv => whnf)))
      refine Sy.sh_nat (y := 1) ?_
      ((repeat' ((conv => whnf);(first|refine zA ?_|(refine zI ?_ ?_<;> intro hh<;> first|(exfalso;omega)|skip)|(refine zl ?_ ?_<;> intro hh)|refine zq ?_|refine zv ?_|refine zu ?_|exact Sy.fin_val fun e=>rfl)));(all_goals (try conv => whnf)))
      refine Sy.ar_eq (half i j) (by omega) ?_
      ((repeat' ((conv => whnf);(first|refine zA ?_|(refine zI ?_ ?_<;> intro hh<;> first|(exfalso;omega)|skip)|(refine zl ?_ ?_<;> intro hh)|refine zq ?_|refine zv ?_|refine zu ?_|exact Sy.fin_val fun e=>rfl)));(all_goals (try conv => whnf)))
      have hlt : (i + j) / 2 < ps.length := by omega
      have h5 : i ≤ (i + j) / 2 := by omega
      have h6 : (i + j) / 2 < j := by omega
      have hg := List.getElem?_eq_getElem hlt
      generalize ps[(i + j) / 2] = p at *
      generalize (i + j) / 2 = m at *
      refine Sy.el_map p hg ?_
      ((repeat' ((conv => whnf);(first|refine zA ?_|(refine zI ?_ ?_<;> intro hh<;> first|(exfalso;omega)|skip)|(refine zl ?_ ?_<;> intro hh)|refine zq ?_|refine zv ?_|refine zu ?_|exact Sy.fin_val fun e=>rfl)));(all_goals (try conv => whnf)))
      refine Sy.call_in Sy.lv86 Sy.tab_ok Try.func86 rfl _ Try.ntmps86 Try.call86 rfl (fun _ => ?_)
      ((repeat' ((conv => whnf);(first|refine zA ?_|(refine zI ?_ ?_<;> intro hh<;> first|(exfalso;omega)|skip)|(refine zl ?_ ?_<;> intro hh)|refine zq ?_|refine zv ?_|refine zu ?_|exact Sy.fin_val fun e=>rfl)));(all_goals (try conv => whnf)))
      refine Sy.call_in Sy.lv75 Sy.tab_ok Try.func75 rfl _ Try.ntmps75 Try.call75 rfl (fun _ => ?_)
      ((repeat' ((conv => whnf);(first|refine zA ?_|(refine zI ?_ ?_<;> intro hh<;> first|(exfalso;omega)|skip)|(refine zl ?_ ?_<;> intro hh)|refine zq ?_|refine zv ?_|refine zu ?_|exact Sy.fin_val fun e=>rfl)));(all_goals (try conv => whnf)))
      refine Sy.call_in Sy.lv80 Sy.tab_ok Try.func80 rfl _ Try.ntmps80 Try.call80 rfl (fun _ => ?_)
      ((repeat' ((conv => whnf);(first|refine zA ?_|(refine zI ?_ ?_<;> intro hh<;> first|(exfalso;omega)|skip)|(refine zl ?_ ?_<;> intro hh)|refine zq ?_|refine zv ?_|refine zu ?_|exact Sy.fin_val fun e=>rfl)));(all_goals (try conv => whnf)))
      refine Sy.call_in Sy.lv88 Sy.tab_ok Try.func88 rfl _ Try.ntmps88 Try.call88 rfl (fun _ => ?_)
      ((repeat' ((conv => whnf);(first|refine zA ?_|(refine zI ?_ ?_<;> intro hh<;> first|(exfalso;omega)|skip)|(refine zl ?_ ?_<;> intro hh)|refine zq ?_|refine zv ?_|refine zu ?_|exact Sy.fin_val fun e=>rfl)));(all_goals (try conv => whnf)))
      refine Sy.call_in Sy.lv88 Sy.tab_ok Try.func88 rfl _ Try.ntmps88 Try.call88 rfl (fun _ => ?_)
      by_cases hc : p.1 < x
      · ((repeat' ((conv => whnf);(first|refine zA ?_|(refine zI ?_ ?_<;> intro hh<;> first|(exfalso;omega)|skip)|(refine zl ?_ ?_<;> intro hh)|refine zq ?_|refine zv ?_|refine zu ?_|exact Sy.fin_val fun e=>rfl)));(all_goals (try conv => whnf)))
        refine ⟨(m + 1, j), ⟨by dsimp only; omega, by dsimp only; omega, fun ha => ⟨fun m' q hm hq => ?_, (hlh ha).2⟩⟩, by dsimp only; omega, ?_⟩
        · dsimp only at hm
          rcases Nat.lt_or_eq_of_le (Nat.lt_succ_iff.1 hm) with hm | rfl
          · have := asc_lt ha hq hg hm; omega
          · rw [hg] at hq; cases hq; exact hc
        · ((repeat' (first|((conv => whnf);done)|((try conv => whnf);first|exact trivial|(refine And.intro ?_ ?_)|rfl|exact fun _ _ _ h=>h|exact fun _ _ _ _=>trivial)));(all_goals (try conv => whnf)))
      · ((repeat' ((conv => whnf);(first|refine zA ?_|(refine zI ?_ ?_<;> intro hh<;> first|(exfalso;omega)|skip)|(refine zl ?_ ?_<;> intro hh)|refine zq ?_|refine zv ?_|refine zu ?_|exact Sy.fin_val fun e=>rfl)));(all_goals (try conv => whnf)))
        all_goals (refine ⟨(i, m), ⟨by dsimp only; omega, by dsimp only; omega, fun ha => ⟨(hlh ha).1, fun m' q hm hq => by
          dsimp only at hm
          rcases Nat.lt_or_eq_of_le hm with hm | rfl
          · have := asc_lt ha hg hq hm; omega
          · rw [hg] at hq; cases hq; omega⟩⟩, by dsimp only; omega, ?_⟩)
        all_goals (((repeat' (first|((conv => whnf);done)|((try conv => whnf);first|exact trivial|(refine And.intro ?_ ?_)|rfl|exact fun _ _ _ h=>h|exact fun _ _ _ _=>trivial)));(all_goals (try conv => whnf))))
    · have hlt : i < ps.length := by omega
      have hg := List.getElem?_eq_getElem hlt
      generalize ps[i] = p at *
      have hfin : ∀ r : Bool, (r = true ↔ p.1 = x) → srchP ps x (i, r) := fun r hr => by
        refine ⟨by dsimp only; omega, fun h => ⟨p, hg, hr.1 h⟩, fun ha => ⟨(hlh ha).1, fun m q hm hq => (hlh ha).2 m q (by dsimp only at hm; omega) hq, fun h q hq he => ?_⟩⟩
        obtain ⟨m, hm⟩ := List.mem_iff_getElem?.1 hq
        have hne : p.1 ≠ x := fun h2 => by have := hr.2 h2; dsimp only at h; rw [h] at this; cases this
        rcases Nat.lt_trichotomy m i with h2 | h2 | h2
        · have := (hlh ha).1 m q h2 hm; omega
        · subst h2; rw [hg] at hm; cases hm; exact hne he
        · have h3 := asc_lt ha hg hm h2
          have h4 := (hlh ha).2 i p (by omega) hg
          omega
      refine Sy.el_map p hg ?_
      ((repeat' ((conv => whnf);(first|refine zA ?_|(refine zI ?_ ?_<;> intro hh<;> first|(exfalso;omega)|skip)|(refine zl ?_ ?_<;> intro hh)|refine zq ?_|refine zv ?_|refine zu ?_|exact Sy.fin_val fun e=>rfl)));(all_goals (try conv => whnf)))
      refine Sy.call_in Sy.lv86 Sy.tab_ok Try.func86 rfl _ Try.ntmps86 Try.call86 rfl (fun _ => ?_)
      ((repeat' ((conv => whnf);(first|refine zA ?_|(refine zI ?_ ?_<;> intro hh<;> first|(exfalso;omega)|skip)|(refine zl ?_ ?_<;> intro hh)|refine zq ?_|refine zv ?_|refine zu ?_|exact Sy.fin_val fun e=>rfl)));(all_goals (try conv => whnf)))
      refine Sy.call_in Sy.lv75 Sy.tab_ok Try.func75 rfl _ Try.ntmps75 Try.call75 rfl (fun _ => ?_)
      ((repeat' ((conv => whnf);(first|refine zA ?_|(refine zI ?_ ?_<;> intro hh<;> first|(exfalso;omega)|skip)|(refine zl ?_ ?_<;> intro hh)|refine zq ?_|refine zv ?_|refine zu ?_|exact Sy.fin_val fun e=>rfl)));(all_goals (try conv => whnf)))
      refine Sy.call_in Sy.lv80 Sy.tab_ok Try.func80 rfl _ Try.ntmps80 Try.call80 rfl (fun _ => ?_)
      ((repeat' ((conv => whnf);(first|refine zA ?_|(refine zI ?_ ?_<;> intro hh<;> first|(exfalso;omega)|skip)|(refine zl ?_ ?_<;> intro hh)|refine zq ?_|refine zv ?_|refine zu ?_|exact Sy.fin_val fun e=>rfl)));(all_goals (try conv => whnf)))
      refine Sy.call_in Sy.lv88 Sy.tab_ok Try.func88 rfl _ Try.ntmps88 Try.call88 rfl (fun _ => ?_)
      ((repeat' ((conv => whnf);(first|refine zA ?_|(refine zI ?_ ?_<;> intro hh<;> first|(exfalso;omega)|skip)|(refine zl ?_ ?_<;> intro hh)|refine zq ?_|refine zv ?_|refine zu ?_|exact Sy.fin_val fun e=>rfl)));(all_goals (try conv => whnf)))
      refine Sy.call_in Sy.lv88 Sy.tab_ok Try.func88 rfl _ Try.ntmps88 Try.call88 rfl (fun _ => ?_)
      rcases Int.lt_trichotomy p.1 x with hc | hc | hc
      · ((repeat' ((conv => whnf);(first|refine zA ?_|(refine zI ?_ ?_<;> intro hh<;> first|(exfalso;omega)|skip)|(refine zl ?_ ?_<;> intro hh)|refine zq ?_|refine zv ?_|refine zu ?_|exact Sy.fin_val fun e=>rfl)));(all_goals (try conv => whnf)))
        exact Sy.fin_ex (i, false) (hfin false ⟨fun h => (by cases h), fun h => by omega⟩) (fun e => rfl)
      · ((repeat' ((conv => whnf);(first|refine zA ?_|(refine zI ?_ ?_<;> intro hh<;> first|(exfalso;omega)|skip)|(refine zl ?_ ?_<;> intro hh)|refine zq ?_|refine zv ?_|refine zu ?_|exact Sy.fin_val fun e=>rfl)));(all_goals (try conv => whnf)))
        exact Sy.fin_ex (i, true) (hfin true ⟨fun _ => hc, fun _ => rfl⟩) (fun e => rfl)
      · ((repeat' ((conv => whnf);(first|refine zA ?_|(refine zI ?_ ?_<;> intro hh<;> first|(exfalso;omega)|skip)|(refine zl ?_ ?_<;> intro hh)|refine zq ?_|refine zv ?_|refine zu ?_|exact Sy.fin_val fun e=>rfl)));(all_goals (try conv => whnf)))
        exact Sy.fin_ex (i, false) (hfin false ⟨fun h => (by cases h), fun h => by omega⟩) (fun e => rfl)
    · refine Sy.fin_ex (i, false) ⟨by dsimp only; omega, fun h => (by cases h), fun ha => ⟨(hlh ha).1, fun m q hm hq => (hlh ha).2 m q (by dsimp only at hm; omega) hq, fun _ q hq he => ?_⟩⟩ (fun e => rfl)
      obtain ⟨m, hm⟩ := List.mem_iff_getElem?.1 hq
      have h1 := (List.getElem?_eq_some_iff.1 hm).1
      have := (hlh ha).1 m q (by omega) hm
      omega
end Go.Proofs.Ytjhjmeajdebcbaa
