/- Retain: slices.Index and slices.Contains at numbers; the place of a row. -/
import Derived.Test.YtkmdmjnbjoakbaaReC
namespace Go.Proofs.Ytkmdmjnbjoakbaa
open Go Go.RowKit
open Sy (C SV V1 Blk St XD Els)
set_option maxRecDepth 10000
attribute [local irreducible] okS chkE

theorem indexU_any (v : Value) (xs : List Int) (x : Int) (w : World) (hr : XD.ok (fun b => b < w.heap.size) w ⟨v, 1, xs.length, xs.map encU⟩) :
    Calls Try.prog 56 #[v, .int .u64 x] w (Sy.RetEx (fun r : Int => (r = -1 ∧ x ∉ xs) ∨ (0 ≤ r ∧ x ∈ xs)) (fun r => .int .i64 r) w) := by
  have hl := ok_len hr
  refine Sy.calls_of Sy.lv56 Sy.tab_ok Try.func56 rfl _ Try.ntmps56 [⟨v, 1, xs.length, xs.map encU⟩] [.c (.row 0), .c (.v (.int .u64 x))] rfl rfl rfl ⟨hr, trivial⟩ ?_
  ((repeat' ((conv => whnf);(first|refine zA ?_|(refine zI ?_ ?_<;> intro hh<;> first|(exfalso;omega)|skip)|(refine zl ?_ ?_<;> intro hh)|refine zq ?_|refine zv ?_|refine zu ?_|exact Sy.fin_val fun e=>rfl)));(all_goals (try conv => whnf)))
  refine Sy.loop_inv Sy.tab_ok (fun n : Nat => [(8, .c (.v (.int .i64 n)))]) (fun _ => []) (fun n => n ≤ xs.length ∧ (x ∈ xs ↔ x ∈ xs.drop n)) (fun n => xs.length - n) 0 ⟨Nat.zero_le _, Iff.rfl⟩ ?_ (fun n hle => ?_)
  · ((repeat' (first|((conv => whnf);done)|((try conv => whnf);first|exact trivial|(refine And.intro ?_ ?_)|rfl|exact fun _ _ _ h=>h|exact fun _ _ _ _=>trivial)));(all_goals (try conv => whnf)))
  · obtain ⟨hle, hne⟩ := hle
    ((repeat' ((conv => whnf);(first|refine zA ?_|(refine zI ?_ ?_<;> intro hh<;> first|(exfalso;omega)|skip)|(refine zl ?_ ?_<;> intro hh)|refine zq ?_|refine zv ?_|refine zu ?_|exact Sy.fin_val fun e=>rfl)));(all_goals (try conv => whnf)))
    · have hlt : n < xs.length := by omega
      have hg := List.getElem?_eq_getElem hlt
      rw [List.drop_eq_getElem_cons hlt, List.mem_cons] at hne
      generalize xs[n] = y at *
      refine Sy.el_map y hg ?_
      ((repeat' ((conv => whnf);(first|refine zA ?_|(refine zI ?_ ?_<;> intro hh<;> first|(exfalso;omega)|skip)|(refine zl ?_ ?_<;> intro hh)|refine zq ?_|refine zv ?_|refine zu ?_|exact Sy.fin_val fun e=>rfl)));(all_goals (try conv => whnf)))
      · exact Sy.fin_ex (n : Int) (.inr ⟨by omega, hne.2 (.inl (by assumption))⟩) (fun e => rfl)
      · refine ⟨n + 1, ⟨by omega, by rw [hne]; exact ⟨fun h => h.resolve_left (by assumption), .inr⟩⟩, by omega, ?_⟩
        ((repeat' (first|((conv => whnf);done)|((try conv => whnf);first|exact trivial|(refine And.intro ?_ ?_)|rfl|exact fun _ _ _ h=>h|exact fun _ _ _ _=>trivial)));(all_goals (try conv => whnf)))
    · have e : n = xs.length := by omega
      subst e
      exact Sy.fin_ex (-1) (.inl ⟨rfl, by rw [hne, List.drop_length]; simp⟩) (fun e => rfl)
theorem containsU_any (v : Value) (xs : List Int) (x : Int) (w : World) (hr : XD.ok (fun b => b < w.heap.size) w ⟨v, 1, xs.length, xs.map encU⟩) :
    Calls Try.prog 48 #[v, .int .u64 x] w (Sy.Ret (.bool (decide (x ∈ xs))) w) := by
  refine Sy.calls_of Sy.lv48 Sy.tab_ok Try.func48 rfl _ Try.ntmps48 [⟨v, 1, xs.length, xs.map encU⟩] [.c (.row 0), .c (.v (.int .u64 x))] rfl rfl rfl ⟨hr, trivial⟩ ?_
  ((repeat' ((conv => whnf);(first|refine zA ?_|(refine zI ?_ ?_<;> intro hh<;> first|(exfalso;omega)|skip)|(refine zl ?_ ?_<;> intro hh)|refine zq ?_|refine zv ?_|refine zu ?_|exact Sy.fin_val fun e=>rfl)));(all_goals (try conv => whnf)))
  refine Sy.call_ex (fun r : Int => (r = -1 ∧ x ∉ xs) ∨ (0 ≤ r ∧ x ∈ xs)) (fun r => .c (.v (.int .i64 r))) Try.call56 (fun _ _ => rfl) (fun e a w' h => indexU_any (e.rv 0) xs x w' (Sy.row_reads h (.inr rfl))) (fun r hr => ?_)
  ((repeat' ((conv => whnf);(first|refine zA ?_|(refine zI ?_ ?_<;> intro hh<;> first|(exfalso;omega)|skip)|(refine zl ?_ ?_<;> intro hh)|refine zq ?_|refine zv ?_|refine zu ?_|exact Sy.fin_val fun e=>rfl)));(all_goals (try conv => whnf)))
  exact Sy.fin_val (fun e => congrArg Value.bool (by rcases hr with ⟨h1, h2⟩ | ⟨h1, h2⟩ <;> simp [h2] <;> omega))

def asc (ks : List Kp) : Prop := ∀ (i j : Nat) (a b : Kp), ks[i]? = some a → ks[j]? = some b → i < j → a.number < b.number
theorem okL_lt : ∀ (ks : List Kp) (l : Kp), okL l ks = true → ∀ k ∈ ks, l.number < k.number
  | k :: r, l, h, q, hq => by
    simp only [okL, Bool.and_eq_true] at h
    have h1 := (kok_true _ _).1 h.1
    rcases List.mem_cons.1 hq with rfl | hq
    · exact h1.1
    · have := okL_lt r k h.2 q hq
      omega
theorem okL_asc : ∀ (ks : List Kp) (l : Kp), okL l ks = true → (ks.map (·.number)).Pairwise (· < ·)
  | [], _, _ => List.Pairwise.nil
  | k :: r, l, h => by
    simp only [okL, Bool.and_eq_true] at h
    refine List.pairwise_cons.2 ⟨fun x hx => ?_, okL_asc r k h.2⟩
    obtain ⟨q, hq, rfl⟩ := List.mem_map.1 hx
    exact okL_lt r k h.2 q hq
theorem asc_of {ks : List Kp} (h : (ks.map (·.number)).Pairwise (· < ·)) : asc ks := by
  intro i j a b ha hb hij
  obtain ⟨h1, rfl⟩ := List.getElem?_eq_some_iff.1 ha
  obtain ⟨h2, rfl⟩ := List.getElem?_eq_some_iff.1 hb
  have := List.pairwise_iff_getElem.1 h i j (by simpa using h1) (by simpa using h2) hij
  simpa using this
def plcP (ks : List Kp) (x : Int) (r : Int × Bool) : Prop := (r.2 = true ∧ ∃ n k, r.1 = (n : Nat) ∧ ks[n]? = some k ∧ k.number = x) ∨ (r.2 = false ∧ ∀ k ∈ ks, k.number ≠ x)
def cmp3 (a b : Int) : Int := if a < b then -1 else if b < a then 1 else 0
theorem cmp3_lt {a b : Int} : cmp3 a b < 0 ↔ a < b := by
  unfold cmp3
  split
  · simp [*]
  · split <;> simp [*]
theorem cmp3_eq {a b : Int} : cmp3 a b = 0 ↔ a = b := by
  unfold cmp3
  split
  · simp; omega
  · split <;> simp <;> omega
theorem cmp_any (k : Kp) (x : Int) (w : World) : Calls Try.prog 50 #[.agg #[.int .u64 k.number, .bool k.save, .bool k.opn], .int .u64 x] w (Sy.Ret (.int .i64 (cmp3 k.number x)) w) := by
  refine Sy.calls_of Sy.lv50 Sy.tab_ok Try.func50 rfl _ Try.ntmps50 [] [.agg [.v (.int .u64 k.number), .v (.bool k.save), .v (.bool k.opn)], .c (.v (.int .u64 x))] rfl rfl rfl trivial ?_
  ((repeat' ((conv => whnf);(first|refine zA ?_|(refine zI ?_ ?_<;> intro hh<;> first|(exfalso;omega)|skip)|(refine zl ?_ ?_<;> intro hh)|refine zq ?_|refine zv ?_|refine zu ?_|exact Sy.fin_val fun e=>rfl)));(all_goals (try conv => whnf)))
  refine Sy.call_in Sy.lv51 Sy.tab_ok Try.func51 rfl _ Try.ntmps51 Try.call51 rfl (fun _ => ?_)
  ((repeat' ((conv => whnf);(first|refine zA ?_|(refine zI ?_ ?_<;> intro hh<;> first|(exfalso;omega)|skip)|(refine zl ?_ ?_<;> intro hh)|refine zq ?_|refine zv ?_|refine zu ?_|exact Sy.fin_val fun e=>rfl)));(all_goals (try conv => whnf)))
  refine Sy.call_in Sy.lv57 Sy.tab_ok Try.func57 rfl _ Try.ntmps57 Try.call57 rfl (fun _ => ?_)
  ((repeat' ((conv => whnf);(first|refine zA ?_|(refine zI ?_ ?_<;> intro hh<;> first|(exfalso;omega)|skip)|(refine zl ?_ ?_<;> intro hh)|refine zq ?_|refine zv ?_|refine zu ?_|exact Sy.fin_val fun e=>rfl)));(all_goals (try conv => whnf)))
  refine Sy.call_in Sy.lv57 Sy.tab_ok Try.func57 rfl _ Try.ntmps57 Try.call57 rfl (fun _ => ?_)
  ((repeat' ((conv => whnf);(first|refine zA ?_|(refine zI ?_ ?_<;> intro hh<;> first|(exfalso;omega)|skip)|(refine zl ?_ ?_<;> intro hh)|refine zq ?_|refine zv ?_|refine zu ?_|exact Sy.fin_val fun e=>rfl)));(all_goals (try conv => whnf)))
  · exact Sy.fin_val (fun e => congrArg (Value.int .i64) (by unfold cmp3; rw [if_pos (by assumption)]))
  · exact Sy.fin_val (fun e => congrArg (Value.int .i64) (by unfold cmp3; rw [if_neg (by assumption), if_pos (by assumption)]))
  · exact Sy.fin_val (fun e => congrArg (Value.int .i64) (by unfold cmp3; rw [if_neg (by assumption), if_neg (by assumption)]))
theorem half (a b : Nat) : ((a : Int) + (b : Int)).fdiv (2 ^ min 1 IntKind.u64.bits) = (((a + b) / 2 : Nat) : Int) := by
  show ((a : Int) + (b : Int)).fdiv 2 = _
  rw [Int.fdiv_eq_ediv_of_nonneg _ (by omega)]
  omega
attribute [local irreducible] cmp3
set_option maxHeartbeats 1000000 in
theorem place_any (keep : Int) (v : Value) (ks : List Kp) (x : Int) (w : World) (hr : XD.ok (fun b => b < w.heap.size) w ⟨v, 3, ks.length, ks.map encK⟩) (ha : asc ks) (hb : ks.length ≤ 1000) :
    Calls Try.prog 43 #[.agg #[.int .i64 keep, v], .int .u64 x] w (Sy.RetEx (plcP ks x) (fun r => .tuple #[.int .i64 r.1, .bool r.2]) w) := by
  refine Sy.calls_of Sy.lv43 Sy.tab_ok Try.func43 rfl _ Try.ntmps43 [⟨v, 3, ks.length, ks.map encK⟩] [.agg [.v (.int .i64 keep), .row 0], .c (.v (.int .u64 x))] rfl rfl rfl ⟨hr, trivial⟩ ?_
  ((repeat' ((conv => whnf);(first|refine zA ?_|(refine zI ?_ ?_<;> intro hh<;> first|(exfalso;omega)|skip)|(refine zl ?_ ?_<;> intro hh)|refine zq ?_|refine zv ?_|refine zu ?_|exact Sy.fin_val fun e=>rfl)));(all_goals (try conv => whnf)))
  refine Sy.call_in Sy.lv49 Sy.tab_ok Try.func49 rfl _ Try.ntmps49 Try.call49 rfl (fun _ => ?_)
  ((repeat' ((conv => whnf);(first|refine zA ?_|(refine zI ?_ ?_<;> intro hh<;> first|(exfalso;omega)|skip)|(refine zl ?_ ?_<;> intro hh)|refine zq ?_|refine zv ?_|refine zu ?_|exact Sy.fin_val fun e=>rfl)));(all_goals (try conv => whnf)))
  refine Sy.loop_inv Sy.tab_ok (fun p : Nat × Nat => [(9, .c (.v (.int .i64 p.1))), (10, .c (.v (.int .i64 p.2)))]) (fun _ => []) (fun p => p.1 ≤ p.2 ∧ p.2 ≤ ks.length ∧ (∀ i k, i < p.1 → ks[i]? = some k → k.number < x) ∧ (∀ i k, p.2 ≤ i → ks[i]? = some k → x ≤ k.number)) (fun p => p.2 - p.1) (0, ks.length) ⟨Nat.zero_le _, Nat.le_refl _, fun i k h => absurd h (Nat.not_lt_zero _), fun i k h hk => absurd ((List.getElem?_eq_some_iff.1 hk).1) (by show ¬ i < ks.length; exact Nat.not_lt.2 h)⟩ ?_ (fun p hle => ?_)
  · ((repeat' (first|((conv => whnf);done)|((try conv => whnf);first|exact trivial|(refine And.intro ?_ ?_)|rfl|exact fun _ _ _ h=>h|exact fun _ _ _ _=>trivial)));(all_goals (try conv => whnf)))
  · obtain ⟨i, j⟩ := p
    obtain ⟨hij, hj, hlo, hhi⟩ := hle
    dsimp only at *
    ((repeat' ((conv => whnf);(first|refine zA ?_|(refine zI ?_ ?_<;> intro hh<;> first|(exfalso;omega)|skip)|(refine zl ?_ ?_<;> intro hh)|refine zq ?_|refine zv ?_|refine zu ?_|exact Sy.fin_val fun e=>rfl)));(all_goals (try conv => whnf)))
    · refine Sy.ar_u64 (by omega) ?_
      ((repeat' ((conv => whnf);(first|refine zA ?_|(refine zI ?_ ?_<;> intro hh<;> first|(exfalso;omega)|skip)|(refine zl ?_ ?_<;> intro hh)|refine zq ?_|refine zv ?_|refine zu ?_|exact Sy.fin_val fun e=>rfl)));(all_goals (try conv => whnf)))
      refine Sy.sh_nat (y := 1) ?_
      ((repeat' ((conv => whnf);(first|refine zA ?_|(refine zI ?_ ?_<;> intro hh<;> first|(exfalso;omega)|skip)|(refine zl ?_ ?_<;> intro hh)|refine zq ?_|refine zv ?_|refine zu ?_|exact Sy.fin_val fun e=>rfl)));(all_goals (try conv => whnf)))
      refine Sy.ar_eq (half i j) (by omega) ?_
      ((repeat' ((conv => whnf);(first|refine zA ?_|(refine zI ?_ ?_<;> intro hh<;> first|(exfalso;omega)|skip)|(refine zl ?_ ?_<;> intro hh)|refine zq ?_|refine zv ?_|refine zu ?_|exact Sy.fin_val fun e=>rfl)));(all_goals (try conv => whnf)))
      have hlt : (i + j) / 2 < ks.length := by omega
      have h5 : i ≤ (i + j) / 2 := by omega
      have h6 : (i + j) / 2 < j := by omega
      have hg := List.getElem?_eq_getElem hlt
      generalize ks[(i + j) / 2] = p at *
      generalize (i + j) / 2 = m at *
      refine Sy.el_map p hg ?_
      ((repeat' ((conv => whnf);(first|refine zA ?_|(refine zI ?_ ?_<;> intro hh<;> first|(exfalso;omega)|skip)|(refine zl ?_ ?_<;> intro hh)|refine zq ?_|refine zv ?_|refine zu ?_|exact Sy.fin_val fun e=>rfl)));(all_goals (try conv => whnf)))
      refine Sy.call_val (.c (.v (.int .i64 (cmp3 p.number x)))) Try.call50 rfl (fun e a w' h => cmp_any p x w') ?_
      ((repeat' ((conv => whnf);(first|refine zA ?_|(refine zI ?_ ?_<;> intro hh<;> first|(exfalso;omega)|skip)|(refine zl ?_ ?_<;> intro hh)|refine zq ?_|refine zv ?_|refine zu ?_|exact Sy.fin_val fun e=>rfl)));(all_goals (try conv => whnf)))
      · have hc : p.number < x := cmp3_lt.1 (by assumption)
        refine ⟨(m + 1, j), ⟨by dsimp only; omega, by dsimp only; omega, fun m' q hm hq => ?_, hhi⟩, by dsimp only; omega, ?_⟩
        · dsimp only at hm
          rcases Nat.lt_or_eq_of_le (Nat.lt_succ_iff.1 hm) with hm | rfl
          · have := ha m' m q p hq hg hm; omega
          · rw [hg] at hq; cases hq; exact hc
        · ((repeat' (first|((conv => whnf);done)|((try conv => whnf);first|exact trivial|(refine And.intro ?_ ?_)|rfl|exact fun _ _ _ h=>h|exact fun _ _ _ _=>trivial)));(all_goals (try conv => whnf)))
      · have hc : ¬ p.number < x := fun h => by have := cmp3_lt.2 h; omega
        refine ⟨(i, m), ⟨by dsimp only; omega, by dsimp only; omega, hlo, fun m' q hm hq => ?_⟩, by dsimp only; omega, ?_⟩
        · dsimp only at hm
          rcases Nat.lt_or_eq_of_le hm with hm | rfl
          · have := ha m m' p q hg hq hm; omega
          · rw [hg] at hq; cases hq; omega
        · ((repeat' (first|((conv => whnf);done)|((try conv => whnf);first|exact trivial|(refine And.intro ?_ ?_)|rfl|exact fun _ _ _ h=>h|exact fun _ _ _ _=>trivial)));(all_goals (try conv => whnf)))
    · have hlt : i < ks.length := by omega
      have hg := List.getElem?_eq_getElem hlt
      generalize ks[i] = p at *
      refine Sy.el_map p hg ?_
      ((repeat' ((conv => whnf);(first|refine zA ?_|(refine zI ?_ ?_<;> intro hh<;> first|(exfalso;omega)|skip)|(refine zl ?_ ?_<;> intro hh)|refine zq ?_|refine zv ?_|refine zu ?_|exact Sy.fin_val fun e=>rfl)));(all_goals (try conv => whnf)))
      refine Sy.call_val (.c (.v (.int .i64 (cmp3 p.number x)))) Try.call50 rfl (fun e a w' h => cmp_any p x w') ?_
      ((repeat' ((conv => whnf);(first|refine zA ?_|(refine zI ?_ ?_<;> intro hh<;> first|(exfalso;omega)|skip)|(refine zl ?_ ?_<;> intro hh)|refine zq ?_|refine zv ?_|refine zu ?_|exact Sy.fin_val fun e=>rfl)));(all_goals (try conv => whnf)))
      refine Sy.fin_ex ((i : Int), decide (cmp3 p.number x = 0)) ?_ (fun e => rfl)
      by_cases he : p.number = x
      · exact .inl ⟨by simp [cmp3_eq, he], i, p, rfl, hg, he⟩
      · refine .inr ⟨by simp [cmp3_eq, he], fun k hk hx => ?_⟩
        obtain ⟨m, hm, rfl⟩ := List.mem_iff_getElem.1 hk
        have hgm := List.getElem?_eq_getElem hm
        rcases Nat.lt_trichotomy m i with h | h | h
        · have := hlo m _ h hgm; omega
        · subst h; rw [hg] at hgm; cases hgm; exact he hx
        · have h1 := ha i m _ _ hg hgm h
          have h2 := hhi i _ (by omega) hg
          omega
    · refine Sy.fin_ex ((i : Int), false) (.inr ⟨rfl, fun k hk hx => ?_⟩) (fun e => rfl)
      obtain ⟨m, hm, rfl⟩ := List.mem_iff_getElem.1 hk
      have := hlo m _ (by omega) (List.getElem?_eq_getElem hm)
      omega
end Go.Proofs.Ytkmdmjnbjoakbaa
