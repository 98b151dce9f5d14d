/- Snap: where a key's row is; its place. -/
import Derived.Test.YtmahldelmbhjfaaGreatSnD
import Derived.Test.YtmahldelmbhjfaaGreatSnH
namespace Go.Proofs.YtmahldelmbhjfaaGreat.Sn
open Go Go.RowKit
open Sy (C SV V1 Blk St XD Els)
set_option maxRecDepth 10000

/-- A key as a number. -/
def kn (x : Kc) : Int := x.src * 32 + x.key
def ascK (l : List Kc) : Prop := l.Pairwise fun x y => kn x < kn y
/-- The rows of a table. -/
def RowsOk (l : List Kc) : Prop := (∀ x ∈ l, recP x.src x.key ∧ 1 ≤ x.cnt) ∧ ascK l
theorem cmpK_kn {s k s' k' : Int} (h : recP s k) (h' : recP s' k') : cmpK s k s' k' = cmpI (s * 32 + k) (s' * 32 + k') := by
  unfold recP at h h'
  unfold cmpK cmpI
  repeat' split
  all_goals omega
theorem chain_pair {l : List Kc} : ∀ {p : Option Kc}, chain okK ltK p l = true → (∀ y, p = some y → recP y.src y.key) → ascK l ∧ ∀ y, p = some y → ∀ x ∈ l, kn y < kn x := by
  induction l with
  | nil => exact fun _ _ => ⟨List.Pairwise.nil, fun _ _ x hx => by cases hx⟩
  | cons x l ih =>
    intro p h hp
    have hx : okK x = true := chain_ok h x List.mem_cons_self
    have hrx := (okK_rec hx).1
    have hrest : chain okK ltK (some x) l = true := by
      cases p with
      | none => simp only [chain, Bool.and_eq_true] at h; exact h.2
      | some y => simp only [chain, Bool.and_eq_true] at h; exact h.2
    obtain ⟨h1, h2⟩ := ih hrest (fun y e => by cases e; exact hrx)
    refine ⟨List.pairwise_cons.2 ⟨fun y hy => h2 x rfl y hy, h1⟩, fun y e z hz => ?_⟩
    subst e
    simp only [chain, Bool.and_eq_true] at h
    have hlt : cmpK y.src y.key x.src x.key < 0 := of_decide_eq_true h.1.2
    rw [cmpK_kn (hp y rfl) hrx] at hlt
    have hyx : kn y < kn x := by
      unfold kn
      unfold cmpI at hlt
      split at hlt
      · assumption
      · split at hlt <;> omega
    rcases List.mem_cons.1 hz with rfl | hz
    · exact hyx
    · have := h2 x rfl z hz
      omega
theorem tbl_rows {l : List Kc} (h : tblB l = true) : RowsOk l := ⟨fun _ hx => okK_rec (chain_ok h _ hx), (chain_pair h (fun _ e => by cases e)).1⟩
theorem rows_tbl {l : List Kc} (h : RowsOk l) : tblB l = true := by
  have key : ∀ (l : List Kc) (p : Option Kc), RowsOk l → (∀ y, p = some y → recP y.src y.key ∧ ∀ x ∈ l, kn y < kn x) → chain okK ltK p l = true := by
    intro l
    induction l with
    | nil => intro p _ _; cases p <;> rfl
    | cons x l ih =>
      intro p h hp
      have hx := h.1 x List.mem_cons_self
      have hpw := List.pairwise_cons.1 h.2
      have hr := ih (some x) ⟨fun y hy => h.1 y (List.mem_cons_of_mem _ hy), hpw.2⟩ (fun y e => by cases e; exact ⟨hx.1, hpw.1⟩)
      have hok : okK x = true := decide_eq_true hx
      cases p with
      | none => simp only [chain, Bool.and_eq_true]; exact ⟨hok, hr⟩
      | some y =>
        obtain ⟨h1, h2⟩ := hp y rfl
        have h3 := h2 x List.mem_cons_self
        have hl : ltK y x = true := decide_eq_true (by
          rw [cmpK_kn h1 hx.1]
          unfold kn at h3
          unfold cmpI
          rw [if_pos h3]; decide)
        simp only [chain, Bool.and_eq_true]
        exact ⟨⟨hok, hl⟩, hr⟩
  exact key l none h (fun _ e => by cases e)
theorem ascK_lt {l : List Kc} (h : ascK l) {i j : Nat} {p q : Kc} (hp : l[i]? = some p) (hq : l[j]? = some q) (hij : i < j) : kn p < kn q := by
  obtain ⟨hi, rfl⟩ := List.getElem?_eq_some_iff.1 hp
  obtain ⟨hj, rfl⟩ := List.getElem?_eq_some_iff.1 hq
  exact List.pairwise_iff_getElem.1 h i j hi hj hij
/-- Where key n is, or would be. -/
def srchK (l : List Kc) (n : Int) (r : Nat × Bool) : Prop := r.1 ≤ l.length ∧ (r.2 = true → ∃ p, l[r.1]? = some p ∧ kn p = n) ∧ (∀ (i : Nat) (p : Kc), i < r.1 → l[i]? = some p → kn p < n) ∧ (∀ (i : Nat) (p : Kc), r.1 ≤ i → l[i]? = some p → n ≤ kn p) ∧ (r.2 = false → ∀ p ∈ l, kn p ≠ n)
theorem half (a b : Nat) : ((a : Int) + (b : Int)).fdiv (2 ^ min 1 IntKind.u64.bits) = (((a + b) / 2 : Nat) : Int) := by
  show ((a : Int) + (b : Int)).fdiv 2 = _
  rw [Int.fdiv_eq_ediv_of_nonneg _ (by omega)]
  omega
theorem at1_any (x : Kc) (s k v : Int) (w : World) : Calls Tryz.prog 94 #[.agg #[.int .i64 x.src, .int .i64 x.key, .int .i64 x.cnt, .int .i64 x.sum], .agg #[.int .i64 s, .int .i64 k, .int .i64 v]] w (Sy.Ret (.int .i64 (cmpK x.src x.key s k)) w) := by
  refine Sy.calls_of Sy.lv94 Sy.tab_ok Tryz.func94 rfl _ Tryz.ntmps94 [] [.agg [.v (.int .i64 x.src), .v (.int .i64 x.key), .v (.int .i64 x.cnt), .v (.int .i64 x.sum)], .agg [.v (.int .i64 s), .v (.int .i64 k), .v (.int .i64 v)]] rfl rfl rfl trivial ?_
  ((repeat' ((conv => whnf);(first|refine zA ?_|(refine zI ?_ ?_<;> intro hh<;> first|(exfalso;omega)|skip)|(refine zl ?_ ?_<;> intro hh)|refine zq ?_|refine zv ?_|refine zu ?_|exact Sy.fin_val fun e=>rfl)));(all_goals (try conv => whnf)))
  refine Sy.draw_go [] (by kernel_rfl) ?_
  intro e0
  conv => whnf
  refine zt 0 rfl ?_
  conv => whnf
  refine zt 2 rfl ?_
  conv => whnf
  refine zd1 [1] (zx rfl ?_ zy)
  conv => whnf
  refine Sy.call_val (.agg [.v (.int .i64 x.src), .v (.int .i64 x.key), .v (.int .i64 0)]) Tryz.call56 rfl (fun e a w' h => key_any x w') ?_
  conv => whnf
  refine ⟨(by repeat' ((conv => whnf);first|exact trivial|(refine And.intro ?_ ?_)|rfl)), ?_⟩
  refine zd1 [3] (zx rfl ?_ zy)
  conv => whnf
  refine Sy.call_val (.c (.v (.int .i64 (cmpK x.src x.key s k)))) Tryz.call57 rfl (fun e a w' h => cmpK_any x.src x.key 0 s k v w') ?_
  conv => whnf
  refine ⟨(by repeat' ((conv => whnf);first|exact trivial|(refine And.intro ?_ ?_)|rfl)), ?_⟩
  refine zt 4 rfl ?_
  conv => whnf
  refine zw ?_
  skip
  all_goals (((repeat' ((conv => whnf);(first|refine zA ?_|(refine zI ?_ ?_<;> intro hh<;> first|(exfalso;omega)|skip)|(refine zl ?_ ?_<;> intro hh)|refine zq ?_|refine zv ?_|refine zu ?_|exact Sy.fin_val fun e=>rfl)));(all_goals (try conv => whnf))))
  all_goals done
set_option maxHeartbeats 2000000 in
theorem at_any (u : Value) (l : List Kc) (s k v : Int) (w : World) (hu : XD.ok (fun b => b < w.heap.size) w ⟨u, 4, l.length, l.map encK⟩) (hl : RowsOk l) (hk : recP s k) (hb : l.length ≤ 1000000) :
    Calls Tryz.prog 71 #[u, .agg #[.int .i64 s, .int .i64 k, .int .i64 v]] w (Sy.RetEx (srchK l (s * 32 + k)) (fun r => .tuple #[.int .i64 r.1, .bool r.2]) w) := by
  refine Sy.calls_of Sy.lv71 Sy.tab_ok Tryz.func71 rfl _ Tryz.ntmps71 [⟨u, 4, l.length, l.map encK⟩] [.c (.row 0), .agg [.v (.int .i64 s), .v (.int .i64 k), .v (.int .i64 v)]] rfl rfl rfl ⟨hu, trivial⟩ ?_
  ((repeat' ((conv => whnf);(first|refine zA ?_|(refine zI ?_ ?_<;> intro hh<;> first|(exfalso;omega)|skip)|(refine zl ?_ ?_<;> intro hh)|refine zq ?_|refine zv ?_|refine zu ?_|exact Sy.fin_val fun e=>rfl)));(all_goals (try conv => whnf)))
  refine Sy.call_in Sy.lv93 Sy.tab_ok Tryz.func93 rfl _ Tryz.ntmps93 Tryz.call93 rfl (fun _ => ?_)
  ((repeat' ((conv => whnf);(first|refine zA ?_|(refine zI ?_ ?_<;> intro hh<;> first|(exfalso;omega)|skip)|(refine zl ?_ ?_<;> intro hh)|refine zq ?_|refine zv ?_|refine zu ?_|exact Sy.fin_val fun e=>rfl)));(all_goals (try conv => whnf)))
  refine Sy.loop_inv Sy.tab_ok (fun p : Nat × Nat => [(9, .c (.v (.int .i64 p.1))), (10, .c (.v (.int .i64 p.2)))]) (fun _ => []) (fun p => p.1 ≤ p.2 ∧ p.2 ≤ l.length ∧ (∀ (i : Nat) (q : Kc), i < p.1 → l[i]? = some q → kn q < s * 32 + k) ∧ (∀ (i : Nat) (q : Kc), p.2 ≤ i → l[i]? = some q → s * 32 + k ≤ kn q)) (fun p => p.2 - p.1) (0, l.length) ⟨Nat.zero_le _, Nat.le_refl _, fun i q hi => absurd hi (Nat.not_lt_zero _), fun i q hi hq => by
    have := (List.getElem?_eq_some_iff.1 hq).1
    dsimp only at hi; omega⟩ ?_ (fun p hle => ?_)
  · ((repeat' (first|((conv => whnf);done)|((try conv => whnf);first|exact trivial|(refine And.intro ?_ ?_)|rfl|exact fun _ _ _ h=>h|exact fun _ _ _ _=>trivial)));(all_goals (try conv => whnf)))
  · obtain ⟨i, j⟩ := p
    obtain ⟨hij, hj, hlo, hhi⟩ := hle
    dsimp only at *
    by_cases hlt0 : i < j
    · ((repeat' ((conv => whnf);(first|refine zA ?_|(refine zI ?_ ?_<;> intro hh<;> first|(exfalso;omega)|skip)|(refine zl ?_ ?_<;> intro hh)|refine zq ?_|refine zv ?_|refine zu ?_|exact Sy.fin_val fun e=>rfl)));(all_goals (try conv => whnf)))
      refine Sy.ar_u64 (by omega) ?_
      ((repeat' ((conv => whnf);(first|refine zA ?_|(refine zI ?_ ?_<;> intro hh<;> first|(exfalso;omega)|skip)|(refine zl ?_ ?_<;> intro hh)|refine zq ?_|refine zv ?_|refine zu ?_|exact Sy.fin_val fun e=>rfl)));(all_goals (try conv => whnf)))
      refine Sy.sh_nat (y := 1) ?_
      ((repeat' ((conv => whnf);(first|refine zA ?_|(refine zI ?_ ?_<;> intro hh<;> first|(exfalso;omega)|skip)|(refine zl ?_ ?_<;> intro hh)|refine zq ?_|refine zv ?_|refine zu ?_|exact Sy.fin_val fun e=>rfl)));(all_goals (try conv => whnf)))
      refine Sy.ar_eq (half i j) (by omega) ?_
      ((repeat' ((conv => whnf);(first|refine zA ?_|(refine zI ?_ ?_<;> intro hh<;> first|(exfalso;omega)|skip)|(refine zl ?_ ?_<;> intro hh)|refine zq ?_|refine zv ?_|refine zu ?_|exact Sy.fin_val fun e=>rfl)));(all_goals (try conv => whnf)))
      have hlt : (i + j) / 2 < l.length := by omega
      have h5 : i ≤ (i + j) / 2 := by omega
      have h6 : (i + j) / 2 < j := by omega
      have hg := List.getElem?_eq_getElem hlt
      have hrm := (hl.1 _ (List.getElem_mem hlt)).1
      generalize l[(i + j) / 2] = p at *
      generalize (i + j) / 2 = m at *
      have hcm := cmpK_kn hrm hk
      unfold cmpI at hcm
      by_cases hc : kn p < s * 32 + k
      · have hc' := hc
        unfold kn at hc'
        rw [if_pos hc'] at hcm
        refine Sy.draw_go [] (by kernel_rfl) ?_
        intro e0
        conv => whnf
        refine zt 0 rfl ?_
        conv => whnf
        refine zt 1 rfl ?_
        conv => whnf
        refine zt 2 rfl ?_
        conv => whnf
        refine zt 3 rfl ?_
        (conv => whnf);(repeat' ((first|refine zA ?_|(refine zI ?_ ?_<;> intro hh<;> first|(exfalso;omega)|skip)|(refine zl ?_ ?_<;> intro hh)|refine zq ?_|refine zv ?_|refine zu ?_|exact Sy.fin_val fun e=>rfl);(try conv => whnf)))
        refine zt 4 rfl ?_
        conv => whnf
        refine Sy.el_map p hg ?_
        conv => whnf
        refine zt 5 rfl ?_
        conv => whnf
        refine zd1 [6] (zx rfl ?_ zy)
        conv => whnf
        refine Sy.call_val (.c (.v (.int .i64 (cmpK p.src p.key s k)))) Tryz.call94 rfl (fun e a w' h => at1_any p s k v w') ?_
        conv => whnf
        refine ⟨(by repeat' ((conv => whnf);first|exact trivial|(refine And.intro ?_ ?_)|rfl)), ?_⟩
        refine zt 7 rfl ?_
        (conv => whnf);(repeat' ((first|refine zA ?_|(refine zI ?_ ?_<;> intro hh<;> first|(exfalso;omega)|skip)|(refine zl ?_ ?_<;> intro hh)|refine zq ?_|refine zv ?_|refine zu ?_|exact Sy.fin_val fun e=>rfl);(try conv => whnf)))
        refine zw ?_
        skip
        all_goals (((repeat' ((conv => whnf);(first|refine zA ?_|(refine zI ?_ ?_<;> intro hh<;> first|(exfalso;omega)|skip)|(refine zl ?_ ?_<;> intro hh)|refine zq ?_|refine zv ?_|refine zu ?_|exact Sy.fin_val fun e=>rfl)));(all_goals (try conv => whnf))))
        all_goals (refine ⟨(m + 1, j), ⟨by dsimp only; omega, by dsimp only; omega, fun i' q hm hq => by
          dsimp only at hm
          rcases Nat.lt_or_eq_of_le (Nat.lt_succ_iff.1 hm) with hm | rfl
          · have := ascK_lt hl.2 hq hg hm; omega
          · rw [hg] at hq; cases hq; exact hc, hhi⟩, by dsimp only; omega, ?_⟩)
        all_goals (((repeat' (first|((conv => whnf);done)|((try conv => whnf);first|exact trivial|(refine And.intro ?_ ?_)|rfl|exact fun _ _ _ h=>h|exact fun _ _ _ _=>trivial)));(all_goals (try conv => whnf))))
      · have hc' := hc
        unfold kn at hc'
        rw [if_neg hc'] at hcm
        have hcp : ¬ cmpK p.src p.key s k < 0 := by rw [hcm]; split <;> decide
        refine Sy.draw_go [] (by kernel_rfl) ?_
        intro e0
        conv => whnf
        refine zt 0 rfl ?_
        conv => whnf
        refine zt 1 rfl ?_
        conv => whnf
        refine zt 2 rfl ?_
        conv => whnf
        refine zt 3 rfl ?_
        (conv => whnf);(repeat' ((first|refine zA ?_|(refine zI ?_ ?_<;> intro hh<;> first|(exfalso;omega)|skip)|(refine zl ?_ ?_<;> intro hh)|refine zq ?_|refine zv ?_|refine zu ?_|exact Sy.fin_val fun e=>rfl);(try conv => whnf)))
        refine zt 4 rfl ?_
        conv => whnf
        refine Sy.el_map p hg ?_
        conv => whnf
        refine zt 5 rfl ?_
        conv => whnf
        refine zd1 [6] (zx rfl ?_ zy)
        conv => whnf
        refine Sy.call_val (.c (.v (.int .i64 (cmpK p.src p.key s k)))) Tryz.call94 rfl (fun e a w' h => at1_any p s k v w') ?_
        conv => whnf
        refine ⟨(by repeat' ((conv => whnf);first|exact trivial|(refine And.intro ?_ ?_)|rfl)), ?_⟩
        refine zt 7 rfl ?_
        (conv => whnf);(repeat' ((first|refine zA ?_|(refine zI ?_ ?_<;> intro hh<;> first|(exfalso;omega)|skip)|(refine zl ?_ ?_<;> intro hh)|refine zq ?_|refine zv ?_|refine zu ?_|exact Sy.fin_val fun e=>rfl);(try conv => whnf)))
        refine zw ?_
        skip
        all_goals (((repeat' ((conv => whnf);(first|refine zA ?_|(refine zI ?_ ?_<;> intro hh<;> first|(exfalso;omega)|skip)|(refine zl ?_ ?_<;> intro hh)|refine zq ?_|refine zv ?_|refine zu ?_|exact Sy.fin_val fun e=>rfl)));(all_goals (try conv => whnf))))
        all_goals (refine ⟨(i, m), ⟨by dsimp only; omega, by dsimp only; omega, hlo, fun i' q hm hq => by
          dsimp only at hm
          rcases Nat.lt_or_eq_of_le hm with hm | rfl
          · have := ascK_lt hl.2 hg hq hm; omega
          · rw [hg] at hq; cases hq; omega⟩, by dsimp only; omega, ?_⟩)
        all_goals (((repeat' (first|((conv => whnf);done)|((try conv => whnf);first|exact trivial|(refine And.intro ?_ ?_)|rfl|exact fun _ _ _ h=>h|exact fun _ _ _ _=>trivial)));(all_goals (try conv => whnf))))
    · have e : j = i := by omega
      subst e
      by_cases hlt : j < l.length
      · have hg := List.getElem?_eq_getElem hlt
        have hrm := (hl.1 _ (List.getElem_mem hlt)).1
        generalize l[j] = p at *
        have hcm := cmpK_kn hrm hk
        unfold cmpI at hcm
        have hge := hhi j p (Nat.le_refl _) hg
        have hge' := hge
        unfold kn at hge'
        rw [if_neg (by omega)] at hcm
        have hg1 : decide ((j : Int) < (l.length : Int)) = true := decide_eq_true (by omega)
        have hfin : ∀ r : Bool, (r = true ↔ kn p = s * 32 + k) → srchK l (s * 32 + k) (j, r) := fun r hr => by
          refine ⟨by dsimp only; omega, fun h => ⟨p, hg, hr.1 h⟩, hlo, hhi, fun h q hq he => ?_⟩
          obtain ⟨m, hm⟩ := List.mem_iff_getElem?.1 hq
          have hne : kn p ≠ s * 32 + k := fun h2 => by have := hr.2 h2; dsimp only at h; rw [h] at this; cases this
          rcases Nat.lt_trichotomy m j with h2 | h2 | h2
          · have := hlo m q h2 hm; omega
          · subst h2; rw [hg] at hm; cases hm; exact hne he
          · have h3 := ascK_lt hl.2 hg hm h2
            omega
        ((repeat' ((conv => whnf);(first|refine zA ?_|(refine zI ?_ ?_<;> intro hh<;> first|(exfalso;omega)|skip)|(refine zl ?_ ?_<;> intro hh)|refine zq ?_|refine zv ?_|refine zu ?_|exact Sy.fin_val fun e=>rfl)));(all_goals (try conv => whnf)))
        by_cases hc : kn p = s * 32 + k
        · have hc' := hc
          unfold kn at hc'
          rw [if_neg (by omega)] at hcm
          refine Sy.draw_go [] (by kernel_rfl) ?_
          intro e0
          conv => whnf
          refine zt 0 rfl ?_
          conv => whnf
          refine zt 1 rfl ?_
          conv => whnf
          refine zt 2 rfl ?_
          conv => whnf
          refine zt 3 rfl ?_
          (conv => whnf);(repeat' ((first|refine zA ?_|(refine zI ?_ ?_<;> intro hh<;> first|(exfalso;omega)|skip)|(refine zl ?_ ?_<;> intro hh)|refine zq ?_|refine zv ?_|refine zu ?_|exact Sy.fin_val fun e=>rfl);(try conv => whnf)))
          refine zt 4 rfl ?_
          conv => whnf
          refine zt 5 rfl ?_
          (conv => whnf);(repeat' ((first|refine zA ?_|(refine zI ?_ ?_<;> intro hh<;> first|(exfalso;omega)|skip)|(refine zl ?_ ?_<;> intro hh)|refine zq ?_|refine zv ?_|refine zu ?_|exact Sy.fin_val fun e=>rfl);(try conv => whnf)))
          refine zt 6 rfl ?_
          (conv => whnf);(repeat' ((first|refine zA ?_|(refine zI ?_ ?_<;> intro hh<;> first|(exfalso;omega)|skip)|(refine zl ?_ ?_<;> intro hh)|refine zq ?_|refine zv ?_|refine zu ?_|exact Sy.fin_val fun e=>rfl);(try conv => whnf)))
          refine zt 7 rfl ?_
          (conv => whnf);(repeat' ((first|refine zA ?_|(refine zI ?_ ?_<;> intro hh<;> first|(exfalso;omega)|skip)|(refine zl ?_ ?_<;> intro hh)|refine zq ?_|refine zv ?_|refine zu ?_|exact Sy.fin_val fun e=>rfl);(try conv => whnf)))
          refine zt 8 rfl ?_
          (conv => whnf);(repeat' ((first|refine zA ?_|(refine zI ?_ ?_<;> intro hh<;> first|(exfalso;omega)|skip)|(refine zl ?_ ?_<;> intro hh)|refine zq ?_|refine zv ?_|refine zu ?_|exact Sy.fin_val fun e=>rfl);(try conv => whnf)))
          refine zt 9 rfl ?_
          (conv => whnf);(repeat' ((first|refine zA ?_|(refine zI ?_ ?_<;> intro hh<;> first|(exfalso;omega)|skip)|(refine zl ?_ ?_<;> intro hh)|refine zq ?_|refine zv ?_|refine zu ?_|exact Sy.fin_val fun e=>rfl);(try conv => whnf)))
          refine Sy.el_map p hg ?_
          conv => whnf
          refine zt 10 rfl ?_
          (conv => whnf);(repeat' ((first|refine zA ?_|(refine zI ?_ ?_<;> intro hh<;> first|(exfalso;omega)|skip)|(refine zl ?_ ?_<;> intro hh)|refine zq ?_|refine zv ?_|refine zu ?_|exact Sy.fin_val fun e=>rfl);(try conv => whnf)))
          refine zd1 [11] (zx rfl ?_ zy)
          conv => whnf
          (try (refine zA ?_;conv => whnf))
          refine Sy.call_val (.c (.v (.int .i64 0))) Tryz.call94 rfl (fun e a w' h => by have := at1_any p s k v w'; rw [hcm] at this; exact this) ?_
          conv => whnf
          refine ⟨(by repeat' ((conv => whnf);first|exact trivial|(refine And.intro ?_ ?_)|rfl)), ?_⟩
          refine zt 12 rfl ?_
          (conv => whnf);(repeat' ((first|refine zA ?_|(refine zI ?_ ?_<;> intro hh<;> first|(exfalso;omega)|skip)|(refine zl ?_ ?_<;> intro hh)|refine zq ?_|refine zv ?_|refine zu ?_|exact Sy.fin_val fun e=>rfl);(try conv => whnf)))
          refine zt 13 rfl ?_
          (conv => whnf);(repeat' ((first|refine zA ?_|(refine zI ?_ ?_<;> intro hh<;> first|(exfalso;omega)|skip)|(refine zl ?_ ?_<;> intro hh)|refine zq ?_|refine zv ?_|refine zu ?_|exact Sy.fin_val fun e=>rfl);(try conv => whnf)))
          refine zt 14 rfl ?_
          conv => whnf
          refine zt 15 rfl ?_
          conv => whnf
          refine zw ?_
          skip
          all_goals (((repeat' ((conv => whnf);(first|refine zA ?_|(refine zI ?_ ?_<;> intro hh<;> first|(exfalso;omega)|skip)|(refine zl ?_ ?_<;> intro hh)|refine zq ?_|refine zv ?_|refine zu ?_|exact Sy.fin_val fun e=>rfl)));(all_goals (try conv => whnf))))
          all_goals exact Sy.fin_ex (j, true) (hfin true ⟨fun _ => hc, fun _ => rfl⟩) (fun e => rfl)
        · have hc' := hc
          unfold kn at hc'
          rw [if_pos (by omega)] at hcm
          refine Sy.draw_go [] (by kernel_rfl) ?_
          intro e0
          conv => whnf
          refine zt 0 rfl ?_
          conv => whnf
          refine zt 1 rfl ?_
          conv => whnf
          refine zt 2 rfl ?_
          conv => whnf
          refine zt 3 rfl ?_
          (conv => whnf);(repeat' ((first|refine zA ?_|(refine zI ?_ ?_<;> intro hh<;> first|(exfalso;omega)|skip)|(refine zl ?_ ?_<;> intro hh)|refine zq ?_|refine zv ?_|refine zu ?_|exact Sy.fin_val fun e=>rfl);(try conv => whnf)))
          refine zt 4 rfl ?_
          conv => whnf
          refine zt 5 rfl ?_
          (conv => whnf);(repeat' ((first|refine zA ?_|(refine zI ?_ ?_<;> intro hh<;> first|(exfalso;omega)|skip)|(refine zl ?_ ?_<;> intro hh)|refine zq ?_|refine zv ?_|refine zu ?_|exact Sy.fin_val fun e=>rfl);(try conv => whnf)))
          refine zt 6 rfl ?_
          (conv => whnf);(repeat' ((first|refine zA ?_|(refine zI ?_ ?_<;> intro hh<;> first|(exfalso;omega)|skip)|(refine zl ?_ ?_<;> intro hh)|refine zq ?_|refine zv ?_|refine zu ?_|exact Sy.fin_val fun e=>rfl);(try conv => whnf)))
          refine zt 7 rfl ?_
          (conv => whnf);(repeat' ((first|refine zA ?_|(refine zI ?_ ?_<;> intro hh<;> first|(exfalso;omega)|skip)|(refine zl ?_ ?_<;> intro hh)|refine zq ?_|refine zv ?_|refine zu ?_|exact Sy.fin_val fun e=>rfl);(try conv => whnf)))
          refine zt 8 rfl ?_
          (conv => whnf);(repeat' ((first|refine zA ?_|(refine zI ?_ ?_<;> intro hh<;> first|(exfalso;omega)|skip)|(refine zl ?_ ?_<;> intro hh)|refine zq ?_|refine zv ?_|refine zu ?_|exact Sy.fin_val fun e=>rfl);(try conv => whnf)))
          refine zt 9 rfl ?_
          (conv => whnf);(repeat' ((first|refine zA ?_|(refine zI ?_ ?_<;> intro hh<;> first|(exfalso;omega)|skip)|(refine zl ?_ ?_<;> intro hh)|refine zq ?_|refine zv ?_|refine zu ?_|exact Sy.fin_val fun e=>rfl);(try conv => whnf)))
          refine Sy.el_map p hg ?_
          conv => whnf
          refine zt 10 rfl ?_
          (conv => whnf);(repeat' ((first|refine zA ?_|(refine zI ?_ ?_<;> intro hh<;> first|(exfalso;omega)|skip)|(refine zl ?_ ?_<;> intro hh)|refine zq ?_|refine zv ?_|refine zu ?_|exact Sy.fin_val fun e=>rfl);(try conv => whnf)))
          refine zd1 [11] (zx rfl ?_ zy)
          conv => whnf
          (try (refine zA ?_;conv => whnf))
          refine Sy.call_val (.c (.v (.int .i64 1))) Tryz.call94 rfl (fun e a w' h => by have := at1_any p s k v w'; rw [hcm] at this; exact this) ?_
          conv => whnf
          refine ⟨(by repeat' ((conv => whnf);first|exact trivial|(refine And.intro ?_ ?_)|rfl)), ?_⟩
          refine zt 12 rfl ?_
          (conv => whnf);(repeat' ((first|refine zA ?_|(refine zI ?_ ?_<;> intro hh<;> first|(exfalso;omega)|skip)|(refine zl ?_ ?_<;> intro hh)|refine zq ?_|refine zv ?_|refine zu ?_|exact Sy.fin_val fun e=>rfl);(try conv => whnf)))
          refine zt 13 rfl ?_
          (conv => whnf);(repeat' ((first|refine zA ?_|(refine zI ?_ ?_<;> intro hh<;> first|(exfalso;omega)|skip)|(refine zl ?_ ?_<;> intro hh)|refine zq ?_|refine zv ?_|refine zu ?_|exact Sy.fin_val fun e=>rfl);(try conv => whnf)))
          refine zt 14 rfl ?_
          conv => whnf
          refine zt 15 rfl ?_
          conv => whnf
          refine zw ?_
          skip
          all_goals (((repeat' ((conv => whnf);(first|refine zA ?_|(refine zI ?_ ?_<;> intro hh<;> first|(exfalso;omega)|skip)|(refine zl ?_ ?_<;> intro hh)|refine zq ?_|refine zv ?_|refine zu ?_|exact Sy.fin_val fun e=>rfl)));(all_goals (try conv => whnf))))
          all_goals exact Sy.fin_ex (j, false) (hfin false ⟨fun h => (by cases h), fun h => absurd h hc⟩) (fun e => rfl)
      · have hg1 : decide ((j : Int) < (l.length : Int)) = false := decide_eq_false (by omega)
        have hfin : srchK l (s * 32 + k) (j, false) := by
          refine ⟨by dsimp only; omega, fun h => (by cases h), hlo, hhi, fun _ q hq he => ?_⟩
          obtain ⟨m, hm⟩ := List.mem_iff_getElem?.1 hq
          have h1 := (List.getElem?_eq_some_iff.1 hm).1
          have := hlo m q (by omega) hm
          omega
        ((repeat' ((conv => whnf);(first|refine zA ?_|(refine zI ?_ ?_<;> intro hh<;> first|(exfalso;omega)|skip)|(refine zl ?_ ?_<;> intro hh)|refine zq ?_|refine zv ?_|refine zu ?_|exact Sy.fin_val fun e=>rfl)));(all_goals (try conv => whnf)))
        refine Sy.draw_go [] (by kernel_rfl) ?_
        intro e0
        conv => whnf
        refine zt 0 rfl ?_
        conv => whnf
        refine zt 1 rfl ?_
        conv => whnf
        refine zt 2 rfl ?_
        conv => whnf
        refine zt 3 rfl ?_
        (conv => whnf);(repeat' ((first|refine zA ?_|(refine zI ?_ ?_<;> intro hh<;> first|(exfalso;omega)|skip)|(refine zl ?_ ?_<;> intro hh)|refine zq ?_|refine zv ?_|refine zu ?_|exact Sy.fin_val fun e=>rfl);(try conv => whnf)))
        refine zt 4 rfl ?_
        conv => whnf
        refine zt 5 rfl ?_
        (conv => whnf);(repeat' ((first|refine zA ?_|(refine zI ?_ ?_<;> intro hh<;> first|(exfalso;omega)|skip)|(refine zl ?_ ?_<;> intro hh)|refine zq ?_|refine zv ?_|refine zu ?_|exact Sy.fin_val fun e=>rfl);(try conv => whnf)))
        refine zt 6 rfl ?_
        (conv => whnf);(repeat' ((first|refine zA ?_|(refine zI ?_ ?_<;> intro hh<;> first|(exfalso;omega)|skip)|(refine zl ?_ ?_<;> intro hh)|refine zq ?_|refine zv ?_|refine zu ?_|exact Sy.fin_val fun e=>rfl);(try conv => whnf)))
        refine zt 7 rfl ?_
        (conv => whnf);(repeat' ((first|refine zA ?_|(refine zI ?_ ?_<;> intro hh<;> first|(exfalso;omega)|skip)|(refine zl ?_ ?_<;> intro hh)|refine zq ?_|refine zv ?_|refine zu ?_|exact Sy.fin_val fun e=>rfl);(try conv => whnf)))
        refine zt 8 rfl ?_
        (conv => whnf);(repeat' ((first|refine zA ?_|(refine zI ?_ ?_<;> intro hh<;> first|(exfalso;omega)|skip)|(refine zl ?_ ?_<;> intro hh)|refine zq ?_|refine zv ?_|refine zu ?_|exact Sy.fin_val fun e=>rfl);(try conv => whnf)))
        refine zt 9 rfl ?_
        (conv => whnf);(repeat' ((first|refine zA ?_|(refine zI ?_ ?_<;> intro hh<;> first|(exfalso;omega)|skip)|(refine zl ?_ ?_<;> intro hh)|refine zq ?_|refine zv ?_|refine zu ?_|exact Sy.fin_val fun e=>rfl);(try conv => whnf)))
        refine zt 10 rfl ?_
        (conv => whnf);(repeat' ((first|refine zA ?_|(refine zI ?_ ?_<;> intro hh<;> first|(exfalso;omega)|skip)|(refine zl ?_ ?_<;> intro hh)|refine zq ?_|refine zv ?_|refine zu ?_|exact Sy.fin_val fun e=>rfl);(try conv => whnf)))
        refine zd1 [11] (zx rfl ?_ zy)
        conv => whnf
        (try (refine zA ?_;conv => whnf))
        refine ⟨(by repeat' ((conv => whnf);first|exact trivial|(refine And.intro ?_ ?_)|rfl)), ?_⟩
        refine zt 12 rfl ?_
        (conv => whnf);(repeat' ((first|refine zA ?_|(refine zI ?_ ?_<;> intro hh<;> first|(exfalso;omega)|skip)|(refine zl ?_ ?_<;> intro hh)|refine zq ?_|refine zv ?_|refine zu ?_|exact Sy.fin_val fun e=>rfl);(try conv => whnf)))
        refine zt 13 rfl ?_
        (conv => whnf);(repeat' ((first|refine zA ?_|(refine zI ?_ ?_<;> intro hh<;> first|(exfalso;omega)|skip)|(refine zl ?_ ?_<;> intro hh)|refine zq ?_|refine zv ?_|refine zu ?_|exact Sy.fin_val fun e=>rfl);(try conv => whnf)))
        refine zt 14 rfl ?_
        conv => whnf
        refine zt 15 rfl ?_
        conv => whnf
        refine zw ?_
        skip
        all_goals (((repeat' ((conv => whnf);(first|refine zA ?_|(refine zI ?_ ?_<;> intro hh<;> first|(exfalso;omega)|skip)|(refine zl ?_ ?_<;> intro hh)|refine zq ?_|refine zv ?_|refine zu ?_|exact Sy.fin_val fun e=>rfl)));(all_goals (try conv => whnf))))
        all_goals exact Sy.fin_ex (j, false) hfin (fun e => rfl)
end Go.Proofs.YtmahldelmbhjfaaGreat.Sn
