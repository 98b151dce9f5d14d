/- Job: 'JobMore' returns true. -/
import Derived.Test.YtbajgjbgkpcapaaLawB
import Derived.Test.YtbajgjbgkpcapaaOpen
namespace Go.Proofs.Ytbajgjbgkpcapaa
open Go Go.RowKit
open Sx (C SV V1 Blk St)
set_option maxRecDepth 10000

def Pair (n s f h : Int) : Prop :=
  ((dS s f n h).2.2.2 = (dS s f (n + 1) h).2.2.2 ∧ ((dS s f n h).2.2.2 = 0 → (dS s f n h).1 = (dS s f (n + 1) h).1 ∧ (dS s f n h).2.1 = (dS s f (n + 1) h).2.1 ∧ (dS s f n h).2.2.1 = n ∧ (dS s f (n + 1) h).2.2.1 = n + 1 ∧ okJ (dS s f n h).1 (dS s f n h).2.1 n)) ∨
  (dS s f n h = (7, f, n, 0) ∧ dS s f (n + 1) h = (2, f + 1, n + 1, 0) ∧ f = n)
theorem dS_ok {s f m h : Int} (h1 : okJ s f m) (hh : 1 ≤ h ∧ h ≤ 9) : dS s f m h = if h = 1 then (if s = 0 then (1, f, m, 0) else (0, 0, 0, 5))
  else if s = 0 then (0, 0, 0, 4) else if 4 ≤ s then (0, 0, 0, 351)
  else if h = 2 then (6, f, m, 0)
  else if h = 3 then (if f = m then (7, f, m, 0) else (2, f + 1, m, 0))
  else if h = 4 then (if s = 2 then (1, f, m, 0) else (0, 0, 0, 352))
  else if h = 5 then (if s = 1 then (3, f, m, 0) else if s = 2 then (0, 0, 0, 353) else (0, 0, 0, 5))
  else if h = 6 then (if s = 3 then (5, f, m, 0) else (0, 0, 0, 352))
  else if h = 7 then (if s = 3 then (1, f, m, 0) else (0, 0, 0, 352))
  else if h = 8 then (if s = 2 then (0, 0, 0, 352) else (4, f, m, 0))
  else (7, f, m, 0) := by
  unfold dS
  rw [if_neg (not_not_intro h1), if_neg (by omega)]
set_option maxHeartbeats 1000000 in
theorem pair_all (n s f h : Int) (hn : 0 ≤ n ∧ n ≤ 7) (h1 : okJ s f n) : Pair n s f h := by
  have h2 : okJ s f (n + 1) := by unfold okJ at h1 ⊢; omega
  by_cases ho : h < 1 ∨ 9 < h
  · refine .inl ?_
    have e1 : dS s f n h = (0, 0, 0, 2) := by unfold dS; rw [if_neg (not_not_intro h1), if_pos ho]
    have e2 : dS s f (n + 1) h = (0, 0, 0, 2) := by unfold dS; rw [if_neg (not_not_intro h2), if_pos ho]
    rw [e1, e2]
    exact ⟨rfl, fun h => absurd h (by decide)⟩
  have hs : s = 0 ∨ s = 1 ∨ s = 2 ∨ s = 3 ∨ 4 ≤ s := by unfold okJ at h1; omega
  have hh : h = 1 ∨ h = 2 ∨ h = 3 ∨ h = 4 ∨ h = 5 ∨ h = 6 ∨ h = 7 ∨ h = 8 ∨ h = 9 := by omega
  have hf2 : ¬ f = n + 1 := by unfold okJ at h1; omega
  have d1 := dS_ok h1 (h := h) (by omega)
  have d2 := dS_ok h2 (h := h) (by omega)
  unfold Pair
  rw [d1, d2]
  clear d1 d2 ho
  have hk : ∀ x y : Int, 0 ≤ x → x ≤ 7 → (x = 0 → y ≤ 0) → 0 ≤ y → y ≤ n → okJ x y n := fun x y a b c d e => by unfold okJ; omega
  have hf0 : 0 ≤ f ∧ f ≤ n ∧ (s = 0 → f ≤ 0) ∧ s ≤ 7 := by unfold okJ at h1; omega
  clear h1 h2
  by_cases hf : f = n
  · rcases hs with rfl | rfl | rfl | rfl | hs <;> rcases hh with rfl | rfl | rfl | rfl | rfl | rfl | rfl | rfl | rfl
    all_goals
      try have hs0 : ¬ s = 0 := by omega
      simp_all
    all_goals exact hk _ _ (by omega) (by omega) (by omega) (by omega) (by omega)
  · rcases hs with rfl | rfl | rfl | rfl | hs <;> rcases hh with rfl | rfl | rfl | rfl | rfl | rfl | rfl | rfl | rfl
    all_goals
      try have hs0 : ¬ s = 0 := by omega
      simp_all
    all_goals exact hk _ _ (by omega) (by omega) (by omega) (by omega) (by omega)
theorem new_in {n : Int} (h : 0 ≤ n ∧ n ≤ 8) (w : World) : Calls Try.prog 14 #[.int .i64 n] w (Sx.Ret (.tuple #[.agg #[.int .i64 0, .int .i64 0, .int .i64 n], .int .i64 0]) w) := new_lit (if_pos h) w
theorem ok0 {N : Int} (h : 0 ≤ N ∧ N ≤ 7) : okJ 0 0 N := by unfold okJ; omega
theorem do_lit {s f m h a b c y : Int} (e : dS s f m h = (a, b, c, y)) (w : World) : Calls Try.prog 9 #[.agg #[.int .i64 s, .int .i64 f, .int .i64 m], .int .i64 h] w (Sx.Ret (.tuple #[.agg #[.int .i64 a, .int .i64 b, .int .i64 c], .int .i64 y]) w) := by
  have := jobDo_any s f m h w
  rw [e] at this
  exact this
def moreI (N : Int) (k : Nat) (zs : List Int) (w : World) : Nat × Int × Int → St
  | (i, s, f) => ⟨[(39, .c (.v (.int .i64 (i : Int)))), (38, .c (.v (.int .i64 (k : Int)))), (37, .c (.row 0)), (7, .c (.loc 2 0)), (5, .c (.loc 1 0)), (0, .c (.v (.int .i64 N)))],
    [(2, .cells 23 [.v (.int .i64 s), .v (.int .i64 f), .v (.int .i64 (N + 1))]), (1, .cells 23 [.v (.int .i64 s), .v (.int .i64 f), .v (.int .i64 N)]), (0, .ext 1 k ((zs.map (Value.int .i64)).map C.v))], 3, fun x => x < w.heap.size, fun _ => True⟩
attribute [local irreducible] dS okJ nS livS lefS ovrS
theorem more_any (n : Int) (v : Value) (k : Nat) (zs : List Int) (w : World) (hn : -9223372036854775808 ≤ n ∧ n ≤ 9223372036854775807) (hv : v.oneCell' = true) (hk : k ≤ 9223372036854775807) (hr : Sx.Reads (fun b => b < w.heap.size) w 1 v k (zs.map (Value.int .i64))) :
    Calls Try.prog 4 #[.int .i64 n, v] w (Sx.Ret (.bool true) w) := by
  have hl : zs.length = k := by have := hr.1; simpa using this
  have hm : 0 ≤ Sx.maxI n 0 := by unfold Sx.maxI; split <;> omega
  refine Sx.calls_of' Sx.tab_ok Try.func4 rfl _ Try.ntmps4 [.c (.v (.int .i64 n)), .c (.v v)] rfl (by simp only [Sx.allLt, SV.lt, C.lt, hv]; rfl) rfl _ (Sx.sub_ext 1 1 k v (zs.map (Value.int .i64)) rfl hr (fun u hu => by obtain ⟨z, _, rfl⟩ := List.mem_map.1 hu; rfl)) ?_
  ((repeat' ((conv => whnf); (first | refine Sx.brT ?_ | refine Sx.brF ?_ | refine Sx.br_pos (by assumption) ?_ | refine Sx.br_neg (by assumption) ?_ | refine Sx.br_bneT ?_ | refine Sx.br_bneF ?_ | refine Sx.br_bneT' ?_ | refine Sx.br_bneF' ?_ | refine Sx.br_not ?_ | refine Sx.br_lself ?_ | refine Sx.br_dT (by assumption) ?_ | refine Sx.br_dF (by assumption) ?_ | refine Sx.br_eT (by assumption) ?_ | refine Sx.br_eF (by assumption) ?_ | refine Sx.br_nT (by assumption) ?_ | refine Sx.br_nF (by assumption) ?_ | (refine Sx.br_dec (fun hh => ?_) (fun hh => ?_) <;> first | (exfalso; omega) | skip) | (refine Sx.br_eq (fun hh => ?_) (fun hh => ?_) <;> first | (exfalso; omega) | skip) | (refine Sx.br_ne (fun hh => ?_) (fun hh => ?_) <;> first | (exfalso; omega) | skip) | refine Sx.br_split (fun hh => ?_) (fun hh => ?_) | refine Sx.ar_in (by omega) ?_ | refine Sx.idx_nat (by omega) ?_ | refine Sx.idx_in (by omega) (by omega) ?_ | refine Sx.seq_go Sx.tab_ok ?_ | refine Sx.block_go Sx.tab_ok ?_ | refine Sx.cond_go Sx.tab_ok _ rfl ?_ | refine Sx.cell_of _ rfl ?_ | refine Sx.part_of _ rfl rfl ?_ | refine Sx.open_skip ?_ | exact Sx.fin_val (fun e => rfl)))); (all_goals (try conv => whnf)))
  refine Sx.call_val (.c (.v (.bool true))) Try.call8 rfl rfl (fun _ _ w' _ => wakes_any w') ?_
  ((repeat' ((conv => whnf); (first | refine Sx.brT ?_ | refine Sx.brF ?_ | refine Sx.br_pos (by assumption) ?_ | refine Sx.br_neg (by assumption) ?_ | refine Sx.br_bneT ?_ | refine Sx.br_bneF ?_ | refine Sx.br_bneT' ?_ | refine Sx.br_bneF' ?_ | refine Sx.br_not ?_ | refine Sx.br_lself ?_ | refine Sx.br_dT (by assumption) ?_ | refine Sx.br_dF (by assumption) ?_ | refine Sx.br_eT (by assumption) ?_ | refine Sx.br_eF (by assumption) ?_ | refine Sx.br_nT (by assumption) ?_ | refine Sx.br_nF (by assumption) ?_ | (refine Sx.br_dec (fun hh => ?_) (fun hh => ?_) <;> first | (exfalso; omega) | skip) | (refine Sx.br_eq (fun hh => ?_) (fun hh => ?_) <;> first | (exfalso; omega) | skip) | (refine Sx.br_ne (fun hh => ?_) (fun hh => ?_) <;> first | (exfalso; omega) | skip) | refine Sx.br_split (fun hh => ?_) (fun hh => ?_) | refine Sx.ar_in (by omega) ?_ | refine Sx.idx_nat (by omega) ?_ | refine Sx.idx_in (by omega) (by omega) ?_ | refine Sx.seq_go Sx.tab_ok ?_ | refine Sx.block_go Sx.tab_ok ?_ | refine Sx.cond_go Sx.tab_ok _ rfl ?_ | refine Sx.cell_of _ rfl ?_ | refine Sx.part_of _ rfl rfl ?_ | refine Sx.open_skip ?_ | exact Sx.fin_val (fun e => rfl)))); (all_goals (try conv => whnf)))
  refine Sx.rem_in hm (by decide) ?_
  obtain ⟨N, hN⟩ : ∃ N, Sx.maxI n 0 % 8 = N := ⟨_, rfl⟩
  have hN1 : 0 ≤ N ∧ N ≤ 7 := by omega
  rw [hN]
  clear hN
  ((repeat' ((conv => whnf); (first | refine Sx.brT ?_ | refine Sx.brF ?_ | refine Sx.br_pos (by assumption) ?_ | refine Sx.br_neg (by assumption) ?_ | refine Sx.br_bneT ?_ | refine Sx.br_bneF ?_ | refine Sx.br_bneT' ?_ | refine Sx.br_bneF' ?_ | refine Sx.br_not ?_ | refine Sx.br_lself ?_ | refine Sx.br_dT (by assumption) ?_ | refine Sx.br_dF (by assumption) ?_ | refine Sx.br_eT (by assumption) ?_ | refine Sx.br_eF (by assumption) ?_ | refine Sx.br_nT (by assumption) ?_ | refine Sx.br_nF (by assumption) ?_ | (refine Sx.br_dec (fun hh => ?_) (fun hh => ?_) <;> first | (exfalso; omega) | skip) | (refine Sx.br_eq (fun hh => ?_) (fun hh => ?_) <;> first | (exfalso; omega) | skip) | (refine Sx.br_ne (fun hh => ?_) (fun hh => ?_) <;> first | (exfalso; omega) | skip) | refine Sx.br_split (fun hh => ?_) (fun hh => ?_) | refine Sx.ar_in (by omega) ?_ | refine Sx.idx_nat (by omega) ?_ | refine Sx.idx_in (by omega) (by omega) ?_ | refine Sx.seq_go Sx.tab_ok ?_ | refine Sx.block_go Sx.tab_ok ?_ | refine Sx.cond_go Sx.tab_ok _ rfl ?_ | refine Sx.cell_of _ rfl ?_ | refine Sx.part_of _ rfl rfl ?_ | refine Sx.open_skip ?_ | exact Sx.fin_val (fun e => rfl)))); (all_goals (try conv => whnf)))
  refine Sx.call_val (.tup [.agg [.v (.int .i64 0), .v (.int .i64 0), .v (.int .i64 N)], .c (.v (.int .i64 0))]) Try.call14 rfl rfl (fun _ _ w' _ => new_in (by omega) w') ?_
  ((repeat' ((conv => whnf); (first | refine Sx.brT ?_ | refine Sx.brF ?_ | refine Sx.br_pos (by assumption) ?_ | refine Sx.br_neg (by assumption) ?_ | refine Sx.br_bneT ?_ | refine Sx.br_bneF ?_ | refine Sx.br_bneT' ?_ | refine Sx.br_bneF' ?_ | refine Sx.br_not ?_ | refine Sx.br_lself ?_ | refine Sx.br_dT (by assumption) ?_ | refine Sx.br_dF (by assumption) ?_ | refine Sx.br_eT (by assumption) ?_ | refine Sx.br_eF (by assumption) ?_ | refine Sx.br_nT (by assumption) ?_ | refine Sx.br_nF (by assumption) ?_ | (refine Sx.br_dec (fun hh => ?_) (fun hh => ?_) <;> first | (exfalso; omega) | skip) | (refine Sx.br_eq (fun hh => ?_) (fun hh => ?_) <;> first | (exfalso; omega) | skip) | (refine Sx.br_ne (fun hh => ?_) (fun hh => ?_) <;> first | (exfalso; omega) | skip) | refine Sx.br_split (fun hh => ?_) (fun hh => ?_) | refine Sx.ar_in (by omega) ?_ | refine Sx.idx_nat (by omega) ?_ | refine Sx.idx_in (by omega) (by omega) ?_ | refine Sx.seq_go Sx.tab_ok ?_ | refine Sx.block_go Sx.tab_ok ?_ | refine Sx.cond_go Sx.tab_ok _ rfl ?_ | refine Sx.cell_of _ rfl ?_ | refine Sx.part_of _ rfl rfl ?_ | refine Sx.open_skip ?_ | exact Sx.fin_val (fun e => rfl)))); (all_goals (try conv => whnf)))
  refine Sx.call_val (.tup [.agg [.v (.int .i64 0), .v (.int .i64 0), .v (.int .i64 (N + 1))], .c (.v (.int .i64 0))]) Try.call14 rfl rfl (fun _ _ w' _ => new_in (by omega) w') ?_
  ((repeat' ((conv => whnf); (first | refine Sx.brT ?_ | refine Sx.brF ?_ | refine Sx.br_pos (by assumption) ?_ | refine Sx.br_neg (by assumption) ?_ | refine Sx.br_bneT ?_ | refine Sx.br_bneF ?_ | refine Sx.br_bneT' ?_ | refine Sx.br_bneF' ?_ | refine Sx.br_not ?_ | refine Sx.br_lself ?_ | refine Sx.br_dT (by assumption) ?_ | refine Sx.br_dF (by assumption) ?_ | refine Sx.br_eT (by assumption) ?_ | refine Sx.br_eF (by assumption) ?_ | refine Sx.br_nT (by assumption) ?_ | refine Sx.br_nF (by assumption) ?_ | (refine Sx.br_dec (fun hh => ?_) (fun hh => ?_) <;> first | (exfalso; omega) | skip) | (refine Sx.br_eq (fun hh => ?_) (fun hh => ?_) <;> first | (exfalso; omega) | skip) | (refine Sx.br_ne (fun hh => ?_) (fun hh => ?_) <;> first | (exfalso; omega) | skip) | refine Sx.br_split (fun hh => ?_) (fun hh => ?_) | refine Sx.ar_in (by omega) ?_ | refine Sx.idx_nat (by omega) ?_ | refine Sx.idx_in (by omega) (by omega) ?_ | refine Sx.seq_go Sx.tab_ok ?_ | refine Sx.block_go Sx.tab_ok ?_ | refine Sx.cond_go Sx.tab_ok _ rfl ?_ | refine Sx.cell_of _ rfl ?_ | refine Sx.part_of _ rfl rfl ?_ | refine Sx.open_skip ?_ | exact Sx.fin_val (fun e => rfl)))); (all_goals (try conv => whnf)))
  refine Sx.loop_of Sx.tab_ok (moreI N k zs w) (fun x => x.1 ≤ k ∧ okJ x.2.1 x.2.2 N) (fun x => k - x.1) (0, 0, 0) ⟨Nat.zero_le _, ok0 hN1⟩ (Sx.sub_of id ?_ ?_ rfl rfl (fun _ h => h)) (fun x hx => ?_)
  · repeat' (first | exact trivial | refine And.intro ?_ ?_ | rfl)
  · refine ⟨⟨rfl, Sx.idAll_of rfl, rfl⟩, ⟨rfl, Sx.idAll_of rfl, rfl⟩, ⟨?_, Sx.idAll_v _, rfl⟩, trivial⟩
    simp only [Sx.Blk.ren, Sx.map_ren_v]
    rfl
  · obtain ⟨i, s, f⟩ := x
    obtain ⟨hi, ho⟩ := hx
    simp only at hi ho
    ((repeat' ((conv => whnf); (first | refine Sx.brT ?_ | refine Sx.brF ?_ | refine Sx.br_pos (by assumption) ?_ | refine Sx.br_neg (by assumption) ?_ | refine Sx.br_bneT ?_ | refine Sx.br_bneF ?_ | refine Sx.br_bneT' ?_ | refine Sx.br_bneF' ?_ | refine Sx.br_not ?_ | refine Sx.br_lself ?_ | refine Sx.br_dT (by assumption) ?_ | refine Sx.br_dF (by assumption) ?_ | refine Sx.br_eT (by assumption) ?_ | refine Sx.br_eF (by assumption) ?_ | refine Sx.br_nT (by assumption) ?_ | refine Sx.br_nF (by assumption) ?_ | (refine Sx.br_dec (fun hh => ?_) (fun hh => ?_) <;> first | (exfalso; omega) | skip) | (refine Sx.br_eq (fun hh => ?_) (fun hh => ?_) <;> first | (exfalso; omega) | skip) | (refine Sx.br_ne (fun hh => ?_) (fun hh => ?_) <;> first | (exfalso; omega) | skip) | refine Sx.br_split (fun hh => ?_) (fun hh => ?_) | refine Sx.ar_in (by omega) ?_ | refine Sx.idx_nat (by omega) ?_ | refine Sx.idx_in (by omega) (by omega) ?_ | refine Sx.seq_go Sx.tab_ok ?_ | refine Sx.block_go Sx.tab_ok ?_ | refine Sx.cond_go Sx.tab_ok _ rfl ?_ | refine Sx.cell_of _ rfl ?_ | refine Sx.part_of _ rfl rfl ?_ | refine Sx.open_skip ?_ | exact Sx.fin_val (fun e => rfl)))); (all_goals (try conv => whnf)))
    · have hlt : i < zs.length := by omega
      refine Sx.cell_of (.v (.int .i64 zs[i])) (by rw [show i * Sx.ti3.size = i from Nat.mul_one _, List.getElem?_map, List.getElem?_map, List.getElem?_eq_getElem hlt]; rfl) ?_
      obtain ⟨h, hh⟩ : ∃ h, zs[i] = h := ⟨_, rfl⟩
      rw [hh]
      have hp := pair_all N s f h hN1 ho
      obtain ⟨⟨a1, a2, a3, a4⟩, ea⟩ : ∃ x, dS s f N h = x := ⟨_, rfl⟩
      obtain ⟨⟨b1, b2, b3, b4⟩, eb⟩ : ∃ x, dS s f (N + 1) h = x := ⟨_, rfl⟩
      have h9 : f ≤ N := by have := ho; unfold okJ at this; omega
      unfold Pair at hp
      rw [ea, eb] at hp
      ((repeat' ((conv => whnf); (first | refine Sx.brT ?_ | refine Sx.brF ?_ | refine Sx.br_pos (by assumption) ?_ | refine Sx.br_neg (by assumption) ?_ | refine Sx.br_bneT ?_ | refine Sx.br_bneF ?_ | refine Sx.br_bneT' ?_ | refine Sx.br_bneF' ?_ | refine Sx.br_not ?_ | refine Sx.br_lself ?_ | refine Sx.br_dT (by assumption) ?_ | refine Sx.br_dF (by assumption) ?_ | refine Sx.br_eT (by assumption) ?_ | refine Sx.br_eF (by assumption) ?_ | refine Sx.br_nT (by assumption) ?_ | refine Sx.br_nF (by assumption) ?_ | (refine Sx.br_dec (fun hh => ?_) (fun hh => ?_) <;> first | (exfalso; omega) | skip) | (refine Sx.br_eq (fun hh => ?_) (fun hh => ?_) <;> first | (exfalso; omega) | skip) | (refine Sx.br_ne (fun hh => ?_) (fun hh => ?_) <;> first | (exfalso; omega) | skip) | refine Sx.br_split (fun hh => ?_) (fun hh => ?_) | refine Sx.ar_in (by omega) ?_ | refine Sx.idx_nat (by omega) ?_ | refine Sx.idx_in (by omega) (by omega) ?_ | refine Sx.seq_go Sx.tab_ok ?_ | refine Sx.block_go Sx.tab_ok ?_ | refine Sx.cond_go Sx.tab_ok _ rfl ?_ | refine Sx.cell_of _ rfl ?_ | refine Sx.part_of _ rfl rfl ?_ | refine Sx.open_skip ?_ | exact Sx.fin_val (fun e => rfl)))); (all_goals (try conv => whnf)))
      all_goals first | (exfalso; omega) | skip
      · exact Sx.fin_val (fun e => congrArg Value.bool (beq_self_eq_true _))
      · simp only [Prod.mk.injEq] at hp
        rcases hp with ⟨rfl, hz⟩ | ⟨⟨rfl, rfl, rfl, rfl⟩, ⟨rfl, rfl, rfl, rfl⟩, hfn⟩
        · by_cases h0 : a4 = 0
          · obtain ⟨rfl, rfl, rfl, rfl, hok⟩ := hz h0
            subst h0
            refine Sx.call_val (.tup [.agg [.v (.int .i64 _), .v (.int .i64 _), .v (.int .i64 _)], .c (.v (.int .i64 _))]) Try.call9 (by rfl) (by rfl) (fun _ _ w' _ => do_lit ea w') ?_
            ((repeat' ((conv => whnf); (first | refine Sx.brT ?_ | refine Sx.brF ?_ | refine Sx.br_pos (by assumption) ?_ | refine Sx.br_neg (by assumption) ?_ | refine Sx.br_bneT ?_ | refine Sx.br_bneF ?_ | refine Sx.br_bneT' ?_ | refine Sx.br_bneF' ?_ | refine Sx.br_not ?_ | refine Sx.br_lself ?_ | refine Sx.br_dT (by assumption) ?_ | refine Sx.br_dF (by assumption) ?_ | refine Sx.br_eT (by assumption) ?_ | refine Sx.br_eF (by assumption) ?_ | refine Sx.br_nT (by assumption) ?_ | refine Sx.br_nF (by assumption) ?_ | (refine Sx.br_dec (fun hh => ?_) (fun hh => ?_) <;> first | (exfalso; omega) | skip) | (refine Sx.br_eq (fun hh => ?_) (fun hh => ?_) <;> first | (exfalso; omega) | skip) | (refine Sx.br_ne (fun hh => ?_) (fun hh => ?_) <;> first | (exfalso; omega) | skip) | refine Sx.br_split (fun hh => ?_) (fun hh => ?_) | refine Sx.ar_in (by omega) ?_ | refine Sx.idx_nat (by omega) ?_ | refine Sx.idx_in (by omega) (by omega) ?_ | refine Sx.seq_go Sx.tab_ok ?_ | refine Sx.block_go Sx.tab_ok ?_ | refine Sx.cond_go Sx.tab_ok _ rfl ?_ | refine Sx.cell_of _ rfl ?_ | refine Sx.part_of _ rfl rfl ?_ | refine Sx.open_skip ?_ | exact Sx.fin_val (fun e => rfl)))); (all_goals (try conv => whnf)))
            refine Sx.call_val (.tup [.agg [.v (.int .i64 _), .v (.int .i64 _), .v (.int .i64 _)], .c (.v (.int .i64 _))]) Try.call9 (by rfl) (by rfl) (fun _ _ w' _ => do_lit eb w') ?_
            ((repeat' ((conv => whnf); (first | refine Sx.brT ?_ | refine Sx.brF ?_ | refine Sx.br_pos (by assumption) ?_ | refine Sx.br_neg (by assumption) ?_ | refine Sx.br_bneT ?_ | refine Sx.br_bneF ?_ | refine Sx.br_bneT' ?_ | refine Sx.br_bneF' ?_ | refine Sx.br_not ?_ | refine Sx.br_lself ?_ | refine Sx.br_dT (by assumption) ?_ | refine Sx.br_dF (by assumption) ?_ | refine Sx.br_eT (by assumption) ?_ | refine Sx.br_eF (by assumption) ?_ | refine Sx.br_nT (by assumption) ?_ | refine Sx.br_nF (by assumption) ?_ | (refine Sx.br_dec (fun hh => ?_) (fun hh => ?_) <;> first | (exfalso; omega) | skip) | (refine Sx.br_eq (fun hh => ?_) (fun hh => ?_) <;> first | (exfalso; omega) | skip) | (refine Sx.br_ne (fun hh => ?_) (fun hh => ?_) <;> first | (exfalso; omega) | skip) | refine Sx.br_split (fun hh => ?_) (fun hh => ?_) | refine Sx.ar_in (by omega) ?_ | refine Sx.idx_nat (by omega) ?_ | refine Sx.idx_in (by omega) (by omega) ?_ | refine Sx.seq_go Sx.tab_ok ?_ | refine Sx.block_go Sx.tab_ok ?_ | refine Sx.cond_go Sx.tab_ok _ rfl ?_ | refine Sx.cell_of _ rfl ?_ | refine Sx.part_of _ rfl rfl ?_ | refine Sx.open_skip ?_ | exact Sx.fin_val (fun e => rfl)))); (all_goals (try conv => whnf)))
            refine ⟨(i + 1, a1, a2), ⟨by simp only; omega, by assumption⟩, by simp only; omega, Sx.sub_of id ?_ ?_ rfl rfl (fun _ h => h)⟩
            · repeat' (first | exact trivial | refine And.intro ?_ ?_ | rfl)
            · refine ⟨⟨rfl, Sx.idAll_of rfl, rfl⟩, ⟨rfl, Sx.idAll_of rfl, rfl⟩, ⟨?_, Sx.idAll_v _, rfl⟩, trivial⟩
              simp only [Sx.Blk.ren, Sx.map_ren_v]
              rfl
          · refine Sx.call_val (.tup [.agg [.v (.int .i64 _), .v (.int .i64 _), .v (.int .i64 _)], .c (.v (.int .i64 _))]) Try.call9 (by rfl) (by rfl) (fun _ _ w' _ => do_lit ea w') ?_
            ((repeat' ((conv => whnf); (first | refine Sx.brT ?_ | refine Sx.brF ?_ | refine Sx.br_pos (by assumption) ?_ | refine Sx.br_neg (by assumption) ?_ | refine Sx.br_bneT ?_ | refine Sx.br_bneF ?_ | refine Sx.br_bneT' ?_ | refine Sx.br_bneF' ?_ | refine Sx.br_not ?_ | refine Sx.br_lself ?_ | refine Sx.br_dT (by assumption) ?_ | refine Sx.br_dF (by assumption) ?_ | refine Sx.br_eT (by assumption) ?_ | refine Sx.br_eF (by assumption) ?_ | refine Sx.br_nT (by assumption) ?_ | refine Sx.br_nF (by assumption) ?_ | (refine Sx.br_dec (fun hh => ?_) (fun hh => ?_) <;> first | (exfalso; omega) | skip) | (refine Sx.br_eq (fun hh => ?_) (fun hh => ?_) <;> first | (exfalso; omega) | skip) | (refine Sx.br_ne (fun hh => ?_) (fun hh => ?_) <;> first | (exfalso; omega) | skip) | refine Sx.br_split (fun hh => ?_) (fun hh => ?_) | refine Sx.ar_in (by omega) ?_ | refine Sx.idx_nat (by omega) ?_ | refine Sx.idx_in (by omega) (by omega) ?_ | refine Sx.seq_go Sx.tab_ok ?_ | refine Sx.block_go Sx.tab_ok ?_ | refine Sx.cond_go Sx.tab_ok _ rfl ?_ | refine Sx.cell_of _ rfl ?_ | refine Sx.part_of _ rfl rfl ?_ | refine Sx.open_skip ?_ | exact Sx.fin_val (fun e => rfl)))); (all_goals (try conv => whnf)))
            refine Sx.call_val (.tup [.agg [.v (.int .i64 _), .v (.int .i64 _), .v (.int .i64 _)], .c (.v (.int .i64 _))]) Try.call9 (by rfl) (by rfl) (fun _ _ w' _ => do_lit eb w') ?_
            ((repeat' ((conv => whnf); (first | refine Sx.brT ?_ | refine Sx.brF ?_ | refine Sx.br_pos (by assumption) ?_ | refine Sx.br_neg (by assumption) ?_ | refine Sx.br_bneT ?_ | refine Sx.br_bneF ?_ | refine Sx.br_bneT' ?_ | refine Sx.br_bneF' ?_ | refine Sx.br_not ?_ | refine Sx.br_lself ?_ | refine Sx.br_dT (by assumption) ?_ | refine Sx.br_dF (by assumption) ?_ | refine Sx.br_eT (by assumption) ?_ | refine Sx.br_eF (by assumption) ?_ | refine Sx.br_nT (by assumption) ?_ | refine Sx.br_nF (by assumption) ?_ | (refine Sx.br_dec (fun hh => ?_) (fun hh => ?_) <;> first | (exfalso; omega) | skip) | (refine Sx.br_eq (fun hh => ?_) (fun hh => ?_) <;> first | (exfalso; omega) | skip) | (refine Sx.br_ne (fun hh => ?_) (fun hh => ?_) <;> first | (exfalso; omega) | skip) | refine Sx.br_split (fun hh => ?_) (fun hh => ?_) | refine Sx.ar_in (by omega) ?_ | refine Sx.idx_nat (by omega) ?_ | refine Sx.idx_in (by omega) (by omega) ?_ | refine Sx.seq_go Sx.tab_ok ?_ | refine Sx.block_go Sx.tab_ok ?_ | refine Sx.cond_go Sx.tab_ok _ rfl ?_ | refine Sx.cell_of _ rfl ?_ | refine Sx.part_of _ rfl rfl ?_ | refine Sx.open_skip ?_ | exact Sx.fin_val (fun e => rfl)))); (all_goals (try conv => whnf)))
            all_goals first | (exfalso; omega) | skip
            refine ⟨(i + 1, s, f), ⟨by simp only; omega, by assumption⟩, by simp only; omega, Sx.sub_of id ?_ ?_ rfl rfl (fun _ h => h)⟩
            · repeat' (first | exact trivial | refine And.intro ?_ ?_ | rfl)
            · refine ⟨⟨rfl, Sx.idAll_of rfl, rfl⟩, ⟨rfl, Sx.idAll_of rfl, rfl⟩, ⟨?_, Sx.idAll_v _, rfl⟩, trivial⟩
              simp only [Sx.Blk.ren, Sx.map_ren_v]
              rfl
        · refine Sx.call_val (.tup [.agg [.v (.int .i64 _), .v (.int .i64 _), .v (.int .i64 _)], .c (.v (.int .i64 _))]) Try.call9 (by rfl) (by rfl) (fun _ _ w' _ => do_lit ea w') ?_
          ((repeat' ((conv => whnf); (first | refine Sx.brT ?_ | refine Sx.brF ?_ | refine Sx.br_pos (by assumption) ?_ | refine Sx.br_neg (by assumption) ?_ | refine Sx.br_bneT ?_ | refine Sx.br_bneF ?_ | refine Sx.br_bneT' ?_ | refine Sx.br_bneF' ?_ | refine Sx.br_not ?_ | refine Sx.br_lself ?_ | refine Sx.br_dT (by assumption) ?_ | refine Sx.br_dF (by assumption) ?_ | refine Sx.br_eT (by assumption) ?_ | refine Sx.br_eF (by assumption) ?_ | refine Sx.br_nT (by assumption) ?_ | refine Sx.br_nF (by assumption) ?_ | (refine Sx.br_dec (fun hh => ?_) (fun hh => ?_) <;> first | (exfalso; omega) | skip) | (refine Sx.br_eq (fun hh => ?_) (fun hh => ?_) <;> first | (exfalso; omega) | skip) | (refine Sx.br_ne (fun hh => ?_) (fun hh => ?_) <;> first | (exfalso; omega) | skip) | refine Sx.br_split (fun hh => ?_) (fun hh => ?_) | refine Sx.ar_in (by omega) ?_ | refine Sx.idx_nat (by omega) ?_ | refine Sx.idx_in (by omega) (by omega) ?_ | refine Sx.seq_go Sx.tab_ok ?_ | refine Sx.block_go Sx.tab_ok ?_ | refine Sx.cond_go Sx.tab_ok _ rfl ?_ | refine Sx.cell_of _ rfl ?_ | refine Sx.part_of _ rfl rfl ?_ | refine Sx.open_skip ?_ | exact Sx.fin_val (fun e => rfl)))); (all_goals (try conv => whnf)))
          refine Sx.call_val (.tup [.agg [.v (.int .i64 _), .v (.int .i64 _), .v (.int .i64 _)], .c (.v (.int .i64 _))]) Try.call9 (by rfl) (by rfl) (fun _ _ w' _ => do_lit eb w') ?_
          ((repeat' ((conv => whnf); (first | refine Sx.brT ?_ | refine Sx.brF ?_ | refine Sx.br_pos (by assumption) ?_ | refine Sx.br_neg (by assumption) ?_ | refine Sx.br_bneT ?_ | refine Sx.br_bneF ?_ | refine Sx.br_bneT' ?_ | refine Sx.br_bneF' ?_ | refine Sx.br_not ?_ | refine Sx.br_lself ?_ | refine Sx.br_dT (by assumption) ?_ | refine Sx.br_dF (by assumption) ?_ | refine Sx.br_eT (by assumption) ?_ | refine Sx.br_eF (by assumption) ?_ | refine Sx.br_nT (by assumption) ?_ | refine Sx.br_nF (by assumption) ?_ | (refine Sx.br_dec (fun hh => ?_) (fun hh => ?_) <;> first | (exfalso; omega) | skip) | (refine Sx.br_eq (fun hh => ?_) (fun hh => ?_) <;> first | (exfalso; omega) | skip) | (refine Sx.br_ne (fun hh => ?_) (fun hh => ?_) <;> first | (exfalso; omega) | skip) | refine Sx.br_split (fun hh => ?_) (fun hh => ?_) | refine Sx.ar_in (by omega) ?_ | refine Sx.idx_nat (by omega) ?_ | refine Sx.idx_in (by omega) (by omega) ?_ | refine Sx.seq_go Sx.tab_ok ?_ | refine Sx.block_go Sx.tab_ok ?_ | refine Sx.cond_go Sx.tab_ok _ rfl ?_ | refine Sx.cell_of _ rfl ?_ | refine Sx.part_of _ rfl rfl ?_ | refine Sx.open_skip ?_ | exact Sx.fin_val (fun e => rfl)))); (all_goals (try conv => whnf)))
          all_goals first | (exfalso; omega) | skip
          exact Sx.fin_val (fun e => congrArg Value.bool (beq_iff_eq.2 (by omega)))
    · exact Sx.fin_val (fun e => congrArg Value.bool (beq_self_eq_true _))
end Go.Proofs.Ytbajgjbgkpcapaa
