/- Frame: lists that are read. -/
import Derived.Test.YtgkkpefpbfadoaaGreatAk45
namespace Go.Proofs.YtgkkpefpbfadoaaGreat
open Go Go.RowKit
open Sy (C SV V1 Blk St XD Els)
set_option maxRecDepth 10000
def lsC {α : Type} (s0 s : Rs) (m : MsgV) (n : Nat) (B B1 : List (Nat × Blk)) (z : Nat) (f : Ps → Ps × α) (enc : α → List Value) : Sy.Ctr (Rs × One) := { avs := [.c (.loc 0 0), .c (.row 2)], n0 := n, H0 := frH m s ++ (B ++ B1), pre := fun F w => s0.ok F w, p := fun x => x.1.p = (lstP f s.p).1 ∧ Rg s0 x.1 ∧ x.1.l.length ≤ s.l.length, sv := fun x => .c (.v x.2.v), n1 := fun _ => n, H1 := fun x => frH m x.1 ++ B1, learn := true, q := fun x G w => XD.ok G w ⟨x.2.v, z, (lstP f s.p).2.length, (lstP f s.p).2.map enc⟩ }
theorem lt_v {n : Nat} {u : Value} (h : u.oneCell' = true) : SV.lt n (.c (.v u)) = true := h
theorem lst_e {α : Type} {f : Ps → Ps × α} {n : Nat} {p : Ps} (h : n = 0 ∨ p.e ≠ 0) : lstN f n p = (p, []) := by
 cases n with
 | zero => rfl
 | succ n => exact if_pos (h.resolve_left (by omega))
theorem lst_s {α : Type} {f : Ps → Ps × α} {n : Nat} {p : Ps} (h : p.e = 0) : lstN f (n + 1) p = consQ (f p).2 (lstN f n (f p).1) := if_neg (Decidable.not_not.2 h)
theorem aft_nil {α : Type} {l : List α} {p : Ps} : aftQ l (p, []) = (p, l) := by unfold aftQ; simp
attribute [local irreducible] Rs.rd Rs.by Rs.rv Ps.rd Ps.n Ps.by Sc.rs lstN
theorem lsI_does {s0 s : Rs} (g : Rg s0 s) (m : MsgV) : Sy.Does Tryz.prog 138 (lsC s0 s m 3 [(2, .mv 80 [.loc 0 0])] [] 1 inI encI) := by
 have hn := g.num 1
 rw [by_p] at hn
 refine Sy.does_of Sy.lv138 Sy.tab_ok Tryz.func138 rfl _ Tryz.ntmps138 _ rfl rfl (fun e0 w hpre => ?_)
 ((repeat' first|refine Y ?_|refine Y2 ?_ ?_|refine Y1 fun hh=>?_|exact Y0.mk);(all_goals (try conv => whnf)))
 refine Sy.call_own (u8_does g) Tryz.call128 (YL ?_) (fun e a w' F' h hF' => XD.ok.mono (XD.later h hpre) hF')
 intro _ _ _
 conv => whnf
 rw [by_p]
 ((repeat' first|refine Y ?_|refine Y2 ?_ ?_|refine Y1 fun hh=>?_|exact Y0.mk);(all_goals (try conv => whnf)))
 refine Sy.sem_subF (Sy.sub_row 5 3 1 rfl) ?_
 ((repeat' first|refine Y ?_|refine Y2 ?_ ?_|refine Y1 fun hh=>?_|exact Y0.mk);(all_goals (try conv => whnf)))
 have hL : lstP inI s.p = lstN inI (s.p.n 1).toNat (s.rd 1).p := by rw [rd_p]; rfl
 have hl0 := rd_len s 1
 generalize s.p.n 1 = k at *
 refine Sy.loop_inv Sy.tab_ok (fun q : Nat × Rs × List Int => [(12, .c (.v (.int .i64 q.1))), (5, .c (.row 3))]) (fun q => [(1, .cells 161 [.v (.slice q.2.1.A q.2.1.l.length q.2.1.c), .v (.int .i64 q.2.1.e)]), (3, .row 3 1 q.2.2.length (.vs (q.2.2.map encI)))]) (fun q => q.1 ≤ k.toNat ∧ q.2.2.length = q.1 ∧ Rg s0 q.2.1 ∧ q.2.1.l.length ≤ s.l.length ∧ lstP inI s.p = aftQ q.2.2 (lstN inI (k.toNat - q.1) q.2.1.p)) (fun q => k.toNat - q.1) (0, s.rd 1, []) ⟨Nat.zero_le _, rfl, g.rd 1, hl0, hL⟩ ?_ (fun q hq => ?_)
 ·((repeat' (first|((conv => whnf);done)|((try conv => whnf);first|exact trivial|(refine And.intro ?_ ?_)|rfl|exact fun _ _ _ h=>h|exact fun _ _ _ _=>trivial)));(all_goals (try conv => whnf)))
 obtain ⟨i, u, acc⟩ := q
 obtain ⟨hi, hacc, gu, hl, hq⟩ := hq
 dsimp only at hi hacc gu hl hq ⊢
 by_cases hlt : i < k.toNat
 ·((repeat' first|refine Y ?_|refine Y2 ?_ ?_|refine Y1 fun hh=>?_|exact Y0.mk);(all_goals (try conv => whnf)))
  refine Sy.call_own (err_does u) Tryz.call170 (YL ?_)
  intro _ _ _
  conv => whnf
  by_cases he : u.e = 0
  ·rw [show k.toNat - i = (k.toNat - (i + 1)) + 1 by omega, lst_s (show u.p.e = 0 from he), aftQ_cons] at hq
   ((repeat' first|refine Y ?_|refine Y2 ?_ ?_|refine Y1 fun hh=>?_|exact Y0.mk);(all_goals (try conv => whnf)))
   refine Sy.call_own (small_does gu m) Tryz.call80 (YL ?_) (fun e a w' F' h hF' => XD.ok.mono (XD.later h hpre) hF')
   intro _ _ _
   conv => whnf
   ((repeat' first|refine Y ?_|refine Y2 ?_ ?_|refine Y1 fun hh=>?_|exact Y0.mk);(all_goals (try conv => whnf)))
   refine Sy.need_app 8 rfl ⟨by omega, by omega⟩ ?_
   ((repeat' first|refine Y ?_|refine Y2 ?_ ?_|refine Y1 fun hh=>?_|exact Y0.mk);(all_goals (try conv => whnf)))
   refine ⟨(i + 1, u.rd 1, acc ++ [u.p.n 1]), ⟨by omega, (by rw [List.length_append, hacc]; rfl), gu.rd 1, Nat.le_trans (rd_len u 1) hl, (by rw [hq]; simp only [rd_p]; rfl)⟩, by dsimp only; omega, ?_⟩
   ((repeat' (first|((conv => whnf);done)|((try conv => whnf);first|exact trivial|(refine And.intro ?_ ?_)|rfl|exact fun _ _ _ h=>h|exact fun _ _ _ _=>trivial)));(all_goals (try conv => whnf)))
   all_goals (try simp [encI])
  ·rw [lst_e (.inr (show u.p.e ≠ 0 from he)), aft_nil] at hq
   ((repeat' first|refine Y ?_|refine Y2 ?_ ?_|refine Y1 fun hh=>?_|exact Y0.mk);(all_goals (try conv => whnf)))
   refine fin_freezeg (fun u => .c (.v u)) 3 3 1 _ _ rfl (fun e => rfl) (fun v G hG hv => ?_)
   conv => whnf
   refine Sy.fin_own (u, ⟨v, hv⟩) ⟨by rw [hq], gu, hl⟩ ?_ (lt_v hv) (fun w' hw' => ⟨G, fun b hb => ⟨.inr hb, hG b hb⟩, by unfold lsC; rw [hq]; exact hw'.2.1⟩)
   ((conv => whnf);(refine And.intro ?_ (And.intro ?_ (And.intro ?_ ?_)));(all_goals ((repeat' (first|((conv => whnf);done)|((try conv => whnf);first|exact trivial|(refine And.intro ?_ ?_)|rfl|exact fun _ _ _ h=>h|exact fun _ _ _ _=>trivial)));(all_goals (try conv => whnf)))))
 ·rw [lst_e (.inl (by omega)), aft_nil] at hq
  ((repeat' first|refine Y ?_|refine Y2 ?_ ?_|refine Y1 fun hh=>?_|exact Y0.mk);(all_goals (try conv => whnf)))
  refine fin_freezeg (fun u => .c (.v u)) 3 3 1 _ _ rfl (fun e => rfl) (fun v G hG hv => ?_)
  conv => whnf
  refine Sy.fin_own (u, ⟨v, hv⟩) ⟨by rw [hq], gu, hl⟩ ?_ (lt_v hv) (fun w' hw' => ⟨G, fun b hb => ⟨.inr hb, hG b hb⟩, by unfold lsC; rw [hq]; exact hw'.2.1⟩)
  ((conv => whnf);(refine And.intro ?_ (And.intro ?_ (And.intro ?_ ?_)));(all_goals ((repeat' (first|((conv => whnf);done)|((try conv => whnf);first|exact trivial|(refine And.intro ?_ ?_)|rfl|exact fun _ _ _ h=>h|exact fun _ _ _ _=>trivial)));(all_goals (try conv => whnf)))))
theorem lsP_does {s0 s : Rs} (g : Rg s0 s) (m : MsgV) : Sy.Does Tryz.prog 133 (lsC s0 s m 4 [(2, .fn 134 [.loc 3 0])] [(3, .cells 127 [.loc 0 0])] 2 plP encP) := by
 have hn := g.num 1
 rw [by_p] at hn
 refine Sy.does_of Sy.lv133 Sy.tab_ok Tryz.func133 rfl _ Tryz.ntmps133 _ rfl rfl (fun e0 w hpre => ?_)
 ((repeat' first|refine Y ?_|refine Y2 ?_ ?_|refine Y1 fun hh=>?_|exact Y0.mk);(all_goals (try conv => whnf)))
 refine Sy.call_own (u8_does g) Tryz.call128 (YL ?_) (fun e a w' F' h hF' => XD.ok.mono (XD.later h hpre) hF')
 intro _ _ _
 conv => whnf
 rw [by_p]
 ((repeat' first|refine Y ?_|refine Y2 ?_ ?_|refine Y1 fun hh=>?_|exact Y0.mk);(all_goals (try conv => whnf)))
 refine Sy.sem_subF (Sy.sub_row 5 84 2 rfl) ?_
 ((repeat' first|refine Y ?_|refine Y2 ?_ ?_|refine Y1 fun hh=>?_|exact Y0.mk);(all_goals (try conv => whnf)))
 have hL : lstP plP s.p = lstN plP (s.p.n 1).toNat (s.rd 1).p := by rw [rd_p]; rfl
 have hl0 := rd_len s 1
 generalize s.p.n 1 = k at *
 refine Sy.loop_inv Sy.tab_ok (fun q : Nat × Rs × List Plc => [(12, .c (.v (.int .i64 q.1))), (5, .c (.row 4))]) (fun q => [(1, .cells 161 [.v (.slice q.2.1.A q.2.1.l.length q.2.1.c), .v (.int .i64 q.2.1.e)]), (4, .row 84 2 q.2.2.length (.vs (q.2.2.map encP)))]) (fun q => q.1 ≤ k.toNat ∧ q.2.2.length = q.1 ∧ Rg s0 q.2.1 ∧ q.2.1.l.length ≤ s.l.length ∧ lstP plP s.p = aftQ q.2.2 (lstN plP (k.toNat - q.1) q.2.1.p)) (fun q => k.toNat - q.1) (0, s.rd 1, []) ⟨Nat.zero_le _, rfl, g.rd 1, hl0, hL⟩ ?_ (fun q hq => ?_)
 ·((repeat' (first|((conv => whnf);done)|((try conv => whnf);first|exact trivial|(refine And.intro ?_ ?_)|rfl|exact fun _ _ _ h=>h|exact fun _ _ _ _=>trivial)));(all_goals (try conv => whnf)))
 obtain ⟨i, u, acc⟩ := q
 obtain ⟨hi, hacc, gu, hl, hq⟩ := hq
 dsimp only at hi hacc gu hl hq ⊢
 by_cases hlt : i < k.toNat
 ·((repeat' first|refine Y ?_|refine Y2 ?_ ?_|refine Y1 fun hh=>?_|exact Y0.mk);(all_goals (try conv => whnf)))
  refine Sy.call_own (err_does u) Tryz.call170 (YL ?_)
  intro _ _ _
  conv => whnf
  by_cases he : u.e = 0
  ·rw [show k.toNat - i = (k.toNat - (i + 1)) + 1 by omega, lst_s (show u.p.e = 0 from he), aftQ_cons] at hq
   ((repeat' first|refine Y ?_|refine Y2 ?_ ?_|refine Y1 fun hh=>?_|exact Y0.mk);(all_goals (try conv => whnf)))
   refine Sy.call_in Sy.lv134 Sy.tab_ok Tryz.func134 rfl _ Tryz.ntmps134 Tryz.call134 rfl (fun _ => ?_)
   ((repeat' first|refine Y ?_|refine Y2 ?_ ?_|refine Y1 fun hh=>?_|exact Y0.mk);(all_goals (try conv => whnf)))
   refine Sy.draw_go [1,5] (by kernel_rfl) ?_
   intro e0
   conv => whnf
   refine zt 0 rfl ?_
   conv => whnf
   refine zt 2 rfl ?_
   conv => whnf
   refine zd1 [1] (zx rfl ?_ zy)
   conv => whnf
   refine Sy.call_own (small_does gu m) Tryz.call80 (YL ?_) (fun e a w' F' h hF' => XD.ok.mono (XD.later h hpre) hF')
   intro _ _ _
   conv => whnf
   refine Yk ?_
   refine zd1 [3] (zx rfl ?_ zy)
   conv => whnf
   refine Sy.call_own (small_does (gu.rd 1) m) Tryz.call80 (YL ?_) (fun e a w' F' h hF' => XD.ok.mono (XD.later h hpre) hF')
   intro _ _ _
   conv => whnf
   refine Yk ?_
   refine zt 4 rfl ?_
   conv => whnf
   refine zd1 [5] (zx rfl ?_ zy)
   conv => whnf
   refine Yk ?_
   refine zw ?_
   skip
   ((repeat' first|refine Y ?_|refine Y2 ?_ ?_|refine Y1 fun hh=>?_|exact Y0.mk);(all_goals (try conv => whnf)))
   refine Sy.need_app 16 rfl ⟨by omega, by omega⟩ ?_
   ((repeat' first|refine Y ?_|refine Y2 ?_ ?_|refine Y1 fun hh=>?_|exact Y0.mk);(all_goals (try conv => whnf)))
   refine ⟨(i + 1, (u.rd 1).rd 1, acc ++ [⟨u.p.n 1, (u.rd 1).p.n 1⟩]), ⟨by omega, (by rw [List.length_append, hacc]; rfl), (gu.rd 1).rd 1, Nat.le_trans (rd_len _ 1) (Nat.le_trans (rd_len u 1) hl), (by rw [hq]; simp only [rd_p]; rfl)⟩, by dsimp only; omega, ?_⟩
   ((repeat' (first|((conv => whnf);done)|((try conv => whnf);first|exact trivial|(refine And.intro ?_ ?_)|rfl|exact fun _ _ _ h=>h|exact fun _ _ _ _=>trivial)));(all_goals (try conv => whnf)))
   all_goals (try simp [encP])
  ·rw [lst_e (.inr (show u.p.e ≠ 0 from he)), aft_nil] at hq
   ((repeat' first|refine Y ?_|refine Y2 ?_ ?_|refine Y1 fun hh=>?_|exact Y0.mk);(all_goals (try conv => whnf)))
   refine fin_freezeg (fun u => .c (.v u)) 4 84 2 _ _ rfl (fun e => rfl) (fun v G hG hv => ?_)
   conv => whnf
   refine Sy.fin_own (u, ⟨v, hv⟩) ⟨by rw [hq], gu, hl⟩ ?_ (lt_v hv) (fun w' hw' => ⟨G, fun b hb => ⟨.inr hb, hG b hb⟩, by unfold lsC; rw [hq]; exact hw'.2.1⟩)
   ((conv => whnf);(refine And.intro ?_ (And.intro ?_ (And.intro ?_ ?_)));(all_goals ((repeat' (first|((conv => whnf);done)|((try conv => whnf);first|exact trivial|(refine And.intro ?_ ?_)|rfl|exact fun _ _ _ h=>h|exact fun _ _ _ _=>trivial)));(all_goals (try conv => whnf)))))
 ·rw [lst_e (.inl (by omega)), aft_nil] at hq
  ((repeat' first|refine Y ?_|refine Y2 ?_ ?_|refine Y1 fun hh=>?_|exact Y0.mk);(all_goals (try conv => whnf)))
  refine fin_freezeg (fun u => .c (.v u)) 4 84 2 _ _ rfl (fun e => rfl) (fun v G hG hv => ?_)
  conv => whnf
  refine Sy.fin_own (u, ⟨v, hv⟩) ⟨by rw [hq], gu, hl⟩ ?_ (lt_v hv) (fun w' hw' => ⟨G, fun b hb => ⟨.inr hb, hG b hb⟩, by unfold lsC; rw [hq]; exact hw'.2.1⟩)
  ((conv => whnf);(refine And.intro ?_ (And.intro ?_ (And.intro ?_ ?_)));(all_goals ((repeat' (first|((conv => whnf);done)|((try conv => whnf);first|exact trivial|(refine And.intro ?_ ?_)|rfl|exact fun _ _ _ h=>h|exact fun _ _ _ _=>trivial)));(all_goals (try conv => whnf)))))
theorem lsT_does {s0 s : Rs} (g : Rg s0 s) (m : MsgV) : Sy.Does Tryz.prog 136 (lsC s0 s m 4 [(2, .fn 137 [.loc 3 0])] [(3, .cells 127 [.loc 0 0])] 3 txP Sn.encT) := by
 have hn := g.num 1
 rw [by_p] at hn
 refine Sy.does_of Sy.lv136 Sy.tab_ok Tryz.func136 rfl _ Tryz.ntmps136 _ rfl rfl (fun e0 w hpre => ?_)
 ((repeat' first|refine Y ?_|refine Y2 ?_ ?_|refine Y1 fun hh=>?_|exact Y0.mk);(all_goals (try conv => whnf)))
 refine Sy.call_own (u8_does g) Tryz.call128 (YL ?_) (fun e a w' F' h hF' => XD.ok.mono (XD.later h hpre) hF')
 intro _ _ _
 conv => whnf
 rw [by_p]
 ((repeat' first|refine Y ?_|refine Y2 ?_ ?_|refine Y1 fun hh=>?_|exact Y0.mk);(all_goals (try conv => whnf)))
 refine Sy.sem_subF (Sy.sub_row 5 88 3 rfl) ?_
 ((repeat' first|refine Y ?_|refine Y2 ?_ ?_|refine Y1 fun hh=>?_|exact Y0.mk);(all_goals (try conv => whnf)))
 have hL : lstP txP s.p = lstN txP (s.p.n 1).toNat (s.rd 1).p := by rw [rd_p]; rfl
 have hl0 := rd_len s 1
 generalize s.p.n 1 = k at *
 refine Sy.loop_inv Sy.tab_ok (fun q : Nat × Rs × List Sn.Tx => [(12, .c (.v (.int .i64 q.1))), (5, .c (.row 4))]) (fun q => [(1, .cells 161 [.v (.slice q.2.1.A q.2.1.l.length q.2.1.c), .v (.int .i64 q.2.1.e)]), (4, .row 88 3 q.2.2.length (.vs (q.2.2.map Sn.encT)))]) (fun q => q.1 ≤ k.toNat ∧ q.2.2.length = q.1 ∧ Rg s0 q.2.1 ∧ q.2.1.l.length ≤ s.l.length ∧ lstP txP s.p = aftQ q.2.2 (lstN txP (k.toNat - q.1) q.2.1.p)) (fun q => k.toNat - q.1) (0, s.rd 1, []) ⟨Nat.zero_le _, rfl, g.rd 1, hl0, hL⟩ ?_ (fun q hq => ?_)
 ·((repeat' (first|((conv => whnf);done)|((try conv => whnf);first|exact trivial|(refine And.intro ?_ ?_)|rfl|exact fun _ _ _ h=>h|exact fun _ _ _ _=>trivial)));(all_goals (try conv => whnf)))
 obtain ⟨i, u, acc⟩ := q
 obtain ⟨hi, hacc, gu, hl, hq⟩ := hq
 dsimp only at hi hacc gu hl hq ⊢
 by_cases hlt : i < k.toNat
 ·((repeat' first|refine Y ?_|refine Y2 ?_ ?_|refine Y1 fun hh=>?_|exact Y0.mk);(all_goals (try conv => whnf)))
  refine Sy.call_own (err_does u) Tryz.call170 (YL ?_)
  intro _ _ _
  conv => whnf
  by_cases he : u.e = 0
  ·rw [show k.toNat - i = (k.toNat - (i + 1)) + 1 by omega, lst_s (show u.p.e = 0 from he), aftQ_cons] at hq
   ((repeat' first|refine Y ?_|refine Y2 ?_ ?_|refine Y1 fun hh=>?_|exact Y0.mk);(all_goals (try conv => whnf)))
   refine Sy.call_in Sy.lv137 Sy.tab_ok Tryz.func137 rfl _ Tryz.ntmps137 Tryz.call137 rfl (fun _ => ?_)
   ((repeat' first|refine Y ?_|refine Y2 ?_ ?_|refine Y1 fun hh=>?_|exact Y0.mk);(all_goals (try conv => whnf)))
   have h1 := (gu.rd 1).num 4
   have h2 := ((gu.rd 1).rd 4).num 4
   rw [by_p] at h1 h2
   refine Sy.draw_go [1,5] (by kernel_rfl) ?_
   intro e0
   conv => whnf
   refine zt 0 rfl ?_
   conv => whnf
   refine zt 2 rfl ?_
   conv => whnf
   refine zt 3 rfl ?_
   conv => whnf
   refine zt 4 rfl ?_
   conv => whnf
   refine zt 5 rfl ?_
   conv => whnf
   refine zt 8 rfl ?_
   conv => whnf
   refine zt 9 rfl ?_
   conv => whnf
   refine zt 10 rfl ?_
   conv => whnf
   refine zt 11 rfl ?_
   conv => whnf
   refine zd1 [1] (zx rfl ?_ zy)
   conv => whnf
   refine Sy.call_own (small_does gu m) Tryz.call80 (YL ?_) (fun e a w' F' h hF' => XD.ok.mono (XD.later h hpre) hF')
   intro _ _ _
   conv => whnf
   refine Yk ?_
   refine zd1 [6] (zx rfl ?_ zy)
   conv => whnf
   refine Sy.call_own (u32_does (gu.rd 1)) Tryz.call78 (YL ?_) (fun e a w' F' h hF' => XD.ok.mono (XD.later h hpre) hF')
   intro _ _ _
   conv => whnf
   rw [by_p]
   refine Yk ?_
   refine zt 7 rfl ?_
   ((repeat' first|refine Y ?_|refine Y2 ?_ ?_|refine Y1 fun hh=>?_|exact Y0.mk);(all_goals (try conv => whnf)))
   refine zd1 [12] (zx rfl ?_ zy)
   conv => whnf
   refine Sy.call_own (u32_does ((gu.rd 1).rd 4)) Tryz.call78 (YL ?_) (fun e a w' F' h hF' => XD.ok.mono (XD.later h hpre) hF')
   intro _ _ _
   conv => whnf
   rw [by_p]
   refine Yk ?_
   refine zt 13 rfl ?_
   ((repeat' first|refine Y ?_|refine Y2 ?_ ?_|refine Y1 fun hh=>?_|exact Y0.mk);(all_goals (try conv => whnf)))
   refine zt 14 rfl ?_
   conv => whnf
   refine zd1 [15] (zx rfl ?_ zy)
   conv => whnf
   refine Yk ?_
   refine zw ?_
   skip
   ((repeat' first|refine Y ?_|refine Y2 ?_ ?_|refine Y1 fun hh=>?_|exact Y0.mk);(all_goals (try conv => whnf)))
   refine Sy.need_app 24 rfl ⟨by omega, by omega⟩ ?_
   ((repeat' first|refine Y ?_|refine Y2 ?_ ?_|refine Y1 fun hh=>?_|exact Y0.mk);(all_goals (try conv => whnf)))
   refine ⟨(i + 1, ((u.rd 1).rd 4).rd 4, acc ++ [⟨u.p.n 1, (u.rd 1).p.n 4, ((u.rd 1).rd 4).p.n 4⟩]), ⟨by omega, (by rw [List.length_append, hacc]; rfl), ((gu.rd 1).rd 4).rd 4, Nat.le_trans (rd_len _ 4) (Nat.le_trans (rd_len _ 4) (Nat.le_trans (rd_len u 1) hl)), (by rw [hq]; simp only [rd_p]; rfl)⟩, by dsimp only; omega, ?_⟩
   ((repeat' (first|((conv => whnf);done)|((try conv => whnf);first|exact trivial|(refine And.intro ?_ ?_)|rfl|exact fun _ _ _ h=>h|exact fun _ _ _ _=>trivial)));(all_goals (try conv => whnf)))
   all_goals (try simp [Sn.encT])
  ·rw [lst_e (.inr (show u.p.e ≠ 0 from he)), aft_nil] at hq
   ((repeat' first|refine Y ?_|refine Y2 ?_ ?_|refine Y1 fun hh=>?_|exact Y0.mk);(all_goals (try conv => whnf)))
   refine fin_freezeg (fun u => .c (.v u)) 4 88 3 _ _ rfl (fun e => rfl) (fun v G hG hv => ?_)
   conv => whnf
   refine Sy.fin_own (u, ⟨v, hv⟩) ⟨by rw [hq], gu, hl⟩ ?_ (lt_v hv) (fun w' hw' => ⟨G, fun b hb => ⟨.inr hb, hG b hb⟩, by unfold lsC; rw [hq]; exact hw'.2.1⟩)
   ((conv => whnf);(refine And.intro ?_ (And.intro ?_ (And.intro ?_ ?_)));(all_goals ((repeat' (first|((conv => whnf);done)|((try conv => whnf);first|exact trivial|(refine And.intro ?_ ?_)|rfl|exact fun _ _ _ h=>h|exact fun _ _ _ _=>trivial)));(all_goals (try conv => whnf)))))
 ·rw [lst_e (.inl (by omega)), aft_nil] at hq
  ((repeat' first|refine Y ?_|refine Y2 ?_ ?_|refine Y1 fun hh=>?_|exact Y0.mk);(all_goals (try conv => whnf)))
  refine fin_freezeg (fun u => .c (.v u)) 4 88 3 _ _ rfl (fun e => rfl) (fun v G hG hv => ?_)
  conv => whnf
  refine Sy.fin_own (u, ⟨v, hv⟩) ⟨by rw [hq], gu, hl⟩ ?_ (lt_v hv) (fun w' hw' => ⟨G, fun b hb => ⟨.inr hb, hG b hb⟩, by unfold lsC; rw [hq]; exact hw'.2.1⟩)
  ((conv => whnf);(refine And.intro ?_ (And.intro ?_ (And.intro ?_ ?_)));(all_goals ((repeat' (first|((conv => whnf);done)|((try conv => whnf);first|exact trivial|(refine And.intro ?_ ?_)|rfl|exact fun _ _ _ h=>h|exact fun _ _ _ _=>trivial)));(all_goals (try conv => whnf)))))
end Go.Proofs.YtgkkpefpbfadoaaGreat
