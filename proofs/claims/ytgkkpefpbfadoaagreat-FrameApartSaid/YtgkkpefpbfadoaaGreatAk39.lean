/- Frame: record.Decode. -/
import Derived.Test.YtgkkpefpbfadoaaGreatAk38
namespace Go.Proofs.YtgkkpefpbfadoaaGreat
open Go Go.RowKit
open Sy (C SV V1 Blk St XD Els)
set_option maxRecDepth 10000
theorem rd_len (s : Rs) (k : Nat) : (s.rd k).l.length ≤ s.l.length := by
 unfold Rs.rd
 split
 ·exact Nat.le_refl _
 ·split
  ·exact Nat.le_refl _
  ·(rw [List.length_drop]; exact Nat.sub_le _ _)
theorem len_b (l : List Int) : ((l.length : Int) == 0) = decide (l.length = 0) := by
 rw [Bool.eq_iff_iff, beq_iff_eq, decide_eq_true_eq]; omega
def needP (p : Ps) (w : Int) (ok : Bool) : Int := if w ≠ 0 then w else if p.e ≠ 0 then 7 else if ok = true then 0 else 151
def elP (k : Int) (p : Ps) (w : Int) : Ps × Int × Elm :=
 if k = 1 then (((p.rd 1).rd 1).rd 8, needP ((p.rd 1).rd 1) (needP (p.rd 1) w (decide (p.n 1 < 8))) (decide ((p.rd 1).n 1 < 32)), ⟨1, ⟨p.n 1, (p.rd 1).n 1, IntKind.i64.wrap (((p.rd 1).rd 1).n 8)⟩, 0⟩)
 else if k = 2 then (p.rd 8, needP (p.rd 8) w (decide (numP (p.n 8))), ⟨2, ⟨0, 0, 0⟩, p.n 8⟩)
 else (p, w, ⟨3, ⟨0, 0, 0⟩, 0⟩)
def consR (x : Elm) (r : Ps × Int × List Elm) : Ps × Int × List Elm := (r.1, r.2.1, x :: r.2.2)
def recL : Nat → Ps → Int → Ps × Int × List Elm
 | 0, p, w => (p, w, [])
 |n + 1, p, w => if needP (p.rd 1) w (decide (1 ≤ p.n 1 ∧ p.n 1 ≤ 3)) ≠ 0 then (p.rd 1, needP (p.rd 1) w (decide (1 ≤ p.n 1 ∧ p.n 1 ≤ 3)), []) else
  consR (elP (p.n 1) (p.rd 1) 0).2.2 (recL n (elP (p.n 1) (p.rd 1) 0).1 (needP (elP (p.n 1) (p.rd 1) 0).1 (elP (p.n 1) (p.rd 1) 0).2.1 true))
def aft (acc : List Elm) (r : Ps × Int × List Elm) : Ps × Int × List Elm := (r.1, r.2.1, acc ++ r.2.2)
def recE (r : Ps × Int × List Elm) : List Elm × Int := if needP r.1 r.2.1 (decide (r.1.l.length = 0)) ≠ 0 then ([], needP r.1 r.2.1 (decide (r.1.l.length = 0))) else (r.2.2, 0)
def recD (p : Ps) : List Elm × Int := if 200 < p.n 1 then ([], 3) else recE (recL (p.n 1).toNat (p.rd 1) (needP (p.rd 1) 0 true))
theorem aft_cons (acc : List Elm) (x : Elm) (r : Ps × Int × List Elm) : aft acc (consR x r) = aft (acc ++ [x]) r := by unfold aft consR; simp
theorem need0 {p : Ps} {w : Int} {ok : Bool} (h : needP p w ok = 0) : w = 0 ∧ p.e = 0 ∧ ok = true := by
 unfold needP at h
 by_cases h1 : w = 0
 ·rw [if_neg (by omega)] at h
  by_cases h2 : p.e = 0
  ·rw [if_neg (by omega)] at h
   cases ok
   ·simp at h
   ·exact ⟨h1, h2, rfl⟩
  ·rw [if_pos h2] at h; cases h
 ·rw [if_pos h1] at h; exact absurd h h1
def rcH (s : Rs) (w : Int) : List (Nat × Blk) := [(0, .cells 212 [.loc 1 0, .v (.int .i64 w)]), (1, .cells 161 [.v (.slice s.A s.l.length s.c), .v (.int .i64 s.e)])]
theorem need_does (s : Rs) (w : Int) (ok : Bool) : Sy.Does Tryz.prog 173 { avs := [.c (.loc 0 0), .c (.v (.bool ok))], n0 := 2, H0 := rcH s w, sv := fun _ : Unit => .tup [], n1 := fun _ => 2, H1 := fun _ => rcH s (needP s.p w ok) } := by
 refine Sy.does_of Sy.lv173 Sy.tab_ok Tryz.func173 rfl _ Tryz.ntmps173 _ rfl rfl (fun e0 w hpre => ?_)
 ((repeat' first|refine Y ?_|refine Y2 ?_ ?_|refine Y1 fun hh=>?_|exact Y0.mk);(all_goals (try conv => whnf)))
 ·refine Sy.call_own (err_does s) Tryz.call170 ?_
  ((conv => whnf);(refine And.intro ?_ (And.intro ?_ (And.intro ?_ (And.intro ?_ ?_))));(all_goals ((repeat' (first|((conv => whnf);done)|((try conv => whnf);first|exact trivial|(refine And.intro ?_ ?_)|rfl|exact fun _ _ _ h=>h|exact fun _ _ _ _=>trivial)));(all_goals (try conv => whnf))));rotate_right)
  intro _ _ _
  conv => whnf
  ((repeat' first|refine Y ?_|refine Y2 ?_ ?_|refine Y1 fun hh=>?_|exact Y0.mk);(all_goals (try conv => whnf)))
  all_goals (refine Sy.fin_own () trivial ?_; ((conv => whnf);(refine And.intro ?_ (And.intro ?_ (And.intro ?_ ?_)));(all_goals ((repeat' (first|((conv => whnf);done)|((try conv => whnf);first|exact trivial|(refine And.intro ?_ ?_)|rfl|exact fun _ _ _ h=>h|exact fun _ _ _ _=>trivial)));(all_goals (try conv => whnf))))))
  all_goals (unfold needP Rs.p; simp_all)
 ·refine Sy.fin_own () trivial ?_
  ((conv => whnf);(refine And.intro ?_ (And.intro ?_ (And.intro ?_ ?_)));(all_goals ((repeat' (first|((conv => whnf);done)|((try conv => whnf);first|exact trivial|(refine And.intro ?_ ?_)|rfl|exact fun _ _ _ h=>h|exact fun _ _ _ _=>trivial)));(all_goals (try conv => whnf)))))
  unfold needP
  simp_all
attribute [local irreducible] Rs.rd Rs.by Rs.rv needP Ps.rd Ps.n Sc.rs
set_option maxHeartbeats 4000000 in
theorem rec_any (v : Value) (b : List Int) (w : World) (hr : XD.ok (fun x => x < w.heap.size) w ⟨v, 1, b.length, b.map encB⟩) (b8 : Sn.bytesOk b) (hb : b.length ≤ 100000) :
  Calls Tryz.prog 139 #[v] w (Sy.RetRows Sy.noRow (fun _ : Unit => True) (fun _ => [⟨45, 5, (recD ⟨b, 0⟩).1.length, (recD ⟨b, 0⟩).1.map encE⟩]) (fun _ vs => .tuple #[vs.headD undef, .int .i64 (recD ⟨b, 0⟩).2]) w) := by
 refine Sy.calls_of Sy.lv139 Sy.tab_ok Tryz.func139 rfl _ Tryz.ntmps139 [] [.c (.v v)] rfl (one_arg (Sy.ReadsE.one hr.1)) rfl trivial ?_
 ((repeat' first|refine Y ?_|refine Y2 ?_ ?_|refine Y1 fun hh=>?_|exact Y0.mk);(all_goals (try conv => whnf)))
 refine Sy.call_own (read_does v b (Sy.ReadsE.one hr.1) (by omega)) Tryz.call77 ?_ (fun e a w' F' h hF' => (XD.later h (XD.ok.mono hr fun b hb => ⟨hb, fun h => h⟩)).mono hF') (fun _ x G G' w w' h hG hk => XD.ok.keep h hG hk)
 ((conv => whnf);(refine And.intro ?_ (And.intro ?_ (And.intro ?_ (And.intro ?_ ?_))));(all_goals ((repeat' (first|((conv => whnf);done)|((try conv => whnf);first|exact trivial|(refine And.intro ?_ ?_)|rfl|exact fun _ _ _ h=>h|exact fun _ _ _ _=>trivial)));(all_goals (try conv => whnf))));rotate_right)
 intro x _ G
 conv => whnf
 have p0 : (x.rs b).p = ⟨b, 0⟩ := by unfold Sc.rs; rfl
 have g := x.rg b8
 ((repeat' first|refine Y ?_|refine Y2 ?_ ?_|refine Y1 fun hh=>?_|exact Y0.mk);(all_goals (try conv => whnf)))
 refine Sy.call_own (u8_does g) Tryz.call128 (YL ?_) (fun e a w' F' h hF' => XD.ok.mono (h.ev w' fun _ _ => rfl).2.2 hF')
 intro _ _ _
 conv => whnf
 ((repeat' first|refine Y ?_|refine Y2 ?_ ?_|refine Y1 fun hh=>?_|exact Y0.mk);(all_goals (try conv => whnf)))
 have hn := g.num 1
 rw [by_p, p0] at hn
 rw [by_p, p0]
 generalize hk : (⟨b, 0⟩ : Ps).n 1 = k at *
 refine Sy.ar_in (by omega) ?_
 ((repeat' first|refine Y ?_|refine Y2 ?_ ?_|refine Y1 fun hh=>?_|exact Y0.mk);(all_goals (try conv => whnf)))
 ·have hD : recD ⟨b, 0⟩ = ([], 3) := by unfold recD; rw [hk]; exact if_pos (by omega)
  rw [hD]
  exact Sy.fin_r1 (.v (.slice none 0 0)) ⟨rfl, rfl⟩ (fun e => rfl)
 refine Sy.call_own (need_does ((x.rs b).rd 1) 0 true) Tryz.call173 (YL ?_)
 intro _ _ _
 conv => whnf
 ((repeat' first|refine Y ?_|refine Y2 ?_ ?_|refine Y1 fun hh=>?_|exact Y0.mk);(all_goals (try conv => whnf)))
 refine Sy.findC_int [] 1 none rfl ?_
 ((repeat' first|refine Y ?_|refine Y2 ?_ ?_|refine Y1 fun hh=>?_|exact Y0.mk);(all_goals (try conv => whnf)))
 refine Sy.findC_int [1] 2 none rfl ?_
 ((repeat' first|refine Y ?_|refine Y2 ?_ ?_|refine Y1 fun hh=>?_|exact Y0.mk);(all_goals (try conv => whnf)))
 refine Sy.findC_int [1, 2] 3 none rfl ?_
 ((repeat' first|refine Y ?_|refine Y2 ?_ ?_|refine Y1 fun hh=>?_|exact Y0.mk);(all_goals (try conv => whnf)))
 refine Sy.sem_subF (Sy.sub_row 7 45 5 rfl) ?_
 ((repeat' first|refine Y ?_|refine Y2 ?_ ?_|refine Y1 fun hh=>?_|exact Y0.mk);(all_goals (try conv => whnf)))
 have hD : recD ⟨b, 0⟩ = recE (recL k.toNat ((x.rs b).rd 1).p (needP ((x.rs b).rd 1).p 0 true)) := by unfold recD; rw [hk, rd_p, p0]; exact if_neg (by omega)
 refine Sy.loop_inv Sy.tab_ok (fun q : Nat × Rs × Int × List Elm => [(35, .c (.v (.int .i64 q.1))), (7, .c (.row 6))]) (fun q => [(0, .cells 161 [.v (.slice q.2.1.A q.2.1.l.length q.2.1.c), .v (.int .i64 q.2.1.e)]), (1, .cells 212 [.loc 0 0, .v (.int .i64 q.2.2.1)]), (6, .row 45 5 q.2.2.2.length (.vs (q.2.2.2.map encE)))]) (fun q => q.1 ≤ k.toNat ∧ q.2.2.2.length = q.1 ∧ Rg (x.rs b) q.2.1 ∧ q.2.1.l.length ≤ b.length ∧ recD ⟨b, 0⟩ = recE (aft q.2.2.2 (recL (k.toNat - q.1) q.2.1.p q.2.2.1))) (fun q => k.toNat - q.1) (0, (x.rs b).rd 1, needP ((x.rs b).rd 1).p 0 true, []) ⟨Nat.zero_le _, rfl, g.rd 1, (by have := (rd_len (x.rs b) 1); rw [show (x.rs b).l = b by unfold Sc.rs; rfl] at this; exact this), hD⟩ ?_ (fun q hq => ?_)
 ·((repeat' (first|((conv => whnf);done)|((try conv => whnf);first|exact trivial|(refine And.intro ?_ ?_)|rfl|exact fun _ _ _ h=>h|exact fun _ _ _ _=>trivial)));(all_goals (try conv => whnf)))
 obtain ⟨i, s, u, acc⟩ := q
 obtain ⟨hi, hacc, gs, hl, hq⟩ := hq
 dsimp only at hi hacc gs hl hq ⊢
 by_cases hlt : i < k.toNat
 ·rw [show k.toNat - i = (k.toNat - (i + 1)) + 1 by omega] at hq
  have hn2 := gs.num 1
  ((repeat' first|refine Y ?_|refine Y2 ?_ ?_|refine Y1 fun hh=>?_|exact Y0.mk);(all_goals (try conv => whnf)))
  refine Sy.call_own (u8_does gs) Tryz.call128 (YL ?_) (fun e a w' F' h hF' => XD.ok.mono (h.ev w' fun _ _ => rfl).2.2 hF')
  intro _ _ _
  conv => whnf
  rw [by_p] at hn2 ⊢
  generalize hc : s.p.n 1 = c at *
  refine Sy.ar_in (by omega) ?_
  ((repeat' first|refine Y ?_|refine Y2 ?_ ?_|refine Y1 fun hh=>?_|exact Y0.mk);(all_goals (try conv => whnf)))
  have hs1 : (s.rd 1).p = s.p.rd 1 := rd_p s 1
  have gs1 := gs.rd 1
  have s1l := Nat.le_trans (rd_len s 1) hl
  generalize s.rd 1 = s1 at *
  rw [recL, hc] at hq
  have hb1 : s1.l.length ≤ b.length := s1l
  obtain ⟨t, ht⟩ : ∃ t, t = decide (1 ≤ c ∧ c ≤ 3) := ⟨_, rfl⟩
  rw [← ht, ← hs1] at hq
  obtain ⟨r, hr⟩ : ∃ r, r = needP s1.p u t := ⟨_, rfl⟩
  rw [← hr] at hq
  by_cases h0 : r = 0
  ·obtain ⟨rfl, _, ht1⟩ := need0 (hr.symm.trans h0)
   have hin : 1 ≤ c ∧ c ≤ 3 := of_decide_eq_true (ht.symm.trans ht1)
   subst h0
   rw [if_neg (fun h => h rfl), aft_cons] at hq
   clear ht
   subst ht1
   obtain rfl | rfl | rfl : c = 1 ∨ c = 2 ∨ c = 3 := by omega
   ·rw [show elP 1 s1.p 0 = (((s1.p.rd 1).rd 1).rd 8, needP ((s1.p.rd 1).rd 1) (needP (s1.p.rd 1) 0 (decide (s1.p.n 1 < 8))) (decide ((s1.p.rd 1).n 1 < 32)), ⟨1, ⟨s1.p.n 1, (s1.p.rd 1).n 1, IntKind.i64.wrap (((s1.p.rd 1).rd 1).n 8)⟩, 0⟩) from rfl] at hq
    refine Sy.findC_int [1, 2, 3] 1 (some 0) rfl ?_
    ((repeat' first|refine Y ?_|refine Y2 ?_ ?_|refine Y1 fun hh=>?_|exact Y0.mk);(all_goals (try conv => whnf)))
    refine Sy.call_own (need_does s1 0 true) Tryz.call173 (YL ?_)
    intro _ _ _
    conv => whnf
    rw [← hr]
    ((repeat' first|refine Y ?_|refine Y2 ?_ ?_|refine Y1 fun hh=>?_|exact Y0.mk);(all_goals (try conv => whnf)))
    refine Sy.call_in Sy.lv174 Sy.tab_ok Tryz.func174 rfl _ Tryz.ntmps174 Tryz.call174 rfl (fun _ => ?_)
    ((repeat' first|refine Y ?_|refine Y2 ?_ ?_|refine Y1 fun hh=>?_|exact Y0.mk);(all_goals (try conv => whnf)))
    have n1 := gs1.num 1
    have n2 := (gs1.rd 1).num 1
    rw [by_p] at n1 n2
    refine Sy.call_own (u8_does gs1) Tryz.call128 (YL ?_) (fun e a w' F' h hF' => XD.ok.mono (h.ev w' fun _ _ => rfl).2.2 hF')
    intro _ _ _
    conv => whnf
    rw [by_p]
    ((repeat' first|refine Y ?_|refine Y2 ?_ ?_|refine Y1 fun hh=>?_|exact Y0.mk);(all_goals (try conv => whnf)))
    refine Sy.call_own (need_does (s1.rd 1) 0 (decide (s1.p.n 1 < 8))) Tryz.call173 (YL ?_)
    intro _ _ _
    conv => whnf
    ((repeat' first|refine Y ?_|refine Y2 ?_ ?_|refine Y1 fun hh=>?_|exact Y0.mk);(all_goals (try conv => whnf)))
    refine Sy.call_own (u8_does (gs1.rd 1)) Tryz.call128 (YL ?_) (fun e a w' F' h hF' => XD.ok.mono (h.ev w' fun _ _ => rfl).2.2 hF')
    intro _ _ _
    conv => whnf
    rw [by_p]
    ((repeat' first|refine Y ?_|refine Y2 ?_ ?_|refine Y1 fun hh=>?_|exact Y0.mk);(all_goals (try conv => whnf)))
    refine Sy.call_own (need_does ((s1.rd 1).rd 1) (needP (s1.rd 1).p 0 (decide (s1.p.n 1 < 8))) (decide ((s1.rd 1).p.n 1 < 32))) Tryz.call173 (YL ?_)
    intro _ _ _
    conv => whnf
    ((repeat' first|refine Y ?_|refine Y2 ?_ ?_|refine Y1 fun hh=>?_|exact Y0.mk);(all_goals (try conv => whnf)))
    refine Sy.call_own (u64_does ((gs1.rd 1).rd 1)) Tryz.call81 (YL ?_) (fun e a w' F' h hF' => XD.ok.mono (h.ev w' fun _ _ => rfl).2.2 hF')
    intro _ _ _
    conv => whnf
    rw [by_p]
    ((repeat' first|refine Y ?_|refine Y2 ?_ ?_|refine Y1 fun hh=>?_|exact Y0.mk);(all_goals (try conv => whnf)))
    refine Sy.ar_wrap ?_
    ((repeat' first|refine Y ?_|refine Y2 ?_ ?_|refine Y1 fun hh=>?_|exact Y0.mk);(all_goals (try conv => whnf)))
    refine Sy.call_own (need_does (((s1.rd 1).rd 1).rd 8) (needP ((s1.rd 1).rd 1).p (needP (s1.rd 1).p 0 (decide (s1.p.n 1 < 8))) (decide ((s1.rd 1).p.n 1 < 32))) true) Tryz.call173 (YL ?_)
    intro _ _ _
    conv => whnf
    ((repeat' first|refine Y ?_|refine Y2 ?_ ?_|refine Y1 fun hh=>?_|exact Y0.mk);(all_goals (try conv => whnf)))
    refine Sy.need_app 40 rfl ⟨by omega, by omega⟩ ?_
    ((repeat' first|refine Y ?_|refine Y2 ?_ ?_|refine Y1 fun hh=>?_|exact Y0.mk);(all_goals (try conv => whnf)))
    refine ⟨(i + 1, ((s1.rd 1).rd 1).rd 8, needP (((s1.rd 1).rd 1).rd 8).p (needP ((s1.rd 1).rd 1).p (needP (s1.rd 1).p 0 (decide (s1.p.n 1 < 8))) (decide ((s1.rd 1).p.n 1 < 32))) true, acc ++ [⟨1, ⟨s1.p.n 1, (s1.rd 1).p.n 1, IntKind.i64.wrap (((s1.rd 1).rd 1).p.n 8)⟩, 0⟩]), ⟨by omega, (by rw [List.length_append, hacc]; rfl), ((gs1.rd 1).rd 1).rd 8, (Nat.le_trans (rd_len _ _) (Nat.le_trans (rd_len _ _) (Nat.le_trans (rd_len _ _) s1l))), (by simp only [rd_p] at hq ⊢; exact hq)⟩, by dsimp only; omega, ?_⟩
    ((repeat' (first|((conv => whnf);done)|((try conv => whnf);first|exact trivial|(refine And.intro ?_ ?_)|rfl|exact fun _ _ _ h=>h|exact fun _ _ _ _=>trivial)));(all_goals (try conv => whnf)))
    all_goals (try simp [encE])
   ·rw [show elP 2 s1.p 0 = (s1.p.rd 8, needP (s1.p.rd 8) 0 (decide (numP (s1.p.n 8))), ⟨2, ⟨0, 0, 0⟩, s1.p.n 8⟩) from rfl] at hq
    refine Sy.findC_int [1, 2, 3] 2 (some 1) rfl ?_
    ((repeat' first|refine Y ?_|refine Y2 ?_ ?_|refine Y1 fun hh=>?_|exact Y0.mk);(all_goals (try conv => whnf)))
    refine Sy.call_own (need_does s1 0 true) Tryz.call173 (YL ?_)
    intro _ _ _
    conv => whnf
    rw [← hr]
    ((repeat' first|refine Y ?_|refine Y2 ?_ ?_|refine Y1 fun hh=>?_|exact Y0.mk);(all_goals (try conv => whnf)))
    refine Sy.call_in Sy.lv175 Sy.tab_ok Tryz.func175 rfl _ Tryz.ntmps175 Tryz.call175 rfl (fun _ => ?_)
    ((repeat' first|refine Y ?_|refine Y2 ?_ ?_|refine Y1 fun hh=>?_|exact Y0.mk);(all_goals (try conv => whnf)))
    refine Sy.call_own (u64_does gs1) Tryz.call81 (YL ?_) (fun e a w' F' h hF' => XD.ok.mono (h.ev w' fun _ _ => rfl).2.2 hF')
    intro _ _ _
    conv => whnf
    rw [by_p]
    ((repeat' first|refine Y ?_|refine Y2 ?_ ?_|refine Y1 fun hh=>?_|exact Y0.mk);(all_goals (try conv => whnf)))
    refine Sy.call_val (.c (.v (.bool (decide (numP (s1.p.n 8)))))) Tryz.call194 rfl (fun e a w' h => number_rec (s1.p.n 8) w') ?_
    ((repeat' first|refine Y ?_|refine Y2 ?_ ?_|refine Y1 fun hh=>?_|exact Y0.mk);(all_goals (try conv => whnf)))
    refine Sy.call_own (need_does (s1.rd 8) 0 (decide (numP (s1.p.n 8)))) Tryz.call173 (YL ?_)
    intro _ _ _
    conv => whnf
    ((repeat' first|refine Y ?_|refine Y2 ?_ ?_|refine Y1 fun hh=>?_|exact Y0.mk);(all_goals (try conv => whnf)))
    refine Sy.call_own (need_does (s1.rd 8) (needP (s1.rd 8).p 0 (decide (numP (s1.p.n 8)))) true) Tryz.call173 (YL ?_)
    intro _ _ _
    conv => whnf
    ((repeat' first|refine Y ?_|refine Y2 ?_ ?_|refine Y1 fun hh=>?_|exact Y0.mk);(all_goals (try conv => whnf)))
    refine Sy.need_app 40 rfl ⟨by omega, by omega⟩ ?_
    ((repeat' first|refine Y ?_|refine Y2 ?_ ?_|refine Y1 fun hh=>?_|exact Y0.mk);(all_goals (try conv => whnf)))
    refine ⟨(i + 1, s1.rd 8, needP (s1.rd 8).p (needP (s1.rd 8).p 0 (decide (numP (s1.p.n 8)))) true, acc ++ [⟨2, ⟨0, 0, 0⟩, s1.p.n 8⟩]), ⟨by omega, (by rw [List.length_append, hacc]; rfl), gs1.rd 8, (Nat.le_trans (rd_len _ _) s1l), (by simp only [rd_p] at hq ⊢; exact hq)⟩, by dsimp only; omega, ?_⟩
    ((repeat' (first|((conv => whnf);done)|((try conv => whnf);first|exact trivial|(refine And.intro ?_ ?_)|rfl|exact fun _ _ _ h=>h|exact fun _ _ _ _=>trivial)));(all_goals (try conv => whnf)))
    all_goals (try simp [encE])
   ·rw [show elP 3 s1.p 0 = (s1.p, 0, ⟨3, ⟨0, 0, 0⟩, 0⟩) from rfl] at hq
    refine Sy.findC_int [1, 2, 3] 3 (some 2) rfl ?_
    ((repeat' first|refine Y ?_|refine Y2 ?_ ?_|refine Y1 fun hh=>?_|exact Y0.mk);(all_goals (try conv => whnf)))
    refine Sy.call_own (need_does s1 0 true) Tryz.call173 (YL ?_)
    intro _ _ _
    conv => whnf
    rw [← hr]
    ((repeat' first|refine Y ?_|refine Y2 ?_ ?_|refine Y1 fun hh=>?_|exact Y0.mk);(all_goals (try conv => whnf)))
    refine Sy.call_in Sy.lv176 Sy.tab_ok Tryz.func176 rfl _ Tryz.ntmps176 Tryz.call176 rfl (fun _ => ?_)
    ((repeat' first|refine Y ?_|refine Y2 ?_ ?_|refine Y1 fun hh=>?_|exact Y0.mk);(all_goals (try conv => whnf)))
    refine Sy.call_own (need_does (s1) (0) true) Tryz.call173 (YL ?_)
    intro _ _ _
    conv => whnf
    ((repeat' first|refine Y ?_|refine Y2 ?_ ?_|refine Y1 fun hh=>?_|exact Y0.mk);(all_goals (try conv => whnf)))
    refine Sy.need_app 40 rfl ⟨by omega, by omega⟩ ?_
    ((repeat' first|refine Y ?_|refine Y2 ?_ ?_|refine Y1 fun hh=>?_|exact Y0.mk);(all_goals (try conv => whnf)))
    refine ⟨(i + 1, s1, needP (s1).p (0) true, acc ++ [⟨3, ⟨0, 0, 0⟩, 0⟩]), ⟨by omega, (by rw [List.length_append, hacc]; rfl), gs1, s1l, (by simp only [rd_p] at hq ⊢; exact hq)⟩, by dsimp only; omega, ?_⟩
    ((repeat' (first|((conv => whnf);done)|((try conv => whnf);first|exact trivial|(refine And.intro ?_ ?_)|rfl|exact fun _ _ _ h=>h|exact fun _ _ _ _=>trivial)));(all_goals (try conv => whnf)))
    all_goals (try simp [encE])
  ·rw [if_pos h0] at hq
   obtain rfl | rfl | rfl | hni : c = 1 ∨ c = 2 ∨ c = 3 ∨ ¬ (1 ≤ c ∧ c ≤ 3) := by omega
   all_goals
    first | refine Sy.findC_int [1, 2, 3] 1 (some 0) rfl ?_ | refine Sy.findC_int [1, 2, 3] 2 (some 1) rfl ?_ | refine Sy.findC_int [1, 2, 3] 3 (some 2) rfl ?_ | refine Sy.findC_int [1, 2, 3] c none (by rw [List.findIdx?_eq_none_iff]; simp; omega) ?_
    ((repeat' first|refine Y ?_|refine Y2 ?_ ?_|refine Y1 fun hh=>?_|exact Y0.mk);(all_goals (try conv => whnf)))
    refine Sy.call_own (need_does s1 u t) Tryz.call173 ?_
    ((conv => whnf);(refine And.intro ?_ (And.intro ?_ (And.intro ?_ (And.intro ?_ ?_))));(all_goals ((repeat' (first|((conv => whnf);done)|((try conv => whnf);first|exact trivial|(refine And.intro ?_ ?_)|rfl|exact fun _ _ _ h=>h|exact fun _ _ _ _=>trivial)));(all_goals (try conv => whnf))));rotate_right)
    ·intro _ _ _
     conv => whnf
     rw [← hr]
     ((repeat' first|refine Y ?_|refine Y2 ?_ ?_|refine Y1 fun hh=>?_|exact Y0.mk);(all_goals (try conv => whnf)))
     refine Sy.call_own (left_does gs1 (by omega)) Tryz.call172 (YL ?_) (fun e a w' F' h hF' => XD.ok.mono (h.ev w' fun _ _ => rfl).2.2 hF')
     intro _ _ _
     conv => whnf
     ((repeat' first|refine Y ?_|refine Y2 ?_ ?_|refine Y1 fun hh=>?_|exact Y0.mk);(all_goals (try conv => whnf)))
     refine Sy.call_own (need_does s1 r ((s1.l.length : Int) == 0)) Tryz.call173 (YL ?_)
     intro _ _ _
     conv => whnf
     rw [len_b]
     have hq : recD ⟨b, 0⟩ = if needP s1.p r (decide (s1.l.length = 0)) ≠ 0 then ([], needP s1.p r (decide (s1.l.length = 0))) else (acc, 0) := by
      rw [hq]
      show (if _ then _ else (acc ++ [], (0 : Int))) = _
      rw [List.append_nil]; rfl
     generalize needP s1.p r (decide (s1.l.length = 0)) = z at *
     rw [hq]
     ((repeat' first|refine Y ?_|refine Y2 ?_ ?_|refine Y1 fun hh=>?_|exact Y0.mk);(all_goals (try conv => whnf)))
     ·rw [if_neg (Decidable.not_not.2 (by omega))]
      exact Sy.fin_r1 (.row 6) rfl (fun e => rfl)
     ·refine Sy.draw_go [] (by kernel_rfl) ?_
      intro e0
      conv => whnf
      refine zt 0 rfl ?_
      conv => whnf
      refine zt 1 rfl ?_
      conv => whnf
      refine zt 2 rfl ?_
      conv => whnf
      refine zt 3 rfl ?_
      conv => whnf
      refine zt 4 rfl ?_
      conv => whnf
      refine zt 5 rfl ?_
      conv => whnf
      refine zw ?_
      skip
      ((repeat' first|refine Y ?_|refine Y2 ?_ ?_|refine Y1 fun hh=>?_|exact Y0.mk);(all_goals (try conv => whnf)))
      rw [if_pos (by assumption)]
      exact Sy.fin_r1 (.v (.slice none 0 0)) ⟨rfl, rfl⟩ (fun e => rfl)
    ·first | (rw [ht]; rfl) | rw [ht, decide_eq_false hni]
 ·obtain rfl : i = k.toNat := by omega
  rw [Nat.sub_self, recL] at hq
  ((repeat' first|refine Y ?_|refine Y2 ?_ ?_|refine Y1 fun hh=>?_|exact Y0.mk);(all_goals (try conv => whnf)))
  refine Sy.call_own (left_does gs (by omega)) Tryz.call172 (YL ?_) (fun e a w' F' h hF' => XD.ok.mono (h.ev w' fun _ _ => rfl).2.2 hF')
  intro _ _ _
  conv => whnf
  ((repeat' first|refine Y ?_|refine Y2 ?_ ?_|refine Y1 fun hh=>?_|exact Y0.mk);(all_goals (try conv => whnf)))
  refine Sy.call_own (need_does s u ((s.l.length : Int) == 0)) Tryz.call173 (YL ?_)
  intro _ _ _
  conv => whnf
  rw [len_b]
  have hq : recD ⟨b, 0⟩ = if needP s.p u (decide (s.l.length = 0)) ≠ 0 then ([], needP s.p u (decide (s.l.length = 0))) else (acc, 0) := by
   rw [hq]
   show (if _ then _ else (acc ++ [], (0 : Int))) = _
   rw [List.append_nil]; rfl
  generalize needP s.p u (decide (s.l.length = 0)) = z at *
  rw [hq]
  ((repeat' first|refine Y ?_|refine Y2 ?_ ?_|refine Y1 fun hh=>?_|exact Y0.mk);(all_goals (try conv => whnf)))
  ·rw [if_neg (Decidable.not_not.2 (by omega))]
   exact Sy.fin_r1 (.row 6) rfl (fun e => rfl)
  ·refine Sy.draw_go [] (by kernel_rfl) ?_
   intro e0
   conv => whnf
   refine zt 0 rfl ?_
   conv => whnf
   refine zt 1 rfl ?_
   conv => whnf
   refine zt 2 rfl ?_
   conv => whnf
   refine zt 3 rfl ?_
   conv => whnf
   refine zt 4 rfl ?_
   conv => whnf
   refine zt 5 rfl ?_
   conv => whnf
   refine zw ?_
   skip
   ((repeat' first|refine Y ?_|refine Y2 ?_ ?_|refine Y1 fun hh=>?_|exact Y0.mk);(all_goals (try conv => whnf)))
   rw [if_pos (by assumption)]
   exact Sy.fin_r1 (.v (.slice none 0 0)) ⟨rfl, rfl⟩ (fun e => rfl)
theorem recL_len (n : Nat) : ∀ (p : Ps) (w : Int), (recL n p w).2.2.length ≤ n := by
 induction n with
 | zero => exact fun p w => Nat.le_refl _
 |succ n ih =>
  intro p w
  unfold recL
  split
  ·exact Nat.zero_le _
  ·exact Nat.succ_le_succ (ih _ _)
theorem recD_len (p : Ps) : (recD p).1.length ≤ 200 := by
 unfold recD recE
 split
 ·exact Nat.zero_le _
 ·split
  ·exact Nat.zero_le _
  ·exact Nat.le_trans (recL_len _ _ _) (by omega)
end Go.Proofs.YtgkkpefpbfadoaaGreat
