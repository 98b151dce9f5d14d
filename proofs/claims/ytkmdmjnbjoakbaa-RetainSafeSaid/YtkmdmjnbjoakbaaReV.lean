/- Retain: the law Safe. -/
import Derived.Test.YtkmdmjnbjoakbaaReUb
import Derived.Test.YtkmdmjnbjoakbaaHold
namespace Go.Proofs.Ytkmdmjnbjoakbaa
open Go Go.RowKit
open Sy (C SV V1 Blk St XD Els)
set_option maxRecDepth 10000

structure Deed where
  kind : Int
  by' : Int
  save : Bool
  choice : Int
def encD (d : Deed) : List Value := [.int .i64 d.kind, .int .u64 d.by', .bool d.save, .int .i64 d.choice]
/-- Where the law stands. -/
structure Sf where
  n : Nat
  xs : List Kp
  last : Int
  settled : Int
  ds : List Int
  ks : List Int
  sv : Int → Bool
  op : Int → Bool
/-- What a deed leads to. -/
structure Jf where
  E : Int
  kp : Int
  xs : List Kp
  gone : List Int
  last : Int
  settled : Int
  ks : List Int
  sv : Int → Bool
  op : Int → Bool
def Jok (keep last settled : Int) (ds ks : List Int) (sv op : Int → Bool) (j : Jf) : Prop :=
  (j.E ≠ 0 ∧ j.last = last ∧ j.settled = settled ∧ j.ks = ks ∧ j.sv = sv ∧ j.op = op) ∨
  (j.E = 0 ∧ j.kp = keep ∧ okS keep j.xs = true ∧ ∃ xs1, j.xs = (cutL keep xs1).1 ∧ j.gone = (cutL keep xs1).2 ∧ xs1.length ≤ 17 ∧ Mid xs1 j.last j.settled ds j.ks j.sv j.op)
attribute [local irreducible] okS chkE putV turnV cutL mpU cntP
set_option maxHeartbeats 4000000 in
theorem safe_any (kp : Int) (u : Value) (dl : List Deed) (w : World) (hu : XD.ok (fun b => b < w.heap.size) w ⟨u, 4, dl.length, dl.map encD⟩) (hbys : ∀ d ∈ dl, 0 ≤ d.by') :
    Calls Try.prog 6 #[.int .i64 kp, u] w (Sy.Ret (.bool true) w) := by
  have hlu := ok_len hu
  refine Sy.calls_of Sy.lv6 Sy.tab_ok Try.func6 rfl _ Try.ntmps6 [⟨u, 4, dl.length, dl.map encD⟩] [.c (.v (.int .i64 kp)), .c (.row 0)] rfl rfl rfl ⟨hu, trivial⟩ ?_
  ((repeat' ((conv => whnf);(first|refine zA ?_|(refine zI ?_ ?_<;> intro hh<;> first|(exfalso;omega)|skip)|(refine zl ?_ ?_<;> intro hh)|refine zq ?_|refine zv ?_|refine zu ?_|exact Sy.fin_val fun e=>rfl)));(all_goals (try conv => whnf)))
  refine Sy.call_val (.c (.v (.bool true))) Try.call9 rfl (fun e a w' h => wakes_any w') ?_
  ((repeat' ((conv => whnf);(first|refine zA ?_|(refine zI ?_ ?_<;> intro hh<;> first|(exfalso;omega)|skip)|(refine zl ?_ ?_<;> intro hh)|refine zq ?_|refine zv ?_|refine zu ?_|exact Sy.fin_val fun e=>rfl)));(all_goals (try conv => whnf)))
  have hmx : 0 ≤ Sy.maxI kp 0 := by unfold Sy.maxI; split <;> omega
  refine Sy.rem_in hmx (by omega) ?_
  have hk1 : 1 ≤ Sy.maxI kp 0 % 4 + 1 := by omega
  have hk4 : Sy.maxI kp 0 % 4 + 1 ≤ 4 := by omega
  clear hmx
  generalize Sy.maxI kp 0 % 4 = km at *
  ((repeat' ((conv => whnf);(first|refine zA ?_|(refine zI ?_ ?_<;> intro hh<;> first|(exfalso;omega)|skip)|(refine zl ?_ ?_<;> intro hh)|refine zq ?_|refine zv ?_|refine zu ?_|exact Sy.fin_val fun e=>rfl)));(all_goals (try conv => whnf)))
  obtain ⟨keep, hkeep⟩ : ∃ k, km + 1 = k := ⟨_, rfl⟩
  rw [hkeep] at hk1 hk4
  refine Sy.call_val (.tup [.agg [.v (.int .i64 keep), .v (.slice none 0 0)], .c (.v (.int .i64 0))]) Try.call21 rfl (fun e a w' h => by have := new_any (km + 1) w'; rw [hkeep, if_pos ⟨hk1, hk4⟩] at this; rw [hkeep]; exact this) ?_
  clear hkeep
  ((repeat' ((conv => whnf);(first|refine zA ?_|(refine zI ?_ ?_<;> intro hh<;> first|(exfalso;omega)|skip)|(refine zl ?_ ?_<;> intro hh)|refine zq ?_|refine zv ?_|refine zu ?_|exact Sy.fin_val fun e=>rfl)));(all_goals (try conv => whnf)))
  refine Sy.sem_subF (Sy.sub_rowc 1 1 39 3 rfl rfl) ?_
  conv => whnf
  have hc0 : (cntP ([] : List Kp) : Int) ≤ keep := by
    have : cntP [] = 0 := by unfold cntP; rfl
    omega
  refine Sy.loop_sem (fun x : Sf => [(38, .c (.v (.int .i64 x.n))), (7, .c (.v (.int .u64 x.last))), (8, .c (.v (.int .u64 x.settled)))]) (fun x => [(1, .cells 24 [.v (.int .i64 keep), .row 5]), (5, .row 39 3 x.xs.length (.vs (x.xs.map encK))), (2, .mp (mpU x.ds fun _ => true)), (3, .mp (mpU x.ks x.sv)), (4, .mp (mpU x.ks x.op))]) (fun x => x.n ≤ dl.length ∧ Mid x.xs x.last x.settled x.ds x.ks x.sv x.op ∧ okS keep x.xs = true ∧ (cntP x.xs : Int) ≤ keep) (fun x => dl.length - x.n) ⟨0, [], 0, 0, [], [], fun _ => false, fun _ => false⟩ ⟨Nat.zero_le _, mid_zero, okS_iff.2 ⟨hk1, hk4, Nat.zero_le _, by simp⟩, hc0⟩ ?_ (fun x hx => ?_)
  · dsimp only
    rw [mpU_nil, mpU_nil]
    ((repeat' (first|((conv => whnf);done)|((try conv => whnf);first|exact trivial|(refine And.intro ?_ ?_)|rfl|exact fun _ _ _ h=>h|exact fun _ _ _ _=>trivial)));(all_goals (try conv => whnf)))
  · obtain ⟨n, xs, last, settled, ds, ks, sv, op⟩ := x
    obtain ⟨hn, hmid, hok, hcn⟩ := hx
    dsimp only at hn hmid hok hcn ⊢
    have h16 := (okS_bd hok).2.2.1
    conv => whnf
    refine Sy.seq_hold (Sy.sem_go Sy.tab_ok ?_)
    ((repeat' ((conv => whnf);(first|refine zA ?_|(refine zI ?_ ?_<;> intro hh<;> first|(exfalso;omega)|skip)|(refine zl ?_ ?_<;> intro hh)|exact Sy.fin_val fun e=>rfl)));(all_goals (try conv => whnf)))
    refine ⟨Sy.seq_hold (Sy.sem_go Sy.tab_ok ?_)⟩
    ((repeat' ((conv => whnf);(first|refine zA ?_|(refine zI ?_ ?_<;> intro hh<;> first|(exfalso;omega)|skip)|(refine zl ?_ ?_<;> intro hh)|exact Sy.fin_val fun e=>rfl)));(all_goals (try conv => whnf)))
    · have hlt : n < dl.length := by omega
      have hgn := List.getElem?_eq_getElem hlt
      have hby := hbys _ (List.getElem_mem hlt)
      generalize dl[n] = d at *
      refine ⟨Sy.seq_go Sy.tab_ok (Sy.block_sem (Sy.seq_hold (Sy.sem_go Sy.tab_ok ?_)))⟩
      ((repeat' ((conv => whnf);(first|refine zA ?_|(refine zI ?_ ?_<;> intro hh<;> first|(exfalso;omega)|skip)|(refine zl ?_ ?_<;> intro hh)|exact Sy.fin_val fun e=>rfl)));(all_goals (try conv => whnf)))
      refine Sy.el_map d hgn ?_
      ((repeat' ((conv => whnf);(first|refine zA ?_|(refine zI ?_ ?_<;> intro hh<;> first|(exfalso;omega)|skip)|(refine zl ?_ ?_<;> intro hh)|exact Sy.fin_val fun e=>rfl)));(all_goals (try conv => whnf)))
      refine ⟨Sy.seq_hold (Sy.sem_go Sy.tab_ok ?_)⟩
      ((repeat' ((conv => whnf);(first|refine zA ?_|(refine zI ?_ ?_<;> intro hh<;> first|(exfalso;omega)|skip)|(refine zl ?_ ?_<;> intro hh)|exact Sy.fin_val fun e=>rfl)));(all_goals (try conv => whnf)))
      refine ⟨Sy.seq_hold (Sy.sem_go Sy.tab_ok ?_)⟩
      ((repeat' ((conv => whnf);(first|refine zA ?_|(refine zI ?_ ?_<;> intro hh<;> first|(exfalso;omega)|skip)|(refine zl ?_ ?_<;> intro hh)|exact Sy.fin_val fun e=>rfl)));(all_goals (try conv => whnf)))
      refine Sy.rem_in hby (by decide) ?_
      ((repeat' ((conv => whnf);(first|refine zA ?_|(refine zI ?_ ?_<;> intro hh<;> first|(exfalso;omega)|skip)|(refine zl ?_ ?_<;> intro hh)|exact Sy.fin_val fun e=>rfl)));(all_goals (try conv => whnf)))
      refine Sy.ar_wrap ?_
      ((repeat' ((conv => whnf);(first|refine zA ?_|(refine zI ?_ ?_<;> intro hh<;> first|(exfalso;omega)|skip)|(refine zl ?_ ?_<;> intro hh)|exact Sy.fin_val fun e=>rfl)));(all_goals (try conv => whnf)))
      refine ⟨Sy.seq_hold (Sy.sem_go Sy.tab_ok ?_)⟩
      ((repeat' ((conv => whnf);(first|refine zA ?_|(refine zI ?_ ?_<;> intro hh<;> first|(exfalso;omega)|skip)|(refine zl ?_ ?_<;> intro hh)|exact Sy.fin_val fun e=>rfl)));(all_goals (try conv => whnf)))
      refine Sy.rem_of (by decide) ?_
      have htm := Int.tmod_lt_of_pos d.kind (show (0 : Int) < 4 by decide)
      have htm2 := Int.tmod_lt_of_pos (-d.kind) (show (0 : Int) < 4 by decide)
      rw [Int.neg_tmod] at htm2
      ((repeat' ((conv => whnf);(first|refine zA ?_|(refine zI ?_ ?_<;> intro hh<;> first|(exfalso;omega)|skip)|(refine zl ?_ ?_<;> intro hh)|exact Sy.fin_val fun e=>rfl)));(all_goals (try conv => whnf)))
      refine Sy.rem_in (by omega) (by decide) ?_
      ((repeat' ((conv => whnf);(first|refine zA ?_|(refine zI ?_ ?_<;> intro hh<;> first|(exfalso;omega)|skip)|(refine zl ?_ ?_<;> intro hh)|exact Sy.fin_val fun e=>rfl)));(all_goals (try conv => whnf)))
      have hk0 : 0 ≤ (d.kind.tmod 4 + 4) % 4 ∧ (d.kind.tmod 4 + 4) % 4 < 4 := by omega
      generalize (d.kind.tmod 4 + 4) % 4 = kk at *
      generalize IntKind.u64.wrap (last + d.by' % 5) = N0 at *
      refine Sy.cut_sem (Sy.meetH (fun _ => []) (fun N : Int => [(14, .c (.v (.int .u64 N)))]) (fun _ => []) (fun _ => True) Sy.tab_ok (Sy.sem_go Sy.tab_ok ?_) (fun N _ => ?_))
      · ((repeat' ((conv => whnf);(first|refine zA ?_|(refine zI ?_ ?_<;> intro hh<;> first|(exfalso;omega)|skip)|(refine zl ?_ ?_<;> intro hh)|refine zq ?_|refine zv ?_|refine zu ?_|exact Sy.fin_val fun e=>rfl)));(all_goals (try conv => whnf)))
        · refine ⟨N0, trivial, ?_⟩
          dsimp only
          ((repeat' (first|((conv => whnf);done)|((try conv => whnf);first|exact trivial|(refine And.intro ?_ ?_)|rfl|exact fun _ _ _ h=>h|exact fun _ _ _ _=>trivial)));(all_goals (try conv => whnf)))
        · have hxl : 0 < xs.length := by omega
          have hmc : 0 ≤ Sy.maxI d.choice 0 := by unfold Sy.maxI; split <;> omega
          have hmm : Sy.maxI d.choice 0 % xs.length < xs.length := Int.emod_lt_of_pos _ (by omega)
          have hmn : 0 ≤ Sy.maxI d.choice 0 % xs.length := Int.emod_nonneg _ (by omega)
          have hgq := List.getElem?_eq_getElem (show (Sy.maxI d.choice 0 % xs.length).toNat < xs.length by omega)
          generalize xs[(Sy.maxI d.choice 0 % xs.length).toNat]'(by omega) = q at *
          refine Sy.draw_go [] (by kernel_rfl) ?_
          intro e0
          conv => whnf
          refine zt 0 rfl ?_
          conv => whnf
          refine zt 1 rfl ?_
          conv => whnf
          refine zt 2 rfl ?_
          conv => whnf
          refine zt 3 rfl ?_
          conv => whnf
          refine zt 4 rfl ?_
          (conv => whnf);(repeat' ((first|refine zA ?_|(refine zI ?_ ?_<;> intro hh<;> first|(exfalso;omega)|skip)|(refine zl ?_ ?_<;> intro hh)|refine zq ?_|refine zv ?_|refine zu ?_|exact Sy.fin_val fun e=>rfl);(try conv => whnf)))
          refine zt 5 rfl ?_
          conv => whnf
          refine zt 6 rfl ?_
          conv => whnf
          refine zt 7 rfl ?_
          (conv => whnf);(repeat' ((first|refine zA ?_|(refine zI ?_ ?_<;> intro hh<;> first|(exfalso;omega)|skip)|(refine zl ?_ ?_<;> intro hh)|refine zq ?_|refine zv ?_|refine zu ?_|exact Sy.fin_val fun e=>rfl);(try conv => whnf)))
          refine zt 8 rfl ?_
          (conv => whnf);(repeat' ((first|refine zA ?_|(refine zI ?_ ?_<;> intro hh<;> first|(exfalso;omega)|skip)|(refine zl ?_ ?_<;> intro hh)|refine zq ?_|refine zv ?_|refine zu ?_|exact Sy.fin_val fun e=>rfl);(try conv => whnf)))
          refine Sy.rem_in hmc (by omega) ?_
          conv => whnf
          conv => whnf
          refine zt 9 rfl ?_
          (conv => whnf);(repeat' ((first|refine zA ?_|(refine zI ?_ ?_<;> intro hh<;> first|(exfalso;omega)|skip)|(refine zl ?_ ?_<;> intro hh)|refine zq ?_|refine zv ?_|refine zu ?_|exact Sy.fin_val fun e=>rfl);(try conv => whnf)))
          refine zt 10 rfl ?_
          conv => whnf
          refine zt 11 rfl ?_
          conv => whnf
          refine Sy.el_map q hgq ?_
          conv => whnf
          refine zt 12 rfl ?_
          conv => whnf
          refine zw ?_
          skip
          refine ⟨q.number, trivial, ?_⟩
          dsimp only
          ((repeat' (first|((conv => whnf);done)|((try conv => whnf);first|exact trivial|(refine And.intro ?_ ?_)|rfl|exact fun _ _ _ h=>h|exact fun _ _ _ _=>trivial)));(all_goals (try conv => whnf)))
        · refine ⟨N0, trivial, ?_⟩
          dsimp only
          ((repeat' (first|((conv => whnf);done)|((try conv => whnf);first|exact trivial|(refine And.intro ?_ ?_)|rfl|exact fun _ _ _ h=>h|exact fun _ _ _ _=>trivial)));(all_goals (try conv => whnf)))
      · conv => whnf
        refine Sy.seq_hold (Sy.sem_go Sy.tab_ok ?_)
        ((repeat' ((conv => whnf);(first|refine zA ?_|(refine zI ?_ ?_<;> intro hh<;> first|(exfalso;omega)|skip)|(refine zl ?_ ?_<;> intro hh)|exact Sy.fin_val fun e=>rfl)));(all_goals (try conv => whnf)))
        refine ⟨Sy.seq_hold (Sy.sem_go Sy.tab_ok ?_)⟩
        ((repeat' ((conv => whnf);(first|refine zA ?_|(refine zI ?_ ?_<;> intro hh<;> first|(exfalso;omega)|skip)|(refine zl ?_ ?_<;> intro hh)|exact Sy.fin_val fun e=>rfl)));(all_goals (try conv => whnf)))
        refine ⟨?_⟩
        refine Sy.sem_subF (Sy.sub_row 18 25 1 rfl) ?_
        conv => whnf
        refine Sy.meetS Sy.tab_ok (fun j : Jf => [.row 39 3 j.xs.length (.vs (j.xs.map encK)), .row 25 1 j.gone.length (.vs (j.gone.map encU))]) (fun j => [(7, .c (.v (.int .u64 j.last))), (8, .c (.v (.int .u64 j.settled))), (17, .c (.v (.int .i64 j.E))), (18, .c (.row 10))]) (fun j => [(7, .cells 24 [.v (.int .i64 j.kp), .row 9]), (8, .dead), (3, .mp (mpU j.ks j.sv)), (4, .mp (mpU j.ks j.op))]) (Jok keep last settled ds ks sv op) (Sy.sem_go Sy.tab_ok ?_) (fun j hj => ?_)
        ·
          ((repeat' ((conv => whnf);(first|refine zA ?_|(refine zI ?_ ?_<;> intro hh<;> first|(exfalso;omega)|skip)|(refine zl ?_ ?_<;> intro hh)|refine zq ?_|refine zv ?_|refine zu ?_|exact Sy.fin_val fun e=>rfl)));(all_goals (try conv => whnf)))
          refine Sy.rem_of (by decide) ?_
          ((repeat' ((conv => whnf);(first|refine zA ?_|(refine zI ?_ ?_<;> intro hh<;> first|(exfalso;omega)|skip)|(refine zl ?_ ?_<;> intro hh)|refine zq ?_|refine zv ?_|refine zu ?_|exact Sy.fin_val fun e=>rfl)));(all_goals (try conv => whnf)))
          refine Sy.rem_in (by omega) (by decide) ?_
          have hk0 : 0 ≤ (d.kind.tmod 4 + 4) % 4 ∧ (d.kind.tmod 4 + 4) % 4 < 4 := by omega
          generalize (d.kind.tmod 4 + 4) % 4 = kk2 at *
          ((repeat' ((conv => whnf);(first|refine zA ?_|(refine zI ?_ ?_<;> intro hh<;> first|(exfalso;omega)|skip)|(refine zl ?_ ?_<;> intro hh)|refine zq ?_|refine zv ?_|refine zu ?_|exact Sy.fin_val fun e=>rfl)));(all_goals (try conv => whnf)))
          · generalize hA : putV keep xs N d.save = A at *
            obtain ⟨⟨ka, la⟩, ga, ea⟩ := A
            refine Sy.call_r2f ⟨39, 3, la.length, la.map encK⟩ ⟨25, 1, ga.length, ga.map encU⟩ (fun j => .tup [.agg [.v (.int .i64 ka), .row j], .c (.row (j + 1)), .c (.v (.int .i64 ea))]) Try.call11 (fun e a w' h => by have := put_any keep (e.rv 5) xs N d.save w' (Sy.row_reads h (.inl ⟨_, rfl⟩)); rw [hA] at this; exact this) ?_
            by_cases hea : ea = 0
            · subst hea
              obtain ⟨h1, h2, xs1, h3, h3l, h4, h5⟩ := safe_put (keep := keep) (N := N) (save := d.save) hmid (by rw [hA])
              rw [hA] at h3
              injection h3 with h6 h7
              injection h6 with h8 h9
              injection h7 with h10 _
              subst h8 h9 h10
              ((repeat' ((conv => whnf);(first|refine zA ?_|(refine zI ?_ ?_<;> intro hh<;> first|(exfalso;omega)|skip)|(refine zl ?_ ?_<;> intro hh)|refine zq ?_|refine zv ?_|refine zu ?_|exact Sy.fin_val fun e=>rfl)));(all_goals (try conv => whnf)))
              refine u_miss N h2 ?_
              ((repeat' ((conv => whnf);(first|refine zA ?_|(refine zI ?_ ?_<;> intro hh<;> first|(exfalso;omega)|skip)|(refine zl ?_ ?_<;> intro hh)|refine zq ?_|refine zv ?_|refine zu ?_|exact Sy.fin_val fun e=>rfl)));(all_goals (try conv => whnf)))
              refine u_miss N h2 ?_
              ((repeat' ((conv => whnf);(first|refine zA ?_|(refine zI ?_ ?_<;> intro hh<;> first|(exfalso;omega)|skip)|(refine zl ?_ ?_<;> intro hh)|refine zq ?_|refine zv ?_|refine zu ?_|exact Sy.fin_val fun e=>rfl)));(all_goals (try conv => whnf)))
              refine ⟨⟨0, ka, _, _, N, settled, ks ++ [N], updB sv N d.save, updB op N true⟩, .inr ⟨rfl, rfl, h4, xs1, rfl, rfl, h3l, h5⟩, ?_⟩
              dsimp only
              ((repeat' (first|((conv => whnf);done)|((try conv => whnf);first|exact trivial|(refine And.intro ?_ ?_)|rfl|exact fun _ _ _ h=>h|exact fun _ _ _ _=>trivial)));(all_goals (try conv => whnf)))
              all_goals exact u_add _ h2
            · ((repeat' ((conv => whnf);(first|refine zA ?_|(refine zI ?_ ?_<;> intro hh<;> first|(exfalso;omega)|skip)|(refine zl ?_ ?_<;> intro hh)|refine zq ?_|refine zv ?_|refine zu ?_|exact Sy.fin_val fun e=>rfl)));(all_goals (try conv => whnf)))
              refine ⟨⟨ea, ka, la, ga, last, settled, ks, sv, op⟩, .inl ⟨hea, rfl, rfl, rfl, rfl, rfl⟩, ?_⟩
              dsimp only
              ((repeat' (first|((conv => whnf);done)|((try conv => whnf);first|exact trivial|(refine And.intro ?_ ?_)|rfl|exact fun _ _ _ h=>h|exact fun _ _ _ _=>trivial)));(all_goals (try conv => whnf)))
          · generalize hA : turnV keep xs N 0 = A at *
            obtain ⟨⟨ka, la⟩, ga, ea⟩ := A
            refine Sy.call_r2f ⟨39, 3, la.length, la.map encK⟩ ⟨25, 1, ga.length, ga.map encU⟩ (fun j => .tup [.agg [.v (.int .i64 ka), .row j], .c (.row (j + 1)), .c (.v (.int .i64 ea))]) Try.call16 (fun e a w' h => by have := settle_any keep (e.rv 5) xs N w' (Sy.row_reads h (.inl ⟨_, rfl⟩)); rw [hA] at this; exact this) ?_
            by_cases hea : ea = 0
            · subst hea
              obtain ⟨h1, h2, h2b, xs1, h3, h3l, h4, h5⟩ := safe_settle (keep := keep) (N := N) hmid (by rw [hA])
              rw [hA] at h3
              injection h3 with h6 h7
              injection h6 with h8 h9
              injection h7 with h10 _
              subst h8 h9 h10
              ((repeat' ((conv => whnf);(first|refine zA ?_|(refine zI ?_ ?_<;> intro hh<;> first|(exfalso;omega)|skip)|(refine zl ?_ ?_<;> intro hh)|refine zq ?_|refine zv ?_|refine zu ?_|exact Sy.fin_val fun e=>rfl)));(all_goals (try conv => whnf)))
              refine u_hit N hmid.kn h2b (fun i hi => ?_)
              rw [h2]
              ((repeat' ((conv => whnf);(first|refine zA ?_|(refine zI ?_ ?_<;> intro hh<;> first|(exfalso;omega)|skip)|(refine zl ?_ ?_<;> intro hh)|refine zq ?_|refine zv ?_|refine zu ?_|exact Sy.fin_val fun e=>rfl)));(all_goals (try conv => whnf)))
              refine u_hit N hmid.kn h2b (fun i hi => ?_)
              ((repeat' ((conv => whnf);(first|refine zA ?_|(refine zI ?_ ?_<;> intro hh<;> first|(exfalso;omega)|skip)|(refine zl ?_ ?_<;> intro hh)|refine zq ?_|refine zv ?_|refine zu ?_|exact Sy.fin_val fun e=>rfl)));(all_goals (try conv => whnf)))
              refine ⟨⟨0, ka, _, _, last, N, ks, sv, updB op N false⟩, .inr ⟨rfl, rfl, h4, xs1, rfl, rfl, h3l, h5⟩, ?_⟩
              dsimp only
              ((repeat' (first|((conv => whnf);done)|((try conv => whnf);first|exact trivial|(refine And.intro ?_ ?_)|rfl|exact fun _ _ _ h=>h|exact fun _ _ _ _=>trivial)));(all_goals (try conv => whnf)))
              all_goals exact u_set _ hmid.kn hi
            · ((repeat' ((conv => whnf);(first|refine zA ?_|(refine zI ?_ ?_<;> intro hh<;> first|(exfalso;omega)|skip)|(refine zl ?_ ?_<;> intro hh)|refine zq ?_|refine zv ?_|refine zu ?_|exact Sy.fin_val fun e=>rfl)));(all_goals (try conv => whnf)))
              refine ⟨⟨ea, ka, la, ga, last, settled, ks, sv, op⟩, .inl ⟨hea, rfl, rfl, rfl, rfl, rfl⟩, ?_⟩
              dsimp only
              ((repeat' (first|((conv => whnf);done)|((try conv => whnf);first|exact trivial|(refine And.intro ?_ ?_)|rfl|exact fun _ _ _ h=>h|exact fun _ _ _ _=>trivial)));(all_goals (try conv => whnf)))
          · generalize hA : turnV keep xs N 1 = A at *
            obtain ⟨⟨ka, la⟩, ga, ea⟩ := A
            refine Sy.call_r2f ⟨39, 3, la.length, la.map encK⟩ ⟨25, 1, ga.length, ga.map encU⟩ (fun j => .tup [.agg [.v (.int .i64 ka), .row j], .c (.row (j + 1)), .c (.v (.int .i64 ea))]) Try.call19 (fun e a w' h => by have := release_any keep (e.rv 5) xs N w' (Sy.row_reads h (.inl ⟨_, rfl⟩)); rw [hA] at this; exact this) ?_
            by_cases hea : ea = 0
            · subst hea
              obtain ⟨h2, h2b, xs1, h3, h3l, h4, h5⟩ := safe_release (keep := keep) (N := N) hmid (by rw [hA])
              rw [hA] at h3
              injection h3 with h6 h7
              injection h6 with h8 h9
              injection h7 with h10 _
              subst h8 h9 h10
              ((repeat' ((conv => whnf);(first|refine zA ?_|(refine zI ?_ ?_<;> intro hh<;> first|(exfalso;omega)|skip)|(refine zl ?_ ?_<;> intro hh)|refine zq ?_|refine zv ?_|refine zu ?_|exact Sy.fin_val fun e=>rfl)));(all_goals (try conv => whnf)))
              refine u_hit N hmid.kn h2b (fun i hi => ?_)
              rw [h2]
              ((repeat' ((conv => whnf);(first|refine zA ?_|(refine zI ?_ ?_<;> intro hh<;> first|(exfalso;omega)|skip)|(refine zl ?_ ?_<;> intro hh)|refine zq ?_|refine zv ?_|refine zu ?_|exact Sy.fin_val fun e=>rfl)));(all_goals (try conv => whnf)))
              refine u_hit N hmid.kn h2b (fun i hi => ?_)
              ((repeat' ((conv => whnf);(first|refine zA ?_|(refine zI ?_ ?_<;> intro hh<;> first|(exfalso;omega)|skip)|(refine zl ?_ ?_<;> intro hh)|refine zq ?_|refine zv ?_|refine zu ?_|exact Sy.fin_val fun e=>rfl)));(all_goals (try conv => whnf)))
              refine ⟨⟨0, ka, _, _, last, settled, ks, updB sv N false, op⟩, .inr ⟨rfl, rfl, h4, xs1, rfl, rfl, h3l, h5⟩, ?_⟩
              dsimp only
              ((repeat' (first|((conv => whnf);done)|((try conv => whnf);first|exact trivial|(refine And.intro ?_ ?_)|rfl|exact fun _ _ _ h=>h|exact fun _ _ _ _=>trivial)));(all_goals (try conv => whnf)))
              all_goals exact u_set _ hmid.kn hi
            · ((repeat' ((conv => whnf);(first|refine zA ?_|(refine zI ?_ ?_<;> intro hh<;> first|(exfalso;omega)|skip)|(refine zl ?_ ?_<;> intro hh)|refine zq ?_|refine zv ?_|refine zu ?_|exact Sy.fin_val fun e=>rfl)));(all_goals (try conv => whnf)))
              refine ⟨⟨ea, ka, la, ga, last, settled, ks, sv, op⟩, .inl ⟨hea, rfl, rfl, rfl, rfl, rfl⟩, ?_⟩
              dsimp only
              ((repeat' (first|((conv => whnf);done)|((try conv => whnf);first|exact trivial|(refine And.intro ?_ ?_)|rfl|exact fun _ _ _ h=>h|exact fun _ _ _ _=>trivial)));(all_goals (try conv => whnf)))
          · generalize hA : turnV keep xs N 2 = A at *
            obtain ⟨⟨ka, la⟩, ga, ea⟩ := A
            refine Sy.call_r1 ⟨39, 3, la.length, la.map encK⟩ (fun j => .tup [.agg [.v (.int .i64 ka), .row j], .c (.v (.int .i64 ea))]) Try.call20 (fun e a w' h => by have := mark_any keep (e.rv 5) xs N w' (Sy.row_reads h (.inl ⟨_, rfl⟩)); rw [hA] at this; exact this) ?_
            by_cases hea : ea = 0
            · subst hea
              obtain ⟨h2, h2b, xs1, h3, h3b, h3l, h4, h5⟩ := safe_mark (keep := keep) (N := N) hmid hcn (by rw [hA])
              rw [hA] at h3
              injection h3 with h6 h7
              injection h6 with h8 h9
              injection h7 with h10 _
              subst h8 h9 h10
              ((repeat' ((conv => whnf);(first|refine zA ?_|(refine zI ?_ ?_<;> intro hh<;> first|(exfalso;omega)|skip)|(refine zl ?_ ?_<;> intro hh)|refine zq ?_|refine zv ?_|refine zu ?_|exact Sy.fin_val fun e=>rfl)));(all_goals (try conv => whnf)))
              refine u_hit N hmid.kn h2b (fun i hi => ?_)
              rw [h2]
              ((repeat' ((conv => whnf);(first|refine zA ?_|(refine zI ?_ ?_<;> intro hh<;> first|(exfalso;omega)|skip)|(refine zl ?_ ?_<;> intro hh)|refine zq ?_|refine zv ?_|refine zu ?_|exact Sy.fin_val fun e=>rfl)));(all_goals (try conv => whnf)))
              refine u_hit N hmid.kn h2b (fun i hi => ?_)
              ((repeat' ((conv => whnf);(first|refine zA ?_|(refine zI ?_ ?_<;> intro hh<;> first|(exfalso;omega)|skip)|(refine zl ?_ ?_<;> intro hh)|refine zq ?_|refine zv ?_|refine zu ?_|exact Sy.fin_val fun e=>rfl)));(all_goals (try conv => whnf)))
              refine ⟨⟨0, ka, _, [], last, settled, ks, updB sv N true, op⟩, .inr ⟨rfl, rfl, h4, xs1, rfl, h3b.symm, h3l, h5⟩, ?_⟩
              dsimp only
              ((repeat' (first|((conv => whnf);done)|((try conv => whnf);first|exact trivial|(refine And.intro ?_ ?_)|rfl|exact fun _ _ _ h=>h|exact fun _ _ _ _=>trivial)));(all_goals (try conv => whnf)))
              all_goals exact u_set _ hmid.kn hi
            · ((repeat' ((conv => whnf);(first|refine zA ?_|(refine zI ?_ ?_<;> intro hh<;> first|(exfalso;omega)|skip)|(refine zl ?_ ?_<;> intro hh)|refine zq ?_|refine zv ?_|refine zu ?_|exact Sy.fin_val fun e=>rfl)));(all_goals (try conv => whnf)))
              refine ⟨⟨ea, ka, la, [], last, settled, ks, sv, op⟩, .inl ⟨hea, rfl, rfl, rfl, rfl, rfl⟩, ?_⟩
              dsimp only
              ((repeat' (first|((conv => whnf);done)|((try conv => whnf);first|exact trivial|(refine And.intro ?_ ?_)|rfl|exact fun _ _ _ h=>h|exact fun _ _ _ _=>trivial)));(all_goals (try conv => whnf)))
        · obtain ⟨E, kp', xs', gone, last', settled', ks', sv', op'⟩ := j
          rcases hj with ⟨hE, h1, h2, h3, h4, h5⟩ | ⟨hE, h1, h2, xs1, h3, h4, h3l, h5⟩
          · dsimp only at hE h1 h2 h3 h4 h5 ⊢
            subst h1 h2 h3 h4 h5
            ((repeat' ((conv => whnf);(first|refine zA ?_|(refine zI ?_ ?_<;> intro hh<;> first|(exfalso;omega)|skip)|(refine zl ?_ ?_<;> intro hh)|refine zq ?_|refine zv ?_|refine zu ?_|exact Sy.fin_val fun e=>rfl)));(all_goals (try conv => whnf)))
            refine ⟨⟨n + 1, xs, last', settled', ds, ks', sv', op'⟩, ⟨by dsimp only; omega, hmid, hok, hcn⟩, by dsimp only; omega, ?_⟩
            dsimp only
            ((repeat' (first|((conv => whnf);done)|((try conv => whnf);first|exact trivial|(refine And.intro ?_ ?_)|rfl|exact fun _ _ _ h=>h|exact fun _ _ _ _=>trivial)));(all_goals (try conv => whnf)))
          · dsimp only at hE h1 h2 h3 h4 h5 ⊢
            subst hE h1
            obtain ⟨m1, m2, m3, m4⟩ := mid_cut h5 hk1
            have m5 := cut_cnt hk1 xs1
            have m6 := cut_len kp' xs1
            rw [← h3] at m1 m4 m5 m6
            rw [← h4] at m1 m2 m3 m4 m6
            have h16' := (okS_bd h2).2.2.1
            clear h3 h4 h5
            ((repeat' ((conv => whnf);(first|refine zA ?_|(refine zI ?_ ?_<;> intro hh<;> first|(exfalso;omega)|skip)|(refine zl ?_ ?_<;> intro hh)|refine zq ?_|refine zv ?_|refine zu ?_|exact Sy.fin_val fun e=>rfl)));(all_goals (try conv => whnf)))
            refine Sy.loop_inv Sy.tab_ok (fun j : Nat => [(163, .c (.v (.int .i64 j)))]) (fun j => [(2, .mp (mpU (ds ++ gone.take j) fun _ => true))]) (fun j => j ≤ gone.length) (fun j => gone.length - j) 0 (Nat.zero_le _) ?_ (fun j hj => ?_)
            · rw [List.take_zero, List.append_nil]
              ((repeat' (first|((conv => whnf);done)|((try conv => whnf);first|exact trivial|(refine And.intro ?_ ?_)|rfl|exact fun _ _ _ h=>h|exact fun _ _ _ _=>trivial)));(all_goals (try conv => whnf)))
            · by_cases hjl : j < gone.length
              · have hgj := List.getElem?_eq_getElem hjl
                have hgm := List.getElem_mem hjl
                have hgs : gone.take (j + 1) = gone.take j ++ [gone[j]] := List.take_succ_eq_append_getElem hjl
                have hxn : xs'.length ≠ 0 := fun h => m4 (fun e => by rw [e] at hjl; exact absurd hjl (Nat.not_lt_zero _)) (List.eq_nil_of_length_eq_zero h)
                have hnt : gone[j] ∉ gone.take j := fun hm => by
                  obtain ⟨i, hi⟩ := List.mem_iff_getElem?.1 hm
                  have hij : i < j := by
                    have := (List.getElem?_eq_some_iff.1 hi).1
                    rw [List.length_take] at this; omega
                  rw [List.getElem?_take_of_lt hij] at hi
                  obtain ⟨i1, i2⟩ := List.getElem?_eq_some_iff.1 hi
                  have := (List.getElem_inj m3).1 i2
                  omega
                generalize gone[j] = x at *
                obtain ⟨a1, a2, a3, a4⟩ := m2 x hgm
                have hnd : x ∉ ds ++ gone.take j := fun hm => (List.mem_append.1 hm).elim a2 hnt
                have hup := u_add (f := fun _ => true) true hnd
                rw [updB_true, List.append_assoc, ← hgs] at hup
                have hkn := m1.kn
                ((repeat' ((conv => whnf);(first|refine zA ?_|(refine zI ?_ ?_<;> intro hh<;> first|(exfalso;omega)|skip)|(refine zl ?_ ?_<;> intro hh)|refine zq ?_|refine zv ?_|refine zu ?_|exact Sy.fin_val fun e=>rfl)));(all_goals (try conv => whnf)))
                refine Sy.el_map x hgj ?_
                ((repeat' ((conv => whnf);(first|refine zA ?_|(refine zI ?_ ?_<;> intro hh<;> first|(exfalso;omega)|skip)|(refine zl ?_ ?_<;> intro hh)|refine zq ?_|refine zv ?_|refine zu ?_|exact Sy.fin_val fun e=>rfl)));(all_goals (try conv => whnf)))
                refine u_miss x hnd ?_
                ((repeat' ((conv => whnf);(first|refine zA ?_|(refine zI ?_ ?_<;> intro hh<;> first|(exfalso;omega)|skip)|(refine zl ?_ ?_<;> intro hh)|refine zq ?_|refine zv ?_|refine zu ?_|exact Sy.fin_val fun e=>rfl)));(all_goals (try conv => whnf)))
                refine u_hit x hkn a1 (fun i hi => ?_)
                rw [a4]
                ((repeat' ((conv => whnf);(first|refine zA ?_|(refine zI ?_ ?_<;> intro hh<;> first|(exfalso;omega)|skip)|(refine zl ?_ ?_<;> intro hh)|refine zq ?_|refine zv ?_|refine zu ?_|exact Sy.fin_val fun e=>rfl)));(all_goals (try conv => whnf)))
                refine u_hit x hkn a1 (fun i2 hi2 => ?_)
                rw [a3]
                ((repeat' ((conv => whnf);(first|refine zA ?_|(refine zI ?_ ?_<;> intro hh<;> first|(exfalso;omega)|skip)|(refine zl ?_ ?_<;> intro hh)|refine zq ?_|refine zv ?_|refine zu ?_|exact Sy.fin_val fun e=>rfl)));(all_goals (try conv => whnf)))
                all_goals (refine u_miss x hnd ?_)
                all_goals (((repeat' ((conv => whnf);(first|refine zA ?_|(refine zI ?_ ?_<;> intro hh<;> first|(exfalso;omega)|skip)|(refine zl ?_ ?_<;> intro hh)|refine zq ?_|refine zv ?_|refine zu ?_|exact Sy.fin_val fun e=>rfl)));(all_goals (try conv => whnf))))
                all_goals (refine ⟨j + 1, by omega, by omega, ?_⟩)
                all_goals (((repeat' (first|((conv => whnf);done)|((try conv => whnf);first|exact trivial|(refine And.intro ?_ ?_)|rfl|exact fun _ _ _ h=>h|exact fun _ _ _ _=>trivial)));(all_goals (try conv => whnf))))
                all_goals exact hup
              · have e : j = gone.length := by omega
                rw [e, List.take_length]
                clear e
                ((repeat' ((conv => whnf);(first|refine zA ?_|(refine zI ?_ ?_<;> intro hh<;> first|(exfalso;omega)|skip)|(refine zl ?_ ?_<;> intro hh)|refine zq ?_|refine zv ?_|refine zu ?_|exact Sy.fin_val fun e=>rfl)));(all_goals (try conv => whnf)))
                refine Sy.call_in Sy.lv22 Sy.tab_ok Try.func22 rfl _ Try.ntmps22 Try.call22 rfl (fun _ => ?_)
                ((repeat' ((conv => whnf);(first|refine zA ?_|(refine zI ?_ ?_<;> intro hh<;> first|(exfalso;omega)|skip)|(refine zl ?_ ?_<;> intro hh)|refine zq ?_|refine zv ?_|refine zu ?_|exact Sy.fin_val fun e=>rfl)));(all_goals (try conv => whnf)))
                refine Sy.call_val (.c (.v (.int .i64 0))) Try.call24 rfl (fun e a w' h => by have := check_any kp' (e.rv 9) xs' w' (Sy.row_reads h (.inl ⟨_, rfl⟩)); rw [chkE_ok h2] at this; exact this) ?_
                ((repeat' ((conv => whnf);(first|refine zA ?_|(refine zI ?_ ?_<;> intro hh<;> first|(exfalso;omega)|skip)|(refine zl ?_ ?_<;> intro hh)|refine zq ?_|refine zv ?_|refine zu ?_|exact Sy.fin_val fun e=>rfl)));(all_goals (try conv => whnf)))
                have hTn : (xs'.map (·.number)).Nodup := (okL_asc xs' k0 (okS_bd h2).2.2.2).imp (fun h => by omega)
                have hkn := m1.kn
                have hdn := m1.dn
                obtain ⟨C, hC⟩ : ∃ C : Nat → Nat, C = fun i => cntP (xs'.take i) := ⟨_, rfl⟩
                obtain ⟨T, hT⟩ : ∃ T : Nat → List Int, T = fun i => (xs'.take i).map (·.number) := ⟨_, rfl⟩
                have hC0 : C 0 = 0 := by rw [hC]; dsimp only; unfold cntP; rfl
                have hT0 : T 0 = [] := by rw [hT]; rfl
                have hCn : C xs'.length = cntP xs' := by rw [hC]; dsimp only; rw [List.take_length]
                have hTl : T xs'.length = xs'.map (·.number) := by rw [hT]; dsimp only; rw [List.take_length]
                have hCs : ∀ i q, xs'[i]? = some q → C (i + 1) = C i + (if plainK q = true then 1 else 0) := fun i q hq => by
                  rw [hC]; dsimp only
                  exact cnt_snoc hq
                have hTs : ∀ i q, xs'[i]? = some q → T (i + 1) = T i ++ [q.number] ∧ q.number ∉ T i := fun i q hq => by
                  obtain ⟨i1, i2⟩ := List.getElem?_eq_some_iff.1 hq
                  rw [hT]; dsimp only
                  refine ⟨by rw [List.take_succ_eq_append_getElem i1, i2, List.map_append, List.map_singleton], fun hm => ?_⟩
                  obtain ⟨r, hr, he⟩ := List.mem_map.1 hm
                  obtain ⟨i', hi'⟩ := List.mem_iff_getElem?.1 hr
                  have hlt : i' < i := by
                    have := (List.getElem?_eq_some_iff.1 hi').1
                    rw [List.length_take] at this; omega
                  rw [List.getElem?_take_of_lt hlt] at hi'
                  have g1 : (xs'.map (·.number))[i']? = some q.number := by rw [List.getElem?_map, hi', ← he]; rfl
                  have g2 : (xs'.map (·.number))[i]? = some q.number := by rw [List.getElem?_map, hq]; rfl
                  have := (List.getElem?_inj (List.getElem?_eq_some_iff.1 g1).1 hTn).1 (g1.trans g2.symm)
                  omega
                have hCl : ∀ i, C i ≤ 16 := fun i => by
                  rw [hC]; dsimp only
                  unfold cntP
                  have := List.length_filter_le plainK (xs'.take i)
                  rw [List.length_take] at this
                  omega
                clear hC hT
                refine Sy.loop_inv Sy.tab_ok (fun i : Nat => [(25, .c (.v (.int .i64 i))), (11, .c (.v (.int .i64 (C i))))]) (fun i => [(12, .mp (mpU (T i) fun _ => true))]) (fun i => i ≤ xs'.length) (fun i => xs'.length - i) 0 (Nat.zero_le _) ?_ (fun i hi => ?_)
                · rw [hC0, hT0, mpU_nil]
                  ((repeat' (first|((conv => whnf);done)|((try conv => whnf);first|exact trivial|(refine And.intro ?_ ?_)|rfl|exact fun _ _ _ h=>h|exact fun _ _ _ _=>trivial)));(all_goals (try conv => whnf)))
                · by_cases hil : i < xs'.length
                  ·
                    have hgi := List.getElem?_eq_getElem hil
                    have hrow := m1.rows _ (List.getElem_mem hil)
                    obtain ⟨ht1, ht2⟩ := hTs i _ hgi
                    have hcs := hCs i _ hgi
                    have hcl := hCl i
                    generalize xs'[i] = q at *
                    obtain ⟨a, b, c, e⟩ := hrow
                    have hup := u_add (f := fun _ => true) true ht2
                    rw [updB_true, ← ht1] at hup
                    obtain ⟨num, sa, oq⟩ := q
                    dsimp only at a b c e hup ht1 ht2
                    ((repeat' ((conv => whnf);(first|refine zA ?_|(refine zI ?_ ?_<;> intro hh<;> first|(exfalso;omega)|skip)|(refine zl ?_ ?_<;> intro hh)|refine zq ?_|refine zv ?_|refine zu ?_|exact Sy.fin_val fun e=>rfl)));(all_goals (try conv => whnf)))
                    refine Sy.el_map _ hgi ?_
                    ((repeat' ((conv => whnf);(first|refine zA ?_|(refine zI ?_ ?_<;> intro hh<;> first|(exfalso;omega)|skip)|(refine zl ?_ ?_<;> intro hh)|refine zq ?_|refine zv ?_|refine zu ?_|exact Sy.fin_val fun e=>rfl)));(all_goals (try conv => whnf)))
                    refine u_miss num ht2 ?_
                    ((repeat' ((conv => whnf);(first|refine zA ?_|(refine zI ?_ ?_<;> intro hh<;> first|(exfalso;omega)|skip)|(refine zl ?_ ?_<;> intro hh)|refine zq ?_|refine zv ?_|refine zu ?_|exact Sy.fin_val fun e=>rfl)));(all_goals (try conv => whnf)))
                    refine u_miss num b ?_
                    ((repeat' ((conv => whnf);(first|refine zA ?_|(refine zI ?_ ?_<;> intro hh<;> first|(exfalso;omega)|skip)|(refine zl ?_ ?_<;> intro hh)|refine zq ?_|refine zv ?_|refine zu ?_|exact Sy.fin_val fun e=>rfl)));(all_goals (try conv => whnf)))
                    refine u_hit num hkn a (fun p1 hp1 => ?_)
                    rw [← c]
                    cases sa
                    all_goals
                      ((repeat' ((conv => whnf);(first|refine zA ?_|(refine zI ?_ ?_<;> intro hh<;> first|(exfalso;omega)|skip)|(refine zl ?_ ?_<;> intro hh)|refine zq ?_|refine zv ?_|refine zu ?_|exact Sy.fin_val fun e=>rfl)));(all_goals (try conv => whnf)))
                      refine u_hit num hkn a (fun p2 hp2 => ?_)
                      rw [← e]
                      cases oq
                    all_goals (((repeat' ((conv => whnf);(first|refine zA ?_|(refine zI ?_ ?_<;> intro hh<;> first|(exfalso;omega)|skip)|(refine zl ?_ ?_<;> intro hh)|refine zq ?_|refine zv ?_|refine zu ?_|exact Sy.fin_val fun e=>rfl)));(all_goals (try conv => whnf))))
                    all_goals (refine ⟨i + 1, by omega, by omega, ?_⟩)
                    all_goals rw [hcs]
                    all_goals (((repeat' (first|((conv => whnf);done)|((try conv => whnf);first|exact trivial|(refine And.intro ?_ ?_)|rfl|exact fun _ _ _ h=>h|exact fun _ _ _ _=>trivial)));(all_goals (try conv => whnf))))
                    all_goals exact hup
                  · have e : i = xs'.length := by omega
                    rw [e, hCn, hTl]
                    have hcl := hCl xs'.length
                    rw [hCn] at hcl
                    clear e hCs hTs hCl hC0 hT0 hCn hTl
                    ((repeat' ((conv => whnf);(first|refine zA ?_|(refine zI ?_ ?_<;> intro hh<;> first|(exfalso;omega)|skip)|(refine zl ?_ ?_<;> intro hh)|refine zq ?_|refine zv ?_|refine zu ?_|exact Sy.fin_val fun e=>rfl)));(all_goals (try conv => whnf)))
                    refine Sy.rng_in (fun g st cl hs1 hs2 hs3 => ?_)
                    ((repeat' ((conv => whnf);(first|refine zA ?_|(refine zI ?_ ?_<;> intro hh<;> first|(exfalso;omega)|skip)|(refine zl ?_ ?_<;> intro hh)|refine zq ?_|refine zv ?_|refine zu ?_|exact Sy.fin_val fun e=>rfl)));(all_goals (try conv => whnf)))
                    refine Sy.loop_inv Sy.tab_ok (fun _ : List Nat => []) (fun x => [(13, .it g st cl x)]) (fun _ => True) (fun x => x.length) (List.range (mpU ks' op').length) trivial ?_ (fun left _ => ?_)
                    · ((repeat' (first|((conv => whnf);done)|((try conv => whnf);first|exact trivial|(refine And.intro ?_ ?_)|rfl|exact fun _ _ _ h=>h|exact fun _ _ _ _=>trivial)));(all_goals (try conv => whnf)))
                    · ((repeat' ((conv => whnf);(first|refine zA ?_|(refine zI ?_ ?_<;> intro hh<;> first|(exfalso;omega)|skip)|(refine zl ?_ ?_<;> intro hh)|refine zq ?_|refine zv ?_|refine zu ?_|exact Sy.fin_val fun e=>rfl)));(all_goals (try conv => whnf)))
                      refine Sy.nxt_in 4 (mpU ks' op') rfl mpU_one (fun h0 => ?_) (fun i kv y hi hz => ?_)
                      · ((repeat' ((conv => whnf);(first|refine zA ?_|(refine zI ?_ ?_<;> intro hh<;> first|(exfalso;omega)|skip)|(refine zl ?_ ?_<;> intro hh)|refine zq ?_|refine zv ?_|refine zu ?_|exact Sy.fin_val fun e=>rfl)));(all_goals (try conv => whnf)))
                        have hla : latestV kp' xs' = if 0 < xs'.length then (lastOf xs', true) else (k0, false) := by
                          unfold latestV
                          by_cases h0 : 0 < xs'.length
                          · rw [if_pos ⟨h2, h0⟩, if_pos h0]
                          · rw [if_neg (fun h => h0 h.2), if_neg h0]
                        have hml := m1.la
                        by_cases h0 : 0 < xs'.length
                        · rw [if_pos h0] at hla
                          generalize lastOf xs' = q at *
                          obtain ⟨qn, qs, qo⟩ := q
                          dsimp only at hml
                          subst hml
                          refine Sy.call_val (.tup [.agg [.v (.int .u64 qn), .v (.bool qs), .v (.bool qo)], .c (.v (.bool true))]) Try.call17 rfl (fun e a w' h => by have := latest_any kp' (e.rv 9) xs' w' (Sy.row_reads h (.inl ⟨_, rfl⟩)); rw [hla] at this; exact this) ?_
                          ((repeat' ((conv => whnf);(first|refine zA ?_|(refine zI ?_ ?_<;> intro hh<;> first|(exfalso;omega)|skip)|(refine zl ?_ ?_<;> intro hh)|refine zq ?_|refine zv ?_|refine zu ?_|exact Sy.fin_val fun e=>rfl)));(all_goals (try conv => whnf)))
                          all_goals (refine ⟨⟨n + 1, xs', qn, settled', ds ++ gone, ks', sv', op'⟩, ⟨by dsimp only; omega, m1, h2, m5⟩, by dsimp only; omega, ?_⟩)
                          all_goals dsimp only
                          all_goals (((repeat' (first|((conv => whnf);done)|((try conv => whnf);first|exact trivial|(refine And.intro ?_ ?_)|rfl|exact fun _ _ _ h=>h|exact fun _ _ _ _=>trivial)));(all_goals (try conv => whnf))))
                        · rw [if_neg h0] at hla
                          have hx0 : xs' = [] := List.eq_nil_of_length_eq_zero (by omega)
                          have hl0 : last' = 0 := by rw [← hml, hx0]; rfl
                          refine Sy.call_val (.tup [.agg [.v (.int .u64 0), .v (.bool false), .v (.bool false)], .c (.v (.bool false))]) Try.call17 rfl (fun e a w' h => by have := latest_any kp' (e.rv 9) xs' w' (Sy.row_reads h (.inl ⟨_, rfl⟩)); rw [hla] at this; exact this) ?_
                          ((repeat' ((conv => whnf);(first|refine zA ?_|(refine zI ?_ ?_<;> intro hh<;> first|(exfalso;omega)|skip)|(refine zl ?_ ?_<;> intro hh)|refine zq ?_|refine zv ?_|refine zu ?_|exact Sy.fin_val fun e=>rfl)));(all_goals (try conv => whnf)))
                          all_goals (refine ⟨⟨n + 1, xs', last', settled', ds ++ gone, ks', sv', op'⟩, ⟨by dsimp only; omega, m1, h2, m5⟩, by dsimp only; omega, ?_⟩)
                          all_goals dsimp only
                          all_goals (((repeat' (first|((conv => whnf);done)|((try conv => whnf);first|exact trivial|(refine And.intro ?_ ?_)|rfl|exact fun _ _ _ h=>h|exact fun _ _ _ _=>trivial)));(all_goals (try conv => whnf))))
                      · obtain ⟨z, hz1, rfl, rfl⟩ := mpU_at hz
                        have hzk := List.mem_of_getElem? hz1
                        ((repeat' ((conv => whnf);(first|refine zA ?_|(refine zI ?_ ?_<;> intro hh<;> first|(exfalso;omega)|skip)|(refine zl ?_ ?_<;> intro hh)|refine zq ?_|refine zv ?_|refine zu ?_|exact Sy.fin_val fun e=>rfl)));(all_goals (try conv => whnf)))
                        refine Sy.ent_in 4 (mpU ks' op') rfl mpU_one (fun kv2 x2 hz2 => ?_)
                        obtain ⟨z2, hz3, rfl, rfl⟩ := mpU_at hz2
                        rw [hz1] at hz3
                        obtain rfl := Option.some.inj hz3
                        have hth : z ∉ ds ++ gone → z ∈ xs'.map (·.number) := fun h => by
                          obtain ⟨r, hr, he⟩ := m1.kr z hzk h
                          exact List.mem_map.2 ⟨r, hr, he⟩
                        have hdr := m1.dr z
                        ((repeat' ((conv => whnf);(first|refine zA ?_|(refine zI ?_ ?_<;> intro hh<;> first|(exfalso;omega)|skip)|(refine zl ?_ ?_<;> intro hh)|refine zq ?_|refine zv ?_|refine zu ?_|exact Sy.fin_val fun e=>rfl)));(all_goals (try conv => whnf)))
                        refine u_hit z hkn hzk (fun p1 hp1 => ?_)
                        cases hoz : op' z with
                        | true =>
                          have hzt := hth fun hm => by have := (hdr hm).2.2; rw [hoz] at this; cases this
                          ((repeat' ((conv => whnf);(first|refine zA ?_|(refine zI ?_ ?_<;> intro hh<;> first|(exfalso;omega)|skip)|(refine zl ?_ ?_<;> intro hh)|refine zq ?_|refine zv ?_|refine zu ?_|exact Sy.fin_val fun e=>rfl)));(all_goals (try conv => whnf)))
                          refine u_hit z hTn hzt (fun p2 hp2 => ?_)
                          ((repeat' ((conv => whnf);(first|refine zA ?_|(refine zI ?_ ?_<;> intro hh<;> first|(exfalso;omega)|skip)|(refine zl ?_ ?_<;> intro hh)|refine zq ?_|refine zv ?_|refine zu ?_|exact Sy.fin_val fun e=>rfl)));(all_goals (try conv => whnf)))
                          refine u_hit z hTn hzt (fun p2 hp2 => ?_)
                          ((repeat' ((conv => whnf);(first|refine zA ?_|(refine zI ?_ ?_<;> intro hh<;> first|(exfalso;omega)|skip)|(refine zl ?_ ?_<;> intro hh)|refine zq ?_|refine zv ?_|refine zu ?_|exact Sy.fin_val fun e=>rfl)));(all_goals (try conv => whnf)))
                          refine ⟨left.filter fun j => !(Nat.beq j i), trivial, left_less hi, ?_⟩
                          ((repeat' (first|((conv => whnf);done)|((try conv => whnf);first|exact trivial|(refine And.intro ?_ ?_)|rfl|exact fun _ _ _ h=>h|exact fun _ _ _ _=>trivial)));(all_goals (try conv => whnf)))
                        | false =>
                          ((repeat' ((conv => whnf);(first|refine zA ?_|(refine zI ?_ ?_<;> intro hh<;> first|(exfalso;omega)|skip)|(refine zl ?_ ?_<;> intro hh)|refine zq ?_|refine zv ?_|refine zu ?_|exact Sy.fin_val fun e=>rfl)));(all_goals (try conv => whnf)))
                          refine u_hit z hkn hzk (fun p2 hp2 => ?_)
                          cases hsz : sv' z with
                          | true =>
                            have hzt := hth fun hm => by have := (hdr hm).2.1; rw [hsz] at this; cases this
                            ((repeat' ((conv => whnf);(first|refine zA ?_|(refine zI ?_ ?_<;> intro hh<;> first|(exfalso;omega)|skip)|(refine zl ?_ ?_<;> intro hh)|refine zq ?_|refine zv ?_|refine zu ?_|exact Sy.fin_val fun e=>rfl)));(all_goals (try conv => whnf)))
                            refine u_hit z hTn hzt (fun p3 hp3 => ?_)
                            ((repeat' ((conv => whnf);(first|refine zA ?_|(refine zI ?_ ?_<;> intro hh<;> first|(exfalso;omega)|skip)|(refine zl ?_ ?_<;> intro hh)|refine zq ?_|refine zv ?_|refine zu ?_|exact Sy.fin_val fun e=>rfl)));(all_goals (try conv => whnf)))
                            refine u_hit z hTn hzt (fun p3 hp3 => ?_)
                            ((repeat' ((conv => whnf);(first|refine zA ?_|(refine zI ?_ ?_<;> intro hh<;> first|(exfalso;omega)|skip)|(refine zl ?_ ?_<;> intro hh)|refine zq ?_|refine zv ?_|refine zu ?_|exact Sy.fin_val fun e=>rfl)));(all_goals (try conv => whnf)))
                            refine ⟨left.filter fun j => !(Nat.beq j i), trivial, left_less hi, ?_⟩
                            ((repeat' (first|((conv => whnf);done)|((try conv => whnf);first|exact trivial|(refine And.intro ?_ ?_)|rfl|exact fun _ _ _ h=>h|exact fun _ _ _ _=>trivial)));(all_goals (try conv => whnf)))
                          | false =>
                            ((repeat' ((conv => whnf);(first|refine zA ?_|(refine zI ?_ ?_<;> intro hh<;> first|(exfalso;omega)|skip)|(refine zl ?_ ?_<;> intro hh)|refine zq ?_|refine zv ?_|refine zu ?_|exact Sy.fin_val fun e=>rfl)));(all_goals (try conv => whnf)))
                            by_cases hzt : z ∈ xs'.map (·.number)
                            · refine u_hit z hTn hzt (fun p3 hp3 => ?_)
                              ((repeat' ((conv => whnf);(first|refine zA ?_|(refine zI ?_ ?_<;> intro hh<;> first|(exfalso;omega)|skip)|(refine zl ?_ ?_<;> intro hh)|refine zq ?_|refine zv ?_|refine zu ?_|exact Sy.fin_val fun e=>rfl)));(all_goals (try conv => whnf)))
                              refine ⟨left.filter fun j => !(Nat.beq j i), trivial, left_less hi, ?_⟩
                              ((repeat' (first|((conv => whnf);done)|((try conv => whnf);first|exact trivial|(refine And.intro ?_ ?_)|rfl|exact fun _ _ _ h=>h|exact fun _ _ _ _=>trivial)));(all_goals (try conv => whnf)))
                            · have hzd : z ∈ ds ++ gone := by
                                by_cases hm : z ∈ ds ++ gone
                                · exact hm
                                · exact absurd (hth hm) hzt
                              refine u_miss z hzt ?_
                              ((repeat' ((conv => whnf);(first|refine zA ?_|(refine zI ?_ ?_<;> intro hh<;> first|(exfalso;omega)|skip)|(refine zl ?_ ?_<;> intro hh)|refine zq ?_|refine zv ?_|refine zu ?_|exact Sy.fin_val fun e=>rfl)));(all_goals (try conv => whnf)))
                              refine u_hit z hdn hzd (fun p3 hp3 => ?_)
                              ((repeat' ((conv => whnf);(first|refine zA ?_|(refine zI ?_ ?_<;> intro hh<;> first|(exfalso;omega)|skip)|(refine zl ?_ ?_<;> intro hh)|refine zq ?_|refine zv ?_|refine zu ?_|exact Sy.fin_val fun e=>rfl)));(all_goals (try conv => whnf)))
                              refine ⟨left.filter fun j => !(Nat.beq j i), trivial, left_less hi, ?_⟩
                              ((repeat' (first|((conv => whnf);done)|((try conv => whnf);first|exact trivial|(refine And.intro ?_ ?_)|rfl|exact fun _ _ _ h=>h|exact fun _ _ _ _=>trivial)));(all_goals (try conv => whnf)))
end Go.Proofs.Ytkmdmjnbjoakbaa
