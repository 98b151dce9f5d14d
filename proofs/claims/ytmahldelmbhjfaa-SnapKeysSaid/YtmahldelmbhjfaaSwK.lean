/- Snap: the law Keys. -/
import Derived.Test.YtmahldelmbhjfaaSwH
import Derived.Test.YtmahldelmbhjfaaSwI
namespace Go.Proofs.Ytmahldelmbhjfaa
open Go Go.RowKit
open Sy (C SV V1 Blk St XD Els)
set_option maxRecDepth 10000

theorem rescE_not {L : List Sn} {m : Nat} (hz : wholeE L ≠ 0) : rescE L (m : Int) = wholeE L := if_neg hz
theorem was_step {L : List Sn} {n : Nat} {p : Sn} (s k : Int) (h : L[n]? = some p) : wasF (L.take (n + 1)) s k = if getK p.rows s k = (0, 0) then wasF (L.take n) s k else getK p.rows s k := by
  obtain ⟨hn, he⟩ := List.getElem?_eq_some_iff.1 h
  rw [List.take_succ_eq_append_getElem hn, he, wasF_snoc]
theorem sum_step {L : List Sn} {n : Nat} {p : Sn} (g : Fin 8) (h : L[n]? = some p) : sumF (L.take (n + 1)) g = sumF (L.take n) g + p.offs g := by
  obtain ⟨hn, he⟩ := List.getElem?_eq_some_iff.1 h
  rw [List.take_succ_eq_append_getElem hn, he, sumF_snoc]
attribute [local irreducible] ownW tblB namesB rightP wholeS wholeE wholeV partsL shortsL rescV rescE wasF sumF getK mineP
set_option maxHeartbeats 8000000 in
theorem lkeys_any (v : Value) (wd ks kk kv : Int) (ls : List SnV) (w : World) (hr : SsOk (fun b => b < w.heap.size) w v ls) :
    Calls Try.prog 6 #[v, .int .i64 wd, .agg #[.int .i64 ks, .int .i64 kk, .int .i64 kv]] w (Sy.Ret (.bool true) w) := by
  have hl := ok_len hr.1
  refine Sy.calls_of Sy.lv6 Sy.tab_ok Try.func6 rfl _ Try.ntmps6 [⟨v, 14, ls.length, ls.map encS⟩] [.c (.row 0), .c (.v (.int .i64 wd)), .agg [.v (.int .i64 ks), .v (.int .i64 kk), .v (.int .i64 kv)]] rfl rfl rfl ⟨hr.1, trivial⟩ ?_
  ((repeat' ((conv => whnf);(first|refine zA ?_|(refine zI ?_ ?_<;> intro hh<;> first|(exfalso;omega)|skip)|(refine zl ?_ ?_<;> intro hh)|refine zq ?_|refine zv ?_|refine zu ?_|exact Sy.fin_val fun e=>rfl)));(all_goals (try conv => whnf)))
  refine Sy.call_val (.c (.v (.bool true))) Try.call10 rfl (fun e a w' h => wakes_any w') ?_
  ((repeat' ((conv => whnf);(first|refine zA ?_|(refine zI ?_ ?_<;> intro hh<;> first|(exfalso;omega)|skip)|(refine zl ?_ ?_<;> intro hh)|refine zq ?_|refine zv ?_|refine zu ?_|exact Sy.fin_val fun e=>rfl)));(all_goals (try conv => whnf)))
  refine Sy.call_mem (fun (x : SlL (shortsL (snsOf ls))) G w' => SsOk G w' x.v x.ls) (fun x => .c (.v x.v)) Try.call18 (fun x => x.h) (fun x G G' w1 w2 h hG hk => h.keep hG hk) (fun e a w' h => shorts_mem _ ls w' ⟨Sy.row_reads h (.inr rfl), fun s hs => ⟨Sy.later_in h (hr.2 s hs).rows, Sy.later_in h (hr.2 s hs).txs⟩⟩) (fun x G1 => ?_)
  obtain ⟨lv, la, hlv, hla, hlo⟩ := x
  generalize shortsL (snsOf ls) = L at *
  ((repeat' ((conv => whnf);(first|refine zA ?_|(refine zI ?_ ?_<;> intro hh<;> first|(exfalso;omega)|skip)|(refine zl ?_ ?_<;> intro hh)|refine zq ?_|refine zv ?_|refine zu ?_|exact Sy.fin_val fun e=>rfl)));(all_goals (try conv => whnf)))
  refine Sy.ar_wrap ?_
  have hu := u64_mod wd
  ((repeat' ((conv => whnf);(first|refine zA ?_|(refine zI ?_ ?_<;> intro hh<;> first|(exfalso;omega)|skip)|(refine zl ?_ ?_<;> intro hh)|refine zq ?_|refine zv ?_|refine zu ?_|exact Sy.fin_val fun e=>rfl)));(all_goals (try conv => whnf)))
  refine Sy.rem_in hu.1 (by decide) ?_
  ((repeat' ((conv => whnf);(first|refine zA ?_|(refine zI ?_ ?_<;> intro hh<;> first|(exfalso;omega)|skip)|(refine zl ?_ ?_<;> intro hh)|refine zq ?_|refine zv ?_|refine zu ?_|exact Sy.fin_val fun e=>rfl)));(all_goals (try conv => whnf)))
  have hm3 : ∃ m : Nat, (1 : Int) + IntKind.u64.wrap wd % 3 = (m : Int) ∧ 1 ≤ m ∧ m ≤ 3 := ⟨(1 + IntKind.u64.wrap wd % 3).toNat, by omega, by omega, by omega⟩
  obtain ⟨m, hm, hm1, hm2⟩ := hm3
  rw [hm]
  refine Sy.call_mem (fun (x : SlL (rescV L m)) G w' => SsOk G w' x.v x.ls) (fun x => .tup [.c (.v x.v), .c (.v (.int .i64 (rescE L m)))]) Try.call22 (fun x => slE_lt _ x.h) (fun x G G' w1 w2 h hG hk => h.keep hG hk) (fun e a w' h => by
    have := resc_mem lv la m w' (SsOk.mono (h.ev w' fun _ _ => rfl).2 fun b hb => h.fl b hb)
    rw [hla] at this; exact this) (fun x G2 => ?_)
  obtain ⟨pv, pa, hpv, hpa, hpo⟩ := x
  ((repeat' ((conv => whnf);(first|refine zA ?_|(refine zI ?_ ?_<;> intro hh<;> first|(exfalso;omega)|skip)|(refine zl ?_ ?_<;> intro hh)|refine zq ?_|refine zv ?_|refine zu ?_|exact Sy.fin_val fun e=>rfl)));(all_goals (try conv => whnf)))
  refine Sy.call_in Sy.lv24 Sy.tab_ok Try.func24 rfl _ Try.ntmps24 Try.call24 rfl (fun _ => ?_)
  ((repeat' ((conv => whnf);(first|refine zA ?_|(refine zI ?_ ?_<;> intro hh<;> first|(exfalso;omega)|skip)|(refine zl ?_ ?_<;> intro hh)|refine zq ?_|refine zv ?_|refine zu ?_|exact Sy.fin_val fun e=>rfl)));(all_goals (try conv => whnf)))
  by_cases hrc : recP ks kk
  · refine Sy.call_val (.c (.v (.int .i64 0))) Try.call53 rfl (fun e a w' h => by have := rec_any ks kk kv w'; rw [if_pos hrc] at this; exact this) ?_
    have hrc' := hrc
    unfold recP at hrc'
    by_cases hz : wholeE L = 0
    · rw [rescE_zero hz ⟨hm1, hm2⟩]
      have hpq := hpa.trans (rescV_zero hz ⟨hm1, hm2⟩)
      have hpl : pa.length = m := by rw [← sns_len, hpq, partsL_len]
      have hlal : la.length = L.length := by rw [← sns_len, hla]
      obtain ⟨s0, _, hl3, _⟩ := whole_win hz
      ((repeat' ((conv => whnf);(first|refine zA ?_|(refine zI ?_ ?_<;> intro hh<;> first|(exfalso;omega)|skip)|(refine zl ?_ ?_<;> intro hh)|refine zq ?_|refine zv ?_|refine zu ?_|exact Sy.fin_val fun e=>rfl)));(all_goals (try conv => whnf)))
      refine Sy.rem_in hrc'.2.2.1 (by decide) ?_
      obtain ⟨g, hgx⟩ : ∃ g : Fin 8, kk % 8 = (g.val : Int) := ⟨⟨(kk % 8).toNat, by omega⟩, by show _ = (((kk % 8).toNat : Nat) : Int); omega⟩
      have hall := (whole_zero hz).1
      have hW := whole_right hz
      have hLb : ∀ p ∈ L, 0 ≤ p.offs g ∧ p.offs g ≤ 40 := fun p hp => ⟨(offs_right (hall p hp) g).1, (offs_right (hall p hp) g).2.1⟩
      have hPb : ∀ p ∈ partsL (wholeS L) m m, 0 ≤ p.offs g ∧ p.offs g ≤ 40 := fun p hp => by
        obtain ⟨i, hi, rfl⟩ := parts_mem hp
        have := offs_right (part_right hW (i := (i : Int)) (m := (m : Int)) (by unfold shareP; omega)) g
        exact ⟨this.1, this.2.1⟩
      have hbL := sumF_bound hLb
      have hbP := sumF_bound hPb
      have hwas := keys_was hz ⟨hm1, hm2⟩ ks kk
      have hsum := keys_sum hz ⟨hm1, hm2⟩ g
      have hnone := fun (i : Nat) (hi : i < m) (hn : ¬ mineP ks kk i m) => keys_none hz hrc (i := (i : Int)) (m := (m : Int)) (by unfold shareP; omega) hn hgx.symm
      have hat := fun (i : Nat) (hi : i < m) => parts_at (s := wholeS L) (m := m) (k := m) hi
      have hPl := partsL_len (wholeS L) m m
      generalize partsL (wholeS L) m m = P at *
      clear hrc' hall hW hLb hPb hu hm
      generalize hkx : kk % 8 = kx at *
      ((repeat' ((conv => whnf);(first|refine zA ?_|(refine zI ?_ ?_<;> intro hh<;> first|(exfalso;omega)|skip)|(refine zl ?_ ?_<;> intro hh)|refine zu ?_|exact Sy.fin_val fun e=>rfl)));(all_goals (try conv => whnf)))
      refine Sy.cut_sem ?_
      refine Sy.sem_subF (Sy.sub_openS 7 14 la.length (la.map encS) rfl (fun e a w' h => (SsOk.mono (h.ev w' fun _ _ => rfl).1.2 fun b hb => .inl hb).1.1) hlo) ?_
      conv => whnf
      refine Sy.sem_subF (Sy.sub_openS 8 14 pa.length (pa.map encS) rfl (fun e a w' h => (h.ev w' fun _ _ => rfl).2.1.1) hpo) ?_
      conv => whnf
      refine Sy.seq_go Sy.tab_ok ?_
      refine Sy.region_go Sy.tab_ok ?_
      ((repeat' ((conv => whnf);(first|refine zA ?_|(refine zI ?_ ?_<;> intro hh<;> first|(exfalso;omega)|skip)|(refine zl ?_ ?_<;> intro hh)|refine zq ?_|refine zv ?_|refine zu ?_|exact Sy.fin_val fun e=>rfl)));(all_goals (try conv => whnf)))
      refine Sy.loop_inv Sy.tab_ok (fun n : Nat => [(50, .c (.v (.int .i64 n))), (14, .c (.v (.int .i64 (sumF (L.take n) g))))]) (fun n => [(5, .cells 58 [.v (.int .i64 (wasF (L.take n) ks kk).1), .v (.int .i64 (wasF (L.take n) ks kk).2)])]) (fun n => n ≤ la.length) (fun n => la.length - n) 0 (Nat.zero_le _) ?_ (fun n hn => ?_)
      · rw [show wasF (L.take 0) ks kk = (0, 0) by unfold wasF; rfl, show sumF (L.take 0) g = 0 by unfold sumF; rfl]
        ((repeat' (first|((conv => whnf);done)|((try conv => whnf);first|exact trivial|(refine And.intro ?_ ?_)|rfl|exact fun _ _ _ h=>h|exact fun _ _ _ _=>trivial)));(all_goals (try conv => whnf)))
      · by_cases hlt : n < la.length
        · have hg := List.getElem?_eq_getElem hlt
          have hxm := List.getElem_mem hlt
          generalize la[n] = x at *
          have hxs := sns_get hg
          rw [hla] at hxs
          have hws := was_step ks kk hxs
          have hss := sum_step g hxs
          have hb1 := hbL n
          have hb2 := hbL (n + 1)
          obtain ⟨xs, xr, xt⟩ := x
          dsimp only at hws hss hxs
          ((repeat' ((conv => whnf);(first|refine zA ?_|(refine zI ?_ ?_<;> intro hh<;> first|(exfalso;omega)|skip)|(refine zl ?_ ?_<;> intro hh)|refine zq ?_|refine zv ?_|refine zu ?_|exact Sy.fin_val fun e=>rfl)));(all_goals (try conv => whnf)))
          refine Sy.el_map _ hg ?_
          ((repeat' ((conv => whnf);(first|refine zA ?_|(refine zI ?_ ?_<;> intro hh<;> first|(exfalso;omega)|skip)|(refine zl ?_ ?_<;> intro hh)|refine zq ?_|refine zv ?_|refine zu ?_|exact Sy.fin_val fun e=>rfl)));(all_goals (try conv => whnf)))
          refine Sy.call_val (.agg [.v (.int .i64 (getK xs.rows ks kk).1), .v (.int .i64 (getK xs.rows ks kk).2)]) Try.call25 rfl (fun e a w' h => get_any xr xs.rows ks kk kv w' (XD.ok.mono ((h.ev w' fun _ _ => rfl).1.2.2 _ hxm).rows fun b hb => h.fl b (.inl hb))) ?_
          generalize getK xs.rows ks kk = c at *
          generalize wasF (L.take n) ks kk = u0 at *
          obtain ⟨c1, c2⟩ := c
          dsimp only at hws ⊢
          have hcut : (c1 ≠ 0 ∨ c2 ≠ 0) ∨ (c1 = 0 ∧ c2 = 0) := by omega
          rcases hcut with hc | hc
          · have hb : (c1 == 0 && c2 == 0) = false := by
              rw [Bool.and_eq_false_iff, beq_eq_false_iff_ne, beq_eq_false_iff_ne]; exact hc
            rw [if_neg (by intro h; have := Prod.mk.inj h; omega)] at hws
            clear hsum hnone hbL hbP
            induction g, kx, hgx using fin8x
            all_goals
              ((repeat' ((conv => whnf);(first|refine zA ?_|(refine zI ?_ ?_<;> intro hh<;> first|(exfalso;omega)|skip)|(refine zl ?_ ?_<;> intro hh)|refine zq ?_|refine zv ?_|refine zu ?_|exact Sy.fin_val fun e=>rfl)));(all_goals (try conv => whnf)))
              refine ⟨n + 1, by omega, by omega, ?_⟩
              rw [hws, hss]
              ((repeat' (first|((conv => whnf);done)|((try conv => whnf);first|exact trivial|(refine And.intro ?_ ?_)|rfl|exact fun _ _ _ h=>h|exact fun _ _ _ _=>trivial)));(all_goals (try conv => whnf)))
          · obtain ⟨rfl, rfl⟩ := hc
            rw [if_pos rfl] at hws
            clear hsum hnone hbL hbP
            induction g, kx, hgx using fin8x
            all_goals
              ((repeat' ((conv => whnf);(first|refine zA ?_|(refine zI ?_ ?_<;> intro hh<;> first|(exfalso;omega)|skip)|(refine zl ?_ ?_<;> intro hh)|refine zq ?_|refine zv ?_|refine zu ?_|exact Sy.fin_val fun e=>rfl)));(all_goals (try conv => whnf)))
              refine ⟨n + 1, by omega, by omega, ?_⟩
              rw [hws, hss]
              ((repeat' (first|((conv => whnf);done)|((try conv => whnf);first|exact trivial|(refine And.intro ?_ ?_)|rfl|exact fun _ _ _ h=>h|exact fun _ _ _ _=>trivial)));(all_goals (try conv => whnf)))
        · have e : L.take n = L := List.take_of_length_le (by omega)
          rw [e]
          clear hbL
          ((repeat' ((conv => whnf);(first|refine zA ?_|(refine zI ?_ ?_<;> intro hh<;> first|(exfalso;omega)|skip)|(refine zl ?_ ?_<;> intro hh)|refine zq ?_|refine zv ?_|refine zu ?_|exact Sy.fin_val fun e=>rfl)));(all_goals (try conv => whnf)))
          refine Sy.loop_inv Sy.tab_ok (fun n : Nat => [(71, .c (.v (.int .i64 n))), (15, .c (.v (.int .i64 (sumF (P.take n) g))))]) (fun n => [(6, .cells 58 [.v (.int .i64 (wasF (P.take n) ks kk).1), .v (.int .i64 (wasF (P.take n) ks kk).2)])]) (fun n => n ≤ pa.length) (fun n => pa.length - n) 0 (Nat.zero_le _) ?_ (fun n hn => ?_)
          · rw [show wasF (P.take 0) ks kk = (0, 0) by unfold wasF; rfl, show sumF (P.take 0) g = 0 by unfold sumF; rfl]
            ((repeat' (first|((conv => whnf);done)|((try conv => whnf);first|exact trivial|(refine And.intro ?_ ?_)|rfl|exact fun _ _ _ h=>h|exact fun _ _ _ _=>trivial)));(all_goals (try conv => whnf)))
          · by_cases hlt : n < pa.length
            · have hg := List.getElem?_eq_getElem hlt
              have hxm := List.getElem_mem hlt
              generalize pa[n] = x at *
              have hxs := sns_get hg
              rw [hpq] at hxs
              have hxp := hat n (by omega)
              have hws := was_step ks kk hxs
              have hss := sum_step g hxs
              have hno := hnone n (by omega)
              rw [← Option.some.inj (hxs.symm.trans hxp)] at hno
              have hb1 := hbP n
              have hb2 := hbP (n + 1)
              obtain ⟨xs, xr, xt⟩ := x
              dsimp only at hws hss hxs hno
              ((repeat' ((conv => whnf);(first|refine zA ?_|(refine zI ?_ ?_<;> intro hh<;> first|(exfalso;omega)|skip)|(refine zl ?_ ?_<;> intro hh)|refine zq ?_|refine zv ?_|refine zu ?_|exact Sy.fin_val fun e=>rfl)));(all_goals (try conv => whnf)))
              refine Sy.el_map _ hg ?_
              ((repeat' ((conv => whnf);(first|refine zA ?_|(refine zI ?_ ?_<;> intro hh<;> first|(exfalso;omega)|skip)|(refine zl ?_ ?_<;> intro hh)|refine zq ?_|refine zv ?_|refine zu ?_|exact Sy.fin_val fun e=>rfl)));(all_goals (try conv => whnf)))
              refine Sy.call_val (.agg [.v (.int .i64 (getK xs.rows ks kk).1), .v (.int .i64 (getK xs.rows ks kk).2)]) Try.call25 rfl (fun e a w' h => get_any xr xs.rows ks kk kv w' (XD.ok.mono ((h.ev w' fun _ _ => rfl).2.2 _ hxm).rows fun b hb => h.fl b hb)) ?_
              generalize getK xs.rows ks kk = c at *
              generalize wasF (P.take n) ks kk = u0 at *
              obtain ⟨c1, c2⟩ := c
              dsimp only at hws ⊢
              clear hsum hwas hnone hbP hat hxp
              ((repeat' ((conv => whnf);(first|refine zA ?_|(refine zI ?_ ?_<;> intro hh<;> first|(exfalso;omega)|skip)|(refine zl ?_ ?_<;> intro hh)|refine zq ?_|refine zv ?_|refine zu ?_|exact Sy.fin_val fun e=>rfl)));(all_goals (try conv => whnf)))
              refine Sy.call_val (.c (.v (.bool (decide (mineP ks kk n m))))) Try.call26 rfl (fun e a w' h => mine_any ks kk kv n m w') ?_
              have hcut : (c1 ≠ 0 ∨ c2 ≠ 0) ∨ (c1 = 0 ∧ c2 = 0) := by omega
              by_cases hmine : mineP ks kk n m
              · rw [decide_eq_true hmine]
                clear hno
                rcases hcut with hc | hc
                · have hb : (c1 == 0 && c2 == 0) = false := by
                    rw [Bool.and_eq_false_iff, beq_eq_false_iff_ne, beq_eq_false_iff_ne]; exact hc
                  rw [if_neg (by intro h; have := Prod.mk.inj h; omega)] at hws
                  induction g, kx, hgx using fin8x
                  all_goals
                    ((repeat' ((conv => whnf);(first|refine zA ?_|(refine zI ?_ ?_<;> intro hh<;> first|(exfalso;omega)|skip)|(refine zl ?_ ?_<;> intro hh)|refine zq ?_|refine zv ?_|refine zu ?_|exact Sy.fin_val fun e=>rfl)));(all_goals (try conv => whnf)))
                    refine ⟨n + 1, by omega, by omega, ?_⟩
                    rw [hws, hss]
                    ((repeat' (first|((conv => whnf);done)|((try conv => whnf);first|exact trivial|(refine And.intro ?_ ?_)|rfl|exact fun _ _ _ h=>h|exact fun _ _ _ _=>trivial)));(all_goals (try conv => whnf)))
                · obtain ⟨rfl, rfl⟩ := hc
                  rw [if_pos rfl] at hws
                  induction g, kx, hgx using fin8x
                  all_goals
                    ((repeat' ((conv => whnf);(first|refine zA ?_|(refine zI ?_ ?_<;> intro hh<;> first|(exfalso;omega)|skip)|(refine zl ?_ ?_<;> intro hh)|refine zq ?_|refine zv ?_|refine zu ?_|exact Sy.fin_val fun e=>rfl)));(all_goals (try conv => whnf)))
                    refine ⟨n + 1, by omega, by omega, ?_⟩
                    rw [hws, hss]
                    ((repeat' (first|((conv => whnf);done)|((try conv => whnf);first|exact trivial|(refine And.intro ?_ ?_)|rfl|exact fun _ _ _ h=>h|exact fun _ _ _ _=>trivial)));(all_goals (try conv => whnf)))
              · rw [decide_eq_false hmine]
                obtain ⟨hc, ho⟩ := hno hmine
                obtain ⟨rfl, rfl⟩ := Prod.mk.inj hc
                rw [if_pos rfl] at hws
                clear hno
                induction g, kx, hgx using fin8x
                all_goals
                  ((repeat' ((conv => whnf);(first|refine zA ?_|(refine zI ?_ ?_<;> intro hh<;> first|(exfalso;omega)|skip)|(refine zl ?_ ?_<;> intro hh)|refine zq ?_|refine zv ?_|refine zu ?_|exact Sy.fin_val fun e=>rfl)));(all_goals (try conv => whnf)))
                  refine ⟨n + 1, by omega, by omega, ?_⟩
                  rw [hws, hss]
                  ((repeat' (first|((conv => whnf);done)|((try conv => whnf);first|exact trivial|(refine And.intro ?_ ?_)|rfl|exact fun _ _ _ h=>h|exact fun _ _ _ _=>trivial)));(all_goals (try conv => whnf)))
            · have e : P.take n = P := List.take_of_length_le (by omega)
              rw [e, hwas, hsum]
              ((repeat' ((conv => whnf);(first|refine zA ?_|(refine zI ?_ ?_<;> intro hh<;> first|(exfalso;omega)|skip)|(refine zl ?_ ?_<;> intro hh)|refine zq ?_|refine zv ?_|refine zu ?_|exact Sy.fin_val fun e=>rfl)));(all_goals (try conv => whnf)))
              exact Sy.fin_val fun e => congrArg Value.bool (beq_self_eq_true _)
    · have hE : rescE L (m : Int) ≠ 0 := by rw [rescE_not hz]; exact hz
      generalize rescE L (m : Int) = E at *
      ((repeat' ((conv => whnf);(first|refine zA ?_|(refine zI ?_ ?_<;> intro hh<;> first|(exfalso;omega)|skip)|(refine zl ?_ ?_<;> intro hh)|refine zq ?_|refine zv ?_|refine zu ?_|exact Sy.fin_val fun e=>rfl)));(all_goals (try conv => whnf)))
      refine Sy.rem_in hrc'.2.2.1 (by decide) ?_
      ((repeat' ((conv => whnf);(first|refine zA ?_|(refine zI ?_ ?_<;> intro hh<;> first|(exfalso;omega)|skip)|(refine zl ?_ ?_<;> intro hh)|refine zq ?_|refine zv ?_|refine zu ?_|exact Sy.fin_val fun e=>rfl)));(all_goals (try conv => whnf)))
      done
  · refine Sy.call_val (.c (.v (.int .i64 150))) Try.call53 rfl (fun e a w' h => by have := rec_any ks kk kv w'; rw [if_neg hrc] at this; exact this) ?_
    ((repeat' ((conv => whnf);(first|refine zA ?_|(refine zI ?_ ?_<;> intro hh<;> first|(exfalso;omega)|skip)|(refine zl ?_ ?_<;> intro hh)|refine zq ?_|refine zv ?_|refine zu ?_|exact Sy.fin_val fun e=>rfl)));(all_goals (try conv => whnf)))
    all_goals done
end Go.Proofs.Ytmahldelmbhjfaa
