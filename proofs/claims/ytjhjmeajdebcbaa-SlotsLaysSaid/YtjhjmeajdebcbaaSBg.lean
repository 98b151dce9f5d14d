/- Slots: the document's Lay. -/
import Derived.Test.YtjhjmeajdebcbaaSKa
import Derived.Test.YtjhjmeajdebcbaaSBf
namespace Go.Proofs.Ytjhjmeajdebcbaa
open Go Go.RowKit
open Sy (C SV V1 Blk St XD Els)
set_option maxRecDepth 10000

def rlayC (ws ps : List (Int × Int)) (ts : List Int) : Sy.Ctr Unit := { avs := [.agg [.row 0, .row 1], .c (.row 2)], n0 := 3, H0 := [(0, .ext 2 ws.length (.vs (ws.map enc2))), (1, .ext 2 ps.length (.vs (ps.map enc2))), (2, .ext 1 ts.length (.vs (ts.map encI)))], sv := fun _ => .tup [.agg [.row 0, .row 3], .c (.v (.int .i64 0))], n1 := fun _ => 4, H1 := fun _ => [(3, .row 67 2 (layL ws ps ts).length (.vs ((layL ws ps ts).map enc2)))] }
def rlay0C (ws ps : List (Int × Int)) (ts : List Int) : Sy.Ctr Unit := { avs := [.agg [.row 0, .row 1], .c (.row 2)], n0 := 3, H0 := [(0, .ext 2 ws.length (.vs (ws.map enc2))), (1, .ext 2 ps.length (.vs (ps.map enc2))), (2, .ext 1 ts.length (.vs (ts.map encI)))], sv := fun _ => .tup [.agg [.row 0, .row 1], .c (.v (.int .i64 0))], n1 := fun _ => 3, H1 := fun _ => [] }
theorem lay_new {ps Q : List (Int × Int)} {ts : List Int} {n : Nat} {t : Int} (hn : LyN ps ts) (ht : ts[n]? = some t) (hm : ∀ p ∈ Q, p.1 ∈ ts.take n ∨ p ∈ ps) : ∀ p ∈ Q, p.1 ≠ t := by
  intro p hp he
  have htm : t ∈ ts := List.mem_of_getElem? ht
  rcases hm p hp with h | h
  · obtain ⟨i, hi⟩ := List.mem_iff_getElem?.1 h
    have hin : i < n := by
      have := (List.getElem?_eq_some_iff.1 hi).1
      rw [List.length_take] at this; omega
    rw [List.getElem?_take_of_lt hin, he] at hi
    obtain ⟨h1, e1⟩ := List.getElem?_eq_some_iff.1 hi
    obtain ⟨h2, e2⟩ := List.getElem?_eq_some_iff.1 ht
    have := (List.getElem_inj hn.1).1 (e1.trans e2.symm)
    omega
  · exact hn.2 p h (he ▸ htm)
theorem sl_bd {ws ps : List (Int × Int)} (h : FlOk ws ps) (id : Int) : 0 ≤ slL ws id ∧ slL ws id ≤ 8 := by
  rcases sl_cases h.1.1 id with ⟨h1, _⟩ | ⟨h1, h2, _⟩ <;> omega
theorem up_mem {l : List (Int × Int)} (k : Int) : (upL l k).length ≤ l.length := List.length_filter_le _ _
attribute [local irreducible] FlOk slL okW atL layL layS LyN LyT insS upL frL widL cntW whrR sumL BestP
set_option maxHeartbeats 4000000 in
theorem rlay_does (ws ps : List (Int × Int)) (ts : List Int) (hb : ts.length ≤ 1000) (hne : ts ≠ []) (h0 : layE ws ps ts = 0) : Sy.Does Try.prog 15 (rlayC ws ps ts) := by
  obtain ⟨hok, hTT, hN, hfree⟩ := layE_zero h0
  obtain ⟨hwl, hpl⟩ := ok_lens hok
  have ha : asc ps := by unfold FlOk at hok; exact hok.2.1.2
  have hnd : ts.Nodup := by unfold LyN at hN; exact hN.1
  have hnp : ∀ p ∈ ps, p.1 ∉ ts := by unfold LyN at hN; exact hN.2
  have hT : ∀ t ∈ ts, okT t := by unfold LyT at hTT; exact hTT
  have htl : 0 < ts.length := List.length_pos_iff.2 hne
  have hfr0 := hfree
  refine Sy.does_of Sy.lv15 Sy.tab_ok Try.func15 rfl _ Try.ntmps15 _ rfl rfl (fun e0 w hpre => ?_)
  ((repeat' ((conv => whnf);(first|refine zA ?_|(refine zI ?_ ?_<;> intro hh<;> first|(exfalso;omega)|skip)|(refine zl ?_ ?_<;> intro hh)|refine zq ?_|refine zv ?_|refine zu ?_|exact Sy.fin_val fun e=>rfl)));(all_goals (try conv => whnf)))
  refine Sy.call_val (.c (.v (.bool true))) Try.call19 rfl (fun e a w' h => by have := rright_any (e.rv 0) (e.rv 1) ws ps w' (Sy.row_reads h (.inr rfl)) (Sy.row_reads h (.inr rfl)) (by omega); rw [decide_eq_true hok] at this; exact this) ?_
  ((repeat' ((conv => whnf);(first|refine zA ?_|(refine zI ?_ ?_<;> intro hh<;> first|(exfalso;omega)|skip)|(refine zl ?_ ?_<;> intro hh)|refine zq ?_|refine zv ?_|refine zu ?_|exact Sy.fin_val fun e=>rfl)));(all_goals (try conv => whnf)))
  refine Sy.loop_inv Sy.tab_ok (fun n : Nat => [(6, .c (.v (.int .i64 n)))]) (fun n => []) (fun n => n ≤ ts.length) (fun n => ts.length - n) 0 (Nat.zero_le _) ?_ (fun n hn => ?_)
  · ((repeat' (first|((conv => whnf);done)|((try conv => whnf);first|exact trivial|(refine And.intro ?_ ?_)|rfl|exact fun _ _ _ h=>h|exact fun _ _ _ _=>trivial)));(all_goals (try conv => whnf)))
  · ((repeat' ((conv => whnf);(first|refine zA ?_|(refine zI ?_ ?_<;> intro hh<;> first|(exfalso;omega)|skip)|(refine zl ?_ ?_<;> intro hh)|refine zq ?_|refine zv ?_|refine zu ?_|exact Sy.fin_val fun e=>rfl)));(all_goals (try conv => whnf)))
    · have hlt : n < ts.length := by omega
      have hgn := List.getElem?_eq_getElem hlt
      have hto := hT _ (List.getElem_mem hlt)
      generalize ts[n] = t at *
      have h1 : decide (t < 0) = false := decide_eq_false (by unfold okT at hto; omega)
      have h2 : decide (15 < t) = false := decide_eq_false (by unfold okT at hto; omega)
      refine Sy.el_map t hgn ?_
      ((repeat' ((conv => whnf);(first|refine zA ?_|(refine zI ?_ ?_<;> intro hh<;> first|(exfalso;omega)|skip)|(refine zl ?_ ?_<;> intro hh)|refine zq ?_|refine zv ?_|refine zu ?_|exact Sy.fin_val fun e=>rfl)));(all_goals (try conv => whnf)))
      refine Sy.el_map t hgn ?_
      ((repeat' ((conv => whnf);(first|refine zA ?_|(refine zI ?_ ?_<;> intro hh<;> first|(exfalso;omega)|skip)|(refine zl ?_ ?_<;> intro hh)|refine zq ?_|refine zv ?_|refine zu ?_|exact Sy.fin_val fun e=>rfl)));(all_goals (try conv => whnf)))
      refine ⟨n + 1, by omega, by omega, ?_⟩
      ((repeat' (first|((conv => whnf);done)|((try conv => whnf);first|exact trivial|(refine And.intro ?_ ?_)|rfl|exact fun _ _ _ h=>h|exact fun _ _ _ _=>trivial)));(all_goals (try conv => whnf)))
    · refine Sy.loop_inv Sy.tab_ok (fun n : Nat => [(7, .c (.v (.int .i64 n)))]) (fun n => []) (fun n => n ≤ ts.length) (fun n => ts.length - n) 0 (Nat.zero_le _) ?_ (fun n hn => ?_)
      · ((repeat' (first|((conv => whnf);done)|((try conv => whnf);first|exact trivial|(refine And.intro ?_ ?_)|rfl|exact fun _ _ _ h=>h|exact fun _ _ _ _=>trivial)));(all_goals (try conv => whnf)))
      · ((repeat' ((conv => whnf);(first|refine zA ?_|(refine zI ?_ ?_<;> intro hh<;> first|(exfalso;omega)|skip)|(refine zl ?_ ?_<;> intro hh)|refine zq ?_|refine zv ?_|refine zu ?_|exact Sy.fin_val fun e=>rfl)));(all_goals (try conv => whnf)))
        · have hlt : n < ts.length := by omega
          have hgn := List.getElem?_eq_getElem hlt
          have hm := List.getElem_mem hlt
          have hcn := nodup_count.1 hnd _ hm
          have hno : ∀ p ∈ ps, p.1 ≠ ts[n] := fun p hp he => hnp p hp (he ▸ hm)
          generalize ts[n] = t at *
          have hc : whrR ps t = 0 := by
            rcases whr_ok hok t with ⟨h, _⟩ | ⟨_, _, h⟩
            · exact h
            · exact absurd rfl (hno _ h)
          have hcf : decide ((1 : Int) < (ts.count t : Nat)) = false := decide_eq_false (by omega)
          refine Sy.draw_go [] (by kernel_rfl) ?_
          intro e0
          conv => whnf
          refine zt 0 rfl ?_
          conv => whnf
          refine zt 1 rfl ?_
          conv => whnf
          refine zt 2 rfl ?_
          conv => whnf
          refine zt 3 rfl ?_
          (conv => whnf);(repeat' ((first|refine zA ?_|(refine zI ?_ ?_<;> intro hh<;> first|(exfalso;omega)|skip)|(refine zl ?_ ?_<;> intro hh)|refine zq ?_|refine zv ?_|refine zu ?_|exact Sy.fin_val fun e=>rfl);(try conv => whnf)))
          refine zt 4 rfl ?_
          conv => whnf
          refine Sy.el_map t hgn ?_
          conv => whnf
          refine zd1 [5] (zx rfl ?_ zy)
          conv => whnf
          refine Sy.call_val (.c (.v (.int .i64 (ts.count t : Nat)))) Try.call50 rfl (fun e a w' h => count_any (e.rv 2) ts t w' (Sy.row_reads h (.inr rfl)) (by omega)) ?_
          conv => whnf
          refine ⟨(by repeat' ((conv => whnf);first|exact trivial|(refine And.intro ?_ ?_)|rfl)), ?_⟩
          refine zt 6 rfl ?_
          (conv => whnf);(repeat' ((first|refine zA ?_|(refine zI ?_ ?_<;> intro hh<;> first|(exfalso;omega)|skip)|(refine zl ?_ ?_<;> intro hh)|refine zq ?_|refine zv ?_|refine zu ?_|exact Sy.fin_val fun e=>rfl);(try conv => whnf)))
          refine zt 7 rfl ?_
          conv => whnf
          refine zt 8 rfl ?_
          (conv => whnf);(repeat' ((first|refine zA ?_|(refine zI ?_ ?_<;> intro hh<;> first|(exfalso;omega)|skip)|(refine zl ?_ ?_<;> intro hh)|refine zq ?_|refine zv ?_|refine zu ?_|exact Sy.fin_val fun e=>rfl);(try conv => whnf)))
          refine zt 9 rfl ?_
          (conv => whnf);(repeat' ((first|refine zA ?_|(refine zI ?_ ?_<;> intro hh<;> first|(exfalso;omega)|skip)|(refine zl ?_ ?_<;> intro hh)|refine zq ?_|refine zv ?_|refine zu ?_|exact Sy.fin_val fun e=>rfl);(try conv => whnf)))
          refine zt 10 rfl ?_
          (conv => whnf);(repeat' ((first|refine zA ?_|(refine zI ?_ ?_<;> intro hh<;> first|(exfalso;omega)|skip)|(refine zl ?_ ?_<;> intro hh)|refine zq ?_|refine zv ?_|refine zu ?_|exact Sy.fin_val fun e=>rfl);(try conv => whnf)))
          refine zt 11 rfl ?_
          (conv => whnf);(repeat' ((first|refine zA ?_|(refine zI ?_ ?_<;> intro hh<;> first|(exfalso;omega)|skip)|(refine zl ?_ ?_<;> intro hh)|refine zq ?_|refine zv ?_|refine zu ?_|exact Sy.fin_val fun e=>rfl);(try conv => whnf)))
          refine zt 12 rfl ?_
          (conv => whnf);(repeat' ((first|refine zA ?_|(refine zI ?_ ?_<;> intro hh<;> first|(exfalso;omega)|skip)|(refine zl ?_ ?_<;> intro hh)|refine zq ?_|refine zv ?_|refine zu ?_|exact Sy.fin_val fun e=>rfl);(try conv => whnf)))
          refine Sy.el_map t hgn ?_
          conv => whnf
          refine zd1 [13] (zx rfl ?_ zy)
          conv => whnf
          (refine zA ?_;conv => whnf)
          refine Sy.call_val (.c (.v (.int .i64 0))) Try.call24 rfl (fun e a w' h => by have := rwhere_any (e.rv 0) (e.rv 1) ws ps t w' ha (Sy.row_reads h (.inr rfl)) (Sy.row_reads h (.inr rfl)); rw [hc] at this; exact this) ?_
          conv => whnf
          refine ⟨(by repeat' ((conv => whnf);first|exact trivial|(refine And.intro ?_ ?_)|rfl)), ?_⟩
          refine zt 14 rfl ?_
          (conv => whnf);(repeat' ((first|refine zA ?_|(refine zI ?_ ?_<;> intro hh<;> first|(exfalso;omega)|skip)|(refine zl ?_ ?_<;> intro hh)|refine zq ?_|refine zv ?_|refine zu ?_|exact Sy.fin_val fun e=>rfl);(try conv => whnf)))
          refine zt 15 rfl ?_
          (conv => whnf);(repeat' ((first|refine zA ?_|(refine zI ?_ ?_<;> intro hh<;> first|(exfalso;omega)|skip)|(refine zl ?_ ?_<;> intro hh)|refine zq ?_|refine zv ?_|refine zu ?_|exact Sy.fin_val fun e=>rfl);(try conv => whnf)))
          refine zw ?_
          skip
          all_goals (((repeat' ((conv => whnf);(first|refine zA ?_|(refine zI ?_ ?_<;> intro hh<;> first|(exfalso;omega)|skip)|(refine zl ?_ ?_<;> intro hh)|refine zq ?_|refine zv ?_|refine zu ?_|exact Sy.fin_val fun e=>rfl)));(all_goals (try conv => whnf))))
          all_goals (refine ⟨n + 1, by omega, by omega, ?_⟩)
          all_goals (((repeat' (first|((conv => whnf);done)|((try conv => whnf);first|exact trivial|(refine And.intro ?_ ?_)|rfl|exact fun _ _ _ h=>h|exact fun _ _ _ _=>trivial)));(all_goals (try conv => whnf))))
        · obtain ⟨s, hs⟩ : ∃ s, sumL (frL ws ps) = s := ⟨_, rfl⟩
          rw [hs] at hfree
          refine Sy.call_val (.c (.v (.int .i64 s))) Try.call27 rfl (fun e a w' h => by have := rfree_any (e.rv 0) (e.rv 1) ws ps w' hok (Sy.row_reads h (.inr rfl)) (Sy.row_reads h (.inr rfl)); rw [hs] at this; exact this) ?_
          ((repeat' ((conv => whnf);(first|refine zA ?_|(refine zI ?_ ?_<;> intro hh<;> first|(exfalso;omega)|skip)|(refine zl ?_ ?_<;> intro hh)|refine zq ?_|refine zv ?_|refine zu ?_|exact Sy.fin_val fun e=>rfl)));(all_goals (try conv => whnf)))
          refine Sy.sem_subF (Sy.sub_ghost _ 67 2) ?_
          conv => whnf
          refine Sy.loop_inv Sy.tab_ok (fun n : Nat => [(9, .c (.v (.int .i64 n)))]) (fun n => [(5, .cells 26 [.row 0, match n with | 0 => .row 1 | _ + 1 => .row 6]), (6, match n with | 0 => .row 67 2 0 (.vs []) | m + 1 => .row 67 2 (layL ws ps (ts.take (m + 1))).length (.vs ((layL ws ps (ts.take (m + 1))).map enc2)))]) (fun n => n ≤ ts.length) (fun n => ts.length - n) 0 (Nat.zero_le _) ?_ (fun n hn => ?_)
          · dsimp only
            ((repeat' (first|((conv => whnf);done)|((try conv => whnf);first|exact trivial|(refine And.intro ?_ ?_)|rfl|exact fun _ _ _ h=>h|exact fun _ _ _ _=>trivial)));(all_goals (try conv => whnf)))
          · have hfr : ¬ sumL (frL ws ps) < ts.length := by omega
            rcases n with _ | n
            · dsimp only
              ((repeat' ((conv => whnf);(first|refine zA ?_|(refine zI ?_ ?_<;> intro hh<;> first|(exfalso;omega)|skip)|(refine zl ?_ ?_<;> intro hh)|refine zq ?_|refine zv ?_|refine zu ?_|exact Sy.fin_val fun e=>rfl)));(all_goals (try conv => whnf)))
              have hlt : 0 < ts.length := by omega
              have hgn := List.getElem?_eq_getElem hlt
              have hsn : ts.take (0 + 1) = ts.take (0) ++ [ts[0]] := List.take_succ_eq_append_getElem hlt
              generalize ts[0] = t at *
              obtain ⟨hokn, hsum, hmem, _, _⟩ := lay_all hok hTT hN hfr (0) hn
              have hokm := (lay_all hok hTT hN hfr (0 + 1) hlt).1
              have hto : okT t := hT t (List.mem_of_getElem? hgn)
              have hnext : layL ws ps (ts.take (0 + 1)) = layS ws (layL ws ps (ts.take (0))) t := by rw [hsn, layL_snoc]
              rw [hnext] at hokm
              have hnew := lay_new hN hgn hmem
              rw [List.take_zero, show layL ws ps [] = ps by unfold layL; rfl] at hokn hokm hnext hnew

              obtain ⟨b, hb⟩ : ∃ b, (widL (frL ws ps)).1 = b := ⟨_, rfl⟩
              have hS : layS ws ps t = insS ps (t, b) := by rw [← hb]; unfold layS; rfl
              rw [hS] at hokm hnext
              have hQa : asc ps := by unfold FlOk at hokn; exact hokn.2.1.2
              have hQl := (ok_lens hokn).2
              have hSl := (ok_lens hokm).2
              have hia := insS_asc (q := (t, b)) hQa
              have hfm : ∀ c ∈ frL ws ps, 0 < c.1 ∧ c.1 ≤ 4 := fun c hc => by
                obtain ⟨p, hp, rfl⟩ := frL_mem.1 hc
                have : okW p := by unfold FlOk at hokn; exact hokn.1.1 p hp
                unfold okW at this
                dsimp only; omega
              have hSm : ∀ p ∈ insS ps (t, b), -1 < p.1 ∧ p.1 ≤ 15 := fun p hp => by
                have : okT p.1 := by unfold FlOk at hokm; exact (hokm.2.1.1 p hp).1
                unfold okT at this
                omega
              refine Sy.loop_inv Sy.tab_ok (fun x : Nat × (Int × Int) => [(12, .c (.v (.int .i64 ((x.1 : Int) + 1)))), (10, .c (.v (.int .i64 x.2.1))), (11, .c (.v (.int .i64 x.2.2)))]) (fun x => []) (fun x => x.1 ≤ 4 ∧ BestP (frL ws ps) x.1 x.2) (fun x => 4 - x.1) (0, 0, 0) ⟨Nat.zero_le _, best_zero fun c hc => (hfm c hc).1⟩ ?_ (fun x hx => ?_)
              · ((repeat' (first|((conv => whnf);done)|((try conv => whnf);first|exact trivial|(refine And.intro ?_ ?_)|rfl|exact fun _ _ _ h=>h|exact fun _ _ _ _=>trivial)));(all_goals (try conv => whnf)))
              · obtain ⟨k, r⟩ := x
                obtain ⟨hk, hbp⟩ := hx
                dsimp only at hk hbp ⊢
                by_cases hk4 : k = 4
                · subst hk4
                  have hrw := best_all hbp fun c hc => (hfm c hc).2
                  have hrb : r.1 = b := by rw [hrw, hb]
                  rw [hrb]
                  ((repeat' ((conv => whnf);(first|refine zA ?_|(refine zI ?_ ?_<;> intro hh<;> first|(exfalso;omega)|skip)|(refine zl ?_ ?_<;> intro hh)|refine zq ?_|refine zv ?_|refine zu ?_|exact Sy.fin_val fun e=>rfl)));(all_goals (try conv => whnf)))
                  refine Sy.sem_subF (Sy.sub_row 14 67 2 rfl) ?_
                  conv => whnf
                  refine Sy.loop_inv Sy.tab_ok (fun k : Nat => [(15, .c (.v (.int .i64 k))), (14, .c (.row 7))]) (fun k => [(7, .row 67 2 (upL (insS ps (t, b)) ((k : Int) - 1)).length (.vs ((upL (insS ps (t, b)) ((k : Int) - 1)).map enc2)))]) (fun k => k ≤ 16) (fun k => 16 - k) 0 (Nat.zero_le _) ?_ (fun k hk => ?_)
                  · rw [show upL (insS ps (t, b)) (((0 : Nat) : Int) - 1) = [] from up_none fun p hp => by have := (hSm p hp).1; omega]
                    ((repeat' (first|((conv => whnf);done)|((try conv => whnf);first|exact trivial|(refine And.intro ?_ ?_)|rfl|exact fun _ _ _ h=>h|exact fun _ _ _ _=>trivial)));(all_goals (try conv => whnf)))
                  · by_cases hk16 : k = 16
                    · have hall : upL (insS ps (t, b)) ((k : Int) - 1) = insS ps (t, b) := up_all fun p hp => by have := (hSm p hp).2; omega
                      rw [hall]
                      ((repeat' ((conv => whnf);(first|refine zA ?_|(refine zI ?_ ?_<;> intro hh<;> first|(exfalso;omega)|skip)|(refine zl ?_ ?_<;> intro hh)|refine zq ?_|refine zv ?_|refine zu ?_|exact Sy.fin_val fun e=>rfl)));(all_goals (try conv => whnf)))
                      refine ⟨1, by omega, by omega, ?_⟩
                      dsimp only
                      rw [hnext]
                      ((repeat' (first|((conv => whnf);done)|((try conv => whnf);first|exact trivial|(refine And.intro ?_ ?_)|rfl|exact fun _ _ _ h=>h|exact fun _ _ _ _=>trivial)));(all_goals (try conv => whnf)))
                    · have hul := up_mem (l := insS ps (t, b)) ((k : Int) - 1)
                      have hrd := up_round2 (x := (t, b)) hokn hnew hia ((k : Int) - 1)
                      rw [show (k : Int) - 1 + 1 = k by omega] at hrd
                      rcases hrd with ⟨h1, h2, h3⟩ | ⟨h1, h2, h3⟩ | ⟨h1, h2, h4⟩
                      · dsimp only at h2
                        ((repeat' ((conv => whnf);(first|refine zA ?_|(refine zI ?_ ?_<;> intro hh<;> first|(exfalso;omega)|skip)|(refine zl ?_ ?_<;> intro hh)|refine zq ?_|refine zv ?_|refine zu ?_|exact Sy.fin_val fun e=>rfl)));(all_goals (try conv => whnf)))
                        refine Sy.call_val (.c (.v (.int .i64 0))) Try.call24 rfl (fun e a w' h => by have := rwhere_any (e.rv 0) (e.rv 1) ws ps k w' hQa (Sy.row_reads h (.inr rfl)) (Sy.row_reads h (.inr rfl)); rw [h1] at this; exact this) ?_
                        ((repeat' ((conv => whnf);(first|refine zA ?_|(refine zI ?_ ?_<;> intro hh<;> first|(exfalso;omega)|skip)|(refine zl ?_ ?_<;> intro hh)|refine zq ?_|refine zv ?_|refine zu ?_|exact Sy.fin_val fun e=>rfl)));(all_goals (try conv => whnf)))
                        refine Sy.el_map t hgn ?_
                        ((repeat' ((conv => whnf);(first|refine zA ?_|(refine zI ?_ ?_<;> intro hh<;> first|(exfalso;omega)|skip)|(refine zl ?_ ?_<;> intro hh)|refine zq ?_|refine zv ?_|refine zu ?_|exact Sy.fin_val fun e=>rfl)));(all_goals (try conv => whnf)))
                        refine Sy.need_of (by show ((upL (insS ps (t, b)) ((k : Int) - 1)).length + 1) * 16 ≤ _ ∧ _; omega) ?_
                        ((repeat' ((conv => whnf);(first|refine zA ?_|(refine zI ?_ ?_<;> intro hh<;> first|(exfalso;omega)|skip)|(refine zl ?_ ?_<;> intro hh)|refine zq ?_|refine zv ?_|refine zu ?_|exact Sy.fin_val fun e=>rfl)));(all_goals (try conv => whnf)))
                        have es : (upL (insS ps (t, b)) ((k : Int) - 1)).map enc2 ++ [[Value.int .i64 k, Value.int .i64 b]] = (upL (insS ps (t, b)) (((k + 1 : Nat) : Int) - 1)).map enc2 := by rw [show ((k + 1 : Nat) : Int) - 1 = k by omega, h3, List.map_append, h2]; rfl
                        have el : (upL (insS ps (t, b)) ((k : Int) - 1)).length + 1 = (upL (insS ps (t, b)) (((k + 1 : Nat) : Int) - 1)).length := by rw [show ((k + 1 : Nat) : Int) - 1 = k by omega, h3, List.length_append]; rfl
                        rw [es, el]
                        refine ⟨k + 1, by omega, by omega, ?_⟩
                        ((repeat' (first|((conv => whnf);done)|((try conv => whnf);first|exact trivial|(refine And.intro ?_ ?_)|rfl|exact fun _ _ _ h=>h|exact fun _ _ _ _=>trivial)));(all_goals (try conv => whnf)))
                      · dsimp only at h2
                        have h2b : ((k : Int) == t) = false := beq_false_of_ne h2
                        ((repeat' ((conv => whnf);(first|refine zA ?_|(refine zI ?_ ?_<;> intro hh<;> first|(exfalso;omega)|skip)|(refine zl ?_ ?_<;> intro hh)|refine zq ?_|refine zv ?_|refine zu ?_|exact Sy.fin_val fun e=>rfl)));(all_goals (try conv => whnf)))
                        refine Sy.call_val (.c (.v (.int .i64 0))) Try.call24 rfl (fun e a w' h => by have := rwhere_any (e.rv 0) (e.rv 1) ws ps k w' hQa (Sy.row_reads h (.inr rfl)) (Sy.row_reads h (.inr rfl)); rw [h1] at this; exact this) ?_
                        ((repeat' ((conv => whnf);(first|refine zA ?_|(refine zI ?_ ?_<;> intro hh<;> first|(exfalso;omega)|skip)|(refine zl ?_ ?_<;> intro hh)|refine zq ?_|refine zv ?_|refine zu ?_|exact Sy.fin_val fun e=>rfl)));(all_goals (try conv => whnf)))
                        refine Sy.el_map t hgn ?_
                        ((repeat' ((conv => whnf);(first|refine zA ?_|(refine zI ?_ ?_<;> intro hh<;> first|(exfalso;omega)|skip)|(refine zl ?_ ?_<;> intro hh)|refine zq ?_|refine zv ?_|refine zu ?_|exact Sy.fin_val fun e=>rfl)));(all_goals (try conv => whnf)))
                        have e0 : upL (insS ps (t, b)) ((k : Int) - 1) = upL (insS ps (t, b)) (((k + 1 : Nat) : Int) - 1) := by rw [show ((k + 1 : Nat) : Int) - 1 = k by omega, h3]
                        rw [e0]
                        refine ⟨k + 1, by omega, by omega, ?_⟩
                        ((repeat' (first|((conv => whnf);done)|((try conv => whnf);first|exact trivial|(refine And.intro ?_ ?_)|rfl|exact fun _ _ _ h=>h|exact fun _ _ _ _=>trivial)));(all_goals (try conv => whnf)))
                      · dsimp only at h2
                        obtain ⟨c, hc⟩ : ∃ c, whrR ps k = c := ⟨_, rfl⟩
                        rw [hc] at h1 h4
                        have h2b : ((k : Int) == t) = false := beq_false_of_ne h2
                        ((repeat' ((conv => whnf);(first|refine zA ?_|(refine zI ?_ ?_<;> intro hh<;> first|(exfalso;omega)|skip)|(refine zl ?_ ?_<;> intro hh)|refine zq ?_|refine zv ?_|refine zu ?_|exact Sy.fin_val fun e=>rfl)));(all_goals (try conv => whnf)))
                        refine Sy.call_val (.c (.v (.int .i64 c))) Try.call24 rfl (fun e a w' h => by have := rwhere_any (e.rv 0) (e.rv 1) ws ps k w' hQa (Sy.row_reads h (.inr rfl)) (Sy.row_reads h (.inr rfl)); rw [hc] at this; exact this) ?_
                        ((repeat' ((conv => whnf);(first|refine zA ?_|(refine zI ?_ ?_<;> intro hh<;> first|(exfalso;omega)|skip)|(refine zl ?_ ?_<;> intro hh)|refine zq ?_|refine zv ?_|refine zu ?_|exact Sy.fin_val fun e=>rfl)));(all_goals (try conv => whnf)))
                        refine Sy.need_of (by show ((upL (insS ps (t, b)) ((k : Int) - 1)).length + 1) * 16 ≤ _ ∧ _; omega) ?_
                        ((repeat' ((conv => whnf);(first|refine zA ?_|(refine zI ?_ ?_<;> intro hh<;> first|(exfalso;omega)|skip)|(refine zl ?_ ?_<;> intro hh)|refine zq ?_|refine zv ?_|refine zu ?_|exact Sy.fin_val fun e=>rfl)));(all_goals (try conv => whnf)))
                        refine Sy.el_map t hgn ?_
                        ((repeat' ((conv => whnf);(first|refine zA ?_|(refine zI ?_ ?_<;> intro hh<;> first|(exfalso;omega)|skip)|(refine zl ?_ ?_<;> intro hh)|refine zq ?_|refine zv ?_|refine zu ?_|exact Sy.fin_val fun e=>rfl)));(all_goals (try conv => whnf)))
                        have es : (upL (insS ps (t, b)) ((k : Int) - 1)).map enc2 ++ [[Value.int .i64 k, Value.int .i64 c]] = (upL (insS ps (t, b)) (((k + 1 : Nat) : Int) - 1)).map enc2 := by rw [show ((k + 1 : Nat) : Int) - 1 = k by omega, h4, List.map_append]; rfl
                        have el : (upL (insS ps (t, b)) ((k : Int) - 1)).length + 1 = (upL (insS ps (t, b)) (((k + 1 : Nat) : Int) - 1)).length := by rw [show ((k + 1 : Nat) : Int) - 1 = k by omega, h4, List.length_append]; rfl
                        rw [es, el]
                        refine ⟨k + 1, by omega, by omega, ?_⟩
                        ((repeat' (first|((conv => whnf);done)|((try conv => whnf);first|exact trivial|(refine And.intro ?_ ?_)|rfl|exact fun _ _ _ h=>h|exact fun _ _ _ _=>trivial)));(all_goals (try conv => whnf)))
                · have hfa := free_at hokn ((k : Int) + 1)
                  have hbs := best_step hbp hfa
                  have hsb := sl_bd hokn ((k : Int) + 1)
                  have hac := at_cnt ps ((k : Int) + 1)
                  have hal := atL_len ps ((k : Int) + 1)
                  rw [← hac] at hbs
                  have hr0 := best_r hbp
                  generalize hsl : slL ws ((k : Int) + 1) = s at *
                  ((repeat' ((conv => whnf);(first|refine zA ?_|(refine zI ?_ ?_<;> intro hh<;> first|(exfalso;omega)|skip)|(refine zl ?_ ?_<;> intro hh)|refine zq ?_|refine zv ?_|refine zu ?_|exact Sy.fin_val fun e=>rfl)));(all_goals (try conv => whnf)))
                  refine Sy.draw_go [] (by kernel_rfl) ?_
                  intro e0
                  conv => whnf
                  refine zt 0 rfl ?_
                  conv => whnf
                  refine zt 1 rfl ?_
                  conv => whnf
                  refine zt 3 rfl ?_
                  conv => whnf
                  refine zt 4 rfl ?_
                  conv => whnf
                  refine zd1 [2] (zx rfl ?_ zy)
                  conv => whnf
                  refine Sy.call_val (.c (.v (.int .i64 s))) Try.call51 rfl (fun e a w' h => by have := rslots_any (e.rv 0) (e.rv 1) ws ps ((k : Int) + 1) w' (Sy.row_reads h (.inr rfl)) (Sy.row_reads h (.inr rfl)); rw [hsl] at this; exact this) ?_
                  conv => whnf
                  refine ⟨(by repeat' ((conv => whnf);first|exact trivial|(refine And.intro ?_ ?_)|rfl)), ?_⟩
                  refine zd1 [5] (zx rfl ?_ zy)
                  conv => whnf
                  refine Sy.call_r1 ⟨3, 1, (atL ps ((k : Int) + 1)).length, (atL ps ((k : Int) + 1)).map encI⟩ (fun j => .c (.row j)) Try.call26 (fun e a w' h => rat_any (e.rv 0) (e.rv 1) ws ps ((k : Int) + 1) w' (Sy.row_reads h (.inr rfl)) (Sy.row_reads h (.inr rfl)) (by omega)) ?_
                  conv => whnf
                  refine ⟨(by repeat' ((conv => whnf);first|exact trivial|(refine And.intro ?_ ?_)|rfl)), ?_⟩
                  refine zd1 [6] (zx rfl ?_ zy)
                  conv => whnf
                  refine ⟨(by repeat' ((conv => whnf);first|exact trivial|(refine And.intro ?_ ?_)|rfl)), ?_⟩
                  refine zt 7 rfl ?_
                  (conv => whnf);(repeat' ((first|refine zA ?_|(refine zI ?_ ?_<;> intro hh<;> first|(exfalso;omega)|skip)|(refine zl ?_ ?_<;> intro hh)|refine zq ?_|refine zv ?_|refine zu ?_|exact Sy.fin_val fun e=>rfl);(try conv => whnf)))
                  refine zt 8 rfl ?_
                  conv => whnf
                  refine zw ?_
                  skip
                  all_goals (((repeat' ((conv => whnf);(first|refine zA ?_|(refine zI ?_ ?_<;> intro hh<;> first|(exfalso;omega)|skip)|(refine zl ?_ ?_<;> intro hh)|refine zq ?_|refine zv ?_|refine zu ?_|exact Sy.fin_val fun e=>rfl)));(all_goals (try conv => whnf))))
                  · rw [if_pos (by assumption)] at hbs
                    refine ⟨(k + 1, (k : Int) + 1, s - ((atL ps ((k : Int) + 1)).length : Nat)), ⟨by dsimp only; omega, by rw [Int.natCast_succ]; exact hbs⟩, by dsimp only; omega, ?_⟩
                    dsimp only
                    ((repeat' (first|((conv => whnf);done)|((try conv => whnf);first|exact trivial|(refine And.intro ?_ ?_)|rfl|exact fun _ _ _ h=>h|exact fun _ _ _ _=>trivial)));(all_goals (try conv => whnf)))
                  · rw [if_neg (by assumption)] at hbs
                    refine ⟨(k + 1, r), ⟨by dsimp only; omega, by rw [Int.natCast_succ]; exact hbs⟩, by dsimp only; omega, ?_⟩
                    dsimp only
                    ((repeat' (first|((conv => whnf);done)|((try conv => whnf);first|exact trivial|(refine And.intro ?_ ?_)|rfl|exact fun _ _ _ h=>h|exact fun _ _ _ _=>trivial)));(all_goals (try conv => whnf)))

            · dsimp only
              by_cases hend : n + 1 = ts.length
              · ((repeat' ((conv => whnf);(first|refine zA ?_|(refine zI ?_ ?_<;> intro hh<;> first|(exfalso;omega)|skip)|(refine zl ?_ ?_<;> intro hh)|refine zq ?_|refine zv ?_|refine zu ?_|exact Sy.fin_val fun e=>rfl)));(all_goals (try conv => whnf)))
                rw [hend, List.take_length]
                refine Sy.fin_own () trivial ?_
                ((conv => whnf);(refine And.intro ?_ (And.intro ?_ (And.intro ?_ ?_)));(all_goals ((repeat' (first|((conv => whnf);done)|((try conv => whnf);first|exact trivial|(refine And.intro ?_ ?_)|rfl|exact fun _ _ _ h=>h|exact fun _ _ _ _=>trivial)));(all_goals (try conv => whnf)))))
              · ((repeat' ((conv => whnf);(first|refine zA ?_|(refine zI ?_ ?_<;> intro hh<;> first|(exfalso;omega)|skip)|(refine zl ?_ ?_<;> intro hh)|refine zq ?_|refine zv ?_|refine zu ?_|exact Sy.fin_val fun e=>rfl)));(all_goals (try conv => whnf)))
                have hlt : n + 1 < ts.length := by omega
                have hgn := List.getElem?_eq_getElem hlt
                have hsn : ts.take (n + 1 + 1) = ts.take (n + 1) ++ [ts[n + 1]] := List.take_succ_eq_append_getElem hlt
                generalize ts[n + 1] = t at *
                obtain ⟨hokn, hsum, hmem, _, _⟩ := lay_all hok hTT hN hfr (n + 1) hn
                have hokm := (lay_all hok hTT hN hfr (n + 1 + 1) hlt).1
                have hto : okT t := hT t (List.mem_of_getElem? hgn)
                have hnext : layL ws ps (ts.take (n + 1 + 1)) = layS ws (layL ws ps (ts.take (n + 1))) t := by rw [hsn, layL_snoc]
                rw [hnext] at hokm
                have hnew := lay_new hN hgn hmem

                generalize hQe : layL ws ps (ts.take (n + 1)) = Q at *

                obtain ⟨b, hb⟩ : ∃ b, (widL (frL ws Q)).1 = b := ⟨_, rfl⟩
                have hS : layS ws Q t = insS Q (t, b) := by rw [← hb]; unfold layS; rfl
                rw [hS] at hokm hnext
                have hQa : asc Q := by unfold FlOk at hokn; exact hokn.2.1.2
                have hQl := (ok_lens hokn).2
                have hSl := (ok_lens hokm).2
                have hia := insS_asc (q := (t, b)) hQa
                have hfm : ∀ c ∈ frL ws Q, 0 < c.1 ∧ c.1 ≤ 4 := fun c hc => by
                  obtain ⟨p, hp, rfl⟩ := frL_mem.1 hc
                  have : okW p := by unfold FlOk at hokn; exact hokn.1.1 p hp
                  unfold okW at this
                  dsimp only; omega
                have hSm : ∀ p ∈ insS Q (t, b), -1 < p.1 ∧ p.1 ≤ 15 := fun p hp => by
                  have : okT p.1 := by unfold FlOk at hokm; exact (hokm.2.1.1 p hp).1
                  unfold okT at this
                  omega
                refine Sy.loop_inv Sy.tab_ok (fun x : Nat × (Int × Int) => [(12, .c (.v (.int .i64 ((x.1 : Int) + 1)))), (10, .c (.v (.int .i64 x.2.1))), (11, .c (.v (.int .i64 x.2.2)))]) (fun x => []) (fun x => x.1 ≤ 4 ∧ BestP (frL ws Q) x.1 x.2) (fun x => 4 - x.1) (0, 0, 0) ⟨Nat.zero_le _, best_zero fun c hc => (hfm c hc).1⟩ ?_ (fun x hx => ?_)
                · ((repeat' (first|((conv => whnf);done)|((try conv => whnf);first|exact trivial|(refine And.intro ?_ ?_)|rfl|exact fun _ _ _ h=>h|exact fun _ _ _ _=>trivial)));(all_goals (try conv => whnf)))
                · obtain ⟨k, r⟩ := x
                  obtain ⟨hk, hbp⟩ := hx
                  dsimp only at hk hbp ⊢
                  by_cases hk4 : k = 4
                  · subst hk4
                    have hrw := best_all hbp fun c hc => (hfm c hc).2
                    have hrb : r.1 = b := by rw [hrw, hb]
                    rw [hrb]
                    ((repeat' ((conv => whnf);(first|refine zA ?_|(refine zI ?_ ?_<;> intro hh<;> first|(exfalso;omega)|skip)|(refine zl ?_ ?_<;> intro hh)|refine zq ?_|refine zv ?_|refine zu ?_|exact Sy.fin_val fun e=>rfl)));(all_goals (try conv => whnf)))
                    refine Sy.sem_subF (Sy.sub_row 14 67 2 rfl) ?_
                    conv => whnf
                    refine Sy.loop_inv Sy.tab_ok (fun k : Nat => [(15, .c (.v (.int .i64 k))), (14, .c (.row 7))]) (fun k => [(7, .row 67 2 (upL (insS Q (t, b)) ((k : Int) - 1)).length (.vs ((upL (insS Q (t, b)) ((k : Int) - 1)).map enc2)))]) (fun k => k ≤ 16) (fun k => 16 - k) 0 (Nat.zero_le _) ?_ (fun k hk => ?_)
                    · rw [show upL (insS Q (t, b)) (((0 : Nat) : Int) - 1) = [] from up_none fun p hp => by have := (hSm p hp).1; omega]
                      ((repeat' (first|((conv => whnf);done)|((try conv => whnf);first|exact trivial|(refine And.intro ?_ ?_)|rfl|exact fun _ _ _ h=>h|exact fun _ _ _ _=>trivial)));(all_goals (try conv => whnf)))
                    · by_cases hk16 : k = 16
                      · have hall : upL (insS Q (t, b)) ((k : Int) - 1) = insS Q (t, b) := up_all fun p hp => by have := (hSm p hp).2; omega
                        rw [hall]
                        ((repeat' ((conv => whnf);(first|refine zA ?_|(refine zI ?_ ?_<;> intro hh<;> first|(exfalso;omega)|skip)|(refine zl ?_ ?_<;> intro hh)|refine zq ?_|refine zv ?_|refine zu ?_|exact Sy.fin_val fun e=>rfl)));(all_goals (try conv => whnf)))
                        refine ⟨n + 2, by omega, by omega, ?_⟩
                        dsimp only
                        rw [hnext]
                        ((repeat' (first|((conv => whnf);done)|((try conv => whnf);first|exact trivial|(refine And.intro ?_ ?_)|rfl|exact fun _ _ _ h=>h|exact fun _ _ _ _=>trivial)));(all_goals (try conv => whnf)))
                      · have hul := up_mem (l := insS Q (t, b)) ((k : Int) - 1)
                        have hrd := up_round2 (x := (t, b)) hokn hnew hia ((k : Int) - 1)
                        rw [show (k : Int) - 1 + 1 = k by omega] at hrd
                        rcases hrd with ⟨h1, h2, h3⟩ | ⟨h1, h2, h3⟩ | ⟨h1, h2, h4⟩
                        · dsimp only at h2
                          ((repeat' ((conv => whnf);(first|refine zA ?_|(refine zI ?_ ?_<;> intro hh<;> first|(exfalso;omega)|skip)|(refine zl ?_ ?_<;> intro hh)|refine zq ?_|refine zv ?_|refine zu ?_|exact Sy.fin_val fun e=>rfl)));(all_goals (try conv => whnf)))
                          refine Sy.call_val (.c (.v (.int .i64 0))) Try.call24 rfl (fun e a w' h => by have := rwhere_any (e.rv 0) (e.rv 6) ws Q k w' hQa (Sy.row_reads h (.inr rfl)) (Sy.row_reads h (.inl ⟨_, rfl⟩)); rw [h1] at this; exact this) ?_
                          ((repeat' ((conv => whnf);(first|refine zA ?_|(refine zI ?_ ?_<;> intro hh<;> first|(exfalso;omega)|skip)|(refine zl ?_ ?_<;> intro hh)|refine zq ?_|refine zv ?_|refine zu ?_|exact Sy.fin_val fun e=>rfl)));(all_goals (try conv => whnf)))
                          refine Sy.el_map t hgn ?_
                          ((repeat' ((conv => whnf);(first|refine zA ?_|(refine zI ?_ ?_<;> intro hh<;> first|(exfalso;omega)|skip)|(refine zl ?_ ?_<;> intro hh)|refine zq ?_|refine zv ?_|refine zu ?_|exact Sy.fin_val fun e=>rfl)));(all_goals (try conv => whnf)))
                          refine Sy.need_of (by show ((upL (insS Q (t, b)) ((k : Int) - 1)).length + 1) * 16 ≤ _ ∧ _; omega) ?_
                          ((repeat' ((conv => whnf);(first|refine zA ?_|(refine zI ?_ ?_<;> intro hh<;> first|(exfalso;omega)|skip)|(refine zl ?_ ?_<;> intro hh)|refine zq ?_|refine zv ?_|refine zu ?_|exact Sy.fin_val fun e=>rfl)));(all_goals (try conv => whnf)))
                          have es : (upL (insS Q (t, b)) ((k : Int) - 1)).map enc2 ++ [[Value.int .i64 k, Value.int .i64 b]] = (upL (insS Q (t, b)) (((k + 1 : Nat) : Int) - 1)).map enc2 := by rw [show ((k + 1 : Nat) : Int) - 1 = k by omega, h3, List.map_append, h2]; rfl
                          have el : (upL (insS Q (t, b)) ((k : Int) - 1)).length + 1 = (upL (insS Q (t, b)) (((k + 1 : Nat) : Int) - 1)).length := by rw [show ((k + 1 : Nat) : Int) - 1 = k by omega, h3, List.length_append]; rfl
                          rw [es, el]
                          refine ⟨k + 1, by omega, by omega, ?_⟩
                          ((repeat' (first|((conv => whnf);done)|((try conv => whnf);first|exact trivial|(refine And.intro ?_ ?_)|rfl|exact fun _ _ _ h=>h|exact fun _ _ _ _=>trivial)));(all_goals (try conv => whnf)))
                        · dsimp only at h2
                          have h2b : ((k : Int) == t) = false := beq_false_of_ne h2
                          ((repeat' ((conv => whnf);(first|refine zA ?_|(refine zI ?_ ?_<;> intro hh<;> first|(exfalso;omega)|skip)|(refine zl ?_ ?_<;> intro hh)|refine zq ?_|refine zv ?_|refine zu ?_|exact Sy.fin_val fun e=>rfl)));(all_goals (try conv => whnf)))
                          refine Sy.call_val (.c (.v (.int .i64 0))) Try.call24 rfl (fun e a w' h => by have := rwhere_any (e.rv 0) (e.rv 6) ws Q k w' hQa (Sy.row_reads h (.inr rfl)) (Sy.row_reads h (.inl ⟨_, rfl⟩)); rw [h1] at this; exact this) ?_
                          ((repeat' ((conv => whnf);(first|refine zA ?_|(refine zI ?_ ?_<;> intro hh<;> first|(exfalso;omega)|skip)|(refine zl ?_ ?_<;> intro hh)|refine zq ?_|refine zv ?_|refine zu ?_|exact Sy.fin_val fun e=>rfl)));(all_goals (try conv => whnf)))
                          refine Sy.el_map t hgn ?_
                          ((repeat' ((conv => whnf);(first|refine zA ?_|(refine zI ?_ ?_<;> intro hh<;> first|(exfalso;omega)|skip)|(refine zl ?_ ?_<;> intro hh)|refine zq ?_|refine zv ?_|refine zu ?_|exact Sy.fin_val fun e=>rfl)));(all_goals (try conv => whnf)))
                          have e0 : upL (insS Q (t, b)) ((k : Int) - 1) = upL (insS Q (t, b)) (((k + 1 : Nat) : Int) - 1) := by rw [show ((k + 1 : Nat) : Int) - 1 = k by omega, h3]
                          rw [e0]
                          refine ⟨k + 1, by omega, by omega, ?_⟩
                          ((repeat' (first|((conv => whnf);done)|((try conv => whnf);first|exact trivial|(refine And.intro ?_ ?_)|rfl|exact fun _ _ _ h=>h|exact fun _ _ _ _=>trivial)));(all_goals (try conv => whnf)))
                        · dsimp only at h2
                          obtain ⟨c, hc⟩ : ∃ c, whrR Q k = c := ⟨_, rfl⟩
                          rw [hc] at h1 h4
                          have h2b : ((k : Int) == t) = false := beq_false_of_ne h2
                          ((repeat' ((conv => whnf);(first|refine zA ?_|(refine zI ?_ ?_<;> intro hh<;> first|(exfalso;omega)|skip)|(refine zl ?_ ?_<;> intro hh)|refine zq ?_|refine zv ?_|refine zu ?_|exact Sy.fin_val fun e=>rfl)));(all_goals (try conv => whnf)))
                          refine Sy.call_val (.c (.v (.int .i64 c))) Try.call24 rfl (fun e a w' h => by have := rwhere_any (e.rv 0) (e.rv 6) ws Q k w' hQa (Sy.row_reads h (.inr rfl)) (Sy.row_reads h (.inl ⟨_, rfl⟩)); rw [hc] at this; exact this) ?_
                          ((repeat' ((conv => whnf);(first|refine zA ?_|(refine zI ?_ ?_<;> intro hh<;> first|(exfalso;omega)|skip)|(refine zl ?_ ?_<;> intro hh)|refine zq ?_|refine zv ?_|refine zu ?_|exact Sy.fin_val fun e=>rfl)));(all_goals (try conv => whnf)))
                          refine Sy.need_of (by show ((upL (insS Q (t, b)) ((k : Int) - 1)).length + 1) * 16 ≤ _ ∧ _; omega) ?_
                          ((repeat' ((conv => whnf);(first|refine zA ?_|(refine zI ?_ ?_<;> intro hh<;> first|(exfalso;omega)|skip)|(refine zl ?_ ?_<;> intro hh)|refine zq ?_|refine zv ?_|refine zu ?_|exact Sy.fin_val fun e=>rfl)));(all_goals (try conv => whnf)))
                          refine Sy.el_map t hgn ?_
                          ((repeat' ((conv => whnf);(first|refine zA ?_|(refine zI ?_ ?_<;> intro hh<;> first|(exfalso;omega)|skip)|(refine zl ?_ ?_<;> intro hh)|refine zq ?_|refine zv ?_|refine zu ?_|exact Sy.fin_val fun e=>rfl)));(all_goals (try conv => whnf)))
                          have es : (upL (insS Q (t, b)) ((k : Int) - 1)).map enc2 ++ [[Value.int .i64 k, Value.int .i64 c]] = (upL (insS Q (t, b)) (((k + 1 : Nat) : Int) - 1)).map enc2 := by rw [show ((k + 1 : Nat) : Int) - 1 = k by omega, h4, List.map_append]; rfl
                          have el : (upL (insS Q (t, b)) ((k : Int) - 1)).length + 1 = (upL (insS Q (t, b)) (((k + 1 : Nat) : Int) - 1)).length := by rw [show ((k + 1 : Nat) : Int) - 1 = k by omega, h4, List.length_append]; rfl
                          rw [es, el]
                          refine ⟨k + 1, by omega, by omega, ?_⟩
                          ((repeat' (first|((conv => whnf);done)|((try conv => whnf);first|exact trivial|(refine And.intro ?_ ?_)|rfl|exact fun _ _ _ h=>h|exact fun _ _ _ _=>trivial)));(all_goals (try conv => whnf)))
                  · have hfa := free_at hokn ((k : Int) + 1)
                    have hbs := best_step hbp hfa
                    have hsb := sl_bd hokn ((k : Int) + 1)
                    have hac := at_cnt Q ((k : Int) + 1)
                    have hal := atL_len Q ((k : Int) + 1)
                    rw [← hac] at hbs
                    have hr0 := best_r hbp
                    generalize hsl : slL ws ((k : Int) + 1) = s at *
                    ((repeat' ((conv => whnf);(first|refine zA ?_|(refine zI ?_ ?_<;> intro hh<;> first|(exfalso;omega)|skip)|(refine zl ?_ ?_<;> intro hh)|refine zq ?_|refine zv ?_|refine zu ?_|exact Sy.fin_val fun e=>rfl)));(all_goals (try conv => whnf)))
                    refine Sy.draw_go [] (by kernel_rfl) ?_
                    intro e0
                    conv => whnf
                    refine zt 0 rfl ?_
                    conv => whnf
                    refine zt 1 rfl ?_
                    conv => whnf
                    refine zt 3 rfl ?_
                    conv => whnf
                    refine zt 4 rfl ?_
                    conv => whnf
                    refine zd1 [2] (zx rfl ?_ zy)
                    conv => whnf
                    refine Sy.call_val (.c (.v (.int .i64 s))) Try.call51 rfl (fun e a w' h => by have := rslots_any (e.rv 0) (e.rv 6) ws Q ((k : Int) + 1) w' (Sy.row_reads h (.inr rfl)) (Sy.row_reads h (.inl ⟨_, rfl⟩)); rw [hsl] at this; exact this) ?_
                    conv => whnf
                    refine ⟨(by repeat' ((conv => whnf);first|exact trivial|(refine And.intro ?_ ?_)|rfl)), ?_⟩
                    refine zd1 [5] (zx rfl ?_ zy)
                    conv => whnf
                    refine Sy.call_r1 ⟨3, 1, (atL Q ((k : Int) + 1)).length, (atL Q ((k : Int) + 1)).map encI⟩ (fun j => .c (.row j)) Try.call26 (fun e a w' h => rat_any (e.rv 0) (e.rv 6) ws Q ((k : Int) + 1) w' (Sy.row_reads h (.inr rfl)) (Sy.row_reads h (.inl ⟨_, rfl⟩)) (by omega)) ?_
                    conv => whnf
                    refine ⟨(by repeat' ((conv => whnf);first|exact trivial|(refine And.intro ?_ ?_)|rfl)), ?_⟩
                    refine zd1 [6] (zx rfl ?_ zy)
                    conv => whnf
                    refine ⟨(by repeat' ((conv => whnf);first|exact trivial|(refine And.intro ?_ ?_)|rfl)), ?_⟩
                    refine zt 7 rfl ?_
                    (conv => whnf);(repeat' ((first|refine zA ?_|(refine zI ?_ ?_<;> intro hh<;> first|(exfalso;omega)|skip)|(refine zl ?_ ?_<;> intro hh)|refine zq ?_|refine zv ?_|refine zu ?_|exact Sy.fin_val fun e=>rfl);(try conv => whnf)))
                    refine zt 8 rfl ?_
                    conv => whnf
                    refine zw ?_
                    skip
                    all_goals (((repeat' ((conv => whnf);(first|refine zA ?_|(refine zI ?_ ?_<;> intro hh<;> first|(exfalso;omega)|skip)|(refine zl ?_ ?_<;> intro hh)|refine zq ?_|refine zv ?_|refine zu ?_|exact Sy.fin_val fun e=>rfl)));(all_goals (try conv => whnf))))
                    · rw [if_pos (by assumption)] at hbs
                      refine ⟨(k + 1, (k : Int) + 1, s - ((atL Q ((k : Int) + 1)).length : Nat)), ⟨by dsimp only; omega, by rw [Int.natCast_succ]; exact hbs⟩, by dsimp only; omega, ?_⟩
                      dsimp only
                      ((repeat' (first|((conv => whnf);done)|((try conv => whnf);first|exact trivial|(refine And.intro ?_ ?_)|rfl|exact fun _ _ _ h=>h|exact fun _ _ _ _=>trivial)));(all_goals (try conv => whnf)))
                    · rw [if_neg (by assumption)] at hbs
                      refine ⟨(k + 1, r), ⟨by dsimp only; omega, by rw [Int.natCast_succ]; exact hbs⟩, by dsimp only; omega, ?_⟩
                      dsimp only
                      ((repeat' (first|((conv => whnf);done)|((try conv => whnf);first|exact trivial|(refine And.intro ?_ ?_)|rfl|exact fun _ _ _ h=>h|exact fun _ _ _ _=>trivial)));(all_goals (try conv => whnf)))
set_option maxHeartbeats 4000000 in
theorem rlay0_does (ws ps : List (Int × Int)) (ts : List Int) (hz : ts = []) (h0 : layE ws ps ts = 0) : Sy.Does Try.prog 15 (rlay0C ws ps ts) := by
  obtain ⟨hok, hTT, hN, hfree⟩ := layE_zero h0
  obtain ⟨hwl, hpl⟩ := ok_lens hok
  have ha : asc ps := by unfold FlOk at hok; exact hok.2.1.2
  have hnd : ts.Nodup := by unfold LyN at hN; exact hN.1
  have hnp : ∀ p ∈ ps, p.1 ∉ ts := by unfold LyN at hN; exact hN.2
  have hT : ∀ t ∈ ts, okT t := by unfold LyT at hTT; exact hTT
  have hb : ts.length ≤ 1000 := by rw [hz]; exact Nat.zero_le _
  refine Sy.does_of Sy.lv15 Sy.tab_ok Try.func15 rfl _ Try.ntmps15 _ rfl rfl (fun e0 w hpre => ?_)
  ((repeat' ((conv => whnf);(first|refine zA ?_|(refine zI ?_ ?_<;> intro hh<;> first|(exfalso;omega)|skip)|(refine zl ?_ ?_<;> intro hh)|refine zq ?_|refine zv ?_|refine zu ?_|exact Sy.fin_val fun e=>rfl)));(all_goals (try conv => whnf)))
  refine Sy.call_val (.c (.v (.bool true))) Try.call19 rfl (fun e a w' h => by have := rright_any (e.rv 0) (e.rv 1) ws ps w' (Sy.row_reads h (.inr rfl)) (Sy.row_reads h (.inr rfl)) (by omega); rw [decide_eq_true hok] at this; exact this) ?_
  ((repeat' ((conv => whnf);(first|refine zA ?_|(refine zI ?_ ?_<;> intro hh<;> first|(exfalso;omega)|skip)|(refine zl ?_ ?_<;> intro hh)|refine zq ?_|refine zv ?_|refine zu ?_|exact Sy.fin_val fun e=>rfl)));(all_goals (try conv => whnf)))
  refine Sy.loop_inv Sy.tab_ok (fun n : Nat => [(6, .c (.v (.int .i64 n)))]) (fun n => []) (fun n => n ≤ ts.length) (fun n => ts.length - n) 0 (Nat.zero_le _) ?_ (fun n hn => ?_)
  · ((repeat' (first|((conv => whnf);done)|((try conv => whnf);first|exact trivial|(refine And.intro ?_ ?_)|rfl|exact fun _ _ _ h=>h|exact fun _ _ _ _=>trivial)));(all_goals (try conv => whnf)))
  · ((repeat' ((conv => whnf);(first|refine zA ?_|(refine zI ?_ ?_<;> intro hh<;> first|(exfalso;omega)|skip)|(refine zl ?_ ?_<;> intro hh)|refine zq ?_|refine zv ?_|refine zu ?_|exact Sy.fin_val fun e=>rfl)));(all_goals (try conv => whnf)))
    · have hlt : n < ts.length := by omega
      have hgn := List.getElem?_eq_getElem hlt
      have hto := hT _ (List.getElem_mem hlt)
      generalize ts[n] = t at *
      have h1 : decide (t < 0) = false := decide_eq_false (by unfold okT at hto; omega)
      have h2 : decide (15 < t) = false := decide_eq_false (by unfold okT at hto; omega)
      refine Sy.el_map t hgn ?_
      ((repeat' ((conv => whnf);(first|refine zA ?_|(refine zI ?_ ?_<;> intro hh<;> first|(exfalso;omega)|skip)|(refine zl ?_ ?_<;> intro hh)|refine zq ?_|refine zv ?_|refine zu ?_|exact Sy.fin_val fun e=>rfl)));(all_goals (try conv => whnf)))
      refine Sy.el_map t hgn ?_
      ((repeat' ((conv => whnf);(first|refine zA ?_|(refine zI ?_ ?_<;> intro hh<;> first|(exfalso;omega)|skip)|(refine zl ?_ ?_<;> intro hh)|refine zq ?_|refine zv ?_|refine zu ?_|exact Sy.fin_val fun e=>rfl)));(all_goals (try conv => whnf)))
      refine ⟨n + 1, by omega, by omega, ?_⟩
      ((repeat' (first|((conv => whnf);done)|((try conv => whnf);first|exact trivial|(refine And.intro ?_ ?_)|rfl|exact fun _ _ _ h=>h|exact fun _ _ _ _=>trivial)));(all_goals (try conv => whnf)))
    · refine Sy.loop_inv Sy.tab_ok (fun n : Nat => [(7, .c (.v (.int .i64 n)))]) (fun n => []) (fun n => n ≤ ts.length) (fun n => ts.length - n) 0 (Nat.zero_le _) ?_ (fun n hn => ?_)
      · ((repeat' (first|((conv => whnf);done)|((try conv => whnf);first|exact trivial|(refine And.intro ?_ ?_)|rfl|exact fun _ _ _ h=>h|exact fun _ _ _ _=>trivial)));(all_goals (try conv => whnf)))
      · ((repeat' ((conv => whnf);(first|refine zA ?_|(refine zI ?_ ?_<;> intro hh<;> first|(exfalso;omega)|skip)|(refine zl ?_ ?_<;> intro hh)|refine zq ?_|refine zv ?_|refine zu ?_|exact Sy.fin_val fun e=>rfl)));(all_goals (try conv => whnf)))
        · have hlt : n < ts.length := by omega
          have hgn := List.getElem?_eq_getElem hlt
          have hm := List.getElem_mem hlt
          have hcn := nodup_count.1 hnd _ hm
          have hno : ∀ p ∈ ps, p.1 ≠ ts[n] := fun p hp he => hnp p hp (he ▸ hm)
          generalize ts[n] = t at *
          have hc : whrR ps t = 0 := by
            rcases whr_ok hok t with ⟨h, _⟩ | ⟨_, _, h⟩
            · exact h
            · exact absurd rfl (hno _ h)
          have hcf : decide ((1 : Int) < (ts.count t : Nat)) = false := decide_eq_false (by omega)
          refine Sy.draw_go [] (by kernel_rfl) ?_
          intro e0
          conv => whnf
          refine zt 0 rfl ?_
          conv => whnf
          refine zt 1 rfl ?_
          conv => whnf
          refine zt 2 rfl ?_
          conv => whnf
          refine zt 3 rfl ?_
          (conv => whnf);(repeat' ((first|refine zA ?_|(refine zI ?_ ?_<;> intro hh<;> first|(exfalso;omega)|skip)|(refine zl ?_ ?_<;> intro hh)|refine zq ?_|refine zv ?_|refine zu ?_|exact Sy.fin_val fun e=>rfl);(try conv => whnf)))
          refine zt 4 rfl ?_
          conv => whnf
          refine Sy.el_map t hgn ?_
          conv => whnf
          refine zd1 [5] (zx rfl ?_ zy)
          conv => whnf
          refine Sy.call_val (.c (.v (.int .i64 (ts.count t : Nat)))) Try.call50 rfl (fun e a w' h => count_any (e.rv 2) ts t w' (Sy.row_reads h (.inr rfl)) (by omega)) ?_
          conv => whnf
          refine ⟨(by repeat' ((conv => whnf);first|exact trivial|(refine And.intro ?_ ?_)|rfl)), ?_⟩
          refine zt 6 rfl ?_
          (conv => whnf);(repeat' ((first|refine zA ?_|(refine zI ?_ ?_<;> intro hh<;> first|(exfalso;omega)|skip)|(refine zl ?_ ?_<;> intro hh)|refine zq ?_|refine zv ?_|refine zu ?_|exact Sy.fin_val fun e=>rfl);(try conv => whnf)))
          refine zt 7 rfl ?_
          conv => whnf
          refine zt 8 rfl ?_
          (conv => whnf);(repeat' ((first|refine zA ?_|(refine zI ?_ ?_<;> intro hh<;> first|(exfalso;omega)|skip)|(refine zl ?_ ?_<;> intro hh)|refine zq ?_|refine zv ?_|refine zu ?_|exact Sy.fin_val fun e=>rfl);(try conv => whnf)))
          refine zt 9 rfl ?_
          (conv => whnf);(repeat' ((first|refine zA ?_|(refine zI ?_ ?_<;> intro hh<;> first|(exfalso;omega)|skip)|(refine zl ?_ ?_<;> intro hh)|refine zq ?_|refine zv ?_|refine zu ?_|exact Sy.fin_val fun e=>rfl);(try conv => whnf)))
          refine zt 10 rfl ?_
          (conv => whnf);(repeat' ((first|refine zA ?_|(refine zI ?_ ?_<;> intro hh<;> first|(exfalso;omega)|skip)|(refine zl ?_ ?_<;> intro hh)|refine zq ?_|refine zv ?_|refine zu ?_|exact Sy.fin_val fun e=>rfl);(try conv => whnf)))
          refine zt 11 rfl ?_
          (conv => whnf);(repeat' ((first|refine zA ?_|(refine zI ?_ ?_<;> intro hh<;> first|(exfalso;omega)|skip)|(refine zl ?_ ?_<;> intro hh)|refine zq ?_|refine zv ?_|refine zu ?_|exact Sy.fin_val fun e=>rfl);(try conv => whnf)))
          refine zt 12 rfl ?_
          (conv => whnf);(repeat' ((first|refine zA ?_|(refine zI ?_ ?_<;> intro hh<;> first|(exfalso;omega)|skip)|(refine zl ?_ ?_<;> intro hh)|refine zq ?_|refine zv ?_|refine zu ?_|exact Sy.fin_val fun e=>rfl);(try conv => whnf)))
          refine Sy.el_map t hgn ?_
          conv => whnf
          refine zd1 [13] (zx rfl ?_ zy)
          conv => whnf
          (refine zA ?_;conv => whnf)
          refine Sy.call_val (.c (.v (.int .i64 0))) Try.call24 rfl (fun e a w' h => by have := rwhere_any (e.rv 0) (e.rv 1) ws ps t w' ha (Sy.row_reads h (.inr rfl)) (Sy.row_reads h (.inr rfl)); rw [hc] at this; exact this) ?_
          conv => whnf
          refine ⟨(by repeat' ((conv => whnf);first|exact trivial|(refine And.intro ?_ ?_)|rfl)), ?_⟩
          refine zt 14 rfl ?_
          (conv => whnf);(repeat' ((first|refine zA ?_|(refine zI ?_ ?_<;> intro hh<;> first|(exfalso;omega)|skip)|(refine zl ?_ ?_<;> intro hh)|refine zq ?_|refine zv ?_|refine zu ?_|exact Sy.fin_val fun e=>rfl);(try conv => whnf)))
          refine zt 15 rfl ?_
          (conv => whnf);(repeat' ((first|refine zA ?_|(refine zI ?_ ?_<;> intro hh<;> first|(exfalso;omega)|skip)|(refine zl ?_ ?_<;> intro hh)|refine zq ?_|refine zv ?_|refine zu ?_|exact Sy.fin_val fun e=>rfl);(try conv => whnf)))
          refine zw ?_
          skip
          all_goals (((repeat' ((conv => whnf);(first|refine zA ?_|(refine zI ?_ ?_<;> intro hh<;> first|(exfalso;omega)|skip)|(refine zl ?_ ?_<;> intro hh)|refine zq ?_|refine zv ?_|refine zu ?_|exact Sy.fin_val fun e=>rfl)));(all_goals (try conv => whnf))))
          all_goals (refine ⟨n + 1, by omega, by omega, ?_⟩)
          all_goals (((repeat' (first|((conv => whnf);done)|((try conv => whnf);first|exact trivial|(refine And.intro ?_ ?_)|rfl|exact fun _ _ _ h=>h|exact fun _ _ _ _=>trivial)));(all_goals (try conv => whnf))))
        · obtain ⟨s, hs⟩ : ∃ s, sumL (frL ws ps) = s := ⟨_, rfl⟩
          rw [hs] at hfree
          refine Sy.call_val (.c (.v (.int .i64 s))) Try.call27 rfl (fun e a w' h => by have := rfree_any (e.rv 0) (e.rv 1) ws ps w' hok (Sy.row_reads h (.inr rfl)) (Sy.row_reads h (.inr rfl)); rw [hs] at this; exact this) ?_
          ((repeat' ((conv => whnf);(first|refine zA ?_|(refine zI ?_ ?_<;> intro hh<;> first|(exfalso;omega)|skip)|(refine zl ?_ ?_<;> intro hh)|refine zq ?_|refine zv ?_|refine zu ?_|exact Sy.fin_val fun e=>rfl)));(all_goals (try conv => whnf)))
          refine Sy.loop_inv Sy.tab_ok (fun n : Nat => [(9, .c (.v (.int .i64 n)))]) (fun n => []) (fun n => n ≤ ts.length) (fun n => ts.length - n) 0 (Nat.zero_le _) ?_ (fun n hn => ?_)
          · ((repeat' (first|((conv => whnf);done)|((try conv => whnf);first|exact trivial|(refine And.intro ?_ ?_)|rfl|exact fun _ _ _ h=>h|exact fun _ _ _ _=>trivial)));(all_goals (try conv => whnf)))
          · have hz2 : ts.length = 0 := by rw [hz]; rfl
            have e : n = 0 := by omega
            subst e
            ((repeat' ((conv => whnf);(first|refine zA ?_|(refine zI ?_ ?_<;> intro hh<;> first|(exfalso;omega)|skip)|(refine zl ?_ ?_<;> intro hh)|refine zq ?_|refine zv ?_|refine zu ?_|exact Sy.fin_val fun e=>rfl)));(all_goals (try conv => whnf)))
            refine Sy.fin_own () trivial ?_
            ((conv => whnf);(refine And.intro ?_ (And.intro ?_ (And.intro ?_ ?_)));(all_goals ((repeat' (first|((conv => whnf);done)|((try conv => whnf);first|exact trivial|(refine And.intro ?_ ?_)|rfl|exact fun _ _ _ h=>h|exact fun _ _ _ _=>trivial)));(all_goals (try conv => whnf)))))
set_option maxHeartbeats 4000000 in
theorem rlay_bad (u v y : Value) (ws ps : List (Int × Int)) (ts : List Int) (w : World) (hu : XD.ok (fun b => b < w.heap.size) w ⟨u, 2, ws.length, ws.map enc2⟩) (hv : XD.ok (fun b => b < w.heap.size) w ⟨v, 2, ps.length, ps.map enc2⟩) (hy : XD.ok (fun b => b < w.heap.size) w ⟨y, 1, ts.length, ts.map encI⟩) (hb : ps.length ≤ 1000) (hbt : ts.length ≤ 1000) (h0 : layE ws ps ts ≠ 0) :
    Calls Try.prog 15 #[.agg #[u, v], y] w (Sy.Ret (.tuple #[.agg #[.slice none 0 0, .slice none 0 0], .int .i64 (layE ws ps ts)]) w) := by
  have hE : layE ws ps ts = if FlOk ws ps then (if LyT ts then (if LyN ps ts then (if sumL (frL ws ps) < ts.length then 6 else 0) else 5) else 2) else 210 := rfl
  refine Sy.calls_of Sy.lv15 Sy.tab_ok Try.func15 rfl _ Try.ntmps15 [⟨u, 2, ws.length, ws.map enc2⟩, ⟨v, 2, ps.length, ps.map enc2⟩, ⟨y, 1, ts.length, ts.map encI⟩] [.agg [.row 0, .row 1], .c (.row 2)] rfl rfl rfl ⟨hu, hv, hy, trivial⟩ ?_
  ((repeat' ((conv => whnf);(first|refine zA ?_|(refine zI ?_ ?_<;> intro hh<;> first|(exfalso;omega)|skip)|(refine zl ?_ ?_<;> intro hh)|refine zq ?_|refine zv ?_|refine zu ?_|exact Sy.fin_val fun e=>rfl)));(all_goals (try conv => whnf)))
  refine Sy.call_val (.c (.v (.bool (decide (FlOk ws ps))))) Try.call19 rfl (fun e a w' h => rright_any (e.rv 0) (e.rv 1) ws ps w' (Sy.row_reads h (.inr rfl)) (Sy.row_reads h (.inr rfl)) (by omega)) ?_
  by_cases hok : FlOk ws ps
  · rw [if_pos hok] at hE
    have ha : asc ps := by unfold FlOk at hok; exact hok.2.1.2
    rw [decide_eq_true hok]
    ((repeat' ((conv => whnf);(first|refine zA ?_|(refine zI ?_ ?_<;> intro hh<;> first|(exfalso;omega)|skip)|(refine zl ?_ ?_<;> intro hh)|refine zq ?_|refine zv ?_|refine zu ?_|exact Sy.fin_val fun e=>rfl)));(all_goals (try conv => whnf)))
    refine Sy.loop_inv Sy.tab_ok (fun n : Nat => [(6, .c (.v (.int .i64 n)))]) (fun n => []) (fun n => n ≤ ts.length ∧ ∀ t ∈ ts.take n, okT t) (fun n => ts.length - n) 0 ⟨Nat.zero_le _, fun t ht => by simp at ht⟩ ?_ (fun n hn => ?_)
    · ((repeat' (first|((conv => whnf);done)|((try conv => whnf);first|exact trivial|(refine And.intro ?_ ?_)|rfl|exact fun _ _ _ h=>h|exact fun _ _ _ _=>trivial)));(all_goals (try conv => whnf)))
    · obtain ⟨hn, hall⟩ := hn
      by_cases hlt : n < ts.length
      · have hgn := List.getElem?_eq_getElem hlt
        have hm := List.getElem_mem hlt
        have hsn : ts.take (n + 1) = ts.take n ++ [ts[n]] := List.take_succ_eq_append_getElem hlt
        generalize ts[n] = t at *
        by_cases ht1 : t < 0
        · have hno : ¬ LyT ts := fun h => by unfold LyT at h; have := h t hm; unfold okT at this; omega
          rw [if_neg hno] at hE
          rw [hE]
          ((repeat' ((conv => whnf);(first|refine zA ?_|(refine zI ?_ ?_<;> intro hh<;> first|(exfalso;omega)|skip)|(refine zl ?_ ?_<;> intro hh)|refine zq ?_|refine zv ?_|refine zu ?_|exact Sy.fin_val fun e=>rfl)));(all_goals (try conv => whnf)))
          refine Sy.el_map t hgn ?_
          ((repeat' ((conv => whnf);(first|refine zA ?_|(refine zI ?_ ?_<;> intro hh<;> first|(exfalso;omega)|skip)|(refine zl ?_ ?_<;> intro hh)|refine zq ?_|refine zv ?_|refine zu ?_|exact Sy.fin_val fun e=>rfl)));(all_goals (try conv => whnf)))
          all_goals done
        · by_cases ht2 : 15 < t
          · have hno : ¬ LyT ts := fun h => by unfold LyT at h; have := h t hm; unfold okT at this; omega
            rw [if_neg hno] at hE
            rw [hE]
            ((repeat' ((conv => whnf);(first|refine zA ?_|(refine zI ?_ ?_<;> intro hh<;> first|(exfalso;omega)|skip)|(refine zl ?_ ?_<;> intro hh)|refine zq ?_|refine zv ?_|refine zu ?_|exact Sy.fin_val fun e=>rfl)));(all_goals (try conv => whnf)))
            refine Sy.el_map t hgn ?_
            ((repeat' ((conv => whnf);(first|refine zA ?_|(refine zI ?_ ?_<;> intro hh<;> first|(exfalso;omega)|skip)|(refine zl ?_ ?_<;> intro hh)|refine zq ?_|refine zv ?_|refine zu ?_|exact Sy.fin_val fun e=>rfl)));(all_goals (try conv => whnf)))
            refine Sy.el_map t hgn ?_
            ((repeat' ((conv => whnf);(first|refine zA ?_|(refine zI ?_ ?_<;> intro hh<;> first|(exfalso;omega)|skip)|(refine zl ?_ ?_<;> intro hh)|refine zq ?_|refine zv ?_|refine zu ?_|exact Sy.fin_val fun e=>rfl)));(all_goals (try conv => whnf)))
            all_goals done
          · ((repeat' ((conv => whnf);(first|refine zA ?_|(refine zI ?_ ?_<;> intro hh<;> first|(exfalso;omega)|skip)|(refine zl ?_ ?_<;> intro hh)|refine zq ?_|refine zv ?_|refine zu ?_|exact Sy.fin_val fun e=>rfl)));(all_goals (try conv => whnf)))
            refine Sy.el_map t hgn ?_
            ((repeat' ((conv => whnf);(first|refine zA ?_|(refine zI ?_ ?_<;> intro hh<;> first|(exfalso;omega)|skip)|(refine zl ?_ ?_<;> intro hh)|refine zq ?_|refine zv ?_|refine zu ?_|exact Sy.fin_val fun e=>rfl)));(all_goals (try conv => whnf)))
            refine Sy.el_map t hgn ?_
            ((repeat' ((conv => whnf);(first|refine zA ?_|(refine zI ?_ ?_<;> intro hh<;> first|(exfalso;omega)|skip)|(refine zl ?_ ?_<;> intro hh)|refine zq ?_|refine zv ?_|refine zu ?_|exact Sy.fin_val fun e=>rfl)));(all_goals (try conv => whnf)))
            refine ⟨n + 1, ⟨by omega, fun t' ht' => ?_⟩, by omega, ?_⟩
            · rw [hsn] at ht'
              rcases List.mem_append.1 ht' with h | h
              · exact hall t' h
              · rw [List.mem_singleton.1 h]; unfold okT; omega
            · ((repeat' (first|((conv => whnf);done)|((try conv => whnf);first|exact trivial|(refine And.intro ?_ ?_)|rfl|exact fun _ _ _ h=>h|exact fun _ _ _ _=>trivial)));(all_goals (try conv => whnf)))
      · have e : n = ts.length := by omega
        rw [e, List.take_length] at hall
        have hTT : LyT ts := by unfold LyT; exact hall
        rw [if_pos hTT] at hE
        ((repeat' ((conv => whnf);(first|refine zA ?_|(refine zI ?_ ?_<;> intro hh<;> first|(exfalso;omega)|skip)|(refine zl ?_ ?_<;> intro hh)|refine zq ?_|refine zv ?_|refine zu ?_|exact Sy.fin_val fun e=>rfl)));(all_goals (try conv => whnf)))
        refine Sy.loop_inv Sy.tab_ok (fun n : Nat => [(7, .c (.v (.int .i64 n)))]) (fun n => []) (fun n => n ≤ ts.length ∧ ∀ t ∈ ts.take n, ts.count t ≤ 1 ∧ ∀ p ∈ ps, p.1 ≠ t) (fun n => ts.length - n) 0 ⟨Nat.zero_le _, fun t ht => by simp at ht⟩ ?_ (fun n hn => ?_)
        · ((repeat' (first|((conv => whnf);done)|((try conv => whnf);first|exact trivial|(refine And.intro ?_ ?_)|rfl|exact fun _ _ _ h=>h|exact fun _ _ _ _=>trivial)));(all_goals (try conv => whnf)))
        · obtain ⟨hn, hall2⟩ := hn
          ((repeat' ((conv => whnf);(first|refine zA ?_|(refine zI ?_ ?_<;> intro hh<;> first|(exfalso;omega)|skip)|(refine zl ?_ ?_<;> intro hh)|refine zq ?_|refine zv ?_|refine zu ?_|exact Sy.fin_val fun e=>rfl)));(all_goals (try conv => whnf)))
          · have hlt : n < ts.length := by omega
            have hgn := List.getElem?_eq_getElem hlt
            have hm := List.getElem_mem hlt
            have hsn : ts.take (n + 1) = ts.take n ++ [ts[n]] := List.take_succ_eq_append_getElem hlt
            generalize ts[n] = t at *
            obtain ⟨c, hc⟩ : ∃ c, whrR ps t = c := ⟨_, rfl⟩
            obtain ⟨k, hk⟩ : ∃ k : Nat, ts.count t = k := ⟨_, rfl⟩
            have hcc := whr_ok hok t
            rw [hc] at hcc
            by_cases h1 : k ≤ 1
            · have hcf : decide ((1 : Int) < (k : Nat)) = false := decide_eq_false (by omega)
              rcases hcc with ⟨hz, hnone⟩ | ⟨hz, _, hmem⟩
              · subst hz
                refine Sy.draw_go [] (by kernel_rfl) ?_
                intro e0
                conv => whnf
                refine zt 0 rfl ?_
                conv => whnf
                refine zt 1 rfl ?_
                conv => whnf
                refine zt 2 rfl ?_
                conv => whnf
                refine zt 3 rfl ?_
                (conv => whnf);(repeat' ((first|refine zA ?_|(refine zI ?_ ?_<;> intro hh<;> first|(exfalso;omega)|skip)|(refine zl ?_ ?_<;> intro hh)|refine zq ?_|refine zv ?_|refine zu ?_|exact Sy.fin_val fun e=>rfl);(try conv => whnf)))
                refine zt 4 rfl ?_
                conv => whnf
                refine Sy.el_map t hgn ?_
                conv => whnf
                refine zd1 [5] (zx rfl ?_ zy)
                conv => whnf
                refine Sy.call_val (.c (.v (.int .i64 k))) Try.call50 rfl (fun e a w' h => by have := count_any (e.rv 2) ts t w' (Sy.row_reads h (.inr rfl)) hbt; rw [hk] at this; exact this) ?_
                conv => whnf
                refine ⟨(by repeat' ((conv => whnf);first|exact trivial|(refine And.intro ?_ ?_)|rfl)), ?_⟩
                refine zt 6 rfl ?_
                (conv => whnf);(repeat' ((first|refine zA ?_|(refine zI ?_ ?_<;> intro hh<;> first|(exfalso;omega)|skip)|(refine zl ?_ ?_<;> intro hh)|refine zq ?_|refine zv ?_|refine zu ?_|exact Sy.fin_val fun e=>rfl);(try conv => whnf)))
                refine zt 7 rfl ?_
                conv => whnf
                refine zt 8 rfl ?_
                (conv => whnf);(repeat' ((first|refine zA ?_|(refine zI ?_ ?_<;> intro hh<;> first|(exfalso;omega)|skip)|(refine zl ?_ ?_<;> intro hh)|refine zq ?_|refine zv ?_|refine zu ?_|exact Sy.fin_val fun e=>rfl);(try conv => whnf)))
                refine zt 9 rfl ?_
                (conv => whnf);(repeat' ((first|refine zA ?_|(refine zI ?_ ?_<;> intro hh<;> first|(exfalso;omega)|skip)|(refine zl ?_ ?_<;> intro hh)|refine zq ?_|refine zv ?_|refine zu ?_|exact Sy.fin_val fun e=>rfl);(try conv => whnf)))
                refine zt 10 rfl ?_
                (conv => whnf);(repeat' ((first|refine zA ?_|(refine zI ?_ ?_<;> intro hh<;> first|(exfalso;omega)|skip)|(refine zl ?_ ?_<;> intro hh)|refine zq ?_|refine zv ?_|refine zu ?_|exact Sy.fin_val fun e=>rfl);(try conv => whnf)))
                refine zt 11 rfl ?_
                (conv => whnf);(repeat' ((first|refine zA ?_|(refine zI ?_ ?_<;> intro hh<;> first|(exfalso;omega)|skip)|(refine zl ?_ ?_<;> intro hh)|refine zq ?_|refine zv ?_|refine zu ?_|exact Sy.fin_val fun e=>rfl);(try conv => whnf)))
                refine zt 12 rfl ?_
                (conv => whnf);(repeat' ((first|refine zA ?_|(refine zI ?_ ?_<;> intro hh<;> first|(exfalso;omega)|skip)|(refine zl ?_ ?_<;> intro hh)|refine zq ?_|refine zv ?_|refine zu ?_|exact Sy.fin_val fun e=>rfl);(try conv => whnf)))
                refine Sy.el_map t hgn ?_
                conv => whnf
                refine zd1 [13] (zx rfl ?_ zy)
                conv => whnf
                (refine zA ?_;conv => whnf)
                refine Sy.call_val (.c (.v (.int .i64 0))) Try.call24 rfl (fun e a w' h => by have := rwhere_any (e.rv 0) (e.rv 1) ws ps t w' ha (Sy.row_reads h (.inr rfl)) (Sy.row_reads h (.inr rfl)); rw [hc] at this; exact this) ?_
                conv => whnf
                refine ⟨(by repeat' ((conv => whnf);first|exact trivial|(refine And.intro ?_ ?_)|rfl)), ?_⟩
                refine zt 14 rfl ?_
                (conv => whnf);(repeat' ((first|refine zA ?_|(refine zI ?_ ?_<;> intro hh<;> first|(exfalso;omega)|skip)|(refine zl ?_ ?_<;> intro hh)|refine zq ?_|refine zv ?_|refine zu ?_|exact Sy.fin_val fun e=>rfl);(try conv => whnf)))
                refine zt 15 rfl ?_
                (conv => whnf);(repeat' ((first|refine zA ?_|(refine zI ?_ ?_<;> intro hh<;> first|(exfalso;omega)|skip)|(refine zl ?_ ?_<;> intro hh)|refine zq ?_|refine zv ?_|refine zu ?_|exact Sy.fin_val fun e=>rfl);(try conv => whnf)))
                refine zw ?_
                skip
                all_goals (((repeat' ((conv => whnf);(first|refine zA ?_|(refine zI ?_ ?_<;> intro hh<;> first|(exfalso;omega)|skip)|(refine zl ?_ ?_<;> intro hh)|refine zq ?_|refine zv ?_|refine zu ?_|exact Sy.fin_val fun e=>rfl)));(all_goals (try conv => whnf))))
                all_goals (refine ⟨n + 1, ⟨by omega, fun t' ht' => ?_⟩, by omega, ?_⟩)
                · rw [hsn] at ht'
                  rcases List.mem_append.1 ht' with h | h
                  · exact hall2 t' h
                  · rw [List.mem_singleton.1 h, hk]; exact ⟨h1, hnone⟩
                · ((repeat' (first|((conv => whnf);done)|((try conv => whnf);first|exact trivial|(refine And.intro ?_ ?_)|rfl|exact fun _ _ _ h=>h|exact fun _ _ _ _=>trivial)));(all_goals (try conv => whnf)))
              · have hno : ¬ LyN ps ts := fun h => by unfold LyN at h; exact h.2 _ hmem hm
                rw [if_neg hno] at hE
                rw [hE]
                have hc0 : decide (0 < c) = true := decide_eq_true (by omega)
                refine Sy.draw_go [] (by kernel_rfl) ?_
                intro e0
                conv => whnf
                refine zt 0 rfl ?_
                conv => whnf
                refine zt 1 rfl ?_
                conv => whnf
                refine zt 2 rfl ?_
                conv => whnf
                refine zt 3 rfl ?_
                (conv => whnf);(repeat' ((first|refine zA ?_|(refine zI ?_ ?_<;> intro hh<;> first|(exfalso;omega)|skip)|(refine zl ?_ ?_<;> intro hh)|refine zq ?_|refine zv ?_|refine zu ?_|exact Sy.fin_val fun e=>rfl);(try conv => whnf)))
                refine zt 4 rfl ?_
                conv => whnf
                refine Sy.el_map t hgn ?_
                conv => whnf
                refine zd1 [5] (zx rfl ?_ zy)
                conv => whnf
                refine Sy.call_val (.c (.v (.int .i64 k))) Try.call50 rfl (fun e a w' h => by have := count_any (e.rv 2) ts t w' (Sy.row_reads h (.inr rfl)) hbt; rw [hk] at this; exact this) ?_
                conv => whnf
                refine ⟨(by repeat' ((conv => whnf);first|exact trivial|(refine And.intro ?_ ?_)|rfl)), ?_⟩
                refine zt 6 rfl ?_
                (conv => whnf);(repeat' ((first|refine zA ?_|(refine zI ?_ ?_<;> intro hh<;> first|(exfalso;omega)|skip)|(refine zl ?_ ?_<;> intro hh)|refine zq ?_|refine zv ?_|refine zu ?_|exact Sy.fin_val fun e=>rfl);(try conv => whnf)))
                refine zt 7 rfl ?_
                conv => whnf
                refine zt 8 rfl ?_
                (conv => whnf);(repeat' ((first|refine zA ?_|(refine zI ?_ ?_<;> intro hh<;> first|(exfalso;omega)|skip)|(refine zl ?_ ?_<;> intro hh)|refine zq ?_|refine zv ?_|refine zu ?_|exact Sy.fin_val fun e=>rfl);(try conv => whnf)))
                refine zt 9 rfl ?_
                (conv => whnf);(repeat' ((first|refine zA ?_|(refine zI ?_ ?_<;> intro hh<;> first|(exfalso;omega)|skip)|(refine zl ?_ ?_<;> intro hh)|refine zq ?_|refine zv ?_|refine zu ?_|exact Sy.fin_val fun e=>rfl);(try conv => whnf)))
                refine zt 10 rfl ?_
                (conv => whnf);(repeat' ((first|refine zA ?_|(refine zI ?_ ?_<;> intro hh<;> first|(exfalso;omega)|skip)|(refine zl ?_ ?_<;> intro hh)|refine zq ?_|refine zv ?_|refine zu ?_|exact Sy.fin_val fun e=>rfl);(try conv => whnf)))
                refine zt 11 rfl ?_
                (conv => whnf);(repeat' ((first|refine zA ?_|(refine zI ?_ ?_<;> intro hh<;> first|(exfalso;omega)|skip)|(refine zl ?_ ?_<;> intro hh)|refine zq ?_|refine zv ?_|refine zu ?_|exact Sy.fin_val fun e=>rfl);(try conv => whnf)))
                refine zt 12 rfl ?_
                (conv => whnf);(repeat' ((first|refine zA ?_|(refine zI ?_ ?_<;> intro hh<;> first|(exfalso;omega)|skip)|(refine zl ?_ ?_<;> intro hh)|refine zq ?_|refine zv ?_|refine zu ?_|exact Sy.fin_val fun e=>rfl);(try conv => whnf)))
                refine Sy.el_map t hgn ?_
                conv => whnf
                refine zd1 [13] (zx rfl ?_ zy)
                conv => whnf
                (refine zA ?_;conv => whnf)
                refine Sy.call_val (.c (.v (.int .i64 c))) Try.call24 rfl (fun e a w' h => by have := rwhere_any (e.rv 0) (e.rv 1) ws ps t w' ha (Sy.row_reads h (.inr rfl)) (Sy.row_reads h (.inr rfl)); rw [hc] at this; exact this) ?_
                conv => whnf
                refine ⟨(by repeat' ((conv => whnf);first|exact trivial|(refine And.intro ?_ ?_)|rfl)), ?_⟩
                refine zt 14 rfl ?_
                (conv => whnf);(repeat' ((first|refine zA ?_|(refine zI ?_ ?_<;> intro hh<;> first|(exfalso;omega)|skip)|(refine zl ?_ ?_<;> intro hh)|refine zq ?_|refine zv ?_|refine zu ?_|exact Sy.fin_val fun e=>rfl);(try conv => whnf)))
                refine zt 15 rfl ?_
                (conv => whnf);(repeat' ((first|refine zA ?_|(refine zI ?_ ?_<;> intro hh<;> first|(exfalso;omega)|skip)|(refine zl ?_ ?_<;> intro hh)|refine zq ?_|refine zv ?_|refine zu ?_|exact Sy.fin_val fun e=>rfl);(try conv => whnf)))
                refine zw ?_
                skip
                all_goals (((repeat' ((conv => whnf);(first|refine zA ?_|(refine zI ?_ ?_<;> intro hh<;> first|(exfalso;omega)|skip)|(refine zl ?_ ?_<;> intro hh)|refine zq ?_|refine zv ?_|refine zu ?_|exact Sy.fin_val fun e=>rfl)));(all_goals (try conv => whnf))))
                all_goals done
            · have hcf : decide ((1 : Int) < (k : Nat)) = true := decide_eq_true (by omega)
              have hno : ¬ LyN ps ts := fun h => by unfold LyN at h; have := nodup_count.1 h.1 t hm; omega
              rw [if_neg hno] at hE
              rw [hE]
              refine Sy.draw_go [] (by kernel_rfl) ?_
              intro e0
              conv => whnf
              refine zt 0 rfl ?_
              conv => whnf
              refine zt 1 rfl ?_
              conv => whnf
              refine zt 2 rfl ?_
              conv => whnf
              refine zt 3 rfl ?_
              (conv => whnf);(repeat' ((first|refine zA ?_|(refine zI ?_ ?_<;> intro hh<;> first|(exfalso;omega)|skip)|(refine zl ?_ ?_<;> intro hh)|refine zq ?_|refine zv ?_|refine zu ?_|exact Sy.fin_val fun e=>rfl);(try conv => whnf)))
              refine zt 4 rfl ?_
              conv => whnf
              refine Sy.el_map t hgn ?_
              conv => whnf
              refine zd1 [5] (zx rfl ?_ zy)
              conv => whnf
              refine Sy.call_val (.c (.v (.int .i64 k))) Try.call50 rfl (fun e a w' h => by have := count_any (e.rv 2) ts t w' (Sy.row_reads h (.inr rfl)) hbt; rw [hk] at this; exact this) ?_
              conv => whnf
              refine ⟨(by repeat' ((conv => whnf);first|exact trivial|(refine And.intro ?_ ?_)|rfl)), ?_⟩
              refine zt 6 rfl ?_
              (conv => whnf);(repeat' ((first|refine zA ?_|(refine zI ?_ ?_<;> intro hh<;> first|(exfalso;omega)|skip)|(refine zl ?_ ?_<;> intro hh)|refine zq ?_|refine zv ?_|refine zu ?_|exact Sy.fin_val fun e=>rfl);(try conv => whnf)))
              refine zt 7 rfl ?_
              conv => whnf
              refine zt 8 rfl ?_
              (conv => whnf);(repeat' ((first|refine zA ?_|(refine zI ?_ ?_<;> intro hh<;> first|(exfalso;omega)|skip)|(refine zl ?_ ?_<;> intro hh)|refine zq ?_|refine zv ?_|refine zu ?_|exact Sy.fin_val fun e=>rfl);(try conv => whnf)))
              refine zt 9 rfl ?_
              (conv => whnf);(repeat' ((first|refine zA ?_|(refine zI ?_ ?_<;> intro hh<;> first|(exfalso;omega)|skip)|(refine zl ?_ ?_<;> intro hh)|refine zq ?_|refine zv ?_|refine zu ?_|exact Sy.fin_val fun e=>rfl);(try conv => whnf)))
              refine zt 10 rfl ?_
              (conv => whnf);(repeat' ((first|refine zA ?_|(refine zI ?_ ?_<;> intro hh<;> first|(exfalso;omega)|skip)|(refine zl ?_ ?_<;> intro hh)|refine zq ?_|refine zv ?_|refine zu ?_|exact Sy.fin_val fun e=>rfl);(try conv => whnf)))
              refine zt 11 rfl ?_
              (conv => whnf);(repeat' ((first|refine zA ?_|(refine zI ?_ ?_<;> intro hh<;> first|(exfalso;omega)|skip)|(refine zl ?_ ?_<;> intro hh)|refine zq ?_|refine zv ?_|refine zu ?_|exact Sy.fin_val fun e=>rfl);(try conv => whnf)))
              refine zt 12 rfl ?_
              (conv => whnf);(repeat' ((first|refine zA ?_|(refine zI ?_ ?_<;> intro hh<;> first|(exfalso;omega)|skip)|(refine zl ?_ ?_<;> intro hh)|refine zq ?_|refine zv ?_|refine zu ?_|exact Sy.fin_val fun e=>rfl);(try conv => whnf)))
              refine zd1 [13] (zx rfl ?_ zy)
              conv => whnf
              (refine zA ?_;conv => whnf)
              refine ⟨(by repeat' ((conv => whnf);first|exact trivial|(refine And.intro ?_ ?_)|rfl)), ?_⟩
              refine zt 14 rfl ?_
              (conv => whnf);(repeat' ((first|refine zA ?_|(refine zI ?_ ?_<;> intro hh<;> first|(exfalso;omega)|skip)|(refine zl ?_ ?_<;> intro hh)|refine zq ?_|refine zv ?_|refine zu ?_|exact Sy.fin_val fun e=>rfl);(try conv => whnf)))
              refine zt 15 rfl ?_
              (conv => whnf);(repeat' ((first|refine zA ?_|(refine zI ?_ ?_<;> intro hh<;> first|(exfalso;omega)|skip)|(refine zl ?_ ?_<;> intro hh)|refine zq ?_|refine zv ?_|refine zu ?_|exact Sy.fin_val fun e=>rfl);(try conv => whnf)))
              refine zw ?_
              skip
              all_goals (((repeat' ((conv => whnf);(first|refine zA ?_|(refine zI ?_ ?_<;> intro hh<;> first|(exfalso;omega)|skip)|(refine zl ?_ ?_<;> intro hh)|refine zq ?_|refine zv ?_|refine zu ?_|exact Sy.fin_val fun e=>rfl)));(all_goals (try conv => whnf))))
              all_goals done
          · have e : n = ts.length := by omega
            rw [e, List.take_length] at hall2
            have hN : LyN ps ts := by unfold LyN; exact ⟨nodup_count.2 fun t ht => (hall2 t ht).1, fun p hp hm => (hall2 _ hm).2 p hp rfl⟩
            rw [if_pos hN] at hE
            obtain ⟨s, hs⟩ : ∃ s, sumL (frL ws ps) = s := ⟨_, rfl⟩
            rw [hs] at hE
            have hlt2 : s < ts.length := by
              by_cases h : s < (ts.length : Int)
              · exact h
              · rw [if_neg h] at hE; exact absurd hE h0
            rw [if_pos hlt2] at hE
            rw [hE]
            refine Sy.call_val (.c (.v (.int .i64 s))) Try.call27 rfl (fun e a w' h => by have := rfree_any (e.rv 0) (e.rv 1) ws ps w' hok (Sy.row_reads h (.inr rfl)) (Sy.row_reads h (.inr rfl)); rw [hs] at this; exact this) ?_
            ((repeat' ((conv => whnf);(first|refine zA ?_|(refine zI ?_ ?_<;> intro hh<;> first|(exfalso;omega)|skip)|(refine zl ?_ ?_<;> intro hh)|refine zq ?_|refine zv ?_|refine zu ?_|exact Sy.fin_val fun e=>rfl)));(all_goals (try conv => whnf)))
            all_goals done
  · rw [if_neg hok] at hE
    rw [decide_eq_false hok, hE]
    ((repeat' ((conv => whnf);(first|refine zA ?_|(refine zI ?_ ?_<;> intro hh<;> first|(exfalso;omega)|skip)|(refine zl ?_ ?_<;> intro hh)|refine zq ?_|refine zv ?_|refine zu ?_|exact Sy.fin_val fun e=>rfl)));(all_goals (try conv => whnf)))
    all_goals done
end Go.Proofs.Ytjhjmeajdebcbaa
