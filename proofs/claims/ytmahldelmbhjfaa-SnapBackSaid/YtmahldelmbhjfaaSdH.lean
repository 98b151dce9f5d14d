/- Snap: the document's snapshots of bytes. -/
import Derived.Test.YtmahldelmbhjfaaSdG
import Derived.Test.YtmahldelmbhjfaaSdF
namespace Go.Proofs.Ytmahldelmbhjfaa
open Go Go.RowKit
open Sy (C SV V1 Blk St XD Els yt yt1 yd1 yw)
set_option maxRecDepth 10000

attribute [local irreducible] tblB ksOf nsOf cntAt numAt rightP tdE tdV snOf sBs encV chkE sdV
set_option maxHeartbeats 8000000 in
theorem rsdec_any (v : Value) (b : List Int) (w : World) (hr : XD.ok (fun x => x < w.heap.size) w ⟨v, 1, b.length, b.map encB⟩) (b8 : bytesOk b) (hb : b.length ≤ 10000) :
    Calls Try.prog 32 #[v] w (Sy.RetRows Sy.noRow (fun _ : Unit => True) (fun _ => [⟨73, 4, (sdV b).rows.length, (sdV b).rows.map encK⟩, ⟨89, 3, (sdV b).txs.length, (sdV b).txs.map encT⟩]) (fun _ vs => retS (sdV b) (sdE b) vs) w) := by
  refine Sy.calls_of Sy.lv32 Sy.tab_ok Try.func32 rfl _ Try.ntmps32 [⟨v, 1, b.length, b.map encB⟩] [.c (.row 0)] rfl rfl rfl ⟨hr, trivial⟩ ?_
  have hbad : ∀ e, sdE b = e → e ≠ 0 → sdV b = sn0 := fun e h1 h2 => sdV_neg h1 h2
  by_cases h6 : b.length < 6
  · have hE : sdE b = 7 := if_pos h6
    rw [hE, hbad 7 hE (by decide)]
    ((repeat' ((conv => whnf);(first|refine zA ?_|(refine zI ?_ ?_<;> intro hh<;> first|(exfalso;omega)|skip)|(refine zl ?_ ?_<;> intro hh)|refine zq ?_|refine zv ?_|refine zu ?_|exact Sy.fin_val fun e=>rfl)));(all_goals (try conv => whnf)))
    exact Sy.fin_r2 (.v (.slice none 0 0)) (.v (.slice none 0 0)) ⟨rfl, rfl⟩ ⟨rfl, rfl⟩ (by decide) (fun e => rfl)
  · have hg : ∀ i, i < b.length → b[i]? = some (numAt b i 1) := fun i h => at_num h
    have hbd : ∀ i, 0 ≤ numAt b i 1 ∧ numAt b i 1 < 256 := fun i => numAt_bound b8 i 1
    have b0 := hbd 0
    have b1 := hbd 1
    have b2 := hbd 2
    have b3 := hbd 3
    obtain ⟨n, hn⟩ : ∃ n, n = cntAt b 4 := ⟨_, rfl⟩
    have hn2 := cntAt_eq b8 4
    rw [← hn] at hn2
    have hnum : num ((b.drop 4).take 2) = (n : Int) := by rw [hn2.1]; unfold numAt; rfl
    obtain ⟨E, hEe⟩ : ∃ E, E = 6 + 18 * n := ⟨_, rfl⟩
    have hEn : endS b = E := by rw [hEe, hn]; rfl
    have hEi : (6 : Int) + 18 * (n : Int) = (E : Int) := by omega
    have s4 : List.take (6 - 4) (List.drop 4 (b.map encB)) = ((b.drop 4).take 2).map encB := by rw [List.map_take, List.map_drop]
    ((repeat' ((conv => whnf);(first|refine zA ?_|(refine zI ?_ ?_<;> intro hh<;> first|(exfalso;omega)|skip)|(refine zl ?_ ?_<;> intro hh)|refine zq ?_|refine zv ?_|refine zu ?_|exact Sy.fin_val fun e=>rfl)));(all_goals (try conv => whnf)))
    refine Sy.sli_eq 4 6 rfl rfl ⟨by decide, by omega⟩ ?_
    ((repeat' ((conv => whnf);(first|refine zA ?_|(refine zI ?_ ?_<;> intro hh<;> first|(exfalso;omega)|skip)|(refine zl ?_ ?_<;> intro hh)|refine zq ?_|refine zv ?_|refine zu ?_|exact Sy.fin_val fun e=>rfl)));(all_goals (try conv => whnf)))
    refine Sy.call_val (.c (.v (.int .u64 n))) Try.call70 rfl (fun e a w' h => by
      have := num_any _ (6 - 4) _ ((b.drop 4).take 2) w' (by rw [List.length_take, List.length_drop]; omega) s4 (Sy.row_reads (k := 2) h (.inr rfl)) ((b8.drop 4).take 2) (by rw [List.length_take]; omega)
      rw [hnum] at this; exact this) ?_
    ((repeat' ((conv => whnf);(first|refine zA ?_|(refine zI ?_ ?_<;> intro hh<;> first|(exfalso;omega)|skip)|(refine zl ?_ ?_<;> intro hh)|refine zu ?_|exact Sy.fin_val fun e=>rfl)));(all_goals (try conv => whnf)))
    rw [hEi]
    have hk := hbd (E + 8)
    have hkn : (ntx b : Int) = numAt b (E + 8) 1 := by unfold ntx; rw [hEn]; omega
    by_cases hs1 : b.length ≤ E + 8
    · have hE : sdE b = 7 := by unfold sdE; rw [if_neg h6, hEn, if_pos (.inl hs1)]
      rw [hE, hbad 7 hE (by decide)]
      ((repeat' ((conv => whnf);(first|refine zA ?_|(refine zI ?_ ?_<;> intro hh<;> first|(exfalso;omega)|skip)|(refine zl ?_ ?_<;> intro hh)|refine zq ?_|refine zv ?_|refine zu ?_|exact Sy.fin_val fun e=>rfl)));(all_goals (try conv => whnf)))
      exact Sy.fin_r2 (.v (.slice none 0 0)) (.v (.slice none 0 0)) ⟨rfl, rfl⟩ ⟨rfl, rfl⟩ (by decide) (fun e => rfl)
    · by_cases hs2 : b.length < E + 9 + 9 * ntx b
      · have hE : sdE b = 7 := by unfold sdE; rw [if_neg h6, hEn, if_pos (.inr hs2)]
        rw [hE, hbad 7 hE (by decide)]
        ((repeat' ((conv => whnf);(first|refine zA ?_|(refine zI ?_ ?_<;> intro hh<;> first|(exfalso;omega)|skip)|(refine zl ?_ ?_<;> intro hh)|refine zq ?_|refine zv ?_|refine zu ?_|exact Sy.fin_val fun e=>rfl)));(all_goals (try conv => whnf)))
        refine Sy.el_map (numAt b (E + 8) 1) (hg (E + 8) (by omega)) ?_
        ((repeat' ((conv => whnf);(first|refine zA ?_|(refine zI ?_ ?_<;> intro hh<;> first|(exfalso;omega)|skip)|(refine zl ?_ ?_<;> intro hh)|refine zq ?_|refine zv ?_|refine zu ?_|exact Sy.fin_val fun e=>rfl)));(all_goals (try conv => whnf)))
        exact Sy.fin_r2 (.v (.slice none 0 0)) (.v (.slice none 0 0)) ⟨rfl, rfl⟩ ⟨rfl, rfl⟩ (by decide) (fun e => rfl)
      · have hE' : sdE b = if numAt b 3 1 ≤ 1 ∧ b.length = E + 9 + 9 * ntx b ∧ rightP (snOf b) then 0 else 280 := by unfold sdE; rw [if_neg h6, hEn, if_neg (fun h => h.elim hs1 hs2)]
        obtain ⟨m, hm⟩ : ∃ m, m = ntx b := ⟨_, rfl⟩
        rw [← hm] at hE' hs2 hkn
        have hS := snOf_mk hn hEn hm
        ((repeat' ((conv => whnf);(first|refine zA ?_|(refine zI ?_ ?_<;> intro hh<;> first|(exfalso;omega)|skip)|(refine zl ?_ ?_<;> intro hh)|refine zq ?_|refine zv ?_|refine zu ?_|exact Sy.fin_val fun e=>rfl)));(all_goals (try conv => whnf)))
        refine Sy.el_map (numAt b (E + 8) 1) (hg (E + 8) (by omega)) ?_
        ((repeat' ((conv => whnf);(first|refine zA ?_|(refine zI ?_ ?_<;> intro hh<;> first|(exfalso;omega)|skip)|(refine zl ?_ ?_<;> intro hh)|refine zq ?_|refine zv ?_|refine zu ?_|exact Sy.fin_val fun e=>rfl)));(all_goals (try conv => whnf)))
        refine Sy.draw_go [] (by kernel_rfl) ?_
        intro e0
        conv => whnf
        refine zt 0 rfl ?_
        conv => whnf
        refine zt 1 rfl ?_
        (conv => whnf);(repeat' ((first|refine zA ?_|(refine zI ?_ ?_<;> intro hh<;> first|(exfalso;omega)|skip)|(refine zl ?_ ?_<;> intro hh)|refine zq ?_|refine zv ?_|refine zu ?_|exact Sy.fin_val fun e=>rfl);(try conv => whnf)))
        refine zt 2 rfl ?_
        conv => whnf
        refine Sy.el_map (numAt b 0 1) (hg 0 (by omega)) ?_
        conv => whnf
        refine zt 3 rfl ?_
        (conv => whnf);(repeat' ((first|refine zA ?_|(refine zI ?_ ?_<;> intro hh<;> first|(exfalso;omega)|skip)|(refine zl ?_ ?_<;> intro hh)|refine zq ?_|refine zv ?_|refine zu ?_|exact Sy.fin_val fun e=>rfl);(try conv => whnf)))
        refine zt 4 rfl ?_
        conv => whnf
        refine zt 5 rfl ?_
        (conv => whnf);(repeat' ((first|refine zA ?_|(refine zI ?_ ?_<;> intro hh<;> first|(exfalso;omega)|skip)|(refine zl ?_ ?_<;> intro hh)|refine zq ?_|refine zv ?_|refine zu ?_|exact Sy.fin_val fun e=>rfl);(try conv => whnf)))
        refine zt 6 rfl ?_
        conv => whnf
        refine Sy.el_map (numAt b 1 1) (hg 1 (by omega)) ?_
        conv => whnf
        refine zt 7 rfl ?_
        (conv => whnf);(repeat' ((first|refine zA ?_|(refine zI ?_ ?_<;> intro hh<;> first|(exfalso;omega)|skip)|(refine zl ?_ ?_<;> intro hh)|refine zq ?_|refine zv ?_|refine zu ?_|exact Sy.fin_val fun e=>rfl);(try conv => whnf)))
        refine zt 8 rfl ?_
        conv => whnf
        refine zt 9 rfl ?_
        (conv => whnf);(repeat' ((first|refine zA ?_|(refine zI ?_ ?_<;> intro hh<;> first|(exfalso;omega)|skip)|(refine zl ?_ ?_<;> intro hh)|refine zq ?_|refine zv ?_|refine zu ?_|exact Sy.fin_val fun e=>rfl);(try conv => whnf)))
        refine zt 10 rfl ?_
        conv => whnf
        refine Sy.el_map (numAt b 2 1) (hg 2 (by omega)) ?_
        conv => whnf
        refine zt 11 rfl ?_
        (conv => whnf);(repeat' ((first|refine zA ?_|(refine zI ?_ ?_<;> intro hh<;> first|(exfalso;omega)|skip)|(refine zl ?_ ?_<;> intro hh)|refine zq ?_|refine zv ?_|refine zu ?_|exact Sy.fin_val fun e=>rfl);(try conv => whnf)))
        refine zt 12 rfl ?_
        conv => whnf
        refine zt 13 rfl ?_
        (conv => whnf);(repeat' ((first|refine zA ?_|(refine zI ?_ ?_<;> intro hh<;> first|(exfalso;omega)|skip)|(refine zl ?_ ?_<;> intro hh)|refine zq ?_|refine zv ?_|refine zu ?_|exact Sy.fin_val fun e=>rfl);(try conv => whnf)))
        refine zt 14 rfl ?_
        conv => whnf
        refine Sy.el_map (numAt b 3 1) (hg 3 (by omega)) ?_
        conv => whnf
        refine zt 15 rfl ?_
        (conv => whnf);(repeat' ((first|refine zA ?_|(refine zI ?_ ?_<;> intro hh<;> first|(exfalso;omega)|skip)|(refine zl ?_ ?_<;> intro hh)|refine zq ?_|refine zv ?_|refine zu ?_|exact Sy.fin_val fun e=>rfl);(try conv => whnf)))
        refine zt 16 rfl ?_
        conv => whnf
        refine zd1 [17] (zx rfl ?_ zy)
        conv => whnf
        refine ⟨(by repeat' ((conv => whnf);first|exact trivial|(refine And.intro ?_ ?_)|rfl)), ?_⟩
        refine zd1 [18] (zx rfl ?_ zy)
        conv => whnf
        refine ⟨(by repeat' ((conv => whnf);first|exact trivial|(refine And.intro ?_ ?_)|rfl)), ?_⟩
        refine zw ?_
        skip
        have hd := td_slice (b := b) (o := 4) hn (by omega)
        rw [show 4 + 2 = 6 from rfl] at hd
        obtain ⟨d, hdd⟩ : ∃ d, d = (b.drop 4).take (2 + 18 * n) := ⟨_, rfl⟩
        rw [← hdd] at hd
        have hdl : d.length = E - 4 := by rw [hdd, List.length_take, List.length_drop]; omega
        have d8 : bytesOk d := by rw [hdd]; exact (b8.drop _).take _
        have hdm : List.take (E - 4) (List.drop 4 (b.map encB)) = d.map encB := by
          rw [hdd, ← List.map_drop, ← List.map_take]
          congr 2
          omega
        ((repeat' ((conv => whnf);(first|refine zA ?_|(refine zI ?_ ?_<;> intro hh<;> first|(exfalso;omega)|skip)|(refine zl ?_ ?_<;> intro hh)|refine zq ?_|refine zv ?_|refine zu ?_|exact Sy.fin_val fun e=>rfl)));(all_goals (try conv => whnf)))
        refine Sy.sli_eq 4 E rfl rfl ⟨by omega, by omega⟩ ?_
        conv => whnf
        rw [hdm, ← hdl]
        refine Sy.call_r1 (v := fun _ vs => .tuple #[.agg #[vs.headD undef], .int .i64 (tdE d)]) ⟨73, 4, (tdV d).length, (tdV d).map encK⟩ (fun j => .tup [.agg [.row j], .c (.v (.int .i64 (tdE d)))]) Try.call71 (fun e a w' h => rtdec_any (e.rv 4) d w' (Sy.row_reads h (.inr rfl)) d8 (by omega)) ?_
        ((repeat' ((conv => whnf);(first|refine zA ?_|(refine zI ?_ ?_<;> intro hh<;> first|(exfalso;omega)|skip)|(refine zl ?_ ?_<;> intro hh)|refine zq ?_|refine zv ?_|refine zu ?_|exact Sy.fin_val fun e=>rfl)));(all_goals (try conv => whnf)))
        refine Sy.loop_inv Sy.tab_ok (fun x : Nat × (Fin 8 → Int) => [(68, .c (.v (.int .i64 x.1)))]) (fun x => [(3, .cells 33 [.v (.int .i64 (numAt b 0 1)), .v (.int .i64 (numAt b 1 1)), .v (.int .i64 (numAt b 2 1)), .v (.bool (numAt b 3 1 == 1)), .row 5, .v (.int .i64 (x.2 0)), .v (.int .i64 (x.2 1)), .v (.int .i64 (x.2 2)), .v (.int .i64 (x.2 3)), .v (.int .i64 (x.2 4)), .v (.int .i64 (x.2 5)), .v (.int .i64 (x.2 6)), .v (.int .i64 (x.2 7)), .v (.slice none 0 0)])]) (fun x => x.1 ≤ 8 ∧ ∀ g : Fin 8, (g.val < x.1 → x.2 g = numAt b (E + g.val) 1) ∧ (x.1 ≤ g.val → x.2 g = 0)) (fun x => 8 - x.1) (0, fun _ => 0) ⟨Nat.zero_le _, fun g => ⟨fun h => absurd h (Nat.not_lt_zero _), fun _ => rfl⟩⟩ ?_ (fun x hx => ?_)
        · ((repeat' (first|((conv => whnf);done)|((try conv => whnf);first|exact trivial|(refine And.intro ?_ ?_)|rfl|exact fun _ _ _ h=>h|exact fun _ _ _ _=>trivial)));(all_goals (try conv => whnf)))
        · obtain ⟨i, r⟩ := x
          obtain ⟨hi, hrr⟩ := hx
          dsimp only at hi hrr ⊢
          by_cases hlt : i < 8
          · obtain ⟨g, hgx⟩ : ∃ g : Fin 8, (i : Int) = (g.val : Int) := ⟨⟨i, hlt⟩, rfl⟩
            have hgm : g.val = i := by omega
            have hbi := hbd (E + i)
            have hnext : ∀ g' : Fin 8, (g'.val < i + 1 → upd r g (numAt b (E + i) 1) g' = numAt b (E + g'.val) 1) ∧ (i + 1 ≤ g'.val → upd r g (numAt b (E + i) 1) g' = 0) := fun g' => by
              by_cases e : g' = g
              · subst e
                rw [upd_same, ← hgm]
                exact ⟨fun _ => rfl, fun h => by omega⟩
              · have hne : g'.val ≠ i := fun h => e (Fin.ext (by omega))
                rw [upd_other _ e]
                exact ⟨fun h => (hrr g').1 (by omega), fun h => (hrr g').2 (by omega)⟩
            clear hrr
            ((repeat' ((conv => whnf);(first|refine zA ?_|(refine zI ?_ ?_<;> intro hh<;> first|(exfalso;omega)|skip)|(refine zl ?_ ?_<;> intro hh)|refine zq ?_|refine zv ?_|refine zu ?_|exact Sy.fin_val fun e=>rfl)));(all_goals (try conv => whnf)))
            refine Sy.el_map (numAt b (E + i) 1) (hg (E + i) (by omega)) ?_
            generalize numAt b (E + i) 1 = z at *
            have hm1 : ((i + 1 : Nat) : Int) = (i : Int) + 1 := by omega
            generalize hmx : (i : Int) = x at *
            induction g, x, hgx using fin8x
            all_goals
              ((repeat' ((conv => whnf);(first|refine zA ?_|(refine zI ?_ ?_<;> intro hh<;> first|(exfalso;omega)|skip)|(refine zl ?_ ?_<;> intro hh)|refine zq ?_|refine zv ?_|refine zu ?_|exact Sy.fin_val fun e=>rfl)));(all_goals (try conv => whnf)))
              refine ⟨(i + 1, _), ⟨by dsimp only; omega, hnext⟩, by dsimp only; omega, ?_⟩
              dsimp only
              rw [hm1]
              ((repeat' (first|((conv => whnf);done)|((try conv => whnf);first|exact trivial|(refine And.intro ?_ ?_)|rfl|exact fun _ _ _ h=>h|exact fun _ _ _ _=>trivial)));(all_goals (try conv => whnf)))
          · have e : i = 8 := by omega
            subst e
            have hro : r = fun g => numAt b (E + g.val) 1 := funext fun g => (hrr g).1 g.isLt
            rw [← hro] at hS
            ((repeat' ((conv => whnf);(first|refine zA ?_|(refine zI ?_ ?_<;> intro hh<;> first|(exfalso;omega)|skip)|(refine zl ?_ ?_<;> intro hh)|refine zq ?_|refine zv ?_|refine zu ?_|exact Sy.fin_val fun e=>rfl)));(all_goals (try conv => whnf)))
            refine Sy.el_map (numAt b (E + 8) 1) (hg (E + 8) (by omega)) ?_
            rw [← hkn]
            ((repeat' ((conv => whnf);(first|refine zA ?_|(refine zI ?_ ?_<;> intro hh<;> first|(exfalso;omega)|skip)|(refine zl ?_ ?_<;> intro hh)|refine zq ?_|refine zv ?_|refine zu ?_|exact Sy.fin_val fun e=>rfl)));(all_goals (try conv => whnf)))
            refine Sy.sem_subF (Sy.sub_rowc 3 13 89 3 rfl rfl) ?_
            conv => whnf
            refine Sy.loop_inv Sy.tab_ok (fun i : Nat => [(88, .c (.v (.int .i64 i)))]) (fun i => [(3, .cells 33 [.v (.int .i64 (numAt b 0 1)), .v (.int .i64 (numAt b 1 1)), .v (.int .i64 (numAt b 2 1)), .v (.bool (numAt b 3 1 == 1)), .row 5, .v (.int .i64 (r 0)), .v (.int .i64 (r 1)), .v (.int .i64 (r 2)), .v (.int .i64 (r 3)), .v (.int .i64 (r 4)), .v (.int .i64 (r 5)), .v (.int .i64 (r 6)), .v (.int .i64 (r 7)), .row 7]), (7, .row 89 3 (nsOf b (E + 9) i).length (.vs ((nsOf b (E + 9) i).map encT)))]) (fun i => i ≤ m) (fun i => m - i) 0 (Nat.zero_le _) ?_ (fun i hi => ?_)
            · rw [show nsOf b (E + 9) 0 = [] by unfold nsOf; rfl]
              ((repeat' (first|((conv => whnf);done)|((try conv => whnf);first|exact trivial|(refine And.intro ?_ ?_)|rfl|exact fun _ _ _ h=>h|exact fun _ _ _ _=>trivial)));(all_goals (try conv => whnf)))
            · have hkl := nsOf_len b (E + 9) i
              by_cases hlt : i < m
              · obtain ⟨x, hx⟩ : ∃ x, x = (b.drop (E + 9 + 9 * i)).take 9 := ⟨_, rfl⟩
                have xl : x.length = 9 := by rw [hx, List.length_take, List.length_drop]; omega
                have x8 : bytesOk x := by rw [hx]; exact (b8.drop _).take _
                have hsub := sub_of (l := b) (E + 9 + 9 * i) 9 (by omega)
                rw [← hx, show E + 9 + 9 * i + 9 = E + 18 + 9 * i by omega] at hsub
                have g0 := at_num (b := x) (i := 0) (by omega)
                have z0 := numAt_bound x8 0 1
                have z1 := (u32_num (x8.drop 1)).2
                have z5 := (u32_num (x8.drop 5)).2
                have hk2 : nsOf b (E + 9) (i + 1) = nsOf b (E + 9) i ++ [⟨numAt x 0 1, num ((x.drop 1).take 4), num ((x.drop 5).take 4)⟩] := by
                  rw [nsOf_succ, ← nOf_take, ← hx]
                  unfold nOf numAt
                  rfl
                have s1 : List.take (5 - 1) (List.drop 1 (x.map encB)) = ((x.drop 1).take 4).map encB := by rw [List.map_take, List.map_drop]
                have s5 : List.take (9 - 5) (List.drop 5 (x.map encB)) = ((x.drop 5).take 4).map encB := by rw [List.map_take, List.map_drop]
                ((repeat' ((conv => whnf);(first|refine zA ?_|(refine zI ?_ ?_<;> intro hh<;> first|(exfalso;omega)|skip)|(refine zl ?_ ?_<;> intro hh)|refine zq ?_|refine zv ?_|refine zu ?_|exact Sy.fin_val fun e=>rfl)));(all_goals (try conv => whnf)))
                refine Sy.sli_eq (E + 9 + 9 * i) (E + 18 + 9 * i) (by omega) (by omega) ⟨by omega, by omega⟩ ?_
                conv => whnf
                rw [hsub.1, hsub.2]
                ((repeat' ((conv => whnf);(first|refine zA ?_|(refine zI ?_ ?_<;> intro hh<;> first|(exfalso;omega)|skip)|(refine zl ?_ ?_<;> intro hh)|refine zq ?_|refine zv ?_|refine zu ?_|exact Sy.fin_val fun e=>rfl)));(all_goals (try conv => whnf)))
                refine Sy.drawB2_go [3] [7] [18] (by kernel_rfl) ?_
                intro e0
                conv => whnf
                refine yt 0 rfl ?_
                conv => whnf
                refine yt 1 rfl ?_
                conv => whnf
                refine yt 2 rfl ?_
                conv => whnf
                refine yt 3 rfl ?_
                (conv => whnf);(repeat' ((first|refine zA ?_|(refine zI ?_ ?_<;> intro hh<;> first|(exfalso;omega)|skip)|(refine zl ?_ ?_<;> intro hh)|refine zq ?_|refine zv ?_|refine zu ?_|exact Sy.fin_val fun e=>rfl);(try conv => whnf)))
                refine yt 4 rfl ?_
                conv => whnf
                refine Sy.el_map (numAt x 0 1) g0 ?_
                conv => whnf
                refine yt 5 rfl ?_
                (conv => whnf);(repeat' ((first|refine zA ?_|(refine zI ?_ ?_<;> intro hh<;> first|(exfalso;omega)|skip)|(refine zl ?_ ?_<;> intro hh)|refine zq ?_|refine zv ?_|refine zu ?_|exact Sy.fin_val fun e=>rfl);(try conv => whnf)))
                refine yt 6 rfl ?_
                conv => whnf
                refine yt 10 rfl ?_
                conv => whnf
                focus
                  refine yd1 [7, 11] (zx rfl ?_ (zx rfl ?_ zy))
                  focus
                    conv => whnf
                    refine Sy.sli_eq 1 5 rfl rfl ⟨by decide, by omega⟩ ?_
                    refine ⟨(by repeat' ((conv => whnf);first|exact trivial|(refine And.intro ?_ ?_)|rfl)), ?_⟩
                    focus
                      refine yd1 [8, 11] (zx rfl ?_ (zx rfl ?_ zy))
                      focus
                        conv => whnf
                        refine Sy.call_val (.c (.v (.int .u64 (num ((x.drop 1).take 4))))) Try.call70 rfl (fun e a w' h => num_any _ (5 - 1) _ ((x.drop 1).take 4) w' (by rw [List.length_take, List.length_drop]; omega) s1 (Sy.row_reads h (.inr rfl)) ((x8.drop 1).take 4) (by rw [List.length_take]; omega)) ?_
                        conv => whnf
                        refine ⟨(by repeat' ((conv => whnf);first|exact trivial|(refine And.intro ?_ ?_)|rfl)), ?_⟩
                        refine yt 9 rfl ?_
                        (conv => whnf);(repeat' ((first|refine zA ?_|(refine zI ?_ ?_<;> intro hh<;> first|(exfalso;omega)|skip)|(refine zl ?_ ?_<;> intro hh)|refine zq ?_|refine zv ?_|refine zu ?_|exact Sy.fin_val fun e=>rfl);(try conv => whnf)))
                        refine yd1 [11] (zx rfl ?_ zy)
                        conv => whnf
                        refine Sy.sli_eq 5 9 rfl rfl ⟨by decide, by omega⟩ ?_
                        refine ⟨(by repeat' ((conv => whnf);first|exact trivial|(refine And.intro ?_ ?_)|rfl)), ?_⟩
                        refine yd1 [12] (zx rfl ?_ zy)
                        conv => whnf
                        refine Sy.call_val (.c (.v (.int .u64 (num ((x.drop 5).take 4))))) Try.call70 rfl (fun e a w' h => num_any _ (9 - 5) _ ((x.drop 5).take 4) w' (by rw [List.length_take, List.length_drop]; omega) s5 (Sy.row_reads h (.inr rfl)) ((x8.drop 5).take 4) (by rw [List.length_take]; omega)) ?_
                        conv => whnf
                        refine ⟨(by repeat' ((conv => whnf);first|exact trivial|(refine And.intro ?_ ?_)|rfl)), ?_⟩
                        refine yt 13 rfl ?_
                        (conv => whnf);(repeat' ((first|refine zA ?_|(refine zI ?_ ?_<;> intro hh<;> first|(exfalso;omega)|skip)|(refine zl ?_ ?_<;> intro hh)|refine zq ?_|refine zv ?_|refine zu ?_|exact Sy.fin_val fun e=>rfl);(try conv => whnf)))
                        refine yt 14 rfl ?_
                        conv => whnf
                        refine yd1 [15] (zx rfl ?_ zy)
                        conv => whnf
                        refine ⟨(by repeat' ((conv => whnf);first|exact trivial|(refine And.intro ?_ ?_)|rfl)), ?_⟩
                        refine yd1 [16] (zx rfl ?_ zy)
                        conv => whnf
                        refine Sy.need_app 24 rfl ⟨by omega, by omega⟩ ?_
                        conv => whnf
                        refine ⟨(by repeat' ((conv => whnf);first|exact trivial|(refine And.intro ?_ ?_)|rfl)), ?_⟩
                        refine yt 17 rfl ?_
                        conv => whnf
                        refine yd1 [18] (zx rfl ?_ zy)
                        conv => whnf
                        refine ⟨(by repeat' ((conv => whnf);first|exact trivial|(refine And.intro ?_ ?_)|rfl)), ?_⟩
                        refine yw ?_
                        skip
                      rotate_right
                      focus
                        conv => whnf
                        refine Sy.sli_eq 5 9 rfl rfl ⟨by decide, by omega⟩ ?_
                        refine ⟨(by repeat' ((conv => whnf);first|exact trivial|(refine And.intro ?_ ?_)|rfl)), ?_⟩
                        refine yd1 [8] (zx rfl ?_ zy)
                        conv => whnf
                        refine Sy.call_val (.c (.v (.int .u64 (num ((x.drop 1).take 4))))) Try.call70 rfl (fun e a w' h => num_any _ (5 - 1) _ ((x.drop 1).take 4) w' (by rw [List.length_take, List.length_drop]; omega) s1 (Sy.row_reads h (.inr rfl)) ((x8.drop 1).take 4) (by rw [List.length_take]; omega)) ?_
                        conv => whnf
                        refine ⟨(by repeat' ((conv => whnf);first|exact trivial|(refine And.intro ?_ ?_)|rfl)), ?_⟩
                        refine yt 9 rfl ?_
                        (conv => whnf);(repeat' ((first|refine zA ?_|(refine zI ?_ ?_<;> intro hh<;> first|(exfalso;omega)|skip)|(refine zl ?_ ?_<;> intro hh)|refine zq ?_|refine zv ?_|refine zu ?_|exact Sy.fin_val fun e=>rfl);(try conv => whnf)))
                        refine yd1 [12] (zx rfl ?_ zy)
                        conv => whnf
                        refine Sy.call_val (.c (.v (.int .u64 (num ((x.drop 5).take 4))))) Try.call70 rfl (fun e a w' h => num_any _ (9 - 5) _ ((x.drop 5).take 4) w' (by rw [List.length_take, List.length_drop]; omega) s5 (Sy.row_reads h (.inr rfl)) ((x8.drop 5).take 4) (by rw [List.length_take]; omega)) ?_
                        conv => whnf
                        refine ⟨(by repeat' ((conv => whnf);first|exact trivial|(refine And.intro ?_ ?_)|rfl)), ?_⟩
                        refine yt 13 rfl ?_
                        (conv => whnf);(repeat' ((first|refine zA ?_|(refine zI ?_ ?_<;> intro hh<;> first|(exfalso;omega)|skip)|(refine zl ?_ ?_<;> intro hh)|refine zq ?_|refine zv ?_|refine zu ?_|exact Sy.fin_val fun e=>rfl);(try conv => whnf)))
                        refine yt 14 rfl ?_
                        conv => whnf
                        refine yd1 [15] (zx rfl ?_ zy)
                        conv => whnf
                        refine ⟨(by repeat' ((conv => whnf);first|exact trivial|(refine And.intro ?_ ?_)|rfl)), ?_⟩
                        refine yd1 [16] (zx rfl ?_ zy)
                        conv => whnf
                        refine Sy.need_app 24 rfl ⟨by omega, by omega⟩ ?_
                        conv => whnf
                        refine ⟨(by repeat' ((conv => whnf);first|exact trivial|(refine And.intro ?_ ?_)|rfl)), ?_⟩
                        refine yt 17 rfl ?_
                        conv => whnf
                        refine yd1 [18] (zx rfl ?_ zy)
                        conv => whnf
                        refine ⟨(by repeat' ((conv => whnf);first|exact trivial|(refine And.intro ?_ ?_)|rfl)), ?_⟩
                        refine yw ?_
                        skip
                  rotate_right
                  focus
                    conv => whnf
                    refine Sy.sli_eq 5 9 rfl rfl ⟨by decide, by omega⟩ ?_
                    refine ⟨(by repeat' ((conv => whnf);first|exact trivial|(refine And.intro ?_ ?_)|rfl)), ?_⟩
                    refine yd1 [7] (zx rfl ?_ zy)
                    conv => whnf
                    refine Sy.sli_eq 1 5 rfl rfl ⟨by decide, by omega⟩ ?_
                    refine ⟨(by repeat' ((conv => whnf);first|exact trivial|(refine And.intro ?_ ?_)|rfl)), ?_⟩
                    refine yd1 [8] (zx rfl ?_ zy)
                    conv => whnf
                    refine Sy.call_val (.c (.v (.int .u64 (num ((x.drop 1).take 4))))) Try.call70 rfl (fun e a w' h => num_any _ (5 - 1) _ ((x.drop 1).take 4) w' (by rw [List.length_take, List.length_drop]; omega) s1 (Sy.row_reads h (.inr rfl)) ((x8.drop 1).take 4) (by rw [List.length_take]; omega)) ?_
                    conv => whnf
                    refine ⟨(by repeat' ((conv => whnf);first|exact trivial|(refine And.intro ?_ ?_)|rfl)), ?_⟩
                    refine yt 9 rfl ?_
                    (conv => whnf);(repeat' ((first|refine zA ?_|(refine zI ?_ ?_<;> intro hh<;> first|(exfalso;omega)|skip)|(refine zl ?_ ?_<;> intro hh)|refine zq ?_|refine zv ?_|refine zu ?_|exact Sy.fin_val fun e=>rfl);(try conv => whnf)))
                    refine yd1 [12] (zx rfl ?_ zy)
                    conv => whnf
                    refine Sy.call_val (.c (.v (.int .u64 (num ((x.drop 5).take 4))))) Try.call70 rfl (fun e a w' h => num_any _ (9 - 5) _ ((x.drop 5).take 4) w' (by rw [List.length_take, List.length_drop]; omega) s5 (Sy.row_reads h (.inr rfl)) ((x8.drop 5).take 4) (by rw [List.length_take]; omega)) ?_
                    conv => whnf
                    refine ⟨(by repeat' ((conv => whnf);first|exact trivial|(refine And.intro ?_ ?_)|rfl)), ?_⟩
                    refine yt 13 rfl ?_
                    (conv => whnf);(repeat' ((first|refine zA ?_|(refine zI ?_ ?_<;> intro hh<;> first|(exfalso;omega)|skip)|(refine zl ?_ ?_<;> intro hh)|refine zq ?_|refine zv ?_|refine zu ?_|exact Sy.fin_val fun e=>rfl);(try conv => whnf)))
                    refine yt 14 rfl ?_
                    conv => whnf
                    refine yd1 [15] (zx rfl ?_ zy)
                    conv => whnf
                    refine ⟨(by repeat' ((conv => whnf);first|exact trivial|(refine And.intro ?_ ?_)|rfl)), ?_⟩
                    refine yd1 [16] (zx rfl ?_ zy)
                    conv => whnf
                    refine Sy.need_app 24 rfl ⟨by omega, by omega⟩ ?_
                    conv => whnf
                    refine ⟨(by repeat' ((conv => whnf);first|exact trivial|(refine And.intro ?_ ?_)|rfl)), ?_⟩
                    refine yt 17 rfl ?_
                    conv => whnf
                    refine yd1 [18] (zx rfl ?_ zy)
                    conv => whnf
                    refine ⟨(by repeat' ((conv => whnf);first|exact trivial|(refine And.intro ?_ ?_)|rfl)), ?_⟩
                    refine yw ?_
                    skip
                all_goals (((repeat' ((conv => whnf);(first|refine zA ?_|(refine zI ?_ ?_<;> intro hh<;> first|(exfalso;omega)|skip)|(refine zl ?_ ?_<;> intro hh)|refine zq ?_|refine zv ?_|refine zu ?_|exact Sy.fin_val fun e=>rfl)));(all_goals (try conv => whnf))))
                all_goals (refine ⟨i + 1, by omega, by omega, ?_⟩)
                all_goals (rw [hk2])
                all_goals (((repeat' (first|((conv => whnf);done)|((try conv => whnf);first|exact trivial|(refine And.intro ?_ ?_)|rfl|exact fun _ _ _ h=>h|exact fun _ _ _ _=>trivial)));(all_goals (try conv => whnf))))
                all_goals simp [encT]
              · have e : i = m := by omega
                rw [e]
                by_cases ht : tblB (ksOf b 6 n) = true
                · rw [if_pos ht, if_pos ht] at hd
                  rw [hd.1, hd.2]
                  replace hS := hS.symm
                  by_cases p3 : numAt b 3 1 ≤ 1
                  · by_cases pl : b.length = E + 9 + 9 * m
                    · ((repeat' ((conv => whnf);(first|refine zA ?_|(refine zI ?_ ?_<;> intro hh<;> first|(exfalso;omega)|skip)|(refine zl ?_ ?_<;> intro hh)|refine zq ?_|refine zv ?_|refine zu ?_|exact Sy.fin_val fun e=>rfl)));(all_goals (try conv => whnf)))
                      refine Sy.el_map (numAt b 3 1) (hg 3 (by omega)) ?_
                      ((repeat' ((conv => whnf);(first|refine zA ?_|(refine zI ?_ ?_<;> intro hh<;> first|(exfalso;omega)|skip)|(refine zl ?_ ?_<;> intro hh)|refine zq ?_|refine zv ?_|refine zu ?_|exact Sy.fin_val fun e=>rfl)));(all_goals (try conv => whnf)))
                      refine Sy.el_map (numAt b (E + 8) 1) (hg (E + 8) (by omega)) ?_
                      rw [← hkn]
                      ((repeat' ((conv => whnf);(first|refine zA ?_|(refine zI ?_ ?_<;> intro hh<;> first|(exfalso;omega)|skip)|(refine zl ?_ ?_<;> intro hh)|refine zq ?_|refine zv ?_|refine zu ?_|exact Sy.fin_val fun e=>rfl)));(all_goals (try conv => whnf)))
                      refine Sy.call_val (.c (.v (.bool (decide (rightP (⟨numAt b 0 1, numAt b 1 1, numAt b 2 1, numAt b 3 1 == 1, ksOf b 6 n, r, nsOf b (E + 9) m⟩ : Sn)))))) Try.call12 rfl (fun e a w' h => right_any ⟨(⟨numAt b 0 1, numAt b 1 1, numAt b 2 1, numAt b 3 1 == 1, ksOf b 6 n, r, nsOf b (E + 9) m⟩ : Sn), e.rv 5, e.rv 7⟩ w' ⟨Sy.row_reads h (.inl ⟨_, rfl⟩), Sy.row_reads h (.inl ⟨_, rfl⟩)⟩) ?_
                      rw [hS]
                      by_cases hrt : rightP (snOf b)
                      · have hE : sdE b = 0 := by rw [hE', if_pos ⟨p3, pl, hrt⟩]
                        rw [hE, sdV_pos hE, decide_eq_true hrt, ← hS]
                        ((repeat' ((conv => whnf);(first|refine zA ?_|(refine zI ?_ ?_<;> intro hh<;> first|(exfalso;omega)|skip)|(refine zl ?_ ?_<;> intro hh)|refine zq ?_|refine zv ?_|refine zu ?_|exact Sy.fin_val fun e=>rfl)));(all_goals (try conv => whnf)))
                        exact Sy.fin_r2 (.row 5) (.row 7) rfl rfl (by decide) (fun e => rfl)
                      · have hE : sdE b = 280 := by rw [hE', if_neg fun h => hrt h.2.2]
                        rw [hE, hbad 280 hE (by decide), decide_eq_false hrt]
                        ((repeat' ((conv => whnf);(first|refine zA ?_|(refine zI ?_ ?_<;> intro hh<;> first|(exfalso;omega)|skip)|(refine zl ?_ ?_<;> intro hh)|refine zq ?_|refine zv ?_|refine zu ?_|exact Sy.fin_val fun e=>rfl)));(all_goals (try conv => whnf)))
                        exact Sy.fin_r2 (.v (.slice none 0 0)) (.v (.slice none 0 0)) ⟨rfl, rfl⟩ ⟨rfl, rfl⟩ (by decide) (fun e => rfl)
                    · have hE : sdE b = 280 := by rw [hE', if_neg fun h => pl h.2.1]
                      rw [hE, hbad 280 hE (by decide)]
                      ((repeat' ((conv => whnf);(first|refine zA ?_|(refine zI ?_ ?_<;> intro hh<;> first|(exfalso;omega)|skip)|(refine zl ?_ ?_<;> intro hh)|refine zq ?_|refine zv ?_|refine zu ?_|exact Sy.fin_val fun e=>rfl)));(all_goals (try conv => whnf)))
                      refine Sy.el_map (numAt b 3 1) (hg 3 (by omega)) ?_
                      ((repeat' ((conv => whnf);(first|refine zA ?_|(refine zI ?_ ?_<;> intro hh<;> first|(exfalso;omega)|skip)|(refine zl ?_ ?_<;> intro hh)|refine zq ?_|refine zv ?_|refine zu ?_|exact Sy.fin_val fun e=>rfl)));(all_goals (try conv => whnf)))
                      refine Sy.el_map (numAt b (E + 8) 1) (hg (E + 8) (by omega)) ?_
                      rw [← hkn]
                      ((repeat' ((conv => whnf);(first|refine zA ?_|(refine zI ?_ ?_<;> intro hh<;> first|(exfalso;omega)|skip)|(refine zl ?_ ?_<;> intro hh)|refine zq ?_|refine zv ?_|refine zu ?_|exact Sy.fin_val fun e=>rfl)));(all_goals (try conv => whnf)))
                      all_goals first | (exfalso; omega) | exact Sy.fin_r2 (.v (.slice none 0 0)) (.v (.slice none 0 0)) ⟨rfl, rfl⟩ ⟨rfl, rfl⟩ (by decide) (fun e => rfl)
                  · have hE : sdE b = 280 := by rw [hE', if_neg fun h => p3 h.1]
                    rw [hE, hbad 280 hE (by decide)]
                    ((repeat' ((conv => whnf);(first|refine zA ?_|(refine zI ?_ ?_<;> intro hh<;> first|(exfalso;omega)|skip)|(refine zl ?_ ?_<;> intro hh)|refine zq ?_|refine zv ?_|refine zu ?_|exact Sy.fin_val fun e=>rfl)));(all_goals (try conv => whnf)))
                    refine Sy.el_map (numAt b 3 1) (hg 3 (by omega)) ?_
                    ((repeat' ((conv => whnf);(first|refine zA ?_|(refine zI ?_ ?_<;> intro hh<;> first|(exfalso;omega)|skip)|(refine zl ?_ ?_<;> intro hh)|refine zq ?_|refine zv ?_|refine zu ?_|exact Sy.fin_val fun e=>rfl)));(all_goals (try conv => whnf)))
                    all_goals first | (exfalso; omega) | exact Sy.fin_r2 (.v (.slice none 0 0)) (.v (.slice none 0 0)) ⟨rfl, rfl⟩ ⟨rfl, rfl⟩ (by decide) (fun e => rfl)
                · rw [if_neg ht, if_neg ht] at hd
                  rw [hd.1, hd.2]
                  have hE : sdE b = 280 := by
                    rw [hE', if_neg]
                    intro h
                    have h3 := h.2.2
                    unfold rightP at h3
                    rw [hS] at h3
                    exact ht h3.2.2.1
                  rw [hE, hbad 280 hE (by decide)]
                  ((repeat' ((conv => whnf);(first|refine zA ?_|(refine zI ?_ ?_<;> intro hh<;> first|(exfalso;omega)|skip)|(refine zl ?_ ?_<;> intro hh)|refine zq ?_|refine zv ?_|refine zu ?_|exact Sy.fin_val fun e=>rfl)));(all_goals (try conv => whnf)))
                  exact Sy.fin_r2 (.v (.slice none 0 0)) (.v (.slice none 0 0)) ⟨rfl, rfl⟩ ⟨rfl, rfl⟩ (by decide) (fun e => rfl)
end Go.Proofs.Ytmahldelmbhjfaa
