/- Snap: the document's Right; Same. -/
import Derived.Test.YtmahldelmbhjfaaGreatSnD
namespace Go.Proofs.YtmahldelmbhjfaaGreat.Sn
open Go Go.RowKit
open Sy (C SV V1 Blk St XD Els)
set_option maxRecDepth 10000

theorem rgroup_any (k : Int) (w : World) (hk : 0 ≤ k ∧ k ≤ 1000) : Calls Tryz.prog 21 #[.int .i64 k] w (Sy.Ret (.int .i64 (k % 8)) w) := by
  refine Sy.calls_of Sy.lv21 Sy.tab_ok Tryz.func21 rfl _ Tryz.ntmps21 [] [.c (.v (.int .i64 k))] rfl rfl rfl trivial ?_
  ((repeat' ((conv => whnf);(first|refine zA ?_|(refine zI ?_ ?_<;> intro hh<;> first|(exfalso;omega)|skip)|(refine zl ?_ ?_<;> intro hh)|refine zq ?_|refine zv ?_|refine zu ?_|exact Sy.fin_val fun e=>rfl)));(all_goals (try conv => whnf)))
  refine Sy.rem_in (by omega) (by omega) ?_
  ((repeat' ((conv => whnf);(first|refine zA ?_|(refine zI ?_ ?_<;> intro hh<;> first|(exfalso;omega)|skip)|(refine zl ?_ ?_<;> intro hh)|refine zq ?_|refine zv ?_|refine zu ?_|exact Sy.fin_val fun e=>rfl)));(all_goals (try conv => whnf)))
  all_goals done
theorem rowned_any (g i n : Int) (w : World) (hg : 0 ≤ g ∧ g < 8) (hn : 0 ≤ n ∧ n ≤ 3) : Calls Tryz.prog 20 #[.int .i64 g, .int .i64 i, .int .i64 n] w (Sy.Ret (.bool (decide (ownW g n = i))) w) := by
  refine Sy.calls_of Sy.lv20 Sy.tab_ok Tryz.func20 rfl _ Tryz.ntmps20 [] [.c (.v (.int .i64 g)), .c (.v (.int .i64 i)), .c (.v (.int .i64 n))] rfl rfl rfl trivial ?_
  ((repeat' ((conv => whnf);(first|refine zA ?_|(refine zI ?_ ?_<;> intro hh<;> first|(exfalso;omega)|skip)|(refine zl ?_ ?_<;> intro hh)|refine zq ?_|refine zv ?_|refine zu ?_|exact Sy.fin_val fun e=>rfl)));(all_goals (try conv => whnf)))
  refine Sy.call_val (.c (.v (.int .i64 (ownW g n)))) Tryz.call51 rfl (fun e a w' _ => rowner_any g n w' hg hn) ?_
  by_cases h : ownW g n = i
  · rw [decide_eq_true h]
    ((repeat' ((conv => whnf);(first|refine zA ?_|(refine zI ?_ ?_<;> intro hh<;> first|(exfalso;omega)|skip)|(refine zl ?_ ?_<;> intro hh)|refine zq ?_|refine zv ?_|refine zu ?_|exact Sy.fin_val fun e=>rfl)));(all_goals (try conv => whnf)))
    exact Sy.fin_val (fun e => congrArg Value.bool (beq_iff_eq.2 h))
  · rw [decide_eq_false h]
    ((repeat' ((conv => whnf);(first|refine zA ?_|(refine zI ?_ ?_<;> intro hh<;> first|(exfalso;omega)|skip)|(refine zl ?_ ?_<;> intro hh)|refine zq ?_|refine zv ?_|refine zu ?_|exact Sy.fin_val fun e=>rfl)));(all_goals (try conv => whnf)))
    exact Sy.fin_val (fun e => congrArg Value.bool (beq_eq_false_iff_ne.2 h))
theorem place_any (op i n : Int) (w : World) : Calls Tryz.prog 17 #[.int .i64 op, .int .i64 i, .int .i64 n] w (Sy.Ret (.bool (decide ((0 ≤ op ∧ op < 8) ∧ shareP i n))) w) := by
  refine Sy.calls_of Sy.lv17 Sy.tab_ok Tryz.func17 rfl _ Tryz.ntmps17 [] [.c (.v (.int .i64 op)), .c (.v (.int .i64 i)), .c (.v (.int .i64 n))] rfl rfl rfl trivial ?_
  by_cases h1 : 0 ≤ op ∧ op < 8
  · ((repeat' ((conv => whnf);(first|refine zA ?_|(refine zI ?_ ?_<;> intro hh<;> first|(exfalso;omega)|skip)|(refine zl ?_ ?_<;> intro hh)|refine zq ?_|refine zv ?_|refine zu ?_|exact Sy.fin_val fun e=>rfl)));(all_goals (try conv => whnf)))
    refine Sy.call_val (.c (.v (.bool (decide (shareP i n))))) Tryz.call45 rfl (fun e a w' h => rshare_any i n w') ?_
    ((repeat' ((conv => whnf);(first|refine zA ?_|(refine zI ?_ ?_<;> intro hh<;> first|(exfalso;omega)|skip)|(refine zl ?_ ?_<;> intro hh)|refine zq ?_|refine zv ?_|refine zu ?_|exact Sy.fin_val fun e=>rfl)));(all_goals (try conv => whnf)))
    exact Sy.fin_val (fun e => congrArg Value.bool (by rw [Bool.eq_iff_iff, decide_eq_true_iff, decide_eq_true_iff]; exact ⟨fun h => ⟨h1, h⟩, fun h => h.2⟩))
  · rw [decide_eq_false (fun h => h1 h.1)]
    ((repeat' ((conv => whnf);(first|refine zA ?_|(refine zI ?_ ?_<;> intro hh<;> first|(exfalso;omega)|skip)|(refine zl ?_ ?_<;> intro hh)|refine zq ?_|refine zv ?_|refine zu ?_|exact Sy.fin_val fun e=>rfl)));(all_goals (try conv => whnf)))
    all_goals exact Sy.fin_val (fun e => congrArg Value.bool (by first | exact decide_eq_true (by omega) | exact decide_eq_false (by omega)))
theorem off_cell (o : Fin 8 → Int) : ∀ (g : Fin 8) (x : Int), x = (g.val : Int) → ([.v (.int .i64 (o 0)), .v (.int .i64 (o 1)), .v (.int .i64 (o 2)), .v (.int .i64 (o 3)), .v (.int .i64 (o 4)), .v (.int .i64 (o 5)), .v (.int .i64 (o 6)), .v (.int .i64 (o 7))] : List C)[x.toNat]? = some (.v (.int .i64 (o g))) := fin8x rfl rfl rfl rfl rfl rfl rfl rfl
attribute [local irreducible] ownW tblB namesB rightP
set_option maxHeartbeats 4000000 in
theorem right_any (s : SnV) (w : World) (hr : SOk (fun b => b < w.heap.size) w s) : Calls Tryz.prog 7 #[.agg (encS s).toArray] w (Sy.Ret (.bool (decide (rightP s.sn))) w) := by
  have hl1 := ok_len hr.rows
  have hl2 := ok_len hr.txs
  obtain ⟨⟨op, idx, wid, fin, rows, o, txs⟩, u, t⟩ := s
  dsimp only at hl1 hl2
  refine Sy.calls_of Sy.lv7 Sy.tab_ok Tryz.func7 rfl _ Tryz.ntmps7 [⟨u, 4, rows.length, rows.map encK⟩, ⟨t, 3, txs.length, txs.map encT⟩] [.agg [.v (.int .i64 op), .v (.int .i64 idx), .v (.int .i64 wid), .v (.bool fin), .row 0, .v (.int .i64 (o 0)), .v (.int .i64 (o 1)), .v (.int .i64 (o 2)), .v (.int .i64 (o 3)), .v (.int .i64 (o 4)), .v (.int .i64 (o 5)), .v (.int .i64 (o 6)), .v (.int .i64 (o 7)), .row 1]] rfl rfl rfl ⟨hr.rows, hr.txs, trivial⟩ ?_
  obtain ⟨R, hR⟩ : ∃ R, R = decide (rightP ⟨op, idx, wid, fin, rows, o, txs⟩) := ⟨_, rfl⟩
  rw [show decide (rightP (SnV.sn ⟨⟨op, idx, wid, fin, rows, o, txs⟩, u, t⟩)) = R from hR.symm]
  ((repeat' ((conv => whnf);(first|refine zA ?_|(refine zI ?_ ?_<;> intro hh<;> first|(exfalso;omega)|skip)|(refine zl ?_ ?_<;> intro hh)|refine zq ?_|refine zv ?_|refine zu ?_|exact Sy.fin_val fun e=>rfl)));(all_goals (try conv => whnf)))
  refine Sy.call_val (.c (.v (.bool (decide ((0 ≤ op ∧ op < 8) ∧ shareP idx wid))))) Tryz.call17 rfl (fun e a w' h => place_any op idx wid w') ?_
  by_cases hpl : (0 ≤ op ∧ op < 8) ∧ shareP idx wid
  · obtain ⟨hop, hsh⟩ := hpl
    have hsh' := hsh
    unfold shareP at hsh'
    rw [decide_eq_true ⟨hop, hsh⟩]
    ((repeat' ((conv => whnf);(first|refine zA ?_|(refine zI ?_ ?_<;> intro hh<;> first|(exfalso;omega)|skip)|(refine zl ?_ ?_<;> intro hh)|refine zq ?_|refine zv ?_|refine zu ?_|exact Sy.fin_val fun e=>rfl)));(all_goals (try conv => whnf)))
    refine Sy.call_val (.c (.v (.bool (tblB rows)))) Tryz.call18 rfl (fun e a w' h => rtbl_any (e.rv 0) rows w' (Sy.row_reads h (.inr rfl))) ?_
    cases htb : tblB rows with
    | true =>
      ((repeat' ((conv => whnf);(first|refine zA ?_|(refine zI ?_ ?_<;> intro hh<;> first|(exfalso;omega)|skip)|(refine zl ?_ ?_<;> intro hh)|refine zq ?_|refine zv ?_|refine zu ?_|exact Sy.fin_val fun e=>rfl)));(all_goals (try conv => whnf)))
      refine Sy.call_val (.c (.v (.bool (namesB txs)))) Tryz.call19 rfl (fun e a w' h => rises_any (e.rv 1) txs w' (Sy.row_reads h (.inr rfl))) ?_
      cases hnm : namesB txs with
      | true =>
        ((repeat' ((conv => whnf);(first|refine zA ?_|(refine zI ?_ ?_<;> intro hh<;> first|(exfalso;omega)|skip)|(refine zl ?_ ?_<;> intro hh)|refine zq ?_|refine zv ?_|refine zu ?_|exact Sy.fin_val fun e=>rfl)));(all_goals (try conv => whnf)))
        refine Sy.loop_inv Sy.tab_ok (fun n : Nat => [(31, .c (.v (.int .i64 n)))]) (fun _ => []) (fun n => n ≤ rows.length ∧ ∀ x ∈ rows.take n, ownW (x.key % 8) wid = idx) (fun n => rows.length - n) 0 ⟨Nat.zero_le _, fun x hx => by rw [List.take_zero] at hx; cases hx⟩ ?_ (fun n hn => ?_)
        · ((repeat' (first|((conv => whnf);done)|((try conv => whnf);first|exact trivial|(refine And.intro ?_ ?_)|rfl|exact fun _ _ _ h=>h|exact fun _ _ _ _=>trivial)));(all_goals (try conv => whnf)))
        · obtain ⟨hn, ha⟩ := hn
          by_cases hlt : n < rows.length
          · have hg := List.getElem?_eq_getElem hlt
            have hsn : rows.take (n + 1) = rows.take n ++ [rows[n]] := List.take_succ_eq_append_getElem hlt
            have hxm := List.getElem_mem hlt
            generalize rows[n] = x at *
            have hrc := tbl_rec htb hxm
            unfold recP at hrc
            have hm8 := mod8 hrc.2.2.1
            ((repeat' ((conv => whnf);(first|refine zA ?_|(refine zI ?_ ?_<;> intro hh<;> first|(exfalso;omega)|skip)|(refine zl ?_ ?_<;> intro hh)|refine zq ?_|refine zv ?_|refine zu ?_|exact Sy.fin_val fun e=>rfl)));(all_goals (try conv => whnf)))
            refine Sy.el_map x hg ?_
            ((repeat' ((conv => whnf);(first|refine zA ?_|(refine zI ?_ ?_<;> intro hh<;> first|(exfalso;omega)|skip)|(refine zl ?_ ?_<;> intro hh)|refine zq ?_|refine zv ?_|refine zu ?_|exact Sy.fin_val fun e=>rfl)));(all_goals (try conv => whnf)))
            by_cases hmn : ownW (x.key % 8) wid = idx
            · have ha2 : ∀ y ∈ rows.take (n + 1), ownW (y.key % 8) wid = idx := fun y hy => by
                rw [hsn] at hy
                rcases List.mem_append.1 hy with hy | hy
                · exact ha y hy
                · rw [List.mem_singleton.1 hy]; exact hmn
              refine Sy.draw_go [] (by kernel_rfl) ?_
              intro e0
              conv => whnf
              refine zt 0 rfl ?_
              conv => whnf
              refine zt 1 rfl ?_
              conv => whnf
              refine zt 3 rfl ?_
              conv => whnf
              refine zt 4 rfl ?_
              conv => whnf
              refine zt 5 rfl ?_
              conv => whnf
              refine zt 6 rfl ?_
              conv => whnf
              refine zd1 [2] (zx rfl ?_ zy)
              conv => whnf
              refine Sy.call_val (.c (.v (.int .i64 (x.key % 8)))) Tryz.call21 rfl (fun e a w' _ => rgroup_any x.key w' (by omega)) ?_
              conv => whnf
              refine ⟨(by repeat' ((conv => whnf);first|exact trivial|(refine And.intro ?_ ?_)|rfl)), ?_⟩
              refine zd1 [7] (zx rfl ?_ zy)
              conv => whnf
              refine Sy.call_val (.c (.v (.bool true))) Tryz.call20 rfl (fun e a w' _ => by have := rowned_any (x.key % 8) idx wid w' hm8 (by omega); rw [decide_eq_true hmn] at this; exact this) ?_
              conv => whnf
              refine ⟨(by repeat' ((conv => whnf);first|exact trivial|(refine And.intro ?_ ?_)|rfl)), ?_⟩
              refine zt 8 rfl ?_
              (conv => whnf);(repeat' ((first|refine zA ?_|(refine zI ?_ ?_<;> intro hh<;> first|(exfalso;omega)|skip)|(refine zl ?_ ?_<;> intro hh)|refine zq ?_|refine zv ?_|refine zu ?_|exact Sy.fin_val fun e=>rfl);(try conv => whnf)))
              refine zw ?_
              skip
              all_goals (((repeat' ((conv => whnf);(first|refine zA ?_|(refine zI ?_ ?_<;> intro hh<;> first|(exfalso;omega)|skip)|(refine zl ?_ ?_<;> intro hh)|refine zq ?_|refine zv ?_|refine zu ?_|exact Sy.fin_val fun e=>rfl)));(all_goals (try conv => whnf))))
              all_goals (refine ⟨n + 1, ⟨by omega, ha2⟩, by omega, ?_⟩)
              all_goals (((repeat' (first|((conv => whnf);done)|((try conv => whnf);first|exact trivial|(refine And.intro ?_ ?_)|rfl|exact fun _ _ _ h=>h|exact fun _ _ _ _=>trivial)));(all_goals (try conv => whnf))))
            · rw [hR, decide_eq_false (fun h => hmn (by unfold rightP at h; exact h.2.2.2.2.1 x hxm))]
              refine Sy.draw_go [] (by kernel_rfl) ?_
              intro e0
              conv => whnf
              refine zt 0 rfl ?_
              conv => whnf
              refine zt 1 rfl ?_
              conv => whnf
              refine zt 3 rfl ?_
              conv => whnf
              refine zt 4 rfl ?_
              conv => whnf
              refine zt 5 rfl ?_
              conv => whnf
              refine zt 6 rfl ?_
              conv => whnf
              refine zd1 [2] (zx rfl ?_ zy)
              conv => whnf
              refine Sy.call_val (.c (.v (.int .i64 (x.key % 8)))) Tryz.call21 rfl (fun e a w' _ => rgroup_any x.key w' (by omega)) ?_
              conv => whnf
              refine ⟨(by repeat' ((conv => whnf);first|exact trivial|(refine And.intro ?_ ?_)|rfl)), ?_⟩
              refine zd1 [7] (zx rfl ?_ zy)
              conv => whnf
              refine Sy.call_val (.c (.v (.bool false))) Tryz.call20 rfl (fun e a w' _ => by have := rowned_any (x.key % 8) idx wid w' hm8 (by omega); rw [decide_eq_false hmn] at this; exact this) ?_
              conv => whnf
              refine ⟨(by repeat' ((conv => whnf);first|exact trivial|(refine And.intro ?_ ?_)|rfl)), ?_⟩
              refine zt 8 rfl ?_
              (conv => whnf);(repeat' ((first|refine zA ?_|(refine zI ?_ ?_<;> intro hh<;> first|(exfalso;omega)|skip)|(refine zl ?_ ?_<;> intro hh)|refine zq ?_|refine zv ?_|refine zu ?_|exact Sy.fin_val fun e=>rfl);(try conv => whnf)))
              refine zw ?_
              skip
              all_goals (((repeat' ((conv => whnf);(first|refine zA ?_|(refine zI ?_ ?_<;> intro hh<;> first|(exfalso;omega)|skip)|(refine zl ?_ ?_<;> intro hh)|refine zq ?_|refine zv ?_|refine zu ?_|exact Sy.fin_val fun e=>rfl)));(all_goals (try conv => whnf))))
              all_goals done
          · have e : n = rows.length := by omega
            rw [e, List.take_length] at ha
            ((repeat' ((conv => whnf);(first|refine zA ?_|(refine zI ?_ ?_<;> intro hh<;> first|(exfalso;omega)|skip)|(refine zl ?_ ?_<;> intro hh)|refine zq ?_|refine zv ?_|refine zu ?_|exact Sy.fin_val fun e=>rfl)));(all_goals (try conv => whnf)))
            refine Sy.loop_inv Sy.tab_ok (fun n : Nat => [(47, .c (.v (.int .i64 n)))]) (fun _ => []) (fun n => n ≤ 8 ∧ ∀ g : Fin 8, g.val < n → offP idx wid o g) (fun n => 8 - n) 0 ⟨Nat.zero_le _, fun g hg => absurd hg (Nat.not_lt_zero _)⟩ ?_ (fun n hn => ?_)
            · ((repeat' (first|((conv => whnf);done)|((try conv => whnf);first|exact trivial|(refine And.intro ?_ ?_)|rfl|exact fun _ _ _ h=>h|exact fun _ _ _ _=>trivial)));(all_goals (try conv => whnf)))
            · obtain ⟨hn, hof⟩ := hn
              by_cases hlt : n < 8
              · obtain ⟨g, hgx⟩ : ∃ g : Fin 8, (n : Int) = (g.val : Int) := ⟨⟨n, hlt⟩, rfl⟩
                ((repeat' ((conv => whnf);(first|refine zA ?_|(refine zI ?_ ?_<;> intro hh<;> first|(exfalso;omega)|skip)|(refine zl ?_ ?_<;> intro hh)|refine zq ?_|refine zv ?_|refine zu ?_|exact Sy.fin_val fun e=>rfl)));(all_goals (try conv => whnf)))
                refine Sy.cell_of (.v (.int .i64 (o g))) (by first | exact off_cell o g n hgx | (show _[_ * 1]? = _; rw [Nat.mul_one]; exact off_cell o g n hgx)) ?_
                have hnext : offP idx wid o g → ∀ g : Fin 8, g.val < n + 1 → offP idx wid o g := fun h g' hg' => by
                  rcases Nat.lt_succ_iff_lt_or_eq.1 hg' with h1 | h1
                  · exact hof g' h1
                  · rw [show g' = g from Fin.ext (by omega)]; exact h
                have hbad : ¬ offP idx wid o g → R = false := fun h => by
                  rw [hR]
                  exact decide_eq_false (fun h2 => h (by unfold rightP at h2; exact h2.2.2.2.2.2 g))
                unfold offP at hnext hbad
                by_cases hr1 : 0 ≤ o g ∧ o g ≤ 40
                · by_cases hz : o g = 0
                  · have hnx := hnext ⟨by omega, by omega, fun h => absurd hz h⟩
                    ((repeat' ((conv => whnf);(first|refine zA ?_|(refine zI ?_ ?_<;> intro hh<;> first|(exfalso;omega)|skip)|(refine zl ?_ ?_<;> intro hh)|refine zq ?_|refine zv ?_|refine zu ?_|exact Sy.fin_val fun e=>rfl)));(all_goals (try conv => whnf)))
                    refine ⟨n + 1, ⟨by omega, hnx⟩, by omega, ?_⟩
                    ((repeat' (first|((conv => whnf);done)|((try conv => whnf);first|exact trivial|(refine And.intro ?_ ?_)|rfl|exact fun _ _ _ h=>h|exact fun _ _ _ _=>trivial)));(all_goals (try conv => whnf)))
                  · ((repeat' ((conv => whnf);(first|refine zA ?_|(refine zI ?_ ?_<;> intro hh<;> first|(exfalso;omega)|skip)|(refine zl ?_ ?_<;> intro hh)|refine zq ?_|refine zv ?_|refine zu ?_|exact Sy.fin_val fun e=>rfl)));(all_goals (try conv => whnf)))
                    refine Sy.call_val (.c (.v (.bool (decide (ownW n wid = idx))))) Tryz.call20 rfl (fun e a w' _ => rowned_any n idx wid w' (by omega) (by omega)) ?_
                    rw [hgx]
                    by_cases how : ownW (g.val : Int) wid = idx
                    · have hnx := hnext ⟨by omega, by omega, fun _ => how⟩
                      rw [decide_eq_true how]
                      ((repeat' ((conv => whnf);(first|refine zA ?_|(refine zI ?_ ?_<;> intro hh<;> first|(exfalso;omega)|skip)|(refine zl ?_ ?_<;> intro hh)|refine zq ?_|refine zv ?_|refine zu ?_|exact Sy.fin_val fun e=>rfl)));(all_goals (try conv => whnf)))
                      refine ⟨n + 1, ⟨by omega, hnx⟩, by omega, ?_⟩
                      ((repeat' (first|((conv => whnf);done)|((try conv => whnf);first|exact trivial|(refine And.intro ?_ ?_)|rfl|exact fun _ _ _ h=>h|exact fun _ _ _ _=>trivial)));(all_goals (try conv => whnf)))
                      exact congrArg (Value.int .i64) (by omega)
                    · rw [decide_eq_false how, hbad (fun h => how (h.2.2 hz))]
                      ((repeat' ((conv => whnf);(first|refine zA ?_|(refine zI ?_ ?_<;> intro hh<;> first|(exfalso;omega)|skip)|(refine zl ?_ ?_<;> intro hh)|refine zq ?_|refine zv ?_|refine zu ?_|exact Sy.fin_val fun e=>rfl)));(all_goals (try conv => whnf)))
                      all_goals done
                · rw [hbad (fun h => hr1 ⟨h.1, h.2.1⟩)]
                  ((repeat' ((conv => whnf);(first|refine zA ?_|(refine zI ?_ ?_<;> intro hh<;> first|(exfalso;omega)|skip)|(refine zl ?_ ?_<;> intro hh)|refine zq ?_|refine zv ?_|refine zu ?_|exact Sy.fin_val fun e=>rfl)));(all_goals (try conv => whnf)))
                  all_goals done
              · have e : n = 8 := by omega
                subst e
                rw [hR, decide_eq_true (by unfold rightP; exact ⟨hop, hsh, htb, hnm, ha, fun g => hof g g.isLt⟩)]
                ((repeat' ((conv => whnf);(first|refine zA ?_|(refine zI ?_ ?_<;> intro hh<;> first|(exfalso;omega)|skip)|(refine zl ?_ ?_<;> intro hh)|refine zq ?_|refine zv ?_|refine zu ?_|exact Sy.fin_val fun e=>rfl)));(all_goals (try conv => whnf)))
                all_goals done
      | false =>
        rw [hR, decide_eq_false (fun h => by unfold rightP at h; rw [hnm] at h; exact absurd h.2.2.2.1 (by decide))]
        ((repeat' ((conv => whnf);(first|refine zA ?_|(refine zI ?_ ?_<;> intro hh<;> first|(exfalso;omega)|skip)|(refine zl ?_ ?_<;> intro hh)|refine zq ?_|refine zv ?_|refine zu ?_|exact Sy.fin_val fun e=>rfl)));(all_goals (try conv => whnf)))
        all_goals done
    | false =>
      rw [hR, decide_eq_false (fun h => by unfold rightP at h; rw [htb] at h; exact absurd h.2.2.1 (by decide))]
      ((repeat' ((conv => whnf);(first|refine zA ?_|(refine zI ?_ ?_<;> intro hh<;> first|(exfalso;omega)|skip)|(refine zl ?_ ?_<;> intro hh)|refine zq ?_|refine zv ?_|refine zu ?_|exact Sy.fin_val fun e=>rfl)));(all_goals (try conv => whnf)))
      all_goals done
  · rw [hR, decide_eq_false hpl, decide_eq_false (fun h => hpl (by unfold rightP at h; exact ⟨h.1, h.2.1⟩))]
    ((repeat' ((conv => whnf);(first|refine zA ?_|(refine zI ?_ ?_<;> intro hh<;> first|(exfalso;omega)|skip)|(refine zl ?_ ?_<;> intro hh)|refine zq ?_|refine zv ?_|refine zu ?_|exact Sy.fin_val fun e=>rfl)));(all_goals (try conv => whnf)))
    all_goals done
/-! ### The same -/
theorem tx_ext {x y : Tx} (h1 : x.sink = y.sink) (h2 : x.att = y.att) (h3 : x.ser = y.ser) : x = y := by cases x; cases y; simp_all
theorem kc_ext {x y : Kc} (h1 : x.src = y.src) (h2 : x.key = y.key) (h3 : x.cnt = y.cnt) (h4 : x.sum = y.sum) : x = y := by cases x; cases y; simp_all
set_option maxHeartbeats 2000000 in
theorem sameT_any (u t : Value) (a b : List Tx) (w : World) (hu : XD.ok (fun b => b < w.heap.size) w ⟨u, 3, a.length, a.map encT⟩) (ht : XD.ok (fun b => b < w.heap.size) w ⟨t, 3, b.length, b.map encT⟩) :
    Calls Tryz.prog 38 #[u, t] w (Sy.Ret (.bool (decide (a = b))) w) := by
  have hl1 := ok_len hu
  have hl2 := ok_len ht
  refine Sy.calls_of Sy.lv38 Sy.tab_ok Tryz.func38 rfl _ Tryz.ntmps38 [⟨u, 3, a.length, a.map encT⟩, ⟨t, 3, b.length, b.map encT⟩] [.c (.row 0), .c (.row 1)] rfl rfl rfl ⟨hu, ht, trivial⟩ ?_
  by_cases hlen : a.length = b.length
  · ((repeat' ((conv => whnf);(first|refine zA ?_|(refine zI ?_ ?_<;> intro hh<;> first|(exfalso;omega)|skip)|(refine zl ?_ ?_<;> intro hh)|refine zq ?_|refine zv ?_|refine zu ?_|exact Sy.fin_val fun e=>rfl)));(all_goals (try conv => whnf)))
    refine Sy.loop_inv Sy.tab_ok (fun n : Nat => [(13, .c (.v (.int .i64 n)))]) (fun _ => []) (fun n => n ≤ a.length ∧ a.take n = b.take n) (fun n => a.length - n) 0 ⟨Nat.zero_le _, rfl⟩ ?_ (fun n hn => ?_)
    · ((repeat' (first|((conv => whnf);done)|((try conv => whnf);first|exact trivial|(refine And.intro ?_ ?_)|rfl|exact fun _ _ _ h=>h|exact fun _ _ _ _=>trivial)));(all_goals (try conv => whnf)))
    · obtain ⟨hn, ht⟩ := hn
      by_cases hlt : n < a.length
      · have hlb : n < b.length := by omega
        have ga := List.getElem?_eq_getElem hlt
        have gb := List.getElem?_eq_getElem hlb
        have sa : a.take (n + 1) = a.take n ++ [a[n]] := List.take_succ_eq_append_getElem hlt
        have sb : b.take (n + 1) = b.take n ++ [b[n]] := List.take_succ_eq_append_getElem hlb
        generalize a[n] = x at *
        generalize b[n] = y at *
        ((repeat' ((conv => whnf);(first|refine zA ?_|(refine zI ?_ ?_<;> intro hh<;> first|(exfalso;omega)|skip)|(refine zl ?_ ?_<;> intro hh)|refine zq ?_|refine zv ?_|refine zu ?_|exact Sy.fin_val fun e=>rfl)));(all_goals (try conv => whnf)))
        refine Sy.draw_go [] (by kernel_rfl) ?_
        intro e0
        conv => whnf
        refine zt 0 rfl ?_
        conv => whnf
        refine zt 1 rfl ?_
        conv => whnf
        refine zt 2 rfl ?_
        (conv => whnf);(repeat' ((first|refine zA ?_|(refine zI ?_ ?_<;> intro hh<;> first|(exfalso;omega)|skip)|(refine zl ?_ ?_<;> intro hh)|refine zq ?_|refine zv ?_|refine zu ?_|exact Sy.fin_val fun e=>rfl);(try conv => whnf)))
        refine zt 3 rfl ?_
        conv => whnf
        refine Sy.el_map x ga ?_
        conv => whnf
        refine zt 4 rfl ?_
        conv => whnf
        refine zt 5 rfl ?_
        conv => whnf
        refine zt 6 rfl ?_
        (conv => whnf);(repeat' ((first|refine zA ?_|(refine zI ?_ ?_<;> intro hh<;> first|(exfalso;omega)|skip)|(refine zl ?_ ?_<;> intro hh)|refine zq ?_|refine zv ?_|refine zu ?_|exact Sy.fin_val fun e=>rfl);(try conv => whnf)))
        refine zt 7 rfl ?_
        conv => whnf
        refine Sy.el_map y gb ?_
        conv => whnf
        refine zt 8 rfl ?_
        (conv => whnf);(repeat' ((first|refine zA ?_|(refine zI ?_ ?_<;> intro hh<;> first|(exfalso;omega)|skip)|(refine zl ?_ ?_<;> intro hh)|refine zq ?_|refine zv ?_|refine zu ?_|exact Sy.fin_val fun e=>rfl);(try conv => whnf)))
        refine zw ?_
        skip
        all_goals
          by_cases he : x.sink = y.sink ∧ x.att = y.att ∧ x.ser = y.ser
          · obtain ⟨e1, e2, e3⟩ := he
            have hxy : x = y := tx_ext e1 e2 e3
            ((repeat' ((conv => whnf);(first|refine zA ?_|(refine zI ?_ ?_<;> intro hh<;> first|(exfalso;omega)|skip)|(refine zl ?_ ?_<;> intro hh)|refine zq ?_|refine zv ?_|refine zu ?_|exact Sy.fin_val fun e=>rfl)));(all_goals (try conv => whnf)))
            refine ⟨n + 1, ⟨by omega, by rw [sa, sb, ht, hxy]⟩, by omega, ?_⟩
            ((repeat' (first|((conv => whnf);done)|((try conv => whnf);first|exact trivial|(refine And.intro ?_ ?_)|rfl|exact fun _ _ _ h=>h|exact fun _ _ _ _=>trivial)));(all_goals (try conv => whnf)))
          · rw [decide_eq_false (fun h => by
              subst h
              rw [ga] at gb
              cases gb
              exact he ⟨rfl, rfl, rfl⟩)]
            ((repeat' ((conv => whnf);(first|refine zA ?_|(refine zI ?_ ?_<;> intro hh<;> first|(exfalso;omega)|skip)|(refine zl ?_ ?_<;> intro hh)|refine zq ?_|refine zv ?_|refine zu ?_|exact Sy.fin_val fun e=>rfl)));(all_goals (try conv => whnf)))
            all_goals (exfalso; omega)
      · have e : n = a.length := by omega
        subst e
        rw [List.take_length, hlen, List.take_length] at ht
        rw [decide_eq_true ht]
        ((repeat' ((conv => whnf);(first|refine zA ?_|(refine zI ?_ ?_<;> intro hh<;> first|(exfalso;omega)|skip)|(refine zl ?_ ?_<;> intro hh)|refine zq ?_|refine zv ?_|refine zu ?_|exact Sy.fin_val fun e=>rfl)));(all_goals (try conv => whnf)))
        all_goals done
  · rw [decide_eq_false (fun h => hlen (by rw [h]))]
    ((repeat' ((conv => whnf);(first|refine zA ?_|(refine zI ?_ ?_<;> intro hh<;> first|(exfalso;omega)|skip)|(refine zl ?_ ?_<;> intro hh)|refine zq ?_|refine zv ?_|refine zu ?_|exact Sy.fin_val fun e=>rfl)));(all_goals (try conv => whnf)))
    all_goals done
set_option maxHeartbeats 2000000 in
theorem sameK_any (u t : Value) (a b : List Kc) (w : World) (hu : XD.ok (fun b => b < w.heap.size) w ⟨u, 4, a.length, a.map encK⟩) (ht : XD.ok (fun b => b < w.heap.size) w ⟨t, 4, b.length, b.map encK⟩) :
    Calls Tryz.prog 37 #[.agg #[u], .agg #[t]] w (Sy.Ret (.bool (decide (a = b))) w) := by
  have hl1 := ok_len hu
  have hl2 := ok_len ht
  refine Sy.calls_of Sy.lv37 Sy.tab_ok Tryz.func37 rfl _ Tryz.ntmps37 [⟨u, 4, a.length, a.map encK⟩, ⟨t, 4, b.length, b.map encK⟩] [.agg [.row 0], .agg [.row 1]] rfl rfl rfl ⟨hu, ht, trivial⟩ ?_
  by_cases hlen : a.length = b.length
  · ((repeat' ((conv => whnf);(first|refine zA ?_|(refine zI ?_ ?_<;> intro hh<;> first|(exfalso;omega)|skip)|(refine zl ?_ ?_<;> intro hh)|refine zq ?_|refine zv ?_|refine zu ?_|exact Sy.fin_val fun e=>rfl)));(all_goals (try conv => whnf)))
    refine Sy.loop_inv Sy.tab_ok (fun n : Nat => [(16, .c (.v (.int .i64 n)))]) (fun _ => []) (fun n => n ≤ a.length ∧ a.take n = b.take n) (fun n => a.length - n) 0 ⟨Nat.zero_le _, rfl⟩ ?_ (fun n hn => ?_)
    · ((repeat' (first|((conv => whnf);done)|((try conv => whnf);first|exact trivial|(refine And.intro ?_ ?_)|rfl|exact fun _ _ _ h=>h|exact fun _ _ _ _=>trivial)));(all_goals (try conv => whnf)))
    · obtain ⟨hn, ht⟩ := hn
      by_cases hlt : n < a.length
      · have hlb : n < b.length := by omega
        have ga := List.getElem?_eq_getElem hlt
        have gb := List.getElem?_eq_getElem hlb
        have sa : a.take (n + 1) = a.take n ++ [a[n]] := List.take_succ_eq_append_getElem hlt
        have sb : b.take (n + 1) = b.take n ++ [b[n]] := List.take_succ_eq_append_getElem hlb
        generalize a[n] = x at *
        generalize b[n] = y at *
        ((repeat' ((conv => whnf);(first|refine zA ?_|(refine zI ?_ ?_<;> intro hh<;> first|(exfalso;omega)|skip)|(refine zl ?_ ?_<;> intro hh)|refine zq ?_|refine zv ?_|refine zu ?_|exact Sy.fin_val fun e=>rfl)));(all_goals (try conv => whnf)))
        refine Sy.draw_go [] (by kernel_rfl) ?_
        intro e0
        conv => whnf
        refine zt 0 rfl ?_
        conv => whnf
        refine zt 1 rfl ?_
        conv => whnf
        refine zt 2 rfl ?_
        conv => whnf
        refine zt 3 rfl ?_
        (conv => whnf);(repeat' ((first|refine zA ?_|(refine zI ?_ ?_<;> intro hh<;> first|(exfalso;omega)|skip)|(refine zl ?_ ?_<;> intro hh)|refine zq ?_|refine zv ?_|refine zu ?_|exact Sy.fin_val fun e=>rfl);(try conv => whnf)))
        refine zt 4 rfl ?_
        conv => whnf
        refine Sy.el_map x ga ?_
        conv => whnf
        refine zt 5 rfl ?_
        conv => whnf
        refine zt 6 rfl ?_
        conv => whnf
        refine zt 7 rfl ?_
        conv => whnf
        refine zt 8 rfl ?_
        (conv => whnf);(repeat' ((first|refine zA ?_|(refine zI ?_ ?_<;> intro hh<;> first|(exfalso;omega)|skip)|(refine zl ?_ ?_<;> intro hh)|refine zq ?_|refine zv ?_|refine zu ?_|exact Sy.fin_val fun e=>rfl);(try conv => whnf)))
        refine zt 9 rfl ?_
        conv => whnf
        refine Sy.el_map y gb ?_
        conv => whnf
        refine zt 10 rfl ?_
        (conv => whnf);(repeat' ((first|refine zA ?_|(refine zI ?_ ?_<;> intro hh<;> first|(exfalso;omega)|skip)|(refine zl ?_ ?_<;> intro hh)|refine zq ?_|refine zv ?_|refine zu ?_|exact Sy.fin_val fun e=>rfl);(try conv => whnf)))
        refine zw ?_
        skip
        all_goals
          by_cases he : x.src = y.src ∧ x.key = y.key ∧ x.cnt = y.cnt ∧ x.sum = y.sum
          · obtain ⟨e1, e2, e3, e4⟩ := he
            have hxy : x = y := kc_ext e1 e2 e3 e4
            ((repeat' ((conv => whnf);(first|refine zA ?_|(refine zI ?_ ?_<;> intro hh<;> first|(exfalso;omega)|skip)|(refine zl ?_ ?_<;> intro hh)|refine zq ?_|refine zv ?_|refine zu ?_|exact Sy.fin_val fun e=>rfl)));(all_goals (try conv => whnf)))
            refine ⟨n + 1, ⟨by omega, by rw [sa, sb, ht, hxy]⟩, by omega, ?_⟩
            ((repeat' (first|((conv => whnf);done)|((try conv => whnf);first|exact trivial|(refine And.intro ?_ ?_)|rfl|exact fun _ _ _ h=>h|exact fun _ _ _ _=>trivial)));(all_goals (try conv => whnf)))
          · rw [decide_eq_false (fun h => by
              subst h
              rw [ga] at gb
              cases gb
              exact he ⟨rfl, rfl, rfl, rfl⟩)]
            ((repeat' ((conv => whnf);(first|refine zA ?_|(refine zI ?_ ?_<;> intro hh<;> first|(exfalso;omega)|skip)|(refine zl ?_ ?_<;> intro hh)|refine zq ?_|refine zv ?_|refine zu ?_|exact Sy.fin_val fun e=>rfl)));(all_goals (try conv => whnf)))
            all_goals (exfalso; omega)
      · have e : n = a.length := by omega
        subst e
        rw [List.take_length, hlen, List.take_length] at ht
        rw [decide_eq_true ht]
        ((repeat' ((conv => whnf);(first|refine zA ?_|(refine zI ?_ ?_<;> intro hh<;> first|(exfalso;omega)|skip)|(refine zl ?_ ?_<;> intro hh)|refine zq ?_|refine zv ?_|refine zu ?_|exact Sy.fin_val fun e=>rfl)));(all_goals (try conv => whnf)))
        all_goals done
  · rw [decide_eq_false (fun h => hlen (by rw [h]))]
    ((repeat' ((conv => whnf);(first|refine zA ?_|(refine zI ?_ ?_<;> intro hh<;> first|(exfalso;omega)|skip)|(refine zl ?_ ?_<;> intro hh)|refine zq ?_|refine zv ?_|refine zu ?_|exact Sy.fin_val fun e=>rfl)));(all_goals (try conv => whnf)))
    all_goals done
end Go.Proofs.YtmahldelmbhjfaaGreat.Sn
