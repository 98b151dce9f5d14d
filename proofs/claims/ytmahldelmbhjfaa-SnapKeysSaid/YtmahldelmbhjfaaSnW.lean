/- Snap: the document's Part. -/
import Derived.Test.YtmahldelmbhjfaaSnV
namespace Go.Proofs.Ytmahldelmbhjfaa
open Go Go.RowKit
open Sy (C SV V1 Blk St XD Els)
set_option maxRecDepth 10000

attribute [local irreducible] ownW tblB namesB rightP
set_option maxHeartbeats 8000000 in
theorem rpart_any (s : SnV) (i n : Int) (w : World) (hr : SOk (fun b => b < w.heap.size) w s) :
    Calls Try.prog 16 #[.agg (encS s).toArray, .int .i64 i, .int .i64 n] w (Sy.RetRows Sy.noRow (fun _ : Unit => True) (fun _ => [⟨73, 4, (partV s.sn i n).rows.length, (partV s.sn i n).rows.map encK⟩]) (fun _ vs => .tuple #[retP (partV s.sn i n) vs, .int .i64 (partE s.sn i n)]) w) := by
  obtain ⟨⟨op, idx, wid, fin, rows, o, txs⟩, u, t⟩ := s
  refine Sy.calls_of Sy.lv16 Sy.tab_ok Try.func16 rfl _ Try.ntmps16 [⟨u, 4, rows.length, rows.map encK⟩, ⟨t, 3, txs.length, txs.map encT⟩] [.agg [.v (.int .i64 op), .v (.int .i64 idx), .v (.int .i64 wid), .v (.bool fin), .row 0, .v (.int .i64 (o 0)), .v (.int .i64 (o 1)), .v (.int .i64 (o 2)), .v (.int .i64 (o 3)), .v (.int .i64 (o 4)), .v (.int .i64 (o 5)), .v (.int .i64 (o 6)), .v (.int .i64 (o 7)), .row 1], .c (.v (.int .i64 i)), .c (.v (.int .i64 n))] rfl rfl rfl ⟨hr.rows, hr.txs, trivial⟩ ?_
  obtain ⟨S, hS⟩ : ∃ S : Sn, S = ⟨op, idx, wid, fin, rows, o, txs⟩ := ⟨_, rfl⟩
  rw [show SnV.sn ⟨⟨op, idx, wid, fin, rows, o, txs⟩, u, t⟩ = S from hS.symm]
  ((repeat' ((conv => whnf);(first|refine zA ?_|(refine zI ?_ ?_<;> intro hh<;> first|(exfalso;omega)|skip)|(refine zl ?_ ?_<;> intro hh)|refine zq ?_|refine zv ?_|refine zu ?_|exact Sy.fin_val fun e=>rfl)));(all_goals (try conv => whnf)))
  refine Sy.call_val (.c (.v (.bool (decide (rightP S))))) Try.call12 rfl (fun e a w' h => by
    have := right_any ⟨⟨op, idx, wid, fin, rows, o, txs⟩, e.rv 0, e.rv 1⟩ w' ⟨Sy.row_reads h (.inr rfl), Sy.row_reads h (.inr rfl)⟩
    rw [hS]; exact this) ?_
  have hno : ∀ e, partE S i n = e → e ≠ 0 → partV S i n = sn0 := fun e h1 h2 => if_neg (by rw [h1]; exact h2)
  by_cases hrt : rightP S
  · rw [decide_eq_true hrt]
    by_cases hw : wid = 1
    · ((repeat' ((conv => whnf);(first|refine zA ?_|(refine zI ?_ ?_<;> intro hh<;> first|(exfalso;omega)|skip)|(refine zl ?_ ?_<;> intro hh)|refine zq ?_|refine zv ?_|refine zu ?_|exact Sy.fin_val fun e=>rfl)));(all_goals (try conv => whnf)))
      refine Sy.call_val (.c (.v (.bool (decide (shareP i n))))) Try.call45 rfl (fun e a w' h => rshare_any i n w') ?_
      have hw' : S.wid = 1 := by rw [hS]; exact hw
      by_cases hsh : shareP i n
      · have hE : partE S i n = 0 := by unfold partE; rw [if_pos hrt, if_pos hw', if_pos hsh]
        have hV : partV S i n = partS S i n := if_pos hE
        have hsh' := hsh
        unfold shareP at hsh'
        have htb : tblB rows = true := by
          have h := hrt
          rw [hS] at h
          unfold rightP at h
          exact h.2.2.1
        rw [hE, hV, decide_eq_true hsh]
        ((repeat' ((conv => whnf);(first|refine zA ?_|(refine zI ?_ ?_<;> intro hh<;> first|(exfalso;omega)|skip)|(refine zl ?_ ?_<;> intro hh)|refine zq ?_|refine zv ?_|refine zu ?_|exact Sy.fin_val fun e=>rfl)));(all_goals (try conv => whnf)))
        refine Sy.call_r1 ⟨73, 4, (partR rows i n).length, (partR rows i n).map encK⟩ (fun j => .tup [.agg [.row j], .c (.v (.int .i64 0))]) Try.call46 (fun e a w' h => rtpart_any (e.rv 0) rows i n w' (Sy.row_reads h (.inr rfl)) htb hsh) ?_
        ((repeat' ((conv => whnf);(first|refine zA ?_|(refine zI ?_ ?_<;> intro hh<;> first|(exfalso;omega)|skip)|(refine zl ?_ ?_<;> intro hh)|refine zq ?_|refine zv ?_|refine zu ?_|exact Sy.fin_val fun e=>rfl)));(all_goals (try conv => whnf)))
        refine Sy.loop_inv Sy.tab_ok (fun x : Nat × (Fin 8 → Int) => [(45, .c (.v (.int .i64 x.1)))]) (fun x => [(4, .cells 33 [.v (.int .i64 op), .v (.int .i64 i), .v (.int .i64 n), .v (.bool fin), .row 5, .v (.int .i64 (x.2 0)), .v (.int .i64 (x.2 1)), .v (.int .i64 (x.2 2)), .v (.int .i64 (x.2 3)), .v (.int .i64 (x.2 4)), .v (.int .i64 (x.2 5)), .v (.int .i64 (x.2 6)), .v (.int .i64 (x.2 7)), .v (.slice none 0 0)])]) (fun x => x.1 ≤ 8 ∧ ∀ g : Fin 8, (g.val < x.1 → x.2 g = if ownW (g.val : Int) n = i then o g else 0) ∧ (x.1 ≤ g.val → x.2 g = 0)) (fun x => 8 - x.1) (0, fun _ => 0) ⟨Nat.zero_le _, fun g => ⟨fun h => absurd h (Nat.not_lt_zero _), fun _ => rfl⟩⟩ ?_ (fun x hx => ?_)
        · ((repeat' (first|((conv => whnf);done)|((try conv => whnf);first|exact trivial|(refine And.intro ?_ ?_)|rfl|exact fun _ _ _ h=>h|exact fun _ _ _ _=>trivial)));(all_goals (try conv => whnf)))
        · obtain ⟨m, r⟩ := x
          obtain ⟨hm, hrr⟩ := hx
          dsimp only at hm hrr ⊢
          by_cases hlt : m < 8
          · obtain ⟨g, hgx⟩ : ∃ g : Fin 8, (m : Int) = (g.val : Int) := ⟨⟨m, hlt⟩, rfl⟩
            have hgm : g.val = m := by omega
            ((repeat' ((conv => whnf);(first|refine zA ?_|(refine zI ?_ ?_<;> intro hh<;> first|(exfalso;omega)|skip)|(refine zl ?_ ?_<;> intro hh)|refine zq ?_|refine zv ?_|refine zu ?_|exact Sy.fin_val fun e=>rfl)));(all_goals (try conv => whnf)))
            refine Sy.cell_of (.v (.int .i64 (o g))) (by first | exact off_cell o g m hgx | (show _[_ * 1]? = _; rw [Nat.mul_one]; exact off_cell o g m hgx)) ?_
            ((repeat' ((conv => whnf);(first|refine zA ?_|(refine zI ?_ ?_<;> intro hh<;> first|(exfalso;omega)|skip)|(refine zl ?_ ?_<;> intro hh)|refine zq ?_|refine zv ?_|refine zu ?_|exact Sy.fin_val fun e=>rfl)));(all_goals (try conv => whnf)))
            refine Sy.call_val (.c (.v (.bool (decide (ownW m n = i))))) Try.call38 rfl (fun e a w' _ => rowned_any m i n w' (by omega) (by omega)) ?_
            by_cases ho : ownW (m : Int) n = i
            · have hnext : ∀ g' : Fin 8, (g'.val < m + 1 → upd r g (o g) g' = if ownW (g'.val : Int) n = i then o g' else 0) ∧ (m + 1 ≤ g'.val → upd r g (o g) g' = 0) := fun g' => by
                by_cases e : g' = g
                · subst e
                  rw [upd_same, ← hgx, if_pos ho]
                  exact ⟨fun _ => rfl, fun h => by omega⟩
                · have hne : g'.val ≠ m := fun h => e (Fin.ext (by omega))
                  rw [upd_other _ e]
                  exact ⟨fun h => (hrr g').1 (by omega), fun h => (hrr g').2 (by omega)⟩
              rw [decide_eq_true ho]
              clear hrr
              have hm1 : ((m + 1 : Nat) : Int) = (m : Int) + 1 := by omega
              generalize hmx : (m : Int) = x at *
              induction g, x, hgx using fin8x
              all_goals
                ((repeat' ((conv => whnf);(first|refine zA ?_|(refine zI ?_ ?_<;> intro hh<;> first|(exfalso;omega)|skip)|(refine zl ?_ ?_<;> intro hh)|refine zq ?_|refine zv ?_|refine zu ?_|exact Sy.fin_val fun e=>rfl)));(all_goals (try conv => whnf)))
                refine ⟨(m + 1, _), ⟨by dsimp only; omega, hnext⟩, by dsimp only; omega, ?_⟩
                dsimp only
                rw [hm1]
                ((repeat' (first|((conv => whnf);done)|((try conv => whnf);first|exact trivial|(refine And.intro ?_ ?_)|rfl|exact fun _ _ _ h=>h|exact fun _ _ _ _=>trivial)));(all_goals (try conv => whnf)))
            · have hnext : ∀ g' : Fin 8, (g'.val < m + 1 → r g' = if ownW (g'.val : Int) n = i then o g' else 0) ∧ (m + 1 ≤ g'.val → r g' = 0) := fun g' => by
                by_cases e : g'.val = m
                · have h1 := (hrr g').2 (by omega)
                  rw [h1, e, if_neg ho]
                  exact ⟨fun _ => rfl, fun _ => rfl⟩
                · exact ⟨fun h => (hrr g').1 (by omega), fun h => (hrr g').2 (by omega)⟩
              rw [decide_eq_false ho]
              ((repeat' ((conv => whnf);(first|refine zA ?_|(refine zI ?_ ?_<;> intro hh<;> first|(exfalso;omega)|skip)|(refine zl ?_ ?_<;> intro hh)|refine zq ?_|refine zv ?_|refine zu ?_|exact Sy.fin_val fun e=>rfl)));(all_goals (try conv => whnf)))
              refine ⟨(m + 1, r), ⟨by dsimp only; omega, hnext⟩, by dsimp only; omega, ?_⟩
              dsimp only
              ((repeat' (first|((conv => whnf);done)|((try conv => whnf);first|exact trivial|(refine And.intro ?_ ?_)|rfl|exact fun _ _ _ h=>h|exact fun _ _ _ _=>trivial)));(all_goals (try conv => whnf)))
          · have e : m = 8 := by omega
            subst e
            have hV2 : partS S i n = ⟨op, i, n, fin, partR rows i n, r, []⟩ := by
              have : (fun g : Fin 8 => if ownW (g.val : Int) n = i then o g else 0) = r := funext fun g => ((hrr g).1 g.isLt).symm
              rw [hS]
              unfold partS
              rw [this]
            rw [hV2]
            ((repeat' ((conv => whnf);(first|refine zA ?_|(refine zI ?_ ?_<;> intro hh<;> first|(exfalso;omega)|skip)|(refine zl ?_ ?_<;> intro hh)|refine zq ?_|refine zv ?_|refine zu ?_|exact Sy.fin_val fun e=>rfl)));(all_goals (try conv => whnf)))
            exact Sy.fin_r1 (.row 5) rfl (fun e => rfl)
      · have hE : partE S i n = 2 := by unfold partE; rw [if_pos hrt, if_pos hw', if_neg hsh]
        rw [hE, hno 2 hE (by decide), decide_eq_false hsh]
        ((repeat' ((conv => whnf);(first|refine zA ?_|(refine zI ?_ ?_<;> intro hh<;> first|(exfalso;omega)|skip)|(refine zl ?_ ?_<;> intro hh)|refine zq ?_|refine zv ?_|refine zu ?_|exact Sy.fin_val fun e=>rfl)));(all_goals (try conv => whnf)))
        exact Sy.fin_r1 (.v (.slice none 0 0)) ⟨rfl, rfl⟩ (fun e => rfl)
    · have hE : partE S i n = 281 := by unfold partE; rw [if_pos hrt, if_neg (by rw [hS]; exact hw)]
      rw [hE, hno 281 hE (by decide)]
      ((repeat' ((conv => whnf);(first|refine zA ?_|(refine zI ?_ ?_<;> intro hh<;> first|(exfalso;omega)|skip)|(refine zl ?_ ?_<;> intro hh)|refine zq ?_|refine zv ?_|refine zu ?_|exact Sy.fin_val fun e=>rfl)));(all_goals (try conv => whnf)))
      exact Sy.fin_r1 (.v (.slice none 0 0)) ⟨rfl, rfl⟩ (fun e => rfl)
  · have hE : partE S i n = 280 := if_neg hrt
    rw [decide_eq_false hrt, hE, hno 280 hE (by decide)]
    ((repeat' ((conv => whnf);(first|refine zA ?_|(refine zI ?_ ?_<;> intro hh<;> first|(exfalso;omega)|skip)|(refine zl ?_ ?_<;> intro hh)|refine zq ?_|refine zv ?_|refine zu ?_|exact Sy.fin_val fun e=>rfl)));(all_goals (try conv => whnf)))
    exact Sy.fin_r1 (.v (.slice none 0 0)) ⟨rfl, rfl⟩ (fun e => rfl)
end Go.Proofs.Ytmahldelmbhjfaa
