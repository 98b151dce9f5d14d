/- Snap: short. -/
import Derived.Test.YtmahldelmbhjfaaGreatSnT
import Derived.Test.YtmahldelmbhjfaaGreatDrawB
namespace Go.Proofs.YtmahldelmbhjfaaGreat.Sn
open Go Go.RowKit
open Sy (C SV V1 Blk St XD Els yt yt1 yd1 yw)
set_option maxRecDepth 10000

set_option maxHeartbeats 4000000 in
theorem short_any (s : SnV) (w : World) (hr : SOk (fun b => b < w.heap.size) w s) :
    Calls Tryz.prog 6 #[.agg (encS s).toArray] w (Sy.RetRows Sy.noRow (fun _ : Unit => True) (fun _ => [⟨46, 4, (shortS s.sn).rows.length, (shortS s.sn).rows.map encK⟩, ⟨80, 3, (shortS s.sn).txs.length, (shortS s.sn).txs.map encT⟩]) (fun _ vs => retA (shortS s.sn) vs) w) := by
  have hl1 := ok_len hr.rows
  have hl2 := ok_len hr.txs
  obtain ⟨⟨op, idx, wid, fin, rows, o, txs⟩, u, t⟩ := s
  dsimp only at hl1 hl2
  refine Sy.calls_of Sy.lv6 Sy.tab_ok Tryz.func6 rfl _ Tryz.ntmps6 [⟨u, 4, rows.length, rows.map encK⟩, ⟨t, 3, txs.length, txs.map encT⟩] [.agg [.v (.int .i64 op), .v (.int .i64 idx), .v (.int .i64 wid), .v (.bool fin), .row 0, .v (.int .i64 (o 0)), .v (.int .i64 (o 1)), .v (.int .i64 (o 2)), .v (.int .i64 (o 3)), .v (.int .i64 (o 4)), .v (.int .i64 (o 5)), .v (.int .i64 (o 6)), .v (.int .i64 (o 7)), .row 1]] rfl rfl rfl ⟨hr.rows, hr.txs, trivial⟩ ?_
  obtain ⟨m, hm⟩ : ∃ m, m = min rows.length 257 := ⟨_, rfl⟩
  have hmin : Sy.minI (rows.length : Int) 257 = (m : Int) := by unfold Sy.minI; split <;> omega
  obtain ⟨k, hk⟩ : ∃ k, k = min txs.length 25 := ⟨_, rfl⟩
  have hkin : Sy.minI (txs.length : Int) 25 = (k : Int) := by unfold Sy.minI; split <;> omega
  have e1 : List.take (m - 0) (List.drop 0 (rows.map encK)) = (rows.take 257).map encK := by
    rw [List.drop_zero, Nat.sub_zero, ← List.map_take, hm]
    congr 1
    rcases Nat.le_total rows.length 257 with h | h
    · rw [Nat.min_eq_left h, List.take_of_length_le h, List.take_length]
    · rw [Nat.min_eq_right h]
  have e2 : List.take (k - 0) (List.drop 0 (txs.map encT)) = (txs.take 25).map encT := by
    rw [List.drop_zero, Nat.sub_zero, ← List.map_take, hk]
    congr 1
    rcases Nat.le_total txs.length 25 with h | h
    · rw [Nat.min_eq_left h, List.take_of_length_le h, List.take_length]
    · rw [Nat.min_eq_right h]
  have l1 : (rows.take 257).length = m - 0 := by rw [List.length_take]; omega
  have l2 : (txs.take 25).length = k - 0 := by rw [List.length_take]; omega
  ((repeat' ((conv => whnf);(first|refine zA ?_|(refine zI ?_ ?_<;> intro hh<;> first|(exfalso;omega)|skip)|(refine zl ?_ ?_<;> intro hh)|refine zq ?_|refine zv ?_|refine zu ?_|exact Sy.fin_val fun e=>rfl)));(all_goals (try conv => whnf)))
  refine Sy.drawB_go [2] [18,20] (by kernel_rfl) ?_
  intro e0
  conv => whnf
  refine yt 0 rfl ?_
  conv => whnf
  refine yt 1 rfl ?_
  conv => whnf
  refine yt 2 rfl ?_
  conv => whnf
  refine yt 3 rfl ?_
  conv => whnf
  refine yt 4 rfl ?_
  conv => whnf
  refine yt 5 rfl ?_
  conv => whnf
  refine yt 6 rfl ?_
  (conv => whnf);(repeat' ((first|refine zA ?_|(refine zI ?_ ?_<;> intro hh<;> first|(exfalso;omega)|skip)|(refine zl ?_ ?_<;> intro hh)|refine zq ?_|refine zv ?_|refine zu ?_|exact Sy.fin_val fun e=>rfl);(try conv => whnf)))
  refine yt 7 rfl ?_
  (conv => whnf);(repeat' ((first|refine zA ?_|(refine zI ?_ ?_<;> intro hh<;> first|(exfalso;omega)|skip)|(refine zl ?_ ?_<;> intro hh)|refine zq ?_|refine zv ?_|refine zu ?_|exact Sy.fin_val fun e=>rfl);(try conv => whnf)))
  refine yt 9 rfl ?_
  conv => whnf
  refine yt 10 rfl ?_
  conv => whnf
  refine yt 11 rfl ?_
  conv => whnf
  refine yt 12 rfl ?_
  conv => whnf
  refine yt1 13 rfl ?_
  (conv => whnf);(repeat' ((first|refine zA ?_|(refine zI ?_ ?_<;> intro hh<;> first|(exfalso;omega)|skip)|(refine zl ?_ ?_<;> intro hh)|refine zq ?_|refine zv ?_|refine zu ?_|exact Sy.fin_val fun e=>rfl);(try conv => whnf)))
  refine yt1 14 rfl ?_
  (conv => whnf);(repeat' ((first|refine zA ?_|(refine zI ?_ ?_<;> intro hh<;> first|(exfalso;omega)|skip)|(refine zl ?_ ?_<;> intro hh)|refine zq ?_|refine zv ?_|refine zu ?_|exact Sy.fin_val fun e=>rfl);(try conv => whnf)))
  focus
    refine yd1 [8, 15] (zx rfl ?_ (zx rfl ?_ zy))
    focus
      conv => whnf
      refine Sy.sli_eq 0 m rfl hmin ⟨by omega, by omega⟩ ?_
      conv => whnf
      refine ⟨(by repeat' ((conv => whnf);first|exact trivial|(refine And.intro ?_ ?_)|rfl)), ?_⟩
      refine yt1 16 rfl ?_
      conv => whnf
      refine yt 17 rfl ?_
      conv => whnf
      focus
        refine yd1 [15, 18] (zx rfl ?_ (zx rfl ?_ zy))
        focus
          conv => whnf
          refine Sy.sli_eq 0 k rfl hkin ⟨by omega, by omega⟩ ?_
          conv => whnf
          refine ⟨(by repeat' ((conv => whnf);first|exact trivial|(refine And.intro ?_ ?_)|rfl)), ?_⟩
          refine yd1 [18] (zx rfl ?_ zy)
          conv => whnf
          refine ⟨(by repeat' ((conv => whnf);first|exact trivial|(refine And.intro ?_ ?_)|rfl)), ?_⟩
          refine yt1 19 rfl ?_
          conv => whnf
          refine yd1 [20] (zx rfl ?_ zy)
          conv => whnf
          refine ⟨(by repeat' ((conv => whnf);first|exact trivial|(refine And.intro ?_ ?_)|rfl)), ?_⟩
          refine yw ?_
          skip
        rotate_right
        focus
          conv => whnf
          refine ⟨(by repeat' ((conv => whnf);first|exact trivial|(refine And.intro ?_ ?_)|rfl)), ?_⟩
          refine yd1 [15] (zx rfl ?_ zy)
          conv => whnf
          refine Sy.sli_eq 0 k rfl hkin ⟨by omega, by omega⟩ ?_
          conv => whnf
          refine ⟨(by repeat' ((conv => whnf);first|exact trivial|(refine And.intro ?_ ?_)|rfl)), ?_⟩
          refine yt1 19 rfl ?_
          conv => whnf
          refine yd1 [20] (zx rfl ?_ zy)
          conv => whnf
          refine ⟨(by repeat' ((conv => whnf);first|exact trivial|(refine And.intro ?_ ?_)|rfl)), ?_⟩
          refine yw ?_
          skip
    rotate_right
    focus
      conv => whnf
      refine Sy.sli_eq 0 k rfl hkin ⟨by omega, by omega⟩ ?_
      conv => whnf
      refine ⟨(by repeat' ((conv => whnf);first|exact trivial|(refine And.intro ?_ ?_)|rfl)), ?_⟩
      refine yd1 [8] (zx rfl ?_ zy)
      conv => whnf
      refine Sy.sli_eq 0 m rfl hmin ⟨by omega, by omega⟩ ?_
      conv => whnf
      refine ⟨(by repeat' ((conv => whnf);first|exact trivial|(refine And.intro ?_ ?_)|rfl)), ?_⟩
      refine yt1 16 rfl ?_
      conv => whnf
      refine yt 17 rfl ?_
      conv => whnf
      refine yd1 [18] (zx rfl ?_ zy)
      conv => whnf
      refine ⟨(by repeat' ((conv => whnf);first|exact trivial|(refine And.intro ?_ ?_)|rfl)), ?_⟩
      refine yt1 19 rfl ?_
      conv => whnf
      refine yd1 [20] (zx rfl ?_ zy)
      conv => whnf
      refine ⟨(by repeat' ((conv => whnf);first|exact trivial|(refine And.intro ?_ ?_)|rfl)), ?_⟩
      refine yw ?_
      skip
  all_goals (((repeat' ((conv => whnf);(first|refine zA ?_|(refine zI ?_ ?_<;> intro hh<;> first|(exfalso;omega)|skip)|(refine zl ?_ ?_<;> intro hh)|refine zq ?_|refine zv ?_|refine zu ?_|exact Sy.fin_val fun e=>rfl)));(all_goals (try conv => whnf))))
  · rw [e1, e2, ← l1, ← l2]
    refine Sy.call_r2f (v := fun _ vs => retA ⟨op, idx, wid, fin, rows.take 257, o, txs.take 25⟩ vs) ⟨46, 4, (rows.take 257).length, (rows.take 257).map encK⟩ ⟨80, 3, (txs.take 25).length, (txs.take 25).map encT⟩ (fun k => .agg [.v (.int .i64 op), .v (.int .i64 idx), .v (.int .i64 wid), .v (.bool fin), .row k, .v (.int .i64 (o 0)), .v (.int .i64 (o 1)), .v (.int .i64 (o 2)), .v (.int .i64 (o 3)), .v (.int .i64 (o 4)), .v (.int .i64 (o 5)), .v (.int .i64 (o 6)), .v (.int .i64 (o 7)), .row (k + 1)]) Tryz.call16 (fun e a w' h => rcopy_any ⟨⟨op, idx, wid, fin, rows.take 257, o, txs.take 25⟩, e.rv 5, e.rv 4⟩ w' ⟨Sy.row_reads h (.inr rfl), Sy.row_reads h (.inr rfl)⟩ (by show (rows.take 257).length ≤ _; omega) (by show (txs.take 25).length ≤ _; omega)) ?_
    ((repeat' ((conv => whnf);(first|refine zA ?_|(refine zI ?_ ?_<;> intro hh<;> first|(exfalso;omega)|skip)|(refine zl ?_ ?_<;> intro hh)|refine zq ?_|refine zv ?_|refine zu ?_|exact Sy.fin_val fun e=>rfl)));(all_goals (try conv => whnf)))
    exact Sy.fin_r2 (.row 6) (.row 7) rfl rfl (by decide) (fun e => rfl)
  · rw [e1, e2, ← l1, ← l2]
    refine Sy.call_r2f (v := fun _ vs => retA ⟨op, idx, wid, fin, rows.take 257, o, txs.take 25⟩ vs) ⟨46, 4, (rows.take 257).length, (rows.take 257).map encK⟩ ⟨80, 3, (txs.take 25).length, (txs.take 25).map encT⟩ (fun k => .agg [.v (.int .i64 op), .v (.int .i64 idx), .v (.int .i64 wid), .v (.bool fin), .row k, .v (.int .i64 (o 0)), .v (.int .i64 (o 1)), .v (.int .i64 (o 2)), .v (.int .i64 (o 3)), .v (.int .i64 (o 4)), .v (.int .i64 (o 5)), .v (.int .i64 (o 6)), .v (.int .i64 (o 7)), .row (k + 1)]) Tryz.call16 (fun e a w' h => rcopy_any ⟨⟨op, idx, wid, fin, rows.take 257, o, txs.take 25⟩, e.rv 4, e.rv 5⟩ w' ⟨Sy.row_reads h (.inr rfl), Sy.row_reads h (.inr rfl)⟩ (by show (rows.take 257).length ≤ _; omega) (by show (txs.take 25).length ≤ _; omega)) ?_
    ((repeat' ((conv => whnf);(first|refine zA ?_|(refine zI ?_ ?_<;> intro hh<;> first|(exfalso;omega)|skip)|(refine zl ?_ ?_<;> intro hh)|refine zq ?_|refine zv ?_|refine zu ?_|exact Sy.fin_val fun e=>rfl)));(all_goals (try conv => whnf)))
    exact Sy.fin_r2 (.row 6) (.row 7) rfl rfl (by decide) (fun e => rfl)
  · rw [e1, e2, ← l1, ← l2]
    refine Sy.call_r2f (v := fun _ vs => retA ⟨op, idx, wid, fin, rows.take 257, o, txs.take 25⟩ vs) ⟨46, 4, (rows.take 257).length, (rows.take 257).map encK⟩ ⟨80, 3, (txs.take 25).length, (txs.take 25).map encT⟩ (fun k => .agg [.v (.int .i64 op), .v (.int .i64 idx), .v (.int .i64 wid), .v (.bool fin), .row k, .v (.int .i64 (o 0)), .v (.int .i64 (o 1)), .v (.int .i64 (o 2)), .v (.int .i64 (o 3)), .v (.int .i64 (o 4)), .v (.int .i64 (o 5)), .v (.int .i64 (o 6)), .v (.int .i64 (o 7)), .row (k + 1)]) Tryz.call16 (fun e a w' h => rcopy_any ⟨⟨op, idx, wid, fin, rows.take 257, o, txs.take 25⟩, e.rv 4, e.rv 5⟩ w' ⟨Sy.row_reads h (.inr rfl), Sy.row_reads h (.inr rfl)⟩ (by show (rows.take 257).length ≤ _; omega) (by show (txs.take 25).length ≤ _; omega)) ?_
    ((repeat' ((conv => whnf);(first|refine zA ?_|(refine zI ?_ ?_<;> intro hh<;> first|(exfalso;omega)|skip)|(refine zl ?_ ?_<;> intro hh)|refine zq ?_|refine zv ?_|refine zu ?_|exact Sy.fin_val fun e=>rfl)));(all_goals (try conv => whnf)))
    exact Sy.fin_r2 (.row 6) (.row 7) rfl rfl (by decide) (fun e => rfl)
end Go.Proofs.YtmahldelmbhjfaaGreat.Sn
