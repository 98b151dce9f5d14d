/- Snap: the law Part. -/
import Derived.Test.YtmahldelmbhjfaaSnX
import Derived.Test.YtmahldelmbhjfaaSnW
import Derived.Test.YtmahldelmbhjfaaSnQ
namespace Go.Proofs.Ytmahldelmbhjfaa
open Go Go.RowKit
open Sy (C SV V1 Blk St XD Els)
set_option maxRecDepth 10000

theorem partV_txs (s : Sn) (i n : Int) : (partV s i n).txs = [] := by unfold partV; split <;> rfl
theorem partV_len (s : Sn) (i n : Int) : (partV s i n).rows.length ≤ s.rows.length := by
  unfold partV
  split
  · exact partR_len _ _ _
  · exact Nat.zero_le _
attribute [local irreducible] ownW tblB namesB rightP partV partE
set_option maxHeartbeats 8000000 in
theorem lpart_any (s : SnV) (v : Value) (l : List Shr) (w : World) (hr : SOk (fun b => b < w.heap.size) w s) (hv : XD.ok (fun b => b < w.heap.size) w ⟨v, 3, l.length, l.map encH⟩) :
    Calls Try.prog 4 #[.agg (encS s).toArray, v] w (Sy.Ret (.bool true) w) := by
  have hl := ok_len hv
  obtain ⟨⟨op, idx, wid, fin, rows, o, txs⟩, u, t⟩ := s
  refine Sy.calls_of Sy.lv4 Sy.tab_ok Try.func4 rfl _ Try.ntmps4 [⟨u, 4, rows.length, rows.map encK⟩, ⟨t, 3, txs.length, txs.map encT⟩, ⟨v, 3, l.length, l.map encH⟩] [.agg [.v (.int .i64 op), .v (.int .i64 idx), .v (.int .i64 wid), .v (.bool fin), .row 0, .v (.int .i64 (o 0)), .v (.int .i64 (o 1)), .v (.int .i64 (o 2)), .v (.int .i64 (o 3)), .v (.int .i64 (o 4)), .v (.int .i64 (o 5)), .v (.int .i64 (o 6)), .v (.int .i64 (o 7)), .row 1], .c (.row 2)] rfl rfl rfl ⟨hr.rows, hr.txs, hv, trivial⟩ ?_
  obtain ⟨K, hK⟩ : ∃ K, K = rows.take 257 := ⟨_, rfl⟩
  obtain ⟨T, hT⟩ : ∃ T, T = txs.take 25 := ⟨_, rfl⟩
  ((repeat' ((conv => whnf);(first|refine zA ?_|(refine zI ?_ ?_<;> intro hh<;> first|(exfalso;omega)|skip)|(refine zl ?_ ?_<;> intro hh)|refine zq ?_|refine zv ?_|refine zu ?_|exact Sy.fin_val fun e=>rfl)));(all_goals (try conv => whnf)))
  refine Sy.call_val (.c (.v (.bool true))) Try.call10 rfl (fun e a w' h => wakes_any w') ?_
  ((repeat' ((conv => whnf);(first|refine zA ?_|(refine zI ?_ ?_<;> intro hh<;> first|(exfalso;omega)|skip)|(refine zl ?_ ?_<;> intro hh)|refine zq ?_|refine zv ?_|refine zu ?_|exact Sy.fin_val fun e=>rfl)));(all_goals (try conv => whnf)))
  refine Sy.meet1 4 [.row 73 4 K.length (.vs (K.map encK)), .row 89 3 T.length (.vs (T.map encT)), .row 73 4 K.length (.vs (K.map encK)), .row 89 3 T.length (.vs (T.map encT)),
    .cells 33 [.v (.int .i64 op), .v (.int .i64 idx), .v (.int .i64 wid), .v (.bool fin), .row 4, .v (.int .i64 (o 0)), .v (.int .i64 (o 1)), .v (.int .i64 (o 2)), .v (.int .i64 (o 3)), .v (.int .i64 (o 4)), .v (.int .i64 (o 5)), .v (.int .i64 (o 6)), .v (.int .i64 (o 7)), .row 5],
    .cells 33 [.v (.int .i64 op), .v (.int .i64 idx), .v (.int .i64 wid), .v (.bool fin), .row 6, .v (.int .i64 (o 0)), .v (.int .i64 (o 1)), .v (.int .i64 (o 2)), .v (.int .i64 (o 3)), .v (.int .i64 (o 4)), .v (.int .i64 (o 5)), .v (.int .i64 (o 6)), .v (.int .i64 (o 7)), .row 7]] [(5, .c (.loc 8 0)), (6, .c (.loc 9 0))] [] Sy.tab_ok rfl ?_ ?_
  · refine Sy.draw_go [] (by kernel_rfl) ?_
    intro e0
    conv => whnf
    refine zt 0 rfl ?_
    conv => whnf
    refine zt 2 rfl ?_
    conv => whnf
    focus
      refine zd1 [1, 4, 5] (zx rfl ?_ (zx rfl ?_ (zx rfl ?_ zy)))
      focus
        conv => whnf
        refine Sy.call_r2f (v := fun _ vs => retA ⟨op, idx, wid, fin, K, o, T⟩ vs) ⟨73, 4, K.length, K.map encK⟩ ⟨89, 3, T.length, T.map encT⟩ (fun k => .agg [.v (.int .i64 op), .v (.int .i64 idx), .v (.int .i64 wid), .v (.bool fin), .row k, .v (.int .i64 (o 0)), .v (.int .i64 (o 1)), .v (.int .i64 (o 2)), .v (.int .i64 (o 3)), .v (.int .i64 (o 4)), .v (.int .i64 (o 5)), .v (.int .i64 (o 6)), .v (.int .i64 (o 7)), .row (k + 1)]) Try.call14 (fun e a w' h => by rw [hK, hT]; exact short_any ⟨⟨op, idx, wid, fin, rows, o, txs⟩, e.rv 0, e.rv 1⟩ w' ⟨Sy.row_reads h (.inr rfl), Sy.row_reads h (.inr rfl)⟩) ?_
        conv => whnf
        refine ⟨(by repeat' ((conv => whnf);first|exact trivial|(refine And.intro ?_ ?_)|rfl)), ?_⟩
        focus
          refine zd1 [3, 4, 5] (zx rfl ?_ (zx rfl ?_ (zx rfl ?_ zy)))
          focus
            conv => whnf
            refine Sy.call_r2f (v := fun _ vs => retA ⟨op, idx, wid, fin, K, o, T⟩ vs) ⟨73, 4, K.length, K.map encK⟩ ⟨89, 3, T.length, T.map encT⟩ (fun k => .agg [.v (.int .i64 op), .v (.int .i64 idx), .v (.int .i64 wid), .v (.bool fin), .row k, .v (.int .i64 (o 0)), .v (.int .i64 (o 1)), .v (.int .i64 (o 2)), .v (.int .i64 (o 3)), .v (.int .i64 (o 4)), .v (.int .i64 (o 5)), .v (.int .i64 (o 6)), .v (.int .i64 (o 7)), .row (k + 1)]) Try.call14 (fun e a w' h => by rw [hK, hT]; exact short_any ⟨⟨op, idx, wid, fin, rows, o, txs⟩, e.rv 0, e.rv 1⟩ w' ⟨Sy.row_reads h (.inr rfl), Sy.row_reads h (.inr rfl)⟩) ?_
            conv => whnf
            refine ⟨(by repeat' ((conv => whnf);first|exact trivial|(refine And.intro ?_ ?_)|rfl)), ?_⟩
            focus
              refine zd1 [4, 5] (zx rfl ?_ (zx rfl ?_ zy))
              focus
                conv => whnf
                refine ⟨(by repeat' ((conv => whnf);first|exact trivial|(refine And.intro ?_ ?_)|rfl)), ?_⟩
                refine zd1 [5] (zx rfl ?_ zy)
                conv => whnf
                refine ⟨(by repeat' ((conv => whnf);first|exact trivial|(refine And.intro ?_ ?_)|rfl)), ?_⟩
                refine zd1 [6] (zx rfl ?_ zy)
                conv => whnf
                refine ⟨(by repeat' ((conv => whnf);first|exact trivial|(refine And.intro ?_ ?_)|rfl)), ?_⟩
                refine zd1 [7] (zx rfl ?_ zy)
                conv => whnf
                refine ⟨(by repeat' ((conv => whnf);first|exact trivial|(refine And.intro ?_ ?_)|rfl)), ?_⟩
                refine zw ?_
                skip
              rotate_right
              focus
                conv => whnf
                refine ⟨(by repeat' ((conv => whnf);first|exact trivial|(refine And.intro ?_ ?_)|rfl)), ?_⟩
                refine zd1 [4] (zx rfl ?_ zy)
                conv => whnf
                refine ⟨(by repeat' ((conv => whnf);first|exact trivial|(refine And.intro ?_ ?_)|rfl)), ?_⟩
                refine zd1 [6] (zx rfl ?_ zy)
                conv => whnf
                refine ⟨(by repeat' ((conv => whnf);first|exact trivial|(refine And.intro ?_ ?_)|rfl)), ?_⟩
                refine zd1 [7] (zx rfl ?_ zy)
                conv => whnf
                refine ⟨(by repeat' ((conv => whnf);first|exact trivial|(refine And.intro ?_ ?_)|rfl)), ?_⟩
                refine zw ?_
                skip
          rotate_right
          focus
            conv => whnf
            refine ⟨(by repeat' ((conv => whnf);first|exact trivial|(refine And.intro ?_ ?_)|rfl)), ?_⟩
            focus
              refine zd1 [3, 4] (zx rfl ?_ (zx rfl ?_ zy))
              focus
                conv => whnf
                refine Sy.call_r2f (v := fun _ vs => retA ⟨op, idx, wid, fin, K, o, T⟩ vs) ⟨73, 4, K.length, K.map encK⟩ ⟨89, 3, T.length, T.map encT⟩ (fun k => .agg [.v (.int .i64 op), .v (.int .i64 idx), .v (.int .i64 wid), .v (.bool fin), .row k, .v (.int .i64 (o 0)), .v (.int .i64 (o 1)), .v (.int .i64 (o 2)), .v (.int .i64 (o 3)), .v (.int .i64 (o 4)), .v (.int .i64 (o 5)), .v (.int .i64 (o 6)), .v (.int .i64 (o 7)), .row (k + 1)]) Try.call14 (fun e a w' h => by rw [hK, hT]; exact short_any ⟨⟨op, idx, wid, fin, rows, o, txs⟩, e.rv 0, e.rv 1⟩ w' ⟨Sy.row_reads h (.inr rfl), Sy.row_reads h (.inr rfl)⟩) ?_
                conv => whnf
                refine ⟨(by repeat' ((conv => whnf);first|exact trivial|(refine And.intro ?_ ?_)|rfl)), ?_⟩
                refine zd1 [4] (zx rfl ?_ zy)
                conv => whnf
                refine ⟨(by repeat' ((conv => whnf);first|exact trivial|(refine And.intro ?_ ?_)|rfl)), ?_⟩
                refine zd1 [6] (zx rfl ?_ zy)
                conv => whnf
                refine ⟨(by repeat' ((conv => whnf);first|exact trivial|(refine And.intro ?_ ?_)|rfl)), ?_⟩
                refine zd1 [7] (zx rfl ?_ zy)
                conv => whnf
                refine ⟨(by repeat' ((conv => whnf);first|exact trivial|(refine And.intro ?_ ?_)|rfl)), ?_⟩
                refine zw ?_
                skip
              rotate_right
              focus
                conv => whnf
                refine ⟨(by repeat' ((conv => whnf);first|exact trivial|(refine And.intro ?_ ?_)|rfl)), ?_⟩
                refine zd1 [3] (zx rfl ?_ zy)
                conv => whnf
                refine Sy.call_r2f (v := fun _ vs => retA ⟨op, idx, wid, fin, K, o, T⟩ vs) ⟨73, 4, K.length, K.map encK⟩ ⟨89, 3, T.length, T.map encT⟩ (fun k => .agg [.v (.int .i64 op), .v (.int .i64 idx), .v (.int .i64 wid), .v (.bool fin), .row k, .v (.int .i64 (o 0)), .v (.int .i64 (o 1)), .v (.int .i64 (o 2)), .v (.int .i64 (o 3)), .v (.int .i64 (o 4)), .v (.int .i64 (o 5)), .v (.int .i64 (o 6)), .v (.int .i64 (o 7)), .row (k + 1)]) Try.call14 (fun e a w' h => by rw [hK, hT]; exact short_any ⟨⟨op, idx, wid, fin, rows, o, txs⟩, e.rv 0, e.rv 1⟩ w' ⟨Sy.row_reads h (.inr rfl), Sy.row_reads h (.inr rfl)⟩) ?_
                conv => whnf
                refine ⟨(by repeat' ((conv => whnf);first|exact trivial|(refine And.intro ?_ ?_)|rfl)), ?_⟩
                refine zd1 [6] (zx rfl ?_ zy)
                conv => whnf
                refine ⟨(by repeat' ((conv => whnf);first|exact trivial|(refine And.intro ?_ ?_)|rfl)), ?_⟩
                refine zd1 [7] (zx rfl ?_ zy)
                conv => whnf
                refine ⟨(by repeat' ((conv => whnf);first|exact trivial|(refine And.intro ?_ ?_)|rfl)), ?_⟩
                refine zw ?_
                skip
          rotate_right
          focus
            conv => whnf
            refine ⟨(by repeat' ((conv => whnf);first|exact trivial|(refine And.intro ?_ ?_)|rfl)), ?_⟩
            focus
              refine zd1 [3, 5] (zx rfl ?_ (zx rfl ?_ zy))
              focus
                conv => whnf
                refine Sy.call_r2f (v := fun _ vs => retA ⟨op, idx, wid, fin, K, o, T⟩ vs) ⟨73, 4, K.length, K.map encK⟩ ⟨89, 3, T.length, T.map encT⟩ (fun k => .agg [.v (.int .i64 op), .v (.int .i64 idx), .v (.int .i64 wid), .v (.bool fin), .row k, .v (.int .i64 (o 0)), .v (.int .i64 (o 1)), .v (.int .i64 (o 2)), .v (.int .i64 (o 3)), .v (.int .i64 (o 4)), .v (.int .i64 (o 5)), .v (.int .i64 (o 6)), .v (.int .i64 (o 7)), .row (k + 1)]) Try.call14 (fun e a w' h => by rw [hK, hT]; exact short_any ⟨⟨op, idx, wid, fin, rows, o, txs⟩, e.rv 0, e.rv 1⟩ w' ⟨Sy.row_reads h (.inr rfl), Sy.row_reads h (.inr rfl)⟩) ?_
                conv => whnf
                refine ⟨(by repeat' ((conv => whnf);first|exact trivial|(refine And.intro ?_ ?_)|rfl)), ?_⟩
                refine zd1 [5] (zx rfl ?_ zy)
                conv => whnf
                refine ⟨(by repeat' ((conv => whnf);first|exact trivial|(refine And.intro ?_ ?_)|rfl)), ?_⟩
                refine zd1 [6] (zx rfl ?_ zy)
                conv => whnf
                refine ⟨(by repeat' ((conv => whnf);first|exact trivial|(refine And.intro ?_ ?_)|rfl)), ?_⟩
                refine zd1 [7] (zx rfl ?_ zy)
                conv => whnf
                refine ⟨(by repeat' ((conv => whnf);first|exact trivial|(refine And.intro ?_ ?_)|rfl)), ?_⟩
                refine zw ?_
                skip
              rotate_right
              focus
                conv => whnf
                refine ⟨(by repeat' ((conv => whnf);first|exact trivial|(refine And.intro ?_ ?_)|rfl)), ?_⟩
                refine zd1 [3] (zx rfl ?_ zy)
                conv => whnf
                refine Sy.call_r2f (v := fun _ vs => retA ⟨op, idx, wid, fin, K, o, T⟩ vs) ⟨73, 4, K.length, K.map encK⟩ ⟨89, 3, T.length, T.map encT⟩ (fun k => .agg [.v (.int .i64 op), .v (.int .i64 idx), .v (.int .i64 wid), .v (.bool fin), .row k, .v (.int .i64 (o 0)), .v (.int .i64 (o 1)), .v (.int .i64 (o 2)), .v (.int .i64 (o 3)), .v (.int .i64 (o 4)), .v (.int .i64 (o 5)), .v (.int .i64 (o 6)), .v (.int .i64 (o 7)), .row (k + 1)]) Try.call14 (fun e a w' h => by rw [hK, hT]; exact short_any ⟨⟨op, idx, wid, fin, rows, o, txs⟩, e.rv 0, e.rv 1⟩ w' ⟨Sy.row_reads h (.inr rfl), Sy.row_reads h (.inr rfl)⟩) ?_
                conv => whnf
                refine ⟨(by repeat' ((conv => whnf);first|exact trivial|(refine And.intro ?_ ?_)|rfl)), ?_⟩
                refine zd1 [6] (zx rfl ?_ zy)
                conv => whnf
                refine ⟨(by repeat' ((conv => whnf);first|exact trivial|(refine And.intro ?_ ?_)|rfl)), ?_⟩
                refine zd1 [7] (zx rfl ?_ zy)
                conv => whnf
                refine ⟨(by repeat' ((conv => whnf);first|exact trivial|(refine And.intro ?_ ?_)|rfl)), ?_⟩
                refine zw ?_
                skip
      rotate_right
      focus
        conv => whnf
        refine ⟨(by repeat' ((conv => whnf);first|exact trivial|(refine And.intro ?_ ?_)|rfl)), ?_⟩
        focus
          refine zd1 [1, 4] (zx rfl ?_ (zx rfl ?_ zy))
          focus
            conv => whnf
            refine Sy.call_r2f (v := fun _ vs => retA ⟨op, idx, wid, fin, K, o, T⟩ vs) ⟨73, 4, K.length, K.map encK⟩ ⟨89, 3, T.length, T.map encT⟩ (fun k => .agg [.v (.int .i64 op), .v (.int .i64 idx), .v (.int .i64 wid), .v (.bool fin), .row k, .v (.int .i64 (o 0)), .v (.int .i64 (o 1)), .v (.int .i64 (o 2)), .v (.int .i64 (o 3)), .v (.int .i64 (o 4)), .v (.int .i64 (o 5)), .v (.int .i64 (o 6)), .v (.int .i64 (o 7)), .row (k + 1)]) Try.call14 (fun e a w' h => by rw [hK, hT]; exact short_any ⟨⟨op, idx, wid, fin, rows, o, txs⟩, e.rv 0, e.rv 1⟩ w' ⟨Sy.row_reads h (.inr rfl), Sy.row_reads h (.inr rfl)⟩) ?_
            conv => whnf
            refine ⟨(by repeat' ((conv => whnf);first|exact trivial|(refine And.intro ?_ ?_)|rfl)), ?_⟩
            focus
              refine zd1 [3, 4] (zx rfl ?_ (zx rfl ?_ zy))
              focus
                conv => whnf
                refine Sy.call_r2f (v := fun _ vs => retA ⟨op, idx, wid, fin, K, o, T⟩ vs) ⟨73, 4, K.length, K.map encK⟩ ⟨89, 3, T.length, T.map encT⟩ (fun k => .agg [.v (.int .i64 op), .v (.int .i64 idx), .v (.int .i64 wid), .v (.bool fin), .row k, .v (.int .i64 (o 0)), .v (.int .i64 (o 1)), .v (.int .i64 (o 2)), .v (.int .i64 (o 3)), .v (.int .i64 (o 4)), .v (.int .i64 (o 5)), .v (.int .i64 (o 6)), .v (.int .i64 (o 7)), .row (k + 1)]) Try.call14 (fun e a w' h => by rw [hK, hT]; exact short_any ⟨⟨op, idx, wid, fin, rows, o, txs⟩, e.rv 0, e.rv 1⟩ w' ⟨Sy.row_reads h (.inr rfl), Sy.row_reads h (.inr rfl)⟩) ?_
                conv => whnf
                refine ⟨(by repeat' ((conv => whnf);first|exact trivial|(refine And.intro ?_ ?_)|rfl)), ?_⟩
                refine zd1 [4] (zx rfl ?_ zy)
                conv => whnf
                refine ⟨(by repeat' ((conv => whnf);first|exact trivial|(refine And.intro ?_ ?_)|rfl)), ?_⟩
                refine zd1 [6] (zx rfl ?_ zy)
                conv => whnf
                refine ⟨(by repeat' ((conv => whnf);first|exact trivial|(refine And.intro ?_ ?_)|rfl)), ?_⟩
                refine zd1 [7] (zx rfl ?_ zy)
                conv => whnf
                refine ⟨(by repeat' ((conv => whnf);first|exact trivial|(refine And.intro ?_ ?_)|rfl)), ?_⟩
                refine zw ?_
                skip
              rotate_right
              focus
                conv => whnf
                refine ⟨(by repeat' ((conv => whnf);first|exact trivial|(refine And.intro ?_ ?_)|rfl)), ?_⟩
                refine zd1 [3] (zx rfl ?_ zy)
                conv => whnf
                refine Sy.call_r2f (v := fun _ vs => retA ⟨op, idx, wid, fin, K, o, T⟩ vs) ⟨73, 4, K.length, K.map encK⟩ ⟨89, 3, T.length, T.map encT⟩ (fun k => .agg [.v (.int .i64 op), .v (.int .i64 idx), .v (.int .i64 wid), .v (.bool fin), .row k, .v (.int .i64 (o 0)), .v (.int .i64 (o 1)), .v (.int .i64 (o 2)), .v (.int .i64 (o 3)), .v (.int .i64 (o 4)), .v (.int .i64 (o 5)), .v (.int .i64 (o 6)), .v (.int .i64 (o 7)), .row (k + 1)]) Try.call14 (fun e a w' h => by rw [hK, hT]; exact short_any ⟨⟨op, idx, wid, fin, rows, o, txs⟩, e.rv 0, e.rv 1⟩ w' ⟨Sy.row_reads h (.inr rfl), Sy.row_reads h (.inr rfl)⟩) ?_
                conv => whnf
                refine ⟨(by repeat' ((conv => whnf);first|exact trivial|(refine And.intro ?_ ?_)|rfl)), ?_⟩
                refine zd1 [6] (zx rfl ?_ zy)
                conv => whnf
                refine ⟨(by repeat' ((conv => whnf);first|exact trivial|(refine And.intro ?_ ?_)|rfl)), ?_⟩
                refine zd1 [7] (zx rfl ?_ zy)
                conv => whnf
                refine ⟨(by repeat' ((conv => whnf);first|exact trivial|(refine And.intro ?_ ?_)|rfl)), ?_⟩
                refine zw ?_
                skip
          rotate_right
          focus
            conv => whnf
            refine ⟨(by repeat' ((conv => whnf);first|exact trivial|(refine And.intro ?_ ?_)|rfl)), ?_⟩
            refine zd1 [1] (zx rfl ?_ zy)
            conv => whnf
            refine Sy.call_r2f (v := fun _ vs => retA ⟨op, idx, wid, fin, K, o, T⟩ vs) ⟨73, 4, K.length, K.map encK⟩ ⟨89, 3, T.length, T.map encT⟩ (fun k => .agg [.v (.int .i64 op), .v (.int .i64 idx), .v (.int .i64 wid), .v (.bool fin), .row k, .v (.int .i64 (o 0)), .v (.int .i64 (o 1)), .v (.int .i64 (o 2)), .v (.int .i64 (o 3)), .v (.int .i64 (o 4)), .v (.int .i64 (o 5)), .v (.int .i64 (o 6)), .v (.int .i64 (o 7)), .row (k + 1)]) Try.call14 (fun e a w' h => by rw [hK, hT]; exact short_any ⟨⟨op, idx, wid, fin, rows, o, txs⟩, e.rv 0, e.rv 1⟩ w' ⟨Sy.row_reads h (.inr rfl), Sy.row_reads h (.inr rfl)⟩) ?_
            conv => whnf
            refine ⟨(by repeat' ((conv => whnf);first|exact trivial|(refine And.intro ?_ ?_)|rfl)), ?_⟩
            refine zd1 [3] (zx rfl ?_ zy)
            conv => whnf
            refine Sy.call_r2f (v := fun _ vs => retA ⟨op, idx, wid, fin, K, o, T⟩ vs) ⟨73, 4, K.length, K.map encK⟩ ⟨89, 3, T.length, T.map encT⟩ (fun k => .agg [.v (.int .i64 op), .v (.int .i64 idx), .v (.int .i64 wid), .v (.bool fin), .row k, .v (.int .i64 (o 0)), .v (.int .i64 (o 1)), .v (.int .i64 (o 2)), .v (.int .i64 (o 3)), .v (.int .i64 (o 4)), .v (.int .i64 (o 5)), .v (.int .i64 (o 6)), .v (.int .i64 (o 7)), .row (k + 1)]) Try.call14 (fun e a w' h => by rw [hK, hT]; exact short_any ⟨⟨op, idx, wid, fin, rows, o, txs⟩, e.rv 0, e.rv 1⟩ w' ⟨Sy.row_reads h (.inr rfl), Sy.row_reads h (.inr rfl)⟩) ?_
            conv => whnf
            refine ⟨(by repeat' ((conv => whnf);first|exact trivial|(refine And.intro ?_ ?_)|rfl)), ?_⟩
            refine zd1 [6] (zx rfl ?_ zy)
            conv => whnf
            refine ⟨(by repeat' ((conv => whnf);first|exact trivial|(refine And.intro ?_ ?_)|rfl)), ?_⟩
            refine zd1 [7] (zx rfl ?_ zy)
            conv => whnf
            refine ⟨(by repeat' ((conv => whnf);first|exact trivial|(refine And.intro ?_ ?_)|rfl)), ?_⟩
            refine zw ?_
            skip
      rotate_right
      focus
        conv => whnf
        refine ⟨(by repeat' ((conv => whnf);first|exact trivial|(refine And.intro ?_ ?_)|rfl)), ?_⟩
        focus
          refine zd1 [1, 5] (zx rfl ?_ (zx rfl ?_ zy))
          focus
            conv => whnf
            refine Sy.call_r2f (v := fun _ vs => retA ⟨op, idx, wid, fin, K, o, T⟩ vs) ⟨73, 4, K.length, K.map encK⟩ ⟨89, 3, T.length, T.map encT⟩ (fun k => .agg [.v (.int .i64 op), .v (.int .i64 idx), .v (.int .i64 wid), .v (.bool fin), .row k, .v (.int .i64 (o 0)), .v (.int .i64 (o 1)), .v (.int .i64 (o 2)), .v (.int .i64 (o 3)), .v (.int .i64 (o 4)), .v (.int .i64 (o 5)), .v (.int .i64 (o 6)), .v (.int .i64 (o 7)), .row (k + 1)]) Try.call14 (fun e a w' h => by rw [hK, hT]; exact short_any ⟨⟨op, idx, wid, fin, rows, o, txs⟩, e.rv 0, e.rv 1⟩ w' ⟨Sy.row_reads h (.inr rfl), Sy.row_reads h (.inr rfl)⟩) ?_
            conv => whnf
            refine ⟨(by repeat' ((conv => whnf);first|exact trivial|(refine And.intro ?_ ?_)|rfl)), ?_⟩
            focus
              refine zd1 [3, 5] (zx rfl ?_ (zx rfl ?_ zy))
              focus
                conv => whnf
                refine Sy.call_r2f (v := fun _ vs => retA ⟨op, idx, wid, fin, K, o, T⟩ vs) ⟨73, 4, K.length, K.map encK⟩ ⟨89, 3, T.length, T.map encT⟩ (fun k => .agg [.v (.int .i64 op), .v (.int .i64 idx), .v (.int .i64 wid), .v (.bool fin), .row k, .v (.int .i64 (o 0)), .v (.int .i64 (o 1)), .v (.int .i64 (o 2)), .v (.int .i64 (o 3)), .v (.int .i64 (o 4)), .v (.int .i64 (o 5)), .v (.int .i64 (o 6)), .v (.int .i64 (o 7)), .row (k + 1)]) Try.call14 (fun e a w' h => by rw [hK, hT]; exact short_any ⟨⟨op, idx, wid, fin, rows, o, txs⟩, e.rv 0, e.rv 1⟩ w' ⟨Sy.row_reads h (.inr rfl), Sy.row_reads h (.inr rfl)⟩) ?_
                conv => whnf
                refine ⟨(by repeat' ((conv => whnf);first|exact trivial|(refine And.intro ?_ ?_)|rfl)), ?_⟩
                refine zd1 [5] (zx rfl ?_ zy)
                conv => whnf
                refine ⟨(by repeat' ((conv => whnf);first|exact trivial|(refine And.intro ?_ ?_)|rfl)), ?_⟩
                refine zd1 [6] (zx rfl ?_ zy)
                conv => whnf
                refine ⟨(by repeat' ((conv => whnf);first|exact trivial|(refine And.intro ?_ ?_)|rfl)), ?_⟩
                refine zd1 [7] (zx rfl ?_ zy)
                conv => whnf
                refine ⟨(by repeat' ((conv => whnf);first|exact trivial|(refine And.intro ?_ ?_)|rfl)), ?_⟩
                refine zw ?_
                skip
              rotate_right
              focus
                conv => whnf
                refine ⟨(by repeat' ((conv => whnf);first|exact trivial|(refine And.intro ?_ ?_)|rfl)), ?_⟩
                refine zd1 [3] (zx rfl ?_ zy)
                conv => whnf
                refine Sy.call_r2f (v := fun _ vs => retA ⟨op, idx, wid, fin, K, o, T⟩ vs) ⟨73, 4, K.length, K.map encK⟩ ⟨89, 3, T.length, T.map encT⟩ (fun k => .agg [.v (.int .i64 op), .v (.int .i64 idx), .v (.int .i64 wid), .v (.bool fin), .row k, .v (.int .i64 (o 0)), .v (.int .i64 (o 1)), .v (.int .i64 (o 2)), .v (.int .i64 (o 3)), .v (.int .i64 (o 4)), .v (.int .i64 (o 5)), .v (.int .i64 (o 6)), .v (.int .i64 (o 7)), .row (k + 1)]) Try.call14 (fun e a w' h => by rw [hK, hT]; exact short_any ⟨⟨op, idx, wid, fin, rows, o, txs⟩, e.rv 0, e.rv 1⟩ w' ⟨Sy.row_reads h (.inr rfl), Sy.row_reads h (.inr rfl)⟩) ?_
                conv => whnf
                refine ⟨(by repeat' ((conv => whnf);first|exact trivial|(refine And.intro ?_ ?_)|rfl)), ?_⟩
                refine zd1 [6] (zx rfl ?_ zy)
                conv => whnf
                refine ⟨(by repeat' ((conv => whnf);first|exact trivial|(refine And.intro ?_ ?_)|rfl)), ?_⟩
                refine zd1 [7] (zx rfl ?_ zy)
                conv => whnf
                refine ⟨(by repeat' ((conv => whnf);first|exact trivial|(refine And.intro ?_ ?_)|rfl)), ?_⟩
                refine zw ?_
                skip
          rotate_right
          focus
            conv => whnf
            refine ⟨(by repeat' ((conv => whnf);first|exact trivial|(refine And.intro ?_ ?_)|rfl)), ?_⟩
            refine zd1 [1] (zx rfl ?_ zy)
            conv => whnf
            refine Sy.call_r2f (v := fun _ vs => retA ⟨op, idx, wid, fin, K, o, T⟩ vs) ⟨73, 4, K.length, K.map encK⟩ ⟨89, 3, T.length, T.map encT⟩ (fun k => .agg [.v (.int .i64 op), .v (.int .i64 idx), .v (.int .i64 wid), .v (.bool fin), .row k, .v (.int .i64 (o 0)), .v (.int .i64 (o 1)), .v (.int .i64 (o 2)), .v (.int .i64 (o 3)), .v (.int .i64 (o 4)), .v (.int .i64 (o 5)), .v (.int .i64 (o 6)), .v (.int .i64 (o 7)), .row (k + 1)]) Try.call14 (fun e a w' h => by rw [hK, hT]; exact short_any ⟨⟨op, idx, wid, fin, rows, o, txs⟩, e.rv 0, e.rv 1⟩ w' ⟨Sy.row_reads h (.inr rfl), Sy.row_reads h (.inr rfl)⟩) ?_
            conv => whnf
            refine ⟨(by repeat' ((conv => whnf);first|exact trivial|(refine And.intro ?_ ?_)|rfl)), ?_⟩
            refine zd1 [3] (zx rfl ?_ zy)
            conv => whnf
            refine Sy.call_r2f (v := fun _ vs => retA ⟨op, idx, wid, fin, K, o, T⟩ vs) ⟨73, 4, K.length, K.map encK⟩ ⟨89, 3, T.length, T.map encT⟩ (fun k => .agg [.v (.int .i64 op), .v (.int .i64 idx), .v (.int .i64 wid), .v (.bool fin), .row k, .v (.int .i64 (o 0)), .v (.int .i64 (o 1)), .v (.int .i64 (o 2)), .v (.int .i64 (o 3)), .v (.int .i64 (o 4)), .v (.int .i64 (o 5)), .v (.int .i64 (o 6)), .v (.int .i64 (o 7)), .row (k + 1)]) Try.call14 (fun e a w' h => by rw [hK, hT]; exact short_any ⟨⟨op, idx, wid, fin, rows, o, txs⟩, e.rv 0, e.rv 1⟩ w' ⟨Sy.row_reads h (.inr rfl), Sy.row_reads h (.inr rfl)⟩) ?_
            conv => whnf
            refine ⟨(by repeat' ((conv => whnf);first|exact trivial|(refine And.intro ?_ ?_)|rfl)), ?_⟩
            refine zd1 [6] (zx rfl ?_ zy)
            conv => whnf
            refine ⟨(by repeat' ((conv => whnf);first|exact trivial|(refine And.intro ?_ ?_)|rfl)), ?_⟩
            refine zd1 [7] (zx rfl ?_ zy)
            conv => whnf
            refine ⟨(by repeat' ((conv => whnf);first|exact trivial|(refine And.intro ?_ ?_)|rfl)), ?_⟩
            refine zw ?_
            skip
    all_goals (((repeat' (first|((conv => whnf);done)|((try conv => whnf);first|exact trivial|(refine And.intro ?_ ?_)|rfl|exact fun _ _ _ h=>h|exact fun _ _ _ _=>trivial)));(all_goals (try conv => whnf))))
  · conv => whnf
    ((repeat' ((conv => whnf);(first|refine zA ?_|(refine zI ?_ ?_<;> intro hh<;> first|(exfalso;omega)|skip)|(refine zl ?_ ?_<;> intro hh)|refine zq ?_|refine zv ?_|refine zu ?_|exact Sy.fin_val fun e=>rfl)));(all_goals (try conv => whnf)))
    refine Sy.loop_inv Sy.tab_ok (fun n : Nat => [(21, .c (.v (.int .i64 n)))]) (fun _ => []) (fun n => n ≤ l.length) (fun n => l.length - n) 0 (Nat.zero_le _) ?_ (fun n hn => ?_)
    · ((repeat' (first|((conv => whnf);done)|((try conv => whnf);first|exact trivial|(refine And.intro ?_ ?_)|rfl|exact fun _ _ _ h=>h|exact fun _ _ _ _=>trivial)));(all_goals (try conv => whnf)))
    · by_cases hlt : n < l.length
      · have hg := List.getElem?_eq_getElem hlt
        generalize l[n] = x at *
        ((repeat' ((conv => whnf);(first|refine zA ?_|(refine zI ?_ ?_<;> intro hh<;> first|(exfalso;omega)|skip)|(refine zl ?_ ?_<;> intro hh)|refine zq ?_|refine zv ?_|refine zu ?_|exact Sy.fin_val fun e=>rfl)));(all_goals (try conv => whnf)))
        refine Sy.el_map x hg ?_
        by_cases h10 : n = 10
        · ((repeat' ((conv => whnf);(first|refine zA ?_|(refine zI ?_ ?_<;> intro hh<;> first|(exfalso;omega)|skip)|(refine zl ?_ ?_<;> intro hh)|refine zq ?_|refine zv ?_|refine zu ?_|exact Sy.fin_val fun e=>rfl)));(all_goals (try conv => whnf)))
          all_goals done
        · obtain ⟨P, hP⟩ : ∃ P, P = partV ⟨op, idx, wid, fin, K, o, T⟩ x.idx x.wid := ⟨_, rfl⟩
          obtain ⟨E, hE⟩ : ∃ E, E = partE ⟨op, idx, wid, fin, K, o, T⟩ x.idx x.wid := ⟨_, rfl⟩
          have hPt : P.txs = [] := by rw [hP]; exact partV_txs _ _ _
          have hPl : P.rows.length ≤ 257 := by
            rw [hP]
            refine Nat.le_trans (partV_len _ _ _) ?_
            show K.length ≤ 257
            rw [hK, List.length_take]; omega
          ((repeat' ((conv => whnf);(first|refine zA ?_|(refine zI ?_ ?_<;> intro hh<;> first|(exfalso;omega)|skip)|(refine zl ?_ ?_<;> intro hh)|refine zq ?_|refine zv ?_|refine zu ?_|exact Sy.fin_val fun e=>rfl)));(all_goals (try conv => whnf)))
          refine Sy.call_r1 (v := fun _ vs => .tuple #[retP P vs, .int .i64 E]) ⟨73, 4, P.rows.length, P.rows.map encK⟩ (fun j => .tup [.agg [.v (.int .i64 P.op), .v (.int .i64 P.idx), .v (.int .i64 P.wid), .v (.bool P.fin), .row j, .v (.int .i64 (P.offs 0)), .v (.int .i64 (P.offs 1)), .v (.int .i64 (P.offs 2)), .v (.int .i64 (P.offs 3)), .v (.int .i64 (P.offs 4)), .v (.int .i64 (P.offs 5)), .v (.int .i64 (P.offs 6)), .v (.int .i64 (P.offs 7)), .v (.slice none 0 0)], .c (.v (.int .i64 E))]) Try.call15 (fun e a w' h => by
            rw [hP, hE]
            exact part_any ⟨⟨op, idx, wid, fin, K, o, T⟩, e.rv 4, e.rv 5⟩ x.idx x.wid w' ⟨Sy.row_reads h (.inl ⟨_, rfl⟩), Sy.row_reads h (.inl ⟨_, rfl⟩)⟩) ?_
          ((repeat' ((conv => whnf);(first|refine zA ?_|(refine zI ?_ ?_<;> intro hh<;> first|(exfalso;omega)|skip)|(refine zl ?_ ?_<;> intro hh)|refine zq ?_|refine zv ?_|refine zu ?_|exact Sy.fin_val fun e=>rfl)));(all_goals (try conv => whnf)))
          refine Sy.call_r1 (v := fun _ vs => .tuple #[retP P vs, .int .i64 E]) ⟨73, 4, P.rows.length, P.rows.map encK⟩ (fun j => .tup [.agg [.v (.int .i64 P.op), .v (.int .i64 P.idx), .v (.int .i64 P.wid), .v (.bool P.fin), .row j, .v (.int .i64 (P.offs 0)), .v (.int .i64 (P.offs 1)), .v (.int .i64 (P.offs 2)), .v (.int .i64 (P.offs 3)), .v (.int .i64 (P.offs 4)), .v (.int .i64 (P.offs 5)), .v (.int .i64 (P.offs 6)), .v (.int .i64 (P.offs 7)), .v (.slice none 0 0)], .c (.v (.int .i64 E))]) Try.call16 (fun e a w' h => by
            rw [hP, hE]
            exact rpart_any ⟨⟨op, idx, wid, fin, K, o, T⟩, e.rv 6, e.rv 7⟩ x.idx x.wid w' ⟨Sy.row_reads h (.inl ⟨_, rfl⟩), Sy.row_reads h (.inl ⟨_, rfl⟩)⟩) ?_
          ((repeat' ((conv => whnf);(first|refine zA ?_|(refine zI ?_ ?_<;> intro hh<;> first|(exfalso;omega)|skip)|(refine zl ?_ ?_<;> intro hh)|refine zq ?_|refine zv ?_|refine zu ?_|exact Sy.fin_val fun e=>rfl)));(all_goals (try conv => whnf)))
          refine Sy.call_val (.c (.v (.bool true))) Try.call13 rfl (fun e a w' h => by
            have hn : XD.ok (fun b => b < w'.heap.size) w' ⟨.slice none 0 0, 3, P.txs.length, P.txs.map encT⟩ := by rw [hPt]; exact nil_ok
            have := rsame_any ⟨P, e.rv 11, .slice none 0 0⟩ ⟨P, e.rv 13, .slice none 0 0⟩ w' ⟨Sy.row_reads h (.inl ⟨_, rfl⟩), hn⟩ ⟨Sy.row_reads h (.inl ⟨_, rfl⟩), hn⟩
            rw [decide_eq_true rfl] at this; exact this) ?_
          ((repeat' ((conv => whnf);(first|refine zA ?_|(refine zI ?_ ?_<;> intro hh<;> first|(exfalso;omega)|skip)|(refine zl ?_ ?_<;> intro hh)|refine zq ?_|refine zv ?_|refine zu ?_|exact Sy.fin_val fun e=>rfl)));(all_goals (try conv => whnf)))
          refine Sy.call_in Sy.lv17 Sy.tab_ok Try.func17 rfl _ Try.ntmps17 Try.call17 rfl (fun _ => ?_)
          ((repeat' ((conv => whnf);(first|refine zA ?_|(refine zI ?_ ?_<;> intro hh<;> first|(exfalso;omega)|skip)|(refine zl ?_ ?_<;> intro hh)|refine zq ?_|refine zv ?_|refine zu ?_|exact Sy.fin_val fun e=>rfl)));(all_goals (try conv => whnf)))
          refine Sy.loop_inv Sy.tab_ok (fun y : Nat × List Kc => [(8, .c (.v (.int .i64 y.1)))]) (fun y => [(11, .row 73 4 P.rows.length (.vs (y.2.map encK)))]) (fun y => y.1 ≤ P.rows.length ∧ y.2.length = P.rows.length) (fun y => P.rows.length - y.1) (0, P.rows) ⟨Nat.zero_le _, rfl⟩ ?_ (fun y hy => ?_)
          · ((repeat' (first|((conv => whnf);done)|((try conv => whnf);first|exact trivial|(refine And.intro ?_ ?_)|rfl|exact fun _ _ _ h=>h|exact fun _ _ _ _=>trivial)));(all_goals (try conv => whnf)))
          · obtain ⟨j, zs⟩ := y
            obtain ⟨hj, hz⟩ := hy
            dsimp only at hj hz ⊢
            by_cases hlt2 : j < P.rows.length
            · have hg2 := List.getElem?_eq_getElem (show j < zs.length by omega)
              generalize zs[j] = z at *
              ((repeat' ((conv => whnf);(first|refine zA ?_|(refine zI ?_ ?_<;> intro hh<;> first|(exfalso;omega)|skip)|(refine zl ?_ ?_<;> intro hh)|refine zq ?_|refine zv ?_|refine zu ?_|exact Sy.fin_val fun e=>rfl)));(all_goals (try conv => whnf)))
              refine Sy.el_map z hg2 ?_
              ((repeat' ((conv => whnf);(first|refine zA ?_|(refine zI ?_ ?_<;> intro hh<;> first|(exfalso;omega)|skip)|(refine zl ?_ ?_<;> intro hh)|refine zq ?_|refine zv ?_|refine zu ?_|exact Sy.fin_val fun e=>rfl)));(all_goals (try conv => whnf)))
              refine ⟨(j + 1, zs.set j ⟨z.src, z.key, z.cnt, 99⟩), ⟨by dsimp only; omega, by dsimp only; rw [List.length_set]; exact hz⟩, by dsimp only; omega, ?_⟩
              dsimp only
              rw [List.map_set]
              ((repeat' (first|((conv => whnf);done)|((try conv => whnf);first|exact trivial|(refine And.intro ?_ ?_)|rfl|exact fun _ _ _ h=>h|exact fun _ _ _ _=>trivial)));(all_goals (try conv => whnf)))
            · ((repeat' ((conv => whnf);(first|refine zA ?_|(refine zI ?_ ?_<;> intro hh<;> first|(exfalso;omega)|skip)|(refine zl ?_ ?_<;> intro hh)|refine zq ?_|refine zv ?_|refine zu ?_|exact Sy.fin_val fun e=>rfl)));(all_goals (try conv => whnf)))
              refine Sy.loop_inv Sy.tab_ok (fun _ : Unit => [(22, .c (.v (.int .i64 0)))]) (fun _ => []) (fun _ => True) (fun _ => 0) () trivial ?_ (fun _ _ => ?_)
              · ((repeat' (first|((conv => whnf);done)|((try conv => whnf);first|exact trivial|(refine And.intro ?_ ?_)|rfl|exact fun _ _ _ h=>h|exact fun _ _ _ _=>trivial)));(all_goals (try conv => whnf)))
              · ((repeat' ((conv => whnf);(first|refine zA ?_|(refine zI ?_ ?_<;> intro hh<;> first|(exfalso;omega)|skip)|(refine zl ?_ ?_<;> intro hh)|refine zq ?_|refine zv ?_|refine zu ?_|exact Sy.fin_val fun e=>rfl)));(all_goals (try conv => whnf)))
                refine Sy.call_val (.c (.v (.bool true))) Try.call13 rfl (fun e a w' h => by
                  have := rsame_any ⟨⟨op, idx, wid, fin, K, o, T⟩, e.rv 4, e.rv 5⟩ ⟨⟨op, idx, wid, fin, K, o, T⟩, e.rv 6, e.rv 7⟩ w' ⟨Sy.row_reads h (.inl ⟨_, rfl⟩), Sy.row_reads h (.inl ⟨_, rfl⟩)⟩ ⟨Sy.row_reads h (.inl ⟨_, rfl⟩), Sy.row_reads h (.inl ⟨_, rfl⟩)⟩
                  rw [decide_eq_true rfl] at this; exact this) ?_
                ((repeat' ((conv => whnf);(first|refine zA ?_|(refine zI ?_ ?_<;> intro hh<;> first|(exfalso;omega)|skip)|(refine zl ?_ ?_<;> intro hh)|refine zq ?_|refine zv ?_|refine zu ?_|exact Sy.fin_val fun e=>rfl)));(all_goals (try conv => whnf)))
                refine ⟨n + 1, by omega, by omega, ?_⟩
                ((repeat' (first|((conv => whnf);done)|((try conv => whnf);first|exact trivial|(refine And.intro ?_ ?_)|rfl|exact fun _ _ _ h=>h|exact fun _ _ _ _=>trivial)));(all_goals (try conv => whnf)))
      · ((repeat' ((conv => whnf);(first|refine zA ?_|(refine zI ?_ ?_<;> intro hh<;> first|(exfalso;omega)|skip)|(refine zl ?_ ?_<;> intro hh)|refine zq ?_|refine zv ?_|refine zu ?_|exact Sy.fin_val fun e=>rfl)));(all_goals (try conv => whnf)))
        all_goals done
end Go.Proofs.Ytmahldelmbhjfaa
