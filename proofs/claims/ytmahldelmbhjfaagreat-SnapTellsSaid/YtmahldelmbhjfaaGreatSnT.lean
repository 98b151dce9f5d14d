/- Snap: a snapshot that can be played in time. -/
import Derived.Test.YtmahldelmbhjfaaGreatSnL
import Derived.Test.YtmahldelmbhjfaaGreatDrawB
namespace Go.Proofs.YtmahldelmbhjfaaGreat.Sn
open Go Go.RowKit
open Sy (C SV V1 Blk St XD Els yt yt1 yd1 yw)
set_option maxRecDepth 10000

def shortS (s : Sn) : Sn := { s with rows := s.rows.take 257, txs := s.txs.take 25 }
/-- A snapshot alone that comes back. -/
def retA (s : Sn) (vs : List Value) : Value := .agg #[.int .i64 s.op, .int .i64 s.idx, .int .i64 s.wid, .bool s.fin, vs.headD undef, .int .i64 (s.offs 0), .int .i64 (s.offs 1), .int .i64 (s.offs 2), .int .i64 (s.offs 3), .int .i64 (s.offs 4), .int .i64 (s.offs 5), .int .i64 (s.offs 6), .int .i64 (s.offs 7), (vs.drop 1).headD undef]
theorem rcopyT_any (v : Value) (l : List Kc) (w : World) (hr : XD.ok (fun b => b < w.heap.size) w ⟨v, 4, l.length, l.map encK⟩) (hb : l.length ≤ 1000000) :
    Calls Tryz.prog 44 #[.agg #[v]] w (Sy.RetRows Sy.noRow (fun _ : Unit => True) (fun _ => [⟨46, 4, l.length, l.map encK⟩]) (fun _ vs => .agg #[vs.headD undef]) w) := by
  refine Sy.calls_of Sy.lv44 Sy.tab_ok Tryz.func44 rfl _ Tryz.ntmps44 [⟨v, 4, l.length, l.map encK⟩] [.agg [.row 0]] rfl rfl rfl ⟨hr, trivial⟩ ?_
  ((repeat' ((conv => whnf);(first|refine zA ?_|(refine zI ?_ ?_<;> intro hh<;> first|(exfalso;omega)|skip)|(refine zl ?_ ?_<;> intro hh)|refine zq ?_|refine zv ?_|refine zu ?_|exact Sy.fin_val fun e=>rfl)));(all_goals (try conv => whnf)))
  refine Sy.need_of (by show (0 + l.length) * 32 ≤ _ ∧ _; omega) ?_
  ((repeat' ((conv => whnf);(first|refine zA ?_|(refine zI ?_ ?_<;> intro hh<;> first|(exfalso;omega)|skip)|(refine zl ?_ ?_<;> intro hh)|refine zq ?_|refine zv ?_|refine zu ?_|exact Sy.fin_val fun e=>rfl)));(all_goals (try conv => whnf)))
  rw [Nat.zero_add l.length]
  exact Sy.fin_r1 (.row 4) rfl (fun e => rfl)
set_option maxHeartbeats 2000000 in
theorem rcopy_any (s : SnV) (w : World) (hr : SOk (fun b => b < w.heap.size) w s) (hb1 : s.sn.rows.length ≤ 1000000) (hb2 : s.sn.txs.length ≤ 1000000) :
    Calls Tryz.prog 16 #[.agg (encS s).toArray] w (Sy.RetRows Sy.noRow (fun _ : Unit => True) (fun _ => [⟨46, 4, s.sn.rows.length, s.sn.rows.map encK⟩, ⟨80, 3, s.sn.txs.length, s.sn.txs.map encT⟩]) (fun _ vs => retA s.sn vs) w) := by
  obtain ⟨⟨op, idx, wid, fin, rows, o, txs⟩, u, t⟩ := s
  dsimp only at hb1 hb2
  refine Sy.calls_of Sy.lv16 Sy.tab_ok Tryz.func16 rfl _ Tryz.ntmps16 [⟨u, 4, rows.length, rows.map encK⟩, ⟨t, 3, txs.length, txs.map encT⟩] [.agg [.v (.int .i64 op), .v (.int .i64 idx), .v (.int .i64 wid), .v (.bool fin), .row 0, .v (.int .i64 (o 0)), .v (.int .i64 (o 1)), .v (.int .i64 (o 2)), .v (.int .i64 (o 3)), .v (.int .i64 (o 4)), .v (.int .i64 (o 5)), .v (.int .i64 (o 6)), .v (.int .i64 (o 7)), .row 1]] rfl rfl rfl ⟨hr.rows, hr.txs, trivial⟩ ?_
  ((repeat' ((conv => whnf);(first|refine zA ?_|(refine zI ?_ ?_<;> intro hh<;> first|(exfalso;omega)|skip)|(refine zl ?_ ?_<;> intro hh)|refine zq ?_|refine zv ?_|refine zu ?_|exact Sy.fin_val fun e=>rfl)));(all_goals (try conv => whnf)))
  refine Sy.drawB_go [2] [8,10] (by kernel_rfl) ?_
  intro e0
  conv => whnf
  refine yt 0 rfl ?_
  conv => whnf
  refine yt 1 rfl ?_
  conv => whnf
  refine yt 4 rfl ?_
  conv => whnf
  refine yt 5 rfl ?_
  conv => whnf
  focus
    refine yd1 [2, 3] (zx rfl ?_ (zx rfl ?_ zy))
    focus
      conv => whnf
      refine Sy.call_r1 ⟨46, 4, rows.length, rows.map encK⟩ (fun j => .agg [.row j]) Tryz.call44 (fun e a w' h => rcopyT_any (e.rv 0) rows w' (Sy.row_reads h (.inr rfl)) hb1) ?_
      conv => whnf
      refine ⟨(by repeat' ((conv => whnf);first|exact trivial|(refine And.intro ?_ ?_)|rfl)), ?_⟩
      refine yt 7 rfl ?_
      conv => whnf
      refine yd1 [3] (zx rfl ?_ zy)
      conv => whnf
      refine ⟨(by repeat' ((conv => whnf);first|exact trivial|(refine And.intro ?_ ?_)|rfl)), ?_⟩
      refine yd1 [6] (zx rfl ?_ zy)
      conv => whnf
      refine Sy.need_of (by show (0 + txs.length) * 24 ≤ _ ∧ _; omega) ?_
      conv => whnf
      refine ⟨(by repeat' ((conv => whnf);first|exact trivial|(refine And.intro ?_ ?_)|rfl)), ?_⟩
      refine yd1 [8] (zx rfl ?_ zy)
      conv => whnf
      refine ⟨(by repeat' ((conv => whnf);first|exact trivial|(refine And.intro ?_ ?_)|rfl)), ?_⟩
      refine yt1 9 rfl ?_
      conv => whnf
      refine yd1 [10] (zx rfl ?_ zy)
      conv => whnf
      refine ⟨(by repeat' ((conv => whnf);first|exact trivial|(refine And.intro ?_ ?_)|rfl)), ?_⟩
      refine yw ?_
      skip
    rotate_right
    focus
      conv => whnf
      refine ⟨(by repeat' ((conv => whnf);first|exact trivial|(refine And.intro ?_ ?_)|rfl)), ?_⟩
      refine yd1 [2] (zx rfl ?_ zy)
      conv => whnf
      refine Sy.call_r1 ⟨46, 4, rows.length, rows.map encK⟩ (fun j => .agg [.row j]) Tryz.call44 (fun e a w' h => rcopyT_any (e.rv 0) rows w' (Sy.row_reads h (.inr rfl)) hb1) ?_
      conv => whnf
      refine ⟨(by repeat' ((conv => whnf);first|exact trivial|(refine And.intro ?_ ?_)|rfl)), ?_⟩
      refine yt 7 rfl ?_
      conv => whnf
      refine yd1 [6] (zx rfl ?_ zy)
      conv => whnf
      refine Sy.need_of (by show (0 + txs.length) * 24 ≤ _ ∧ _; omega) ?_
      conv => whnf
      refine ⟨(by repeat' ((conv => whnf);first|exact trivial|(refine And.intro ?_ ?_)|rfl)), ?_⟩
      refine yd1 [8] (zx rfl ?_ zy)
      conv => whnf
      refine ⟨(by repeat' ((conv => whnf);first|exact trivial|(refine And.intro ?_ ?_)|rfl)), ?_⟩
      refine yt1 9 rfl ?_
      conv => whnf
      refine yd1 [10] (zx rfl ?_ zy)
      conv => whnf
      refine ⟨(by repeat' ((conv => whnf);first|exact trivial|(refine And.intro ?_ ?_)|rfl)), ?_⟩
      refine yw ?_
      skip
  all_goals (((repeat' ((conv => whnf);(first|refine zA ?_|(refine zI ?_ ?_<;> intro hh<;> first|(exfalso;omega)|skip)|(refine zl ?_ ?_<;> intro hh)|refine zq ?_|refine zv ?_|refine zu ?_|exact Sy.fin_val fun e=>rfl)));(all_goals (try conv => whnf))))
  all_goals (rw [Nat.zero_add txs.length])
  all_goals first | exact Sy.fin_r2 (.row 5) (.row 6) rfl rfl (by decide) (fun e => rfl) | exact Sy.fin_r2 (.row 4) (.row 6) rfl rfl (by decide) (fun e => rfl) | exact Sy.fin_r2 (.row 6) (.row 5) rfl rfl (by decide) (fun e => rfl) | exact Sy.fin_r2 (.row 4) (.row 5) rfl rfl (by decide) (fun e => rfl) | exact Sy.fin_r2 (.row 6) (.row 4) rfl rfl (by decide) (fun e => rfl)
end Go.Proofs.YtmahldelmbhjfaaGreat.Sn
