/- Snap: Part and the document's Part. -/
import Derived.Test.YtmahldelmbhjfaaSnU
import Derived.Test.YtmahldelmbhjfaaSnS
namespace Go.Proofs.Ytmahldelmbhjfaa
open Go Go.RowKit
open Sy (C SV V1 Blk St XD Els)
set_option maxRecDepth 10000

attribute [local irreducible] ownW tblB namesB rightP
set_option maxHeartbeats 4000000 in
theorem part_any (s : SnV) (i n : Int) (w : World) (hr : SOk (fun b => b < w.heap.size) w s) :
    Calls Try.prog 15 #[.agg (encS s).toArray, .int .i64 i, .int .i64 n] w (Sy.RetRows Sy.noRow (fun _ : Unit => True) (fun _ => [⟨73, 4, (partV s.sn i n).rows.length, (partV s.sn i n).rows.map encK⟩]) (fun _ vs => .tuple #[retP (partV s.sn i n) vs, .int .i64 (partE s.sn i n)]) w) := by
  obtain ⟨⟨op, idx, wid, fin, rows, o, txs⟩, u, t⟩ := s
  refine Sy.calls_of Sy.lv15 Sy.tab_ok Try.func15 rfl _ Try.ntmps15 [⟨u, 4, rows.length, rows.map encK⟩, ⟨t, 3, txs.length, txs.map encT⟩] [.agg [.v (.int .i64 op), .v (.int .i64 idx), .v (.int .i64 wid), .v (.bool fin), .row 0, .v (.int .i64 (o 0)), .v (.int .i64 (o 1)), .v (.int .i64 (o 2)), .v (.int .i64 (o 3)), .v (.int .i64 (o 4)), .v (.int .i64 (o 5)), .v (.int .i64 (o 6)), .v (.int .i64 (o 7)), .row 1], .c (.v (.int .i64 i)), .c (.v (.int .i64 n))] rfl rfl rfl ⟨hr.rows, hr.txs, trivial⟩ ?_
  obtain ⟨S, hS⟩ : ∃ S : Sn, S = ⟨op, idx, wid, fin, rows, o, txs⟩ := ⟨_, rfl⟩
  rw [show SnV.sn ⟨⟨op, idx, wid, fin, rows, o, txs⟩, u, t⟩ = S from hS.symm]
  ((repeat' ((conv => whnf);(first|refine zA ?_|(refine zI ?_ ?_<;> intro hh<;> first|(exfalso;omega)|skip)|(refine zl ?_ ?_<;> intro hh)|refine zq ?_|refine zv ?_|refine zu ?_|exact Sy.fin_val fun e=>rfl)));(all_goals (try conv => whnf)))
  refine Sy.call_val (.c (.v (.int .i64 (chkE S)))) Try.call34 rfl (fun e a w' h => by
    have := check_any ⟨⟨op, idx, wid, fin, rows, o, txs⟩, e.rv 0, e.rv 1⟩ w' ⟨Sy.row_reads h (.inr rfl), Sy.row_reads h (.inr rfl)⟩
    rw [hS]; exact this) ?_
  have hno : ∀ e, partE S i n = e → e ≠ 0 → partV S i n = sn0 := fun e h1 h2 => if_neg (by rw [h1]; exact h2)
  by_cases hrt : rightP S
  · rw [show chkE S = 0 from if_pos hrt]
    by_cases hw : wid = 1
    · ((repeat' ((conv => whnf);(first|refine zA ?_|(refine zI ?_ ?_<;> intro hh<;> first|(exfalso;omega)|skip)|(refine zl ?_ ?_<;> intro hh)|refine zq ?_|refine zv ?_|refine zu ?_|exact Sy.fin_val fun e=>rfl)));(all_goals (try conv => whnf)))
      refine Sy.call_r1 ⟨3, 1, (ownF i n).length, (ownF i n).map encI⟩ (fun j => .tup [.c (.row j), .c (.v (.int .i64 (ownE i n)))]) Try.call43 (fun e a w' h => owned_any i n w') ?_
      have hw' : S.wid = 1 := by rw [hS]; exact hw
      by_cases hsh : shareP i n
      · have hE : partE S i n = 0 := by unfold partE; rw [if_pos hrt, if_pos hw', if_pos hsh]
        have hV : partV S i n = partS S i n := if_pos hE
        have htb : tblB rows = true := by
          have h := hrt
          rw [hS] at h
          unfold rightP at h
          exact h.2.2.1
        rw [hE, hV, show ownE i n = 0 from if_pos hsh]
        ((repeat' ((conv => whnf);(first|refine zA ?_|(refine zI ?_ ?_<;> intro hh<;> first|(exfalso;omega)|skip)|(refine zl ?_ ?_<;> intro hh)|refine zq ?_|refine zv ?_|refine zu ?_|exact Sy.fin_val fun e=>rfl)));(all_goals (try conv => whnf)))
        refine Sy.call_r1 ⟨73, 4, (partS S i n).rows.length, (partS S i n).rows.map encK⟩ (fun j => .agg [.v (.int .i64 (partS S i n).op), .v (.int .i64 i), .v (.int .i64 n), .v (.bool (partS S i n).fin), .row j, .v (.int .i64 ((partS S i n).offs 0)), .v (.int .i64 ((partS S i n).offs 1)), .v (.int .i64 ((partS S i n).offs 2)), .v (.int .i64 ((partS S i n).offs 3)), .v (.int .i64 ((partS S i n).offs 4)), .v (.int .i64 ((partS S i n).offs 5)), .v (.int .i64 ((partS S i n).offs 6)), .v (.int .i64 ((partS S i n).offs 7)), .v (.slice none 0 0)]) Try.call44 (fun e a w' h => by
          have := part1_any ⟨⟨op, idx, wid, fin, rows, o, txs⟩, e.rv 0, e.rv 1⟩ i n w' ⟨Sy.row_reads h (.inr rfl), Sy.row_reads h (.inr rfl)⟩ htb hsh
          rw [show SnV.sn ⟨⟨op, idx, wid, fin, rows, o, txs⟩, e.rv 0, e.rv 1⟩ = S from hS.symm] at this
          exact this) ?_
        ((repeat' ((conv => whnf);(first|refine zA ?_|(refine zI ?_ ?_<;> intro hh<;> first|(exfalso;omega)|skip)|(refine zl ?_ ?_<;> intro hh)|refine zq ?_|refine zv ?_|refine zu ?_|exact Sy.fin_val fun e=>rfl)));(all_goals (try conv => whnf)))
        exact Sy.fin_r1 (.row 5) rfl (fun e => rfl)
      · have hE : partE S i n = 2 := by unfold partE; rw [if_pos hrt, if_pos hw', if_neg hsh]
        rw [hE, hno 2 hE (by decide), show ownE i n = 2 from if_neg hsh]
        ((repeat' ((conv => whnf);(first|refine zA ?_|(refine zI ?_ ?_<;> intro hh<;> first|(exfalso;omega)|skip)|(refine zl ?_ ?_<;> intro hh)|refine zq ?_|refine zv ?_|refine zu ?_|exact Sy.fin_val fun e=>rfl)));(all_goals (try conv => whnf)))
        exact Sy.fin_r1 (.v (.slice none 0 0)) ⟨rfl, rfl⟩ (fun e => rfl)
    · have hE : partE S i n = 281 := by unfold partE; rw [if_pos hrt, if_neg (by rw [hS]; exact hw)]
      rw [hE, hno 281 hE (by decide)]
      ((repeat' ((conv => whnf);(first|refine zA ?_|(refine zI ?_ ?_<;> intro hh<;> first|(exfalso;omega)|skip)|(refine zl ?_ ?_<;> intro hh)|refine zq ?_|refine zv ?_|refine zu ?_|exact Sy.fin_val fun e=>rfl)));(all_goals (try conv => whnf)))
      exact Sy.fin_r1 (.v (.slice none 0 0)) ⟨rfl, rfl⟩ (fun e => rfl)
  · have hE : partE S i n = 280 := if_neg hrt
    rw [show chkE S = 280 from if_neg hrt, hE, hno 280 hE (by decide)]
    ((repeat' ((conv => whnf);(first|refine zA ?_|(refine zI ?_ ?_<;> intro hh<;> first|(exfalso;omega)|skip)|(refine zl ?_ ?_<;> intro hh)|refine zq ?_|refine zv ?_|refine zu ?_|exact Sy.fin_val fun e=>rfl)));(all_goals (try conv => whnf)))
    exact Sy.fin_r1 (.v (.slice none 0 0)) ⟨rfl, rfl⟩ (fun e => rfl)
end Go.Proofs.Ytmahldelmbhjfaa
