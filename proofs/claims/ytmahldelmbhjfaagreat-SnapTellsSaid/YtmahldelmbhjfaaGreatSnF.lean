/- Snap: Same. -/
import Derived.Test.YtmahldelmbhjfaaGreatSnE
namespace Go.Proofs.YtmahldelmbhjfaaGreat.Sn
open Go Go.RowKit
open Sy (C SV V1 Blk St XD Els)
set_option maxRecDepth 10000

theorem sn_ext {a b : Sn} (h1 : a.op = b.op) (h2 : a.idx = b.idx) (h3 : a.wid = b.wid) (h4 : a.fin = b.fin) (h5 : a.rows = b.rows) (h6 : a.offs = b.offs) (h7 : a.txs = b.txs) : a = b := by cases a; cases b; simp_all
set_option maxHeartbeats 4000000 in
theorem rsame_any (a b : SnV) (w : World) (ha : SOk (fun b => b < w.heap.size) w a) (hb : SOk (fun b => b < w.heap.size) w b) : Calls Tryz.prog 12 #[.agg (encS a).toArray, .agg (encS b).toArray] w (Sy.Ret (.bool (decide (a.sn = b.sn))) w) := by
  obtain ⟨⟨op, idx, wid, fin, rows, o, txs⟩, u, t⟩ := a
  obtain ⟨⟨op', idx', wid', fin', rows', o', txs'⟩, u', t'⟩ := b
  refine Sy.calls_of Sy.lv12 Sy.tab_ok Tryz.func12 rfl _ Tryz.ntmps12 [⟨u, 4, rows.length, rows.map encK⟩, ⟨t, 3, txs.length, txs.map encT⟩, ⟨u', 4, rows'.length, rows'.map encK⟩, ⟨t', 3, txs'.length, txs'.map encT⟩] [.agg [.v (.int .i64 op), .v (.int .i64 idx), .v (.int .i64 wid), .v (.bool fin), .row 0, .v (.int .i64 (o 0)), .v (.int .i64 (o 1)), .v (.int .i64 (o 2)), .v (.int .i64 (o 3)), .v (.int .i64 (o 4)), .v (.int .i64 (o 5)), .v (.int .i64 (o 6)), .v (.int .i64 (o 7)), .row 1], .agg [.v (.int .i64 op'), .v (.int .i64 idx'), .v (.int .i64 wid'), .v (.bool fin'), .row 2, .v (.int .i64 (o' 0)), .v (.int .i64 (o' 1)), .v (.int .i64 (o' 2)), .v (.int .i64 (o' 3)), .v (.int .i64 (o' 4)), .v (.int .i64 (o' 5)), .v (.int .i64 (o' 6)), .v (.int .i64 (o' 7)), .row 3]] rfl rfl rfl ⟨ha.rows, ha.txs, hb.rows, hb.txs, trivial⟩ ?_
  obtain ⟨R, hR⟩ : ∃ R, R = decide (Sn.mk op idx wid fin rows o txs = ⟨op', idx', wid', fin', rows', o', txs'⟩) := ⟨_, rfl⟩
  rw [show decide (SnV.sn ⟨⟨op, idx, wid, fin, rows, o, txs⟩, u, t⟩ = SnV.sn ⟨⟨op', idx', wid', fin', rows', o', txs'⟩, u', t'⟩) = R from hR.symm]
  by_cases h1 : op = op' ∧ idx = idx' ∧ wid = wid'
  · obtain ⟨e1, e2, e3⟩ := h1
    by_cases e4 : fin = fin'
    · have e4b : (fin == fin') = true := beq_iff_eq.2 e4
      by_cases hz : o 0 = o' 0 ∧ o 1 = o' 1 ∧ o 2 = o' 2 ∧ o 3 = o' 3 ∧ o 4 = o' 4 ∧ o 5 = o' 5 ∧ o 6 = o' 6 ∧ o 7 = o' 7
      · obtain ⟨z0, z1, z2, z3, z4, z5, z6, z7⟩ := hz
        have e6 : o = o' := funext (fin8 z0 z1 z2 z3 z4 z5 z6 z7)
        ((repeat' ((conv => whnf);(first|refine zA ?_|(refine zI ?_ ?_<;> intro hh<;> first|(exfalso;omega)|skip)|(refine zl ?_ ?_<;> intro hh)|refine zq ?_|refine zv ?_|refine zu ?_|exact Sy.fin_val fun e=>rfl)));(all_goals (try conv => whnf)))
        refine Sy.call_val (.c (.v (.bool (decide (rows = rows'))))) Tryz.call37 rfl (fun e a w' h => sameK_any (e.rv 0) (e.rv 2) rows rows' w' (Sy.row_reads h (.inr rfl)) (Sy.row_reads h (.inr rfl))) ?_
        by_cases e5 : rows = rows'
        · rw [decide_eq_true e5]
          ((repeat' ((conv => whnf);(first|refine zA ?_|(refine zI ?_ ?_<;> intro hh<;> first|(exfalso;omega)|skip)|(refine zl ?_ ?_<;> intro hh)|refine zq ?_|refine zv ?_|refine zu ?_|exact Sy.fin_val fun e=>rfl)));(all_goals (try conv => whnf)))
          refine Sy.call_val (.c (.v (.bool (decide (txs = txs'))))) Tryz.call38 rfl (fun e a w' h => sameT_any (e.rv 1) (e.rv 3) txs txs' w' (Sy.row_reads h (.inr rfl)) (Sy.row_reads h (.inr rfl))) ?_
          have hR2 : R = decide (txs = txs') := by
            rw [hR, Bool.eq_iff_iff, decide_eq_true_iff, decide_eq_true_iff]
            exact ⟨fun h => (Sn.mk.inj h).2.2.2.2.2.2, fun h => sn_ext e1 e2 e3 e4 e5 e6 h⟩
          rw [hR2]
          ((repeat' ((conv => whnf);(first|refine zA ?_|(refine zI ?_ ?_<;> intro hh<;> first|(exfalso;omega)|skip)|(refine zl ?_ ?_<;> intro hh)|refine zq ?_|refine zv ?_|refine zu ?_|exact Sy.fin_val fun e=>rfl)));(all_goals (try conv => whnf)))
          all_goals done
        · rw [decide_eq_false e5, hR, decide_eq_false (fun h => e5 (Sn.mk.inj h).2.2.2.2.1)]
          ((repeat' ((conv => whnf);(first|refine zA ?_|(refine zI ?_ ?_<;> intro hh<;> first|(exfalso;omega)|skip)|(refine zl ?_ ?_<;> intro hh)|refine zq ?_|refine zv ?_|refine zu ?_|exact Sy.fin_val fun e=>rfl)));(all_goals (try conv => whnf)))
          all_goals done
      · rw [hR, decide_eq_false (fun h => hz (by
          have e6 := (Sn.mk.inj h).2.2.2.2.2.1
          subst e6
          exact ⟨rfl, rfl, rfl, rfl, rfl, rfl, rfl, rfl⟩))]
        ((repeat' ((conv => whnf);(first|refine zA ?_|(refine zI ?_ ?_<;> intro hh<;> first|(exfalso;omega)|skip)|(refine zl ?_ ?_<;> intro hh)|refine zq ?_|refine zv ?_|refine zu ?_|exact Sy.fin_val fun e=>rfl)));(all_goals (try conv => whnf)))
        all_goals first | (exfalso; omega) | done
    · have e4b : (fin == fin') = false := beq_eq_false_iff_ne.2 e4
      rw [hR, decide_eq_false (fun h => e4 (Sn.mk.inj h).2.2.2.1)]
      ((repeat' ((conv => whnf);(first|refine zA ?_|(refine zI ?_ ?_<;> intro hh<;> first|(exfalso;omega)|skip)|(refine zl ?_ ?_<;> intro hh)|refine zq ?_|refine zv ?_|refine zu ?_|exact Sy.fin_val fun e=>rfl)));(all_goals (try conv => whnf)))
      all_goals done
  · rw [hR, decide_eq_false (fun h => h1 ⟨(Sn.mk.inj h).1, (Sn.mk.inj h).2.1, (Sn.mk.inj h).2.2.1⟩)]
    ((repeat' ((conv => whnf);(first|refine zA ?_|(refine zI ?_ ?_<;> intro hh<;> first|(exfalso;omega)|skip)|(refine zl ?_ ?_<;> intro hh)|refine zq ?_|refine zv ?_|refine zu ?_|exact Sy.fin_val fun e=>rfl)));(all_goals (try conv => whnf)))
    all_goals first | (exfalso; omega) | done
end Go.Proofs.YtmahldelmbhjfaaGreat.Sn
