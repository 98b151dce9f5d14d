/- Snap: the program's Same. -/
import Derived.Test.YtgkkpefpbfadoaaGreatAk24
namespace Go.Proofs.YtgkkpefpbfadoaaGreat.Sn
open Go Go.RowKit
open Sy (C SV V1 Blk St XD Els)
set_option maxRecDepth 10000
set_option maxHeartbeats 2000000 in
theorem eqT_any (u t : Value) (a b : List Tx) (w : World) (hu : XD.ok (fun b => b < w.heap.size) w ⟨u, 3, a.length, a.map encT⟩) (ht : XD.ok (fun b => b < w.heap.size) w ⟨t, 3, b.length, b.map encT⟩) :
  Calls Tryz.prog 37 #[u, t] w (Sy.Ret (.bool (decide (a = b))) w) := by
 have hl1 := ok_len hu
 have hl2 := ok_len ht
 refine Sy.calls_of Sy.lv37 Sy.tab_ok Tryz.func37 rfl _ Tryz.ntmps37 [⟨u, 3, a.length, a.map encT⟩, ⟨t, 3, b.length, b.map encT⟩] [.c (.row 0), .c (.row 1)] rfl rfl rfl ⟨hu, ht, trivial⟩ ?_
 by_cases hlen : a.length = b.length
 ·((repeat' first|refine Y ?_|refine Y2 ?_ ?_|refine Y1 fun hh=>?_|exact Y0.mk);(all_goals (try conv => whnf)))
  refine Sy.loop_inv Sy.tab_ok (fun n : Nat => [(13, .c (.v (.int .i64 n)))]) (fun _ => []) (fun n => n ≤ a.length ∧ a.take n = b.take n) (fun n => a.length - n) 0 ⟨Nat.zero_le _, rfl⟩ ?_ (fun n hn => ?_)
  ·((repeat' (first|((conv => whnf);done)|((try conv => whnf);first|exact trivial|(refine And.intro ?_ ?_)|rfl|exact fun _ _ _ h=>h|exact fun _ _ _ _=>trivial)));(all_goals (try conv => whnf)))
  ·obtain ⟨hn, ht⟩ := hn
   by_cases hlt : n < a.length
   ·have hlb : n < b.length := by omega
    have ga := List.getElem?_eq_getElem hlt
    have gb := List.getElem?_eq_getElem hlb
    have sa : a.take (n + 1) = a.take n ++ [a[n]] := List.take_succ_eq_append_getElem hlt
    have sb : b.take (n + 1) = b.take n ++ [b[n]] := List.take_succ_eq_append_getElem hlb
    generalize a[n] = x at *
    generalize b[n] = y at *
    ((repeat' first|refine Y ?_|refine Y2 ?_ ?_|refine Y1 fun hh=>?_|exact Y0.mk);(all_goals (try conv => whnf)))
    refine Sy.draw_go [] (by kernel_rfl) ?_
    intro e0
    conv => whnf
    refine zt 0 rfl ?_
    conv => whnf
    refine zt 1 rfl ?_
    conv => whnf
    refine zt 2 rfl ?_
    ((repeat' first|refine Y ?_|refine Y2 ?_ ?_|refine Y1 fun hh=>?_|exact Y0.mk);(all_goals (try conv => whnf)))
    refine zt 3 rfl ?_
    conv => whnf
    refine Sy.el_map x ga ?_
    conv => whnf
    refine zt 4 rfl ?_
    conv => whnf
    refine zt 5 rfl ?_
    conv => whnf
    refine zt 6 rfl ?_
    ((repeat' first|refine Y ?_|refine Y2 ?_ ?_|refine Y1 fun hh=>?_|exact Y0.mk);(all_goals (try conv => whnf)))
    refine zt 7 rfl ?_
    conv => whnf
    refine Sy.el_map y gb ?_
    conv => whnf
    refine zt 8 rfl ?_
    ((repeat' first|refine Y ?_|refine Y2 ?_ ?_|refine Y1 fun hh=>?_|exact Y0.mk);(all_goals (try conv => whnf)))
    refine zw ?_
    skip
    all_goals
     by_cases he : x.sink = y.sink ∧ x.att = y.att ∧ x.ser = y.ser
     ·obtain ⟨e1, e2, e3⟩ := he
      have hxy : x = y := tx_ext e1 e2 e3
      ((repeat' first|refine Y ?_|refine Y2 ?_ ?_|refine Y1 fun hh=>?_|exact Y0.mk);(all_goals (try conv => whnf)))
      refine ⟨n + 1, ⟨by omega, by rw [sa, sb, ht, hxy]⟩, by omega, ?_⟩
      ((repeat' (first|((conv => whnf);done)|((try conv => whnf);first|exact trivial|(refine And.intro ?_ ?_)|rfl|exact fun _ _ _ h=>h|exact fun _ _ _ _=>trivial)));(all_goals (try conv => whnf)))
     ·rw [decide_eq_false (fun h => by
       subst h
       rw [ga] at gb
       cases gb
       exact he ⟨rfl, rfl, rfl⟩)]
      ((repeat' first|refine Y ?_|refine Y2 ?_ ?_|refine Y1 fun hh=>?_|exact Y0.mk);(all_goals (try conv => whnf)))
      all_goals (exfalso; omega)
   ·have e : n = a.length := by omega
    subst e
    rw [List.take_length, hlen, List.take_length] at ht
    rw [decide_eq_true ht]
    ((repeat' first|refine Y ?_|refine Y2 ?_ ?_|refine Y1 fun hh=>?_|exact Y0.mk);(all_goals (try conv => whnf)))
    all_goals done
 ·rw [decide_eq_false (fun h => hlen (by rw [h]))]
  ((repeat' first|refine Y ?_|refine Y2 ?_ ?_|refine Y1 fun hh=>?_|exact Y0.mk);(all_goals (try conv => whnf)))
  all_goals done
set_option maxHeartbeats 2000000 in
theorem eqK_any (u t : Value) (a b : List Kc) (w : World) (hu : XD.ok (fun b => b < w.heap.size) w ⟨u, 4, a.length, a.map encK⟩) (ht : XD.ok (fun b => b < w.heap.size) w ⟨t, 4, b.length, b.map encK⟩) :
  Calls Tryz.prog 140 #[u, t] w (Sy.Ret (.bool (decide (a = b))) w) := by
 have hl1 := ok_len hu
 have hl2 := ok_len ht
 refine Sy.calls_of Sy.lv140 Sy.tab_ok Tryz.func140 rfl _ Tryz.ntmps140 [⟨u, 4, a.length, a.map encK⟩, ⟨t, 4, b.length, b.map encK⟩] [.c (.row 0), .c (.row 1)] rfl rfl rfl ⟨hu, ht, trivial⟩ ?_
 by_cases hlen : a.length = b.length
 ·((repeat' first|refine Y ?_|refine Y2 ?_ ?_|refine Y1 fun hh=>?_|exact Y0.mk);(all_goals (try conv => whnf)))
  refine Sy.loop_inv Sy.tab_ok (fun n : Nat => [(13, .c (.v (.int .i64 n)))]) (fun _ => []) (fun n => n ≤ a.length ∧ a.take n = b.take n) (fun n => a.length - n) 0 ⟨Nat.zero_le _, rfl⟩ ?_ (fun n hn => ?_)
  ·((repeat' (first|((conv => whnf);done)|((try conv => whnf);first|exact trivial|(refine And.intro ?_ ?_)|rfl|exact fun _ _ _ h=>h|exact fun _ _ _ _=>trivial)));(all_goals (try conv => whnf)))
  ·obtain ⟨hn, ht⟩ := hn
   by_cases hlt : n < a.length
   ·have hlb : n < b.length := by omega
    have ga := List.getElem?_eq_getElem hlt
    have gb := List.getElem?_eq_getElem hlb
    have sa : a.take (n + 1) = a.take n ++ [a[n]] := List.take_succ_eq_append_getElem hlt
    have sb : b.take (n + 1) = b.take n ++ [b[n]] := List.take_succ_eq_append_getElem hlb
    generalize a[n] = x at *
    generalize b[n] = y at *
    ((repeat' first|refine Y ?_|refine Y2 ?_ ?_|refine Y1 fun hh=>?_|exact Y0.mk);(all_goals (try conv => whnf)))
    refine Sy.draw_go [] (by kernel_rfl) ?_
    intro e0
    conv => whnf
    refine zt 0 rfl ?_
    conv => whnf
    refine zt 1 rfl ?_
    conv => whnf
    refine zt 2 rfl ?_
    ((repeat' first|refine Y ?_|refine Y2 ?_ ?_|refine Y1 fun hh=>?_|exact Y0.mk);(all_goals (try conv => whnf)))
    refine zt 3 rfl ?_
    conv => whnf
    refine Sy.el_map x ga ?_
    conv => whnf
    refine zt 4 rfl ?_
    conv => whnf
    refine zt 5 rfl ?_
    conv => whnf
    refine zt 6 rfl ?_
    ((repeat' first|refine Y ?_|refine Y2 ?_ ?_|refine Y1 fun hh=>?_|exact Y0.mk);(all_goals (try conv => whnf)))
    refine zt 7 rfl ?_
    conv => whnf
    refine Sy.el_map y gb ?_
    conv => whnf
    refine zt 8 rfl ?_
    ((repeat' first|refine Y ?_|refine Y2 ?_ ?_|refine Y1 fun hh=>?_|exact Y0.mk);(all_goals (try conv => whnf)))
    refine zw ?_
    skip
    all_goals
     by_cases he : x.src = y.src ∧ x.key = y.key ∧ x.cnt = y.cnt ∧ x.sum = y.sum
     ·obtain ⟨e1, e2, e3, e4⟩ := he
      have hxy : x = y := kc_ext e1 e2 e3 e4
      ((repeat' first|refine Y ?_|refine Y2 ?_ ?_|refine Y1 fun hh=>?_|exact Y0.mk);(all_goals (try conv => whnf)))
      refine ⟨n + 1, ⟨by omega, by rw [sa, sb, ht, hxy]⟩, by omega, ?_⟩
      ((repeat' (first|((conv => whnf);done)|((try conv => whnf);first|exact trivial|(refine And.intro ?_ ?_)|rfl|exact fun _ _ _ h=>h|exact fun _ _ _ _=>trivial)));(all_goals (try conv => whnf)))
     ·rw [decide_eq_false (fun h => by
       subst h
       rw [ga] at gb
       cases gb
       exact he ⟨rfl, rfl, rfl, rfl⟩)]
      ((repeat' first|refine Y ?_|refine Y2 ?_ ?_|refine Y1 fun hh=>?_|exact Y0.mk);(all_goals (try conv => whnf)))
      all_goals (exfalso; omega)
   ·have e : n = a.length := by omega
    subst e
    rw [List.take_length, hlen, List.take_length] at ht
    rw [decide_eq_true ht]
    ((repeat' first|refine Y ?_|refine Y2 ?_ ?_|refine Y1 fun hh=>?_|exact Y0.mk);(all_goals (try conv => whnf)))
    all_goals done
 ·rw [decide_eq_false (fun h => hlen (by rw [h]))]
  ((repeat' first|refine Y ?_|refine Y2 ?_ ?_|refine Y1 fun hh=>?_|exact Y0.mk);(all_goals (try conv => whnf)))
  all_goals done
theorem sameTbl_any (u t : Value) (a b : List Kc) (w : World) (hu : XD.ok (fun b => b < w.heap.size) w ⟨u, 4, a.length, a.map encK⟩) (ht : XD.ok (fun b => b < w.heap.size) w ⟨t, 4, b.length, b.map encK⟩) :
  Calls Tryz.prog 91 #[.agg #[u], .agg #[t]] w (Sy.Ret (.bool (decide (a = b))) w) := by
 refine Sy.calls_of Sy.lv91 Sy.tab_ok Tryz.func91 rfl _ Tryz.ntmps91 [⟨u, 4, a.length, a.map encK⟩, ⟨t, 4, b.length, b.map encK⟩] [.agg [.row 0], .agg [.row 1]] rfl rfl rfl ⟨hu, ht, trivial⟩ ?_
 ((repeat' first|refine Y ?_|refine Y2 ?_ ?_|refine Y1 fun hh=>?_|exact Y0.mk);(all_goals (try conv => whnf)))
 refine Sy.call_val (.c (.v (.bool (decide (a = b))))) Tryz.call140 rfl (fun e _ w' h => eqK_any (e.rv 0) (e.rv 1) a b w' (Sy.row_reads h (.inr rfl)) (Sy.row_reads h (.inr rfl))) ?_
 ((repeat' first|refine Y ?_|refine Y2 ?_ ?_|refine Y1 fun hh=>?_|exact Y0.mk);(all_goals (try conv => whnf)))
 all_goals done
set_option maxHeartbeats 4000000 in
theorem same_any (a b : SnV) (w : World) (ha : SOk (fun b => b < w.heap.size) w a) (hb : SOk (fun b => b < w.heap.size) w b) : Calls Tryz.prog 36 #[.agg (encS a).toArray, .agg (encS b).toArray] w (Sy.Ret (.bool (decide (a.sn = b.sn))) w) := by
 obtain ⟨⟨op, idx, wid, fin, rows, o, txs⟩, u, t⟩ := a
 obtain ⟨⟨op', idx', wid', fin', rows', o', txs'⟩, u', t'⟩ := b
 refine Sy.calls_of Sy.lv36 Sy.tab_ok Tryz.func36 rfl _ Tryz.ntmps36 [⟨u, 4, rows.length, rows.map encK⟩, ⟨t, 3, txs.length, txs.map encT⟩, ⟨u', 4, rows'.length, rows'.map encK⟩, ⟨t', 3, txs'.length, txs'.map encT⟩] [.agg [.v (.int .i64 op), .v (.int .i64 idx), .v (.int .i64 wid), .v (.bool fin), .row 0, .v (.int .i64 (o 0)), .v (.int .i64 (o 1)), .v (.int .i64 (o 2)), .v (.int .i64 (o 3)), .v (.int .i64 (o 4)), .v (.int .i64 (o 5)), .v (.int .i64 (o 6)), .v (.int .i64 (o 7)), .row 1], .agg [.v (.int .i64 op'), .v (.int .i64 idx'), .v (.int .i64 wid'), .v (.bool fin'), .row 2, .v (.int .i64 (o' 0)), .v (.int .i64 (o' 1)), .v (.int .i64 (o' 2)), .v (.int .i64 (o' 3)), .v (.int .i64 (o' 4)), .v (.int .i64 (o' 5)), .v (.int .i64 (o' 6)), .v (.int .i64 (o' 7)), .row 3]] rfl rfl rfl ⟨ha.rows, ha.txs, hb.rows, hb.txs, trivial⟩ ?_
 obtain ⟨R, hR⟩ : ∃ R, R = decide (Sn.mk op idx wid fin rows o txs = ⟨op', idx', wid', fin', rows', o', txs'⟩) := ⟨_, rfl⟩
 rw [show decide (SnV.sn ⟨⟨op, idx, wid, fin, rows, o, txs⟩, u, t⟩ = SnV.sn ⟨⟨op', idx', wid', fin', rows', o', txs'⟩, u', t'⟩) = R from hR.symm]
 by_cases h1 : op = op' ∧ idx = idx' ∧ wid = wid'
 ·obtain ⟨e1, e2, e3⟩ := h1
  by_cases e4 : fin = fin'
  ·have e4b : (fin == fin') = true := beq_iff_eq.2 e4
   by_cases hz : o 0 = o' 0 ∧ o 1 = o' 1 ∧ o 2 = o' 2 ∧ o 3 = o' 3 ∧ o 4 = o' 4 ∧ o 5 = o' 5 ∧ o 6 = o' 6 ∧ o 7 = o' 7
   ·obtain ⟨z0, z1, z2, z3, z4, z5, z6, z7⟩ := hz
    have e6 : o = o' := funext (fin8 z0 z1 z2 z3 z4 z5 z6 z7)
    ((repeat' first|refine Y ?_|refine Y2 ?_ ?_|refine Y1 fun hh=>?_|exact Y0.mk);(all_goals (try conv => whnf)))
    refine Sy.call_val (.c (.v (.bool (decide (rows = rows'))))) Tryz.call91 rfl (fun e a w' h => sameTbl_any (e.rv 0) (e.rv 2) rows rows' w' (Sy.row_reads h (.inr rfl)) (Sy.row_reads h (.inr rfl))) ?_
    by_cases e5 : rows = rows'
    ·rw [decide_eq_true e5]
     ((repeat' first|refine Y ?_|refine Y2 ?_ ?_|refine Y1 fun hh=>?_|exact Y0.mk);(all_goals (try conv => whnf)))
     refine Sy.call_val (.c (.v (.bool (decide (txs = txs'))))) Tryz.call37 rfl (fun e a w' h => eqT_any (e.rv 1) (e.rv 3) txs txs' w' (Sy.row_reads h (.inr rfl)) (Sy.row_reads h (.inr rfl))) ?_
     have hR2 : R = decide (txs = txs') := by
      rw [hR, Bool.eq_iff_iff, decide_eq_true_iff, decide_eq_true_iff]
      exact ⟨fun h => (Sn.mk.inj h).2.2.2.2.2.2, fun h => sn_ext e1 e2 e3 e4 e5 e6 h⟩
     rw [hR2]
     ((repeat' first|refine Y ?_|refine Y2 ?_ ?_|refine Y1 fun hh=>?_|exact Y0.mk);(all_goals (try conv => whnf)))
     all_goals done
    ·rw [decide_eq_false e5, hR, decide_eq_false (fun h => e5 (Sn.mk.inj h).2.2.2.2.1)]
     ((repeat' first|refine Y ?_|refine Y2 ?_ ?_|refine Y1 fun hh=>?_|exact Y0.mk);(all_goals (try conv => whnf)))
     all_goals done
   ·rw [hR, decide_eq_false (fun h => hz (by
     have e6 := (Sn.mk.inj h).2.2.2.2.2.1
     subst e6
     exact ⟨rfl, rfl, rfl, rfl, rfl, rfl, rfl, rfl⟩))]
    ((repeat' first|refine Y ?_|refine Y2 ?_ ?_|refine Y1 fun hh=>?_|exact Y0.mk);(all_goals (try conv => whnf)))
    all_goals first | (exfalso; omega) | done
  ·have e4b : (fin == fin') = false := beq_eq_false_iff_ne.2 e4
   rw [hR, decide_eq_false (fun h => e4 (Sn.mk.inj h).2.2.2.1)]
   ((repeat' first|refine Y ?_|refine Y2 ?_ ?_|refine Y1 fun hh=>?_|exact Y0.mk);(all_goals (try conv => whnf)))
   all_goals done
 ·rw [hR, decide_eq_false (fun h => h1 ⟨(Sn.mk.inj h).1, (Sn.mk.inj h).2.1, (Sn.mk.inj h).2.2.1⟩)]
  ((repeat' first|refine Y ?_|refine Y2 ?_ ?_|refine Y1 fun hh=>?_|exact Y0.mk);(all_goals (try conv => whnf)))
  all_goals first | (exfalso; omega) | done
end Go.Proofs.YtgkkpefpbfadoaaGreat.Sn
