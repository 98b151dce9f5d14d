/- Snap: snap.part, snap.Part. -/
import Derived.Test.YtmahldelmbhjfaaSnR
namespace Go.Proofs.Ytmahldelmbhjfaa
open Go Go.RowKit
open Sy (C SV V1 Blk St XD Els)
set_option maxRecDepth 10000

attribute [local irreducible] ownW tblB namesB rightP
set_option maxHeartbeats 8000000 in
theorem part1_any (s : SnV) (i n : Int) (w : World) (hr : SOk (fun b => b < w.heap.size) w s) (hl : tblB s.sn.rows = true) (hsh : shareP i n) :
    Calls Try.prog 44 #[.agg (encS s).toArray, .int .i64 i, .int .i64 n] w (Sy.RetRows Sy.noRow (fun _ : Unit => True) (fun _ => [⟨73, 4, (partS s.sn i n).rows.length, (partS s.sn i n).rows.map encK⟩]) (fun _ vs => retP (partS s.sn i n) vs) w) := by
  obtain ⟨⟨op, idx, wid, fin, rows, o, txs⟩, u, t⟩ := s
  dsimp only at hl
  have hfin : ∀ r : Fin 8 → Int, overP (ownL i n) (ownL i n).length o (fun _ => 0) r → partS ⟨op, idx, wid, fin, rows, o, txs⟩ i n = ⟨op, i, n, fin, partR rows i n, r, []⟩ := fun r h => by
    have : (fun g : Fin 8 => if ownW (g.val : Int) n = i then o g else 0) = r := funext fun g => by
      by_cases hg : ownW (g.val : Int) n = i
      · rw [if_pos hg, (h g).1 (by rw [List.take_length]; exact ownL_mem.2 ⟨by omega, hg⟩)]
      · rw [if_neg hg, (h g).2 (fun hm => hg (by rw [List.take_length] at hm; exact (ownL_mem.1 hm).2))]
    unfold partS
    rw [this]
  refine Sy.calls_of Sy.lv44 Sy.tab_ok Try.func44 rfl _ Try.ntmps44 [⟨u, 4, rows.length, rows.map encK⟩, ⟨t, 3, txs.length, txs.map encT⟩] [.agg [.v (.int .i64 op), .v (.int .i64 idx), .v (.int .i64 wid), .v (.bool fin), .row 0, .v (.int .i64 (o 0)), .v (.int .i64 (o 1)), .v (.int .i64 (o 2)), .v (.int .i64 (o 3)), .v (.int .i64 (o 4)), .v (.int .i64 (o 5)), .v (.int .i64 (o 6)), .v (.int .i64 (o 7)), .row 1], .c (.v (.int .i64 i)), .c (.v (.int .i64 n))] rfl rfl rfl ⟨hr.rows, hr.txs, trivial⟩ ?_
  ((repeat' ((conv => whnf);(first|refine zA ?_|(refine zI ?_ ?_<;> intro hh<;> first|(exfalso;omega)|skip)|(refine zl ?_ ?_<;> intro hh)|refine zq ?_|refine zv ?_|refine zu ?_|exact Sy.fin_val fun e=>rfl)));(all_goals (try conv => whnf)))
  refine Sy.call_r1 ⟨73, 4, (partR rows i n).length, (partR rows i n).map encK⟩ (fun j => .tup [.agg [.row j], .c (.v (.int .i64 0))]) Try.call84 (fun e a w' h => tpart_any (e.rv 0) rows i n w' (Sy.row_reads h (.inr rfl)) hl hsh) ?_
  ((repeat' ((conv => whnf);(first|refine zA ?_|(refine zI ?_ ?_<;> intro hh<;> first|(exfalso;omega)|skip)|(refine zl ?_ ?_<;> intro hh)|refine zq ?_|refine zv ?_|refine zu ?_|exact Sy.fin_val fun e=>rfl)));(all_goals (try conv => whnf)))
  refine Sy.call_in Sy.lv50 Sy.tab_ok Try.func50 rfl _ Try.ntmps50 Try.call50 rfl (fun _ => ?_)
  ((repeat' ((conv => whnf);(first|refine zA ?_|(refine zI ?_ ?_<;> intro hh<;> first|(exfalso;omega)|skip)|(refine zl ?_ ?_<;> intro hh)|refine zq ?_|refine zv ?_|refine zu ?_|exact Sy.fin_val fun e=>rfl)));(all_goals (try conv => whnf)))
  refine Sy.call_r1 ⟨3, 1, (ownF i n).length, (ownF i n).map encI⟩ (fun j => .tup [.c (.row j), .c (.v (.int .i64 (ownE i n)))]) Try.call43 (fun e a w' h => owned_any i n w') ?_
  have hF : ownF i n = ownL i n := if_pos hsh
  have hEo : ownE i n = 0 := if_pos hsh
  have hol : (ownL i n).length ≤ 8 := ownN_len i n 8
  rw [hEo, hF]
  ((repeat' ((conv => whnf);(first|refine zA ?_|(refine zI ?_ ?_<;> intro hh<;> first|(exfalso;omega)|skip)|(refine zl ?_ ?_<;> intro hh)|refine zq ?_|refine zv ?_|refine zu ?_|exact Sy.fin_val fun e=>rfl)));(all_goals (try conv => whnf)))
  refine Sy.call_in Sy.lv91 Sy.tab_ok Try.func91 rfl _ Try.ntmps91 Try.call91 rfl (fun _ => ?_)
  ((repeat' ((conv => whnf);(first|refine zA ?_|(refine zI ?_ ?_<;> intro hh<;> first|(exfalso;omega)|skip)|(refine zl ?_ ?_<;> intro hh)|refine zq ?_|refine zv ?_|refine zu ?_|exact Sy.fin_val fun e=>rfl)));(all_goals (try conv => whnf)))
  refine Sy.sem_range Sy.lv114 Sy.tab_ok _ rfl rfl Try.func114 rfl Try.ntmps114 Try.call114 rfl (fun _ _ => ?_)
  ((repeat' ((conv => whnf);(first|refine zA ?_|(refine zI ?_ ?_<;> intro hh<;> first|(exfalso;omega)|skip)|(refine zl ?_ ?_<;> intro hh)|refine zq ?_|refine zv ?_|refine zu ?_|exact Sy.fin_val fun e=>rfl)));(all_goals (try conv => whnf)))
  have hGm : ∀ x ∈ ownL i n, 0 ≤ x ∧ x < 8 := fun x hx => (ownL_mem.1 hx).1
  generalize ownL i n = G at *
  refine Sy.loop_inv Sy.tab_ok (fun x : Nat × (Fin 8 → Int) => [(7, .c (.v (.int .i64 x.1)))]) (fun x => [(4, .cells 33 [.v (.int .i64 op), .v (.int .i64 i), .v (.int .i64 n), .v (.bool fin), .row 5, .v (.int .i64 (x.2 0)), .v (.int .i64 (x.2 1)), .v (.int .i64 (x.2 2)), .v (.int .i64 (x.2 3)), .v (.int .i64 (x.2 4)), .v (.int .i64 (x.2 5)), .v (.int .i64 (x.2 6)), .v (.int .i64 (x.2 7)), .v (.slice none 0 0)])]) (fun x => x.1 ≤ G.length ∧ overP G x.1 o (fun _ => 0) x.2) (fun x => G.length - x.1) (0, fun _ => 0) ⟨Nat.zero_le _, over_zero _ _ _⟩ ?_ (fun x hx2 => ?_)
  · ((repeat' (first|((conv => whnf);done)|((try conv => whnf);first|exact trivial|(refine And.intro ?_ ?_)|rfl|exact fun _ _ _ h=>h|exact fun _ _ _ _=>trivial)));(all_goals (try conv => whnf)))
  · obtain ⟨j, r'⟩ := x
    obtain ⟨hj, hov⟩ := hx2
    dsimp only at hj hov ⊢
    by_cases hlt2 : j < G.length
    · have hg2 := List.getElem?_eq_getElem hlt2
      generalize G[j] = x at *
      have hxm2 := hGm x (List.mem_of_getElem? hg2)
      have hgv := gI_val hxm2
      have hst := over_step hov hg2 hxm2
      generalize gI x = g at *
      have hgx : x = (g.val : Int) := hgv.symm
      clear hgv hov
      ((repeat' ((conv => whnf);(first|refine zA ?_|(refine zI ?_ ?_<;> intro hh<;> first|(exfalso;omega)|skip)|(refine zl ?_ ?_<;> intro hh)|refine zq ?_|refine zv ?_|refine zu ?_|exact Sy.fin_val fun e=>rfl)));(all_goals (try conv => whnf)))
      refine Sy.el_map x hg2 ?_
      ((repeat' ((conv => whnf);(first|refine zA ?_|(refine zI ?_ ?_<;> intro hh<;> first|(exfalso;omega)|skip)|(refine zl ?_ ?_<;> intro hh)|refine zq ?_|refine zv ?_|refine zu ?_|exact Sy.fin_val fun e=>rfl)));(all_goals (try conv => whnf)))
      induction g, x, hgx using fin8x
      all_goals
        refine Sy.yield_in Sy.tab_ok rfl rfl rfl rfl rfl (fun _ => ?_)
        ((repeat' ((conv => whnf);(first|refine zA ?_|(refine zI ?_ ?_<;> intro hh<;> first|(exfalso;omega)|skip)|(refine zl ?_ ?_<;> intro hh)|refine zq ?_|refine zv ?_|refine zu ?_|exact Sy.fin_val fun e=>rfl)));(all_goals (try conv => whnf)))
        refine ⟨(j + 1, _), ⟨by dsimp only; omega, hst⟩, by dsimp only; omega, ?_⟩
        dsimp only
        ((repeat' (first|((conv => whnf);done)|((try conv => whnf);first|exact trivial|(refine And.intro ?_ ?_)|rfl|exact fun _ _ _ h=>h|exact fun _ _ _ _=>trivial)));(all_goals (try conv => whnf)))
    · have e : j = G.length := by omega
      subst e
      rw [hfin r' hov]
      ((repeat' ((conv => whnf);(first|refine zA ?_|(refine zI ?_ ?_<;> intro hh<;> first|(exfalso;omega)|skip)|(refine zl ?_ ?_<;> intro hh)|refine zq ?_|refine zv ?_|refine zu ?_|exact Sy.fin_val fun e=>rfl)));(all_goals (try conv => whnf)))
      exact Sy.fin_r1 (.row 5) rfl (fun e => rfl)
end Go.Proofs.Ytmahldelmbhjfaa
