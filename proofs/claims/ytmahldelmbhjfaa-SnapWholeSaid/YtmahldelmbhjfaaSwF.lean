/- Snap: the law Whole. -/
import Derived.Test.YtmahldelmbhjfaaSwE
namespace Go.Proofs.Ytmahldelmbhjfaa
open Go Go.RowKit
open Sy (C SV V1 Blk St XD Els)
set_option maxRecDepth 10000

theorem whole_len (L : List Sn) : (wholeV L).rows.length ≤ 256 ∧ (wholeV L).txs.length ≤ 24 := by
  by_cases h : wholeE L = 0
  · rw [show wholeV L = wholeS L from if_pos h]
    obtain ⟨s0, h0, hl3, hop, hp, hw⟩ := whole_win h
    have := rows_len hw.rows
    rw [take_all] at this
    exact ⟨this, names_len (whole_zero h).2.2⟩
  · rw [show wholeV L = sn0 from if_neg h]
    exact ⟨by decide, by decide⟩
attribute [local irreducible] ownW tblB namesB rightP wholeS wholeE wholeV partsL shortsL rescV rescE
set_option maxHeartbeats 8000000 in
theorem lwhole_any (v u : Value) (ls : List SnV) (ns : List Int) (w : World) (hr : SsOk (fun b => b < w.heap.size) w v ls) (hv : XD.ok (fun b => b < w.heap.size) w ⟨u, 1, ns.length, ns.map encI⟩) :
    Calls Try.prog 5 #[v, u] w (Sy.Ret (.bool true) w) := by
  have hl := ok_len hr.1
  have hnl := ok_len hv
  refine Sy.calls_of Sy.lv5 Sy.tab_ok Try.func5 rfl _ Try.ntmps5 [⟨v, 14, ls.length, ls.map encS⟩, ⟨u, 1, ns.length, ns.map encI⟩] [.c (.row 0), .c (.row 1)] rfl rfl rfl ⟨hr.1, hv, trivial⟩ ?_
  ((repeat' ((conv => whnf);(first|refine zA ?_|(refine zI ?_ ?_<;> intro hh<;> first|(exfalso;omega)|skip)|(refine zl ?_ ?_<;> intro hh)|refine zq ?_|refine zv ?_|refine zu ?_|exact Sy.fin_val fun e=>rfl)));(all_goals (try conv => whnf)))
  refine Sy.call_val (.c (.v (.bool true))) Try.call10 rfl (fun e a w' h => wakes_any w') ?_
  ((repeat' ((conv => whnf);(first|refine zA ?_|(refine zI ?_ ?_<;> intro hh<;> first|(exfalso;omega)|skip)|(refine zl ?_ ?_<;> intro hh)|refine zq ?_|refine zv ?_|refine zu ?_|exact Sy.fin_val fun e=>rfl)));(all_goals (try conv => whnf)))
  refine Sy.call_mem (fun (x : SlL (shortsL (snsOf ls))) G w' => SsOk G w' x.v x.ls) (fun x => .c (.v x.v)) Try.call18 (fun x => x.h) (fun x G G' w1 w2 h hG hk => h.keep hG hk) (fun e a w' h => shorts_mem _ ls w' ⟨Sy.row_reads h (.inr rfl), fun s hs => ⟨Sy.later_in h (hr.2 s hs).rows, Sy.later_in h (hr.2 s hs).txs⟩⟩) (fun x G1 => ?_)
  ((repeat' ((conv => whnf);(first|refine zA ?_|(refine zI ?_ ?_<;> intro hh<;> first|(exfalso;omega)|skip)|(refine zl ?_ ?_<;> intro hh)|refine zq ?_|refine zv ?_|refine zu ?_|exact Sy.fin_val fun e=>rfl)));(all_goals (try conv => whnf)))
  refine Sy.call_mem (fun (x : SlL (shortsL (snsOf ls))) G w' => SsOk G w' x.v x.ls) (fun x => .c (.v x.v)) Try.call18 (fun x => x.h) (fun x G G' w1 w2 h hG hk => h.keep hG hk) (fun e a w' h => shorts_mem _ ls w' ⟨Sy.row_reads h (.inr rfl), fun s hs => ⟨Sy.later_in h (hr.2 s hs).rows, Sy.later_in h (hr.2 s hs).txs⟩⟩) (fun y G2 => ?_)
  obtain ⟨lv, la, hlv, hla⟩ := x
  obtain ⟨wv, wa, hwv, hwa⟩ := y
  generalize shortsL (snsOf ls) = L at *
  obtain ⟨V, hV⟩ : ∃ V, V = wholeV L := ⟨_, rfl⟩
  obtain ⟨E, hE⟩ : ∃ E, E = wholeE L := ⟨_, rfl⟩
  ((repeat' ((conv => whnf);(first|refine zA ?_|(refine zI ?_ ?_<;> intro hh<;> first|(exfalso;omega)|skip)|(refine zl ?_ ?_<;> intro hh)|refine zq ?_|refine zv ?_|refine zu ?_|exact Sy.fin_val fun e=>rfl)));(all_goals (try conv => whnf)))
  refine Sy.call_r2f (v := fun _ vs => retS V E vs) ⟨73, 4, V.rows.length, V.rows.map encK⟩ ⟨89, 3, V.txs.length, V.txs.map encT⟩ (fun k => .tup [.agg (cellS V (.row k) (.row (k + 1))), .c (.v (.int .i64 E))]) Try.call19 (fun e a w' h => by
    have := whole_any _ la w' (SsOk.mono (h.ev w' fun _ _ => rfl).1.2 fun b hb => h.fl b (.inl hb))
    rw [hla, ← hV, ← hE] at this; exact this) ?_
  ((repeat' ((conv => whnf);(first|refine zA ?_|(refine zI ?_ ?_<;> intro hh<;> first|(exfalso;omega)|skip)|(refine zl ?_ ?_<;> intro hh)|refine zq ?_|refine zv ?_|refine zu ?_|exact Sy.fin_val fun e=>rfl)));(all_goals (try conv => whnf)))
  refine Sy.call_r2f (v := fun _ vs => retS V E vs) ⟨73, 4, V.rows.length, V.rows.map encK⟩ ⟨89, 3, V.txs.length, V.txs.map encT⟩ (fun k => .tup [.agg (cellS V (.row k) (.row (k + 1))), .c (.v (.int .i64 E))]) Try.call20 (fun e a w' h => by
    have := rwhole_any _ wa w' (SsOk.mono (h.ev w' fun _ _ => rfl).2 fun b hb => h.fl b hb)
    rw [hwa, ← hV, ← hE] at this; exact this) ?_
  ((repeat' ((conv => whnf);(first|refine zA ?_|(refine zI ?_ ?_<;> intro hh<;> first|(exfalso;omega)|skip)|(refine zl ?_ ?_<;> intro hh)|refine zq ?_|refine zv ?_|refine zu ?_|exact Sy.fin_val fun e=>rfl)));(all_goals (try conv => whnf)))
  refine Sy.call_val (.c (.v (.bool true))) Try.call13 rfl (fun e a w' h => by
    have := rsame_any ⟨V, e.rv 2, e.rv 3⟩ ⟨V, e.rv 5, e.rv 6⟩ w' ⟨Sy.row_reads h (.inl ⟨_, rfl⟩), Sy.row_reads h (.inl ⟨_, rfl⟩)⟩ ⟨Sy.row_reads h (.inl ⟨_, rfl⟩), Sy.row_reads h (.inl ⟨_, rfl⟩)⟩
    rw [decide_eq_true rfl] at this; exact this) ?_
  ((repeat' ((conv => whnf);(first|refine zA ?_|(refine zI ?_ ?_<;> intro hh<;> first|(exfalso;omega)|skip)|(refine zl ?_ ?_<;> intro hh)|refine zq ?_|refine zv ?_|refine zu ?_|exact Sy.fin_val fun e=>rfl)));(all_goals (try conv => whnf)))
  refine Sy.call_val (.c (.v (.bool true))) Try.call21 rfl (fun e a w' h => all_any lv wv la wa w' (SsOk.mono (h.ev w' fun _ _ => rfl).1.2 fun b hb => h.fl b (.inl hb)) (SsOk.mono (h.ev w' fun _ _ => rfl).2 fun b hb => h.fl b hb) (by rw [hla, hwa])) ?_
  ((repeat' ((conv => whnf);(first|refine zA ?_|(refine zI ?_ ?_<;> intro hh<;> first|(exfalso;omega)|skip)|(refine zl ?_ ?_<;> intro hh)|refine zq ?_|refine zv ?_|refine zu ?_|exact Sy.fin_val fun e=>rfl)));(all_goals (try conv => whnf)))
  refine Sy.call_in Sy.lv17 Sy.tab_ok Try.func17 rfl _ Try.ntmps17 Try.call17 rfl (fun _ => ?_)
  obtain ⟨hV1, hV2⟩ : V.rows.length ≤ 256 ∧ V.txs.length ≤ 24 := by rw [hV]; exact whole_len L
  ((repeat' ((conv => whnf);(first|refine zA ?_|(refine zI ?_ ?_<;> intro hh<;> first|(exfalso;omega)|skip)|(refine zl ?_ ?_<;> intro hh)|refine zq ?_|refine zv ?_|refine zu ?_|exact Sy.fin_val fun e=>rfl)));(all_goals (try conv => whnf)))
  refine Sy.loop_inv Sy.tab_ok (fun y : Nat × List Kc => [(8, .c (.v (.int .i64 y.1)))]) (fun y => [(2, .row 73 4 V.rows.length (.vs (y.2.map encK)))]) (fun y => y.1 ≤ V.rows.length ∧ y.2.length = V.rows.length) (fun y => V.rows.length - y.1) (0, V.rows) ⟨Nat.zero_le _, rfl⟩ ?_ (fun y hy => ?_)
  · ((repeat' (first|((conv => whnf);done)|((try conv => whnf);first|exact trivial|(refine And.intro ?_ ?_)|rfl|exact fun _ _ _ h=>h|exact fun _ _ _ _=>trivial)));(all_goals (try conv => whnf)))
  · obtain ⟨j, zs⟩ := y
    obtain ⟨hj, hz⟩ := hy
    dsimp only at hj hz ⊢
    by_cases hlt2 : j < V.rows.length
    · have hg2 := List.getElem?_eq_getElem (show j < zs.length by omega)
      generalize zs[j] = z at *
      ((repeat' ((conv => whnf);(first|refine zA ?_|(refine zI ?_ ?_<;> intro hh<;> first|(exfalso;omega)|skip)|(refine zl ?_ ?_<;> intro hh)|refine zq ?_|refine zv ?_|refine zu ?_|exact Sy.fin_val fun e=>rfl)));(all_goals (try conv => whnf)))
      refine Sy.el_map z hg2 ?_
      ((repeat' ((conv => whnf);(first|refine zA ?_|(refine zI ?_ ?_<;> intro hh<;> first|(exfalso;omega)|skip)|(refine zl ?_ ?_<;> intro hh)|refine zq ?_|refine zv ?_|refine zu ?_|exact Sy.fin_val fun e=>rfl)));(all_goals (try conv => whnf)))
      refine ⟨(j + 1, zs.set j ⟨z.src, z.key, z.cnt, 99⟩), ⟨by dsimp only; omega, by dsimp only; rw [List.length_set]; exact hz⟩, by dsimp only; omega, ?_⟩
      dsimp only
      rw [List.map_set]
      ((repeat' (first|((conv => whnf);done)|((try conv => whnf);first|exact trivial|(refine And.intro ?_ ?_)|rfl|exact fun _ _ _ h=>h|exact fun _ _ _ _=>trivial)));(all_goals (try conv => whnf)))
    · ((repeat' ((conv => whnf);(first|refine zA ?_|(refine zI ?_ ?_<;> intro hh<;> first|(exfalso;omega)|skip)|(refine zl ?_ ?_<;> intro hh)|refine zq ?_|refine zv ?_|refine zu ?_|exact Sy.fin_val fun e=>rfl)));(all_goals (try conv => whnf)))
      refine Sy.loop_inv Sy.tab_ok (fun y : Nat × List Tx => [(22, .c (.v (.int .i64 y.1)))]) (fun y => [(3, .row 89 3 V.txs.length (.vs (y.2.map encT)))]) (fun y => y.1 ≤ V.txs.length ∧ y.2.length = V.txs.length) (fun y => V.txs.length - y.1) (0, V.txs) ⟨Nat.zero_le _, rfl⟩ ?_ (fun y hy => ?_)
      · ((repeat' (first|((conv => whnf);done)|((try conv => whnf);first|exact trivial|(refine And.intro ?_ ?_)|rfl|exact fun _ _ _ h=>h|exact fun _ _ _ _=>trivial)));(all_goals (try conv => whnf)))
      · obtain ⟨i, ts⟩ := y
        obtain ⟨hi, hs⟩ := hy
        dsimp only at hi hs ⊢
        by_cases hlt3 : i < V.txs.length
        · have hg3 := List.getElem?_eq_getElem (show i < ts.length by omega)
          generalize ts[i] = t at *
          ((repeat' ((conv => whnf);(first|refine zA ?_|(refine zI ?_ ?_<;> intro hh<;> first|(exfalso;omega)|skip)|(refine zl ?_ ?_<;> intro hh)|refine zq ?_|refine zv ?_|refine zu ?_|exact Sy.fin_val fun e=>rfl)));(all_goals (try conv => whnf)))
          refine Sy.el_map t hg3 ?_
          ((repeat' ((conv => whnf);(first|refine zA ?_|(refine zI ?_ ?_<;> intro hh<;> first|(exfalso;omega)|skip)|(refine zl ?_ ?_<;> intro hh)|refine zq ?_|refine zv ?_|refine zu ?_|exact Sy.fin_val fun e=>rfl)));(all_goals (try conv => whnf)))
          refine ⟨(i + 1, ts.set i ⟨t.sink, t.att, 99⟩), ⟨by dsimp only; omega, by dsimp only; rw [List.length_set]; exact hs⟩, by dsimp only; omega, ?_⟩
          dsimp only
          rw [List.map_set]
          ((repeat' (first|((conv => whnf);done)|((try conv => whnf);first|exact trivial|(refine And.intro ?_ ?_)|rfl|exact fun _ _ _ h=>h|exact fun _ _ _ _=>trivial)));(all_goals (try conv => whnf)))
        · ((repeat' ((conv => whnf);(first|refine zA ?_|(refine zI ?_ ?_<;> intro hh<;> first|(exfalso;omega)|skip)|(refine zl ?_ ?_<;> intro hh)|refine zq ?_|refine zv ?_|refine zu ?_|exact Sy.fin_val fun e=>rfl)));(all_goals (try conv => whnf)))
          refine Sy.call_val (.c (.v (.bool true))) Try.call21 rfl (fun e a w' h => all_any lv wv la wa w' (SsOk.mono (h.ev w' fun _ _ => rfl).1.2 fun b hb => h.fl b (.inl hb)) (SsOk.mono (h.ev w' fun _ _ => rfl).2 fun b hb => h.fl b hb) (by rw [hla, hwa])) ?_
          ((repeat' ((conv => whnf);(first|refine zA ?_|(refine zI ?_ ?_<;> intro hh<;> first|(exfalso;omega)|skip)|(refine zl ?_ ?_<;> intro hh)|refine zq ?_|refine zv ?_|refine zu ?_|exact Sy.fin_val fun e=>rfl)));(all_goals (try conv => whnf)))
          refine' Sy.loop_learn Sy.tab_ok (fun x : Nat × (Nat → Prop) × (World → Prop) => [(56, .c (.v (.int .i64 x.1)))]) (fun _ => []) (fun x => x.2.1) (fun x => x.2.2)
            (fun x => x.1 ≤ ns.length ∧ ∀ w', x.2.2 w' → SsOk x.2.1 w' lv la ∧ SsOk x.2.1 w' wv wa) (fun x => ns.length - x.1) (0, _, _) ?h0 ?hs (fun x hx => ?hr)
          case hs => ((repeat' (first|((conv => whnf);done)|((try conv => whnf);first|exact trivial|(refine And.intro ?_ ?_)|rfl|exact fun _ _ _ h=>h|exact fun _ _ _ _=>trivial)));(all_goals (try conv => whnf)))
          case h0 => exact ⟨Nat.zero_le _, fun w' hw => ⟨SsOk.mono hw.1.2 fun b hb => .inl hb, hw.2⟩⟩
          case hr =>
            obtain ⟨n, F, E'⟩ := x
            obtain ⟨hn, hE'⟩ := hx
            dsimp only at hn hE' ⊢
            by_cases hlt : n < ns.length
            · have hg := List.getElem?_eq_getElem hlt
              generalize ns[n] = m at *
              by_cases h5 : n = 5
              · ((repeat' ((conv => whnf);(first|refine zA ?_|(refine zI ?_ ?_<;> intro hh<;> first|(exfalso;omega)|skip)|(refine zl ?_ ?_<;> intro hh)|refine zq ?_|refine zv ?_|refine zu ?_|exact Sy.fin_val fun e=>rfl)));(all_goals (try conv => whnf)))
                refine Sy.el_map m hg ?_
                ((repeat' ((conv => whnf);(first|refine zA ?_|(refine zI ?_ ?_<;> intro hh<;> first|(exfalso;omega)|skip)|(refine zl ?_ ?_<;> intro hh)|refine zq ?_|refine zv ?_|refine zu ?_|exact Sy.fin_val fun e=>rfl)));(all_goals (try conv => whnf)))
                done
              · ((repeat' ((conv => whnf);(first|refine zA ?_|(refine zI ?_ ?_<;> intro hh<;> first|(exfalso;omega)|skip)|(refine zl ?_ ?_<;> intro hh)|refine zq ?_|refine zv ?_|refine zu ?_|exact Sy.fin_val fun e=>rfl)));(all_goals (try conv => whnf)))
                refine Sy.el_map m hg ?_
                ((repeat' ((conv => whnf);(first|refine zA ?_|(refine zI ?_ ?_<;> intro hh<;> first|(exfalso;omega)|skip)|(refine zl ?_ ?_<;> intro hh)|refine zq ?_|refine zv ?_|refine zu ?_|exact Sy.fin_val fun e=>rfl)));(all_goals (try conv => whnf)))
                refine Sy.call_mem (fun (x : SlL (rescV L m)) G w' => SsOk G w' x.v x.ls) (fun x => .tup [.c (.v x.v), .c (.v (.int .i64 (rescE L m)))]) Try.call22 (fun x => slE_lt _ x.h) (fun x G G' w1 w2 h hG hk => h.keep hG hk) (fun e a w' h => by
                  have := resc_mem lv la m w' (SsOk.mono (hE' w' (h.ev w' fun _ _ => rfl)).1 fun b hb => h.fl b hb)
                  rw [hla] at this; exact this) (fun x G1 => ?_)
                obtain ⟨xv, xa, hxv, hxa⟩ := x
                ((repeat' ((conv => whnf);(first|refine zA ?_|(refine zI ?_ ?_<;> intro hh<;> first|(exfalso;omega)|skip)|(refine zl ?_ ?_<;> intro hh)|refine zq ?_|refine zv ?_|refine zu ?_|exact Sy.fin_val fun e=>rfl)));(all_goals (try conv => whnf)))
                refine Sy.call_mem (fun (x : SlL (rescV L m)) G w' => SsOk G w' x.v x.ls) (fun x => .tup [.c (.v x.v), .c (.v (.int .i64 (rescE L m)))]) Try.call23 (fun x => slE_lt _ x.h) (fun x G G' w1 w2 h hG hk => h.keep hG hk) (fun e a w' h => by
                  have := rresc_mem wv wa m w' (SsOk.mono (hE' w' (h.ev w' fun _ _ => rfl).1).2 fun b hb => h.fl b (.inl hb))
                  rw [hwa] at this; exact this) (fun y G2 => ?_)
                obtain ⟨yv, ya, hyv, hya⟩ := y
                ((repeat' ((conv => whnf);(first|refine zA ?_|(refine zI ?_ ?_<;> intro hh<;> first|(exfalso;omega)|skip)|(refine zl ?_ ?_<;> intro hh)|refine zq ?_|refine zv ?_|refine zu ?_|exact Sy.fin_val fun e=>rfl)));(all_goals (try conv => whnf)))
                refine Sy.call_val (.c (.v (.bool true))) Try.call21 rfl (fun e a w' h => all_any xv yv xa ya w' (SsOk.mono (h.ev w' fun _ _ => rfl).1.2 fun b hb => h.fl b (.inl hb)) (SsOk.mono (h.ev w' fun _ _ => rfl).2 fun b hb => h.fl b hb) (by rw [hxa, hya])) ?_
                ((repeat' ((conv => whnf);(first|refine zA ?_|(refine zI ?_ ?_<;> intro hh<;> first|(exfalso;omega)|skip)|(refine zl ?_ ?_<;> intro hh)|refine zq ?_|refine zv ?_|refine zu ?_|exact Sy.fin_val fun e=>rfl)));(all_goals (try conv => whnf)))
                refine Sy.call_val (.c (.v (.bool true))) Try.call21 rfl (fun e a w' h => all_any lv wv la wa w' (SsOk.mono (hE' w' (h.ev w' fun _ _ => rfl).1.1).1 fun b hb => h.fl b (.inl (.inl hb))) (SsOk.mono (hE' w' (h.ev w' fun _ _ => rfl).1.1).2 fun b hb => h.fl b (.inl (.inl hb))) (by rw [hla, hwa])) ?_
                ((repeat' ((conv => whnf);(first|refine zA ?_|(refine zI ?_ ?_<;> intro hh<;> first|(exfalso;omega)|skip)|(refine zl ?_ ?_<;> intro hh)|refine zq ?_|refine zv ?_|refine zu ?_|exact Sy.fin_val fun e=>rfl)));(all_goals (try conv => whnf)))
                refine' ⟨(n + 1, _, _), ?c1, ?c2, ?c3⟩
                case c3 =>
                  dsimp only
                  ((repeat' (first|((conv => whnf);done)|((try conv => whnf);first|exact trivial|(refine And.intro ?_ ?_)|rfl|exact fun _ _ _ h=>h|exact fun _ _ _ _=>trivial)));(all_goals (try conv => whnf)))
                case c2 => dsimp only; omega
                case c1 => exact ⟨by dsimp only; omega, fun w' hw => ⟨SsOk.mono (hE' w' hw.1.1).1 fun b hb => .inl (.inl hb), SsOk.mono (hE' w' hw.1.1).2 fun b hb => .inl (.inl hb)⟩⟩
            · ((repeat' ((conv => whnf);(first|refine zA ?_|(refine zI ?_ ?_<;> intro hh<;> first|(exfalso;omega)|skip)|(refine zl ?_ ?_<;> intro hh)|refine zq ?_|refine zv ?_|refine zu ?_|exact Sy.fin_val fun e=>rfl)));(all_goals (try conv => whnf)))
              done
end Go.Proofs.Ytmahldelmbhjfaa
