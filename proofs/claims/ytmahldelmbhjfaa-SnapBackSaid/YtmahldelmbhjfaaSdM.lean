/- Snap: the law Back. -/
import Derived.Test.YtmahldelmbhjfaaSdL
import Derived.Test.YtmahldelmbhjfaaSnG
namespace Go.Proofs.Ytmahldelmbhjfaa
open Go Go.RowKit
open Sy (C SV V1 Blk St XD Els)
set_option maxRecDepth 10000

theorem enc_mem (s : SnV) (w : World) (hr : SOk (fun b => b < w.heap.size) w s) :
    Calls Try.prog 28 #[.agg (encS s).toArray] w (Sy.RetMem (fun (x : One) G w' => XD.ok G w' ⟨x.v, 1, (encV s.sn).length, (encV s.sn).map encB⟩) (fun x => .tuple #[x.v, .int .i64 (chkE s.sn)]) w) :=
  (mem_r1 0 (Nat.zero_le _) (enc_any s w hr)).mono fun _ _ ⟨x, hE, hb, hx⟩ => ⟨x, hE, hb, XD.ok.mono hx fun _ hb => hb.1⟩
theorem one_lt {n : Nat} {u : Value} (x : Int) (hu : u.oneCell' = true) : SV.lt n (.tup [.c (.v u), .c (.v (.int .i64 x))]) = true := by
  simp only [SV.lt, Sy.ltAll1, V1.lt, C.lt, hu]
  rfl
theorem shortS_rows (s : Sn) : ∀ x ∈ (shortS s).rows, x ∈ s.rows := fun _ hx => List.mem_of_mem_take hx
attribute [local irreducible] ownW tblB namesB rightP sBs encV chkE sdE sdV snOf shortS
set_option maxHeartbeats 8000000 in
theorem lback_any (s : SnV) (v : Value) (bs : List Int) (w : World) (hr : SOk (fun b => b < w.heap.size) w s) (hi : ∀ x ∈ s.sn.rows, InK x) (hv : XD.ok (fun b => b < w.heap.size) w ⟨v, 1, bs.length, bs.map encB⟩) (h8 : bytesOk bs) :
    Calls Try.prog 9 #[.agg (encS s).toArray, v] w (Sy.Ret (.bool true) w) := by
  have hbl := ok_len hv
  obtain ⟨⟨op, idx, wid, fin, rows, o, txs⟩, u, t⟩ := s
  refine Sy.calls_of Sy.lv9 Sy.tab_ok Try.func9 rfl _ Try.ntmps9 [⟨u, 4, rows.length, rows.map encK⟩, ⟨t, 3, txs.length, txs.map encT⟩, ⟨v, 1, bs.length, bs.map encB⟩] [.agg [.v (.int .i64 op), .v (.int .i64 idx), .v (.int .i64 wid), .v (.bool fin), .row 0, .v (.int .i64 (o 0)), .v (.int .i64 (o 1)), .v (.int .i64 (o 2)), .v (.int .i64 (o 3)), .v (.int .i64 (o 4)), .v (.int .i64 (o 5)), .v (.int .i64 (o 6)), .v (.int .i64 (o 7)), .row 1], .c (.row 2)] rfl rfl rfl ⟨hr.rows, hr.txs, hv, trivial⟩ ?_
  have hsh := fun (p q : Value) w' h => short_any ⟨⟨op, idx, wid, fin, rows, o, txs⟩, p, q⟩ w' h
  have hiS : ∀ x ∈ (shortS ⟨op, idx, wid, fin, rows, o, txs⟩).rows, InK x := fun x hx => hi x (shortS_rows _ x hx)
  have hso := short_ok ⟨op, idx, wid, fin, rows, o, txs⟩
  dsimp only at hsh
  generalize shortS ⟨op, idx, wid, fin, rows, o, txs⟩ = S at *
  obtain ⟨m, hm⟩ : ∃ m, m = min bs.length 6000 := ⟨_, rfl⟩
  have hmin : Sy.minI (bs.length : Int) 6000 = (m : Int) := by unfold Sy.minI; split <;> omega
  obtain ⟨d, hd⟩ : ∃ d, d = bs.take 6000 := ⟨_, rfl⟩
  have hdl : d.length = m := by rw [hd, List.length_take]; omega
  have d8 : bytesOk d := by rw [hd]; exact h8.take _
  obtain ⟨V, hV⟩ : ∃ V, V = sdV d := ⟨_, rfl⟩
  obtain ⟨E, hE⟩ : ∃ E, E = sdE d := ⟨_, rfl⟩
  have hEc : E = 0 ∨ E = 7 ∨ E = 280 := by rw [hE]; exact sdE_cases d
  have hsl : List.take (m - 0) (List.drop 0 (bs.map encB)) = d.map encB ∧ m - 0 = d.length := by
    rw [hdl, Nat.sub_zero, List.drop_zero, ← List.map_take, hd]
    refine ⟨?_, rfl⟩
    congr 1
    rcases Nat.le_total bs.length 6000 with h | h
    · rw [hm, Nat.min_eq_left h, List.take_length, List.take_of_length_le h]
    · rw [hm, Nat.min_eq_right h]
  ((repeat' ((conv => whnf);(first|refine zA ?_|(refine zI ?_ ?_<;> intro hh<;> first|(exfalso;omega)|skip)|(refine zl ?_ ?_<;> intro hh)|refine zq ?_|refine zv ?_|refine zu ?_|exact Sy.fin_val fun e=>rfl)));(all_goals (try conv => whnf)))
  refine Sy.call_val (.c (.v (.bool true))) Try.call10 rfl (fun e a w' h => wakes_any w') ?_
  ((repeat' ((conv => whnf);(first|refine zA ?_|(refine zI ?_ ?_<;> intro hh<;> first|(exfalso;omega)|skip)|(refine zl ?_ ?_<;> intro hh)|refine zq ?_|refine zv ?_|refine zu ?_|exact Sy.fin_val fun e=>rfl)));(all_goals (try conv => whnf)))
  refine Sy.call_r2f (v := fun _ vs => retA S vs) ⟨73, 4, S.rows.length, S.rows.map encK⟩ ⟨89, 3, S.txs.length, S.txs.map encT⟩ (fun k => .agg (cellS S (.row k) (.row (k + 1)))) Try.call14 (fun e a' w' h => hsh (e.rv 0) (e.rv 1) w' ⟨Sy.row_reads h (.inr rfl), Sy.row_reads h (.inr rfl)⟩) ?_
  ((repeat' ((conv => whnf);(first|refine zA ?_|(refine zI ?_ ?_<;> intro hh<;> first|(exfalso;omega)|skip)|(refine zl ?_ ?_<;> intro hh)|refine zq ?_|refine zv ?_|refine zu ?_|exact Sy.fin_val fun e=>rfl)));(all_goals (try conv => whnf)))
  refine Sy.call_mem (fun (x : One) G w' => XD.ok G w' ⟨x.v, 1, (encV S).length, (encV S).map encB⟩) (fun x => .tup [.c (.v x.v), .c (.v (.int .i64 (chkE S)))]) Try.call28 (fun x => one_lt _ x.h) (fun x G G' w1 w2 h hG hk => XD.ok.keep h hG hk) (fun e a w' h => enc_mem ⟨S, e.rv 4, e.rv 5⟩ w' ⟨Sy.row_reads h (.inl ⟨_, rfl⟩), Sy.row_reads h (.inl ⟨_, rfl⟩)⟩) (fun x G => ?_)
  obtain ⟨y, hy⟩ := x
  by_cases hrt : rightP S
  · rw [chkE_pos hrt, encV_pos hrt]
    have hbd := back_dec hrt hiS
    have hbs := fun i h => back_short hrt hiS (i := i) h
    have hy8 := sBs_ok S
    have hyl := sBs_len S
    generalize sBs S = Y at *
    have hYl : Y.length ≤ 9000 := by omega
    ((repeat' ((conv => whnf);(first|refine zA ?_|(refine zI ?_ ?_<;> intro hh<;> first|(exfalso;omega)|skip)|(refine zl ?_ ?_<;> intro hh)|refine zq ?_|refine zv ?_|refine zu ?_|exact Sy.fin_val fun e=>rfl)));(all_goals (try conv => whnf)))
    refine Sy.call_r2f (v := fun _ vs => retS S 0 vs) ⟨73, 4, S.rows.length, S.rows.map encK⟩ ⟨89, 3, S.txs.length, S.txs.map encT⟩ (fun k => .tup [.agg (cellS S (.row k) (.row (k + 1))), .c (.v (.int .i64 0))]) Try.call31 (fun e a w' h => by
      have := sdec_any y Y w' (XD.ok.mono (h.ev w' fun _ _ => rfl).2 fun b hb => h.fl b hb) hy8 (by omega)
      rw [hbd.2, hbd.1] at this; exact this) ?_
    ((repeat' ((conv => whnf);(first|refine zA ?_|(refine zI ?_ ?_<;> intro hh<;> first|(exfalso;omega)|skip)|(refine zl ?_ ?_<;> intro hh)|refine zu ?_|exact Sy.fin_val fun e=>rfl)));(all_goals (try conv => whnf)))
    refine Sy.cut_sem ?_
    refine Sy.sem_subF (Sy.sub_openS 6 1 Y.length (Y.map encB) rfl (fun e a w' h => (h.ev w' fun _ _ => rfl).2.1) (oneB _)) ?_
    conv => whnf
    refine Sy.seq_go Sy.tab_ok ?_
    refine Sy.region_go Sy.tab_ok ?_
    obtain ⟨q, hq⟩ : ∃ q, q = min Y.length 120 := ⟨_, rfl⟩
    have hqm : Sy.minI (Y.length : Int) 120 = (q : Int) := by unfold Sy.minI; split <;> omega
    ((repeat' ((conv => whnf);(first|refine zA ?_|(refine zI ?_ ?_<;> intro hh<;> first|(exfalso;omega)|skip)|(refine zl ?_ ?_<;> intro hh)|refine zq ?_|refine zv ?_|refine zu ?_|exact Sy.fin_val fun e=>rfl)));(all_goals (try conv => whnf)))
    refine Sy.call_val (.c (.v (.bool true))) Try.call27 rfl (fun e a w' h => by
      have := same_any ⟨S, e.rv 4, e.rv 5⟩ ⟨S, e.rv 7, e.rv 8⟩ w' ⟨Sy.row_reads h (.inl ⟨_, rfl⟩), Sy.row_reads h (.inl ⟨_, rfl⟩)⟩ ⟨Sy.row_reads h (.inl ⟨_, rfl⟩), Sy.row_reads h (.inl ⟨_, rfl⟩)⟩
      rw [decide_eq_true rfl] at this; exact this) ?_
    ((repeat' ((conv => whnf);(first|refine zA ?_|(refine zI ?_ ?_<;> intro hh<;> first|(exfalso;omega)|skip)|(refine zl ?_ ?_<;> intro hh)|refine zq ?_|refine zv ?_|refine zu ?_|exact Sy.fin_val fun e=>rfl)));(all_goals (try conv => whnf)))
    rw [hqm]
    refine Sy.loop_inv Sy.tab_ok (fun n : Nat => [(42, .c (.v (.int .i64 n)))]) (fun _ => []) (fun n => n ≤ q) (fun n => q - n) 0 (Nat.zero_le _) ?_ (fun n hn => ?_)
    · ((repeat' (first|((conv => whnf);done)|((try conv => whnf);first|exact trivial|(refine And.intro ?_ ?_)|rfl|exact fun _ _ _ h=>h|exact fun _ _ _ _=>trivial)));(all_goals (try conv => whnf)))
    · by_cases hlt : n < q
      · have hsh7 := hbs n (by omega)
        have hyt : List.take (n - 0) (List.drop 0 (Y.map encB)) = (Y.take n).map encB ∧ n - 0 = (Y.take n).length := by
          rw [Nat.sub_zero, List.drop_zero, ← List.map_take, List.length_take]
          exact ⟨rfl, by omega⟩
        have hyt8 : bytesOk (Y.take n) := hy8.take _
        have hytl : (Y.take n).length ≤ 9000 := by rw [List.length_take]; omega
        generalize Y.take n = Z at *
        ((repeat' ((conv => whnf);(first|refine zA ?_|(refine zI ?_ ?_<;> intro hh<;> first|(exfalso;omega)|skip)|(refine zl ?_ ?_<;> intro hh)|refine zq ?_|refine zv ?_|refine zu ?_|exact Sy.fin_val fun e=>rfl)));(all_goals (try conv => whnf)))
        refine Sy.sli_eq 0 n rfl rfl ⟨by omega, by omega⟩ ?_
        conv => whnf
        rw [hyt.1, hyt.2]
        refine Sy.call_r2f (v := fun _ vs => retS sn0 7 vs) ⟨73, 4, 0, []⟩ ⟨89, 3, 0, []⟩ (fun k => .tup [.agg (cellS sn0 (.row k) (.row (k + 1))), .c (.v (.int .i64 7))]) Try.call31 (fun e a w' h => by
          have := sdec_any _ Z w' (Sy.row_reads (k := 11) h (.inr rfl)) hyt8 (by omega)
          rw [sdV_neg hsh7 (by decide), hsh7] at this; exact this) ?_
        ((repeat' ((conv => whnf);(first|refine zA ?_|(refine zI ?_ ?_<;> intro hh<;> first|(exfalso;omega)|skip)|(refine zl ?_ ?_<;> intro hh)|refine zq ?_|refine zv ?_|refine zu ?_|exact Sy.fin_val fun e=>rfl)));(all_goals (try conv => whnf)))
        refine ⟨n + 1, by omega, by omega, ?_⟩
        ((repeat' (first|((conv => whnf);done)|((try conv => whnf);first|exact trivial|(refine And.intro ?_ ?_)|rfl|exact fun _ _ _ h=>h|exact fun _ _ _ _=>trivial)));(all_goals (try conv => whnf)))
      · clear hbs hbd
        ((repeat' ((conv => whnf);(first|refine zA ?_|(refine zI ?_ ?_<;> intro hh<;> first|(exfalso;omega)|skip)|(refine zl ?_ ?_<;> intro hh)|refine zq ?_|refine zv ?_|refine zu ?_|exact Sy.fin_val fun e=>rfl)));(all_goals (try conv => whnf)))
        refine Sy.sli_eq 0 m rfl hmin ⟨by omega, by omega⟩ ?_
        conv => whnf
        rw [hsl.1, hsl.2]
        ((repeat' ((conv => whnf);(first|refine zA ?_|(refine zI ?_ ?_<;> intro hh<;> first|(exfalso;omega)|skip)|(refine zl ?_ ?_<;> intro hh)|refine zq ?_|refine zv ?_|refine zu ?_|exact Sy.fin_val fun e=>rfl)));(all_goals (try conv => whnf)))
        refine Sy.call_r2f (v := fun _ vs => retS V E vs) ⟨73, 4, V.rows.length, V.rows.map encK⟩ ⟨89, 3, V.txs.length, V.txs.map encT⟩ (fun k => .tup [.agg (cellS V (.row k) (.row (k + 1))), .c (.v (.int .i64 E))]) Try.call31 (fun e a w' h => by
          rw [hV, hE]
          exact sdec_any _ d w' (Sy.row_reads h (.inr rfl)) d8 (by omega)) ?_
        rcases hEc with he | he | he
        · have hVd : V = snOf d := by rw [hV]; exact sdV_pos (by rw [← hE]; exact he)
          obtain ⟨hrt, hbk⟩ := dec_back d8 (by rw [← hE]; exact he)
          rw [← hVd] at hrt hbk
          rw [he]
          clear hV
          ((repeat' ((conv => whnf);(first|refine zA ?_|(refine zI ?_ ?_<;> intro hh<;> first|(exfalso;omega)|skip)|(refine zl ?_ ?_<;> intro hh)|refine zq ?_|refine zv ?_|refine zu ?_|exact Sy.fin_val fun e=>rfl)));(all_goals (try conv => whnf)))
          refine Sy.call_r1 (v := fun _ vs => .tuple #[vs.headD undef, .int .i64 0]) ⟨5, 1, (sBs V).length, (sBs V).map encB⟩ (fun j => .tup [.c (.row j), .c (.v (.int .i64 0))]) Try.call28 (fun e a w' h => by
            have := enc_any ⟨V, e.rv 12, e.rv 13⟩ w' ⟨Sy.row_reads h (.inl ⟨_, rfl⟩), Sy.row_reads h (.inl ⟨_, rfl⟩)⟩
            rw [show SnV.sn ⟨V, e.rv 12, e.rv 13⟩ = V from rfl, chkE_pos hrt, encV_pos hrt] at this; exact this) ?_
          ((repeat' ((conv => whnf);(first|refine zA ?_|(refine zI ?_ ?_<;> intro hh<;> first|(exfalso;omega)|skip)|(refine zl ?_ ?_<;> intro hh)|refine zq ?_|refine zv ?_|refine zu ?_|exact Sy.fin_val fun e=>rfl)));(all_goals (try conv => whnf)))
          refine Sy.call_val (.c (.v (.bool true))) Try.call29 rfl (fun e a w' h => by
            have := bytesEq_any (e.rv 15) (e.rv 11) (sBs V) d w' (Sy.row_reads h (.inl ⟨_, rfl⟩)) (Sy.row_reads h (.inr rfl)) (sBs_ok V) d8
            rw [decide_eq_true hbk] at this; exact this) ?_
          ((repeat' ((conv => whnf);(first|refine zA ?_|(refine zI ?_ ?_<;> intro hh<;> first|(exfalso;omega)|skip)|(refine zl ?_ ?_<;> intro hh)|refine zq ?_|refine zv ?_|refine zu ?_|exact Sy.fin_val fun e=>rfl)));(all_goals (try conv => whnf)))
          done
        all_goals
          have hV0 : V = sn0 := by rw [hV]; exact sdV_neg (e := E) hE.symm (by rw [he]; decide)
          rw [he]
          ((repeat' ((conv => whnf);(first|refine zA ?_|(refine zI ?_ ?_<;> intro hh<;> first|(exfalso;omega)|skip)|(refine zl ?_ ?_<;> intro hh)|refine zq ?_|refine zv ?_|refine zu ?_|exact Sy.fin_val fun e=>rfl)));(all_goals (try conv => whnf)))
          refine Sy.call_val (.c (.v (.bool true))) Try.call27 rfl (fun e a w' h => by
            have := same_any ⟨V, e.rv 12, e.rv 13⟩ ⟨sn0, .slice none 0 0, .slice none 0 0⟩ w' ⟨Sy.row_reads h (.inl ⟨_, rfl⟩), Sy.row_reads h (.inl ⟨_, rfl⟩)⟩ ⟨nil_ok, nil_ok⟩
            rw [decide_eq_true hV0] at this; exact this) ?_
          ((repeat' ((conv => whnf);(first|refine zA ?_|(refine zI ?_ ?_<;> intro hh<;> first|(exfalso;omega)|skip)|(refine zl ?_ ?_<;> intro hh)|refine zq ?_|refine zv ?_|refine zu ?_|exact Sy.fin_val fun e=>rfl)));(all_goals (try conv => whnf)))
          done
  · rw [chkE_neg hrt, encV_neg hrt]
    ((repeat' ((conv => whnf);(first|refine zA ?_|(refine zI ?_ ?_<;> intro hh<;> first|(exfalso;omega)|skip)|(refine zl ?_ ?_<;> intro hh)|refine zq ?_|refine zv ?_|refine zu ?_|exact Sy.fin_val fun e=>rfl)));(all_goals (try conv => whnf)))
    refine Sy.sli_eq 0 m rfl hmin ⟨by omega, by omega⟩ ?_
    conv => whnf
    rw [hsl.1, hsl.2]
    ((repeat' ((conv => whnf);(first|refine zA ?_|(refine zI ?_ ?_<;> intro hh<;> first|(exfalso;omega)|skip)|(refine zl ?_ ?_<;> intro hh)|refine zq ?_|refine zv ?_|refine zu ?_|exact Sy.fin_val fun e=>rfl)));(all_goals (try conv => whnf)))
    refine Sy.call_r2f (v := fun _ vs => retS V E vs) ⟨73, 4, V.rows.length, V.rows.map encK⟩ ⟨89, 3, V.txs.length, V.txs.map encT⟩ (fun k => .tup [.agg (cellS V (.row k) (.row (k + 1))), .c (.v (.int .i64 E))]) Try.call31 (fun e a w' h => by
      rw [hV, hE]
      exact sdec_any _ d w' (Sy.row_reads h (.inr rfl)) d8 (by omega)) ?_
    rcases hEc with he | he | he
    · have hVd : V = snOf d := by rw [hV]; exact sdV_pos (by rw [← hE]; exact he)
      obtain ⟨hrt, hbk⟩ := dec_back d8 (by rw [← hE]; exact he)
      rw [← hVd] at hrt hbk
      rw [he]
      clear hV
      ((repeat' ((conv => whnf);(first|refine zA ?_|(refine zI ?_ ?_<;> intro hh<;> first|(exfalso;omega)|skip)|(refine zl ?_ ?_<;> intro hh)|refine zq ?_|refine zv ?_|refine zu ?_|exact Sy.fin_val fun e=>rfl)));(all_goals (try conv => whnf)))
      refine Sy.call_r1 (v := fun _ vs => .tuple #[vs.headD undef, .int .i64 0]) ⟨5, 1, (sBs V).length, (sBs V).map encB⟩ (fun j => .tup [.c (.row j), .c (.v (.int .i64 0))]) Try.call28 (fun e a w' h => by
        have := enc_any ⟨V, e.rv 8, e.rv 9⟩ w' ⟨Sy.row_reads h (.inl ⟨_, rfl⟩), Sy.row_reads h (.inl ⟨_, rfl⟩)⟩
        rw [show SnV.sn ⟨V, e.rv 8, e.rv 9⟩ = V from rfl, chkE_pos hrt, encV_pos hrt] at this; exact this) ?_
      ((repeat' ((conv => whnf);(first|refine zA ?_|(refine zI ?_ ?_<;> intro hh<;> first|(exfalso;omega)|skip)|(refine zl ?_ ?_<;> intro hh)|refine zq ?_|refine zv ?_|refine zu ?_|exact Sy.fin_val fun e=>rfl)));(all_goals (try conv => whnf)))
      refine Sy.call_val (.c (.v (.bool true))) Try.call29 rfl (fun e a w' h => by
        have := bytesEq_any (e.rv 11) (e.rv 7) (sBs V) d w' (Sy.row_reads h (.inl ⟨_, rfl⟩)) (Sy.row_reads h (.inr rfl)) (sBs_ok V) d8
        rw [decide_eq_true hbk] at this; exact this) ?_
      ((repeat' ((conv => whnf);(first|refine zA ?_|(refine zI ?_ ?_<;> intro hh<;> first|(exfalso;omega)|skip)|(refine zl ?_ ?_<;> intro hh)|refine zq ?_|refine zv ?_|refine zu ?_|exact Sy.fin_val fun e=>rfl)));(all_goals (try conv => whnf)))
      done
    all_goals
      have hV0 : V = sn0 := by rw [hV]; exact sdV_neg (e := E) hE.symm (by rw [he]; decide)
      rw [he]
      ((repeat' ((conv => whnf);(first|refine zA ?_|(refine zI ?_ ?_<;> intro hh<;> first|(exfalso;omega)|skip)|(refine zl ?_ ?_<;> intro hh)|refine zq ?_|refine zv ?_|refine zu ?_|exact Sy.fin_val fun e=>rfl)));(all_goals (try conv => whnf)))
      refine Sy.call_val (.c (.v (.bool true))) Try.call27 rfl (fun e a w' h => by
        have := same_any ⟨V, e.rv 8, e.rv 9⟩ ⟨sn0, .slice none 0 0, .slice none 0 0⟩ w' ⟨Sy.row_reads h (.inl ⟨_, rfl⟩), Sy.row_reads h (.inl ⟨_, rfl⟩)⟩ ⟨nil_ok, nil_ok⟩
        rw [decide_eq_true hV0] at this; exact this) ?_
      ((repeat' ((conv => whnf);(first|refine zA ?_|(refine zI ?_ ?_<;> intro hh<;> first|(exfalso;omega)|skip)|(refine zl ?_ ?_<;> intro hh)|refine zq ?_|refine zv ?_|refine zu ?_|exact Sy.fin_val fun e=>rfl)));(all_goals (try conv => whnf)))
      done
end Go.Proofs.Ytmahldelmbhjfaa
