/- Snap: a snapshot's bytes. -/
import Derived.Test.YtgkkpefpbfadoaaGreatAk30
import Derived.Test.YtgkkpefpbfadoaaGreatAk24
namespace Go.Proofs.YtgkkpefpbfadoaaGreat.Sn
open Go Go.RowKit
open Sy (C SV V1 Blk St XD Els)
set_option maxRecDepth 10000
def retS (s : Sn) (e : Int) (vs : List Value) : Value := .tuple #[.agg #[.int .i64 s.op, .int .i64 s.idx, .int .i64 s.wid, .bool s.fin, vs.headD undef, .int .i64 (s.offs 0), .int .i64 (s.offs 1), .int .i64 (s.offs 2), .int .i64 (s.offs 3), .int .i64 (s.offs 4), .int .i64 (s.offs 5), .int .i64 (s.offs 6), .int .i64 (s.offs 7), (vs.drop 1).headD undef], .int .i64 e]
def nBs (n : Tx) : List Int := [b8 n.sink] ++ beN n.att 4 ++ beN n.ser 4
def oN (o : Fin 8 → Int) (m : Nat) : List Int := (List.range m).map fun k : Nat => b8 (o (gI k))
def hBs (s : Sn) : List Int := [b8 s.op, b8 s.idx, b8 s.wid, if s.fin = true then 1 else 0] ++ tBs s.rows
def sN (s : Sn) (n : Nat) : List Int := hBs s ++ oN s.offs 8 ++ [b8 s.txs.length] ++ ((s.txs.take n).map nBs).flatten
def sBs (s : Sn) : List Int := sN s s.txs.length
def encV (s : Sn) : List Int := if rightP s then sBs s else []
theorem oN_succ (o : Fin 8 → Int) (m : Nat) : oN o (m + 1) = oN o m ++ [b8 (o (gI m))] := by
 unfold oN
 rw [List.range_succ, List.map_append]; rfl
theorem oN_len (o : Fin 8 → Int) (m : Nat) : (oN o m).length = m := by simp [oN]
theorem nBs_len (n : Tx) : (nBs n).length = 9 := by
 unfold nBs
 simp only [List.length_append, beN_len, List.length_cons, List.length_nil]
theorem sN_succ {s : Sn} {n : Nat} {x : Tx} (h : s.txs[n]? = some x) : sN s (n + 1) = sN s n ++ nBs x := by
 obtain ⟨hn, he⟩ := List.getElem?_eq_some_iff.1 h
 unfold sN
 rw [List.take_succ_eq_append_getElem hn, he, List.map_append, List.flatten_append]
 simp
theorem hBs_len (s : Sn) : (hBs s).length = 6 + 18 * s.rows.length := by
 have := tN_len s.rows s.rows.length (Nat.le_refl _)
 unfold hBs tBs
 rw [List.length_append, this]
 simp only [List.length_cons, List.length_nil]; omega
theorem sN_len (s : Sn) : ∀ n, n ≤ s.txs.length → (sN s n).length = 15 + 18 * s.rows.length + 9 * n
 | 0, _ => by simp [sN, hBs_len, oN_len]; omega
 |n + 1, h => by
  rw [sN_succ (List.getElem?_eq_getElem (show n < s.txs.length by omega)), List.length_append, sN_len s n (by omega), nBs_len]; omega
attribute [local irreducible] ownW tblB namesB rightP
set_option maxHeartbeats 8000000 in
theorem enc_any (s : SnV) (w : World) (hr : SOk (fun b => b < w.heap.size) w s) :
  Calls Tryz.prog 161 #[.agg (encS s).toArray] w (Sy.RetRows Sy.noRow (fun _ : Unit => True) (fun _ => [⟨5, 1, (encV s.sn).length, (encV s.sn).map encB⟩]) (fun _ vs => .tuple #[vs.headD undef, .int .i64 (chkE s.sn)]) w) := by
 have hl1 := ok_len hr.rows
 have hl2 := ok_len hr.txs
 obtain ⟨⟨op, idx, wid, fin, rows, o, txs⟩, u, t⟩ := s
 dsimp only at hl1 hl2
 refine Sy.calls_of Sy.lv161 Sy.tab_ok Tryz.func161 rfl _ Tryz.ntmps161 [⟨u, 4, rows.length, rows.map encK⟩, ⟨t, 3, txs.length, txs.map encT⟩] [.agg [.v (.int .i64 op), .v (.int .i64 idx), .v (.int .i64 wid), .v (.bool fin), .row 0, .v (.int .i64 (o 0)), .v (.int .i64 (o 1)), .v (.int .i64 (o 2)), .v (.int .i64 (o 3)), .v (.int .i64 (o 4)), .v (.int .i64 (o 5)), .v (.int .i64 (o 6)), .v (.int .i64 (o 7)), .row 1]] rfl rfl rfl ⟨hr.rows, hr.txs, trivial⟩ ?_
 obtain ⟨S, hS⟩ : ∃ S : Sn, S = ⟨op, idx, wid, fin, rows, o, txs⟩ := ⟨_, rfl⟩
 rw [show SnV.sn ⟨⟨op, idx, wid, fin, rows, o, txs⟩, u, t⟩ = S from hS.symm]
 ((repeat' first|refine Y ?_|refine Y2 ?_ ?_|refine Y1 fun hh=>?_|exact Y0.mk);(all_goals (try conv => whnf)))
 refine Sy.call_val (.c (.v (.int .i64 (chkE S)))) Tryz.call107 rfl (fun e a w' h => by
  have := check_any ⟨⟨op, idx, wid, fin, rows, o, txs⟩, e.rv 0, e.rv 1⟩ w' ⟨Sy.row_reads h (.inr rfl), Sy.row_reads h (.inr rfl)⟩
  rw [hS]; exact this) ?_
 by_cases hrt : rightP S
 ·have hE : chkE S = 0 := if_pos hrt
  have hV : encV S = sBs S := if_pos hrt
  have hrt' := hrt
  rw [hS] at hrt'
  unfold rightP at hrt'
  obtain ⟨hop, hsh, htb, hnm, _, hoff⟩ := hrt'
  dsimp only at hop hsh htb hnm hoff
  have hlr := rows_len (tbl_rows htb)
  have hlt := names_len hnm
  rw [hE, hV]
  ((repeat' first|refine Y ?_|refine Y2 ?_ ?_|refine Y1 fun hh=>?_|exact Y0.mk);(all_goals (try conv => whnf)))
  refine Sy.ar_wrap ?_
  ((repeat' first|refine Y ?_|refine Y2 ?_ ?_|refine Y1 fun hh=>?_|exact Y0.mk);(all_goals (try conv => whnf)))
  refine Sy.ar_wrap ?_
  ((repeat' first|refine Y ?_|refine Y2 ?_ ?_|refine Y1 fun hh=>?_|exact Y0.mk);(all_goals (try conv => whnf)))
  refine Sy.ar_wrap ?_
  have hlen := hBs_len S
  have hSr : S.rows = rows := by rw [hS]
  have hSt : S.txs = txs := by rw [hS]
  have hSo : S.offs = o := by rw [hS]
  have eH : ∀ b : Bool, fin = b → ([[.int .u8 (IntKind.u8.wrap op)], [.int .u8 (IntKind.u8.wrap idx)], [.int .u8 (IntKind.u8.wrap wid)], [.int .u8 (if b = true then 1 else 0)]] : List (List Value)) ++ List.map encB (tBs rows) = List.map encB (hBs S) := fun b hb => by
   rw [hS, ← hb]
   simp [encB, b8, hBs]
  rw [hSr] at hlen
  cases fin
  case' true =>
   ((repeat' first|refine Y ?_|refine Y2 ?_ ?_|refine Y1 fun hh=>?_|exact Y0.mk);(all_goals (try conv => whnf)))
   refine Sy.el_of _ rfl ?_
   ((repeat' first|refine Y ?_|refine Y2 ?_ ?_|refine Y1 fun hh=>?_|exact Y0.mk);(all_goals (try conv => whnf)))
   refine Sy.ar_wrap ?_
   rw [show IntKind.u8.wrap ((0 : Int) + 1) = 1 by rw [IntKind.wrap_u8]; rfl]
   ((repeat' first|refine Y ?_|refine Y2 ?_ ?_|refine Y1 fun hh=>?_|exact Y0.mk);(all_goals (try conv => whnf)))
   refine Sy.el_of _ rfl ?_
  all_goals
   have eH := eH _ rfl
   ((repeat' first|refine Y ?_|refine Y2 ?_ ?_|refine Y1 fun hh=>?_|exact Y0.mk);(all_goals (try conv => whnf)))
   refine Sy.call_r1 ⟨5, 1, (tBs rows).length, (tBs rows).map encB⟩ (fun j => .tup [.c (.row j), .c (.v (.int .i64 0))]) Tryz.call197 (fun e a w' h => tenc_any (e.rv 0) rows w' (Sy.row_reads h (.inr rfl)) htb) ?_
   have htl : (tBs rows).length = 2 + 18 * rows.length := tN_len rows _ (Nat.le_refl _)
   ((repeat' first|refine Y ?_|refine Y2 ?_ ?_|refine Y1 fun hh=>?_|exact Y0.mk);(all_goals (try conv => whnf)))
   refine Sy.need_app 1 rfl ⟨by omega, by omega⟩ ?_
   ((repeat' first|refine Y ?_|refine Y2 ?_ ?_|refine Y1 fun hh=>?_|exact Y0.mk);(all_goals (try conv => whnf)))
   refine Sy.loop_inv Sy.tab_ok (fun m : Nat => [(48, .c (.v (.int .i64 m))), (5, .c (.row 5))]) (fun m => [(5, .row 5 1 (hBs S ++ oN o m).length (.vs ((hBs S ++ oN o m).map encB)))]) (fun m => m ≤ 8) (fun m => 8 - m) 0 (by decide) ?_ (fun m hm => ?_)
   ·((repeat' (first|((conv => whnf);done)|((try conv => whnf);first|exact trivial|(refine And.intro ?_ ?_)|rfl|exact fun _ _ _ h=>h|exact fun _ _ _ _=>trivial)));(all_goals (try conv => whnf)))
    ·rw [List.length_append, hlen, oN_len, htl]; omega
    ·exact eH.trans (by simp [oN])
   ·have hol := oN_len o m
    have hos := oN_succ o m
    have hPl : (hBs S ++ oN o m).length = 6 + 18 * rows.length + m := by rw [List.length_append, hlen, oN_len]
    by_cases hlt : m < 8
    ·obtain ⟨g, hgx⟩ : ∃ g : Fin 8, (m : Int) = (g.val : Int) := ⟨⟨m, hlt⟩, rfl⟩
     have hgg : gI m = g := Fin.ext (by have := gI_val (x := (m : Int)) (by omega); omega)
     rw [hgg] at hos
     have ho40 := hoff g
     unfold offP at ho40
     ((repeat' first|refine Y ?_|refine Y2 ?_ ?_|refine Y1 fun hh=>?_|exact Y0.mk);(all_goals (try conv => whnf)))
     refine Sy.cell_of (.v (.int .i64 (o g))) (by first | exact off_cell o g m hgx | (show _[_ * 1]? = _; rw [Nat.mul_one]; exact off_cell o g m hgx)) ?_
     ((repeat' first|refine Y ?_|refine Y2 ?_ ?_|refine Y1 fun hh=>?_|exact Y0.mk);(all_goals (try conv => whnf)))
     refine Sy.ar_wrap ?_
     ((repeat' first|refine Y ?_|refine Y2 ?_ ?_|refine Y1 fun hh=>?_|exact Y0.mk);(all_goals (try conv => whnf)))
     refine Sy.need_app 1 rfl ⟨by omega, by omega⟩ ?_
     ((repeat' first|refine Y ?_|refine Y2 ?_ ?_|refine Y1 fun hh=>?_|exact Y0.mk);(all_goals (try conv => whnf)))
     refine ⟨m + 1, by omega, by omega, ?_⟩
     rw [hos, ← List.append_assoc]
     ((repeat' (first|((conv => whnf);done)|((try conv => whnf);first|exact trivial|(refine And.intro ?_ ?_)|rfl|exact fun _ _ _ h=>h|exact fun _ _ _ _=>trivial)));(all_goals (try conv => whnf)))
     all_goals (try simp [encB, b8])
     all_goals (try omega)
    ·have e : m = 8 := by omega
     subst e
     ((repeat' first|refine Y ?_|refine Y2 ?_ ?_|refine Y1 fun hh=>?_|exact Y0.mk);(all_goals (try conv => whnf)))
     refine Sy.ar_wrap ?_
     ((repeat' first|refine Y ?_|refine Y2 ?_ ?_|refine Y1 fun hh=>?_|exact Y0.mk);(all_goals (try conv => whnf)))
     refine Sy.need_app 1 rfl ⟨by omega, by omega⟩ ?_
     ((repeat' first|refine Y ?_|refine Y2 ?_ ?_|refine Y1 fun hh=>?_|exact Y0.mk);(all_goals (try conv => whnf)))
     refine Sy.loop_inv Sy.tab_ok (fun n : Nat => [(67, .c (.v (.int .i64 n))), (5, .c (.row 7))]) (fun n => [(7, .row 5 1 (sN S n).length (.vs ((sN S n).map encB)))]) (fun n => n ≤ txs.length) (fun n => txs.length - n) 0 (Nat.zero_le _) ?_ (fun n hn => ?_)
     ·have e0 : sN S 0 = hBs S ++ oN o 8 ++ [b8 txs.length] := by unfold sN; rw [hSo, hSt]; simp
      rw [e0]
      ((repeat' (first|((conv => whnf);done)|((try conv => whnf);first|exact trivial|(refine And.intro ?_ ?_)|rfl|exact fun _ _ _ h=>h|exact fun _ _ _ _=>trivial)));(all_goals (try conv => whnf)))
      all_goals first | (simp [encB, b8]; done) | (simp only [List.length_append, List.length_cons, List.length_nil]; done)
     ·have hnl := sN_len S n (by rw [hSt]; exact hn)
      rw [hSr] at hnl
      by_cases hlt2 : n < txs.length
      ·have hg := List.getElem?_eq_getElem hlt2
       have hok := chain_ok (show chain okT ltT none txs = true by unfold namesB at hnm; simp only [Bool.and_eq_true] at hnm; exact hnm.1) _ (List.getElem_mem hlt2)
       generalize txs[n] = x at *
       have hok : okN x := of_decide_eq_true hok
       unfold okN at hok
       have hs := sN_succ (s := S) (n := n) (x := x) (by rw [hSt]; exact hg)
       have hb1 := beN_len x.att 4
       generalize sN S n = G at *
       have eB : List.map encB G ++ [[.int .u8 (IntKind.u8.wrap x.sink)]] = List.map encB (G ++ [b8 x.sink]) := by simp [encB, b8]
       have lB : G.length + 1 = (G ++ [b8 x.sink]).length := by simp
       have sB : G ++ nBs x = (G ++ [b8 x.sink]) ++ beN x.att 4 ++ beN x.ser 4 := by unfold nBs; simp
       rw [sB] at hs
       have lb : (G ++ [b8 x.sink]).length ≤ 9000 := by rw [← lB]; omega
       have lb2 : (G ++ [b8 x.sink] ++ beN x.att 4).length ≤ 9008 := by rw [List.length_append, hb1]; omega
       ((repeat' first|refine Y ?_|refine Y2 ?_ ?_|refine Y1 fun hh=>?_|exact Y0.mk);(all_goals (try conv => whnf)))
       have w1 : IntKind.u32.wrap x.att = x.att := by rw [IntKind.wrap_u32]; omega
       have w2 : IntKind.u32.wrap x.ser = x.ser := by rw [IntKind.wrap_u32]; omega
       refine Sy.el_map x hg ?_
       ((repeat' first|refine Y ?_|refine Y2 ?_ ?_|refine Y1 fun hh=>?_|exact Y0.mk);(all_goals (try conv => whnf)))
       refine Sy.draw_go [7] (by kernel_rfl) ?_
       intro e0
       conv => whnf
       refine zt 0 rfl ?_
       conv => whnf
       refine zt 1 rfl ?_
       conv => whnf
       refine zt 2 rfl ?_
       conv => whnf
       refine zt 3 rfl ?_
       ((repeat' first|refine Y ?_|refine Y2 ?_ ?_|refine Y1 fun hh=>?_|exact Y0.mk);(all_goals (try conv => whnf)))
       refine Sy.ar_wrap ?_
       conv => whnf
       refine zt 6 rfl ?_
       conv => whnf
       refine zt 7 rfl ?_
       conv => whnf
       refine zt 8 rfl ?_
       ((repeat' first|refine Y ?_|refine Y2 ?_ ?_|refine Y1 fun hh=>?_|exact Y0.mk);(all_goals (try conv => whnf)))
       refine Sy.ar_wrap ?_
       rw [w1]
       conv => whnf
       refine zt 10 rfl ?_
       conv => whnf
       refine zt 11 rfl ?_
       conv => whnf
       refine zt 12 rfl ?_
       ((repeat' first|refine Y ?_|refine Y2 ?_ ?_|refine Y1 fun hh=>?_|exact Y0.mk);(all_goals (try conv => whnf)))
       refine Sy.ar_wrap ?_
       rw [w2]
       conv => whnf
       refine zd1 [4] (zx rfl ?_ zy)
       conv => whnf
       refine Yk ?_
       refine zd1 [5] (zx rfl ?_ zy)
       conv => whnf
       refine Sy.need_app 1 rfl ⟨by omega, by omega⟩ ?_
       conv => whnf
       rw [eB, lB]
       refine Yk ?_
       refine zd1 [9] (zx rfl ?_ zy)
       conv => whnf
       refine Sy.call_r1 ⟨5, 1, (G ++ [b8 x.sink] ++ beN x.att 4).length, (G ++ [b8 x.sink] ++ beN x.att 4).map encB⟩ (fun j => .c (.row j)) Tryz.call57 (fun e a w' h => put32_any (e.rv 10) (G ++ [b8 x.sink]) x.att w' (Sy.row_reads h (.inl ⟨_, rfl⟩)) (by omega) (by omega)) ?_
       conv => whnf
       refine Yk ?_
       refine zd1 [13] (zx rfl ?_ zy)
       conv => whnf
       refine Sy.call_r1 ⟨5, 1, (G ++ [b8 x.sink] ++ beN x.att 4 ++ beN x.ser 4).length, (G ++ [b8 x.sink] ++ beN x.att 4 ++ beN x.ser 4).map encB⟩ (fun j => .c (.row j)) Tryz.call57 (fun e a w' h => put32_any (e.rv 11) (G ++ [b8 x.sink] ++ beN x.att 4) x.ser w' (Sy.row_reads h (.inl ⟨_, rfl⟩)) (by omega) (by omega)) ?_
       conv => whnf
       refine Yk ?_
       refine zt 14 rfl ?_
       conv => whnf
       refine zw ?_
       skip
       all_goals (((repeat' first|refine Y ?_|refine Y2 ?_ ?_|refine Y1 fun hh=>?_|exact Y0.mk);(all_goals (try conv => whnf))))
       all_goals (refine ⟨n + 1, by omega, by omega, ?_⟩)
       all_goals (rw [hs])
       all_goals (((repeat' (first|((conv => whnf);done)|((try conv => whnf);first|exact trivial|(refine And.intro ?_ ?_)|rfl|exact fun _ _ _ h=>h|exact fun _ _ _ _=>trivial)));(all_goals (try conv => whnf))))
      ·have e : n = txs.length := by omega
       subst e
       rw [show sN S txs.length = sBs S by unfold sBs; rw [hSt]]
       ((repeat' first|refine Y ?_|refine Y2 ?_ ?_|refine Y1 fun hh=>?_|exact Y0.mk);(all_goals (try conv => whnf)))
       exact Sy.fin_r1 (.row 7) rfl (fun e => rfl)
 ·have hE : chkE S = 280 := if_neg hrt
  have hV : encV S = [] := if_neg hrt
  rw [hE, hV]
  ((repeat' first|refine Y ?_|refine Y2 ?_ ?_|refine Y1 fun hh=>?_|exact Y0.mk);(all_goals (try conv => whnf)))
  exact Sy.fin_r1 (.v (.slice none 0 0)) ⟨rfl, rfl⟩
end Go.Proofs.YtgkkpefpbfadoaaGreat.Sn
