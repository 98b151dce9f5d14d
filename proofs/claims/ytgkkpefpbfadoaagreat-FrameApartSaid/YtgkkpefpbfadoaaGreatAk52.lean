/- Frame: wakes, over. -/
import Derived.Test.YtgkkpefpbfadoaaGreatAk51
namespace Go.Proofs.YtgkkpefpbfadoaaGreat
open Go Go.RowKit
open Sy (C SV V1 Blk St XD Els)
set_option maxRecDepth 10000
def wkV : MsgV := hdV 2 1 4 2 3 0
theorem wk_ok : okM wkV.msg := ⟨by rw [body2 rfl]; exact decide_eq_true ⟨⟨by decide, by decide⟩, by decide, by decide⟩, ⟨by simp [wkV, hdV, MsgV.msg], by simp [wkV, hdV, MsgV.msg], by simp [wkV, hdV, MsgV.msg, opsOf, insOf], by simp [wkV, hdV, MsgV.msg], by simp [wkV, hdV, MsgV.msg], by simp [wkV, hdV, MsgV.msg], by simp [wkV, hdV, MsgV.msg]⟩, ⟨by decide, by decide⟩, by decide, by decide⟩
theorem wk_mw : MW wkV.msg := ⟨(by intro o ho; cases ho), (by intro o ho; cases ho), (by intro o ho; cases ho), ⟨by decide, by decide⟩, by decide⟩
theorem wk_dec : decM (msgB wkV.msg) = (wkV.msg, 0) := dec_msgB wk_ok wk_mw
theorem wk_len : (msgB wkV.msg).length = 20 := by
 unfold msgB layB
 rw [List.length_append, List.length_append, hdB_len, beN_len]
 rfl
theorem msgB_by (m : Msg) : By (msgB m) := (layB_by m).app (By.be _ _)
theorem tup_lt2 {n : Nat} {l : List C} {e : Int} (h : Sy.ltAll n l = true) : SV.lt n (.tup [.agg l, .c (.v (.int .i64 e))]) = true := by
 show (match Sy.ltAll n l with | true => true | false => false) = true
 rw [h]
attribute [local irreducible] msgB decM okM layB
set_option maxHeartbeats 4000000 in
theorem fwakes_any (w : World) : Calls Tryz.prog 7 #[] w (Sy.Ret (.bool true) w) := by
 have hE : encMs wkV.msg = msgB wkV.msg := if_pos wk_ok
 have hC : chkM wkV.msg = 0 := if_pos wk_ok
 have hl := wk_len
 refine Sy.calls_of Sy.lv7 Sy.tab_ok Tryz.func7 rfl _ Tryz.ntmps7 [] [] rfl rfl rfl trivial ?_
 ((repeat' first|refine Y ?_|refine Y2 ?_ ?_|refine Y1 fun hh=>?_|exact Y0.mk);(all_goals (try conv => whnf)))
 refine Sy.call_r1 ⟨5, 1, (msgB wkV.msg).length, (msgB wkV.msg).map encB⟩ (fun j => .tup [.c (.row j), .c (.v (.int .i64 0))]) Tryz.call9 (fun e a w' h => by
  have := fenc_any wkV w' mok_nil (by decide) ⟨by decide, by decide⟩ ⟨by decide, by decide⟩
  rw [hE, hC] at this
  exact this) ?_
 ((repeat' first|refine Y ?_|refine Y2 ?_ ?_|refine Y1 fun hh=>?_|exact Y0.mk);(all_goals (try conv => whnf)))
 refine Sy.call_memG (fun (x : Dv (msgB wkV.msg)) G w' => MOk G w' x.m) (fun x => .tup [.agg (cellsM C.v x.m fun i => .v (x.m.v i)), .c (.v (.int .i64 0))]) Tryz.call13 (fun x => tup_lt2 (cells_lt x.one)) (fun _ _ _ _ h hk => h.keep (fun _ h => h) hk) (fun e a w' h => by
  have := fdec_any _ (msgB wkV.msg) w' (Sy.row_reads h (k := 0) (.inl ⟨_, rfl⟩)) (msgB_by _) (by omega)
  rw [show (decM (msgB wkV.msg)).2 = 0 by rw [wk_dec]] at this
  exact this) (fun x G => ?_)
 have hx : x.m.msg = wkV.msg := by rw [x.h, wk_dec]
 have h1 : x.m.epoch = 2 := congrArg Msg.epoch hx
 have h2 : x.m.att = 3 := congrArg Msg.att hx
 ((repeat' first|refine Y ?_|refine Y2 ?_ ?_|refine Y1 fun hh=>?_|exact Y0.mk);(all_goals (try conv => whnf)))
 exact Sy.fin_val fun e => by
  show Value.bool (x.m.att == 3) = _
  rw [h2]; rfl
theorem over_any (m : MsgV) (w : World) (hr : MOk (fun b => b < w.heap.size) w m) : Calls Tryz.prog 8 #[.agg (encM m).toArray] w (Sy.RetEx (fun b : Bool => b = false → m.il.length ≤ 20) (fun b => .bool b) w) := by
 refine Sy.calls_of Sy.lv8 Sy.tab_ok Tryz.func8 rfl _ Tryz.ntmps8 (slicesM m) [.agg (cellsM C.v m C.row)] rfl rfl rfl hr.facts ?_
 ((repeat' first|refine Y ?_|refine Y2 ?_ ?_|refine Y1 fun hh=>?_|exact Y0.mk);(all_goals (try conv => whnf)))
 all_goals try exact Sy.fin_ex true (fun h => by cases h) (fun e => rfl)
 refine Sy.loop_inv Sy.tab_ok (fun n : Nat => [(68, .c (.v (.int .i64 n)))]) (fun _ => []) (fun n => n ≤ m.gl.length) (fun n => m.gl.length - n) 0 (Nat.zero_le _) ?_ (fun n hn => ?_)
 ·((repeat' (first|((conv => whnf);done)|((try conv => whnf);first|exact trivial|(refine And.intro ?_ ?_)|rfl|exact fun _ _ _ h=>h|exact fun _ _ _ _=>trivial)));(all_goals (try conv => whnf)))
 by_cases hlt : n < m.gl.length
 ·have hgt := List.getElem?_eq_getElem hlt
  have hx := hr.g.2 _ (List.getElem_mem hlt)
  generalize m.gl[n] = x at *
  ((repeat' first|refine Yo ?_|refine Y2 ?_ ?_|refine Y1 fun hh=>?_|exact Y0.mk);(all_goals (try conv => whnf)))
  refine Sy.el_map x hgt ?_
  ((repeat' first|refine Yo ?_|refine Y2 ?_ ?_|refine Y1 fun hh=>?_|exact Y0.mk);(all_goals (try conv => whnf)))
  refine open_x _ _ _ (hx) (fun _ h => h) ?_
  ((repeat' first|refine Yo ?_|refine Y2 ?_ ?_|refine Y1 fun hh=>?_|exact Y0.mk);(all_goals (try conv => whnf)))
  ·exact Sy.fin_ex true (fun h => by cases h) (fun e => rfl)
  ·refine ⟨n + 1, by omega, by omega, ?_⟩
   ((repeat' (first|((conv => whnf);done)|((try conv => whnf);first|exact trivial|(refine And.intro ?_ ?_)|rfl|exact fun _ _ _ h=>h|exact fun _ _ _ _=>trivial)));(all_goals (try conv => whnf)))
 ((repeat' first|refine Y ?_|refine Y2 ?_ ?_|refine Y1 fun hh=>?_|exact Y0.mk);(all_goals (try conv => whnf)))
 refine Sy.loop_inv Sy.tab_ok (fun n : Nat => [(82, .c (.v (.int .i64 n)))]) (fun _ => []) (fun n => n ≤ m.il.length) (fun n => m.il.length - n) 0 (Nat.zero_le _) ?_ (fun n hn => ?_)
 ·((repeat' (first|((conv => whnf);done)|((try conv => whnf);first|exact trivial|(refine And.intro ?_ ?_)|rfl|exact fun _ _ _ h=>h|exact fun _ _ _ _=>trivial)));(all_goals (try conv => whnf)))
 by_cases hlt : n < m.il.length
 ·have hgt := List.getElem?_eq_getElem hlt
  have hx := hr.ir _ (List.getElem_mem hlt)
  generalize m.il[n] = x at *
  ((repeat' first|refine Yo ?_|refine Y2 ?_ ?_|refine Y1 fun hh=>?_|exact Y0.mk);(all_goals (try conv => whnf)))
  refine Sy.el_map x hgt ?_
  ((repeat' first|refine Yo ?_|refine Y2 ?_ ?_|refine Y1 fun hh=>?_|exact Y0.mk);(all_goals (try conv => whnf)))
  refine open_x _ _ _ (hx) (fun _ h => h) ?_
  ((repeat' first|refine Yo ?_|refine Y2 ?_ ?_|refine Y1 fun hh=>?_|exact Y0.mk);(all_goals (try conv => whnf)))
  ·exact Sy.fin_ex true (fun h => by cases h) (fun e => rfl)
  ·refine ⟨n + 1, by omega, by omega, ?_⟩
   ((repeat' (first|((conv => whnf);done)|((try conv => whnf);first|exact trivial|(refine And.intro ?_ ?_)|rfl|exact fun _ _ _ h=>h|exact fun _ _ _ _=>trivial)));(all_goals (try conv => whnf)))
 ((repeat' first|refine Y ?_|refine Y2 ?_ ?_|refine Y1 fun hh=>?_|exact Y0.mk);(all_goals (try conv => whnf)))
 exact Sy.fin_ex false (fun _ => by omega) (fun e => rfl)
end Go.Proofs.YtgkkpefpbfadoaaGreat
