/- Frame: what was sealed; Decode. -/
import Derived.Test.YtgkkpefpbfadoaaGreatAk48
import Derived.Test.YtgkkpefpbfadoaaGreatAk43
namespace Go.Proofs.YtgkkpefpbfadoaaGreat
open Go Go.RowKit
open Sy (C SV V1 Blk St XD Els)
set_option maxRecDepth 10000
theorem cloneS_any (v : Value) (bs : List Int) (w : World) (hr : XD.ok (fun b => b < w.heap.size) w ⟨v, 1, bs.length, bs.map encB⟩) (hb : bs.length ≤ 1000000) :
  Calls Tryz.prog 79 #[v] w (Sy.RetRows Sy.noRow (fun _ : Unit => True) (fun _ => [⟨5, 1, bs.length, bs.map encB⟩]) (fun _ vs => vs.headD undef) w) := by
 refine Sy.calls_of Sy.lv79 Sy.tab_ok Tryz.func79 rfl _ Tryz.ntmps79 [⟨v, 1, bs.length, bs.map encB⟩] [.c (.row 0)] rfl rfl rfl ⟨hr, trivial⟩ ?_
 ((repeat' first|refine Y ?_|refine Y2 ?_ ?_|refine Y1 fun hh=>?_|exact Y0.mk);(all_goals (try conv => whnf)))
 refine Sy.nil_of (fun h0 => ?_) ?_
 ·((repeat' first|refine Y ?_|refine Y2 ?_ ?_|refine Y1 fun hh=>?_|exact Y0.mk);(all_goals (try conv => whnf)))
  exact Sy.fin_r1 (.v (.slice none 0 0)) ⟨h0, by rw [List.length_eq_zero_iff] at h0; rw [h0]; rfl⟩
 ·((repeat' first|refine Y ?_|refine Y2 ?_ ?_|refine Y1 fun hh=>?_|exact Y0.mk);(all_goals (try conv => whnf)))
  refine Sy.need_of (by show (0 + bs.length) * 1 ≤ _ ∧ _; omega) ?_
  ((repeat' first|refine Y ?_|refine Y2 ?_ ?_|refine Y1 fun hh=>?_|exact Y0.mk);(all_goals (try conv => whnf)))
  refine Sy.fin_r1 (.row 2) ?_
  show some (Blk.row 5 1 (0 + bs.length) (.vs (bs.map encB))) = _
  rw [Nat.zero_add]
def opnE (b : List Int) : Int := if b.length < 4 then 7 else if (⟨b.drop (b.length - 4), 0⟩ : Ps).n 4 ≠ sumV (b.take (b.length - 4)) then 130 else 0
def opnV (b : List Int) : List Int := if opnE b = 0 then b.take (b.length - 4) else []
attribute [local irreducible] Rs.rd Rs.by Rs.rv Ps.rd Ps.n Ps.by
theorem open_any (v : Value) (b : List Int) (w : World) (hr : XD.ok (fun x => x < w.heap.size) w ⟨v, 1, b.length, b.map encB⟩) (b8 : Sn.bytesOk b) (hb : b.length ≤ 100000) :
  Calls Tryz.prog 30 #[v] w (Sy.RetRows Sy.noRow (fun _ : Unit => True) (fun _ => [⟨5, 1, (opnV b).length, (opnV b).map encB⟩]) (fun _ vs => .tuple #[vs.headD undef, .int .i64 (opnE b)]) w) := by
 refine Sy.calls_of Sy.lv30 Sy.tab_ok Tryz.func30 rfl _ Tryz.ntmps30 [⟨v, 1, b.length, b.map encB⟩] [.c (.row 0)] rfl rfl rfl ⟨hr, trivial⟩ ?_
 by_cases h4 : b.length < 4
 ·have hE : opnE b = 7 := if_pos h4
  have hV : opnV b = [] := if_neg (by rw [hE]; decide)
  rw [hE, hV]
  ((repeat' first|refine Y ?_|refine Y2 ?_ ?_|refine Y1 fun hh=>?_|exact Y0.mk);(all_goals (try conv => whnf)))
  exact Sy.fin_r1 (.v (.slice none 0 0)) ⟨rfl, rfl⟩ (fun e => rfl)
 have hE : opnE b = if (⟨b.drop (b.length - 4), 0⟩ : Ps).n 4 ≠ sumV (b.take (b.length - 4)) then 130 else 0 := if_neg h4
 obtain ⟨n, hn⟩ : ∃ n, n = b.length - 4 := ⟨_, rfl⟩
 rw [← hn] at hE
 have hx : ((b.length : Int) - 4) = (n : Int) := by omega
 have el : List.take (b.length - n) (List.drop n (b.map encB)) = (b.drop n).map encB := by
  rw [← List.map_drop, List.take_of_length_le (by rw [List.length_map, List.length_drop]; exact Nat.le_refl _)]
 have ell : b.length - n = (b.drop n).length := by rw [List.length_drop]
 have fl : List.take (n - 0) (List.drop 0 (b.map encB)) = (b.take n).map encB := by rw [Nat.sub_zero, List.drop_zero, List.map_take]
 have fll : n - 0 = (b.take n).length := by rw [List.length_take]; omega
 have d8 : Sn.bytesOk (b.drop n) := fun c hc => b8 c (List.mem_of_mem_drop hc)
 have t8 : Sn.bytesOk (b.take n) := fun c hc => b8 c (List.mem_of_mem_take hc)
 ((repeat' first|refine Y ?_|refine Y2 ?_ ?_|refine Y1 fun hh=>?_|exact Y0.mk);(all_goals (try conv => whnf)))
 rw [hx]
 refine Sy.draw_go [] (by kernel_rfl) ?_
 intro e0
 conv => whnf
 refine zt 0 rfl ?_
 conv => whnf
 refine zt 1 rfl ?_
 conv => whnf
 refine zt 5 rfl ?_
 conv => whnf
 refine zt 6 rfl ?_
 conv => whnf
 focus
  refine zd1 [2, 7] (zx rfl ?_ (zx rfl ?_ zy))
  focus
   conv => whnf
   refine Sy.sli_eq n b.length rfl rfl ⟨by omega, by omega⟩ ?_
   conv => whnf
   rw [el, ell]
   refine Yk ?_
   focus
    refine zd1 [3, 7] (zx rfl ?_ (zx rfl ?_ zy))
    focus
     conv => whnf
     refine Sy.call_in Sy.lv77 Sy.tab_ok Tryz.func77 rfl _ Tryz.ntmps77 Tryz.call77 rfl (fun _ => ?_)
     ((repeat' first|refine Y ?_|refine Y2 ?_ ?_|refine Y1 fun hh=>?_|exact Y0.mk);(all_goals (try conv => whnf)))
     refine Sy.call_mem (fun (x : Sc) G w' => XD.ok (fun b => G b ∧ 0 ≤ b) w' (x.xd (b.drop n))) (fun x => .c (.v (x.v (b.drop n)))) Tryz.call126 (fun x => rfl) (fun x G G' w1 w2 h hG hk => XD.ok.keep h (fun b hb => ⟨hG b hb.1, hb.2⟩) fun b hb => hk b hb.1) (fun e a w' h => clone_mem 0 _ (b.drop n) w' (Nat.zero_le _) (Sy.row_reads h (.inr rfl)) (by omega)) (fun x G => ?_)
     ((repeat' first|refine Y ?_|refine Y2 ?_ ?_|refine Y1 fun hh=>?_|exact Y0.mk);(all_goals (try conv => whnf)))
     refine Yk ?_
     focus
      refine zd1 [4, 7] (zx rfl ?_ (zx rfl ?_ zy))
      focus
       conv => whnf
       refine Sy.call_own (u32_does (x.rg d8)) Tryz.call78 (YL ?_) (fun e a w' F' h hF' => XD.ok.mono (h.ev w' fun _ _ => rfl).2 fun b hb => hF' b hb.1)
       intro _ _ _
       conv => whnf
       rw [by_p]
       refine Yk ?_
       refine zd1 [7] (zx rfl ?_ zy)
       conv => whnf
       refine Sy.sli_eq 0 n rfl rfl ⟨by omega, by omega⟩ ?_
       conv => whnf
       rw [fl, fll]
       refine Yk ?_
       refine zd1 [8] (zx rfl ?_ zy)
       conv => whnf
       refine Sy.call_val (.c (.v (.int .u32 (sumV (b.take n))))) Tryz.call58 rfl (fun e a w' h => sum_any _ (b.take n) w' (Sy.row_reads h (.inr rfl)) t8) ?_
       conv => whnf
       refine Yk ?_
       refine zt 9 rfl ?_
       ((repeat' first|refine Y ?_|refine Y2 ?_ ?_|refine Y1 fun hh=>?_|exact Y0.mk);(all_goals (try conv => whnf)))
       refine zt 10 rfl ?_
       conv => whnf
       refine zw ?_
       skip
      rotate_right
      focus
       conv => whnf
       refine Sy.sli_eq 0 n rfl rfl ⟨by omega, by omega⟩ ?_
       conv => whnf
       rw [fl, fll]
       refine Yk ?_
       refine zd1 [4] (zx rfl ?_ zy)
       conv => whnf
       refine Sy.call_own (u32_does (x.rg d8)) Tryz.call78 (YL ?_) (fun e a w' F' h hF' => XD.ok.mono (h.ev w' fun _ _ => rfl).2 fun b hb => hF' b hb.1)
       intro _ _ _
       conv => whnf
       rw [by_p]
       refine Yk ?_
       refine zd1 [8] (zx rfl ?_ zy)
       conv => whnf
       refine Sy.call_val (.c (.v (.int .u32 (sumV (b.take n))))) Tryz.call58 rfl (fun e a w' h => sum_any _ (b.take n) w' (Sy.row_reads h (.inr rfl)) t8) ?_
       conv => whnf
       refine Yk ?_
       refine zt 9 rfl ?_
       ((repeat' first|refine Y ?_|refine Y2 ?_ ?_|refine Y1 fun hh=>?_|exact Y0.mk);(all_goals (try conv => whnf)))
       refine zt 10 rfl ?_
       conv => whnf
       refine zw ?_
       skip
    rotate_right
    focus
     conv => whnf
     refine Sy.sli_eq 0 n rfl rfl ⟨by omega, by omega⟩ ?_
     conv => whnf
     rw [fl, fll]
     refine Yk ?_
     refine zd1 [3] (zx rfl ?_ zy)
     conv => whnf
     refine Sy.call_in Sy.lv77 Sy.tab_ok Tryz.func77 rfl _ Tryz.ntmps77 Tryz.call77 rfl (fun _ => ?_)
     ((repeat' first|refine Y ?_|refine Y2 ?_ ?_|refine Y1 fun hh=>?_|exact Y0.mk);(all_goals (try conv => whnf)))
     refine Sy.call_mem (fun (x : Sc) G w' => XD.ok (fun b => G b ∧ 0 ≤ b) w' (x.xd (b.drop n))) (fun x => .c (.v (x.v (b.drop n)))) Tryz.call126 (fun x => rfl) (fun x G G' w1 w2 h hG hk => XD.ok.keep h (fun b hb => ⟨hG b hb.1, hb.2⟩) fun b hb => hk b hb.1) (fun e a w' h => clone_mem 0 _ (b.drop n) w' (Nat.zero_le _) (Sy.row_reads h (.inr rfl)) (by omega)) (fun x G => ?_)
     ((repeat' first|refine Y ?_|refine Y2 ?_ ?_|refine Y1 fun hh=>?_|exact Y0.mk);(all_goals (try conv => whnf)))
     refine Yk ?_
     refine zd1 [4] (zx rfl ?_ zy)
     conv => whnf
     refine Sy.call_own (u32_does (x.rg d8)) Tryz.call78 (YL ?_) (fun e a w' F' h hF' => XD.ok.mono (h.ev w' fun _ _ => rfl).2 fun b hb => hF' b hb.1)
     intro _ _ _
     conv => whnf
     rw [by_p]
     refine Yk ?_
     refine zd1 [8] (zx rfl ?_ zy)
     conv => whnf
     refine Sy.call_val (.c (.v (.int .u32 (sumV (b.take n))))) Tryz.call58 rfl (fun e a w' h => sum_any _ (b.take n) w' (Sy.row_reads h (.inr rfl)) t8) ?_
     conv => whnf
     refine Yk ?_
     refine zt 9 rfl ?_
     ((repeat' first|refine Y ?_|refine Y2 ?_ ?_|refine Y1 fun hh=>?_|exact Y0.mk);(all_goals (try conv => whnf)))
     refine zt 10 rfl ?_
     conv => whnf
     refine zw ?_
     skip
  rotate_right
  focus
   conv => whnf
   refine Sy.sli_eq 0 n rfl rfl ⟨by omega, by omega⟩ ?_
   conv => whnf
   rw [fl, fll]
   refine Yk ?_
   refine zd1 [2] (zx rfl ?_ zy)
   conv => whnf
   refine Sy.sli_eq n b.length rfl rfl ⟨by omega, by omega⟩ ?_
   conv => whnf
   rw [el, ell]
   refine Yk ?_
   refine zd1 [3] (zx rfl ?_ zy)
   conv => whnf
   refine Sy.call_in Sy.lv77 Sy.tab_ok Tryz.func77 rfl _ Tryz.ntmps77 Tryz.call77 rfl (fun _ => ?_)
   ((repeat' first|refine Y ?_|refine Y2 ?_ ?_|refine Y1 fun hh=>?_|exact Y0.mk);(all_goals (try conv => whnf)))
   refine Sy.call_mem (fun (x : Sc) G w' => XD.ok (fun b => G b ∧ 0 ≤ b) w' (x.xd (b.drop n))) (fun x => .c (.v (x.v (b.drop n)))) Tryz.call126 (fun x => rfl) (fun x G G' w1 w2 h hG hk => XD.ok.keep h (fun b hb => ⟨hG b hb.1, hb.2⟩) fun b hb => hk b hb.1) (fun e a w' h => clone_mem 0 _ (b.drop n) w' (Nat.zero_le _) (Sy.row_reads h (.inr rfl)) (by omega)) (fun x G => ?_)
   ((repeat' first|refine Y ?_|refine Y2 ?_ ?_|refine Y1 fun hh=>?_|exact Y0.mk);(all_goals (try conv => whnf)))
   refine Yk ?_
   refine zd1 [4] (zx rfl ?_ zy)
   conv => whnf
   refine Sy.call_own (u32_does (x.rg d8)) Tryz.call78 (YL ?_) (fun e a w' F' h hF' => XD.ok.mono (h.ev w' fun _ _ => rfl).2 fun b hb => hF' b hb.1)
   intro _ _ _
   conv => whnf
   rw [by_p]
   refine Yk ?_
   refine zd1 [8] (zx rfl ?_ zy)
   conv => whnf
   refine Sy.call_val (.c (.v (.int .u32 (sumV (b.take n))))) Tryz.call58 rfl (fun e a w' h => sum_any _ (b.take n) w' (Sy.row_reads h (.inr rfl)) t8) ?_
   conv => whnf
   refine Yk ?_
   refine zt 9 rfl ?_
   ((repeat' first|refine Y ?_|refine Y2 ?_ ?_|refine Y1 fun hh=>?_|exact Y0.mk);(all_goals (try conv => whnf)))
   refine zt 10 rfl ?_
   conv => whnf
   refine zw ?_
   skip
 all_goals
  rw [show (x.rs (b.drop n)).p = ⟨b.drop n, 0⟩ from rfl]
  generalize (⟨b.drop n, 0⟩ : Ps).n 4 = z at *
  by_cases hz : z = sumV (b.take n)
  ·have hE : opnE b = 0 := hE.trans (if_neg fun h => h hz)
   have hV : opnV b = b.take n := by unfold opnV; rw [if_pos hE, hn]
   rw [hE, hV]
   ((repeat' first|refine Y ?_|refine Y2 ?_ ?_|refine Y1 fun hh=>?_|exact Y0.mk);(all_goals (try conv => whnf)))
   refine Sy.need_of ⟨by omega, by omega⟩ ?_
   conv => whnf
   refine Sy.sli_eq 0 n rfl rfl ⟨by omega, by omega⟩ ?_
   conv => whnf
   rw [fl, fll]
   refine Sy.call_r1 ⟨5, 1, (b.take n).length, (b.take n).map encB⟩ (fun j => .c (.row j)) Tryz.call79 (fun e a w' h => cloneS_any _ (b.take n) w' (Sy.row_reads h (.inr rfl)) (by omega)) ?_
   ((repeat' first|refine Y ?_|refine Y2 ?_ ?_|refine Y1 fun hh=>?_|exact Y0.mk);(all_goals (try conv => whnf)))
   exact Sy.fin_r1 (.row 5) rfl (fun e => rfl)
  ·have hE : opnE b = 130 := hE.trans (if_pos hz)
   have hV : opnV b = [] := if_neg (by rw [hE]; decide)
   rw [hE, hV]
   ((repeat' first|refine Y ?_|refine Y2 ?_ ?_|refine Y1 fun hh=>?_|exact Y0.mk);(all_goals (try conv => whnf)))
   exact Sy.fin_r1 (.v (.slice none 0 0)) ⟨rfl, rfl⟩ (fun e => rfl)
end Go.Proofs.YtgkkpefpbfadoaaGreat
namespace Go.Proofs.YtgkkpefpbfadoaaGreat
open Go Go.RowKit
open Sy (C SV V1 Blk St XD Els)
set_option maxRecDepth 10000
theorem Ps.rd_b {p : Ps} (h : Sn.bytesOk p.l) (k : Nat) : Sn.bytesOk (p.rd k).l := by
 unfold Ps.rd
 split
 ·exact h
 ·split
  ·exact h
  ·exact fun c hc => h c (List.mem_of_mem_drop hc)
theorem Ps.n_b {p : Ps} (h : Sn.bytesOk p.l) (k : Nat) : 0 ≤ p.n k ∧ p.n k < 256 ^ k := by
 unfold Ps.n Ps.by
 split
 ·exact ⟨by decide, Int.pow_pos (by decide)⟩
 ·exact Sn.take_bound h k
theorem lst_len {α : Type} (f : Ps → Ps × α) : ∀ (n : Nat) (p : Ps), (lstN f n p).2.length ≤ n
 | 0, p => Nat.le_refl _
 |n + 1, p => by
  unfold lstN
  split
  ·exact Nat.zero_le _
  ·exact Nat.succ_le_succ (lst_len f n _)
theorem readP_hd {p : Ps} (h : Sn.bytesOk p.l) : I64 (readP p).src ∧ I64 (readP p).dst ∧ (readP p).ins.length ≤ 255 := by
 have h1 := Ps.rd_b h 1
 have e1 := Ps.n_b h1 1
 have h2 := Ps.rd_b h1 1
 have e2 := Ps.n_b h2 1
 have h6 := Ps.rd_b (Ps.rd_b (Ps.rd_b (Ps.rd_b h2 1) 1) 8) 4
 have h8 := Ps.n_b (Ps.rd_b (Ps.rd_b h6 2) ((hdP p).n 2).toNat) 1
 have hl := lst_len inP ((someP (hdP p)).n 1).toNat ((someP (hdP p)).rd 1)
 have h8 : 0 ≤ (someP (hdP p)).n 1 ∧ (someP (hdP p)).n 1 < 256 ^ 1 := h8
 have e3 : (lstP inP (someP (hdP p))).2.length ≤ 255 := Nat.le_trans hl (by omega)
 unfold readP I64
 repeat' split
 ·exact ⟨⟨by show _ ≤ (p.rd 1).n 1; omega, by show (p.rd 1).n 1 ≤ _; omega⟩, ⟨by show _ ≤ ((p.rd 1).rd 1).n 1; omega, by show ((p.rd 1).rd 1).n 1 ≤ _; omega⟩, e3⟩
 all_goals exact ⟨⟨by show _ ≤ (p.rd 1).n 1; omega, by show (p.rd 1).n 1 ≤ _; omega⟩, ⟨by show _ ≤ ((p.rd 1).rd 1).n 1; omega, by show ((p.rd 1).rd 1).n 1 ≤ _; omega⟩, Nat.zero_le _⟩
theorem MOk.keep {F F' : Nat → Prop} {w w' : World} {m : MsgV} (h : MOk F w m) (hF : ∀ b, F b → F' b) (hk : ∀ b, F b → w'.heap[b]? = w.heap[b]?) : MOk F' w' m :=
 ⟨⟨XD.ok.keep h.g.1 hF hk, fun o ho => (h.g.2 o ho).keep hF hk⟩, XD.ok.keep h.i hF hk, fun x hx => XD.ok.keep (h.ir x hx) hF hk, XD.ok.keep h.p hF hk, ⟨XD.ok.keep h.s.rows hF hk, XD.ok.keep h.s.txs hF hk⟩, XD.ok.keep h.n hF hk, XD.ok.keep h.u hF hk, XD.ok.keep h.e hF hk⟩
theorem cells_lt {n : Nat} {m : MsgV} (h : ∀ i, (m.v i).oneCell' = true) : Sy.ltAll n (cellsM C.v m fun i => .v (m.v i)) = true := by
 show Sy.ltAll n [_, _, _, _, _, _, _, C.v (m.v 0), C.v (m.v 1), C.v (m.v 2), _, _, _, _, C.v (m.v 3), _, _, _, _, _, _, _, _, C.v (m.v 4), C.v (m.v 5), C.v (m.v 6), C.v (m.v 7), _, _, _, _, _, _, _, _, _] = true
 simp only [Sy.ltAll, C.lt, h]
 rfl
def msg0 : Msg := ⟨0, 0, 0, 0, 0, 0, 0, [], [], [], Sn.sn0, [], [], [], pk0⟩
def decM (b : List Int) : Msg × Int := if opnE b = 0 ∧ okM (readP ⟨opnV b, 0⟩) ∧ layB (readP ⟨opnV b, 0⟩) = opnV b then (readP ⟨opnV b, 0⟩, 0) else (msg0, 371)
theorem dec_tup {b : List Int} {m : MsgV} {q : Int} (h : (decM b).2 = q) : Value.tuple #[.agg (encM m).toArray, .int .i64 q] = .tuple #[.agg (encM m).toArray, .int .i64 (decM b).2] := by rw [h]
structure Dv (b : List Int) where
 m : MsgV
 h : m.msg = (decM b).1
 one : ∀ i, (m.v i).oneCell' = true
attribute [local irreducible] readP opnV opnE okM layB
set_option maxHeartbeats 4000000 in
theorem fdec_any (v : Value) (b : List Int) (w : World) (hr : XD.ok (fun x => x < w.heap.size) w ⟨v, 1, b.length, b.map encB⟩) (b8 : Sn.bytesOk b) (hb : b.length ≤ 100000) :
  Calls Tryz.prog 13 #[v] w (Sy.RetMem (fun (x : Dv b) G w' => MOk G w' x.m) (fun x => .tuple #[.agg (encM x.m).toArray, .int .i64 (decM b).2]) w) := by
 refine Sy.calls_of Sy.lv13 Sy.tab_ok Tryz.func13 rfl _ Tryz.ntmps13 [⟨v, 1, b.length, b.map encB⟩] [.c (.row 0)] rfl rfl rfl ⟨hr, trivial⟩ ?_
 ((repeat' first|refine Y ?_|refine Y2 ?_ ?_|refine Y1 fun hh=>?_|exact Y0.mk);(all_goals (try conv => whnf)))
 refine Sy.call_r1 ⟨5, 1, (opnV b).length, (opnV b).map encB⟩ (fun j => .tup [.c (.row j), .c (.v (.int .i64 (opnE b)))]) Tryz.call30 (fun e a w' h => open_any _ b w' (Sy.row_reads h (.inr rfl)) b8 hb) ?_
 by_cases h0 : opnE b = 0
 ·have o8 : Sn.bytesOk (opnV b) := by unfold opnV; rw [if_pos h0]; exact fun c hc => b8 c (List.mem_of_mem_take hc)
  have ol : (opnV b).length ≤ 100000 := by unfold opnV; rw [if_pos h0, List.length_take]; omega
  rw [h0]
  ((repeat' first|refine Y ?_|refine Y2 ?_ ?_|refine Y1 fun hh=>?_|exact Y0.mk);(all_goals (try conv => whnf)))
  refine Sy.call_memG (fun (x : Mv (opnV b)) G w' => MOk G w' x.m) (fun x => .agg (cellsM C.v x.m fun i => .v (x.m.v i))) Tryz.call31 (fun x => cells_lt x.one) (fun _ _ _ _ h hk => h.keep (fun _ h => h) hk) (fun e a w' h => read_any _ (opnV b) w' (Sy.row_reads h (.inl ⟨_, rfl⟩)) o8 ol) (fun x G => ?_)
  obtain ⟨e1, e2, e3⟩ := readP_hd (p := ⟨opnV b, 0⟩) o8
  rw [← x.h] at e1 e2 e3
  have e3 : (insOf x.m.il).length ≤ 255 := e3
  rw [insOf_len] at e3
  have hD : decM b = if okM x.m.msg ∧ layB x.m.msg = opnV b then (x.m.msg, 0) else (msg0, 371) := by
   unfold decM
   rw [← x.h]
   by_cases hc : okM x.m.msg ∧ layB x.m.msg = opnV b
   ·rw [if_pos ⟨h0, hc⟩, if_pos hc]
   ·rw [if_neg (fun h => hc h.2), if_neg hc]
  ((repeat' first|refine Y ?_|refine Y2 ?_ ?_|refine Y1 fun hh=>?_|exact Y0.mk);(all_goals (try conv => whnf)))
  refine Sy.call_val (.c (.v (.int .i64 (if okM x.m.msg then 0 else 370)))) Tryz.call19 rfl (fun e a w' h => fcheck_any x.m w' ((h.ev w' fun _ _ => rfl).2.2.1.mono fun b hb => h.fl b (.inr hb)) (by omega) e1 e2) ?_
  by_cases hok : okM x.m.msg
  ·rw [if_pos hok]
   ((repeat' first|refine Y ?_|refine Y2 ?_ ?_|refine Y1 fun hh=>?_|exact Y0.mk);(all_goals (try conv => whnf)))
   refine Sy.call_r1 ⟨5, 1, (layB x.m.msg).length, (layB x.m.msg).map encB⟩ (fun j => .c (.row j)) Tryz.call21 (fun e a w' h => flay_any x.m w' ((h.ev w' fun _ _ => rfl).2.2.1.mono fun b hb => h.fl b (.inr hb)) hok) ?_
   ((repeat' first|refine Y ?_|refine Y2 ?_ ?_|refine Y1 fun hh=>?_|exact Y0.mk);(all_goals (try conv => whnf)))
   refine Sy.call_in Sy.lv18 Sy.tab_ok Tryz.func18 rfl _ Tryz.ntmps18 Tryz.call18 rfl (fun _ => ?_)
   ((repeat' first|refine Y ?_|refine Y2 ?_ ?_|refine Y1 fun hh=>?_|exact Y0.mk);(all_goals (try conv => whnf)))
   refine Sy.call_val (.c (.v (.bool (decide (layB x.m.msg = opnV b))))) Tryz.call53 rfl (fun e a w' h => by
    have := bytesEq_any _ _ (layB x.m.msg) (opnV b) w' (Sy.row_reads h (k := 4) (.inl ⟨_, rfl⟩)) (Sy.row_reads h (k := 2) (.inl ⟨_, rfl⟩))
    rw [bytesEq_dec (layB_by _) o8] at this
    exact this) ?_
   by_cases hq : layB x.m.msg = opnV b
   ·rw [decide_eq_true hq]
    rw [if_pos ⟨hok, hq⟩] at hD
    ((repeat' first|refine Y ?_|refine Y2 ?_ ?_|refine Y1 fun hh=>?_|exact Y0.mk);(all_goals (try conv => whnf)))
    exact fin_mem ⟨x.m, by rw [hD], x.one⟩ (fun e => dec_tup (by rw [hD])) fun w' hs hE hF => hE.2.2.1.mono (new_ok hE.2.1 (fun b h => ⟨h, fun h => h⟩) fun b hb => hF b (.inr hb))
   ·rw [decide_eq_false hq]
    rw [if_neg (fun h => hq h.2)] at hD
    ((repeat' first|refine Y ?_|refine Y2 ?_ ?_|refine Y1 fun hh=>?_|exact Y0.mk);(all_goals (try conv => whnf)))
    exact fin_mem ⟨hdV 0 0 0 0 0 0, by rw [hD]; rfl, fun _ => rfl⟩ (fun e => dec_tup (m := hdV 0 0 0 0 0 0) (by rw [hD])) fun w' hs hE hF => mok_nil
  ·rw [if_neg hok]
   rw [if_neg (fun h => hok h.1)] at hD
   ((repeat' first|refine Y ?_|refine Y2 ?_ ?_|refine Y1 fun hh=>?_|exact Y0.mk);(all_goals (try conv => whnf)))
   exact fin_mem ⟨hdV 0 0 0 0 0 0, by rw [hD]; rfl, fun _ => rfl⟩ (fun e => dec_tup (m := hdV 0 0 0 0 0 0) (by rw [hD])) fun w' hs hE hF => mok_nil
 ·have hD : decM b = (msg0, 371) := if_neg fun h => h0 h.1
  ((repeat' first|refine Y ?_|refine Y2 ?_ ?_|refine Y1 fun hh=>?_|exact Y0.mk);(all_goals (try conv => whnf)))
  exact fin_mem ⟨hdV 0 0 0 0 0 0, by rw [hD]; rfl, fun _ => rfl⟩ (fun e => dec_tup (m := hdV 0 0 0 0 0 0) (by rw [hD])) fun w' hs hE hF => mok_nil
end Go.Proofs.YtgkkpefpbfadoaaGreat
