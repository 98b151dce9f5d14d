/- Snap: which snapshots may be. -/
import Derived.Test.YtgkkpefpbfadoaaGreatAk23
namespace Go.Proofs.YtgkkpefpbfadoaaGreat.Sn
open Go Go.RowKit
open Sy (C SV V1 Blk St XD Els)
set_option maxRecDepth 10000
def chkE (s : Sn) : Int := if rightP s then 0 else 280
theorem chain_ok {α : Type} {ok : α → Bool} {lt : α → α → Bool} : ∀ {l : List α} {p : Option α}, chain ok lt p l = true → ∀ x ∈ l, ok x = true
 | [], _, _, x, hx => by cases hx
 |y :: l, none, h, x, hx => by
  simp only [chain, Bool.and_eq_true] at h
  rcases List.mem_cons.1 hx with rfl | hx
  ·exact h.1
  ·exact chain_ok h.2 x hx
 |y :: l, some z, h, x, hx => by
  simp only [chain, Bool.and_eq_true] at h
  rcases List.mem_cons.1 hx with rfl | hx
  ·exact h.1.1
  ·exact chain_ok h.2 x hx
theorem tbl_rec {l : List Kc} (h : tblB l = true) {x : Kc} (hx : x ∈ l) : recP x.src x.key := (okK_rec (chain_ok h x hx)).1
attribute [local irreducible] ownW tblB namesB rightP
set_option maxHeartbeats 4000000 in
theorem check_any (s : SnV) (w : World) (hr : SOk (fun b => b < w.heap.size) w s) : Calls Tryz.prog 107 #[.agg (encS s).toArray] w (Sy.Ret (.int .i64 (chkE s.sn)) w) := by
 have hl1 := ok_len hr.rows
 have hl2 := ok_len hr.txs
 obtain ⟨⟨op, idx, wid, fin, rows, o, txs⟩, u, t⟩ := s
 dsimp only at hl1 hl2
 refine Sy.calls_of Sy.lv107 Sy.tab_ok Tryz.func107 rfl _ Tryz.ntmps107 [⟨u, 4, rows.length, rows.map encK⟩, ⟨t, 3, txs.length, txs.map encT⟩] [.agg [.v (.int .i64 op), .v (.int .i64 idx), .v (.int .i64 wid), .v (.bool fin), .row 0, .v (.int .i64 (o 0)), .v (.int .i64 (o 1)), .v (.int .i64 (o 2)), .v (.int .i64 (o 3)), .v (.int .i64 (o 4)), .v (.int .i64 (o 5)), .v (.int .i64 (o 6)), .v (.int .i64 (o 7)), .row 1]] rfl rfl rfl ⟨hr.rows, hr.txs, trivial⟩ ?_
 ((repeat' first|refine Y ?_|refine Y2 ?_ ?_|refine Y1 fun hh=>?_|exact Y0.mk);(all_goals (try conv => whnf)))
 refine Sy.call_r1 ⟨3, 1, (ownF idx wid).length, (ownF idx wid).map encI⟩ (fun j => .tup [.c (.row j), .c (.v (.int .i64 (ownE idx wid)))]) Tryz.call147 (fun e a w' h => owned_any idx wid w') ?_
 by_cases hsh : shareP idx wid
 ·have hE : ownE idx wid = 0 := if_pos hsh
  rw [hE]
  by_cases hop : 0 ≤ op ∧ op < 8
  ·((repeat' first|refine Y ?_|refine Y2 ?_ ?_|refine Y1 fun hh=>?_|exact Y0.mk);(all_goals (try conv => whnf)))
   refine Sy.call_val (.c (.v (.int .i64 (if tblB rows = true then 0 else 220)))) Tryz.call148 rfl (fun e a w' h => tbl_any (e.rv 0) rows w' (Sy.row_reads h (.inr rfl))) ?_
   by_cases htb : tblB rows = true
   ·rw [if_pos htb]
    ((repeat' first|refine Y ?_|refine Y2 ?_ ?_|refine Y1 fun hh=>?_|exact Y0.mk);(all_goals (try conv => whnf)))
    refine Sy.call_val (.c (.v (.bool (namesB txs)))) Tryz.call149 rfl (fun e a w' h => named_any (e.rv 1) txs w' (Sy.row_reads h (.inr rfl))) ?_
    by_cases hnm : namesB txs = true
    ·rw [hnm]
     ((repeat' first|refine Y ?_|refine Y2 ?_ ?_|refine Y1 fun hh=>?_|exact Y0.mk);(all_goals (try conv => whnf)))
     refine Sy.call_in Sy.lv152 Sy.tab_ok Tryz.func152 rfl _ Tryz.ntmps152 Tryz.call152 rfl (fun _ => ?_)
     ((repeat' first|refine Y ?_|refine Y2 ?_ ?_|refine Y1 fun hh=>?_|exact Y0.mk);(all_goals (try conv => whnf)))
     refine Sy.call_r1 ⟨3, 1, (ownF idx wid).length, (ownF idx wid).map encI⟩ (fun j => .tup [.c (.row j), .c (.v (.int .i64 (ownE idx wid)))]) Tryz.call147 (fun e a w' h => owned_any idx wid w') ?_
     have hF : ownF idx wid = ownL idx wid := if_pos hsh
     rw [hE, hF]
     have hol := ownN_len idx wid 8
     have hol : (ownL idx wid).length ≤ 8 := hol
     ((repeat' first|refine Y ?_|refine Y2 ?_ ?_|refine Y1 fun hh=>?_|exact Y0.mk);(all_goals (try conv => whnf)))
     refine Sy.call_in Sy.lv192 Sy.tab_ok Tryz.func192 rfl _ Tryz.ntmps192 Tryz.call192 rfl (fun _ => ?_)
     ((repeat' first|refine Y ?_|refine Y2 ?_ ?_|refine Y1 fun hh=>?_|exact Y0.mk);(all_goals (try conv => whnf)))
     refine Sy.sem_range Sy.lv209 Sy.tab_ok _ rfl rfl Tryz.func209 rfl Tryz.ntmps209 Tryz.call209 rfl (fun _ _ => ?_)
     ((repeat' first|refine Y ?_|refine Y2 ?_ ?_|refine Y1 fun hh=>?_|exact Y0.mk);(all_goals (try conv => whnf)))
     refine Sy.loop_inv Sy.tab_ok (fun x : Nat × (Fin 8 → Int) => [(7, .c (.v (.int .i64 x.1)))]) (fun x => [(6, .cells 36 [.v (.int .i64 (x.2 0)), .v (.int .i64 (x.2 1)), .v (.int .i64 (x.2 2)), .v (.int .i64 (x.2 3)), .v (.int .i64 (x.2 4)), .v (.int .i64 (x.2 5)), .v (.int .i64 (x.2 6)), .v (.int .i64 (x.2 7))])]) (fun x => x.1 ≤ (ownL idx wid).length ∧ overP (ownL idx wid) x.1 (fun _ => 0) o x.2 ∧ ∀ z ∈ (ownL idx wid).take x.1, 0 ≤ o (gI z) ∧ o (gI z) ≤ 40) (fun x => (ownL idx wid).length - x.1) (0, o) ⟨Nat.zero_le _, over_zero _ _ _, fun z hz => by rw [List.take_zero] at hz; cases hz⟩ ?_ (fun x hx => ?_)
     ·((repeat' (first|((conv => whnf);done)|((try conv => whnf);first|exact trivial|(refine And.intro ?_ ?_)|rfl|exact fun _ _ _ h=>h|exact fun _ _ _ _=>trivial)));(all_goals (try conv => whnf)))
     ·obtain ⟨j, r⟩ := x
      obtain ⟨hj, hov, hbd⟩ := hx
      dsimp only at hj hov hbd ⊢
      by_cases hlt : j < (ownL idx wid).length
      ·have hg := List.getElem?_eq_getElem hlt
       generalize (ownL idx wid)[j] = x at *
       have hxm := ownL_mem.1 (List.mem_of_getElem? hg)
       have hgv := gI_val hxm.1
       have hst := over_step hov hg hxm.1
       have hat := over_at hov hg hxm.1 (ownL_nodup _ _)
       have htk : (ownL idx wid).take (j + 1) = (ownL idx wid).take j ++ [x] := by
        obtain ⟨hj, he⟩ := List.getElem?_eq_some_iff.1 hg
        rw [List.take_succ_eq_append_getElem hj, he]
       have hown := hxm.2
       generalize hgg : gI x = g at *
       have hgx : x = (g.val : Int) := hgv.symm
       clear hgv
       ((repeat' first|refine Y ?_|refine Y2 ?_ ?_|refine Y1 fun hh=>?_|exact Y0.mk);(all_goals (try conv => whnf)))
       refine Sy.el_map x hg ?_
       ((repeat' first|refine Y ?_|refine Y2 ?_ ?_|refine Y1 fun hh=>?_|exact Y0.mk);(all_goals (try conv => whnf)))
       by_cases hk : 0 ≤ r g ∧ r g ≤ 40
       ·have hbd2 : ∀ z ∈ (ownL idx wid).take (j + 1), 0 ≤ o (gI z) ∧ o (gI z) ≤ 40 := fun z hz => by
         rw [htk] at hz
         rcases List.mem_append.1 hz with hz | hz
         ·exact hbd z hz
         ·rw [List.mem_singleton.1 hz, hgg, ← hat]; exact hk
        clear hat htk hown hbd hov hgg
        induction g, x, hgx using fin8x
        all_goals
         refine Sy.yield_in Sy.tab_ok rfl rfl rfl rfl rfl (fun _ => ?_)
         ((repeat' first|refine Y ?_|refine Y2 ?_ ?_|refine Y1 fun hh=>?_|exact Y0.mk);(all_goals (try conv => whnf)))
         refine ⟨(j + 1, _), ⟨by dsimp only; omega, hst, hbd2⟩, by dsimp only; omega, ?_⟩
         dsimp only
         ((repeat' (first|((conv => whnf);done)|((try conv => whnf);first|exact trivial|(refine And.intro ?_ ?_)|rfl|exact fun _ _ _ h=>h|exact fun _ _ _ _=>trivial)));(all_goals (try conv => whnf)))
       ·have hno : chkE ⟨op, idx, wid, fin, rows, o, txs⟩ = 280 := if_neg fun h => by
         unfold rightP at h
         have h6 := h.2.2.2.2.2 g
         rw [hat] at hk
         exact hk ⟨h6.1, h6.2.1⟩
        rw [hno]
        clear hno hat htk hown hbd hov hgg hst
        induction g, x, hgx using fin8x
        all_goals
         refine Sy.yield_in Sy.tab_ok rfl rfl rfl rfl rfl (fun _ => ?_)
         ((repeat' first|refine Y ?_|refine Y2 ?_ ?_|refine Y1 fun hh=>?_|exact Y0.mk);(all_goals (try conv => whnf)))
         all_goals done
      ·have e : j = (ownL idx wid).length := by omega
       subst e
       rw [List.take_length] at hbd
       by_cases hz : r 0 = 0 ∧ r 1 = 0 ∧ r 2 = 0 ∧ r 3 = 0 ∧ r 4 = 0 ∧ r 5 = 0 ∧ r 6 = 0 ∧ r 7 = 0
       ·obtain ⟨z0, z1, z2, z3, z4, z5, z6, z7⟩ := hz
        ((repeat' first|refine Y ?_|refine Y2 ?_ ?_|refine Y1 fun hh=>?_|exact Y0.mk);(all_goals (try conv => whnf)))
        refine Sy.call_in Sy.lv153 Sy.tab_ok Tryz.func153 rfl _ Tryz.ntmps153 Tryz.call153 rfl (fun _ => ?_)
        ((repeat' first|refine Y ?_|refine Y2 ?_ ?_|refine Y1 fun hh=>?_|exact Y0.mk);(all_goals (try conv => whnf)))
        refine Sy.call_in Sy.lv193 Sy.tab_ok Tryz.func193 rfl _ Tryz.ntmps193 Tryz.call193 rfl (fun _ => ?_)
        ((repeat' first|refine Y ?_|refine Y2 ?_ ?_|refine Y1 fun hh=>?_|exact Y0.mk);(all_goals (try conv => whnf)))
        have hR : chkE ⟨op, idx, wid, fin, rows, o, txs⟩ = if ∀ x ∈ rows, ownW (x.key % 8) wid = idx then 0 else 280 := by
         unfold chkE
         have key : ∀ g, r g = 0 := fin8 z0 z1 z2 z3 z4 z5 z6 z7
         have hoff : ∀ g, offP idx wid o g := fun g => by
          by_cases hm : ownW (g.val : Int) wid = idx
          ·have hm2 := ownL_mem.2 ⟨(show (0 : Int) ≤ (g.val : Int) ∧ (g.val : Int) < 8 by omega), hm⟩
           have hb2 := hbd _ hm2
           have e : gI (g.val : Int) = g := Fin.ext (by have := gI_val (x := (g.val : Int)) (by omega); omega)
           rw [e] at hb2
           exact ⟨hb2.1, hb2.2, fun _ => hm⟩
          ·have hm2 : (g.val : Int) ∉ (ownL idx wid).take (ownL idx wid).length := fun h => hm (by rw [List.take_length] at h; exact (ownL_mem.1 h).2)
           have h0 : o g = 0 := by rw [← (hov g).2 hm2]; exact key g
           exact ⟨by omega, by omega, fun h => absurd h0 h⟩
         by_cases ha : ∀ x ∈ rows, ownW (x.key % 8) wid = idx
         ·rw [if_pos ha, if_pos]
          unfold rightP
          exact ⟨hop, hsh, htb, hnm, ha, hoff⟩
         ·rw [if_neg ha, if_neg]
          intro h
          unfold rightP at h
          exact ha h.2.2.2.2.1
        refine Sy.loop_inv Sy.tab_ok (fun n : Nat => [(8, .c (.v (.int .i64 n)))]) (fun _ => []) (fun n => n ≤ rows.length ∧ ∀ x ∈ rows.take n, ownW (x.key % 8) wid = idx) (fun n => rows.length - n) 0 ⟨Nat.zero_le _, fun x hx => by rw [List.take_zero] at hx; cases hx⟩ ?_ (fun n hn => ?_)
        ·((repeat' (first|((conv => whnf);done)|((try conv => whnf);first|exact trivial|(refine And.intro ?_ ?_)|rfl|exact fun _ _ _ h=>h|exact fun _ _ _ _=>trivial)));(all_goals (try conv => whnf)))
        ·obtain ⟨hn, ha⟩ := hn
         by_cases hlt : n < rows.length
         ·have hg := List.getElem?_eq_getElem hlt
          have hsn : rows.take (n + 1) = rows.take n ++ [rows[n]] := List.take_succ_eq_append_getElem hlt
          have hxm := List.getElem_mem hlt
          generalize rows[n] = x at *
          ((repeat' first|refine Y ?_|refine Y2 ?_ ?_|refine Y1 fun hh=>?_|exact Y0.mk);(all_goals (try conv => whnf)))
          refine Sy.el_map x hg ?_
          ((repeat' first|refine Y ?_|refine Y2 ?_ ?_|refine Y1 fun hh=>?_|exact Y0.mk);(all_goals (try conv => whnf)))
          refine Sy.call_in Sy.lv150 Sy.tab_ok Tryz.func150 rfl _ Tryz.ntmps150 Tryz.call150 rfl (fun _ => ?_)
          ((repeat' first|refine Y ?_|refine Y2 ?_ ?_|refine Y1 fun hh=>?_|exact Y0.mk);(all_goals (try conv => whnf)))
          refine Sy.call_val (.c (.v (.bool (decide (mineP x.src x.key idx wid))))) Tryz.call151 rfl (fun e a w' h => mine_any x.src x.key 0 idx wid w') ?_
          by_cases hmn : ownW (x.key % 8) wid = idx
          ·rw [decide_eq_true (show mineP x.src x.key idx wid from ⟨tbl_rec htb hxm, hsh, hmn⟩)]
           ((repeat' first|refine Y ?_|refine Y2 ?_ ?_|refine Y1 fun hh=>?_|exact Y0.mk);(all_goals (try conv => whnf)))
           refine ⟨n + 1, ⟨by omega, fun y hy => ?_⟩, by omega, ?_⟩
           ·rw [hsn] at hy
            rcases List.mem_append.1 hy with hy | hy
            ·exact ha y hy
            ·rw [List.mem_singleton.1 hy]; exact hmn
           ·((repeat' (first|((conv => whnf);done)|((try conv => whnf);first|exact trivial|(refine And.intro ?_ ?_)|rfl|exact fun _ _ _ h=>h|exact fun _ _ _ _=>trivial)));(all_goals (try conv => whnf)))
          ·rw [decide_eq_false (fun h : mineP x.src x.key idx wid => hmn h.2.2)]
           rw [hR, if_neg (fun h => hmn (h x hxm))]
           ((repeat' first|refine Y ?_|refine Y2 ?_ ?_|refine Y1 fun hh=>?_|exact Y0.mk);(all_goals (try conv => whnf)))
           all_goals done
         ·have e : n = rows.length := by omega
          rw [e, List.take_length] at ha
          rw [hR, if_pos ha]
          ((repeat' first|refine Y ?_|refine Y2 ?_ ?_|refine Y1 fun hh=>?_|exact Y0.mk);(all_goals (try conv => whnf)))
          all_goals done
       ·have hno : chkE ⟨op, idx, wid, fin, rows, o, txs⟩ = 280 := if_neg fun h => by
         unfold rightP at h
         have key : ∀ g, r g = 0 := fun g => by
          by_cases hm : (g.val : Int) ∈ (ownL idx wid).take (ownL idx wid).length
          ·exact (hov g).1 hm
          ·rw [(hov g).2 hm]
           have h6 := h.2.2.2.2.2 g
           by_cases h7 : o g = 0
           ·exact h7
           ·exact absurd (by rw [List.take_length]; exact ownL_mem.2 ⟨by omega, h6.2.2 h7⟩) hm
         exact hz ⟨key 0, key 1, key 2, key 3, key 4, key 5, key 6, key 7⟩
        rw [hno]
        ((repeat' first|refine Y ?_|refine Y2 ?_ ?_|refine Y1 fun hh=>?_|exact Y0.mk);(all_goals (try conv => whnf)))
        all_goals (exfalso; omega)
    ·rw [chkE, if_neg (fun h => by unfold rightP at h; exact hnm h.2.2.2.1), show namesB txs = false by simpa using hnm]
     ((repeat' first|refine Y ?_|refine Y2 ?_ ?_|refine Y1 fun hh=>?_|exact Y0.mk);(all_goals (try conv => whnf)))
     all_goals done
   ·rw [if_neg htb, chkE, if_neg (fun h => by unfold rightP at h; exact htb h.2.2.1)]
    ((repeat' first|refine Y ?_|refine Y2 ?_ ?_|refine Y1 fun hh=>?_|exact Y0.mk);(all_goals (try conv => whnf)))
    all_goals done
  ·rw [chkE, if_neg (fun h => hop (by unfold rightP at h; exact h.1))]
   ((repeat' first|refine Y ?_|refine Y2 ?_ ?_|refine Y1 fun hh=>?_|exact Y0.mk);(all_goals (try conv => whnf)))
   all_goals done
 ·have hE : ownE idx wid = 2 := if_neg hsh
  rw [hE, chkE, if_neg (fun h => hsh (by unfold rightP at h; exact h.2.1))]
  ((repeat' first|refine Y ?_|refine Y2 ?_ ?_|refine Y1 fun hh=>?_|exact Y0.mk);(all_goals (try conv => whnf)))
  all_goals done
end Go.Proofs.YtgkkpefpbfadoaaGreat.Sn
namespace Go.Proofs.YtgkkpefpbfadoaaGreat.Sn
open Go Go.RowKit
open Sy (C SV V1 Blk St XD Els)
set_option maxRecDepth 10000
theorem off_cell (o : Fin 8 → Int) : ∀ (g : Fin 8) (x : Int), x = (g.val : Int) → ([.v (.int .i64 (o 0)), .v (.int .i64 (o 1)), .v (.int .i64 (o 2)), .v (.int .i64 (o 3)), .v (.int .i64 (o 4)), .v (.int .i64 (o 5)), .v (.int .i64 (o 6)), .v (.int .i64 (o 7))] : List C)[x.toNat]? = some (.v (.int .i64 (o g))) := fin8x rfl rfl rfl rfl rfl rfl rfl rfl
attribute [local irreducible] ownW tblB namesB rightP
theorem tx_ext {x y : Tx} (h1 : x.sink = y.sink) (h2 : x.att = y.att) (h3 : x.ser = y.ser) : x = y := by cases x; cases y; simp_all
theorem kc_ext {x y : Kc} (h1 : x.src = y.src) (h2 : x.key = y.key) (h3 : x.cnt = y.cnt) (h4 : x.sum = y.sum) : x = y := by cases x; cases y; simp_all
end Go.Proofs.YtgkkpefpbfadoaaGreat.Sn
namespace Go.Proofs.YtgkkpefpbfadoaaGreat.Sn
open Go Go.RowKit
open Sy (C SV V1 Blk St XD Els)
set_option maxRecDepth 10000
theorem sn_ext {a b : Sn} (h1 : a.op = b.op) (h2 : a.idx = b.idx) (h3 : a.wid = b.wid) (h4 : a.fin = b.fin) (h5 : a.rows = b.rows) (h6 : a.offs = b.offs) (h7 : a.txs = b.txs) : a = b := by cases a; cases b; simp_all
end Go.Proofs.YtgkkpefpbfadoaaGreat.Sn
