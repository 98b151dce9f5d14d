/- Snap: the document's Whole. -/
import Derived.Test.YtmahldelmbhjfaaSwB
import Derived.Test.YtmahldelmbhjfaaSnE
namespace Go.Proofs.Ytmahldelmbhjfaa
open Go Go.RowKit
open Sy (C SV V1 Blk St XD Els)
set_option maxRecDepth 10000

theorem offs_right {s : Sn} (h : rightP s) (g : Fin 8) : 0 ≤ s.offs g ∧ s.offs g ≤ 40 ∧ (s.offs g ≠ 0 → ownW (g.val : Int) s.wid = s.idx) := h.2.2.2.2.2 g
/-- What is added for a part is laid over what there was. -/
theorem win_add {L : List Sn} {op : Int} {n : Nat} {r r' : Fin 8 → Int} {s : Sn} (h : WInv L op L.length n r) (hr : rightP s) (hp : partP op L.length n s) (ha : ∀ g, r' g = r g + s.offs g) : overP (ownL n L.length) (ownL n L.length).length s.offs r r' := fun g => by
  have hmem : (g.val : Int) ∈ (ownL (n : Int) L.length).take (ownL (n : Int) L.length).length ↔ ownW (g.val : Int) L.length = n := by
    rw [List.take_length, ownL_mem]
    exact ⟨fun h => h.2, fun h => ⟨by omega, h⟩⟩
  rw [hmem, ha g]
  refine ⟨fun hg => ?_, fun hg => ?_⟩
  · rw [(h.offs g).2 (by omega)]; omega
  · have := (offs_right hr g).2.2
    rw [hp.2.1, hp.2.2] at this
    have h0 : s.offs g = 0 := Classical.byContradiction fun hne => hg (this hne)
    omega
theorem win_bound {L : List Sn} {op : Int} {n : Nat} {r : Fin 8 → Int} (h : WInv L op L.length n r) (hall : ∀ s ∈ L, rightP s) (g : Fin 8) : 0 ≤ r g ∧ r g ≤ 40 := by
  by_cases hg : ownW (g.val : Int) L.length < n
  · rw [(h.offs g).1 hg]
    unfold offW
    split
    · rename_i s hs
      have := offs_right (hall s (List.mem_of_getElem? hs)) g
      exact ⟨this.1, this.2.1⟩
    · omega
  · rw [(h.offs g).2 (by omega)]; omega
theorem parts_get {L : List Sn} {s0 s : Sn} {n : Nat} (h0 : L[0]? = some s0) (hs : L[n]? = some s) (h : partsP L) : partP s0.op L.length n s := by
  cases L with
  | nil => cases hs
  | cons t l =>
    cases h0
    have hnl := (List.getElem?_eq_some_iff.1 hs).1
    have h1 := h n hnl
    rw [(List.getElem?_eq_some_iff.1 hs).2] at h1
    exact h1
attribute [local irreducible] ownW tblB namesB rightP
set_option maxHeartbeats 8000000 in
theorem rwhole_any (v : Value) (ls : List SnV) (w : World) (hr : SsOk (fun b => b < w.heap.size) w v ls) :
    Calls Try.prog 20 #[v] w (Sy.RetRows Sy.noRow (fun _ : Unit => True) (fun _ => [⟨73, 4, (wholeV (snsOf ls)).rows.length, (wholeV (snsOf ls)).rows.map encK⟩, ⟨89, 3, (wholeV (snsOf ls)).txs.length, (wholeV (snsOf ls)).txs.map encT⟩]) (fun _ vs => retS (wholeV (snsOf ls)) (wholeE (snsOf ls)) vs) w) := by
  have hl := ok_len hr.1
  have hsl : (snsOf ls).length = ls.length := List.length_map _
  have hno : ∀ e, wholeE (snsOf ls) = e → e ≠ 0 → wholeV (snsOf ls) = sn0 := fun e h1 h2 => if_neg (by rw [h1]; exact h2)
  refine Sy.calls_of Sy.lv20 Sy.tab_ok Try.func20 rfl _ Try.ntmps20 [⟨v, 14, ls.length, ls.map encS⟩] [.c (.row 0)] rfl rfl rfl ⟨hr.1, trivial⟩ ?_
  ((repeat' ((conv => whnf);(first|refine zA ?_|(refine zI ?_ ?_<;> intro hh<;> first|(exfalso;omega)|skip)|(refine zl ?_ ?_<;> intro hh)|refine zq ?_|refine zv ?_|exact Sy.fin_val fun e=>rfl)));(all_goals (try conv => whnf)))
  refine Sy.loop_inv Sy.tab_ok (fun n : Nat => [(13, .c (.v (.int .i64 n)))]) (fun _ => []) (fun n => n ≤ ls.length ∧ ∀ s ∈ ls.take n, rightP s.sn) (fun n => ls.length - n) 0 ⟨Nat.zero_le _, fun x hx => by rw [List.take_zero] at hx; cases hx⟩ ?_ (fun n hn => ?_)
  · ((repeat' (first|((conv => whnf);done)|((try conv => whnf);first|exact trivial|(refine And.intro ?_ ?_)|rfl|exact fun _ _ _ h=>h|exact fun _ _ _ _=>trivial)));(all_goals (try conv => whnf)))
  · obtain ⟨hn, ha⟩ := hn
    by_cases hlt : n < ls.length
    · have hg := List.getElem?_eq_getElem hlt
      have hsn : ls.take (n + 1) = ls.take n ++ [ls[n]] := List.take_succ_eq_append_getElem hlt
      have hxm := List.getElem_mem hlt
      generalize ls[n] = s at *
      ((repeat' ((conv => whnf);(first|refine zA ?_|(refine zI ?_ ?_<;> intro hh<;> first|(exfalso;omega)|skip)|(refine zl ?_ ?_<;> intro hh)|refine zq ?_|refine zv ?_|exact Sy.fin_val fun e=>rfl)));(all_goals (try conv => whnf)))
      refine Sy.el_map s hg ?_
      ((repeat' ((conv => whnf);(first|refine zA ?_|(refine zI ?_ ?_<;> intro hh<;> first|(exfalso;omega)|skip)|(refine zl ?_ ?_<;> intro hh)|refine zq ?_|refine zv ?_|exact Sy.fin_val fun e=>rfl)));(all_goals (try conv => whnf)))
      refine Sy.call_val (.c (.v (.bool (decide (rightP s.sn))))) Try.call12 rfl (fun e a w' h => right_any s w' ⟨Sy.later_in h (hr.2 s hxm).rows, Sy.later_in h (hr.2 s hxm).txs⟩) ?_
      by_cases hrt : rightP s.sn
      · rw [decide_eq_true hrt]
        ((repeat' ((conv => whnf);(first|refine zA ?_|(refine zI ?_ ?_<;> intro hh<;> first|(exfalso;omega)|skip)|(refine zl ?_ ?_<;> intro hh)|refine zq ?_|refine zv ?_|exact Sy.fin_val fun e=>rfl)));(all_goals (try conv => whnf)))
        refine ⟨n + 1, ⟨by omega, fun y hy => ?_⟩, by omega, ?_⟩
        · rw [hsn] at hy
          rcases List.mem_append.1 hy with hy | hy
          · exact ha y hy
          · rw [List.mem_singleton.1 hy]; exact hrt
        · ((repeat' (first|((conv => whnf);done)|((try conv => whnf);first|exact trivial|(refine And.intro ?_ ?_)|rfl|exact fun _ _ _ h=>h|exact fun _ _ _ _=>trivial)));(all_goals (try conv => whnf)))
      · rw [decide_eq_false hrt]
        have hE : wholeE (snsOf ls) = 280 := if_neg fun h => hrt (h _ (List.mem_map.2 ⟨s, hxm, rfl⟩))
        rw [hE, hno _ hE (by decide)]
        ((repeat' ((conv => whnf);(first|refine zA ?_|(refine zI ?_ ?_<;> intro hh<;> first|(exfalso;omega)|skip)|(refine zl ?_ ?_<;> intro hh)|refine zq ?_|refine zv ?_|exact Sy.fin_val fun e=>rfl)));(all_goals (try conv => whnf)))
        exact Sy.fin_r2 (.v (.slice none 0 0)) (.v (.slice none 0 0)) ⟨rfl, rfl⟩ ⟨rfl, rfl⟩ (by decide) (fun e => rfl)
    · have e : n = ls.length := by omega
      subst e
      rw [List.take_length] at ha
      have hall : ∀ s ∈ snsOf ls, rightP s := fun s hs => by
        obtain ⟨x, hx, rfl⟩ := List.mem_map.1 hs
        exact ha x hx
      by_cases h0 : ls.length = 0
      · have hE : wholeE (snsOf ls) = 281 := by
          unfold wholeE
          rw [if_pos hall, if_neg]
          intro h
          have : ls = [] := List.length_eq_zero_iff.1 h0
          subst this
          exact h
        rw [hE, hno _ hE (by decide)]
        ((repeat' ((conv => whnf);(first|refine zA ?_|(refine zI ?_ ?_<;> intro hh<;> first|(exfalso;omega)|skip)|(refine zl ?_ ?_<;> intro hh)|refine zq ?_|refine zv ?_|exact Sy.fin_val fun e=>rfl)));(all_goals (try conv => whnf)))
        exact Sy.fin_r2 (.v (.slice none 0 0)) (.v (.slice none 0 0)) ⟨rfl, rfl⟩ ⟨rfl, rfl⟩ (by decide) (fun e => rfl)
      · have hg0 := List.getElem?_eq_getElem (show 0 < ls.length by omega)
        generalize ls[0] = s0 at *
        have hs0 : (snsOf ls)[0]? = some s0.sn := by unfold snsOf; rw [List.getElem?_map, hg0]; rfl
        by_cases hw0 : s0.sn.wid = (ls.length : Int)
        · ((repeat' ((conv => whnf);(first|refine zA ?_|(refine zI ?_ ?_<;> intro hh<;> first|(exfalso;omega)|skip)|(refine zl ?_ ?_<;> intro hh)|refine zq ?_|refine zv ?_|exact Sy.fin_val fun e=>rfl)));(all_goals (try conv => whnf)))
          refine Sy.el_map s0 hg0 ?_
          ((repeat' ((conv => whnf);(first|refine zA ?_|(refine zI ?_ ?_<;> intro hh<;> first|(exfalso;omega)|skip)|(refine zl ?_ ?_<;> intro hh)|refine zq ?_|refine zv ?_|exact Sy.fin_val fun e=>rfl)));(all_goals (try conv => whnf)))
          refine Sy.el_map s0 hg0 ?_
          ((repeat' ((conv => whnf);(first|refine zA ?_|(refine zI ?_ ?_<;> intro hh<;> first|(exfalso;omega)|skip)|(refine zl ?_ ?_<;> intro hh)|refine zq ?_|refine zv ?_|exact Sy.fin_val fun e=>rfl)));(all_goals (try conv => whnf)))
          refine Sy.sem_subF (Sy.sub_rowc 2 4 73 4 rfl rfl) ?_
          conv => whnf
          refine Sy.sem_subF (Sy.sub_rowc 2 13 89 3 rfl rfl) ?_
          conv => whnf
          refine Sy.loop_inv Sy.tab_ok (fun x : Nat × (Fin 8 → Int) => [(42, .c (.v (.int .i64 x.1)))]) (fun x => [(2, .cells 33 [.v (.int .i64 s0.sn.op), .v (.int .i64 0), .v (.int .i64 1), .v (.bool (finW ((snsOf ls).take x.1))), .row 3, .v (.int .i64 (x.2 0)), .v (.int .i64 (x.2 1)), .v (.int .i64 (x.2 2)), .v (.int .i64 (x.2 3)), .v (.int .i64 (x.2 4)), .v (.int .i64 (x.2 5)), .v (.int .i64 (x.2 6)), .v (.int .i64 (x.2 7)), .row 4]), (3, .row 73 4 (rowsW ((snsOf ls).take x.1)).length (.vs ((rowsW ((snsOf ls).take x.1)).map encK))), (4, .row 89 3 (txsW ((snsOf ls).take x.1)).length (.vs ((txsW ((snsOf ls).take x.1)).map encT)))])
            (fun x => WInv (snsOf ls) s0.sn.op (snsOf ls).length x.1 x.2) (fun x => ls.length - x.1) (0, fun _ => 0) (win_zero _ _) ?_ (fun x hx => ?_)
          · rw [show rowsW ((snsOf ls).take 0) = [] from rfl, show txsW ((snsOf ls).take 0) = [] from rfl, show finW ((snsOf ls).take 0) = true from rfl]
            ((repeat' (first|((conv => whnf);done)|((try conv => whnf);first|exact trivial|(refine And.intro ?_ ?_)|rfl|exact fun _ _ _ h=>h|exact fun _ _ _ _=>trivial)));(all_goals (try conv => whnf)))
          · obtain ⟨n, r⟩ := x
            have hn := hx.le
            dsimp only at hx hn ⊢
            by_cases hlt : n < ls.length
            · have hg := List.getElem?_eq_getElem hlt
              have hxm := List.getElem_mem hlt
              generalize ls[n] = s at *
              have hsn : (snsOf ls)[n]? = some s.sn := by unfold snsOf; rw [List.getElem?_map, hg]; rfl
              have hrt := ha s hxm
              have hsr := hr.2 s hxm
              have htx := names_len (by unfold rightP at hrt; exact hrt.2.2.2.1)
              have htl := hx.txs
              obtain ⟨hnr, hnt, hnf⟩ := rowsW_succ hsn
              by_cases hp : partP s0.sn.op (snsOf ls).length n s.sn
              · have hjn := join_ok hx.rows (right_rows hrt).1 (win_apart hx hrt hp)
                have hap := win_apart hx hrt hp
                have hrb := win_bound hx hall
                have hsb := offs_right hrt
                have hws := fun r' h => win_step (r' := r') hx hsn hrt hp (win_add hx hrt hp h)
                obtain ⟨p1, p2, p3⟩ := hp
                have p3' : s.sn.wid = (ls.length : Int) := by rw [p3, hsl]
                have hsh : shareP s.sn.idx s.sn.wid := by unfold rightP at hrt; exact hrt.2.1
                have hp3 : n < 3 ∧ ls.length ≤ 3 := by
                  unfold shareP at hsh
                  rw [hsl] at p3
                  omega
                ((repeat' ((conv => whnf);(first|refine zA ?_|(refine zI ?_ ?_<;> intro hh<;> first|(exfalso;omega)|skip)|(refine zl ?_ ?_<;> intro hh)|refine zq ?_|refine zv ?_|exact Sy.fin_val fun e=>rfl)));(all_goals (try conv => whnf)))
                refine Sy.el_map s hg ?_
                ((repeat' ((conv => whnf);(first|refine zA ?_|(refine zI ?_ ?_<;> intro hh<;> first|(exfalso;omega)|skip)|(refine zl ?_ ?_<;> intro hh)|exact Sy.fin_val fun e=>rfl)));(all_goals (try conv => whnf)))
                refine zv ?_
                refine open_c 5 4 4 s.sn.rows.length (s.sn.rows.map encK) rfl rfl hsr.rows (fun _ h => h) ?_
                conv => whnf
                refine open_c 5 13 3 s.sn.txs.length (s.sn.txs.map encT) rfl rfl hsr.txs (fun _ h => h) ?_
                conv => whnf
                refine Sy.draw_go [] (by kernel_rfl) ?_
                intro e0
                conv => whnf
                refine zt 0 rfl ?_
                conv => whnf
                refine zt 1 rfl ?_
                conv => whnf
                refine zt 2 rfl ?_
                conv => whnf
                refine zt 3 rfl ?_
                (conv => whnf);(repeat' ((first|refine zA ?_|(refine zI ?_ ?_<;> intro hh<;> first|(exfalso;omega)|skip)|(refine zl ?_ ?_<;> intro hh)|refine zq ?_|refine zv ?_|refine zu ?_|exact Sy.fin_val fun e=>rfl);(try conv => whnf)))
                refine zt 4 rfl ?_
                conv => whnf
                refine zt 5 rfl ?_
                conv => whnf
                refine Sy.el_map s0 hg0 ?_
                conv => whnf
                conv => whnf
                refine zt 6 rfl ?_
                (conv => whnf);(repeat' ((first|refine zA ?_|(refine zI ?_ ?_<;> intro hh<;> first|(exfalso;omega)|skip)|(refine zl ?_ ?_<;> intro hh)|refine zq ?_|refine zv ?_|refine zu ?_|exact Sy.fin_val fun e=>rfl);(try conv => whnf)))
                refine zt 7 rfl ?_
                conv => whnf
                refine zt 8 rfl ?_
                (conv => whnf);(repeat' ((first|refine zA ?_|(refine zI ?_ ?_<;> intro hh<;> first|(exfalso;omega)|skip)|(refine zl ?_ ?_<;> intro hh)|refine zq ?_|refine zv ?_|refine zu ?_|exact Sy.fin_val fun e=>rfl);(try conv => whnf)))
                refine zt 9 rfl ?_
                (conv => whnf);(repeat' ((first|refine zA ?_|(refine zI ?_ ?_<;> intro hh<;> first|(exfalso;omega)|skip)|(refine zl ?_ ?_<;> intro hh)|refine zq ?_|refine zv ?_|refine zu ?_|exact Sy.fin_val fun e=>rfl);(try conv => whnf)))
                refine zt 10 rfl ?_
                (conv => whnf);(repeat' ((first|refine zA ?_|(refine zI ?_ ?_<;> intro hh<;> first|(exfalso;omega)|skip)|(refine zl ?_ ?_<;> intro hh)|refine zq ?_|refine zv ?_|refine zu ?_|exact Sy.fin_val fun e=>rfl);(try conv => whnf)))
                refine zt 11 rfl ?_
                (conv => whnf);(repeat' ((first|refine zA ?_|(refine zI ?_ ?_<;> intro hh<;> first|(exfalso;omega)|skip)|(refine zl ?_ ?_<;> intro hh)|refine zq ?_|refine zv ?_|refine zu ?_|exact Sy.fin_val fun e=>rfl);(try conv => whnf)))
                refine zt 12 rfl ?_
                (conv => whnf);(repeat' ((first|refine zA ?_|(refine zI ?_ ?_<;> intro hh<;> first|(exfalso;omega)|skip)|(refine zl ?_ ?_<;> intro hh)|refine zq ?_|refine zv ?_|refine zu ?_|exact Sy.fin_val fun e=>rfl);(try conv => whnf)))
                refine zt 13 rfl ?_
                (conv => whnf);(repeat' ((first|refine zA ?_|(refine zI ?_ ?_<;> intro hh<;> first|(exfalso;omega)|skip)|(refine zl ?_ ?_<;> intro hh)|refine zq ?_|refine zv ?_|refine zu ?_|exact Sy.fin_val fun e=>rfl);(try conv => whnf)))
                refine zt 14 rfl ?_
                conv => whnf
                refine zt 15 rfl ?_
                (conv => whnf);(repeat' ((first|refine zA ?_|(refine zI ?_ ?_<;> intro hh<;> first|(exfalso;omega)|skip)|(refine zl ?_ ?_<;> intro hh)|refine zq ?_|refine zv ?_|refine zu ?_|exact Sy.fin_val fun e=>rfl);(try conv => whnf)))
                refine zt 16 rfl ?_
                (conv => whnf);(repeat' ((first|refine zA ?_|(refine zI ?_ ?_<;> intro hh<;> first|(exfalso;omega)|skip)|(refine zl ?_ ?_<;> intro hh)|refine zq ?_|refine zv ?_|refine zu ?_|exact Sy.fin_val fun e=>rfl);(try conv => whnf)))
                refine zt 17 rfl ?_
                (conv => whnf);(repeat' ((first|refine zA ?_|(refine zI ?_ ?_<;> intro hh<;> first|(exfalso;omega)|skip)|(refine zl ?_ ?_<;> intro hh)|refine zq ?_|refine zv ?_|refine zu ?_|exact Sy.fin_val fun e=>rfl);(try conv => whnf)))
                refine zt 18 rfl ?_
                (conv => whnf);(repeat' ((first|refine zA ?_|(refine zI ?_ ?_<;> intro hh<;> first|(exfalso;omega)|skip)|(refine zl ?_ ?_<;> intro hh)|refine zq ?_|refine zv ?_|refine zu ?_|exact Sy.fin_val fun e=>rfl);(try conv => whnf)))
                refine zt 19 rfl ?_
                (conv => whnf);(repeat' ((first|refine zA ?_|(refine zI ?_ ?_<;> intro hh<;> first|(exfalso;omega)|skip)|(refine zl ?_ ?_<;> intro hh)|refine zq ?_|refine zv ?_|refine zu ?_|exact Sy.fin_val fun e=>rfl);(try conv => whnf)))
                refine zw ?_
                skip
                cases hfw : finW ((snsOf ls).take n)
                all_goals
                  rw [hfw] at hnf
                  ((repeat' ((conv => whnf);(first|refine zA ?_|(refine zI ?_ ?_<;> intro hh<;> first|(exfalso;omega)|skip)|(refine zl ?_ ?_<;> intro hh)|refine zq ?_|refine zv ?_|exact Sy.fin_val fun e=>rfl)));(all_goals (try conv => whnf)))
                  refine Sy.call_r1 ⟨73, 4, (joinK (rowsW ((snsOf ls).take n)) s.sn.rows).length, (joinK (rowsW ((snsOf ls).take n)) s.sn.rows).map encK⟩ (fun j => .tup [.agg [.row j], .c (.v (.int .i64 0))]) Try.call52 (fun e a w' h => rjoin_any (e.rv 3) (e.rv 6) (rowsW ((snsOf ls).take n)) s.sn.rows w' (Sy.row_reads h (.inl ⟨_, rfl⟩)) (Sy.row_reads h (.inr rfl)) hx.rows (right_rows hrt).1 hap) ?_
                  ((repeat' ((conv => whnf);(first|refine zA ?_|(refine zI ?_ ?_<;> intro hh<;> first|(exfalso;omega)|skip)|(refine zl ?_ ?_<;> intro hh)|refine zq ?_|refine zv ?_|exact Sy.fin_val fun e=>rfl)));(all_goals (try conv => whnf)))
                  refine Sy.loop_inv Sy.tab_ok (fun x : Nat × (Fin 8 → Int) => [(86, .c (.v (.int .i64 x.1)))]) (fun x => [(2, .cells 33 [.v (.int .i64 s0.sn.op), .v (.int .i64 0), .v (.int .i64 1), .v (.bool (finW ((snsOf ls).take (n + 1)))), .row 8, .v (.int .i64 (x.2 0)), .v (.int .i64 (x.2 1)), .v (.int .i64 (x.2 2)), .v (.int .i64 (x.2 3)), .v (.int .i64 (x.2 4)), .v (.int .i64 (x.2 5)), .v (.int .i64 (x.2 6)), .v (.int .i64 (x.2 7)), .row 4])]) (fun x => x.1 ≤ 8 ∧ ∀ g : Fin 8, (g.val < x.1 → x.2 g = r g + s.sn.offs g) ∧ (x.1 ≤ g.val → x.2 g = r g)) (fun x => 8 - x.1) (0, r) ⟨Nat.zero_le _, fun g => ⟨fun h => absurd h (Nat.not_lt_zero _), fun _ => rfl⟩⟩ ?_ (fun x hx2 => ?_)
                  · rw [hnf]
                    ((repeat' (first|((conv => whnf);done)|((try conv => whnf);first|exact trivial|(refine And.intro ?_ ?_)|rfl|exact fun _ _ _ h=>h|exact fun _ _ _ _=>trivial)));(all_goals (try conv => whnf)))
                  · obtain ⟨m, r'⟩ := x
                    obtain ⟨hm, hrr⟩ := hx2
                    dsimp only at hm hrr ⊢
                    by_cases hlt2 : m < 8
                    · obtain ⟨g, hgx⟩ : ∃ g : Fin 8, (m : Int) = (g.val : Int) := ⟨⟨m, hlt2⟩, rfl⟩
                      have hgm : g.val = m := by omega
                      have hb1 := hrb g
                      have hb2 := hsb g
                      have hb3 := (hrr g).2 (by omega)
                      ((repeat' ((conv => whnf);(first|refine zA ?_|(refine zI ?_ ?_<;> intro hh<;> first|(exfalso;omega)|skip)|(refine zl ?_ ?_<;> intro hh)|refine zq ?_|refine zv ?_|exact Sy.fin_val fun e=>rfl)));(all_goals (try conv => whnf)))
                      refine Sy.cell_of (.v (.int .i64 (s.sn.offs g))) (by first | exact off_cell s.sn.offs g m hgx | (show _[_ * 1]? = _; rw [Nat.mul_one]; exact off_cell s.sn.offs g m hgx)) ?_
                      have hnext : ∀ g' : Fin 8, (g'.val < m + 1 → upd r' g (r' g + s.sn.offs g) g' = r g' + s.sn.offs g') ∧ (m + 1 ≤ g'.val → upd r' g (r' g + s.sn.offs g) g' = r g') := fun g' => by
                        by_cases e : g' = g
                        · subst e
                          rw [upd_same, hb3]
                          exact ⟨fun _ => rfl, fun h => by omega⟩
                        · have hne : g'.val ≠ m := fun h => e (Fin.ext (by omega))
                          rw [upd_other _ e]
                          exact ⟨fun h => (hrr g').1 (by omega), fun h => (hrr g').2 (by omega)⟩
                      clear hrr
                      have hm1 : ((m + 1 : Nat) : Int) = (m : Int) + 1 := by omega
                      generalize hmx : (m : Int) = x at *
                      induction g, x, hgx using fin8x
                      all_goals
                        ((repeat' ((conv => whnf);(first|refine zA ?_|(refine zI ?_ ?_<;> intro hh<;> first|(exfalso;omega)|skip)|(refine zl ?_ ?_<;> intro hh)|refine zq ?_|refine zv ?_|exact Sy.fin_val fun e=>rfl)));(all_goals (try conv => whnf)))
                        refine ⟨(m + 1, _), ⟨by dsimp only; omega, hnext⟩, by dsimp only; omega, ?_⟩
                        dsimp only
                        rw [hm1]
                        ((repeat' (first|((conv => whnf);done)|((try conv => whnf);first|exact trivial|(refine And.intro ?_ ?_)|rfl|exact fun _ _ _ h=>h|exact fun _ _ _ _=>trivial)));(all_goals (try conv => whnf)))
                    · have e : m = 8 := by omega
                      subst e
                      have hnew := hws r' (fun g => (hrr g).1 g.isLt)
                      ((repeat' ((conv => whnf);(first|refine zA ?_|(refine zI ?_ ?_<;> intro hh<;> first|(exfalso;omega)|skip)|(refine zl ?_ ?_<;> intro hh)|refine zq ?_|refine zv ?_|exact Sy.fin_val fun e=>rfl)));(all_goals (try conv => whnf)))
                      refine Sy.need_app 24 rfl ⟨by omega, by omega⟩ ?_
                      ((repeat' ((conv => whnf);(first|refine zA ?_|(refine zI ?_ ?_<;> intro hh<;> first|(exfalso;omega)|skip)|(refine zl ?_ ?_<;> intro hh)|refine zq ?_|refine zv ?_|exact Sy.fin_val fun e=>rfl)));(all_goals (try conv => whnf)))
                      refine ⟨(n + 1, r'), hnew, by dsimp only; omega, ?_⟩
                      dsimp only
                      rw [hnr, hnt]
                      ((repeat' (first|((conv => whnf);done)|((try conv => whnf);first|exact trivial|(refine And.intro ?_ ?_)|rfl|exact fun _ _ _ h=>h|exact fun _ _ _ _=>trivial)));(all_goals (try conv => whnf)))
                      all_goals simp
              · have hE : wholeE (snsOf ls) = 281 := by
                  unfold wholeE
                  rw [if_pos hall, if_neg]
                  exact fun h => hp (parts_get hs0 hsn h)
                unfold partP at hp
                rw [hsl] at hp
                rw [hE, hno _ hE (by decide)]
                by_cases q1 : s.sn.op = s0.sn.op
                · by_cases q2 : s.sn.wid = (ls.length : Int)
                  · have q3 : s.sn.idx ≠ (n : Int) := fun q3 => hp ⟨q1, q3, q2⟩
                    ((repeat' ((conv => whnf);(first|refine zA ?_|(refine zI ?_ ?_<;> intro hh<;> first|(exfalso;omega)|skip)|(refine zl ?_ ?_<;> intro hh)|refine zq ?_|refine zv ?_|exact Sy.fin_val fun e=>rfl)));(all_goals (try conv => whnf)))
                    refine Sy.el_map s hg ?_
                    ((repeat' ((conv => whnf);(first|refine zA ?_|(refine zI ?_ ?_<;> intro hh<;> first|(exfalso;omega)|skip)|(refine zl ?_ ?_<;> intro hh)|exact Sy.fin_val fun e=>rfl)));(all_goals (try conv => whnf)))
                    refine zv ?_
                    refine Sy.draw_go [] (by kernel_rfl) ?_
                    intro e0
                    conv => whnf
                    refine zt 0 rfl ?_
                    conv => whnf
                    refine zt 1 rfl ?_
                    conv => whnf
                    refine zt 2 rfl ?_
                    conv => whnf
                    refine zt 3 rfl ?_
                    (conv => whnf);(repeat' ((first|refine zA ?_|(refine zI ?_ ?_<;> intro hh<;> first|(exfalso;omega)|skip)|(refine zl ?_ ?_<;> intro hh)|refine zq ?_|refine zv ?_|refine zu ?_|exact Sy.fin_val fun e=>rfl);(try conv => whnf)))
                    refine zt 4 rfl ?_
                    conv => whnf
                    refine zt 5 rfl ?_
                    conv => whnf
                    refine Sy.el_map s0 hg0 ?_
                    conv => whnf
                    conv => whnf
                    refine zt 6 rfl ?_
                    (conv => whnf);(repeat' ((first|refine zA ?_|(refine zI ?_ ?_<;> intro hh<;> first|(exfalso;omega)|skip)|(refine zl ?_ ?_<;> intro hh)|refine zq ?_|refine zv ?_|refine zu ?_|exact Sy.fin_val fun e=>rfl);(try conv => whnf)))
                    refine zt 7 rfl ?_
                    conv => whnf
                    refine zt 8 rfl ?_
                    (conv => whnf);(repeat' ((first|refine zA ?_|(refine zI ?_ ?_<;> intro hh<;> first|(exfalso;omega)|skip)|(refine zl ?_ ?_<;> intro hh)|refine zq ?_|refine zv ?_|refine zu ?_|exact Sy.fin_val fun e=>rfl);(try conv => whnf)))
                    refine zt 9 rfl ?_
                    (conv => whnf);(repeat' ((first|refine zA ?_|(refine zI ?_ ?_<;> intro hh<;> first|(exfalso;omega)|skip)|(refine zl ?_ ?_<;> intro hh)|refine zq ?_|refine zv ?_|refine zu ?_|exact Sy.fin_val fun e=>rfl);(try conv => whnf)))
                    refine zt 10 rfl ?_
                    (conv => whnf);(repeat' ((first|refine zA ?_|(refine zI ?_ ?_<;> intro hh<;> first|(exfalso;omega)|skip)|(refine zl ?_ ?_<;> intro hh)|refine zq ?_|refine zv ?_|refine zu ?_|exact Sy.fin_val fun e=>rfl);(try conv => whnf)))
                    refine zt 11 rfl ?_
                    (conv => whnf);(repeat' ((first|refine zA ?_|(refine zI ?_ ?_<;> intro hh<;> first|(exfalso;omega)|skip)|(refine zl ?_ ?_<;> intro hh)|refine zq ?_|refine zv ?_|refine zu ?_|exact Sy.fin_val fun e=>rfl);(try conv => whnf)))
                    refine zt 12 rfl ?_
                    (conv => whnf);(repeat' ((first|refine zA ?_|(refine zI ?_ ?_<;> intro hh<;> first|(exfalso;omega)|skip)|(refine zl ?_ ?_<;> intro hh)|refine zq ?_|refine zv ?_|refine zu ?_|exact Sy.fin_val fun e=>rfl);(try conv => whnf)))
                    refine zt 13 rfl ?_
                    (conv => whnf);(repeat' ((first|refine zA ?_|(refine zI ?_ ?_<;> intro hh<;> first|(exfalso;omega)|skip)|(refine zl ?_ ?_<;> intro hh)|refine zq ?_|refine zv ?_|refine zu ?_|exact Sy.fin_val fun e=>rfl);(try conv => whnf)))
                    refine zt 14 rfl ?_
                    conv => whnf
                    refine zt 15 rfl ?_
                    (conv => whnf);(repeat' ((first|refine zA ?_|(refine zI ?_ ?_<;> intro hh<;> first|(exfalso;omega)|skip)|(refine zl ?_ ?_<;> intro hh)|refine zq ?_|refine zv ?_|refine zu ?_|exact Sy.fin_val fun e=>rfl);(try conv => whnf)))
                    refine zt 16 rfl ?_
                    (conv => whnf);(repeat' ((first|refine zA ?_|(refine zI ?_ ?_<;> intro hh<;> first|(exfalso;omega)|skip)|(refine zl ?_ ?_<;> intro hh)|refine zq ?_|refine zv ?_|refine zu ?_|exact Sy.fin_val fun e=>rfl);(try conv => whnf)))
                    refine zt 17 rfl ?_
                    (conv => whnf);(repeat' ((first|refine zA ?_|(refine zI ?_ ?_<;> intro hh<;> first|(exfalso;omega)|skip)|(refine zl ?_ ?_<;> intro hh)|refine zq ?_|refine zv ?_|refine zu ?_|exact Sy.fin_val fun e=>rfl);(try conv => whnf)))
                    refine zt 18 rfl ?_
                    (conv => whnf);(repeat' ((first|refine zA ?_|(refine zI ?_ ?_<;> intro hh<;> first|(exfalso;omega)|skip)|(refine zl ?_ ?_<;> intro hh)|refine zq ?_|refine zv ?_|refine zu ?_|exact Sy.fin_val fun e=>rfl);(try conv => whnf)))
                    refine zt 19 rfl ?_
                    (conv => whnf);(repeat' ((first|refine zA ?_|(refine zI ?_ ?_<;> intro hh<;> first|(exfalso;omega)|skip)|(refine zl ?_ ?_<;> intro hh)|refine zq ?_|refine zv ?_|refine zu ?_|exact Sy.fin_val fun e=>rfl);(try conv => whnf)))
                    refine zw ?_
                    skip
                    ((repeat' ((conv => whnf);(first|refine zA ?_|(refine zI ?_ ?_<;> intro hh<;> first|(exfalso;omega)|skip)|(refine zl ?_ ?_<;> intro hh)|refine zq ?_|refine zv ?_|exact Sy.fin_val fun e=>rfl)));(all_goals (try conv => whnf)))
                    exact Sy.fin_r2 (.v (.slice none 0 0)) (.v (.slice none 0 0)) ⟨rfl, rfl⟩ ⟨rfl, rfl⟩ (by decide) (fun e => rfl)
                  · ((repeat' ((conv => whnf);(first|refine zA ?_|(refine zI ?_ ?_<;> intro hh<;> first|(exfalso;omega)|skip)|(refine zl ?_ ?_<;> intro hh)|refine zq ?_|refine zv ?_|exact Sy.fin_val fun e=>rfl)));(all_goals (try conv => whnf)))
                    refine Sy.el_map s hg ?_
                    ((repeat' ((conv => whnf);(first|refine zA ?_|(refine zI ?_ ?_<;> intro hh<;> first|(exfalso;omega)|skip)|(refine zl ?_ ?_<;> intro hh)|exact Sy.fin_val fun e=>rfl)));(all_goals (try conv => whnf)))
                    refine zv ?_
                    refine Sy.draw_go [] (by kernel_rfl) ?_
                    intro e0
                    conv => whnf
                    refine zt 0 rfl ?_
                    conv => whnf
                    refine zt 1 rfl ?_
                    conv => whnf
                    refine zt 2 rfl ?_
                    conv => whnf
                    refine zt 3 rfl ?_
                    (conv => whnf);(repeat' ((first|refine zA ?_|(refine zI ?_ ?_<;> intro hh<;> first|(exfalso;omega)|skip)|(refine zl ?_ ?_<;> intro hh)|refine zq ?_|refine zv ?_|refine zu ?_|exact Sy.fin_val fun e=>rfl);(try conv => whnf)))
                    refine zt 4 rfl ?_
                    conv => whnf
                    refine zt 5 rfl ?_
                    conv => whnf
                    refine Sy.el_map s0 hg0 ?_
                    conv => whnf
                    conv => whnf
                    refine zt 6 rfl ?_
                    (conv => whnf);(repeat' ((first|refine zA ?_|(refine zI ?_ ?_<;> intro hh<;> first|(exfalso;omega)|skip)|(refine zl ?_ ?_<;> intro hh)|refine zq ?_|refine zv ?_|refine zu ?_|exact Sy.fin_val fun e=>rfl);(try conv => whnf)))
                    refine zt 7 rfl ?_
                    conv => whnf
                    refine zt 8 rfl ?_
                    (conv => whnf);(repeat' ((first|refine zA ?_|(refine zI ?_ ?_<;> intro hh<;> first|(exfalso;omega)|skip)|(refine zl ?_ ?_<;> intro hh)|refine zq ?_|refine zv ?_|refine zu ?_|exact Sy.fin_val fun e=>rfl);(try conv => whnf)))
                    refine zt 9 rfl ?_
                    (conv => whnf);(repeat' ((first|refine zA ?_|(refine zI ?_ ?_<;> intro hh<;> first|(exfalso;omega)|skip)|(refine zl ?_ ?_<;> intro hh)|refine zq ?_|refine zv ?_|refine zu ?_|exact Sy.fin_val fun e=>rfl);(try conv => whnf)))
                    refine zt 10 rfl ?_
                    (conv => whnf);(repeat' ((first|refine zA ?_|(refine zI ?_ ?_<;> intro hh<;> first|(exfalso;omega)|skip)|(refine zl ?_ ?_<;> intro hh)|refine zq ?_|refine zv ?_|refine zu ?_|exact Sy.fin_val fun e=>rfl);(try conv => whnf)))
                    refine zt 11 rfl ?_
                    (conv => whnf);(repeat' ((first|refine zA ?_|(refine zI ?_ ?_<;> intro hh<;> first|(exfalso;omega)|skip)|(refine zl ?_ ?_<;> intro hh)|refine zq ?_|refine zv ?_|refine zu ?_|exact Sy.fin_val fun e=>rfl);(try conv => whnf)))
                    refine zt 12 rfl ?_
                    (conv => whnf);(repeat' ((first|refine zA ?_|(refine zI ?_ ?_<;> intro hh<;> first|(exfalso;omega)|skip)|(refine zl ?_ ?_<;> intro hh)|refine zq ?_|refine zv ?_|refine zu ?_|exact Sy.fin_val fun e=>rfl);(try conv => whnf)))
                    refine zt 13 rfl ?_
                    (conv => whnf);(repeat' ((first|refine zA ?_|(refine zI ?_ ?_<;> intro hh<;> first|(exfalso;omega)|skip)|(refine zl ?_ ?_<;> intro hh)|refine zq ?_|refine zv ?_|refine zu ?_|exact Sy.fin_val fun e=>rfl);(try conv => whnf)))
                    refine zt 14 rfl ?_
                    conv => whnf
                    refine zt 15 rfl ?_
                    (conv => whnf);(repeat' ((first|refine zA ?_|(refine zI ?_ ?_<;> intro hh<;> first|(exfalso;omega)|skip)|(refine zl ?_ ?_<;> intro hh)|refine zq ?_|refine zv ?_|refine zu ?_|exact Sy.fin_val fun e=>rfl);(try conv => whnf)))
                    refine zt 16 rfl ?_
                    (conv => whnf);(repeat' ((first|refine zA ?_|(refine zI ?_ ?_<;> intro hh<;> first|(exfalso;omega)|skip)|(refine zl ?_ ?_<;> intro hh)|refine zq ?_|refine zv ?_|refine zu ?_|exact Sy.fin_val fun e=>rfl);(try conv => whnf)))
                    refine zt 17 rfl ?_
                    (conv => whnf);(repeat' ((first|refine zA ?_|(refine zI ?_ ?_<;> intro hh<;> first|(exfalso;omega)|skip)|(refine zl ?_ ?_<;> intro hh)|refine zq ?_|refine zv ?_|refine zu ?_|exact Sy.fin_val fun e=>rfl);(try conv => whnf)))
                    refine zt 18 rfl ?_
                    (conv => whnf);(repeat' ((first|refine zA ?_|(refine zI ?_ ?_<;> intro hh<;> first|(exfalso;omega)|skip)|(refine zl ?_ ?_<;> intro hh)|refine zq ?_|refine zv ?_|refine zu ?_|exact Sy.fin_val fun e=>rfl);(try conv => whnf)))
                    refine zt 19 rfl ?_
                    (conv => whnf);(repeat' ((first|refine zA ?_|(refine zI ?_ ?_<;> intro hh<;> first|(exfalso;omega)|skip)|(refine zl ?_ ?_<;> intro hh)|refine zq ?_|refine zv ?_|refine zu ?_|exact Sy.fin_val fun e=>rfl);(try conv => whnf)))
                    refine zw ?_
                    skip
                    ((repeat' ((conv => whnf);(first|refine zA ?_|(refine zI ?_ ?_<;> intro hh<;> first|(exfalso;omega)|skip)|(refine zl ?_ ?_<;> intro hh)|refine zq ?_|refine zv ?_|exact Sy.fin_val fun e=>rfl)));(all_goals (try conv => whnf)))
                    exact Sy.fin_r2 (.v (.slice none 0 0)) (.v (.slice none 0 0)) ⟨rfl, rfl⟩ ⟨rfl, rfl⟩ (by decide) (fun e => rfl)
                · ((repeat' ((conv => whnf);(first|refine zA ?_|(refine zI ?_ ?_<;> intro hh<;> first|(exfalso;omega)|skip)|(refine zl ?_ ?_<;> intro hh)|refine zq ?_|refine zv ?_|exact Sy.fin_val fun e=>rfl)));(all_goals (try conv => whnf)))
                  refine Sy.el_map s hg ?_
                  ((repeat' ((conv => whnf);(first|refine zA ?_|(refine zI ?_ ?_<;> intro hh<;> first|(exfalso;omega)|skip)|(refine zl ?_ ?_<;> intro hh)|exact Sy.fin_val fun e=>rfl)));(all_goals (try conv => whnf)))
                  refine zv ?_
                  refine Sy.draw_go [] (by kernel_rfl) ?_
                  intro e0
                  conv => whnf
                  refine zt 0 rfl ?_
                  conv => whnf
                  refine zt 1 rfl ?_
                  conv => whnf
                  refine zt 2 rfl ?_
                  conv => whnf
                  refine zt 3 rfl ?_
                  (conv => whnf);(repeat' ((first|refine zA ?_|(refine zI ?_ ?_<;> intro hh<;> first|(exfalso;omega)|skip)|(refine zl ?_ ?_<;> intro hh)|refine zq ?_|refine zv ?_|refine zu ?_|exact Sy.fin_val fun e=>rfl);(try conv => whnf)))
                  refine zt 4 rfl ?_
                  conv => whnf
                  refine zt 5 rfl ?_
                  conv => whnf
                  refine Sy.el_map s0 hg0 ?_
                  conv => whnf
                  conv => whnf
                  refine zt 6 rfl ?_
                  (conv => whnf);(repeat' ((first|refine zA ?_|(refine zI ?_ ?_<;> intro hh<;> first|(exfalso;omega)|skip)|(refine zl ?_ ?_<;> intro hh)|refine zq ?_|refine zv ?_|refine zu ?_|exact Sy.fin_val fun e=>rfl);(try conv => whnf)))
                  refine zt 7 rfl ?_
                  conv => whnf
                  refine zt 8 rfl ?_
                  (conv => whnf);(repeat' ((first|refine zA ?_|(refine zI ?_ ?_<;> intro hh<;> first|(exfalso;omega)|skip)|(refine zl ?_ ?_<;> intro hh)|refine zq ?_|refine zv ?_|refine zu ?_|exact Sy.fin_val fun e=>rfl);(try conv => whnf)))
                  refine zt 9 rfl ?_
                  (conv => whnf);(repeat' ((first|refine zA ?_|(refine zI ?_ ?_<;> intro hh<;> first|(exfalso;omega)|skip)|(refine zl ?_ ?_<;> intro hh)|refine zq ?_|refine zv ?_|refine zu ?_|exact Sy.fin_val fun e=>rfl);(try conv => whnf)))
                  refine zt 10 rfl ?_
                  (conv => whnf);(repeat' ((first|refine zA ?_|(refine zI ?_ ?_<;> intro hh<;> first|(exfalso;omega)|skip)|(refine zl ?_ ?_<;> intro hh)|refine zq ?_|refine zv ?_|refine zu ?_|exact Sy.fin_val fun e=>rfl);(try conv => whnf)))
                  refine zt 11 rfl ?_
                  (conv => whnf);(repeat' ((first|refine zA ?_|(refine zI ?_ ?_<;> intro hh<;> first|(exfalso;omega)|skip)|(refine zl ?_ ?_<;> intro hh)|refine zq ?_|refine zv ?_|refine zu ?_|exact Sy.fin_val fun e=>rfl);(try conv => whnf)))
                  refine zt 12 rfl ?_
                  (conv => whnf);(repeat' ((first|refine zA ?_|(refine zI ?_ ?_<;> intro hh<;> first|(exfalso;omega)|skip)|(refine zl ?_ ?_<;> intro hh)|refine zq ?_|refine zv ?_|refine zu ?_|exact Sy.fin_val fun e=>rfl);(try conv => whnf)))
                  refine zt 13 rfl ?_
                  (conv => whnf);(repeat' ((first|refine zA ?_|(refine zI ?_ ?_<;> intro hh<;> first|(exfalso;omega)|skip)|(refine zl ?_ ?_<;> intro hh)|refine zq ?_|refine zv ?_|refine zu ?_|exact Sy.fin_val fun e=>rfl);(try conv => whnf)))
                  refine zt 14 rfl ?_
                  conv => whnf
                  refine zt 15 rfl ?_
                  (conv => whnf);(repeat' ((first|refine zA ?_|(refine zI ?_ ?_<;> intro hh<;> first|(exfalso;omega)|skip)|(refine zl ?_ ?_<;> intro hh)|refine zq ?_|refine zv ?_|refine zu ?_|exact Sy.fin_val fun e=>rfl);(try conv => whnf)))
                  refine zt 16 rfl ?_
                  (conv => whnf);(repeat' ((first|refine zA ?_|(refine zI ?_ ?_<;> intro hh<;> first|(exfalso;omega)|skip)|(refine zl ?_ ?_<;> intro hh)|refine zq ?_|refine zv ?_|refine zu ?_|exact Sy.fin_val fun e=>rfl);(try conv => whnf)))
                  refine zt 17 rfl ?_
                  (conv => whnf);(repeat' ((first|refine zA ?_|(refine zI ?_ ?_<;> intro hh<;> first|(exfalso;omega)|skip)|(refine zl ?_ ?_<;> intro hh)|refine zq ?_|refine zv ?_|refine zu ?_|exact Sy.fin_val fun e=>rfl);(try conv => whnf)))
                  refine zt 18 rfl ?_
                  (conv => whnf);(repeat' ((first|refine zA ?_|(refine zI ?_ ?_<;> intro hh<;> first|(exfalso;omega)|skip)|(refine zl ?_ ?_<;> intro hh)|refine zq ?_|refine zv ?_|refine zu ?_|exact Sy.fin_val fun e=>rfl);(try conv => whnf)))
                  refine zt 19 rfl ?_
                  (conv => whnf);(repeat' ((first|refine zA ?_|(refine zI ?_ ?_<;> intro hh<;> first|(exfalso;omega)|skip)|(refine zl ?_ ?_<;> intro hh)|refine zq ?_|refine zv ?_|refine zu ?_|exact Sy.fin_val fun e=>rfl);(try conv => whnf)))
                  refine zw ?_
                  skip
                  ((repeat' ((conv => whnf);(first|refine zA ?_|(refine zI ?_ ?_<;> intro hh<;> first|(exfalso;omega)|skip)|(refine zl ?_ ?_<;> intro hh)|refine zq ?_|refine zv ?_|exact Sy.fin_val fun e=>rfl)));(all_goals (try conv => whnf)))
                  exact Sy.fin_r2 (.v (.slice none 0 0)) (.v (.slice none 0 0)) ⟨rfl, rfl⟩ ⟨rfl, rfl⟩ (by decide) (fun e => rfl)
            · have e : n = (snsOf ls).length := by omega
              have hp0 := hx.part 0 s0.sn (by omega) hs0
              have hr0 := hall s0.sn (List.mem_of_getElem? hs0)
              have hlen3 : 1 ≤ (snsOf ls).length ∧ (snsOf ls).length ≤ 3 := by
                have hsh : shareP s0.sn.idx s0.sn.wid := by unfold rightP at hr0; exact hr0.2.1
                have := hp0.2.2
                unfold shareP at hsh
                omega
              rw [e] at hx
              obtain ⟨hps, hro⟩ := win_end hx hlen3 (fun s hs => by rw [hs0] at hs; rw [← Option.some.inj hs])
              rw [e, List.take_length, hro]
              have hE : wholeE (snsOf ls) = if namesB (txsW (snsOf ls)) = true then 0 else 281 := by
                unfold wholeE
                rw [if_pos hall, if_pos hps]
              ((repeat' ((conv => whnf);(first|refine zA ?_|(refine zI ?_ ?_<;> intro hh<;> first|(exfalso;omega)|skip)|(refine zl ?_ ?_<;> intro hh)|refine zq ?_|refine zv ?_|exact Sy.fin_val fun e=>rfl)));(all_goals (try conv => whnf)))
              refine Sy.call_val (.c (.v (.bool (namesB (txsW (snsOf ls)))))) Try.call37 rfl (fun e a w' h => rises_any (e.rv 4) (txsW (snsOf ls)) w' (Sy.row_reads h (.inl ⟨_, rfl⟩))) ?_
              by_cases hnm : namesB (txsW (snsOf ls)) = true
              · rw [if_pos hnm] at hE
                have hV : wholeV (snsOf ls) = wholeS (snsOf ls) := if_pos hE
                have hop : (wholeS (snsOf ls)).op = s0.sn.op := by
                  unfold wholeS
                  cases hL : snsOf ls with
                  | nil => rw [hL] at hs0; cases hs0
                  | cons t l =>
                    rw [hL] at hs0
                    have ht : t = s0.sn := Option.some.inj hs0
                    show t.op = _
                    rw [ht]
                rw [hE, hV, hnm]
                ((repeat' ((conv => whnf);(first|refine zA ?_|(refine zI ?_ ?_<;> intro hh<;> first|(exfalso;omega)|skip)|(refine zl ?_ ?_<;> intro hh)|refine zq ?_|refine zv ?_|exact Sy.fin_val fun e=>rfl)));(all_goals (try conv => whnf)))
                exact Sy.fin_r2 (.row 3) (.row 4) rfl rfl (by decide) (fun e => by unfold retS; rw [hop]; rfl)
              · rw [if_neg hnm] at hE
                rw [hE, hno _ hE (by decide), show namesB (txsW (snsOf ls)) = false by simpa using hnm]
                ((repeat' ((conv => whnf);(first|refine zA ?_|(refine zI ?_ ?_<;> intro hh<;> first|(exfalso;omega)|skip)|(refine zl ?_ ?_<;> intro hh)|refine zq ?_|refine zv ?_|exact Sy.fin_val fun e=>rfl)));(all_goals (try conv => whnf)))
                exact Sy.fin_r2 (.v (.slice none 0 0)) (.v (.slice none 0 0)) ⟨rfl, rfl⟩ ⟨rfl, rfl⟩ (by decide) (fun e => rfl)
        · have hE : wholeE (snsOf ls) = 281 := by
            unfold wholeE
            rw [if_pos hall, if_neg]
            intro h
            have := (parts_get hs0 hs0 h).2.2
            rw [hsl] at this
            exact hw0 this
          rw [hE, hno _ hE (by decide)]
          ((repeat' ((conv => whnf);(first|refine zA ?_|(refine zI ?_ ?_<;> intro hh<;> first|(exfalso;omega)|skip)|(refine zl ?_ ?_<;> intro hh)|refine zq ?_|refine zv ?_|exact Sy.fin_val fun e=>rfl)));(all_goals (try conv => whnf)))
          refine Sy.el_map s0 hg0 ?_
          ((repeat' ((conv => whnf);(first|refine zA ?_|(refine zI ?_ ?_<;> intro hh<;> first|(exfalso;omega)|skip)|(refine zl ?_ ?_<;> intro hh)|refine zq ?_|refine zv ?_|exact Sy.fin_val fun e=>rfl)));(all_goals (try conv => whnf)))
          exact Sy.fin_r2 (.v (.slice none 0 0)) (.v (.slice none 0 0)) ⟨rfl, rfl⟩ ⟨rfl, rfl⟩ (by decide) (fun e => rfl)
end Go.Proofs.Ytmahldelmbhjfaa
