/- Retain: the document's Keeps, Cut, with, Place. -/
import Derived.Test.YtkmdmjnbjoakbaaReM
namespace Go.Proofs.Ytkmdmjnbjoakbaa
open Go Go.RowKit
open Sy (C SV V1 Blk St XD Els)
set_option maxRecDepth 10000

def keepsB (keep : Int) (ks : List Kp) (n : Nat) (k : Kp) : Bool := !(plainK k && decide (keep ≤ (cntP (ks.drop (n + 1)) : Int)))
theorem cnt_drop (ks : List Kp) (n : Nat) (h : n < ks.length) : cntP (ks.drop n) = cntP (ks.drop (n + 1)) + (if plainK ks[n] = true then 1 else 0) := by
  rw [List.drop_eq_getElem_cons h, cnt_cons]
theorem cnt_le (ks : List Kp) : cntP ks ≤ ks.length := List.length_filter_le _ _
set_option maxHeartbeats 1000000 in
theorem keeps_any (keep : Int) (v : Value) (ks : List Kp) (n : Nat) (k : Kp) (w : World) (hr : XD.ok (fun b => b < w.heap.size) w ⟨v, 3, ks.length, ks.map encK⟩) (hg : ks[n]? = some k) (hb : ks.length ≤ 1000) :
    Calls Try.prog 41 #[.agg #[.int .i64 keep, v], .int .i64 n] w (Sy.Ret (.bool (keepsB keep ks n k)) w) := by
  have hn := (List.getElem?_eq_some_iff.1 hg).1
  refine Sy.calls_of Sy.lv41 Sy.tab_ok Try.func41 rfl _ Try.ntmps41 [⟨v, 3, ks.length, ks.map encK⟩] [.agg [.v (.int .i64 keep), .row 0], .c (.v (.int .i64 n))] rfl rfl rfl ⟨hr, trivial⟩ ?_
  ((repeat' ((conv => whnf);(first|refine zA ?_|(refine zI ?_ ?_<;> intro hh<;> first|(exfalso;omega)|skip)|(refine zl ?_ ?_<;> intro hh)|refine zq ?_|refine zv ?_|refine zu ?_|exact Sy.fin_val fun e=>rfl)));(all_goals (try conv => whnf)))
  refine Sy.el_map k hg ?_
  ((repeat' ((conv => whnf);(first|refine zA ?_|(refine zI ?_ ?_<;> intro hh<;> first|(exfalso;omega)|skip)|(refine zl ?_ ?_<;> intro hh)|refine zq ?_|refine zv ?_|refine zu ?_|exact Sy.fin_val fun e=>rfl)));(all_goals (try conv => whnf)))
  · exact Sy.fin_val (fun e => congrArg Value.bool (by simp [keepsB, plainK, *]))
  · refine Sy.el_map k hg ?_
    ((repeat' ((conv => whnf);(first|refine zA ?_|(refine zI ?_ ?_<;> intro hh<;> first|(exfalso;omega)|skip)|(refine zl ?_ ?_<;> intro hh)|refine zq ?_|refine zv ?_|refine zu ?_|exact Sy.fin_val fun e=>rfl)));(all_goals (try conv => whnf)))
    · exact Sy.fin_val (fun e => congrArg Value.bool (by simp [keepsB, plainK, *]))
    · have hp : plainK k = true := by simp [plainK, *]
      refine Sy.loop_inv Sy.tab_ok (fun j : Nat => [(6, .c (.v (.int .i64 j))), (5, .c (.v (.int .i64 (cntP (ks.drop (n + 1)) - cntP (ks.drop j) : Nat))))]) (fun _ => []) (fun j => j ≤ ks.length ∧ cntP (ks.drop j) ≤ cntP (ks.drop (n + 1))) (fun j => ks.length - j) (n + 1) ⟨hn, Nat.le_refl _⟩ ?_ (fun j hj => ?_)
      · rw [Nat.sub_self]
        ((repeat' (first|((conv => whnf);done)|((try conv => whnf);first|exact trivial|(refine And.intro ?_ ?_)|rfl|exact fun _ _ _ h=>h|exact fun _ _ _ _=>trivial)));(all_goals (try conv => whnf)))
      · obtain ⟨hj, hc⟩ := hj
        have h2 := cnt_le (ks.drop (n + 1))
        rw [List.length_drop] at h2
        ((repeat' ((conv => whnf);(first|refine zA ?_|(refine zI ?_ ?_<;> intro hh<;> first|(exfalso;omega)|skip)|(refine zl ?_ ?_<;> intro hh)|refine zq ?_|refine zv ?_|refine zu ?_|exact Sy.fin_val fun e=>rfl)));(all_goals (try conv => whnf)))
        · have hlt : j < ks.length := by omega
          have hgj := List.getElem?_eq_getElem hlt
          have e1 := cnt_drop ks j hlt
          refine Sy.el_map ks[j] hgj ?_
          generalize ks[j] = q at *
          ((repeat' ((conv => whnf);(first|refine zA ?_|(refine zI ?_ ?_<;> intro hh<;> first|(exfalso;omega)|skip)|(refine zl ?_ ?_<;> intro hh)|refine zq ?_|refine zv ?_|refine zu ?_|exact Sy.fin_val fun e=>rfl)));(all_goals (try conv => whnf)))
          · rw [if_neg (by simp [plainK, *])] at e1
            refine ⟨j + 1, ⟨by omega, by omega⟩, by omega, ?_⟩
            rw [show cntP (ks.drop (j + 1)) = cntP (ks.drop j) by omega]
            ((repeat' (first|((conv => whnf);done)|((try conv => whnf);first|exact trivial|(refine And.intro ?_ ?_)|rfl|exact fun _ _ _ h=>h|exact fun _ _ _ _=>trivial)));(all_goals (try conv => whnf)))
          · refine Sy.el_map q hgj ?_
            ((repeat' ((conv => whnf);(first|refine zA ?_|(refine zI ?_ ?_<;> intro hh<;> first|(exfalso;omega)|skip)|(refine zl ?_ ?_<;> intro hh)|refine zq ?_|refine zv ?_|refine zu ?_|exact Sy.fin_val fun e=>rfl)));(all_goals (try conv => whnf)))
            · rw [if_neg (by simp [plainK, *])] at e1
              refine ⟨j + 1, ⟨by omega, by omega⟩, by omega, ?_⟩
              rw [show cntP (ks.drop (j + 1)) = cntP (ks.drop j) by omega]
              ((repeat' (first|((conv => whnf);done)|((try conv => whnf);first|exact trivial|(refine And.intro ?_ ?_)|rfl|exact fun _ _ _ h=>h|exact fun _ _ _ _=>trivial)));(all_goals (try conv => whnf)))
            · rw [if_pos (by simp [plainK, *])] at e1
              refine ⟨j + 1, ⟨by omega, by omega⟩, by omega, ?_⟩
              rw [show ((cntP (ks.drop (n + 1)) - cntP (ks.drop (j + 1)) : Nat) : Int) = ((cntP (ks.drop (n + 1)) - cntP (ks.drop j) : Nat) : Int) + 1 by omega]
              ((repeat' (first|((conv => whnf);done)|((try conv => whnf);first|exact trivial|(refine And.intro ?_ ?_)|rfl|exact fun _ _ _ h=>h|exact fun _ _ _ _=>trivial)));(all_goals (try conv => whnf)))
        · have e : j = ks.length := by omega
          subst e
          have e0 : cntP (ks.drop ks.length) = 0 := by simp [cntP]
          rw [e0, Nat.sub_zero]
          exact Sy.fin_val (fun e => congrArg Value.bool (by
            unfold keepsB; rw [hp, Bool.true_and]
            by_cases h : keep ≤ (cntP (ks.drop (n + 1)) : Int)
            · rw [decide_eq_true h, decide_eq_false (by omega)]; rfl
            · rw [decide_eq_false h, decide_eq_true (by omega)]; rfl))
theorem cut_keeps {keep : Int} {ks : List Kp} {n : Nat} {k : Kp} (hg : ks[n]? = some k) : cutL keep (ks.drop n) = if keepsB keep ks n k = true then (k :: (cutL keep (ks.drop (n + 1))).1, (cutL keep (ks.drop (n + 1))).2) else ((cutL keep (ks.drop (n + 1))).1, k.number :: (cutL keep (ks.drop (n + 1))).2) := by
  obtain ⟨hn, he⟩ := List.getElem?_eq_some_iff.1 hg
  rw [List.drop_eq_getElem_cons hn, he, cut_cons]
  unfold keepsB
  by_cases h1 : plainK k = true <;> by_cases h2 : keep ≤ (cntP (ks.drop (n + 1)) : Int) <;> simp [h1, h2]
attribute [local irreducible] keepsB
set_option maxHeartbeats 1000000 in
theorem cut_any (keep : Int) (v : Value) (ks : List Kp) (w : World) (hr : XD.ok (fun b => b < w.heap.size) w ⟨v, 3, ks.length, ks.map encK⟩) (hb : ks.length ≤ 1000) :
    Calls Try.prog 29 #[.agg #[.int .i64 keep, v]] w (Sy.RetRows Sy.noRow (fun _ : Unit => True) (fun _ => [⟨39, 3, (cutL keep ks).1.length, (cutL keep ks).1.map encK⟩, ⟨25, 1, (cutL keep ks).2.length, (cutL keep ks).2.map encU⟩]) (fun _ vs => .tuple #[.agg #[.int .i64 keep, vs.headD undef], (vs.drop 1).headD undef]) w) := by
  refine Sy.calls_of Sy.lv29 Sy.tab_ok Try.func29 rfl _ Try.ntmps29 [⟨v, 3, ks.length, ks.map encK⟩] [.agg [.v (.int .i64 keep), .row 0]] rfl rfl rfl ⟨hr, trivial⟩ ?_
  ((repeat' ((conv => whnf);(first|refine zA ?_|(refine zI ?_ ?_<;> intro hh<;> first|(exfalso;omega)|skip)|(refine zl ?_ ?_<;> intro hh)|refine zq ?_|refine zv ?_|refine zu ?_|exact Sy.fin_val fun e=>rfl)));(all_goals (try conv => whnf)))
  refine Sy.sem_subF (Sy.sub_rowc 3 1 39 3 rfl rfl) ?_
  conv => whnf
  refine Sy.sem_subF (Sy.sub_row 5 25 1 rfl) ?_
  conv => whnf
  ((repeat' ((conv => whnf);(first|refine zA ?_|(refine zI ?_ ?_<;> intro hh<;> first|(exfalso;omega)|skip)|(refine zl ?_ ?_<;> intro hh)|refine zq ?_|refine zv ?_|refine zu ?_|exact Sy.fin_val fun e=>rfl)));(all_goals (try conv => whnf)))
  refine Sy.loop_inv Sy.tab_ok (fun x : Nat × List Kp × List Int => [(6, .c (.v (.int .i64 x.1))), (5, .c (.row 5))]) (fun x => [(3, .cells 24 [.v (.int .i64 keep), .row 4]), (4, keptB x.2.1), (5, numsB x.2.2)]) (fun x => x.1 ≤ ks.length ∧ (cutL keep ks).1 = x.2.1 ++ (cutL keep (ks.drop x.1)).1 ∧ (cutL keep ks).2 = x.2.2 ++ (cutL keep (ks.drop x.1)).2) (fun x => ks.length - x.1) (0, [], []) ⟨Nat.zero_le _, rfl, rfl⟩ ?_ (fun x hx => ?_)
  · ((repeat' (first|((conv => whnf);done)|((try conv => whnf);first|exact trivial|(refine And.intro ?_ ?_)|rfl|exact fun _ _ _ h=>h|exact fun _ _ _ _=>trivial)));(all_goals (try conv => whnf)))
  · obtain ⟨j, A, G⟩ := x
    obtain ⟨hj, hA, hG⟩ := hx
    dsimp only at hj hA hG ⊢
    have hcl := cut_len keep ks
    have hlA : A.length ≤ (cutL keep ks).1.length := by rw [hA, List.length_append]; omega
    have hlG : G.length ≤ (cutL keep ks).2.length := by rw [hG, List.length_append]; omega
    ((repeat' ((conv => whnf);(first|refine zA ?_|(refine zI ?_ ?_<;> intro hh<;> first|(exfalso;omega)|skip)|(refine zl ?_ ?_<;> intro hh)|refine zq ?_|refine zv ?_|refine zu ?_|exact Sy.fin_val fun e=>rfl)));(all_goals (try conv => whnf)))
    · have hlt : j < ks.length := by omega
      have hgj := List.getElem?_eq_getElem hlt
      generalize ks[j] = q at *
      have e1 := cut_keeps (keep := keep) hgj
      refine Sy.call_val (.c (.v (.bool (keepsB keep ks j q)))) Try.call41 rfl (fun e a w' h => keeps_any keep (e.rv 0) ks j q w' (Sy.row_reads h (.inr rfl)) hgj (by omega)) ?_
      ((repeat' ((conv => whnf);(first|refine zA ?_|(refine zI ?_ ?_<;> intro hh<;> first|(exfalso;omega)|skip)|(refine zl ?_ ?_<;> intro hh)|refine zq ?_|refine zv ?_|refine zu ?_|exact Sy.fin_val fun e=>rfl)));(all_goals (try conv => whnf)))
      · rw [if_pos (by assumption)] at e1
        rw [e1] at hA hG
        refine Sy.draw_go [3,4] (by kernel_rfl) ?_
        intro e0
        conv => whnf
        refine zt 0 rfl ?_
        conv => whnf
        refine zt 2 rfl ?_
        conv => whnf
        refine zt 3 rfl ?_
        conv => whnf
        refine zt 4 rfl ?_
        conv => whnf
        refine zt 5 rfl ?_
        (conv => whnf);(repeat' ((first|refine zA ?_|(refine zI ?_ ?_<;> intro hh<;> first|(exfalso;omega)|skip)|(refine zl ?_ ?_<;> intro hh)|refine zq ?_|refine zv ?_|refine zu ?_|exact Sy.fin_val fun e=>rfl);(try conv => whnf)))
        refine zt 6 rfl ?_
        conv => whnf
        refine Sy.el_map q hgj ?_
        conv => whnf
        focus
          refine zd1 [1, 7] (zx rfl ?_ (zx rfl ?_ zy))
          focus
            conv => whnf
            refine ⟨(by repeat' ((conv => whnf);first|exact trivial|(refine And.intro ?_ ?_)|rfl)), ?_⟩
            refine zd1 [7] (zx rfl ?_ zy)
            conv => whnf
            refine ⟨(by repeat' ((conv => whnf);first|exact trivial|(refine And.intro ?_ ?_)|rfl)), ?_⟩
            refine zd1 [8] (zx rfl ?_ zy)
            conv => whnf
            refine Sy.need_app 16 rfl ⟨by omega, by omega⟩ ?_
            conv => whnf
            refine ⟨(by repeat' ((conv => whnf);first|exact trivial|(refine And.intro ?_ ?_)|rfl)), ?_⟩
            refine zt 9 rfl ?_
            conv => whnf
            refine zd1 [10] (zx rfl ?_ zy)
            conv => whnf
            refine ⟨(by repeat' ((conv => whnf);first|exact trivial|(refine And.intro ?_ ?_)|rfl)), ?_⟩
            refine zw ?_
            ((repeat' ((conv => whnf);(first|refine zA ?_|(refine zI ?_ ?_<;> intro hh<;> first|(exfalso;omega)|skip)|(refine zl ?_ ?_<;> intro hh)|refine zq ?_|refine zv ?_|refine zu ?_|exact Sy.fin_val fun e=>rfl)));(all_goals (try conv => whnf)))
          rotate_right
          focus
            conv => whnf
            refine ⟨(by repeat' ((conv => whnf);first|exact trivial|(refine And.intro ?_ ?_)|rfl)), ?_⟩
            refine zd1 [1] (zx rfl ?_ zy)
            conv => whnf
            refine ⟨(by repeat' ((conv => whnf);first|exact trivial|(refine And.intro ?_ ?_)|rfl)), ?_⟩
            refine zd1 [8] (zx rfl ?_ zy)
            conv => whnf
            refine Sy.need_app 16 rfl ⟨by omega, by omega⟩ ?_
            conv => whnf
            refine ⟨(by repeat' ((conv => whnf);first|exact trivial|(refine And.intro ?_ ?_)|rfl)), ?_⟩
            refine zt 9 rfl ?_
            conv => whnf
            refine zd1 [10] (zx rfl ?_ zy)
            conv => whnf
            refine ⟨(by repeat' ((conv => whnf);first|exact trivial|(refine And.intro ?_ ?_)|rfl)), ?_⟩
            refine zw ?_
            ((repeat' ((conv => whnf);(first|refine zA ?_|(refine zI ?_ ?_<;> intro hh<;> first|(exfalso;omega)|skip)|(refine zl ?_ ?_<;> intro hh)|refine zq ?_|refine zv ?_|refine zu ?_|exact Sy.fin_val fun e=>rfl)));(all_goals (try conv => whnf)))
        all_goals
          refine ⟨(j + 1, A ++ [q], G), ⟨by dsimp only; omega, by dsimp only; rw [hA]; simp, hG⟩, by dsimp only; omega, ?_⟩
          dsimp only [keptB, numsB]
          ((repeat' (first|((conv => whnf);done)|((try conv => whnf);first|exact trivial|(refine And.intro ?_ ?_)|rfl|exact fun _ _ _ h=>h|exact fun _ _ _ _=>trivial)));(all_goals (try conv => whnf)))
          all_goals simp [encK]
      · rw [if_neg (by simp [*])] at e1
        rw [e1] at hA hG
        refine Sy.el_map q hgj ?_
        ((repeat' ((conv => whnf);(first|refine zA ?_|(refine zI ?_ ?_<;> intro hh<;> first|(exfalso;omega)|skip)|(refine zl ?_ ?_<;> intro hh)|refine zq ?_|refine zv ?_|refine zu ?_|exact Sy.fin_val fun e=>rfl)));(all_goals (try conv => whnf)))
        refine Sy.need_app 8 rfl ⟨by omega, by omega⟩ ?_
        ((repeat' ((conv => whnf);(first|refine zA ?_|(refine zI ?_ ?_<;> intro hh<;> first|(exfalso;omega)|skip)|(refine zl ?_ ?_<;> intro hh)|refine zq ?_|refine zv ?_|refine zu ?_|exact Sy.fin_val fun e=>rfl)));(all_goals (try conv => whnf)))
        refine ⟨(j + 1, A, G ++ [q.number]), ⟨by dsimp only; omega, hA, by dsimp only; rw [hG]; simp⟩, by dsimp only; omega, ?_⟩
        dsimp only [keptB, numsB]
        ((repeat' (first|((conv => whnf);done)|((try conv => whnf);first|exact trivial|(refine And.intro ?_ ?_)|rfl|exact fun _ _ _ h=>h|exact fun _ _ _ _=>trivial)));(all_goals (try conv => whnf)))
        all_goals simp [encU]
    · have e : j = ks.length := by omega
      subst e
      rw [List.drop_length, show cutL keep [] = ([], []) from rfl, List.append_nil] at hA hG
      rw [hA, hG]
      exact Sy.fin_r2 (.row 4) (.row 5) rfl rfl
end Go.Proofs.Ytkmdmjnbjoakbaa
