/- Retain: drop. -/
import Derived.Test.YtkmdmjnbjoakbaaReI
import Derived.Test.YtkmdmjnbjoakbaaSyH
namespace Go.Proofs.Ytkmdmjnbjoakbaa
open Go Go.RowKit
open Sy (C SV V1 Blk St XD Els)
set_option maxRecDepth 10000

def shelfB (keep : Int) (k : Nat) : Blk := .cells 24 [.v (.int .i64 keep), .row k]
def keptB (ks : List Kp) : Blk := .row 39 3 ks.length (.vs (ks.map encK))
def numsB (xs : List Int) : Blk := .row 25 1 xs.length (.vs (xs.map encU))
def dropC (keep : Int) (ks : List Kp) : Sy.Ctr Unit := { avs := [.c (.loc 0 0)], n0 := 2, H0 := [(0, shelfB keep 1), (1, keptB ks)], sv := fun _ => .c (.row 2), n1 := fun _ => 4, H1 := fun _ => [(0, shelfB keep 3), (2, numsB (cutL keep ks).2), (3, keptB (cutL keep ks).1)] }
theorem left_le (keep : Int) (ks : List Kp) (n : Nat) (h : 0 ≤ keep) : 0 ≤ leftN keep ks n ∧ leftN keep ks n ≤ keep := by
  unfold leftN
  split <;> omega
theorem gone_len (keep : Int) (ks : List Kp) (n : Nat) : (goneN keep ks n).length ≤ ks.length := by
  have := cut_len keep (ks.drop n)
  rw [List.length_drop] at this
  unfold goneN
  rw [List.length_reverse]
  omega
/-- What is left of the first j rows where these numbers go. -/
def remN (G : List Int) (ks : List Kp) (j : Nat) : List Kp := (ks.take j).filter (fun k => !decide (k.number ∈ G))
theorem rem_succ (G : List Int) (ks : List Kp) (j : Nat) (h : j < ks.length) : remN G ks (j + 1) = remN G ks j ++ (if ks[j].number ∈ G then [] else [ks[j]]) := by
  unfold remN
  rw [List.take_succ_eq_append_getElem h, List.filter_append]
  congr 1
  by_cases hd : ks[j].number ∈ G <;> simp [hd]
theorem rem_all (G : List Int) (ks : List Kp) (j : Nat) (h : ∀ i (hi : i < ks.length), i < j → ks[i].number ∉ G) : remN G ks j = ks.take j := by
  unfold remN
  refine List.filter_eq_self.2 fun k hk => ?_
  obtain ⟨i, hi, rfl⟩ := List.mem_iff_getElem.1 hk
  rw [List.length_take] at hi
  rw [List.getElem_take]
  simp [h i (by omega) (by omega)]
theorem rem_len (G : List Int) (ks : List Kp) (j : Nat) : (remN G ks j).length ≤ j := Nat.le_trans (List.length_filter_le _ _) (by rw [List.length_take]; omega)
theorem drop_does (keep : Int) (ks : List Kp) (hr : rising ks) (hk : 1 ≤ keep ∧ keep ≤ 4) (hl : ks.length ≤ 17) (hg : (cutL keep ks).2.length ≤ 16) : Sy.Does Try.prog 40 (dropC keep ks) := by
  refine Sy.does_of Sy.lv40 Sy.tab_ok Try.func40 rfl _ Try.ntmps40 _ rfl rfl (fun e0 w hpre => ?_)
  ((repeat' ((conv => whnf);(first|refine zA ?_|(refine zI ?_ ?_<;> intro hh<;> first|(exfalso;omega)|skip)|(refine zl ?_ ?_<;> intro hh)|refine zq ?_|refine zv ?_|refine zu ?_|exact Sy.fin_val fun e=>rfl)));(all_goals (try conv => whnf)))
  refine Sy.call_in Sy.lv44 Sy.tab_ok Try.func44 rfl _ Try.ntmps44 Try.call44 rfl (fun _ => ?_)
  ((repeat' ((conv => whnf);(first|refine zA ?_|(refine zI ?_ ?_<;> intro hh<;> first|(exfalso;omega)|skip)|(refine zl ?_ ?_<;> intro hh)|refine zq ?_|refine zv ?_|refine zu ?_|exact Sy.fin_val fun e=>rfl)));(all_goals (try conv => whnf)))
  refine Sy.sem_subF (Sy.sub_rowc 2 0 25 1 rfl rfl) ?_
  conv => whnf
  refine Sy.sem_range Sy.lv52 Sy.tab_ok _ rfl rfl Try.func52 rfl Try.ntmps52 Try.call52 rfl (fun _ _ => ?_)
  ((repeat' ((conv => whnf);(first|refine zA ?_|(refine zI ?_ ?_<;> intro hh<;> first|(exfalso;omega)|skip)|(refine zl ?_ ?_<;> intro hh)|refine zq ?_|refine zv ?_|refine zu ?_|exact Sy.fin_val fun e=>rfl)));(all_goals (try conv => whnf)))
  refine Sy.call_in Sy.lv53 Sy.tab_ok Try.func53 rfl _ Try.ntmps53 Try.call53 rfl (fun _ => ?_)
  ((repeat' ((conv => whnf);(first|refine zA ?_|(refine zI ?_ ?_<;> intro hh<;> first|(exfalso;omega)|skip)|(refine zl ?_ ?_<;> intro hh)|refine zq ?_|refine zv ?_|refine zu ?_|exact Sy.fin_val fun e=>rfl)));(all_goals (try conv => whnf)))
  refine Sy.sem_range Sy.lv58 Sy.tab_ok _ rfl rfl Try.func58 rfl Try.ntmps58 Try.call58 rfl (fun _ _ => ?_)
  ((repeat' ((conv => whnf);(first|refine zA ?_|(refine zI ?_ ?_<;> intro hh<;> first|(exfalso;omega)|skip)|(refine zl ?_ ?_<;> intro hh)|refine zq ?_|refine zv ?_|refine zu ?_|exact Sy.fin_val fun e=>rfl)));(all_goals (try conv => whnf)))
  refine Sy.loop_inv Sy.tab_ok (fun n : Nat => [(3, .c (.v (.int .i64 ((n : Int) - 1))))]) (fun n => [(8, .cells 3 [.v (.int .i64 (leftN keep ks n))]), (2, .cells 28 [.row 5]), (5, numsB (goneN keep ks n))]) (fun n => n ≤ ks.length) (fun n => n) ks.length (Nat.le_refl _) ?_ (fun n hle => ?_)
  · rw [show leftN keep ks ks.length = keep by simp [leftN, cntP]; omega, show goneN keep ks ks.length = [] by simp [goneN, cutL]]
    ((repeat' (first|((conv => whnf);done)|((try conv => whnf);first|exact trivial|(refine And.intro ?_ ?_)|rfl|exact fun _ _ _ h=>h|exact fun _ _ _ _=>trivial)));(all_goals (try conv => whnf)))
  · ((repeat' ((conv => whnf);(first|refine zA ?_|(refine zI ?_ ?_<;> intro hh<;> first|(exfalso;omega)|skip)|(refine zl ?_ ?_<;> intro hh)|refine zq ?_|refine zv ?_|refine zu ?_|exact Sy.fin_val fun e=>rfl)));(all_goals (try conv => whnf)))
    · have hlt : n - 1 < ks.length := by omega
      have hi : ks[((n : Int) - 1).toNat]? = some ks[n - 1] := by rw [show ((n : Int) - 1).toNat = n - 1 by omega]; exact List.getElem?_eq_getElem hlt
      have e1 := gone_step (keep := keep) hlt
      have e2 := left_step hlt (keep := keep) (by omega)
      rw [show n - 1 + 1 = n by omega] at e1 e2
      refine Sy.el_map ks[n - 1] hi ?_
      generalize ks[n - 1] = p at *
      ((repeat' ((conv => whnf);(first|refine zA ?_|(refine zI ?_ ?_<;> intro hh<;> first|(exfalso;omega)|skip)|(refine zl ?_ ?_<;> intro hh)|refine zq ?_|refine zv ?_|refine zu ?_|exact Sy.fin_val fun e=>rfl)));(all_goals (try conv => whnf)))
      refine Sy.yield_in Sy.tab_ok rfl rfl rfl rfl rfl (fun _ => ?_)
      obtain ⟨l1, l2⟩ := left_le keep ks n (by omega)
      have l3 := gone_len keep ks n
      have en : ((n - 1 : Nat) : Int) = (n : Int) - 1 := by omega
      ((repeat' ((conv => whnf);(first|refine zA ?_|(refine zI ?_ ?_<;> intro hh<;> first|(exfalso;omega)|skip)|(refine zl ?_ ?_<;> intro hh)|refine zq ?_|refine zv ?_|refine zu ?_|exact Sy.fin_val fun e=>rfl)));(all_goals (try conv => whnf)))
      · rw [if_neg (by simp [plainK, *])] at e1 e2
        refine ⟨n - 1, by omega, by omega, ?_⟩
        rw [e1, e2, en]
        ((repeat' (first|((conv => whnf);done)|((try conv => whnf);first|exact trivial|(refine And.intro ?_ ?_)|rfl|exact fun _ _ _ h=>h|exact fun _ _ _ _=>trivial)));(all_goals (try conv => whnf)))
      · rw [if_neg (by simp [plainK, *])] at e1 e2
        refine ⟨n - 1, by omega, by omega, ?_⟩
        rw [e1, e2, en]
        ((repeat' (first|((conv => whnf);done)|((try conv => whnf);first|exact trivial|(refine And.intro ?_ ?_)|rfl|exact fun _ _ _ h=>h|exact fun _ _ _ _=>trivial)));(all_goals (try conv => whnf)))
      · rw [if_neg (by intro h; omega)] at e1
        rw [if_pos ⟨by simp [plainK, *], by omega⟩] at e2
        refine ⟨n - 1, by omega, by omega, ?_⟩
        rw [e1, e2, en]
        ((repeat' (first|((conv => whnf);done)|((try conv => whnf);first|exact trivial|(refine And.intro ?_ ?_)|rfl|exact fun _ _ _ h=>h|exact fun _ _ _ _=>trivial)));(all_goals (try conv => whnf)))
      · refine Sy.yield_in Sy.tab_ok rfl rfl rfl rfl rfl (fun _ => ?_)
        ((repeat' ((conv => whnf);(first|refine zA ?_|(refine zI ?_ ?_<;> intro hh<;> first|(exfalso;omega)|skip)|(refine zl ?_ ?_<;> intro hh)|refine zq ?_|refine zv ?_|refine zu ?_|exact Sy.fin_val fun e=>rfl)));(all_goals (try conv => whnf)))
        refine Sy.need_app 8 rfl ⟨by omega, by omega⟩ ?_
        ((repeat' ((conv => whnf);(first|refine zA ?_|(refine zI ?_ ?_<;> intro hh<;> first|(exfalso;omega)|skip)|(refine zl ?_ ?_<;> intro hh)|refine zq ?_|refine zv ?_|refine zu ?_|exact Sy.fin_val fun e=>rfl)));(all_goals (try conv => whnf)))
        rw [if_pos ⟨by simp [plainK, *], by omega⟩] at e1
        rw [if_neg (by intro h; omega)] at e2
        refine ⟨n - 1, by omega, by omega, ?_⟩
        rw [e1, e2, en]
        ((repeat' (first|((conv => whnf);done)|((try conv => whnf);first|exact trivial|(refine And.intro ?_ ?_)|rfl|exact fun _ _ _ h=>h|exact fun _ _ _ _=>trivial)));(all_goals (try conv => whnf)))
        all_goals simp [encU]
    · have e : n = 0 := by omega
      subst e
      have e3 : goneN keep ks 0 = (cutL keep ks).2.reverse := by simp [goneN]
      rw [e3]
      refine Sy.call_mut 5 ⟨25, 1, (cutL keep ks).2.length, (cutL keep ks).2.map encU⟩ (.tup []) Try.call45 (fun e a w' h => ?_) ?_
      · have := sortU_any (e.rv 5) (cutL keep ks).2.reverse w' (h.hp 5 _ rfl).1 (cut_fall keep ks hr) (by rw [List.length_reverse]; exact hg)
        rw [cut_sorted keep ks hr, List.length_reverse] at this
        exact this
      ((repeat' ((conv => whnf);(first|refine zA ?_|(refine zI ?_ ?_<;> intro hh<;> first|(exfalso;omega)|skip)|(refine zl ?_ ?_<;> intro hh)|refine zq ?_|refine zv ?_|refine zu ?_|exact Sy.fin_val fun e=>rfl)));(all_goals (try conv => whnf)))
      refine Sy.call_in Sy.lv46 Sy.tab_ok Try.func46 rfl _ Try.ntmps46 Try.call46 rfl (fun _ => ?_)
      ((repeat' ((conv => whnf);(first|refine zA ?_|(refine zI ?_ ?_<;> intro hh<;> first|(exfalso;omega)|skip)|(refine zl ?_ ?_<;> intro hh)|refine zq ?_|refine zv ?_|refine zu ?_|exact Sy.fin_val fun e=>rfl)));(all_goals (try conv => whnf)))
      have hcf := cut_filter keep ks hr
      have hR : remN (cutL keep ks).2 ks ks.length = (cutL keep ks).1 := by rw [remN, List.take_length]; exact hcf
      obtain ⟨G, hG⟩ : ∃ G, G = (cutL keep ks).2 := ⟨_, rfl⟩
      rw [← hG] at hR
      rw [← hG]
      refine Sy.call_in Sy.lv31 Sy.tab_ok Try.func31 rfl _ Try.ntmps31 Try.call31 rfl (fun _ => ?_)
      ((repeat' ((conv => whnf);(first|refine zA ?_|(refine zI ?_ ?_<;> intro hh<;> first|(exfalso;omega)|skip)|(refine zl ?_ ?_<;> intro hh)|refine zq ?_|refine zv ?_|refine zu ?_|exact Sy.fin_val fun e=>rfl)));(all_goals (try conv => whnf)))
      refine Sy.loop_inv Sy.tab_ok (fun n : Nat => [(8, .c (.v (.int .i64 n)))]) (fun _ => []) (fun n => n ≤ ks.length ∧ ∀ i (hi : i < ks.length), i < n → ks[i].number ∉ G) (fun n => ks.length - n) 0 ⟨Nat.zero_le _, fun i hi h => absurd h (Nat.not_lt_zero _)⟩ ?_ (fun n hle => ?_)
      · ((repeat' (first|((conv => whnf);done)|((try conv => whnf);first|exact trivial|(refine And.intro ?_ ?_)|rfl|exact fun _ _ _ h=>h|exact fun _ _ _ _=>trivial)));(all_goals (try conv => whnf)))
      · obtain ⟨hle, hno⟩ := hle
        ((repeat' ((conv => whnf);(first|refine zA ?_|(refine zI ?_ ?_<;> intro hh<;> first|(exfalso;omega)|skip)|(refine zl ?_ ?_<;> intro hh)|refine zq ?_|refine zv ?_|refine zu ?_|exact Sy.fin_val fun e=>rfl)));(all_goals (try conv => whnf)))
        · have hlt : n < ks.length := by omega
          have hg := List.getElem?_eq_getElem hlt
          have e1 := rem_succ G ks n hlt
          have hn1 : ks[n].number ∉ G → ∀ i (hi : i < ks.length), i < n + 1 → ks[i].number ∉ G := fun h i hi hin => by
            rcases Nat.lt_succ_iff_lt_or_eq.1 hin with h1 | rfl
            · exact hno i hi h1
            · exact h
          refine Sy.el_map ks[n] hg ?_
          generalize hp : ks[n] = p at *
          ((repeat' ((conv => whnf);(first|refine zA ?_|(refine zI ?_ ?_<;> intro hh<;> first|(exfalso;omega)|skip)|(refine zl ?_ ?_<;> intro hh)|refine zq ?_|refine zv ?_|refine zu ?_|exact Sy.fin_val fun e=>rfl)));(all_goals (try conv => whnf)))
          refine Sy.call_in Sy.lv47 Sy.tab_ok Try.func47 rfl _ Try.ntmps47 Try.call47 rfl (fun _ => ?_)
          ((repeat' ((conv => whnf);(first|refine zA ?_|(refine zI ?_ ?_<;> intro hh<;> first|(exfalso;omega)|skip)|(refine zl ?_ ?_<;> intro hh)|refine zq ?_|refine zv ?_|refine zu ?_|exact Sy.fin_val fun e=>rfl)));(all_goals (try conv => whnf)))
          refine Sy.call_val (.c (.v (.bool (decide (p.number ∈ G))))) Try.call48 rfl (fun e a w' h => containsU_any (e.rv 5) G p.number w' (Sy.row_reads h (.inl ⟨_, rfl⟩))) ?_
          ((repeat' ((conv => whnf);(first|refine zA ?_|(refine zI ?_ ?_<;> intro hh<;> first|(exfalso;omega)|skip)|(refine zl ?_ ?_<;> intro hh)|refine zq ?_|refine zv ?_|refine zu ?_|exact Sy.fin_val fun e=>rfl)));(all_goals (try conv => whnf)))
          · refine Sy.row_buf 1 39 3 ks.length _ rfl (by omega) (fun cap h1 h2 => ?_)
            conv => whnf
            have hdel : p.number ∈ G := by assumption
            rw [if_pos hdel, List.append_nil] at e1
            have hre : remN G ks n = ks.take n := rem_all G ks n hno
            refine Sy.loop_inv Sy.tab_ok (fun x : Nat × List Kp => [(5, .c (.v (.int .i64 (remN G ks x.1).length))), (6, .c (.v (.int .i64 x.1)))]) (fun x => [(14, .buf 39 3 cap (.vs ((remN G ks x.1 ++ (x.2 ++ ks.drop x.1)).map encK)))]) (fun x => x.1 ≤ ks.length ∧ (remN G ks x.1).length + x.2.length = x.1 ∧ 1 ≤ x.2.length) (fun x => ks.length - x.1) (n + 1, [p]) ⟨by dsimp only; omega, by dsimp only; rw [e1, hre, List.length_take]; simp; omega, by simp⟩ ?_ (fun x hx => ?_)
            · have e3 : remN G ks (n + 1) ++ ([p] ++ ks.drop (n + 1)) = ks := by
                rw [e1, hre, ← hp]
                simp
              dsimp only
              rw [e3, e1, hre, List.length_take, Nat.min_eq_left (by omega)]
              ((repeat' (first|((conv => whnf);done)|((try conv => whnf);first|exact trivial|(refine And.intro ?_ ?_)|rfl|exact fun _ _ _ h=>h|exact fun _ _ _ _=>trivial)));(all_goals (try conv => whnf)))
            · obtain ⟨j, jk⟩ := x
              obtain ⟨hj, hlen, hjk⟩ := hx
              dsimp only at hj hlen hjk ⊢
              ((repeat' ((conv => whnf);(first|refine zA ?_|(refine zI ?_ ?_<;> intro hh<;> first|(exfalso;omega)|skip)|(refine zl ?_ ?_<;> intro hh)|refine zq ?_|refine zv ?_|refine zu ?_|exact Sy.fin_val fun e=>rfl)));(all_goals (try conv => whnf)))
              · have hlt2 : j < ks.length := by omega
                have f1 := rem_succ G ks j hlt2
                have f2 := List.drop_eq_getElem_cons hlt2
                have hgj : (remN G ks j ++ (jk ++ ks.drop j))[0 + j]? = some ks[j] := by
                  rw [Nat.zero_add, List.getElem?_append_right (by omega), List.getElem?_append_right (by omega), f2, show j - (remN G ks j).length - jk.length = 0 by omega]
                  rfl
                obtain ⟨g, js, rfl⟩ : ∃ g js, jk = g :: js := by cases jk with
                  | nil => simp at hjk
                  | cons g js => exact ⟨g, js, rfl⟩
                refine Sy.el_map ks[j] hgj ?_
                generalize ks[j] = y at *
                generalize remN G ks j = A at *
                have hgA : (A ++ (g :: js ++ ks.drop j))[0 + A.length]? = some g := by
                  rw [Nat.zero_add, List.getElem?_append_right (by omega), Nat.sub_self]; rfl
                rw [List.length_cons] at hlen
                ((repeat' ((conv => whnf);(first|refine zA ?_|(refine zI ?_ ?_<;> intro hh<;> first|(exfalso;omega)|skip)|(refine zl ?_ ?_<;> intro hh)|refine zq ?_|refine zv ?_|refine zu ?_|exact Sy.fin_val fun e=>rfl)));(all_goals (try conv => whnf)))
                refine Sy.call_in Sy.lv47 Sy.tab_ok Try.func47 rfl _ Try.ntmps47 Try.call47 rfl (fun _ => ?_)
                ((repeat' ((conv => whnf);(first|refine zA ?_|(refine zI ?_ ?_<;> intro hh<;> first|(exfalso;omega)|skip)|(refine zl ?_ ?_<;> intro hh)|refine zq ?_|refine zv ?_|refine zu ?_|exact Sy.fin_val fun e=>rfl)));(all_goals (try conv => whnf)))
                refine Sy.call_val (.c (.v (.bool (decide (y.number ∈ G))))) Try.call48 rfl (fun e a w' h => containsU_any (e.rv 5) G y.number w' (Sy.row_reads h (.inl ⟨_, rfl⟩))) ?_
                ((repeat' ((conv => whnf);(first|refine zA ?_|(refine zI ?_ ?_<;> intro hh<;> first|(exfalso;omega)|skip)|(refine zl ?_ ?_<;> intro hh)|refine zq ?_|refine zv ?_|refine zu ?_|exact Sy.fin_val fun e=>rfl)));(all_goals (try conv => whnf)))
                · rw [if_pos (by assumption), List.append_nil] at f1
                  refine ⟨(j + 1, g :: js ++ [y]), ⟨by dsimp only; omega, by dsimp only; rw [f1, List.length_append]; simp; omega, by simp⟩, by dsimp only; omega, ?_⟩
                  dsimp only
                  rw [f1]
                  ((repeat' (first|((conv => whnf);done)|((try conv => whnf);first|exact trivial|(refine And.intro ?_ ?_)|rfl|exact fun _ _ _ h=>h|exact fun _ _ _ _=>trivial)));(all_goals (try conv => whnf)))
                  all_goals (rw [f2]; simp)
                · rw [if_neg (by assumption)] at f1
                  refine Sy.el_map g hgA ?_
                  ((repeat' ((conv => whnf);(first|refine zA ?_|(refine zI ?_ ?_<;> intro hh<;> first|(exfalso;omega)|skip)|(refine zl ?_ ?_<;> intro hh)|refine zq ?_|refine zv ?_|refine zu ?_|exact Sy.fin_val fun e=>rfl)));(all_goals (try conv => whnf)))
                  refine ⟨(j + 1, js ++ [y]), ⟨by dsimp only; omega, by dsimp only; rw [f1, List.length_append, List.length_append]; simp; omega, by simp⟩, by dsimp only; omega, ?_⟩
                  dsimp only
                  rw [f1, List.length_append, List.length_singleton]
                  ((repeat' (first|((conv => whnf);done)|((try conv => whnf);first|exact trivial|(refine And.intro ?_ ?_)|rfl|exact fun _ _ _ h=>h|exact fun _ _ _ _=>trivial)));(all_goals (try conv => whnf)))
                  rw [f2, show Sy.splice (encK g) 0 [.int .u64 y.number, .bool y.save, .bool y.opn] = encK y from rfl, Nat.zero_add]
                  simp
              · have ej : j = ks.length := by omega
                subst ej
                rw [hR] at hlen ⊢
                have hA : ((cutL keep ks).1 ++ (jk ++ ks.drop ks.length)).length = ks.length := by
                  rw [List.length_append, List.length_append, List.length_drop]; omega
                generalize hAA : (cutL keep ks).1 = A at *
                refine Sy.sli_nat ⟨by omega, by omega⟩ ?_
                ((repeat' ((conv => whnf);(first|refine zA ?_|(refine zI ?_ ?_<;> intro hh<;> first|(exfalso;omega)|skip)|(refine zl ?_ ?_<;> intro hh)|refine zq ?_|refine zv ?_|refine zu ?_|exact Sy.fin_val fun e=>rfl)));(all_goals (try conv => whnf)))
                refine Sy.rev_in (by show 0 + ks.length ≤ List.length _; rw [List.length_map, hA]; omega) ?_
                ((repeat' ((conv => whnf);(first|refine zA ?_|(refine zI ?_ ?_<;> intro hh<;> first|(exfalso;omega)|skip)|(refine zl ?_ ?_<;> intro hh)|refine zq ?_|refine zv ?_|refine zu ?_|exact Sy.fin_val fun e=>rfl)));(all_goals (try conv => whnf)))
                refine Sy.need_of (by show 0 + A.length + (ks.length - A.length) ≤ List.length _; rw [List.length_map, hA]; omega) ?_
                ((repeat' ((conv => whnf);(first|refine zA ?_|(refine zI ?_ ?_<;> intro hh<;> first|(exfalso;omega)|skip)|(refine zl ?_ ?_<;> intro hh)|refine zq ?_|refine zv ?_|refine zu ?_|exact Sy.fin_val fun e=>rfl)));(all_goals (try conv => whnf)))
                refine Sy.sli_nat (lo := 0) ⟨by omega, by omega⟩ ?_
                ((repeat' ((conv => whnf);(first|refine zA ?_|(refine zI ?_ ?_<;> intro hh<;> first|(exfalso;omega)|skip)|(refine zl ?_ ?_<;> intro hh)|refine zq ?_|refine zv ?_|refine zu ?_|exact Sy.fin_val fun e=>rfl)));(all_goals (try conv => whnf)))
                rw [show List.take (0 + A.length) ((A ++ (jk ++ ks.drop ks.length)).map encK) = A.map encK by rw [Nat.zero_add, ← List.map_take, List.take_left]]
                generalize (List.replicate (ks.length - A.length) _ ++ List.drop _ _ : List (List Value)) = Z
                refine Sy.rev_in (by show 0 + A.length ≤ List.length _; rw [List.length_append, List.length_map]; omega) ?_
                ((repeat' ((conv => whnf);(first|refine zA ?_|(refine zI ?_ ?_<;> intro hh<;> first|(exfalso;omega)|skip)|(refine zl ?_ ?_<;> intro hh)|refine zq ?_|refine zv ?_|refine zu ?_|exact Sy.fin_val fun e=>rfl)));(all_goals (try conv => whnf)))
                refine Sy.fin_subx (Sy.sub_bufrowc 0 1 14 A.length 39 3 cap _ rfl rfl rfl (by rw [List.length_append, List.length_map]; omega)) ?_
                conv => whnf
                refine Sy.fin_own () trivial ?_
                ((conv => whnf);(refine And.intro ?_ (And.intro ?_ (And.intro ?_ ?_)));(all_goals ((repeat' (first|((conv => whnf);done)|((try conv => whnf);first|exact trivial|(refine And.intro ?_ ?_)|rfl|exact fun _ _ _ h=>h|exact fun _ _ _ _=>trivial)));(all_goals (try conv => whnf)))))
                all_goals first | rw [hG] | (rw [List.take_left' (List.length_map _), hAA]; done) | rw [hAA]
          · refine ⟨n + 1, ⟨by omega, hn1 (by assumption)⟩, by omega, ?_⟩
            ((repeat' (first|((conv => whnf);done)|((try conv => whnf);first|exact trivial|(refine And.intro ?_ ?_)|rfl|exact fun _ _ _ h=>h|exact fun _ _ _ _=>trivial)));(all_goals (try conv => whnf)))
        · have e : n = ks.length := by omega
          subst e
          have hall : (cutL keep ks).1 = ks := by rw [← hR, rem_all G ks _ (fun i hi _ => hno i hi hi), List.take_length]
          refine Sy.fin_own () trivial ?_
          ((conv => whnf);(refine And.intro ?_ (And.intro ?_ (And.intro ?_ ?_)));(all_goals ((repeat' (first|((conv => whnf);done)|((try conv => whnf);first|exact trivial|(refine And.intro ?_ ?_)|rfl|exact fun _ _ _ h=>h|exact fun _ _ _ _=>trivial)));(all_goals (try conv => whnf)))))
          all_goals first | rw [← hG] | rw [hall]
end Go.Proofs.Ytkmdmjnbjoakbaa
