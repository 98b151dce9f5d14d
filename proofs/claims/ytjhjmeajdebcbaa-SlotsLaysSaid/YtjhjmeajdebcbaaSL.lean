/- Slots: slices.DeleteFunc of places, by contract (written by wip/tools/gen_slots.py) -/
import Derived.Test.YtjhjmeajdebcbaaSSpec
import Derived.Test.YtjhjmeajdebcbaaIdxI
import Derived.Test.YtjhjmeajdebcbaaSyH
namespace Go.Proofs.Ytjhjmeajdebcbaa
open Go Go.RowKit
open Sy (C SV V1 Blk St XD Els)
set_option maxRecDepth 10000

def remN (d : Int × Int → Bool) (ps : List (Int × Int)) (j : Nat) : List (Int × Int) := (ps.take j).filter (fun p => !d p)
def delL (d : Int × Int → Bool) (ps : List (Int × Int)) : List (Int × Int) := ps.filter (fun p => !d p)
theorem rem_succ (d : Int × Int → Bool) (ps : List (Int × Int)) (j : Nat) (h : j < ps.length) : remN d ps (j + 1) = remN d ps j ++ (if d ps[j] = true then [] else [ps[j]]) := by
  unfold remN
  rw [List.take_succ_eq_append_getElem h, List.filter_append]
  congr 1
  by_cases hd : d ps[j] = true
  · rw [if_pos hd, List.filter_cons, if_neg (by rw [hd]; decide)]; rfl
  · rw [if_neg hd, List.filter_cons, if_pos (by simpa using hd)]; rfl
theorem rem_all (d : Int × Int → Bool) (ps : List (Int × Int)) (j : Nat) (h : ∀ i (hi : i < ps.length), i < j → d ps[i] = false) : remN d ps j = ps.take j := by
  unfold remN
  refine List.filter_eq_self.2 fun k hk => ?_
  obtain ⟨i, hi, rfl⟩ := List.mem_iff_getElem.1 hk
  rw [List.length_take] at hi
  rw [List.getElem_take, h i (by omega) (by omega)]
  rfl
theorem rem_full (d : Int × Int → Bool) (ps : List (Int × Int)) : remN d ps ps.length = delL d ps := by rw [remN, List.take_length]; rfl
def goneB (id : Int) (p : Int × Int) : Bool := decide (p.2 = id)
def takenB (ts : List Int) (p : Int × Int) : Bool := decide (p.1 ∈ ts)
def delGC (ps : List (Int × Int)) (id : Int) : Sy.Ctr Unit := { avs := [.c (.row 0), .c (.row 1)], n0 := 3, H0 := [(0, .row 67 2 ps.length (.vs (ps.map enc2))), (1, .fn 61 [.loc 2 0]), (2, .cells 3 [.v (.int .i64 id)])], sv := fun _ => .c (.row 3), n1 := fun _ => 4, H1 := fun _ => [(1, .fn 61 [.loc 2 0]), (2, .cells 3 [.v (.int .i64 id)]), (3, .row 67 2 (delL (goneB id) ps).length (.vs ((delL (goneB id) ps).map enc2)))] }
def delTC (ps : List (Int × Int)) (ts : List Int) : Sy.Ctr Unit := { avs := [.c (.row 0), .c (.row 1)], n0 := 4, H0 := [(0, .row 67 2 ps.length (.vs (ps.map enc2))), (1, .fn 55 [.loc 2 0]), (2, .cells 32 [.row 3]), (3, .ext 1 ts.length (.vs (ts.map encI)))], sv := fun _ => .c (.row 4), n1 := fun _ => 5, H1 := fun _ => [(1, .fn 55 [.loc 2 0]), (2, .cells 32 [.row 3]), (4, .row 67 2 (delL (takenB ts) ps).length (.vs ((delL (takenB ts) ps).map enc2)))] }
attribute [local irreducible] remN delL
set_option maxHeartbeats 2000000 in
theorem delG_does (ps : List (Int × Int)) (id : Int) (hl : ps.length ≤ 1000) : Sy.Does Try.prog 54 (delGC ps id) := by
  obtain ⟨d, hd⟩ : ∃ d : Int × Int → Bool, d = goneB id := ⟨_, rfl⟩
  refine Sy.does_of Sy.lv54 Sy.tab_ok Try.func54 rfl _ Try.ntmps54 _ rfl rfl (fun e0 w hpre => ?_)
  ((repeat' ((conv => whnf);(first|refine zA ?_|(refine zI ?_ ?_<;> intro hh<;> first|(exfalso;omega)|skip)|(refine zl ?_ ?_<;> intro hh)|refine zq ?_|refine zv ?_|refine zu ?_|exact Sy.fin_val fun e=>rfl)));(all_goals (try conv => whnf)))
  have hR := rem_full d ps
  refine Sy.call_in Sy.lv72 Sy.tab_ok Try.func72 rfl _ Try.ntmps72 Try.call72 rfl (fun _ => ?_)
  ((repeat' ((conv => whnf);(first|refine zA ?_|(refine zI ?_ ?_<;> intro hh<;> first|(exfalso;omega)|skip)|(refine zl ?_ ?_<;> intro hh)|refine zq ?_|refine zv ?_|refine zu ?_|exact Sy.fin_val fun e=>rfl)));(all_goals (try conv => whnf)))
  refine Sy.loop_inv Sy.tab_ok (fun n : Nat => [(8, .c (.v (.int .i64 n)))]) (fun _ => []) (fun n => n ≤ ps.length ∧ ∀ i (hi : i < ps.length), i < n → d ps[i] = false) (fun n => ps.length - n) 0 ⟨Nat.zero_le _, fun i hi h => absurd h (Nat.not_lt_zero _)⟩ ?_ (fun n hle => ?_)
  · ((repeat' (first|((conv => whnf);done)|((try conv => whnf);first|exact trivial|(refine And.intro ?_ ?_)|rfl|exact fun _ _ _ h=>h|exact fun _ _ _ _=>trivial)));(all_goals (try conv => whnf)))
  · obtain ⟨hle, hno⟩ := hle
    ((repeat' ((conv => whnf);(first|refine zA ?_|(refine zI ?_ ?_<;> intro hh<;> first|(exfalso;omega)|skip)|(refine zl ?_ ?_<;> intro hh)|refine zq ?_|refine zv ?_|refine zu ?_|exact Sy.fin_val fun e=>rfl)));(all_goals (try conv => whnf)))
    · have hlt : n < ps.length := by omega
      have hg := List.getElem?_eq_getElem hlt
      have e1 := rem_succ d ps n hlt
      have hn1 : d ps[n] = false → ∀ i (hi : i < ps.length), i < n + 1 → d ps[i] = false := fun h i hi hin => by
        rcases Nat.lt_succ_iff_lt_or_eq.1 hin with h1 | rfl
        · exact hno i hi h1
        · exact h
      refine Sy.el_map ps[n] hg ?_
      generalize hp : ps[n] = p at *
      ((repeat' ((conv => whnf);(first|refine zA ?_|(refine zI ?_ ?_<;> intro hh<;> first|(exfalso;omega)|skip)|(refine zl ?_ ?_<;> intro hh)|refine zq ?_|refine zv ?_|refine zu ?_|exact Sy.fin_val fun e=>rfl)));(all_goals (try conv => whnf)))
      refine Sy.call_in Sy.lv61 Sy.tab_ok Try.func61 rfl _ Try.ntmps61 Try.call61 rfl (fun _ => ?_)
      cases hdp : d p with
      | true =>
        have hq : p.2 = id := by have h3 := hdp; rw [hd] at h3; unfold goneB at h3; simpa using h3
        ((repeat' ((conv => whnf);(first|refine zA ?_|(refine zI ?_ ?_<;> intro hh<;> first|(exfalso;omega)|skip)|(refine zl ?_ ?_<;> intro hh)|refine zq ?_|refine zv ?_|refine zu ?_|exact Sy.fin_val fun e=>rfl)));(all_goals (try conv => whnf)))
        refine Sy.row_buf 0 67 2 ps.length _ rfl (by omega) (fun cap h1 h2 => ?_)
        conv => whnf
        rw [if_pos hdp, List.append_nil] at e1
        have hre : remN d ps n = ps.take n := rem_all d ps n hno
        refine Sy.loop_inv Sy.tab_ok (fun x : Nat × List (Int × Int) => [(5, .c (.v (.int .i64 (remN d ps x.1).length))), (6, .c (.v (.int .i64 x.1)))]) (fun x => [(4, .buf 67 2 cap (.vs ((remN d ps x.1 ++ (x.2 ++ ps.drop x.1)).map enc2)))]) (fun x => x.1 ≤ ps.length ∧ (remN d ps x.1).length + x.2.length = x.1 ∧ 1 ≤ x.2.length) (fun x => ps.length - x.1) (n + 1, [p]) ⟨by dsimp only; omega, by dsimp only; rw [e1, hre, List.length_take]; simp; omega, by simp⟩ ?_ (fun x hx => ?_)
        · have e3 : remN d ps (n + 1) ++ ([p] ++ ps.drop (n + 1)) = ps := by
            rw [e1, hre, ← hp]
            simp
          dsimp only
          rw [e3, e1, hre, List.length_take, Nat.min_eq_left (by omega)]
          ((repeat' (first|((conv => whnf);done)|((try conv => whnf);first|exact trivial|(refine And.intro ?_ ?_)|rfl|exact fun _ _ _ h=>h|exact fun _ _ _ _=>trivial)));(all_goals (try conv => whnf)))
        · obtain ⟨j, jk⟩ := x
          obtain ⟨hj, hlen, hjk⟩ := hx
          dsimp only at hj hlen hjk ⊢
          ((repeat' ((conv => whnf);(first|refine zA ?_|(refine zI ?_ ?_<;> intro hh<;> first|(exfalso;omega)|skip)|(refine zl ?_ ?_<;> intro hh)|refine zq ?_|refine zv ?_|refine zu ?_|exact Sy.fin_val fun e=>rfl)));(all_goals (try conv => whnf)))
          · have hlt2 : j < ps.length := by omega
            have f1 := rem_succ d ps j hlt2
            have f2 := List.drop_eq_getElem_cons hlt2
            have hgj : (remN d ps j ++ (jk ++ ps.drop j))[0 + j]? = some ps[j] := by
              rw [Nat.zero_add, List.getElem?_append_right (by omega), List.getElem?_append_right (by omega), f2, show j - (remN d ps j).length - jk.length = 0 by omega]
              rfl
            obtain ⟨g, js, rfl⟩ : ∃ g js, jk = g :: js := by cases jk with
              | nil => simp at hjk
              | cons g js => exact ⟨g, js, rfl⟩
            refine Sy.el_map ps[j] hgj ?_
            generalize ps[j] = y at *
            generalize remN d ps j = A at *
            have hgA : (A ++ (g :: js ++ ps.drop j))[0 + A.length]? = some g := by
              rw [Nat.zero_add, List.getElem?_append_right (by omega), Nat.sub_self]; rfl
            rw [List.length_cons] at hlen
            ((repeat' ((conv => whnf);(first|refine zA ?_|(refine zI ?_ ?_<;> intro hh<;> first|(exfalso;omega)|skip)|(refine zl ?_ ?_<;> intro hh)|refine zq ?_|refine zv ?_|refine zu ?_|exact Sy.fin_val fun e=>rfl)));(all_goals (try conv => whnf)))
            refine Sy.call_in Sy.lv61 Sy.tab_ok Try.func61 rfl _ Try.ntmps61 Try.call61 rfl (fun _ => ?_)
            cases hdy : d y with
            | true =>
              have hq : y.2 = id := by have h3 := hdy; rw [hd] at h3; unfold goneB at h3; simpa using h3
              ((repeat' ((conv => whnf);(first|refine zA ?_|(refine zI ?_ ?_<;> intro hh<;> first|(exfalso;omega)|skip)|(refine zl ?_ ?_<;> intro hh)|refine zq ?_|refine zv ?_|refine zu ?_|exact Sy.fin_val fun e=>rfl)));(all_goals (try conv => whnf)))
              rw [if_pos hdy, List.append_nil] at f1
              refine ⟨(j + 1, g :: js ++ [y]), ⟨by dsimp only; omega, by dsimp only; rw [f1, List.length_append]; simp; omega, by simp⟩, by dsimp only; omega, ?_⟩
              dsimp only
              rw [f1]
              ((repeat' (first|((conv => whnf);done)|((try conv => whnf);first|exact trivial|(refine And.intro ?_ ?_)|rfl|exact fun _ _ _ h=>h|exact fun _ _ _ _=>trivial)));(all_goals (try conv => whnf)))
              all_goals (rw [f2]; simp)
            | false =>
              have hq : ¬ y.2 = id := by have h3 := hdy; rw [hd] at h3; unfold goneB at h3; simpa using h3
              ((repeat' ((conv => whnf);(first|refine zA ?_|(refine zI ?_ ?_<;> intro hh<;> first|(exfalso;omega)|skip)|(refine zl ?_ ?_<;> intro hh)|refine zq ?_|refine zv ?_|refine zu ?_|exact Sy.fin_val fun e=>rfl)));(all_goals (try conv => whnf)))
              rw [if_neg (by rw [hdy]; decide)] at f1
              refine Sy.el_map g hgA ?_
              ((repeat' ((conv => whnf);(first|refine zA ?_|(refine zI ?_ ?_<;> intro hh<;> first|(exfalso;omega)|skip)|(refine zl ?_ ?_<;> intro hh)|refine zq ?_|refine zv ?_|refine zu ?_|exact Sy.fin_val fun e=>rfl)));(all_goals (try conv => whnf)))
              refine ⟨(j + 1, js ++ [y]), ⟨by dsimp only; omega, by dsimp only; rw [f1, List.length_append, List.length_append]; simp; omega, by simp⟩, by dsimp only; omega, ?_⟩
              dsimp only
              rw [f1, List.length_append, List.length_singleton]
              ((repeat' (first|((conv => whnf);done)|((try conv => whnf);first|exact trivial|(refine And.intro ?_ ?_)|rfl|exact fun _ _ _ h=>h|exact fun _ _ _ _=>trivial)));(all_goals (try conv => whnf)))
              rw [f2, show Sy.splice (enc2 g) 0 [.int .i64 y.1, .int .i64 y.2] = enc2 y from rfl, Nat.zero_add]
              simp
          · have ej : j = ps.length := by omega
            subst ej
            rw [hR] at hlen ⊢
            have hA : (delL d ps ++ (jk ++ ps.drop ps.length)).length = ps.length := by
              rw [List.length_append, List.length_append, List.length_drop]; omega
            generalize hAA : delL d ps = A at *
            refine Sy.sli_nat ⟨by omega, by omega⟩ ?_
            ((repeat' ((conv => whnf);(first|refine zA ?_|(refine zI ?_ ?_<;> intro hh<;> first|(exfalso;omega)|skip)|(refine zl ?_ ?_<;> intro hh)|refine zq ?_|refine zv ?_|refine zu ?_|exact Sy.fin_val fun e=>rfl)));(all_goals (try conv => whnf)))
            refine Sy.rev_in (by show 0 + ps.length ≤ List.length _; rw [List.length_map, hA]; omega) ?_
            ((repeat' ((conv => whnf);(first|refine zA ?_|(refine zI ?_ ?_<;> intro hh<;> first|(exfalso;omega)|skip)|(refine zl ?_ ?_<;> intro hh)|refine zq ?_|refine zv ?_|refine zu ?_|exact Sy.fin_val fun e=>rfl)));(all_goals (try conv => whnf)))
            refine Sy.need_of (by show 0 + A.length + (ps.length - A.length) ≤ List.length _; rw [List.length_map, hA]; omega) ?_
            ((repeat' ((conv => whnf);(first|refine zA ?_|(refine zI ?_ ?_<;> intro hh<;> first|(exfalso;omega)|skip)|(refine zl ?_ ?_<;> intro hh)|refine zq ?_|refine zv ?_|refine zu ?_|exact Sy.fin_val fun e=>rfl)));(all_goals (try conv => whnf)))
            refine Sy.sli_nat (lo := 0) ⟨by omega, by omega⟩ ?_
            ((repeat' ((conv => whnf);(first|refine zA ?_|(refine zI ?_ ?_<;> intro hh<;> first|(exfalso;omega)|skip)|(refine zl ?_ ?_<;> intro hh)|refine zq ?_|refine zv ?_|refine zu ?_|exact Sy.fin_val fun e=>rfl)));(all_goals (try conv => whnf)))
            rw [show List.take (0 + A.length) ((A ++ (jk ++ ps.drop ps.length)).map enc2) = A.map enc2 by rw [Nat.zero_add, ← List.map_take, List.take_left]]
            generalize (List.replicate (ps.length - A.length) _ ++ List.drop _ _ : List (List Value)) = Z
            refine Sy.rev_in (by show 0 + A.length ≤ List.length _; rw [List.length_append, List.length_map]; omega) ?_
            ((repeat' ((conv => whnf);(first|refine zA ?_|(refine zI ?_ ?_<;> intro hh<;> first|(exfalso;omega)|skip)|(refine zl ?_ ?_<;> intro hh)|refine zq ?_|refine zv ?_|refine zu ?_|exact Sy.fin_val fun e=>rfl)));(all_goals (try conv => whnf)))
            refine Sy.fin_bufv 4 A.length 67 2 cap _ rfl (by rw [List.length_append, List.length_map]; omega) ?_
            conv => whnf
            subst hd
            refine Sy.fin_own () trivial ?_
            ((conv => whnf);(refine And.intro ?_ (And.intro ?_ (And.intro ?_ ?_)));(all_goals ((repeat' (first|((conv => whnf);done)|((try conv => whnf);first|exact trivial|(refine And.intro ?_ ?_)|rfl|exact fun _ _ _ h=>h|exact fun _ _ _ _=>trivial)));(all_goals (try conv => whnf)))))
            all_goals first | (rw [List.take_left' (List.length_map _), hAA]; done) | rw [hAA]
      | false =>
        have hq : ¬ p.2 = id := by have h3 := hdp; rw [hd] at h3; unfold goneB at h3; simpa using h3
        ((repeat' ((conv => whnf);(first|refine zA ?_|(refine zI ?_ ?_<;> intro hh<;> first|(exfalso;omega)|skip)|(refine zl ?_ ?_<;> intro hh)|refine zq ?_|refine zv ?_|refine zu ?_|exact Sy.fin_val fun e=>rfl)));(all_goals (try conv => whnf)))
        refine ⟨n + 1, ⟨by omega, hn1 hdp⟩, by omega, ?_⟩
        ((repeat' (first|((conv => whnf);done)|((try conv => whnf);first|exact trivial|(refine And.intro ?_ ?_)|rfl|exact fun _ _ _ h=>h|exact fun _ _ _ _=>trivial)));(all_goals (try conv => whnf)))
    · have e : n = ps.length := by omega
      subst e
      have hall : delL d ps = ps := by rw [← hR, rem_all d ps _ (fun i hi _ => hno i hi hi), List.take_length]
      subst hd
      refine Sy.fin_own () trivial ?_
      ((conv => whnf);(refine And.intro ?_ (And.intro ?_ (And.intro ?_ ?_)));(all_goals ((repeat' (first|((conv => whnf);done)|((try conv => whnf);first|exact trivial|(refine And.intro ?_ ?_)|rfl|exact fun _ _ _ h=>h|exact fun _ _ _ _=>trivial)));(all_goals (try conv => whnf)))))
      all_goals first | rw [hall] | done
set_option maxHeartbeats 2000000 in
theorem delT_does (ps : List (Int × Int)) (ts : List Int) (hl : ps.length ≤ 1000) : Sy.Does Try.prog 54 (delTC ps ts) := by
  obtain ⟨d, hd⟩ : ∃ d : Int × Int → Bool, d = takenB ts := ⟨_, rfl⟩
  refine Sy.does_of Sy.lv54 Sy.tab_ok Try.func54 rfl _ Try.ntmps54 _ rfl rfl (fun e0 w hpre => ?_)
  ((repeat' ((conv => whnf);(first|refine zA ?_|(refine zI ?_ ?_<;> intro hh<;> first|(exfalso;omega)|skip)|(refine zl ?_ ?_<;> intro hh)|refine zq ?_|refine zv ?_|refine zu ?_|exact Sy.fin_val fun e=>rfl)));(all_goals (try conv => whnf)))
  have hR := rem_full d ps
  refine Sy.call_in Sy.lv72 Sy.tab_ok Try.func72 rfl _ Try.ntmps72 Try.call72 rfl (fun _ => ?_)
  ((repeat' ((conv => whnf);(first|refine zA ?_|(refine zI ?_ ?_<;> intro hh<;> first|(exfalso;omega)|skip)|(refine zl ?_ ?_<;> intro hh)|refine zq ?_|refine zv ?_|refine zu ?_|exact Sy.fin_val fun e=>rfl)));(all_goals (try conv => whnf)))
  refine Sy.loop_inv Sy.tab_ok (fun n : Nat => [(8, .c (.v (.int .i64 n)))]) (fun _ => []) (fun n => n ≤ ps.length ∧ ∀ i (hi : i < ps.length), i < n → d ps[i] = false) (fun n => ps.length - n) 0 ⟨Nat.zero_le _, fun i hi h => absurd h (Nat.not_lt_zero _)⟩ ?_ (fun n hle => ?_)
  · ((repeat' (first|((conv => whnf);done)|((try conv => whnf);first|exact trivial|(refine And.intro ?_ ?_)|rfl|exact fun _ _ _ h=>h|exact fun _ _ _ _=>trivial)));(all_goals (try conv => whnf)))
  · obtain ⟨hle, hno⟩ := hle
    ((repeat' ((conv => whnf);(first|refine zA ?_|(refine zI ?_ ?_<;> intro hh<;> first|(exfalso;omega)|skip)|(refine zl ?_ ?_<;> intro hh)|refine zq ?_|refine zv ?_|refine zu ?_|exact Sy.fin_val fun e=>rfl)));(all_goals (try conv => whnf)))
    · have hlt : n < ps.length := by omega
      have hg := List.getElem?_eq_getElem hlt
      have e1 := rem_succ d ps n hlt
      have hn1 : d ps[n] = false → ∀ i (hi : i < ps.length), i < n + 1 → d ps[i] = false := fun h i hi hin => by
        rcases Nat.lt_succ_iff_lt_or_eq.1 hin with h1 | rfl
        · exact hno i hi h1
        · exact h
      refine Sy.el_map ps[n] hg ?_
      generalize hp : ps[n] = p at *
      ((repeat' ((conv => whnf);(first|refine zA ?_|(refine zI ?_ ?_<;> intro hh<;> first|(exfalso;omega)|skip)|(refine zl ?_ ?_<;> intro hh)|refine zq ?_|refine zv ?_|refine zu ?_|exact Sy.fin_val fun e=>rfl)));(all_goals (try conv => whnf)))
      refine Sy.call_in Sy.lv55 Sy.tab_ok Try.func55 rfl _ Try.ntmps55 Try.call55 rfl (fun _ => ?_)
      cases hdp : d p with
      | true =>
        have hq : decide (p.1 ∈ ts) = true := by have h3 := hdp; rw [hd] at h3; exact h3
        ((repeat' ((conv => whnf);(first|refine zA ?_|(refine zI ?_ ?_<;> intro hh<;> first|(exfalso;omega)|skip)|(refine zl ?_ ?_<;> intro hh)|refine zq ?_|refine zv ?_|refine zu ?_|exact Sy.fin_val fun e=>rfl)));(all_goals (try conv => whnf)))
        refine Sy.call_val (.c (.v (.bool true))) Try.call43 rfl (fun e a w' h => by have := contains_any (e.rv 3) ts p.1 w' (Sy.row_reads h (.inr rfl)); rw [hq] at this; exact this) ?_
        ((repeat' ((conv => whnf);(first|refine zA ?_|(refine zI ?_ ?_<;> intro hh<;> first|(exfalso;omega)|skip)|(refine zl ?_ ?_<;> intro hh)|refine zq ?_|refine zv ?_|refine zu ?_|exact Sy.fin_val fun e=>rfl)));(all_goals (try conv => whnf)))
        refine Sy.row_buf 0 67 2 ps.length _ rfl (by omega) (fun cap h1 h2 => ?_)
        conv => whnf
        rw [if_pos hdp, List.append_nil] at e1
        have hre : remN d ps n = ps.take n := rem_all d ps n hno
        refine Sy.loop_inv Sy.tab_ok (fun x : Nat × List (Int × Int) => [(5, .c (.v (.int .i64 (remN d ps x.1).length))), (6, .c (.v (.int .i64 x.1)))]) (fun x => [(5, .buf 67 2 cap (.vs ((remN d ps x.1 ++ (x.2 ++ ps.drop x.1)).map enc2)))]) (fun x => x.1 ≤ ps.length ∧ (remN d ps x.1).length + x.2.length = x.1 ∧ 1 ≤ x.2.length) (fun x => ps.length - x.1) (n + 1, [p]) ⟨by dsimp only; omega, by dsimp only; rw [e1, hre, List.length_take]; simp; omega, by simp⟩ ?_ (fun x hx => ?_)
        · have e3 : remN d ps (n + 1) ++ ([p] ++ ps.drop (n + 1)) = ps := by
            rw [e1, hre, ← hp]
            simp
          dsimp only
          rw [e3, e1, hre, List.length_take, Nat.min_eq_left (by omega)]
          ((repeat' (first|((conv => whnf);done)|((try conv => whnf);first|exact trivial|(refine And.intro ?_ ?_)|rfl|exact fun _ _ _ h=>h|exact fun _ _ _ _=>trivial)));(all_goals (try conv => whnf)))
        · obtain ⟨j, jk⟩ := x
          obtain ⟨hj, hlen, hjk⟩ := hx
          dsimp only at hj hlen hjk ⊢
          ((repeat' ((conv => whnf);(first|refine zA ?_|(refine zI ?_ ?_<;> intro hh<;> first|(exfalso;omega)|skip)|(refine zl ?_ ?_<;> intro hh)|refine zq ?_|refine zv ?_|refine zu ?_|exact Sy.fin_val fun e=>rfl)));(all_goals (try conv => whnf)))
          · have hlt2 : j < ps.length := by omega
            have f1 := rem_succ d ps j hlt2
            have f2 := List.drop_eq_getElem_cons hlt2
            have hgj : (remN d ps j ++ (jk ++ ps.drop j))[0 + j]? = some ps[j] := by
              rw [Nat.zero_add, List.getElem?_append_right (by omega), List.getElem?_append_right (by omega), f2, show j - (remN d ps j).length - jk.length = 0 by omega]
              rfl
            obtain ⟨g, js, rfl⟩ : ∃ g js, jk = g :: js := by cases jk with
              | nil => simp at hjk
              | cons g js => exact ⟨g, js, rfl⟩
            refine Sy.el_map ps[j] hgj ?_
            generalize ps[j] = y at *
            generalize remN d ps j = A at *
            have hgA : (A ++ (g :: js ++ ps.drop j))[0 + A.length]? = some g := by
              rw [Nat.zero_add, List.getElem?_append_right (by omega), Nat.sub_self]; rfl
            rw [List.length_cons] at hlen
            ((repeat' ((conv => whnf);(first|refine zA ?_|(refine zI ?_ ?_<;> intro hh<;> first|(exfalso;omega)|skip)|(refine zl ?_ ?_<;> intro hh)|refine zq ?_|refine zv ?_|refine zu ?_|exact Sy.fin_val fun e=>rfl)));(all_goals (try conv => whnf)))
            refine Sy.call_in Sy.lv55 Sy.tab_ok Try.func55 rfl _ Try.ntmps55 Try.call55 rfl (fun _ => ?_)
            cases hdy : d y with
            | true =>
              have hq : decide (y.1 ∈ ts) = true := by have h3 := hdy; rw [hd] at h3; exact h3
              ((repeat' ((conv => whnf);(first|refine zA ?_|(refine zI ?_ ?_<;> intro hh<;> first|(exfalso;omega)|skip)|(refine zl ?_ ?_<;> intro hh)|refine zq ?_|refine zv ?_|refine zu ?_|exact Sy.fin_val fun e=>rfl)));(all_goals (try conv => whnf)))
              refine Sy.call_val (.c (.v (.bool true))) Try.call43 rfl (fun e a w' h => by have := contains_any (e.rv 3) ts y.1 w' (Sy.row_reads h (.inr rfl)); rw [hq] at this; exact this) ?_
              ((repeat' ((conv => whnf);(first|refine zA ?_|(refine zI ?_ ?_<;> intro hh<;> first|(exfalso;omega)|skip)|(refine zl ?_ ?_<;> intro hh)|refine zq ?_|refine zv ?_|refine zu ?_|exact Sy.fin_val fun e=>rfl)));(all_goals (try conv => whnf)))
              rw [if_pos hdy, List.append_nil] at f1
              refine ⟨(j + 1, g :: js ++ [y]), ⟨by dsimp only; omega, by dsimp only; rw [f1, List.length_append]; simp; omega, by simp⟩, by dsimp only; omega, ?_⟩
              dsimp only
              rw [f1]
              ((repeat' (first|((conv => whnf);done)|((try conv => whnf);first|exact trivial|(refine And.intro ?_ ?_)|rfl|exact fun _ _ _ h=>h|exact fun _ _ _ _=>trivial)));(all_goals (try conv => whnf)))
              all_goals (rw [f2]; simp)
            | false =>
              have hq : decide (y.1 ∈ ts) = false := by have h3 := hdy; rw [hd] at h3; exact h3
              ((repeat' ((conv => whnf);(first|refine zA ?_|(refine zI ?_ ?_<;> intro hh<;> first|(exfalso;omega)|skip)|(refine zl ?_ ?_<;> intro hh)|refine zq ?_|refine zv ?_|refine zu ?_|exact Sy.fin_val fun e=>rfl)));(all_goals (try conv => whnf)))
              refine Sy.call_val (.c (.v (.bool false))) Try.call43 rfl (fun e a w' h => by have := contains_any (e.rv 3) ts y.1 w' (Sy.row_reads h (.inr rfl)); rw [hq] at this; exact this) ?_
              ((repeat' ((conv => whnf);(first|refine zA ?_|(refine zI ?_ ?_<;> intro hh<;> first|(exfalso;omega)|skip)|(refine zl ?_ ?_<;> intro hh)|refine zq ?_|refine zv ?_|refine zu ?_|exact Sy.fin_val fun e=>rfl)));(all_goals (try conv => whnf)))
              rw [if_neg (by rw [hdy]; decide)] at f1
              refine Sy.el_map g hgA ?_
              ((repeat' ((conv => whnf);(first|refine zA ?_|(refine zI ?_ ?_<;> intro hh<;> first|(exfalso;omega)|skip)|(refine zl ?_ ?_<;> intro hh)|refine zq ?_|refine zv ?_|refine zu ?_|exact Sy.fin_val fun e=>rfl)));(all_goals (try conv => whnf)))
              refine ⟨(j + 1, js ++ [y]), ⟨by dsimp only; omega, by dsimp only; rw [f1, List.length_append, List.length_append]; simp; omega, by simp⟩, by dsimp only; omega, ?_⟩
              dsimp only
              rw [f1, List.length_append, List.length_singleton]
              ((repeat' (first|((conv => whnf);done)|((try conv => whnf);first|exact trivial|(refine And.intro ?_ ?_)|rfl|exact fun _ _ _ h=>h|exact fun _ _ _ _=>trivial)));(all_goals (try conv => whnf)))
              rw [f2, show Sy.splice (enc2 g) 0 [.int .i64 y.1, .int .i64 y.2] = enc2 y from rfl, Nat.zero_add]
              simp
          · have ej : j = ps.length := by omega
            subst ej
            rw [hR] at hlen ⊢
            have hA : (delL d ps ++ (jk ++ ps.drop ps.length)).length = ps.length := by
              rw [List.length_append, List.length_append, List.length_drop]; omega
            generalize hAA : delL d ps = A at *
            refine Sy.sli_nat ⟨by omega, by omega⟩ ?_
            ((repeat' ((conv => whnf);(first|refine zA ?_|(refine zI ?_ ?_<;> intro hh<;> first|(exfalso;omega)|skip)|(refine zl ?_ ?_<;> intro hh)|refine zq ?_|refine zv ?_|refine zu ?_|exact Sy.fin_val fun e=>rfl)));(all_goals (try conv => whnf)))
            refine Sy.rev_in (by show 0 + ps.length ≤ List.length _; rw [List.length_map, hA]; omega) ?_
            ((repeat' ((conv => whnf);(first|refine zA ?_|(refine zI ?_ ?_<;> intro hh<;> first|(exfalso;omega)|skip)|(refine zl ?_ ?_<;> intro hh)|refine zq ?_|refine zv ?_|refine zu ?_|exact Sy.fin_val fun e=>rfl)));(all_goals (try conv => whnf)))
            refine Sy.need_of (by show 0 + A.length + (ps.length - A.length) ≤ List.length _; rw [List.length_map, hA]; omega) ?_
            ((repeat' ((conv => whnf);(first|refine zA ?_|(refine zI ?_ ?_<;> intro hh<;> first|(exfalso;omega)|skip)|(refine zl ?_ ?_<;> intro hh)|refine zq ?_|refine zv ?_|refine zu ?_|exact Sy.fin_val fun e=>rfl)));(all_goals (try conv => whnf)))
            refine Sy.sli_nat (lo := 0) ⟨by omega, by omega⟩ ?_
            ((repeat' ((conv => whnf);(first|refine zA ?_|(refine zI ?_ ?_<;> intro hh<;> first|(exfalso;omega)|skip)|(refine zl ?_ ?_<;> intro hh)|refine zq ?_|refine zv ?_|refine zu ?_|exact Sy.fin_val fun e=>rfl)));(all_goals (try conv => whnf)))
            rw [show List.take (0 + A.length) ((A ++ (jk ++ ps.drop ps.length)).map enc2) = A.map enc2 by rw [Nat.zero_add, ← List.map_take, List.take_left]]
            generalize (List.replicate (ps.length - A.length) _ ++ List.drop _ _ : List (List Value)) = Z
            refine Sy.rev_in (by show 0 + A.length ≤ List.length _; rw [List.length_append, List.length_map]; omega) ?_
            ((repeat' ((conv => whnf);(first|refine zA ?_|(refine zI ?_ ?_<;> intro hh<;> first|(exfalso;omega)|skip)|(refine zl ?_ ?_<;> intro hh)|refine zq ?_|refine zv ?_|refine zu ?_|exact Sy.fin_val fun e=>rfl)));(all_goals (try conv => whnf)))
            refine Sy.fin_bufv 5 A.length 67 2 cap _ rfl (by rw [List.length_append, List.length_map]; omega) ?_
            conv => whnf
            subst hd
            refine Sy.fin_own () trivial ?_
            ((conv => whnf);(refine And.intro ?_ (And.intro ?_ (And.intro ?_ ?_)));(all_goals ((repeat' (first|((conv => whnf);done)|((try conv => whnf);first|exact trivial|(refine And.intro ?_ ?_)|rfl|exact fun _ _ _ h=>h|exact fun _ _ _ _=>trivial)));(all_goals (try conv => whnf)))))
            all_goals first | (rw [List.take_left' (List.length_map _), hAA]; done) | rw [hAA]
      | false =>
        have hq : decide (p.1 ∈ ts) = false := by have h3 := hdp; rw [hd] at h3; exact h3
        ((repeat' ((conv => whnf);(first|refine zA ?_|(refine zI ?_ ?_<;> intro hh<;> first|(exfalso;omega)|skip)|(refine zl ?_ ?_<;> intro hh)|refine zq ?_|refine zv ?_|refine zu ?_|exact Sy.fin_val fun e=>rfl)));(all_goals (try conv => whnf)))
        refine Sy.call_val (.c (.v (.bool false))) Try.call43 rfl (fun e a w' h => by have := contains_any (e.rv 3) ts p.1 w' (Sy.row_reads h (.inr rfl)); rw [hq] at this; exact this) ?_
        ((repeat' ((conv => whnf);(first|refine zA ?_|(refine zI ?_ ?_<;> intro hh<;> first|(exfalso;omega)|skip)|(refine zl ?_ ?_<;> intro hh)|refine zq ?_|refine zv ?_|refine zu ?_|exact Sy.fin_val fun e=>rfl)));(all_goals (try conv => whnf)))
        refine ⟨n + 1, ⟨by omega, hn1 hdp⟩, by omega, ?_⟩
        ((repeat' (first|((conv => whnf);done)|((try conv => whnf);first|exact trivial|(refine And.intro ?_ ?_)|rfl|exact fun _ _ _ h=>h|exact fun _ _ _ _=>trivial)));(all_goals (try conv => whnf)))
    · have e : n = ps.length := by omega
      subst e
      have hall : delL d ps = ps := by rw [← hR, rem_all d ps _ (fun i hi _ => hno i hi hi), List.take_length]
      subst hd
      refine Sy.fin_own () trivial ?_
      ((conv => whnf);(refine And.intro ?_ (And.intro ?_ (And.intro ?_ ?_)));(all_goals ((repeat' (first|((conv => whnf);done)|((try conv => whnf);first|exact trivial|(refine And.intro ?_ ?_)|rfl|exact fun _ _ _ h=>h|exact fun _ _ _ _=>trivial)));(all_goals (try conv => whnf)))))
      all_goals first | rw [hall] | done
end Go.Proofs.Ytjhjmeajdebcbaa
