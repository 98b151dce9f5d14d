/- Graph: the document's Has, With, Sources. -/
import Derived.Test.YtmahldelmbhjfaaGreatGD
namespace Go.Proofs.YtmahldelmbhjfaaGreat
open Go Go.RowKit
open Sy (C SV V1 Blk St XD Els)
set_option maxRecDepth 10000

def insF (l : List Int) (n : Int) : List Int := l.filter (fun x => decide (x < n)) ++ ((if l.any (fun x => decide (n ≤ x)) = true then [n] else []) ++ l.filter (fun x => decide (n < x)))
def insL (l : List Int) (n : Int) : List Int := l.filter (fun x => decide (x < n)) ++ ([n] ++ l.filter (fun x => decide (n < x)))
theorem insL_mem (l : List Int) (n y : Int) : y ∈ insL l n ↔ y = n ∨ y ∈ l := by
  unfold insL
  simp only [List.mem_append, List.mem_filter, List.mem_singleton, decide_eq_true_eq]
  constructor
  · rintro (⟨h, _⟩ | h | ⟨h, _⟩)
    · exact .inr h
    · exact .inl h
    · exact .inr h
  · rintro (h | h)
    · exact .inr (.inl h)
    · rcases Int.lt_trichotomy y n with h1 | h1 | h1
      · exact .inl ⟨h, h1⟩
      · exact .inr (.inl h1)
      · exact .inr (.inr ⟨h, h1⟩)
theorem insL_strict {l : List Int} (h : strict l) (n : Int) : strict (insL l n) := by
  unfold insL
  refine List.pairwise_append.2 ⟨h.filter _, List.pairwise_append.2 ⟨List.pairwise_singleton _ _, h.filter _, fun x hx y hy => ?_⟩, fun x hx y hy => ?_⟩
  · have := (List.mem_filter.1 hy).2
    simp at hx this; omega
  · have h1 := (List.mem_filter.1 hx).2
    rcases List.mem_append.1 hy with hy | hy
    · simp at hy h1; omega
    · have h2 := (List.mem_filter.1 hy).2
      simp at h1 h2; omega
theorem insL_set (zs : List Int) (s : Int) : insL (setI zs) s = setI (zs ++ [s]) := by
  obtain ⟨h1, h2⟩ := compact_sort zs
  obtain ⟨h3, h4⟩ := compact_sort (zs ++ [s])
  refine strict_ext (insL_strict h1 s) h3 fun x => ?_
  rw [insL_mem]
  show x = s ∨ x ∈ Lib.compact (sortL zs) ↔ x ∈ Lib.compact (sortL (zs ++ [s]))
  rw [h2, h4]
  simp [or_comm]
theorem filter_all {l : List Int} {p : Int → Bool} (h : ∀ x ∈ l, p x = true) : l.filter p = l := List.filter_eq_self.2 h
theorem filter_no {l : List Int} {p : Int → Bool} (h : ∀ x ∈ l, p x = false) : l.filter p = [] := List.filter_eq_nil_iff.2 fun x hx => by rw [h x hx]; decide
/-- One more number, above all that were. -/
theorem insF_lt {t : List Int} {x n : Int} (ht : ∀ y ∈ t, y < x) (hx : x < n) : insF (t ++ [x]) n = insF t n ++ [x] ∧ (t ++ [x]).any (fun x => decide (n ≤ x)) = false ∧ t.any (fun x => decide (n ≤ x)) = false := by
  have h1 : t.any (fun x => decide (n ≤ x)) = false := List.any_eq_false.2 fun y hy => by have := ht y hy; simp; omega
  have h2 : (t ++ [x]).any (fun x => decide (n ≤ x)) = false := by rw [List.any_append, h1]; simp; omega
  refine ⟨?_, h2, h1⟩
  unfold insF
  rw [h1, h2, List.filter_append, List.filter_append]
  have h3 : t.filter (fun x => decide (n < x)) = [] := filter_no fun y hy => by have := ht y hy; simp; omega
  rw [h3]
  simp [hx, show ¬ n < x by omega]
theorem insF_ge {t : List Int} {x n : Int} (ht : ∀ y ∈ t, y < x) (hx : n ≤ x) : (t ++ [x]).any (fun x => decide (n ≤ x)) = true ∧
    (t.any (fun x => decide (n ≤ x)) = false → insF (t ++ [x]) n = (insF t n ++ [n]) ++ (if x = n then [] else [x])) ∧ (t.any (fun x => decide (n ≤ x)) = true → insF (t ++ [x]) n = insF t n ++ [x] ∧ x ≠ n) := by
  have h2 : (t ++ [x]).any (fun x => decide (n ≤ x)) = true := by rw [List.any_append]; simp [hx]
  refine ⟨h2, fun h1 => ?_, fun h1 => ?_⟩
  · unfold insF
    rw [h1, h2, List.filter_append, List.filter_append]
    have h3 : t.filter (fun x => decide (n < x)) = [] := filter_no fun y hy => by
      have := List.any_eq_false.1 h1 y hy
      simp at this ⊢; omega
    rw [h3]
    by_cases he : x = n
    · subst he; simp
    · simp [he, show ¬ x < n by omega, show n < x by omega]
  · obtain ⟨y, hy, hny⟩ := List.any_eq_true.1 h1
    have := ht y hy
    have hny : n ≤ y := by simpa using hny
    refine ⟨?_, by omega⟩
    unfold insF
    rw [h1, h2, List.filter_append, List.filter_append]
    simp [show ¬ x < n by omega, show n < x by omega]
theorem insF_end {l : List Int} {n : Int} (h : l.any (fun x => decide (n ≤ x)) = true) : insF l n = insL l n := by unfold insF insL; rw [if_pos h]
theorem insF_end' {l : List Int} {n : Int} (h : l.any (fun x => decide (n ≤ x)) = false) : insF l n ++ [n] = insL l n := by
  unfold insF insL
  rw [if_neg (by rw [h]; decide)]
  have h3 : l.filter (fun x => decide (n < x)) = [] := filter_no fun y hy => by
    have := List.any_eq_false.1 h y hy
    simp at this ⊢; omega
  rw [h3]; simp
theorem insF_len (l : List Int) (n : Int) : (insF l n).length ≤ 2 * l.length + 1 := by
  unfold insF
  have h1 := List.length_filter_le (fun x => decide (x < n)) l
  have h2 := List.length_filter_le (fun x => decide (n < x)) l
  rw [List.length_append, List.length_append]
  split <;> simp <;> omega
attribute [local irreducible] insF insL
set_option maxHeartbeats 1000000 in
theorem with_any (v : Value) (l : List Int) (n : Int) (w : World) (hr : XD.ok (fun b => b < w.heap.size) w ⟨v, 1, l.length, l.map encI⟩) (hs : strict l) (hb : l.length ≤ 100000) :
    Calls Tryz.prog 117 #[v, .int .i64 n] w (Sy.RetRows Sy.noRow (fun _ : Unit => True) (fun _ => [⟨3, 1, (insL l n).length, (insL l n).map encI⟩]) (fun _ vs => vs.headD undef) w) := by
  refine Sy.calls_of Sy.lv117 Sy.tab_ok Tryz.func117 rfl _ Tryz.ntmps117 [⟨v, 1, l.length, l.map encI⟩] [.c (.row 0), .c (.v (.int .i64 n))] rfl rfl rfl ⟨hr, trivial⟩ ?_
  ((repeat' ((conv => whnf);(first|refine zA ?_|(refine zI ?_ ?_<;> intro hh<;> first|(exfalso;omega)|skip)|(refine zl ?_ ?_<;> intro hh)|refine zq ?_|refine zv ?_|refine zu ?_|exact Sy.fin_val fun e=>rfl)));(all_goals (try conv => whnf)))
  refine Sy.sem_subF (Sy.sub_row 5 3 1 rfl) ?_
  conv => whnf
  refine Sy.loop_inv Sy.tab_ok (fun j : Nat => [(11, .c (.v (.int .i64 j))), (6, .c (.v (.bool ((l.take j).any (fun x => decide (n ≤ x)))))), (5, .c (.row 1))]) (fun j => [(1, .row 3 1 (insF (l.take j) n).length (.vs ((insF (l.take j) n).map encI)))]) (fun j => j ≤ l.length) (fun j => l.length - j) 0 (Nat.zero_le _) ?_ (fun j hj => ?_)
  · rw [show insF (l.take 0) n = [] by unfold insF; simp]
    ((repeat' (first|((conv => whnf);done)|((try conv => whnf);first|exact trivial|(refine And.intro ?_ ?_)|rfl|exact fun _ _ _ h=>h|exact fun _ _ _ _=>trivial)));(all_goals (try conv => whnf)))
  · have hfl := insF_len (l.take j) n
    rw [List.length_take] at hfl
    ((repeat' ((conv => whnf);(first|refine zA ?_|(refine zI ?_ ?_<;> intro hh<;> first|(exfalso;omega)|skip)|(refine zl ?_ ?_<;> intro hh)|exact Sy.fin_val fun e=>rfl)));(all_goals (try conv => whnf)))
    · have hlt : j < l.length := by omega
      have hg := List.getElem?_eq_getElem hlt
      have htk := List.take_succ_eq_append_getElem hlt
      have hts : ∀ y ∈ l.take j, y < l[j] := fun y hy => by
        obtain ⟨i, hi, rfl⟩ := List.mem_iff_getElem.1 hy
        rw [List.length_take] at hi
        rw [List.getElem_take]
        exact List.pairwise_iff_getElem.1 hs i j (by omega) hlt (by omega)
      refine Sy.el_map l[j] hg ?_
      generalize l[j] = x at *
      have g1 := insF_lt (n := n) hts
      have g2 := insF_ge (n := n) hts
      rw [← htk] at g1 g2
      generalize l.take j = t at *
      generalize hd : t.any (fun x => decide (n ≤ x)) = d at *
      by_cases hx : x < n
      · obtain ⟨k1, k2, k3⟩ := g1 hx
        subst k3
        ((repeat' ((conv => whnf);(first|refine zA ?_|(refine zI ?_ ?_<;> intro hh<;> first|(exfalso;omega)|skip)|(refine zl ?_ ?_<;> intro hh)|refine zq ?_|refine zv ?_|refine zu ?_|exact Sy.fin_val fun e=>rfl)));(all_goals (try conv => whnf)))
        refine Sy.need_app 8 rfl ⟨by omega, by omega⟩ ?_
        ((repeat' ((conv => whnf);(first|refine zA ?_|(refine zI ?_ ?_<;> intro hh<;> first|(exfalso;omega)|skip)|(refine zl ?_ ?_<;> intro hh)|refine zq ?_|refine zv ?_|refine zu ?_|exact Sy.fin_val fun e=>rfl)));(all_goals (try conv => whnf)))
        refine ⟨j + 1, by omega, by omega, ?_⟩
        rw [k1, k2]
        ((repeat' (first|((conv => whnf);done)|((try conv => whnf);first|exact trivial|(refine And.intro ?_ ?_)|rfl|exact fun _ _ _ h=>h|exact fun _ _ _ _=>trivial)));(all_goals (try conv => whnf)))
        all_goals simp [encI]
      · obtain ⟨k1, k2, k3⟩ := g2 (by omega)
        cases d
        · have k2 := k2 rfl
          ((repeat' ((conv => whnf);(first|refine zA ?_|(refine zI ?_ ?_<;> intro hh<;> first|(exfalso;omega)|skip)|(refine zl ?_ ?_<;> intro hh)|refine zq ?_|refine zv ?_|refine zu ?_|exact Sy.fin_val fun e=>rfl)));(all_goals (try conv => whnf)))
          refine Sy.need_app 8 rfl ⟨by omega, by omega⟩ ?_
          ((repeat' ((conv => whnf);(first|refine zA ?_|(refine zI ?_ ?_<;> intro hh<;> first|(exfalso;omega)|skip)|(refine zl ?_ ?_<;> intro hh)|refine zq ?_|refine zv ?_|refine zu ?_|exact Sy.fin_val fun e=>rfl)));(all_goals (try conv => whnf)))
          · have he : x = n := by omega
            rw [if_pos he, List.append_nil] at k2
            refine ⟨j + 1, by omega, by omega, ?_⟩
            rw [k1, k2]
            ((repeat' (first|((conv => whnf);done)|((try conv => whnf);first|exact trivial|(refine And.intro ?_ ?_)|rfl|exact fun _ _ _ h=>h|exact fun _ _ _ _=>trivial)));(all_goals (try conv => whnf)))
            all_goals simp [encI]
          · have he : x ≠ n := by assumption
            rw [if_neg he] at k2
            refine Sy.need_app 8 rfl ⟨by omega, by omega⟩ ?_
            ((repeat' ((conv => whnf);(first|refine zA ?_|(refine zI ?_ ?_<;> intro hh<;> first|(exfalso;omega)|skip)|(refine zl ?_ ?_<;> intro hh)|refine zq ?_|refine zv ?_|refine zu ?_|exact Sy.fin_val fun e=>rfl)));(all_goals (try conv => whnf)))
            refine ⟨j + 1, by omega, by omega, ?_⟩
            rw [k1, k2]
            ((repeat' (first|((conv => whnf);done)|((try conv => whnf);first|exact trivial|(refine And.intro ?_ ?_)|rfl|exact fun _ _ _ h=>h|exact fun _ _ _ _=>trivial)));(all_goals (try conv => whnf)))
            all_goals simp [encI]
        · obtain ⟨k3, k4⟩ := k3 rfl
          ((repeat' ((conv => whnf);(first|refine zA ?_|(refine zI ?_ ?_<;> intro hh<;> first|(exfalso;omega)|skip)|(refine zl ?_ ?_<;> intro hh)|refine zq ?_|refine zv ?_|refine zu ?_|exact Sy.fin_val fun e=>rfl)));(all_goals (try conv => whnf)))
          refine Sy.need_app 8 rfl ⟨by omega, by omega⟩ ?_
          ((repeat' ((conv => whnf);(first|refine zA ?_|(refine zI ?_ ?_<;> intro hh<;> first|(exfalso;omega)|skip)|(refine zl ?_ ?_<;> intro hh)|refine zq ?_|refine zv ?_|refine zu ?_|exact Sy.fin_val fun e=>rfl)));(all_goals (try conv => whnf)))
          refine ⟨j + 1, by omega, by omega, ?_⟩
          rw [k1, k3]
          ((repeat' (first|((conv => whnf);done)|((try conv => whnf);first|exact trivial|(refine And.intro ?_ ?_)|rfl|exact fun _ _ _ h=>h|exact fun _ _ _ _=>trivial)));(all_goals (try conv => whnf)))
          all_goals simp [encI]
    · have e : j = l.length := by omega
      subst e
      rw [List.take_length] at *
      rw [insF_end (by assumption)]
      exact Sy.fin_r1 (.row 1) rfl
    · have e : j = l.length := by omega
      subst e
      rw [List.take_length] at *
      have k := insF_end' (show l.any (fun x => decide (n ≤ x)) = false by assumption)
      refine Sy.need_app 8 rfl ⟨by omega, by omega⟩ ?_
      ((repeat' ((conv => whnf);(first|refine zA ?_|(refine zI ?_ ?_<;> intro hh<;> first|(exfalso;omega)|skip)|(refine zl ?_ ?_<;> intro hh)|refine zq ?_|refine zv ?_|refine zu ?_|exact Sy.fin_val fun e=>rfl)));(all_goals (try conv => whnf)))
      rw [← k]
      refine Sy.fin_r1 (.row 3) ?_
      show some (Blk.row _ _ _ _) = _
      rw [List.length_append, List.map_append]
      rfl
end Go.Proofs.YtmahldelmbhjfaaGreat
