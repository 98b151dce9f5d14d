/- Slots: the document's Slots, Where, At, Right, Free. -/
import Derived.Test.YtjhjmeajdebcbaaSJ
import Derived.Test.YtjhjmeajdebcbaaSK
namespace Go.Proofs.Ytjhjmeajdebcbaa
open Go Go.RowKit
open Sy (C SV V1 Blk St XD Els)
set_option maxRecDepth 10000

def slL (ws : List (Int × Int)) (id : Int) : Int := match ws.find? (fun p => decide (p.1 = id)) with
  | some p => p.2
  | none => 0
theorem sl_hit {ws : List (Int × Int)} {id : Int} {n : Nat} {p : Int × Int} (h : ∀ q ∈ ws.take n, q.1 ≠ id) (hp : ws[n]? = some p) (he : p.1 = id) : slL ws id = p.2 := by
  have : ws.find? (fun p => decide (p.1 = id)) = some p := by
    rw [List.find?_eq_some_iff_getElem]
    obtain ⟨hi, hg⟩ := List.getElem?_eq_some_iff.1 hp
    refine ⟨decide_eq_true he, n, hi, hg, fun j hj => ?_⟩
    have := h (ws[j]'(by omega)) (List.mem_take_iff_getElem.2 ⟨j, by omega, rfl⟩)
    simpa using this
  unfold slL
  rw [this]
theorem sl_miss {ws : List (Int × Int)} {id : Int} (h : ∀ q ∈ ws, q.1 ≠ id) : slL ws id = 0 := by
  unfold slL
  rw [List.find?_eq_none.2 fun q hq => by simpa using h q hq]
theorem sl_ok {ws : List (Int × Int)} (h : ∀ p ∈ ws, okW p) (id : Int) : slL ws id ≠ 0 ↔ ∃ p ∈ ws, p.1 = id := by
  constructor
  · intro h0
    unfold slL at h0
    cases hf : ws.find? (fun p => decide (p.1 = id)) with
    | none => rw [hf] at h0; exact absurd rfl h0
    | some p => exact ⟨p, List.mem_of_find?_eq_some hf, of_decide_eq_true (List.find?_some (p := fun p : Int × Int => decide (p.1 = id)) hf)⟩
  · rintro ⟨p, hp, he⟩
    unfold slL
    cases hf : ws.find? (fun p => decide (p.1 = id)) with
    | none => exact absurd he (by have := List.find?_eq_none.1 hf p hp; simpa using this)
    | some q => have := h q (List.mem_of_find?_eq_some hf); unfold okW at this; dsimp only; omega
def whrR (ps : List (Int × Int)) (n : Int) : Int := (whrL ps n).1
theorem at_cnt (ps : List (Int × Int)) (id : Int) : ((atL ps id).length : Int) = cntW ps id := by
  unfold atL cntW
  rw [List.length_map, List.countP_eq_length_filter, List.filter_congr (q := fun q : Int × Int => q.2 == id) fun p _ => by rw [Bool.eq_iff_iff, decide_eq_true_iff, beq_iff_eq]]
theorem sumL_set2 : ∀ {l : List (Int × Int)} {j : Nat} {x c d : Int}, l[j]? = some (x, c) → sumL (l.set j (x, d)) = sumL l - c + d
  | [], j, x, c, d, h => by simp at h
  | y :: r, 0, x, c, d, h => by
    have : y = (x, c) := by simpa using h
    subst this
    unfold sumL
    simp
    omega
  | y :: r, j + 1, x, c, d, h => by
    have ih := sumL_set2 (l := r) (j := j) (d := d) (by simpa using h)
    unfold sumL at ih ⊢
    simp at ih ⊢
    omega
theorem free_sum {ws ps : List (Int × Int)} (ha : asc ws) (hin : ∀ q ∈ ps, ∃ p ∈ ws, p.1 = q.2) : ∀ n, n ≤ ps.length → sumL (frL ws (ps.take n)) = sumL ws - n
  | 0, _ => by rw [List.take_zero, frL_nil]; omega
  | n + 1, h => by
    have ih := free_sum ha hin n (by omega)
    have hlt : n < ps.length := by omega
    rw [List.take_succ_eq_append_getElem hlt]
    obtain ⟨p, hp, he⟩ := hin _ (List.getElem_mem hlt)
    generalize ps[n] = q at *
    obtain ⟨j, hj⟩ := List.mem_iff_getElem?.1 hp
    have hf : (frL ws (ps.take n))[j]? = some (q.2, p.2 - cntW (ps.take n) q.2) := by
      unfold frL
      rw [List.getElem?_map, hj, ← he]; rfl
    rw [← frL_set ha hf, sumL_set2 hf]
    omega
attribute [local irreducible] FlOk atL whrL okW okT slL cntW sumL frL
theorem rslots_any (u v : Value) (ws ps : List (Int × Int)) (id : Int) (w : World) (hu : XD.ok (fun b => b < w.heap.size) w ⟨u, 2, ws.length, ws.map enc2⟩) (hv : XD.ok (fun b => b < w.heap.size) w ⟨v, 2, ps.length, ps.map enc2⟩) :
    Calls Try.prog 51 #[.agg #[u, v], .int .i64 id] w (Sy.Ret (.int .i64 (slL ws id)) w) := by
  have hl := ok_len hu
  refine Sy.calls_of Sy.lv51 Sy.tab_ok Try.func51 rfl _ Try.ntmps51 [⟨u, 2, ws.length, ws.map enc2⟩, ⟨v, 2, ps.length, ps.map enc2⟩] [.agg [.row 0, .row 1], .c (.v (.int .i64 id))] rfl rfl rfl ⟨hu, hv, trivial⟩ ?_
  ((repeat' ((conv => whnf);(first|refine zA ?_|(refine zI ?_ ?_<;> intro hh<;> first|(exfalso;omega)|skip)|(refine zl ?_ ?_<;> intro hh)|refine zq ?_|refine zv ?_|refine zu ?_|exact Sy.fin_val fun e=>rfl)));(all_goals (try conv => whnf)))
  refine Sy.loop_inv Sy.tab_ok (fun n : Nat => [(5, .c (.v (.int .i64 n)))]) (fun n => []) (fun n => n ≤ ws.length ∧ ∀ q ∈ ws.take n, q.1 ≠ id) (fun n => ws.length - n) 0 ⟨Nat.zero_le _, fun q hq => by simp at hq⟩ ?_ (fun n hn => ?_)
  · ((repeat' (first|((conv => whnf);done)|((try conv => whnf);first|exact trivial|(refine And.intro ?_ ?_)|rfl|exact fun _ _ _ h=>h|exact fun _ _ _ _=>trivial)));(all_goals (try conv => whnf)))
  · obtain ⟨hn, hno⟩ := hn
    by_cases hlt : n < ws.length
    · have hgn := List.getElem?_eq_getElem hlt
      have hsn : ws.take (n + 1) = ws.take n ++ [ws[n]] := List.take_succ_eq_append_getElem hlt
      generalize ws[n] = p at *
      by_cases he : p.1 = id
      · rw [sl_hit hno hgn he]
        ((repeat' ((conv => whnf);(first|refine zA ?_|(refine zI ?_ ?_<;> intro hh<;> first|(exfalso;omega)|skip)|(refine zl ?_ ?_<;> intro hh)|refine zq ?_|refine zv ?_|refine zu ?_|exact Sy.fin_val fun e=>rfl)));(all_goals (try conv => whnf)))
        refine Sy.el_map p hgn ?_
        ((repeat' ((conv => whnf);(first|refine zA ?_|(refine zI ?_ ?_<;> intro hh<;> first|(exfalso;omega)|skip)|(refine zl ?_ ?_<;> intro hh)|refine zq ?_|refine zv ?_|refine zu ?_|exact Sy.fin_val fun e=>rfl)));(all_goals (try conv => whnf)))
        refine Sy.el_map p hgn ?_
        ((repeat' ((conv => whnf);(first|refine zA ?_|(refine zI ?_ ?_<;> intro hh<;> first|(exfalso;omega)|skip)|(refine zl ?_ ?_<;> intro hh)|refine zq ?_|refine zv ?_|refine zu ?_|exact Sy.fin_val fun e=>rfl)));(all_goals (try conv => whnf)))
        all_goals done
      · ((repeat' ((conv => whnf);(first|refine zA ?_|(refine zI ?_ ?_<;> intro hh<;> first|(exfalso;omega)|skip)|(refine zl ?_ ?_<;> intro hh)|refine zq ?_|refine zv ?_|refine zu ?_|exact Sy.fin_val fun e=>rfl)));(all_goals (try conv => whnf)))
        refine Sy.el_map p hgn ?_
        ((repeat' ((conv => whnf);(first|refine zA ?_|(refine zI ?_ ?_<;> intro hh<;> first|(exfalso;omega)|skip)|(refine zl ?_ ?_<;> intro hh)|refine zq ?_|refine zv ?_|refine zu ?_|exact Sy.fin_val fun e=>rfl)));(all_goals (try conv => whnf)))
        refine ⟨n + 1, ⟨by omega, fun q hq => ?_⟩, by omega, ?_⟩
        · rw [hsn] at hq
          rcases List.mem_append.1 hq with h | h
          · exact hno q h
          · rw [List.mem_singleton.1 h]; exact he
        · ((repeat' (first|((conv => whnf);done)|((try conv => whnf);first|exact trivial|(refine And.intro ?_ ?_)|rfl|exact fun _ _ _ h=>h|exact fun _ _ _ _=>trivial)));(all_goals (try conv => whnf)))
    · have e : n = ws.length := by omega
      rw [e, List.take_length] at hno
      rw [sl_miss hno]
      ((repeat' ((conv => whnf);(first|refine zA ?_|(refine zI ?_ ?_<;> intro hh<;> first|(exfalso;omega)|skip)|(refine zl ?_ ?_<;> intro hh)|refine zq ?_|refine zv ?_|refine zu ?_|exact Sy.fin_val fun e=>rfl)));(all_goals (try conv => whnf)))
      all_goals done
theorem rwhere_any (u v : Value) (ws ps : List (Int × Int)) (x : Int) (w : World) (ha : asc ps) (hu : XD.ok (fun b => b < w.heap.size) w ⟨u, 2, ws.length, ws.map enc2⟩) (hv : XD.ok (fun b => b < w.heap.size) w ⟨v, 2, ps.length, ps.map enc2⟩) :
    Calls Try.prog 24 #[.agg #[u, v], .int .i64 x] w (Sy.Ret (.int .i64 (whrR ps x)) w) := by
  have hl := ok_len hv
  refine Sy.calls_of Sy.lv24 Sy.tab_ok Try.func24 rfl _ Try.ntmps24 [⟨u, 2, ws.length, ws.map enc2⟩, ⟨v, 2, ps.length, ps.map enc2⟩] [.agg [.row 0, .row 1], .c (.v (.int .i64 x))] rfl rfl rfl ⟨hu, hv, trivial⟩ ?_
  ((repeat' ((conv => whnf);(first|refine zA ?_|(refine zI ?_ ?_<;> intro hh<;> first|(exfalso;omega)|skip)|(refine zl ?_ ?_<;> intro hh)|refine zq ?_|refine zv ?_|refine zu ?_|exact Sy.fin_val fun e=>rfl)));(all_goals (try conv => whnf)))
  refine Sy.loop_inv Sy.tab_ok (fun n : Nat => [(5, .c (.v (.int .i64 n)))]) (fun n => []) (fun n => n ≤ ps.length ∧ ∀ q ∈ ps.take n, q.1 ≠ x) (fun n => ps.length - n) 0 ⟨Nat.zero_le _, fun q hq => by simp at hq⟩ ?_ (fun n hn => ?_)
  · ((repeat' (first|((conv => whnf);done)|((try conv => whnf);first|exact trivial|(refine And.intro ?_ ?_)|rfl|exact fun _ _ _ h=>h|exact fun _ _ _ _=>trivial)));(all_goals (try conv => whnf)))
  · obtain ⟨hn, hno⟩ := hn
    by_cases hlt : n < ps.length
    · have hgn := List.getElem?_eq_getElem hlt
      have hsn : ps.take (n + 1) = ps.take n ++ [ps[n]] := List.take_succ_eq_append_getElem hlt
      generalize ps[n] = p at *
      by_cases he : p.1 = x
      · have hR : whrR ps x = p.2 := by unfold whrR; rw [whr_hit ha hgn he]
        rw [hR]
        ((repeat' ((conv => whnf);(first|refine zA ?_|(refine zI ?_ ?_<;> intro hh<;> first|(exfalso;omega)|skip)|(refine zl ?_ ?_<;> intro hh)|refine zq ?_|refine zv ?_|refine zu ?_|exact Sy.fin_val fun e=>rfl)));(all_goals (try conv => whnf)))
        refine Sy.el_map p hgn ?_
        ((repeat' ((conv => whnf);(first|refine zA ?_|(refine zI ?_ ?_<;> intro hh<;> first|(exfalso;omega)|skip)|(refine zl ?_ ?_<;> intro hh)|refine zq ?_|refine zv ?_|refine zu ?_|exact Sy.fin_val fun e=>rfl)));(all_goals (try conv => whnf)))
        refine Sy.el_map p hgn ?_
        ((repeat' ((conv => whnf);(first|refine zA ?_|(refine zI ?_ ?_<;> intro hh<;> first|(exfalso;omega)|skip)|(refine zl ?_ ?_<;> intro hh)|refine zq ?_|refine zv ?_|refine zu ?_|exact Sy.fin_val fun e=>rfl)));(all_goals (try conv => whnf)))
        all_goals done
      · ((repeat' ((conv => whnf);(first|refine zA ?_|(refine zI ?_ ?_<;> intro hh<;> first|(exfalso;omega)|skip)|(refine zl ?_ ?_<;> intro hh)|refine zq ?_|refine zv ?_|refine zu ?_|exact Sy.fin_val fun e=>rfl)));(all_goals (try conv => whnf)))
        refine Sy.el_map p hgn ?_
        ((repeat' ((conv => whnf);(first|refine zA ?_|(refine zI ?_ ?_<;> intro hh<;> first|(exfalso;omega)|skip)|(refine zl ?_ ?_<;> intro hh)|refine zq ?_|refine zv ?_|refine zu ?_|exact Sy.fin_val fun e=>rfl)));(all_goals (try conv => whnf)))
        refine ⟨n + 1, ⟨by omega, fun q hq => ?_⟩, by omega, ?_⟩
        · rw [hsn] at hq
          rcases List.mem_append.1 hq with h | h
          · exact hno q h
          · rw [List.mem_singleton.1 h]; exact he
        · ((repeat' (first|((conv => whnf);done)|((try conv => whnf);first|exact trivial|(refine And.intro ?_ ?_)|rfl|exact fun _ _ _ h=>h|exact fun _ _ _ _=>trivial)));(all_goals (try conv => whnf)))
    · have e : n = ps.length := by omega
      rw [e, List.take_length] at hno
      have hR : whrR ps x = 0 := by unfold whrR; rw [whr_miss hno]
      rw [hR]
      ((repeat' ((conv => whnf);(first|refine zA ?_|(refine zI ?_ ?_<;> intro hh<;> first|(exfalso;omega)|skip)|(refine zl ?_ ?_<;> intro hh)|refine zq ?_|refine zv ?_|refine zu ?_|exact Sy.fin_val fun e=>rfl)));(all_goals (try conv => whnf)))
      all_goals done
theorem rat_any (u v : Value) (ws ps : List (Int × Int)) (id : Int) (w : World) (hu : XD.ok (fun b => b < w.heap.size) w ⟨u, 2, ws.length, ws.map enc2⟩) (hv : XD.ok (fun b => b < w.heap.size) w ⟨v, 2, ps.length, ps.map enc2⟩) (hb : ps.length ≤ 1000) :
    Calls Try.prog 26 #[.agg #[u, v], .int .i64 id] w (Sy.RetRows Sy.noRow (fun _ : Unit => True) (fun _ => [⟨3, 1, (atL ps id).length, (atL ps id).map encI⟩]) (fun _ vs => vs.headD undef) w) := by
  refine Sy.calls_of Sy.lv26 Sy.tab_ok Try.func26 rfl _ Try.ntmps26 [⟨u, 2, ws.length, ws.map enc2⟩, ⟨v, 2, ps.length, ps.map enc2⟩] [.agg [.row 0, .row 1], .c (.v (.int .i64 id))] rfl rfl rfl ⟨hu, hv, trivial⟩ ?_
  ((repeat' ((conv => whnf);(first|refine zA ?_|(refine zI ?_ ?_<;> intro hh<;> first|(exfalso;omega)|skip)|(refine zl ?_ ?_<;> intro hh)|refine zq ?_|refine zv ?_|refine zu ?_|exact Sy.fin_val fun e=>rfl)));(all_goals (try conv => whnf)))
  refine Sy.sem_subF (Sy.sub_row 5 3 1 rfl) ?_
  conv => whnf
  refine Sy.loop_inv Sy.tab_ok (fun n : Nat => [(6, .c (.v (.int .i64 n))), (5, .c (.row 3))]) (fun n => [(3, .row 3 1 (atL (ps.take n) id).length (.vs ((atL (ps.take n) id).map encI)))]) (fun n => n ≤ ps.length) (fun n => ps.length - n) 0 (Nat.zero_le _) ?_ (fun n hn => ?_)
  · rw [List.take_zero, show atL [] id = [] by unfold atL; rfl]
    ((repeat' (first|((conv => whnf);done)|((try conv => whnf);first|exact trivial|(refine And.intro ?_ ?_)|rfl|exact fun _ _ _ h=>h|exact fun _ _ _ _=>trivial)));(all_goals (try conv => whnf)))
  · have hal := atL_len (ps.take n) id
    rw [List.length_take] at hal
    ((repeat' ((conv => whnf);(first|refine zA ?_|(refine zI ?_ ?_<;> intro hh<;> first|(exfalso;omega)|skip)|(refine zl ?_ ?_<;> intro hh)|refine zq ?_|refine zv ?_|refine zu ?_|exact Sy.fin_val fun e=>rfl)));(all_goals (try conv => whnf)))
    · have hlt : n < ps.length := by omega
      have hgn := List.getElem?_eq_getElem hlt
      generalize ps[n] = p at *
      have hs := atL_succ (id := id) hgn
      refine Sy.el_map p hgn ?_
      by_cases hp : p.2 = id
      · rw [if_pos hp] at hs
        ((repeat' ((conv => whnf);(first|refine zA ?_|(refine zI ?_ ?_<;> intro hh<;> first|(exfalso;omega)|skip)|(refine zl ?_ ?_<;> intro hh)|refine zq ?_|refine zv ?_|refine zu ?_|exact Sy.fin_val fun e=>rfl)));(all_goals (try conv => whnf)))
        refine Sy.el_map p hgn ?_
        ((repeat' ((conv => whnf);(first|refine zA ?_|(refine zI ?_ ?_<;> intro hh<;> first|(exfalso;omega)|skip)|(refine zl ?_ ?_<;> intro hh)|refine zq ?_|refine zv ?_|refine zu ?_|exact Sy.fin_val fun e=>rfl)));(all_goals (try conv => whnf)))
        refine Sy.need_of (by show ((atL (ps.take n) id).length + 1) * 8 ≤ _ ∧ _; omega) ?_
        ((repeat' ((conv => whnf);(first|refine zA ?_|(refine zI ?_ ?_<;> intro hh<;> first|(exfalso;omega)|skip)|(refine zl ?_ ?_<;> intro hh)|refine zq ?_|refine zv ?_|refine zu ?_|exact Sy.fin_val fun e=>rfl)));(all_goals (try conv => whnf)))
        have es : (atL (ps.take n) id).map encI ++ [[Value.int .i64 p.1]] = (atL (ps.take (n + 1)) id).map encI := by rw [hs, List.map_append]; rfl
        have el : (atL (ps.take n) id).length + 1 = (atL (ps.take (n + 1)) id).length := by rw [hs, List.length_append]; rfl
        rw [es, el]
        refine ⟨n + 1, by omega, by omega, ?_⟩
        ((repeat' (first|((conv => whnf);done)|((try conv => whnf);first|exact trivial|(refine And.intro ?_ ?_)|rfl|exact fun _ _ _ h=>h|exact fun _ _ _ _=>trivial)));(all_goals (try conv => whnf)))
      · rw [if_neg hp, List.append_nil] at hs
        ((repeat' ((conv => whnf);(first|refine zA ?_|(refine zI ?_ ?_<;> intro hh<;> first|(exfalso;omega)|skip)|(refine zl ?_ ?_<;> intro hh)|refine zq ?_|refine zv ?_|refine zu ?_|exact Sy.fin_val fun e=>rfl)));(all_goals (try conv => whnf)))
        refine ⟨n + 1, by omega, by omega, ?_⟩
        rw [hs]
        ((repeat' (first|((conv => whnf);done)|((try conv => whnf);first|exact trivial|(refine And.intro ?_ ?_)|rfl|exact fun _ _ _ h=>h|exact fun _ _ _ _=>trivial)));(all_goals (try conv => whnf)))
    · have e : n = ps.length := by omega
      rw [e, List.take_length]
      exact Sy.fin_r1 (.row 3) rfl
end Go.Proofs.Ytjhjmeajdebcbaa
