/- Slots: at, At, Where, Same. -/
import Derived.Test.YtjhjmeajdebcbaaSA
import Derived.Test.YtjhjmeajdebcbaaSH
namespace Go.Proofs.Ytjhjmeajdebcbaa
open Go Go.RowKit
open Sy (C SV V1 Blk St XD Els)
set_option maxRecDepth 10000

def atL (ps : List (Int × Int)) (id : Int) : List Int := (ps.filter fun p => decide (p.2 = id)).map Prod.fst
theorem atL_succ {ps : List (Int × Int)} {id : Int} {n : Nat} {p : Int × Int} (h : ps[n]? = some p) : atL (ps.take (n + 1)) id = atL (ps.take n) id ++ (if p.2 = id then [p.1] else []) := by
  obtain ⟨hn, he⟩ := List.getElem?_eq_some_iff.1 h
  unfold atL
  rw [List.take_succ_eq_append_getElem hn, he, List.filter_append, List.map_append]
  congr 1
  by_cases hp : p.2 = id
  · rw [if_pos hp, List.filter_cons, if_pos (decide_eq_true hp)]; rfl
  · rw [if_neg hp, List.filter_cons, if_neg (by simpa using hp)]; rfl
theorem atL_len (ps : List (Int × Int)) (id : Int) : (atL ps id).length ≤ ps.length := by
  unfold atL
  rw [List.length_map]
  exact List.length_filter_le _ _
def atV (ws ps : List (Int × Int)) (id : Int) : List Int := if FlOk ws ps then atL ps id else []
/-- Where a task lies: at no worker, or at one. -/
def whrL (ps : List (Int × Int)) (n : Int) : Int × Bool := match ps.find? (fun p => decide (p.1 = n)) with
  | some p => (p.2, true)
  | none => (0, false)
def whrV (ws ps : List (Int × Int)) (n : Int) : Int × Bool := if FlOk ws ps then whrL ps n else (0, false)
theorem whr_hit {ps : List (Int × Int)} {n : Int} {i : Nat} {p : Int × Int} (ha : asc ps) (h : ps[i]? = some p) (he : p.1 = n) : whrL ps n = (p.2, true) := by
  have : ps.find? (fun p => decide (p.1 = n)) = some p := by
    rw [List.find?_eq_some_iff_getElem]
    obtain ⟨hi, hg⟩ := List.getElem?_eq_some_iff.1 h
    refine ⟨decide_eq_true he, i, hi, hg, fun j hj => ?_⟩
    have := asc_lt ha (List.getElem?_eq_getElem (show j < ps.length by omega)) h hj
    simp; omega
  unfold whrL
  rw [this]
theorem whr_miss {ps : List (Int × Int)} {n : Int} (h : ∀ p ∈ ps, p.1 ≠ n) : whrL ps n = (0, false) := by
  have : ps.find? (fun p => decide (p.1 = n)) = none := List.find?_eq_none.2 fun p hp => by simpa using h p hp
  unfold whrL
  rw [this]
attribute [local irreducible] FlOk atL whrL
theorem at_any (u v : Value) (ws ps : List (Int × Int)) (id : Int) (w : World) (hu : XD.ok (fun b => b < w.heap.size) w ⟨u, 2, ws.length, ws.map enc2⟩) (hv : XD.ok (fun b => b < w.heap.size) w ⟨v, 2, ps.length, ps.map enc2⟩) (hb : ps.length ≤ 1000) :
    Calls Try.prog 49 #[.agg #[u, v], .int .i64 id] w (Sy.RetRows Sy.noRow (fun _ : Unit => True) (fun _ => [⟨3, 1, (atL ps id).length, (atL ps id).map encI⟩]) (fun _ vs => vs.headD undef) w) := by
  refine Sy.calls_of Sy.lv49 Sy.tab_ok Try.func49 rfl _ Try.ntmps49 [⟨u, 2, ws.length, ws.map enc2⟩, ⟨v, 2, ps.length, ps.map enc2⟩] [.agg [.row 0, .row 1], .c (.v (.int .i64 id))] rfl rfl rfl ⟨hu, hv, trivial⟩ ?_
  ((repeat' ((conv => whnf);(first|refine zA ?_|(refine zI ?_ ?_<;> intro hh<;> first|(exfalso;omega)|skip)|(refine zl ?_ ?_<;> intro hh)|refine zq ?_|refine zv ?_|refine zu ?_|exact Sy.fin_val fun e=>rfl)));(all_goals (try conv => whnf)))
  refine Sy.sem_subF (Sy.sub_row 5 3 1 rfl) ?_
  conv => whnf
  refine Sy.loop_inv Sy.tab_ok (fun n : Nat => [(11, .c (.v (.int .i64 n))), (5, .c (.row 3))]) (fun n => [(3, .row 3 1 (atL (ps.take n) id).length (.vs ((atL (ps.take n) id).map encI)))]) (fun n => n ≤ ps.length) (fun n => ps.length - n) 0 (Nat.zero_le _) ?_ (fun n hn => ?_)
  · rw [List.take_zero, show atL [] id = [] by unfold atL; rfl]
    ((repeat' (first|((conv => whnf);done)|((try conv => whnf);first|exact trivial|(refine And.intro ?_ ?_)|rfl|exact fun _ _ _ h=>h|exact fun _ _ _ _=>trivial)));(all_goals (try conv => whnf)))
  · have hal := atL_len (ps.take n) id
    rw [List.length_take] at hal
    ((repeat' ((conv => whnf);(first|refine zA ?_|(refine zI ?_ ?_<;> intro hh<;> first|(exfalso;omega)|skip)|(refine zl ?_ ?_<;> intro hh)|refine zq ?_|refine zv ?_|refine zu ?_|exact Sy.fin_val fun e=>rfl)));(all_goals (try conv => whnf)))
    · have hlt : n < ps.length := by omega
      have hgn := List.getElem?_eq_getElem hlt
      generalize ps[n] = p at *
      have hs := atL_succ (id := id) hgn
      refine Sy.el_map p hgn ?_
      by_cases hp : p.2 = id
      · rw [if_pos hp] at hs
        ((repeat' ((conv => whnf);(first|refine zA ?_|(refine zI ?_ ?_<;> intro hh<;> first|(exfalso;omega)|skip)|(refine zl ?_ ?_<;> intro hh)|refine zq ?_|refine zv ?_|refine zu ?_|exact Sy.fin_val fun e=>rfl)));(all_goals (try conv => whnf)))
        refine Sy.need_of (by show ((atL (ps.take n) id).length + 1) * 8 ≤ _ ∧ _; omega) ?_
        ((repeat' ((conv => whnf);(first|refine zA ?_|(refine zI ?_ ?_<;> intro hh<;> first|(exfalso;omega)|skip)|(refine zl ?_ ?_<;> intro hh)|refine zq ?_|refine zv ?_|refine zu ?_|exact Sy.fin_val fun e=>rfl)));(all_goals (try conv => whnf)))
        have es : (atL (ps.take n) id).map encI ++ [[Value.int .i64 p.1]] = (atL (ps.take (n + 1)) id).map encI := by rw [hs, List.map_append]; rfl
        have el : (atL (ps.take n) id).length + 1 = (atL (ps.take (n + 1)) id).length := by rw [hs, List.length_append]; rfl
        rw [es, el]
        refine ⟨n + 1, by omega, by omega, ?_⟩
        ((repeat' (first|((conv => whnf);done)|((try conv => whnf);first|exact trivial|(refine And.intro ?_ ?_)|rfl|exact fun _ _ _ h=>h|exact fun _ _ _ _=>trivial)));(all_goals (try conv => whnf)))
      · rw [if_neg hp, List.append_nil] at hs
        ((repeat' ((conv => whnf);(first|refine zA ?_|(refine zI ?_ ?_<;> intro hh<;> first|(exfalso;omega)|skip)|(refine zl ?_ ?_<;> intro hh)|refine zq ?_|refine zv ?_|refine zu ?_|exact Sy.fin_val fun e=>rfl)));(all_goals (try conv => whnf)))
        refine ⟨n + 1, by omega, by omega, ?_⟩
        rw [hs]
        ((repeat' (first|((conv => whnf);done)|((try conv => whnf);first|exact trivial|(refine And.intro ?_ ?_)|rfl|exact fun _ _ _ h=>h|exact fun _ _ _ _=>trivial)));(all_goals (try conv => whnf)))
    · have e : n = ps.length := by omega
      rw [e, List.take_length]
      exact Sy.fin_r1 (.row 3) rfl
theorem pat_any (u v : Value) (ws ps : List (Int × Int)) (id : Int) (w : World) (hu : XD.ok (fun b => b < w.heap.size) w ⟨u, 2, ws.length, ws.map enc2⟩) (hv : XD.ok (fun b => b < w.heap.size) w ⟨v, 2, ps.length, ps.map enc2⟩) (hb : ps.length ≤ 1000) :
    Calls Try.prog 12 #[.agg #[u, v], .int .i64 id] w (Sy.RetRows Sy.noRow (fun _ : Unit => True) (fun _ => [⟨3, 1, (atV ws ps id).length, (atV ws ps id).map encI⟩]) (fun _ vs => vs.headD undef) w) := by
  refine Sy.calls_of Sy.lv12 Sy.tab_ok Try.func12 rfl _ Try.ntmps12 [⟨u, 2, ws.length, ws.map enc2⟩, ⟨v, 2, ps.length, ps.map enc2⟩] [.agg [.row 0, .row 1], .c (.v (.int .i64 id))] rfl rfl rfl ⟨hu, hv, trivial⟩ ?_
  ((repeat' ((conv => whnf);(first|refine zA ?_|(refine zI ?_ ?_<;> intro hh<;> first|(exfalso;omega)|skip)|(refine zl ?_ ?_<;> intro hh)|refine zq ?_|refine zv ?_|refine zu ?_|exact Sy.fin_val fun e=>rfl)));(all_goals (try conv => whnf)))
  refine Sy.call_val (.c (.v (.int .i64 (chkE ws ps)))) Try.call20 rfl (fun e a w' h => check_any (e.rv 0) (e.rv 1) ws ps w' (Sy.row_reads h (.inr rfl)) (Sy.row_reads h (.inr rfl)) hb) ?_
  by_cases hok : FlOk ws ps
  · rw [show chkE ws ps = 0 from if_pos hok, show atV ws ps id = atL ps id from if_pos hok]
    ((repeat' ((conv => whnf);(first|refine zA ?_|(refine zI ?_ ?_<;> intro hh<;> first|(exfalso;omega)|skip)|(refine zl ?_ ?_<;> intro hh)|refine zq ?_|refine zv ?_|refine zu ?_|exact Sy.fin_val fun e=>rfl)));(all_goals (try conv => whnf)))
    refine Sy.call_r1 ⟨3, 1, (atL ps id).length, (atL ps id).map encI⟩ (fun j => .c (.row j)) Try.call49 (fun e a w' h => at_any (e.rv 0) (e.rv 1) ws ps id w' (Sy.row_reads h (.inr rfl)) (Sy.row_reads h (.inr rfl)) hb) ?_
    ((repeat' ((conv => whnf);(first|refine zA ?_|(refine zI ?_ ?_<;> intro hh<;> first|(exfalso;omega)|skip)|(refine zl ?_ ?_<;> intro hh)|refine zq ?_|refine zv ?_|refine zu ?_|exact Sy.fin_val fun e=>rfl)));(all_goals (try conv => whnf)))
    exact Sy.fin_r1 (.row 3) rfl
  · rw [show chkE ws ps = 210 from if_neg hok, show atV ws ps id = [] from if_neg hok]
    ((repeat' ((conv => whnf);(first|refine zA ?_|(refine zI ?_ ?_<;> intro hh<;> first|(exfalso;omega)|skip)|(refine zl ?_ ?_<;> intro hh)|refine zq ?_|refine zv ?_|refine zu ?_|exact Sy.fin_val fun e=>rfl)));(all_goals (try conv => whnf)))
    exact Sy.fin_r1 (.v (.slice none 0 0)) ⟨rfl, rfl⟩
theorem where_any (u v : Value) (ws ps : List (Int × Int)) (n : Int) (w : World) (hu : XD.ok (fun b => b < w.heap.size) w ⟨u, 2, ws.length, ws.map enc2⟩) (hv : XD.ok (fun b => b < w.heap.size) w ⟨v, 2, ps.length, ps.map enc2⟩) (hb : ps.length ≤ 1000) :
    Calls Try.prog 21 #[.agg #[u, v], .int .i64 n] w (Sy.Ret (.tuple #[.int .i64 (whrV ws ps n).1, .bool (whrV ws ps n).2]) w) := by
  refine Sy.calls_of Sy.lv21 Sy.tab_ok Try.func21 rfl _ Try.ntmps21 [⟨u, 2, ws.length, ws.map enc2⟩, ⟨v, 2, ps.length, ps.map enc2⟩] [.agg [.row 0, .row 1], .c (.v (.int .i64 n))] rfl rfl rfl ⟨hu, hv, trivial⟩ ?_
  ((repeat' ((conv => whnf);(first|refine zA ?_|(refine zI ?_ ?_<;> intro hh<;> first|(exfalso;omega)|skip)|(refine zl ?_ ?_<;> intro hh)|refine zq ?_|refine zv ?_|refine zu ?_|exact Sy.fin_val fun e=>rfl)));(all_goals (try conv => whnf)))
  refine Sy.call_ex (srchP ps n) (fun x => .tup [.c (.v (.int .i64 x.1)), .c (.v (.bool x.2))]) Try.call47 (fun _ _ => rfl) (fun e a w' h => place_any (e.rv 0) (e.rv 1) ws ps n w' (Sy.row_reads h (.inr rfl)) (Sy.row_reads h (.inr rfl)) (by omega)) (fun r hr => ?_)
  obtain ⟨i, there⟩ := r
  obtain ⟨hr1, hr2, hr3⟩ := hr
  dsimp only at hr1 hr2 hr3
  cases there with
  | false =>
    have hV : whrV ws ps n = (0, false) := by
      unfold whrV
      split
      · rename_i hok
        have ha : asc ps := by unfold FlOk at hok; exact hok.2.1.2
        exact whr_miss ((hr3 ha).2.2 rfl)
      · rfl
    rw [hV]
    ((repeat' ((conv => whnf);(first|refine zA ?_|(refine zI ?_ ?_<;> intro hh<;> first|(exfalso;omega)|skip)|(refine zl ?_ ?_<;> intro hh)|refine zq ?_|refine zv ?_|refine zu ?_|exact Sy.fin_val fun e=>rfl)));(all_goals (try conv => whnf)))
    all_goals done
  | true =>
    obtain ⟨p, hp, he⟩ := hr2 rfl
    clear hr2
    ((repeat' ((conv => whnf);(first|refine zA ?_|(refine zI ?_ ?_<;> intro hh<;> first|(exfalso;omega)|skip)|(refine zl ?_ ?_<;> intro hh)|refine zq ?_|refine zv ?_|refine zu ?_|exact Sy.fin_val fun e=>rfl)));(all_goals (try conv => whnf)))
    refine Sy.call_val (.c (.v (.int .i64 (chkE ws ps)))) Try.call20 rfl (fun e a w' h => check_any (e.rv 0) (e.rv 1) ws ps w' (Sy.row_reads h (.inr rfl)) (Sy.row_reads h (.inr rfl)) hb) ?_
    by_cases hok : FlOk ws ps
    · have ha : asc ps := by unfold FlOk at hok; exact hok.2.1.2
      have hV : whrV ws ps n = (p.2, true) := by unfold whrV; rw [if_pos hok]; exact whr_hit ha hp he
      have hil := (List.getElem?_eq_some_iff.1 hp).1
      rw [show chkE ws ps = 0 from if_pos hok, hV]
      ((repeat' ((conv => whnf);(first|refine zA ?_|(refine zI ?_ ?_<;> intro hh<;> first|(exfalso;omega)|skip)|(refine zl ?_ ?_<;> intro hh)|refine zq ?_|refine zv ?_|refine zu ?_|exact Sy.fin_val fun e=>rfl)));(all_goals (try conv => whnf)))
      refine Sy.el_map p hp ?_
      ((repeat' ((conv => whnf);(first|refine zA ?_|(refine zI ?_ ?_<;> intro hh<;> first|(exfalso;omega)|skip)|(refine zl ?_ ?_<;> intro hh)|refine zq ?_|refine zv ?_|refine zu ?_|exact Sy.fin_val fun e=>rfl)));(all_goals (try conv => whnf)))
      all_goals done
    · rw [show chkE ws ps = 210 from if_neg hok, show whrV ws ps n = (0, false) from if_neg hok]
      ((repeat' ((conv => whnf);(first|refine zA ?_|(refine zI ?_ ?_<;> intro hh<;> first|(exfalso;omega)|skip)|(refine zl ?_ ?_<;> intro hh)|refine zq ?_|refine zv ?_|refine zu ?_|exact Sy.fin_val fun e=>rfl)));(all_goals (try conv => whnf)))
      all_goals done
theorem psame_any (u v u' v' : Value) (ws ps ws' ps' : List (Int × Int)) (w : World) (hu : XD.ok (fun b => b < w.heap.size) w ⟨u, 2, ws.length, ws.map enc2⟩) (hv : XD.ok (fun b => b < w.heap.size) w ⟨v, 2, ps.length, ps.map enc2⟩) (hu' : XD.ok (fun b => b < w.heap.size) w ⟨u', 2, ws'.length, ws'.map enc2⟩) (hv' : XD.ok (fun b => b < w.heap.size) w ⟨v', 2, ps'.length, ps'.map enc2⟩) :
    Calls Try.prog 23 #[.agg #[u, v], .agg #[u', v']] w (Sy.Ret (.bool (decide (ws = ws' ∧ ps = ps'))) w) := by
  refine Sy.calls_of Sy.lv23 Sy.tab_ok Try.func23 rfl _ Try.ntmps23 [⟨u, 2, ws.length, ws.map enc2⟩, ⟨v, 2, ps.length, ps.map enc2⟩, ⟨u', 2, ws'.length, ws'.map enc2⟩, ⟨v', 2, ps'.length, ps'.map enc2⟩] [.agg [.row 0, .row 1], .agg [.row 2, .row 3]] rfl rfl rfl ⟨hu, hv, hu', hv', trivial⟩ ?_
  ((repeat' ((conv => whnf);(first|refine zA ?_|(refine zI ?_ ?_<;> intro hh<;> first|(exfalso;omega)|skip)|(refine zl ?_ ?_<;> intro hh)|refine zq ?_|refine zv ?_|refine zu ?_|exact Sy.fin_val fun e=>rfl)));(all_goals (try conv => whnf)))
  refine Sy.call_val (.c (.v (.bool (decide (ws = ws'))))) Try.call57 rfl (fun e a w' h => equalW_any (e.rv 0) (e.rv 2) ws ws' w' (Sy.row_reads h (.inr rfl)) (Sy.row_reads h (.inr rfl))) ?_
  by_cases h1 : ws = ws'
  · rw [decide_eq_true h1]
    ((repeat' ((conv => whnf);(first|refine zA ?_|(refine zI ?_ ?_<;> intro hh<;> first|(exfalso;omega)|skip)|(refine zl ?_ ?_<;> intro hh)|refine zq ?_|refine zv ?_|refine zu ?_|exact Sy.fin_val fun e=>rfl)));(all_goals (try conv => whnf)))
    refine Sy.call_val (.c (.v (.bool (decide (ps = ps'))))) Try.call58 rfl (fun e a w' h => equalP_any (e.rv 1) (e.rv 3) ps ps' w' (Sy.row_reads h (.inr rfl)) (Sy.row_reads h (.inr rfl))) ?_
    ((repeat' ((conv => whnf);(first|refine zA ?_|(refine zI ?_ ?_<;> intro hh<;> first|(exfalso;omega)|skip)|(refine zl ?_ ?_<;> intro hh)|refine zq ?_|refine zv ?_|refine zu ?_|exact Sy.fin_val fun e=>rfl)));(all_goals (try conv => whnf)))
    exact Sy.fin_val (fun e => congrArg Value.bool (by simp [h1]))
  · rw [decide_eq_false h1, decide_eq_false (fun h => h1 h.1)]
    ((repeat' ((conv => whnf);(first|refine zA ?_|(refine zI ?_ ?_<;> intro hh<;> first|(exfalso;omega)|skip)|(refine zl ?_ ?_<;> intro hh)|refine zq ?_|refine zv ?_|refine zu ?_|exact Sy.fin_val fun e=>rfl)));(all_goals (try conv => whnf)))
    all_goals done
end Go.Proofs.Ytjhjmeajdebcbaa
