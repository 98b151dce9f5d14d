/- Slots: the document's count and Take. -/
import Derived.Test.YtjhjmeajdebcbaaSY
import Derived.Test.YtjhjmeajdebcbaaSO
import Derived.Test.YtjhjmeajdebcbaaSBe
namespace Go.Proofs.Ytjhjmeajdebcbaa
open Go Go.RowKit
open Sy (C SV V1 Blk St XD Els)
set_option maxRecDepth 10000

theorem count_any (u : Value) (ts : List Int) (x : Int) (w : World) (hx : XD.ok (fun b => b < w.heap.size) w ⟨u, 1, ts.length, ts.map encI⟩) (hb : ts.length ≤ 1000) :
    Calls Try.prog 50 #[u, .int .i64 x] w (Sy.Ret (.int .i64 (ts.count x : Nat)) w) := by
  refine Sy.calls_of Sy.lv50 Sy.tab_ok Try.func50 rfl _ Try.ntmps50 [⟨u, 1, ts.length, ts.map encI⟩] [.c (.row 0), .c (.v (.int .i64 x))] rfl rfl rfl ⟨hx, trivial⟩ ?_
  ((repeat' ((conv => whnf);(first|refine zA ?_|(refine zI ?_ ?_<;> intro hh<;> first|(exfalso;omega)|skip)|(refine zl ?_ ?_<;> intro hh)|refine zq ?_|refine zv ?_|refine zu ?_|exact Sy.fin_val fun e=>rfl)));(all_goals (try conv => whnf)))
  refine Sy.loop_inv Sy.tab_ok (fun n : Nat => [(6, .c (.v (.int .i64 n))), (5, .c (.v (.int .i64 ((ts.take n).count x : Nat))))]) (fun n => []) (fun n => n ≤ ts.length) (fun n => ts.length - n) 0 (Nat.zero_le _) ?_ (fun n hn => ?_)
  · ((repeat' (first|((conv => whnf);done)|((try conv => whnf);first|exact trivial|(refine And.intro ?_ ?_)|rfl|exact fun _ _ _ h=>h|exact fun _ _ _ _=>trivial)));(all_goals (try conv => whnf)))
  · have hcl := List.count_le_length (a := x) (l := ts.take n)
    rw [List.length_take] at hcl
    ((repeat' ((conv => whnf);(first|refine zA ?_|(refine zI ?_ ?_<;> intro hh<;> first|(exfalso;omega)|skip)|(refine zl ?_ ?_<;> intro hh)|refine zq ?_|refine zv ?_|refine zu ?_|exact Sy.fin_val fun e=>rfl)));(all_goals (try conv => whnf)))
    · have hlt : n < ts.length := by omega
      have hgn := List.getElem?_eq_getElem hlt
      generalize ts[n] = t at *
      have hst := count_take (t := x) hgn
      refine Sy.el_map t hgn ?_
      by_cases ht : t = x
      · rw [if_pos ht] at hst
        ((repeat' ((conv => whnf);(first|refine zA ?_|(refine zI ?_ ?_<;> intro hh<;> first|(exfalso;omega)|skip)|(refine zl ?_ ?_<;> intro hh)|refine zq ?_|refine zv ?_|refine zu ?_|exact Sy.fin_val fun e=>rfl)));(all_goals (try conv => whnf)))
        refine ⟨n + 1, by omega, by omega, ?_⟩
        rw [hst]
        ((repeat' (first|((conv => whnf);done)|((try conv => whnf);first|exact trivial|(refine And.intro ?_ ?_)|rfl|exact fun _ _ _ h=>h|exact fun _ _ _ _=>trivial)));(all_goals (try conv => whnf)))
      · rw [if_neg ht] at hst
        ((repeat' ((conv => whnf);(first|refine zA ?_|(refine zI ?_ ?_<;> intro hh<;> first|(exfalso;omega)|skip)|(refine zl ?_ ?_<;> intro hh)|refine zq ?_|refine zv ?_|refine zu ?_|exact Sy.fin_val fun e=>rfl)));(all_goals (try conv => whnf)))
        refine ⟨n + 1, by omega, by omega, ?_⟩
        rw [hst]
        ((repeat' (first|((conv => whnf);done)|((try conv => whnf);first|exact trivial|(refine And.intro ?_ ?_)|rfl|exact fun _ _ _ h=>h|exact fun _ _ _ _=>trivial)));(all_goals (try conv => whnf)))
    · have e : n = ts.length := by omega
      rw [e, List.take_length]
      ((repeat' ((conv => whnf);(first|refine zA ?_|(refine zI ?_ ?_<;> intro hh<;> first|(exfalso;omega)|skip)|(refine zl ?_ ?_<;> intro hh)|refine zq ?_|refine zv ?_|refine zu ?_|exact Sy.fin_val fun e=>rfl)));(all_goals (try conv => whnf)))
      all_goals done
theorem takeE_ok {ws ps : List (Int × Int)} {ts : List Int} (h : takeE ws ps ts = 0) : FlOk ws ps ∧ TkOk ps ts := by
  unfold takeE at h
  split at h
  · split at h
    · exact ⟨by assumption, by assumption⟩
    · cases h
  · cases h
theorem filt_succ2 {ps : List (Int × Int)} {f : Int × Int → Bool} {n : Nat} {p : Int × Int} (h : ps[n]? = some p) : (ps.take (n + 1)).filter f = (ps.take n).filter f ++ (if f p = true then [p] else []) := by
  obtain ⟨hl, he⟩ := List.getElem?_eq_some_iff.1 h
  rw [List.take_succ_eq_append_getElem hl, he, List.filter_append, List.filter_cons, List.filter_nil]
def rtakeC (ws ps : List (Int × Int)) (ts : List Int) : Sy.Ctr Unit := { avs := [.agg [.row 0, .row 1], .c (.row 2)], n0 := 3, H0 := [(0, .ext 2 ws.length (.vs (ws.map enc2))), (1, .ext 2 ps.length (.vs (ps.map enc2))), (2, .ext 1 ts.length (.vs (ts.map encI)))], sv := fun _ => .tup [.agg [.row 0, .row 3], .c (.v (.int .i64 0))], n1 := fun _ => 4, H1 := fun _ => [(3, .row 67 2 (delL (takenB ts) ps).length (.vs ((delL (takenB ts) ps).map enc2)))] }
attribute [local irreducible] FlOk slL okW atL
set_option maxHeartbeats 1000000 in
theorem rtake_does (ws ps : List (Int × Int)) (ts : List Int) (hb : ts.length ≤ 1000) (h0 : takeE ws ps ts = 0) : Sy.Does Try.prog 17 (rtakeC ws ps ts) := by
  obtain ⟨hok, hnd, hin⟩ := takeE_ok h0
  obtain ⟨hwl, hpl⟩ := ok_lens hok
  have ha : asc ps := by unfold FlOk at hok; exact hok.2.1.2
  refine Sy.does_of Sy.lv17 Sy.tab_ok Try.func17 rfl _ Try.ntmps17 _ rfl rfl (fun e0 w hpre => ?_)
  ((repeat' ((conv => whnf);(first|refine zA ?_|(refine zI ?_ ?_<;> intro hh<;> first|(exfalso;omega)|skip)|(refine zl ?_ ?_<;> intro hh)|refine zq ?_|refine zv ?_|refine zu ?_|exact Sy.fin_val fun e=>rfl)));(all_goals (try conv => whnf)))
  refine Sy.call_val (.c (.v (.bool true))) Try.call19 rfl (fun e a w' h => by have := rright_any (e.rv 0) (e.rv 1) ws ps w' (Sy.row_reads h (.inr rfl)) (Sy.row_reads h (.inr rfl)) (by omega); rw [decide_eq_true hok] at this; exact this) ?_
  ((repeat' ((conv => whnf);(first|refine zA ?_|(refine zI ?_ ?_<;> intro hh<;> first|(exfalso;omega)|skip)|(refine zl ?_ ?_<;> intro hh)|refine zq ?_|refine zv ?_|refine zu ?_|exact Sy.fin_val fun e=>rfl)));(all_goals (try conv => whnf)))
  refine Sy.loop_inv Sy.tab_ok (fun n : Nat => [(6, .c (.v (.int .i64 n)))]) (fun n => []) (fun n => n ≤ ts.length) (fun n => ts.length - n) 0 (Nat.zero_le _) ?_ (fun n hn => ?_)
  · ((repeat' (first|((conv => whnf);done)|((try conv => whnf);first|exact trivial|(refine And.intro ?_ ?_)|rfl|exact fun _ _ _ h=>h|exact fun _ _ _ _=>trivial)));(all_goals (try conv => whnf)))
  · ((repeat' ((conv => whnf);(first|refine zA ?_|(refine zI ?_ ?_<;> intro hh<;> first|(exfalso;omega)|skip)|(refine zl ?_ ?_<;> intro hh)|refine zq ?_|refine zv ?_|refine zu ?_|exact Sy.fin_val fun e=>rfl)));(all_goals (try conv => whnf)))
    · have hlt : n < ts.length := by omega
      have hgn := List.getElem?_eq_getElem hlt
      have hm := List.getElem_mem hlt
      have hcn := nodup_count.1 hnd _ hm
      have hhw := hin _ hm
      generalize ts[n] = t at *
      obtain ⟨c, hc⟩ : ∃ c, whrR ps t = c := ⟨_, rfl⟩
      have hc0 : (c == 0) = false := by
        rcases whr_ok hok t with ⟨_, h⟩ | ⟨h, _⟩
        · obtain ⟨p, hp, he⟩ := hhw
          exact absurd he (h p hp)
        · exact beq_false_of_ne (by omega)
      have hcf : decide ((1 : Int) < (ts.count t : Nat)) = false := decide_eq_false (by omega)
      refine Sy.draw_go [] (by kernel_rfl) ?_
      intro e0
      conv => whnf
      refine zt 0 rfl ?_
      conv => whnf
      refine zt 1 rfl ?_
      conv => whnf
      refine zt 2 rfl ?_
      conv => whnf
      refine zt 3 rfl ?_
      (conv => whnf);(repeat' ((first|refine zA ?_|(refine zI ?_ ?_<;> intro hh<;> first|(exfalso;omega)|skip)|(refine zl ?_ ?_<;> intro hh)|refine zq ?_|refine zv ?_|refine zu ?_|exact Sy.fin_val fun e=>rfl);(try conv => whnf)))
      refine zt 4 rfl ?_
      conv => whnf
      refine Sy.el_map t hgn ?_
      conv => whnf
      refine zd1 [5] (zx rfl ?_ zy)
      conv => whnf
      refine Sy.call_val (.c (.v (.int .i64 (ts.count t : Nat)))) Try.call50 rfl (fun e a w' h => count_any (e.rv 2) ts t w' (Sy.row_reads h (.inr rfl)) hb) ?_
      conv => whnf
      refine ⟨(by repeat' ((conv => whnf);first|exact trivial|(refine And.intro ?_ ?_)|rfl)), ?_⟩
      refine zt 6 rfl ?_
      (conv => whnf);(repeat' ((first|refine zA ?_|(refine zI ?_ ?_<;> intro hh<;> first|(exfalso;omega)|skip)|(refine zl ?_ ?_<;> intro hh)|refine zq ?_|refine zv ?_|refine zu ?_|exact Sy.fin_val fun e=>rfl);(try conv => whnf)))
      refine zt 7 rfl ?_
      conv => whnf
      refine zt 8 rfl ?_
      (conv => whnf);(repeat' ((first|refine zA ?_|(refine zI ?_ ?_<;> intro hh<;> first|(exfalso;omega)|skip)|(refine zl ?_ ?_<;> intro hh)|refine zq ?_|refine zv ?_|refine zu ?_|exact Sy.fin_val fun e=>rfl);(try conv => whnf)))
      refine zt 9 rfl ?_
      (conv => whnf);(repeat' ((first|refine zA ?_|(refine zI ?_ ?_<;> intro hh<;> first|(exfalso;omega)|skip)|(refine zl ?_ ?_<;> intro hh)|refine zq ?_|refine zv ?_|refine zu ?_|exact Sy.fin_val fun e=>rfl);(try conv => whnf)))
      refine zt 10 rfl ?_
      (conv => whnf);(repeat' ((first|refine zA ?_|(refine zI ?_ ?_<;> intro hh<;> first|(exfalso;omega)|skip)|(refine zl ?_ ?_<;> intro hh)|refine zq ?_|refine zv ?_|refine zu ?_|exact Sy.fin_val fun e=>rfl);(try conv => whnf)))
      refine zt 11 rfl ?_
      (conv => whnf);(repeat' ((first|refine zA ?_|(refine zI ?_ ?_<;> intro hh<;> first|(exfalso;omega)|skip)|(refine zl ?_ ?_<;> intro hh)|refine zq ?_|refine zv ?_|refine zu ?_|exact Sy.fin_val fun e=>rfl);(try conv => whnf)))
      refine zt 12 rfl ?_
      (conv => whnf);(repeat' ((first|refine zA ?_|(refine zI ?_ ?_<;> intro hh<;> first|(exfalso;omega)|skip)|(refine zl ?_ ?_<;> intro hh)|refine zq ?_|refine zv ?_|refine zu ?_|exact Sy.fin_val fun e=>rfl);(try conv => whnf)))
      refine Sy.el_map t hgn ?_
      conv => whnf
      refine zd1 [13] (zx rfl ?_ zy)
      conv => whnf
      (refine zA ?_;conv => whnf)
      refine Sy.call_val (.c (.v (.int .i64 c))) Try.call24 rfl (fun e a w' h => by have := rwhere_any (e.rv 0) (e.rv 1) ws ps t w' ha (Sy.row_reads h (.inr rfl)) (Sy.row_reads h (.inr rfl)); rw [hc] at this; exact this) ?_
      conv => whnf
      refine ⟨(by repeat' ((conv => whnf);first|exact trivial|(refine And.intro ?_ ?_)|rfl)), ?_⟩
      refine zt 14 rfl ?_
      (conv => whnf);(repeat' ((first|refine zA ?_|(refine zI ?_ ?_<;> intro hh<;> first|(exfalso;omega)|skip)|(refine zl ?_ ?_<;> intro hh)|refine zq ?_|refine zv ?_|refine zu ?_|exact Sy.fin_val fun e=>rfl);(try conv => whnf)))
      refine zt 15 rfl ?_
      (conv => whnf);(repeat' ((first|refine zA ?_|(refine zI ?_ ?_<;> intro hh<;> first|(exfalso;omega)|skip)|(refine zl ?_ ?_<;> intro hh)|refine zq ?_|refine zv ?_|refine zu ?_|exact Sy.fin_val fun e=>rfl);(try conv => whnf)))
      refine zw ?_
      skip
      all_goals (((repeat' ((conv => whnf);(first|refine zA ?_|(refine zI ?_ ?_<;> intro hh<;> first|(exfalso;omega)|skip)|(refine zl ?_ ?_<;> intro hh)|refine zq ?_|refine zv ?_|refine zu ?_|exact Sy.fin_val fun e=>rfl)));(all_goals (try conv => whnf))))
      all_goals (refine ⟨n + 1, by omega, by omega, ?_⟩)
      all_goals (((repeat' (first|((conv => whnf);done)|((try conv => whnf);first|exact trivial|(refine And.intro ?_ ?_)|rfl|exact fun _ _ _ h=>h|exact fun _ _ _ _=>trivial)));(all_goals (try conv => whnf))))
    · refine Sy.sem_subF (Sy.sub_rowc 5 1 67 2 rfl rfl) ?_
      conv => whnf
      obtain ⟨D, hD⟩ : ∃ D : Nat → List (Int × Int), D = fun n => (ps.take n).filter fun p => !takenB ts p := ⟨_, rfl⟩
      have hDl : ∀ n, (D n).length ≤ 16 := fun n => by
        rw [hD]
        have := List.length_filter_le (fun p : Int × Int => !takenB ts p) (ps.take n)
        rw [List.length_take] at this
        dsimp only; omega
      refine Sy.loop_inv Sy.tab_ok (fun n : Nat => [(8, .c (.v (.int .i64 n)))]) (fun n => [(5, .cells 26 [.row 0, .row 6]), (6, .row 67 2 (D n).length (.vs ((D n).map enc2)))]) (fun n => n ≤ ps.length) (fun n => ps.length - n) 0 (Nat.zero_le _) ?_ (fun m hm => ?_)
      · rw [show D 0 = [] by rw [hD]; rfl]
        ((repeat' (first|((conv => whnf);done)|((try conv => whnf);first|exact trivial|(refine And.intro ?_ ?_)|rfl|exact fun _ _ _ h=>h|exact fun _ _ _ _=>trivial)));(all_goals (try conv => whnf)))
      · have hD1 := hDl m
        by_cases hlt : m < ps.length
        · have hgn := List.getElem?_eq_getElem hlt
          have hst := filt_succ2 (f := fun p => !takenB ts p) hgn
          generalize ps[m] = p at *
          by_cases hp : p.1 ∈ ts
          · have hcp : 0 < ts.count p.1 := List.count_pos_iff.2 hp
            obtain ⟨c, hc⟩ : ∃ c : Nat, ts.count p.1 = c := ⟨_, rfl⟩
            rw [hc] at hcp
            ((repeat' ((conv => whnf);(first|refine zA ?_|(refine zI ?_ ?_<;> intro hh<;> first|(exfalso;omega)|skip)|(refine zl ?_ ?_<;> intro hh)|refine zq ?_|refine zv ?_|refine zu ?_|exact Sy.fin_val fun e=>rfl)));(all_goals (try conv => whnf)))
            refine Sy.el_map p hgn ?_
            ((repeat' ((conv => whnf);(first|refine zA ?_|(refine zI ?_ ?_<;> intro hh<;> first|(exfalso;omega)|skip)|(refine zl ?_ ?_<;> intro hh)|refine zq ?_|refine zv ?_|refine zu ?_|exact Sy.fin_val fun e=>rfl)));(all_goals (try conv => whnf)))
            refine Sy.call_val (.c (.v (.int .i64 c))) Try.call50 rfl (fun e a w' h => by have := count_any (e.rv 2) ts p.1 w' (Sy.row_reads h (.inr rfl)) hb; rw [hc] at this; exact this) ?_
            ((repeat' ((conv => whnf);(first|refine zA ?_|(refine zI ?_ ?_<;> intro hh<;> first|(exfalso;omega)|skip)|(refine zl ?_ ?_<;> intro hh)|refine zq ?_|refine zv ?_|refine zu ?_|exact Sy.fin_val fun e=>rfl)));(all_goals (try conv => whnf)))
            have : D (m + 1) = D m := by rw [hD]; dsimp only; rw [hst, if_neg (by unfold takenB; simpa using hp), List.append_nil]
            refine ⟨m + 1, by omega, by omega, ?_⟩
            rw [this]
            ((repeat' (first|((conv => whnf);done)|((try conv => whnf);first|exact trivial|(refine And.intro ?_ ?_)|rfl|exact fun _ _ _ h=>h|exact fun _ _ _ _=>trivial)));(all_goals (try conv => whnf)))
          · have hc : ts.count p.1 = 0 := List.count_eq_zero.2 hp
            ((repeat' ((conv => whnf);(first|refine zA ?_|(refine zI ?_ ?_<;> intro hh<;> first|(exfalso;omega)|skip)|(refine zl ?_ ?_<;> intro hh)|refine zq ?_|refine zv ?_|refine zu ?_|exact Sy.fin_val fun e=>rfl)));(all_goals (try conv => whnf)))
            refine Sy.el_map p hgn ?_
            ((repeat' ((conv => whnf);(first|refine zA ?_|(refine zI ?_ ?_<;> intro hh<;> first|(exfalso;omega)|skip)|(refine zl ?_ ?_<;> intro hh)|refine zq ?_|refine zv ?_|refine zu ?_|exact Sy.fin_val fun e=>rfl)));(all_goals (try conv => whnf)))
            refine Sy.call_val (.c (.v (.int .i64 0))) Try.call50 rfl (fun e a w' h => by have := count_any (e.rv 2) ts p.1 w' (Sy.row_reads h (.inr rfl)) hb; rw [hc] at this; exact this) ?_
            ((repeat' ((conv => whnf);(first|refine zA ?_|(refine zI ?_ ?_<;> intro hh<;> first|(exfalso;omega)|skip)|(refine zl ?_ ?_<;> intro hh)|refine zq ?_|refine zv ?_|refine zu ?_|exact Sy.fin_val fun e=>rfl)));(all_goals (try conv => whnf)))
            refine Sy.draw_go [5,6] (by kernel_rfl) ?_
            intro e0
            conv => whnf
            refine zt 0 rfl ?_
            conv => whnf
            refine zt 2 rfl ?_
            conv => whnf
            refine zt 3 rfl ?_
            conv => whnf
            refine zt 4 rfl ?_
            conv => whnf
            refine zt 5 rfl ?_
            (conv => whnf);(repeat' ((first|refine zA ?_|(refine zI ?_ ?_<;> intro hh<;> first|(exfalso;omega)|skip)|(refine zl ?_ ?_<;> intro hh)|refine zq ?_|refine zv ?_|refine zu ?_|exact Sy.fin_val fun e=>rfl);(try conv => whnf)))
            refine zt 6 rfl ?_
            conv => whnf
            refine Sy.el_map p hgn ?_
            conv => whnf
            focus
              refine zd1 [1, 7] (zx rfl ?_ (zx rfl ?_ zy))
              focus
                conv => whnf
                refine ⟨(by repeat' ((conv => whnf);first|exact trivial|(refine And.intro ?_ ?_)|rfl)), ?_⟩
                refine zd1 [7] (zx rfl ?_ zy)
                conv => whnf
                refine ⟨(by repeat' ((conv => whnf);first|exact trivial|(refine And.intro ?_ ?_)|rfl)), ?_⟩
                refine zd1 [8] (zx rfl ?_ zy)
                conv => whnf
                refine Sy.need_of (by show ((D m).length + 1) * 16 ≤ _ ∧ _; omega) ?_
                conv => whnf
                refine ⟨(by repeat' ((conv => whnf);first|exact trivial|(refine And.intro ?_ ?_)|rfl)), ?_⟩
                refine zt 9 rfl ?_
                conv => whnf
                refine zd1 [10] (zx rfl ?_ zy)
                conv => whnf
                refine ⟨(by repeat' ((conv => whnf);first|exact trivial|(refine And.intro ?_ ?_)|rfl)), ?_⟩
                refine zw ?_
                skip
              rotate_right
              focus
                conv => whnf
                refine ⟨(by repeat' ((conv => whnf);first|exact trivial|(refine And.intro ?_ ?_)|rfl)), ?_⟩
                refine zd1 [1] (zx rfl ?_ zy)
                conv => whnf
                refine ⟨(by repeat' ((conv => whnf);first|exact trivial|(refine And.intro ?_ ?_)|rfl)), ?_⟩
                refine zd1 [8] (zx rfl ?_ zy)
                conv => whnf
                refine Sy.need_of (by show ((D m).length + 1) * 16 ≤ _ ∧ _; omega) ?_
                conv => whnf
                refine ⟨(by repeat' ((conv => whnf);first|exact trivial|(refine And.intro ?_ ?_)|rfl)), ?_⟩
                refine zt 9 rfl ?_
                conv => whnf
                refine zd1 [10] (zx rfl ?_ zy)
                conv => whnf
                refine ⟨(by repeat' ((conv => whnf);first|exact trivial|(refine And.intro ?_ ?_)|rfl)), ?_⟩
                refine zw ?_
                skip
            all_goals (((repeat' ((conv => whnf);(first|refine zA ?_|(refine zI ?_ ?_<;> intro hh<;> first|(exfalso;omega)|skip)|(refine zl ?_ ?_<;> intro hh)|refine zq ?_|refine zv ?_|refine zu ?_|exact Sy.fin_val fun e=>rfl)));(all_goals (try conv => whnf))))
            all_goals
              have hs2 : D (m + 1) = D m ++ [p] := by rw [hD]; dsimp only; rw [hst, if_pos (by unfold takenB; simpa using hp)]
              have es : (D m).map enc2 ++ [[Value.int .i64 p.1, Value.int .i64 p.2]] = (D (m + 1)).map enc2 := by rw [hs2, List.map_append]; rfl
              have el : (D m).length + 1 = (D (m + 1)).length := by rw [hs2, List.length_append]; rfl
              rw [es, el]
              refine ⟨m + 1, by omega, by omega, ?_⟩
            all_goals (((repeat' (first|((conv => whnf);done)|((try conv => whnf);first|exact trivial|(refine And.intro ?_ ?_)|rfl|exact fun _ _ _ h=>h|exact fun _ _ _ _=>trivial)));(all_goals (try conv => whnf))))
        · have e : m = ps.length := by omega
          have hDw : D m = delL (takenB ts) ps := by rw [hD, e]; dsimp only; rw [List.take_length]; rfl
          rw [hDw] at hD1 ⊢
          ((repeat' ((conv => whnf);(first|refine zA ?_|(refine zI ?_ ?_<;> intro hh<;> first|(exfalso;omega)|skip)|(refine zl ?_ ?_<;> intro hh)|refine zq ?_|refine zv ?_|refine zu ?_|exact Sy.fin_val fun e=>rfl)));(all_goals (try conv => whnf)))
          refine Sy.fin_own () trivial ?_
          ((conv => whnf);(refine And.intro ?_ (And.intro ?_ (And.intro ?_ ?_)));(all_goals ((repeat' (first|((conv => whnf);done)|((try conv => whnf);first|exact trivial|(refine And.intro ?_ ?_)|rfl|exact fun _ _ _ h=>h|exact fun _ _ _ _=>trivial)));(all_goals (try conv => whnf)))))
theorem rtake_bad (u v y : Value) (ws ps : List (Int × Int)) (ts : List Int) (w : World) (hu : XD.ok (fun b => b < w.heap.size) w ⟨u, 2, ws.length, ws.map enc2⟩) (hv : XD.ok (fun b => b < w.heap.size) w ⟨v, 2, ps.length, ps.map enc2⟩) (hy : XD.ok (fun b => b < w.heap.size) w ⟨y, 1, ts.length, ts.map encI⟩) (hb : ps.length ≤ 1000) (hbt : ts.length ≤ 1000) (h0 : takeE ws ps ts ≠ 0) :
    Calls Try.prog 17 #[.agg #[u, v], y] w (Sy.Ret (.tuple #[.agg #[.slice none 0 0, .slice none 0 0], .int .i64 (takeE ws ps ts)]) w) := by
  have hE : takeE ws ps ts = if FlOk ws ps then (if TkOk ps ts then 0 else 4) else 210 := rfl
  refine Sy.calls_of Sy.lv17 Sy.tab_ok Try.func17 rfl _ Try.ntmps17 [⟨u, 2, ws.length, ws.map enc2⟩, ⟨v, 2, ps.length, ps.map enc2⟩, ⟨y, 1, ts.length, ts.map encI⟩] [.agg [.row 0, .row 1], .c (.row 2)] rfl rfl rfl ⟨hu, hv, hy, trivial⟩ ?_
  ((repeat' ((conv => whnf);(first|refine zA ?_|(refine zI ?_ ?_<;> intro hh<;> first|(exfalso;omega)|skip)|(refine zl ?_ ?_<;> intro hh)|refine zq ?_|refine zv ?_|refine zu ?_|exact Sy.fin_val fun e=>rfl)));(all_goals (try conv => whnf)))
  refine Sy.call_val (.c (.v (.bool (decide (FlOk ws ps))))) Try.call19 rfl (fun e a w' h => rright_any (e.rv 0) (e.rv 1) ws ps w' (Sy.row_reads h (.inr rfl)) (Sy.row_reads h (.inr rfl)) (by omega)) ?_
  by_cases hok : FlOk ws ps
  · rw [if_pos hok] at hE
    have ha : asc ps := by unfold FlOk at hok; exact hok.2.1.2
    have hno : ¬ TkOk ps ts := fun hh => h0 (by rw [hE, if_pos hh])
    rw [if_neg hno] at hE
    rw [decide_eq_true hok, hE]
    ((repeat' ((conv => whnf);(first|refine zA ?_|(refine zI ?_ ?_<;> intro hh<;> first|(exfalso;omega)|skip)|(refine zl ?_ ?_<;> intro hh)|refine zq ?_|refine zv ?_|refine zu ?_|exact Sy.fin_val fun e=>rfl)));(all_goals (try conv => whnf)))
    refine Sy.loop_inv Sy.tab_ok (fun n : Nat => [(6, .c (.v (.int .i64 n)))]) (fun n => []) (fun n => n ≤ ts.length ∧ ∀ t ∈ ts.take n, ts.count t ≤ 1 ∧ hasW ps t) (fun n => ts.length - n) 0 ⟨Nat.zero_le _, fun t ht => by simp at ht⟩ ?_ (fun n hn => ?_)
    · ((repeat' (first|((conv => whnf);done)|((try conv => whnf);first|exact trivial|(refine And.intro ?_ ?_)|rfl|exact fun _ _ _ h=>h|exact fun _ _ _ _=>trivial)));(all_goals (try conv => whnf)))
    · obtain ⟨hn, hall⟩ := hn
      ((repeat' ((conv => whnf);(first|refine zA ?_|(refine zI ?_ ?_<;> intro hh<;> first|(exfalso;omega)|skip)|(refine zl ?_ ?_<;> intro hh)|refine zq ?_|refine zv ?_|refine zu ?_|exact Sy.fin_val fun e=>rfl)));(all_goals (try conv => whnf)))
      · have hlt : n < ts.length := by omega
        have hgn := List.getElem?_eq_getElem hlt
        have hsn : ts.take (n + 1) = ts.take n ++ [ts[n]] := List.take_succ_eq_append_getElem hlt
        generalize ts[n] = t at *
        obtain ⟨c, hc⟩ : ∃ c, whrR ps t = c := ⟨_, rfl⟩
        obtain ⟨k, hk⟩ : ∃ k : Nat, ts.count t = k := ⟨_, rfl⟩
        have hcc := whr_ok hok t
        rw [hc] at hcc
        by_cases h1 : k ≤ 1
        · have hcf : decide ((1 : Int) < (k : Nat)) = false := decide_eq_false (by omega)
          rcases hcc with ⟨hz, hnone⟩ | ⟨hz, _, hmem⟩
          · subst hz
            refine Sy.draw_go [] (by kernel_rfl) ?_
            intro e0
            conv => whnf
            refine zt 0 rfl ?_
            conv => whnf
            refine zt 1 rfl ?_
            conv => whnf
            refine zt 2 rfl ?_
            conv => whnf
            refine zt 3 rfl ?_
            (conv => whnf);(repeat' ((first|refine zA ?_|(refine zI ?_ ?_<;> intro hh<;> first|(exfalso;omega)|skip)|(refine zl ?_ ?_<;> intro hh)|refine zq ?_|refine zv ?_|refine zu ?_|exact Sy.fin_val fun e=>rfl);(try conv => whnf)))
            refine zt 4 rfl ?_
            conv => whnf
            refine Sy.el_map t hgn ?_
            conv => whnf
            refine zd1 [5] (zx rfl ?_ zy)
            conv => whnf
            refine Sy.call_val (.c (.v (.int .i64 k))) Try.call50 rfl (fun e a w' h => by have := count_any (e.rv 2) ts t w' (Sy.row_reads h (.inr rfl)) hbt; rw [hk] at this; exact this) ?_
            conv => whnf
            refine ⟨(by repeat' ((conv => whnf);first|exact trivial|(refine And.intro ?_ ?_)|rfl)), ?_⟩
            refine zt 6 rfl ?_
            (conv => whnf);(repeat' ((first|refine zA ?_|(refine zI ?_ ?_<;> intro hh<;> first|(exfalso;omega)|skip)|(refine zl ?_ ?_<;> intro hh)|refine zq ?_|refine zv ?_|refine zu ?_|exact Sy.fin_val fun e=>rfl);(try conv => whnf)))
            refine zt 7 rfl ?_
            conv => whnf
            refine zt 8 rfl ?_
            (conv => whnf);(repeat' ((first|refine zA ?_|(refine zI ?_ ?_<;> intro hh<;> first|(exfalso;omega)|skip)|(refine zl ?_ ?_<;> intro hh)|refine zq ?_|refine zv ?_|refine zu ?_|exact Sy.fin_val fun e=>rfl);(try conv => whnf)))
            refine zt 9 rfl ?_
            (conv => whnf);(repeat' ((first|refine zA ?_|(refine zI ?_ ?_<;> intro hh<;> first|(exfalso;omega)|skip)|(refine zl ?_ ?_<;> intro hh)|refine zq ?_|refine zv ?_|refine zu ?_|exact Sy.fin_val fun e=>rfl);(try conv => whnf)))
            refine zt 10 rfl ?_
            (conv => whnf);(repeat' ((first|refine zA ?_|(refine zI ?_ ?_<;> intro hh<;> first|(exfalso;omega)|skip)|(refine zl ?_ ?_<;> intro hh)|refine zq ?_|refine zv ?_|refine zu ?_|exact Sy.fin_val fun e=>rfl);(try conv => whnf)))
            refine zt 11 rfl ?_
            (conv => whnf);(repeat' ((first|refine zA ?_|(refine zI ?_ ?_<;> intro hh<;> first|(exfalso;omega)|skip)|(refine zl ?_ ?_<;> intro hh)|refine zq ?_|refine zv ?_|refine zu ?_|exact Sy.fin_val fun e=>rfl);(try conv => whnf)))
            refine zt 12 rfl ?_
            (conv => whnf);(repeat' ((first|refine zA ?_|(refine zI ?_ ?_<;> intro hh<;> first|(exfalso;omega)|skip)|(refine zl ?_ ?_<;> intro hh)|refine zq ?_|refine zv ?_|refine zu ?_|exact Sy.fin_val fun e=>rfl);(try conv => whnf)))
            refine Sy.el_map t hgn ?_
            conv => whnf
            refine zd1 [13] (zx rfl ?_ zy)
            conv => whnf
            (refine zA ?_;conv => whnf)
            refine Sy.call_val (.c (.v (.int .i64 0))) Try.call24 rfl (fun e a w' h => by have := rwhere_any (e.rv 0) (e.rv 1) ws ps t w' ha (Sy.row_reads h (.inr rfl)) (Sy.row_reads h (.inr rfl)); rw [hc] at this; exact this) ?_
            conv => whnf
            refine ⟨(by repeat' ((conv => whnf);first|exact trivial|(refine And.intro ?_ ?_)|rfl)), ?_⟩
            refine zt 14 rfl ?_
            (conv => whnf);(repeat' ((first|refine zA ?_|(refine zI ?_ ?_<;> intro hh<;> first|(exfalso;omega)|skip)|(refine zl ?_ ?_<;> intro hh)|refine zq ?_|refine zv ?_|refine zu ?_|exact Sy.fin_val fun e=>rfl);(try conv => whnf)))
            refine zt 15 rfl ?_
            (conv => whnf);(repeat' ((first|refine zA ?_|(refine zI ?_ ?_<;> intro hh<;> first|(exfalso;omega)|skip)|(refine zl ?_ ?_<;> intro hh)|refine zq ?_|refine zv ?_|refine zu ?_|exact Sy.fin_val fun e=>rfl);(try conv => whnf)))
            refine zw ?_
            skip
            all_goals (((repeat' ((conv => whnf);(first|refine zA ?_|(refine zI ?_ ?_<;> intro hh<;> first|(exfalso;omega)|skip)|(refine zl ?_ ?_<;> intro hh)|refine zq ?_|refine zv ?_|refine zu ?_|exact Sy.fin_val fun e=>rfl)));(all_goals (try conv => whnf))))
            all_goals done
          · have hc0 : (c == 0) = false := beq_false_of_ne (by omega)
            refine Sy.draw_go [] (by kernel_rfl) ?_
            intro e0
            conv => whnf
            refine zt 0 rfl ?_
            conv => whnf
            refine zt 1 rfl ?_
            conv => whnf
            refine zt 2 rfl ?_
            conv => whnf
            refine zt 3 rfl ?_
            (conv => whnf);(repeat' ((first|refine zA ?_|(refine zI ?_ ?_<;> intro hh<;> first|(exfalso;omega)|skip)|(refine zl ?_ ?_<;> intro hh)|refine zq ?_|refine zv ?_|refine zu ?_|exact Sy.fin_val fun e=>rfl);(try conv => whnf)))
            refine zt 4 rfl ?_
            conv => whnf
            refine Sy.el_map t hgn ?_
            conv => whnf
            refine zd1 [5] (zx rfl ?_ zy)
            conv => whnf
            refine Sy.call_val (.c (.v (.int .i64 k))) Try.call50 rfl (fun e a w' h => by have := count_any (e.rv 2) ts t w' (Sy.row_reads h (.inr rfl)) hbt; rw [hk] at this; exact this) ?_
            conv => whnf
            refine ⟨(by repeat' ((conv => whnf);first|exact trivial|(refine And.intro ?_ ?_)|rfl)), ?_⟩
            refine zt 6 rfl ?_
            (conv => whnf);(repeat' ((first|refine zA ?_|(refine zI ?_ ?_<;> intro hh<;> first|(exfalso;omega)|skip)|(refine zl ?_ ?_<;> intro hh)|refine zq ?_|refine zv ?_|refine zu ?_|exact Sy.fin_val fun e=>rfl);(try conv => whnf)))
            refine zt 7 rfl ?_
            conv => whnf
            refine zt 8 rfl ?_
            (conv => whnf);(repeat' ((first|refine zA ?_|(refine zI ?_ ?_<;> intro hh<;> first|(exfalso;omega)|skip)|(refine zl ?_ ?_<;> intro hh)|refine zq ?_|refine zv ?_|refine zu ?_|exact Sy.fin_val fun e=>rfl);(try conv => whnf)))
            refine zt 9 rfl ?_
            (conv => whnf);(repeat' ((first|refine zA ?_|(refine zI ?_ ?_<;> intro hh<;> first|(exfalso;omega)|skip)|(refine zl ?_ ?_<;> intro hh)|refine zq ?_|refine zv ?_|refine zu ?_|exact Sy.fin_val fun e=>rfl);(try conv => whnf)))
            refine zt 10 rfl ?_
            (conv => whnf);(repeat' ((first|refine zA ?_|(refine zI ?_ ?_<;> intro hh<;> first|(exfalso;omega)|skip)|(refine zl ?_ ?_<;> intro hh)|refine zq ?_|refine zv ?_|refine zu ?_|exact Sy.fin_val fun e=>rfl);(try conv => whnf)))
            refine zt 11 rfl ?_
            (conv => whnf);(repeat' ((first|refine zA ?_|(refine zI ?_ ?_<;> intro hh<;> first|(exfalso;omega)|skip)|(refine zl ?_ ?_<;> intro hh)|refine zq ?_|refine zv ?_|refine zu ?_|exact Sy.fin_val fun e=>rfl);(try conv => whnf)))
            refine zt 12 rfl ?_
            (conv => whnf);(repeat' ((first|refine zA ?_|(refine zI ?_ ?_<;> intro hh<;> first|(exfalso;omega)|skip)|(refine zl ?_ ?_<;> intro hh)|refine zq ?_|refine zv ?_|refine zu ?_|exact Sy.fin_val fun e=>rfl);(try conv => whnf)))
            refine Sy.el_map t hgn ?_
            conv => whnf
            refine zd1 [13] (zx rfl ?_ zy)
            conv => whnf
            (refine zA ?_;conv => whnf)
            refine Sy.call_val (.c (.v (.int .i64 c))) Try.call24 rfl (fun e a w' h => by have := rwhere_any (e.rv 0) (e.rv 1) ws ps t w' ha (Sy.row_reads h (.inr rfl)) (Sy.row_reads h (.inr rfl)); rw [hc] at this; exact this) ?_
            conv => whnf
            refine ⟨(by repeat' ((conv => whnf);first|exact trivial|(refine And.intro ?_ ?_)|rfl)), ?_⟩
            refine zt 14 rfl ?_
            (conv => whnf);(repeat' ((first|refine zA ?_|(refine zI ?_ ?_<;> intro hh<;> first|(exfalso;omega)|skip)|(refine zl ?_ ?_<;> intro hh)|refine zq ?_|refine zv ?_|refine zu ?_|exact Sy.fin_val fun e=>rfl);(try conv => whnf)))
            refine zt 15 rfl ?_
            (conv => whnf);(repeat' ((first|refine zA ?_|(refine zI ?_ ?_<;> intro hh<;> first|(exfalso;omega)|skip)|(refine zl ?_ ?_<;> intro hh)|refine zq ?_|refine zv ?_|refine zu ?_|exact Sy.fin_val fun e=>rfl);(try conv => whnf)))
            refine zw ?_
            skip
            all_goals (((repeat' ((conv => whnf);(first|refine zA ?_|(refine zI ?_ ?_<;> intro hh<;> first|(exfalso;omega)|skip)|(refine zl ?_ ?_<;> intro hh)|refine zq ?_|refine zv ?_|refine zu ?_|exact Sy.fin_val fun e=>rfl)));(all_goals (try conv => whnf))))
            all_goals (refine ⟨n + 1, ⟨by omega, fun t' ht' => ?_⟩, by omega, ?_⟩)
            · rw [hsn] at ht'
              rcases List.mem_append.1 ht' with h | h
              · exact hall t' h
              · rw [List.mem_singleton.1 h, hk]; exact ⟨h1, _, hmem, rfl⟩
            · ((repeat' (first|((conv => whnf);done)|((try conv => whnf);first|exact trivial|(refine And.intro ?_ ?_)|rfl|exact fun _ _ _ h=>h|exact fun _ _ _ _=>trivial)));(all_goals (try conv => whnf)))
        · have hcf : decide ((1 : Int) < (k : Nat)) = true := decide_eq_true (by omega)
          refine Sy.draw_go [] (by kernel_rfl) ?_
          intro e0
          conv => whnf
          refine zt 0 rfl ?_
          conv => whnf
          refine zt 1 rfl ?_
          conv => whnf
          refine zt 2 rfl ?_
          conv => whnf
          refine zt 3 rfl ?_
          (conv => whnf);(repeat' ((first|refine zA ?_|(refine zI ?_ ?_<;> intro hh<;> first|(exfalso;omega)|skip)|(refine zl ?_ ?_<;> intro hh)|refine zq ?_|refine zv ?_|refine zu ?_|exact Sy.fin_val fun e=>rfl);(try conv => whnf)))
          refine zt 4 rfl ?_
          conv => whnf
          refine Sy.el_map t hgn ?_
          conv => whnf
          refine zd1 [5] (zx rfl ?_ zy)
          conv => whnf
          refine Sy.call_val (.c (.v (.int .i64 k))) Try.call50 rfl (fun e a w' h => by have := count_any (e.rv 2) ts t w' (Sy.row_reads h (.inr rfl)) hbt; rw [hk] at this; exact this) ?_
          conv => whnf
          refine ⟨(by repeat' ((conv => whnf);first|exact trivial|(refine And.intro ?_ ?_)|rfl)), ?_⟩
          refine zt 6 rfl ?_
          (conv => whnf);(repeat' ((first|refine zA ?_|(refine zI ?_ ?_<;> intro hh<;> first|(exfalso;omega)|skip)|(refine zl ?_ ?_<;> intro hh)|refine zq ?_|refine zv ?_|refine zu ?_|exact Sy.fin_val fun e=>rfl);(try conv => whnf)))
          refine zt 7 rfl ?_
          conv => whnf
          refine zt 8 rfl ?_
          (conv => whnf);(repeat' ((first|refine zA ?_|(refine zI ?_ ?_<;> intro hh<;> first|(exfalso;omega)|skip)|(refine zl ?_ ?_<;> intro hh)|refine zq ?_|refine zv ?_|refine zu ?_|exact Sy.fin_val fun e=>rfl);(try conv => whnf)))
          refine zt 9 rfl ?_
          (conv => whnf);(repeat' ((first|refine zA ?_|(refine zI ?_ ?_<;> intro hh<;> first|(exfalso;omega)|skip)|(refine zl ?_ ?_<;> intro hh)|refine zq ?_|refine zv ?_|refine zu ?_|exact Sy.fin_val fun e=>rfl);(try conv => whnf)))
          refine zt 10 rfl ?_
          (conv => whnf);(repeat' ((first|refine zA ?_|(refine zI ?_ ?_<;> intro hh<;> first|(exfalso;omega)|skip)|(refine zl ?_ ?_<;> intro hh)|refine zq ?_|refine zv ?_|refine zu ?_|exact Sy.fin_val fun e=>rfl);(try conv => whnf)))
          refine zt 11 rfl ?_
          (conv => whnf);(repeat' ((first|refine zA ?_|(refine zI ?_ ?_<;> intro hh<;> first|(exfalso;omega)|skip)|(refine zl ?_ ?_<;> intro hh)|refine zq ?_|refine zv ?_|refine zu ?_|exact Sy.fin_val fun e=>rfl);(try conv => whnf)))
          refine zt 12 rfl ?_
          (conv => whnf);(repeat' ((first|refine zA ?_|(refine zI ?_ ?_<;> intro hh<;> first|(exfalso;omega)|skip)|(refine zl ?_ ?_<;> intro hh)|refine zq ?_|refine zv ?_|refine zu ?_|exact Sy.fin_val fun e=>rfl);(try conv => whnf)))
          refine zd1 [13] (zx rfl ?_ zy)
          conv => whnf
          (refine zA ?_;conv => whnf)
          refine ⟨(by repeat' ((conv => whnf);first|exact trivial|(refine And.intro ?_ ?_)|rfl)), ?_⟩
          refine zt 14 rfl ?_
          (conv => whnf);(repeat' ((first|refine zA ?_|(refine zI ?_ ?_<;> intro hh<;> first|(exfalso;omega)|skip)|(refine zl ?_ ?_<;> intro hh)|refine zq ?_|refine zv ?_|refine zu ?_|exact Sy.fin_val fun e=>rfl);(try conv => whnf)))
          refine zt 15 rfl ?_
          (conv => whnf);(repeat' ((first|refine zA ?_|(refine zI ?_ ?_<;> intro hh<;> first|(exfalso;omega)|skip)|(refine zl ?_ ?_<;> intro hh)|refine zq ?_|refine zv ?_|refine zu ?_|exact Sy.fin_val fun e=>rfl);(try conv => whnf)))
          refine zw ?_
          skip
          all_goals (((repeat' ((conv => whnf);(first|refine zA ?_|(refine zI ?_ ?_<;> intro hh<;> first|(exfalso;omega)|skip)|(refine zl ?_ ?_<;> intro hh)|refine zq ?_|refine zv ?_|refine zu ?_|exact Sy.fin_val fun e=>rfl)));(all_goals (try conv => whnf))))
          all_goals done
      · have e : n = ts.length := by omega
        rw [e, List.take_length] at hall
        exact absurd ⟨nodup_count.2 fun t ht => (hall t ht).1, fun t ht => (hall t ht).2⟩ hno
  · rw [if_neg hok] at hE
    rw [decide_eq_false hok, hE]
    ((repeat' ((conv => whnf);(first|refine zA ?_|(refine zI ?_ ?_<;> intro hh<;> first|(exfalso;omega)|skip)|(refine zl ?_ ?_<;> intro hh)|refine zq ?_|refine zv ?_|refine zu ?_|exact Sy.fin_val fun e=>rfl)));(all_goals (try conv => whnf)))
    all_goals done
end Go.Proofs.Ytjhjmeajdebcbaa
