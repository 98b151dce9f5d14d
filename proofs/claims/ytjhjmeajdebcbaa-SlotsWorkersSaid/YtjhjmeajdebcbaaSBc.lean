/- Slots: the document's Go. -/
import Derived.Test.YtjhjmeajdebcbaaSBb
namespace Go.Proofs.Ytjhjmeajdebcbaa
open Go Go.RowKit
open Sy (C SV V1 Blk St XD Els)
set_option maxRecDepth 10000

theorem goE_ok {ws ps : List (Int × Int)} {id : Int} (h : goE ws ps id = 0) : FlOk ws ps ∧ hasW ws id := by
  unfold goE at h
  split at h
  · split at h
    · exact ⟨by assumption, by assumption⟩
    · cases h
  · cases h
theorem filt_succ {ps : List (Int × Int)} {f : Int × Int → Bool} {n : Nat} {p : Int × Int} (h : ps[n]? = some p) : (ps.take (n + 1)).filter f = (ps.take n).filter f ++ (if f p = true then [p] else []) := by
  obtain ⟨hl, he⟩ := List.getElem?_eq_some_iff.1 h
  rw [List.take_succ_eq_append_getElem hl, he, List.filter_append, List.filter_cons, List.filter_nil]
attribute [local irreducible] FlOk slL okW atL
set_option maxHeartbeats 1000000 in
theorem rgo_any (u v : Value) (ws ps : List (Int × Int)) (id : Int) (w : World) (hu : XD.ok (fun b => b < w.heap.size) w ⟨u, 2, ws.length, ws.map enc2⟩) (hv : XD.ok (fun b => b < w.heap.size) w ⟨v, 2, ps.length, ps.map enc2⟩) (h0 : goE ws ps id = 0) :
    Calls Try.prog 30 #[.agg #[u, v], .int .i64 id] w (Sy.RetRows Sy.noRow (fun _ : Unit => True) (fun _ => [⟨31, 2, (dropW ws id).length, (dropW ws id).map enc2⟩, ⟨67, 2, (delL (goneB id) ps).length, (delL (goneB id) ps).map enc2⟩, ⟨3, 1, (atL ps id).length, (atL ps id).map encI⟩]) (fun _ vs => .tuple #[.agg #[vs.headD undef, (vs.drop 1).headD undef], (vs.drop 2).headD undef, .int .i64 0]) w) := by
  obtain ⟨hok, hh⟩ := goE_ok h0
  obtain ⟨hwl, hpl⟩ := ok_lens hok
  have hw : ∀ p ∈ ws, okW p := by unfold FlOk at hok; exact hok.1.1
  obtain ⟨c, hc⟩ : ∃ c, slL ws id = c := ⟨_, rfl⟩
  have hc0 : 0 < c := by
    rcases sl_cases hw id with ⟨_, h⟩ | ⟨h, _⟩
    · obtain ⟨p, hp, he⟩ := hh
      exact absurd he (h p hp)
    · omega
  refine Sy.calls_of Sy.lv30 Sy.tab_ok Try.func30 rfl _ Try.ntmps30 [⟨u, 2, ws.length, ws.map enc2⟩, ⟨v, 2, ps.length, ps.map enc2⟩] [.agg [.row 0, .row 1], .c (.v (.int .i64 id))] rfl rfl rfl ⟨hu, hv, trivial⟩ ?_
  ((repeat' ((conv => whnf);(first|refine zA ?_|(refine zI ?_ ?_<;> intro hh<;> first|(exfalso;omega)|skip)|(refine zl ?_ ?_<;> intro hh)|refine zq ?_|refine zv ?_|refine zu ?_|exact Sy.fin_val fun e=>rfl)));(all_goals (try conv => whnf)))
  refine Sy.call_val (.c (.v (.bool true))) Try.call19 rfl (fun e a w' h => by have := rright_any (e.rv 0) (e.rv 1) ws ps w' (Sy.row_reads h (.inr rfl)) (Sy.row_reads h (.inr rfl)) (by omega); rw [decide_eq_true hok] at this; exact this) ?_
  ((repeat' ((conv => whnf);(first|refine zA ?_|(refine zI ?_ ?_<;> intro hh<;> first|(exfalso;omega)|skip)|(refine zl ?_ ?_<;> intro hh)|refine zq ?_|refine zv ?_|refine zu ?_|exact Sy.fin_val fun e=>rfl)));(all_goals (try conv => whnf)))
  refine Sy.call_val (.c (.v (.int .i64 c))) Try.call51 rfl (fun e a w' h => by have := rslots_any (e.rv 0) (e.rv 1) ws ps id w' (Sy.row_reads h (.inr rfl)) (Sy.row_reads h (.inr rfl)); rw [hc] at this; exact this) ?_
  ((repeat' ((conv => whnf);(first|refine zA ?_|(refine zI ?_ ?_<;> intro hh<;> first|(exfalso;omega)|skip)|(refine zl ?_ ?_<;> intro hh)|refine zq ?_|refine zv ?_|refine zu ?_|exact Sy.fin_val fun e=>rfl)));(all_goals (try conv => whnf)))
  refine Sy.sem_subF (Sy.sub_rowc 4 0 31 2 rfl rfl) ?_
  conv => whnf
  refine Sy.sem_subF (Sy.sub_rowc 4 1 67 2 rfl rfl) ?_
  conv => whnf
  obtain ⟨D, hD⟩ : ∃ D : Nat → List (Int × Int), D = fun n => (ws.take n).filter fun p => !decide (p.1 = id) := ⟨_, rfl⟩
  have hDl : ∀ n, (D n).length ≤ 4 := fun n => by
    rw [hD]
    have := List.length_filter_le (fun p : Int × Int => !decide (p.1 = id)) (ws.take n)
    rw [List.length_take] at this
    dsimp only; omega
  refine Sy.loop_inv Sy.tab_ok (fun n : Nat => [(8, .c (.v (.int .i64 n)))]) (fun n => [(4, .cells 26 [.row 5, .row 6]), (5, .row 31 2 (D n).length (.vs ((D n).map enc2)))]) (fun n => n ≤ ws.length) (fun n => ws.length - n) 0 (Nat.zero_le _) ?_ (fun n hn => ?_)
  · rw [show D 0 = [] by rw [hD]; rfl]
    ((repeat' (first|((conv => whnf);done)|((try conv => whnf);first|exact trivial|(refine And.intro ?_ ?_)|rfl|exact fun _ _ _ h=>h|exact fun _ _ _ _=>trivial)));(all_goals (try conv => whnf)))
  · have hD0 := hDl n
    by_cases hlt : n < ws.length
    · have hgn := List.getElem?_eq_getElem hlt
      have hst := filt_succ (f := fun p => !decide (p.1 = id)) hgn
      generalize ws[n] = p at *
      by_cases hp : p.1 = id
      · ((repeat' ((conv => whnf);(first|refine zA ?_|(refine zI ?_ ?_<;> intro hh<;> first|(exfalso;omega)|skip)|(refine zl ?_ ?_<;> intro hh)|refine zq ?_|refine zv ?_|refine zu ?_|exact Sy.fin_val fun e=>rfl)));(all_goals (try conv => whnf)))
        refine Sy.el_map p hgn ?_
        ((repeat' ((conv => whnf);(first|refine zA ?_|(refine zI ?_ ?_<;> intro hh<;> first|(exfalso;omega)|skip)|(refine zl ?_ ?_<;> intro hh)|refine zq ?_|refine zv ?_|refine zu ?_|exact Sy.fin_val fun e=>rfl)));(all_goals (try conv => whnf)))
        have : D (n + 1) = D n := by rw [hD]; dsimp only; rw [hst, if_neg (by simpa using hp), List.append_nil]
        refine ⟨n + 1, by omega, by omega, ?_⟩
        rw [this]
        ((repeat' (first|((conv => whnf);done)|((try conv => whnf);first|exact trivial|(refine And.intro ?_ ?_)|rfl|exact fun _ _ _ h=>h|exact fun _ _ _ _=>trivial)));(all_goals (try conv => whnf)))
      · ((repeat' ((conv => whnf);(first|refine zA ?_|(refine zI ?_ ?_<;> intro hh<;> first|(exfalso;omega)|skip)|(refine zl ?_ ?_<;> intro hh)|refine zq ?_|refine zv ?_|refine zu ?_|exact Sy.fin_val fun e=>rfl)));(all_goals (try conv => whnf)))
        refine Sy.el_map p hgn ?_
        ((repeat' ((conv => whnf);(first|refine zA ?_|(refine zI ?_ ?_<;> intro hh<;> first|(exfalso;omega)|skip)|(refine zl ?_ ?_<;> intro hh)|refine zq ?_|refine zv ?_|refine zu ?_|exact Sy.fin_val fun e=>rfl)));(all_goals (try conv => whnf)))
        refine Sy.draw_go [4,5] (by kernel_rfl) ?_
        intro e0
        conv => whnf
        refine zt 0 rfl ?_
        conv => whnf
        refine zt 2 rfl ?_
        conv => whnf
        refine zt 3 rfl ?_
        conv => whnf
        refine zt 4 rfl ?_
        conv => whnf
        refine zt 5 rfl ?_
        (conv => whnf);(repeat' ((first|refine zA ?_|(refine zI ?_ ?_<;> intro hh<;> first|(exfalso;omega)|skip)|(refine zl ?_ ?_<;> intro hh)|refine zq ?_|refine zv ?_|refine zu ?_|exact Sy.fin_val fun e=>rfl);(try conv => whnf)))
        refine zt 6 rfl ?_
        conv => whnf
        refine Sy.el_map p hgn ?_
        conv => whnf
        focus
          refine zd1 [1, 7] (zx rfl ?_ (zx rfl ?_ zy))
          focus
            conv => whnf
            refine ⟨(by repeat' ((conv => whnf);first|exact trivial|(refine And.intro ?_ ?_)|rfl)), ?_⟩
            refine zd1 [7] (zx rfl ?_ zy)
            conv => whnf
            refine ⟨(by repeat' ((conv => whnf);first|exact trivial|(refine And.intro ?_ ?_)|rfl)), ?_⟩
            refine zd1 [8] (zx rfl ?_ zy)
            conv => whnf
            refine Sy.need_of (by show ((D n).length + 1) * 16 ≤ _ ∧ _; omega) ?_
            conv => whnf
            refine ⟨(by repeat' ((conv => whnf);first|exact trivial|(refine And.intro ?_ ?_)|rfl)), ?_⟩
            refine zt 9 rfl ?_
            conv => whnf
            refine zd1 [10] (zx rfl ?_ zy)
            conv => whnf
            refine ⟨(by repeat' ((conv => whnf);first|exact trivial|(refine And.intro ?_ ?_)|rfl)), ?_⟩
            refine zw ?_
            skip
          rotate_right
          focus
            conv => whnf
            refine ⟨(by repeat' ((conv => whnf);first|exact trivial|(refine And.intro ?_ ?_)|rfl)), ?_⟩
            refine zd1 [1] (zx rfl ?_ zy)
            conv => whnf
            refine ⟨(by repeat' ((conv => whnf);first|exact trivial|(refine And.intro ?_ ?_)|rfl)), ?_⟩
            refine zd1 [8] (zx rfl ?_ zy)
            conv => whnf
            refine Sy.need_of (by show ((D n).length + 1) * 16 ≤ _ ∧ _; omega) ?_
            conv => whnf
            refine ⟨(by repeat' ((conv => whnf);first|exact trivial|(refine And.intro ?_ ?_)|rfl)), ?_⟩
            refine zt 9 rfl ?_
            conv => whnf
            refine zd1 [10] (zx rfl ?_ zy)
            conv => whnf
            refine ⟨(by repeat' ((conv => whnf);first|exact trivial|(refine And.intro ?_ ?_)|rfl)), ?_⟩
            refine zw ?_
            skip
        all_goals (((repeat' ((conv => whnf);(first|refine zA ?_|(refine zI ?_ ?_<;> intro hh<;> first|(exfalso;omega)|skip)|(refine zl ?_ ?_<;> intro hh)|refine zq ?_|refine zv ?_|refine zu ?_|exact Sy.fin_val fun e=>rfl)));(all_goals (try conv => whnf))))
        all_goals
          have hs2 : D (n + 1) = D n ++ [p] := by rw [hD]; dsimp only; rw [hst, if_pos (by simpa using hp)]
          have es : (D n).map enc2 ++ [[Value.int .i64 p.1, Value.int .i64 p.2]] = (D (n + 1)).map enc2 := by rw [hs2, List.map_append]; rfl
          have el : (D n).length + 1 = (D (n + 1)).length := by rw [hs2, List.length_append]; rfl
          rw [es, el]
          refine ⟨n + 1, by omega, by omega, ?_⟩
        all_goals (((repeat' (first|((conv => whnf);done)|((try conv => whnf);first|exact trivial|(refine And.intro ?_ ?_)|rfl|exact fun _ _ _ h=>h|exact fun _ _ _ _=>trivial)));(all_goals (try conv => whnf))))
    · have e : n = ws.length := by omega
      have hDw : D n = dropW ws id := by rw [hD, e]; dsimp only; rw [List.take_length]; rfl
      rw [hDw] at hD0 ⊢
      clear hDw hDl
      clear hD
      obtain ⟨D, hD⟩ : ∃ D : Nat → List (Int × Int), D = fun n => (ps.take n).filter fun p => !goneB id p := ⟨_, rfl⟩
      have hDl : ∀ n, (D n).length ≤ 16 := fun n => by
        rw [hD]
        have := List.length_filter_le (fun p : Int × Int => !goneB id p) (ps.take n)
        rw [List.length_take] at this
        dsimp only; omega
      ((repeat' ((conv => whnf);(first|refine zA ?_|(refine zI ?_ ?_<;> intro hh<;> first|(exfalso;omega)|skip)|(refine zl ?_ ?_<;> intro hh)|refine zq ?_|refine zv ?_|refine zu ?_|exact Sy.fin_val fun e=>rfl)));(all_goals (try conv => whnf)))
      refine Sy.loop_inv Sy.tab_ok (fun n : Nat => [(9, .c (.v (.int .i64 n)))]) (fun n => [(4, .cells 26 [.row 5, .row 6]), (6, .row 67 2 (D n).length (.vs ((D n).map enc2)))]) (fun n => n ≤ ps.length) (fun n => ps.length - n) 0 (Nat.zero_le _) ?_ (fun m hm => ?_)
      · rw [show D 0 = [] by rw [hD]; rfl]
        ((repeat' (first|((conv => whnf);done)|((try conv => whnf);first|exact trivial|(refine And.intro ?_ ?_)|rfl|exact fun _ _ _ h=>h|exact fun _ _ _ _=>trivial)));(all_goals (try conv => whnf)))
      · have hD1 := hDl m
        by_cases hlt : m < ps.length
        · have hgn := List.getElem?_eq_getElem hlt
          have hst := filt_succ (f := fun p => !goneB id p) hgn
          generalize ps[m] = p at *
          by_cases hp : p.2 = id
          · ((repeat' ((conv => whnf);(first|refine zA ?_|(refine zI ?_ ?_<;> intro hh<;> first|(exfalso;omega)|skip)|(refine zl ?_ ?_<;> intro hh)|refine zq ?_|refine zv ?_|refine zu ?_|exact Sy.fin_val fun e=>rfl)));(all_goals (try conv => whnf)))
            refine Sy.el_map p hgn ?_
            ((repeat' ((conv => whnf);(first|refine zA ?_|(refine zI ?_ ?_<;> intro hh<;> first|(exfalso;omega)|skip)|(refine zl ?_ ?_<;> intro hh)|refine zq ?_|refine zv ?_|refine zu ?_|exact Sy.fin_val fun e=>rfl)));(all_goals (try conv => whnf)))
            have : D (m + 1) = D m := by rw [hD]; dsimp only; rw [hst, if_neg (by unfold goneB; simpa using hp), List.append_nil]
            refine ⟨m + 1, by omega, by omega, ?_⟩
            rw [this]
            ((repeat' (first|((conv => whnf);done)|((try conv => whnf);first|exact trivial|(refine And.intro ?_ ?_)|rfl|exact fun _ _ _ h=>h|exact fun _ _ _ _=>trivial)));(all_goals (try conv => whnf)))
          · ((repeat' ((conv => whnf);(first|refine zA ?_|(refine zI ?_ ?_<;> intro hh<;> first|(exfalso;omega)|skip)|(refine zl ?_ ?_<;> intro hh)|refine zq ?_|refine zv ?_|refine zu ?_|exact Sy.fin_val fun e=>rfl)));(all_goals (try conv => whnf)))
            refine Sy.el_map p hgn ?_
            ((repeat' ((conv => whnf);(first|refine zA ?_|(refine zI ?_ ?_<;> intro hh<;> first|(exfalso;omega)|skip)|(refine zl ?_ ?_<;> intro hh)|refine zq ?_|refine zv ?_|refine zu ?_|exact Sy.fin_val fun e=>rfl)));(all_goals (try conv => whnf)))
            refine Sy.draw_go [4,6] (by kernel_rfl) ?_
            intro e0
            conv => whnf
            refine zt 0 rfl ?_
            conv => whnf
            refine zt 2 rfl ?_
            conv => whnf
            refine zt 3 rfl ?_
            conv => whnf
            refine zt 4 rfl ?_
            conv => whnf
            refine zt 5 rfl ?_
            (conv => whnf);(repeat' ((first|refine zA ?_|(refine zI ?_ ?_<;> intro hh<;> first|(exfalso;omega)|skip)|(refine zl ?_ ?_<;> intro hh)|refine zq ?_|refine zv ?_|refine zu ?_|exact Sy.fin_val fun e=>rfl);(try conv => whnf)))
            refine zt 6 rfl ?_
            conv => whnf
            refine Sy.el_map p hgn ?_
            conv => whnf
            focus
              refine zd1 [1, 7] (zx rfl ?_ (zx rfl ?_ zy))
              focus
                conv => whnf
                refine ⟨(by repeat' ((conv => whnf);first|exact trivial|(refine And.intro ?_ ?_)|rfl)), ?_⟩
                refine zd1 [7] (zx rfl ?_ zy)
                conv => whnf
                refine ⟨(by repeat' ((conv => whnf);first|exact trivial|(refine And.intro ?_ ?_)|rfl)), ?_⟩
                refine zd1 [8] (zx rfl ?_ zy)
                conv => whnf
                refine Sy.need_of (by show ((D m).length + 1) * 16 ≤ _ ∧ _; omega) ?_
                conv => whnf
                refine ⟨(by repeat' ((conv => whnf);first|exact trivial|(refine And.intro ?_ ?_)|rfl)), ?_⟩
                refine zt 9 rfl ?_
                conv => whnf
                refine zd1 [10] (zx rfl ?_ zy)
                conv => whnf
                refine ⟨(by repeat' ((conv => whnf);first|exact trivial|(refine And.intro ?_ ?_)|rfl)), ?_⟩
                refine zw ?_
                skip
              rotate_right
              focus
                conv => whnf
                refine ⟨(by repeat' ((conv => whnf);first|exact trivial|(refine And.intro ?_ ?_)|rfl)), ?_⟩
                refine zd1 [1] (zx rfl ?_ zy)
                conv => whnf
                refine ⟨(by repeat' ((conv => whnf);first|exact trivial|(refine And.intro ?_ ?_)|rfl)), ?_⟩
                refine zd1 [8] (zx rfl ?_ zy)
                conv => whnf
                refine Sy.need_of (by show ((D m).length + 1) * 16 ≤ _ ∧ _; omega) ?_
                conv => whnf
                refine ⟨(by repeat' ((conv => whnf);first|exact trivial|(refine And.intro ?_ ?_)|rfl)), ?_⟩
                refine zt 9 rfl ?_
                conv => whnf
                refine zd1 [10] (zx rfl ?_ zy)
                conv => whnf
                refine ⟨(by repeat' ((conv => whnf);first|exact trivial|(refine And.intro ?_ ?_)|rfl)), ?_⟩
                refine zw ?_
                skip
            all_goals (((repeat' ((conv => whnf);(first|refine zA ?_|(refine zI ?_ ?_<;> intro hh<;> first|(exfalso;omega)|skip)|(refine zl ?_ ?_<;> intro hh)|refine zq ?_|refine zv ?_|refine zu ?_|exact Sy.fin_val fun e=>rfl)));(all_goals (try conv => whnf))))
            all_goals
              have hs2 : D (m + 1) = D m ++ [p] := by rw [hD]; dsimp only; rw [hst, if_pos (by unfold goneB; simpa using hp)]
              have es : (D m).map enc2 ++ [[Value.int .i64 p.1, Value.int .i64 p.2]] = (D (m + 1)).map enc2 := by rw [hs2, List.map_append]; rfl
              have el : (D m).length + 1 = (D (m + 1)).length := by rw [hs2, List.length_append]; rfl
              rw [es, el]
              refine ⟨m + 1, by omega, by omega, ?_⟩
            all_goals (((repeat' (first|((conv => whnf);done)|((try conv => whnf);first|exact trivial|(refine And.intro ?_ ?_)|rfl|exact fun _ _ _ h=>h|exact fun _ _ _ _=>trivial)));(all_goals (try conv => whnf))))
        · have e : m = ps.length := by omega
          have hDw : D m = delL (goneB id) ps := by rw [hD, e]; dsimp only; rw [List.take_length]; rfl
          rw [hDw] at hD1 ⊢
          have hat := atL_len ps id
          ((repeat' ((conv => whnf);(first|refine zA ?_|(refine zI ?_ ?_<;> intro hh<;> first|(exfalso;omega)|skip)|(refine zl ?_ ?_<;> intro hh)|refine zq ?_|refine zv ?_|refine zu ?_|exact Sy.fin_val fun e=>rfl)));(all_goals (try conv => whnf)))
          refine Sy.draw_go [3] (by kernel_rfl) ?_
          intro e0
          conv => whnf
          refine zt 0 rfl ?_
          conv => whnf
          refine zt 1 rfl ?_
          conv => whnf
          refine zt 2 rfl ?_
          conv => whnf
          refine zd1 [3] (zx rfl ?_ zy)
          conv => whnf
          refine Sy.call_r1 ⟨3, 1, (atL ps id).length, (atL ps id).map encI⟩ (fun j => .c (.row j)) Try.call26 (fun e a w' h => rat_any (e.rv 0) (e.rv 1) ws ps id w' (Sy.row_reads h (.inr rfl)) (Sy.row_reads h (.inr rfl)) (by omega)) ?_
          conv => whnf
          refine ⟨(by repeat' ((conv => whnf);first|exact trivial|(refine And.intro ?_ ?_)|rfl)), ?_⟩
          refine zd1 [4] (zx rfl ?_ zy)
          conv => whnf
          refine ⟨(by repeat' ((conv => whnf);first|exact trivial|(refine And.intro ?_ ?_)|rfl)), ?_⟩
          refine zt 5 rfl ?_
          conv => whnf
          refine zt 6 rfl ?_
          conv => whnf
          refine zw ?_
          skip
          all_goals (((repeat' ((conv => whnf);(first|refine zA ?_|(refine zI ?_ ?_<;> intro hh<;> first|(exfalso;omega)|skip)|(refine zl ?_ ?_<;> intro hh)|refine zq ?_|refine zv ?_|refine zu ?_|exact Sy.fin_val fun e=>rfl)));(all_goals (try conv => whnf))))
          all_goals (exact fin_r3 (.row 5) (.row 6) (.row 7) rfl rfl rfl)
theorem rgo_bad (u v : Value) (ws ps : List (Int × Int)) (id : Int) (w : World) (hu : XD.ok (fun b => b < w.heap.size) w ⟨u, 2, ws.length, ws.map enc2⟩) (hv : XD.ok (fun b => b < w.heap.size) w ⟨v, 2, ps.length, ps.map enc2⟩) (hb : ps.length ≤ 1000) (h0 : goE ws ps id ≠ 0) :
    Calls Try.prog 30 #[.agg #[u, v], .int .i64 id] w (Sy.Ret (.tuple #[.agg #[.slice none 0 0, .slice none 0 0], .slice none 0 0, .int .i64 (goE ws ps id)]) w) := by
  have hE : goE ws ps id = if FlOk ws ps then (if hasW ws id then 0 else 4) else 210 := rfl
  refine Sy.calls_of Sy.lv30 Sy.tab_ok Try.func30 rfl _ Try.ntmps30 [⟨u, 2, ws.length, ws.map enc2⟩, ⟨v, 2, ps.length, ps.map enc2⟩] [.agg [.row 0, .row 1], .c (.v (.int .i64 id))] rfl rfl rfl ⟨hu, hv, trivial⟩ ?_
  ((repeat' ((conv => whnf);(first|refine zA ?_|(refine zI ?_ ?_<;> intro hh<;> first|(exfalso;omega)|skip)|(refine zl ?_ ?_<;> intro hh)|refine zq ?_|refine zv ?_|refine zu ?_|exact Sy.fin_val fun e=>rfl)));(all_goals (try conv => whnf)))
  refine Sy.call_val (.c (.v (.bool (decide (FlOk ws ps))))) Try.call19 rfl (fun e a w' h => rright_any (e.rv 0) (e.rv 1) ws ps w' (Sy.row_reads h (.inr rfl)) (Sy.row_reads h (.inr rfl)) (by omega)) ?_
  by_cases hok : FlOk ws ps
  · rw [if_pos hok] at hE
    have hw : ∀ p ∈ ws, okW p := by unfold FlOk at hok; exact hok.1.1
    rw [decide_eq_true hok]
    have hno : ¬ hasW ws id := fun hh => h0 (by rw [hE, if_pos hh])
    rw [if_neg hno] at hE
    rw [hE]
    have hc : slL ws id = 0 := by
      rcases sl_cases hw id with ⟨h, _⟩ | ⟨_, _, h⟩
      · exact h
      · exact absurd ⟨(id, slL ws id), h, rfl⟩ hno
    ((repeat' ((conv => whnf);(first|refine zA ?_|(refine zI ?_ ?_<;> intro hh<;> first|(exfalso;omega)|skip)|(refine zl ?_ ?_<;> intro hh)|refine zq ?_|refine zv ?_|refine zu ?_|exact Sy.fin_val fun e=>rfl)));(all_goals (try conv => whnf)))
    refine Sy.call_val (.c (.v (.int .i64 0))) Try.call51 rfl (fun e a w' h => by have := rslots_any (e.rv 0) (e.rv 1) ws ps id w' (Sy.row_reads h (.inr rfl)) (Sy.row_reads h (.inr rfl)); rw [hc] at this; exact this) ?_
    ((repeat' ((conv => whnf);(first|refine zA ?_|(refine zI ?_ ?_<;> intro hh<;> first|(exfalso;omega)|skip)|(refine zl ?_ ?_<;> intro hh)|refine zq ?_|refine zv ?_|refine zu ?_|exact Sy.fin_val fun e=>rfl)));(all_goals (try conv => whnf)))
    all_goals done
  · rw [if_neg hok] at hE
    rw [decide_eq_false hok, hE]
    ((repeat' ((conv => whnf);(first|refine zA ?_|(refine zI ?_ ?_<;> intro hh<;> first|(exfalso;omega)|skip)|(refine zl ?_ ?_<;> intro hh)|refine zq ?_|refine zv ?_|refine zu ?_|exact Sy.fin_val fun e=>rfl)));(all_goals (try conv => whnf)))
    all_goals done
end Go.Proofs.Ytjhjmeajdebcbaa
