/- Slots: Go. -/
import Derived.Test.YtjhjmeajdebcbaaSA
import Derived.Test.YtjhjmeajdebcbaaSD
import Derived.Test.YtjhjmeajdebcbaaSJ
import Derived.Test.YtjhjmeajdebcbaaSL
namespace Go.Proofs.Ytjhjmeajdebcbaa
open Go Go.RowKit
open Sy (C SV V1 Blk St XD Els)
set_option maxRecDepth 10000

theorem fin_r3 {S : St} {v : Unit → List Value → Value} {P : Program} {T : Sy.Tab} {w0 : World} {nt : Nat} {lv : List (Nat × List Nat)} {sv : SV} {r r' r'' : Sy.RD} (k k' k'' : C) (hr : Sy.RowC S r k) (hr' : Sy.RowC S r' k') (hr'' : Sy.RowC S r'' k'') (h1 : Sy.rowId k ≠ none → Sy.rowId k' ≠ Sy.rowId k ∧ Sy.rowId k'' ≠ Sy.rowId k := by decide) (h2 : Sy.rowId k' ≠ none → Sy.rowId k'' ≠ Sy.rowId k' := by decide) (hv : ∀ e, sv.den e = v () [k.den e, k'.den e, k''.den e] := by intros; rfl) :
    Sy.finP { P := P, T := T, w0 := w0, nt := nt, lv := lv } S sv (Sy.RetRows Sy.noRow (fun _ : Unit => True) (fun _ => [r, r', r'']) v w0) :=
  Sy.fin_rows () trivial [k, k', k''] ⟨hr, (by intro j hj h; simp only [List.mem_cons, List.mem_nil_iff, or_false] at hj; rcases hj with rfl | rfl <;> first | exact (h1 h).1 | exact (h1 h).2), hr', (by intro j hj h; simp only [List.mem_cons, List.mem_nil_iff, or_false] at hj; subst hj; exact h2 h), hr'', (by intro j hj; cases hj), trivial⟩ hv
def dropW (ws : List (Int × Int)) (id : Int) : List (Int × Int) := ws.filter fun p => !decide (p.1 = id)
theorem erase_eq : ∀ {ws : List (Int × Int)} {i : Nat} {p : Int × Int}, asc ws → ws[i]? = some p → ws.eraseIdx i = dropW ws p.1
  | [], i, p, _, h => by simp at h
  | q :: r, 0, p, ha, h => by
    have hq : q = p := by simpa using h
    subst hq
    have hr := (List.pairwise_cons.1 ha).1
    unfold dropW
    rw [List.eraseIdx_zero, List.tail_cons, List.filter_cons, if_neg (by simp)]
    exact (List.filter_eq_self.2 fun z hz => by have := hr z hz; simp; omega).symm
  | q :: r, i + 1, p, ha, h => by
    have h : r[i]? = some p := by simpa using h
    have hr := (List.pairwise_cons.1 ha)
    have hq := hr.1 p (List.mem_of_getElem? h)
    have ih := erase_eq (ws := r) (i := i) hr.2 h
    unfold dropW at ih ⊢
    rw [List.eraseIdx_cons_succ, ih, List.filter_cons, if_pos (by simp; omega)]
def goE (ws ps : List (Int × Int)) (id : Int) : Int := if FlOk ws ps then (if hasW ws id then 0 else 4) else 210
def goV (ws ps : List (Int × Int)) (id : Int) : List (Int × Int) × List (Int × Int) × List Int := if goE ws ps id = 0 then (dropW ws id, delL (goneB id) ps, atL ps id) else ([], [], [])
attribute [local irreducible] mpI frL cntW okW okT FlOk atL delL dropW
set_option maxHeartbeats 2000000 in
theorem go_any (u v : Value) (ws ps : List (Int × Int)) (id : Int) (w : World) (hu : XD.ok (fun b => b < w.heap.size) w ⟨u, 2, ws.length, ws.map enc2⟩) (hv : XD.ok (fun b => b < w.heap.size) w ⟨v, 2, ps.length, ps.map enc2⟩) (hb : ps.length ≤ 1000) :
    Calls Try.prog 29 #[.agg #[u, v], .int .i64 id] w (Sy.RetRows Sy.noRow (fun _ : Unit => True) (fun _ => [⟨31, 2, (goV ws ps id).1.length, (goV ws ps id).1.map enc2⟩, ⟨67, 2, (goV ws ps id).2.1.length, (goV ws ps id).2.1.map enc2⟩, ⟨3, 1, (goV ws ps id).2.2.length, (goV ws ps id).2.2.map encI⟩]) (fun _ vs => .tuple #[.agg #[vs.headD undef, (vs.drop 1).headD undef], (vs.drop 2).headD undef, .int .i64 (goE ws ps id)]) w) := by
  have hE : goE ws ps id = if FlOk ws ps then (if hasW ws id then 0 else 4) else 210 := rfl
  have hV : goV ws ps id = if goE ws ps id = 0 then (dropW ws id, delL (goneB id) ps, atL ps id) else ([], [], []) := rfl
  refine Sy.calls_of Sy.lv29 Sy.tab_ok Try.func29 rfl _ Try.ntmps29 [⟨u, 2, ws.length, ws.map enc2⟩, ⟨v, 2, ps.length, ps.map enc2⟩] [.agg [.row 0, .row 1], .c (.v (.int .i64 id))] rfl rfl rfl ⟨hu, hv, trivial⟩ ?_
  ((repeat' ((conv => whnf);(first|refine zA ?_|(refine zI ?_ ?_<;> intro hh<;> first|(exfalso;omega)|skip)|(refine zl ?_ ?_<;> intro hh)|refine zq ?_|refine zv ?_|refine zu ?_|exact Sy.fin_val fun e=>rfl)));(all_goals (try conv => whnf)))
  refine Sy.call_in Sy.lv31 Sy.tab_ok Try.func31 rfl _ Try.ntmps31 Try.call31 rfl (fun _ => ?_)
  ((repeat' ((conv => whnf);(first|refine zA ?_|(refine zI ?_ ?_<;> intro hh<;> first|(exfalso;omega)|skip)|(refine zl ?_ ?_<;> intro hh)|refine zq ?_|refine zv ?_|refine zu ?_|exact Sy.fin_val fun e=>rfl)));(all_goals (try conv => whnf)))
  refine Sy.call_val (.c (.v (.int .i64 (chkE ws ps)))) Try.call20 rfl (fun e a w' h => check_any (e.rv 0) (e.rv 1) ws ps w' (Sy.row_reads h (.inr rfl)) (Sy.row_reads h (.inr rfl)) hb) ?_
  by_cases hok : FlOk ws ps
  · obtain ⟨hwl, hpl⟩ := ok_lens hok
    rw [show chkE ws ps = 0 from if_pos hok]
    rw [if_pos hok] at hE
    ((repeat' ((conv => whnf);(first|refine zA ?_|(refine zI ?_ ?_<;> intro hh<;> first|(exfalso;omega)|skip)|(refine zl ?_ ?_<;> intro hh)|refine zq ?_|refine zv ?_|refine zu ?_|exact Sy.fin_val fun e=>rfl)));(all_goals (try conv => whnf)))
    refine Sy.meet1 9 [.row 31 2 ws.length (.vs (ws.map enc2)), .row 67 2 ps.length (.vs (ps.map enc2)), .cells 26 [.row 9, .row 10]] [(7, .c (.loc 11 0))] [] Sy.tab_ok rfl ?_ ?_
    · refine Sy.draw_go [] (by kernel_rfl) ?_
      intro e0
      conv => whnf
      refine zt 0 rfl ?_
      conv => whnf
      refine zt 1 rfl ?_
      conv => whnf
      refine zt 3 rfl ?_
      conv => whnf
      refine zt 4 rfl ?_
      conv => whnf
      focus
        refine zd1 [2, 7] (zx rfl ?_ (zx rfl ?_ zy))
        focus
          conv => whnf
          refine Sy.call_r1 ⟨31, 2, ws.length, ws.map enc2⟩ (fun j => .c (.row j)) Try.call62 (fun e a w' h => cloneW_any (e.rv 0) ws w' (Sy.row_reads h (.inr rfl)) (by omega)) ?_
          conv => whnf
          refine ⟨(by repeat' ((conv => whnf);first|exact trivial|(refine And.intro ?_ ?_)|rfl)), ?_⟩
          focus
            refine zd1 [5, 7] (zx rfl ?_ (zx rfl ?_ zy))
            focus
              conv => whnf
              refine Sy.call_r1 ⟨67, 2, ps.length, ps.map enc2⟩ (fun j => .c (.row j)) Try.call63 (fun e a w' h => cloneP_any (e.rv 1) ps w' (Sy.row_reads h (.inr rfl)) (by omega)) ?_
              conv => whnf
              refine ⟨(by repeat' ((conv => whnf);first|exact trivial|(refine And.intro ?_ ?_)|rfl)), ?_⟩
              refine zt 6 rfl ?_
              conv => whnf
              refine zd1 [7] (zx rfl ?_ zy)
              conv => whnf
              refine ⟨(by repeat' ((conv => whnf);first|exact trivial|(refine And.intro ?_ ?_)|rfl)), ?_⟩
              refine zd1 [8] (zx rfl ?_ zy)
              conv => whnf
              refine ⟨(by repeat' ((conv => whnf);first|exact trivial|(refine And.intro ?_ ?_)|rfl)), ?_⟩
              refine zw ?_
              ((repeat' (first|((conv => whnf);done)|((try conv => whnf);first|exact trivial|(refine And.intro ?_ ?_)|rfl|exact fun _ _ _ h=>h|exact fun _ _ _ _=>trivial)));(all_goals (try conv => whnf)))
            rotate_right
            focus
              conv => whnf
              refine ⟨(by repeat' ((conv => whnf);first|exact trivial|(refine And.intro ?_ ?_)|rfl)), ?_⟩
              refine zd1 [5] (zx rfl ?_ zy)
              conv => whnf
              refine Sy.call_r1 ⟨67, 2, ps.length, ps.map enc2⟩ (fun j => .c (.row j)) Try.call63 (fun e a w' h => cloneP_any (e.rv 1) ps w' (Sy.row_reads h (.inr rfl)) (by omega)) ?_
              conv => whnf
              refine ⟨(by repeat' ((conv => whnf);first|exact trivial|(refine And.intro ?_ ?_)|rfl)), ?_⟩
              refine zt 6 rfl ?_
              conv => whnf
              refine zd1 [8] (zx rfl ?_ zy)
              conv => whnf
              refine ⟨(by repeat' ((conv => whnf);first|exact trivial|(refine And.intro ?_ ?_)|rfl)), ?_⟩
              refine zw ?_
              ((repeat' (first|((conv => whnf);done)|((try conv => whnf);first|exact trivial|(refine And.intro ?_ ?_)|rfl|exact fun _ _ _ h=>h|exact fun _ _ _ _=>trivial)));(all_goals (try conv => whnf)))
        rotate_right
        focus
          conv => whnf
          refine ⟨(by repeat' ((conv => whnf);first|exact trivial|(refine And.intro ?_ ?_)|rfl)), ?_⟩
          refine zd1 [2] (zx rfl ?_ zy)
          conv => whnf
          refine Sy.call_r1 ⟨31, 2, ws.length, ws.map enc2⟩ (fun j => .c (.row j)) Try.call62 (fun e a w' h => cloneW_any (e.rv 0) ws w' (Sy.row_reads h (.inr rfl)) (by omega)) ?_
          conv => whnf
          refine ⟨(by repeat' ((conv => whnf);first|exact trivial|(refine And.intro ?_ ?_)|rfl)), ?_⟩
          refine zd1 [5] (zx rfl ?_ zy)
          conv => whnf
          refine Sy.call_r1 ⟨67, 2, ps.length, ps.map enc2⟩ (fun j => .c (.row j)) Try.call63 (fun e a w' h => cloneP_any (e.rv 1) ps w' (Sy.row_reads h (.inr rfl)) (by omega)) ?_
          conv => whnf
          refine ⟨(by repeat' ((conv => whnf);first|exact trivial|(refine And.intro ?_ ?_)|rfl)), ?_⟩
          refine zt 6 rfl ?_
          conv => whnf
          refine zd1 [8] (zx rfl ?_ zy)
          conv => whnf
          refine ⟨(by repeat' ((conv => whnf);first|exact trivial|(refine And.intro ?_ ?_)|rfl)), ?_⟩
          refine zw ?_
          ((repeat' (first|((conv => whnf);done)|((try conv => whnf);first|exact trivial|(refine And.intro ?_ ?_)|rfl|exact fun _ _ _ h=>h|exact fun _ _ _ _=>trivial)));(all_goals (try conv => whnf)))
    · conv => whnf
      ((repeat' ((conv => whnf);(first|refine zA ?_|(refine zI ?_ ?_<;> intro hh<;> first|(exfalso;omega)|skip)|(refine zl ?_ ?_<;> intro hh)|refine zq ?_|refine zv ?_|refine zu ?_|exact Sy.fin_val fun e=>rfl)));(all_goals (try conv => whnf)))
      refine Sy.call_in Sy.lv59 Sy.tab_ok Try.func59 rfl _ Try.ntmps59 Try.call59 rfl (fun _ => ?_)
      ((repeat' ((conv => whnf);(first|refine zA ?_|(refine zI ?_ ?_<;> intro hh<;> first|(exfalso;omega)|skip)|(refine zl ?_ ?_<;> intro hh)|refine zq ?_|refine zv ?_|refine zu ?_|exact Sy.fin_val fun e=>rfl)));(all_goals (try conv => whnf)))
      refine Sy.draw_go [] (by kernel_rfl) ?_
      intro e0
      conv => whnf
      refine zt 0 rfl ?_
      conv => whnf
      refine zt 1 rfl ?_
      conv => whnf
      refine zt 2 rfl ?_
      conv => whnf
      refine zt 3 rfl ?_
      conv => whnf
      refine zd1 [4] (zx rfl ?_ zy)
      conv => whnf
      refine Sy.call_ex (srchP ws id) (fun x => .tup [.c (.v (.int .i64 x.1)), .c (.v (.bool x.2))]) Try.call33 (fun _ _ => rfl) (fun e a w' h => worker_any (e.rv 9) (e.rv 10) ws ps id w' (Sy.row_reads h (.inl ⟨_, rfl⟩)) (Sy.row_reads h (.inl ⟨_, rfl⟩)) (by omega)) (fun r hr => ?_)
      obtain ⟨i, there⟩ := r
      conv => whnf
      refine ⟨(by repeat' ((conv => whnf);first|exact trivial|(refine And.intro ?_ ?_)|rfl)), ?_⟩
      refine zt 5 rfl ?_
      conv => whnf
      refine zt 6 rfl ?_
      conv => whnf
      refine zt 7 rfl ?_
      conv => whnf
      refine zt 8 rfl ?_
      conv => whnf
      refine zt 9 rfl ?_
      conv => whnf
      refine zw ?_
      skip
      have ha : asc ws := by unfold FlOk at hok; exact hok.1.2
      obtain ⟨hr1, hr2, hr0⟩ := hr
      obtain ⟨hr3, hr4, hr5⟩ := hr0 ha
      clear hr0
      dsimp only at hr1 hr2 hr3 hr4 hr5
      cases there with
      | false =>
        have hno := hr5 rfl
        rw [if_neg (by rintro ⟨p, hp, he⟩; exact hno p hp he)] at hE
        rw [hE, if_neg (by decide)] at hV
        rw [hE, hV]
        ((repeat' ((conv => whnf);(first|refine zA ?_|(refine zI ?_ ?_<;> intro hh<;> first|(exfalso;omega)|skip)|(refine zl ?_ ?_<;> intro hh)|refine zq ?_|refine zv ?_|refine zu ?_|exact Sy.fin_val fun e=>rfl)));(all_goals (try conv => whnf)))
        refine Sy.draw_go [4] (by kernel_rfl) ?_
        intro e0
        conv => whnf
        refine zt 0 rfl ?_
        conv => whnf
        refine zt 1 rfl ?_
        conv => whnf
        refine zt 2 rfl ?_
        conv => whnf
        refine zd1 [3] (zx rfl ?_ zy)
        conv => whnf
        refine ⟨(by repeat' ((conv => whnf);first|exact trivial|(refine And.intro ?_ ?_)|rfl)), ?_⟩
        refine zt 4 rfl ?_
        conv => whnf
        refine zt 5 rfl ?_
        conv => whnf
        refine zw ?_
        skip
        all_goals (((repeat' ((conv => whnf);(first|refine zA ?_|(refine zI ?_ ?_<;> intro hh<;> first|(exfalso;omega)|skip)|(refine zl ?_ ?_<;> intro hh)|refine zq ?_|refine zv ?_|refine zu ?_|exact Sy.fin_val fun e=>rfl)));(all_goals (try conv => whnf))))
        all_goals exact fin_r3 (.v (.slice none 0 0)) (.v (.slice none 0 0)) (.v (.slice none 0 0)) ⟨rfl, rfl⟩ ⟨rfl, rfl⟩ ⟨rfl, rfl⟩
      | true =>
        obtain ⟨p, hp, he⟩ := hr2 rfl
        rw [if_pos ⟨p, List.mem_of_getElem? hp, he⟩] at hE
        rw [hE, if_pos rfl, ← he, ← erase_eq ha hp, he] at hV
        have hil := (List.getElem?_eq_some_iff.1 hp).1
        have hel : (ws.eraseIdx i).length = ws.length - 1 := List.length_eraseIdx_of_lt hil
        rw [hE, hV]
        ((repeat' ((conv => whnf);(first|refine zA ?_|(refine zI ?_ ?_<;> intro hh<;> first|(exfalso;omega)|skip)|(refine zl ?_ ?_<;> intro hh)|refine zq ?_|refine zv ?_|refine zu ?_|exact Sy.fin_val fun e=>rfl)));(all_goals (try conv => whnf)))
        refine Sy.draw_go [5] (by kernel_rfl) ?_
        intro e0
        conv => whnf
        refine zt 0 rfl ?_
        conv => whnf
        refine zt 1 rfl ?_
        conv => whnf
        refine zt 2 rfl ?_
        conv => whnf
        refine zt 3 rfl ?_
        conv => whnf
        refine zd1 [4] (zx rfl ?_ zy)
        conv => whnf
        refine Sy.call_r1 ⟨3, 1, (atL ps id).length, (atL ps id).map encI⟩ (fun j => .c (.row j)) Try.call49 (fun e a w' h => at_any (e.rv 9) (e.rv 10) ws ps id w' (Sy.row_reads h (.inl ⟨_, rfl⟩)) (Sy.row_reads h (.inl ⟨_, rfl⟩)) hb) ?_
        conv => whnf
        refine ⟨(by repeat' ((conv => whnf);first|exact trivial|(refine And.intro ?_ ?_)|rfl)), ?_⟩
        refine zd1 [5] (zx rfl ?_ zy)
        conv => whnf
        refine ⟨(by repeat' ((conv => whnf);first|exact trivial|(refine And.intro ?_ ?_)|rfl)), ?_⟩
        refine zw ?_
        skip
        ((repeat' ((conv => whnf);(first|refine zA ?_|(refine zI ?_ ?_<;> intro hh<;> first|(exfalso;omega)|skip)|(refine zl ?_ ?_<;> intro hh)|refine zq ?_|refine zv ?_|refine zu ?_|exact Sy.fin_val fun e=>rfl)));(all_goals (try conv => whnf)))
        refine Sy.call_k1 9 ⟨31, 2, ws.length - 1, (ws.eraseIdx i).map enc2⟩ (fun j => .c (.row j)) Try.call60 (fun e a w' h => deleteW_any (e.rv 9) ws i w' (h.hp 9 _ rfl).1 hil (by omega)) ?_ (hj := ⟨_, _, _, _, rfl⟩)
        ((repeat' ((conv => whnf);(first|refine zA ?_|(refine zI ?_ ?_<;> intro hh<;> first|(exfalso;omega)|skip)|(refine zl ?_ ?_<;> intro hh)|refine zq ?_|refine zv ?_|refine zu ?_|exact Sy.fin_val fun e=>rfl)));(all_goals (try conv => whnf)))
        refine Sy.call_own (delG_does ps id (by omega)) Try.call54 ?_ (fun _ _ _ _ _ _ => trivial) (fun _ _ _ _ _ _ _ _ _ => trivial)
        ((conv => whnf);(refine And.intro ?_ (And.intro ?_ (And.intro ?_ (And.intro ?_ ?_))));(all_goals ((repeat' (first|((conv => whnf);done)|((try conv => whnf);first|exact trivial|(refine And.intro ?_ ?_)|rfl|exact fun _ _ _ h=>h|exact fun _ _ _ _=>trivial)));(all_goals (try conv => whnf))));rotate_right)
        intro _ _ G
        ((repeat' ((conv => whnf);(first|refine zA ?_|(refine zI ?_ ?_<;> intro hh<;> first|(exfalso;omega)|skip)|(refine zl ?_ ?_<;> intro hh)|refine zq ?_|refine zv ?_|refine zu ?_|exact Sy.fin_val fun e=>rfl)));(all_goals (try conv => whnf)))
        refine Sy.draw_go [4] (by kernel_rfl) ?_
        intro e0
        conv => whnf
        refine zt 0 rfl ?_
        conv => whnf
        refine zt 1 rfl ?_
        conv => whnf
        refine zt 2 rfl ?_
        conv => whnf
        refine zd1 [3] (zx rfl ?_ zy)
        conv => whnf
        refine ⟨(by repeat' ((conv => whnf);first|exact trivial|(refine And.intro ?_ ?_)|rfl)), ?_⟩
        refine zt 4 rfl ?_
        conv => whnf
        refine zt 5 rfl ?_
        conv => whnf
        refine zw ?_
        skip
        ((repeat' ((conv => whnf);(first|refine zA ?_|(refine zI ?_ ?_<;> intro hh<;> first|(exfalso;omega)|skip)|(refine zl ?_ ?_<;> intro hh)|refine zq ?_|refine zv ?_|refine zu ?_|exact Sy.fin_val fun e=>rfl)));(all_goals (try conv => whnf)))
        exact fin_r3 (.row 13) (.row 15) (.row 12) (by rw [hel]; rfl) rfl rfl
  · rw [show chkE ws ps = 210 from if_neg hok]
    rw [if_neg hok] at hE
    rw [hE, if_neg (by decide)] at hV
    rw [hE, hV]
    ((repeat' ((conv => whnf);(first|refine zA ?_|(refine zI ?_ ?_<;> intro hh<;> first|(exfalso;omega)|skip)|(refine zl ?_ ?_<;> intro hh)|refine zq ?_|refine zv ?_|refine zu ?_|exact Sy.fin_val fun e=>rfl)));(all_goals (try conv => whnf)))
    refine Sy.draw_go [4] (by kernel_rfl) ?_
    intro e0
    conv => whnf
    refine zt 0 rfl ?_
    conv => whnf
    refine zt 1 rfl ?_
    conv => whnf
    refine zt 2 rfl ?_
    conv => whnf
    refine zd1 [3] (zx rfl ?_ zy)
    conv => whnf
    refine ⟨(by repeat' ((conv => whnf);first|exact trivial|(refine And.intro ?_ ?_)|rfl)), ?_⟩
    refine zt 4 rfl ?_
    conv => whnf
    refine zt 5 rfl ?_
    conv => whnf
    refine zw ?_
    skip
    all_goals (((repeat' ((conv => whnf);(first|refine zA ?_|(refine zI ?_ ?_<;> intro hh<;> first|(exfalso;omega)|skip)|(refine zl ?_ ?_<;> intro hh)|refine zq ?_|refine zv ?_|refine zu ?_|exact Sy.fin_val fun e=>rfl)));(all_goals (try conv => whnf))))
    all_goals exact fin_r3 (.v (.slice none 0 0)) (.v (.slice none 0 0)) (.v (.slice none 0 0)) ⟨rfl, rfl⟩ ⟨rfl, rfl⟩ ⟨rfl, rfl⟩
end Go.Proofs.Ytjhjmeajdebcbaa
