/- Slots: the document's Come. -/
import Derived.Test.YtjhjmeajdebcbaaSY
import Derived.Test.YtjhjmeajdebcbaaSBa
import Derived.Test.YtjhjmeajdebcbaaSPa
namespace Go.Proofs.Ytjhjmeajdebcbaa
open Go Go.RowKit
open Sy (C SV V1 Blk St XD Els)
set_option maxRecDepth 10000

theorem comeE_ok {ws ps : List (Int × Int)} {x : Int × Int} (h : comeE ws ps x = 0) : FlOk ws ps ∧ okW x ∧ ¬ hasW ws x.1 := by
  unfold comeE at h
  split at h
  · split at h
    · split at h
      · cases h
      · exact ⟨by assumption, by assumption, by assumption⟩
    · cases h
  · cases h
def rcomeC (ws ps : List (Int × Int)) (x : Int × Int) : Sy.Ctr Unit := { avs := [.agg [.row 0, .row 1], .agg [.v (.int .i64 x.1), .v (.int .i64 x.2)]], n0 := 2, H0 := [(0, .ext 2 ws.length (.vs (ws.map enc2))), (1, .ext 2 ps.length (.vs (ps.map enc2)))], sv := fun _ => .tup [.agg [.row 2, .row 1], .c (.v (.int .i64 0))], n1 := fun _ => 3, H1 := fun _ => [(2, .row 31 2 (insS ws x).length (.vs ((insS ws x).map enc2)))] }
theorem insS_len (ws : List (Int × Int)) (x : Int × Int) : (insS ws x).length ≤ 2 * ws.length + 1 := by
  unfold insS
  have h1 := List.length_filter_le (fun p : Int × Int => decide (p.1 < x.1)) ws
  have h2 := List.length_filter_le (fun p : Int × Int => decide (x.1 < p.1)) ws
  rw [List.length_append, List.length_cons]
  omega
attribute [local irreducible] FlOk insS slL okW upL
theorem rcome_does (ws ps : List (Int × Int)) (x : Int × Int) (h0 : comeE ws ps x = 0) : Sy.Does Try.prog 28 (rcomeC ws ps x) := by
  obtain ⟨hok, hx, hno⟩ := comeE_ok h0
  obtain ⟨hwl, hpl⟩ := ok_lens hok
  have ha : asc ws := by unfold FlOk at hok; exact hok.1.2
  have hw : ∀ p ∈ ws, okW p := by unfold FlOk at hok; exact hok.1.1
  have hn : ∀ p ∈ ws, p.1 ≠ x.1 := fun p hp he => hno ⟨p, hp, he⟩
  have hia := insS_asc (q := x) ha
  have hil := insS_len ws x
  have hs0 : slL ws x.1 = 0 := by
    rcases sl_cases hw x.1 with ⟨h, _⟩ | ⟨_, _, h⟩
    · exact h
    · exact absurd rfl (hn (x.1, slL ws x.1) h)
  have hm : ∀ p ∈ insS ws x, 0 < p.1 ∧ p.1 ≤ 4 := fun p hp => by
    have : okW p := by
      rcases (insS_mem hn).1 hp with rfl | h
      · exact hx
      · exact hw p h
    unfold okW at this
    omega
  refine Sy.does_of Sy.lv28 Sy.tab_ok Try.func28 rfl _ Try.ntmps28 _ rfl rfl (fun e0 w hpre => ?_)
  ((repeat' ((conv => whnf);(first|refine zA ?_|(refine zI ?_ ?_<;> intro hh<;> first|(exfalso;omega)|skip)|(refine zl ?_ ?_<;> intro hh)|refine zq ?_|refine zv ?_|refine zu ?_|exact Sy.fin_val fun e=>rfl)));(all_goals (try conv => whnf)))
  refine Sy.call_val (.c (.v (.bool true))) Try.call19 rfl (fun e a w' h => by have := rright_any (e.rv 0) (e.rv 1) ws ps w' (Sy.row_reads h (.inr rfl)) (Sy.row_reads h (.inr rfl)) (by omega); rw [decide_eq_true hok] at this; exact this) ?_
  ((repeat' ((conv => whnf);(first|refine zA ?_|(refine zI ?_ ?_<;> intro hh<;> first|(exfalso;omega)|skip)|(refine zl ?_ ?_<;> intro hh)|refine zq ?_|refine zv ?_|refine zu ?_|exact Sy.fin_val fun e=>rfl)));(all_goals (try conv => whnf)))
  refine Sy.call_val (.c (.v (.bool true))) Try.call56 rfl (fun e a w' h => by have := rrw_any x w'; rw [decide_eq_true hx] at this; exact this) ?_
  ((repeat' ((conv => whnf);(first|refine zA ?_|(refine zI ?_ ?_<;> intro hh<;> first|(exfalso;omega)|skip)|(refine zl ?_ ?_<;> intro hh)|refine zq ?_|refine zv ?_|refine zu ?_|exact Sy.fin_val fun e=>rfl)));(all_goals (try conv => whnf)))
  refine Sy.call_val (.c (.v (.int .i64 0))) Try.call51 rfl (fun e a w' h => by have := rslots_any (e.rv 0) (e.rv 1) ws ps x.1 w' (Sy.row_reads h (.inr rfl)) (Sy.row_reads h (.inr rfl)); rw [hs0] at this; exact this) ?_
  ((repeat' ((conv => whnf);(first|refine zA ?_|(refine zI ?_ ?_<;> intro hh<;> first|(exfalso;omega)|skip)|(refine zl ?_ ?_<;> intro hh)|refine zq ?_|refine zv ?_|refine zu ?_|exact Sy.fin_val fun e=>rfl)));(all_goals (try conv => whnf)))
  refine Sy.sem_subF (Sy.sub_row 6 31 2 rfl) ?_
  conv => whnf
  refine Sy.loop_inv Sy.tab_ok (fun k : Nat => [(7, .c (.v (.int .i64 ((k : Int) + 1)))), (6, .c (.row 5))]) (fun k => [(5, .row 31 2 (upL (insS ws x) k).length (.vs ((upL (insS ws x) k).map enc2)))]) (fun k => k ≤ 4) (fun k => 4 - k) 0 (Nat.zero_le _) ?_ (fun k hk => ?_)
  · rw [show upL (insS ws x) ((0 : Nat) : Int) = [] from up_none fun p hp => (hm p hp).1]
    ((repeat' (first|((conv => whnf);done)|((try conv => whnf);first|exact trivial|(refine And.intro ?_ ?_)|rfl|exact fun _ _ _ h=>h|exact fun _ _ _ _=>trivial)));(all_goals (try conv => whnf)))
  · have hul : (upL (insS ws x) k).length ≤ 9 := by
      have := List.length_filter_le (fun p : Int × Int => decide (p.1 ≤ (k : Int))) (insS ws x)
      unfold upL; omega
    by_cases hk4 : k = 4
    · have : upL (insS ws x) k = insS ws x := up_all fun p hp => by have := (hm p hp).2; omega
      subst hk4
      rw [this]
      ((repeat' ((conv => whnf);(first|refine zA ?_|(refine zI ?_ ?_<;> intro hh<;> first|(exfalso;omega)|skip)|(refine zl ?_ ?_<;> intro hh)|refine zq ?_|refine zv ?_|refine zu ?_|exact Sy.fin_val fun e=>rfl)));(all_goals (try conv => whnf)))
      refine Sy.fin_own () trivial ?_
      ((conv => whnf);(refine And.intro ?_ (And.intro ?_ (And.intro ?_ ?_)));(all_goals ((repeat' (first|((conv => whnf);done)|((try conv => whnf);first|exact trivial|(refine And.intro ?_ ?_)|rfl|exact fun _ _ _ h=>h|exact fun _ _ _ _=>trivial)));(all_goals (try conv => whnf)))))
    · rcases up_round ha hw hn hia k with ⟨h1, h2, h3⟩ | ⟨h1, h2, h3⟩ | ⟨h1, h2, h3, h4⟩
      · ((repeat' ((conv => whnf);(first|refine zA ?_|(refine zI ?_ ?_<;> intro hh<;> first|(exfalso;omega)|skip)|(refine zl ?_ ?_<;> intro hh)|refine zq ?_|refine zv ?_|refine zu ?_|exact Sy.fin_val fun e=>rfl)));(all_goals (try conv => whnf)))
        refine Sy.call_val (.c (.v (.int .i64 0))) Try.call51 rfl (fun e a w' h => by have := rslots_any (e.rv 0) (e.rv 1) ws ps ((k : Int) + 1) w' (Sy.row_reads h (.inr rfl)) (Sy.row_reads h (.inr rfl)); rw [h1] at this; exact this) ?_
        ((repeat' ((conv => whnf);(first|refine zA ?_|(refine zI ?_ ?_<;> intro hh<;> first|(exfalso;omega)|skip)|(refine zl ?_ ?_<;> intro hh)|refine zq ?_|refine zv ?_|refine zu ?_|exact Sy.fin_val fun e=>rfl)));(all_goals (try conv => whnf)))
        refine Sy.need_of (by show ((upL (insS ws x) k).length + 1) * 16 ≤ _ ∧ _; omega) ?_
        ((repeat' ((conv => whnf);(first|refine zA ?_|(refine zI ?_ ?_<;> intro hh<;> first|(exfalso;omega)|skip)|(refine zl ?_ ?_<;> intro hh)|refine zq ?_|refine zv ?_|refine zu ?_|exact Sy.fin_val fun e=>rfl)));(all_goals (try conv => whnf)))
        have es : (upL (insS ws x) k).map enc2 ++ [[Value.int .i64 x.1, Value.int .i64 x.2]] = (upL (insS ws x) ((k + 1 : Nat) : Int)).map enc2 := by rw [Int.natCast_succ, h3, List.map_append]; rfl
        have el : (upL (insS ws x) k).length + 1 = (upL (insS ws x) ((k + 1 : Nat) : Int)).length := by rw [Int.natCast_succ, h3, List.length_append]; rfl
        rw [es, el]
        refine ⟨k + 1, by omega, by omega, ?_⟩
        ((repeat' (first|((conv => whnf);done)|((try conv => whnf);first|exact trivial|(refine And.intro ?_ ?_)|rfl|exact fun _ _ _ h=>h|exact fun _ _ _ _=>trivial)));(all_goals (try conv => whnf)))
      · ((repeat' ((conv => whnf);(first|refine zA ?_|(refine zI ?_ ?_<;> intro hh<;> first|(exfalso;omega)|skip)|(refine zl ?_ ?_<;> intro hh)|refine zq ?_|refine zv ?_|refine zu ?_|exact Sy.fin_val fun e=>rfl)));(all_goals (try conv => whnf)))
        refine Sy.call_val (.c (.v (.int .i64 0))) Try.call51 rfl (fun e a w' h => by have := rslots_any (e.rv 0) (e.rv 1) ws ps ((k : Int) + 1) w' (Sy.row_reads h (.inr rfl)) (Sy.row_reads h (.inr rfl)); rw [h1] at this; exact this) ?_
        ((repeat' ((conv => whnf);(first|refine zA ?_|(refine zI ?_ ?_<;> intro hh<;> first|(exfalso;omega)|skip)|(refine zl ?_ ?_<;> intro hh)|refine zq ?_|refine zv ?_|refine zu ?_|exact Sy.fin_val fun e=>rfl)));(all_goals (try conv => whnf)))
        have e0 : upL (insS ws x) ((k + 1 : Nat) : Int) = upL (insS ws x) k := by rw [Int.natCast_succ, h3]
        refine ⟨k + 1, by omega, by omega, ?_⟩
        rw [e0]
        ((repeat' (first|((conv => whnf);done)|((try conv => whnf);first|exact trivial|(refine And.intro ?_ ?_)|rfl|exact fun _ _ _ h=>h|exact fun _ _ _ _=>trivial)));(all_goals (try conv => whnf)))
      · obtain ⟨c, hc⟩ : ∃ c, slL ws ((k : Int) + 1) = c := ⟨_, rfl⟩
        rw [hc] at h1 h2 h4
        ((repeat' ((conv => whnf);(first|refine zA ?_|(refine zI ?_ ?_<;> intro hh<;> first|(exfalso;omega)|skip)|(refine zl ?_ ?_<;> intro hh)|refine zq ?_|refine zv ?_|refine zu ?_|exact Sy.fin_val fun e=>rfl)));(all_goals (try conv => whnf)))
        refine Sy.call_val (.c (.v (.int .i64 c))) Try.call51 rfl (fun e a w' h => by have := rslots_any (e.rv 0) (e.rv 1) ws ps ((k : Int) + 1) w' (Sy.row_reads h (.inr rfl)) (Sy.row_reads h (.inr rfl)); rw [hc] at this; exact this) ?_
        ((repeat' ((conv => whnf);(first|refine zA ?_|(refine zI ?_ ?_<;> intro hh<;> first|(exfalso;omega)|skip)|(refine zl ?_ ?_<;> intro hh)|refine zq ?_|refine zv ?_|refine zu ?_|exact Sy.fin_val fun e=>rfl)));(all_goals (try conv => whnf)))
        refine Sy.need_of (by show ((upL (insS ws x) k).length + 1) * 16 ≤ _ ∧ _; omega) ?_
        ((repeat' ((conv => whnf);(first|refine zA ?_|(refine zI ?_ ?_<;> intro hh<;> first|(exfalso;omega)|skip)|(refine zl ?_ ?_<;> intro hh)|refine zq ?_|refine zv ?_|refine zu ?_|exact Sy.fin_val fun e=>rfl)));(all_goals (try conv => whnf)))
        have es : (upL (insS ws x) k).map enc2 ++ [[Value.int .i64 ((k : Int) + 1), Value.int .i64 c]] = (upL (insS ws x) ((k + 1 : Nat) : Int)).map enc2 := by rw [Int.natCast_succ, h4, List.map_append]; rfl
        have el : (upL (insS ws x) k).length + 1 = (upL (insS ws x) ((k + 1 : Nat) : Int)).length := by rw [Int.natCast_succ, h4, List.length_append]; rfl
        rw [es, el]
        refine ⟨k + 1, by omega, by omega, ?_⟩
        ((repeat' (first|((conv => whnf);done)|((try conv => whnf);first|exact trivial|(refine And.intro ?_ ?_)|rfl|exact fun _ _ _ h=>h|exact fun _ _ _ _=>trivial)));(all_goals (try conv => whnf)))
theorem rcome_bad (u v : Value) (ws ps : List (Int × Int)) (x : Int × Int) (w : World) (hu : XD.ok (fun b => b < w.heap.size) w ⟨u, 2, ws.length, ws.map enc2⟩) (hv : XD.ok (fun b => b < w.heap.size) w ⟨v, 2, ps.length, ps.map enc2⟩) (hb : ps.length ≤ 1000) (h0 : comeE ws ps x ≠ 0) :
    Calls Try.prog 28 #[.agg #[u, v], .agg #[.int .i64 x.1, .int .i64 x.2]] w (Sy.Ret (.tuple #[.agg #[.slice none 0 0, .slice none 0 0], .int .i64 (comeE ws ps x)]) w) := by
  have hE : comeE ws ps x = if FlOk ws ps then (if okW x then (if hasW ws x.1 then 5 else 0) else 2) else 210 := rfl
  refine Sy.calls_of Sy.lv28 Sy.tab_ok Try.func28 rfl _ Try.ntmps28 [⟨u, 2, ws.length, ws.map enc2⟩, ⟨v, 2, ps.length, ps.map enc2⟩] [.agg [.row 0, .row 1], .agg [.v (.int .i64 x.1), .v (.int .i64 x.2)]] rfl rfl rfl ⟨hu, hv, trivial⟩ ?_
  ((repeat' ((conv => whnf);(first|refine zA ?_|(refine zI ?_ ?_<;> intro hh<;> first|(exfalso;omega)|skip)|(refine zl ?_ ?_<;> intro hh)|refine zq ?_|refine zv ?_|refine zu ?_|exact Sy.fin_val fun e=>rfl)));(all_goals (try conv => whnf)))
  refine Sy.call_val (.c (.v (.bool (decide (FlOk ws ps))))) Try.call19 rfl (fun e a w' h => rright_any (e.rv 0) (e.rv 1) ws ps w' (Sy.row_reads h (.inr rfl)) (Sy.row_reads h (.inr rfl)) (by omega)) ?_
  by_cases hok : FlOk ws ps
  · rw [if_pos hok] at hE
    have hw : ∀ p ∈ ws, okW p := by unfold FlOk at hok; exact hok.1.1
    rw [decide_eq_true hok]
    ((repeat' ((conv => whnf);(first|refine zA ?_|(refine zI ?_ ?_<;> intro hh<;> first|(exfalso;omega)|skip)|(refine zl ?_ ?_<;> intro hh)|refine zq ?_|refine zv ?_|refine zu ?_|exact Sy.fin_val fun e=>rfl)));(all_goals (try conv => whnf)))
    refine Sy.call_val (.c (.v (.bool (decide (okW x))))) Try.call56 rfl (fun e a w' h => rrw_any x w') ?_
    by_cases hx : okW x
    · rw [if_pos hx] at hE
      have hh : hasW ws x.1 := by
        by_cases hh : hasW ws x.1
        · exact hh
        · rw [if_neg hh] at hE; exact absurd hE h0
      rw [if_pos hh] at hE
      rw [decide_eq_true hx, hE]
      obtain ⟨c, hc⟩ : ∃ c, slL ws x.1 = c := ⟨_, rfl⟩
      have hc0 : 0 < c := by
        rcases sl_cases hw x.1 with ⟨_, h⟩ | ⟨h, _⟩
        · obtain ⟨p, hp, he⟩ := hh
          exact absurd he (h p hp)
        · omega
      ((repeat' ((conv => whnf);(first|refine zA ?_|(refine zI ?_ ?_<;> intro hh<;> first|(exfalso;omega)|skip)|(refine zl ?_ ?_<;> intro hh)|refine zq ?_|refine zv ?_|refine zu ?_|exact Sy.fin_val fun e=>rfl)));(all_goals (try conv => whnf)))
      refine Sy.call_val (.c (.v (.int .i64 c))) Try.call51 rfl (fun e a w' h => by have := rslots_any (e.rv 0) (e.rv 1) ws ps x.1 w' (Sy.row_reads h (.inr rfl)) (Sy.row_reads h (.inr rfl)); rw [hc] at this; exact this) ?_
      ((repeat' ((conv => whnf);(first|refine zA ?_|(refine zI ?_ ?_<;> intro hh<;> first|(exfalso;omega)|skip)|(refine zl ?_ ?_<;> intro hh)|refine zq ?_|refine zv ?_|refine zu ?_|exact Sy.fin_val fun e=>rfl)));(all_goals (try conv => whnf)))
      all_goals done
    · rw [if_neg hx] at hE
      rw [decide_eq_false hx, hE]
      ((repeat' ((conv => whnf);(first|refine zA ?_|(refine zI ?_ ?_<;> intro hh<;> first|(exfalso;omega)|skip)|(refine zl ?_ ?_<;> intro hh)|refine zq ?_|refine zv ?_|refine zu ?_|exact Sy.fin_val fun e=>rfl)));(all_goals (try conv => whnf)))
      all_goals done
  · rw [if_neg hok] at hE
    rw [decide_eq_false hok, hE]
    ((repeat' ((conv => whnf);(first|refine zA ?_|(refine zI ?_ ?_<;> intro hh<;> first|(exfalso;omega)|skip)|(refine zl ?_ ?_<;> intro hh)|refine zq ?_|refine zv ?_|refine zu ?_|exact Sy.fin_val fun e=>rfl)));(all_goals (try conv => whnf)))
    all_goals done
end Go.Proofs.Ytjhjmeajdebcbaa
