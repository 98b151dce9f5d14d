/- Slots: Come. -/
import Derived.Test.YtjhjmeajdebcbaaSA
import Derived.Test.YtjhjmeajdebcbaaSB
import Derived.Test.YtjhjmeajdebcbaaSH
namespace Go.Proofs.Ytjhjmeajdebcbaa
open Go Go.RowKit
open Sy (C SV V1 Blk St XD Els)
set_option maxRecDepth 10000

def comeE (ws ps : List (Int × Int)) (x : Int × Int) : Int := if FlOk ws ps then (if okW x then (if hasW ws x.1 then 5 else 0) else 2) else 210
def comeV (ws ps : List (Int × Int)) (x : Int × Int) : List (Int × Int) × List (Int × Int) := if comeE ws ps x = 0 then (insS ws x, ps) else ([], [])
attribute [local irreducible] mpI frL cntW okW okT FlOk insS
set_option maxHeartbeats 2000000 in
theorem come_any (u v : Value) (ws ps : List (Int × Int)) (x : Int × Int) (w : World) (hu : XD.ok (fun b => b < w.heap.size) w ⟨u, 2, ws.length, ws.map enc2⟩) (hv : XD.ok (fun b => b < w.heap.size) w ⟨v, 2, ps.length, ps.map enc2⟩) (hb : ps.length ≤ 1000) :
    Calls Try.prog 10 #[.agg #[u, v], .agg #[.int .i64 x.1, .int .i64 x.2]] w (Sy.RetRows Sy.noRow (fun _ : Unit => True) (fun _ => [⟨31, 2, (comeV ws ps x).1.length, (comeV ws ps x).1.map enc2⟩, ⟨67, 2, (comeV ws ps x).2.length, (comeV ws ps x).2.map enc2⟩]) (fun _ vs => .tuple #[.agg #[vs.headD undef, (vs.drop 1).headD undef], .int .i64 (comeE ws ps x)]) w) := by
  have hE : comeE ws ps x = if FlOk ws ps then (if okW x then (if hasW ws x.1 then 5 else 0) else 2) else 210 := rfl
  have hV : comeV ws ps x = if comeE ws ps x = 0 then (insS ws x, ps) else ([], []) := rfl
  refine Sy.calls_of Sy.lv10 Sy.tab_ok Try.func10 rfl _ Try.ntmps10 [⟨u, 2, ws.length, ws.map enc2⟩, ⟨v, 2, ps.length, ps.map enc2⟩] [.agg [.row 0, .row 1], .agg [.v (.int .i64 x.1), .v (.int .i64 x.2)]] rfl rfl rfl ⟨hu, hv, trivial⟩ ?_
  ((repeat' ((conv => whnf);(first|refine zA ?_|(refine zI ?_ ?_<;> intro hh<;> first|(exfalso;omega)|skip)|(refine zl ?_ ?_<;> intro hh)|refine zq ?_|refine zv ?_|refine zu ?_|exact Sy.fin_val fun e=>rfl)));(all_goals (try conv => whnf)))
  refine Sy.call_in Sy.lv31 Sy.tab_ok Try.func31 rfl _ Try.ntmps31 Try.call31 rfl (fun _ => ?_)
  ((repeat' ((conv => whnf);(first|refine zA ?_|(refine zI ?_ ?_<;> intro hh<;> first|(exfalso;omega)|skip)|(refine zl ?_ ?_<;> intro hh)|refine zq ?_|refine zv ?_|refine zu ?_|exact Sy.fin_val fun e=>rfl)));(all_goals (try conv => whnf)))
  refine Sy.call_val (.c (.v (.int .i64 (chkE ws ps)))) Try.call20 rfl (fun e a w' h => check_any (e.rv 0) (e.rv 1) ws ps w' (Sy.row_reads h (.inr rfl)) (Sy.row_reads h (.inr rfl)) hb) ?_
  by_cases hok : FlOk ws ps
  · obtain ⟨hwl, hpl⟩ := ok_lens hok
    rw [show chkE ws ps = 0 from if_pos hok]
    rw [if_pos hok] at hE
    ((repeat' ((conv => whnf);(first|refine zA ?_|(refine zI ?_ ?_<;> intro hh<;> first|(exfalso;omega)|skip)|(refine zl ?_ ?_<;> intro hh)|refine zq ?_|refine zv ?_|refine zu ?_|exact Sy.fin_val fun e=>rfl)));(all_goals (try conv => whnf)))
    refine Sy.meet1 8 [.row 31 2 ws.length (.vs (ws.map enc2)), .row 67 2 ps.length (.vs (ps.map enc2)), .cells 26 [.row 8, .row 9]] [(7, .c (.loc 10 0))] [] Sy.tab_ok rfl ?_ ?_
    · refine Sy.draw_go [] (by kernel_rfl) ?_
      intro e0
      conv => whnf
      refine zt 0 rfl ?_
      conv => whnf
      refine zt 1 rfl ?_
      conv => whnf
      refine zt 3 rfl ?_
      conv => whnf
      refine zt 4 rfl ?_
      conv => whnf
      focus
        refine zd1 [2, 7] (zx rfl ?_ (zx rfl ?_ zy))
        focus
          conv => whnf
          refine Sy.call_r1 ⟨31, 2, ws.length, ws.map enc2⟩ (fun j => .c (.row j)) Try.call62 (fun e a w' h => cloneW_any (e.rv 0) ws w' (Sy.row_reads h (.inr rfl)) (by omega)) ?_
          conv => whnf
          refine ⟨(by repeat' ((conv => whnf);first|exact trivial|(refine And.intro ?_ ?_)|rfl)), ?_⟩
          focus
            refine zd1 [5, 7] (zx rfl ?_ (zx rfl ?_ zy))
            focus
              conv => whnf
              refine Sy.call_r1 ⟨67, 2, ps.length, ps.map enc2⟩ (fun j => .c (.row j)) Try.call63 (fun e a w' h => cloneP_any (e.rv 1) ps w' (Sy.row_reads h (.inr rfl)) (by omega)) ?_
              conv => whnf
              refine ⟨(by repeat' ((conv => whnf);first|exact trivial|(refine And.intro ?_ ?_)|rfl)), ?_⟩
              refine zt 6 rfl ?_
              conv => whnf
              refine zd1 [7] (zx rfl ?_ zy)
              conv => whnf
              refine ⟨(by repeat' ((conv => whnf);first|exact trivial|(refine And.intro ?_ ?_)|rfl)), ?_⟩
              refine zd1 [8] (zx rfl ?_ zy)
              conv => whnf
              refine ⟨(by repeat' ((conv => whnf);first|exact trivial|(refine And.intro ?_ ?_)|rfl)), ?_⟩
              refine zw ?_
              ((repeat' (first|((conv => whnf);done)|((try conv => whnf);first|exact trivial|(refine And.intro ?_ ?_)|rfl|exact fun _ _ _ h=>h|exact fun _ _ _ _=>trivial)));(all_goals (try conv => whnf)))
            rotate_right
            focus
              conv => whnf
              refine ⟨(by repeat' ((conv => whnf);first|exact trivial|(refine And.intro ?_ ?_)|rfl)), ?_⟩
              refine zd1 [5] (zx rfl ?_ zy)
              conv => whnf
              refine Sy.call_r1 ⟨67, 2, ps.length, ps.map enc2⟩ (fun j => .c (.row j)) Try.call63 (fun e a w' h => cloneP_any (e.rv 1) ps w' (Sy.row_reads h (.inr rfl)) (by omega)) ?_
              conv => whnf
              refine ⟨(by repeat' ((conv => whnf);first|exact trivial|(refine And.intro ?_ ?_)|rfl)), ?_⟩
              refine zt 6 rfl ?_
              conv => whnf
              refine zd1 [8] (zx rfl ?_ zy)
              conv => whnf
              refine ⟨(by repeat' ((conv => whnf);first|exact trivial|(refine And.intro ?_ ?_)|rfl)), ?_⟩
              refine zw ?_
              ((repeat' (first|((conv => whnf);done)|((try conv => whnf);first|exact trivial|(refine And.intro ?_ ?_)|rfl|exact fun _ _ _ h=>h|exact fun _ _ _ _=>trivial)));(all_goals (try conv => whnf)))
        rotate_right
        focus
          conv => whnf
          refine ⟨(by repeat' ((conv => whnf);first|exact trivial|(refine And.intro ?_ ?_)|rfl)), ?_⟩
          refine zd1 [2] (zx rfl ?_ zy)
          conv => whnf
          refine Sy.call_r1 ⟨31, 2, ws.length, ws.map enc2⟩ (fun j => .c (.row j)) Try.call62 (fun e a w' h => cloneW_any (e.rv 0) ws w' (Sy.row_reads h (.inr rfl)) (by omega)) ?_
          conv => whnf
          refine ⟨(by repeat' ((conv => whnf);first|exact trivial|(refine And.intro ?_ ?_)|rfl)), ?_⟩
          refine zd1 [5] (zx rfl ?_ zy)
          conv => whnf
          refine Sy.call_r1 ⟨67, 2, ps.length, ps.map enc2⟩ (fun j => .c (.row j)) Try.call63 (fun e a w' h => cloneP_any (e.rv 1) ps w' (Sy.row_reads h (.inr rfl)) (by omega)) ?_
          conv => whnf
          refine ⟨(by repeat' ((conv => whnf);first|exact trivial|(refine And.intro ?_ ?_)|rfl)), ?_⟩
          refine zt 6 rfl ?_
          conv => whnf
          refine zd1 [8] (zx rfl ?_ zy)
          conv => whnf
          refine ⟨(by repeat' ((conv => whnf);first|exact trivial|(refine And.intro ?_ ?_)|rfl)), ?_⟩
          refine zw ?_
          ((repeat' (first|((conv => whnf);done)|((try conv => whnf);first|exact trivial|(refine And.intro ?_ ?_)|rfl|exact fun _ _ _ h=>h|exact fun _ _ _ _=>trivial)));(all_goals (try conv => whnf)))
    · conv => whnf
      ((repeat' ((conv => whnf);(first|refine zA ?_|(refine zI ?_ ?_<;> intro hh<;> first|(exfalso;omega)|skip)|(refine zl ?_ ?_<;> intro hh)|refine zq ?_|refine zv ?_|refine zu ?_|exact Sy.fin_val fun e=>rfl)));(all_goals (try conv => whnf)))
      refine Sy.call_in Sy.lv32 Sy.tab_ok Try.func32 rfl _ Try.ntmps32 Try.call32 rfl (fun _ => ?_)
      ((repeat' ((conv => whnf);(first|refine zA ?_|(refine zI ?_ ?_<;> intro hh<;> first|(exfalso;omega)|skip)|(refine zl ?_ ?_<;> intro hh)|refine zq ?_|refine zv ?_|refine zu ?_|exact Sy.fin_val fun e=>rfl)));(all_goals (try conv => whnf)))
      refine Sy.draw_go [] (by kernel_rfl) ?_
      intro e0
      conv => whnf
      refine zt 0 rfl ?_
      conv => whnf
      refine zt 1 rfl ?_
      conv => whnf
      refine zt 2 rfl ?_
      conv => whnf
      refine zt 3 rfl ?_
      conv => whnf
      refine zt 4 rfl ?_
      conv => whnf
      refine zd1 [5] (zx rfl ?_ zy)
      conv => whnf
      refine Sy.call_ex (srchP ws x.1) (fun x => .tup [.c (.v (.int .i64 x.1)), .c (.v (.bool x.2))]) Try.call33 (fun _ _ => rfl) (fun e a w' h => worker_any (e.rv 8) (e.rv 9) ws ps x.1 w' (Sy.row_reads h (.inl ⟨_, rfl⟩)) (Sy.row_reads h (.inl ⟨_, rfl⟩)) (by omega)) (fun r hr => ?_)
      obtain ⟨i, there⟩ := r
      conv => whnf
      refine ⟨(by repeat' ((conv => whnf);first|exact trivial|(refine And.intro ?_ ?_)|rfl)), ?_⟩
      refine zt 6 rfl ?_
      conv => whnf
      refine zt 7 rfl ?_
      conv => whnf
      refine zt 8 rfl ?_
      conv => whnf
      refine zt 9 rfl ?_
      conv => whnf
      refine zt 10 rfl ?_
      conv => whnf
      refine zw ?_
      skip
      ((repeat' ((conv => whnf);(first|refine zA ?_|(refine zI ?_ ?_<;> intro hh<;> first|(exfalso;omega)|skip)|(refine zl ?_ ?_<;> intro hh)|refine zq ?_|refine zv ?_|refine zu ?_|exact Sy.fin_val fun e=>rfl)));(all_goals (try conv => whnf)))
      refine Sy.call_val (.c (.v (.bool (decide (okW x))))) Try.call34 rfl (fun e a w' h => right_any x w') ?_
      by_cases hx : okW x
      · rw [if_pos hx] at hE
        rw [decide_eq_true hx]
        have ha : asc ws := by unfold FlOk at hok; exact hok.1.2
        obtain ⟨hr1, hr2, hr0⟩ := hr
        obtain ⟨hr3, hr4, hr5⟩ := hr0 ha
        clear hr0
        dsimp only at hr1 hr2 hr3 hr4 hr5
        cases there with
        | true =>
          rw [if_pos (by obtain ⟨p, hp, he⟩ := hr2 rfl; exact ⟨p, List.mem_of_getElem? hp, he⟩)] at hE
          rw [hE, if_neg (by decide)] at hV
          rw [hE, hV]
          ((repeat' ((conv => whnf);(first|refine zA ?_|(refine zI ?_ ?_<;> intro hh<;> first|(exfalso;omega)|skip)|(refine zl ?_ ?_<;> intro hh)|refine zq ?_|refine zv ?_|refine zu ?_|exact Sy.fin_val fun e=>rfl)));(all_goals (try conv => whnf)))
          exact Sy.fin_r2 (.v (.slice none 0 0)) (.v (.slice none 0 0)) ⟨rfl, rfl⟩ ⟨rfl, rfl⟩
        | false =>
          have hno := hr5 rfl
          rw [if_neg (by rintro ⟨p, hp, he⟩; exact hno p hp he)] at hE
          rw [hE, if_pos rfl, ← ins_eq hr3 hr4 hno] at hV
          rw [hE, hV]
          have hil := insL_len x hr1
          ((repeat' ((conv => whnf);(first|refine zA ?_|(refine zI ?_ ?_<;> intro hh<;> first|(exfalso;omega)|skip)|(refine zl ?_ ?_<;> intro hh)|refine zq ?_|refine zv ?_|refine zu ?_|exact Sy.fin_val fun e=>rfl)));(all_goals (try conv => whnf)))
          refine Sy.draw_go [8,10] (by kernel_rfl) ?_
          intro e0
          conv => whnf
          refine zt 0 rfl ?_
          conv => whnf
          refine zt 1 rfl ?_
          conv => whnf
          refine zt 2 rfl ?_
          conv => whnf
          refine zt 3 rfl ?_
          conv => whnf
          refine zt 5 rfl ?_
          conv => whnf
          refine zt 6 rfl ?_
          conv => whnf
          focus
            refine zd1 [4, 7] (zx rfl ?_ (zx rfl ?_ zy))
            focus
              conv => whnf
              refine ⟨(by repeat' ((conv => whnf);first|exact trivial|(refine And.intro ?_ ?_)|rfl)), ?_⟩
              refine zd1 [7] (zx rfl ?_ zy)
              conv => whnf
              refine ⟨(by repeat' ((conv => whnf);first|exact trivial|(refine And.intro ?_ ?_)|rfl)), ?_⟩
              refine zd1 [8] (zx rfl ?_ zy)
              conv => whnf
              refine Sy.call_k1 8 ⟨31, 2, ws.length + 1, (insL ws i x).map enc2⟩ (fun j => .c (.row j)) Try.call35 (fun e a w' h => insertW_any (e.rv 8) (e.rv 11) ws i x w' (h.hp 8 _ rfl).1 (h.hp 11 _ rfl).1 (fun b h1 h2 => h.sep 11 8 _ _ b rfl rfl (by decide) h1 h2) hr1 (by omega)) ?_ (hj := ⟨_, _, _, _, rfl⟩)
              conv => whnf
              refine ⟨(by repeat' ((conv => whnf);first|exact trivial|(refine And.intro ?_ ?_)|rfl)), ?_⟩
              refine zt 9 rfl ?_
              conv => whnf
              refine zt 10 rfl ?_
              conv => whnf
              refine zd1 [11] (zx rfl ?_ zy)
              conv => whnf
              refine ⟨(by repeat' ((conv => whnf);first|exact trivial|(refine And.intro ?_ ?_)|rfl)), ?_⟩
              refine zw ?_
              skip
            rotate_right
            focus
              conv => whnf
              refine ⟨(by repeat' ((conv => whnf);first|exact trivial|(refine And.intro ?_ ?_)|rfl)), ?_⟩
              refine zd1 [4] (zx rfl ?_ zy)
              conv => whnf
              refine ⟨(by repeat' ((conv => whnf);first|exact trivial|(refine And.intro ?_ ?_)|rfl)), ?_⟩
              refine zd1 [8] (zx rfl ?_ zy)
              conv => whnf
              refine Sy.call_k1 8 ⟨31, 2, ws.length + 1, (insL ws i x).map enc2⟩ (fun j => .c (.row j)) Try.call35 (fun e a w' h => insertW_any (e.rv 8) (e.rv 11) ws i x w' (h.hp 8 _ rfl).1 (h.hp 11 _ rfl).1 (fun b h1 h2 => h.sep 11 8 _ _ b rfl rfl (by decide) h1 h2) hr1 (by omega)) ?_ (hj := ⟨_, _, _, _, rfl⟩)
              conv => whnf
              refine ⟨(by repeat' ((conv => whnf);first|exact trivial|(refine And.intro ?_ ?_)|rfl)), ?_⟩
              refine zt 9 rfl ?_
              conv => whnf
              refine zt 10 rfl ?_
              conv => whnf
              refine zd1 [11] (zx rfl ?_ zy)
              conv => whnf
              refine ⟨(by repeat' ((conv => whnf);first|exact trivial|(refine And.intro ?_ ?_)|rfl)), ?_⟩
              refine zw ?_
              skip
          all_goals (((repeat' ((conv => whnf);(first|refine zA ?_|(refine zI ?_ ?_<;> intro hh<;> first|(exfalso;omega)|skip)|(refine zl ?_ ?_<;> intro hh)|refine zq ?_|refine zv ?_|refine zu ?_|exact Sy.fin_val fun e=>rfl)));(all_goals (try conv => whnf))))
          all_goals (refine Sy.fin_r2 (.row 12) (.row 9) ?_ rfl (fun _ => by decide) (fun e => rfl))
          all_goals (rw [hil]; rfl)
      · rw [if_neg hx] at hE
        rw [hE, if_neg (by decide)] at hV
        rw [hE, hV, decide_eq_false hx]
        ((repeat' ((conv => whnf);(first|refine zA ?_|(refine zI ?_ ?_<;> intro hh<;> first|(exfalso;omega)|skip)|(refine zl ?_ ?_<;> intro hh)|refine zq ?_|refine zv ?_|refine zu ?_|exact Sy.fin_val fun e=>rfl)));(all_goals (try conv => whnf)))
        exact Sy.fin_r2 (.v (.slice none 0 0)) (.v (.slice none 0 0)) ⟨rfl, rfl⟩ ⟨rfl, rfl⟩
  · rw [show chkE ws ps = 210 from if_neg hok]
    rw [if_neg hok] at hE
    rw [hE, if_neg (by decide)] at hV
    rw [hE, hV]
    ((repeat' ((conv => whnf);(first|refine zA ?_|(refine zI ?_ ?_<;> intro hh<;> first|(exfalso;omega)|skip)|(refine zl ?_ ?_<;> intro hh)|refine zq ?_|refine zv ?_|refine zu ?_|exact Sy.fin_val fun e=>rfl)));(all_goals (try conv => whnf)))
    exact Sy.fin_r2 (.v (.slice none 0 0)) (.v (.slice none 0 0)) ⟨rfl, rfl⟩ ⟨rfl, rfl⟩
end Go.Proofs.Ytjhjmeajdebcbaa
