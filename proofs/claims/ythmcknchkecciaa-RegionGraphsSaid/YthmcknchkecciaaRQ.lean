/- Region: the law All. -/
import Derived.Test.YthmcknchkecciaaRP
namespace Go.Proofs.Ythmcknchkecciaa
open Go Go.RowKit
open Sy (C SV V1 Blk St XD Els)
set_option maxRecDepth 10000

theorem short_call {X : Sy.Cx} {S : St} {d : Option Nat} {K : St → Prop} (gv : Value) (gl : List OpV) (hP : X.P = Try.prog) (hr : GOk (fun b => b < X.w0.heap.size) X.w0 gv gl) (ho : ∀ b, ¬ X.own b) (h : Sy.lendGo S d [.agg [.v gv]] (shortC gv gl) K) :
    Sy.callP X S d 12 [.agg [.v gv]] K := by
  refine Sy.call_own (by rw [hP]; exact short_does gv gl hr.one) (by rw [hP]; exact Try.call12) h (fun e a w' F' h hF' => (GOk.later h (hr.mono fun b hb => ⟨hb, ho b⟩)).mono hF') (fun _ ls G G' w1 w2 hq hG hk o ho => (hq o ho).keep hG hk)
attribute [local irreducible] checkV ofL regOf allL
set_option maxHeartbeats 4000000 in
theorem ralllaw_any (v : Value) (gs : List (Value × List OpV)) (w : World) (hr : GsOk (fun b => b < w.heap.size) w v gs) :
    Calls Try.prog 3 #[v] w (Sy.Ret (.bool true) w) := by
  have hl := ok_len hr.1
  refine Sy.calls_of Sy.lv3 Sy.tab_ok Try.func3 rfl _ Try.ntmps3 [⟨v, 1, gs.length, gs.map encGr⟩] [.c (.row 0)] rfl rfl rfl ⟨hr.1, trivial⟩ ?_
  ((repeat' ((conv => whnf);(first|refine zA ?_|(refine zI ?_ ?_<;> intro hh<;> first|(exfalso;omega)|skip)|(refine zl ?_ ?_<;> intro hh)|refine zq ?_|refine zv ?_|exact Sy.fin_val fun e=>rfl)));(all_goals (try conv => whnf)))
  refine Sy.call_val (.c (.v (.bool true))) Try.call11 rfl (fun e a w' h => wakes_any w') ?_
  ((repeat' ((conv => whnf);(first|refine zA ?_|(refine zI ?_ ?_<;> intro hh<;> first|(exfalso;omega)|skip)|(refine zl ?_ ?_<;> intro hh)|refine zq ?_|refine zv ?_|exact Sy.fin_val fun e=>rfl)));(all_goals (try conv => whnf)))
  refine Sy.loop_learn Sy.tab_ok (fun x : Nat × (Nat → Prop) × (World → Prop) => [(17, .c (.v (.int .i64 x.1)))]) (fun x => []) (fun x => x.2.1) (fun x => x.2.2) (fun x => x.1 ≤ gs.length ∧ x.1 ≤ 8) (fun x => gs.length - x.1) (0, fun b => b < w.heap.size ∧ ¬ (fun _ : Nat => False) b, fun _ => True) ⟨Nat.zero_le _, Nat.zero_le _⟩ ?_ (fun x hn => ?_)
  · ((repeat' (first|((conv => whnf);done)|((try conv => whnf);first|exact trivial|(refine And.intro ?_ ?_)|rfl|exact fun _ _ _ h=>h|exact fun _ _ _ _=>trivial)));(all_goals (try conv => whnf)))
  · obtain ⟨n, F, E⟩ := x
    dsimp only at hn ⊢
    ((repeat' ((conv => whnf);(first|refine zA ?_|(refine zI ?_ ?_<;> intro hh<;> first|(exfalso;omega)|skip)|(refine zl ?_ ?_<;> intro hh)|refine zq ?_|refine zv ?_|exact Sy.fin_val fun e=>rfl)));(all_goals (try conv => whnf)))
    · have hlt : n < gs.length := by omega
      have hg := List.getElem?_eq_getElem hlt
      generalize gs[n] = p at *
      have hp := hr.2 p (List.mem_of_getElem? hg)
      refine Sy.el_map p hg ?_
      ((repeat' ((conv => whnf);(first|refine zA ?_|(refine zI ?_ ?_<;> intro hh<;> first|(exfalso;omega)|skip)|(refine zl ?_ ?_<;> intro hh)|refine zq ?_|refine zv ?_|exact Sy.fin_val fun e=>rfl)));(all_goals (try conv => whnf)))
      refine Sy.meetL (fun j : List OpV × List OpV × (Nat → Prop) × (Nat → Prop) => [.row 62 5 j.1.length (.vs (j.1.map encOV)), .row 62 5 j.2.1.length (.vs (j.2.1.map encOV)), .cells 26 [.row 2], .cells 26 [.row 3]])
        (fun j => [(5, .c (.loc 4 0)), (6, .c (.loc 5 0))]) (fun j => []) (fun j b => (F b ∨ j.2.2.1 b) ∨ j.2.2.2 b)
        (fun j w' => (E w' ∧ (∀ b, j.2.2.1 b → ¬ F b) ∧ ∀ o ∈ j.1, OOk (fun b => F b ∨ j.2.2.1 b) w' o) ∧ (∀ b, j.2.2.2 b → ¬ (F b ∨ j.2.2.1 b)) ∧ ∀ o ∈ j.2.1, OOk (fun b => (F b ∨ j.2.2.1 b) ∨ j.2.2.2 b) w' o)
        (fun j => opsOf j.1 = shortM (opsOf p.2) ∧ opsOf j.2.1 = shortM (opsOf p.2)) Sy.tab_ok ?_ (fun j hj => ?_)
      · refine Sy.draw_go [] (by kernel_rfl) ?_
        intro e0
        conv => whnf
        refine zt 0 rfl ?_
        conv => whnf
        refine zt 2 rfl ?_
        conv => whnf
        focus
          refine zd1 [1, 4, 5] (zx rfl ?_ (zx rfl ?_ (zx rfl ?_ zy)))
          focus
            conv => whnf
            refine short_call p.1 p.2 rfl hp (fun _ h => h) ?_
            ((conv => whnf);(refine And.intro ?_ (And.intro ?_ (And.intro ?_ (And.intro ?_ ?_))));(all_goals ((repeat' (first|((conv => whnf);done)|((try conv => whnf);first|exact trivial|(refine And.intro ?_ ?_)|rfl|exact fun _ _ _ h=>h|exact fun _ _ _ _=>trivial)));(all_goals (try conv => whnf))));rotate_right)
            intro ls1 hls1 G1
            conv => whnf
            refine ⟨(by repeat' ((conv => whnf);first|exact trivial|(refine And.intro ?_ ?_)|rfl)), ?_⟩
            focus
              refine zd1 [3, 4, 5] (zx rfl ?_ (zx rfl ?_ (zx rfl ?_ zy)))
              focus
                conv => whnf
                refine short_call p.1 p.2 rfl hp (fun _ h => h) ?_
                ((conv => whnf);(refine And.intro ?_ (And.intro ?_ (And.intro ?_ (And.intro ?_ ?_))));(all_goals ((repeat' (first|((conv => whnf);done)|((try conv => whnf);first|exact trivial|(refine And.intro ?_ ?_)|rfl|exact fun _ _ _ h=>h|exact fun _ _ _ _=>trivial)));(all_goals (try conv => whnf))));rotate_right)
                intro ls2 hls2 G2
                conv => whnf
                refine ⟨(by repeat' ((conv => whnf);first|exact trivial|(refine And.intro ?_ ?_)|rfl)), ?_⟩
                focus
                  refine zd1 [4, 5] (zx rfl ?_ (zx rfl ?_ zy))
                  focus
                    conv => whnf
                    refine ⟨(by repeat' ((conv => whnf);first|exact trivial|(refine And.intro ?_ ?_)|rfl)), ?_⟩
                    refine zd1 [5] (zx rfl ?_ zy)
                    conv => whnf
                    refine ⟨(by repeat' ((conv => whnf);first|exact trivial|(refine And.intro ?_ ?_)|rfl)), ?_⟩
                    refine zd1 [6] (zx rfl ?_ zy)
                    conv => whnf
                    refine ⟨(by repeat' ((conv => whnf);first|exact trivial|(refine And.intro ?_ ?_)|rfl)), ?_⟩
                    refine zd1 [7] (zx rfl ?_ zy)
                    conv => whnf
                    refine ⟨(by repeat' ((conv => whnf);first|exact trivial|(refine And.intro ?_ ?_)|rfl)), ?_⟩
                    refine zw ?_
                    refine ⟨(ls1, ls2, G1, G2), ⟨hls1, hls2⟩, ?_⟩
                    ((repeat' (first|((conv => whnf);done)|((try conv => whnf);first|exact trivial|(refine And.intro ?_ ?_)|rfl|exact fun _ _ _ h=>h|exact fun _ _ _ _=>trivial)));(all_goals (try conv => whnf)))
                  rotate_right
                  focus
                    conv => whnf
                    refine ⟨(by repeat' ((conv => whnf);first|exact trivial|(refine And.intro ?_ ?_)|rfl)), ?_⟩
                    refine zd1 [4] (zx rfl ?_ zy)
                    conv => whnf
                    refine ⟨(by repeat' ((conv => whnf);first|exact trivial|(refine And.intro ?_ ?_)|rfl)), ?_⟩
                    refine zd1 [6] (zx rfl ?_ zy)
                    conv => whnf
                    refine ⟨(by repeat' ((conv => whnf);first|exact trivial|(refine And.intro ?_ ?_)|rfl)), ?_⟩
                    refine zd1 [7] (zx rfl ?_ zy)
                    conv => whnf
                    refine ⟨(by repeat' ((conv => whnf);first|exact trivial|(refine And.intro ?_ ?_)|rfl)), ?_⟩
                    refine zw ?_
                    refine ⟨(ls1, ls2, G1, G2), ⟨hls1, hls2⟩, ?_⟩
                    ((repeat' (first|((conv => whnf);done)|((try conv => whnf);first|exact trivial|(refine And.intro ?_ ?_)|rfl|exact fun _ _ _ h=>h|exact fun _ _ _ _=>trivial)));(all_goals (try conv => whnf)))
              rotate_right
              focus
                conv => whnf
                refine ⟨(by repeat' ((conv => whnf);first|exact trivial|(refine And.intro ?_ ?_)|rfl)), ?_⟩
                focus
                  refine zd1 [3, 4] (zx rfl ?_ (zx rfl ?_ zy))
                  focus
                    conv => whnf
                    refine short_call p.1 p.2 rfl hp (fun _ h => h) ?_
                    ((conv => whnf);(refine And.intro ?_ (And.intro ?_ (And.intro ?_ (And.intro ?_ ?_))));(all_goals ((repeat' (first|((conv => whnf);done)|((try conv => whnf);first|exact trivial|(refine And.intro ?_ ?_)|rfl|exact fun _ _ _ h=>h|exact fun _ _ _ _=>trivial)));(all_goals (try conv => whnf))));rotate_right)
                    intro ls2 hls2 G2
                    conv => whnf
                    refine ⟨(by repeat' ((conv => whnf);first|exact trivial|(refine And.intro ?_ ?_)|rfl)), ?_⟩
                    refine zd1 [4] (zx rfl ?_ zy)
                    conv => whnf
                    refine ⟨(by repeat' ((conv => whnf);first|exact trivial|(refine And.intro ?_ ?_)|rfl)), ?_⟩
                    refine zd1 [6] (zx rfl ?_ zy)
                    conv => whnf
                    refine ⟨(by repeat' ((conv => whnf);first|exact trivial|(refine And.intro ?_ ?_)|rfl)), ?_⟩
                    refine zd1 [7] (zx rfl ?_ zy)
                    conv => whnf
                    refine ⟨(by repeat' ((conv => whnf);first|exact trivial|(refine And.intro ?_ ?_)|rfl)), ?_⟩
                    refine zw ?_
                    refine ⟨(ls1, ls2, G1, G2), ⟨hls1, hls2⟩, ?_⟩
                    ((repeat' (first|((conv => whnf);done)|((try conv => whnf);first|exact trivial|(refine And.intro ?_ ?_)|rfl|exact fun _ _ _ h=>h|exact fun _ _ _ _=>trivial)));(all_goals (try conv => whnf)))
                  rotate_right
                  focus
                    conv => whnf
                    refine ⟨(by repeat' ((conv => whnf);first|exact trivial|(refine And.intro ?_ ?_)|rfl)), ?_⟩
                    refine zd1 [3] (zx rfl ?_ zy)
                    conv => whnf
                    refine short_call p.1 p.2 rfl hp (fun _ h => h) ?_
                    ((conv => whnf);(refine And.intro ?_ (And.intro ?_ (And.intro ?_ (And.intro ?_ ?_))));(all_goals ((repeat' (first|((conv => whnf);done)|((try conv => whnf);first|exact trivial|(refine And.intro ?_ ?_)|rfl|exact fun _ _ _ h=>h|exact fun _ _ _ _=>trivial)));(all_goals (try conv => whnf))));rotate_right)
                    intro ls2 hls2 G2
                    conv => whnf
                    refine ⟨(by repeat' ((conv => whnf);first|exact trivial|(refine And.intro ?_ ?_)|rfl)), ?_⟩
                    refine zd1 [6] (zx rfl ?_ zy)
                    conv => whnf
                    refine ⟨(by repeat' ((conv => whnf);first|exact trivial|(refine And.intro ?_ ?_)|rfl)), ?_⟩
                    refine zd1 [7] (zx rfl ?_ zy)
                    conv => whnf
                    refine ⟨(by repeat' ((conv => whnf);first|exact trivial|(refine And.intro ?_ ?_)|rfl)), ?_⟩
                    refine zw ?_
                    refine ⟨(ls1, ls2, G1, G2), ⟨hls1, hls2⟩, ?_⟩
                    ((repeat' (first|((conv => whnf);done)|((try conv => whnf);first|exact trivial|(refine And.intro ?_ ?_)|rfl|exact fun _ _ _ h=>h|exact fun _ _ _ _=>trivial)));(all_goals (try conv => whnf)))
              rotate_right
              focus
                conv => whnf
                refine ⟨(by repeat' ((conv => whnf);first|exact trivial|(refine And.intro ?_ ?_)|rfl)), ?_⟩
                focus
                  refine zd1 [3, 5] (zx rfl ?_ (zx rfl ?_ zy))
                  focus
                    conv => whnf
                    refine short_call p.1 p.2 rfl hp (fun _ h => h) ?_
                    ((conv => whnf);(refine And.intro ?_ (And.intro ?_ (And.intro ?_ (And.intro ?_ ?_))));(all_goals ((repeat' (first|((conv => whnf);done)|((try conv => whnf);first|exact trivial|(refine And.intro ?_ ?_)|rfl|exact fun _ _ _ h=>h|exact fun _ _ _ _=>trivial)));(all_goals (try conv => whnf))));rotate_right)
                    intro ls2 hls2 G2
                    conv => whnf
                    refine ⟨(by repeat' ((conv => whnf);first|exact trivial|(refine And.intro ?_ ?_)|rfl)), ?_⟩
                    refine zd1 [5] (zx rfl ?_ zy)
                    conv => whnf
                    refine ⟨(by repeat' ((conv => whnf);first|exact trivial|(refine And.intro ?_ ?_)|rfl)), ?_⟩
                    refine zd1 [6] (zx rfl ?_ zy)
                    conv => whnf
                    refine ⟨(by repeat' ((conv => whnf);first|exact trivial|(refine And.intro ?_ ?_)|rfl)), ?_⟩
                    refine zd1 [7] (zx rfl ?_ zy)
                    conv => whnf
                    refine ⟨(by repeat' ((conv => whnf);first|exact trivial|(refine And.intro ?_ ?_)|rfl)), ?_⟩
                    refine zw ?_
                    refine ⟨(ls1, ls2, G1, G2), ⟨hls1, hls2⟩, ?_⟩
                    ((repeat' (first|((conv => whnf);done)|((try conv => whnf);first|exact trivial|(refine And.intro ?_ ?_)|rfl|exact fun _ _ _ h=>h|exact fun _ _ _ _=>trivial)));(all_goals (try conv => whnf)))
                  rotate_right
                  focus
                    conv => whnf
                    refine ⟨(by repeat' ((conv => whnf);first|exact trivial|(refine And.intro ?_ ?_)|rfl)), ?_⟩
                    refine zd1 [3] (zx rfl ?_ zy)
                    conv => whnf
                    refine short_call p.1 p.2 rfl hp (fun _ h => h) ?_
                    ((conv => whnf);(refine And.intro ?_ (And.intro ?_ (And.intro ?_ (And.intro ?_ ?_))));(all_goals ((repeat' (first|((conv => whnf);done)|((try conv => whnf);first|exact trivial|(refine And.intro ?_ ?_)|rfl|exact fun _ _ _ h=>h|exact fun _ _ _ _=>trivial)));(all_goals (try conv => whnf))));rotate_right)
                    intro ls2 hls2 G2
                    conv => whnf
                    refine ⟨(by repeat' ((conv => whnf);first|exact trivial|(refine And.intro ?_ ?_)|rfl)), ?_⟩
                    refine zd1 [6] (zx rfl ?_ zy)
                    conv => whnf
                    refine ⟨(by repeat' ((conv => whnf);first|exact trivial|(refine And.intro ?_ ?_)|rfl)), ?_⟩
                    refine zd1 [7] (zx rfl ?_ zy)
                    conv => whnf
                    refine ⟨(by repeat' ((conv => whnf);first|exact trivial|(refine And.intro ?_ ?_)|rfl)), ?_⟩
                    refine zw ?_
                    refine ⟨(ls1, ls2, G1, G2), ⟨hls1, hls2⟩, ?_⟩
                    ((repeat' (first|((conv => whnf);done)|((try conv => whnf);first|exact trivial|(refine And.intro ?_ ?_)|rfl|exact fun _ _ _ h=>h|exact fun _ _ _ _=>trivial)));(all_goals (try conv => whnf)))
          rotate_right
          focus
            conv => whnf
            refine ⟨(by repeat' ((conv => whnf);first|exact trivial|(refine And.intro ?_ ?_)|rfl)), ?_⟩
            focus
              refine zd1 [1, 4] (zx rfl ?_ (zx rfl ?_ zy))
              focus
                conv => whnf
                refine short_call p.1 p.2 rfl hp (fun _ h => h) ?_
                ((conv => whnf);(refine And.intro ?_ (And.intro ?_ (And.intro ?_ (And.intro ?_ ?_))));(all_goals ((repeat' (first|((conv => whnf);done)|((try conv => whnf);first|exact trivial|(refine And.intro ?_ ?_)|rfl|exact fun _ _ _ h=>h|exact fun _ _ _ _=>trivial)));(all_goals (try conv => whnf))));rotate_right)
                intro ls1 hls1 G1
                conv => whnf
                refine ⟨(by repeat' ((conv => whnf);first|exact trivial|(refine And.intro ?_ ?_)|rfl)), ?_⟩
                focus
                  refine zd1 [3, 4] (zx rfl ?_ (zx rfl ?_ zy))
                  focus
                    conv => whnf
                    refine short_call p.1 p.2 rfl hp (fun _ h => h) ?_
                    ((conv => whnf);(refine And.intro ?_ (And.intro ?_ (And.intro ?_ (And.intro ?_ ?_))));(all_goals ((repeat' (first|((conv => whnf);done)|((try conv => whnf);first|exact trivial|(refine And.intro ?_ ?_)|rfl|exact fun _ _ _ h=>h|exact fun _ _ _ _=>trivial)));(all_goals (try conv => whnf))));rotate_right)
                    intro ls2 hls2 G2
                    conv => whnf
                    refine ⟨(by repeat' ((conv => whnf);first|exact trivial|(refine And.intro ?_ ?_)|rfl)), ?_⟩
                    refine zd1 [4] (zx rfl ?_ zy)
                    conv => whnf
                    refine ⟨(by repeat' ((conv => whnf);first|exact trivial|(refine And.intro ?_ ?_)|rfl)), ?_⟩
                    refine zd1 [6] (zx rfl ?_ zy)
                    conv => whnf
                    refine ⟨(by repeat' ((conv => whnf);first|exact trivial|(refine And.intro ?_ ?_)|rfl)), ?_⟩
                    refine zd1 [7] (zx rfl ?_ zy)
                    conv => whnf
                    refine ⟨(by repeat' ((conv => whnf);first|exact trivial|(refine And.intro ?_ ?_)|rfl)), ?_⟩
                    refine zw ?_
                    refine ⟨(ls1, ls2, G1, G2), ⟨hls1, hls2⟩, ?_⟩
                    ((repeat' (first|((conv => whnf);done)|((try conv => whnf);first|exact trivial|(refine And.intro ?_ ?_)|rfl|exact fun _ _ _ h=>h|exact fun _ _ _ _=>trivial)));(all_goals (try conv => whnf)))
                  rotate_right
                  focus
                    conv => whnf
                    refine ⟨(by repeat' ((conv => whnf);first|exact trivial|(refine And.intro ?_ ?_)|rfl)), ?_⟩
                    refine zd1 [3] (zx rfl ?_ zy)
                    conv => whnf
                    refine short_call p.1 p.2 rfl hp (fun _ h => h) ?_
                    ((conv => whnf);(refine And.intro ?_ (And.intro ?_ (And.intro ?_ (And.intro ?_ ?_))));(all_goals ((repeat' (first|((conv => whnf);done)|((try conv => whnf);first|exact trivial|(refine And.intro ?_ ?_)|rfl|exact fun _ _ _ h=>h|exact fun _ _ _ _=>trivial)));(all_goals (try conv => whnf))));rotate_right)
                    intro ls2 hls2 G2
                    conv => whnf
                    refine ⟨(by repeat' ((conv => whnf);first|exact trivial|(refine And.intro ?_ ?_)|rfl)), ?_⟩
                    refine zd1 [6] (zx rfl ?_ zy)
                    conv => whnf
                    refine ⟨(by repeat' ((conv => whnf);first|exact trivial|(refine And.intro ?_ ?_)|rfl)), ?_⟩
                    refine zd1 [7] (zx rfl ?_ zy)
                    conv => whnf
                    refine ⟨(by repeat' ((conv => whnf);first|exact trivial|(refine And.intro ?_ ?_)|rfl)), ?_⟩
                    refine zw ?_
                    refine ⟨(ls1, ls2, G1, G2), ⟨hls1, hls2⟩, ?_⟩
                    ((repeat' (first|((conv => whnf);done)|((try conv => whnf);first|exact trivial|(refine And.intro ?_ ?_)|rfl|exact fun _ _ _ h=>h|exact fun _ _ _ _=>trivial)));(all_goals (try conv => whnf)))
              rotate_right
              focus
                conv => whnf
                refine ⟨(by repeat' ((conv => whnf);first|exact trivial|(refine And.intro ?_ ?_)|rfl)), ?_⟩
                refine zd1 [1] (zx rfl ?_ zy)
                conv => whnf
                refine short_call p.1 p.2 rfl hp (fun _ h => h) ?_
                ((conv => whnf);(refine And.intro ?_ (And.intro ?_ (And.intro ?_ (And.intro ?_ ?_))));(all_goals ((repeat' (first|((conv => whnf);done)|((try conv => whnf);first|exact trivial|(refine And.intro ?_ ?_)|rfl|exact fun _ _ _ h=>h|exact fun _ _ _ _=>trivial)));(all_goals (try conv => whnf))));rotate_right)
                intro ls1 hls1 G1
                conv => whnf
                refine ⟨(by repeat' ((conv => whnf);first|exact trivial|(refine And.intro ?_ ?_)|rfl)), ?_⟩
                refine zd1 [3] (zx rfl ?_ zy)
                conv => whnf
                refine short_call p.1 p.2 rfl hp (fun _ h => h) ?_
                ((conv => whnf);(refine And.intro ?_ (And.intro ?_ (And.intro ?_ (And.intro ?_ ?_))));(all_goals ((repeat' (first|((conv => whnf);done)|((try conv => whnf);first|exact trivial|(refine And.intro ?_ ?_)|rfl|exact fun _ _ _ h=>h|exact fun _ _ _ _=>trivial)));(all_goals (try conv => whnf))));rotate_right)
                intro ls2 hls2 G2
                conv => whnf
                refine ⟨(by repeat' ((conv => whnf);first|exact trivial|(refine And.intro ?_ ?_)|rfl)), ?_⟩
                refine zd1 [6] (zx rfl ?_ zy)
                conv => whnf
                refine ⟨(by repeat' ((conv => whnf);first|exact trivial|(refine And.intro ?_ ?_)|rfl)), ?_⟩
                refine zd1 [7] (zx rfl ?_ zy)
                conv => whnf
                refine ⟨(by repeat' ((conv => whnf);first|exact trivial|(refine And.intro ?_ ?_)|rfl)), ?_⟩
                refine zw ?_
                refine ⟨(ls1, ls2, G1, G2), ⟨hls1, hls2⟩, ?_⟩
                ((repeat' (first|((conv => whnf);done)|((try conv => whnf);first|exact trivial|(refine And.intro ?_ ?_)|rfl|exact fun _ _ _ h=>h|exact fun _ _ _ _=>trivial)));(all_goals (try conv => whnf)))
          rotate_right
          focus
            conv => whnf
            refine ⟨(by repeat' ((conv => whnf);first|exact trivial|(refine And.intro ?_ ?_)|rfl)), ?_⟩
            focus
              refine zd1 [1, 5] (zx rfl ?_ (zx rfl ?_ zy))
              focus
                conv => whnf
                refine short_call p.1 p.2 rfl hp (fun _ h => h) ?_
                ((conv => whnf);(refine And.intro ?_ (And.intro ?_ (And.intro ?_ (And.intro ?_ ?_))));(all_goals ((repeat' (first|((conv => whnf);done)|((try conv => whnf);first|exact trivial|(refine And.intro ?_ ?_)|rfl|exact fun _ _ _ h=>h|exact fun _ _ _ _=>trivial)));(all_goals (try conv => whnf))));rotate_right)
                intro ls1 hls1 G1
                conv => whnf
                refine ⟨(by repeat' ((conv => whnf);first|exact trivial|(refine And.intro ?_ ?_)|rfl)), ?_⟩
                focus
                  refine zd1 [3, 5] (zx rfl ?_ (zx rfl ?_ zy))
                  focus
                    conv => whnf
                    refine short_call p.1 p.2 rfl hp (fun _ h => h) ?_
                    ((conv => whnf);(refine And.intro ?_ (And.intro ?_ (And.intro ?_ (And.intro ?_ ?_))));(all_goals ((repeat' (first|((conv => whnf);done)|((try conv => whnf);first|exact trivial|(refine And.intro ?_ ?_)|rfl|exact fun _ _ _ h=>h|exact fun _ _ _ _=>trivial)));(all_goals (try conv => whnf))));rotate_right)
                    intro ls2 hls2 G2
                    conv => whnf
                    refine ⟨(by repeat' ((conv => whnf);first|exact trivial|(refine And.intro ?_ ?_)|rfl)), ?_⟩
                    refine zd1 [5] (zx rfl ?_ zy)
                    conv => whnf
                    refine ⟨(by repeat' ((conv => whnf);first|exact trivial|(refine And.intro ?_ ?_)|rfl)), ?_⟩
                    refine zd1 [6] (zx rfl ?_ zy)
                    conv => whnf
                    refine ⟨(by repeat' ((conv => whnf);first|exact trivial|(refine And.intro ?_ ?_)|rfl)), ?_⟩
                    refine zd1 [7] (zx rfl ?_ zy)
                    conv => whnf
                    refine ⟨(by repeat' ((conv => whnf);first|exact trivial|(refine And.intro ?_ ?_)|rfl)), ?_⟩
                    refine zw ?_
                    refine ⟨(ls1, ls2, G1, G2), ⟨hls1, hls2⟩, ?_⟩
                    ((repeat' (first|((conv => whnf);done)|((try conv => whnf);first|exact trivial|(refine And.intro ?_ ?_)|rfl|exact fun _ _ _ h=>h|exact fun _ _ _ _=>trivial)));(all_goals (try conv => whnf)))
                  rotate_right
                  focus
                    conv => whnf
                    refine ⟨(by repeat' ((conv => whnf);first|exact trivial|(refine And.intro ?_ ?_)|rfl)), ?_⟩
                    refine zd1 [3] (zx rfl ?_ zy)
                    conv => whnf
                    refine short_call p.1 p.2 rfl hp (fun _ h => h) ?_
                    ((conv => whnf);(refine And.intro ?_ (And.intro ?_ (And.intro ?_ (And.intro ?_ ?_))));(all_goals ((repeat' (first|((conv => whnf);done)|((try conv => whnf);first|exact trivial|(refine And.intro ?_ ?_)|rfl|exact fun _ _ _ h=>h|exact fun _ _ _ _=>trivial)));(all_goals (try conv => whnf))));rotate_right)
                    intro ls2 hls2 G2
                    conv => whnf
                    refine ⟨(by repeat' ((conv => whnf);first|exact trivial|(refine And.intro ?_ ?_)|rfl)), ?_⟩
                    refine zd1 [6] (zx rfl ?_ zy)
                    conv => whnf
                    refine ⟨(by repeat' ((conv => whnf);first|exact trivial|(refine And.intro ?_ ?_)|rfl)), ?_⟩
                    refine zd1 [7] (zx rfl ?_ zy)
                    conv => whnf
                    refine ⟨(by repeat' ((conv => whnf);first|exact trivial|(refine And.intro ?_ ?_)|rfl)), ?_⟩
                    refine zw ?_
                    refine ⟨(ls1, ls2, G1, G2), ⟨hls1, hls2⟩, ?_⟩
                    ((repeat' (first|((conv => whnf);done)|((try conv => whnf);first|exact trivial|(refine And.intro ?_ ?_)|rfl|exact fun _ _ _ h=>h|exact fun _ _ _ _=>trivial)));(all_goals (try conv => whnf)))
              rotate_right
              focus
                conv => whnf
                refine ⟨(by repeat' ((conv => whnf);first|exact trivial|(refine And.intro ?_ ?_)|rfl)), ?_⟩
                refine zd1 [1] (zx rfl ?_ zy)
                conv => whnf
                refine short_call p.1 p.2 rfl hp (fun _ h => h) ?_
                ((conv => whnf);(refine And.intro ?_ (And.intro ?_ (And.intro ?_ (And.intro ?_ ?_))));(all_goals ((repeat' (first|((conv => whnf);done)|((try conv => whnf);first|exact trivial|(refine And.intro ?_ ?_)|rfl|exact fun _ _ _ h=>h|exact fun _ _ _ _=>trivial)));(all_goals (try conv => whnf))));rotate_right)
                intro ls1 hls1 G1
                conv => whnf
                refine ⟨(by repeat' ((conv => whnf);first|exact trivial|(refine And.intro ?_ ?_)|rfl)), ?_⟩
                refine zd1 [3] (zx rfl ?_ zy)
                conv => whnf
                refine short_call p.1 p.2 rfl hp (fun _ h => h) ?_
                ((conv => whnf);(refine And.intro ?_ (And.intro ?_ (And.intro ?_ (And.intro ?_ ?_))));(all_goals ((repeat' (first|((conv => whnf);done)|((try conv => whnf);first|exact trivial|(refine And.intro ?_ ?_)|rfl|exact fun _ _ _ h=>h|exact fun _ _ _ _=>trivial)));(all_goals (try conv => whnf))));rotate_right)
                intro ls2 hls2 G2
                conv => whnf
                refine ⟨(by repeat' ((conv => whnf);first|exact trivial|(refine And.intro ?_ ?_)|rfl)), ?_⟩
                refine zd1 [6] (zx rfl ?_ zy)
                conv => whnf
                refine ⟨(by repeat' ((conv => whnf);first|exact trivial|(refine And.intro ?_ ?_)|rfl)), ?_⟩
                refine zd1 [7] (zx rfl ?_ zy)
                conv => whnf
                refine ⟨(by repeat' ((conv => whnf);first|exact trivial|(refine And.intro ?_ ?_)|rfl)), ?_⟩
                refine zw ?_
                refine ⟨(ls1, ls2, G1, G2), ⟨hls1, hls2⟩, ?_⟩
                ((repeat' (first|((conv => whnf);done)|((try conv => whnf);first|exact trivial|(refine And.intro ?_ ?_)|rfl|exact fun _ _ _ h=>h|exact fun _ _ _ _=>trivial)));(all_goals (try conv => whnf)))
      · obtain ⟨ls1, ls2, G1, G2⟩ := j
        obtain ⟨hls1, hls2⟩ := hj
        dsimp only at hls1 hls2 ⊢
        conv => whnf
        have hol := opsOf_len ls1
        have hln : ls1.length ≤ 9 := by rw [← hol, hls1]; exact shortM_len _
        have hol2 := opsOf_len ls2
        have hc2 : checkV (opsOf ls2) = checkV (opsOf ls1) := by rw [hls1, hls2]
        refine Sy.call_own (all1_does ls1 (by omega)) Try.call13 ?_ (fun e a w' F' h hF' o ho => ((h.ev w' fun _ _ => rfl).1.2.2 o ho).mono fun b hb => hF' b (.inl hb)) (fun _ us G G' w1 w2 hq hG hk x hx => ⟨(hq x hx).1.keep hG hk, (hq x hx).2⟩)
        ((conv => whnf);(refine And.intro ?_ (And.intro ?_ (And.intro ?_ (And.intro ?_ ?_))));(all_goals ((repeat' (first|((conv => whnf);done)|((try conv => whnf);first|exact trivial|(refine And.intro ?_ ?_)|rfl|exact fun _ _ _ h=>h|exact fun _ _ _ _=>trivial)));(all_goals (try conv => whnf))));rotate_right)
        intro us hus G3
        have hus : rowsOf us = allL (opsOf ls1) := hus
        ((repeat' ((conv => whnf);(first|refine zA ?_|(refine zI ?_ ?_<;> intro hh<;> first|(exfalso;omega)|skip)|(refine zl ?_ ?_<;> intro hh)|refine zq ?_|refine zv ?_|exact Sy.fin_val fun e=>rfl)));(all_goals (try conv => whnf)))
        refine Sy.call_val (.tup [.c (.v (.int .i64 (checkV (opsOf ls1)).1)), .c (.v (.int .i64 (checkV (opsOf ls1)).2))]) Try.call14 rfl (fun e a w' h => by have := rcheck_any (e.rv 3) ls2 w' ⟨Sy.row_reads h (.inl ⟨_, rfl⟩), fun o ho => ((h.ev w' fun _ _ => rfl).1.2.2 o ho).mono fun b hb => h.fl b (.inl hb)⟩; rw [hc2] at this; exact this) ?_
        by_cases h0 : (checkV (opsOf ls1)).2 = 0
        · rw [h0]
          have h02 : (checkV (opsOf ls2)).2 = 0 := by rw [hc2, h0]
          ((repeat' ((conv => whnf);(first|refine zA ?_|(refine zI ?_ ?_<;> intro hh<;> first|(exfalso;omega)|skip)|(refine zl ?_ ?_<;> intro hh)|refine zq ?_|refine zv ?_|exact Sy.fin_val fun e=>rfl)));(all_goals (try conv => whnf)))
          refine Sy.call_own (rall1_does ls2 h02) Try.call15 ?_ (fun e a w' F' h hF' o ho => ((h.ev w' fun _ _ => rfl).1.2.2 o ho).mono fun b hb => hF' b (.inl hb)) (fun _ us G G' w1 w2 hq hG hk x hx => ⟨(hq x hx).1.keep hG hk, (hq x hx).2⟩)
          ((conv => whnf);(refine And.intro ?_ (And.intro ?_ (And.intro ?_ (And.intro ?_ ?_))));(all_goals ((repeat' (first|((conv => whnf);done)|((try conv => whnf);first|exact trivial|(refine And.intro ?_ ?_)|rfl|exact fun _ _ _ h=>h|exact fun _ _ _ _=>trivial)));(all_goals (try conv => whnf))));rotate_right)
          intro us2 hus2 G4
          have hus2 : rowsOf us2 = allL (opsOf ls1) := by rw [hls1, ← hls2]; exact hus2
          have hul : us.length = us2.length := by
            have := congrArg List.length (hus.trans hus2.symm)
            unfold rowsOf at this
            simpa using this
          have hub : us.length ≤ 9 := by
            have := congrArg List.length hus
            unfold rowsOf at this
            rw [List.length_map] at this
            unfold allL at this
            rw [if_pos h0] at this
            have h2 := allN_len (opsOf ls1) (opsOf ls1).length
            omega
          ((repeat' ((conv => whnf);(first|refine zA ?_|(refine zI ?_ ?_<;> intro hh<;> first|(exfalso;omega)|skip)|(refine zl ?_ ?_<;> intro hh)|refine zq ?_|refine zv ?_|exact Sy.fin_val fun e=>rfl)));(all_goals (try conv => whnf)))
          refine Sy.loop_inv Sy.tab_ok (fun k : Nat => [(61, .c (.v (.int .i64 k)))]) (fun k => []) (fun k => k ≤ us.length) (fun k => us.length - k) 0 (Nat.zero_le _) ?_ (fun k hk => ?_)
          · ((repeat' (first|((conv => whnf);done)|((try conv => whnf);first|exact trivial|(refine And.intro ?_ ?_)|rfl|exact fun _ _ _ h=>h|exact fun _ _ _ _=>trivial)));(all_goals (try conv => whnf)))
          · ((repeat' ((conv => whnf);(first|refine zA ?_|(refine zI ?_ ?_<;> intro hh<;> first|(exfalso;omega)|skip)|(refine zl ?_ ?_<;> intro hh)|refine zq ?_|refine zv ?_|exact Sy.fin_val fun e=>rfl)));(all_goals (try conv => whnf)))
            · have hlk : k < us.length := by omega
              have hg1 := List.getElem?_eq_getElem hlk
              have hg2 := List.getElem?_eq_getElem (show k < us2.length by omega)
              have hsm : us[k].2 = (us2[k]'(by omega)).2 := by
                have := congrArg (fun l => l[k]?) (hus.trans hus2.symm)
                unfold rowsOf at this
                rw [List.getElem?_map, List.getElem?_map, hg1, hg2] at this
                simpa using this
              generalize us[k] = x1 at *
              generalize us2[k]'(by omega) = x2 at *
              have hm1 := List.mem_of_getElem? hg1
              have hm2 := List.mem_of_getElem? hg2
              refine Sy.draw_go [] (by kernel_rfl) ?_
              intro e0
              conv => whnf
              refine zt 0 rfl ?_
              conv => whnf
              refine zt 1 rfl ?_
              conv => whnf
              refine zt 2 rfl ?_
              (conv => whnf);(repeat' ((first|refine zA ?_|(refine zI ?_ ?_<;> intro hh<;> first|(exfalso;omega)|skip)|(refine zl ?_ ?_<;> intro hh)|refine zq ?_|refine zv ?_|refine zu ?_|exact Sy.fin_val fun e=>rfl);(try conv => whnf)))
              refine zt 3 rfl ?_
              conv => whnf
              refine Sy.el_map x1 hg1 ?_
              conv => whnf
              conv => whnf
              refine zt 4 rfl ?_
              conv => whnf
              refine zt 5 rfl ?_
              conv => whnf
              refine zt 6 rfl ?_
              (conv => whnf);(repeat' ((first|refine zA ?_|(refine zI ?_ ?_<;> intro hh<;> first|(exfalso;omega)|skip)|(refine zl ?_ ?_<;> intro hh)|refine zq ?_|refine zv ?_|refine zu ?_|exact Sy.fin_val fun e=>rfl);(try conv => whnf)))
              refine zt 7 rfl ?_
              conv => whnf
              refine Sy.el_map x2 hg2 ?_
              conv => whnf
              conv => whnf
              refine zd1 [8] (zx rfl ?_ zy)
              conv => whnf
              refine Sy.call_val (.c (.v (.bool true))) Try.call16 rfl (fun e a w' h => by have := same10_any x1.1 x2.1 x1.2 x2.2 w' (XD.ok.mono ((h.ev w' fun _ _ => rfl).1.2.2 x1 hm1) fun b hb => h.fl b (.inl hb)) (XD.ok.mono ((h.ev w' fun _ _ => rfl).2.2 x2 hm2) fun b hb => h.fl b hb); rw [decide_eq_true hsm] at this; exact this) ?_
              conv => whnf
              refine ⟨(by repeat' ((conv => whnf);first|exact trivial|(refine And.intro ?_ ?_)|rfl)), ?_⟩
              refine zt 9 rfl ?_
              (conv => whnf);(repeat' ((first|refine zA ?_|(refine zI ?_ ?_<;> intro hh<;> first|(exfalso;omega)|skip)|(refine zl ?_ ?_<;> intro hh)|refine zq ?_|refine zv ?_|refine zu ?_|exact Sy.fin_val fun e=>rfl);(try conv => whnf)))
              refine zw ?_
              skip
              ((repeat' ((conv => whnf);(first|refine zA ?_|(refine zI ?_ ?_<;> intro hh<;> first|(exfalso;omega)|skip)|(refine zl ?_ ?_<;> intro hh)|refine zq ?_|refine zv ?_|exact Sy.fin_val fun e=>rfl)));(all_goals (try conv => whnf)))
              refine ⟨k + 1, by omega, by omega, ?_⟩
              ((repeat' (first|((conv => whnf);done)|((try conv => whnf);first|exact trivial|(refine And.intro ?_ ?_)|rfl|exact fun _ _ _ h=>h|exact fun _ _ _ _=>trivial)));(all_goals (try conv => whnf)))
            · refine Sy.call_val (.c (.v (.bool true))) Try.call17 rfl (fun e a w' h => by have := rsame_any (e.rv 2) (e.rv 3) ls1 ls2 w' ⟨Sy.row_reads h (.inl ⟨_, rfl⟩), fun o ho => ((h.ev w' fun _ _ => rfl).1.1.1.2.2 o ho).mono fun b hb => h.fl b (.inl (.inl (.inl hb)))⟩ ⟨Sy.row_reads h (.inl ⟨_, rfl⟩), fun o ho => ((h.ev w' fun _ _ => rfl).1.1.2.2 o ho).mono fun b hb => h.fl b (.inl (.inl hb))⟩; rw [decide_eq_true (hls1.trans hls2.symm)] at this; exact this) ?_
              ((repeat' ((conv => whnf);(first|refine zA ?_|(refine zI ?_ ?_<;> intro hh<;> first|(exfalso;omega)|skip)|(refine zl ?_ ?_<;> intro hh)|refine zq ?_|refine zv ?_|exact Sy.fin_val fun e=>rfl)));(all_goals (try conv => whnf)))
              refine' ⟨(n + 1, _, _), ?c1, ?c2, ?c3⟩
              case c3 =>
                dsimp only
                ((repeat' (first|((conv => whnf);done)|((try conv => whnf);first|exact trivial|(refine And.intro ?_ ?_)|rfl|exact fun _ _ _ h=>h|exact fun _ _ _ _=>trivial)));(all_goals (try conv => whnf)))
              case c1 => dsimp only; omega
              case c2 => dsimp only; omega
        · have he : us = [] := by
            have : rowsOf us = [] := by rw [hus]; unfold allL; exact if_neg h0
            unfold rowsOf at this
            exact List.map_eq_nil_iff.1 this
          subst he
          ((repeat' ((conv => whnf);(first|refine zA ?_|(refine zI ?_ ?_<;> intro hh<;> first|(exfalso;omega)|skip)|(refine zl ?_ ?_<;> intro hh)|refine zq ?_|refine zv ?_|exact Sy.fin_val fun e=>rfl)));(all_goals (try conv => whnf)))
          refine' ⟨(n + 1, _, _), ?c1, ?c2, ?c3⟩
          case c3 =>
            dsimp only
            ((repeat' (first|((conv => whnf);done)|((try conv => whnf);first|exact trivial|(refine And.intro ?_ ?_)|rfl|exact fun _ _ _ h=>h|exact fun _ _ _ _=>trivial)));(all_goals (try conv => whnf)))
          case c1 => dsimp only; omega
          case c2 => dsimp only; omega
end Go.Proofs.Ythmcknchkecciaa
