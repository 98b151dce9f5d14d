/- Heart: the law HeartTells. -/
import Derived.Test.YtiapcohnjklcfaaHeM
namespace Go.Proofs.Ytiapcohnjklcfaa
open Go Go.RowKit
open Sy (C SV V1 Blk St XD Els)
set_option maxRecDepth 10000
theorem aliveL_no {n s : Int} {ps : List Pulse} (h : ¬ okH n s ps = true) : aliveL n s ps = [] := by rw [aliveL, if_neg h]
theorem dueH_no {n s : Int} {ps : List Pulse} (h : ¬ okH n s ps = true) : dueH n s ps = (0, false) := by rw [dueH, if_neg h]
attribute [local irreducible] okN okH ok0 chkE hearV passV aliveL dueH sameB

/-- A heart as it comes in. -/
structure HI where
  now : Int
  span : Int
  v : Value
  ps : List Pulse
def encH (x : HI) : List Value := [.int .i64 x.now, .int .i64 x.span, x.v]
def HI.ok (w : World) (x : HI) : Prop := I64 x.now ∧ XD.ok (fun b => b < w.heap.size) w ⟨x.v, 3, x.ps.length, x.ps.map encP⟩
def sh (ps : List Pulse) : List Pulse := ps.take 5
theorem short_r (now span : Int) (v : Value) (ps : List Pulse) (w : World) (hr : XD.ok (fun b => b < w.heap.size) w ⟨v, 3, ps.length, ps.map encP⟩) :
    Calls Try.prog 17 #[.agg #[.int .i64 now, .int .i64 span, v]] w (Sy.RetRows Sy.noRow (fun _ : Unit => True) (fun _ => [⟨51, 3, (sh ps).length, (sh ps).map encP⟩]) (fun _ vs => .agg #[.int .i64 now, .int .i64 span, vs.headD undef]) w) := short_any now span v ps w hr
theorem sameB_self (n s : Int) (ps : List Pulse) : sameB n s ps n s ps = true := by simp [sameB]
attribute [local irreducible] sh

theorem tells_any (v : Value) (xs : List HI) (w : World) (hx : ∀ x ∈ xs, x.ok w) (hr : XD.ok (fun b => b < w.heap.size) w ⟨v, 3, xs.length, xs.map encH⟩) :
    Calls Try.prog 6 #[v] w (Sy.Ret (.bool true) w) := by
  have hl := ok_len hr
  refine Sy.calls_of Sy.lv6 Sy.tab_ok Try.func6 rfl _ Try.ntmps6 [⟨v, 3, xs.length, xs.map encH⟩] [.c (.row 0)] rfl rfl rfl ⟨hr, trivial⟩ ?_
  ((repeat' ((conv => whnf);(first|refine z1 ?_|refine z2 ?_|refine z3 ?_|refine z4 ?_|refine z5 ?_|refine z6 ?_|refine z7 ?_|refine z8 ?_|refine z9 ?_|refine za ?_|refine zb ?_|refine zc ?_|refine zd ?_|refine ze ?_|refine zf ?_|refine zg ?_|refine zh ?_|((first|refine zi ?_ ?_|refine zj ?_ ?_|refine zk ?_ ?_)<;> intro hh <;> first|(exfalso;omega)|skip)|(refine zl ?_ ?_<;> intro hh)|refine zm ?_|refine zn ?_|refine zo ?_|refine zp ?_|refine zq ?_|refine zr ?_|refine zs _ rfl ?_|refine zu ?_|exact Sy.fin_val (fun e=>rfl))));(all_goals (try conv => whnf)))
  refine Sy.call_val (.c (.v (.bool true))) Try.call9 rfl (fun e a w' h => wakes_any w') ?_
  ((repeat' ((conv => whnf);(first|refine z1 ?_|refine z2 ?_|refine z3 ?_|refine z4 ?_|refine z5 ?_|refine z6 ?_|refine z7 ?_|refine z8 ?_|refine z9 ?_|refine za ?_|refine zb ?_|refine zc ?_|refine zd ?_|refine ze ?_|refine zf ?_|refine zg ?_|refine zh ?_|((first|refine zi ?_ ?_|refine zj ?_ ?_|refine zk ?_ ?_)<;> intro hh <;> first|(exfalso;omega)|skip)|(refine zl ?_ ?_<;> intro hh)|refine zm ?_|refine zn ?_|refine zo ?_|refine zp ?_|refine zq ?_|refine zr ?_|refine zs _ rfl ?_|refine zu ?_|exact Sy.fin_val (fun e=>rfl))));(all_goals (try conv => whnf)))
  refine Sy.loop_inv Sy.tab_ok (fun n : Nat => [(18, .c (.v (.int .i64 n)))]) (fun _ => []) (fun n => n ≤ xs.length) (fun n => xs.length - n) 0 (Nat.zero_le _) ?_ (fun n hle => ?_)
  · ((repeat' (first|((conv => whnf);done)|((try conv => whnf);first|exact trivial|(refine And.intro ?_ ?_)|rfl)));(all_goals (try conv => whnf)))
  · ((repeat' ((conv => whnf);(first|refine z1 ?_|refine z2 ?_|refine z3 ?_|refine z4 ?_|refine z5 ?_|refine z6 ?_|refine z7 ?_|refine z8 ?_|refine z9 ?_|refine za ?_|refine zb ?_|refine zc ?_|refine zd ?_|refine ze ?_|refine zf ?_|refine zg ?_|refine zh ?_|((first|refine zi ?_ ?_|refine zj ?_ ?_|refine zk ?_ ?_)<;> intro hh <;> first|(exfalso;omega)|skip)|(refine zl ?_ ?_<;> intro hh)|refine zm ?_|refine zn ?_|refine zo ?_|refine zp ?_|refine zq ?_|refine zr ?_|refine zs _ rfl ?_|refine zu ?_|exact Sy.fin_val (fun e=>rfl))));(all_goals (try conv => whnf)))
    have hlt : n < xs.length := by omega
    have h0t : 0 < xs.length := by omega
    have hn := hx xs[n] (List.getElem_mem _)
    have hn0 := hx xs[0] (List.getElem_mem _)
    have hg0 : xs[Int.toNat 0]? = some xs[0] := List.getElem?_eq_getElem h0t
    refine Sy.el_map xs[n] (List.getElem?_eq_getElem hlt) ?_
    generalize xs[n] = x at *
    generalize xs[0] = x0 at *
    obtain ⟨hn1, hn2⟩ := hn
    obtain ⟨h01, h02⟩ := hn0
    ((repeat' ((conv => whnf);(first|refine z1 ?_|refine z2 ?_|refine z3 ?_|refine z4 ?_|refine z5 ?_|refine z6 ?_|refine z7 ?_|refine z8 ?_|refine z9 ?_|refine za ?_|refine zb ?_|refine zc ?_|refine zd ?_|refine ze ?_|refine zf ?_|refine zg ?_|refine zh ?_|((first|refine zi ?_ ?_|refine zj ?_ ?_|refine zk ?_ ?_)<;> intro hh <;> first|(exfalso;omega)|skip)|(refine zl ?_ ?_<;> intro hh)|refine zm ?_|refine zn ?_|refine zo ?_|refine zp ?_|refine zq ?_|refine zr ?_|refine zs _ rfl ?_|refine zu ?_|exact Sy.fin_val (fun e=>rfl))));(all_goals (try conv => whnf)))
    refine Sy.meet1 2 [.row 51 3 (sh x.ps).length (.vs ((sh x.ps).map encP)), .row 51 3 (sh x0.ps).length (.vs ((sh x0.ps).map encP)), .cells 27 [.v (.int .i64 x.now), .v (.int .i64 x.span), .row 2], .cells 27 [.v (.int .i64 x0.now), .v (.int .i64 x0.span), .row 3]]
      [(5, .c (.loc 4 0)), (6, .c (.loc 5 0))] [] Sy.tab_ok rfl ?_ ?_
    · all_goals (refine Sy.draw_go [] (by kernel_rfl) ?_; intro e0; conv => whnf)
      all_goals (refine zt 0 rfl ?_)
      all_goals (conv => whnf)
      all_goals (refine zt 2 rfl ?_)
      all_goals (conv => whnf)
      all_goals (refine zt 3 rfl ?_)
      all_goals ((conv => whnf);(repeat' ((first|refine z1 ?_|refine z2 ?_|refine z3 ?_|refine z4 ?_|refine z5 ?_|refine z6 ?_|refine z7 ?_|refine z8 ?_|refine z9 ?_|refine za ?_|refine zb ?_|refine zc ?_|refine zd ?_|refine ze ?_|refine zf ?_|refine zg ?_|refine zh ?_|((first|refine zi ?_ ?_|refine zj ?_ ?_|refine zk ?_ ?_)<;> intro hh <;> first|(exfalso;omega)|skip)|(refine zl ?_ ?_<;> intro hh)|refine zm ?_|refine zn ?_|refine zo ?_|refine zp ?_|refine zq ?_|refine zr ?_|refine zs _ rfl ?_|refine zu ?_|exact Sy.fin_val (fun e=>rfl));(try conv => whnf))))
      all_goals (refine zt 4 rfl ?_)
      all_goals (conv => whnf)
      all_goals (refine Sy.el_map x0 hg0 ?_)
      all_goals (conv => whnf)
      all_goals (focus
        refine zd1 [1, 6, 7] (zx rfl ?_ (zx rfl ?_ (zx rfl ?_ zy)))
        focus
          conv => whnf
          refine Sy.call_r1 ⟨51, 3, (sh x.ps).length, (sh x.ps).map encP⟩ (fun k => .agg [.v (.int .i64 x.now), .v (.int .i64 x.span), .row k]) Try.call17 (fun e a w' h => short_r x.now x.span x.v x.ps w' (Sy.later_in h hn2)) ?_
          conv => whnf
          all_goals (refine ⟨(by repeat' ((conv => whnf);first|exact trivial|(refine And.intro ?_ ?_)|rfl)), ?_⟩)
          all_goals (focus
            refine zd1 [5, 6, 7] (zx rfl ?_ (zx rfl ?_ (zx rfl ?_ zy)))
            focus
              conv => whnf
              refine Sy.call_r1 ⟨51, 3, (sh x0.ps).length, (sh x0.ps).map encP⟩ (fun k => .agg [.v (.int .i64 x0.now), .v (.int .i64 x0.span), .row k]) Try.call17 (fun e a w' h => short_r x0.now x0.span x0.v x0.ps w' (Sy.later_in h h02)) ?_
              conv => whnf
              all_goals (refine ⟨(by repeat' ((conv => whnf);first|exact trivial|(refine And.intro ?_ ?_)|rfl)), ?_⟩)
              all_goals (focus
                refine zd1 [6, 7] (zx rfl ?_ (zx rfl ?_ zy))
                focus
                  conv => whnf
                  all_goals (refine ⟨(by repeat' ((conv => whnf);first|exact trivial|(refine And.intro ?_ ?_)|rfl)), ?_⟩)
                  all_goals (refine zd1 [7] (zx rfl ?_ zy))
                  all_goals (conv => whnf)
                  all_goals (refine ⟨(by repeat' ((conv => whnf);first|exact trivial|(refine And.intro ?_ ?_)|rfl)), ?_⟩)
                  all_goals (refine zd1 [8] (zx rfl ?_ zy))
                  all_goals (conv => whnf)
                  all_goals (refine ⟨(by repeat' ((conv => whnf);first|exact trivial|(refine And.intro ?_ ?_)|rfl)), ?_⟩)
                  all_goals (refine zd1 [9] (zx rfl ?_ zy))
                  all_goals (conv => whnf)
                  all_goals (refine ⟨(by repeat' ((conv => whnf);first|exact trivial|(refine And.intro ?_ ?_)|rfl)), ?_⟩)
                  all_goals (refine zw ?_)
                rotate_right
                focus
                  conv => whnf
                  all_goals (refine ⟨(by repeat' ((conv => whnf);first|exact trivial|(refine And.intro ?_ ?_)|rfl)), ?_⟩)
                  all_goals (refine zd1 [6] (zx rfl ?_ zy))
                  all_goals (conv => whnf)
                  all_goals (refine ⟨(by repeat' ((conv => whnf);first|exact trivial|(refine And.intro ?_ ?_)|rfl)), ?_⟩)
                  all_goals (refine zd1 [8] (zx rfl ?_ zy))
                  all_goals (conv => whnf)
                  all_goals (refine ⟨(by repeat' ((conv => whnf);first|exact trivial|(refine And.intro ?_ ?_)|rfl)), ?_⟩)
                  all_goals (refine zd1 [9] (zx rfl ?_ zy))
                  all_goals (conv => whnf)
                  all_goals (refine ⟨(by repeat' ((conv => whnf);first|exact trivial|(refine And.intro ?_ ?_)|rfl)), ?_⟩)
                  all_goals (refine zw ?_))
            rotate_right
            focus
              conv => whnf
              all_goals (refine ⟨(by repeat' ((conv => whnf);first|exact trivial|(refine And.intro ?_ ?_)|rfl)), ?_⟩)
              all_goals (focus
                refine zd1 [5, 6] (zx rfl ?_ (zx rfl ?_ zy))
                focus
                  conv => whnf
                  refine Sy.call_r1 ⟨51, 3, (sh x0.ps).length, (sh x0.ps).map encP⟩ (fun k => .agg [.v (.int .i64 x0.now), .v (.int .i64 x0.span), .row k]) Try.call17 (fun e a w' h => short_r x0.now x0.span x0.v x0.ps w' (Sy.later_in h h02)) ?_
                  conv => whnf
                  all_goals (refine ⟨(by repeat' ((conv => whnf);first|exact trivial|(refine And.intro ?_ ?_)|rfl)), ?_⟩)
                  all_goals (refine zd1 [6] (zx rfl ?_ zy))
                  all_goals (conv => whnf)
                  all_goals (refine ⟨(by repeat' ((conv => whnf);first|exact trivial|(refine And.intro ?_ ?_)|rfl)), ?_⟩)
                  all_goals (refine zd1 [8] (zx rfl ?_ zy))
                  all_goals (conv => whnf)
                  all_goals (refine ⟨(by repeat' ((conv => whnf);first|exact trivial|(refine And.intro ?_ ?_)|rfl)), ?_⟩)
                  all_goals (refine zd1 [9] (zx rfl ?_ zy))
                  all_goals (conv => whnf)
                  all_goals (refine ⟨(by repeat' ((conv => whnf);first|exact trivial|(refine And.intro ?_ ?_)|rfl)), ?_⟩)
                  all_goals (refine zw ?_)
                rotate_right
                focus
                  conv => whnf
                  all_goals (refine ⟨(by repeat' ((conv => whnf);first|exact trivial|(refine And.intro ?_ ?_)|rfl)), ?_⟩)
                  all_goals (refine zd1 [5] (zx rfl ?_ zy))
                  all_goals (conv => whnf)
                  all_goals (refine Sy.call_r1 ⟨51, 3, (sh x0.ps).length, (sh x0.ps).map encP⟩ (fun k => .agg [.v (.int .i64 x0.now), .v (.int .i64 x0.span), .row k]) Try.call17 (fun e a w' h => short_r x0.now x0.span x0.v x0.ps w' (Sy.later_in h h02)) ?_)
                  all_goals (conv => whnf)
                  all_goals (refine ⟨(by repeat' ((conv => whnf);first|exact trivial|(refine And.intro ?_ ?_)|rfl)), ?_⟩)
                  all_goals (refine zd1 [8] (zx rfl ?_ zy))
                  all_goals (conv => whnf)
                  all_goals (refine ⟨(by repeat' ((conv => whnf);first|exact trivial|(refine And.intro ?_ ?_)|rfl)), ?_⟩)
                  all_goals (refine zd1 [9] (zx rfl ?_ zy))
                  all_goals (conv => whnf)
                  all_goals (refine ⟨(by repeat' ((conv => whnf);first|exact trivial|(refine And.intro ?_ ?_)|rfl)), ?_⟩)
                  all_goals (refine zw ?_))
            rotate_right
            focus
              conv => whnf
              all_goals (refine ⟨(by repeat' ((conv => whnf);first|exact trivial|(refine And.intro ?_ ?_)|rfl)), ?_⟩)
              all_goals (focus
                refine zd1 [5, 7] (zx rfl ?_ (zx rfl ?_ zy))
                focus
                  conv => whnf
                  refine Sy.call_r1 ⟨51, 3, (sh x0.ps).length, (sh x0.ps).map encP⟩ (fun k => .agg [.v (.int .i64 x0.now), .v (.int .i64 x0.span), .row k]) Try.call17 (fun e a w' h => short_r x0.now x0.span x0.v x0.ps w' (Sy.later_in h h02)) ?_
                  conv => whnf
                  all_goals (refine ⟨(by repeat' ((conv => whnf);first|exact trivial|(refine And.intro ?_ ?_)|rfl)), ?_⟩)
                  all_goals (refine zd1 [7] (zx rfl ?_ zy))
                  all_goals (conv => whnf)
                  all_goals (refine ⟨(by repeat' ((conv => whnf);first|exact trivial|(refine And.intro ?_ ?_)|rfl)), ?_⟩)
                  all_goals (refine zd1 [8] (zx rfl ?_ zy))
                  all_goals (conv => whnf)
                  all_goals (refine ⟨(by repeat' ((conv => whnf);first|exact trivial|(refine And.intro ?_ ?_)|rfl)), ?_⟩)
                  all_goals (refine zd1 [9] (zx rfl ?_ zy))
                  all_goals (conv => whnf)
                  all_goals (refine ⟨(by repeat' ((conv => whnf);first|exact trivial|(refine And.intro ?_ ?_)|rfl)), ?_⟩)
                  all_goals (refine zw ?_)
                rotate_right
                focus
                  conv => whnf
                  all_goals (refine ⟨(by repeat' ((conv => whnf);first|exact trivial|(refine And.intro ?_ ?_)|rfl)), ?_⟩)
                  all_goals (refine zd1 [5] (zx rfl ?_ zy))
                  all_goals (conv => whnf)
                  all_goals (refine Sy.call_r1 ⟨51, 3, (sh x0.ps).length, (sh x0.ps).map encP⟩ (fun k => .agg [.v (.int .i64 x0.now), .v (.int .i64 x0.span), .row k]) Try.call17 (fun e a w' h => short_r x0.now x0.span x0.v x0.ps w' (Sy.later_in h h02)) ?_)
                  all_goals (conv => whnf)
                  all_goals (refine ⟨(by repeat' ((conv => whnf);first|exact trivial|(refine And.intro ?_ ?_)|rfl)), ?_⟩)
                  all_goals (refine zd1 [8] (zx rfl ?_ zy))
                  all_goals (conv => whnf)
                  all_goals (refine ⟨(by repeat' ((conv => whnf);first|exact trivial|(refine And.intro ?_ ?_)|rfl)), ?_⟩)
                  all_goals (refine zd1 [9] (zx rfl ?_ zy))
                  all_goals (conv => whnf)
                  all_goals (refine ⟨(by repeat' ((conv => whnf);first|exact trivial|(refine And.intro ?_ ?_)|rfl)), ?_⟩)
                  all_goals (refine zw ?_)))
        rotate_right
        focus
          conv => whnf
          all_goals (refine ⟨(by repeat' ((conv => whnf);first|exact trivial|(refine And.intro ?_ ?_)|rfl)), ?_⟩)
          all_goals (focus
            refine zd1 [1, 6] (zx rfl ?_ (zx rfl ?_ zy))
            focus
              conv => whnf
              refine Sy.call_r1 ⟨51, 3, (sh x.ps).length, (sh x.ps).map encP⟩ (fun k => .agg [.v (.int .i64 x.now), .v (.int .i64 x.span), .row k]) Try.call17 (fun e a w' h => short_r x.now x.span x.v x.ps w' (Sy.later_in h hn2)) ?_
              conv => whnf
              all_goals (refine ⟨(by repeat' ((conv => whnf);first|exact trivial|(refine And.intro ?_ ?_)|rfl)), ?_⟩)
              all_goals (focus
                refine zd1 [5, 6] (zx rfl ?_ (zx rfl ?_ zy))
                focus
                  conv => whnf
                  refine Sy.call_r1 ⟨51, 3, (sh x0.ps).length, (sh x0.ps).map encP⟩ (fun k => .agg [.v (.int .i64 x0.now), .v (.int .i64 x0.span), .row k]) Try.call17 (fun e a w' h => short_r x0.now x0.span x0.v x0.ps w' (Sy.later_in h h02)) ?_
                  conv => whnf
                  all_goals (refine ⟨(by repeat' ((conv => whnf);first|exact trivial|(refine And.intro ?_ ?_)|rfl)), ?_⟩)
                  all_goals (refine zd1 [6] (zx rfl ?_ zy))
                  all_goals (conv => whnf)
                  all_goals (refine ⟨(by repeat' ((conv => whnf);first|exact trivial|(refine And.intro ?_ ?_)|rfl)), ?_⟩)
                  all_goals (refine zd1 [8] (zx rfl ?_ zy))
                  all_goals (conv => whnf)
                  all_goals (refine ⟨(by repeat' ((conv => whnf);first|exact trivial|(refine And.intro ?_ ?_)|rfl)), ?_⟩)
                  all_goals (refine zd1 [9] (zx rfl ?_ zy))
                  all_goals (conv => whnf)
                  all_goals (refine ⟨(by repeat' ((conv => whnf);first|exact trivial|(refine And.intro ?_ ?_)|rfl)), ?_⟩)
                  all_goals (refine zw ?_)
                rotate_right
                focus
                  conv => whnf
                  all_goals (refine ⟨(by repeat' ((conv => whnf);first|exact trivial|(refine And.intro ?_ ?_)|rfl)), ?_⟩)
                  all_goals (refine zd1 [5] (zx rfl ?_ zy))
                  all_goals (conv => whnf)
                  all_goals (refine Sy.call_r1 ⟨51, 3, (sh x0.ps).length, (sh x0.ps).map encP⟩ (fun k => .agg [.v (.int .i64 x0.now), .v (.int .i64 x0.span), .row k]) Try.call17 (fun e a w' h => short_r x0.now x0.span x0.v x0.ps w' (Sy.later_in h h02)) ?_)
                  all_goals (conv => whnf)
                  all_goals (refine ⟨(by repeat' ((conv => whnf);first|exact trivial|(refine And.intro ?_ ?_)|rfl)), ?_⟩)
                  all_goals (refine zd1 [8] (zx rfl ?_ zy))
                  all_goals (conv => whnf)
                  all_goals (refine ⟨(by repeat' ((conv => whnf);first|exact trivial|(refine And.intro ?_ ?_)|rfl)), ?_⟩)
                  all_goals (refine zd1 [9] (zx rfl ?_ zy))
                  all_goals (conv => whnf)
                  all_goals (refine ⟨(by repeat' ((conv => whnf);first|exact trivial|(refine And.intro ?_ ?_)|rfl)), ?_⟩)
                  all_goals (refine zw ?_))
            rotate_right
            focus
              conv => whnf
              all_goals (refine ⟨(by repeat' ((conv => whnf);first|exact trivial|(refine And.intro ?_ ?_)|rfl)), ?_⟩)
              all_goals (refine zd1 [1] (zx rfl ?_ zy))
              all_goals (conv => whnf)
              all_goals (refine Sy.call_r1 ⟨51, 3, (sh x.ps).length, (sh x.ps).map encP⟩ (fun k => .agg [.v (.int .i64 x.now), .v (.int .i64 x.span), .row k]) Try.call17 (fun e a w' h => short_r x.now x.span x.v x.ps w' (Sy.later_in h hn2)) ?_)
              all_goals (conv => whnf)
              all_goals (refine ⟨(by repeat' ((conv => whnf);first|exact trivial|(refine And.intro ?_ ?_)|rfl)), ?_⟩)
              all_goals (refine zd1 [5] (zx rfl ?_ zy))
              all_goals (conv => whnf)
              all_goals (refine Sy.call_r1 ⟨51, 3, (sh x0.ps).length, (sh x0.ps).map encP⟩ (fun k => .agg [.v (.int .i64 x0.now), .v (.int .i64 x0.span), .row k]) Try.call17 (fun e a w' h => short_r x0.now x0.span x0.v x0.ps w' (Sy.later_in h h02)) ?_)
              all_goals (conv => whnf)
              all_goals (refine ⟨(by repeat' ((conv => whnf);first|exact trivial|(refine And.intro ?_ ?_)|rfl)), ?_⟩)
              all_goals (refine zd1 [8] (zx rfl ?_ zy))
              all_goals (conv => whnf)
              all_goals (refine ⟨(by repeat' ((conv => whnf);first|exact trivial|(refine And.intro ?_ ?_)|rfl)), ?_⟩)
              all_goals (refine zd1 [9] (zx rfl ?_ zy))
              all_goals (conv => whnf)
              all_goals (refine ⟨(by repeat' ((conv => whnf);first|exact trivial|(refine And.intro ?_ ?_)|rfl)), ?_⟩)
              all_goals (refine zw ?_))
        rotate_right
        focus
          conv => whnf
          all_goals (refine ⟨(by repeat' ((conv => whnf);first|exact trivial|(refine And.intro ?_ ?_)|rfl)), ?_⟩)
          all_goals (focus
            refine zd1 [1, 7] (zx rfl ?_ (zx rfl ?_ zy))
            focus
              conv => whnf
              refine Sy.call_r1 ⟨51, 3, (sh x.ps).length, (sh x.ps).map encP⟩ (fun k => .agg [.v (.int .i64 x.now), .v (.int .i64 x.span), .row k]) Try.call17 (fun e a w' h => short_r x.now x.span x.v x.ps w' (Sy.later_in h hn2)) ?_
              conv => whnf
              all_goals (refine ⟨(by repeat' ((conv => whnf);first|exact trivial|(refine And.intro ?_ ?_)|rfl)), ?_⟩)
              all_goals (focus
                refine zd1 [5, 7] (zx rfl ?_ (zx rfl ?_ zy))
                focus
                  conv => whnf
                  refine Sy.call_r1 ⟨51, 3, (sh x0.ps).length, (sh x0.ps).map encP⟩ (fun k => .agg [.v (.int .i64 x0.now), .v (.int .i64 x0.span), .row k]) Try.call17 (fun e a w' h => short_r x0.now x0.span x0.v x0.ps w' (Sy.later_in h h02)) ?_
                  conv => whnf
                  all_goals (refine ⟨(by repeat' ((conv => whnf);first|exact trivial|(refine And.intro ?_ ?_)|rfl)), ?_⟩)
                  all_goals (refine zd1 [7] (zx rfl ?_ zy))
                  all_goals (conv => whnf)
                  all_goals (refine ⟨(by repeat' ((conv => whnf);first|exact trivial|(refine And.intro ?_ ?_)|rfl)), ?_⟩)
                  all_goals (refine zd1 [8] (zx rfl ?_ zy))
                  all_goals (conv => whnf)
                  all_goals (refine ⟨(by repeat' ((conv => whnf);first|exact trivial|(refine And.intro ?_ ?_)|rfl)), ?_⟩)
                  all_goals (refine zd1 [9] (zx rfl ?_ zy))
                  all_goals (conv => whnf)
                  all_goals (refine ⟨(by repeat' ((conv => whnf);first|exact trivial|(refine And.intro ?_ ?_)|rfl)), ?_⟩)
                  all_goals (refine zw ?_)
                rotate_right
                focus
                  conv => whnf
                  all_goals (refine ⟨(by repeat' ((conv => whnf);first|exact trivial|(refine And.intro ?_ ?_)|rfl)), ?_⟩)
                  all_goals (refine zd1 [5] (zx rfl ?_ zy))
                  all_goals (conv => whnf)
                  all_goals (refine Sy.call_r1 ⟨51, 3, (sh x0.ps).length, (sh x0.ps).map encP⟩ (fun k => .agg [.v (.int .i64 x0.now), .v (.int .i64 x0.span), .row k]) Try.call17 (fun e a w' h => short_r x0.now x0.span x0.v x0.ps w' (Sy.later_in h h02)) ?_)
                  all_goals (conv => whnf)
                  all_goals (refine ⟨(by repeat' ((conv => whnf);first|exact trivial|(refine And.intro ?_ ?_)|rfl)), ?_⟩)
                  all_goals (refine zd1 [8] (zx rfl ?_ zy))
                  all_goals (conv => whnf)
                  all_goals (refine ⟨(by repeat' ((conv => whnf);first|exact trivial|(refine And.intro ?_ ?_)|rfl)), ?_⟩)
                  all_goals (refine zd1 [9] (zx rfl ?_ zy))
                  all_goals (conv => whnf)
                  all_goals (refine ⟨(by repeat' ((conv => whnf);first|exact trivial|(refine And.intro ?_ ?_)|rfl)), ?_⟩)
                  all_goals (refine zw ?_))
            rotate_right
            focus
              conv => whnf
              all_goals (refine ⟨(by repeat' ((conv => whnf);first|exact trivial|(refine And.intro ?_ ?_)|rfl)), ?_⟩)
              all_goals (refine zd1 [1] (zx rfl ?_ zy))
              all_goals (conv => whnf)
              all_goals (refine Sy.call_r1 ⟨51, 3, (sh x.ps).length, (sh x.ps).map encP⟩ (fun k => .agg [.v (.int .i64 x.now), .v (.int .i64 x.span), .row k]) Try.call17 (fun e a w' h => short_r x.now x.span x.v x.ps w' (Sy.later_in h hn2)) ?_)
              all_goals (conv => whnf)
              all_goals (refine ⟨(by repeat' ((conv => whnf);first|exact trivial|(refine And.intro ?_ ?_)|rfl)), ?_⟩)
              all_goals (refine zd1 [5] (zx rfl ?_ zy))
              all_goals (conv => whnf)
              all_goals (refine Sy.call_r1 ⟨51, 3, (sh x0.ps).length, (sh x0.ps).map encP⟩ (fun k => .agg [.v (.int .i64 x0.now), .v (.int .i64 x0.span), .row k]) Try.call17 (fun e a w' h => short_r x0.now x0.span x0.v x0.ps w' (Sy.later_in h h02)) ?_)
              all_goals (conv => whnf)
              all_goals (refine ⟨(by repeat' ((conv => whnf);first|exact trivial|(refine And.intro ?_ ?_)|rfl)), ?_⟩)
              all_goals (refine zd1 [8] (zx rfl ?_ zy))
              all_goals (conv => whnf)
              all_goals (refine ⟨(by repeat' ((conv => whnf);first|exact trivial|(refine And.intro ?_ ?_)|rfl)), ?_⟩)
              all_goals (refine zd1 [9] (zx rfl ?_ zy))
              all_goals (conv => whnf)
              all_goals (refine ⟨(by repeat' ((conv => whnf);first|exact trivial|(refine And.intro ?_ ?_)|rfl)), ?_⟩)
              all_goals (refine zw ?_)))
      all_goals (((repeat' (first|((conv => whnf);done)|((try conv => whnf);first|exact trivial|(refine And.intro ?_ ?_)|rfl)));(all_goals (try conv => whnf))))
    · ((repeat' ((conv => whnf);(first|refine z1 ?_|refine z2 ?_|refine z3 ?_|refine z4 ?_|refine z5 ?_|refine z6 ?_|refine z7 ?_|refine z8 ?_|refine z9 ?_|refine za ?_|refine zb ?_|refine zc ?_|refine zd ?_|refine ze ?_|refine zf ?_|refine zg ?_|refine zh ?_|((first|refine zi ?_ ?_|refine zj ?_ ?_|refine zk ?_ ?_)<;> intro hh <;> first|(exfalso;omega)|skip)|(refine zl ?_ ?_<;> intro hh)|refine zm ?_|refine zn ?_|refine zo ?_|refine zp ?_|refine zq ?_|refine zr ?_|refine zs _ rfl ?_|refine zu ?_|exact Sy.fin_val (fun e=>rfl))));(all_goals (try conv => whnf)))
      refine Sy.call_val (.c (.v (.bool (okH x.now x.span (sh x.ps))))) Try.call11 rfl (fun e a w' h => right_any _ _ _ _ w' hn1 (Sy.row_reads h (.inl ⟨_, rfl⟩))) ?_
      ((repeat' ((conv => whnf);(first|refine z1 ?_|refine z2 ?_|refine z3 ?_|refine z4 ?_|refine z5 ?_|refine z6 ?_|refine z7 ?_|refine z8 ?_|refine z9 ?_|refine za ?_|refine zb ?_|refine zc ?_|refine zd ?_|refine ze ?_|refine zf ?_|refine zg ?_|refine zh ?_|((first|refine zi ?_ ?_|refine zj ?_ ?_|refine zk ?_ ?_)<;> intro hh <;> first|(exfalso;omega)|skip)|(refine zl ?_ ?_<;> intro hh)|refine zm ?_|refine zn ?_|refine zo ?_|refine zp ?_|refine zq ?_|refine zr ?_|refine zs _ rfl ?_|refine zu ?_|exact Sy.fin_val (fun e=>rfl))));(all_goals (try conv => whnf)))
      refine Sy.call_val (.c (.v (.int .i64 (chkE x.now x.span (sh x.ps))))) Try.call22 rfl (fun e a w' h => check_any _ _ _ _ w' hn1 (Sy.row_reads h (.inl ⟨_, rfl⟩))) ?_
      by_cases hok : okH x.now x.span (sh x.ps) = true
      · rw [hok, show chkE x.now x.span (sh x.ps) = 0 by unfold chkE; rw [if_pos hok]]
        ((repeat' ((conv => whnf);(first|refine z1 ?_|refine z2 ?_|refine z3 ?_|refine z4 ?_|refine z5 ?_|refine z6 ?_|refine z7 ?_|refine z8 ?_|refine z9 ?_|refine za ?_|refine zb ?_|refine zc ?_|refine zd ?_|refine ze ?_|refine zf ?_|refine zg ?_|refine zh ?_|((first|refine zi ?_ ?_|refine zj ?_ ?_|refine zk ?_ ?_)<;> intro hh <;> first|(exfalso;omega)|skip)|(refine zl ?_ ?_<;> intro hh)|refine zm ?_|refine zn ?_|refine zo ?_|refine zp ?_|refine zq ?_|refine zr ?_|refine zs _ rfl ?_|refine zu ?_|exact Sy.fin_val (fun e=>rfl))));(all_goals (try conv => whnf)))
        refine Sy.meet1 6 [] [(62, .c (.v (.bool false)))] [] Sy.tab_ok rfl ?_ ?_
        · cases hsb : sameB x.now x.span (sh x.ps) x0.now x0.span (sh x0.ps)
          all_goals (refine Sy.draw_go [] (by kernel_rfl) ?_; intro e0; conv => whnf)
          all_goals (refine zt 0 rfl ?_)
          all_goals (conv => whnf)
          all_goals (refine zt 1 rfl ?_)
          all_goals ((conv => whnf);(repeat' ((first|refine z1 ?_|refine z2 ?_|refine z3 ?_|refine z4 ?_|refine z5 ?_|refine z6 ?_|refine z7 ?_|refine z8 ?_|refine z9 ?_|refine za ?_|refine zb ?_|refine zc ?_|refine zd ?_|refine ze ?_|refine zf ?_|refine zg ?_|refine zh ?_|((first|refine zi ?_ ?_|refine zj ?_ ?_|refine zk ?_ ?_)<;> intro hh <;> first|(exfalso;omega)|skip)|(refine zl ?_ ?_<;> intro hh)|refine zm ?_|refine zn ?_|refine zo ?_|refine zp ?_|refine zq ?_|refine zr ?_|refine zs _ rfl ?_|refine zu ?_|exact Sy.fin_val (fun e=>rfl));(try conv => whnf))))
          all_goals (refine zt 2 rfl ?_)
          all_goals (conv => whnf)
          all_goals (refine zt 3 rfl ?_)
          all_goals ((conv => whnf);(repeat' ((first|refine z1 ?_|refine z2 ?_|refine z3 ?_|refine z4 ?_|refine z5 ?_|refine z6 ?_|refine z7 ?_|refine z8 ?_|refine z9 ?_|refine za ?_|refine zb ?_|refine zc ?_|refine zd ?_|refine ze ?_|refine zf ?_|refine zg ?_|refine zh ?_|((first|refine zi ?_ ?_|refine zj ?_ ?_|refine zk ?_ ?_)<;> intro hh <;> first|(exfalso;omega)|skip)|(refine zl ?_ ?_<;> intro hh)|refine zm ?_|refine zn ?_|refine zo ?_|refine zp ?_|refine zq ?_|refine zr ?_|refine zs _ rfl ?_|refine zu ?_|exact Sy.fin_val (fun e=>rfl));(try conv => whnf))))
          all_goals (refine zt 4 rfl ?_)
          all_goals (conv => whnf)
          all_goals (refine zt 5 rfl ?_)
          all_goals ((conv => whnf);(repeat' ((first|refine z1 ?_|refine z2 ?_|refine z3 ?_|refine z4 ?_|refine z5 ?_|refine z6 ?_|refine z7 ?_|refine z8 ?_|refine z9 ?_|refine za ?_|refine zb ?_|refine zc ?_|refine zd ?_|refine ze ?_|refine zf ?_|refine zg ?_|refine zh ?_|((first|refine zi ?_ ?_|refine zj ?_ ?_|refine zk ?_ ?_)<;> intro hh <;> first|(exfalso;omega)|skip)|(refine zl ?_ ?_<;> intro hh)|refine zm ?_|refine zn ?_|refine zo ?_|refine zp ?_|refine zq ?_|refine zr ?_|refine zs _ rfl ?_|refine zu ?_|exact Sy.fin_val (fun e=>rfl));(try conv => whnf))))
          all_goals (refine zt 6 rfl ?_)
          all_goals ((conv => whnf);(repeat' ((first|refine z1 ?_|refine z2 ?_|refine z3 ?_|refine z4 ?_|refine z5 ?_|refine z6 ?_|refine z7 ?_|refine z8 ?_|refine z9 ?_|refine za ?_|refine zb ?_|refine zc ?_|refine zd ?_|refine ze ?_|refine zf ?_|refine zg ?_|refine zh ?_|((first|refine zi ?_ ?_|refine zj ?_ ?_|refine zk ?_ ?_)<;> intro hh <;> first|(exfalso;omega)|skip)|(refine zl ?_ ?_<;> intro hh)|refine zm ?_|refine zn ?_|refine zo ?_|refine zp ?_|refine zq ?_|refine zr ?_|refine zs _ rfl ?_|refine zu ?_|exact Sy.fin_val (fun e=>rfl));(try conv => whnf))))
          all_goals (refine zt 7 rfl ?_)
          all_goals ((conv => whnf);(repeat' ((first|refine z1 ?_|refine z2 ?_|refine z3 ?_|refine z4 ?_|refine z5 ?_|refine z6 ?_|refine z7 ?_|refine z8 ?_|refine z9 ?_|refine za ?_|refine zb ?_|refine zc ?_|refine zd ?_|refine ze ?_|refine zf ?_|refine zg ?_|refine zh ?_|((first|refine zi ?_ ?_|refine zj ?_ ?_|refine zk ?_ ?_)<;> intro hh <;> first|(exfalso;omega)|skip)|(refine zl ?_ ?_<;> intro hh)|refine zm ?_|refine zn ?_|refine zo ?_|refine zp ?_|refine zq ?_|refine zr ?_|refine zs _ rfl ?_|refine zu ?_|exact Sy.fin_val (fun e=>rfl));(try conv => whnf))))
          all_goals (refine zt 8 rfl ?_)
          all_goals ((conv => whnf);(repeat' ((first|refine z1 ?_|refine z2 ?_|refine z3 ?_|refine z4 ?_|refine z5 ?_|refine z6 ?_|refine z7 ?_|refine z8 ?_|refine z9 ?_|refine za ?_|refine zb ?_|refine zc ?_|refine zd ?_|refine ze ?_|refine zf ?_|refine zg ?_|refine zh ?_|((first|refine zi ?_ ?_|refine zj ?_ ?_|refine zk ?_ ?_)<;> intro hh <;> first|(exfalso;omega)|skip)|(refine zl ?_ ?_<;> intro hh)|refine zm ?_|refine zn ?_|refine zo ?_|refine zp ?_|refine zq ?_|refine zr ?_|refine zs _ rfl ?_|refine zu ?_|exact Sy.fin_val (fun e=>rfl));(try conv => whnf))))
          all_goals (refine zt 9 rfl ?_)
          all_goals ((conv => whnf);(repeat' ((first|refine z1 ?_|refine z2 ?_|refine z3 ?_|refine z4 ?_|refine z5 ?_|refine z6 ?_|refine z7 ?_|refine z8 ?_|refine z9 ?_|refine za ?_|refine zb ?_|refine zc ?_|refine zd ?_|refine ze ?_|refine zf ?_|refine zg ?_|refine zh ?_|((first|refine zi ?_ ?_|refine zj ?_ ?_|refine zk ?_ ?_)<;> intro hh <;> first|(exfalso;omega)|skip)|(refine zl ?_ ?_<;> intro hh)|refine zm ?_|refine zn ?_|refine zo ?_|refine zp ?_|refine zq ?_|refine zr ?_|refine zs _ rfl ?_|refine zu ?_|exact Sy.fin_val (fun e=>rfl));(try conv => whnf))))
          all_goals (refine zt 10 rfl ?_)
          all_goals ((conv => whnf);(repeat' ((first|refine z1 ?_|refine z2 ?_|refine z3 ?_|refine z4 ?_|refine z5 ?_|refine z6 ?_|refine z7 ?_|refine z8 ?_|refine z9 ?_|refine za ?_|refine zb ?_|refine zc ?_|refine zd ?_|refine ze ?_|refine zf ?_|refine zg ?_|refine zh ?_|((first|refine zi ?_ ?_|refine zj ?_ ?_|refine zk ?_ ?_)<;> intro hh <;> first|(exfalso;omega)|skip)|(refine zl ?_ ?_<;> intro hh)|refine zm ?_|refine zn ?_|refine zo ?_|refine zp ?_|refine zq ?_|refine zr ?_|refine zs _ rfl ?_|refine zu ?_|exact Sy.fin_val (fun e=>rfl));(try conv => whnf))))
          all_goals (refine zt 11 rfl ?_)
          all_goals ((conv => whnf);(repeat' ((first|refine z1 ?_|refine z2 ?_|refine z3 ?_|refine z4 ?_|refine z5 ?_|refine z6 ?_|refine z7 ?_|refine z8 ?_|refine z9 ?_|refine za ?_|refine zb ?_|refine zc ?_|refine zd ?_|refine ze ?_|refine zf ?_|refine zg ?_|refine zh ?_|((first|refine zi ?_ ?_|refine zj ?_ ?_|refine zk ?_ ?_)<;> intro hh <;> first|(exfalso;omega)|skip)|(refine zl ?_ ?_<;> intro hh)|refine zm ?_|refine zn ?_|refine zo ?_|refine zp ?_|refine zq ?_|refine zr ?_|refine zs _ rfl ?_|refine zu ?_|exact Sy.fin_val (fun e=>rfl));(try conv => whnf))))
          all_goals (refine zt 12 rfl ?_)
          all_goals (conv => whnf)
          all_goals (refine zt 13 rfl ?_)
          all_goals ((conv => whnf);(repeat' ((first|refine z1 ?_|refine z2 ?_|refine z3 ?_|refine z4 ?_|refine z5 ?_|refine z6 ?_|refine z7 ?_|refine z8 ?_|refine z9 ?_|refine za ?_|refine zb ?_|refine zc ?_|refine zd ?_|refine ze ?_|refine zf ?_|refine zg ?_|refine zh ?_|((first|refine zi ?_ ?_|refine zj ?_ ?_|refine zk ?_ ?_)<;> intro hh <;> first|(exfalso;omega)|skip)|(refine zl ?_ ?_<;> intro hh)|refine zm ?_|refine zn ?_|refine zo ?_|refine zp ?_|refine zq ?_|refine zr ?_|refine zs _ rfl ?_|refine zu ?_|exact Sy.fin_val (fun e=>rfl));(try conv => whnf))))
          all_goals (refine zt 14 rfl ?_)
          all_goals ((conv => whnf);(repeat' ((first|refine z1 ?_|refine z2 ?_|refine z3 ?_|refine z4 ?_|refine z5 ?_|refine z6 ?_|refine z7 ?_|refine z8 ?_|refine z9 ?_|refine za ?_|refine zb ?_|refine zc ?_|refine zd ?_|refine ze ?_|refine zf ?_|refine zg ?_|refine zh ?_|((first|refine zi ?_ ?_|refine zj ?_ ?_|refine zk ?_ ?_)<;> intro hh <;> first|(exfalso;omega)|skip)|(refine zl ?_ ?_<;> intro hh)|refine zm ?_|refine zn ?_|refine zo ?_|refine zp ?_|refine zq ?_|refine zr ?_|refine zs _ rfl ?_|refine zu ?_|exact Sy.fin_val (fun e=>rfl));(try conv => whnf))))
          all_goals (refine zt 16 rfl ?_)
          all_goals ((conv => whnf);(repeat' ((first|refine z1 ?_|refine z2 ?_|refine z3 ?_|refine z4 ?_|refine z5 ?_|refine z6 ?_|refine z7 ?_|refine z8 ?_|refine z9 ?_|refine za ?_|refine zb ?_|refine zc ?_|refine zd ?_|refine ze ?_|refine zf ?_|refine zg ?_|refine zh ?_|((first|refine zi ?_ ?_|refine zj ?_ ?_|refine zk ?_ ?_)<;> intro hh <;> first|(exfalso;omega)|skip)|(refine zl ?_ ?_<;> intro hh)|refine zm ?_|refine zn ?_|refine zo ?_|refine zp ?_|refine zq ?_|refine zr ?_|refine zs _ rfl ?_|refine zu ?_|exact Sy.fin_val (fun e=>rfl));(try conv => whnf))))
          all_goals (refine zt 17 rfl ?_)
          all_goals ((conv => whnf);(repeat' ((first|refine z1 ?_|refine z2 ?_|refine z3 ?_|refine z4 ?_|refine z5 ?_|refine z6 ?_|refine z7 ?_|refine z8 ?_|refine z9 ?_|refine za ?_|refine zb ?_|refine zc ?_|refine zd ?_|refine ze ?_|refine zf ?_|refine zg ?_|refine zh ?_|((first|refine zi ?_ ?_|refine zj ?_ ?_|refine zk ?_ ?_)<;> intro hh <;> first|(exfalso;omega)|skip)|(refine zl ?_ ?_<;> intro hh)|refine zm ?_|refine zn ?_|refine zo ?_|refine zp ?_|refine zq ?_|refine zr ?_|refine zs _ rfl ?_|refine zu ?_|exact Sy.fin_val (fun e=>rfl));(try conv => whnf))))
          all_goals (refine zd1 [15] (zx rfl ?_ zy))
          all_goals (conv => whnf)
          all_goals (((first|refine z1 ?_|refine z2 ?_|refine z3 ?_|refine z4 ?_);conv => whnf))
          all_goals (refine Sy.call_val (.c (.v (.bool _))) Try.call23 rfl (fun e a w' h => by have := hsame_any x.now x.span x0.now x0.span (e.rv 2) (e.rv 3) (sh x.ps) (sh x0.ps) w' (Sy.row_reads h (.inl ⟨_, rfl⟩)) (Sy.row_reads h (.inl ⟨_, rfl⟩)); rw [hsb] at this; exact this) ?_)
          all_goals (conv => whnf)
          all_goals (refine ⟨(by repeat' ((conv => whnf);first|exact trivial|(refine And.intro ?_ ?_)|rfl)), ?_⟩)
          all_goals (refine zd1 [18] (zx rfl ?_ zy))
          all_goals (conv => whnf)
          all_goals (((first|refine z1 ?_|refine z2 ?_|refine z3 ?_|refine z4 ?_);conv => whnf))
          all_goals (refine Sy.call_val (.c (.v (.bool _))) Try.call12 rfl (fun e a w' h => by have := rsame_any x.now x.span x0.now x0.span (e.rv 2) (e.rv 3) (sh x.ps) (sh x0.ps) w' (Sy.row_reads h (.inl ⟨_, rfl⟩)) (Sy.row_reads h (.inl ⟨_, rfl⟩)); rw [hsb] at this; exact this) ?_)
          all_goals (conv => whnf)
          all_goals (refine ⟨(by repeat' ((conv => whnf);first|exact trivial|(refine And.intro ?_ ?_)|rfl)), ?_⟩)
          all_goals (refine zt 19 rfl ?_)
          all_goals ((conv => whnf);(repeat' ((first|refine z1 ?_|refine z2 ?_|refine z3 ?_|refine z4 ?_|refine z5 ?_|refine z6 ?_|refine z7 ?_|refine z8 ?_|refine z9 ?_|refine za ?_|refine zb ?_|refine zc ?_|refine zd ?_|refine ze ?_|refine zf ?_|refine zg ?_|refine zh ?_|((first|refine zi ?_ ?_|refine zj ?_ ?_|refine zk ?_ ?_)<;> intro hh <;> first|(exfalso;omega)|skip)|(refine zl ?_ ?_<;> intro hh)|refine zm ?_|refine zn ?_|refine zo ?_|refine zp ?_|refine zq ?_|refine zr ?_|refine zs _ rfl ?_|refine zu ?_|exact Sy.fin_val (fun e=>rfl));(try conv => whnf))))
          all_goals (refine zt 20 rfl ?_)
          all_goals ((conv => whnf);(repeat' ((first|refine z1 ?_|refine z2 ?_|refine z3 ?_|refine z4 ?_|refine z5 ?_|refine z6 ?_|refine z7 ?_|refine z8 ?_|refine z9 ?_|refine za ?_|refine zb ?_|refine zc ?_|refine zd ?_|refine ze ?_|refine zf ?_|refine zg ?_|refine zh ?_|((first|refine zi ?_ ?_|refine zj ?_ ?_|refine zk ?_ ?_)<;> intro hh <;> first|(exfalso;omega)|skip)|(refine zl ?_ ?_<;> intro hh)|refine zm ?_|refine zn ?_|refine zo ?_|refine zp ?_|refine zq ?_|refine zr ?_|refine zs _ rfl ?_|refine zu ?_|exact Sy.fin_val (fun e=>rfl));(try conv => whnf))))
          all_goals (refine zt 21 rfl ?_)
          all_goals (conv => whnf)
          all_goals (refine zt 22 rfl ?_)
          all_goals ((conv => whnf);(repeat' ((first|refine z1 ?_|refine z2 ?_|refine z3 ?_|refine z4 ?_|refine z5 ?_|refine z6 ?_|refine z7 ?_|refine z8 ?_|refine z9 ?_|refine za ?_|refine zb ?_|refine zc ?_|refine zd ?_|refine ze ?_|refine zf ?_|refine zg ?_|refine zh ?_|((first|refine zi ?_ ?_|refine zj ?_ ?_|refine zk ?_ ?_)<;> intro hh <;> first|(exfalso;omega)|skip)|(refine zl ?_ ?_<;> intro hh)|refine zm ?_|refine zn ?_|refine zo ?_|refine zp ?_|refine zq ?_|refine zr ?_|refine zs _ rfl ?_|refine zu ?_|exact Sy.fin_val (fun e=>rfl));(try conv => whnf))))
          all_goals (refine zt 23 rfl ?_)
          all_goals ((conv => whnf);(repeat' ((first|refine z1 ?_|refine z2 ?_|refine z3 ?_|refine z4 ?_|refine z5 ?_|refine z6 ?_|refine z7 ?_|refine z8 ?_|refine z9 ?_|refine za ?_|refine zb ?_|refine zc ?_|refine zd ?_|refine ze ?_|refine zf ?_|refine zg ?_|refine zh ?_|((first|refine zi ?_ ?_|refine zj ?_ ?_|refine zk ?_ ?_)<;> intro hh <;> first|(exfalso;omega)|skip)|(refine zl ?_ ?_<;> intro hh)|refine zm ?_|refine zn ?_|refine zo ?_|refine zp ?_|refine zq ?_|refine zr ?_|refine zs _ rfl ?_|refine zu ?_|exact Sy.fin_val (fun e=>rfl));(try conv => whnf))))
          all_goals (refine zd1 [24] (zx rfl ?_ zy))
          all_goals (conv => whnf)
          all_goals (((first|refine z1 ?_|refine z2 ?_|refine z3 ?_|refine z4 ?_);conv => whnf))
          all_goals (refine Sy.call_r1 ⟨51, 3, (sh x.ps).length, (sh x.ps).map encP⟩ (fun k => .agg [.v (.int .i64 x.now), .v (.int .i64 x.span), .row k]) Try.call17 (fun e a w' h => short_r x.now x.span x.v x.ps w' (Sy.later_in h hn2)) ?_)
          all_goals (conv => whnf)
          all_goals (refine ⟨(by repeat' ((conv => whnf);first|exact trivial|(refine And.intro ?_ ?_)|rfl)), ?_⟩)
          all_goals (refine zd1 [25] (zx rfl ?_ zy))
          all_goals (conv => whnf)
          all_goals (((first|refine z1 ?_|refine z2 ?_|refine z3 ?_|refine z4 ?_);conv => whnf))
          all_goals (refine Sy.call_val (.c (.v (.bool true))) Try.call23 rfl (fun e a w' h => by have := hsame_any x.now x.span x.now x.span (e.rv 2) (e.rv 6) (sh x.ps) (sh x.ps) w' (Sy.row_reads h (.inl ⟨_, rfl⟩)) (Sy.row_reads h (.inl ⟨_, rfl⟩)); rw [sameB_self] at this; exact this) ?_)
          all_goals (conv => whnf)
          all_goals (refine ⟨(by repeat' ((conv => whnf);first|exact trivial|(refine And.intro ?_ ?_)|rfl)), ?_⟩)
          all_goals (refine zt 26 rfl ?_)
          all_goals ((conv => whnf);(repeat' ((first|refine z1 ?_|refine z2 ?_|refine z3 ?_|refine z4 ?_|refine z5 ?_|refine z6 ?_|refine z7 ?_|refine z8 ?_|refine z9 ?_|refine za ?_|refine zb ?_|refine zc ?_|refine zd ?_|refine ze ?_|refine zf ?_|refine zg ?_|refine zh ?_|((first|refine zi ?_ ?_|refine zj ?_ ?_|refine zk ?_ ?_)<;> intro hh <;> first|(exfalso;omega)|skip)|(refine zl ?_ ?_<;> intro hh)|refine zm ?_|refine zn ?_|refine zo ?_|refine zp ?_|refine zq ?_|refine zr ?_|refine zs _ rfl ?_|refine zu ?_|exact Sy.fin_val (fun e=>rfl));(try conv => whnf))))
          all_goals (refine zt 27 rfl ?_)
          all_goals ((conv => whnf);(repeat' ((first|refine z1 ?_|refine z2 ?_|refine z3 ?_|refine z4 ?_|refine z5 ?_|refine z6 ?_|refine z7 ?_|refine z8 ?_|refine z9 ?_|refine za ?_|refine zb ?_|refine zc ?_|refine zd ?_|refine ze ?_|refine zf ?_|refine zg ?_|refine zh ?_|((first|refine zi ?_ ?_|refine zj ?_ ?_|refine zk ?_ ?_)<;> intro hh <;> first|(exfalso;omega)|skip)|(refine zl ?_ ?_<;> intro hh)|refine zm ?_|refine zn ?_|refine zo ?_|refine zp ?_|refine zq ?_|refine zr ?_|refine zs _ rfl ?_|refine zu ?_|exact Sy.fin_val (fun e=>rfl));(try conv => whnf))))
          all_goals (refine zw ?_)
          all_goals (((repeat' (first|((conv => whnf);done)|((try conv => whnf);first|exact trivial|(refine And.intro ?_ ?_)|rfl)));(all_goals (try conv => whnf))))
        · ((repeat' ((conv => whnf);(first|refine z1 ?_|refine z2 ?_|refine z3 ?_|refine z4 ?_|refine z5 ?_|refine z6 ?_|refine z7 ?_|refine z8 ?_|refine z9 ?_|refine za ?_|refine zb ?_|refine zc ?_|refine zd ?_|refine ze ?_|refine zf ?_|refine zg ?_|refine zh ?_|((first|refine zi ?_ ?_|refine zj ?_ ?_|refine zk ?_ ?_)<;> intro hh <;> first|(exfalso;omega)|skip)|(refine zl ?_ ?_<;> intro hh)|refine zm ?_|refine zn ?_|refine zo ?_|refine zp ?_|refine zq ?_|refine zr ?_|refine zs _ rfl ?_|refine zu ?_|exact Sy.fin_val (fun e=>rfl))));(all_goals (try conv => whnf)))
          refine Sy.call_r1 ⟨3, 1, (aliveL x.now x.span (sh x.ps)).length, (aliveL x.now x.span (sh x.ps)).map encI⟩ (fun k => .c (.row k)) Try.call15 (fun e a w' h => alive_any _ _ _ _ w' hn1 (Sy.row_reads h (.inl ⟨_, rfl⟩))) ?_
          ((repeat' ((conv => whnf);(first|refine z1 ?_|refine z2 ?_|refine z3 ?_|refine z4 ?_|refine z5 ?_|refine z6 ?_|refine z7 ?_|refine z8 ?_|refine z9 ?_|refine za ?_|refine zb ?_|refine zc ?_|refine zd ?_|refine ze ?_|refine zf ?_|refine zg ?_|refine zh ?_|((first|refine zi ?_ ?_|refine zj ?_ ?_|refine zk ?_ ?_)<;> intro hh <;> first|(exfalso;omega)|skip)|(refine zl ?_ ?_<;> intro hh)|refine zm ?_|refine zn ?_|refine zo ?_|refine zp ?_|refine zq ?_|refine zr ?_|refine zs _ rfl ?_|refine zu ?_|exact Sy.fin_val (fun e=>rfl))));(all_goals (try conv => whnf)))
          obtain ⟨du, dk, hdu⟩ : ∃ du dk, dueH x.now x.span (sh x.ps) = (du, dk) := ⟨_, _, rfl⟩
          refine Sy.call_val (.tup [.c (.v (.int .i64 du)), .c (.v (.bool dk))]) Try.call24 rfl (fun e a w' h => by have := due_any x.now x.span (e.rv 2) (sh x.ps) w' hn1 (Sy.row_reads h (.inl ⟨_, rfl⟩)); rw [hdu] at this; exact this) ?_
          cases dk
          all_goals
            ((repeat' ((conv => whnf);(first|refine z1 ?_|refine z2 ?_|refine z3 ?_|refine z4 ?_|refine z5 ?_|refine z6 ?_|refine z7 ?_|refine z8 ?_|refine z9 ?_|refine za ?_|refine zb ?_|refine zc ?_|refine zd ?_|refine ze ?_|refine zf ?_|refine zg ?_|refine zh ?_|((first|refine zi ?_ ?_|refine zj ?_ ?_|refine zk ?_ ?_)<;> intro hh <;> first|(exfalso;omega)|skip)|(refine zl ?_ ?_<;> intro hh)|refine zm ?_|refine zn ?_|refine zo ?_|refine zp ?_|refine zq ?_|refine zr ?_|refine zs _ rfl ?_|refine zu ?_|exact Sy.fin_val (fun e=>rfl))));(all_goals (try conv => whnf)))
            refine Sy.call_val (.tup [.c (.v (.int .i64 du)), .c (.v (.bool _))]) Try.call25 rfl (fun e a w' h => by have := rdue_any x.now x.span (e.rv 2) (sh x.ps) w' hok (Sy.row_reads h (.inl ⟨_, rfl⟩)); rw [hdu] at this; exact this) ?_
            ((repeat' ((conv => whnf);(first|refine z1 ?_|refine z2 ?_|refine z3 ?_|refine z4 ?_|refine z5 ?_|refine z6 ?_|refine z7 ?_|refine z8 ?_|refine z9 ?_|refine za ?_|refine zb ?_|refine zc ?_|refine zd ?_|refine ze ?_|refine zf ?_|refine zg ?_|refine zh ?_|((first|refine zi ?_ ?_|refine zj ?_ ?_|refine zk ?_ ?_)<;> intro hh <;> first|(exfalso;omega)|skip)|(refine zl ?_ ?_<;> intro hh)|refine zm ?_|refine zn ?_|refine zo ?_|refine zp ?_|refine zq ?_|refine zr ?_|refine zs _ rfl ?_|refine zu ?_|exact Sy.fin_val (fun e=>rfl))));(all_goals (try conv => whnf)))
            refine Sy.call_r1 ⟨3, 1, (aliveL x.now x.span (sh x.ps)).length, (aliveL x.now x.span (sh x.ps)).map encI⟩ (fun k => .c (.row k)) Try.call26 (fun e a w' h => ralive_any _ _ _ _ w' hok (Sy.row_reads h (.inl ⟨_, rfl⟩))) ?_
            ((repeat' ((conv => whnf);(first|refine z1 ?_|refine z2 ?_|refine z3 ?_|refine z4 ?_|refine z5 ?_|refine z6 ?_|refine z7 ?_|refine z8 ?_|refine z9 ?_|refine za ?_|refine zb ?_|refine zc ?_|refine zd ?_|refine ze ?_|refine zf ?_|refine zg ?_|refine zh ?_|((first|refine zi ?_ ?_|refine zj ?_ ?_|refine zk ?_ ?_)<;> intro hh <;> first|(exfalso;omega)|skip)|(refine zl ?_ ?_<;> intro hh)|refine zm ?_|refine zn ?_|refine zo ?_|refine zp ?_|refine zq ?_|refine zr ?_|refine zs _ rfl ?_|refine zu ?_|exact Sy.fin_val (fun e=>rfl))));(all_goals (try conv => whnf)))
            refine Sy.call_val (.c (.v (.bool true))) Try.call20 rfl (fun e a w' h => by have := sameI_any (e.rv 6) (e.rv 7) (aliveL x.now x.span (sh x.ps)) (aliveL x.now x.span (sh x.ps)) w' (Sy.row_reads h (.inl ⟨_, rfl⟩)) (Sy.row_reads h (.inl ⟨_, rfl⟩)); rw [decide_eq_true rfl] at this; exact this) ?_
            ((repeat' ((conv => whnf);(first|refine z1 ?_|refine z2 ?_|refine z3 ?_|refine z4 ?_|refine z5 ?_|refine z6 ?_|refine z7 ?_|refine z8 ?_|refine z9 ?_|refine za ?_|refine zb ?_|refine zc ?_|refine zd ?_|refine ze ?_|refine zf ?_|refine zg ?_|refine zh ?_|((first|refine zi ?_ ?_|refine zj ?_ ?_|refine zk ?_ ?_)<;> intro hh <;> first|(exfalso;omega)|skip)|(refine zl ?_ ?_<;> intro hh)|refine zm ?_|refine zn ?_|refine zo ?_|refine zp ?_|refine zq ?_|refine zr ?_|refine zs _ rfl ?_|refine zu ?_|exact Sy.fin_val (fun e=>rfl))));(all_goals (try conv => whnf)))
            refine ⟨n + 1, by omega, by omega, ?_⟩
            ((repeat' (first|((conv => whnf);done)|((try conv => whnf);first|exact trivial|(refine And.intro ?_ ?_)|rfl)));(all_goals (try conv => whnf)))
      · rw [show okH x.now x.span (sh x.ps) = false by simpa using hok, show chkE x.now x.span (sh x.ps) = 360 by unfold chkE; rw [if_neg hok]]
        ((repeat' ((conv => whnf);(first|refine z1 ?_|refine z2 ?_|refine z3 ?_|refine z4 ?_|refine z5 ?_|refine z6 ?_|refine z7 ?_|refine z8 ?_|refine z9 ?_|refine za ?_|refine zb ?_|refine zc ?_|refine zd ?_|refine ze ?_|refine zf ?_|refine zg ?_|refine zh ?_|((first|refine zi ?_ ?_|refine zj ?_ ?_|refine zk ?_ ?_)<;> intro hh <;> first|(exfalso;omega)|skip)|(refine zl ?_ ?_<;> intro hh)|refine zm ?_|refine zn ?_|refine zo ?_|refine zp ?_|refine zq ?_|refine zr ?_|refine zs _ rfl ?_|refine zu ?_|exact Sy.fin_val (fun e=>rfl))));(all_goals (try conv => whnf)))
        refine Sy.meet1 6 [] [(62, .c (.v (.bool false)))] [] Sy.tab_ok rfl ?_ ?_
        · cases hsb : sameB x.now x.span (sh x.ps) x0.now x0.span (sh x0.ps)
          all_goals (refine Sy.draw_go [] (by kernel_rfl) ?_; intro e0; conv => whnf)
          all_goals (refine zt 0 rfl ?_)
          all_goals (conv => whnf)
          all_goals (refine zt 1 rfl ?_)
          all_goals ((conv => whnf);(repeat' ((first|refine z1 ?_|refine z2 ?_|refine z3 ?_|refine z4 ?_|refine z5 ?_|refine z6 ?_|refine z7 ?_|refine z8 ?_|refine z9 ?_|refine za ?_|refine zb ?_|refine zc ?_|refine zd ?_|refine ze ?_|refine zf ?_|refine zg ?_|refine zh ?_|((first|refine zi ?_ ?_|refine zj ?_ ?_|refine zk ?_ ?_)<;> intro hh <;> first|(exfalso;omega)|skip)|(refine zl ?_ ?_<;> intro hh)|refine zm ?_|refine zn ?_|refine zo ?_|refine zp ?_|refine zq ?_|refine zr ?_|refine zs _ rfl ?_|refine zu ?_|exact Sy.fin_val (fun e=>rfl));(try conv => whnf))))
          all_goals (refine zt 2 rfl ?_)
          all_goals (conv => whnf)
          all_goals (refine zt 3 rfl ?_)
          all_goals ((conv => whnf);(repeat' ((first|refine z1 ?_|refine z2 ?_|refine z3 ?_|refine z4 ?_|refine z5 ?_|refine z6 ?_|refine z7 ?_|refine z8 ?_|refine z9 ?_|refine za ?_|refine zb ?_|refine zc ?_|refine zd ?_|refine ze ?_|refine zf ?_|refine zg ?_|refine zh ?_|((first|refine zi ?_ ?_|refine zj ?_ ?_|refine zk ?_ ?_)<;> intro hh <;> first|(exfalso;omega)|skip)|(refine zl ?_ ?_<;> intro hh)|refine zm ?_|refine zn ?_|refine zo ?_|refine zp ?_|refine zq ?_|refine zr ?_|refine zs _ rfl ?_|refine zu ?_|exact Sy.fin_val (fun e=>rfl));(try conv => whnf))))
          all_goals (refine zt 4 rfl ?_)
          all_goals (conv => whnf)
          all_goals (refine zt 5 rfl ?_)
          all_goals ((conv => whnf);(repeat' ((first|refine z1 ?_|refine z2 ?_|refine z3 ?_|refine z4 ?_|refine z5 ?_|refine z6 ?_|refine z7 ?_|refine z8 ?_|refine z9 ?_|refine za ?_|refine zb ?_|refine zc ?_|refine zd ?_|refine ze ?_|refine zf ?_|refine zg ?_|refine zh ?_|((first|refine zi ?_ ?_|refine zj ?_ ?_|refine zk ?_ ?_)<;> intro hh <;> first|(exfalso;omega)|skip)|(refine zl ?_ ?_<;> intro hh)|refine zm ?_|refine zn ?_|refine zo ?_|refine zp ?_|refine zq ?_|refine zr ?_|refine zs _ rfl ?_|refine zu ?_|exact Sy.fin_val (fun e=>rfl));(try conv => whnf))))
          all_goals (refine zt 6 rfl ?_)
          all_goals ((conv => whnf);(repeat' ((first|refine z1 ?_|refine z2 ?_|refine z3 ?_|refine z4 ?_|refine z5 ?_|refine z6 ?_|refine z7 ?_|refine z8 ?_|refine z9 ?_|refine za ?_|refine zb ?_|refine zc ?_|refine zd ?_|refine ze ?_|refine zf ?_|refine zg ?_|refine zh ?_|((first|refine zi ?_ ?_|refine zj ?_ ?_|refine zk ?_ ?_)<;> intro hh <;> first|(exfalso;omega)|skip)|(refine zl ?_ ?_<;> intro hh)|refine zm ?_|refine zn ?_|refine zo ?_|refine zp ?_|refine zq ?_|refine zr ?_|refine zs _ rfl ?_|refine zu ?_|exact Sy.fin_val (fun e=>rfl));(try conv => whnf))))
          all_goals (refine zt 7 rfl ?_)
          all_goals ((conv => whnf);(repeat' ((first|refine z1 ?_|refine z2 ?_|refine z3 ?_|refine z4 ?_|refine z5 ?_|refine z6 ?_|refine z7 ?_|refine z8 ?_|refine z9 ?_|refine za ?_|refine zb ?_|refine zc ?_|refine zd ?_|refine ze ?_|refine zf ?_|refine zg ?_|refine zh ?_|((first|refine zi ?_ ?_|refine zj ?_ ?_|refine zk ?_ ?_)<;> intro hh <;> first|(exfalso;omega)|skip)|(refine zl ?_ ?_<;> intro hh)|refine zm ?_|refine zn ?_|refine zo ?_|refine zp ?_|refine zq ?_|refine zr ?_|refine zs _ rfl ?_|refine zu ?_|exact Sy.fin_val (fun e=>rfl));(try conv => whnf))))
          all_goals (refine zt 8 rfl ?_)
          all_goals ((conv => whnf);(repeat' ((first|refine z1 ?_|refine z2 ?_|refine z3 ?_|refine z4 ?_|refine z5 ?_|refine z6 ?_|refine z7 ?_|refine z8 ?_|refine z9 ?_|refine za ?_|refine zb ?_|refine zc ?_|refine zd ?_|refine ze ?_|refine zf ?_|refine zg ?_|refine zh ?_|((first|refine zi ?_ ?_|refine zj ?_ ?_|refine zk ?_ ?_)<;> intro hh <;> first|(exfalso;omega)|skip)|(refine zl ?_ ?_<;> intro hh)|refine zm ?_|refine zn ?_|refine zo ?_|refine zp ?_|refine zq ?_|refine zr ?_|refine zs _ rfl ?_|refine zu ?_|exact Sy.fin_val (fun e=>rfl));(try conv => whnf))))
          all_goals (refine zt 9 rfl ?_)
          all_goals ((conv => whnf);(repeat' ((first|refine z1 ?_|refine z2 ?_|refine z3 ?_|refine z4 ?_|refine z5 ?_|refine z6 ?_|refine z7 ?_|refine z8 ?_|refine z9 ?_|refine za ?_|refine zb ?_|refine zc ?_|refine zd ?_|refine ze ?_|refine zf ?_|refine zg ?_|refine zh ?_|((first|refine zi ?_ ?_|refine zj ?_ ?_|refine zk ?_ ?_)<;> intro hh <;> first|(exfalso;omega)|skip)|(refine zl ?_ ?_<;> intro hh)|refine zm ?_|refine zn ?_|refine zo ?_|refine zp ?_|refine zq ?_|refine zr ?_|refine zs _ rfl ?_|refine zu ?_|exact Sy.fin_val (fun e=>rfl));(try conv => whnf))))
          all_goals (refine zt 10 rfl ?_)
          all_goals ((conv => whnf);(repeat' ((first|refine z1 ?_|refine z2 ?_|refine z3 ?_|refine z4 ?_|refine z5 ?_|refine z6 ?_|refine z7 ?_|refine z8 ?_|refine z9 ?_|refine za ?_|refine zb ?_|refine zc ?_|refine zd ?_|refine ze ?_|refine zf ?_|refine zg ?_|refine zh ?_|((first|refine zi ?_ ?_|refine zj ?_ ?_|refine zk ?_ ?_)<;> intro hh <;> first|(exfalso;omega)|skip)|(refine zl ?_ ?_<;> intro hh)|refine zm ?_|refine zn ?_|refine zo ?_|refine zp ?_|refine zq ?_|refine zr ?_|refine zs _ rfl ?_|refine zu ?_|exact Sy.fin_val (fun e=>rfl));(try conv => whnf))))
          all_goals (refine zt 11 rfl ?_)
          all_goals ((conv => whnf);(repeat' ((first|refine z1 ?_|refine z2 ?_|refine z3 ?_|refine z4 ?_|refine z5 ?_|refine z6 ?_|refine z7 ?_|refine z8 ?_|refine z9 ?_|refine za ?_|refine zb ?_|refine zc ?_|refine zd ?_|refine ze ?_|refine zf ?_|refine zg ?_|refine zh ?_|((first|refine zi ?_ ?_|refine zj ?_ ?_|refine zk ?_ ?_)<;> intro hh <;> first|(exfalso;omega)|skip)|(refine zl ?_ ?_<;> intro hh)|refine zm ?_|refine zn ?_|refine zo ?_|refine zp ?_|refine zq ?_|refine zr ?_|refine zs _ rfl ?_|refine zu ?_|exact Sy.fin_val (fun e=>rfl));(try conv => whnf))))
          all_goals (refine zt 12 rfl ?_)
          all_goals (conv => whnf)
          all_goals (refine zt 13 rfl ?_)
          all_goals ((conv => whnf);(repeat' ((first|refine z1 ?_|refine z2 ?_|refine z3 ?_|refine z4 ?_|refine z5 ?_|refine z6 ?_|refine z7 ?_|refine z8 ?_|refine z9 ?_|refine za ?_|refine zb ?_|refine zc ?_|refine zd ?_|refine ze ?_|refine zf ?_|refine zg ?_|refine zh ?_|((first|refine zi ?_ ?_|refine zj ?_ ?_|refine zk ?_ ?_)<;> intro hh <;> first|(exfalso;omega)|skip)|(refine zl ?_ ?_<;> intro hh)|refine zm ?_|refine zn ?_|refine zo ?_|refine zp ?_|refine zq ?_|refine zr ?_|refine zs _ rfl ?_|refine zu ?_|exact Sy.fin_val (fun e=>rfl));(try conv => whnf))))
          all_goals (refine zt 14 rfl ?_)
          all_goals ((conv => whnf);(repeat' ((first|refine z1 ?_|refine z2 ?_|refine z3 ?_|refine z4 ?_|refine z5 ?_|refine z6 ?_|refine z7 ?_|refine z8 ?_|refine z9 ?_|refine za ?_|refine zb ?_|refine zc ?_|refine zd ?_|refine ze ?_|refine zf ?_|refine zg ?_|refine zh ?_|((first|refine zi ?_ ?_|refine zj ?_ ?_|refine zk ?_ ?_)<;> intro hh <;> first|(exfalso;omega)|skip)|(refine zl ?_ ?_<;> intro hh)|refine zm ?_|refine zn ?_|refine zo ?_|refine zp ?_|refine zq ?_|refine zr ?_|refine zs _ rfl ?_|refine zu ?_|exact Sy.fin_val (fun e=>rfl));(try conv => whnf))))
          all_goals (refine zt 16 rfl ?_)
          all_goals ((conv => whnf);(repeat' ((first|refine z1 ?_|refine z2 ?_|refine z3 ?_|refine z4 ?_|refine z5 ?_|refine z6 ?_|refine z7 ?_|refine z8 ?_|refine z9 ?_|refine za ?_|refine zb ?_|refine zc ?_|refine zd ?_|refine ze ?_|refine zf ?_|refine zg ?_|refine zh ?_|((first|refine zi ?_ ?_|refine zj ?_ ?_|refine zk ?_ ?_)<;> intro hh <;> first|(exfalso;omega)|skip)|(refine zl ?_ ?_<;> intro hh)|refine zm ?_|refine zn ?_|refine zo ?_|refine zp ?_|refine zq ?_|refine zr ?_|refine zs _ rfl ?_|refine zu ?_|exact Sy.fin_val (fun e=>rfl));(try conv => whnf))))
          all_goals (refine zt 17 rfl ?_)
          all_goals ((conv => whnf);(repeat' ((first|refine z1 ?_|refine z2 ?_|refine z3 ?_|refine z4 ?_|refine z5 ?_|refine z6 ?_|refine z7 ?_|refine z8 ?_|refine z9 ?_|refine za ?_|refine zb ?_|refine zc ?_|refine zd ?_|refine ze ?_|refine zf ?_|refine zg ?_|refine zh ?_|((first|refine zi ?_ ?_|refine zj ?_ ?_|refine zk ?_ ?_)<;> intro hh <;> first|(exfalso;omega)|skip)|(refine zl ?_ ?_<;> intro hh)|refine zm ?_|refine zn ?_|refine zo ?_|refine zp ?_|refine zq ?_|refine zr ?_|refine zs _ rfl ?_|refine zu ?_|exact Sy.fin_val (fun e=>rfl));(try conv => whnf))))
          all_goals (refine zd1 [15] (zx rfl ?_ zy))
          all_goals (conv => whnf)
          all_goals (((first|refine z1 ?_|refine z2 ?_|refine z3 ?_|refine z4 ?_);conv => whnf))
          all_goals (refine Sy.call_val (.c (.v (.bool _))) Try.call23 rfl (fun e a w' h => by have := hsame_any x.now x.span x0.now x0.span (e.rv 2) (e.rv 3) (sh x.ps) (sh x0.ps) w' (Sy.row_reads h (.inl ⟨_, rfl⟩)) (Sy.row_reads h (.inl ⟨_, rfl⟩)); rw [hsb] at this; exact this) ?_)
          all_goals (conv => whnf)
          all_goals (refine ⟨(by repeat' ((conv => whnf);first|exact trivial|(refine And.intro ?_ ?_)|rfl)), ?_⟩)
          all_goals (refine zd1 [18] (zx rfl ?_ zy))
          all_goals (conv => whnf)
          all_goals (((first|refine z1 ?_|refine z2 ?_|refine z3 ?_|refine z4 ?_);conv => whnf))
          all_goals (refine Sy.call_val (.c (.v (.bool _))) Try.call12 rfl (fun e a w' h => by have := rsame_any x.now x.span x0.now x0.span (e.rv 2) (e.rv 3) (sh x.ps) (sh x0.ps) w' (Sy.row_reads h (.inl ⟨_, rfl⟩)) (Sy.row_reads h (.inl ⟨_, rfl⟩)); rw [hsb] at this; exact this) ?_)
          all_goals (conv => whnf)
          all_goals (refine ⟨(by repeat' ((conv => whnf);first|exact trivial|(refine And.intro ?_ ?_)|rfl)), ?_⟩)
          all_goals (refine zt 19 rfl ?_)
          all_goals ((conv => whnf);(repeat' ((first|refine z1 ?_|refine z2 ?_|refine z3 ?_|refine z4 ?_|refine z5 ?_|refine z6 ?_|refine z7 ?_|refine z8 ?_|refine z9 ?_|refine za ?_|refine zb ?_|refine zc ?_|refine zd ?_|refine ze ?_|refine zf ?_|refine zg ?_|refine zh ?_|((first|refine zi ?_ ?_|refine zj ?_ ?_|refine zk ?_ ?_)<;> intro hh <;> first|(exfalso;omega)|skip)|(refine zl ?_ ?_<;> intro hh)|refine zm ?_|refine zn ?_|refine zo ?_|refine zp ?_|refine zq ?_|refine zr ?_|refine zs _ rfl ?_|refine zu ?_|exact Sy.fin_val (fun e=>rfl));(try conv => whnf))))
          all_goals (refine zt 20 rfl ?_)
          all_goals ((conv => whnf);(repeat' ((first|refine z1 ?_|refine z2 ?_|refine z3 ?_|refine z4 ?_|refine z5 ?_|refine z6 ?_|refine z7 ?_|refine z8 ?_|refine z9 ?_|refine za ?_|refine zb ?_|refine zc ?_|refine zd ?_|refine ze ?_|refine zf ?_|refine zg ?_|refine zh ?_|((first|refine zi ?_ ?_|refine zj ?_ ?_|refine zk ?_ ?_)<;> intro hh <;> first|(exfalso;omega)|skip)|(refine zl ?_ ?_<;> intro hh)|refine zm ?_|refine zn ?_|refine zo ?_|refine zp ?_|refine zq ?_|refine zr ?_|refine zs _ rfl ?_|refine zu ?_|exact Sy.fin_val (fun e=>rfl));(try conv => whnf))))
          all_goals (refine zt 21 rfl ?_)
          all_goals (conv => whnf)
          all_goals (refine zt 22 rfl ?_)
          all_goals ((conv => whnf);(repeat' ((first|refine z1 ?_|refine z2 ?_|refine z3 ?_|refine z4 ?_|refine z5 ?_|refine z6 ?_|refine z7 ?_|refine z8 ?_|refine z9 ?_|refine za ?_|refine zb ?_|refine zc ?_|refine zd ?_|refine ze ?_|refine zf ?_|refine zg ?_|refine zh ?_|((first|refine zi ?_ ?_|refine zj ?_ ?_|refine zk ?_ ?_)<;> intro hh <;> first|(exfalso;omega)|skip)|(refine zl ?_ ?_<;> intro hh)|refine zm ?_|refine zn ?_|refine zo ?_|refine zp ?_|refine zq ?_|refine zr ?_|refine zs _ rfl ?_|refine zu ?_|exact Sy.fin_val (fun e=>rfl));(try conv => whnf))))
          all_goals (refine zt 23 rfl ?_)
          all_goals ((conv => whnf);(repeat' ((first|refine z1 ?_|refine z2 ?_|refine z3 ?_|refine z4 ?_|refine z5 ?_|refine z6 ?_|refine z7 ?_|refine z8 ?_|refine z9 ?_|refine za ?_|refine zb ?_|refine zc ?_|refine zd ?_|refine ze ?_|refine zf ?_|refine zg ?_|refine zh ?_|((first|refine zi ?_ ?_|refine zj ?_ ?_|refine zk ?_ ?_)<;> intro hh <;> first|(exfalso;omega)|skip)|(refine zl ?_ ?_<;> intro hh)|refine zm ?_|refine zn ?_|refine zo ?_|refine zp ?_|refine zq ?_|refine zr ?_|refine zs _ rfl ?_|refine zu ?_|exact Sy.fin_val (fun e=>rfl));(try conv => whnf))))
          all_goals (refine zd1 [24] (zx rfl ?_ zy))
          all_goals (conv => whnf)
          all_goals (((first|refine z1 ?_|refine z2 ?_|refine z3 ?_|refine z4 ?_);conv => whnf))
          all_goals (refine Sy.call_r1 ⟨51, 3, (sh x.ps).length, (sh x.ps).map encP⟩ (fun k => .agg [.v (.int .i64 x.now), .v (.int .i64 x.span), .row k]) Try.call17 (fun e a w' h => short_r x.now x.span x.v x.ps w' (Sy.later_in h hn2)) ?_)
          all_goals (conv => whnf)
          all_goals (refine ⟨(by repeat' ((conv => whnf);first|exact trivial|(refine And.intro ?_ ?_)|rfl)), ?_⟩)
          all_goals (refine zd1 [25] (zx rfl ?_ zy))
          all_goals (conv => whnf)
          all_goals (((first|refine z1 ?_|refine z2 ?_|refine z3 ?_|refine z4 ?_);conv => whnf))
          all_goals (refine Sy.call_val (.c (.v (.bool true))) Try.call23 rfl (fun e a w' h => by have := hsame_any x.now x.span x.now x.span (e.rv 2) (e.rv 6) (sh x.ps) (sh x.ps) w' (Sy.row_reads h (.inl ⟨_, rfl⟩)) (Sy.row_reads h (.inl ⟨_, rfl⟩)); rw [sameB_self] at this; exact this) ?_)
          all_goals (conv => whnf)
          all_goals (refine ⟨(by repeat' ((conv => whnf);first|exact trivial|(refine And.intro ?_ ?_)|rfl)), ?_⟩)
          all_goals (refine zt 26 rfl ?_)
          all_goals ((conv => whnf);(repeat' ((first|refine z1 ?_|refine z2 ?_|refine z3 ?_|refine z4 ?_|refine z5 ?_|refine z6 ?_|refine z7 ?_|refine z8 ?_|refine z9 ?_|refine za ?_|refine zb ?_|refine zc ?_|refine zd ?_|refine ze ?_|refine zf ?_|refine zg ?_|refine zh ?_|((first|refine zi ?_ ?_|refine zj ?_ ?_|refine zk ?_ ?_)<;> intro hh <;> first|(exfalso;omega)|skip)|(refine zl ?_ ?_<;> intro hh)|refine zm ?_|refine zn ?_|refine zo ?_|refine zp ?_|refine zq ?_|refine zr ?_|refine zs _ rfl ?_|refine zu ?_|exact Sy.fin_val (fun e=>rfl));(try conv => whnf))))
          all_goals (refine zt 27 rfl ?_)
          all_goals ((conv => whnf);(repeat' ((first|refine z1 ?_|refine z2 ?_|refine z3 ?_|refine z4 ?_|refine z5 ?_|refine z6 ?_|refine z7 ?_|refine z8 ?_|refine z9 ?_|refine za ?_|refine zb ?_|refine zc ?_|refine zd ?_|refine ze ?_|refine zf ?_|refine zg ?_|refine zh ?_|((first|refine zi ?_ ?_|refine zj ?_ ?_|refine zk ?_ ?_)<;> intro hh <;> first|(exfalso;omega)|skip)|(refine zl ?_ ?_<;> intro hh)|refine zm ?_|refine zn ?_|refine zo ?_|refine zp ?_|refine zq ?_|refine zr ?_|refine zs _ rfl ?_|refine zu ?_|exact Sy.fin_val (fun e=>rfl));(try conv => whnf))))
          all_goals (refine zw ?_)
          all_goals (((repeat' (first|((conv => whnf);done)|((try conv => whnf);first|exact trivial|(refine And.intro ?_ ?_)|rfl)));(all_goals (try conv => whnf))))
        · ((repeat' ((conv => whnf);(first|refine z1 ?_|refine z2 ?_|refine z3 ?_|refine z4 ?_|refine z5 ?_|refine z6 ?_|refine z7 ?_|refine z8 ?_|refine z9 ?_|refine za ?_|refine zb ?_|refine zc ?_|refine zd ?_|refine ze ?_|refine zf ?_|refine zg ?_|refine zh ?_|((first|refine zi ?_ ?_|refine zj ?_ ?_|refine zk ?_ ?_)<;> intro hh <;> first|(exfalso;omega)|skip)|(refine zl ?_ ?_<;> intro hh)|refine zm ?_|refine zn ?_|refine zo ?_|refine zp ?_|refine zq ?_|refine zr ?_|refine zs _ rfl ?_|refine zu ?_|exact Sy.fin_val (fun e=>rfl))));(all_goals (try conv => whnf)))
          refine Sy.call_r1 ⟨3, 1, 0, []⟩ (fun k => .c (.row k)) Try.call15 (fun e a w' h => by have := alive_any x.now x.span (e.rv 2) (sh x.ps) w' hn1 (Sy.row_reads h (.inl ⟨_, rfl⟩)); rw [aliveL_no hok] at this; exact this) ?_
          ((repeat' ((conv => whnf);(first|refine z1 ?_|refine z2 ?_|refine z3 ?_|refine z4 ?_|refine z5 ?_|refine z6 ?_|refine z7 ?_|refine z8 ?_|refine z9 ?_|refine za ?_|refine zb ?_|refine zc ?_|refine zd ?_|refine ze ?_|refine zf ?_|refine zg ?_|refine zh ?_|((first|refine zi ?_ ?_|refine zj ?_ ?_|refine zk ?_ ?_)<;> intro hh <;> first|(exfalso;omega)|skip)|(refine zl ?_ ?_<;> intro hh)|refine zm ?_|refine zn ?_|refine zo ?_|refine zp ?_|refine zq ?_|refine zr ?_|refine zs _ rfl ?_|refine zu ?_|exact Sy.fin_val (fun e=>rfl))));(all_goals (try conv => whnf)))
          refine Sy.call_val (.tup [.c (.v (.int .i64 0)), .c (.v (.bool false))]) Try.call24 rfl (fun e a w' h => by have := due_any x.now x.span (e.rv 2) (sh x.ps) w' hn1 (Sy.row_reads h (.inl ⟨_, rfl⟩)); rw [dueH_no hok] at this; exact this) ?_
          ((repeat' ((conv => whnf);(first|refine z1 ?_|refine z2 ?_|refine z3 ?_|refine z4 ?_|refine z5 ?_|refine z6 ?_|refine z7 ?_|refine z8 ?_|refine z9 ?_|refine za ?_|refine zb ?_|refine zc ?_|refine zd ?_|refine ze ?_|refine zf ?_|refine zg ?_|refine zh ?_|((first|refine zi ?_ ?_|refine zj ?_ ?_|refine zk ?_ ?_)<;> intro hh <;> first|(exfalso;omega)|skip)|(refine zl ?_ ?_<;> intro hh)|refine zm ?_|refine zn ?_|refine zo ?_|refine zp ?_|refine zq ?_|refine zr ?_|refine zs _ rfl ?_|refine zu ?_|exact Sy.fin_val (fun e=>rfl))));(all_goals (try conv => whnf)))
          refine ⟨n + 1, by omega, by omega, ?_⟩
          ((repeat' (first|((conv => whnf);done)|((try conv => whnf);first|exact trivial|(refine And.intro ?_ ?_)|rfl)));(all_goals (try conv => whnf)))
end Go.Proofs.Ytiapcohnjklcfaa
