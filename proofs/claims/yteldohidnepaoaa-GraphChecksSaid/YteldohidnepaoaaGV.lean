/- Graph: the law Checks. -/
import Derived.Test.YteldohidnepaoaaGU
namespace Go.Proofs.Yteldohidnepaoaa
open Go Go.RowKit
open Sy (C SV V1 Blk St XD Els)
set_option maxRecDepth 10000

theorem short_call {X : Sy.Cx} {S : St} {d : Option Nat} {K : St → Prop} (gv : Value) (gl : List OpV) (hP : X.P = Try.prog) (hr : GOk (fun b => b < X.w0.heap.size) X.w0 gv gl) (ho : ∀ b, ¬ X.own b) (h : Sy.lendGo S d [.agg [.v gv]] (shortC gv gl) K) :
    Sy.callP X S d 10 [.agg [.v gv]] K := by
  refine Sy.call_own (by rw [hP]; exact short_does gv gl hr.one) (by rw [hP]; exact Try.call10) h (fun e a w' F' h hF' => (GOk.later h (hr.mono fun b hb => ⟨hb, ho b⟩)).mono hF') (fun _ ls G G' w1 w2 hq hG hk o ho => (hq o ho).keep hG hk)
attribute [local irreducible] checkV gBs
set_option maxHeartbeats 8000000 in
theorem checks_any (v : Value) (gs : List (Value × List OpV)) (w : World) (hr : GsOk (fun b => b < w.heap.size) w v gs) :
    Calls Try.prog 5 #[v] w (Sy.Ret (.bool true) w) := by
  have hl := ok_len hr.1
  refine Sy.calls_of Sy.lv5 Sy.tab_ok Try.func5 rfl _ Try.ntmps5 [⟨v, 1, gs.length, gs.map encGr⟩] [.c (.row 0)] rfl rfl rfl ⟨hr.1, trivial⟩ ?_
  ((repeat' ((conv => whnf);(first|refine z1 ?_|refine z2 ?_|refine z3 ?_|refine z4 ?_|refine z5 ?_|refine z6 ?_|refine z7 ?_|refine z8 ?_|refine z9 ?_|refine za ?_|refine zb ?_|refine zc ?_|refine zd ?_|refine ze ?_|refine zf ?_|refine zg ?_|refine zh ?_|((first|refine zi ?_ ?_|refine zj ?_ ?_|refine zk ?_ ?_)<;> intro hh <;> first|(exfalso;omega)|skip)|(refine zl ?_ ?_<;> intro hh)|refine zm ?_|refine zn ?_|refine zo ?_|refine zp ?_|refine zq ?_|refine zv ?_|refine zr ?_|refine zs _ rfl ?_|refine zu ?_|exact Sy.fin_val (fun e=>rfl))));(all_goals (try conv => whnf)))
  refine Sy.call_val (.c (.v (.bool true))) Try.call9 rfl (fun e a w' h => wakes_any w') ?_
  ((repeat' ((conv => whnf);(first|refine z1 ?_|refine z2 ?_|refine z3 ?_|refine z4 ?_|refine z5 ?_|refine z6 ?_|refine z7 ?_|refine z8 ?_|refine z9 ?_|refine za ?_|refine zb ?_|refine zc ?_|refine zd ?_|refine ze ?_|refine zf ?_|refine zg ?_|refine zh ?_|((first|refine zi ?_ ?_|refine zj ?_ ?_|refine zk ?_ ?_)<;> intro hh <;> first|(exfalso;omega)|skip)|(refine zl ?_ ?_<;> intro hh)|refine zm ?_|refine zn ?_|refine zo ?_|refine zp ?_|refine zq ?_|refine zv ?_|refine zr ?_|refine zs _ rfl ?_|refine zu ?_|exact Sy.fin_val (fun e=>rfl))));(all_goals (try conv => whnf)))
  refine Sy.loop_learn Sy.tab_ok (fun x : Nat × (Nat → Prop) × (World → Prop) => [(18, .c (.v (.int .i64 x.1)))]) (fun x => []) (fun x => x.2.1) (fun x => x.2.2) (fun x => x.1 ≤ gs.length) (fun x => gs.length - x.1) (0, fun b => b < w.heap.size ∧ ¬ (fun _ : Nat => False) b, fun _ => True) (Nat.zero_le _) ?_ (fun x hn => ?_)
  · ((repeat' (first|((conv => whnf);done)|((try conv => whnf);first|exact trivial|(refine And.intro ?_ ?_)|rfl)));(all_goals (try conv => whnf)))
  · obtain ⟨n, F, E⟩ := x
    dsimp only at hn ⊢
    ((repeat' ((conv => whnf);(first|refine z1 ?_|refine z2 ?_|refine z3 ?_|refine z4 ?_|refine z5 ?_|refine z6 ?_|refine z7 ?_|refine z8 ?_|refine z9 ?_|refine za ?_|refine zb ?_|refine zc ?_|refine zd ?_|refine ze ?_|refine zf ?_|refine zg ?_|refine zh ?_|((first|refine zi ?_ ?_|refine zj ?_ ?_|refine zk ?_ ?_)<;> intro hh <;> first|(exfalso;omega)|skip)|(refine zl ?_ ?_<;> intro hh)|refine zm ?_|refine zn ?_|refine zo ?_|refine zp ?_|refine zq ?_|refine zv ?_|refine zr ?_|refine zs _ rfl ?_|exact Sy.fin_val (fun e=>rfl))));(all_goals (try conv => whnf)))
    have hlt : n < gs.length := by omega
    have hg := List.getElem?_eq_getElem hlt
    generalize gs[n] = p at *
    have hp := hr.2 p (List.mem_of_getElem? hg)
    have hg0 : gs[0]? = some gs[0] := List.getElem?_eq_getElem (by omega)
    generalize gs[0] = p0 at *
    have hp0 := hr.2 p0 (List.mem_of_getElem? hg0)
    refine Sy.el_map p hg ?_
    ((repeat' ((conv => whnf);(first|refine z1 ?_|refine z2 ?_|refine z3 ?_|refine z4 ?_|refine z5 ?_|refine z6 ?_|refine z7 ?_|refine z8 ?_|refine z9 ?_|refine za ?_|refine zb ?_|refine zc ?_|refine zd ?_|refine ze ?_|refine zf ?_|refine zg ?_|refine zh ?_|((first|refine zi ?_ ?_|refine zj ?_ ?_|refine zk ?_ ?_)<;> intro hh <;> first|(exfalso;omega)|skip)|(refine zl ?_ ?_<;> intro hh)|refine zm ?_|refine zn ?_|refine zo ?_|refine zp ?_|refine zq ?_|refine zv ?_|refine zr ?_|refine zs _ rfl ?_|exact Sy.fin_val (fun e=>rfl))));(all_goals (try conv => whnf)))
    refine Sy.meetL (fun j : List OpV × List OpV × List OpV × (Nat → Prop) × (Nat → Prop) × (Nat → Prop) => [.row 27 5 j.1.length (.vs (j.1.map encOV)), .row 27 5 j.2.1.length (.vs (j.2.1.map encOV)), .row 27 5 j.2.2.1.length (.vs (j.2.2.1.map encOV)), .cells 24 [.row 2], .cells 24 [.row 3], .cells 24 [.row 4]])
      (fun j => [(5, .c (.loc 5 0)), (6, .c (.loc 6 0)), (7, .c (.loc 7 0))]) (fun j => []) (fun j b => ((F b ∨ j.2.2.2.1 b) ∨ j.2.2.2.2.1 b) ∨ j.2.2.2.2.2 b)
      (fun j w' => ((E w' ∧ (∀ b, j.2.2.2.1 b → ¬ F b) ∧ ∀ o ∈ j.1, OOk (fun b => F b ∨ j.2.2.2.1 b) w' o) ∧ (∀ b, j.2.2.2.2.1 b → ¬ (F b ∨ j.2.2.2.1 b)) ∧ ∀ o ∈ j.2.1, OOk (fun b => (F b ∨ j.2.2.2.1 b) ∨ j.2.2.2.2.1 b) w' o) ∧ (∀ b, j.2.2.2.2.2 b → ¬ ((F b ∨ j.2.2.2.1 b) ∨ j.2.2.2.2.1 b)) ∧ ∀ o ∈ j.2.2.1, OOk (fun b => ((F b ∨ j.2.2.2.1 b) ∨ j.2.2.2.2.1 b) ∨ j.2.2.2.2.2 b) w' o)
      (fun j => opsOf j.1 = shortM (opsOf p.2) ∧ opsOf j.2.1 = shortM (opsOf p.2) ∧ opsOf j.2.2.1 = shortM (opsOf p0.2)) Sy.tab_ok ?_ (fun j hj => ?_)
    · refine Sy.draw_go [] (by kernel_rfl) ?_
      intro e0
      conv => whnf
      refine zt 0 rfl ?_
      conv => whnf
      refine zt 2 rfl ?_
      conv => whnf
      refine zt 4 rfl ?_
      conv => whnf
      refine zt 5 rfl ?_
      (conv => whnf);(repeat' ((first|refine z1 ?_|refine z2 ?_|refine z3 ?_|refine z4 ?_|refine z5 ?_|refine z6 ?_|refine z7 ?_|refine z8 ?_|refine z9 ?_|refine za ?_|refine zb ?_|refine zc ?_|refine zd ?_|refine ze ?_|refine zf ?_|refine zg ?_|refine zh ?_|((first|refine zi ?_ ?_|refine zj ?_ ?_|refine zk ?_ ?_)<;> intro hh <;> first|(exfalso;omega)|skip)|(refine zl ?_ ?_<;> intro hh)|refine zm ?_|refine zn ?_|refine zo ?_|refine zp ?_|refine zq ?_|refine zv ?_|refine zr ?_|refine zs _ rfl ?_|refine zu ?_|exact Sy.fin_val (fun e=>rfl));(try conv => whnf)))
      refine zt 6 rfl ?_
      conv => whnf
      refine Sy.el_map p0 hg0 ?_
      conv => whnf
      conv => whnf
      focus
        refine zd1 [1, 8, 9, 10] (zx rfl ?_ (zx rfl ?_ (zx rfl ?_ (zx rfl ?_ zy))))
        focus
          conv => whnf
          refine short_call p.1 p.2 rfl hp (fun _ h => h) ?_
          ((conv => whnf);(refine And.intro ?_ (And.intro ?_ (And.intro ?_ (And.intro ?_ ?_))));(all_goals ((repeat' (first|((conv => whnf);done)|((try conv => whnf);first|exact trivial|(refine And.intro ?_ ?_)|rfl)));(all_goals (try conv => whnf))));rotate_right)
          intro ls1 hls1 G1
          conv => whnf
          refine ⟨(by repeat' ((conv => whnf);first|exact trivial|(refine And.intro ?_ ?_)|rfl)), ?_⟩
          focus
            refine zd1 [3, 8, 9, 10] (zx rfl ?_ (zx rfl ?_ (zx rfl ?_ (zx rfl ?_ zy))))
            focus
              conv => whnf
              refine short_call p.1 p.2 rfl hp (fun _ h => h) ?_
              ((conv => whnf);(refine And.intro ?_ (And.intro ?_ (And.intro ?_ (And.intro ?_ ?_))));(all_goals ((repeat' (first|((conv => whnf);done)|((try conv => whnf);first|exact trivial|(refine And.intro ?_ ?_)|rfl)));(all_goals (try conv => whnf))));rotate_right)
              intro ls2 hls2 G2
              conv => whnf
              refine ⟨(by repeat' ((conv => whnf);first|exact trivial|(refine And.intro ?_ ?_)|rfl)), ?_⟩
              focus
                refine zd1 [7, 8, 9, 10] (zx rfl ?_ (zx rfl ?_ (zx rfl ?_ (zx rfl ?_ zy))))
                focus
                  conv => whnf
                  refine short_call p0.1 p0.2 rfl hp0 (fun _ h => h) ?_
                  ((conv => whnf);(refine And.intro ?_ (And.intro ?_ (And.intro ?_ (And.intro ?_ ?_))));(all_goals ((repeat' (first|((conv => whnf);done)|((try conv => whnf);first|exact trivial|(refine And.intro ?_ ?_)|rfl)));(all_goals (try conv => whnf))));rotate_right)
                  intro ls3 hls3 G3
                  conv => whnf
                  refine ⟨(by repeat' ((conv => whnf);first|exact trivial|(refine And.intro ?_ ?_)|rfl)), ?_⟩
                  focus
                    refine zd1 [8, 9, 10] (zx rfl ?_ (zx rfl ?_ (zx rfl ?_ zy)))
                    focus
                      conv => whnf
                      refine ⟨(by repeat' ((conv => whnf);first|exact trivial|(refine And.intro ?_ ?_)|rfl)), ?_⟩
                      focus
                        refine zd1 [9, 10] (zx rfl ?_ (zx rfl ?_ zy))
                        focus
                          conv => whnf
                          refine ⟨(by repeat' ((conv => whnf);first|exact trivial|(refine And.intro ?_ ?_)|rfl)), ?_⟩
                          refine zd1 [10] (zx rfl ?_ zy)
                          conv => whnf
                          refine ⟨(by repeat' ((conv => whnf);first|exact trivial|(refine And.intro ?_ ?_)|rfl)), ?_⟩
                          refine zd1 [11] (zx rfl ?_ zy)
                          conv => whnf
                          refine ⟨(by repeat' ((conv => whnf);first|exact trivial|(refine And.intro ?_ ?_)|rfl)), ?_⟩
                          refine zd1 [12] (zx rfl ?_ zy)
                          conv => whnf
                          refine ⟨(by repeat' ((conv => whnf);first|exact trivial|(refine And.intro ?_ ?_)|rfl)), ?_⟩
                          refine zd1 [13] (zx rfl ?_ zy)
                          conv => whnf
                          refine ⟨(by repeat' ((conv => whnf);first|exact trivial|(refine And.intro ?_ ?_)|rfl)), ?_⟩
                          refine zw ?_
                          refine ⟨(ls1, ls2, ls3, G1, G2, G3), ⟨hls1, hls2, hls3⟩, ?_⟩
                          ((repeat' (first|((conv => whnf);done)|((try conv => whnf);first|exact trivial|(refine And.intro ?_ ?_)|rfl)));(all_goals (try conv => whnf)))
                        rotate_right
                        focus
                          conv => whnf
                          refine ⟨(by repeat' ((conv => whnf);first|exact trivial|(refine And.intro ?_ ?_)|rfl)), ?_⟩
                          refine zd1 [9] (zx rfl ?_ zy)
                          conv => whnf
                          refine ⟨(by repeat' ((conv => whnf);first|exact trivial|(refine And.intro ?_ ?_)|rfl)), ?_⟩
                          refine zd1 [11] (zx rfl ?_ zy)
                          conv => whnf
                          refine ⟨(by repeat' ((conv => whnf);first|exact trivial|(refine And.intro ?_ ?_)|rfl)), ?_⟩
                          refine zd1 [12] (zx rfl ?_ zy)
                          conv => whnf
                          refine ⟨(by repeat' ((conv => whnf);first|exact trivial|(refine And.intro ?_ ?_)|rfl)), ?_⟩
                          refine zd1 [13] (zx rfl ?_ zy)
                          conv => whnf
                          refine ⟨(by repeat' ((conv => whnf);first|exact trivial|(refine And.intro ?_ ?_)|rfl)), ?_⟩
                          refine zw ?_
                          refine ⟨(ls1, ls2, ls3, G1, G2, G3), ⟨hls1, hls2, hls3⟩, ?_⟩
                          ((repeat' (first|((conv => whnf);done)|((try conv => whnf);first|exact trivial|(refine And.intro ?_ ?_)|rfl)));(all_goals (try conv => whnf)))
                    rotate_right
                    focus
                      conv => whnf
                      refine ⟨(by repeat' ((conv => whnf);first|exact trivial|(refine And.intro ?_ ?_)|rfl)), ?_⟩
                      focus
                        refine zd1 [8, 9] (zx rfl ?_ (zx rfl ?_ zy))
                        focus
                          conv => whnf
                          refine ⟨(by repeat' ((conv => whnf);first|exact trivial|(refine And.intro ?_ ?_)|rfl)), ?_⟩
                          refine zd1 [9] (zx rfl ?_ zy)
                          conv => whnf
                          refine ⟨(by repeat' ((conv => whnf);first|exact trivial|(refine And.intro ?_ ?_)|rfl)), ?_⟩
                          refine zd1 [11] (zx rfl ?_ zy)
                          conv => whnf
                          refine ⟨(by repeat' ((conv => whnf);first|exact trivial|(refine And.intro ?_ ?_)|rfl)), ?_⟩
                          refine zd1 [12] (zx rfl ?_ zy)
                          conv => whnf
                          refine ⟨(by repeat' ((conv => whnf);first|exact trivial|(refine And.intro ?_ ?_)|rfl)), ?_⟩
                          refine zd1 [13] (zx rfl ?_ zy)
                          conv => whnf
                          refine ⟨(by repeat' ((conv => whnf);first|exact trivial|(refine And.intro ?_ ?_)|rfl)), ?_⟩
                          refine zw ?_
                          refine ⟨(ls1, ls2, ls3, G1, G2, G3), ⟨hls1, hls2, hls3⟩, ?_⟩
                          ((repeat' (first|((conv => whnf);done)|((try conv => whnf);first|exact trivial|(refine And.intro ?_ ?_)|rfl)));(all_goals (try conv => whnf)))
                        rotate_right
                        focus
                          conv => whnf
                          refine ⟨(by repeat' ((conv => whnf);first|exact trivial|(refine And.intro ?_ ?_)|rfl)), ?_⟩
                          refine zd1 [8] (zx rfl ?_ zy)
                          conv => whnf
                          refine ⟨(by repeat' ((conv => whnf);first|exact trivial|(refine And.intro ?_ ?_)|rfl)), ?_⟩
                          refine zd1 [11] (zx rfl ?_ zy)
                          conv => whnf
                          refine ⟨(by repeat' ((conv => whnf);first|exact trivial|(refine And.intro ?_ ?_)|rfl)), ?_⟩
                          refine zd1 [12] (zx rfl ?_ zy)
                          conv => whnf
                          refine ⟨(by repeat' ((conv => whnf);first|exact trivial|(refine And.intro ?_ ?_)|rfl)), ?_⟩
                          refine zd1 [13] (zx rfl ?_ zy)
                          conv => whnf
                          refine ⟨(by repeat' ((conv => whnf);first|exact trivial|(refine And.intro ?_ ?_)|rfl)), ?_⟩
                          refine zw ?_
                          refine ⟨(ls1, ls2, ls3, G1, G2, G3), ⟨hls1, hls2, hls3⟩, ?_⟩
                          ((repeat' (first|((conv => whnf);done)|((try conv => whnf);first|exact trivial|(refine And.intro ?_ ?_)|rfl)));(all_goals (try conv => whnf)))
                    rotate_right
                    focus
                      conv => whnf
                      refine ⟨(by repeat' ((conv => whnf);first|exact trivial|(refine And.intro ?_ ?_)|rfl)), ?_⟩
                      focus
                        refine zd1 [8, 10] (zx rfl ?_ (zx rfl ?_ zy))
                        focus
                          conv => whnf
                          refine ⟨(by repeat' ((conv => whnf);first|exact trivial|(refine And.intro ?_ ?_)|rfl)), ?_⟩
                          refine zd1 [10] (zx rfl ?_ zy)
                          conv => whnf
                          refine ⟨(by repeat' ((conv => whnf);first|exact trivial|(refine And.intro ?_ ?_)|rfl)), ?_⟩
                          refine zd1 [11] (zx rfl ?_ zy)
                          conv => whnf
                          refine ⟨(by repeat' ((conv => whnf);first|exact trivial|(refine And.intro ?_ ?_)|rfl)), ?_⟩
                          refine zd1 [12] (zx rfl ?_ zy)
                          conv => whnf
                          refine ⟨(by repeat' ((conv => whnf);first|exact trivial|(refine And.intro ?_ ?_)|rfl)), ?_⟩
                          refine zd1 [13] (zx rfl ?_ zy)
                          conv => whnf
                          refine ⟨(by repeat' ((conv => whnf);first|exact trivial|(refine And.intro ?_ ?_)|rfl)), ?_⟩
                          refine zw ?_
                          refine ⟨(ls1, ls2, ls3, G1, G2, G3), ⟨hls1, hls2, hls3⟩, ?_⟩
                          ((repeat' (first|((conv => whnf);done)|((try conv => whnf);first|exact trivial|(refine And.intro ?_ ?_)|rfl)));(all_goals (try conv => whnf)))
                        rotate_right
                        focus
                          conv => whnf
                          refine ⟨(by repeat' ((conv => whnf);first|exact trivial|(refine And.intro ?_ ?_)|rfl)), ?_⟩
                          refine zd1 [8] (zx rfl ?_ zy)
                          conv => whnf
                          refine ⟨(by repeat' ((conv => whnf);first|exact trivial|(refine And.intro ?_ ?_)|rfl)), ?_⟩
                          refine zd1 [11] (zx rfl ?_ zy)
                          conv => whnf
                          refine ⟨(by repeat' ((conv => whnf);first|exact trivial|(refine And.intro ?_ ?_)|rfl)), ?_⟩
                          refine zd1 [12] (zx rfl ?_ zy)
                          conv => whnf
                          refine ⟨(by repeat' ((conv => whnf);first|exact trivial|(refine And.intro ?_ ?_)|rfl)), ?_⟩
                          refine zd1 [13] (zx rfl ?_ zy)
                          conv => whnf
                          refine ⟨(by repeat' ((conv => whnf);first|exact trivial|(refine And.intro ?_ ?_)|rfl)), ?_⟩
                          refine zw ?_
                          refine ⟨(ls1, ls2, ls3, G1, G2, G3), ⟨hls1, hls2, hls3⟩, ?_⟩
                          ((repeat' (first|((conv => whnf);done)|((try conv => whnf);first|exact trivial|(refine And.intro ?_ ?_)|rfl)));(all_goals (try conv => whnf)))
                rotate_right
                focus
                  conv => whnf
                  refine ⟨(by repeat' ((conv => whnf);first|exact trivial|(refine And.intro ?_ ?_)|rfl)), ?_⟩
                  focus
                    refine zd1 [7, 8, 9] (zx rfl ?_ (zx rfl ?_ (zx rfl ?_ zy)))
                    focus
                      conv => whnf
                      refine short_call p0.1 p0.2 rfl hp0 (fun _ h => h) ?_
                      ((conv => whnf);(refine And.intro ?_ (And.intro ?_ (And.intro ?_ (And.intro ?_ ?_))));(all_goals ((repeat' (first|((conv => whnf);done)|((try conv => whnf);first|exact trivial|(refine And.intro ?_ ?_)|rfl)));(all_goals (try conv => whnf))));rotate_right)
                      intro ls3 hls3 G3
                      conv => whnf
                      refine ⟨(by repeat' ((conv => whnf);first|exact trivial|(refine And.intro ?_ ?_)|rfl)), ?_⟩
                      focus
                        refine zd1 [8, 9] (zx rfl ?_ (zx rfl ?_ zy))
                        focus
                          conv => whnf
                          refine ⟨(by repeat' ((conv => whnf);first|exact trivial|(refine And.intro ?_ ?_)|rfl)), ?_⟩
                          refine zd1 [9] (zx rfl ?_ zy)
                          conv => whnf
                          refine ⟨(by repeat' ((conv => whnf);first|exact trivial|(refine And.intro ?_ ?_)|rfl)), ?_⟩
                          refine zd1 [11] (zx rfl ?_ zy)
                          conv => whnf
                          refine ⟨(by repeat' ((conv => whnf);first|exact trivial|(refine And.intro ?_ ?_)|rfl)), ?_⟩
                          refine zd1 [12] (zx rfl ?_ zy)
                          conv => whnf
                          refine ⟨(by repeat' ((conv => whnf);first|exact trivial|(refine And.intro ?_ ?_)|rfl)), ?_⟩
                          refine zd1 [13] (zx rfl ?_ zy)
                          conv => whnf
                          refine ⟨(by repeat' ((conv => whnf);first|exact trivial|(refine And.intro ?_ ?_)|rfl)), ?_⟩
                          refine zw ?_
                          refine ⟨(ls1, ls2, ls3, G1, G2, G3), ⟨hls1, hls2, hls3⟩, ?_⟩
                          ((repeat' (first|((conv => whnf);done)|((try conv => whnf);first|exact trivial|(refine And.intro ?_ ?_)|rfl)));(all_goals (try conv => whnf)))
                        rotate_right
                        focus
                          conv => whnf
                          refine ⟨(by repeat' ((conv => whnf);first|exact trivial|(refine And.intro ?_ ?_)|rfl)), ?_⟩
                          refine zd1 [8] (zx rfl ?_ zy)
                          conv => whnf
                          refine ⟨(by repeat' ((conv => whnf);first|exact trivial|(refine And.intro ?_ ?_)|rfl)), ?_⟩
                          refine zd1 [11] (zx rfl ?_ zy)
                          conv => whnf
                          refine ⟨(by repeat' ((conv => whnf);first|exact trivial|(refine And.intro ?_ ?_)|rfl)), ?_⟩
                          refine zd1 [12] (zx rfl ?_ zy)
                          conv => whnf
                          refine ⟨(by repeat' ((conv => whnf);first|exact trivial|(refine And.intro ?_ ?_)|rfl)), ?_⟩
                          refine zd1 [13] (zx rfl ?_ zy)
                          conv => whnf
                          refine ⟨(by repeat' ((conv => whnf);first|exact trivial|(refine And.intro ?_ ?_)|rfl)), ?_⟩
                          refine zw ?_
                          refine ⟨(ls1, ls2, ls3, G1, G2, G3), ⟨hls1, hls2, hls3⟩, ?_⟩
                          ((repeat' (first|((conv => whnf);done)|((try conv => whnf);first|exact trivial|(refine And.intro ?_ ?_)|rfl)));(all_goals (try conv => whnf)))
                    rotate_right
                    focus
                      conv => whnf
                      refine ⟨(by repeat' ((conv => whnf);first|exact trivial|(refine And.intro ?_ ?_)|rfl)), ?_⟩
                      focus
                        refine zd1 [7, 8] (zx rfl ?_ (zx rfl ?_ zy))
                        focus
                          conv => whnf
                          refine short_call p0.1 p0.2 rfl hp0 (fun _ h => h) ?_
                          ((conv => whnf);(refine And.intro ?_ (And.intro ?_ (And.intro ?_ (And.intro ?_ ?_))));(all_goals ((repeat' (first|((conv => whnf);done)|((try conv => whnf);first|exact trivial|(refine And.intro ?_ ?_)|rfl)));(all_goals (try conv => whnf))));rotate_right)
                          intro ls3 hls3 G3
                          conv => whnf
                          refine ⟨(by repeat' ((conv => whnf);first|exact trivial|(refine And.intro ?_ ?_)|rfl)), ?_⟩
                          refine zd1 [8] (zx rfl ?_ zy)
                          conv => whnf
                          refine ⟨(by repeat' ((conv => whnf);first|exact trivial|(refine And.intro ?_ ?_)|rfl)), ?_⟩
                          refine zd1 [11] (zx rfl ?_ zy)
                          conv => whnf
                          refine ⟨(by repeat' ((conv => whnf);first|exact trivial|(refine And.intro ?_ ?_)|rfl)), ?_⟩
                          refine zd1 [12] (zx rfl ?_ zy)
                          conv => whnf
                          refine ⟨(by repeat' ((conv => whnf);first|exact trivial|(refine And.intro ?_ ?_)|rfl)), ?_⟩
                          refine zd1 [13] (zx rfl ?_ zy)
                          conv => whnf
                          refine ⟨(by repeat' ((conv => whnf);first|exact trivial|(refine And.intro ?_ ?_)|rfl)), ?_⟩
                          refine zw ?_
                          refine ⟨(ls1, ls2, ls3, G1, G2, G3), ⟨hls1, hls2, hls3⟩, ?_⟩
                          ((repeat' (first|((conv => whnf);done)|((try conv => whnf);first|exact trivial|(refine And.intro ?_ ?_)|rfl)));(all_goals (try conv => whnf)))
                        rotate_right
                        focus
                          conv => whnf
                          refine ⟨(by repeat' ((conv => whnf);first|exact trivial|(refine And.intro ?_ ?_)|rfl)), ?_⟩
                          refine zd1 [7] (zx rfl ?_ zy)
                          conv => whnf
                          refine short_call p0.1 p0.2 rfl hp0 (fun _ h => h) ?_
                          ((conv => whnf);(refine And.intro ?_ (And.intro ?_ (And.intro ?_ (And.intro ?_ ?_))));(all_goals ((repeat' (first|((conv => whnf);done)|((try conv => whnf);first|exact trivial|(refine And.intro ?_ ?_)|rfl)));(all_goals (try conv => whnf))));rotate_right)
                          intro ls3 hls3 G3
                          conv => whnf
                          refine ⟨(by repeat' ((conv => whnf);first|exact trivial|(refine And.intro ?_ ?_)|rfl)), ?_⟩
                          refine zd1 [11] (zx rfl ?_ zy)
                          conv => whnf
                          refine ⟨(by repeat' ((conv => whnf);first|exact trivial|(refine And.intro ?_ ?_)|rfl)), ?_⟩
                          refine zd1 [12] (zx rfl ?_ zy)
                          conv => whnf
                          refine ⟨(by repeat' ((conv => whnf);first|exact trivial|(refine And.intro ?_ ?_)|rfl)), ?_⟩
                          refine zd1 [13] (zx rfl ?_ zy)
                          conv => whnf
                          refine ⟨(by repeat' ((conv => whnf);first|exact trivial|(refine And.intro ?_ ?_)|rfl)), ?_⟩
                          refine zw ?_
                          refine ⟨(ls1, ls2, ls3, G1, G2, G3), ⟨hls1, hls2, hls3⟩, ?_⟩
                          ((repeat' (first|((conv => whnf);done)|((try conv => whnf);first|exact trivial|(refine And.intro ?_ ?_)|rfl)));(all_goals (try conv => whnf)))
                    rotate_right
                    focus
                      conv => whnf
                      refine ⟨(by repeat' ((conv => whnf);first|exact trivial|(refine And.intro ?_ ?_)|rfl)), ?_⟩
                      focus
                        refine zd1 [7, 9] (zx rfl ?_ (zx rfl ?_ zy))
                        focus
                          conv => whnf
                          refine short_call p0.1 p0.2 rfl hp0 (fun _ h => h) ?_
                          ((conv => whnf);(refine And.intro ?_ (And.intro ?_ (And.intro ?_ (And.intro ?_ ?_))));(all_goals ((repeat' (first|((conv => whnf);done)|((try conv => whnf);first|exact trivial|(refine And.intro ?_ ?_)|rfl)));(all_goals (try conv => whnf))));rotate_right)
                          intro ls3 hls3 G3
                          conv => whnf
                          refine ⟨(by repeat' ((conv => whnf);first|exact trivial|(refine And.intro ?_ ?_)|rfl)), ?_⟩
                          refine zd1 [9] (zx rfl ?_ zy)
                          conv => whnf
                          refine ⟨(by repeat' ((conv => whnf);first|exact trivial|(refine And.intro ?_ ?_)|rfl)), ?_⟩
                          refine zd1 [11] (zx rfl ?_ zy)
                          conv => whnf
                          refine ⟨(by repeat' ((conv => whnf);first|exact trivial|(refine And.intro ?_ ?_)|rfl)), ?_⟩
                          refine zd1 [12] (zx rfl ?_ zy)
                          conv => whnf
                          refine ⟨(by repeat' ((conv => whnf);first|exact trivial|(refine And.intro ?_ ?_)|rfl)), ?_⟩
                          refine zd1 [13] (zx rfl ?_ zy)
                          conv => whnf
                          refine ⟨(by repeat' ((conv => whnf);first|exact trivial|(refine And.intro ?_ ?_)|rfl)), ?_⟩
                          refine zw ?_
                          refine ⟨(ls1, ls2, ls3, G1, G2, G3), ⟨hls1, hls2, hls3⟩, ?_⟩
                          ((repeat' (first|((conv => whnf);done)|((try conv => whnf);first|exact trivial|(refine And.intro ?_ ?_)|rfl)));(all_goals (try conv => whnf)))
                        rotate_right
                        focus
                          conv => whnf
                          refine ⟨(by repeat' ((conv => whnf);first|exact trivial|(refine And.intro ?_ ?_)|rfl)), ?_⟩
                          refine zd1 [7] (zx rfl ?_ zy)
                          conv => whnf
                          refine short_call p0.1 p0.2 rfl hp0 (fun _ h => h) ?_
                          ((conv => whnf);(refine And.intro ?_ (And.intro ?_ (And.intro ?_ (And.intro ?_ ?_))));(all_goals ((repeat' (first|((conv => whnf);done)|((try conv => whnf);first|exact trivial|(refine And.intro ?_ ?_)|rfl)));(all_goals (try conv => whnf))));rotate_right)
                          intro ls3 hls3 G3
                          conv => whnf
                          refine ⟨(by repeat' ((conv => whnf);first|exact trivial|(refine And.intro ?_ ?_)|rfl)), ?_⟩
                          refine zd1 [11] (zx rfl ?_ zy)
                          conv => whnf
                          refine ⟨(by repeat' ((conv => whnf);first|exact trivial|(refine And.intro ?_ ?_)|rfl)), ?_⟩
                          refine zd1 [12] (zx rfl ?_ zy)
                          conv => whnf
                          refine ⟨(by repeat' ((conv => whnf);first|exact trivial|(refine And.intro ?_ ?_)|rfl)), ?_⟩
                          refine zd1 [13] (zx rfl ?_ zy)
                          conv => whnf
                          refine ⟨(by repeat' ((conv => whnf);first|exact trivial|(refine And.intro ?_ ?_)|rfl)), ?_⟩
                          refine zw ?_
                          refine ⟨(ls1, ls2, ls3, G1, G2, G3), ⟨hls1, hls2, hls3⟩, ?_⟩
                          ((repeat' (first|((conv => whnf);done)|((try conv => whnf);first|exact trivial|(refine And.intro ?_ ?_)|rfl)));(all_goals (try conv => whnf)))
                rotate_right
                focus
                  conv => whnf
                  refine ⟨(by repeat' ((conv => whnf);first|exact trivial|(refine And.intro ?_ ?_)|rfl)), ?_⟩
                  focus
                    refine zd1 [7, 8, 10] (zx rfl ?_ (zx rfl ?_ (zx rfl ?_ zy)))
                    focus
                      conv => whnf
                      refine short_call p0.1 p0.2 rfl hp0 (fun _ h => h) ?_
                      ((conv => whnf);(refine And.intro ?_ (And.intro ?_ (And.intro ?_ (And.intro ?_ ?_))));(all_goals ((repeat' (first|((conv => whnf);done)|((try conv => whnf);first|exact trivial|(refine And.intro ?_ ?_)|rfl)));(all_goals (try conv => whnf))));rotate_right)
                      intro ls3 hls3 G3
                      conv => whnf
                      refine ⟨(by repeat' ((conv => whnf);first|exact trivial|(refine And.intro ?_ ?_)|rfl)), ?_⟩
                      focus
                        refine zd1 [8, 10] (zx rfl ?_ (zx rfl ?_ zy))
                        focus
                          conv => whnf
                          refine ⟨(by repeat' ((conv => whnf);first|exact trivial|(refine And.intro ?_ ?_)|rfl)), ?_⟩
                          refine zd1 [10] (zx rfl ?_ zy)
                          conv => whnf
                          refine ⟨(by repeat' ((conv => whnf);first|exact trivial|(refine And.intro ?_ ?_)|rfl)), ?_⟩
                          refine zd1 [11] (zx rfl ?_ zy)
                          conv => whnf
                          refine ⟨(by repeat' ((conv => whnf);first|exact trivial|(refine And.intro ?_ ?_)|rfl)), ?_⟩
                          refine zd1 [12] (zx rfl ?_ zy)
                          conv => whnf
                          refine ⟨(by repeat' ((conv => whnf);first|exact trivial|(refine And.intro ?_ ?_)|rfl)), ?_⟩
                          refine zd1 [13] (zx rfl ?_ zy)
                          conv => whnf
                          refine ⟨(by repeat' ((conv => whnf);first|exact trivial|(refine And.intro ?_ ?_)|rfl)), ?_⟩
                          refine zw ?_
                          refine ⟨(ls1, ls2, ls3, G1, G2, G3), ⟨hls1, hls2, hls3⟩, ?_⟩
                          ((repeat' (first|((conv => whnf);done)|((try conv => whnf);first|exact trivial|(refine And.intro ?_ ?_)|rfl)));(all_goals (try conv => whnf)))
                        rotate_right
                        focus
                          conv => whnf
                          refine ⟨(by repeat' ((conv => whnf);first|exact trivial|(refine And.intro ?_ ?_)|rfl)), ?_⟩
                          refine zd1 [8] (zx rfl ?_ zy)
                          conv => whnf
                          refine ⟨(by repeat' ((conv => whnf);first|exact trivial|(refine And.intro ?_ ?_)|rfl)), ?_⟩
                          refine zd1 [11] (zx rfl ?_ zy)
                          conv => whnf
                          refine ⟨(by repeat' ((conv => whnf);first|exact trivial|(refine And.intro ?_ ?_)|rfl)), ?_⟩
                          refine zd1 [12] (zx rfl ?_ zy)
                          conv => whnf
                          refine ⟨(by repeat' ((conv => whnf);first|exact trivial|(refine And.intro ?_ ?_)|rfl)), ?_⟩
                          refine zd1 [13] (zx rfl ?_ zy)
                          conv => whnf
                          refine ⟨(by repeat' ((conv => whnf);first|exact trivial|(refine And.intro ?_ ?_)|rfl)), ?_⟩
                          refine zw ?_
                          refine ⟨(ls1, ls2, ls3, G1, G2, G3), ⟨hls1, hls2, hls3⟩, ?_⟩
                          ((repeat' (first|((conv => whnf);done)|((try conv => whnf);first|exact trivial|(refine And.intro ?_ ?_)|rfl)));(all_goals (try conv => whnf)))
                    rotate_right
                    focus
                      conv => whnf
                      refine ⟨(by repeat' ((conv => whnf);first|exact trivial|(refine And.intro ?_ ?_)|rfl)), ?_⟩
                      focus
                        refine zd1 [7, 8] (zx rfl ?_ (zx rfl ?_ zy))
                        focus
                          conv => whnf
                          refine short_call p0.1 p0.2 rfl hp0 (fun _ h => h) ?_
                          ((conv => whnf);(refine And.intro ?_ (And.intro ?_ (And.intro ?_ (And.intro ?_ ?_))));(all_goals ((repeat' (first|((conv => whnf);done)|((try conv => whnf);first|exact trivial|(refine And.intro ?_ ?_)|rfl)));(all_goals (try conv => whnf))));rotate_right)
                          intro ls3 hls3 G3
                          conv => whnf
                          refine ⟨(by repeat' ((conv => whnf);first|exact trivial|(refine And.intro ?_ ?_)|rfl)), ?_⟩
                          refine zd1 [8] (zx rfl ?_ zy)
                          conv => whnf
                          refine ⟨(by repeat' ((conv => whnf);first|exact trivial|(refine And.intro ?_ ?_)|rfl)), ?_⟩
                          refine zd1 [11] (zx rfl ?_ zy)
                          conv => whnf
                          refine ⟨(by repeat' ((conv => whnf);first|exact trivial|(refine And.intro ?_ ?_)|rfl)), ?_⟩
                          refine zd1 [12] (zx rfl ?_ zy)
                          conv => whnf
                          refine ⟨(by repeat' ((conv => whnf);first|exact trivial|(refine And.intro ?_ ?_)|rfl)), ?_⟩
                          refine zd1 [13] (zx rfl ?_ zy)
                          conv => whnf
                          refine ⟨(by repeat' ((conv => whnf);first|exact trivial|(refine And.intro ?_ ?_)|rfl)), ?_⟩
                          refine zw ?_
                          refine ⟨(ls1, ls2, ls3, G1, G2, G3), ⟨hls1, hls2, hls3⟩, ?_⟩
                          ((repeat' (first|((conv => whnf);done)|((try conv => whnf);first|exact trivial|(refine And.intro ?_ ?_)|rfl)));(all_goals (try conv => whnf)))
                        rotate_right
                        focus
                          conv => whnf
                          refine ⟨(by repeat' ((conv => whnf);first|exact trivial|(refine And.intro ?_ ?_)|rfl)), ?_⟩
                          refine zd1 [7] (zx rfl ?_ zy)
                          conv => whnf
                          refine short_call p0.1 p0.2 rfl hp0 (fun _ h => h) ?_
                          ((conv => whnf);(refine And.intro ?_ (And.intro ?_ (And.intro ?_ (And.intro ?_ ?_))));(all_goals ((repeat' (first|((conv => whnf);done)|((try conv => whnf);first|exact trivial|(refine And.intro ?_ ?_)|rfl)));(all_goals (try conv => whnf))));rotate_right)
                          intro ls3 hls3 G3
                          conv => whnf
                          refine ⟨(by repeat' ((conv => whnf);first|exact trivial|(refine And.intro ?_ ?_)|rfl)), ?_⟩
                          refine zd1 [11] (zx rfl ?_ zy)
                          conv => whnf
                          refine ⟨(by repeat' ((conv => whnf);first|exact trivial|(refine And.intro ?_ ?_)|rfl)), ?_⟩
                          refine zd1 [12] (zx rfl ?_ zy)
                          conv => whnf
                          refine ⟨(by repeat' ((conv => whnf);first|exact trivial|(refine And.intro ?_ ?_)|rfl)), ?_⟩
                          refine zd1 [13] (zx rfl ?_ zy)
                          conv => whnf
                          refine ⟨(by repeat' ((conv => whnf);first|exact trivial|(refine And.intro ?_ ?_)|rfl)), ?_⟩
                          refine zw ?_
                          refine ⟨(ls1, ls2, ls3, G1, G2, G3), ⟨hls1, hls2, hls3⟩, ?_⟩
                          ((repeat' (first|((conv => whnf);done)|((try conv => whnf);first|exact trivial|(refine And.intro ?_ ?_)|rfl)));(all_goals (try conv => whnf)))
                    rotate_right
                    focus
                      conv => whnf
                      refine ⟨(by repeat' ((conv => whnf);first|exact trivial|(refine And.intro ?_ ?_)|rfl)), ?_⟩
                      focus
                        refine zd1 [7, 10] (zx rfl ?_ (zx rfl ?_ zy))
                        focus
                          conv => whnf
                          refine short_call p0.1 p0.2 rfl hp0 (fun _ h => h) ?_
                          ((conv => whnf);(refine And.intro ?_ (And.intro ?_ (And.intro ?_ (And.intro ?_ ?_))));(all_goals ((repeat' (first|((conv => whnf);done)|((try conv => whnf);first|exact trivial|(refine And.intro ?_ ?_)|rfl)));(all_goals (try conv => whnf))));rotate_right)
                          intro ls3 hls3 G3
                          conv => whnf
                          refine ⟨(by repeat' ((conv => whnf);first|exact trivial|(refine And.intro ?_ ?_)|rfl)), ?_⟩
                          refine zd1 [10] (zx rfl ?_ zy)
                          conv => whnf
                          refine ⟨(by repeat' ((conv => whnf);first|exact trivial|(refine And.intro ?_ ?_)|rfl)), ?_⟩
                          refine zd1 [11] (zx rfl ?_ zy)
                          conv => whnf
                          refine ⟨(by repeat' ((conv => whnf);first|exact trivial|(refine And.intro ?_ ?_)|rfl)), ?_⟩
                          refine zd1 [12] (zx rfl ?_ zy)
                          conv => whnf
                          refine ⟨(by repeat' ((conv => whnf);first|exact trivial|(refine And.intro ?_ ?_)|rfl)), ?_⟩
                          refine zd1 [13] (zx rfl ?_ zy)
                          conv => whnf
                          refine ⟨(by repeat' ((conv => whnf);first|exact trivial|(refine And.intro ?_ ?_)|rfl)), ?_⟩
                          refine zw ?_
                          refine ⟨(ls1, ls2, ls3, G1, G2, G3), ⟨hls1, hls2, hls3⟩, ?_⟩
                          ((repeat' (first|((conv => whnf);done)|((try conv => whnf);first|exact trivial|(refine And.intro ?_ ?_)|rfl)));(all_goals (try conv => whnf)))
                        rotate_right
                        focus
                          conv => whnf
                          refine ⟨(by repeat' ((conv => whnf);first|exact trivial|(refine And.intro ?_ ?_)|rfl)), ?_⟩
                          refine zd1 [7] (zx rfl ?_ zy)
                          conv => whnf
                          refine short_call p0.1 p0.2 rfl hp0 (fun _ h => h) ?_
                          ((conv => whnf);(refine And.intro ?_ (And.intro ?_ (And.intro ?_ (And.intro ?_ ?_))));(all_goals ((repeat' (first|((conv => whnf);done)|((try conv => whnf);first|exact trivial|(refine And.intro ?_ ?_)|rfl)));(all_goals (try conv => whnf))));rotate_right)
                          intro ls3 hls3 G3
                          conv => whnf
                          refine ⟨(by repeat' ((conv => whnf);first|exact trivial|(refine And.intro ?_ ?_)|rfl)), ?_⟩
                          refine zd1 [11] (zx rfl ?_ zy)
                          conv => whnf
                          refine ⟨(by repeat' ((conv => whnf);first|exact trivial|(refine And.intro ?_ ?_)|rfl)), ?_⟩
                          refine zd1 [12] (zx rfl ?_ zy)
                          conv => whnf
                          refine ⟨(by repeat' ((conv => whnf);first|exact trivial|(refine And.intro ?_ ?_)|rfl)), ?_⟩
                          refine zd1 [13] (zx rfl ?_ zy)
                          conv => whnf
                          refine ⟨(by repeat' ((conv => whnf);first|exact trivial|(refine And.intro ?_ ?_)|rfl)), ?_⟩
                          refine zw ?_
                          refine ⟨(ls1, ls2, ls3, G1, G2, G3), ⟨hls1, hls2, hls3⟩, ?_⟩
                          ((repeat' (first|((conv => whnf);done)|((try conv => whnf);first|exact trivial|(refine And.intro ?_ ?_)|rfl)));(all_goals (try conv => whnf)))
                rotate_right
                focus
                  conv => whnf
                  refine ⟨(by repeat' ((conv => whnf);first|exact trivial|(refine And.intro ?_ ?_)|rfl)), ?_⟩
                  focus
                    refine zd1 [7, 9, 10] (zx rfl ?_ (zx rfl ?_ (zx rfl ?_ zy)))
                    focus
                      conv => whnf
                      refine short_call p0.1 p0.2 rfl hp0 (fun _ h => h) ?_
                      ((conv => whnf);(refine And.intro ?_ (And.intro ?_ (And.intro ?_ (And.intro ?_ ?_))));(all_goals ((repeat' (first|((conv => whnf);done)|((try conv => whnf);first|exact trivial|(refine And.intro ?_ ?_)|rfl)));(all_goals (try conv => whnf))));rotate_right)
                      intro ls3 hls3 G3
                      conv => whnf
                      refine ⟨(by repeat' ((conv => whnf);first|exact trivial|(refine And.intro ?_ ?_)|rfl)), ?_⟩
                      focus
                        refine zd1 [9, 10] (zx rfl ?_ (zx rfl ?_ zy))
                        focus
                          conv => whnf
                          refine ⟨(by repeat' ((conv => whnf);first|exact trivial|(refine And.intro ?_ ?_)|rfl)), ?_⟩
                          refine zd1 [10] (zx rfl ?_ zy)
                          conv => whnf
                          refine ⟨(by repeat' ((conv => whnf);first|exact trivial|(refine And.intro ?_ ?_)|rfl)), ?_⟩
                          refine zd1 [11] (zx rfl ?_ zy)
                          conv => whnf
                          refine ⟨(by repeat' ((conv => whnf);first|exact trivial|(refine And.intro ?_ ?_)|rfl)), ?_⟩
                          refine zd1 [12] (zx rfl ?_ zy)
                          conv => whnf
                          refine ⟨(by repeat' ((conv => whnf);first|exact trivial|(refine And.intro ?_ ?_)|rfl)), ?_⟩
                          refine zd1 [13] (zx rfl ?_ zy)
                          conv => whnf
                          refine ⟨(by repeat' ((conv => whnf);first|exact trivial|(refine And.intro ?_ ?_)|rfl)), ?_⟩
                          refine zw ?_
                          refine ⟨(ls1, ls2, ls3, G1, G2, G3), ⟨hls1, hls2, hls3⟩, ?_⟩
                          ((repeat' (first|((conv => whnf);done)|((try conv => whnf);first|exact trivial|(refine And.intro ?_ ?_)|rfl)));(all_goals (try conv => whnf)))
                        rotate_right
                        focus
                          conv => whnf
                          refine ⟨(by repeat' ((conv => whnf);first|exact trivial|(refine And.intro ?_ ?_)|rfl)), ?_⟩
                          refine zd1 [9] (zx rfl ?_ zy)
                          conv => whnf
                          refine ⟨(by repeat' ((conv => whnf);first|exact trivial|(refine And.intro ?_ ?_)|rfl)), ?_⟩
                          refine zd1 [11] (zx rfl ?_ zy)
                          conv => whnf
                          refine ⟨(by repeat' ((conv => whnf);first|exact trivial|(refine And.intro ?_ ?_)|rfl)), ?_⟩
                          refine zd1 [12] (zx rfl ?_ zy)
                          conv => whnf
                          refine ⟨(by repeat' ((conv => whnf);first|exact trivial|(refine And.intro ?_ ?_)|rfl)), ?_⟩
                          refine zd1 [13] (zx rfl ?_ zy)
                          conv => whnf
                          refine ⟨(by repeat' ((conv => whnf);first|exact trivial|(refine And.intro ?_ ?_)|rfl)), ?_⟩
                          refine zw ?_
                          refine ⟨(ls1, ls2, ls3, G1, G2, G3), ⟨hls1, hls2, hls3⟩, ?_⟩
                          ((repeat' (first|((conv => whnf);done)|((try conv => whnf);first|exact trivial|(refine And.intro ?_ ?_)|rfl)));(all_goals (try conv => whnf)))
                    rotate_right
                    focus
                      conv => whnf
                      refine ⟨(by repeat' ((conv => whnf);first|exact trivial|(refine And.intro ?_ ?_)|rfl)), ?_⟩
                      focus
                        refine zd1 [7, 9] (zx rfl ?_ (zx rfl ?_ zy))
                        focus
                          conv => whnf
                          refine short_call p0.1 p0.2 rfl hp0 (fun _ h => h) ?_
                          ((conv => whnf);(refine And.intro ?_ (And.intro ?_ (And.intro ?_ (And.intro ?_ ?_))));(all_goals ((repeat' (first|((conv => whnf);done)|((try conv => whnf);first|exact trivial|(refine And.intro ?_ ?_)|rfl)));(all_goals (try conv => whnf))));rotate_right)
                          intro ls3 hls3 G3
                          conv => whnf
                          refine ⟨(by repeat' ((conv => whnf);first|exact trivial|(refine And.intro ?_ ?_)|rfl)), ?_⟩
                          refine zd1 [9] (zx rfl ?_ zy)
                          conv => whnf
                          refine ⟨(by repeat' ((conv => whnf);first|exact trivial|(refine And.intro ?_ ?_)|rfl)), ?_⟩
                          refine zd1 [11] (zx rfl ?_ zy)
                          conv => whnf
                          refine ⟨(by repeat' ((conv => whnf);first|exact trivial|(refine And.intro ?_ ?_)|rfl)), ?_⟩
                          refine zd1 [12] (zx rfl ?_ zy)
                          conv => whnf
                          refine ⟨(by repeat' ((conv => whnf);first|exact trivial|(refine And.intro ?_ ?_)|rfl)), ?_⟩
                          refine zd1 [13] (zx rfl ?_ zy)
                          conv => whnf
                          refine ⟨(by repeat' ((conv => whnf);first|exact trivial|(refine And.intro ?_ ?_)|rfl)), ?_⟩
                          refine zw ?_
                          refine ⟨(ls1, ls2, ls3, G1, G2, G3), ⟨hls1, hls2, hls3⟩, ?_⟩
                          ((repeat' (first|((conv => whnf);done)|((try conv => whnf);first|exact trivial|(refine And.intro ?_ ?_)|rfl)));(all_goals (try conv => whnf)))
                        rotate_right
                        focus
                          conv => whnf
                          refine ⟨(by repeat' ((conv => whnf);first|exact trivial|(refine And.intro ?_ ?_)|rfl)), ?_⟩
                          refine zd1 [7] (zx rfl ?_ zy)
                          conv => whnf
                          refine short_call p0.1 p0.2 rfl hp0 (fun _ h => h) ?_
                          ((conv => whnf);(refine And.intro ?_ (And.intro ?_ (And.intro ?_ (And.intro ?_ ?_))));(all_goals ((repeat' (first|((conv => whnf);done)|((try conv => whnf);first|exact trivial|(refine And.intro ?_ ?_)|rfl)));(all_goals (try conv => whnf))));rotate_right)
                          intro ls3 hls3 G3
                          conv => whnf
                          refine ⟨(by repeat' ((conv => whnf);first|exact trivial|(refine And.intro ?_ ?_)|rfl)), ?_⟩
                          refine zd1 [11] (zx rfl ?_ zy)
                          conv => whnf
                          refine ⟨(by repeat' ((conv => whnf);first|exact trivial|(refine And.intro ?_ ?_)|rfl)), ?_⟩
                          refine zd1 [12] (zx rfl ?_ zy)
                          conv => whnf
                          refine ⟨(by repeat' ((conv => whnf);first|exact trivial|(refine And.intro ?_ ?_)|rfl)), ?_⟩
                          refine zd1 [13] (zx rfl ?_ zy)
                          conv => whnf
                          refine ⟨(by repeat' ((conv => whnf);first|exact trivial|(refine And.intro ?_ ?_)|rfl)), ?_⟩
                          refine zw ?_
                          refine ⟨(ls1, ls2, ls3, G1, G2, G3), ⟨hls1, hls2, hls3⟩, ?_⟩
                          ((repeat' (first|((conv => whnf);done)|((try conv => whnf);first|exact trivial|(refine And.intro ?_ ?_)|rfl)));(all_goals (try conv => whnf)))
                    rotate_right
                    focus
                      conv => whnf
                      refine ⟨(by repeat' ((conv => whnf);first|exact trivial|(refine And.intro ?_ ?_)|rfl)), ?_⟩
                      focus
                        refine zd1 [7, 10] (zx rfl ?_ (zx rfl ?_ zy))
                        focus
                          conv => whnf
                          refine short_call p0.1 p0.2 rfl hp0 (fun _ h => h) ?_
                          ((conv => whnf);(refine And.intro ?_ (And.intro ?_ (And.intro ?_ (And.intro ?_ ?_))));(all_goals ((repeat' (first|((conv => whnf);done)|((try conv => whnf);first|exact trivial|(refine And.intro ?_ ?_)|rfl)));(all_goals (try conv => whnf))));rotate_right)
                          intro ls3 hls3 G3
                          conv => whnf
                          refine ⟨(by repeat' ((conv => whnf);first|exact trivial|(refine And.intro ?_ ?_)|rfl)), ?_⟩
                          refine zd1 [10] (zx rfl ?_ zy)
                          conv => whnf
                          refine ⟨(by repeat' ((conv => whnf);first|exact trivial|(refine And.intro ?_ ?_)|rfl)), ?_⟩
                          refine zd1 [11] (zx rfl ?_ zy)
                          conv => whnf
                          refine ⟨(by repeat' ((conv => whnf);first|exact trivial|(refine And.intro ?_ ?_)|rfl)), ?_⟩
                          refine zd1 [12] (zx rfl ?_ zy)
                          conv => whnf
                          refine ⟨(by repeat' ((conv => whnf);first|exact trivial|(refine And.intro ?_ ?_)|rfl)), ?_⟩
                          refine zd1 [13] (zx rfl ?_ zy)
                          conv => whnf
                          refine ⟨(by repeat' ((conv => whnf);first|exact trivial|(refine And.intro ?_ ?_)|rfl)), ?_⟩
                          refine zw ?_
                          refine ⟨(ls1, ls2, ls3, G1, G2, G3), ⟨hls1, hls2, hls3⟩, ?_⟩
                          ((repeat' (first|((conv => whnf);done)|((try conv => whnf);first|exact trivial|(refine And.intro ?_ ?_)|rfl)));(all_goals (try conv => whnf)))
                        rotate_right
                        focus
                          conv => whnf
                          refine ⟨(by repeat' ((conv => whnf);first|exact trivial|(refine And.intro ?_ ?_)|rfl)), ?_⟩
                          refine zd1 [7] (zx rfl ?_ zy)
                          conv => whnf
                          refine short_call p0.1 p0.2 rfl hp0 (fun _ h => h) ?_
                          ((conv => whnf);(refine And.intro ?_ (And.intro ?_ (And.intro ?_ (And.intro ?_ ?_))));(all_goals ((repeat' (first|((conv => whnf);done)|((try conv => whnf);first|exact trivial|(refine And.intro ?_ ?_)|rfl)));(all_goals (try conv => whnf))));rotate_right)
                          intro ls3 hls3 G3
                          conv => whnf
                          refine ⟨(by repeat' ((conv => whnf);first|exact trivial|(refine And.intro ?_ ?_)|rfl)), ?_⟩
                          refine zd1 [11] (zx rfl ?_ zy)
                          conv => whnf
                          refine ⟨(by repeat' ((conv => whnf);first|exact trivial|(refine And.intro ?_ ?_)|rfl)), ?_⟩
                          refine zd1 [12] (zx rfl ?_ zy)
                          conv => whnf
                          refine ⟨(by repeat' ((conv => whnf);first|exact trivial|(refine And.intro ?_ ?_)|rfl)), ?_⟩
                          refine zd1 [13] (zx rfl ?_ zy)
                          conv => whnf
                          refine ⟨(by repeat' ((conv => whnf);first|exact trivial|(refine And.intro ?_ ?_)|rfl)), ?_⟩
                          refine zw ?_
                          refine ⟨(ls1, ls2, ls3, G1, G2, G3), ⟨hls1, hls2, hls3⟩, ?_⟩
                          ((repeat' (first|((conv => whnf);done)|((try conv => whnf);first|exact trivial|(refine And.intro ?_ ?_)|rfl)));(all_goals (try conv => whnf)))
            rotate_right
            focus
              conv => whnf
              refine ⟨(by repeat' ((conv => whnf);first|exact trivial|(refine And.intro ?_ ?_)|rfl)), ?_⟩
              focus
                refine zd1 [3, 8, 9] (zx rfl ?_ (zx rfl ?_ (zx rfl ?_ zy)))
                focus
                  conv => whnf
                  refine short_call p.1 p.2 rfl hp (fun _ h => h) ?_
                  ((conv => whnf);(refine And.intro ?_ (And.intro ?_ (And.intro ?_ (And.intro ?_ ?_))));(all_goals ((repeat' (first|((conv => whnf);done)|((try conv => whnf);first|exact trivial|(refine And.intro ?_ ?_)|rfl)));(all_goals (try conv => whnf))));rotate_right)
                  intro ls2 hls2 G2
                  conv => whnf
                  refine ⟨(by repeat' ((conv => whnf);first|exact trivial|(refine And.intro ?_ ?_)|rfl)), ?_⟩
                  focus
                    refine zd1 [7, 8, 9] (zx rfl ?_ (zx rfl ?_ (zx rfl ?_ zy)))
                    focus
                      conv => whnf
                      refine short_call p0.1 p0.2 rfl hp0 (fun _ h => h) ?_
                      ((conv => whnf);(refine And.intro ?_ (And.intro ?_ (And.intro ?_ (And.intro ?_ ?_))));(all_goals ((repeat' (first|((conv => whnf);done)|((try conv => whnf);first|exact trivial|(refine And.intro ?_ ?_)|rfl)));(all_goals (try conv => whnf))));rotate_right)
                      intro ls3 hls3 G3
                      conv => whnf
                      refine ⟨(by repeat' ((conv => whnf);first|exact trivial|(refine And.intro ?_ ?_)|rfl)), ?_⟩
                      focus
                        refine zd1 [8, 9] (zx rfl ?_ (zx rfl ?_ zy))
                        focus
                          conv => whnf
                          refine ⟨(by repeat' ((conv => whnf);first|exact trivial|(refine And.intro ?_ ?_)|rfl)), ?_⟩
                          refine zd1 [9] (zx rfl ?_ zy)
                          conv => whnf
                          refine ⟨(by repeat' ((conv => whnf);first|exact trivial|(refine And.intro ?_ ?_)|rfl)), ?_⟩
                          refine zd1 [11] (zx rfl ?_ zy)
                          conv => whnf
                          refine ⟨(by repeat' ((conv => whnf);first|exact trivial|(refine And.intro ?_ ?_)|rfl)), ?_⟩
                          refine zd1 [12] (zx rfl ?_ zy)
                          conv => whnf
                          refine ⟨(by repeat' ((conv => whnf);first|exact trivial|(refine And.intro ?_ ?_)|rfl)), ?_⟩
                          refine zd1 [13] (zx rfl ?_ zy)
                          conv => whnf
                          refine ⟨(by repeat' ((conv => whnf);first|exact trivial|(refine And.intro ?_ ?_)|rfl)), ?_⟩
                          refine zw ?_
                          refine ⟨(ls1, ls2, ls3, G1, G2, G3), ⟨hls1, hls2, hls3⟩, ?_⟩
                          ((repeat' (first|((conv => whnf);done)|((try conv => whnf);first|exact trivial|(refine And.intro ?_ ?_)|rfl)));(all_goals (try conv => whnf)))
                        rotate_right
                        focus
                          conv => whnf
                          refine ⟨(by repeat' ((conv => whnf);first|exact trivial|(refine And.intro ?_ ?_)|rfl)), ?_⟩
                          refine zd1 [8] (zx rfl ?_ zy)
                          conv => whnf
                          refine ⟨(by repeat' ((conv => whnf);first|exact trivial|(refine And.intro ?_ ?_)|rfl)), ?_⟩
                          refine zd1 [11] (zx rfl ?_ zy)
                          conv => whnf
                          refine ⟨(by repeat' ((conv => whnf);first|exact trivial|(refine And.intro ?_ ?_)|rfl)), ?_⟩
                          refine zd1 [12] (zx rfl ?_ zy)
                          conv => whnf
                          refine ⟨(by repeat' ((conv => whnf);first|exact trivial|(refine And.intro ?_ ?_)|rfl)), ?_⟩
                          refine zd1 [13] (zx rfl ?_ zy)
                          conv => whnf
                          refine ⟨(by repeat' ((conv => whnf);first|exact trivial|(refine And.intro ?_ ?_)|rfl)), ?_⟩
                          refine zw ?_
                          refine ⟨(ls1, ls2, ls3, G1, G2, G3), ⟨hls1, hls2, hls3⟩, ?_⟩
                          ((repeat' (first|((conv => whnf);done)|((try conv => whnf);first|exact trivial|(refine And.intro ?_ ?_)|rfl)));(all_goals (try conv => whnf)))
                    rotate_right
                    focus
                      conv => whnf
                      refine ⟨(by repeat' ((conv => whnf);first|exact trivial|(refine And.intro ?_ ?_)|rfl)), ?_⟩
                      focus
                        refine zd1 [7, 8] (zx rfl ?_ (zx rfl ?_ zy))
                        focus
                          conv => whnf
                          refine short_call p0.1 p0.2 rfl hp0 (fun _ h => h) ?_
                          ((conv => whnf);(refine And.intro ?_ (And.intro ?_ (And.intro ?_ (And.intro ?_ ?_))));(all_goals ((repeat' (first|((conv => whnf);done)|((try conv => whnf);first|exact trivial|(refine And.intro ?_ ?_)|rfl)));(all_goals (try conv => whnf))));rotate_right)
                          intro ls3 hls3 G3
                          conv => whnf
                          refine ⟨(by repeat' ((conv => whnf);first|exact trivial|(refine And.intro ?_ ?_)|rfl)), ?_⟩
                          refine zd1 [8] (zx rfl ?_ zy)
                          conv => whnf
                          refine ⟨(by repeat' ((conv => whnf);first|exact trivial|(refine And.intro ?_ ?_)|rfl)), ?_⟩
                          refine zd1 [11] (zx rfl ?_ zy)
                          conv => whnf
                          refine ⟨(by repeat' ((conv => whnf);first|exact trivial|(refine And.intro ?_ ?_)|rfl)), ?_⟩
                          refine zd1 [12] (zx rfl ?_ zy)
                          conv => whnf
                          refine ⟨(by repeat' ((conv => whnf);first|exact trivial|(refine And.intro ?_ ?_)|rfl)), ?_⟩
                          refine zd1 [13] (zx rfl ?_ zy)
                          conv => whnf
                          refine ⟨(by repeat' ((conv => whnf);first|exact trivial|(refine And.intro ?_ ?_)|rfl)), ?_⟩
                          refine zw ?_
                          refine ⟨(ls1, ls2, ls3, G1, G2, G3), ⟨hls1, hls2, hls3⟩, ?_⟩
                          ((repeat' (first|((conv => whnf);done)|((try conv => whnf);first|exact trivial|(refine And.intro ?_ ?_)|rfl)));(all_goals (try conv => whnf)))
                        rotate_right
                        focus
                          conv => whnf
                          refine ⟨(by repeat' ((conv => whnf);first|exact trivial|(refine And.intro ?_ ?_)|rfl)), ?_⟩
                          refine zd1 [7] (zx rfl ?_ zy)
                          conv => whnf
                          refine short_call p0.1 p0.2 rfl hp0 (fun _ h => h) ?_
                          ((conv => whnf);(refine And.intro ?_ (And.intro ?_ (And.intro ?_ (And.intro ?_ ?_))));(all_goals ((repeat' (first|((conv => whnf);done)|((try conv => whnf);first|exact trivial|(refine And.intro ?_ ?_)|rfl)));(all_goals (try conv => whnf))));rotate_right)
                          intro ls3 hls3 G3
                          conv => whnf
                          refine ⟨(by repeat' ((conv => whnf);first|exact trivial|(refine And.intro ?_ ?_)|rfl)), ?_⟩
                          refine zd1 [11] (zx rfl ?_ zy)
                          conv => whnf
                          refine ⟨(by repeat' ((conv => whnf);first|exact trivial|(refine And.intro ?_ ?_)|rfl)), ?_⟩
                          refine zd1 [12] (zx rfl ?_ zy)
                          conv => whnf
                          refine ⟨(by repeat' ((conv => whnf);first|exact trivial|(refine And.intro ?_ ?_)|rfl)), ?_⟩
                          refine zd1 [13] (zx rfl ?_ zy)
                          conv => whnf
                          refine ⟨(by repeat' ((conv => whnf);first|exact trivial|(refine And.intro ?_ ?_)|rfl)), ?_⟩
                          refine zw ?_
                          refine ⟨(ls1, ls2, ls3, G1, G2, G3), ⟨hls1, hls2, hls3⟩, ?_⟩
                          ((repeat' (first|((conv => whnf);done)|((try conv => whnf);first|exact trivial|(refine And.intro ?_ ?_)|rfl)));(all_goals (try conv => whnf)))
                    rotate_right
                    focus
                      conv => whnf
                      refine ⟨(by repeat' ((conv => whnf);first|exact trivial|(refine And.intro ?_ ?_)|rfl)), ?_⟩
                      focus
                        refine zd1 [7, 9] (zx rfl ?_ (zx rfl ?_ zy))
                        focus
                          conv => whnf
                          refine short_call p0.1 p0.2 rfl hp0 (fun _ h => h) ?_
                          ((conv => whnf);(refine And.intro ?_ (And.intro ?_ (And.intro ?_ (And.intro ?_ ?_))));(all_goals ((repeat' (first|((conv => whnf);done)|((try conv => whnf);first|exact trivial|(refine And.intro ?_ ?_)|rfl)));(all_goals (try conv => whnf))));rotate_right)
                          intro ls3 hls3 G3
                          conv => whnf
                          refine ⟨(by repeat' ((conv => whnf);first|exact trivial|(refine And.intro ?_ ?_)|rfl)), ?_⟩
                          refine zd1 [9] (zx rfl ?_ zy)
                          conv => whnf
                          refine ⟨(by repeat' ((conv => whnf);first|exact trivial|(refine And.intro ?_ ?_)|rfl)), ?_⟩
                          refine zd1 [11] (zx rfl ?_ zy)
                          conv => whnf
                          refine ⟨(by repeat' ((conv => whnf);first|exact trivial|(refine And.intro ?_ ?_)|rfl)), ?_⟩
                          refine zd1 [12] (zx rfl ?_ zy)
                          conv => whnf
                          refine ⟨(by repeat' ((conv => whnf);first|exact trivial|(refine And.intro ?_ ?_)|rfl)), ?_⟩
                          refine zd1 [13] (zx rfl ?_ zy)
                          conv => whnf
                          refine ⟨(by repeat' ((conv => whnf);first|exact trivial|(refine And.intro ?_ ?_)|rfl)), ?_⟩
                          refine zw ?_
                          refine ⟨(ls1, ls2, ls3, G1, G2, G3), ⟨hls1, hls2, hls3⟩, ?_⟩
                          ((repeat' (first|((conv => whnf);done)|((try conv => whnf);first|exact trivial|(refine And.intro ?_ ?_)|rfl)));(all_goals (try conv => whnf)))
                        rotate_right
                        focus
                          conv => whnf
                          refine ⟨(by repeat' ((conv => whnf);first|exact trivial|(refine And.intro ?_ ?_)|rfl)), ?_⟩
                          refine zd1 [7] (zx rfl ?_ zy)
                          conv => whnf
                          refine short_call p0.1 p0.2 rfl hp0 (fun _ h => h) ?_
                          ((conv => whnf);(refine And.intro ?_ (And.intro ?_ (And.intro ?_ (And.intro ?_ ?_))));(all_goals ((repeat' (first|((conv => whnf);done)|((try conv => whnf);first|exact trivial|(refine And.intro ?_ ?_)|rfl)));(all_goals (try conv => whnf))));rotate_right)
                          intro ls3 hls3 G3
                          conv => whnf
                          refine ⟨(by repeat' ((conv => whnf);first|exact trivial|(refine And.intro ?_ ?_)|rfl)), ?_⟩
                          refine zd1 [11] (zx rfl ?_ zy)
                          conv => whnf
                          refine ⟨(by repeat' ((conv => whnf);first|exact trivial|(refine And.intro ?_ ?_)|rfl)), ?_⟩
                          refine zd1 [12] (zx rfl ?_ zy)
                          conv => whnf
                          refine ⟨(by repeat' ((conv => whnf);first|exact trivial|(refine And.intro ?_ ?_)|rfl)), ?_⟩
                          refine zd1 [13] (zx rfl ?_ zy)
                          conv => whnf
                          refine ⟨(by repeat' ((conv => whnf);first|exact trivial|(refine And.intro ?_ ?_)|rfl)), ?_⟩
                          refine zw ?_
                          refine ⟨(ls1, ls2, ls3, G1, G2, G3), ⟨hls1, hls2, hls3⟩, ?_⟩
                          ((repeat' (first|((conv => whnf);done)|((try conv => whnf);first|exact trivial|(refine And.intro ?_ ?_)|rfl)));(all_goals (try conv => whnf)))
                rotate_right
                focus
                  conv => whnf
                  refine ⟨(by repeat' ((conv => whnf);first|exact trivial|(refine And.intro ?_ ?_)|rfl)), ?_⟩
                  focus
                    refine zd1 [3, 8] (zx rfl ?_ (zx rfl ?_ zy))
                    focus
                      conv => whnf
                      refine short_call p.1 p.2 rfl hp (fun _ h => h) ?_
                      ((conv => whnf);(refine And.intro ?_ (And.intro ?_ (And.intro ?_ (And.intro ?_ ?_))));(all_goals ((repeat' (first|((conv => whnf);done)|((try conv => whnf);first|exact trivial|(refine And.intro ?_ ?_)|rfl)));(all_goals (try conv => whnf))));rotate_right)
                      intro ls2 hls2 G2
                      conv => whnf
                      refine ⟨(by repeat' ((conv => whnf);first|exact trivial|(refine And.intro ?_ ?_)|rfl)), ?_⟩
                      focus
                        refine zd1 [7, 8] (zx rfl ?_ (zx rfl ?_ zy))
                        focus
                          conv => whnf
                          refine short_call p0.1 p0.2 rfl hp0 (fun _ h => h) ?_
                          ((conv => whnf);(refine And.intro ?_ (And.intro ?_ (And.intro ?_ (And.intro ?_ ?_))));(all_goals ((repeat' (first|((conv => whnf);done)|((try conv => whnf);first|exact trivial|(refine And.intro ?_ ?_)|rfl)));(all_goals (try conv => whnf))));rotate_right)
                          intro ls3 hls3 G3
                          conv => whnf
                          refine ⟨(by repeat' ((conv => whnf);first|exact trivial|(refine And.intro ?_ ?_)|rfl)), ?_⟩
                          refine zd1 [8] (zx rfl ?_ zy)
                          conv => whnf
                          refine ⟨(by repeat' ((conv => whnf);first|exact trivial|(refine And.intro ?_ ?_)|rfl)), ?_⟩
                          refine zd1 [11] (zx rfl ?_ zy)
                          conv => whnf
                          refine ⟨(by repeat' ((conv => whnf);first|exact trivial|(refine And.intro ?_ ?_)|rfl)), ?_⟩
                          refine zd1 [12] (zx rfl ?_ zy)
                          conv => whnf
                          refine ⟨(by repeat' ((conv => whnf);first|exact trivial|(refine And.intro ?_ ?_)|rfl)), ?_⟩
                          refine zd1 [13] (zx rfl ?_ zy)
                          conv => whnf
                          refine ⟨(by repeat' ((conv => whnf);first|exact trivial|(refine And.intro ?_ ?_)|rfl)), ?_⟩
                          refine zw ?_
                          refine ⟨(ls1, ls2, ls3, G1, G2, G3), ⟨hls1, hls2, hls3⟩, ?_⟩
                          ((repeat' (first|((conv => whnf);done)|((try conv => whnf);first|exact trivial|(refine And.intro ?_ ?_)|rfl)));(all_goals (try conv => whnf)))
                        rotate_right
                        focus
                          conv => whnf
                          refine ⟨(by repeat' ((conv => whnf);first|exact trivial|(refine And.intro ?_ ?_)|rfl)), ?_⟩
                          refine zd1 [7] (zx rfl ?_ zy)
                          conv => whnf
                          refine short_call p0.1 p0.2 rfl hp0 (fun _ h => h) ?_
                          ((conv => whnf);(refine And.intro ?_ (And.intro ?_ (And.intro ?_ (And.intro ?_ ?_))));(all_goals ((repeat' (first|((conv => whnf);done)|((try conv => whnf);first|exact trivial|(refine And.intro ?_ ?_)|rfl)));(all_goals (try conv => whnf))));rotate_right)
                          intro ls3 hls3 G3
                          conv => whnf
                          refine ⟨(by repeat' ((conv => whnf);first|exact trivial|(refine And.intro ?_ ?_)|rfl)), ?_⟩
                          refine zd1 [11] (zx rfl ?_ zy)
                          conv => whnf
                          refine ⟨(by repeat' ((conv => whnf);first|exact trivial|(refine And.intro ?_ ?_)|rfl)), ?_⟩
                          refine zd1 [12] (zx rfl ?_ zy)
                          conv => whnf
                          refine ⟨(by repeat' ((conv => whnf);first|exact trivial|(refine And.intro ?_ ?_)|rfl)), ?_⟩
                          refine zd1 [13] (zx rfl ?_ zy)
                          conv => whnf
                          refine ⟨(by repeat' ((conv => whnf);first|exact trivial|(refine And.intro ?_ ?_)|rfl)), ?_⟩
                          refine zw ?_
                          refine ⟨(ls1, ls2, ls3, G1, G2, G3), ⟨hls1, hls2, hls3⟩, ?_⟩
                          ((repeat' (first|((conv => whnf);done)|((try conv => whnf);first|exact trivial|(refine And.intro ?_ ?_)|rfl)));(all_goals (try conv => whnf)))
                    rotate_right
                    focus
                      conv => whnf
                      refine ⟨(by repeat' ((conv => whnf);first|exact trivial|(refine And.intro ?_ ?_)|rfl)), ?_⟩
                      refine zd1 [3] (zx rfl ?_ zy)
                      conv => whnf
                      refine short_call p.1 p.2 rfl hp (fun _ h => h) ?_
                      ((conv => whnf);(refine And.intro ?_ (And.intro ?_ (And.intro ?_ (And.intro ?_ ?_))));(all_goals ((repeat' (first|((conv => whnf);done)|((try conv => whnf);first|exact trivial|(refine And.intro ?_ ?_)|rfl)));(all_goals (try conv => whnf))));rotate_right)
                      intro ls2 hls2 G2
                      conv => whnf
                      refine ⟨(by repeat' ((conv => whnf);first|exact trivial|(refine And.intro ?_ ?_)|rfl)), ?_⟩
                      refine zd1 [7] (zx rfl ?_ zy)
                      conv => whnf
                      refine short_call p0.1 p0.2 rfl hp0 (fun _ h => h) ?_
                      ((conv => whnf);(refine And.intro ?_ (And.intro ?_ (And.intro ?_ (And.intro ?_ ?_))));(all_goals ((repeat' (first|((conv => whnf);done)|((try conv => whnf);first|exact trivial|(refine And.intro ?_ ?_)|rfl)));(all_goals (try conv => whnf))));rotate_right)
                      intro ls3 hls3 G3
                      conv => whnf
                      refine ⟨(by repeat' ((conv => whnf);first|exact trivial|(refine And.intro ?_ ?_)|rfl)), ?_⟩
                      refine zd1 [11] (zx rfl ?_ zy)
                      conv => whnf
                      refine ⟨(by repeat' ((conv => whnf);first|exact trivial|(refine And.intro ?_ ?_)|rfl)), ?_⟩
                      refine zd1 [12] (zx rfl ?_ zy)
                      conv => whnf
                      refine ⟨(by repeat' ((conv => whnf);first|exact trivial|(refine And.intro ?_ ?_)|rfl)), ?_⟩
                      refine zd1 [13] (zx rfl ?_ zy)
                      conv => whnf
                      refine ⟨(by repeat' ((conv => whnf);first|exact trivial|(refine And.intro ?_ ?_)|rfl)), ?_⟩
                      refine zw ?_
                      refine ⟨(ls1, ls2, ls3, G1, G2, G3), ⟨hls1, hls2, hls3⟩, ?_⟩
                      ((repeat' (first|((conv => whnf);done)|((try conv => whnf);first|exact trivial|(refine And.intro ?_ ?_)|rfl)));(all_goals (try conv => whnf)))
                rotate_right
                focus
                  conv => whnf
                  refine ⟨(by repeat' ((conv => whnf);first|exact trivial|(refine And.intro ?_ ?_)|rfl)), ?_⟩
                  focus
                    refine zd1 [3, 9] (zx rfl ?_ (zx rfl ?_ zy))
                    focus
                      conv => whnf
                      refine short_call p.1 p.2 rfl hp (fun _ h => h) ?_
                      ((conv => whnf);(refine And.intro ?_ (And.intro ?_ (And.intro ?_ (And.intro ?_ ?_))));(all_goals ((repeat' (first|((conv => whnf);done)|((try conv => whnf);first|exact trivial|(refine And.intro ?_ ?_)|rfl)));(all_goals (try conv => whnf))));rotate_right)
                      intro ls2 hls2 G2
                      conv => whnf
                      refine ⟨(by repeat' ((conv => whnf);first|exact trivial|(refine And.intro ?_ ?_)|rfl)), ?_⟩
                      focus
                        refine zd1 [7, 9] (zx rfl ?_ (zx rfl ?_ zy))
                        focus
                          conv => whnf
                          refine short_call p0.1 p0.2 rfl hp0 (fun _ h => h) ?_
                          ((conv => whnf);(refine And.intro ?_ (And.intro ?_ (And.intro ?_ (And.intro ?_ ?_))));(all_goals ((repeat' (first|((conv => whnf);done)|((try conv => whnf);first|exact trivial|(refine And.intro ?_ ?_)|rfl)));(all_goals (try conv => whnf))));rotate_right)
                          intro ls3 hls3 G3
                          conv => whnf
                          refine ⟨(by repeat' ((conv => whnf);first|exact trivial|(refine And.intro ?_ ?_)|rfl)), ?_⟩
                          refine zd1 [9] (zx rfl ?_ zy)
                          conv => whnf
                          refine ⟨(by repeat' ((conv => whnf);first|exact trivial|(refine And.intro ?_ ?_)|rfl)), ?_⟩
                          refine zd1 [11] (zx rfl ?_ zy)
                          conv => whnf
                          refine ⟨(by repeat' ((conv => whnf);first|exact trivial|(refine And.intro ?_ ?_)|rfl)), ?_⟩
                          refine zd1 [12] (zx rfl ?_ zy)
                          conv => whnf
                          refine ⟨(by repeat' ((conv => whnf);first|exact trivial|(refine And.intro ?_ ?_)|rfl)), ?_⟩
                          refine zd1 [13] (zx rfl ?_ zy)
                          conv => whnf
                          refine ⟨(by repeat' ((conv => whnf);first|exact trivial|(refine And.intro ?_ ?_)|rfl)), ?_⟩
                          refine zw ?_
                          refine ⟨(ls1, ls2, ls3, G1, G2, G3), ⟨hls1, hls2, hls3⟩, ?_⟩
                          ((repeat' (first|((conv => whnf);done)|((try conv => whnf);first|exact trivial|(refine And.intro ?_ ?_)|rfl)));(all_goals (try conv => whnf)))
                        rotate_right
                        focus
                          conv => whnf
                          refine ⟨(by repeat' ((conv => whnf);first|exact trivial|(refine And.intro ?_ ?_)|rfl)), ?_⟩
                          refine zd1 [7] (zx rfl ?_ zy)
                          conv => whnf
                          refine short_call p0.1 p0.2 rfl hp0 (fun _ h => h) ?_
                          ((conv => whnf);(refine And.intro ?_ (And.intro ?_ (And.intro ?_ (And.intro ?_ ?_))));(all_goals ((repeat' (first|((conv => whnf);done)|((try conv => whnf);first|exact trivial|(refine And.intro ?_ ?_)|rfl)));(all_goals (try conv => whnf))));rotate_right)
                          intro ls3 hls3 G3
                          conv => whnf
                          refine ⟨(by repeat' ((conv => whnf);first|exact trivial|(refine And.intro ?_ ?_)|rfl)), ?_⟩
                          refine zd1 [11] (zx rfl ?_ zy)
                          conv => whnf
                          refine ⟨(by repeat' ((conv => whnf);first|exact trivial|(refine And.intro ?_ ?_)|rfl)), ?_⟩
                          refine zd1 [12] (zx rfl ?_ zy)
                          conv => whnf
                          refine ⟨(by repeat' ((conv => whnf);first|exact trivial|(refine And.intro ?_ ?_)|rfl)), ?_⟩
                          refine zd1 [13] (zx rfl ?_ zy)
                          conv => whnf
                          refine ⟨(by repeat' ((conv => whnf);first|exact trivial|(refine And.intro ?_ ?_)|rfl)), ?_⟩
                          refine zw ?_
                          refine ⟨(ls1, ls2, ls3, G1, G2, G3), ⟨hls1, hls2, hls3⟩, ?_⟩
                          ((repeat' (first|((conv => whnf);done)|((try conv => whnf);first|exact trivial|(refine And.intro ?_ ?_)|rfl)));(all_goals (try conv => whnf)))
                    rotate_right
                    focus
                      conv => whnf
                      refine ⟨(by repeat' ((conv => whnf);first|exact trivial|(refine And.intro ?_ ?_)|rfl)), ?_⟩
                      refine zd1 [3] (zx rfl ?_ zy)
                      conv => whnf
                      refine short_call p.1 p.2 rfl hp (fun _ h => h) ?_
                      ((conv => whnf);(refine And.intro ?_ (And.intro ?_ (And.intro ?_ (And.intro ?_ ?_))));(all_goals ((repeat' (first|((conv => whnf);done)|((try conv => whnf);first|exact trivial|(refine And.intro ?_ ?_)|rfl)));(all_goals (try conv => whnf))));rotate_right)
                      intro ls2 hls2 G2
                      conv => whnf
                      refine ⟨(by repeat' ((conv => whnf);first|exact trivial|(refine And.intro ?_ ?_)|rfl)), ?_⟩
                      refine zd1 [7] (zx rfl ?_ zy)
                      conv => whnf
                      refine short_call p0.1 p0.2 rfl hp0 (fun _ h => h) ?_
                      ((conv => whnf);(refine And.intro ?_ (And.intro ?_ (And.intro ?_ (And.intro ?_ ?_))));(all_goals ((repeat' (first|((conv => whnf);done)|((try conv => whnf);first|exact trivial|(refine And.intro ?_ ?_)|rfl)));(all_goals (try conv => whnf))));rotate_right)
                      intro ls3 hls3 G3
                      conv => whnf
                      refine ⟨(by repeat' ((conv => whnf);first|exact trivial|(refine And.intro ?_ ?_)|rfl)), ?_⟩
                      refine zd1 [11] (zx rfl ?_ zy)
                      conv => whnf
                      refine ⟨(by repeat' ((conv => whnf);first|exact trivial|(refine And.intro ?_ ?_)|rfl)), ?_⟩
                      refine zd1 [12] (zx rfl ?_ zy)
                      conv => whnf
                      refine ⟨(by repeat' ((conv => whnf);first|exact trivial|(refine And.intro ?_ ?_)|rfl)), ?_⟩
                      refine zd1 [13] (zx rfl ?_ zy)
                      conv => whnf
                      refine ⟨(by repeat' ((conv => whnf);first|exact trivial|(refine And.intro ?_ ?_)|rfl)), ?_⟩
                      refine zw ?_
                      refine ⟨(ls1, ls2, ls3, G1, G2, G3), ⟨hls1, hls2, hls3⟩, ?_⟩
                      ((repeat' (first|((conv => whnf);done)|((try conv => whnf);first|exact trivial|(refine And.intro ?_ ?_)|rfl)));(all_goals (try conv => whnf)))
            rotate_right
            focus
              conv => whnf
              refine ⟨(by repeat' ((conv => whnf);first|exact trivial|(refine And.intro ?_ ?_)|rfl)), ?_⟩
              focus
                refine zd1 [3, 8, 10] (zx rfl ?_ (zx rfl ?_ (zx rfl ?_ zy)))
                focus
                  conv => whnf
                  refine short_call p.1 p.2 rfl hp (fun _ h => h) ?_
                  ((conv => whnf);(refine And.intro ?_ (And.intro ?_ (And.intro ?_ (And.intro ?_ ?_))));(all_goals ((repeat' (first|((conv => whnf);done)|((try conv => whnf);first|exact trivial|(refine And.intro ?_ ?_)|rfl)));(all_goals (try conv => whnf))));rotate_right)
                  intro ls2 hls2 G2
                  conv => whnf
                  refine ⟨(by repeat' ((conv => whnf);first|exact trivial|(refine And.intro ?_ ?_)|rfl)), ?_⟩
                  focus
                    refine zd1 [7, 8, 10] (zx rfl ?_ (zx rfl ?_ (zx rfl ?_ zy)))
                    focus
                      conv => whnf
                      refine short_call p0.1 p0.2 rfl hp0 (fun _ h => h) ?_
                      ((conv => whnf);(refine And.intro ?_ (And.intro ?_ (And.intro ?_ (And.intro ?_ ?_))));(all_goals ((repeat' (first|((conv => whnf);done)|((try conv => whnf);first|exact trivial|(refine And.intro ?_ ?_)|rfl)));(all_goals (try conv => whnf))));rotate_right)
                      intro ls3 hls3 G3
                      conv => whnf
                      refine ⟨(by repeat' ((conv => whnf);first|exact trivial|(refine And.intro ?_ ?_)|rfl)), ?_⟩
                      focus
                        refine zd1 [8, 10] (zx rfl ?_ (zx rfl ?_ zy))
                        focus
                          conv => whnf
                          refine ⟨(by repeat' ((conv => whnf);first|exact trivial|(refine And.intro ?_ ?_)|rfl)), ?_⟩
                          refine zd1 [10] (zx rfl ?_ zy)
                          conv => whnf
                          refine ⟨(by repeat' ((conv => whnf);first|exact trivial|(refine And.intro ?_ ?_)|rfl)), ?_⟩
                          refine zd1 [11] (zx rfl ?_ zy)
                          conv => whnf
                          refine ⟨(by repeat' ((conv => whnf);first|exact trivial|(refine And.intro ?_ ?_)|rfl)), ?_⟩
                          refine zd1 [12] (zx rfl ?_ zy)
                          conv => whnf
                          refine ⟨(by repeat' ((conv => whnf);first|exact trivial|(refine And.intro ?_ ?_)|rfl)), ?_⟩
                          refine zd1 [13] (zx rfl ?_ zy)
                          conv => whnf
                          refine ⟨(by repeat' ((conv => whnf);first|exact trivial|(refine And.intro ?_ ?_)|rfl)), ?_⟩
                          refine zw ?_
                          refine ⟨(ls1, ls2, ls3, G1, G2, G3), ⟨hls1, hls2, hls3⟩, ?_⟩
                          ((repeat' (first|((conv => whnf);done)|((try conv => whnf);first|exact trivial|(refine And.intro ?_ ?_)|rfl)));(all_goals (try conv => whnf)))
                        rotate_right
                        focus
                          conv => whnf
                          refine ⟨(by repeat' ((conv => whnf);first|exact trivial|(refine And.intro ?_ ?_)|rfl)), ?_⟩
                          refine zd1 [8] (zx rfl ?_ zy)
                          conv => whnf
                          refine ⟨(by repeat' ((conv => whnf);first|exact trivial|(refine And.intro ?_ ?_)|rfl)), ?_⟩
                          refine zd1 [11] (zx rfl ?_ zy)
                          conv => whnf
                          refine ⟨(by repeat' ((conv => whnf);first|exact trivial|(refine And.intro ?_ ?_)|rfl)), ?_⟩
                          refine zd1 [12] (zx rfl ?_ zy)
                          conv => whnf
                          refine ⟨(by repeat' ((conv => whnf);first|exact trivial|(refine And.intro ?_ ?_)|rfl)), ?_⟩
                          refine zd1 [13] (zx rfl ?_ zy)
                          conv => whnf
                          refine ⟨(by repeat' ((conv => whnf);first|exact trivial|(refine And.intro ?_ ?_)|rfl)), ?_⟩
                          refine zw ?_
                          refine ⟨(ls1, ls2, ls3, G1, G2, G3), ⟨hls1, hls2, hls3⟩, ?_⟩
                          ((repeat' (first|((conv => whnf);done)|((try conv => whnf);first|exact trivial|(refine And.intro ?_ ?_)|rfl)));(all_goals (try conv => whnf)))
                    rotate_right
                    focus
                      conv => whnf
                      refine ⟨(by repeat' ((conv => whnf);first|exact trivial|(refine And.intro ?_ ?_)|rfl)), ?_⟩
                      focus
                        refine zd1 [7, 8] (zx rfl ?_ (zx rfl ?_ zy))
                        focus
                          conv => whnf
                          refine short_call p0.1 p0.2 rfl hp0 (fun _ h => h) ?_
                          ((conv => whnf);(refine And.intro ?_ (And.intro ?_ (And.intro ?_ (And.intro ?_ ?_))));(all_goals ((repeat' (first|((conv => whnf);done)|((try conv => whnf);first|exact trivial|(refine And.intro ?_ ?_)|rfl)));(all_goals (try conv => whnf))));rotate_right)
                          intro ls3 hls3 G3
                          conv => whnf
                          refine ⟨(by repeat' ((conv => whnf);first|exact trivial|(refine And.intro ?_ ?_)|rfl)), ?_⟩
                          refine zd1 [8] (zx rfl ?_ zy)
                          conv => whnf
                          refine ⟨(by repeat' ((conv => whnf);first|exact trivial|(refine And.intro ?_ ?_)|rfl)), ?_⟩
                          refine zd1 [11] (zx rfl ?_ zy)
                          conv => whnf
                          refine ⟨(by repeat' ((conv => whnf);first|exact trivial|(refine And.intro ?_ ?_)|rfl)), ?_⟩
                          refine zd1 [12] (zx rfl ?_ zy)
                          conv => whnf
                          refine ⟨(by repeat' ((conv => whnf);first|exact trivial|(refine And.intro ?_ ?_)|rfl)), ?_⟩
                          refine zd1 [13] (zx rfl ?_ zy)
                          conv => whnf
                          refine ⟨(by repeat' ((conv => whnf);first|exact trivial|(refine And.intro ?_ ?_)|rfl)), ?_⟩
                          refine zw ?_
                          refine ⟨(ls1, ls2, ls3, G1, G2, G3), ⟨hls1, hls2, hls3⟩, ?_⟩
                          ((repeat' (first|((conv => whnf);done)|((try conv => whnf);first|exact trivial|(refine And.intro ?_ ?_)|rfl)));(all_goals (try conv => whnf)))
                        rotate_right
                        focus
                          conv => whnf
                          refine ⟨(by repeat' ((conv => whnf);first|exact trivial|(refine And.intro ?_ ?_)|rfl)), ?_⟩
                          refine zd1 [7] (zx rfl ?_ zy)
                          conv => whnf
                          refine short_call p0.1 p0.2 rfl hp0 (fun _ h => h) ?_
                          ((conv => whnf);(refine And.intro ?_ (And.intro ?_ (And.intro ?_ (And.intro ?_ ?_))));(all_goals ((repeat' (first|((conv => whnf);done)|((try conv => whnf);first|exact trivial|(refine And.intro ?_ ?_)|rfl)));(all_goals (try conv => whnf))));rotate_right)
                          intro ls3 hls3 G3
                          conv => whnf
                          refine ⟨(by repeat' ((conv => whnf);first|exact trivial|(refine And.intro ?_ ?_)|rfl)), ?_⟩
                          refine zd1 [11] (zx rfl ?_ zy)
                          conv => whnf
                          refine ⟨(by repeat' ((conv => whnf);first|exact trivial|(refine And.intro ?_ ?_)|rfl)), ?_⟩
                          refine zd1 [12] (zx rfl ?_ zy)
                          conv => whnf
                          refine ⟨(by repeat' ((conv => whnf);first|exact trivial|(refine And.intro ?_ ?_)|rfl)), ?_⟩
                          refine zd1 [13] (zx rfl ?_ zy)
                          conv => whnf
                          refine ⟨(by repeat' ((conv => whnf);first|exact trivial|(refine And.intro ?_ ?_)|rfl)), ?_⟩
                          refine zw ?_
                          refine ⟨(ls1, ls2, ls3, G1, G2, G3), ⟨hls1, hls2, hls3⟩, ?_⟩
                          ((repeat' (first|((conv => whnf);done)|((try conv => whnf);first|exact trivial|(refine And.intro ?_ ?_)|rfl)));(all_goals (try conv => whnf)))
                    rotate_right
                    focus
                      conv => whnf
                      refine ⟨(by repeat' ((conv => whnf);first|exact trivial|(refine And.intro ?_ ?_)|rfl)), ?_⟩
                      focus
                        refine zd1 [7, 10] (zx rfl ?_ (zx rfl ?_ zy))
                        focus
                          conv => whnf
                          refine short_call p0.1 p0.2 rfl hp0 (fun _ h => h) ?_
                          ((conv => whnf);(refine And.intro ?_ (And.intro ?_ (And.intro ?_ (And.intro ?_ ?_))));(all_goals ((repeat' (first|((conv => whnf);done)|((try conv => whnf);first|exact trivial|(refine And.intro ?_ ?_)|rfl)));(all_goals (try conv => whnf))));rotate_right)
                          intro ls3 hls3 G3
                          conv => whnf
                          refine ⟨(by repeat' ((conv => whnf);first|exact trivial|(refine And.intro ?_ ?_)|rfl)), ?_⟩
                          refine zd1 [10] (zx rfl ?_ zy)
                          conv => whnf
                          refine ⟨(by repeat' ((conv => whnf);first|exact trivial|(refine And.intro ?_ ?_)|rfl)), ?_⟩
                          refine zd1 [11] (zx rfl ?_ zy)
                          conv => whnf
                          refine ⟨(by repeat' ((conv => whnf);first|exact trivial|(refine And.intro ?_ ?_)|rfl)), ?_⟩
                          refine zd1 [12] (zx rfl ?_ zy)
                          conv => whnf
                          refine ⟨(by repeat' ((conv => whnf);first|exact trivial|(refine And.intro ?_ ?_)|rfl)), ?_⟩
                          refine zd1 [13] (zx rfl ?_ zy)
                          conv => whnf
                          refine ⟨(by repeat' ((conv => whnf);first|exact trivial|(refine And.intro ?_ ?_)|rfl)), ?_⟩
                          refine zw ?_
                          refine ⟨(ls1, ls2, ls3, G1, G2, G3), ⟨hls1, hls2, hls3⟩, ?_⟩
                          ((repeat' (first|((conv => whnf);done)|((try conv => whnf);first|exact trivial|(refine And.intro ?_ ?_)|rfl)));(all_goals (try conv => whnf)))
                        rotate_right
                        focus
                          conv => whnf
                          refine ⟨(by repeat' ((conv => whnf);first|exact trivial|(refine And.intro ?_ ?_)|rfl)), ?_⟩
                          refine zd1 [7] (zx rfl ?_ zy)
                          conv => whnf
                          refine short_call p0.1 p0.2 rfl hp0 (fun _ h => h) ?_
                          ((conv => whnf);(refine And.intro ?_ (And.intro ?_ (And.intro ?_ (And.intro ?_ ?_))));(all_goals ((repeat' (first|((conv => whnf);done)|((try conv => whnf);first|exact trivial|(refine And.intro ?_ ?_)|rfl)));(all_goals (try conv => whnf))));rotate_right)
                          intro ls3 hls3 G3
                          conv => whnf
                          refine ⟨(by repeat' ((conv => whnf);first|exact trivial|(refine And.intro ?_ ?_)|rfl)), ?_⟩
                          refine zd1 [11] (zx rfl ?_ zy)
                          conv => whnf
                          refine ⟨(by repeat' ((conv => whnf);first|exact trivial|(refine And.intro ?_ ?_)|rfl)), ?_⟩
                          refine zd1 [12] (zx rfl ?_ zy)
                          conv => whnf
                          refine ⟨(by repeat' ((conv => whnf);first|exact trivial|(refine And.intro ?_ ?_)|rfl)), ?_⟩
                          refine zd1 [13] (zx rfl ?_ zy)
                          conv => whnf
                          refine ⟨(by repeat' ((conv => whnf);first|exact trivial|(refine And.intro ?_ ?_)|rfl)), ?_⟩
                          refine zw ?_
                          refine ⟨(ls1, ls2, ls3, G1, G2, G3), ⟨hls1, hls2, hls3⟩, ?_⟩
                          ((repeat' (first|((conv => whnf);done)|((try conv => whnf);first|exact trivial|(refine And.intro ?_ ?_)|rfl)));(all_goals (try conv => whnf)))
                rotate_right
                focus
                  conv => whnf
                  refine ⟨(by repeat' ((conv => whnf);first|exact trivial|(refine And.intro ?_ ?_)|rfl)), ?_⟩
                  focus
                    refine zd1 [3, 8] (zx rfl ?_ (zx rfl ?_ zy))
                    focus
                      conv => whnf
                      refine short_call p.1 p.2 rfl hp (fun _ h => h) ?_
                      ((conv => whnf);(refine And.intro ?_ (And.intro ?_ (And.intro ?_ (And.intro ?_ ?_))));(all_goals ((repeat' (first|((conv => whnf);done)|((try conv => whnf);first|exact trivial|(refine And.intro ?_ ?_)|rfl)));(all_goals (try conv => whnf))));rotate_right)
                      intro ls2 hls2 G2
                      conv => whnf
                      refine ⟨(by repeat' ((conv => whnf);first|exact trivial|(refine And.intro ?_ ?_)|rfl)), ?_⟩
                      focus
                        refine zd1 [7, 8] (zx rfl ?_ (zx rfl ?_ zy))
                        focus
                          conv => whnf
                          refine short_call p0.1 p0.2 rfl hp0 (fun _ h => h) ?_
                          ((conv => whnf);(refine And.intro ?_ (And.intro ?_ (And.intro ?_ (And.intro ?_ ?_))));(all_goals ((repeat' (first|((conv => whnf);done)|((try conv => whnf);first|exact trivial|(refine And.intro ?_ ?_)|rfl)));(all_goals (try conv => whnf))));rotate_right)
                          intro ls3 hls3 G3
                          conv => whnf
                          refine ⟨(by repeat' ((conv => whnf);first|exact trivial|(refine And.intro ?_ ?_)|rfl)), ?_⟩
                          refine zd1 [8] (zx rfl ?_ zy)
                          conv => whnf
                          refine ⟨(by repeat' ((conv => whnf);first|exact trivial|(refine And.intro ?_ ?_)|rfl)), ?_⟩
                          refine zd1 [11] (zx rfl ?_ zy)
                          conv => whnf
                          refine ⟨(by repeat' ((conv => whnf);first|exact trivial|(refine And.intro ?_ ?_)|rfl)), ?_⟩
                          refine zd1 [12] (zx rfl ?_ zy)
                          conv => whnf
                          refine ⟨(by repeat' ((conv => whnf);first|exact trivial|(refine And.intro ?_ ?_)|rfl)), ?_⟩
                          refine zd1 [13] (zx rfl ?_ zy)
                          conv => whnf
                          refine ⟨(by repeat' ((conv => whnf);first|exact trivial|(refine And.intro ?_ ?_)|rfl)), ?_⟩
                          refine zw ?_
                          refine ⟨(ls1, ls2, ls3, G1, G2, G3), ⟨hls1, hls2, hls3⟩, ?_⟩
                          ((repeat' (first|((conv => whnf);done)|((try conv => whnf);first|exact trivial|(refine And.intro ?_ ?_)|rfl)));(all_goals (try conv => whnf)))
                        rotate_right
                        focus
                          conv => whnf
                          refine ⟨(by repeat' ((conv => whnf);first|exact trivial|(refine And.intro ?_ ?_)|rfl)), ?_⟩
                          refine zd1 [7] (zx rfl ?_ zy)
                          conv => whnf
                          refine short_call p0.1 p0.2 rfl hp0 (fun _ h => h) ?_
                          ((conv => whnf);(refine And.intro ?_ (And.intro ?_ (And.intro ?_ (And.intro ?_ ?_))));(all_goals ((repeat' (first|((conv => whnf);done)|((try conv => whnf);first|exact trivial|(refine And.intro ?_ ?_)|rfl)));(all_goals (try conv => whnf))));rotate_right)
                          intro ls3 hls3 G3
                          conv => whnf
                          refine ⟨(by repeat' ((conv => whnf);first|exact trivial|(refine And.intro ?_ ?_)|rfl)), ?_⟩
                          refine zd1 [11] (zx rfl ?_ zy)
                          conv => whnf
                          refine ⟨(by repeat' ((conv => whnf);first|exact trivial|(refine And.intro ?_ ?_)|rfl)), ?_⟩
                          refine zd1 [12] (zx rfl ?_ zy)
                          conv => whnf
                          refine ⟨(by repeat' ((conv => whnf);first|exact trivial|(refine And.intro ?_ ?_)|rfl)), ?_⟩
                          refine zd1 [13] (zx rfl ?_ zy)
                          conv => whnf
                          refine ⟨(by repeat' ((conv => whnf);first|exact trivial|(refine And.intro ?_ ?_)|rfl)), ?_⟩
                          refine zw ?_
                          refine ⟨(ls1, ls2, ls3, G1, G2, G3), ⟨hls1, hls2, hls3⟩, ?_⟩
                          ((repeat' (first|((conv => whnf);done)|((try conv => whnf);first|exact trivial|(refine And.intro ?_ ?_)|rfl)));(all_goals (try conv => whnf)))
                    rotate_right
                    focus
                      conv => whnf
                      refine ⟨(by repeat' ((conv => whnf);first|exact trivial|(refine And.intro ?_ ?_)|rfl)), ?_⟩
                      refine zd1 [3] (zx rfl ?_ zy)
                      conv => whnf
                      refine short_call p.1 p.2 rfl hp (fun _ h => h) ?_
                      ((conv => whnf);(refine And.intro ?_ (And.intro ?_ (And.intro ?_ (And.intro ?_ ?_))));(all_goals ((repeat' (first|((conv => whnf);done)|((try conv => whnf);first|exact trivial|(refine And.intro ?_ ?_)|rfl)));(all_goals (try conv => whnf))));rotate_right)
                      intro ls2 hls2 G2
                      conv => whnf
                      refine ⟨(by repeat' ((conv => whnf);first|exact trivial|(refine And.intro ?_ ?_)|rfl)), ?_⟩
                      refine zd1 [7] (zx rfl ?_ zy)
                      conv => whnf
                      refine short_call p0.1 p0.2 rfl hp0 (fun _ h => h) ?_
                      ((conv => whnf);(refine And.intro ?_ (And.intro ?_ (And.intro ?_ (And.intro ?_ ?_))));(all_goals ((repeat' (first|((conv => whnf);done)|((try conv => whnf);first|exact trivial|(refine And.intro ?_ ?_)|rfl)));(all_goals (try conv => whnf))));rotate_right)
                      intro ls3 hls3 G3
                      conv => whnf
                      refine ⟨(by repeat' ((conv => whnf);first|exact trivial|(refine And.intro ?_ ?_)|rfl)), ?_⟩
                      refine zd1 [11] (zx rfl ?_ zy)
                      conv => whnf
                      refine ⟨(by repeat' ((conv => whnf);first|exact trivial|(refine And.intro ?_ ?_)|rfl)), ?_⟩
                      refine zd1 [12] (zx rfl ?_ zy)
                      conv => whnf
                      refine ⟨(by repeat' ((conv => whnf);first|exact trivial|(refine And.intro ?_ ?_)|rfl)), ?_⟩
                      refine zd1 [13] (zx rfl ?_ zy)
                      conv => whnf
                      refine ⟨(by repeat' ((conv => whnf);first|exact trivial|(refine And.intro ?_ ?_)|rfl)), ?_⟩
                      refine zw ?_
                      refine ⟨(ls1, ls2, ls3, G1, G2, G3), ⟨hls1, hls2, hls3⟩, ?_⟩
                      ((repeat' (first|((conv => whnf);done)|((try conv => whnf);first|exact trivial|(refine And.intro ?_ ?_)|rfl)));(all_goals (try conv => whnf)))
                rotate_right
                focus
                  conv => whnf
                  refine ⟨(by repeat' ((conv => whnf);first|exact trivial|(refine And.intro ?_ ?_)|rfl)), ?_⟩
                  focus
                    refine zd1 [3, 10] (zx rfl ?_ (zx rfl ?_ zy))
                    focus
                      conv => whnf
                      refine short_call p.1 p.2 rfl hp (fun _ h => h) ?_
                      ((conv => whnf);(refine And.intro ?_ (And.intro ?_ (And.intro ?_ (And.intro ?_ ?_))));(all_goals ((repeat' (first|((conv => whnf);done)|((try conv => whnf);first|exact trivial|(refine And.intro ?_ ?_)|rfl)));(all_goals (try conv => whnf))));rotate_right)
                      intro ls2 hls2 G2
                      conv => whnf
                      refine ⟨(by repeat' ((conv => whnf);first|exact trivial|(refine And.intro ?_ ?_)|rfl)), ?_⟩
                      focus
                        refine zd1 [7, 10] (zx rfl ?_ (zx rfl ?_ zy))
                        focus
                          conv => whnf
                          refine short_call p0.1 p0.2 rfl hp0 (fun _ h => h) ?_
                          ((conv => whnf);(refine And.intro ?_ (And.intro ?_ (And.intro ?_ (And.intro ?_ ?_))));(all_goals ((repeat' (first|((conv => whnf);done)|((try conv => whnf);first|exact trivial|(refine And.intro ?_ ?_)|rfl)));(all_goals (try conv => whnf))));rotate_right)
                          intro ls3 hls3 G3
                          conv => whnf
                          refine ⟨(by repeat' ((conv => whnf);first|exact trivial|(refine And.intro ?_ ?_)|rfl)), ?_⟩
                          refine zd1 [10] (zx rfl ?_ zy)
                          conv => whnf
                          refine ⟨(by repeat' ((conv => whnf);first|exact trivial|(refine And.intro ?_ ?_)|rfl)), ?_⟩
                          refine zd1 [11] (zx rfl ?_ zy)
                          conv => whnf
                          refine ⟨(by repeat' ((conv => whnf);first|exact trivial|(refine And.intro ?_ ?_)|rfl)), ?_⟩
                          refine zd1 [12] (zx rfl ?_ zy)
                          conv => whnf
                          refine ⟨(by repeat' ((conv => whnf);first|exact trivial|(refine And.intro ?_ ?_)|rfl)), ?_⟩
                          refine zd1 [13] (zx rfl ?_ zy)
                          conv => whnf
                          refine ⟨(by repeat' ((conv => whnf);first|exact trivial|(refine And.intro ?_ ?_)|rfl)), ?_⟩
                          refine zw ?_
                          refine ⟨(ls1, ls2, ls3, G1, G2, G3), ⟨hls1, hls2, hls3⟩, ?_⟩
                          ((repeat' (first|((conv => whnf);done)|((try conv => whnf);first|exact trivial|(refine And.intro ?_ ?_)|rfl)));(all_goals (try conv => whnf)))
                        rotate_right
                        focus
                          conv => whnf
                          refine ⟨(by repeat' ((conv => whnf);first|exact trivial|(refine And.intro ?_ ?_)|rfl)), ?_⟩
                          refine zd1 [7] (zx rfl ?_ zy)
                          conv => whnf
                          refine short_call p0.1 p0.2 rfl hp0 (fun _ h => h) ?_
                          ((conv => whnf);(refine And.intro ?_ (And.intro ?_ (And.intro ?_ (And.intro ?_ ?_))));(all_goals ((repeat' (first|((conv => whnf);done)|((try conv => whnf);first|exact trivial|(refine And.intro ?_ ?_)|rfl)));(all_goals (try conv => whnf))));rotate_right)
                          intro ls3 hls3 G3
                          conv => whnf
                          refine ⟨(by repeat' ((conv => whnf);first|exact trivial|(refine And.intro ?_ ?_)|rfl)), ?_⟩
                          refine zd1 [11] (zx rfl ?_ zy)
                          conv => whnf
                          refine ⟨(by repeat' ((conv => whnf);first|exact trivial|(refine And.intro ?_ ?_)|rfl)), ?_⟩
                          refine zd1 [12] (zx rfl ?_ zy)
                          conv => whnf
                          refine ⟨(by repeat' ((conv => whnf);first|exact trivial|(refine And.intro ?_ ?_)|rfl)), ?_⟩
                          refine zd1 [13] (zx rfl ?_ zy)
                          conv => whnf
                          refine ⟨(by repeat' ((conv => whnf);first|exact trivial|(refine And.intro ?_ ?_)|rfl)), ?_⟩
                          refine zw ?_
                          refine ⟨(ls1, ls2, ls3, G1, G2, G3), ⟨hls1, hls2, hls3⟩, ?_⟩
                          ((repeat' (first|((conv => whnf);done)|((try conv => whnf);first|exact trivial|(refine And.intro ?_ ?_)|rfl)));(all_goals (try conv => whnf)))
                    rotate_right
                    focus
                      conv => whnf
                      refine ⟨(by repeat' ((conv => whnf);first|exact trivial|(refine And.intro ?_ ?_)|rfl)), ?_⟩
                      refine zd1 [3] (zx rfl ?_ zy)
                      conv => whnf
                      refine short_call p.1 p.2 rfl hp (fun _ h => h) ?_
                      ((conv => whnf);(refine And.intro ?_ (And.intro ?_ (And.intro ?_ (And.intro ?_ ?_))));(all_goals ((repeat' (first|((conv => whnf);done)|((try conv => whnf);first|exact trivial|(refine And.intro ?_ ?_)|rfl)));(all_goals (try conv => whnf))));rotate_right)
                      intro ls2 hls2 G2
                      conv => whnf
                      refine ⟨(by repeat' ((conv => whnf);first|exact trivial|(refine And.intro ?_ ?_)|rfl)), ?_⟩
                      refine zd1 [7] (zx rfl ?_ zy)
                      conv => whnf
                      refine short_call p0.1 p0.2 rfl hp0 (fun _ h => h) ?_
                      ((conv => whnf);(refine And.intro ?_ (And.intro ?_ (And.intro ?_ (And.intro ?_ ?_))));(all_goals ((repeat' (first|((conv => whnf);done)|((try conv => whnf);first|exact trivial|(refine And.intro ?_ ?_)|rfl)));(all_goals (try conv => whnf))));rotate_right)
                      intro ls3 hls3 G3
                      conv => whnf
                      refine ⟨(by repeat' ((conv => whnf);first|exact trivial|(refine And.intro ?_ ?_)|rfl)), ?_⟩
                      refine zd1 [11] (zx rfl ?_ zy)
                      conv => whnf
                      refine ⟨(by repeat' ((conv => whnf);first|exact trivial|(refine And.intro ?_ ?_)|rfl)), ?_⟩
                      refine zd1 [12] (zx rfl ?_ zy)
                      conv => whnf
                      refine ⟨(by repeat' ((conv => whnf);first|exact trivial|(refine And.intro ?_ ?_)|rfl)), ?_⟩
                      refine zd1 [13] (zx rfl ?_ zy)
                      conv => whnf
                      refine ⟨(by repeat' ((conv => whnf);first|exact trivial|(refine And.intro ?_ ?_)|rfl)), ?_⟩
                      refine zw ?_
                      refine ⟨(ls1, ls2, ls3, G1, G2, G3), ⟨hls1, hls2, hls3⟩, ?_⟩
                      ((repeat' (first|((conv => whnf);done)|((try conv => whnf);first|exact trivial|(refine And.intro ?_ ?_)|rfl)));(all_goals (try conv => whnf)))
            rotate_right
            focus
              conv => whnf
              refine ⟨(by repeat' ((conv => whnf);first|exact trivial|(refine And.intro ?_ ?_)|rfl)), ?_⟩
              focus
                refine zd1 [3, 9, 10] (zx rfl ?_ (zx rfl ?_ (zx rfl ?_ zy)))
                focus
                  conv => whnf
                  refine short_call p.1 p.2 rfl hp (fun _ h => h) ?_
                  ((conv => whnf);(refine And.intro ?_ (And.intro ?_ (And.intro ?_ (And.intro ?_ ?_))));(all_goals ((repeat' (first|((conv => whnf);done)|((try conv => whnf);first|exact trivial|(refine And.intro ?_ ?_)|rfl)));(all_goals (try conv => whnf))));rotate_right)
                  intro ls2 hls2 G2
                  conv => whnf
                  refine ⟨(by repeat' ((conv => whnf);first|exact trivial|(refine And.intro ?_ ?_)|rfl)), ?_⟩
                  focus
                    refine zd1 [7, 9, 10] (zx rfl ?_ (zx rfl ?_ (zx rfl ?_ zy)))
                    focus
                      conv => whnf
                      refine short_call p0.1 p0.2 rfl hp0 (fun _ h => h) ?_
                      ((conv => whnf);(refine And.intro ?_ (And.intro ?_ (And.intro ?_ (And.intro ?_ ?_))));(all_goals ((repeat' (first|((conv => whnf);done)|((try conv => whnf);first|exact trivial|(refine And.intro ?_ ?_)|rfl)));(all_goals (try conv => whnf))));rotate_right)
                      intro ls3 hls3 G3
                      conv => whnf
                      refine ⟨(by repeat' ((conv => whnf);first|exact trivial|(refine And.intro ?_ ?_)|rfl)), ?_⟩
                      focus
                        refine zd1 [9, 10] (zx rfl ?_ (zx rfl ?_ zy))
                        focus
                          conv => whnf
                          refine ⟨(by repeat' ((conv => whnf);first|exact trivial|(refine And.intro ?_ ?_)|rfl)), ?_⟩
                          refine zd1 [10] (zx rfl ?_ zy)
                          conv => whnf
                          refine ⟨(by repeat' ((conv => whnf);first|exact trivial|(refine And.intro ?_ ?_)|rfl)), ?_⟩
                          refine zd1 [11] (zx rfl ?_ zy)
                          conv => whnf
                          refine ⟨(by repeat' ((conv => whnf);first|exact trivial|(refine And.intro ?_ ?_)|rfl)), ?_⟩
                          refine zd1 [12] (zx rfl ?_ zy)
                          conv => whnf
                          refine ⟨(by repeat' ((conv => whnf);first|exact trivial|(refine And.intro ?_ ?_)|rfl)), ?_⟩
                          refine zd1 [13] (zx rfl ?_ zy)
                          conv => whnf
                          refine ⟨(by repeat' ((conv => whnf);first|exact trivial|(refine And.intro ?_ ?_)|rfl)), ?_⟩
                          refine zw ?_
                          refine ⟨(ls1, ls2, ls3, G1, G2, G3), ⟨hls1, hls2, hls3⟩, ?_⟩
                          ((repeat' (first|((conv => whnf);done)|((try conv => whnf);first|exact trivial|(refine And.intro ?_ ?_)|rfl)));(all_goals (try conv => whnf)))
                        rotate_right
                        focus
                          conv => whnf
                          refine ⟨(by repeat' ((conv => whnf);first|exact trivial|(refine And.intro ?_ ?_)|rfl)), ?_⟩
                          refine zd1 [9] (zx rfl ?_ zy)
                          conv => whnf
                          refine ⟨(by repeat' ((conv => whnf);first|exact trivial|(refine And.intro ?_ ?_)|rfl)), ?_⟩
                          refine zd1 [11] (zx rfl ?_ zy)
                          conv => whnf
                          refine ⟨(by repeat' ((conv => whnf);first|exact trivial|(refine And.intro ?_ ?_)|rfl)), ?_⟩
                          refine zd1 [12] (zx rfl ?_ zy)
                          conv => whnf
                          refine ⟨(by repeat' ((conv => whnf);first|exact trivial|(refine And.intro ?_ ?_)|rfl)), ?_⟩
                          refine zd1 [13] (zx rfl ?_ zy)
                          conv => whnf
                          refine ⟨(by repeat' ((conv => whnf);first|exact trivial|(refine And.intro ?_ ?_)|rfl)), ?_⟩
                          refine zw ?_
                          refine ⟨(ls1, ls2, ls3, G1, G2, G3), ⟨hls1, hls2, hls3⟩, ?_⟩
                          ((repeat' (first|((conv => whnf);done)|((try conv => whnf);first|exact trivial|(refine And.intro ?_ ?_)|rfl)));(all_goals (try conv => whnf)))
                    rotate_right
                    focus
                      conv => whnf
                      refine ⟨(by repeat' ((conv => whnf);first|exact trivial|(refine And.intro ?_ ?_)|rfl)), ?_⟩
                      focus
                        refine zd1 [7, 9] (zx rfl ?_ (zx rfl ?_ zy))
                        focus
                          conv => whnf
                          refine short_call p0.1 p0.2 rfl hp0 (fun _ h => h) ?_
                          ((conv => whnf);(refine And.intro ?_ (And.intro ?_ (And.intro ?_ (And.intro ?_ ?_))));(all_goals ((repeat' (first|((conv => whnf);done)|((try conv => whnf);first|exact trivial|(refine And.intro ?_ ?_)|rfl)));(all_goals (try conv => whnf))));rotate_right)
                          intro ls3 hls3 G3
                          conv => whnf
                          refine ⟨(by repeat' ((conv => whnf);first|exact trivial|(refine And.intro ?_ ?_)|rfl)), ?_⟩
                          refine zd1 [9] (zx rfl ?_ zy)
                          conv => whnf
                          refine ⟨(by repeat' ((conv => whnf);first|exact trivial|(refine And.intro ?_ ?_)|rfl)), ?_⟩
                          refine zd1 [11] (zx rfl ?_ zy)
                          conv => whnf
                          refine ⟨(by repeat' ((conv => whnf);first|exact trivial|(refine And.intro ?_ ?_)|rfl)), ?_⟩
                          refine zd1 [12] (zx rfl ?_ zy)
                          conv => whnf
                          refine ⟨(by repeat' ((conv => whnf);first|exact trivial|(refine And.intro ?_ ?_)|rfl)), ?_⟩
                          refine zd1 [13] (zx rfl ?_ zy)
                          conv => whnf
                          refine ⟨(by repeat' ((conv => whnf);first|exact trivial|(refine And.intro ?_ ?_)|rfl)), ?_⟩
                          refine zw ?_
                          refine ⟨(ls1, ls2, ls3, G1, G2, G3), ⟨hls1, hls2, hls3⟩, ?_⟩
                          ((repeat' (first|((conv => whnf);done)|((try conv => whnf);first|exact trivial|(refine And.intro ?_ ?_)|rfl)));(all_goals (try conv => whnf)))
                        rotate_right
                        focus
                          conv => whnf
                          refine ⟨(by repeat' ((conv => whnf);first|exact trivial|(refine And.intro ?_ ?_)|rfl)), ?_⟩
                          refine zd1 [7] (zx rfl ?_ zy)
                          conv => whnf
                          refine short_call p0.1 p0.2 rfl hp0 (fun _ h => h) ?_
                          ((conv => whnf);(refine And.intro ?_ (And.intro ?_ (And.intro ?_ (And.intro ?_ ?_))));(all_goals ((repeat' (first|((conv => whnf);done)|((try conv => whnf);first|exact trivial|(refine And.intro ?_ ?_)|rfl)));(all_goals (try conv => whnf))));rotate_right)
                          intro ls3 hls3 G3
                          conv => whnf
                          refine ⟨(by repeat' ((conv => whnf);first|exact trivial|(refine And.intro ?_ ?_)|rfl)), ?_⟩
                          refine zd1 [11] (zx rfl ?_ zy)
                          conv => whnf
                          refine ⟨(by repeat' ((conv => whnf);first|exact trivial|(refine And.intro ?_ ?_)|rfl)), ?_⟩
                          refine zd1 [12] (zx rfl ?_ zy)
                          conv => whnf
                          refine ⟨(by repeat' ((conv => whnf);first|exact trivial|(refine And.intro ?_ ?_)|rfl)), ?_⟩
                          refine zd1 [13] (zx rfl ?_ zy)
                          conv => whnf
                          refine ⟨(by repeat' ((conv => whnf);first|exact trivial|(refine And.intro ?_ ?_)|rfl)), ?_⟩
                          refine zw ?_
                          refine ⟨(ls1, ls2, ls3, G1, G2, G3), ⟨hls1, hls2, hls3⟩, ?_⟩
                          ((repeat' (first|((conv => whnf);done)|((try conv => whnf);first|exact trivial|(refine And.intro ?_ ?_)|rfl)));(all_goals (try conv => whnf)))
                    rotate_right
                    focus
                      conv => whnf
                      refine ⟨(by repeat' ((conv => whnf);first|exact trivial|(refine And.intro ?_ ?_)|rfl)), ?_⟩
                      focus
                        refine zd1 [7, 10] (zx rfl ?_ (zx rfl ?_ zy))
                        focus
                          conv => whnf
                          refine short_call p0.1 p0.2 rfl hp0 (fun _ h => h) ?_
                          ((conv => whnf);(refine And.intro ?_ (And.intro ?_ (And.intro ?_ (And.intro ?_ ?_))));(all_goals ((repeat' (first|((conv => whnf);done)|((try conv => whnf);first|exact trivial|(refine And.intro ?_ ?_)|rfl)));(all_goals (try conv => whnf))));rotate_right)
                          intro ls3 hls3 G3
                          conv => whnf
                          refine ⟨(by repeat' ((conv => whnf);first|exact trivial|(refine And.intro ?_ ?_)|rfl)), ?_⟩
                          refine zd1 [10] (zx rfl ?_ zy)
                          conv => whnf
                          refine ⟨(by repeat' ((conv => whnf);first|exact trivial|(refine And.intro ?_ ?_)|rfl)), ?_⟩
                          refine zd1 [11] (zx rfl ?_ zy)
                          conv => whnf
                          refine ⟨(by repeat' ((conv => whnf);first|exact trivial|(refine And.intro ?_ ?_)|rfl)), ?_⟩
                          refine zd1 [12] (zx rfl ?_ zy)
                          conv => whnf
                          refine ⟨(by repeat' ((conv => whnf);first|exact trivial|(refine And.intro ?_ ?_)|rfl)), ?_⟩
                          refine zd1 [13] (zx rfl ?_ zy)
                          conv => whnf
                          refine ⟨(by repeat' ((conv => whnf);first|exact trivial|(refine And.intro ?_ ?_)|rfl)), ?_⟩
                          refine zw ?_
                          refine ⟨(ls1, ls2, ls3, G1, G2, G3), ⟨hls1, hls2, hls3⟩, ?_⟩
                          ((repeat' (first|((conv => whnf);done)|((try conv => whnf);first|exact trivial|(refine And.intro ?_ ?_)|rfl)));(all_goals (try conv => whnf)))
                        rotate_right
                        focus
                          conv => whnf
                          refine ⟨(by repeat' ((conv => whnf);first|exact trivial|(refine And.intro ?_ ?_)|rfl)), ?_⟩
                          refine zd1 [7] (zx rfl ?_ zy)
                          conv => whnf
                          refine short_call p0.1 p0.2 rfl hp0 (fun _ h => h) ?_
                          ((conv => whnf);(refine And.intro ?_ (And.intro ?_ (And.intro ?_ (And.intro ?_ ?_))));(all_goals ((repeat' (first|((conv => whnf);done)|((try conv => whnf);first|exact trivial|(refine And.intro ?_ ?_)|rfl)));(all_goals (try conv => whnf))));rotate_right)
                          intro ls3 hls3 G3
                          conv => whnf
                          refine ⟨(by repeat' ((conv => whnf);first|exact trivial|(refine And.intro ?_ ?_)|rfl)), ?_⟩
                          refine zd1 [11] (zx rfl ?_ zy)
                          conv => whnf
                          refine ⟨(by repeat' ((conv => whnf);first|exact trivial|(refine And.intro ?_ ?_)|rfl)), ?_⟩
                          refine zd1 [12] (zx rfl ?_ zy)
                          conv => whnf
                          refine ⟨(by repeat' ((conv => whnf);first|exact trivial|(refine And.intro ?_ ?_)|rfl)), ?_⟩
                          refine zd1 [13] (zx rfl ?_ zy)
                          conv => whnf
                          refine ⟨(by repeat' ((conv => whnf);first|exact trivial|(refine And.intro ?_ ?_)|rfl)), ?_⟩
                          refine zw ?_
                          refine ⟨(ls1, ls2, ls3, G1, G2, G3), ⟨hls1, hls2, hls3⟩, ?_⟩
                          ((repeat' (first|((conv => whnf);done)|((try conv => whnf);first|exact trivial|(refine And.intro ?_ ?_)|rfl)));(all_goals (try conv => whnf)))
                rotate_right
                focus
                  conv => whnf
                  refine ⟨(by repeat' ((conv => whnf);first|exact trivial|(refine And.intro ?_ ?_)|rfl)), ?_⟩
                  focus
                    refine zd1 [3, 9] (zx rfl ?_ (zx rfl ?_ zy))
                    focus
                      conv => whnf
                      refine short_call p.1 p.2 rfl hp (fun _ h => h) ?_
                      ((conv => whnf);(refine And.intro ?_ (And.intro ?_ (And.intro ?_ (And.intro ?_ ?_))));(all_goals ((repeat' (first|((conv => whnf);done)|((try conv => whnf);first|exact trivial|(refine And.intro ?_ ?_)|rfl)));(all_goals (try conv => whnf))));rotate_right)
                      intro ls2 hls2 G2
                      conv => whnf
                      refine ⟨(by repeat' ((conv => whnf);first|exact trivial|(refine And.intro ?_ ?_)|rfl)), ?_⟩
                      focus
                        refine zd1 [7, 9] (zx rfl ?_ (zx rfl ?_ zy))
                        focus
                          conv => whnf
                          refine short_call p0.1 p0.2 rfl hp0 (fun _ h => h) ?_
                          ((conv => whnf);(refine And.intro ?_ (And.intro ?_ (And.intro ?_ (And.intro ?_ ?_))));(all_goals ((repeat' (first|((conv => whnf);done)|((try conv => whnf);first|exact trivial|(refine And.intro ?_ ?_)|rfl)));(all_goals (try conv => whnf))));rotate_right)
                          intro ls3 hls3 G3
                          conv => whnf
                          refine ⟨(by repeat' ((conv => whnf);first|exact trivial|(refine And.intro ?_ ?_)|rfl)), ?_⟩
                          refine zd1 [9] (zx rfl ?_ zy)
                          conv => whnf
                          refine ⟨(by repeat' ((conv => whnf);first|exact trivial|(refine And.intro ?_ ?_)|rfl)), ?_⟩
                          refine zd1 [11] (zx rfl ?_ zy)
                          conv => whnf
                          refine ⟨(by repeat' ((conv => whnf);first|exact trivial|(refine And.intro ?_ ?_)|rfl)), ?_⟩
                          refine zd1 [12] (zx rfl ?_ zy)
                          conv => whnf
                          refine ⟨(by repeat' ((conv => whnf);first|exact trivial|(refine And.intro ?_ ?_)|rfl)), ?_⟩
                          refine zd1 [13] (zx rfl ?_ zy)
                          conv => whnf
                          refine ⟨(by repeat' ((conv => whnf);first|exact trivial|(refine And.intro ?_ ?_)|rfl)), ?_⟩
                          refine zw ?_
                          refine ⟨(ls1, ls2, ls3, G1, G2, G3), ⟨hls1, hls2, hls3⟩, ?_⟩
                          ((repeat' (first|((conv => whnf);done)|((try conv => whnf);first|exact trivial|(refine And.intro ?_ ?_)|rfl)));(all_goals (try conv => whnf)))
                        rotate_right
                        focus
                          conv => whnf
                          refine ⟨(by repeat' ((conv => whnf);first|exact trivial|(refine And.intro ?_ ?_)|rfl)), ?_⟩
                          refine zd1 [7] (zx rfl ?_ zy)
                          conv => whnf
                          refine short_call p0.1 p0.2 rfl hp0 (fun _ h => h) ?_
                          ((conv => whnf);(refine And.intro ?_ (And.intro ?_ (And.intro ?_ (And.intro ?_ ?_))));(all_goals ((repeat' (first|((conv => whnf);done)|((try conv => whnf);first|exact trivial|(refine And.intro ?_ ?_)|rfl)));(all_goals (try conv => whnf))));rotate_right)
                          intro ls3 hls3 G3
                          conv => whnf
                          refine ⟨(by repeat' ((conv => whnf);first|exact trivial|(refine And.intro ?_ ?_)|rfl)), ?_⟩
                          refine zd1 [11] (zx rfl ?_ zy)
                          conv => whnf
                          refine ⟨(by repeat' ((conv => whnf);first|exact trivial|(refine And.intro ?_ ?_)|rfl)), ?_⟩
                          refine zd1 [12] (zx rfl ?_ zy)
                          conv => whnf
                          refine ⟨(by repeat' ((conv => whnf);first|exact trivial|(refine And.intro ?_ ?_)|rfl)), ?_⟩
                          refine zd1 [13] (zx rfl ?_ zy)
                          conv => whnf
                          refine ⟨(by repeat' ((conv => whnf);first|exact trivial|(refine And.intro ?_ ?_)|rfl)), ?_⟩
                          refine zw ?_
                          refine ⟨(ls1, ls2, ls3, G1, G2, G3), ⟨hls1, hls2, hls3⟩, ?_⟩
                          ((repeat' (first|((conv => whnf);done)|((try conv => whnf);first|exact trivial|(refine And.intro ?_ ?_)|rfl)));(all_goals (try conv => whnf)))
                    rotate_right
                    focus
                      conv => whnf
                      refine ⟨(by repeat' ((conv => whnf);first|exact trivial|(refine And.intro ?_ ?_)|rfl)), ?_⟩
                      refine zd1 [3] (zx rfl ?_ zy)
                      conv => whnf
                      refine short_call p.1 p.2 rfl hp (fun _ h => h) ?_
                      ((conv => whnf);(refine And.intro ?_ (And.intro ?_ (And.intro ?_ (And.intro ?_ ?_))));(all_goals ((repeat' (first|((conv => whnf);done)|((try conv => whnf);first|exact trivial|(refine And.intro ?_ ?_)|rfl)));(all_goals (try conv => whnf))));rotate_right)
                      intro ls2 hls2 G2
                      conv => whnf
                      refine ⟨(by repeat' ((conv => whnf);first|exact trivial|(refine And.intro ?_ ?_)|rfl)), ?_⟩
                      refine zd1 [7] (zx rfl ?_ zy)
                      conv => whnf
                      refine short_call p0.1 p0.2 rfl hp0 (fun _ h => h) ?_
                      ((conv => whnf);(refine And.intro ?_ (And.intro ?_ (And.intro ?_ (And.intro ?_ ?_))));(all_goals ((repeat' (first|((conv => whnf);done)|((try conv => whnf);first|exact trivial|(refine And.intro ?_ ?_)|rfl)));(all_goals (try conv => whnf))));rotate_right)
                      intro ls3 hls3 G3
                      conv => whnf
                      refine ⟨(by repeat' ((conv => whnf);first|exact trivial|(refine And.intro ?_ ?_)|rfl)), ?_⟩
                      refine zd1 [11] (zx rfl ?_ zy)
                      conv => whnf
                      refine ⟨(by repeat' ((conv => whnf);first|exact trivial|(refine And.intro ?_ ?_)|rfl)), ?_⟩
                      refine zd1 [12] (zx rfl ?_ zy)
                      conv => whnf
                      refine ⟨(by repeat' ((conv => whnf);first|exact trivial|(refine And.intro ?_ ?_)|rfl)), ?_⟩
                      refine zd1 [13] (zx rfl ?_ zy)
                      conv => whnf
                      refine ⟨(by repeat' ((conv => whnf);first|exact trivial|(refine And.intro ?_ ?_)|rfl)), ?_⟩
                      refine zw ?_
                      refine ⟨(ls1, ls2, ls3, G1, G2, G3), ⟨hls1, hls2, hls3⟩, ?_⟩
                      ((repeat' (first|((conv => whnf);done)|((try conv => whnf);first|exact trivial|(refine And.intro ?_ ?_)|rfl)));(all_goals (try conv => whnf)))
                rotate_right
                focus
                  conv => whnf
                  refine ⟨(by repeat' ((conv => whnf);first|exact trivial|(refine And.intro ?_ ?_)|rfl)), ?_⟩
                  focus
                    refine zd1 [3, 10] (zx rfl ?_ (zx rfl ?_ zy))
                    focus
                      conv => whnf
                      refine short_call p.1 p.2 rfl hp (fun _ h => h) ?_
                      ((conv => whnf);(refine And.intro ?_ (And.intro ?_ (And.intro ?_ (And.intro ?_ ?_))));(all_goals ((repeat' (first|((conv => whnf);done)|((try conv => whnf);first|exact trivial|(refine And.intro ?_ ?_)|rfl)));(all_goals (try conv => whnf))));rotate_right)
                      intro ls2 hls2 G2
                      conv => whnf
                      refine ⟨(by repeat' ((conv => whnf);first|exact trivial|(refine And.intro ?_ ?_)|rfl)), ?_⟩
                      focus
                        refine zd1 [7, 10] (zx rfl ?_ (zx rfl ?_ zy))
                        focus
                          conv => whnf
                          refine short_call p0.1 p0.2 rfl hp0 (fun _ h => h) ?_
                          ((conv => whnf);(refine And.intro ?_ (And.intro ?_ (And.intro ?_ (And.intro ?_ ?_))));(all_goals ((repeat' (first|((conv => whnf);done)|((try conv => whnf);first|exact trivial|(refine And.intro ?_ ?_)|rfl)));(all_goals (try conv => whnf))));rotate_right)
                          intro ls3 hls3 G3
                          conv => whnf
                          refine ⟨(by repeat' ((conv => whnf);first|exact trivial|(refine And.intro ?_ ?_)|rfl)), ?_⟩
                          refine zd1 [10] (zx rfl ?_ zy)
                          conv => whnf
                          refine ⟨(by repeat' ((conv => whnf);first|exact trivial|(refine And.intro ?_ ?_)|rfl)), ?_⟩
                          refine zd1 [11] (zx rfl ?_ zy)
                          conv => whnf
                          refine ⟨(by repeat' ((conv => whnf);first|exact trivial|(refine And.intro ?_ ?_)|rfl)), ?_⟩
                          refine zd1 [12] (zx rfl ?_ zy)
                          conv => whnf
                          refine ⟨(by repeat' ((conv => whnf);first|exact trivial|(refine And.intro ?_ ?_)|rfl)), ?_⟩
                          refine zd1 [13] (zx rfl ?_ zy)
                          conv => whnf
                          refine ⟨(by repeat' ((conv => whnf);first|exact trivial|(refine And.intro ?_ ?_)|rfl)), ?_⟩
                          refine zw ?_
                          refine ⟨(ls1, ls2, ls3, G1, G2, G3), ⟨hls1, hls2, hls3⟩, ?_⟩
                          ((repeat' (first|((conv => whnf);done)|((try conv => whnf);first|exact trivial|(refine And.intro ?_ ?_)|rfl)));(all_goals (try conv => whnf)))
                        rotate_right
                        focus
                          conv => whnf
                          refine ⟨(by repeat' ((conv => whnf);first|exact trivial|(refine And.intro ?_ ?_)|rfl)), ?_⟩
                          refine zd1 [7] (zx rfl ?_ zy)
                          conv => whnf
                          refine short_call p0.1 p0.2 rfl hp0 (fun _ h => h) ?_
                          ((conv => whnf);(refine And.intro ?_ (And.intro ?_ (And.intro ?_ (And.intro ?_ ?_))));(all_goals ((repeat' (first|((conv => whnf);done)|((try conv => whnf);first|exact trivial|(refine And.intro ?_ ?_)|rfl)));(all_goals (try conv => whnf))));rotate_right)
                          intro ls3 hls3 G3
                          conv => whnf
                          refine ⟨(by repeat' ((conv => whnf);first|exact trivial|(refine And.intro ?_ ?_)|rfl)), ?_⟩
                          refine zd1 [11] (zx rfl ?_ zy)
                          conv => whnf
                          refine ⟨(by repeat' ((conv => whnf);first|exact trivial|(refine And.intro ?_ ?_)|rfl)), ?_⟩
                          refine zd1 [12] (zx rfl ?_ zy)
                          conv => whnf
                          refine ⟨(by repeat' ((conv => whnf);first|exact trivial|(refine And.intro ?_ ?_)|rfl)), ?_⟩
                          refine zd1 [13] (zx rfl ?_ zy)
                          conv => whnf
                          refine ⟨(by repeat' ((conv => whnf);first|exact trivial|(refine And.intro ?_ ?_)|rfl)), ?_⟩
                          refine zw ?_
                          refine ⟨(ls1, ls2, ls3, G1, G2, G3), ⟨hls1, hls2, hls3⟩, ?_⟩
                          ((repeat' (first|((conv => whnf);done)|((try conv => whnf);first|exact trivial|(refine And.intro ?_ ?_)|rfl)));(all_goals (try conv => whnf)))
                    rotate_right
                    focus
                      conv => whnf
                      refine ⟨(by repeat' ((conv => whnf);first|exact trivial|(refine And.intro ?_ ?_)|rfl)), ?_⟩
                      refine zd1 [3] (zx rfl ?_ zy)
                      conv => whnf
                      refine short_call p.1 p.2 rfl hp (fun _ h => h) ?_
                      ((conv => whnf);(refine And.intro ?_ (And.intro ?_ (And.intro ?_ (And.intro ?_ ?_))));(all_goals ((repeat' (first|((conv => whnf);done)|((try conv => whnf);first|exact trivial|(refine And.intro ?_ ?_)|rfl)));(all_goals (try conv => whnf))));rotate_right)
                      intro ls2 hls2 G2
                      conv => whnf
                      refine ⟨(by repeat' ((conv => whnf);first|exact trivial|(refine And.intro ?_ ?_)|rfl)), ?_⟩
                      refine zd1 [7] (zx rfl ?_ zy)
                      conv => whnf
                      refine short_call p0.1 p0.2 rfl hp0 (fun _ h => h) ?_
                      ((conv => whnf);(refine And.intro ?_ (And.intro ?_ (And.intro ?_ (And.intro ?_ ?_))));(all_goals ((repeat' (first|((conv => whnf);done)|((try conv => whnf);first|exact trivial|(refine And.intro ?_ ?_)|rfl)));(all_goals (try conv => whnf))));rotate_right)
                      intro ls3 hls3 G3
                      conv => whnf
                      refine ⟨(by repeat' ((conv => whnf);first|exact trivial|(refine And.intro ?_ ?_)|rfl)), ?_⟩
                      refine zd1 [11] (zx rfl ?_ zy)
                      conv => whnf
                      refine ⟨(by repeat' ((conv => whnf);first|exact trivial|(refine And.intro ?_ ?_)|rfl)), ?_⟩
                      refine zd1 [12] (zx rfl ?_ zy)
                      conv => whnf
                      refine ⟨(by repeat' ((conv => whnf);first|exact trivial|(refine And.intro ?_ ?_)|rfl)), ?_⟩
                      refine zd1 [13] (zx rfl ?_ zy)
                      conv => whnf
                      refine ⟨(by repeat' ((conv => whnf);first|exact trivial|(refine And.intro ?_ ?_)|rfl)), ?_⟩
                      refine zw ?_
                      refine ⟨(ls1, ls2, ls3, G1, G2, G3), ⟨hls1, hls2, hls3⟩, ?_⟩
                      ((repeat' (first|((conv => whnf);done)|((try conv => whnf);first|exact trivial|(refine And.intro ?_ ?_)|rfl)));(all_goals (try conv => whnf)))
        rotate_right
        focus
          conv => whnf
          refine ⟨(by repeat' ((conv => whnf);first|exact trivial|(refine And.intro ?_ ?_)|rfl)), ?_⟩
          focus
            refine zd1 [1, 8, 9] (zx rfl ?_ (zx rfl ?_ (zx rfl ?_ zy)))
            focus
              conv => whnf
              refine short_call p.1 p.2 rfl hp (fun _ h => h) ?_
              ((conv => whnf);(refine And.intro ?_ (And.intro ?_ (And.intro ?_ (And.intro ?_ ?_))));(all_goals ((repeat' (first|((conv => whnf);done)|((try conv => whnf);first|exact trivial|(refine And.intro ?_ ?_)|rfl)));(all_goals (try conv => whnf))));rotate_right)
              intro ls1 hls1 G1
              conv => whnf
              refine ⟨(by repeat' ((conv => whnf);first|exact trivial|(refine And.intro ?_ ?_)|rfl)), ?_⟩
              focus
                refine zd1 [3, 8, 9] (zx rfl ?_ (zx rfl ?_ (zx rfl ?_ zy)))
                focus
                  conv => whnf
                  refine short_call p.1 p.2 rfl hp (fun _ h => h) ?_
                  ((conv => whnf);(refine And.intro ?_ (And.intro ?_ (And.intro ?_ (And.intro ?_ ?_))));(all_goals ((repeat' (first|((conv => whnf);done)|((try conv => whnf);first|exact trivial|(refine And.intro ?_ ?_)|rfl)));(all_goals (try conv => whnf))));rotate_right)
                  intro ls2 hls2 G2
                  conv => whnf
                  refine ⟨(by repeat' ((conv => whnf);first|exact trivial|(refine And.intro ?_ ?_)|rfl)), ?_⟩
                  focus
                    refine zd1 [7, 8, 9] (zx rfl ?_ (zx rfl ?_ (zx rfl ?_ zy)))
                    focus
                      conv => whnf
                      refine short_call p0.1 p0.2 rfl hp0 (fun _ h => h) ?_
                      ((conv => whnf);(refine And.intro ?_ (And.intro ?_ (And.intro ?_ (And.intro ?_ ?_))));(all_goals ((repeat' (first|((conv => whnf);done)|((try conv => whnf);first|exact trivial|(refine And.intro ?_ ?_)|rfl)));(all_goals (try conv => whnf))));rotate_right)
                      intro ls3 hls3 G3
                      conv => whnf
                      refine ⟨(by repeat' ((conv => whnf);first|exact trivial|(refine And.intro ?_ ?_)|rfl)), ?_⟩
                      focus
                        refine zd1 [8, 9] (zx rfl ?_ (zx rfl ?_ zy))
                        focus
                          conv => whnf
                          refine ⟨(by repeat' ((conv => whnf);first|exact trivial|(refine And.intro ?_ ?_)|rfl)), ?_⟩
                          refine zd1 [9] (zx rfl ?_ zy)
                          conv => whnf
                          refine ⟨(by repeat' ((conv => whnf);first|exact trivial|(refine And.intro ?_ ?_)|rfl)), ?_⟩
                          refine zd1 [11] (zx rfl ?_ zy)
                          conv => whnf
                          refine ⟨(by repeat' ((conv => whnf);first|exact trivial|(refine And.intro ?_ ?_)|rfl)), ?_⟩
                          refine zd1 [12] (zx rfl ?_ zy)
                          conv => whnf
                          refine ⟨(by repeat' ((conv => whnf);first|exact trivial|(refine And.intro ?_ ?_)|rfl)), ?_⟩
                          refine zd1 [13] (zx rfl ?_ zy)
                          conv => whnf
                          refine ⟨(by repeat' ((conv => whnf);first|exact trivial|(refine And.intro ?_ ?_)|rfl)), ?_⟩
                          refine zw ?_
                          refine ⟨(ls1, ls2, ls3, G1, G2, G3), ⟨hls1, hls2, hls3⟩, ?_⟩
                          ((repeat' (first|((conv => whnf);done)|((try conv => whnf);first|exact trivial|(refine And.intro ?_ ?_)|rfl)));(all_goals (try conv => whnf)))
                        rotate_right
                        focus
                          conv => whnf
                          refine ⟨(by repeat' ((conv => whnf);first|exact trivial|(refine And.intro ?_ ?_)|rfl)), ?_⟩
                          refine zd1 [8] (zx rfl ?_ zy)
                          conv => whnf
                          refine ⟨(by repeat' ((conv => whnf);first|exact trivial|(refine And.intro ?_ ?_)|rfl)), ?_⟩
                          refine zd1 [11] (zx rfl ?_ zy)
                          conv => whnf
                          refine ⟨(by repeat' ((conv => whnf);first|exact trivial|(refine And.intro ?_ ?_)|rfl)), ?_⟩
                          refine zd1 [12] (zx rfl ?_ zy)
                          conv => whnf
                          refine ⟨(by repeat' ((conv => whnf);first|exact trivial|(refine And.intro ?_ ?_)|rfl)), ?_⟩
                          refine zd1 [13] (zx rfl ?_ zy)
                          conv => whnf
                          refine ⟨(by repeat' ((conv => whnf);first|exact trivial|(refine And.intro ?_ ?_)|rfl)), ?_⟩
                          refine zw ?_
                          refine ⟨(ls1, ls2, ls3, G1, G2, G3), ⟨hls1, hls2, hls3⟩, ?_⟩
                          ((repeat' (first|((conv => whnf);done)|((try conv => whnf);first|exact trivial|(refine And.intro ?_ ?_)|rfl)));(all_goals (try conv => whnf)))
                    rotate_right
                    focus
                      conv => whnf
                      refine ⟨(by repeat' ((conv => whnf);first|exact trivial|(refine And.intro ?_ ?_)|rfl)), ?_⟩
                      focus
                        refine zd1 [7, 8] (zx rfl ?_ (zx rfl ?_ zy))
                        focus
                          conv => whnf
                          refine short_call p0.1 p0.2 rfl hp0 (fun _ h => h) ?_
                          ((conv => whnf);(refine And.intro ?_ (And.intro ?_ (And.intro ?_ (And.intro ?_ ?_))));(all_goals ((repeat' (first|((conv => whnf);done)|((try conv => whnf);first|exact trivial|(refine And.intro ?_ ?_)|rfl)));(all_goals (try conv => whnf))));rotate_right)
                          intro ls3 hls3 G3
                          conv => whnf
                          refine ⟨(by repeat' ((conv => whnf);first|exact trivial|(refine And.intro ?_ ?_)|rfl)), ?_⟩
                          refine zd1 [8] (zx rfl ?_ zy)
                          conv => whnf
                          refine ⟨(by repeat' ((conv => whnf);first|exact trivial|(refine And.intro ?_ ?_)|rfl)), ?_⟩
                          refine zd1 [11] (zx rfl ?_ zy)
                          conv => whnf
                          refine ⟨(by repeat' ((conv => whnf);first|exact trivial|(refine And.intro ?_ ?_)|rfl)), ?_⟩
                          refine zd1 [12] (zx rfl ?_ zy)
                          conv => whnf
                          refine ⟨(by repeat' ((conv => whnf);first|exact trivial|(refine And.intro ?_ ?_)|rfl)), ?_⟩
                          refine zd1 [13] (zx rfl ?_ zy)
                          conv => whnf
                          refine ⟨(by repeat' ((conv => whnf);first|exact trivial|(refine And.intro ?_ ?_)|rfl)), ?_⟩
                          refine zw ?_
                          refine ⟨(ls1, ls2, ls3, G1, G2, G3), ⟨hls1, hls2, hls3⟩, ?_⟩
                          ((repeat' (first|((conv => whnf);done)|((try conv => whnf);first|exact trivial|(refine And.intro ?_ ?_)|rfl)));(all_goals (try conv => whnf)))
                        rotate_right
                        focus
                          conv => whnf
                          refine ⟨(by repeat' ((conv => whnf);first|exact trivial|(refine And.intro ?_ ?_)|rfl)), ?_⟩
                          refine zd1 [7] (zx rfl ?_ zy)
                          conv => whnf
                          refine short_call p0.1 p0.2 rfl hp0 (fun _ h => h) ?_
                          ((conv => whnf);(refine And.intro ?_ (And.intro ?_ (And.intro ?_ (And.intro ?_ ?_))));(all_goals ((repeat' (first|((conv => whnf);done)|((try conv => whnf);first|exact trivial|(refine And.intro ?_ ?_)|rfl)));(all_goals (try conv => whnf))));rotate_right)
                          intro ls3 hls3 G3
                          conv => whnf
                          refine ⟨(by repeat' ((conv => whnf);first|exact trivial|(refine And.intro ?_ ?_)|rfl)), ?_⟩
                          refine zd1 [11] (zx rfl ?_ zy)
                          conv => whnf
                          refine ⟨(by repeat' ((conv => whnf);first|exact trivial|(refine And.intro ?_ ?_)|rfl)), ?_⟩
                          refine zd1 [12] (zx rfl ?_ zy)
                          conv => whnf
                          refine ⟨(by repeat' ((conv => whnf);first|exact trivial|(refine And.intro ?_ ?_)|rfl)), ?_⟩
                          refine zd1 [13] (zx rfl ?_ zy)
                          conv => whnf
                          refine ⟨(by repeat' ((conv => whnf);first|exact trivial|(refine And.intro ?_ ?_)|rfl)), ?_⟩
                          refine zw ?_
                          refine ⟨(ls1, ls2, ls3, G1, G2, G3), ⟨hls1, hls2, hls3⟩, ?_⟩
                          ((repeat' (first|((conv => whnf);done)|((try conv => whnf);first|exact trivial|(refine And.intro ?_ ?_)|rfl)));(all_goals (try conv => whnf)))
                    rotate_right
                    focus
                      conv => whnf
                      refine ⟨(by repeat' ((conv => whnf);first|exact trivial|(refine And.intro ?_ ?_)|rfl)), ?_⟩
                      focus
                        refine zd1 [7, 9] (zx rfl ?_ (zx rfl ?_ zy))
                        focus
                          conv => whnf
                          refine short_call p0.1 p0.2 rfl hp0 (fun _ h => h) ?_
                          ((conv => whnf);(refine And.intro ?_ (And.intro ?_ (And.intro ?_ (And.intro ?_ ?_))));(all_goals ((repeat' (first|((conv => whnf);done)|((try conv => whnf);first|exact trivial|(refine And.intro ?_ ?_)|rfl)));(all_goals (try conv => whnf))));rotate_right)
                          intro ls3 hls3 G3
                          conv => whnf
                          refine ⟨(by repeat' ((conv => whnf);first|exact trivial|(refine And.intro ?_ ?_)|rfl)), ?_⟩
                          refine zd1 [9] (zx rfl ?_ zy)
                          conv => whnf
                          refine ⟨(by repeat' ((conv => whnf);first|exact trivial|(refine And.intro ?_ ?_)|rfl)), ?_⟩
                          refine zd1 [11] (zx rfl ?_ zy)
                          conv => whnf
                          refine ⟨(by repeat' ((conv => whnf);first|exact trivial|(refine And.intro ?_ ?_)|rfl)), ?_⟩
                          refine zd1 [12] (zx rfl ?_ zy)
                          conv => whnf
                          refine ⟨(by repeat' ((conv => whnf);first|exact trivial|(refine And.intro ?_ ?_)|rfl)), ?_⟩
                          refine zd1 [13] (zx rfl ?_ zy)
                          conv => whnf
                          refine ⟨(by repeat' ((conv => whnf);first|exact trivial|(refine And.intro ?_ ?_)|rfl)), ?_⟩
                          refine zw ?_
                          refine ⟨(ls1, ls2, ls3, G1, G2, G3), ⟨hls1, hls2, hls3⟩, ?_⟩
                          ((repeat' (first|((conv => whnf);done)|((try conv => whnf);first|exact trivial|(refine And.intro ?_ ?_)|rfl)));(all_goals (try conv => whnf)))
                        rotate_right
                        focus
                          conv => whnf
                          refine ⟨(by repeat' ((conv => whnf);first|exact trivial|(refine And.intro ?_ ?_)|rfl)), ?_⟩
                          refine zd1 [7] (zx rfl ?_ zy)
                          conv => whnf
                          refine short_call p0.1 p0.2 rfl hp0 (fun _ h => h) ?_
                          ((conv => whnf);(refine And.intro ?_ (And.intro ?_ (And.intro ?_ (And.intro ?_ ?_))));(all_goals ((repeat' (first|((conv => whnf);done)|((try conv => whnf);first|exact trivial|(refine And.intro ?_ ?_)|rfl)));(all_goals (try conv => whnf))));rotate_right)
                          intro ls3 hls3 G3
                          conv => whnf
                          refine ⟨(by repeat' ((conv => whnf);first|exact trivial|(refine And.intro ?_ ?_)|rfl)), ?_⟩
                          refine zd1 [11] (zx rfl ?_ zy)
                          conv => whnf
                          refine ⟨(by repeat' ((conv => whnf);first|exact trivial|(refine And.intro ?_ ?_)|rfl)), ?_⟩
                          refine zd1 [12] (zx rfl ?_ zy)
                          conv => whnf
                          refine ⟨(by repeat' ((conv => whnf);first|exact trivial|(refine And.intro ?_ ?_)|rfl)), ?_⟩
                          refine zd1 [13] (zx rfl ?_ zy)
                          conv => whnf
                          refine ⟨(by repeat' ((conv => whnf);first|exact trivial|(refine And.intro ?_ ?_)|rfl)), ?_⟩
                          refine zw ?_
                          refine ⟨(ls1, ls2, ls3, G1, G2, G3), ⟨hls1, hls2, hls3⟩, ?_⟩
                          ((repeat' (first|((conv => whnf);done)|((try conv => whnf);first|exact trivial|(refine And.intro ?_ ?_)|rfl)));(all_goals (try conv => whnf)))
                rotate_right
                focus
                  conv => whnf
                  refine ⟨(by repeat' ((conv => whnf);first|exact trivial|(refine And.intro ?_ ?_)|rfl)), ?_⟩
                  focus
                    refine zd1 [3, 8] (zx rfl ?_ (zx rfl ?_ zy))
                    focus
                      conv => whnf
                      refine short_call p.1 p.2 rfl hp (fun _ h => h) ?_
                      ((conv => whnf);(refine And.intro ?_ (And.intro ?_ (And.intro ?_ (And.intro ?_ ?_))));(all_goals ((repeat' (first|((conv => whnf);done)|((try conv => whnf);first|exact trivial|(refine And.intro ?_ ?_)|rfl)));(all_goals (try conv => whnf))));rotate_right)
                      intro ls2 hls2 G2
                      conv => whnf
                      refine ⟨(by repeat' ((conv => whnf);first|exact trivial|(refine And.intro ?_ ?_)|rfl)), ?_⟩
                      focus
                        refine zd1 [7, 8] (zx rfl ?_ (zx rfl ?_ zy))
                        focus
                          conv => whnf
                          refine short_call p0.1 p0.2 rfl hp0 (fun _ h => h) ?_
                          ((conv => whnf);(refine And.intro ?_ (And.intro ?_ (And.intro ?_ (And.intro ?_ ?_))));(all_goals ((repeat' (first|((conv => whnf);done)|((try conv => whnf);first|exact trivial|(refine And.intro ?_ ?_)|rfl)));(all_goals (try conv => whnf))));rotate_right)
                          intro ls3 hls3 G3
                          conv => whnf
                          refine ⟨(by repeat' ((conv => whnf);first|exact trivial|(refine And.intro ?_ ?_)|rfl)), ?_⟩
                          refine zd1 [8] (zx rfl ?_ zy)
                          conv => whnf
                          refine ⟨(by repeat' ((conv => whnf);first|exact trivial|(refine And.intro ?_ ?_)|rfl)), ?_⟩
                          refine zd1 [11] (zx rfl ?_ zy)
                          conv => whnf
                          refine ⟨(by repeat' ((conv => whnf);first|exact trivial|(refine And.intro ?_ ?_)|rfl)), ?_⟩
                          refine zd1 [12] (zx rfl ?_ zy)
                          conv => whnf
                          refine ⟨(by repeat' ((conv => whnf);first|exact trivial|(refine And.intro ?_ ?_)|rfl)), ?_⟩
                          refine zd1 [13] (zx rfl ?_ zy)
                          conv => whnf
                          refine ⟨(by repeat' ((conv => whnf);first|exact trivial|(refine And.intro ?_ ?_)|rfl)), ?_⟩
                          refine zw ?_
                          refine ⟨(ls1, ls2, ls3, G1, G2, G3), ⟨hls1, hls2, hls3⟩, ?_⟩
                          ((repeat' (first|((conv => whnf);done)|((try conv => whnf);first|exact trivial|(refine And.intro ?_ ?_)|rfl)));(all_goals (try conv => whnf)))
                        rotate_right
                        focus
                          conv => whnf
                          refine ⟨(by repeat' ((conv => whnf);first|exact trivial|(refine And.intro ?_ ?_)|rfl)), ?_⟩
                          refine zd1 [7] (zx rfl ?_ zy)
                          conv => whnf
                          refine short_call p0.1 p0.2 rfl hp0 (fun _ h => h) ?_
                          ((conv => whnf);(refine And.intro ?_ (And.intro ?_ (And.intro ?_ (And.intro ?_ ?_))));(all_goals ((repeat' (first|((conv => whnf);done)|((try conv => whnf);first|exact trivial|(refine And.intro ?_ ?_)|rfl)));(all_goals (try conv => whnf))));rotate_right)
                          intro ls3 hls3 G3
                          conv => whnf
                          refine ⟨(by repeat' ((conv => whnf);first|exact trivial|(refine And.intro ?_ ?_)|rfl)), ?_⟩
                          refine zd1 [11] (zx rfl ?_ zy)
                          conv => whnf
                          refine ⟨(by repeat' ((conv => whnf);first|exact trivial|(refine And.intro ?_ ?_)|rfl)), ?_⟩
                          refine zd1 [12] (zx rfl ?_ zy)
                          conv => whnf
                          refine ⟨(by repeat' ((conv => whnf);first|exact trivial|(refine And.intro ?_ ?_)|rfl)), ?_⟩
                          refine zd1 [13] (zx rfl ?_ zy)
                          conv => whnf
                          refine ⟨(by repeat' ((conv => whnf);first|exact trivial|(refine And.intro ?_ ?_)|rfl)), ?_⟩
                          refine zw ?_
                          refine ⟨(ls1, ls2, ls3, G1, G2, G3), ⟨hls1, hls2, hls3⟩, ?_⟩
                          ((repeat' (first|((conv => whnf);done)|((try conv => whnf);first|exact trivial|(refine And.intro ?_ ?_)|rfl)));(all_goals (try conv => whnf)))
                    rotate_right
                    focus
                      conv => whnf
                      refine ⟨(by repeat' ((conv => whnf);first|exact trivial|(refine And.intro ?_ ?_)|rfl)), ?_⟩
                      refine zd1 [3] (zx rfl ?_ zy)
                      conv => whnf
                      refine short_call p.1 p.2 rfl hp (fun _ h => h) ?_
                      ((conv => whnf);(refine And.intro ?_ (And.intro ?_ (And.intro ?_ (And.intro ?_ ?_))));(all_goals ((repeat' (first|((conv => whnf);done)|((try conv => whnf);first|exact trivial|(refine And.intro ?_ ?_)|rfl)));(all_goals (try conv => whnf))));rotate_right)
                      intro ls2 hls2 G2
                      conv => whnf
                      refine ⟨(by repeat' ((conv => whnf);first|exact trivial|(refine And.intro ?_ ?_)|rfl)), ?_⟩
                      refine zd1 [7] (zx rfl ?_ zy)
                      conv => whnf
                      refine short_call p0.1 p0.2 rfl hp0 (fun _ h => h) ?_
                      ((conv => whnf);(refine And.intro ?_ (And.intro ?_ (And.intro ?_ (And.intro ?_ ?_))));(all_goals ((repeat' (first|((conv => whnf);done)|((try conv => whnf);first|exact trivial|(refine And.intro ?_ ?_)|rfl)));(all_goals (try conv => whnf))));rotate_right)
                      intro ls3 hls3 G3
                      conv => whnf
                      refine ⟨(by repeat' ((conv => whnf);first|exact trivial|(refine And.intro ?_ ?_)|rfl)), ?_⟩
                      refine zd1 [11] (zx rfl ?_ zy)
                      conv => whnf
                      refine ⟨(by repeat' ((conv => whnf);first|exact trivial|(refine And.intro ?_ ?_)|rfl)), ?_⟩
                      refine zd1 [12] (zx rfl ?_ zy)
                      conv => whnf
                      refine ⟨(by repeat' ((conv => whnf);first|exact trivial|(refine And.intro ?_ ?_)|rfl)), ?_⟩
                      refine zd1 [13] (zx rfl ?_ zy)
                      conv => whnf
                      refine ⟨(by repeat' ((conv => whnf);first|exact trivial|(refine And.intro ?_ ?_)|rfl)), ?_⟩
                      refine zw ?_
                      refine ⟨(ls1, ls2, ls3, G1, G2, G3), ⟨hls1, hls2, hls3⟩, ?_⟩
                      ((repeat' (first|((conv => whnf);done)|((try conv => whnf);first|exact trivial|(refine And.intro ?_ ?_)|rfl)));(all_goals (try conv => whnf)))
                rotate_right
                focus
                  conv => whnf
                  refine ⟨(by repeat' ((conv => whnf);first|exact trivial|(refine And.intro ?_ ?_)|rfl)), ?_⟩
                  focus
                    refine zd1 [3, 9] (zx rfl ?_ (zx rfl ?_ zy))
                    focus
                      conv => whnf
                      refine short_call p.1 p.2 rfl hp (fun _ h => h) ?_
                      ((conv => whnf);(refine And.intro ?_ (And.intro ?_ (And.intro ?_ (And.intro ?_ ?_))));(all_goals ((repeat' (first|((conv => whnf);done)|((try conv => whnf);first|exact trivial|(refine And.intro ?_ ?_)|rfl)));(all_goals (try conv => whnf))));rotate_right)
                      intro ls2 hls2 G2
                      conv => whnf
                      refine ⟨(by repeat' ((conv => whnf);first|exact trivial|(refine And.intro ?_ ?_)|rfl)), ?_⟩
                      focus
                        refine zd1 [7, 9] (zx rfl ?_ (zx rfl ?_ zy))
                        focus
                          conv => whnf
                          refine short_call p0.1 p0.2 rfl hp0 (fun _ h => h) ?_
                          ((conv => whnf);(refine And.intro ?_ (And.intro ?_ (And.intro ?_ (And.intro ?_ ?_))));(all_goals ((repeat' (first|((conv => whnf);done)|((try conv => whnf);first|exact trivial|(refine And.intro ?_ ?_)|rfl)));(all_goals (try conv => whnf))));rotate_right)
                          intro ls3 hls3 G3
                          conv => whnf
                          refine ⟨(by repeat' ((conv => whnf);first|exact trivial|(refine And.intro ?_ ?_)|rfl)), ?_⟩
                          refine zd1 [9] (zx rfl ?_ zy)
                          conv => whnf
                          refine ⟨(by repeat' ((conv => whnf);first|exact trivial|(refine And.intro ?_ ?_)|rfl)), ?_⟩
                          refine zd1 [11] (zx rfl ?_ zy)
                          conv => whnf
                          refine ⟨(by repeat' ((conv => whnf);first|exact trivial|(refine And.intro ?_ ?_)|rfl)), ?_⟩
                          refine zd1 [12] (zx rfl ?_ zy)
                          conv => whnf
                          refine ⟨(by repeat' ((conv => whnf);first|exact trivial|(refine And.intro ?_ ?_)|rfl)), ?_⟩
                          refine zd1 [13] (zx rfl ?_ zy)
                          conv => whnf
                          refine ⟨(by repeat' ((conv => whnf);first|exact trivial|(refine And.intro ?_ ?_)|rfl)), ?_⟩
                          refine zw ?_
                          refine ⟨(ls1, ls2, ls3, G1, G2, G3), ⟨hls1, hls2, hls3⟩, ?_⟩
                          ((repeat' (first|((conv => whnf);done)|((try conv => whnf);first|exact trivial|(refine And.intro ?_ ?_)|rfl)));(all_goals (try conv => whnf)))
                        rotate_right
                        focus
                          conv => whnf
                          refine ⟨(by repeat' ((conv => whnf);first|exact trivial|(refine And.intro ?_ ?_)|rfl)), ?_⟩
                          refine zd1 [7] (zx rfl ?_ zy)
                          conv => whnf
                          refine short_call p0.1 p0.2 rfl hp0 (fun _ h => h) ?_
                          ((conv => whnf);(refine And.intro ?_ (And.intro ?_ (And.intro ?_ (And.intro ?_ ?_))));(all_goals ((repeat' (first|((conv => whnf);done)|((try conv => whnf);first|exact trivial|(refine And.intro ?_ ?_)|rfl)));(all_goals (try conv => whnf))));rotate_right)
                          intro ls3 hls3 G3
                          conv => whnf
                          refine ⟨(by repeat' ((conv => whnf);first|exact trivial|(refine And.intro ?_ ?_)|rfl)), ?_⟩
                          refine zd1 [11] (zx rfl ?_ zy)
                          conv => whnf
                          refine ⟨(by repeat' ((conv => whnf);first|exact trivial|(refine And.intro ?_ ?_)|rfl)), ?_⟩
                          refine zd1 [12] (zx rfl ?_ zy)
                          conv => whnf
                          refine ⟨(by repeat' ((conv => whnf);first|exact trivial|(refine And.intro ?_ ?_)|rfl)), ?_⟩
                          refine zd1 [13] (zx rfl ?_ zy)
                          conv => whnf
                          refine ⟨(by repeat' ((conv => whnf);first|exact trivial|(refine And.intro ?_ ?_)|rfl)), ?_⟩
                          refine zw ?_
                          refine ⟨(ls1, ls2, ls3, G1, G2, G3), ⟨hls1, hls2, hls3⟩, ?_⟩
                          ((repeat' (first|((conv => whnf);done)|((try conv => whnf);first|exact trivial|(refine And.intro ?_ ?_)|rfl)));(all_goals (try conv => whnf)))
                    rotate_right
                    focus
                      conv => whnf
                      refine ⟨(by repeat' ((conv => whnf);first|exact trivial|(refine And.intro ?_ ?_)|rfl)), ?_⟩
                      refine zd1 [3] (zx rfl ?_ zy)
                      conv => whnf
                      refine short_call p.1 p.2 rfl hp (fun _ h => h) ?_
                      ((conv => whnf);(refine And.intro ?_ (And.intro ?_ (And.intro ?_ (And.intro ?_ ?_))));(all_goals ((repeat' (first|((conv => whnf);done)|((try conv => whnf);first|exact trivial|(refine And.intro ?_ ?_)|rfl)));(all_goals (try conv => whnf))));rotate_right)
                      intro ls2 hls2 G2
                      conv => whnf
                      refine ⟨(by repeat' ((conv => whnf);first|exact trivial|(refine And.intro ?_ ?_)|rfl)), ?_⟩
                      refine zd1 [7] (zx rfl ?_ zy)
                      conv => whnf
                      refine short_call p0.1 p0.2 rfl hp0 (fun _ h => h) ?_
                      ((conv => whnf);(refine And.intro ?_ (And.intro ?_ (And.intro ?_ (And.intro ?_ ?_))));(all_goals ((repeat' (first|((conv => whnf);done)|((try conv => whnf);first|exact trivial|(refine And.intro ?_ ?_)|rfl)));(all_goals (try conv => whnf))));rotate_right)
                      intro ls3 hls3 G3
                      conv => whnf
                      refine ⟨(by repeat' ((conv => whnf);first|exact trivial|(refine And.intro ?_ ?_)|rfl)), ?_⟩
                      refine zd1 [11] (zx rfl ?_ zy)
                      conv => whnf
                      refine ⟨(by repeat' ((conv => whnf);first|exact trivial|(refine And.intro ?_ ?_)|rfl)), ?_⟩
                      refine zd1 [12] (zx rfl ?_ zy)
                      conv => whnf
                      refine ⟨(by repeat' ((conv => whnf);first|exact trivial|(refine And.intro ?_ ?_)|rfl)), ?_⟩
                      refine zd1 [13] (zx rfl ?_ zy)
                      conv => whnf
                      refine ⟨(by repeat' ((conv => whnf);first|exact trivial|(refine And.intro ?_ ?_)|rfl)), ?_⟩
                      refine zw ?_
                      refine ⟨(ls1, ls2, ls3, G1, G2, G3), ⟨hls1, hls2, hls3⟩, ?_⟩
                      ((repeat' (first|((conv => whnf);done)|((try conv => whnf);first|exact trivial|(refine And.intro ?_ ?_)|rfl)));(all_goals (try conv => whnf)))
            rotate_right
            focus
              conv => whnf
              refine ⟨(by repeat' ((conv => whnf);first|exact trivial|(refine And.intro ?_ ?_)|rfl)), ?_⟩
              focus
                refine zd1 [1, 8] (zx rfl ?_ (zx rfl ?_ zy))
                focus
                  conv => whnf
                  refine short_call p.1 p.2 rfl hp (fun _ h => h) ?_
                  ((conv => whnf);(refine And.intro ?_ (And.intro ?_ (And.intro ?_ (And.intro ?_ ?_))));(all_goals ((repeat' (first|((conv => whnf);done)|((try conv => whnf);first|exact trivial|(refine And.intro ?_ ?_)|rfl)));(all_goals (try conv => whnf))));rotate_right)
                  intro ls1 hls1 G1
                  conv => whnf
                  refine ⟨(by repeat' ((conv => whnf);first|exact trivial|(refine And.intro ?_ ?_)|rfl)), ?_⟩
                  focus
                    refine zd1 [3, 8] (zx rfl ?_ (zx rfl ?_ zy))
                    focus
                      conv => whnf
                      refine short_call p.1 p.2 rfl hp (fun _ h => h) ?_
                      ((conv => whnf);(refine And.intro ?_ (And.intro ?_ (And.intro ?_ (And.intro ?_ ?_))));(all_goals ((repeat' (first|((conv => whnf);done)|((try conv => whnf);first|exact trivial|(refine And.intro ?_ ?_)|rfl)));(all_goals (try conv => whnf))));rotate_right)
                      intro ls2 hls2 G2
                      conv => whnf
                      refine ⟨(by repeat' ((conv => whnf);first|exact trivial|(refine And.intro ?_ ?_)|rfl)), ?_⟩
                      focus
                        refine zd1 [7, 8] (zx rfl ?_ (zx rfl ?_ zy))
                        focus
                          conv => whnf
                          refine short_call p0.1 p0.2 rfl hp0 (fun _ h => h) ?_
                          ((conv => whnf);(refine And.intro ?_ (And.intro ?_ (And.intro ?_ (And.intro ?_ ?_))));(all_goals ((repeat' (first|((conv => whnf);done)|((try conv => whnf);first|exact trivial|(refine And.intro ?_ ?_)|rfl)));(all_goals (try conv => whnf))));rotate_right)
                          intro ls3 hls3 G3
                          conv => whnf
                          refine ⟨(by repeat' ((conv => whnf);first|exact trivial|(refine And.intro ?_ ?_)|rfl)), ?_⟩
                          refine zd1 [8] (zx rfl ?_ zy)
                          conv => whnf
                          refine ⟨(by repeat' ((conv => whnf);first|exact trivial|(refine And.intro ?_ ?_)|rfl)), ?_⟩
                          refine zd1 [11] (zx rfl ?_ zy)
                          conv => whnf
                          refine ⟨(by repeat' ((conv => whnf);first|exact trivial|(refine And.intro ?_ ?_)|rfl)), ?_⟩
                          refine zd1 [12] (zx rfl ?_ zy)
                          conv => whnf
                          refine ⟨(by repeat' ((conv => whnf);first|exact trivial|(refine And.intro ?_ ?_)|rfl)), ?_⟩
                          refine zd1 [13] (zx rfl ?_ zy)
                          conv => whnf
                          refine ⟨(by repeat' ((conv => whnf);first|exact trivial|(refine And.intro ?_ ?_)|rfl)), ?_⟩
                          refine zw ?_
                          refine ⟨(ls1, ls2, ls3, G1, G2, G3), ⟨hls1, hls2, hls3⟩, ?_⟩
                          ((repeat' (first|((conv => whnf);done)|((try conv => whnf);first|exact trivial|(refine And.intro ?_ ?_)|rfl)));(all_goals (try conv => whnf)))
                        rotate_right
                        focus
                          conv => whnf
                          refine ⟨(by repeat' ((conv => whnf);first|exact trivial|(refine And.intro ?_ ?_)|rfl)), ?_⟩
                          refine zd1 [7] (zx rfl ?_ zy)
                          conv => whnf
                          refine short_call p0.1 p0.2 rfl hp0 (fun _ h => h) ?_
                          ((conv => whnf);(refine And.intro ?_ (And.intro ?_ (And.intro ?_ (And.intro ?_ ?_))));(all_goals ((repeat' (first|((conv => whnf);done)|((try conv => whnf);first|exact trivial|(refine And.intro ?_ ?_)|rfl)));(all_goals (try conv => whnf))));rotate_right)
                          intro ls3 hls3 G3
                          conv => whnf
                          refine ⟨(by repeat' ((conv => whnf);first|exact trivial|(refine And.intro ?_ ?_)|rfl)), ?_⟩
                          refine zd1 [11] (zx rfl ?_ zy)
                          conv => whnf
                          refine ⟨(by repeat' ((conv => whnf);first|exact trivial|(refine And.intro ?_ ?_)|rfl)), ?_⟩
                          refine zd1 [12] (zx rfl ?_ zy)
                          conv => whnf
                          refine ⟨(by repeat' ((conv => whnf);first|exact trivial|(refine And.intro ?_ ?_)|rfl)), ?_⟩
                          refine zd1 [13] (zx rfl ?_ zy)
                          conv => whnf
                          refine ⟨(by repeat' ((conv => whnf);first|exact trivial|(refine And.intro ?_ ?_)|rfl)), ?_⟩
                          refine zw ?_
                          refine ⟨(ls1, ls2, ls3, G1, G2, G3), ⟨hls1, hls2, hls3⟩, ?_⟩
                          ((repeat' (first|((conv => whnf);done)|((try conv => whnf);first|exact trivial|(refine And.intro ?_ ?_)|rfl)));(all_goals (try conv => whnf)))
                    rotate_right
                    focus
                      conv => whnf
                      refine ⟨(by repeat' ((conv => whnf);first|exact trivial|(refine And.intro ?_ ?_)|rfl)), ?_⟩
                      refine zd1 [3] (zx rfl ?_ zy)
                      conv => whnf
                      refine short_call p.1 p.2 rfl hp (fun _ h => h) ?_
                      ((conv => whnf);(refine And.intro ?_ (And.intro ?_ (And.intro ?_ (And.intro ?_ ?_))));(all_goals ((repeat' (first|((conv => whnf);done)|((try conv => whnf);first|exact trivial|(refine And.intro ?_ ?_)|rfl)));(all_goals (try conv => whnf))));rotate_right)
                      intro ls2 hls2 G2
                      conv => whnf
                      refine ⟨(by repeat' ((conv => whnf);first|exact trivial|(refine And.intro ?_ ?_)|rfl)), ?_⟩
                      refine zd1 [7] (zx rfl ?_ zy)
                      conv => whnf
                      refine short_call p0.1 p0.2 rfl hp0 (fun _ h => h) ?_
                      ((conv => whnf);(refine And.intro ?_ (And.intro ?_ (And.intro ?_ (And.intro ?_ ?_))));(all_goals ((repeat' (first|((conv => whnf);done)|((try conv => whnf);first|exact trivial|(refine And.intro ?_ ?_)|rfl)));(all_goals (try conv => whnf))));rotate_right)
                      intro ls3 hls3 G3
                      conv => whnf
                      refine ⟨(by repeat' ((conv => whnf);first|exact trivial|(refine And.intro ?_ ?_)|rfl)), ?_⟩
                      refine zd1 [11] (zx rfl ?_ zy)
                      conv => whnf
                      refine ⟨(by repeat' ((conv => whnf);first|exact trivial|(refine And.intro ?_ ?_)|rfl)), ?_⟩
                      refine zd1 [12] (zx rfl ?_ zy)
                      conv => whnf
                      refine ⟨(by repeat' ((conv => whnf);first|exact trivial|(refine And.intro ?_ ?_)|rfl)), ?_⟩
                      refine zd1 [13] (zx rfl ?_ zy)
                      conv => whnf
                      refine ⟨(by repeat' ((conv => whnf);first|exact trivial|(refine And.intro ?_ ?_)|rfl)), ?_⟩
                      refine zw ?_
                      refine ⟨(ls1, ls2, ls3, G1, G2, G3), ⟨hls1, hls2, hls3⟩, ?_⟩
                      ((repeat' (first|((conv => whnf);done)|((try conv => whnf);first|exact trivial|(refine And.intro ?_ ?_)|rfl)));(all_goals (try conv => whnf)))
                rotate_right
                focus
                  conv => whnf
                  refine ⟨(by repeat' ((conv => whnf);first|exact trivial|(refine And.intro ?_ ?_)|rfl)), ?_⟩
                  refine zd1 [1] (zx rfl ?_ zy)
                  conv => whnf
                  refine short_call p.1 p.2 rfl hp (fun _ h => h) ?_
                  ((conv => whnf);(refine And.intro ?_ (And.intro ?_ (And.intro ?_ (And.intro ?_ ?_))));(all_goals ((repeat' (first|((conv => whnf);done)|((try conv => whnf);first|exact trivial|(refine And.intro ?_ ?_)|rfl)));(all_goals (try conv => whnf))));rotate_right)
                  intro ls1 hls1 G1
                  conv => whnf
                  refine ⟨(by repeat' ((conv => whnf);first|exact trivial|(refine And.intro ?_ ?_)|rfl)), ?_⟩
                  refine zd1 [3] (zx rfl ?_ zy)
                  conv => whnf
                  refine short_call p.1 p.2 rfl hp (fun _ h => h) ?_
                  ((conv => whnf);(refine And.intro ?_ (And.intro ?_ (And.intro ?_ (And.intro ?_ ?_))));(all_goals ((repeat' (first|((conv => whnf);done)|((try conv => whnf);first|exact trivial|(refine And.intro ?_ ?_)|rfl)));(all_goals (try conv => whnf))));rotate_right)
                  intro ls2 hls2 G2
                  conv => whnf
                  refine ⟨(by repeat' ((conv => whnf);first|exact trivial|(refine And.intro ?_ ?_)|rfl)), ?_⟩
                  refine zd1 [7] (zx rfl ?_ zy)
                  conv => whnf
                  refine short_call p0.1 p0.2 rfl hp0 (fun _ h => h) ?_
                  ((conv => whnf);(refine And.intro ?_ (And.intro ?_ (And.intro ?_ (And.intro ?_ ?_))));(all_goals ((repeat' (first|((conv => whnf);done)|((try conv => whnf);first|exact trivial|(refine And.intro ?_ ?_)|rfl)));(all_goals (try conv => whnf))));rotate_right)
                  intro ls3 hls3 G3
                  conv => whnf
                  refine ⟨(by repeat' ((conv => whnf);first|exact trivial|(refine And.intro ?_ ?_)|rfl)), ?_⟩
                  refine zd1 [11] (zx rfl ?_ zy)
                  conv => whnf
                  refine ⟨(by repeat' ((conv => whnf);first|exact trivial|(refine And.intro ?_ ?_)|rfl)), ?_⟩
                  refine zd1 [12] (zx rfl ?_ zy)
                  conv => whnf
                  refine ⟨(by repeat' ((conv => whnf);first|exact trivial|(refine And.intro ?_ ?_)|rfl)), ?_⟩
                  refine zd1 [13] (zx rfl ?_ zy)
                  conv => whnf
                  refine ⟨(by repeat' ((conv => whnf);first|exact trivial|(refine And.intro ?_ ?_)|rfl)), ?_⟩
                  refine zw ?_
                  refine ⟨(ls1, ls2, ls3, G1, G2, G3), ⟨hls1, hls2, hls3⟩, ?_⟩
                  ((repeat' (first|((conv => whnf);done)|((try conv => whnf);first|exact trivial|(refine And.intro ?_ ?_)|rfl)));(all_goals (try conv => whnf)))
            rotate_right
            focus
              conv => whnf
              refine ⟨(by repeat' ((conv => whnf);first|exact trivial|(refine And.intro ?_ ?_)|rfl)), ?_⟩
              focus
                refine zd1 [1, 9] (zx rfl ?_ (zx rfl ?_ zy))
                focus
                  conv => whnf
                  refine short_call p.1 p.2 rfl hp (fun _ h => h) ?_
                  ((conv => whnf);(refine And.intro ?_ (And.intro ?_ (And.intro ?_ (And.intro ?_ ?_))));(all_goals ((repeat' (first|((conv => whnf);done)|((try conv => whnf);first|exact trivial|(refine And.intro ?_ ?_)|rfl)));(all_goals (try conv => whnf))));rotate_right)
                  intro ls1 hls1 G1
                  conv => whnf
                  refine ⟨(by repeat' ((conv => whnf);first|exact trivial|(refine And.intro ?_ ?_)|rfl)), ?_⟩
                  focus
                    refine zd1 [3, 9] (zx rfl ?_ (zx rfl ?_ zy))
                    focus
                      conv => whnf
                      refine short_call p.1 p.2 rfl hp (fun _ h => h) ?_
                      ((conv => whnf);(refine And.intro ?_ (And.intro ?_ (And.intro ?_ (And.intro ?_ ?_))));(all_goals ((repeat' (first|((conv => whnf);done)|((try conv => whnf);first|exact trivial|(refine And.intro ?_ ?_)|rfl)));(all_goals (try conv => whnf))));rotate_right)
                      intro ls2 hls2 G2
                      conv => whnf
                      refine ⟨(by repeat' ((conv => whnf);first|exact trivial|(refine And.intro ?_ ?_)|rfl)), ?_⟩
                      focus
                        refine zd1 [7, 9] (zx rfl ?_ (zx rfl ?_ zy))
                        focus
                          conv => whnf
                          refine short_call p0.1 p0.2 rfl hp0 (fun _ h => h) ?_
                          ((conv => whnf);(refine And.intro ?_ (And.intro ?_ (And.intro ?_ (And.intro ?_ ?_))));(all_goals ((repeat' (first|((conv => whnf);done)|((try conv => whnf);first|exact trivial|(refine And.intro ?_ ?_)|rfl)));(all_goals (try conv => whnf))));rotate_right)
                          intro ls3 hls3 G3
                          conv => whnf
                          refine ⟨(by repeat' ((conv => whnf);first|exact trivial|(refine And.intro ?_ ?_)|rfl)), ?_⟩
                          refine zd1 [9] (zx rfl ?_ zy)
                          conv => whnf
                          refine ⟨(by repeat' ((conv => whnf);first|exact trivial|(refine And.intro ?_ ?_)|rfl)), ?_⟩
                          refine zd1 [11] (zx rfl ?_ zy)
                          conv => whnf
                          refine ⟨(by repeat' ((conv => whnf);first|exact trivial|(refine And.intro ?_ ?_)|rfl)), ?_⟩
                          refine zd1 [12] (zx rfl ?_ zy)
                          conv => whnf
                          refine ⟨(by repeat' ((conv => whnf);first|exact trivial|(refine And.intro ?_ ?_)|rfl)), ?_⟩
                          refine zd1 [13] (zx rfl ?_ zy)
                          conv => whnf
                          refine ⟨(by repeat' ((conv => whnf);first|exact trivial|(refine And.intro ?_ ?_)|rfl)), ?_⟩
                          refine zw ?_
                          refine ⟨(ls1, ls2, ls3, G1, G2, G3), ⟨hls1, hls2, hls3⟩, ?_⟩
                          ((repeat' (first|((conv => whnf);done)|((try conv => whnf);first|exact trivial|(refine And.intro ?_ ?_)|rfl)));(all_goals (try conv => whnf)))
                        rotate_right
                        focus
                          conv => whnf
                          refine ⟨(by repeat' ((conv => whnf);first|exact trivial|(refine And.intro ?_ ?_)|rfl)), ?_⟩
                          refine zd1 [7] (zx rfl ?_ zy)
                          conv => whnf
                          refine short_call p0.1 p0.2 rfl hp0 (fun _ h => h) ?_
                          ((conv => whnf);(refine And.intro ?_ (And.intro ?_ (And.intro ?_ (And.intro ?_ ?_))));(all_goals ((repeat' (first|((conv => whnf);done)|((try conv => whnf);first|exact trivial|(refine And.intro ?_ ?_)|rfl)));(all_goals (try conv => whnf))));rotate_right)
                          intro ls3 hls3 G3
                          conv => whnf
                          refine ⟨(by repeat' ((conv => whnf);first|exact trivial|(refine And.intro ?_ ?_)|rfl)), ?_⟩
                          refine zd1 [11] (zx rfl ?_ zy)
                          conv => whnf
                          refine ⟨(by repeat' ((conv => whnf);first|exact trivial|(refine And.intro ?_ ?_)|rfl)), ?_⟩
                          refine zd1 [12] (zx rfl ?_ zy)
                          conv => whnf
                          refine ⟨(by repeat' ((conv => whnf);first|exact trivial|(refine And.intro ?_ ?_)|rfl)), ?_⟩
                          refine zd1 [13] (zx rfl ?_ zy)
                          conv => whnf
                          refine ⟨(by repeat' ((conv => whnf);first|exact trivial|(refine And.intro ?_ ?_)|rfl)), ?_⟩
                          refine zw ?_
                          refine ⟨(ls1, ls2, ls3, G1, G2, G3), ⟨hls1, hls2, hls3⟩, ?_⟩
                          ((repeat' (first|((conv => whnf);done)|((try conv => whnf);first|exact trivial|(refine And.intro ?_ ?_)|rfl)));(all_goals (try conv => whnf)))
                    rotate_right
                    focus
                      conv => whnf
                      refine ⟨(by repeat' ((conv => whnf);first|exact trivial|(refine And.intro ?_ ?_)|rfl)), ?_⟩
                      refine zd1 [3] (zx rfl ?_ zy)
                      conv => whnf
                      refine short_call p.1 p.2 rfl hp (fun _ h => h) ?_
                      ((conv => whnf);(refine And.intro ?_ (And.intro ?_ (And.intro ?_ (And.intro ?_ ?_))));(all_goals ((repeat' (first|((conv => whnf);done)|((try conv => whnf);first|exact trivial|(refine And.intro ?_ ?_)|rfl)));(all_goals (try conv => whnf))));rotate_right)
                      intro ls2 hls2 G2
                      conv => whnf
                      refine ⟨(by repeat' ((conv => whnf);first|exact trivial|(refine And.intro ?_ ?_)|rfl)), ?_⟩
                      refine zd1 [7] (zx rfl ?_ zy)
                      conv => whnf
                      refine short_call p0.1 p0.2 rfl hp0 (fun _ h => h) ?_
                      ((conv => whnf);(refine And.intro ?_ (And.intro ?_ (And.intro ?_ (And.intro ?_ ?_))));(all_goals ((repeat' (first|((conv => whnf);done)|((try conv => whnf);first|exact trivial|(refine And.intro ?_ ?_)|rfl)));(all_goals (try conv => whnf))));rotate_right)
                      intro ls3 hls3 G3
                      conv => whnf
                      refine ⟨(by repeat' ((conv => whnf);first|exact trivial|(refine And.intro ?_ ?_)|rfl)), ?_⟩
                      refine zd1 [11] (zx rfl ?_ zy)
                      conv => whnf
                      refine ⟨(by repeat' ((conv => whnf);first|exact trivial|(refine And.intro ?_ ?_)|rfl)), ?_⟩
                      refine zd1 [12] (zx rfl ?_ zy)
                      conv => whnf
                      refine ⟨(by repeat' ((conv => whnf);first|exact trivial|(refine And.intro ?_ ?_)|rfl)), ?_⟩
                      refine zd1 [13] (zx rfl ?_ zy)
                      conv => whnf
                      refine ⟨(by repeat' ((conv => whnf);first|exact trivial|(refine And.intro ?_ ?_)|rfl)), ?_⟩
                      refine zw ?_
                      refine ⟨(ls1, ls2, ls3, G1, G2, G3), ⟨hls1, hls2, hls3⟩, ?_⟩
                      ((repeat' (first|((conv => whnf);done)|((try conv => whnf);first|exact trivial|(refine And.intro ?_ ?_)|rfl)));(all_goals (try conv => whnf)))
                rotate_right
                focus
                  conv => whnf
                  refine ⟨(by repeat' ((conv => whnf);first|exact trivial|(refine And.intro ?_ ?_)|rfl)), ?_⟩
                  refine zd1 [1] (zx rfl ?_ zy)
                  conv => whnf
                  refine short_call p.1 p.2 rfl hp (fun _ h => h) ?_
                  ((conv => whnf);(refine And.intro ?_ (And.intro ?_ (And.intro ?_ (And.intro ?_ ?_))));(all_goals ((repeat' (first|((conv => whnf);done)|((try conv => whnf);first|exact trivial|(refine And.intro ?_ ?_)|rfl)));(all_goals (try conv => whnf))));rotate_right)
                  intro ls1 hls1 G1
                  conv => whnf
                  refine ⟨(by repeat' ((conv => whnf);first|exact trivial|(refine And.intro ?_ ?_)|rfl)), ?_⟩
                  refine zd1 [3] (zx rfl ?_ zy)
                  conv => whnf
                  refine short_call p.1 p.2 rfl hp (fun _ h => h) ?_
                  ((conv => whnf);(refine And.intro ?_ (And.intro ?_ (And.intro ?_ (And.intro ?_ ?_))));(all_goals ((repeat' (first|((conv => whnf);done)|((try conv => whnf);first|exact trivial|(refine And.intro ?_ ?_)|rfl)));(all_goals (try conv => whnf))));rotate_right)
                  intro ls2 hls2 G2
                  conv => whnf
                  refine ⟨(by repeat' ((conv => whnf);first|exact trivial|(refine And.intro ?_ ?_)|rfl)), ?_⟩
                  refine zd1 [7] (zx rfl ?_ zy)
                  conv => whnf
                  refine short_call p0.1 p0.2 rfl hp0 (fun _ h => h) ?_
                  ((conv => whnf);(refine And.intro ?_ (And.intro ?_ (And.intro ?_ (And.intro ?_ ?_))));(all_goals ((repeat' (first|((conv => whnf);done)|((try conv => whnf);first|exact trivial|(refine And.intro ?_ ?_)|rfl)));(all_goals (try conv => whnf))));rotate_right)
                  intro ls3 hls3 G3
                  conv => whnf
                  refine ⟨(by repeat' ((conv => whnf);first|exact trivial|(refine And.intro ?_ ?_)|rfl)), ?_⟩
                  refine zd1 [11] (zx rfl ?_ zy)
                  conv => whnf
                  refine ⟨(by repeat' ((conv => whnf);first|exact trivial|(refine And.intro ?_ ?_)|rfl)), ?_⟩
                  refine zd1 [12] (zx rfl ?_ zy)
                  conv => whnf
                  refine ⟨(by repeat' ((conv => whnf);first|exact trivial|(refine And.intro ?_ ?_)|rfl)), ?_⟩
                  refine zd1 [13] (zx rfl ?_ zy)
                  conv => whnf
                  refine ⟨(by repeat' ((conv => whnf);first|exact trivial|(refine And.intro ?_ ?_)|rfl)), ?_⟩
                  refine zw ?_
                  refine ⟨(ls1, ls2, ls3, G1, G2, G3), ⟨hls1, hls2, hls3⟩, ?_⟩
                  ((repeat' (first|((conv => whnf);done)|((try conv => whnf);first|exact trivial|(refine And.intro ?_ ?_)|rfl)));(all_goals (try conv => whnf)))
        rotate_right
        focus
          conv => whnf
          refine ⟨(by repeat' ((conv => whnf);first|exact trivial|(refine And.intro ?_ ?_)|rfl)), ?_⟩
          focus
            refine zd1 [1, 8, 10] (zx rfl ?_ (zx rfl ?_ (zx rfl ?_ zy)))
            focus
              conv => whnf
              refine short_call p.1 p.2 rfl hp (fun _ h => h) ?_
              ((conv => whnf);(refine And.intro ?_ (And.intro ?_ (And.intro ?_ (And.intro ?_ ?_))));(all_goals ((repeat' (first|((conv => whnf);done)|((try conv => whnf);first|exact trivial|(refine And.intro ?_ ?_)|rfl)));(all_goals (try conv => whnf))));rotate_right)
              intro ls1 hls1 G1
              conv => whnf
              refine ⟨(by repeat' ((conv => whnf);first|exact trivial|(refine And.intro ?_ ?_)|rfl)), ?_⟩
              focus
                refine zd1 [3, 8, 10] (zx rfl ?_ (zx rfl ?_ (zx rfl ?_ zy)))
                focus
                  conv => whnf
                  refine short_call p.1 p.2 rfl hp (fun _ h => h) ?_
                  ((conv => whnf);(refine And.intro ?_ (And.intro ?_ (And.intro ?_ (And.intro ?_ ?_))));(all_goals ((repeat' (first|((conv => whnf);done)|((try conv => whnf);first|exact trivial|(refine And.intro ?_ ?_)|rfl)));(all_goals (try conv => whnf))));rotate_right)
                  intro ls2 hls2 G2
                  conv => whnf
                  refine ⟨(by repeat' ((conv => whnf);first|exact trivial|(refine And.intro ?_ ?_)|rfl)), ?_⟩
                  focus
                    refine zd1 [7, 8, 10] (zx rfl ?_ (zx rfl ?_ (zx rfl ?_ zy)))
                    focus
                      conv => whnf
                      refine short_call p0.1 p0.2 rfl hp0 (fun _ h => h) ?_
                      ((conv => whnf);(refine And.intro ?_ (And.intro ?_ (And.intro ?_ (And.intro ?_ ?_))));(all_goals ((repeat' (first|((conv => whnf);done)|((try conv => whnf);first|exact trivial|(refine And.intro ?_ ?_)|rfl)));(all_goals (try conv => whnf))));rotate_right)
                      intro ls3 hls3 G3
                      conv => whnf
                      refine ⟨(by repeat' ((conv => whnf);first|exact trivial|(refine And.intro ?_ ?_)|rfl)), ?_⟩
                      focus
                        refine zd1 [8, 10] (zx rfl ?_ (zx rfl ?_ zy))
                        focus
                          conv => whnf
                          refine ⟨(by repeat' ((conv => whnf);first|exact trivial|(refine And.intro ?_ ?_)|rfl)), ?_⟩
                          refine zd1 [10] (zx rfl ?_ zy)
                          conv => whnf
                          refine ⟨(by repeat' ((conv => whnf);first|exact trivial|(refine And.intro ?_ ?_)|rfl)), ?_⟩
                          refine zd1 [11] (zx rfl ?_ zy)
                          conv => whnf
                          refine ⟨(by repeat' ((conv => whnf);first|exact trivial|(refine And.intro ?_ ?_)|rfl)), ?_⟩
                          refine zd1 [12] (zx rfl ?_ zy)
                          conv => whnf
                          refine ⟨(by repeat' ((conv => whnf);first|exact trivial|(refine And.intro ?_ ?_)|rfl)), ?_⟩
                          refine zd1 [13] (zx rfl ?_ zy)
                          conv => whnf
                          refine ⟨(by repeat' ((conv => whnf);first|exact trivial|(refine And.intro ?_ ?_)|rfl)), ?_⟩
                          refine zw ?_
                          refine ⟨(ls1, ls2, ls3, G1, G2, G3), ⟨hls1, hls2, hls3⟩, ?_⟩
                          ((repeat' (first|((conv => whnf);done)|((try conv => whnf);first|exact trivial|(refine And.intro ?_ ?_)|rfl)));(all_goals (try conv => whnf)))
                        rotate_right
                        focus
                          conv => whnf
                          refine ⟨(by repeat' ((conv => whnf);first|exact trivial|(refine And.intro ?_ ?_)|rfl)), ?_⟩
                          refine zd1 [8] (zx rfl ?_ zy)
                          conv => whnf
                          refine ⟨(by repeat' ((conv => whnf);first|exact trivial|(refine And.intro ?_ ?_)|rfl)), ?_⟩
                          refine zd1 [11] (zx rfl ?_ zy)
                          conv => whnf
                          refine ⟨(by repeat' ((conv => whnf);first|exact trivial|(refine And.intro ?_ ?_)|rfl)), ?_⟩
                          refine zd1 [12] (zx rfl ?_ zy)
                          conv => whnf
                          refine ⟨(by repeat' ((conv => whnf);first|exact trivial|(refine And.intro ?_ ?_)|rfl)), ?_⟩
                          refine zd1 [13] (zx rfl ?_ zy)
                          conv => whnf
                          refine ⟨(by repeat' ((conv => whnf);first|exact trivial|(refine And.intro ?_ ?_)|rfl)), ?_⟩
                          refine zw ?_
                          refine ⟨(ls1, ls2, ls3, G1, G2, G3), ⟨hls1, hls2, hls3⟩, ?_⟩
                          ((repeat' (first|((conv => whnf);done)|((try conv => whnf);first|exact trivial|(refine And.intro ?_ ?_)|rfl)));(all_goals (try conv => whnf)))
                    rotate_right
                    focus
                      conv => whnf
                      refine ⟨(by repeat' ((conv => whnf);first|exact trivial|(refine And.intro ?_ ?_)|rfl)), ?_⟩
                      focus
                        refine zd1 [7, 8] (zx rfl ?_ (zx rfl ?_ zy))
                        focus
                          conv => whnf
                          refine short_call p0.1 p0.2 rfl hp0 (fun _ h => h) ?_
                          ((conv => whnf);(refine And.intro ?_ (And.intro ?_ (And.intro ?_ (And.intro ?_ ?_))));(all_goals ((repeat' (first|((conv => whnf);done)|((try conv => whnf);first|exact trivial|(refine And.intro ?_ ?_)|rfl)));(all_goals (try conv => whnf))));rotate_right)
                          intro ls3 hls3 G3
                          conv => whnf
                          refine ⟨(by repeat' ((conv => whnf);first|exact trivial|(refine And.intro ?_ ?_)|rfl)), ?_⟩
                          refine zd1 [8] (zx rfl ?_ zy)
                          conv => whnf
                          refine ⟨(by repeat' ((conv => whnf);first|exact trivial|(refine And.intro ?_ ?_)|rfl)), ?_⟩
                          refine zd1 [11] (zx rfl ?_ zy)
                          conv => whnf
                          refine ⟨(by repeat' ((conv => whnf);first|exact trivial|(refine And.intro ?_ ?_)|rfl)), ?_⟩
                          refine zd1 [12] (zx rfl ?_ zy)
                          conv => whnf
                          refine ⟨(by repeat' ((conv => whnf);first|exact trivial|(refine And.intro ?_ ?_)|rfl)), ?_⟩
                          refine zd1 [13] (zx rfl ?_ zy)
                          conv => whnf
                          refine ⟨(by repeat' ((conv => whnf);first|exact trivial|(refine And.intro ?_ ?_)|rfl)), ?_⟩
                          refine zw ?_
                          refine ⟨(ls1, ls2, ls3, G1, G2, G3), ⟨hls1, hls2, hls3⟩, ?_⟩
                          ((repeat' (first|((conv => whnf);done)|((try conv => whnf);first|exact trivial|(refine And.intro ?_ ?_)|rfl)));(all_goals (try conv => whnf)))
                        rotate_right
                        focus
                          conv => whnf
                          refine ⟨(by repeat' ((conv => whnf);first|exact trivial|(refine And.intro ?_ ?_)|rfl)), ?_⟩
                          refine zd1 [7] (zx rfl ?_ zy)
                          conv => whnf
                          refine short_call p0.1 p0.2 rfl hp0 (fun _ h => h) ?_
                          ((conv => whnf);(refine And.intro ?_ (And.intro ?_ (And.intro ?_ (And.intro ?_ ?_))));(all_goals ((repeat' (first|((conv => whnf);done)|((try conv => whnf);first|exact trivial|(refine And.intro ?_ ?_)|rfl)));(all_goals (try conv => whnf))));rotate_right)
                          intro ls3 hls3 G3
                          conv => whnf
                          refine ⟨(by repeat' ((conv => whnf);first|exact trivial|(refine And.intro ?_ ?_)|rfl)), ?_⟩
                          refine zd1 [11] (zx rfl ?_ zy)
                          conv => whnf
                          refine ⟨(by repeat' ((conv => whnf);first|exact trivial|(refine And.intro ?_ ?_)|rfl)), ?_⟩
                          refine zd1 [12] (zx rfl ?_ zy)
                          conv => whnf
                          refine ⟨(by repeat' ((conv => whnf);first|exact trivial|(refine And.intro ?_ ?_)|rfl)), ?_⟩
                          refine zd1 [13] (zx rfl ?_ zy)
                          conv => whnf
                          refine ⟨(by repeat' ((conv => whnf);first|exact trivial|(refine And.intro ?_ ?_)|rfl)), ?_⟩
                          refine zw ?_
                          refine ⟨(ls1, ls2, ls3, G1, G2, G3), ⟨hls1, hls2, hls3⟩, ?_⟩
                          ((repeat' (first|((conv => whnf);done)|((try conv => whnf);first|exact trivial|(refine And.intro ?_ ?_)|rfl)));(all_goals (try conv => whnf)))
                    rotate_right
                    focus
                      conv => whnf
                      refine ⟨(by repeat' ((conv => whnf);first|exact trivial|(refine And.intro ?_ ?_)|rfl)), ?_⟩
                      focus
                        refine zd1 [7, 10] (zx rfl ?_ (zx rfl ?_ zy))
                        focus
                          conv => whnf
                          refine short_call p0.1 p0.2 rfl hp0 (fun _ h => h) ?_
                          ((conv => whnf);(refine And.intro ?_ (And.intro ?_ (And.intro ?_ (And.intro ?_ ?_))));(all_goals ((repeat' (first|((conv => whnf);done)|((try conv => whnf);first|exact trivial|(refine And.intro ?_ ?_)|rfl)));(all_goals (try conv => whnf))));rotate_right)
                          intro ls3 hls3 G3
                          conv => whnf
                          refine ⟨(by repeat' ((conv => whnf);first|exact trivial|(refine And.intro ?_ ?_)|rfl)), ?_⟩
                          refine zd1 [10] (zx rfl ?_ zy)
                          conv => whnf
                          refine ⟨(by repeat' ((conv => whnf);first|exact trivial|(refine And.intro ?_ ?_)|rfl)), ?_⟩
                          refine zd1 [11] (zx rfl ?_ zy)
                          conv => whnf
                          refine ⟨(by repeat' ((conv => whnf);first|exact trivial|(refine And.intro ?_ ?_)|rfl)), ?_⟩
                          refine zd1 [12] (zx rfl ?_ zy)
                          conv => whnf
                          refine ⟨(by repeat' ((conv => whnf);first|exact trivial|(refine And.intro ?_ ?_)|rfl)), ?_⟩
                          refine zd1 [13] (zx rfl ?_ zy)
                          conv => whnf
                          refine ⟨(by repeat' ((conv => whnf);first|exact trivial|(refine And.intro ?_ ?_)|rfl)), ?_⟩
                          refine zw ?_
                          refine ⟨(ls1, ls2, ls3, G1, G2, G3), ⟨hls1, hls2, hls3⟩, ?_⟩
                          ((repeat' (first|((conv => whnf);done)|((try conv => whnf);first|exact trivial|(refine And.intro ?_ ?_)|rfl)));(all_goals (try conv => whnf)))
                        rotate_right
                        focus
                          conv => whnf
                          refine ⟨(by repeat' ((conv => whnf);first|exact trivial|(refine And.intro ?_ ?_)|rfl)), ?_⟩
                          refine zd1 [7] (zx rfl ?_ zy)
                          conv => whnf
                          refine short_call p0.1 p0.2 rfl hp0 (fun _ h => h) ?_
                          ((conv => whnf);(refine And.intro ?_ (And.intro ?_ (And.intro ?_ (And.intro ?_ ?_))));(all_goals ((repeat' (first|((conv => whnf);done)|((try conv => whnf);first|exact trivial|(refine And.intro ?_ ?_)|rfl)));(all_goals (try conv => whnf))));rotate_right)
                          intro ls3 hls3 G3
                          conv => whnf
                          refine ⟨(by repeat' ((conv => whnf);first|exact trivial|(refine And.intro ?_ ?_)|rfl)), ?_⟩
                          refine zd1 [11] (zx rfl ?_ zy)
                          conv => whnf
                          refine ⟨(by repeat' ((conv => whnf);first|exact trivial|(refine And.intro ?_ ?_)|rfl)), ?_⟩
                          refine zd1 [12] (zx rfl ?_ zy)
                          conv => whnf
                          refine ⟨(by repeat' ((conv => whnf);first|exact trivial|(refine And.intro ?_ ?_)|rfl)), ?_⟩
                          refine zd1 [13] (zx rfl ?_ zy)
                          conv => whnf
                          refine ⟨(by repeat' ((conv => whnf);first|exact trivial|(refine And.intro ?_ ?_)|rfl)), ?_⟩
                          refine zw ?_
                          refine ⟨(ls1, ls2, ls3, G1, G2, G3), ⟨hls1, hls2, hls3⟩, ?_⟩
                          ((repeat' (first|((conv => whnf);done)|((try conv => whnf);first|exact trivial|(refine And.intro ?_ ?_)|rfl)));(all_goals (try conv => whnf)))
                rotate_right
                focus
                  conv => whnf
                  refine ⟨(by repeat' ((conv => whnf);first|exact trivial|(refine And.intro ?_ ?_)|rfl)), ?_⟩
                  focus
                    refine zd1 [3, 8] (zx rfl ?_ (zx rfl ?_ zy))
                    focus
                      conv => whnf
                      refine short_call p.1 p.2 rfl hp (fun _ h => h) ?_
                      ((conv => whnf);(refine And.intro ?_ (And.intro ?_ (And.intro ?_ (And.intro ?_ ?_))));(all_goals ((repeat' (first|((conv => whnf);done)|((try conv => whnf);first|exact trivial|(refine And.intro ?_ ?_)|rfl)));(all_goals (try conv => whnf))));rotate_right)
                      intro ls2 hls2 G2
                      conv => whnf
                      refine ⟨(by repeat' ((conv => whnf);first|exact trivial|(refine And.intro ?_ ?_)|rfl)), ?_⟩
                      focus
                        refine zd1 [7, 8] (zx rfl ?_ (zx rfl ?_ zy))
                        focus
                          conv => whnf
                          refine short_call p0.1 p0.2 rfl hp0 (fun _ h => h) ?_
                          ((conv => whnf);(refine And.intro ?_ (And.intro ?_ (And.intro ?_ (And.intro ?_ ?_))));(all_goals ((repeat' (first|((conv => whnf);done)|((try conv => whnf);first|exact trivial|(refine And.intro ?_ ?_)|rfl)));(all_goals (try conv => whnf))));rotate_right)
                          intro ls3 hls3 G3
                          conv => whnf
                          refine ⟨(by repeat' ((conv => whnf);first|exact trivial|(refine And.intro ?_ ?_)|rfl)), ?_⟩
                          refine zd1 [8] (zx rfl ?_ zy)
                          conv => whnf
                          refine ⟨(by repeat' ((conv => whnf);first|exact trivial|(refine And.intro ?_ ?_)|rfl)), ?_⟩
                          refine zd1 [11] (zx rfl ?_ zy)
                          conv => whnf
                          refine ⟨(by repeat' ((conv => whnf);first|exact trivial|(refine And.intro ?_ ?_)|rfl)), ?_⟩
                          refine zd1 [12] (zx rfl ?_ zy)
                          conv => whnf
                          refine ⟨(by repeat' ((conv => whnf);first|exact trivial|(refine And.intro ?_ ?_)|rfl)), ?_⟩
                          refine zd1 [13] (zx rfl ?_ zy)
                          conv => whnf
                          refine ⟨(by repeat' ((conv => whnf);first|exact trivial|(refine And.intro ?_ ?_)|rfl)), ?_⟩
                          refine zw ?_
                          refine ⟨(ls1, ls2, ls3, G1, G2, G3), ⟨hls1, hls2, hls3⟩, ?_⟩
                          ((repeat' (first|((conv => whnf);done)|((try conv => whnf);first|exact trivial|(refine And.intro ?_ ?_)|rfl)));(all_goals (try conv => whnf)))
                        rotate_right
                        focus
                          conv => whnf
                          refine ⟨(by repeat' ((conv => whnf);first|exact trivial|(refine And.intro ?_ ?_)|rfl)), ?_⟩
                          refine zd1 [7] (zx rfl ?_ zy)
                          conv => whnf
                          refine short_call p0.1 p0.2 rfl hp0 (fun _ h => h) ?_
                          ((conv => whnf);(refine And.intro ?_ (And.intro ?_ (And.intro ?_ (And.intro ?_ ?_))));(all_goals ((repeat' (first|((conv => whnf);done)|((try conv => whnf);first|exact trivial|(refine And.intro ?_ ?_)|rfl)));(all_goals (try conv => whnf))));rotate_right)
                          intro ls3 hls3 G3
                          conv => whnf
                          refine ⟨(by repeat' ((conv => whnf);first|exact trivial|(refine And.intro ?_ ?_)|rfl)), ?_⟩
                          refine zd1 [11] (zx rfl ?_ zy)
                          conv => whnf
                          refine ⟨(by repeat' ((conv => whnf);first|exact trivial|(refine And.intro ?_ ?_)|rfl)), ?_⟩
                          refine zd1 [12] (zx rfl ?_ zy)
                          conv => whnf
                          refine ⟨(by repeat' ((conv => whnf);first|exact trivial|(refine And.intro ?_ ?_)|rfl)), ?_⟩
                          refine zd1 [13] (zx rfl ?_ zy)
                          conv => whnf
                          refine ⟨(by repeat' ((conv => whnf);first|exact trivial|(refine And.intro ?_ ?_)|rfl)), ?_⟩
                          refine zw ?_
                          refine ⟨(ls1, ls2, ls3, G1, G2, G3), ⟨hls1, hls2, hls3⟩, ?_⟩
                          ((repeat' (first|((conv => whnf);done)|((try conv => whnf);first|exact trivial|(refine And.intro ?_ ?_)|rfl)));(all_goals (try conv => whnf)))
                    rotate_right
                    focus
                      conv => whnf
                      refine ⟨(by repeat' ((conv => whnf);first|exact trivial|(refine And.intro ?_ ?_)|rfl)), ?_⟩
                      refine zd1 [3] (zx rfl ?_ zy)
                      conv => whnf
                      refine short_call p.1 p.2 rfl hp (fun _ h => h) ?_
                      ((conv => whnf);(refine And.intro ?_ (And.intro ?_ (And.intro ?_ (And.intro ?_ ?_))));(all_goals ((repeat' (first|((conv => whnf);done)|((try conv => whnf);first|exact trivial|(refine And.intro ?_ ?_)|rfl)));(all_goals (try conv => whnf))));rotate_right)
                      intro ls2 hls2 G2
                      conv => whnf
                      refine ⟨(by repeat' ((conv => whnf);first|exact trivial|(refine And.intro ?_ ?_)|rfl)), ?_⟩
                      refine zd1 [7] (zx rfl ?_ zy)
                      conv => whnf
                      refine short_call p0.1 p0.2 rfl hp0 (fun _ h => h) ?_
                      ((conv => whnf);(refine And.intro ?_ (And.intro ?_ (And.intro ?_ (And.intro ?_ ?_))));(all_goals ((repeat' (first|((conv => whnf);done)|((try conv => whnf);first|exact trivial|(refine And.intro ?_ ?_)|rfl)));(all_goals (try conv => whnf))));rotate_right)
                      intro ls3 hls3 G3
                      conv => whnf
                      refine ⟨(by repeat' ((conv => whnf);first|exact trivial|(refine And.intro ?_ ?_)|rfl)), ?_⟩
                      refine zd1 [11] (zx rfl ?_ zy)
                      conv => whnf
                      refine ⟨(by repeat' ((conv => whnf);first|exact trivial|(refine And.intro ?_ ?_)|rfl)), ?_⟩
                      refine zd1 [12] (zx rfl ?_ zy)
                      conv => whnf
                      refine ⟨(by repeat' ((conv => whnf);first|exact trivial|(refine And.intro ?_ ?_)|rfl)), ?_⟩
                      refine zd1 [13] (zx rfl ?_ zy)
                      conv => whnf
                      refine ⟨(by repeat' ((conv => whnf);first|exact trivial|(refine And.intro ?_ ?_)|rfl)), ?_⟩
                      refine zw ?_
                      refine ⟨(ls1, ls2, ls3, G1, G2, G3), ⟨hls1, hls2, hls3⟩, ?_⟩
                      ((repeat' (first|((conv => whnf);done)|((try conv => whnf);first|exact trivial|(refine And.intro ?_ ?_)|rfl)));(all_goals (try conv => whnf)))
                rotate_right
                focus
                  conv => whnf
                  refine ⟨(by repeat' ((conv => whnf);first|exact trivial|(refine And.intro ?_ ?_)|rfl)), ?_⟩
                  focus
                    refine zd1 [3, 10] (zx rfl ?_ (zx rfl ?_ zy))
                    focus
                      conv => whnf
                      refine short_call p.1 p.2 rfl hp (fun _ h => h) ?_
                      ((conv => whnf);(refine And.intro ?_ (And.intro ?_ (And.intro ?_ (And.intro ?_ ?_))));(all_goals ((repeat' (first|((conv => whnf);done)|((try conv => whnf);first|exact trivial|(refine And.intro ?_ ?_)|rfl)));(all_goals (try conv => whnf))));rotate_right)
                      intro ls2 hls2 G2
                      conv => whnf
                      refine ⟨(by repeat' ((conv => whnf);first|exact trivial|(refine And.intro ?_ ?_)|rfl)), ?_⟩
                      focus
                        refine zd1 [7, 10] (zx rfl ?_ (zx rfl ?_ zy))
                        focus
                          conv => whnf
                          refine short_call p0.1 p0.2 rfl hp0 (fun _ h => h) ?_
                          ((conv => whnf);(refine And.intro ?_ (And.intro ?_ (And.intro ?_ (And.intro ?_ ?_))));(all_goals ((repeat' (first|((conv => whnf);done)|((try conv => whnf);first|exact trivial|(refine And.intro ?_ ?_)|rfl)));(all_goals (try conv => whnf))));rotate_right)
                          intro ls3 hls3 G3
                          conv => whnf
                          refine ⟨(by repeat' ((conv => whnf);first|exact trivial|(refine And.intro ?_ ?_)|rfl)), ?_⟩
                          refine zd1 [10] (zx rfl ?_ zy)
                          conv => whnf
                          refine ⟨(by repeat' ((conv => whnf);first|exact trivial|(refine And.intro ?_ ?_)|rfl)), ?_⟩
                          refine zd1 [11] (zx rfl ?_ zy)
                          conv => whnf
                          refine ⟨(by repeat' ((conv => whnf);first|exact trivial|(refine And.intro ?_ ?_)|rfl)), ?_⟩
                          refine zd1 [12] (zx rfl ?_ zy)
                          conv => whnf
                          refine ⟨(by repeat' ((conv => whnf);first|exact trivial|(refine And.intro ?_ ?_)|rfl)), ?_⟩
                          refine zd1 [13] (zx rfl ?_ zy)
                          conv => whnf
                          refine ⟨(by repeat' ((conv => whnf);first|exact trivial|(refine And.intro ?_ ?_)|rfl)), ?_⟩
                          refine zw ?_
                          refine ⟨(ls1, ls2, ls3, G1, G2, G3), ⟨hls1, hls2, hls3⟩, ?_⟩
                          ((repeat' (first|((conv => whnf);done)|((try conv => whnf);first|exact trivial|(refine And.intro ?_ ?_)|rfl)));(all_goals (try conv => whnf)))
                        rotate_right
                        focus
                          conv => whnf
                          refine ⟨(by repeat' ((conv => whnf);first|exact trivial|(refine And.intro ?_ ?_)|rfl)), ?_⟩
                          refine zd1 [7] (zx rfl ?_ zy)
                          conv => whnf
                          refine short_call p0.1 p0.2 rfl hp0 (fun _ h => h) ?_
                          ((conv => whnf);(refine And.intro ?_ (And.intro ?_ (And.intro ?_ (And.intro ?_ ?_))));(all_goals ((repeat' (first|((conv => whnf);done)|((try conv => whnf);first|exact trivial|(refine And.intro ?_ ?_)|rfl)));(all_goals (try conv => whnf))));rotate_right)
                          intro ls3 hls3 G3
                          conv => whnf
                          refine ⟨(by repeat' ((conv => whnf);first|exact trivial|(refine And.intro ?_ ?_)|rfl)), ?_⟩
                          refine zd1 [11] (zx rfl ?_ zy)
                          conv => whnf
                          refine ⟨(by repeat' ((conv => whnf);first|exact trivial|(refine And.intro ?_ ?_)|rfl)), ?_⟩
                          refine zd1 [12] (zx rfl ?_ zy)
                          conv => whnf
                          refine ⟨(by repeat' ((conv => whnf);first|exact trivial|(refine And.intro ?_ ?_)|rfl)), ?_⟩
                          refine zd1 [13] (zx rfl ?_ zy)
                          conv => whnf
                          refine ⟨(by repeat' ((conv => whnf);first|exact trivial|(refine And.intro ?_ ?_)|rfl)), ?_⟩
                          refine zw ?_
                          refine ⟨(ls1, ls2, ls3, G1, G2, G3), ⟨hls1, hls2, hls3⟩, ?_⟩
                          ((repeat' (first|((conv => whnf);done)|((try conv => whnf);first|exact trivial|(refine And.intro ?_ ?_)|rfl)));(all_goals (try conv => whnf)))
                    rotate_right
                    focus
                      conv => whnf
                      refine ⟨(by repeat' ((conv => whnf);first|exact trivial|(refine And.intro ?_ ?_)|rfl)), ?_⟩
                      refine zd1 [3] (zx rfl ?_ zy)
                      conv => whnf
                      refine short_call p.1 p.2 rfl hp (fun _ h => h) ?_
                      ((conv => whnf);(refine And.intro ?_ (And.intro ?_ (And.intro ?_ (And.intro ?_ ?_))));(all_goals ((repeat' (first|((conv => whnf);done)|((try conv => whnf);first|exact trivial|(refine And.intro ?_ ?_)|rfl)));(all_goals (try conv => whnf))));rotate_right)
                      intro ls2 hls2 G2
                      conv => whnf
                      refine ⟨(by repeat' ((conv => whnf);first|exact trivial|(refine And.intro ?_ ?_)|rfl)), ?_⟩
                      refine zd1 [7] (zx rfl ?_ zy)
                      conv => whnf
                      refine short_call p0.1 p0.2 rfl hp0 (fun _ h => h) ?_
                      ((conv => whnf);(refine And.intro ?_ (And.intro ?_ (And.intro ?_ (And.intro ?_ ?_))));(all_goals ((repeat' (first|((conv => whnf);done)|((try conv => whnf);first|exact trivial|(refine And.intro ?_ ?_)|rfl)));(all_goals (try conv => whnf))));rotate_right)
                      intro ls3 hls3 G3
                      conv => whnf
                      refine ⟨(by repeat' ((conv => whnf);first|exact trivial|(refine And.intro ?_ ?_)|rfl)), ?_⟩
                      refine zd1 [11] (zx rfl ?_ zy)
                      conv => whnf
                      refine ⟨(by repeat' ((conv => whnf);first|exact trivial|(refine And.intro ?_ ?_)|rfl)), ?_⟩
                      refine zd1 [12] (zx rfl ?_ zy)
                      conv => whnf
                      refine ⟨(by repeat' ((conv => whnf);first|exact trivial|(refine And.intro ?_ ?_)|rfl)), ?_⟩
                      refine zd1 [13] (zx rfl ?_ zy)
                      conv => whnf
                      refine ⟨(by repeat' ((conv => whnf);first|exact trivial|(refine And.intro ?_ ?_)|rfl)), ?_⟩
                      refine zw ?_
                      refine ⟨(ls1, ls2, ls3, G1, G2, G3), ⟨hls1, hls2, hls3⟩, ?_⟩
                      ((repeat' (first|((conv => whnf);done)|((try conv => whnf);first|exact trivial|(refine And.intro ?_ ?_)|rfl)));(all_goals (try conv => whnf)))
            rotate_right
            focus
              conv => whnf
              refine ⟨(by repeat' ((conv => whnf);first|exact trivial|(refine And.intro ?_ ?_)|rfl)), ?_⟩
              focus
                refine zd1 [1, 8] (zx rfl ?_ (zx rfl ?_ zy))
                focus
                  conv => whnf
                  refine short_call p.1 p.2 rfl hp (fun _ h => h) ?_
                  ((conv => whnf);(refine And.intro ?_ (And.intro ?_ (And.intro ?_ (And.intro ?_ ?_))));(all_goals ((repeat' (first|((conv => whnf);done)|((try conv => whnf);first|exact trivial|(refine And.intro ?_ ?_)|rfl)));(all_goals (try conv => whnf))));rotate_right)
                  intro ls1 hls1 G1
                  conv => whnf
                  refine ⟨(by repeat' ((conv => whnf);first|exact trivial|(refine And.intro ?_ ?_)|rfl)), ?_⟩
                  focus
                    refine zd1 [3, 8] (zx rfl ?_ (zx rfl ?_ zy))
                    focus
                      conv => whnf
                      refine short_call p.1 p.2 rfl hp (fun _ h => h) ?_
                      ((conv => whnf);(refine And.intro ?_ (And.intro ?_ (And.intro ?_ (And.intro ?_ ?_))));(all_goals ((repeat' (first|((conv => whnf);done)|((try conv => whnf);first|exact trivial|(refine And.intro ?_ ?_)|rfl)));(all_goals (try conv => whnf))));rotate_right)
                      intro ls2 hls2 G2
                      conv => whnf
                      refine ⟨(by repeat' ((conv => whnf);first|exact trivial|(refine And.intro ?_ ?_)|rfl)), ?_⟩
                      focus
                        refine zd1 [7, 8] (zx rfl ?_ (zx rfl ?_ zy))
                        focus
                          conv => whnf
                          refine short_call p0.1 p0.2 rfl hp0 (fun _ h => h) ?_
                          ((conv => whnf);(refine And.intro ?_ (And.intro ?_ (And.intro ?_ (And.intro ?_ ?_))));(all_goals ((repeat' (first|((conv => whnf);done)|((try conv => whnf);first|exact trivial|(refine And.intro ?_ ?_)|rfl)));(all_goals (try conv => whnf))));rotate_right)
                          intro ls3 hls3 G3
                          conv => whnf
                          refine ⟨(by repeat' ((conv => whnf);first|exact trivial|(refine And.intro ?_ ?_)|rfl)), ?_⟩
                          refine zd1 [8] (zx rfl ?_ zy)
                          conv => whnf
                          refine ⟨(by repeat' ((conv => whnf);first|exact trivial|(refine And.intro ?_ ?_)|rfl)), ?_⟩
                          refine zd1 [11] (zx rfl ?_ zy)
                          conv => whnf
                          refine ⟨(by repeat' ((conv => whnf);first|exact trivial|(refine And.intro ?_ ?_)|rfl)), ?_⟩
                          refine zd1 [12] (zx rfl ?_ zy)
                          conv => whnf
                          refine ⟨(by repeat' ((conv => whnf);first|exact trivial|(refine And.intro ?_ ?_)|rfl)), ?_⟩
                          refine zd1 [13] (zx rfl ?_ zy)
                          conv => whnf
                          refine ⟨(by repeat' ((conv => whnf);first|exact trivial|(refine And.intro ?_ ?_)|rfl)), ?_⟩
                          refine zw ?_
                          refine ⟨(ls1, ls2, ls3, G1, G2, G3), ⟨hls1, hls2, hls3⟩, ?_⟩
                          ((repeat' (first|((conv => whnf);done)|((try conv => whnf);first|exact trivial|(refine And.intro ?_ ?_)|rfl)));(all_goals (try conv => whnf)))
                        rotate_right
                        focus
                          conv => whnf
                          refine ⟨(by repeat' ((conv => whnf);first|exact trivial|(refine And.intro ?_ ?_)|rfl)), ?_⟩
                          refine zd1 [7] (zx rfl ?_ zy)
                          conv => whnf
                          refine short_call p0.1 p0.2 rfl hp0 (fun _ h => h) ?_
                          ((conv => whnf);(refine And.intro ?_ (And.intro ?_ (And.intro ?_ (And.intro ?_ ?_))));(all_goals ((repeat' (first|((conv => whnf);done)|((try conv => whnf);first|exact trivial|(refine And.intro ?_ ?_)|rfl)));(all_goals (try conv => whnf))));rotate_right)
                          intro ls3 hls3 G3
                          conv => whnf
                          refine ⟨(by repeat' ((conv => whnf);first|exact trivial|(refine And.intro ?_ ?_)|rfl)), ?_⟩
                          refine zd1 [11] (zx rfl ?_ zy)
                          conv => whnf
                          refine ⟨(by repeat' ((conv => whnf);first|exact trivial|(refine And.intro ?_ ?_)|rfl)), ?_⟩
                          refine zd1 [12] (zx rfl ?_ zy)
                          conv => whnf
                          refine ⟨(by repeat' ((conv => whnf);first|exact trivial|(refine And.intro ?_ ?_)|rfl)), ?_⟩
                          refine zd1 [13] (zx rfl ?_ zy)
                          conv => whnf
                          refine ⟨(by repeat' ((conv => whnf);first|exact trivial|(refine And.intro ?_ ?_)|rfl)), ?_⟩
                          refine zw ?_
                          refine ⟨(ls1, ls2, ls3, G1, G2, G3), ⟨hls1, hls2, hls3⟩, ?_⟩
                          ((repeat' (first|((conv => whnf);done)|((try conv => whnf);first|exact trivial|(refine And.intro ?_ ?_)|rfl)));(all_goals (try conv => whnf)))
                    rotate_right
                    focus
                      conv => whnf
                      refine ⟨(by repeat' ((conv => whnf);first|exact trivial|(refine And.intro ?_ ?_)|rfl)), ?_⟩
                      refine zd1 [3] (zx rfl ?_ zy)
                      conv => whnf
                      refine short_call p.1 p.2 rfl hp (fun _ h => h) ?_
                      ((conv => whnf);(refine And.intro ?_ (And.intro ?_ (And.intro ?_ (And.intro ?_ ?_))));(all_goals ((repeat' (first|((conv => whnf);done)|((try conv => whnf);first|exact trivial|(refine And.intro ?_ ?_)|rfl)));(all_goals (try conv => whnf))));rotate_right)
                      intro ls2 hls2 G2
                      conv => whnf
                      refine ⟨(by repeat' ((conv => whnf);first|exact trivial|(refine And.intro ?_ ?_)|rfl)), ?_⟩
                      refine zd1 [7] (zx rfl ?_ zy)
                      conv => whnf
                      refine short_call p0.1 p0.2 rfl hp0 (fun _ h => h) ?_
                      ((conv => whnf);(refine And.intro ?_ (And.intro ?_ (And.intro ?_ (And.intro ?_ ?_))));(all_goals ((repeat' (first|((conv => whnf);done)|((try conv => whnf);first|exact trivial|(refine And.intro ?_ ?_)|rfl)));(all_goals (try conv => whnf))));rotate_right)
                      intro ls3 hls3 G3
                      conv => whnf
                      refine ⟨(by repeat' ((conv => whnf);first|exact trivial|(refine And.intro ?_ ?_)|rfl)), ?_⟩
                      refine zd1 [11] (zx rfl ?_ zy)
                      conv => whnf
                      refine ⟨(by repeat' ((conv => whnf);first|exact trivial|(refine And.intro ?_ ?_)|rfl)), ?_⟩
                      refine zd1 [12] (zx rfl ?_ zy)
                      conv => whnf
                      refine ⟨(by repeat' ((conv => whnf);first|exact trivial|(refine And.intro ?_ ?_)|rfl)), ?_⟩
                      refine zd1 [13] (zx rfl ?_ zy)
                      conv => whnf
                      refine ⟨(by repeat' ((conv => whnf);first|exact trivial|(refine And.intro ?_ ?_)|rfl)), ?_⟩
                      refine zw ?_
                      refine ⟨(ls1, ls2, ls3, G1, G2, G3), ⟨hls1, hls2, hls3⟩, ?_⟩
                      ((repeat' (first|((conv => whnf);done)|((try conv => whnf);first|exact trivial|(refine And.intro ?_ ?_)|rfl)));(all_goals (try conv => whnf)))
                rotate_right
                focus
                  conv => whnf
                  refine ⟨(by repeat' ((conv => whnf);first|exact trivial|(refine And.intro ?_ ?_)|rfl)), ?_⟩
                  refine zd1 [1] (zx rfl ?_ zy)
                  conv => whnf
                  refine short_call p.1 p.2 rfl hp (fun _ h => h) ?_
                  ((conv => whnf);(refine And.intro ?_ (And.intro ?_ (And.intro ?_ (And.intro ?_ ?_))));(all_goals ((repeat' (first|((conv => whnf);done)|((try conv => whnf);first|exact trivial|(refine And.intro ?_ ?_)|rfl)));(all_goals (try conv => whnf))));rotate_right)
                  intro ls1 hls1 G1
                  conv => whnf
                  refine ⟨(by repeat' ((conv => whnf);first|exact trivial|(refine And.intro ?_ ?_)|rfl)), ?_⟩
                  refine zd1 [3] (zx rfl ?_ zy)
                  conv => whnf
                  refine short_call p.1 p.2 rfl hp (fun _ h => h) ?_
                  ((conv => whnf);(refine And.intro ?_ (And.intro ?_ (And.intro ?_ (And.intro ?_ ?_))));(all_goals ((repeat' (first|((conv => whnf);done)|((try conv => whnf);first|exact trivial|(refine And.intro ?_ ?_)|rfl)));(all_goals (try conv => whnf))));rotate_right)
                  intro ls2 hls2 G2
                  conv => whnf
                  refine ⟨(by repeat' ((conv => whnf);first|exact trivial|(refine And.intro ?_ ?_)|rfl)), ?_⟩
                  refine zd1 [7] (zx rfl ?_ zy)
                  conv => whnf
                  refine short_call p0.1 p0.2 rfl hp0 (fun _ h => h) ?_
                  ((conv => whnf);(refine And.intro ?_ (And.intro ?_ (And.intro ?_ (And.intro ?_ ?_))));(all_goals ((repeat' (first|((conv => whnf);done)|((try conv => whnf);first|exact trivial|(refine And.intro ?_ ?_)|rfl)));(all_goals (try conv => whnf))));rotate_right)
                  intro ls3 hls3 G3
                  conv => whnf
                  refine ⟨(by repeat' ((conv => whnf);first|exact trivial|(refine And.intro ?_ ?_)|rfl)), ?_⟩
                  refine zd1 [11] (zx rfl ?_ zy)
                  conv => whnf
                  refine ⟨(by repeat' ((conv => whnf);first|exact trivial|(refine And.intro ?_ ?_)|rfl)), ?_⟩
                  refine zd1 [12] (zx rfl ?_ zy)
                  conv => whnf
                  refine ⟨(by repeat' ((conv => whnf);first|exact trivial|(refine And.intro ?_ ?_)|rfl)), ?_⟩
                  refine zd1 [13] (zx rfl ?_ zy)
                  conv => whnf
                  refine ⟨(by repeat' ((conv => whnf);first|exact trivial|(refine And.intro ?_ ?_)|rfl)), ?_⟩
                  refine zw ?_
                  refine ⟨(ls1, ls2, ls3, G1, G2, G3), ⟨hls1, hls2, hls3⟩, ?_⟩
                  ((repeat' (first|((conv => whnf);done)|((try conv => whnf);first|exact trivial|(refine And.intro ?_ ?_)|rfl)));(all_goals (try conv => whnf)))
            rotate_right
            focus
              conv => whnf
              refine ⟨(by repeat' ((conv => whnf);first|exact trivial|(refine And.intro ?_ ?_)|rfl)), ?_⟩
              focus
                refine zd1 [1, 10] (zx rfl ?_ (zx rfl ?_ zy))
                focus
                  conv => whnf
                  refine short_call p.1 p.2 rfl hp (fun _ h => h) ?_
                  ((conv => whnf);(refine And.intro ?_ (And.intro ?_ (And.intro ?_ (And.intro ?_ ?_))));(all_goals ((repeat' (first|((conv => whnf);done)|((try conv => whnf);first|exact trivial|(refine And.intro ?_ ?_)|rfl)));(all_goals (try conv => whnf))));rotate_right)
                  intro ls1 hls1 G1
                  conv => whnf
                  refine ⟨(by repeat' ((conv => whnf);first|exact trivial|(refine And.intro ?_ ?_)|rfl)), ?_⟩
                  focus
                    refine zd1 [3, 10] (zx rfl ?_ (zx rfl ?_ zy))
                    focus
                      conv => whnf
                      refine short_call p.1 p.2 rfl hp (fun _ h => h) ?_
                      ((conv => whnf);(refine And.intro ?_ (And.intro ?_ (And.intro ?_ (And.intro ?_ ?_))));(all_goals ((repeat' (first|((conv => whnf);done)|((try conv => whnf);first|exact trivial|(refine And.intro ?_ ?_)|rfl)));(all_goals (try conv => whnf))));rotate_right)
                      intro ls2 hls2 G2
                      conv => whnf
                      refine ⟨(by repeat' ((conv => whnf);first|exact trivial|(refine And.intro ?_ ?_)|rfl)), ?_⟩
                      focus
                        refine zd1 [7, 10] (zx rfl ?_ (zx rfl ?_ zy))
                        focus
                          conv => whnf
                          refine short_call p0.1 p0.2 rfl hp0 (fun _ h => h) ?_
                          ((conv => whnf);(refine And.intro ?_ (And.intro ?_ (And.intro ?_ (And.intro ?_ ?_))));(all_goals ((repeat' (first|((conv => whnf);done)|((try conv => whnf);first|exact trivial|(refine And.intro ?_ ?_)|rfl)));(all_goals (try conv => whnf))));rotate_right)
                          intro ls3 hls3 G3
                          conv => whnf
                          refine ⟨(by repeat' ((conv => whnf);first|exact trivial|(refine And.intro ?_ ?_)|rfl)), ?_⟩
                          refine zd1 [10] (zx rfl ?_ zy)
                          conv => whnf
                          refine ⟨(by repeat' ((conv => whnf);first|exact trivial|(refine And.intro ?_ ?_)|rfl)), ?_⟩
                          refine zd1 [11] (zx rfl ?_ zy)
                          conv => whnf
                          refine ⟨(by repeat' ((conv => whnf);first|exact trivial|(refine And.intro ?_ ?_)|rfl)), ?_⟩
                          refine zd1 [12] (zx rfl ?_ zy)
                          conv => whnf
                          refine ⟨(by repeat' ((conv => whnf);first|exact trivial|(refine And.intro ?_ ?_)|rfl)), ?_⟩
                          refine zd1 [13] (zx rfl ?_ zy)
                          conv => whnf
                          refine ⟨(by repeat' ((conv => whnf);first|exact trivial|(refine And.intro ?_ ?_)|rfl)), ?_⟩
                          refine zw ?_
                          refine ⟨(ls1, ls2, ls3, G1, G2, G3), ⟨hls1, hls2, hls3⟩, ?_⟩
                          ((repeat' (first|((conv => whnf);done)|((try conv => whnf);first|exact trivial|(refine And.intro ?_ ?_)|rfl)));(all_goals (try conv => whnf)))
                        rotate_right
                        focus
                          conv => whnf
                          refine ⟨(by repeat' ((conv => whnf);first|exact trivial|(refine And.intro ?_ ?_)|rfl)), ?_⟩
                          refine zd1 [7] (zx rfl ?_ zy)
                          conv => whnf
                          refine short_call p0.1 p0.2 rfl hp0 (fun _ h => h) ?_
                          ((conv => whnf);(refine And.intro ?_ (And.intro ?_ (And.intro ?_ (And.intro ?_ ?_))));(all_goals ((repeat' (first|((conv => whnf);done)|((try conv => whnf);first|exact trivial|(refine And.intro ?_ ?_)|rfl)));(all_goals (try conv => whnf))));rotate_right)
                          intro ls3 hls3 G3
                          conv => whnf
                          refine ⟨(by repeat' ((conv => whnf);first|exact trivial|(refine And.intro ?_ ?_)|rfl)), ?_⟩
                          refine zd1 [11] (zx rfl ?_ zy)
                          conv => whnf
                          refine ⟨(by repeat' ((conv => whnf);first|exact trivial|(refine And.intro ?_ ?_)|rfl)), ?_⟩
                          refine zd1 [12] (zx rfl ?_ zy)
                          conv => whnf
                          refine ⟨(by repeat' ((conv => whnf);first|exact trivial|(refine And.intro ?_ ?_)|rfl)), ?_⟩
                          refine zd1 [13] (zx rfl ?_ zy)
                          conv => whnf
                          refine ⟨(by repeat' ((conv => whnf);first|exact trivial|(refine And.intro ?_ ?_)|rfl)), ?_⟩
                          refine zw ?_
                          refine ⟨(ls1, ls2, ls3, G1, G2, G3), ⟨hls1, hls2, hls3⟩, ?_⟩
                          ((repeat' (first|((conv => whnf);done)|((try conv => whnf);first|exact trivial|(refine And.intro ?_ ?_)|rfl)));(all_goals (try conv => whnf)))
                    rotate_right
                    focus
                      conv => whnf
                      refine ⟨(by repeat' ((conv => whnf);first|exact trivial|(refine And.intro ?_ ?_)|rfl)), ?_⟩
                      refine zd1 [3] (zx rfl ?_ zy)
                      conv => whnf
                      refine short_call p.1 p.2 rfl hp (fun _ h => h) ?_
                      ((conv => whnf);(refine And.intro ?_ (And.intro ?_ (And.intro ?_ (And.intro ?_ ?_))));(all_goals ((repeat' (first|((conv => whnf);done)|((try conv => whnf);first|exact trivial|(refine And.intro ?_ ?_)|rfl)));(all_goals (try conv => whnf))));rotate_right)
                      intro ls2 hls2 G2
                      conv => whnf
                      refine ⟨(by repeat' ((conv => whnf);first|exact trivial|(refine And.intro ?_ ?_)|rfl)), ?_⟩
                      refine zd1 [7] (zx rfl ?_ zy)
                      conv => whnf
                      refine short_call p0.1 p0.2 rfl hp0 (fun _ h => h) ?_
                      ((conv => whnf);(refine And.intro ?_ (And.intro ?_ (And.intro ?_ (And.intro ?_ ?_))));(all_goals ((repeat' (first|((conv => whnf);done)|((try conv => whnf);first|exact trivial|(refine And.intro ?_ ?_)|rfl)));(all_goals (try conv => whnf))));rotate_right)
                      intro ls3 hls3 G3
                      conv => whnf
                      refine ⟨(by repeat' ((conv => whnf);first|exact trivial|(refine And.intro ?_ ?_)|rfl)), ?_⟩
                      refine zd1 [11] (zx rfl ?_ zy)
                      conv => whnf
                      refine ⟨(by repeat' ((conv => whnf);first|exact trivial|(refine And.intro ?_ ?_)|rfl)), ?_⟩
                      refine zd1 [12] (zx rfl ?_ zy)
                      conv => whnf
                      refine ⟨(by repeat' ((conv => whnf);first|exact trivial|(refine And.intro ?_ ?_)|rfl)), ?_⟩
                      refine zd1 [13] (zx rfl ?_ zy)
                      conv => whnf
                      refine ⟨(by repeat' ((conv => whnf);first|exact trivial|(refine And.intro ?_ ?_)|rfl)), ?_⟩
                      refine zw ?_
                      refine ⟨(ls1, ls2, ls3, G1, G2, G3), ⟨hls1, hls2, hls3⟩, ?_⟩
                      ((repeat' (first|((conv => whnf);done)|((try conv => whnf);first|exact trivial|(refine And.intro ?_ ?_)|rfl)));(all_goals (try conv => whnf)))
                rotate_right
                focus
                  conv => whnf
                  refine ⟨(by repeat' ((conv => whnf);first|exact trivial|(refine And.intro ?_ ?_)|rfl)), ?_⟩
                  refine zd1 [1] (zx rfl ?_ zy)
                  conv => whnf
                  refine short_call p.1 p.2 rfl hp (fun _ h => h) ?_
                  ((conv => whnf);(refine And.intro ?_ (And.intro ?_ (And.intro ?_ (And.intro ?_ ?_))));(all_goals ((repeat' (first|((conv => whnf);done)|((try conv => whnf);first|exact trivial|(refine And.intro ?_ ?_)|rfl)));(all_goals (try conv => whnf))));rotate_right)
                  intro ls1 hls1 G1
                  conv => whnf
                  refine ⟨(by repeat' ((conv => whnf);first|exact trivial|(refine And.intro ?_ ?_)|rfl)), ?_⟩
                  refine zd1 [3] (zx rfl ?_ zy)
                  conv => whnf
                  refine short_call p.1 p.2 rfl hp (fun _ h => h) ?_
                  ((conv => whnf);(refine And.intro ?_ (And.intro ?_ (And.intro ?_ (And.intro ?_ ?_))));(all_goals ((repeat' (first|((conv => whnf);done)|((try conv => whnf);first|exact trivial|(refine And.intro ?_ ?_)|rfl)));(all_goals (try conv => whnf))));rotate_right)
                  intro ls2 hls2 G2
                  conv => whnf
                  refine ⟨(by repeat' ((conv => whnf);first|exact trivial|(refine And.intro ?_ ?_)|rfl)), ?_⟩
                  refine zd1 [7] (zx rfl ?_ zy)
                  conv => whnf
                  refine short_call p0.1 p0.2 rfl hp0 (fun _ h => h) ?_
                  ((conv => whnf);(refine And.intro ?_ (And.intro ?_ (And.intro ?_ (And.intro ?_ ?_))));(all_goals ((repeat' (first|((conv => whnf);done)|((try conv => whnf);first|exact trivial|(refine And.intro ?_ ?_)|rfl)));(all_goals (try conv => whnf))));rotate_right)
                  intro ls3 hls3 G3
                  conv => whnf
                  refine ⟨(by repeat' ((conv => whnf);first|exact trivial|(refine And.intro ?_ ?_)|rfl)), ?_⟩
                  refine zd1 [11] (zx rfl ?_ zy)
                  conv => whnf
                  refine ⟨(by repeat' ((conv => whnf);first|exact trivial|(refine And.intro ?_ ?_)|rfl)), ?_⟩
                  refine zd1 [12] (zx rfl ?_ zy)
                  conv => whnf
                  refine ⟨(by repeat' ((conv => whnf);first|exact trivial|(refine And.intro ?_ ?_)|rfl)), ?_⟩
                  refine zd1 [13] (zx rfl ?_ zy)
                  conv => whnf
                  refine ⟨(by repeat' ((conv => whnf);first|exact trivial|(refine And.intro ?_ ?_)|rfl)), ?_⟩
                  refine zw ?_
                  refine ⟨(ls1, ls2, ls3, G1, G2, G3), ⟨hls1, hls2, hls3⟩, ?_⟩
                  ((repeat' (first|((conv => whnf);done)|((try conv => whnf);first|exact trivial|(refine And.intro ?_ ?_)|rfl)));(all_goals (try conv => whnf)))
        rotate_right
        focus
          conv => whnf
          refine ⟨(by repeat' ((conv => whnf);first|exact trivial|(refine And.intro ?_ ?_)|rfl)), ?_⟩
          focus
            refine zd1 [1, 9, 10] (zx rfl ?_ (zx rfl ?_ (zx rfl ?_ zy)))
            focus
              conv => whnf
              refine short_call p.1 p.2 rfl hp (fun _ h => h) ?_
              ((conv => whnf);(refine And.intro ?_ (And.intro ?_ (And.intro ?_ (And.intro ?_ ?_))));(all_goals ((repeat' (first|((conv => whnf);done)|((try conv => whnf);first|exact trivial|(refine And.intro ?_ ?_)|rfl)));(all_goals (try conv => whnf))));rotate_right)
              intro ls1 hls1 G1
              conv => whnf
              refine ⟨(by repeat' ((conv => whnf);first|exact trivial|(refine And.intro ?_ ?_)|rfl)), ?_⟩
              focus
                refine zd1 [3, 9, 10] (zx rfl ?_ (zx rfl ?_ (zx rfl ?_ zy)))
                focus
                  conv => whnf
                  refine short_call p.1 p.2 rfl hp (fun _ h => h) ?_
                  ((conv => whnf);(refine And.intro ?_ (And.intro ?_ (And.intro ?_ (And.intro ?_ ?_))));(all_goals ((repeat' (first|((conv => whnf);done)|((try conv => whnf);first|exact trivial|(refine And.intro ?_ ?_)|rfl)));(all_goals (try conv => whnf))));rotate_right)
                  intro ls2 hls2 G2
                  conv => whnf
                  refine ⟨(by repeat' ((conv => whnf);first|exact trivial|(refine And.intro ?_ ?_)|rfl)), ?_⟩
                  focus
                    refine zd1 [7, 9, 10] (zx rfl ?_ (zx rfl ?_ (zx rfl ?_ zy)))
                    focus
                      conv => whnf
                      refine short_call p0.1 p0.2 rfl hp0 (fun _ h => h) ?_
                      ((conv => whnf);(refine And.intro ?_ (And.intro ?_ (And.intro ?_ (And.intro ?_ ?_))));(all_goals ((repeat' (first|((conv => whnf);done)|((try conv => whnf);first|exact trivial|(refine And.intro ?_ ?_)|rfl)));(all_goals (try conv => whnf))));rotate_right)
                      intro ls3 hls3 G3
                      conv => whnf
                      refine ⟨(by repeat' ((conv => whnf);first|exact trivial|(refine And.intro ?_ ?_)|rfl)), ?_⟩
                      focus
                        refine zd1 [9, 10] (zx rfl ?_ (zx rfl ?_ zy))
                        focus
                          conv => whnf
                          refine ⟨(by repeat' ((conv => whnf);first|exact trivial|(refine And.intro ?_ ?_)|rfl)), ?_⟩
                          refine zd1 [10] (zx rfl ?_ zy)
                          conv => whnf
                          refine ⟨(by repeat' ((conv => whnf);first|exact trivial|(refine And.intro ?_ ?_)|rfl)), ?_⟩
                          refine zd1 [11] (zx rfl ?_ zy)
                          conv => whnf
                          refine ⟨(by repeat' ((conv => whnf);first|exact trivial|(refine And.intro ?_ ?_)|rfl)), ?_⟩
                          refine zd1 [12] (zx rfl ?_ zy)
                          conv => whnf
                          refine ⟨(by repeat' ((conv => whnf);first|exact trivial|(refine And.intro ?_ ?_)|rfl)), ?_⟩
                          refine zd1 [13] (zx rfl ?_ zy)
                          conv => whnf
                          refine ⟨(by repeat' ((conv => whnf);first|exact trivial|(refine And.intro ?_ ?_)|rfl)), ?_⟩
                          refine zw ?_
                          refine ⟨(ls1, ls2, ls3, G1, G2, G3), ⟨hls1, hls2, hls3⟩, ?_⟩
                          ((repeat' (first|((conv => whnf);done)|((try conv => whnf);first|exact trivial|(refine And.intro ?_ ?_)|rfl)));(all_goals (try conv => whnf)))
                        rotate_right
                        focus
                          conv => whnf
                          refine ⟨(by repeat' ((conv => whnf);first|exact trivial|(refine And.intro ?_ ?_)|rfl)), ?_⟩
                          refine zd1 [9] (zx rfl ?_ zy)
                          conv => whnf
                          refine ⟨(by repeat' ((conv => whnf);first|exact trivial|(refine And.intro ?_ ?_)|rfl)), ?_⟩
                          refine zd1 [11] (zx rfl ?_ zy)
                          conv => whnf
                          refine ⟨(by repeat' ((conv => whnf);first|exact trivial|(refine And.intro ?_ ?_)|rfl)), ?_⟩
                          refine zd1 [12] (zx rfl ?_ zy)
                          conv => whnf
                          refine ⟨(by repeat' ((conv => whnf);first|exact trivial|(refine And.intro ?_ ?_)|rfl)), ?_⟩
                          refine zd1 [13] (zx rfl ?_ zy)
                          conv => whnf
                          refine ⟨(by repeat' ((conv => whnf);first|exact trivial|(refine And.intro ?_ ?_)|rfl)), ?_⟩
                          refine zw ?_
                          refine ⟨(ls1, ls2, ls3, G1, G2, G3), ⟨hls1, hls2, hls3⟩, ?_⟩
                          ((repeat' (first|((conv => whnf);done)|((try conv => whnf);first|exact trivial|(refine And.intro ?_ ?_)|rfl)));(all_goals (try conv => whnf)))
                    rotate_right
                    focus
                      conv => whnf
                      refine ⟨(by repeat' ((conv => whnf);first|exact trivial|(refine And.intro ?_ ?_)|rfl)), ?_⟩
                      focus
                        refine zd1 [7, 9] (zx rfl ?_ (zx rfl ?_ zy))
                        focus
                          conv => whnf
                          refine short_call p0.1 p0.2 rfl hp0 (fun _ h => h) ?_
                          ((conv => whnf);(refine And.intro ?_ (And.intro ?_ (And.intro ?_ (And.intro ?_ ?_))));(all_goals ((repeat' (first|((conv => whnf);done)|((try conv => whnf);first|exact trivial|(refine And.intro ?_ ?_)|rfl)));(all_goals (try conv => whnf))));rotate_right)
                          intro ls3 hls3 G3
                          conv => whnf
                          refine ⟨(by repeat' ((conv => whnf);first|exact trivial|(refine And.intro ?_ ?_)|rfl)), ?_⟩
                          refine zd1 [9] (zx rfl ?_ zy)
                          conv => whnf
                          refine ⟨(by repeat' ((conv => whnf);first|exact trivial|(refine And.intro ?_ ?_)|rfl)), ?_⟩
                          refine zd1 [11] (zx rfl ?_ zy)
                          conv => whnf
                          refine ⟨(by repeat' ((conv => whnf);first|exact trivial|(refine And.intro ?_ ?_)|rfl)), ?_⟩
                          refine zd1 [12] (zx rfl ?_ zy)
                          conv => whnf
                          refine ⟨(by repeat' ((conv => whnf);first|exact trivial|(refine And.intro ?_ ?_)|rfl)), ?_⟩
                          refine zd1 [13] (zx rfl ?_ zy)
                          conv => whnf
                          refine ⟨(by repeat' ((conv => whnf);first|exact trivial|(refine And.intro ?_ ?_)|rfl)), ?_⟩
                          refine zw ?_
                          refine ⟨(ls1, ls2, ls3, G1, G2, G3), ⟨hls1, hls2, hls3⟩, ?_⟩
                          ((repeat' (first|((conv => whnf);done)|((try conv => whnf);first|exact trivial|(refine And.intro ?_ ?_)|rfl)));(all_goals (try conv => whnf)))
                        rotate_right
                        focus
                          conv => whnf
                          refine ⟨(by repeat' ((conv => whnf);first|exact trivial|(refine And.intro ?_ ?_)|rfl)), ?_⟩
                          refine zd1 [7] (zx rfl ?_ zy)
                          conv => whnf
                          refine short_call p0.1 p0.2 rfl hp0 (fun _ h => h) ?_
                          ((conv => whnf);(refine And.intro ?_ (And.intro ?_ (And.intro ?_ (And.intro ?_ ?_))));(all_goals ((repeat' (first|((conv => whnf);done)|((try conv => whnf);first|exact trivial|(refine And.intro ?_ ?_)|rfl)));(all_goals (try conv => whnf))));rotate_right)
                          intro ls3 hls3 G3
                          conv => whnf
                          refine ⟨(by repeat' ((conv => whnf);first|exact trivial|(refine And.intro ?_ ?_)|rfl)), ?_⟩
                          refine zd1 [11] (zx rfl ?_ zy)
                          conv => whnf
                          refine ⟨(by repeat' ((conv => whnf);first|exact trivial|(refine And.intro ?_ ?_)|rfl)), ?_⟩
                          refine zd1 [12] (zx rfl ?_ zy)
                          conv => whnf
                          refine ⟨(by repeat' ((conv => whnf);first|exact trivial|(refine And.intro ?_ ?_)|rfl)), ?_⟩
                          refine zd1 [13] (zx rfl ?_ zy)
                          conv => whnf
                          refine ⟨(by repeat' ((conv => whnf);first|exact trivial|(refine And.intro ?_ ?_)|rfl)), ?_⟩
                          refine zw ?_
                          refine ⟨(ls1, ls2, ls3, G1, G2, G3), ⟨hls1, hls2, hls3⟩, ?_⟩
                          ((repeat' (first|((conv => whnf);done)|((try conv => whnf);first|exact trivial|(refine And.intro ?_ ?_)|rfl)));(all_goals (try conv => whnf)))
                    rotate_right
                    focus
                      conv => whnf
                      refine ⟨(by repeat' ((conv => whnf);first|exact trivial|(refine And.intro ?_ ?_)|rfl)), ?_⟩
                      focus
                        refine zd1 [7, 10] (zx rfl ?_ (zx rfl ?_ zy))
                        focus
                          conv => whnf
                          refine short_call p0.1 p0.2 rfl hp0 (fun _ h => h) ?_
                          ((conv => whnf);(refine And.intro ?_ (And.intro ?_ (And.intro ?_ (And.intro ?_ ?_))));(all_goals ((repeat' (first|((conv => whnf);done)|((try conv => whnf);first|exact trivial|(refine And.intro ?_ ?_)|rfl)));(all_goals (try conv => whnf))));rotate_right)
                          intro ls3 hls3 G3
                          conv => whnf
                          refine ⟨(by repeat' ((conv => whnf);first|exact trivial|(refine And.intro ?_ ?_)|rfl)), ?_⟩
                          refine zd1 [10] (zx rfl ?_ zy)
                          conv => whnf
                          refine ⟨(by repeat' ((conv => whnf);first|exact trivial|(refine And.intro ?_ ?_)|rfl)), ?_⟩
                          refine zd1 [11] (zx rfl ?_ zy)
                          conv => whnf
                          refine ⟨(by repeat' ((conv => whnf);first|exact trivial|(refine And.intro ?_ ?_)|rfl)), ?_⟩
                          refine zd1 [12] (zx rfl ?_ zy)
                          conv => whnf
                          refine ⟨(by repeat' ((conv => whnf);first|exact trivial|(refine And.intro ?_ ?_)|rfl)), ?_⟩
                          refine zd1 [13] (zx rfl ?_ zy)
                          conv => whnf
                          refine ⟨(by repeat' ((conv => whnf);first|exact trivial|(refine And.intro ?_ ?_)|rfl)), ?_⟩
                          refine zw ?_
                          refine ⟨(ls1, ls2, ls3, G1, G2, G3), ⟨hls1, hls2, hls3⟩, ?_⟩
                          ((repeat' (first|((conv => whnf);done)|((try conv => whnf);first|exact trivial|(refine And.intro ?_ ?_)|rfl)));(all_goals (try conv => whnf)))
                        rotate_right
                        focus
                          conv => whnf
                          refine ⟨(by repeat' ((conv => whnf);first|exact trivial|(refine And.intro ?_ ?_)|rfl)), ?_⟩
                          refine zd1 [7] (zx rfl ?_ zy)
                          conv => whnf
                          refine short_call p0.1 p0.2 rfl hp0 (fun _ h => h) ?_
                          ((conv => whnf);(refine And.intro ?_ (And.intro ?_ (And.intro ?_ (And.intro ?_ ?_))));(all_goals ((repeat' (first|((conv => whnf);done)|((try conv => whnf);first|exact trivial|(refine And.intro ?_ ?_)|rfl)));(all_goals (try conv => whnf))));rotate_right)
                          intro ls3 hls3 G3
                          conv => whnf
                          refine ⟨(by repeat' ((conv => whnf);first|exact trivial|(refine And.intro ?_ ?_)|rfl)), ?_⟩
                          refine zd1 [11] (zx rfl ?_ zy)
                          conv => whnf
                          refine ⟨(by repeat' ((conv => whnf);first|exact trivial|(refine And.intro ?_ ?_)|rfl)), ?_⟩
                          refine zd1 [12] (zx rfl ?_ zy)
                          conv => whnf
                          refine ⟨(by repeat' ((conv => whnf);first|exact trivial|(refine And.intro ?_ ?_)|rfl)), ?_⟩
                          refine zd1 [13] (zx rfl ?_ zy)
                          conv => whnf
                          refine ⟨(by repeat' ((conv => whnf);first|exact trivial|(refine And.intro ?_ ?_)|rfl)), ?_⟩
                          refine zw ?_
                          refine ⟨(ls1, ls2, ls3, G1, G2, G3), ⟨hls1, hls2, hls3⟩, ?_⟩
                          ((repeat' (first|((conv => whnf);done)|((try conv => whnf);first|exact trivial|(refine And.intro ?_ ?_)|rfl)));(all_goals (try conv => whnf)))
                rotate_right
                focus
                  conv => whnf
                  refine ⟨(by repeat' ((conv => whnf);first|exact trivial|(refine And.intro ?_ ?_)|rfl)), ?_⟩
                  focus
                    refine zd1 [3, 9] (zx rfl ?_ (zx rfl ?_ zy))
                    focus
                      conv => whnf
                      refine short_call p.1 p.2 rfl hp (fun _ h => h) ?_
                      ((conv => whnf);(refine And.intro ?_ (And.intro ?_ (And.intro ?_ (And.intro ?_ ?_))));(all_goals ((repeat' (first|((conv => whnf);done)|((try conv => whnf);first|exact trivial|(refine And.intro ?_ ?_)|rfl)));(all_goals (try conv => whnf))));rotate_right)
                      intro ls2 hls2 G2
                      conv => whnf
                      refine ⟨(by repeat' ((conv => whnf);first|exact trivial|(refine And.intro ?_ ?_)|rfl)), ?_⟩
                      focus
                        refine zd1 [7, 9] (zx rfl ?_ (zx rfl ?_ zy))
                        focus
                          conv => whnf
                          refine short_call p0.1 p0.2 rfl hp0 (fun _ h => h) ?_
                          ((conv => whnf);(refine And.intro ?_ (And.intro ?_ (And.intro ?_ (And.intro ?_ ?_))));(all_goals ((repeat' (first|((conv => whnf);done)|((try conv => whnf);first|exact trivial|(refine And.intro ?_ ?_)|rfl)));(all_goals (try conv => whnf))));rotate_right)
                          intro ls3 hls3 G3
                          conv => whnf
                          refine ⟨(by repeat' ((conv => whnf);first|exact trivial|(refine And.intro ?_ ?_)|rfl)), ?_⟩
                          refine zd1 [9] (zx rfl ?_ zy)
                          conv => whnf
                          refine ⟨(by repeat' ((conv => whnf);first|exact trivial|(refine And.intro ?_ ?_)|rfl)), ?_⟩
                          refine zd1 [11] (zx rfl ?_ zy)
                          conv => whnf
                          refine ⟨(by repeat' ((conv => whnf);first|exact trivial|(refine And.intro ?_ ?_)|rfl)), ?_⟩
                          refine zd1 [12] (zx rfl ?_ zy)
                          conv => whnf
                          refine ⟨(by repeat' ((conv => whnf);first|exact trivial|(refine And.intro ?_ ?_)|rfl)), ?_⟩
                          refine zd1 [13] (zx rfl ?_ zy)
                          conv => whnf
                          refine ⟨(by repeat' ((conv => whnf);first|exact trivial|(refine And.intro ?_ ?_)|rfl)), ?_⟩
                          refine zw ?_
                          refine ⟨(ls1, ls2, ls3, G1, G2, G3), ⟨hls1, hls2, hls3⟩, ?_⟩
                          ((repeat' (first|((conv => whnf);done)|((try conv => whnf);first|exact trivial|(refine And.intro ?_ ?_)|rfl)));(all_goals (try conv => whnf)))
                        rotate_right
                        focus
                          conv => whnf
                          refine ⟨(by repeat' ((conv => whnf);first|exact trivial|(refine And.intro ?_ ?_)|rfl)), ?_⟩
                          refine zd1 [7] (zx rfl ?_ zy)
                          conv => whnf
                          refine short_call p0.1 p0.2 rfl hp0 (fun _ h => h) ?_
                          ((conv => whnf);(refine And.intro ?_ (And.intro ?_ (And.intro ?_ (And.intro ?_ ?_))));(all_goals ((repeat' (first|((conv => whnf);done)|((try conv => whnf);first|exact trivial|(refine And.intro ?_ ?_)|rfl)));(all_goals (try conv => whnf))));rotate_right)
                          intro ls3 hls3 G3
                          conv => whnf
                          refine ⟨(by repeat' ((conv => whnf);first|exact trivial|(refine And.intro ?_ ?_)|rfl)), ?_⟩
                          refine zd1 [11] (zx rfl ?_ zy)
                          conv => whnf
                          refine ⟨(by repeat' ((conv => whnf);first|exact trivial|(refine And.intro ?_ ?_)|rfl)), ?_⟩
                          refine zd1 [12] (zx rfl ?_ zy)
                          conv => whnf
                          refine ⟨(by repeat' ((conv => whnf);first|exact trivial|(refine And.intro ?_ ?_)|rfl)), ?_⟩
                          refine zd1 [13] (zx rfl ?_ zy)
                          conv => whnf
                          refine ⟨(by repeat' ((conv => whnf);first|exact trivial|(refine And.intro ?_ ?_)|rfl)), ?_⟩
                          refine zw ?_
                          refine ⟨(ls1, ls2, ls3, G1, G2, G3), ⟨hls1, hls2, hls3⟩, ?_⟩
                          ((repeat' (first|((conv => whnf);done)|((try conv => whnf);first|exact trivial|(refine And.intro ?_ ?_)|rfl)));(all_goals (try conv => whnf)))
                    rotate_right
                    focus
                      conv => whnf
                      refine ⟨(by repeat' ((conv => whnf);first|exact trivial|(refine And.intro ?_ ?_)|rfl)), ?_⟩
                      refine zd1 [3] (zx rfl ?_ zy)
                      conv => whnf
                      refine short_call p.1 p.2 rfl hp (fun _ h => h) ?_
                      ((conv => whnf);(refine And.intro ?_ (And.intro ?_ (And.intro ?_ (And.intro ?_ ?_))));(all_goals ((repeat' (first|((conv => whnf);done)|((try conv => whnf);first|exact trivial|(refine And.intro ?_ ?_)|rfl)));(all_goals (try conv => whnf))));rotate_right)
                      intro ls2 hls2 G2
                      conv => whnf
                      refine ⟨(by repeat' ((conv => whnf);first|exact trivial|(refine And.intro ?_ ?_)|rfl)), ?_⟩
                      refine zd1 [7] (zx rfl ?_ zy)
                      conv => whnf
                      refine short_call p0.1 p0.2 rfl hp0 (fun _ h => h) ?_
                      ((conv => whnf);(refine And.intro ?_ (And.intro ?_ (And.intro ?_ (And.intro ?_ ?_))));(all_goals ((repeat' (first|((conv => whnf);done)|((try conv => whnf);first|exact trivial|(refine And.intro ?_ ?_)|rfl)));(all_goals (try conv => whnf))));rotate_right)
                      intro ls3 hls3 G3
                      conv => whnf
                      refine ⟨(by repeat' ((conv => whnf);first|exact trivial|(refine And.intro ?_ ?_)|rfl)), ?_⟩
                      refine zd1 [11] (zx rfl ?_ zy)
                      conv => whnf
                      refine ⟨(by repeat' ((conv => whnf);first|exact trivial|(refine And.intro ?_ ?_)|rfl)), ?_⟩
                      refine zd1 [12] (zx rfl ?_ zy)
                      conv => whnf
                      refine ⟨(by repeat' ((conv => whnf);first|exact trivial|(refine And.intro ?_ ?_)|rfl)), ?_⟩
                      refine zd1 [13] (zx rfl ?_ zy)
                      conv => whnf
                      refine ⟨(by repeat' ((conv => whnf);first|exact trivial|(refine And.intro ?_ ?_)|rfl)), ?_⟩
                      refine zw ?_
                      refine ⟨(ls1, ls2, ls3, G1, G2, G3), ⟨hls1, hls2, hls3⟩, ?_⟩
                      ((repeat' (first|((conv => whnf);done)|((try conv => whnf);first|exact trivial|(refine And.intro ?_ ?_)|rfl)));(all_goals (try conv => whnf)))
                rotate_right
                focus
                  conv => whnf
                  refine ⟨(by repeat' ((conv => whnf);first|exact trivial|(refine And.intro ?_ ?_)|rfl)), ?_⟩
                  focus
                    refine zd1 [3, 10] (zx rfl ?_ (zx rfl ?_ zy))
                    focus
                      conv => whnf
                      refine short_call p.1 p.2 rfl hp (fun _ h => h) ?_
                      ((conv => whnf);(refine And.intro ?_ (And.intro ?_ (And.intro ?_ (And.intro ?_ ?_))));(all_goals ((repeat' (first|((conv => whnf);done)|((try conv => whnf);first|exact trivial|(refine And.intro ?_ ?_)|rfl)));(all_goals (try conv => whnf))));rotate_right)
                      intro ls2 hls2 G2
                      conv => whnf
                      refine ⟨(by repeat' ((conv => whnf);first|exact trivial|(refine And.intro ?_ ?_)|rfl)), ?_⟩
                      focus
                        refine zd1 [7, 10] (zx rfl ?_ (zx rfl ?_ zy))
                        focus
                          conv => whnf
                          refine short_call p0.1 p0.2 rfl hp0 (fun _ h => h) ?_
                          ((conv => whnf);(refine And.intro ?_ (And.intro ?_ (And.intro ?_ (And.intro ?_ ?_))));(all_goals ((repeat' (first|((conv => whnf);done)|((try conv => whnf);first|exact trivial|(refine And.intro ?_ ?_)|rfl)));(all_goals (try conv => whnf))));rotate_right)
                          intro ls3 hls3 G3
                          conv => whnf
                          refine ⟨(by repeat' ((conv => whnf);first|exact trivial|(refine And.intro ?_ ?_)|rfl)), ?_⟩
                          refine zd1 [10] (zx rfl ?_ zy)
                          conv => whnf
                          refine ⟨(by repeat' ((conv => whnf);first|exact trivial|(refine And.intro ?_ ?_)|rfl)), ?_⟩
                          refine zd1 [11] (zx rfl ?_ zy)
                          conv => whnf
                          refine ⟨(by repeat' ((conv => whnf);first|exact trivial|(refine And.intro ?_ ?_)|rfl)), ?_⟩
                          refine zd1 [12] (zx rfl ?_ zy)
                          conv => whnf
                          refine ⟨(by repeat' ((conv => whnf);first|exact trivial|(refine And.intro ?_ ?_)|rfl)), ?_⟩
                          refine zd1 [13] (zx rfl ?_ zy)
                          conv => whnf
                          refine ⟨(by repeat' ((conv => whnf);first|exact trivial|(refine And.intro ?_ ?_)|rfl)), ?_⟩
                          refine zw ?_
                          refine ⟨(ls1, ls2, ls3, G1, G2, G3), ⟨hls1, hls2, hls3⟩, ?_⟩
                          ((repeat' (first|((conv => whnf);done)|((try conv => whnf);first|exact trivial|(refine And.intro ?_ ?_)|rfl)));(all_goals (try conv => whnf)))
                        rotate_right
                        focus
                          conv => whnf
                          refine ⟨(by repeat' ((conv => whnf);first|exact trivial|(refine And.intro ?_ ?_)|rfl)), ?_⟩
                          refine zd1 [7] (zx rfl ?_ zy)
                          conv => whnf
                          refine short_call p0.1 p0.2 rfl hp0 (fun _ h => h) ?_
                          ((conv => whnf);(refine And.intro ?_ (And.intro ?_ (And.intro ?_ (And.intro ?_ ?_))));(all_goals ((repeat' (first|((conv => whnf);done)|((try conv => whnf);first|exact trivial|(refine And.intro ?_ ?_)|rfl)));(all_goals (try conv => whnf))));rotate_right)
                          intro ls3 hls3 G3
                          conv => whnf
                          refine ⟨(by repeat' ((conv => whnf);first|exact trivial|(refine And.intro ?_ ?_)|rfl)), ?_⟩
                          refine zd1 [11] (zx rfl ?_ zy)
                          conv => whnf
                          refine ⟨(by repeat' ((conv => whnf);first|exact trivial|(refine And.intro ?_ ?_)|rfl)), ?_⟩
                          refine zd1 [12] (zx rfl ?_ zy)
                          conv => whnf
                          refine ⟨(by repeat' ((conv => whnf);first|exact trivial|(refine And.intro ?_ ?_)|rfl)), ?_⟩
                          refine zd1 [13] (zx rfl ?_ zy)
                          conv => whnf
                          refine ⟨(by repeat' ((conv => whnf);first|exact trivial|(refine And.intro ?_ ?_)|rfl)), ?_⟩
                          refine zw ?_
                          refine ⟨(ls1, ls2, ls3, G1, G2, G3), ⟨hls1, hls2, hls3⟩, ?_⟩
                          ((repeat' (first|((conv => whnf);done)|((try conv => whnf);first|exact trivial|(refine And.intro ?_ ?_)|rfl)));(all_goals (try conv => whnf)))
                    rotate_right
                    focus
                      conv => whnf
                      refine ⟨(by repeat' ((conv => whnf);first|exact trivial|(refine And.intro ?_ ?_)|rfl)), ?_⟩
                      refine zd1 [3] (zx rfl ?_ zy)
                      conv => whnf
                      refine short_call p.1 p.2 rfl hp (fun _ h => h) ?_
                      ((conv => whnf);(refine And.intro ?_ (And.intro ?_ (And.intro ?_ (And.intro ?_ ?_))));(all_goals ((repeat' (first|((conv => whnf);done)|((try conv => whnf);first|exact trivial|(refine And.intro ?_ ?_)|rfl)));(all_goals (try conv => whnf))));rotate_right)
                      intro ls2 hls2 G2
                      conv => whnf
                      refine ⟨(by repeat' ((conv => whnf);first|exact trivial|(refine And.intro ?_ ?_)|rfl)), ?_⟩
                      refine zd1 [7] (zx rfl ?_ zy)
                      conv => whnf
                      refine short_call p0.1 p0.2 rfl hp0 (fun _ h => h) ?_
                      ((conv => whnf);(refine And.intro ?_ (And.intro ?_ (And.intro ?_ (And.intro ?_ ?_))));(all_goals ((repeat' (first|((conv => whnf);done)|((try conv => whnf);first|exact trivial|(refine And.intro ?_ ?_)|rfl)));(all_goals (try conv => whnf))));rotate_right)
                      intro ls3 hls3 G3
                      conv => whnf
                      refine ⟨(by repeat' ((conv => whnf);first|exact trivial|(refine And.intro ?_ ?_)|rfl)), ?_⟩
                      refine zd1 [11] (zx rfl ?_ zy)
                      conv => whnf
                      refine ⟨(by repeat' ((conv => whnf);first|exact trivial|(refine And.intro ?_ ?_)|rfl)), ?_⟩
                      refine zd1 [12] (zx rfl ?_ zy)
                      conv => whnf
                      refine ⟨(by repeat' ((conv => whnf);first|exact trivial|(refine And.intro ?_ ?_)|rfl)), ?_⟩
                      refine zd1 [13] (zx rfl ?_ zy)
                      conv => whnf
                      refine ⟨(by repeat' ((conv => whnf);first|exact trivial|(refine And.intro ?_ ?_)|rfl)), ?_⟩
                      refine zw ?_
                      refine ⟨(ls1, ls2, ls3, G1, G2, G3), ⟨hls1, hls2, hls3⟩, ?_⟩
                      ((repeat' (first|((conv => whnf);done)|((try conv => whnf);first|exact trivial|(refine And.intro ?_ ?_)|rfl)));(all_goals (try conv => whnf)))
            rotate_right
            focus
              conv => whnf
              refine ⟨(by repeat' ((conv => whnf);first|exact trivial|(refine And.intro ?_ ?_)|rfl)), ?_⟩
              focus
                refine zd1 [1, 9] (zx rfl ?_ (zx rfl ?_ zy))
                focus
                  conv => whnf
                  refine short_call p.1 p.2 rfl hp (fun _ h => h) ?_
                  ((conv => whnf);(refine And.intro ?_ (And.intro ?_ (And.intro ?_ (And.intro ?_ ?_))));(all_goals ((repeat' (first|((conv => whnf);done)|((try conv => whnf);first|exact trivial|(refine And.intro ?_ ?_)|rfl)));(all_goals (try conv => whnf))));rotate_right)
                  intro ls1 hls1 G1
                  conv => whnf
                  refine ⟨(by repeat' ((conv => whnf);first|exact trivial|(refine And.intro ?_ ?_)|rfl)), ?_⟩
                  focus
                    refine zd1 [3, 9] (zx rfl ?_ (zx rfl ?_ zy))
                    focus
                      conv => whnf
                      refine short_call p.1 p.2 rfl hp (fun _ h => h) ?_
                      ((conv => whnf);(refine And.intro ?_ (And.intro ?_ (And.intro ?_ (And.intro ?_ ?_))));(all_goals ((repeat' (first|((conv => whnf);done)|((try conv => whnf);first|exact trivial|(refine And.intro ?_ ?_)|rfl)));(all_goals (try conv => whnf))));rotate_right)
                      intro ls2 hls2 G2
                      conv => whnf
                      refine ⟨(by repeat' ((conv => whnf);first|exact trivial|(refine And.intro ?_ ?_)|rfl)), ?_⟩
                      focus
                        refine zd1 [7, 9] (zx rfl ?_ (zx rfl ?_ zy))
                        focus
                          conv => whnf
                          refine short_call p0.1 p0.2 rfl hp0 (fun _ h => h) ?_
                          ((conv => whnf);(refine And.intro ?_ (And.intro ?_ (And.intro ?_ (And.intro ?_ ?_))));(all_goals ((repeat' (first|((conv => whnf);done)|((try conv => whnf);first|exact trivial|(refine And.intro ?_ ?_)|rfl)));(all_goals (try conv => whnf))));rotate_right)
                          intro ls3 hls3 G3
                          conv => whnf
                          refine ⟨(by repeat' ((conv => whnf);first|exact trivial|(refine And.intro ?_ ?_)|rfl)), ?_⟩
                          refine zd1 [9] (zx rfl ?_ zy)
                          conv => whnf
                          refine ⟨(by repeat' ((conv => whnf);first|exact trivial|(refine And.intro ?_ ?_)|rfl)), ?_⟩
                          refine zd1 [11] (zx rfl ?_ zy)
                          conv => whnf
                          refine ⟨(by repeat' ((conv => whnf);first|exact trivial|(refine And.intro ?_ ?_)|rfl)), ?_⟩
                          refine zd1 [12] (zx rfl ?_ zy)
                          conv => whnf
                          refine ⟨(by repeat' ((conv => whnf);first|exact trivial|(refine And.intro ?_ ?_)|rfl)), ?_⟩
                          refine zd1 [13] (zx rfl ?_ zy)
                          conv => whnf
                          refine ⟨(by repeat' ((conv => whnf);first|exact trivial|(refine And.intro ?_ ?_)|rfl)), ?_⟩
                          refine zw ?_
                          refine ⟨(ls1, ls2, ls3, G1, G2, G3), ⟨hls1, hls2, hls3⟩, ?_⟩
                          ((repeat' (first|((conv => whnf);done)|((try conv => whnf);first|exact trivial|(refine And.intro ?_ ?_)|rfl)));(all_goals (try conv => whnf)))
                        rotate_right
                        focus
                          conv => whnf
                          refine ⟨(by repeat' ((conv => whnf);first|exact trivial|(refine And.intro ?_ ?_)|rfl)), ?_⟩
                          refine zd1 [7] (zx rfl ?_ zy)
                          conv => whnf
                          refine short_call p0.1 p0.2 rfl hp0 (fun _ h => h) ?_
                          ((conv => whnf);(refine And.intro ?_ (And.intro ?_ (And.intro ?_ (And.intro ?_ ?_))));(all_goals ((repeat' (first|((conv => whnf);done)|((try conv => whnf);first|exact trivial|(refine And.intro ?_ ?_)|rfl)));(all_goals (try conv => whnf))));rotate_right)
                          intro ls3 hls3 G3
                          conv => whnf
                          refine ⟨(by repeat' ((conv => whnf);first|exact trivial|(refine And.intro ?_ ?_)|rfl)), ?_⟩
                          refine zd1 [11] (zx rfl ?_ zy)
                          conv => whnf
                          refine ⟨(by repeat' ((conv => whnf);first|exact trivial|(refine And.intro ?_ ?_)|rfl)), ?_⟩
                          refine zd1 [12] (zx rfl ?_ zy)
                          conv => whnf
                          refine ⟨(by repeat' ((conv => whnf);first|exact trivial|(refine And.intro ?_ ?_)|rfl)), ?_⟩
                          refine zd1 [13] (zx rfl ?_ zy)
                          conv => whnf
                          refine ⟨(by repeat' ((conv => whnf);first|exact trivial|(refine And.intro ?_ ?_)|rfl)), ?_⟩
                          refine zw ?_
                          refine ⟨(ls1, ls2, ls3, G1, G2, G3), ⟨hls1, hls2, hls3⟩, ?_⟩
                          ((repeat' (first|((conv => whnf);done)|((try conv => whnf);first|exact trivial|(refine And.intro ?_ ?_)|rfl)));(all_goals (try conv => whnf)))
                    rotate_right
                    focus
                      conv => whnf
                      refine ⟨(by repeat' ((conv => whnf);first|exact trivial|(refine And.intro ?_ ?_)|rfl)), ?_⟩
                      refine zd1 [3] (zx rfl ?_ zy)
                      conv => whnf
                      refine short_call p.1 p.2 rfl hp (fun _ h => h) ?_
                      ((conv => whnf);(refine And.intro ?_ (And.intro ?_ (And.intro ?_ (And.intro ?_ ?_))));(all_goals ((repeat' (first|((conv => whnf);done)|((try conv => whnf);first|exact trivial|(refine And.intro ?_ ?_)|rfl)));(all_goals (try conv => whnf))));rotate_right)
                      intro ls2 hls2 G2
                      conv => whnf
                      refine ⟨(by repeat' ((conv => whnf);first|exact trivial|(refine And.intro ?_ ?_)|rfl)), ?_⟩
                      refine zd1 [7] (zx rfl ?_ zy)
                      conv => whnf
                      refine short_call p0.1 p0.2 rfl hp0 (fun _ h => h) ?_
                      ((conv => whnf);(refine And.intro ?_ (And.intro ?_ (And.intro ?_ (And.intro ?_ ?_))));(all_goals ((repeat' (first|((conv => whnf);done)|((try conv => whnf);first|exact trivial|(refine And.intro ?_ ?_)|rfl)));(all_goals (try conv => whnf))));rotate_right)
                      intro ls3 hls3 G3
                      conv => whnf
                      refine ⟨(by repeat' ((conv => whnf);first|exact trivial|(refine And.intro ?_ ?_)|rfl)), ?_⟩
                      refine zd1 [11] (zx rfl ?_ zy)
                      conv => whnf
                      refine ⟨(by repeat' ((conv => whnf);first|exact trivial|(refine And.intro ?_ ?_)|rfl)), ?_⟩
                      refine zd1 [12] (zx rfl ?_ zy)
                      conv => whnf
                      refine ⟨(by repeat' ((conv => whnf);first|exact trivial|(refine And.intro ?_ ?_)|rfl)), ?_⟩
                      refine zd1 [13] (zx rfl ?_ zy)
                      conv => whnf
                      refine ⟨(by repeat' ((conv => whnf);first|exact trivial|(refine And.intro ?_ ?_)|rfl)), ?_⟩
                      refine zw ?_
                      refine ⟨(ls1, ls2, ls3, G1, G2, G3), ⟨hls1, hls2, hls3⟩, ?_⟩
                      ((repeat' (first|((conv => whnf);done)|((try conv => whnf);first|exact trivial|(refine And.intro ?_ ?_)|rfl)));(all_goals (try conv => whnf)))
                rotate_right
                focus
                  conv => whnf
                  refine ⟨(by repeat' ((conv => whnf);first|exact trivial|(refine And.intro ?_ ?_)|rfl)), ?_⟩
                  refine zd1 [1] (zx rfl ?_ zy)
                  conv => whnf
                  refine short_call p.1 p.2 rfl hp (fun _ h => h) ?_
                  ((conv => whnf);(refine And.intro ?_ (And.intro ?_ (And.intro ?_ (And.intro ?_ ?_))));(all_goals ((repeat' (first|((conv => whnf);done)|((try conv => whnf);first|exact trivial|(refine And.intro ?_ ?_)|rfl)));(all_goals (try conv => whnf))));rotate_right)
                  intro ls1 hls1 G1
                  conv => whnf
                  refine ⟨(by repeat' ((conv => whnf);first|exact trivial|(refine And.intro ?_ ?_)|rfl)), ?_⟩
                  refine zd1 [3] (zx rfl ?_ zy)
                  conv => whnf
                  refine short_call p.1 p.2 rfl hp (fun _ h => h) ?_
                  ((conv => whnf);(refine And.intro ?_ (And.intro ?_ (And.intro ?_ (And.intro ?_ ?_))));(all_goals ((repeat' (first|((conv => whnf);done)|((try conv => whnf);first|exact trivial|(refine And.intro ?_ ?_)|rfl)));(all_goals (try conv => whnf))));rotate_right)
                  intro ls2 hls2 G2
                  conv => whnf
                  refine ⟨(by repeat' ((conv => whnf);first|exact trivial|(refine And.intro ?_ ?_)|rfl)), ?_⟩
                  refine zd1 [7] (zx rfl ?_ zy)
                  conv => whnf
                  refine short_call p0.1 p0.2 rfl hp0 (fun _ h => h) ?_
                  ((conv => whnf);(refine And.intro ?_ (And.intro ?_ (And.intro ?_ (And.intro ?_ ?_))));(all_goals ((repeat' (first|((conv => whnf);done)|((try conv => whnf);first|exact trivial|(refine And.intro ?_ ?_)|rfl)));(all_goals (try conv => whnf))));rotate_right)
                  intro ls3 hls3 G3
                  conv => whnf
                  refine ⟨(by repeat' ((conv => whnf);first|exact trivial|(refine And.intro ?_ ?_)|rfl)), ?_⟩
                  refine zd1 [11] (zx rfl ?_ zy)
                  conv => whnf
                  refine ⟨(by repeat' ((conv => whnf);first|exact trivial|(refine And.intro ?_ ?_)|rfl)), ?_⟩
                  refine zd1 [12] (zx rfl ?_ zy)
                  conv => whnf
                  refine ⟨(by repeat' ((conv => whnf);first|exact trivial|(refine And.intro ?_ ?_)|rfl)), ?_⟩
                  refine zd1 [13] (zx rfl ?_ zy)
                  conv => whnf
                  refine ⟨(by repeat' ((conv => whnf);first|exact trivial|(refine And.intro ?_ ?_)|rfl)), ?_⟩
                  refine zw ?_
                  refine ⟨(ls1, ls2, ls3, G1, G2, G3), ⟨hls1, hls2, hls3⟩, ?_⟩
                  ((repeat' (first|((conv => whnf);done)|((try conv => whnf);first|exact trivial|(refine And.intro ?_ ?_)|rfl)));(all_goals (try conv => whnf)))
            rotate_right
            focus
              conv => whnf
              refine ⟨(by repeat' ((conv => whnf);first|exact trivial|(refine And.intro ?_ ?_)|rfl)), ?_⟩
              focus
                refine zd1 [1, 10] (zx rfl ?_ (zx rfl ?_ zy))
                focus
                  conv => whnf
                  refine short_call p.1 p.2 rfl hp (fun _ h => h) ?_
                  ((conv => whnf);(refine And.intro ?_ (And.intro ?_ (And.intro ?_ (And.intro ?_ ?_))));(all_goals ((repeat' (first|((conv => whnf);done)|((try conv => whnf);first|exact trivial|(refine And.intro ?_ ?_)|rfl)));(all_goals (try conv => whnf))));rotate_right)
                  intro ls1 hls1 G1
                  conv => whnf
                  refine ⟨(by repeat' ((conv => whnf);first|exact trivial|(refine And.intro ?_ ?_)|rfl)), ?_⟩
                  focus
                    refine zd1 [3, 10] (zx rfl ?_ (zx rfl ?_ zy))
                    focus
                      conv => whnf
                      refine short_call p.1 p.2 rfl hp (fun _ h => h) ?_
                      ((conv => whnf);(refine And.intro ?_ (And.intro ?_ (And.intro ?_ (And.intro ?_ ?_))));(all_goals ((repeat' (first|((conv => whnf);done)|((try conv => whnf);first|exact trivial|(refine And.intro ?_ ?_)|rfl)));(all_goals (try conv => whnf))));rotate_right)
                      intro ls2 hls2 G2
                      conv => whnf
                      refine ⟨(by repeat' ((conv => whnf);first|exact trivial|(refine And.intro ?_ ?_)|rfl)), ?_⟩
                      focus
                        refine zd1 [7, 10] (zx rfl ?_ (zx rfl ?_ zy))
                        focus
                          conv => whnf
                          refine short_call p0.1 p0.2 rfl hp0 (fun _ h => h) ?_
                          ((conv => whnf);(refine And.intro ?_ (And.intro ?_ (And.intro ?_ (And.intro ?_ ?_))));(all_goals ((repeat' (first|((conv => whnf);done)|((try conv => whnf);first|exact trivial|(refine And.intro ?_ ?_)|rfl)));(all_goals (try conv => whnf))));rotate_right)
                          intro ls3 hls3 G3
                          conv => whnf
                          refine ⟨(by repeat' ((conv => whnf);first|exact trivial|(refine And.intro ?_ ?_)|rfl)), ?_⟩
                          refine zd1 [10] (zx rfl ?_ zy)
                          conv => whnf
                          refine ⟨(by repeat' ((conv => whnf);first|exact trivial|(refine And.intro ?_ ?_)|rfl)), ?_⟩
                          refine zd1 [11] (zx rfl ?_ zy)
                          conv => whnf
                          refine ⟨(by repeat' ((conv => whnf);first|exact trivial|(refine And.intro ?_ ?_)|rfl)), ?_⟩
                          refine zd1 [12] (zx rfl ?_ zy)
                          conv => whnf
                          refine ⟨(by repeat' ((conv => whnf);first|exact trivial|(refine And.intro ?_ ?_)|rfl)), ?_⟩
                          refine zd1 [13] (zx rfl ?_ zy)
                          conv => whnf
                          refine ⟨(by repeat' ((conv => whnf);first|exact trivial|(refine And.intro ?_ ?_)|rfl)), ?_⟩
                          refine zw ?_
                          refine ⟨(ls1, ls2, ls3, G1, G2, G3), ⟨hls1, hls2, hls3⟩, ?_⟩
                          ((repeat' (first|((conv => whnf);done)|((try conv => whnf);first|exact trivial|(refine And.intro ?_ ?_)|rfl)));(all_goals (try conv => whnf)))
                        rotate_right
                        focus
                          conv => whnf
                          refine ⟨(by repeat' ((conv => whnf);first|exact trivial|(refine And.intro ?_ ?_)|rfl)), ?_⟩
                          refine zd1 [7] (zx rfl ?_ zy)
                          conv => whnf
                          refine short_call p0.1 p0.2 rfl hp0 (fun _ h => h) ?_
                          ((conv => whnf);(refine And.intro ?_ (And.intro ?_ (And.intro ?_ (And.intro ?_ ?_))));(all_goals ((repeat' (first|((conv => whnf);done)|((try conv => whnf);first|exact trivial|(refine And.intro ?_ ?_)|rfl)));(all_goals (try conv => whnf))));rotate_right)
                          intro ls3 hls3 G3
                          conv => whnf
                          refine ⟨(by repeat' ((conv => whnf);first|exact trivial|(refine And.intro ?_ ?_)|rfl)), ?_⟩
                          refine zd1 [11] (zx rfl ?_ zy)
                          conv => whnf
                          refine ⟨(by repeat' ((conv => whnf);first|exact trivial|(refine And.intro ?_ ?_)|rfl)), ?_⟩
                          refine zd1 [12] (zx rfl ?_ zy)
                          conv => whnf
                          refine ⟨(by repeat' ((conv => whnf);first|exact trivial|(refine And.intro ?_ ?_)|rfl)), ?_⟩
                          refine zd1 [13] (zx rfl ?_ zy)
                          conv => whnf
                          refine ⟨(by repeat' ((conv => whnf);first|exact trivial|(refine And.intro ?_ ?_)|rfl)), ?_⟩
                          refine zw ?_
                          refine ⟨(ls1, ls2, ls3, G1, G2, G3), ⟨hls1, hls2, hls3⟩, ?_⟩
                          ((repeat' (first|((conv => whnf);done)|((try conv => whnf);first|exact trivial|(refine And.intro ?_ ?_)|rfl)));(all_goals (try conv => whnf)))
                    rotate_right
                    focus
                      conv => whnf
                      refine ⟨(by repeat' ((conv => whnf);first|exact trivial|(refine And.intro ?_ ?_)|rfl)), ?_⟩
                      refine zd1 [3] (zx rfl ?_ zy)
                      conv => whnf
                      refine short_call p.1 p.2 rfl hp (fun _ h => h) ?_
                      ((conv => whnf);(refine And.intro ?_ (And.intro ?_ (And.intro ?_ (And.intro ?_ ?_))));(all_goals ((repeat' (first|((conv => whnf);done)|((try conv => whnf);first|exact trivial|(refine And.intro ?_ ?_)|rfl)));(all_goals (try conv => whnf))));rotate_right)
                      intro ls2 hls2 G2
                      conv => whnf
                      refine ⟨(by repeat' ((conv => whnf);first|exact trivial|(refine And.intro ?_ ?_)|rfl)), ?_⟩
                      refine zd1 [7] (zx rfl ?_ zy)
                      conv => whnf
                      refine short_call p0.1 p0.2 rfl hp0 (fun _ h => h) ?_
                      ((conv => whnf);(refine And.intro ?_ (And.intro ?_ (And.intro ?_ (And.intro ?_ ?_))));(all_goals ((repeat' (first|((conv => whnf);done)|((try conv => whnf);first|exact trivial|(refine And.intro ?_ ?_)|rfl)));(all_goals (try conv => whnf))));rotate_right)
                      intro ls3 hls3 G3
                      conv => whnf
                      refine ⟨(by repeat' ((conv => whnf);first|exact trivial|(refine And.intro ?_ ?_)|rfl)), ?_⟩
                      refine zd1 [11] (zx rfl ?_ zy)
                      conv => whnf
                      refine ⟨(by repeat' ((conv => whnf);first|exact trivial|(refine And.intro ?_ ?_)|rfl)), ?_⟩
                      refine zd1 [12] (zx rfl ?_ zy)
                      conv => whnf
                      refine ⟨(by repeat' ((conv => whnf);first|exact trivial|(refine And.intro ?_ ?_)|rfl)), ?_⟩
                      refine zd1 [13] (zx rfl ?_ zy)
                      conv => whnf
                      refine ⟨(by repeat' ((conv => whnf);first|exact trivial|(refine And.intro ?_ ?_)|rfl)), ?_⟩
                      refine zw ?_
                      refine ⟨(ls1, ls2, ls3, G1, G2, G3), ⟨hls1, hls2, hls3⟩, ?_⟩
                      ((repeat' (first|((conv => whnf);done)|((try conv => whnf);first|exact trivial|(refine And.intro ?_ ?_)|rfl)));(all_goals (try conv => whnf)))
                rotate_right
                focus
                  conv => whnf
                  refine ⟨(by repeat' ((conv => whnf);first|exact trivial|(refine And.intro ?_ ?_)|rfl)), ?_⟩
                  refine zd1 [1] (zx rfl ?_ zy)
                  conv => whnf
                  refine short_call p.1 p.2 rfl hp (fun _ h => h) ?_
                  ((conv => whnf);(refine And.intro ?_ (And.intro ?_ (And.intro ?_ (And.intro ?_ ?_))));(all_goals ((repeat' (first|((conv => whnf);done)|((try conv => whnf);first|exact trivial|(refine And.intro ?_ ?_)|rfl)));(all_goals (try conv => whnf))));rotate_right)
                  intro ls1 hls1 G1
                  conv => whnf
                  refine ⟨(by repeat' ((conv => whnf);first|exact trivial|(refine And.intro ?_ ?_)|rfl)), ?_⟩
                  refine zd1 [3] (zx rfl ?_ zy)
                  conv => whnf
                  refine short_call p.1 p.2 rfl hp (fun _ h => h) ?_
                  ((conv => whnf);(refine And.intro ?_ (And.intro ?_ (And.intro ?_ (And.intro ?_ ?_))));(all_goals ((repeat' (first|((conv => whnf);done)|((try conv => whnf);first|exact trivial|(refine And.intro ?_ ?_)|rfl)));(all_goals (try conv => whnf))));rotate_right)
                  intro ls2 hls2 G2
                  conv => whnf
                  refine ⟨(by repeat' ((conv => whnf);first|exact trivial|(refine And.intro ?_ ?_)|rfl)), ?_⟩
                  refine zd1 [7] (zx rfl ?_ zy)
                  conv => whnf
                  refine short_call p0.1 p0.2 rfl hp0 (fun _ h => h) ?_
                  ((conv => whnf);(refine And.intro ?_ (And.intro ?_ (And.intro ?_ (And.intro ?_ ?_))));(all_goals ((repeat' (first|((conv => whnf);done)|((try conv => whnf);first|exact trivial|(refine And.intro ?_ ?_)|rfl)));(all_goals (try conv => whnf))));rotate_right)
                  intro ls3 hls3 G3
                  conv => whnf
                  refine ⟨(by repeat' ((conv => whnf);first|exact trivial|(refine And.intro ?_ ?_)|rfl)), ?_⟩
                  refine zd1 [11] (zx rfl ?_ zy)
                  conv => whnf
                  refine ⟨(by repeat' ((conv => whnf);first|exact trivial|(refine And.intro ?_ ?_)|rfl)), ?_⟩
                  refine zd1 [12] (zx rfl ?_ zy)
                  conv => whnf
                  refine ⟨(by repeat' ((conv => whnf);first|exact trivial|(refine And.intro ?_ ?_)|rfl)), ?_⟩
                  refine zd1 [13] (zx rfl ?_ zy)
                  conv => whnf
                  refine ⟨(by repeat' ((conv => whnf);first|exact trivial|(refine And.intro ?_ ?_)|rfl)), ?_⟩
                  refine zw ?_
                  refine ⟨(ls1, ls2, ls3, G1, G2, G3), ⟨hls1, hls2, hls3⟩, ?_⟩
                  ((repeat' (first|((conv => whnf);done)|((try conv => whnf);first|exact trivial|(refine And.intro ?_ ?_)|rfl)));(all_goals (try conv => whnf)))
    · obtain ⟨ls1, ls2, ls3, G1, G2, G3⟩ := j
      obtain ⟨hls1, hls2, hls3⟩ := hj
      dsimp only at hls1 hls2 hls3 ⊢
      conv => whnf
      refine Sy.call_val (.tup [.c (.v (.int .i64 (checkV (shortM (opsOf p.2))).1)), .c (.v (.int .i64 (checkV (shortM (opsOf p.2))).2))]) Try.call11 rfl (fun e a w' h => by have := check_any (e.rv 2) ls1 w' ⟨Sy.row_reads h (.inl ⟨_, rfl⟩), fun o ho => ((h.ev w' fun _ _ => rfl).1.1.2.2 o ho).mono fun b hb => h.fl b (.inl (.inl hb))⟩; rw [hls1] at this; exact this) ?_
      ((repeat' ((conv => whnf);(first|refine z1 ?_|refine z2 ?_|refine z3 ?_|refine z4 ?_|refine z5 ?_|refine z6 ?_|refine z7 ?_|refine z8 ?_|refine z9 ?_|refine za ?_|refine zb ?_|refine zc ?_|refine zd ?_|refine ze ?_|refine zf ?_|refine zg ?_|refine zh ?_|((first|refine zi ?_ ?_|refine zj ?_ ?_|refine zk ?_ ?_)<;> intro hh <;> first|(exfalso;omega)|skip)|(refine zl ?_ ?_<;> intro hh)|refine zm ?_|refine zn ?_|refine zo ?_|refine zp ?_|refine zq ?_|refine zv ?_|refine zr ?_|refine zs _ rfl ?_|exact Sy.fin_val (fun e=>rfl))));(all_goals (try conv => whnf)))
      refine Sy.call_val (.tup [.c (.v (.int .i64 (checkV (shortM (opsOf p.2))).1)), .c (.v (.int .i64 (checkV (shortM (opsOf p.2))).2))]) Try.call14 rfl (fun e a w' h => by have := rcheck_any (e.rv 3) ls2 w' ⟨Sy.row_reads h (.inl ⟨_, rfl⟩), fun o ho => ((h.ev w' fun _ _ => rfl).1.2.2 o ho).mono fun b hb => h.fl b (.inl hb)⟩; rw [hls2] at this; exact this) ?_
      ((repeat' ((conv => whnf);(first|refine z1 ?_|refine z2 ?_|refine z3 ?_|refine z4 ?_|refine z5 ?_|refine z6 ?_|refine z7 ?_|refine z8 ?_|refine z9 ?_|refine za ?_|refine zb ?_|refine zc ?_|refine zd ?_|refine ze ?_|refine zf ?_|refine zg ?_|refine zh ?_|((first|refine zi ?_ ?_|refine zj ?_ ?_|refine zk ?_ ?_)<;> intro hh <;> first|(exfalso;omega)|skip)|(refine zl ?_ ?_<;> intro hh)|refine zm ?_|refine zn ?_|refine zo ?_|refine zp ?_|refine zq ?_|refine zv ?_|refine zr ?_|refine zs _ rfl ?_|exact Sy.fin_val (fun e=>rfl))));(all_goals (try conv => whnf)))
      have hb1 : ((checkV (shortM (opsOf p.2))).1 != (checkV (shortM (opsOf p.2))).1) = false := by simp
      have hb2 : ((checkV (shortM (opsOf p.2))).2 != (checkV (shortM (opsOf p.2))).2) = false := by simp
      have hb3 : (decide (opsOf ls1 = opsOf ls3) != decide (opsOf ls1 = opsOf ls3)) = false := by simp
      refine Sy.draw_go [] (by kernel_rfl) ?_
      intro e0
      conv => whnf
      refine zt 0 rfl ?_
      conv => whnf
      refine zt 1 rfl ?_
      conv => whnf
      refine zt 2 rfl ?_
      (conv => whnf);(repeat' ((first|refine z1 ?_|refine z2 ?_|refine z3 ?_|refine z4 ?_|refine z5 ?_|refine z6 ?_|refine z7 ?_|refine z8 ?_|refine z9 ?_|refine za ?_|refine zb ?_|refine zc ?_|refine zd ?_|refine ze ?_|refine zf ?_|refine zg ?_|refine zh ?_|((first|refine zi ?_ ?_|refine zj ?_ ?_|refine zk ?_ ?_)<;> intro hh <;> first|(exfalso;omega)|skip)|(refine zl ?_ ?_<;> intro hh)|refine zm ?_|refine zn ?_|refine zo ?_|refine zp ?_|refine zq ?_|refine zv ?_|refine zr ?_|refine zs _ rfl ?_|refine zu ?_|exact Sy.fin_val (fun e=>rfl));(try conv => whnf)))
      refine zt 3 rfl ?_
      conv => whnf
      refine zt 4 rfl ?_
      (conv => whnf);(repeat' ((first|refine z1 ?_|refine z2 ?_|refine z3 ?_|refine z4 ?_|refine z5 ?_|refine z6 ?_|refine z7 ?_|refine z8 ?_|refine z9 ?_|refine za ?_|refine zb ?_|refine zc ?_|refine zd ?_|refine ze ?_|refine zf ?_|refine zg ?_|refine zh ?_|((first|refine zi ?_ ?_|refine zj ?_ ?_|refine zk ?_ ?_)<;> intro hh <;> first|(exfalso;omega)|skip)|(refine zl ?_ ?_<;> intro hh)|refine zm ?_|refine zn ?_|refine zo ?_|refine zp ?_|refine zq ?_|refine zv ?_|refine zr ?_|refine zs _ rfl ?_|refine zu ?_|exact Sy.fin_val (fun e=>rfl));(try conv => whnf)))
      refine zt 5 rfl ?_
      (conv => whnf);(repeat' ((first|refine z1 ?_|refine z2 ?_|refine z3 ?_|refine z4 ?_|refine z5 ?_|refine z6 ?_|refine z7 ?_|refine z8 ?_|refine z9 ?_|refine za ?_|refine zb ?_|refine zc ?_|refine zd ?_|refine ze ?_|refine zf ?_|refine zg ?_|refine zh ?_|((first|refine zi ?_ ?_|refine zj ?_ ?_|refine zk ?_ ?_)<;> intro hh <;> first|(exfalso;omega)|skip)|(refine zl ?_ ?_<;> intro hh)|refine zm ?_|refine zn ?_|refine zo ?_|refine zp ?_|refine zq ?_|refine zv ?_|refine zr ?_|refine zs _ rfl ?_|refine zu ?_|exact Sy.fin_val (fun e=>rfl));(try conv => whnf)))
      refine zt 6 rfl ?_
      (conv => whnf);(repeat' ((first|refine z1 ?_|refine z2 ?_|refine z3 ?_|refine z4 ?_|refine z5 ?_|refine z6 ?_|refine z7 ?_|refine z8 ?_|refine z9 ?_|refine za ?_|refine zb ?_|refine zc ?_|refine zd ?_|refine ze ?_|refine zf ?_|refine zg ?_|refine zh ?_|((first|refine zi ?_ ?_|refine zj ?_ ?_|refine zk ?_ ?_)<;> intro hh <;> first|(exfalso;omega)|skip)|(refine zl ?_ ?_<;> intro hh)|refine zm ?_|refine zn ?_|refine zo ?_|refine zp ?_|refine zq ?_|refine zv ?_|refine zr ?_|refine zs _ rfl ?_|refine zu ?_|exact Sy.fin_val (fun e=>rfl));(try conv => whnf)))
      refine zt 7 rfl ?_
      (conv => whnf);(repeat' ((first|refine z1 ?_|refine z2 ?_|refine z3 ?_|refine z4 ?_|refine z5 ?_|refine z6 ?_|refine z7 ?_|refine z8 ?_|refine z9 ?_|refine za ?_|refine zb ?_|refine zc ?_|refine zd ?_|refine ze ?_|refine zf ?_|refine zg ?_|refine zh ?_|((first|refine zi ?_ ?_|refine zj ?_ ?_|refine zk ?_ ?_)<;> intro hh <;> first|(exfalso;omega)|skip)|(refine zl ?_ ?_<;> intro hh)|refine zm ?_|refine zn ?_|refine zo ?_|refine zp ?_|refine zq ?_|refine zv ?_|refine zr ?_|refine zs _ rfl ?_|refine zu ?_|exact Sy.fin_val (fun e=>rfl));(try conv => whnf)))
      refine zt 8 rfl ?_
      conv => whnf
      refine zt 9 rfl ?_
      (conv => whnf);(repeat' ((first|refine z1 ?_|refine z2 ?_|refine z3 ?_|refine z4 ?_|refine z5 ?_|refine z6 ?_|refine z7 ?_|refine z8 ?_|refine z9 ?_|refine za ?_|refine zb ?_|refine zc ?_|refine zd ?_|refine ze ?_|refine zf ?_|refine zg ?_|refine zh ?_|((first|refine zi ?_ ?_|refine zj ?_ ?_|refine zk ?_ ?_)<;> intro hh <;> first|(exfalso;omega)|skip)|(refine zl ?_ ?_<;> intro hh)|refine zm ?_|refine zn ?_|refine zo ?_|refine zp ?_|refine zq ?_|refine zv ?_|refine zr ?_|refine zs _ rfl ?_|refine zu ?_|exact Sy.fin_val (fun e=>rfl));(try conv => whnf)))
      refine zt 10 rfl ?_
      (conv => whnf);(repeat' ((first|refine z1 ?_|refine z2 ?_|refine z3 ?_|refine z4 ?_|refine z5 ?_|refine z6 ?_|refine z7 ?_|refine z8 ?_|refine z9 ?_|refine za ?_|refine zb ?_|refine zc ?_|refine zd ?_|refine ze ?_|refine zf ?_|refine zg ?_|refine zh ?_|((first|refine zi ?_ ?_|refine zj ?_ ?_|refine zk ?_ ?_)<;> intro hh <;> first|(exfalso;omega)|skip)|(refine zl ?_ ?_<;> intro hh)|refine zm ?_|refine zn ?_|refine zo ?_|refine zp ?_|refine zq ?_|refine zv ?_|refine zr ?_|refine zs _ rfl ?_|refine zu ?_|exact Sy.fin_val (fun e=>rfl));(try conv => whnf)))
      refine zd1 [11] (zx rfl ?_ zy)
      conv => whnf
      ((first|refine z1 ?_|refine z2 ?_|refine z3 ?_|refine z4 ?_);conv => whnf)
      refine Sy.call_val (.c (.v (.bool true))) Try.call17 rfl (fun e a w' h => by have := rsame_any (e.rv 2) (e.rv 3) ls1 ls2 w' ⟨Sy.row_reads h (.inl ⟨_, rfl⟩), fun o ho => ((h.ev w' fun _ _ => rfl).1.1.2.2 o ho).mono fun b hb => h.fl b (.inl (.inl hb))⟩ ⟨Sy.row_reads h (.inl ⟨_, rfl⟩), fun o ho => ((h.ev w' fun _ _ => rfl).1.2.2 o ho).mono fun b hb => h.fl b (.inl hb)⟩; rw [decide_eq_true (hls1.trans hls2.symm)] at this; exact this) ?_
      conv => whnf
      refine ⟨(by repeat' ((conv => whnf);first|exact trivial|(refine And.intro ?_ ?_)|rfl)), ?_⟩
      refine zt 12 rfl ?_
      (conv => whnf);(repeat' ((first|refine z1 ?_|refine z2 ?_|refine z3 ?_|refine z4 ?_|refine z5 ?_|refine z6 ?_|refine z7 ?_|refine z8 ?_|refine z9 ?_|refine za ?_|refine zb ?_|refine zc ?_|refine zd ?_|refine ze ?_|refine zf ?_|refine zg ?_|refine zh ?_|((first|refine zi ?_ ?_|refine zj ?_ ?_|refine zk ?_ ?_)<;> intro hh <;> first|(exfalso;omega)|skip)|(refine zl ?_ ?_<;> intro hh)|refine zm ?_|refine zn ?_|refine zo ?_|refine zp ?_|refine zq ?_|refine zv ?_|refine zr ?_|refine zs _ rfl ?_|refine zu ?_|exact Sy.fin_val (fun e=>rfl));(try conv => whnf)))
      refine zt 13 rfl ?_
      (conv => whnf);(repeat' ((first|refine z1 ?_|refine z2 ?_|refine z3 ?_|refine z4 ?_|refine z5 ?_|refine z6 ?_|refine z7 ?_|refine z8 ?_|refine z9 ?_|refine za ?_|refine zb ?_|refine zc ?_|refine zd ?_|refine ze ?_|refine zf ?_|refine zg ?_|refine zh ?_|((first|refine zi ?_ ?_|refine zj ?_ ?_|refine zk ?_ ?_)<;> intro hh <;> first|(exfalso;omega)|skip)|(refine zl ?_ ?_<;> intro hh)|refine zm ?_|refine zn ?_|refine zo ?_|refine zp ?_|refine zq ?_|refine zv ?_|refine zr ?_|refine zs _ rfl ?_|refine zu ?_|exact Sy.fin_val (fun e=>rfl));(try conv => whnf)))
      refine zt 14 rfl ?_
      conv => whnf
      refine zt 15 rfl ?_
      (conv => whnf);(repeat' ((first|refine z1 ?_|refine z2 ?_|refine z3 ?_|refine z4 ?_|refine z5 ?_|refine z6 ?_|refine z7 ?_|refine z8 ?_|refine z9 ?_|refine za ?_|refine zb ?_|refine zc ?_|refine zd ?_|refine ze ?_|refine zf ?_|refine zg ?_|refine zh ?_|((first|refine zi ?_ ?_|refine zj ?_ ?_|refine zk ?_ ?_)<;> intro hh <;> first|(exfalso;omega)|skip)|(refine zl ?_ ?_<;> intro hh)|refine zm ?_|refine zn ?_|refine zo ?_|refine zp ?_|refine zq ?_|refine zv ?_|refine zr ?_|refine zs _ rfl ?_|refine zu ?_|exact Sy.fin_val (fun e=>rfl));(try conv => whnf)))
      refine zt 16 rfl ?_
      (conv => whnf);(repeat' ((first|refine z1 ?_|refine z2 ?_|refine z3 ?_|refine z4 ?_|refine z5 ?_|refine z6 ?_|refine z7 ?_|refine z8 ?_|refine z9 ?_|refine za ?_|refine zb ?_|refine zc ?_|refine zd ?_|refine ze ?_|refine zf ?_|refine zg ?_|refine zh ?_|((first|refine zi ?_ ?_|refine zj ?_ ?_|refine zk ?_ ?_)<;> intro hh <;> first|(exfalso;omega)|skip)|(refine zl ?_ ?_<;> intro hh)|refine zm ?_|refine zn ?_|refine zo ?_|refine zp ?_|refine zq ?_|refine zv ?_|refine zr ?_|refine zs _ rfl ?_|refine zu ?_|exact Sy.fin_val (fun e=>rfl));(try conv => whnf)))
      refine zt 18 rfl ?_
      (conv => whnf);(repeat' ((first|refine z1 ?_|refine z2 ?_|refine z3 ?_|refine z4 ?_|refine z5 ?_|refine z6 ?_|refine z7 ?_|refine z8 ?_|refine z9 ?_|refine za ?_|refine zb ?_|refine zc ?_|refine zd ?_|refine ze ?_|refine zf ?_|refine zg ?_|refine zh ?_|((first|refine zi ?_ ?_|refine zj ?_ ?_|refine zk ?_ ?_)<;> intro hh <;> first|(exfalso;omega)|skip)|(refine zl ?_ ?_<;> intro hh)|refine zm ?_|refine zn ?_|refine zo ?_|refine zp ?_|refine zq ?_|refine zv ?_|refine zr ?_|refine zs _ rfl ?_|refine zu ?_|exact Sy.fin_val (fun e=>rfl));(try conv => whnf)))
      refine zt 19 rfl ?_
      (conv => whnf);(repeat' ((first|refine z1 ?_|refine z2 ?_|refine z3 ?_|refine z4 ?_|refine z5 ?_|refine z6 ?_|refine z7 ?_|refine z8 ?_|refine z9 ?_|refine za ?_|refine zb ?_|refine zc ?_|refine zd ?_|refine ze ?_|refine zf ?_|refine zg ?_|refine zh ?_|((first|refine zi ?_ ?_|refine zj ?_ ?_|refine zk ?_ ?_)<;> intro hh <;> first|(exfalso;omega)|skip)|(refine zl ?_ ?_<;> intro hh)|refine zm ?_|refine zn ?_|refine zo ?_|refine zp ?_|refine zq ?_|refine zv ?_|refine zr ?_|refine zs _ rfl ?_|refine zu ?_|exact Sy.fin_val (fun e=>rfl));(try conv => whnf)))
      refine zd1 [17] (zx rfl ?_ zy)
      conv => whnf
      ((first|refine z1 ?_|refine z2 ?_|refine z3 ?_|refine z4 ?_);conv => whnf)
      refine Sy.call_val (.c (.v (.bool (decide (opsOf ls1 = opsOf ls3))))) Try.call18 rfl (fun e a w' h => gsame_any (e.rv 2) (e.rv 4) ls1 ls3 w' ⟨Sy.row_reads h (.inl ⟨_, rfl⟩), fun o ho => ((h.ev w' fun _ _ => rfl).1.1.2.2 o ho).mono fun b hb => h.fl b (.inl (.inl hb))⟩ ⟨Sy.row_reads h (.inl ⟨_, rfl⟩), fun o ho => ((h.ev w' fun _ _ => rfl).2.2 o ho).mono fun b hb => h.fl b hb⟩) ?_
      conv => whnf
      refine ⟨(by repeat' ((conv => whnf);first|exact trivial|(refine And.intro ?_ ?_)|rfl)), ?_⟩
      refine zd1 [20] (zx rfl ?_ zy)
      conv => whnf
      ((first|refine z1 ?_|refine z2 ?_|refine z3 ?_|refine z4 ?_);conv => whnf)
      refine Sy.call_val (.c (.v (.bool (decide (opsOf ls1 = opsOf ls3))))) Try.call17 rfl (fun e a w' h => rsame_any (e.rv 2) (e.rv 4) ls1 ls3 w' ⟨Sy.row_reads h (.inl ⟨_, rfl⟩), fun o ho => ((h.ev w' fun _ _ => rfl).1.1.2.2 o ho).mono fun b hb => h.fl b (.inl (.inl hb))⟩ ⟨Sy.row_reads h (.inl ⟨_, rfl⟩), fun o ho => ((h.ev w' fun _ _ => rfl).2.2 o ho).mono fun b hb => h.fl b hb⟩) ?_
      conv => whnf
      refine ⟨(by repeat' ((conv => whnf);first|exact trivial|(refine And.intro ?_ ?_)|rfl)), ?_⟩
      refine zt 21 rfl ?_
      (conv => whnf);(repeat' ((first|refine z1 ?_|refine z2 ?_|refine z3 ?_|refine z4 ?_|refine z5 ?_|refine z6 ?_|refine z7 ?_|refine z8 ?_|refine z9 ?_|refine za ?_|refine zb ?_|refine zc ?_|refine zd ?_|refine ze ?_|refine zf ?_|refine zg ?_|refine zh ?_|((first|refine zi ?_ ?_|refine zj ?_ ?_|refine zk ?_ ?_)<;> intro hh <;> first|(exfalso;omega)|skip)|(refine zl ?_ ?_<;> intro hh)|refine zm ?_|refine zn ?_|refine zo ?_|refine zp ?_|refine zq ?_|refine zv ?_|refine zr ?_|refine zs _ rfl ?_|refine zu ?_|exact Sy.fin_val (fun e=>rfl));(try conv => whnf)))
      refine zt 22 rfl ?_
      (conv => whnf);(repeat' ((first|refine z1 ?_|refine z2 ?_|refine z3 ?_|refine z4 ?_|refine z5 ?_|refine z6 ?_|refine z7 ?_|refine z8 ?_|refine z9 ?_|refine za ?_|refine zb ?_|refine zc ?_|refine zd ?_|refine ze ?_|refine zf ?_|refine zg ?_|refine zh ?_|((first|refine zi ?_ ?_|refine zj ?_ ?_|refine zk ?_ ?_)<;> intro hh <;> first|(exfalso;omega)|skip)|(refine zl ?_ ?_<;> intro hh)|refine zm ?_|refine zn ?_|refine zo ?_|refine zp ?_|refine zq ?_|refine zv ?_|refine zr ?_|refine zs _ rfl ?_|refine zu ?_|exact Sy.fin_val (fun e=>rfl));(try conv => whnf)))
      refine zt 23 rfl ?_
      conv => whnf
      refine zt 24 rfl ?_
      (conv => whnf);(repeat' ((first|refine z1 ?_|refine z2 ?_|refine z3 ?_|refine z4 ?_|refine z5 ?_|refine z6 ?_|refine z7 ?_|refine z8 ?_|refine z9 ?_|refine za ?_|refine zb ?_|refine zc ?_|refine zd ?_|refine ze ?_|refine zf ?_|refine zg ?_|refine zh ?_|((first|refine zi ?_ ?_|refine zj ?_ ?_|refine zk ?_ ?_)<;> intro hh <;> first|(exfalso;omega)|skip)|(refine zl ?_ ?_<;> intro hh)|refine zm ?_|refine zn ?_|refine zo ?_|refine zp ?_|refine zq ?_|refine zv ?_|refine zr ?_|refine zs _ rfl ?_|refine zu ?_|exact Sy.fin_val (fun e=>rfl));(try conv => whnf)))
      refine zt 25 rfl ?_
      (conv => whnf);(repeat' ((first|refine z1 ?_|refine z2 ?_|refine z3 ?_|refine z4 ?_|refine z5 ?_|refine z6 ?_|refine z7 ?_|refine z8 ?_|refine z9 ?_|refine za ?_|refine zb ?_|refine zc ?_|refine zd ?_|refine ze ?_|refine zf ?_|refine zg ?_|refine zh ?_|((first|refine zi ?_ ?_|refine zj ?_ ?_|refine zk ?_ ?_)<;> intro hh <;> first|(exfalso;omega)|skip)|(refine zl ?_ ?_<;> intro hh)|refine zm ?_|refine zn ?_|refine zo ?_|refine zp ?_|refine zq ?_|refine zv ?_|refine zr ?_|refine zs _ rfl ?_|refine zu ?_|exact Sy.fin_val (fun e=>rfl));(try conv => whnf)))
      refine zd1 [26] (zx rfl ?_ zy)
      conv => whnf
      ((first|refine z1 ?_|refine z2 ?_|refine z3 ?_|refine z4 ?_);conv => whnf)
      refine Sy.call_val (.c (.v (.bool true))) Try.call18 rfl (fun e a w' h => by have := gsame_any (e.rv 2) (e.rv 3) ls1 ls2 w' ⟨Sy.row_reads h (.inl ⟨_, rfl⟩), fun o ho => ((h.ev w' fun _ _ => rfl).1.1.2.2 o ho).mono fun b hb => h.fl b (.inl (.inl hb))⟩ ⟨Sy.row_reads h (.inl ⟨_, rfl⟩), fun o ho => ((h.ev w' fun _ _ => rfl).1.2.2 o ho).mono fun b hb => h.fl b (.inl hb)⟩; rw [decide_eq_true (hls1.trans hls2.symm)] at this; exact this) ?_
      conv => whnf
      refine ⟨(by repeat' ((conv => whnf);first|exact trivial|(refine And.intro ?_ ?_)|rfl)), ?_⟩
      refine zt 27 rfl ?_
      (conv => whnf);(repeat' ((first|refine z1 ?_|refine z2 ?_|refine z3 ?_|refine z4 ?_|refine z5 ?_|refine z6 ?_|refine z7 ?_|refine z8 ?_|refine z9 ?_|refine za ?_|refine zb ?_|refine zc ?_|refine zd ?_|refine ze ?_|refine zf ?_|refine zg ?_|refine zh ?_|((first|refine zi ?_ ?_|refine zj ?_ ?_|refine zk ?_ ?_)<;> intro hh <;> first|(exfalso;omega)|skip)|(refine zl ?_ ?_<;> intro hh)|refine zm ?_|refine zn ?_|refine zo ?_|refine zp ?_|refine zq ?_|refine zv ?_|refine zr ?_|refine zs _ rfl ?_|refine zu ?_|exact Sy.fin_val (fun e=>rfl));(try conv => whnf)))
      refine zt 28 rfl ?_
      (conv => whnf);(repeat' ((first|refine z1 ?_|refine z2 ?_|refine z3 ?_|refine z4 ?_|refine z5 ?_|refine z6 ?_|refine z7 ?_|refine z8 ?_|refine z9 ?_|refine za ?_|refine zb ?_|refine zc ?_|refine zd ?_|refine ze ?_|refine zf ?_|refine zg ?_|refine zh ?_|((first|refine zi ?_ ?_|refine zj ?_ ?_|refine zk ?_ ?_)<;> intro hh <;> first|(exfalso;omega)|skip)|(refine zl ?_ ?_<;> intro hh)|refine zm ?_|refine zn ?_|refine zo ?_|refine zp ?_|refine zq ?_|refine zv ?_|refine zr ?_|refine zs _ rfl ?_|refine zu ?_|exact Sy.fin_val (fun e=>rfl));(try conv => whnf)))
      refine zw ?_
      skip
      have hol := opsOf_len ls2
      have hln : ls2.length ≤ 9 := by rw [← hol, hls2]; exact shortM_len _
      ((repeat' ((conv => whnf);(first|refine z1 ?_|refine z2 ?_|refine z3 ?_|refine z4 ?_|refine z5 ?_|refine z6 ?_|refine z7 ?_|refine z8 ?_|refine z9 ?_|refine za ?_|refine zb ?_|refine zc ?_|refine zd ?_|refine ze ?_|refine zf ?_|refine zg ?_|refine zh ?_|((first|refine zi ?_ ?_|refine zj ?_ ?_|refine zk ?_ ?_)<;> intro hh <;> first|(exfalso;omega)|skip)|(refine zl ?_ ?_<;> intro hh)|refine zm ?_|refine zn ?_|refine zo ?_|refine zp ?_|refine zq ?_|refine zv ?_|refine zr ?_|refine zs _ rfl ?_|exact Sy.fin_val (fun e=>rfl))));(all_goals (try conv => whnf)))
      refine Sy.loop_inv Sy.tab_ok (fun m : Nat => [(75, .c (.v (.int .i64 m)))]) (fun m => []) (fun m => m ≤ ls2.length) (fun m => ls2.length - m) 0 (Nat.zero_le _) ?_ (fun m hm => ?_)
      · ((repeat' (first|((conv => whnf);done)|((try conv => whnf);first|exact trivial|(refine And.intro ?_ ?_)|rfl)));(all_goals (try conv => whnf)))
      · ((repeat' ((conv => whnf);(first|refine z1 ?_|refine z2 ?_|refine z3 ?_|refine z4 ?_|refine z5 ?_|refine z6 ?_|refine z7 ?_|refine z8 ?_|refine z9 ?_|refine za ?_|refine zb ?_|refine zc ?_|refine zd ?_|refine ze ?_|refine zf ?_|refine zg ?_|refine zh ?_|((first|refine zi ?_ ?_|refine zj ?_ ?_|refine zk ?_ ?_)<;> intro hh <;> first|(exfalso;omega)|skip)|(refine zl ?_ ?_<;> intro hh)|refine zm ?_|refine zn ?_|refine zo ?_|refine zp ?_|refine zq ?_|refine zv ?_|refine zr ?_|refine zs _ rfl ?_|exact Sy.fin_val (fun e=>rfl))));(all_goals (try conv => whnf)))
        · have hlm : m < ls2.length := by omega
          have hgm := List.getElem?_eq_getElem hlm
          generalize ls2[m] = o at *
          have hom := List.mem_of_getElem? hgm
          refine Sy.el_map o hgm ?_
          ((repeat' ((conv => whnf);(first|refine z1 ?_|refine z2 ?_|refine z3 ?_|refine z4 ?_|refine z5 ?_|refine z6 ?_|refine z7 ?_|refine z8 ?_|refine z9 ?_|refine za ?_|refine zb ?_|refine zc ?_|refine zd ?_|refine ze ?_|refine zf ?_|refine zg ?_|refine zh ?_|((first|refine zi ?_ ?_|refine zj ?_ ?_|refine zk ?_ ?_)<;> intro hh <;> first|(exfalso;omega)|skip)|(refine zl ?_ ?_<;> intro hh)|refine zm ?_|refine zn ?_|refine zo ?_|refine zp ?_|refine zq ?_|refine zv ?_|refine zr ?_|refine zs _ rfl ?_|exact Sy.fin_val (fun e=>rfl))));(all_goals (try conv => whnf)))
          have hb4 : (aloneB o.op m != aloneB o.op m) = false := by simp
          refine Sy.draw_go [] (by kernel_rfl) ?_
          intro e0
          conv => whnf
          refine zt 0 rfl ?_
          conv => whnf
          refine zt 1 rfl ?_
          conv => whnf
          refine zt 3 rfl ?_
          conv => whnf
          refine zt 4 rfl ?_
          conv => whnf
          refine zd1 [2] (zx rfl ?_ zy)
          conv => whnf
          refine Sy.call_val (.c (.v (.bool (aloneB o.op m)))) Try.call12 rfl (fun e a w' h => alone_any o m w' (((h.ev w' fun _ _ => rfl).1.2.2 o hom).mono fun b hb => h.fl b (.inl hb))) ?_
          conv => whnf
          refine ⟨(by repeat' ((conv => whnf);first|exact trivial|(refine And.intro ?_ ?_)|rfl)), ?_⟩
          refine zd1 [5] (zx rfl ?_ zy)
          conv => whnf
          refine Sy.call_val (.c (.v (.bool (aloneB o.op m)))) Try.call19 rfl (fun e a w' h => ralone_any o m w' (((h.ev w' fun _ _ => rfl).1.2.2 o hom).mono fun b hb => h.fl b (.inl hb))) ?_
          conv => whnf
          refine ⟨(by repeat' ((conv => whnf);first|exact trivial|(refine And.intro ?_ ?_)|rfl)), ?_⟩
          refine zt 6 rfl ?_
          (conv => whnf);(repeat' ((first|refine z1 ?_|refine z2 ?_|refine z3 ?_|refine z4 ?_|refine z5 ?_|refine z6 ?_|refine z7 ?_|refine z8 ?_|refine z9 ?_|refine za ?_|refine zb ?_|refine zc ?_|refine zd ?_|refine ze ?_|refine zf ?_|refine zg ?_|refine zh ?_|((first|refine zi ?_ ?_|refine zj ?_ ?_|refine zk ?_ ?_)<;> intro hh <;> first|(exfalso;omega)|skip)|(refine zl ?_ ?_<;> intro hh)|refine zm ?_|refine zn ?_|refine zo ?_|refine zp ?_|refine zq ?_|refine zv ?_|refine zr ?_|refine zs _ rfl ?_|refine zu ?_|exact Sy.fin_val (fun e=>rfl));(try conv => whnf)))
          refine zw ?_
          skip
          ((repeat' ((conv => whnf);(first|refine z1 ?_|refine z2 ?_|refine z3 ?_|refine z4 ?_|refine z5 ?_|refine z6 ?_|refine z7 ?_|refine z8 ?_|refine z9 ?_|refine za ?_|refine zb ?_|refine zc ?_|refine zd ?_|refine ze ?_|refine zf ?_|refine zg ?_|refine zh ?_|((first|refine zi ?_ ?_|refine zj ?_ ?_|refine zk ?_ ?_)<;> intro hh <;> first|(exfalso;omega)|skip)|(refine zl ?_ ?_<;> intro hh)|refine zm ?_|refine zn ?_|refine zo ?_|refine zp ?_|refine zq ?_|refine zv ?_|refine zr ?_|refine zs _ rfl ?_|exact Sy.fin_val (fun e=>rfl))));(all_goals (try conv => whnf)))
          refine ⟨m + 1, by omega, by omega, ?_⟩
          ((repeat' (first|((conv => whnf);done)|((try conv => whnf);first|exact trivial|(refine And.intro ?_ ?_)|rfl)));(all_goals (try conv => whnf)))
        · refine ⟨(n + 1, fun b => ((F b ∨ G1 b) ∨ G2 b) ∨ G3 b, fun w' => ((E w' ∧ (∀ b, G1 b → ¬ F b) ∧ ∀ o ∈ ls1, OOk (fun b => F b ∨ G1 b) w' o) ∧ (∀ b, G2 b → ¬ (F b ∨ G1 b)) ∧ ∀ o ∈ ls2, OOk (fun b => (F b ∨ G1 b) ∨ G2 b) w' o) ∧ (∀ b, G3 b → ¬ ((F b ∨ G1 b) ∨ G2 b)) ∧ ∀ o ∈ ls3, OOk (fun b => ((F b ∨ G1 b) ∨ G2 b) ∨ G3 b) w' o), by dsimp only; omega, by dsimp only; omega, ?_⟩
          dsimp only
          ((repeat' (first|((conv => whnf);done)|((try conv => whnf);first|exact trivial|(refine And.intro ?_ ?_)|rfl)));(all_goals (try conv => whnf)))
    all_goals (((repeat' ((conv => whnf);(first|refine z1 ?_|refine z2 ?_|refine z3 ?_|refine z4 ?_|refine z5 ?_|refine z6 ?_|refine z7 ?_|refine z8 ?_|refine z9 ?_|refine za ?_|refine zb ?_|refine zc ?_|refine zd ?_|refine ze ?_|refine zf ?_|refine zg ?_|refine zh ?_|((first|refine zi ?_ ?_|refine zj ?_ ?_|refine zk ?_ ?_)<;> intro hh <;> first|(exfalso;omega)|skip)|(refine zl ?_ ?_<;> intro hh)|refine zm ?_|refine zn ?_|refine zo ?_|refine zp ?_|refine zq ?_|refine zv ?_|refine zr ?_|refine zs _ rfl ?_|exact Sy.fin_val (fun e=>rfl))));(all_goals (try conv => whnf))))
    done
end Go.Proofs.Yteldohidnepaoaa
