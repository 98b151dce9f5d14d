/- Heart: Check. -/
import Derived.Test.YtiapcohnjklcfaaSpec
namespace Go.Proofs.Ytiapcohnjklcfaa
open Go Go.RowKit
open Sy (C SV V1 Blk St XD Els)
set_option maxRecDepth 10000
attribute [local irreducible] okN okH ok0

theorem check_any (now span : Int) (v : Value) (ps : List Pulse) (w : World) (hn : I64 now) (hr : XD.ok (fun b => b < w.heap.size) w ⟨v, 3, ps.length, ps.map encP⟩) :
    Calls Try.prog 22 #[.agg #[.int .i64 now, .int .i64 span, v]] w (Sy.Ret (.int .i64 (chkE now span ps)) w) := by
  have hn' := hn
  unfold I64 at hn'
  have hl : ps.length ≤ 9223372036854775807 := by have := hr.1; obtain ⟨_, _, _, _, _, h1, h2, _⟩ := this; unfold maxLen at h2; show ps.length ≤ _; have h1 : ps.length ≤ _ := h1; omega
  have e0 : ok0 now span = (decide (0 ≤ now) && decide (now ≤ 1099511627776) && decide (1 ≤ span) && decide (span ≤ 100)) := by unfold ok0; rfl
  refine Sy.calls_of Sy.lv22 Sy.tab_ok Try.func22 rfl _ Try.ntmps22 [⟨v, 3, ps.length, ps.map encP⟩] [.agg [.v (.int .i64 now), .v (.int .i64 span), .row 0]] rfl rfl rfl ⟨hr, trivial⟩ ?_
  ((repeat' ((conv => whnf);(first|refine z1 ?_|refine z2 ?_|refine z3 ?_|refine z4 ?_|refine z5 ?_|refine z6 ?_|refine z7 ?_|refine z8 ?_|refine z9 ?_|refine za ?_|refine zb ?_|refine zc ?_|refine zd ?_|refine ze ?_|refine zf ?_|refine zg ?_|refine zh ?_|((first|refine zi ?_ ?_|refine zj ?_ ?_|refine zk ?_ ?_)<;> intro hh <;> first|(exfalso;omega)|skip)|(refine zl ?_ ?_<;> intro hh)|refine zm ?_|refine zn ?_|refine zo ?_|refine zp ?_|refine zr ?_|refine zs _ rfl ?_|refine zu ?_|exact Sy.fin_val (fun e=>rfl))));(all_goals (try conv => whnf)))
  refine Sy.cut_sem (Sy.cut_inv Sy.tab_ok (fun _ : Unit => [(3, .c (.v (.bool (ok0 now span))))]) (fun _ => []) (fun _ => True) ?_ (fun _ _ => ?_))
  · refine Sy.region_go Sy.tab_ok ?_
    ((repeat' ((conv => whnf);(first|refine z1 ?_|refine z2 ?_|refine z3 ?_|refine z4 ?_|refine z5 ?_|refine z6 ?_|refine z7 ?_|refine z8 ?_|refine z9 ?_|refine za ?_|refine zb ?_|refine zc ?_|refine zd ?_|refine ze ?_|refine zf ?_|refine zg ?_|refine zh ?_|((first|refine zi ?_ ?_|refine zj ?_ ?_|refine zk ?_ ?_)<;> intro hh <;> first|(exfalso;omega)|skip)|(refine zl ?_ ?_<;> intro hh)|refine zm ?_|refine zn ?_|refine zo ?_|refine zp ?_|refine zr ?_|refine zs _ rfl ?_|refine zu ?_|exact Sy.fin_val (fun e=>rfl))));(all_goals (try conv => whnf)))
    all_goals
      refine ⟨(), trivial, ?_⟩
      ((repeat' (first|((conv => whnf);done)|((try conv => whnf);first|exact trivial|(refine And.intro ?_ ?_)|rfl)));(all_goals (try conv => whnf)))
      all_goals exact congrArg Value.bool (by rw [e0]; simp [*] <;> omega)
  · ((repeat' ((conv => whnf);(first|refine z1 ?_|refine z2 ?_|refine z3 ?_|refine z4 ?_|refine z5 ?_|refine z6 ?_|refine z7 ?_|refine z8 ?_|refine z9 ?_|refine za ?_|refine zb ?_|refine zc ?_|refine zd ?_|refine ze ?_|refine zf ?_|refine zg ?_|refine zh ?_|((first|refine zi ?_ ?_|refine zj ?_ ?_|refine zk ?_ ?_)<;> intro hh <;> first|(exfalso;omega)|skip)|(refine zl ?_ ?_<;> intro hh)|refine zm ?_|refine zn ?_|refine zo ?_|refine zp ?_|refine zr ?_|refine zs _ rfl ?_|refine zu ?_|exact Sy.fin_val (fun e=>rfl))));(all_goals (try conv => whnf)))
    refine Sy.loop_inv Sy.tab_ok (fun n : Nat => [(28, .c (.v (.int .i64 n))), (3, .c (.v (.bool (okN now span ps n).1))), (4, .c (.v (.int .i64 (okN now span ps n).2)))]) (fun _ => []) (fun n => n ≤ ps.length) (fun n => ps.length - n) 0 (Nat.zero_le _) ?_ (fun n hle => ?_)
    · ((repeat' (first|((conv => whnf);done)|((try conv => whnf);first|exact trivial|(refine And.intro ?_ ?_)|rfl)));(all_goals (try conv => whnf)))
      · exact congrArg Value.bool (by rw [okN_zero])
      · exact congrArg (Value.int .i64) (by rw [okN_zero])
    · ((repeat' ((conv => whnf);(first|refine z1 ?_|refine z2 ?_|refine z3 ?_|refine z4 ?_|refine z5 ?_|refine z6 ?_|refine z7 ?_|refine z8 ?_|refine z9 ?_|refine za ?_|refine zb ?_|refine zc ?_|refine zd ?_|refine ze ?_|refine zf ?_|refine zg ?_|refine zh ?_|((first|refine zi ?_ ?_|refine zj ?_ ?_|refine zk ?_ ?_)<;> intro hh <;> first|(exfalso;omega)|skip)|(refine zl ?_ ?_<;> intro hh)|refine zm ?_|refine zn ?_|refine zo ?_|refine zp ?_|refine zr ?_|refine zs _ rfl ?_|refine zu ?_|exact Sy.fin_val (fun e=>rfl))));(all_goals (try conv => whnf)))
      · have hlt : n < ps.length := by omega
        refine Sy.el_map ps[n] (List.getElem?_eq_getElem hlt) ?_
        have e1 := okN_succ now span ps n hlt
        have hb0 := okN_bd now span ps n
        generalize okN now span ps n = s at *
        generalize hp : ps[n] = p at *
        ((repeat' ((conv => whnf);(first|refine z1 ?_|refine z2 ?_|refine z3 ?_|refine z4 ?_|refine z5 ?_|refine z6 ?_|refine z7 ?_|refine z8 ?_|refine z9 ?_|refine za ?_|refine zb ?_|refine zc ?_|refine zd ?_|refine ze ?_|refine zf ?_|refine zg ?_|refine zh ?_|((first|refine zi ?_ ?_|refine zj ?_ ?_|refine zk ?_ ?_)<;> intro hh <;> first|(exfalso;omega)|skip)|(refine zl ?_ ?_<;> intro hh)|refine zm ?_|refine zn ?_|refine zo ?_|refine zp ?_|refine zr ?_|refine zs _ rfl ?_|refine zu ?_|exact Sy.fin_val (fun e=>rfl))));(all_goals (try conv => whnf)))
        refine Sy.cut_sem (Sy.cut_inv Sy.tab_ok (fun _ : Unit => [(3, .c (.v (.bool (okStep now span s p).1)))]) (fun _ => []) (fun _ => True) ?_ (fun _ _ => ?_))
        · refine Sy.region_go Sy.tab_ok ?_
          ((repeat' ((conv => whnf);(first|refine z1 ?_|refine z2 ?_|refine z3 ?_|refine z4 ?_|refine z5 ?_|refine z6 ?_|refine z7 ?_|refine z8 ?_|refine z9 ?_|refine za ?_|refine zb ?_|refine zc ?_|refine zd ?_|refine ze ?_|refine zf ?_|refine zg ?_|refine zh ?_|((first|refine zi ?_ ?_|refine zj ?_ ?_|refine zk ?_ ?_)<;> intro hh <;> first|(exfalso;omega)|skip)|(refine zl ?_ ?_<;> intro hh)|refine zm ?_|refine zn ?_|refine zo ?_|refine zp ?_|refine zr ?_|refine zs _ rfl ?_|refine zu ?_|exact Sy.fin_val (fun e=>rfl))));(all_goals (try conv => whnf)))
          all_goals (try (refine Sy.call_in Sy.lv42 Sy.tab_ok Try.func42 rfl _ Try.ntmps42 Try.call42 rfl (fun _ => ?_); ((repeat' ((conv => whnf);(first|refine z1 ?_|refine z2 ?_|refine z3 ?_|refine z4 ?_|refine z5 ?_|refine z6 ?_|refine z7 ?_|refine z8 ?_|refine z9 ?_|refine za ?_|refine zb ?_|refine zc ?_|refine zd ?_|refine ze ?_|refine zf ?_|refine zg ?_|refine zh ?_|((first|refine zi ?_ ?_|refine zj ?_ ?_|refine zk ?_ ?_)<;> intro hh <;> first|(exfalso;omega)|skip)|(refine zl ?_ ?_<;> intro hh)|refine zm ?_|refine zn ?_|refine zo ?_|refine zp ?_|refine zr ?_|refine zs _ rfl ?_|refine zu ?_|exact Sy.fin_val (fun e=>rfl))));(all_goals (try conv => whnf)))))
          all_goals
            refine ⟨(), trivial, ?_⟩
            ((repeat' (first|((conv => whnf);done)|((try conv => whnf);first|exact trivial|(refine And.intro ?_ ?_)|rfl)));(all_goals (try conv => whnf)))
            exact congrArg Value.bool (by simp [okStep, pok, *])
        · ((repeat' ((conv => whnf);(first|refine z1 ?_|refine z2 ?_|refine z3 ?_|refine z4 ?_|refine z5 ?_|refine z6 ?_|refine z7 ?_|refine z8 ?_|refine z9 ?_|refine za ?_|refine zb ?_|refine zc ?_|refine zd ?_|refine ze ?_|refine zf ?_|refine zg ?_|refine zh ?_|((first|refine zi ?_ ?_|refine zj ?_ ?_|refine zk ?_ ?_)<;> intro hh <;> first|(exfalso;omega)|skip)|(refine zl ?_ ?_<;> intro hh)|refine zm ?_|refine zn ?_|refine zo ?_|refine zp ?_|refine zr ?_|refine zs _ rfl ?_|refine zu ?_|exact Sy.fin_val (fun e=>rfl))));(all_goals (try conv => whnf)))
          refine ⟨n + 1, by omega, by omega, ?_⟩
          rw [e1]
          ((repeat' (first|((conv => whnf);done)|((try conv => whnf);first|exact trivial|(refine And.intro ?_ ?_)|rfl)));(all_goals (try conv => whnf)))
      · have e : n = ps.length := by omega
        subst e
        exact Sy.fin_val (fun e => congrArg (Value.int .i64) (by rw [chkE, ← okN_all, if_pos (by assumption)]))
      · have e : n = ps.length := by omega
        subst e
        exact Sy.fin_val (fun e => congrArg (Value.int .i64) (by rw [chkE, ← okN_all, if_neg (by simp [*])]))
end Go.Proofs.Ytiapcohnjklcfaa
