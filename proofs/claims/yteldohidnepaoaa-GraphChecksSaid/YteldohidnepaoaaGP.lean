/- Graph: wakes. -/
import Derived.Test.YteldohidnepaoaaGO
import Derived.Test.YteldohidnepaoaaGK
namespace Go.Proofs.Yteldohidnepaoaa
open Go Go.RowKit
open Sy (C SV V1 Blk St XD Els)
set_option maxRecDepth 10000

theorem check_plain : checkV plainM = (0, 0) := by decide +kernel
theorem check_plain2 : checkV (plainM.take 2) = (1, 162) := by decide +kernel
theorem gBs_plain : (gBs plainM).length = 60 := by decide +kernel
theorem wide_plain : subtasks plainM = 4 := by decide +kernel
attribute [local irreducible] checkV gBs
set_option maxHeartbeats 1000000 in
theorem wakes_any (w : World) : Calls Try.prog 9 #[] w (Sy.Ret (.bool true) w) := by
  refine Sy.calls_of Sy.lv9 Sy.tab_ok Try.func9 rfl _ Try.ntmps9 [] [] rfl rfl rfl trivial ?_
  ((repeat' ((conv => whnf);(first|refine z1 ?_|refine z2 ?_|refine z3 ?_|refine z4 ?_|refine z5 ?_|refine z6 ?_|refine z7 ?_|refine z8 ?_|refine z9 ?_|refine za ?_|refine zb ?_|refine zc ?_|refine zd ?_|refine ze ?_|refine zf ?_|refine zg ?_|refine zh ?_|((first|refine zi ?_ ?_|refine zj ?_ ?_|refine zk ?_ ?_)<;> intro hh <;> first|(exfalso;omega)|skip)|(refine zl ?_ ?_<;> intro hh)|refine zm ?_|refine zn ?_|refine zo ?_|refine zp ?_|refine zq ?_|refine zv ?_|refine zr ?_|refine zs _ rfl ?_|refine zu ?_|exact Sy.fin_val (fun e=>rfl))));(all_goals (try conv => whnf)))
  refine Sy.call_own plain_does Try.call31 ?_ (fun _ _ _ _ _ _ => trivial) (fun _ x G G' w w' h hG hk => ⟨⟨h.1.1.keep hG hk, h.1.2⟩, fun o ho => (h.2 o ho).keep hG hk⟩)
  · ((conv => whnf);(refine And.intro ?_ (And.intro ?_ (And.intro ?_ (And.intro ?_ ?_))));(all_goals ((repeat' (first|((conv => whnf);done)|((try conv => whnf);first|exact trivial|(refine And.intro ?_ ?_)|rfl)));(all_goals (try conv => whnf))));rotate_right)
    intro x hx G
    obtain ⟨pv, pl⟩ := x
    obtain ⟨hx, h1⟩ := hx
    dsimp only at hx h1 ⊢
    have hlen : pl.length = 3 := by rw [← opsOf_len, hx]; rfl
    have h1c : ∀ c ∈ pl.map encOV, ∀ u ∈ c, u.oneCell' = true := fun c hc u hu => by
      obtain ⟨o, ho, rfl⟩ := List.mem_map.1 hc
      simp only [encOV, List.mem_cons, List.mem_nil_iff, or_false] at hu
      rcases hu with rfl | rfl | rfl | rfl | rfl <;> first | rfl | exact h1 o ho
    have hc : checkV (opsOf pl) = (0, 0) := by rw [hx]; exact check_plain
    ((repeat' ((conv => whnf);(first|refine z1 ?_|refine z2 ?_|refine z3 ?_|refine z4 ?_|refine z5 ?_|refine z6 ?_|refine z7 ?_|refine z8 ?_|refine z9 ?_|refine za ?_|refine zb ?_|refine zc ?_|refine zd ?_|refine ze ?_|refine zf ?_|refine zg ?_|refine zh ?_|((first|refine zi ?_ ?_|refine zj ?_ ?_|refine zk ?_ ?_)<;> intro hh <;> first|(exfalso;omega)|skip)|(refine zl ?_ ?_<;> intro hh)|refine zm ?_|refine zn ?_|refine zo ?_|refine zp ?_|refine zq ?_|refine zv ?_|refine zr ?_|refine zs _ rfl ?_|exact Sy.fin_val (fun e=>rfl))));(all_goals (try conv => whnf)))
    refine Sy.call_val (.tup [.c (.v (.int .i64 0)), .c (.v (.int .i64 0))]) Try.call11 rfl (fun e a w' h => by
      have := check_any pv pl w' (GOk.mono (h.ev w' fun _ _ => rfl).2.2 fun b hb => h.fl b hb)
      rw [hc] at this; exact this) ?_
    ((repeat' ((conv => whnf);(first|refine z1 ?_|refine z2 ?_|refine z3 ?_|refine z4 ?_|refine z5 ?_|refine z6 ?_|refine z7 ?_|refine z8 ?_|refine z9 ?_|refine za ?_|refine zb ?_|refine zc ?_|refine zd ?_|refine ze ?_|refine zf ?_|refine zg ?_|refine zh ?_|((first|refine zi ?_ ?_|refine zj ?_ ?_|refine zk ?_ ?_)<;> intro hh <;> first|(exfalso;omega)|skip)|(refine zl ?_ ?_<;> intro hh)|refine zm ?_|refine zn ?_|refine zo ?_|refine zp ?_|refine zq ?_|refine zv ?_|refine zr ?_|refine zs _ rfl ?_|exact Sy.fin_val (fun e=>rfl))));(all_goals (try conv => whnf)))
    refine Sy.open_ext 5 3 (pl.map encOV) (fun e a w h => by rw [← hlen]; exact (h.ev w fun _ _ => rfl).2.2.1.1) h1c ?_
    ((repeat' ((conv => whnf);(first|refine z1 ?_|refine z2 ?_|refine z3 ?_|refine z4 ?_|refine z5 ?_|refine z6 ?_|refine z7 ?_|refine z8 ?_|refine z9 ?_|refine za ?_|refine zb ?_|refine zc ?_|refine zd ?_|refine ze ?_|refine zf ?_|refine zg ?_|refine zh ?_|((first|refine zi ?_ ?_|refine zj ?_ ?_|refine zk ?_ ?_)<;> intro hh <;> first|(exfalso;omega)|skip)|(refine zl ?_ ?_<;> intro hh)|refine zm ?_|refine zn ?_|refine zo ?_|refine zp ?_|refine zq ?_|refine zv ?_|refine zr ?_|refine zs _ rfl ?_|exact Sy.fin_val (fun e=>rfl))));(all_goals (try conv => whnf)))
    refine Sy.sli_eq 0 2 rfl rfl ⟨by omega, by omega⟩ ?_
    ((repeat' ((conv => whnf);(first|refine z1 ?_|refine z2 ?_|refine z3 ?_|refine z4 ?_|refine z5 ?_|refine z6 ?_|refine z7 ?_|refine z8 ?_|refine z9 ?_|refine za ?_|refine zb ?_|refine zc ?_|refine zd ?_|refine ze ?_|refine zf ?_|refine zg ?_|refine zh ?_|((first|refine zi ?_ ?_|refine zj ?_ ?_|refine zk ?_ ?_)<;> intro hh <;> first|(exfalso;omega)|skip)|(refine zl ?_ ?_<;> intro hh)|refine zm ?_|refine zn ?_|refine zo ?_|refine zp ?_|refine zq ?_|refine zv ?_|refine zr ?_|refine zs _ rfl ?_|exact Sy.fin_val (fun e=>rfl))));(all_goals (try conv => whnf)))
    rw [show List.take (2 - 0) (List.drop 0 (pl.map encOV)) = (pl.take 2).map encOV by simp, show 2 - 0 = (pl.take 2).length by rw [List.length_take, hlen]; rfl]
    refine Sy.call_val (.tup [.c (.v (.int .i64 1)), .c (.v (.int .i64 162))]) Try.call11 rfl (fun e a w' h => by
      have := check_any (e.rv 2) (pl.take 2) w' ⟨Sy.row_reads h (.inr rfl), fun o ho => ((h.ev w' fun _ _ => rfl).2.2.2 o (List.mem_of_mem_take ho)).mono fun b hb => h.fl b hb⟩
      rw [opsOf_take, hx, check_plain2] at this; exact this) ?_
    ((repeat' ((conv => whnf);(first|refine z1 ?_|refine z2 ?_|refine z3 ?_|refine z4 ?_|refine z5 ?_|refine z6 ?_|refine z7 ?_|refine z8 ?_|refine z9 ?_|refine za ?_|refine zb ?_|refine zc ?_|refine zd ?_|refine ze ?_|refine zf ?_|refine zg ?_|refine zh ?_|((first|refine zi ?_ ?_|refine zj ?_ ?_|refine zk ?_ ?_)<;> intro hh <;> first|(exfalso;omega)|skip)|(refine zl ?_ ?_<;> intro hh)|refine zm ?_|refine zn ?_|refine zo ?_|refine zp ?_|refine zq ?_|refine zv ?_|refine zr ?_|refine zs _ rfl ?_|exact Sy.fin_val (fun e=>rfl))));(all_goals (try conv => whnf)))
    refine Sy.call_r1 ⟨5, 1, (gBs plainM).length, (gBs plainM).map encB⟩ (fun j => .tup [.c (.row j), .c (.v (.int .i64 0))]) Try.call13 (fun e a w' h => by
      have := encode_any pv pl w' (GOk.mono (h.ev w' fun _ _ => rfl).2.2 fun b hb => h.fl b hb)
      rw [hx, encG, if_pos (by rw [check_plain]), check_plain] at this; exact this) ?_
    ((repeat' ((conv => whnf);(first|refine z1 ?_|refine z2 ?_|refine z3 ?_|refine z4 ?_|refine z5 ?_|refine z6 ?_|refine z7 ?_|refine z8 ?_|refine z9 ?_|refine za ?_|refine zb ?_|refine zc ?_|refine zd ?_|refine ze ?_|refine zf ?_|refine zg ?_|refine zh ?_|((first|refine zi ?_ ?_|refine zj ?_ ?_|refine zk ?_ ?_)<;> intro hh <;> first|(exfalso;omega)|skip)|(refine zl ?_ ?_<;> intro hh)|refine zm ?_|refine zn ?_|refine zo ?_|refine zp ?_|refine zq ?_|refine zv ?_|refine zr ?_|refine zs _ rfl ?_|exact Sy.fin_val (fun e=>rfl))));(all_goals (try conv => whnf)))
    · refine Sy.call_val (.c (.v (.int .i64 4))) Try.call21 rfl (fun e a w' h => by
        have := subtasks_any pv pl w' (GOk.mono (h.ev w' fun _ _ => rfl).2.2 fun b hb => h.fl b hb)
        rw [hx, wide_plain] at this; exact this) ?_
      ((repeat' ((conv => whnf);(first|refine z1 ?_|refine z2 ?_|refine z3 ?_|refine z4 ?_|refine z5 ?_|refine z6 ?_|refine z7 ?_|refine z8 ?_|refine z9 ?_|refine za ?_|refine zb ?_|refine zc ?_|refine zd ?_|refine ze ?_|refine zf ?_|refine zg ?_|refine zh ?_|((first|refine zi ?_ ?_|refine zj ?_ ?_|refine zk ?_ ?_)<;> intro hh <;> first|(exfalso;omega)|skip)|(refine zl ?_ ?_<;> intro hh)|refine zm ?_|refine zn ?_|refine zo ?_|refine zp ?_|refine zq ?_|refine zv ?_|refine zr ?_|refine zs _ rfl ?_|exact Sy.fin_val (fun e=>rfl))));(all_goals (try conv => whnf)))
    · exfalso
      have := gBs_plain
      simp_all
end Go.Proofs.Yteldohidnepaoaa
