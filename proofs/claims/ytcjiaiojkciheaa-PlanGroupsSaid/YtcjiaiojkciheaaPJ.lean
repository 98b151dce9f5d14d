/- Plan: records: Check, Group, Mine; has. -/
import Derived.Test.YtcjiaiojkciheaaPD
namespace Go.Proofs.Ytcjiaiojkciheaa
open Go Go.RowKit
open Sy (C SV V1 Blk St XD Els)
set_option maxRecDepth 10000

def recOk (s k : Int) : Prop := 0 ≤ s ∧ s < 8 ∧ 0 ≤ k ∧ k < 32
instance (s k : Int) : Decidable (recOk s k) := by unfold recOk; exact inferInstance
def recE (s k : Int) : Int := if recOk s k then 0 else 150
theorem recE_ok {s k : Int} (h : recOk s k) : recE s k = 0 := if_pos h
theorem recE_no {s k : Int} (h : ¬ recOk s k) : recE s k = 150 := if_neg h
def recV (s k x : Int) : Value := .agg #[.int .i64 s, .int .i64 k, .int .i64 x]
theorem reccheck_any (s k x : Int) (w : World) : Calls Try.prog 67 #[.agg #[.int .i64 s, .int .i64 k, .int .i64 x]] w (Sy.Ret (.int .i64 (recE s k)) w) := by
  refine Sy.calls_of Sy.lv67 Sy.tab_ok Try.func67 rfl _ Try.ntmps67 [] [.agg [.v (.int .i64 s), .v (.int .i64 k), .v (.int .i64 x)]] rfl rfl rfl trivial ?_
  by_cases h1 : s < 0
  · rw [recE_no (fun h => by have := h.1; omega)]
    ((repeat' ((conv => whnf);(first|refine z1 ?_|refine z2 ?_|refine z3 ?_|refine z4 ?_|refine z5 ?_|refine z6 ?_|refine z7 ?_|refine z8 ?_|refine z9 ?_|refine za ?_|refine zb ?_|refine zc ?_|refine zd ?_|refine ze ?_|refine zf ?_|refine zg ?_|refine zh ?_|((first|refine zi ?_ ?_|refine zj ?_ ?_|refine zk ?_ ?_)<;> intro hh <;> first|(exfalso;omega)|skip)|(refine zl ?_ ?_<;> intro hh)|refine zm ?_|refine zn ?_|refine zo ?_|refine zp ?_|refine zq ?_|refine zv ?_|refine zr ?_|refine zs _ rfl ?_|refine zu ?_|exact Sy.fin_val (fun e=>rfl))));(all_goals (try conv => whnf)))
    all_goals done
  · by_cases h2 : 8 ≤ s
    · rw [recE_no (fun h => by have := h.2.1; omega)]
      ((repeat' ((conv => whnf);(first|refine z1 ?_|refine z2 ?_|refine z3 ?_|refine z4 ?_|refine z5 ?_|refine z6 ?_|refine z7 ?_|refine z8 ?_|refine z9 ?_|refine za ?_|refine zb ?_|refine zc ?_|refine zd ?_|refine ze ?_|refine zf ?_|refine zg ?_|refine zh ?_|((first|refine zi ?_ ?_|refine zj ?_ ?_|refine zk ?_ ?_)<;> intro hh <;> first|(exfalso;omega)|skip)|(refine zl ?_ ?_<;> intro hh)|refine zm ?_|refine zn ?_|refine zo ?_|refine zp ?_|refine zq ?_|refine zv ?_|refine zr ?_|refine zs _ rfl ?_|refine zu ?_|exact Sy.fin_val (fun e=>rfl))));(all_goals (try conv => whnf)))
      all_goals done
    · by_cases h3 : k < 0
      · rw [recE_no (fun h => by have := h.2.2.1; omega)]
        ((repeat' ((conv => whnf);(first|refine z1 ?_|refine z2 ?_|refine z3 ?_|refine z4 ?_|refine z5 ?_|refine z6 ?_|refine z7 ?_|refine z8 ?_|refine z9 ?_|refine za ?_|refine zb ?_|refine zc ?_|refine zd ?_|refine ze ?_|refine zf ?_|refine zg ?_|refine zh ?_|((first|refine zi ?_ ?_|refine zj ?_ ?_|refine zk ?_ ?_)<;> intro hh <;> first|(exfalso;omega)|skip)|(refine zl ?_ ?_<;> intro hh)|refine zm ?_|refine zn ?_|refine zo ?_|refine zp ?_|refine zq ?_|refine zv ?_|refine zr ?_|refine zs _ rfl ?_|refine zu ?_|exact Sy.fin_val (fun e=>rfl))));(all_goals (try conv => whnf)))
        all_goals done
      · by_cases h4 : 32 ≤ k
        · rw [recE_no (fun h => by have := h.2.2.2; omega)]
          ((repeat' ((conv => whnf);(first|refine z1 ?_|refine z2 ?_|refine z3 ?_|refine z4 ?_|refine z5 ?_|refine z6 ?_|refine z7 ?_|refine z8 ?_|refine z9 ?_|refine za ?_|refine zb ?_|refine zc ?_|refine zd ?_|refine ze ?_|refine zf ?_|refine zg ?_|refine zh ?_|((first|refine zi ?_ ?_|refine zj ?_ ?_|refine zk ?_ ?_)<;> intro hh <;> first|(exfalso;omega)|skip)|(refine zl ?_ ?_<;> intro hh)|refine zm ?_|refine zn ?_|refine zo ?_|refine zp ?_|refine zq ?_|refine zv ?_|refine zr ?_|refine zs _ rfl ?_|refine zu ?_|exact Sy.fin_val (fun e=>rfl))));(all_goals (try conv => whnf)))
          all_goals done
        · rw [recE_ok ⟨by omega, by omega, by omega, by omega⟩]
          ((repeat' ((conv => whnf);(first|refine z1 ?_|refine z2 ?_|refine z3 ?_|refine z4 ?_|refine z5 ?_|refine z6 ?_|refine z7 ?_|refine z8 ?_|refine z9 ?_|refine za ?_|refine zb ?_|refine zc ?_|refine zd ?_|refine ze ?_|refine zf ?_|refine zg ?_|refine zh ?_|((first|refine zi ?_ ?_|refine zj ?_ ?_|refine zk ?_ ?_)<;> intro hh <;> first|(exfalso;omega)|skip)|(refine zl ?_ ?_<;> intro hh)|refine zm ?_|refine zn ?_|refine zo ?_|refine zp ?_|refine zq ?_|refine zv ?_|refine zr ?_|refine zs _ rfl ?_|refine zu ?_|exact Sy.fin_val (fun e=>rfl))));(all_goals (try conv => whnf)))
          all_goals done
theorem kgroup_any (s x : Int) (k : Nat) (w : World) (h : recOk s k) : Calls Try.prog 40 #[.agg #[.int .i64 s, .int .i64 k, .int .i64 x]] w (Sy.Ret (.tuple #[.int .i64 ((k % 8 : Nat) : Int), .int .i64 0]) w) := by
  refine Sy.calls_of Sy.lv40 Sy.tab_ok Try.func40 rfl _ Try.ntmps40 [] [.agg [.v (.int .i64 s), .v (.int .i64 k), .v (.int .i64 x)]] rfl rfl rfl trivial ?_
  ((repeat' ((conv => whnf);(first|refine z1 ?_|refine z2 ?_|refine z3 ?_|refine z4 ?_|refine z5 ?_|refine z6 ?_|refine z7 ?_|refine z8 ?_|refine z9 ?_|refine za ?_|refine zb ?_|refine zc ?_|refine zd ?_|refine ze ?_|refine zf ?_|refine zg ?_|refine zh ?_|((first|refine zi ?_ ?_|refine zj ?_ ?_|refine zk ?_ ?_)<;> intro hh <;> first|(exfalso;omega)|skip)|(refine zl ?_ ?_<;> intro hh)|refine zm ?_|refine zn ?_|refine zo ?_|refine zp ?_|refine zq ?_|refine zv ?_|refine zr ?_|refine zs _ rfl ?_|refine zu ?_|exact Sy.fin_val (fun e=>rfl))));(all_goals (try conv => whnf)))
  refine Sy.call_val (.c (.v (.int .i64 0))) Try.call67 rfl (fun e a w' h' => by have := reccheck_any s k x w'; rw [recE_ok h] at this; exact this) ?_
  ((repeat' ((conv => whnf);(first|refine z1 ?_|refine z2 ?_|refine z3 ?_|refine z4 ?_|refine z5 ?_|refine z6 ?_|refine z7 ?_|refine z8 ?_|refine z9 ?_|refine za ?_|refine zb ?_|refine zc ?_|refine zd ?_|refine ze ?_|refine zf ?_|refine zg ?_|refine zh ?_|((first|refine zi ?_ ?_|refine zj ?_ ?_|refine zk ?_ ?_)<;> intro hh <;> first|(exfalso;omega)|skip)|(refine zl ?_ ?_<;> intro hh)|refine zm ?_|refine zn ?_|refine zo ?_|refine zp ?_|refine zq ?_|refine zv ?_|refine zr ?_|refine zs _ rfl ?_|refine zu ?_|exact Sy.fin_val (fun e=>rfl))));(all_goals (try conv => whnf)))
  refine Sy.rem_in (by omega) (by omega) ?_
  rw [show ((k : Nat) : Int) % 8 = ((k % 8 : Nat) : Int) by omega]
  ((repeat' ((conv => whnf);(first|refine z1 ?_|refine z2 ?_|refine z3 ?_|refine z4 ?_|refine z5 ?_|refine z6 ?_|refine z7 ?_|refine z8 ?_|refine z9 ?_|refine za ?_|refine zb ?_|refine zc ?_|refine zd ?_|refine ze ?_|refine zf ?_|refine zg ?_|refine zh ?_|((first|refine zi ?_ ?_|refine zj ?_ ?_|refine zk ?_ ?_)<;> intro hh <;> first|(exfalso;omega)|skip)|(refine zl ?_ ?_<;> intro hh)|refine zm ?_|refine zn ?_|refine zo ?_|refine zp ?_|refine zq ?_|refine zv ?_|refine zr ?_|refine zs _ rfl ?_|refine zu ?_|exact Sy.fin_val (fun e=>rfl))));(all_goals (try conv => whnf)))
  done
theorem kshare_any (idx : Nat) (wd : Int) (w : World) (h1 : wd = 1 ∨ wd = 2 ∨ wd = 3) (h2 : (idx : Int) < wd) : Calls Try.prog 81 #[.int .i64 idx, .int .i64 wd] w (Sy.Ret (.bool true) w) := by
  refine Sy.calls_of Sy.lv81 Sy.tab_ok Try.func81 rfl _ Try.ntmps81 [] [.c (.v (.int .i64 idx)), .c (.v (.int .i64 wd))] rfl rfl rfl trivial ?_
  ((repeat' ((conv => whnf);(first|refine z1 ?_|refine z2 ?_|refine z3 ?_|refine z4 ?_|refine z5 ?_|refine z6 ?_|refine z7 ?_|refine z8 ?_|refine z9 ?_|refine za ?_|refine zb ?_|refine zc ?_|refine zd ?_|refine ze ?_|refine zf ?_|refine zg ?_|refine zh ?_|((first|refine zi ?_ ?_|refine zj ?_ ?_|refine zk ?_ ?_)<;> intro hh <;> first|(exfalso;omega)|skip)|(refine zl ?_ ?_<;> intro hh)|refine zm ?_|refine zn ?_|refine zo ?_|refine zp ?_|refine zq ?_|refine zv ?_|refine zr ?_|refine zs _ rfl ?_|refine zu ?_|exact Sy.fin_val (fun e=>rfl))));(all_goals (try conv => whnf)))
  refine Sy.call_val (.c (.v (.bool true))) Try.call92 rfl (fun e a w' h => kwidth_any wd w' (by omega) (by omega)) ?_
  have h0 : (0 : Int) ≤ idx := by omega
  ((repeat' ((conv => whnf);(first|refine z1 ?_|refine z2 ?_|refine z3 ?_|refine z4 ?_|refine z5 ?_|refine z6 ?_|refine z7 ?_|refine z8 ?_|refine z9 ?_|refine za ?_|refine zb ?_|refine zc ?_|refine zd ?_|refine ze ?_|refine zf ?_|refine zg ?_|refine zh ?_|((first|refine zi ?_ ?_|refine zj ?_ ?_|refine zk ?_ ?_)<;> intro hh <;> first|(exfalso;omega)|skip)|(refine zl ?_ ?_<;> intro hh)|refine zm ?_|refine zn ?_|refine zo ?_|refine zp ?_|refine zq ?_|refine zv ?_|refine zr ?_|refine zs _ rfl ?_|refine zu ?_|exact Sy.fin_val (fun e=>rfl))));(all_goals (try conv => whnf)))
  exact Sy.fin_val (fun e => congrArg Value.bool (by simp; omega))
theorem kmine_any (s x : Int) (k idx : Nat) (wd : Int) (w : World) (h : recOk s k) (h1 : wd = 1 ∨ wd = 2 ∨ wd = 3) (h2 : (idx : Int) < wd) : Calls Try.prog 68 #[.agg #[.int .i64 s, .int .i64 k, .int .i64 x], .int .i64 idx, .int .i64 wd] w (Sy.Ret (.bool (ownB wd.toNat idx (k % 8))) w) := by
  refine Sy.calls_of Sy.lv68 Sy.tab_ok Try.func68 rfl _ Try.ntmps68 [] [.agg [.v (.int .i64 s), .v (.int .i64 k), .v (.int .i64 x)], .c (.v (.int .i64 idx)), .c (.v (.int .i64 wd))] rfl rfl rfl trivial ?_
  ((repeat' ((conv => whnf);(first|refine z1 ?_|refine z2 ?_|refine z3 ?_|refine z4 ?_|refine z5 ?_|refine z6 ?_|refine z7 ?_|refine z8 ?_|refine z9 ?_|refine za ?_|refine zb ?_|refine zc ?_|refine zd ?_|refine ze ?_|refine zf ?_|refine zg ?_|refine zh ?_|((first|refine zi ?_ ?_|refine zj ?_ ?_|refine zk ?_ ?_)<;> intro hh <;> first|(exfalso;omega)|skip)|(refine zl ?_ ?_<;> intro hh)|refine zm ?_|refine zn ?_|refine zo ?_|refine zp ?_|refine zq ?_|refine zv ?_|refine zr ?_|refine zs _ rfl ?_|refine zu ?_|exact Sy.fin_val (fun e=>rfl))));(all_goals (try conv => whnf)))
  refine Sy.call_val (.tup [.c (.v (.int .i64 ((k % 8 : Nat) : Int))), .c (.v (.int .i64 0))]) Try.call40 rfl (fun e a w' h' => kgroup_any s x k w' h) ?_
  have hk8 : k % 8 < 8 := Nat.mod_lt _ (by omega)
  have ho := own_iff (k % 8) wd.toNat wd idx (by omega)
  generalize k % 8 = n at *
  ((repeat' ((conv => whnf);(first|refine z1 ?_|refine z2 ?_|refine z3 ?_|refine z4 ?_|refine z5 ?_|refine z6 ?_|refine z7 ?_|refine z8 ?_|refine z9 ?_|refine za ?_|refine zb ?_|refine zc ?_|refine zd ?_|refine ze ?_|refine zf ?_|refine zg ?_|refine zh ?_|((first|refine zi ?_ ?_|refine zj ?_ ?_|refine zk ?_ ?_)<;> intro hh <;> first|(exfalso;omega)|skip)|(refine zl ?_ ?_<;> intro hh)|refine zm ?_|refine zn ?_|refine zo ?_|refine zp ?_|refine zq ?_|refine zv ?_|refine zr ?_|refine zs _ rfl ?_|refine zu ?_|exact Sy.fin_val (fun e=>rfl))));(all_goals (try conv => whnf)))
  refine Sy.call_val (.c (.v (.bool true))) Try.call81 rfl (fun e a w' h' => kshare_any idx wd w' h1 h2) ?_
  ((repeat' ((conv => whnf);(first|refine z1 ?_|refine z2 ?_|refine z3 ?_|refine z4 ?_|refine z5 ?_|refine z6 ?_|refine z7 ?_|refine z8 ?_|refine z9 ?_|refine za ?_|refine zb ?_|refine zc ?_|refine zd ?_|refine ze ?_|refine zf ?_|refine zg ?_|refine zh ?_|((first|refine zi ?_ ?_|refine zj ?_ ?_|refine zk ?_ ?_)<;> intro hh <;> first|(exfalso;omega)|skip)|(refine zl ?_ ?_<;> intro hh)|refine zm ?_|refine zn ?_|refine zo ?_|refine zp ?_|refine zq ?_|refine zv ?_|refine zr ?_|refine zs _ rfl ?_|refine zu ?_|exact Sy.fin_val (fun e=>rfl))));(all_goals (try conv => whnf)))
  refine Sy.call_val (.c (.v (.int .i64 (n * wd / 8)))) Try.call82 rfl (fun e a w' h' => kown_any n wd w' hk8 h1) ?_
  ((repeat' ((conv => whnf);(first|refine z1 ?_|refine z2 ?_|refine z3 ?_|refine z4 ?_|refine z5 ?_|refine z6 ?_|refine z7 ?_|refine z8 ?_|refine z9 ?_|refine za ?_|refine zb ?_|refine zc ?_|refine zd ?_|refine ze ?_|refine zf ?_|refine zg ?_|refine zh ?_|((first|refine zi ?_ ?_|refine zj ?_ ?_|refine zk ?_ ?_)<;> intro hh <;> first|(exfalso;omega)|skip)|(refine zl ?_ ?_<;> intro hh)|refine zm ?_|refine zn ?_|refine zo ?_|refine zp ?_|refine zq ?_|refine zv ?_|refine zr ?_|refine zs _ rfl ?_|refine zu ?_|exact Sy.fin_val (fun e=>rfl))));(all_goals (try conv => whnf)))
  exact Sy.fin_val (fun e => congrArg Value.bool (by rw [Bool.eq_iff_iff, beq_iff_eq]; exact ho))
end Go.Proofs.Ytcjiaiojkciheaa
