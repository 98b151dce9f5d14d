/- Plan: has, Has. -/
import Derived.Test.YtcjiaiojkciheaaPE
import Derived.Test.YtcjiaiojkciheaaPJ
namespace Go.Proofs.Ytcjiaiojkciheaa
open Go Go.RowKit
open Sy (C SV V1 Blk St XD Els)
set_option maxRecDepth 10000

def hasE0 (g : List Opr) (n s k : Int) : Int := if subE g n = 0 then recE s k else subE g n
def hasB0 (g : List Opr) (n s k : Int) : Bool := decide (hasE0 g n s k = 0) && ownB (widN g (subV g n).1) (subV g n).2 (k.toNat % 8)
def hasE (g : List Opr) (n s k : Int) : Int := if (checkV g).2 = 0 then hasE0 g n s k else (checkV g).2
def hasB (g : List Opr) (n s k : Int) : Bool := decide (hasE g n s k = 0) && ownB (widN g (subV g n).1) (subV g n).2 (k.toNat % 8)
theorem subV_in {g : List Opr} (hg : goodTo g g.length) {n : Int} (h : subE g n = 0) : (subV g n).1 < g.length ∧ (subV g n).2 < widN g (subV g n).1 ∧ (subsL g)[n.toNat]? = some (subV g n) ∧ 0 ≤ n ∧ n < ((subsL g).length : Int) := by
  have hb : ¬ (n < 0 ∨ ((subsL g).length : Int) ≤ n) := fun hb => by unfold subE at h; rw [if_pos hb] at h; cases h
  have hlt : n.toNat < (subsL g).length := by omega
  have hv : subV g n = (subsL g)[n.toNat] := by unfold subV; rw [if_pos h, List.getElem?_eq_getElem hlt]; rfl
  have hm := subsL_mem hg (List.getElem_mem hlt)
  rw [← hv] at hm
  exact ⟨hm.1, hm.2, by rw [List.getElem?_eq_getElem hlt, hv], by omega, by omega⟩
attribute [local irreducible] checkV subN subE subV recE ownB widN
theorem has0_any (v : Value) (gl : List OpV) (n s k x : Int) (w : World) (hr : GOk (fun b => b < w.heap.size) w v gl) (hlen : gl.length ≤ 100) (hg : goodTo (opsOf gl) gl.length) :
    Calls Try.prog 37 #[.agg #[v], .int .i64 n, .agg #[.int .i64 s, .int .i64 k, .int .i64 x]] w (Sy.Ret (.tuple #[.bool (hasB0 (opsOf gl) n s k), .int .i64 (hasE0 (opsOf gl) n s k)]) w) := by
  have hol := opsOf_len gl
  have hg' : goodTo (opsOf gl) (opsOf gl).length := by rw [hol]; exact hg
  refine Sy.calls_of Sy.lv37 Sy.tab_ok Try.func37 rfl _ Try.ntmps37 [⟨v, 5, gl.length, gl.map encOV⟩] [.agg [.row 0], .c (.v (.int .i64 n)), .agg [.v (.int .i64 s), .v (.int .i64 k), .v (.int .i64 x)]] rfl rfl rfl ⟨hr.1, trivial⟩ ?_
  ((repeat' ((conv => whnf);(first|refine z1 ?_|refine z2 ?_|refine z3 ?_|refine z4 ?_|refine z5 ?_|refine z6 ?_|refine z7 ?_|refine z8 ?_|refine z9 ?_|refine za ?_|refine zb ?_|refine zc ?_|refine zd ?_|refine ze ?_|refine zf ?_|refine zg ?_|refine zh ?_|((first|refine zi ?_ ?_|refine zj ?_ ?_|refine zk ?_ ?_)<;> intro hh <;> first|(exfalso;omega)|skip)|(refine zl ?_ ?_<;> intro hh)|refine zm ?_|refine zn ?_|refine zo ?_|refine zp ?_|refine zq ?_|refine zv ?_|refine zr ?_|refine zs _ rfl ?_|exact Sy.fin_val (fun e=>rfl))));(all_goals (try conv => whnf)))
  refine Sy.call_val (.tup [.agg [.v (.int .i64 (subV (opsOf gl) n).1), .v (.int .i64 (subV (opsOf gl) n).2)], .c (.v (.int .i64 (subE (opsOf gl) n)))]) Try.call66 rfl (fun e a w' h => sub_any (e.rv 0) gl n w' ⟨Sy.row_reads h (.inr rfl), fun o ho => Sy.later_in h (hr.2 o ho)⟩ hlen hg) ?_
  by_cases hs : subE (opsOf gl) n = 0
  · have hE : hasE0 (opsOf gl) n s k = recE s k := if_pos hs
    rw [hs]
    ((repeat' ((conv => whnf);(first|refine z1 ?_|refine z2 ?_|refine z3 ?_|refine z4 ?_|refine z5 ?_|refine z6 ?_|refine z7 ?_|refine z8 ?_|refine z9 ?_|refine za ?_|refine zb ?_|refine zc ?_|refine zd ?_|refine ze ?_|refine zf ?_|refine zg ?_|refine zh ?_|((first|refine zi ?_ ?_|refine zj ?_ ?_|refine zk ?_ ?_)<;> intro hh <;> first|(exfalso;omega)|skip)|(refine zl ?_ ?_<;> intro hh)|refine zm ?_|refine zn ?_|refine zo ?_|refine zp ?_|refine zq ?_|refine zv ?_|refine zr ?_|refine zs _ rfl ?_|exact Sy.fin_val (fun e=>rfl))));(all_goals (try conv => whnf)))
    refine Sy.call_val (.c (.v (.int .i64 (recE s k)))) Try.call67 rfl (fun e a w' h => reccheck_any s k x w') ?_
    by_cases hk : recOk s k
    · have hB : hasB0 (opsOf gl) n s k = ownB (widN (opsOf gl) (subV (opsOf gl) n).1) (subV (opsOf gl) n).2 (k.toNat % 8) := by unfold hasB0; rw [hE, recE_ok hk]; rfl
      rw [hE, hB, recE_ok hk]
      obtain ⟨K, rfl⟩ : ∃ K : Nat, k = (K : Int) := ⟨k.toNat, by have := hk.2.2.1; omega⟩
      rw [Int.toNat_natCast]
      obtain ⟨hs1, hs2, hs3, _⟩ := subV_in hg' hs
      generalize subV (opsOf gl) n = p at *
      have hlt : p.1 < gl.length := by omega
      have hgo := List.getElem?_eq_getElem hlt
      generalize gl[p.1] = o at *
      have hw3 := wid3 hg hlt (opsOf_get hgo)
      have hw : widN (opsOf gl) p.1 = o.op.width.toNat := by unfold widN; rw [opsOf_get hgo]
      rw [hw] at hs2 ⊢
      ((repeat' ((conv => whnf);(first|refine z1 ?_|refine z2 ?_|refine z3 ?_|refine z4 ?_|refine z5 ?_|refine z6 ?_|refine z7 ?_|refine z8 ?_|refine z9 ?_|refine za ?_|refine zb ?_|refine zc ?_|refine zd ?_|refine ze ?_|refine zf ?_|refine zg ?_|refine zh ?_|((first|refine zi ?_ ?_|refine zj ?_ ?_|refine zk ?_ ?_)<;> intro hh <;> first|(exfalso;omega)|skip)|(refine zl ?_ ?_<;> intro hh)|refine zm ?_|refine zn ?_|refine zo ?_|refine zp ?_|refine zq ?_|refine zv ?_|refine zr ?_|refine zs _ rfl ?_|exact Sy.fin_val (fun e=>rfl))));(all_goals (try conv => whnf)))
      refine Sy.draw_go [] (by kernel_rfl) ?_
      intro e0
      conv => whnf
      refine zt 0 rfl ?_
      conv => whnf
      refine zt 1 rfl ?_
      conv => whnf
      refine zt 2 rfl ?_
      conv => whnf
      refine zt 3 rfl ?_
      conv => whnf
      refine zt 4 rfl ?_
      conv => whnf
      refine zt 5 rfl ?_
      conv => whnf
      refine zt 6 rfl ?_
      conv => whnf
      refine zt 7 rfl ?_
      (conv => whnf);(repeat' ((first|refine z1 ?_|refine z2 ?_|refine z3 ?_|refine z4 ?_|refine z5 ?_|refine z6 ?_|refine z7 ?_|refine z8 ?_|refine z9 ?_|refine za ?_|refine zb ?_|refine zc ?_|refine zd ?_|refine ze ?_|refine zf ?_|refine zg ?_|refine zh ?_|((first|refine zi ?_ ?_|refine zj ?_ ?_|refine zk ?_ ?_)<;> intro hh <;> first|(exfalso;omega)|skip)|(refine zl ?_ ?_<;> intro hh)|refine zm ?_|refine zn ?_|refine zo ?_|refine zp ?_|refine zq ?_|refine zv ?_|refine zr ?_|refine zs _ rfl ?_|refine zu ?_|exact Sy.fin_val (fun e=>rfl));(try conv => whnf)))
      skip
      conv => whnf
      refine zt 8 rfl ?_
      conv => whnf
      refine zt 9 rfl ?_
      conv => whnf
      refine Sy.el_map o hgo ?_
      conv => whnf
      conv => whnf
      refine zd1 [10] (zx rfl ?_ zy)
      conv => whnf
      refine Sy.call_val (.c (.v (.bool (ownB o.op.width.toNat p.2 (K % 8))))) Try.call68 rfl (fun e a w' h => kmine_any s x K p.2 o.op.width w' hk hw3 (by omega)) ?_
      conv => whnf
      refine ⟨(by repeat' ((conv => whnf);first|exact trivial|(refine And.intro ?_ ?_)|rfl)), ?_⟩
      refine zt 11 rfl ?_
      conv => whnf
      refine zt 12 rfl ?_
      conv => whnf
      refine zw ?_
      skip
      all_goals (((repeat' ((conv => whnf);(first|refine z1 ?_|refine z2 ?_|refine z3 ?_|refine z4 ?_|refine z5 ?_|refine z6 ?_|refine z7 ?_|refine z8 ?_|refine z9 ?_|refine za ?_|refine zb ?_|refine zc ?_|refine zd ?_|refine ze ?_|refine zf ?_|refine zg ?_|refine zh ?_|((first|refine zi ?_ ?_|refine zj ?_ ?_|refine zk ?_ ?_)<;> intro hh <;> first|(exfalso;omega)|skip)|(refine zl ?_ ?_<;> intro hh)|refine zm ?_|refine zn ?_|refine zo ?_|refine zp ?_|refine zq ?_|refine zv ?_|refine zr ?_|refine zs _ rfl ?_|exact Sy.fin_val (fun e=>rfl))));(all_goals (try conv => whnf))))
      all_goals done
    · have hB : hasB0 (opsOf gl) n s k = false := by unfold hasB0; rw [hE, recE_no hk]; rfl
      rw [hE, hB, recE_no hk]
      ((repeat' ((conv => whnf);(first|refine z1 ?_|refine z2 ?_|refine z3 ?_|refine z4 ?_|refine z5 ?_|refine z6 ?_|refine z7 ?_|refine z8 ?_|refine z9 ?_|refine za ?_|refine zb ?_|refine zc ?_|refine zd ?_|refine ze ?_|refine zf ?_|refine zg ?_|refine zh ?_|((first|refine zi ?_ ?_|refine zj ?_ ?_|refine zk ?_ ?_)<;> intro hh <;> first|(exfalso;omega)|skip)|(refine zl ?_ ?_<;> intro hh)|refine zm ?_|refine zn ?_|refine zo ?_|refine zp ?_|refine zq ?_|refine zv ?_|refine zr ?_|refine zs _ rfl ?_|exact Sy.fin_val (fun e=>rfl))));(all_goals (try conv => whnf)))
      all_goals done
  · have hE : hasE0 (opsOf gl) n s k = subE (opsOf gl) n := if_neg hs
    have hB : hasB0 (opsOf gl) n s k = false := by unfold hasB0; rw [hE, decide_eq_false hs]; rfl
    rw [hE, hB]
    ((repeat' ((conv => whnf);(first|refine z1 ?_|refine z2 ?_|refine z3 ?_|refine z4 ?_|refine z5 ?_|refine z6 ?_|refine z7 ?_|refine z8 ?_|refine z9 ?_|refine za ?_|refine zb ?_|refine zc ?_|refine zd ?_|refine ze ?_|refine zf ?_|refine zg ?_|refine zh ?_|((first|refine zi ?_ ?_|refine zj ?_ ?_|refine zk ?_ ?_)<;> intro hh <;> first|(exfalso;omega)|skip)|(refine zl ?_ ?_<;> intro hh)|refine zm ?_|refine zn ?_|refine zo ?_|refine zp ?_|refine zq ?_|refine zv ?_|refine zr ?_|refine zs _ rfl ?_|exact Sy.fin_val (fun e=>rfl))));(all_goals (try conv => whnf)))
    all_goals done
theorem phas_any (v : Value) (gl : List OpV) (n s k x : Int) (w : World) (hr : GOk (fun b => b < w.heap.size) w v gl) :
    Calls Try.prog 12 #[.agg #[v], .int .i64 n, .agg #[.int .i64 s, .int .i64 k, .int .i64 x]] w (Sy.Ret (.tuple #[.bool (hasB (opsOf gl) n s k), .int .i64 (hasE (opsOf gl) n s k)]) w) := by
  have hol := opsOf_len gl
  refine Sy.calls_of Sy.lv12 Sy.tab_ok Try.func12 rfl _ Try.ntmps12 [⟨v, 5, gl.length, gl.map encOV⟩] [.agg [.row 0], .c (.v (.int .i64 n)), .agg [.v (.int .i64 s), .v (.int .i64 k), .v (.int .i64 x)]] rfl rfl rfl ⟨hr.1, trivial⟩ ?_
  ((repeat' ((conv => whnf);(first|refine z1 ?_|refine z2 ?_|refine z3 ?_|refine z4 ?_|refine z5 ?_|refine z6 ?_|refine z7 ?_|refine z8 ?_|refine z9 ?_|refine za ?_|refine zb ?_|refine zc ?_|refine zd ?_|refine ze ?_|refine zf ?_|refine zg ?_|refine zh ?_|((first|refine zi ?_ ?_|refine zj ?_ ?_|refine zk ?_ ?_)<;> intro hh <;> first|(exfalso;omega)|skip)|(refine zl ?_ ?_<;> intro hh)|refine zm ?_|refine zn ?_|refine zo ?_|refine zp ?_|refine zq ?_|refine zv ?_|refine zr ?_|refine zs _ rfl ?_|exact Sy.fin_val (fun e=>rfl))));(all_goals (try conv => whnf)))
  refine Sy.call_in Sy.lv35 Sy.tab_ok Try.func35 rfl _ Try.ntmps35 Try.call35 rfl (fun _ => ?_)
  ((repeat' ((conv => whnf);(first|refine z1 ?_|refine z2 ?_|refine z3 ?_|refine z4 ?_|refine z5 ?_|refine z6 ?_|refine z7 ?_|refine z8 ?_|refine z9 ?_|refine za ?_|refine zb ?_|refine zc ?_|refine zd ?_|refine ze ?_|refine zf ?_|refine zg ?_|refine zh ?_|((first|refine zi ?_ ?_|refine zj ?_ ?_|refine zk ?_ ?_)<;> intro hh <;> first|(exfalso;omega)|skip)|(refine zl ?_ ?_<;> intro hh)|refine zm ?_|refine zn ?_|refine zo ?_|refine zp ?_|refine zq ?_|refine zv ?_|refine zr ?_|refine zs _ rfl ?_|exact Sy.fin_val (fun e=>rfl))));(all_goals (try conv => whnf)))
  refine Sy.call_val (.tup [.c (.v (.int .i64 (checkV (opsOf gl)).1)), .c (.v (.int .i64 (checkV (opsOf gl)).2))]) Try.call65 rfl (fun e a w' h => check_any (e.rv 0) gl w' ⟨Sy.row_reads h (.inr rfl), fun o ho => Sy.later_in h (hr.2 o ho)⟩) ?_
  by_cases h0 : (checkV (opsOf gl)).2 = 0
  · have h8 := check_ok h0
    have hg := check_good h0
    rw [hol] at h8 hg
    have hE : hasE (opsOf gl) n s k = hasE0 (opsOf gl) n s k := if_pos h0
    have hB : hasB (opsOf gl) n s k = hasB0 (opsOf gl) n s k := by unfold hasB hasB0; rw [hE]
    rw [hE, hB]
    ((repeat' ((conv => whnf);(first|refine z1 ?_|refine z2 ?_|refine z3 ?_|refine z4 ?_|refine z5 ?_|refine z6 ?_|refine z7 ?_|refine z8 ?_|refine z9 ?_|refine za ?_|refine zb ?_|refine zc ?_|refine zd ?_|refine ze ?_|refine zf ?_|refine zg ?_|refine zh ?_|((first|refine zi ?_ ?_|refine zj ?_ ?_|refine zk ?_ ?_)<;> intro hh <;> first|(exfalso;omega)|skip)|(refine zl ?_ ?_<;> intro hh)|refine zm ?_|refine zn ?_|refine zo ?_|refine zp ?_|refine zq ?_|refine zv ?_|refine zr ?_|refine zs _ rfl ?_|exact Sy.fin_val (fun e=>rfl))));(all_goals (try conv => whnf)))
    refine Sy.call_in Sy.lv36 Sy.tab_ok Try.func36 rfl _ Try.ntmps36 Try.call36 rfl (fun _ => ?_)
    ((repeat' ((conv => whnf);(first|refine z1 ?_|refine z2 ?_|refine z3 ?_|refine z4 ?_|refine z5 ?_|refine z6 ?_|refine z7 ?_|refine z8 ?_|refine z9 ?_|refine za ?_|refine zb ?_|refine zc ?_|refine zd ?_|refine ze ?_|refine zf ?_|refine zg ?_|refine zh ?_|((first|refine zi ?_ ?_|refine zj ?_ ?_|refine zk ?_ ?_)<;> intro hh <;> first|(exfalso;omega)|skip)|(refine zl ?_ ?_<;> intro hh)|refine zm ?_|refine zn ?_|refine zo ?_|refine zp ?_|refine zq ?_|refine zv ?_|refine zr ?_|refine zs _ rfl ?_|exact Sy.fin_val (fun e=>rfl))));(all_goals (try conv => whnf)))
    refine Sy.call_val (.tup [.c (.v (.bool (hasB0 (opsOf gl) n s k))), .c (.v (.int .i64 (hasE0 (opsOf gl) n s k)))]) Try.call37 rfl (fun e a w' h => has0_any (e.rv 0) gl n s k x w' ⟨Sy.row_reads h (.inr rfl), fun o ho => Sy.later_in h (hr.2 o ho)⟩ (by omega) hg) ?_
    ((repeat' ((conv => whnf);(first|refine z1 ?_|refine z2 ?_|refine z3 ?_|refine z4 ?_|refine z5 ?_|refine z6 ?_|refine z7 ?_|refine z8 ?_|refine z9 ?_|refine za ?_|refine zb ?_|refine zc ?_|refine zd ?_|refine ze ?_|refine zf ?_|refine zg ?_|refine zh ?_|((first|refine zi ?_ ?_|refine zj ?_ ?_|refine zk ?_ ?_)<;> intro hh <;> first|(exfalso;omega)|skip)|(refine zl ?_ ?_<;> intro hh)|refine zm ?_|refine zn ?_|refine zo ?_|refine zp ?_|refine zq ?_|refine zv ?_|refine zr ?_|refine zs _ rfl ?_|exact Sy.fin_val (fun e=>rfl))));(all_goals (try conv => whnf)))
    all_goals done
  · have hE : hasE (opsOf gl) n s k = (checkV (opsOf gl)).2 := if_neg h0
    have hB : hasB (opsOf gl) n s k = false := by unfold hasB; rw [hE, decide_eq_false h0]; rfl
    rw [hE, hB]
    ((repeat' ((conv => whnf);(first|refine z1 ?_|refine z2 ?_|refine z3 ?_|refine z4 ?_|refine z5 ?_|refine z6 ?_|refine z7 ?_|refine z8 ?_|refine z9 ?_|refine za ?_|refine zb ?_|refine zc ?_|refine zd ?_|refine ze ?_|refine zf ?_|refine zg ?_|refine zh ?_|((first|refine zi ?_ ?_|refine zj ?_ ?_|refine zk ?_ ?_)<;> intro hh <;> first|(exfalso;omega)|skip)|(refine zl ?_ ?_<;> intro hh)|refine zm ?_|refine zn ?_|refine zo ?_|refine zp ?_|refine zq ?_|refine zv ?_|refine zr ?_|refine zs _ rfl ?_|exact Sy.fin_val (fun e=>rfl))));(all_goals (try conv => whnf)))
    all_goals done
end Go.Proofs.Ytcjiaiojkciheaa
