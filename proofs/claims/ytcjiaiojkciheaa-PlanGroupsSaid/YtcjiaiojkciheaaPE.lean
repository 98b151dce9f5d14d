/- Plan: sub, Number, tagged. -/
import Derived.Test.YtcjiaiojkciheaaPD
namespace Go.Proofs.Ytcjiaiojkciheaa
open Go Go.RowKit
open Sy (C SV V1 Blk St XD Els)
set_option maxRecDepth 10000

def subE (g : List Opr) (n : Int) : Int := if n < 0 ∨ ((subsL g).length : Int) ≤ n then 2 else 0
def subV (g : List Opr) (n : Int) : Nat × Nat := if subE g n = 0 then ((subsL g)[n.toNat]?).getD (0, 0) else (0, 0)
attribute [local irreducible] checkV subN subsL
theorem sub_any (v : Value) (gl : List OpV) (n : Int) (w : World) (hr : GOk (fun b => b < w.heap.size) w v gl) (hlen : gl.length ≤ 100) (hg : goodTo (opsOf gl) gl.length) :
    Calls Try.prog 66 #[.agg #[v], .int .i64 n] w (Sy.Ret (.tuple #[.agg #[.int .i64 (subV (opsOf gl) n).1, .int .i64 (subV (opsOf gl) n).2], .int .i64 (subE (opsOf gl) n)]) w) := by
  have hol := opsOf_len gl
  refine Sy.calls_of Sy.lv66 Sy.tab_ok Try.func66 rfl _ Try.ntmps66 [⟨v, 5, gl.length, gl.map encOV⟩] [.agg [.row 0], .c (.v (.int .i64 n))] rfl rfl rfl ⟨hr.1, trivial⟩ ?_
  ((repeat' ((conv => whnf);(first|refine z1 ?_|refine z2 ?_|refine z3 ?_|refine z4 ?_|refine z5 ?_|refine z6 ?_|refine z7 ?_|refine z8 ?_|refine z9 ?_|refine za ?_|refine zb ?_|refine zc ?_|refine zd ?_|refine ze ?_|refine zf ?_|refine zg ?_|refine zh ?_|((first|refine zi ?_ ?_|refine zj ?_ ?_|refine zk ?_ ?_)<;> intro hh <;> first|(exfalso;omega)|skip)|(refine zl ?_ ?_<;> intro hh)|refine zm ?_|refine zn ?_|refine zo ?_|refine zp ?_|refine zq ?_|refine zv ?_|refine zr ?_|refine zs _ rfl ?_|exact Sy.fin_val (fun e=>rfl))));(all_goals (try conv => whnf)))
  refine Sy.call_r1 ⟨43, 2, (subsL (opsOf gl)).length, (subsL (opsOf gl)).map encS⟩ (fun j => .c (.row j)) Try.call52 (fun e a w' h => all_any (e.rv 0) gl w' ⟨Sy.row_reads h (.inr rfl), fun o ho => Sy.later_in h (hr.2 o ho)⟩ hlen hg) ?_
  obtain ⟨L, hL⟩ : ∃ L, L = subsL (opsOf gl) := ⟨_, rfl⟩
  have hE : subE (opsOf gl) n = if n < 0 ∨ (L.length : Int) ≤ n then 2 else 0 := by rw [hL]; rfl
  have hV : subV (opsOf gl) n = if subE (opsOf gl) n = 0 then (L[n.toNat]?).getD (0, 0) else (0, 0) := by rw [hL]; rfl
  rw [← hL]
  by_cases h1 : n < 0
  · rw [if_pos (.inl h1)] at hE
    rw [hE, if_neg (by decide)] at hV
    rw [hE, hV]
    ((repeat' ((conv => whnf);(first|refine z1 ?_|refine z2 ?_|refine z3 ?_|refine z4 ?_|refine z5 ?_|refine z6 ?_|refine z7 ?_|refine z8 ?_|refine z9 ?_|refine za ?_|refine zb ?_|refine zc ?_|refine zd ?_|refine ze ?_|refine zf ?_|refine zg ?_|refine zh ?_|((first|refine zi ?_ ?_|refine zj ?_ ?_|refine zk ?_ ?_)<;> intro hh <;> first|(exfalso;omega)|skip)|(refine zl ?_ ?_<;> intro hh)|refine zm ?_|refine zn ?_|refine zo ?_|refine zp ?_|refine zq ?_|refine zv ?_|refine zr ?_|refine zs _ rfl ?_|exact Sy.fin_val (fun e=>rfl))));(all_goals (try conv => whnf)))
    all_goals done
  · by_cases h2 : (L.length : Int) ≤ n
    · rw [if_pos (.inr h2)] at hE
      rw [hE, if_neg (by decide)] at hV
      rw [hE, hV]
      ((repeat' ((conv => whnf);(first|refine z1 ?_|refine z2 ?_|refine z3 ?_|refine z4 ?_|refine z5 ?_|refine z6 ?_|refine z7 ?_|refine z8 ?_|refine z9 ?_|refine za ?_|refine zb ?_|refine zc ?_|refine zd ?_|refine ze ?_|refine zf ?_|refine zg ?_|refine zh ?_|((first|refine zi ?_ ?_|refine zj ?_ ?_|refine zk ?_ ?_)<;> intro hh <;> first|(exfalso;omega)|skip)|(refine zl ?_ ?_<;> intro hh)|refine zm ?_|refine zn ?_|refine zo ?_|refine zp ?_|refine zq ?_|refine zv ?_|refine zr ?_|refine zs _ rfl ?_|exact Sy.fin_val (fun e=>rfl))));(all_goals (try conv => whnf)))
      all_goals done
    · rw [if_neg (by omega)] at hE
      rw [hE, if_pos rfl] at hV
      obtain ⟨k, rfl⟩ : ∃ k : Nat, n = (k : Int) := ⟨n.toNat, by omega⟩
      have hlt : k < L.length := by omega
      have hgk := List.getElem?_eq_getElem hlt
      rw [Int.toNat_natCast, hgk] at hV
      generalize L[k] = s at *
      rw [hE, hV]
      ((repeat' ((conv => whnf);(first|refine z1 ?_|refine z2 ?_|refine z3 ?_|refine z4 ?_|refine z5 ?_|refine z6 ?_|refine z7 ?_|refine z8 ?_|refine z9 ?_|refine za ?_|refine zb ?_|refine zc ?_|refine zd ?_|refine ze ?_|refine zf ?_|refine zg ?_|refine zh ?_|((first|refine zi ?_ ?_|refine zj ?_ ?_|refine zk ?_ ?_)<;> intro hh <;> first|(exfalso;omega)|skip)|(refine zl ?_ ?_<;> intro hh)|refine zm ?_|refine zn ?_|refine zo ?_|refine zp ?_|refine zq ?_|refine zv ?_|refine zr ?_|refine zs _ rfl ?_|exact Sy.fin_val (fun e=>rfl))));(all_goals (try conv => whnf)))
      refine Sy.el_map s hgk ?_
      ((repeat' ((conv => whnf);(first|refine z1 ?_|refine z2 ?_|refine z3 ?_|refine z4 ?_|refine z5 ?_|refine z6 ?_|refine z7 ?_|refine z8 ?_|refine z9 ?_|refine za ?_|refine zb ?_|refine zc ?_|refine zd ?_|refine ze ?_|refine zf ?_|refine zg ?_|refine zh ?_|((first|refine zi ?_ ?_|refine zj ?_ ?_|refine zk ?_ ?_)<;> intro hh <;> first|(exfalso;omega)|skip)|(refine zl ?_ ?_<;> intro hh)|refine zm ?_|refine zn ?_|refine zo ?_|refine zp ?_|refine zq ?_|refine zv ?_|refine zr ?_|refine zs _ rfl ?_|exact Sy.fin_val (fun e=>rfl))));(all_goals (try conv => whnf)))
      all_goals done
end Go.Proofs.Ytcjiaiojkciheaa
