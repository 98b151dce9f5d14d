/- Heart: Clone, Copy, short; where a worker stands. -/
import Derived.Test.YtiapcohnjklcfaaHeD
namespace Go.Proofs.Ytiapcohnjklcfaa
open Go Go.RowKit
open Sy (C SV V1 Blk St XD Els)
set_option maxRecDepth 10000
attribute [local irreducible] okN okH ok0 chkE

theorem clone_any (v : Value) (ps : List Pulse) (w : World) (hr : XD.ok (fun b => b < w.heap.size) w ⟨v, 3, ps.length, ps.map encP⟩) (hb : ps.length ≤ 1000000) :
    Calls Try.prog 49 #[v] w (Sy.RetRows Sy.noRow (fun _ : Unit => True) (fun _ => [⟨51, 3, ps.length, ps.map encP⟩]) (fun _ vs => vs.headD undef) w) := by
  refine Sy.calls_of Sy.lv49 Sy.tab_ok Try.func49 rfl _ Try.ntmps49 [⟨v, 3, ps.length, ps.map encP⟩] [.c (.row 0)] rfl rfl rfl ⟨hr, trivial⟩ ?_
  ((repeat' ((conv => whnf);(first|refine z1 ?_|refine z2 ?_|refine z3 ?_|refine z4 ?_|refine z5 ?_|refine z6 ?_|refine z7 ?_|refine z8 ?_|refine z9 ?_|refine za ?_|refine zb ?_|refine zc ?_|refine zd ?_|refine ze ?_|refine zf ?_|refine zg ?_|refine zh ?_|((first|refine zi ?_ ?_|refine zj ?_ ?_|refine zk ?_ ?_)<;> intro hh <;> first|(exfalso;omega)|skip)|(refine zl ?_ ?_<;> intro hh)|refine zm ?_|refine zn ?_|refine zo ?_|refine zp ?_|refine zq ?_|refine zr ?_|refine zs _ rfl ?_|refine zu ?_|exact Sy.fin_val (fun e=>rfl))));(all_goals (try conv => whnf)))
  refine Sy.nil_of (fun h0 => ?_) ?_
  · ((repeat' ((conv => whnf);(first|refine z1 ?_|refine z2 ?_|refine z3 ?_|refine z4 ?_|refine z5 ?_|refine z6 ?_|refine z7 ?_|refine z8 ?_|refine z9 ?_|refine za ?_|refine zb ?_|refine zc ?_|refine zd ?_|refine ze ?_|refine zf ?_|refine zg ?_|refine zh ?_|((first|refine zi ?_ ?_|refine zj ?_ ?_|refine zk ?_ ?_)<;> intro hh <;> first|(exfalso;omega)|skip)|(refine zl ?_ ?_<;> intro hh)|refine zm ?_|refine zn ?_|refine zo ?_|refine zp ?_|refine zq ?_|refine zr ?_|refine zs _ rfl ?_|refine zu ?_|exact Sy.fin_val (fun e=>rfl))));(all_goals (try conv => whnf)))
    exact Sy.fin_rows () trivial [.v (.slice none 0 0)] ⟨⟨h0, by simp [List.eq_nil_of_length_eq_zero h0]⟩, (by intro j hj; cases hj), trivial⟩ (fun e => rfl)
  · ((repeat' ((conv => whnf);(first|refine z1 ?_|refine z2 ?_|refine z3 ?_|refine z4 ?_|refine z5 ?_|refine z6 ?_|refine z7 ?_|refine z8 ?_|refine z9 ?_|refine za ?_|refine zb ?_|refine zc ?_|refine zd ?_|refine ze ?_|refine zf ?_|refine zg ?_|refine zh ?_|((first|refine zi ?_ ?_|refine zj ?_ ?_|refine zk ?_ ?_)<;> intro hh <;> first|(exfalso;omega)|skip)|(refine zl ?_ ?_<;> intro hh)|refine zm ?_|refine zn ?_|refine zo ?_|refine zp ?_|refine zq ?_|refine zr ?_|refine zs _ rfl ?_|refine zu ?_|exact Sy.fin_val (fun e=>rfl))));(all_goals (try conv => whnf)))
    refine Sy.need_app 24 rfl ⟨by omega, by omega⟩ ?_
    ((repeat' ((conv => whnf);(first|refine z1 ?_|refine z2 ?_|refine z3 ?_|refine z4 ?_|refine z5 ?_|refine z6 ?_|refine z7 ?_|refine z8 ?_|refine z9 ?_|refine za ?_|refine zb ?_|refine zc ?_|refine zd ?_|refine ze ?_|refine zf ?_|refine zg ?_|refine zh ?_|((first|refine zi ?_ ?_|refine zj ?_ ?_|refine zk ?_ ?_)<;> intro hh <;> first|(exfalso;omega)|skip)|(refine zl ?_ ?_<;> intro hh)|refine zm ?_|refine zn ?_|refine zo ?_|refine zp ?_|refine zq ?_|refine zr ?_|refine zs _ rfl ?_|refine zu ?_|exact Sy.fin_val (fun e=>rfl))));(all_goals (try conv => whnf)))
    refine Sy.fin_rows () trivial [.row 2] ⟨?_, (by intro j hj; cases hj), trivial⟩ (fun e => rfl)
    show some (Blk.row 51 Sy.ti51.size (0 + ps.length) (Els.vs ([] ++ ps.map encP))) = _
    rw [Nat.zero_add, List.nil_append]
    rfl
theorem copy_any (now span : Int) (v : Value) (ps : List Pulse) (w : World) (hr : XD.ok (fun b => b < w.heap.size) w ⟨v, 3, ps.length, ps.map encP⟩) (hb : ps.length ≤ 1000000) :
    Calls Try.prog 21 #[.agg #[.int .i64 now, .int .i64 span, v]] w (Sy.RetRows Sy.noRow (fun _ : Unit => True) (fun _ => [⟨51, 3, ps.length, ps.map encP⟩]) (fun _ vs => .agg #[.int .i64 now, .int .i64 span, vs.headD undef]) w) := by
  refine Sy.calls_of Sy.lv21 Sy.tab_ok Try.func21 rfl _ Try.ntmps21 [⟨v, 3, ps.length, ps.map encP⟩] [.agg [.v (.int .i64 now), .v (.int .i64 span), .row 0]] rfl rfl rfl ⟨hr, trivial⟩ ?_
  ((repeat' ((conv => whnf);(first|refine z1 ?_|refine z2 ?_|refine z3 ?_|refine z4 ?_|refine z5 ?_|refine z6 ?_|refine z7 ?_|refine z8 ?_|refine z9 ?_|refine za ?_|refine zb ?_|refine zc ?_|refine zd ?_|refine ze ?_|refine zf ?_|refine zg ?_|refine zh ?_|((first|refine zi ?_ ?_|refine zj ?_ ?_|refine zk ?_ ?_)<;> intro hh <;> first|(exfalso;omega)|skip)|(refine zl ?_ ?_<;> intro hh)|refine zm ?_|refine zn ?_|refine zo ?_|refine zp ?_|refine zq ?_|refine zr ?_|refine zs _ rfl ?_|refine zu ?_|exact Sy.fin_val (fun e=>rfl))));(all_goals (try conv => whnf)))
  refine Sy.need_app 24 rfl ⟨by omega, by omega⟩ ?_
  ((repeat' ((conv => whnf);(first|refine z1 ?_|refine z2 ?_|refine z3 ?_|refine z4 ?_|refine z5 ?_|refine z6 ?_|refine z7 ?_|refine z8 ?_|refine z9 ?_|refine za ?_|refine zb ?_|refine zc ?_|refine zd ?_|refine ze ?_|refine zf ?_|refine zg ?_|refine zh ?_|((first|refine zi ?_ ?_|refine zj ?_ ?_|refine zk ?_ ?_)<;> intro hh <;> first|(exfalso;omega)|skip)|(refine zl ?_ ?_<;> intro hh)|refine zm ?_|refine zn ?_|refine zo ?_|refine zp ?_|refine zq ?_|refine zr ?_|refine zs _ rfl ?_|refine zu ?_|exact Sy.fin_val (fun e=>rfl))));(all_goals (try conv => whnf)))
  refine Sy.fin_rows () trivial [.row 4] ⟨?_, (by intro j hj; cases hj), trivial⟩ (fun e => rfl)
  show some (Blk.row 51 Sy.ti51.size (0 + ps.length) (Els.vs ([] ++ ps.map encP))) = _
  rw [Nat.zero_add, List.nil_append]
  rfl
theorem short_any (now span : Int) (v : Value) (ps : List Pulse) (w : World) (hr : XD.ok (fun b => b < w.heap.size) w ⟨v, 3, ps.length, ps.map encP⟩) :
    Calls Try.prog 17 #[.agg #[.int .i64 now, .int .i64 span, v]] w (Sy.RetRows Sy.noRow (fun _ : Unit => True) (fun _ => [⟨51, 3, (ps.take 5).length, (ps.take 5).map encP⟩]) (fun _ vs => .agg #[.int .i64 now, .int .i64 span, vs.headD undef]) w) := by
  have hl := ok_len hr
  refine Sy.calls_of Sy.lv17 Sy.tab_ok Try.func17 rfl _ Try.ntmps17 [⟨v, 3, ps.length, ps.map encP⟩] [.agg [.v (.int .i64 now), .v (.int .i64 span), .row 0]] rfl rfl rfl ⟨hr, trivial⟩ ?_
  ((repeat' ((conv => whnf);(first|refine z1 ?_|refine z2 ?_|refine z3 ?_|refine z4 ?_|refine z5 ?_|refine z6 ?_|refine z7 ?_|refine z8 ?_|refine z9 ?_|refine za ?_|refine zb ?_|refine zc ?_|refine zd ?_|refine ze ?_|refine zf ?_|refine zg ?_|refine zh ?_|((first|refine zi ?_ ?_|refine zj ?_ ?_|refine zk ?_ ?_)<;> intro hh <;> first|(exfalso;omega)|skip)|(refine zl ?_ ?_<;> intro hh)|refine zm ?_|refine zn ?_|refine zo ?_|refine zp ?_|refine zq ?_|refine zr ?_|refine zs _ rfl ?_|refine zu ?_|exact Sy.fin_val (fun e=>rfl))));(all_goals (try conv => whnf)))
  refine Sy.sli_eq 0 (min ps.length 5) rfl (by unfold Sy.minI; omega) ⟨by omega, by omega⟩ ?_
  ((repeat' ((conv => whnf);(first|refine z1 ?_|refine z2 ?_|refine z3 ?_|refine z4 ?_|refine z5 ?_|refine z6 ?_|refine z7 ?_|refine z8 ?_|refine z9 ?_|refine za ?_|refine zb ?_|refine zc ?_|refine zd ?_|refine ze ?_|refine zf ?_|refine zg ?_|refine zh ?_|((first|refine zi ?_ ?_|refine zj ?_ ?_|refine zk ?_ ?_)<;> intro hh <;> first|(exfalso;omega)|skip)|(refine zl ?_ ?_<;> intro hh)|refine zm ?_|refine zn ?_|refine zo ?_|refine zp ?_|refine zq ?_|refine zr ?_|refine zs _ rfl ?_|refine zu ?_|exact Sy.fin_val (fun e=>rfl))));(all_goals (try conv => whnf)))
  refine Sy.call_rows none (fun _ : Unit => True) (fun _ => [⟨51, 3, (ps.take 5).length, (ps.take 5).map encP⟩]) (fun _ => .agg [.v (.int .i64 now), .v (.int .i64 span), .row 4]) Try.call21 (fun j hj => by cases hj) (fun _ _ => rfl)
    (fun e a w' h => Sy.rows_one (copy_any now span _ (ps.take 5) w' (Sy.row_reads (k := 3) h (.inr (by
      show some (Blk.ext 3 (min ps.length 5 - 0) _) = some (Blk.ext 3 (ps.take 5).length _)
      rw [List.length_take, Nat.min_comm, Nat.sub_zero]
      simp))) (by rw [List.length_take]; omega)) (fun x u => rfl)) (fun _ _ => ?_)
  ((repeat' ((conv => whnf);(first|refine z1 ?_|refine z2 ?_|refine z3 ?_|refine z4 ?_|refine z5 ?_|refine z6 ?_|refine z7 ?_|refine z8 ?_|refine z9 ?_|refine za ?_|refine zb ?_|refine zc ?_|refine zd ?_|refine ze ?_|refine zf ?_|refine zg ?_|refine zh ?_|((first|refine zi ?_ ?_|refine zj ?_ ?_|refine zk ?_ ?_)<;> intro hh <;> first|(exfalso;omega)|skip)|(refine zl ?_ ?_<;> intro hh)|refine zm ?_|refine zn ?_|refine zo ?_|refine zp ?_|refine zq ?_|refine zr ?_|refine zs _ rfl ?_|refine zu ?_|exact Sy.fin_val (fun e=>rfl))));(all_goals (try conv => whnf)))
  exact Sy.fin_rows () trivial [.row 4] ⟨rfl, (by intro j hj; cases hj), trivial⟩ (fun e => rfl)
end Go.Proofs.Ytiapcohnjklcfaa
