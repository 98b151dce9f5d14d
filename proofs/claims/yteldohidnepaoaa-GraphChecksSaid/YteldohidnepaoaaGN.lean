/- Graph: Encode. -/
import Derived.Test.YteldohidnepaoaaGM
namespace Go.Proofs.Yteldohidnepaoaa
open Go Go.RowKit
open Sy (C SV V1 Blk St XD Els)
set_option maxRecDepth 10000

theorem check_ok {g : List Opr} (h : (checkV g).2 = 0) : 1 ≤ g.length ∧ g.length ≤ 8 ∧ ∀ i, i < g.length → wrongAt g i = 0 := by
  by_cases h8 : g.length < 1 ∨ 8 < g.length
  · rw [checkV, if_pos h8] at h; cases h
  · refine ⟨by omega, by omega, ?_⟩
    rw [checkV, if_neg h8] at h
    cases hf : firstW g with
    | none =>
      intro i hi
      have := List.find?_eq_none.1 hf i (List.mem_range.2 hi)
      simpa using this
    | some i =>
      rw [hf] at h
      have := List.find?_some hf
      exact absurd h (of_decide_eq_true this)
theorem check_good {g : List Opr} (h : (checkV g).2 = 0) : goodTo g g.length := fun j o hj ho => by
  have := (check_ok h).2.2 j hj
  unfold wrongAt at this
  rw [ho] at this
  exact wrongE_alone this
theorem insOk_good {gl : List OpV} (h : (checkV (opsOf gl)).2 = 0) : insOk gl := fun o ho => by
  obtain ⟨i, hi, rfl⟩ := List.mem_iff_getElem.1 ho
  have hol := opsOf_len gl
  have := rises_len (check_good h i _ (by omega) (opsOf_get (List.getElem?_eq_getElem hi))).2.2.1
  have := (check_ok h).2.1
  omega
def encG (g : List Opr) : List Int := if (checkV g).2 = 0 then gBs g else []
attribute [local irreducible] beN gN checkV
set_option maxHeartbeats 4000000 in
theorem encode_any (v : Value) (gl : List OpV) (w : World) (hr : GOk (fun b => b < w.heap.size) w v gl) :
    Calls Try.prog 13 #[.agg #[v]] w (Sy.RetRows Sy.noRow (fun _ : Unit => True) (fun _ => [⟨5, 1, (encG (opsOf gl)).length, (encG (opsOf gl)).map encB⟩]) (fun _ vs => .tuple #[vs.headD undef, .int .i64 (checkV (opsOf gl)).2]) w) := by
  have hol := opsOf_len gl
  have hl := ok_len hr.1
  refine Sy.calls_of Sy.lv13 Sy.tab_ok Try.func13 rfl _ Try.ntmps13 [⟨v, 5, gl.length, gl.map encOV⟩] [.agg [.row 0]] rfl rfl rfl ⟨hr.1, trivial⟩ ?_
  ((repeat' ((conv => whnf);(first|refine z1 ?_|refine z2 ?_|refine z3 ?_|refine z4 ?_|refine z5 ?_|refine z6 ?_|refine z7 ?_|refine z8 ?_|refine z9 ?_|refine za ?_|refine zb ?_|refine zc ?_|refine zd ?_|refine ze ?_|refine zf ?_|refine zg ?_|refine zh ?_|((first|refine zi ?_ ?_|refine zj ?_ ?_|refine zk ?_ ?_)<;> intro hh <;> first|(exfalso;omega)|skip)|(refine zl ?_ ?_<;> intro hh)|refine zm ?_|refine zn ?_|refine zo ?_|refine zp ?_|refine zq ?_|refine zv ?_|refine zr ?_|refine zs _ rfl ?_|refine zu ?_|exact Sy.fin_val (fun e=>rfl))));(all_goals (try conv => whnf)))
  refine Sy.call_val (.tup [.c (.v (.int .i64 (checkV (opsOf gl)).1)), .c (.v (.int .i64 (checkV (opsOf gl)).2))]) Try.call11 rfl (fun e a w' h => check_any (e.rv 0) gl w' ⟨Sy.row_reads h (.inr rfl), fun o ho => Sy.later_in h (hr.2 o ho)⟩) ?_
  by_cases h0 : (checkV (opsOf gl)).2 = 0
  · have hio := insOk_good h0
    have hgl := gN_len hio.ops
    have h8 := check_ok h0
    rw [hol] at hgl h8
    rw [show encG (opsOf gl) = gBs (opsOf gl) from if_pos h0, h0]
    ((repeat' ((conv => whnf);(first|refine z1 ?_|refine z2 ?_|refine z3 ?_|refine z4 ?_|refine z5 ?_|refine z6 ?_|refine z7 ?_|refine z8 ?_|refine z9 ?_|refine za ?_|refine zb ?_|refine zc ?_|refine zd ?_|refine ze ?_|refine zf ?_|refine zg ?_|refine zh ?_|((first|refine zi ?_ ?_|refine zj ?_ ?_|refine zk ?_ ?_)<;> intro hh <;> first|(exfalso;omega)|skip)|(refine zl ?_ ?_<;> intro hh)|refine zm ?_|refine zn ?_|refine zo ?_|refine zp ?_|refine zq ?_|refine zv ?_|refine zr ?_|refine zs _ rfl ?_|refine zu ?_|exact Sy.fin_val (fun e=>rfl))));(all_goals (try conv => whnf)))
    refine Sy.ar_wrap ?_
    ((repeat' ((conv => whnf);(first|refine z1 ?_|refine z2 ?_|refine z3 ?_|refine z4 ?_|refine z5 ?_|refine z6 ?_|refine z7 ?_|refine z8 ?_|refine z9 ?_|refine za ?_|refine zb ?_|refine zc ?_|refine zd ?_|refine ze ?_|refine zf ?_|refine zg ?_|refine zh ?_|((first|refine zi ?_ ?_|refine zj ?_ ?_|refine zk ?_ ?_)<;> intro hh <;> first|(exfalso;omega)|skip)|(refine zl ?_ ?_<;> intro hh)|refine zm ?_|refine zn ?_|refine zo ?_|refine zp ?_|refine zq ?_|refine zv ?_|refine zr ?_|refine zs _ rfl ?_|refine zu ?_|exact Sy.fin_val (fun e=>rfl))));(all_goals (try conv => whnf)))
    refine Sy.loop_inv Sy.tab_ok (fun n : Nat => [(27, .c (.v (.int .i64 n))), (6, .c (.row 2))]) (fun n => [(2, .row 5 1 (gN (opsOf gl) n).length (.vs ((gN (opsOf gl) n).map encB)))]) (fun n => n ≤ gl.length) (fun n => gl.length - n) 0 (Nat.zero_le _) ?_ (fun n hn => ?_)
    · rw [show gN (opsOf gl) 0 = [IntKind.u8.wrap gl.length] by unfold gN b8; simp [hol]]
      ((repeat' (first|((conv => whnf);done)|((try conv => whnf);first|exact trivial|(refine And.intro ?_ ?_)|rfl)));(all_goals (try conv => whnf)))
    · have hb := hgl n hn
      ((repeat' ((conv => whnf);(first|refine z1 ?_|refine z2 ?_|refine z3 ?_|refine z4 ?_|refine z5 ?_|refine z6 ?_|refine z7 ?_|refine z8 ?_|refine z9 ?_|refine za ?_|refine zb ?_|refine zc ?_|refine zd ?_|refine ze ?_|refine zf ?_|refine zg ?_|refine zh ?_|((first|refine zi ?_ ?_|refine zj ?_ ?_|refine zk ?_ ?_)<;> intro hh <;> first|(exfalso;omega)|skip)|(refine zl ?_ ?_<;> intro hh)|refine zm ?_|refine zn ?_|refine zo ?_|refine zp ?_|refine zr ?_|refine zs _ rfl ?_|exact Sy.fin_val (fun e=>rfl))));(all_goals (try conv => whnf)))
      · have hlt : n < gl.length := by omega
        have hg := List.getElem?_eq_getElem hlt
        generalize gl[n] = o at *
        have hs := gN_succ (opsOf_get hg)
        have hoo := hr.at hg
        have hlo := hio o (List.mem_of_getElem? hg)
        have ha := beN_len (u64w o.op.a) 8
        have hbb := beN_len (u64w o.op.b) 8
        generalize hG : gN (opsOf gl) n = G at *
        refine Sy.el_map o hg ?_
        ((repeat' ((conv => whnf);(first|refine z1 ?_|refine z2 ?_|refine z3 ?_|refine z4 ?_|refine z5 ?_|refine z6 ?_|refine z7 ?_|refine z8 ?_|refine z9 ?_|refine za ?_|refine zb ?_|refine zc ?_|refine zd ?_|refine ze ?_|refine zf ?_|refine zg ?_|refine zh ?_|((first|refine zi ?_ ?_|refine zj ?_ ?_|refine zk ?_ ?_)<;> intro hh <;> first|(exfalso;omega)|skip)|(refine zl ?_ ?_<;> intro hh)|refine zm ?_|refine zn ?_|refine zo ?_|refine zp ?_|refine zq ?_|refine zv ?_|refine zr ?_|refine zs _ rfl ?_|exact Sy.fin_val (fun e=>rfl))));(all_goals (try conv => whnf)))
        refine Sy.ar_wrap ?_
        ((repeat' ((conv => whnf);(first|refine z1 ?_|refine z2 ?_|refine z3 ?_|refine z4 ?_|refine z5 ?_|refine z6 ?_|refine z7 ?_|refine z8 ?_|refine z9 ?_|refine za ?_|refine zb ?_|refine zc ?_|refine zd ?_|refine ze ?_|refine zf ?_|refine zg ?_|refine zh ?_|((first|refine zi ?_ ?_|refine zj ?_ ?_|refine zk ?_ ?_)<;> intro hh <;> first|(exfalso;omega)|skip)|(refine zl ?_ ?_<;> intro hh)|refine zm ?_|refine zn ?_|refine zo ?_|refine zp ?_|refine zq ?_|refine zv ?_|refine zr ?_|refine zs _ rfl ?_|exact Sy.fin_val (fun e=>rfl))));(all_goals (try conv => whnf)))
        refine Sy.ar_wrap ?_
        ((repeat' ((conv => whnf);(first|refine z1 ?_|refine z2 ?_|refine z3 ?_|refine z4 ?_|refine z5 ?_|refine z6 ?_|refine z7 ?_|refine z8 ?_|refine z9 ?_|refine za ?_|refine zb ?_|refine zc ?_|refine zd ?_|refine ze ?_|refine zf ?_|refine zg ?_|refine zh ?_|((first|refine zi ?_ ?_|refine zj ?_ ?_|refine zk ?_ ?_)<;> intro hh <;> first|(exfalso;omega)|skip)|(refine zl ?_ ?_<;> intro hh)|refine zm ?_|refine zn ?_|refine zo ?_|refine zp ?_|refine zq ?_|refine zv ?_|refine zr ?_|refine zs _ rfl ?_|exact Sy.fin_val (fun e=>rfl))));(all_goals (try conv => whnf)))
        refine Sy.need_app 1 rfl ⟨by omega, by omega⟩ ?_
        ((repeat' ((conv => whnf);(first|refine z1 ?_|refine z2 ?_|refine z3 ?_|refine z4 ?_|refine z5 ?_|refine z6 ?_|refine z7 ?_|refine z8 ?_|refine z9 ?_|refine za ?_|refine zb ?_|refine zc ?_|refine zd ?_|refine ze ?_|refine zf ?_|refine zg ?_|refine zh ?_|((first|refine zi ?_ ?_|refine zj ?_ ?_|refine zk ?_ ?_)<;> intro hh <;> first|(exfalso;omega)|skip)|(refine zl ?_ ?_<;> intro hh)|refine zm ?_|refine zn ?_|refine zo ?_|refine zp ?_|refine zr ?_|refine zs _ rfl ?_|exact Sy.fin_val (fun e=>rfl))));(all_goals (try conv => whnf)))
        refine zv ?_
        have eB : List.map encB G ++ [[.int .u8 (IntKind.u8.wrap o.op.tag)], [.int .u8 (IntKind.u8.wrap o.op.width)]] = List.map encB (G ++ [b8 o.op.tag, b8 o.op.width]) := by simp [encB, b8]
        have lB : G.length + 2 = (G ++ [b8 o.op.tag, b8 o.op.width]).length := by simp
        (refine open_c 3 2 _ _ _ rfl rfl (hoo) (fun _ h => h) ?_); (conv => whnf)
        rw [eB, lB]
        have lb : (G ++ [b8 o.op.tag, b8 o.op.width]).length ≤ 2000 := by rw [← lB]; omega
        have sB : G ++ opN o.op 0 = (G ++ [b8 o.op.tag, b8 o.op.width]) ++ beN (u64w o.op.a) 8 ++ beN (u64w o.op.b) 8 ++ [b8 o.op.ins.length] := by rw [opN]; simp
        generalize G ++ [b8 o.op.tag, b8 o.op.width] = B at *
        have lb2 : (B ++ beN (u64w o.op.a) 8 ++ beN (u64w o.op.b) 8).length ≤ 2016 := by simp only [List.length_append]; omega
        refine Sy.draw_go [] (by kernel_rfl) ?_
        intro e0
        conv => whnf
        refine zt 0 rfl ?_
        conv => whnf
        refine zt 1 rfl ?_
        conv => whnf
        refine zt 2 rfl ?_
        conv => whnf
        refine zt 3 rfl ?_
        (conv => whnf);(repeat' ((first|refine z1 ?_|refine z2 ?_|refine z3 ?_|refine z4 ?_|refine z5 ?_|refine z6 ?_|refine z7 ?_|refine z8 ?_|refine z9 ?_|refine za ?_|refine zb ?_|refine zc ?_|refine zd ?_|refine ze ?_|refine zf ?_|refine zg ?_|refine zh ?_|((first|refine zi ?_ ?_|refine zj ?_ ?_|refine zk ?_ ?_)<;> intro hh <;> first|(exfalso;omega)|skip)|(refine zl ?_ ?_<;> intro hh)|refine zm ?_|refine zn ?_|refine zo ?_|refine zp ?_|refine zq ?_|refine zv ?_|refine zr ?_|refine zs _ rfl ?_|refine zu ?_|exact Sy.fin_val (fun e=>rfl));(try conv => whnf)))
        refine Sy.ar_wrap ?_
        conv => whnf
        refine zt 5 rfl ?_
        conv => whnf
        refine zt 6 rfl ?_
        conv => whnf
        refine zt 7 rfl ?_
        (conv => whnf);(repeat' ((first|refine z1 ?_|refine z2 ?_|refine z3 ?_|refine z4 ?_|refine z5 ?_|refine z6 ?_|refine z7 ?_|refine z8 ?_|refine z9 ?_|refine za ?_|refine zb ?_|refine zc ?_|refine zd ?_|refine ze ?_|refine zf ?_|refine zg ?_|refine zh ?_|((first|refine zi ?_ ?_|refine zj ?_ ?_|refine zk ?_ ?_)<;> intro hh <;> first|(exfalso;omega)|skip)|(refine zl ?_ ?_<;> intro hh)|refine zm ?_|refine zn ?_|refine zo ?_|refine zp ?_|refine zq ?_|refine zv ?_|refine zr ?_|refine zs _ rfl ?_|refine zu ?_|exact Sy.fin_val (fun e=>rfl));(try conv => whnf)))
        refine Sy.ar_wrap ?_
        conv => whnf
        refine zt 9 rfl ?_
        conv => whnf
        refine zt 10 rfl ?_
        conv => whnf
        refine zt 11 rfl ?_
        (conv => whnf);(repeat' ((first|refine z1 ?_|refine z2 ?_|refine z3 ?_|refine z4 ?_|refine z5 ?_|refine z6 ?_|refine z7 ?_|refine z8 ?_|refine z9 ?_|refine za ?_|refine zb ?_|refine zc ?_|refine zd ?_|refine ze ?_|refine zf ?_|refine zg ?_|refine zh ?_|((first|refine zi ?_ ?_|refine zj ?_ ?_|refine zk ?_ ?_)<;> intro hh <;> first|(exfalso;omega)|skip)|(refine zl ?_ ?_<;> intro hh)|refine zm ?_|refine zn ?_|refine zo ?_|refine zp ?_|refine zq ?_|refine zv ?_|refine zr ?_|refine zs _ rfl ?_|refine zu ?_|exact Sy.fin_val (fun e=>rfl));(try conv => whnf)))
        refine zt 12 rfl ?_
        (conv => whnf);(repeat' ((first|refine z1 ?_|refine z2 ?_|refine z3 ?_|refine z4 ?_|refine z5 ?_|refine z6 ?_|refine z7 ?_|refine z8 ?_|refine z9 ?_|refine za ?_|refine zb ?_|refine zc ?_|refine zd ?_|refine ze ?_|refine zf ?_|refine zg ?_|refine zh ?_|((first|refine zi ?_ ?_|refine zj ?_ ?_|refine zk ?_ ?_)<;> intro hh <;> first|(exfalso;omega)|skip)|(refine zl ?_ ?_<;> intro hh)|refine zm ?_|refine zn ?_|refine zo ?_|refine zp ?_|refine zq ?_|refine zv ?_|refine zr ?_|refine zs _ rfl ?_|refine zu ?_|exact Sy.fin_val (fun e=>rfl));(try conv => whnf)))
        refine Sy.ar_wrap ?_
        conv => whnf
        focus
          refine zd1 [4, 13] (zx rfl ?_ (zx rfl ?_ zy))
          focus
            conv => whnf
            refine Sy.call_r1 ⟨5, 1, (B ++ beN (u64w o.op.a) 8).length, (B ++ beN (u64w o.op.a) 8).map encB⟩ (fun j => .c (.row j)) Try.call34 (fun e a w' h => put64_any (e.rv 5) B (u64w o.op.a) w' (Sy.row_reads h (.inl ⟨_, rfl⟩)) (by omega)) ?_
            conv => whnf
            refine ⟨(by repeat' ((conv => whnf);first|exact trivial|(refine And.intro ?_ ?_)|rfl)), ?_⟩
            focus
              refine zd1 [8, 13] (zx rfl ?_ (zx rfl ?_ zy))
              focus
                conv => whnf
                refine Sy.call_r1 ⟨5, 1, (B ++ beN (u64w o.op.a) 8 ++ beN (u64w o.op.b) 8).length, (B ++ beN (u64w o.op.a) 8 ++ beN (u64w o.op.b) 8).map encB⟩ (fun j => .c (.row j)) Try.call34 (fun e a w' h => put64_any (e.rv _) (B ++ beN (u64w o.op.a) 8) (u64w o.op.b) w' (Sy.row_reads h (.inl ⟨_, rfl⟩)) (by rw [List.length_append]; omega)) ?_
                conv => whnf
                refine ⟨(by repeat' ((conv => whnf);first|exact trivial|(refine And.intro ?_ ?_)|rfl)), ?_⟩
                refine zd1 [13] (zx rfl ?_ zy)
                conv => whnf
                refine ⟨(by repeat' ((conv => whnf);first|exact trivial|(refine And.intro ?_ ?_)|rfl)), ?_⟩
                refine zd1 [14] (zx rfl ?_ zy)
                conv => whnf
                refine Sy.need_app 1 rfl ⟨by omega, by omega⟩ ?_
                conv => whnf
                refine ⟨(by repeat' ((conv => whnf);first|exact trivial|(refine And.intro ?_ ?_)|rfl)), ?_⟩
                refine zt 15 rfl ?_
                conv => whnf
                refine zw ?_
                ((repeat' ((conv => whnf);(first|refine z1 ?_|refine z2 ?_|refine z3 ?_|refine z4 ?_|refine z5 ?_|refine z6 ?_|refine z7 ?_|refine z8 ?_|refine z9 ?_|refine za ?_|refine zb ?_|refine zc ?_|refine zd ?_|refine ze ?_|refine zf ?_|refine zg ?_|refine zh ?_|((first|refine zi ?_ ?_|refine zj ?_ ?_|refine zk ?_ ?_)<;> intro hh <;> first|(exfalso;omega)|skip)|(refine zl ?_ ?_<;> intro hh)|refine zm ?_|refine zn ?_|refine zo ?_|refine zp ?_|refine zq ?_|refine zv ?_|refine zr ?_|refine zs _ rfl ?_|exact Sy.fin_val (fun e=>rfl))));(all_goals (try conv => whnf)))
              rotate_right
              focus
                conv => whnf
                refine ⟨(by repeat' ((conv => whnf);first|exact trivial|(refine And.intro ?_ ?_)|rfl)), ?_⟩
                refine zd1 [8] (zx rfl ?_ zy)
                conv => whnf
                refine Sy.call_r1 ⟨5, 1, (B ++ beN (u64w o.op.a) 8 ++ beN (u64w o.op.b) 8).length, (B ++ beN (u64w o.op.a) 8 ++ beN (u64w o.op.b) 8).map encB⟩ (fun j => .c (.row j)) Try.call34 (fun e a w' h => put64_any (e.rv _) (B ++ beN (u64w o.op.a) 8) (u64w o.op.b) w' (Sy.row_reads h (.inl ⟨_, rfl⟩)) (by rw [List.length_append]; omega)) ?_
                conv => whnf
                refine ⟨(by repeat' ((conv => whnf);first|exact trivial|(refine And.intro ?_ ?_)|rfl)), ?_⟩
                refine zd1 [14] (zx rfl ?_ zy)
                conv => whnf
                refine Sy.need_app 1 rfl ⟨by omega, by omega⟩ ?_
                conv => whnf
                refine ⟨(by repeat' ((conv => whnf);first|exact trivial|(refine And.intro ?_ ?_)|rfl)), ?_⟩
                refine zt 15 rfl ?_
                conv => whnf
                refine zw ?_
                ((repeat' ((conv => whnf);(first|refine z1 ?_|refine z2 ?_|refine z3 ?_|refine z4 ?_|refine z5 ?_|refine z6 ?_|refine z7 ?_|refine z8 ?_|refine z9 ?_|refine za ?_|refine zb ?_|refine zc ?_|refine zd ?_|refine ze ?_|refine zf ?_|refine zg ?_|refine zh ?_|((first|refine zi ?_ ?_|refine zj ?_ ?_|refine zk ?_ ?_)<;> intro hh <;> first|(exfalso;omega)|skip)|(refine zl ?_ ?_<;> intro hh)|refine zm ?_|refine zn ?_|refine zo ?_|refine zp ?_|refine zq ?_|refine zv ?_|refine zr ?_|refine zs _ rfl ?_|exact Sy.fin_val (fun e=>rfl))));(all_goals (try conv => whnf)))
          rotate_right
          focus
            conv => whnf
            refine ⟨(by repeat' ((conv => whnf);first|exact trivial|(refine And.intro ?_ ?_)|rfl)), ?_⟩
            refine zd1 [4] (zx rfl ?_ zy)
            conv => whnf
            refine Sy.call_r1 ⟨5, 1, (B ++ beN (u64w o.op.a) 8).length, (B ++ beN (u64w o.op.a) 8).map encB⟩ (fun j => .c (.row j)) Try.call34 (fun e a w' h => put64_any (e.rv 5) B (u64w o.op.a) w' (Sy.row_reads h (.inl ⟨_, rfl⟩)) (by omega)) ?_
            conv => whnf
            refine ⟨(by repeat' ((conv => whnf);first|exact trivial|(refine And.intro ?_ ?_)|rfl)), ?_⟩
            refine zd1 [8] (zx rfl ?_ zy)
            conv => whnf
            refine Sy.call_r1 ⟨5, 1, (B ++ beN (u64w o.op.a) 8 ++ beN (u64w o.op.b) 8).length, (B ++ beN (u64w o.op.a) 8 ++ beN (u64w o.op.b) 8).map encB⟩ (fun j => .c (.row j)) Try.call34 (fun e a w' h => put64_any (e.rv _) (B ++ beN (u64w o.op.a) 8) (u64w o.op.b) w' (Sy.row_reads h (.inl ⟨_, rfl⟩)) (by rw [List.length_append]; omega)) ?_
            conv => whnf
            refine ⟨(by repeat' ((conv => whnf);first|exact trivial|(refine And.intro ?_ ?_)|rfl)), ?_⟩
            refine zd1 [14] (zx rfl ?_ zy)
            conv => whnf
            refine Sy.need_app 1 rfl ⟨by omega, by omega⟩ ?_
            conv => whnf
            refine ⟨(by repeat' ((conv => whnf);first|exact trivial|(refine And.intro ?_ ?_)|rfl)), ?_⟩
            refine zt 15 rfl ?_
            conv => whnf
            refine zw ?_
            ((repeat' ((conv => whnf);(first|refine z1 ?_|refine z2 ?_|refine z3 ?_|refine z4 ?_|refine z5 ?_|refine z6 ?_|refine z7 ?_|refine z8 ?_|refine z9 ?_|refine za ?_|refine zb ?_|refine zc ?_|refine zd ?_|refine ze ?_|refine zf ?_|refine zg ?_|refine zh ?_|((first|refine zi ?_ ?_|refine zj ?_ ?_|refine zk ?_ ?_)<;> intro hh <;> first|(exfalso;omega)|skip)|(refine zl ?_ ?_<;> intro hh)|refine zm ?_|refine zn ?_|refine zo ?_|refine zp ?_|refine zq ?_|refine zv ?_|refine zr ?_|refine zs _ rfl ?_|exact Sy.fin_val (fun e=>rfl))));(all_goals (try conv => whnf)))
        all_goals
          refine Sy.loop_inv Sy.tab_ok (fun m : Nat => [(58, .c (.v (.int .i64 m))), (6, .c (.row 10))]) (fun m => [(10, .row 5 1 (G ++ opN o.op m).length (.vs ((G ++ opN o.op m).map encB)))]) (fun m => m ≤ o.op.ins.length) (fun m => o.op.ins.length - m) 0 (Nat.zero_le _) ?_ (fun m hm => ?_)
          · rw [sB]
            ((repeat' (first|((conv => whnf);done)|((try conv => whnf);first|exact trivial|(refine And.intro ?_ ?_)|rfl)));(all_goals (try conv => whnf)))
            · simp; omega
            · simp [encB, b8]
          · have hol2 := opN_len o.op m
            ((repeat' ((conv => whnf);(first|refine z1 ?_|refine z2 ?_|refine z3 ?_|refine z4 ?_|refine z5 ?_|refine z6 ?_|refine z7 ?_|refine z8 ?_|refine z9 ?_|refine za ?_|refine zb ?_|refine zc ?_|refine zd ?_|refine ze ?_|refine zf ?_|refine zg ?_|refine zh ?_|((first|refine zi ?_ ?_|refine zj ?_ ?_|refine zk ?_ ?_)<;> intro hh <;> first|(exfalso;omega)|skip)|(refine zl ?_ ?_<;> intro hh)|refine zm ?_|refine zn ?_|refine zo ?_|refine zp ?_|refine zq ?_|refine zv ?_|refine zr ?_|refine zs _ rfl ?_|exact Sy.fin_val (fun e=>rfl))));(all_goals (try conv => whnf)))
            · have hlm : m < o.op.ins.length := by omega
              have hgm := List.getElem?_eq_getElem hlm
              generalize o.op.ins[m] = x at *
              refine Sy.el_map x hgm ?_
              ((repeat' ((conv => whnf);(first|refine z1 ?_|refine z2 ?_|refine z3 ?_|refine z4 ?_|refine z5 ?_|refine z6 ?_|refine z7 ?_|refine z8 ?_|refine z9 ?_|refine za ?_|refine zb ?_|refine zc ?_|refine zd ?_|refine ze ?_|refine zf ?_|refine zg ?_|refine zh ?_|((first|refine zi ?_ ?_|refine zj ?_ ?_|refine zk ?_ ?_)<;> intro hh <;> first|(exfalso;omega)|skip)|(refine zl ?_ ?_<;> intro hh)|refine zm ?_|refine zn ?_|refine zo ?_|refine zp ?_|refine zq ?_|refine zv ?_|refine zr ?_|refine zs _ rfl ?_|exact Sy.fin_val (fun e=>rfl))));(all_goals (try conv => whnf)))
              refine Sy.ar_wrap ?_
              ((repeat' ((conv => whnf);(first|refine z1 ?_|refine z2 ?_|refine z3 ?_|refine z4 ?_|refine z5 ?_|refine z6 ?_|refine z7 ?_|refine z8 ?_|refine z9 ?_|refine za ?_|refine zb ?_|refine zc ?_|refine zd ?_|refine ze ?_|refine zf ?_|refine zg ?_|refine zh ?_|((first|refine zi ?_ ?_|refine zj ?_ ?_|refine zk ?_ ?_)<;> intro hh <;> first|(exfalso;omega)|skip)|(refine zl ?_ ?_<;> intro hh)|refine zm ?_|refine zn ?_|refine zo ?_|refine zp ?_|refine zq ?_|refine zv ?_|refine zr ?_|refine zs _ rfl ?_|exact Sy.fin_val (fun e=>rfl))));(all_goals (try conv => whnf)))
              refine Sy.need_app 1 rfl ⟨by simp only [List.length_append]; omega, by simp only [List.length_append]; omega⟩ ?_
              ((repeat' ((conv => whnf);(first|refine z1 ?_|refine z2 ?_|refine z3 ?_|refine z4 ?_|refine z5 ?_|refine z6 ?_|refine z7 ?_|refine z8 ?_|refine z9 ?_|refine za ?_|refine zb ?_|refine zc ?_|refine zd ?_|refine ze ?_|refine zf ?_|refine zg ?_|refine zh ?_|((first|refine zi ?_ ?_|refine zj ?_ ?_|refine zk ?_ ?_)<;> intro hh <;> first|(exfalso;omega)|skip)|(refine zl ?_ ?_<;> intro hh)|refine zm ?_|refine zn ?_|refine zo ?_|refine zp ?_|refine zq ?_|refine zv ?_|refine zr ?_|refine zs _ rfl ?_|exact Sy.fin_val (fun e=>rfl))));(all_goals (try conv => whnf)))
              refine ⟨m + 1, by omega, by omega, ?_⟩
              rw [opN_succ hgm, ← List.append_assoc]
              ((repeat' (first|((conv => whnf);done)|((try conv => whnf);first|exact trivial|(refine And.intro ?_ ?_)|rfl)));(all_goals (try conv => whnf)))
              all_goals (try simp [encB, b8])
              all_goals (try omega)
            · have e : m = o.op.ins.length := by omega
              subst e
              rw [opN_all, ← hs]
              refine ⟨n + 1, by omega, by omega, ?_⟩
              ((repeat' (first|((conv => whnf);done)|((try conv => whnf);first|exact trivial|(refine And.intro ?_ ?_)|rfl)));(all_goals (try conv => whnf)))
      · have e : n = gl.length := by omega
        subst e
        rw [show gN (opsOf gl) gl.length = gBs (opsOf gl) by rw [gBs, hol]]
        exact Sy.fin_rows () trivial [.row 2] ⟨rfl, (by intro j hj; cases hj), trivial⟩ (fun e => rfl)
  · rw [show encG (opsOf gl) = [] from if_neg h0]
    ((repeat' ((conv => whnf);(first|refine z1 ?_|refine z2 ?_|refine z3 ?_|refine z4 ?_|refine z5 ?_|refine z6 ?_|refine z7 ?_|refine z8 ?_|refine z9 ?_|refine za ?_|refine zb ?_|refine zc ?_|refine zd ?_|refine ze ?_|refine zf ?_|refine zg ?_|refine zh ?_|((first|refine zi ?_ ?_|refine zj ?_ ?_|refine zk ?_ ?_)<;> intro hh <;> first|(exfalso;omega)|skip)|(refine zl ?_ ?_<;> intro hh)|refine zm ?_|refine zn ?_|refine zo ?_|refine zp ?_|refine zq ?_|refine zv ?_|refine zr ?_|refine zs _ rfl ?_|refine zu ?_|exact Sy.fin_val (fun e=>rfl))));(all_goals (try conv => whnf)))
    exact Sy.fin_rows () trivial [.v (.slice none 0 0)] ⟨⟨rfl, rfl⟩, (by intro j hj; cases hj), trivial⟩ (fun e => rfl)
end Go.Proofs.Yteldohidnepaoaa
