/- Heart: the document's Pass. -/
import Derived.Test.YtiapcohnjklcfaaHeK
namespace Go.Proofs.Ytiapcohnjklcfaa
open Go Go.RowKit
open Sy (C SV V1 Blk St XD Els)
set_option maxRecDepth 10000
attribute [local irreducible] okN okH ok0 chkE

theorem rpass_any (now span : Int) (v : Value) (ps : List Pulse) (t : Int) (w : World) (hok : okH now span ps = true) (hr : XD.ok (fun b => b < w.heap.size) w ⟨v, 3, ps.length, ps.map encP⟩) :
    Calls Try.prog 40 #[.agg #[.int .i64 now, .int .i64 span, v], .int .i64 t] w (Sy.RetRows Sy.noRow (fun _ : Unit => True) (fun _ => [rowH (passV now span ps t).1, rowI (passV now span ps t).2.1])
      (fun _ vs => .tuple #[valH (passV now span ps t).1 (vs.headD undef), (vs.drop 1).headD undef, .int .i64 (passV now span ps t).2.2]) w) := by
  have hl := ok_len hr
  have hb := okH_len now span ps hok
  have hbd := okH_bd now span ps hok
  have eV : passV now span ps t = if now ≤ t ∧ t ≤ 1099511627776 then (⟨t, span, passL t span ps⟩, goneL t span ps, 0) else (hs0, [], 2) := by rw [passV, if_pos hok]
  refine Sy.calls_of Sy.lv40 Sy.tab_ok Try.func40 rfl _ Try.ntmps40 [⟨v, 3, ps.length, ps.map encP⟩] [.agg [.v (.int .i64 now), .v (.int .i64 span), .row 0], .c (.v (.int .i64 t))] rfl rfl rfl ⟨hr, trivial⟩ ?_
  by_cases hk1 : now ≤ t ∧ t ≤ 1099511627776
  · rw [if_pos hk1] at eV
    rw [eV]
    ((repeat' ((conv => whnf);(first|refine z1 ?_|refine z2 ?_|refine z3 ?_|refine z4 ?_|refine z5 ?_|refine z6 ?_|refine z7 ?_|refine z8 ?_|refine z9 ?_|refine za ?_|refine zb ?_|refine zc ?_|refine zd ?_|refine ze ?_|refine zf ?_|refine zg ?_|refine zh ?_|((first|refine zi ?_ ?_|refine zj ?_ ?_|refine zk ?_ ?_)<;> intro hh <;> first|(exfalso;omega)|skip)|(refine zl ?_ ?_<;> intro hh)|refine zm ?_|refine zn ?_|refine zo ?_|refine zp ?_|refine zq ?_|refine zr ?_|refine zs _ rfl ?_|refine zu ?_|exact Sy.fin_val (fun e=>rfl))));(all_goals (try conv => whnf)))
    refine Sy.call_rows none (fun _ : Unit => True) (fun _ => [⟨51, 3, ps.length, ps.map encP⟩]) (fun _ => .agg [.v (.int .i64 now), .v (.int .i64 span), .row 3]) Try.call21 (fun j hj => by cases hj) (fun _ _ => rfl)
      (fun e a w' h => Sy.rows_one (copy_any now span _ ps w' (Sy.row_reads (k := 0) h (.inr rfl)) (by omega)) (fun x u => rfl)) (fun _ _ => ?_)
    ((repeat' ((conv => whnf);(first|refine z1 ?_|refine z2 ?_|refine z3 ?_|refine z4 ?_|refine z5 ?_|refine z6 ?_|refine z7 ?_|refine z8 ?_|refine z9 ?_|refine za ?_|refine zb ?_|refine zc ?_|refine zd ?_|refine ze ?_|refine zf ?_|refine zg ?_|refine zh ?_|((first|refine zi ?_ ?_|refine zj ?_ ?_|refine zk ?_ ?_)<;> intro hh <;> first|(exfalso;omega)|skip)|(refine zl ?_ ?_<;> intro hh)|refine zm ?_|refine zn ?_|refine zo ?_|refine zp ?_|refine zq ?_|refine zr ?_|refine zs _ rfl ?_|refine zu ?_|exact Sy.fin_val (fun e=>rfl))));(all_goals (try conv => whnf)))
    refine Sy.sem_subF (Sy.sub_row 7 3 1 rfl) ?_
    conv => whnf
    refine Sy.loop_inv Sy.tab_ok (fun n : Nat => [(26, .c (.v (.int .i64 n))), (7, .c (.row 4))])
      (fun n => [(3, .row 51 3 ps.length (.vs ((passN t span ps n).map encP))), (4, .row 3 1 (goneN t span ps n).length (.vs ((goneN t span ps n).map encI)))]) (fun n => n ≤ ps.length) (fun n => ps.length - n) 0 (Nat.zero_le _) ?_ (fun n hle => ?_)
    · ((repeat' (first|((conv => whnf);done)|((try conv => whnf);first|exact trivial|(refine And.intro ?_ ?_)|rfl)));(all_goals (try conv => whnf)))
    · ((repeat' ((conv => whnf);(first|refine z1 ?_|refine z2 ?_|refine z3 ?_|refine z4 ?_|refine z5 ?_|refine z6 ?_|refine z7 ?_|refine z8 ?_|refine z9 ?_|refine za ?_|refine zb ?_|refine zc ?_|refine zd ?_|refine ze ?_|refine zf ?_|refine zg ?_|refine zh ?_|((first|refine zi ?_ ?_|refine zj ?_ ?_|refine zk ?_ ?_)<;> intro hh <;> first|(exfalso;omega)|skip)|(refine zl ?_ ?_<;> intro hh)|refine zm ?_|refine zn ?_|refine zo ?_|refine zp ?_|refine zq ?_|refine zr ?_|refine zs _ rfl ?_|refine zu ?_|exact Sy.fin_val (fun e=>rfl))));(all_goals (try conv => whnf)))
      · have hlt : n < ps.length := by omega
        refine Sy.el_map ps[n] (passN_get t span ps n hlt) ?_
        have e1 := goneN_succ t span ps n hlt
        have e2 := goneN_len t span ps n
        have e3 := passN_succ t span ps n hlt
        have e4 := passN_stay t span ps n hlt
        have e5 := passN_get t span ps n hlt
        have e6 := passN_len t span ps n
        have e7 := okH_get now span ps hok n hlt
        generalize ps[n] = p at *
        generalize goneN t span ps n = l at *
        generalize passN t span ps n = qs at *
        obtain ⟨pw, ph, pd⟩ := p
        simp only at e7
        cases pd
        · ((repeat' ((conv => whnf);(first|refine z1 ?_|refine z2 ?_|refine z3 ?_|refine z4 ?_|refine z5 ?_|refine z6 ?_|refine z7 ?_|refine z8 ?_|refine z9 ?_|refine za ?_|refine zb ?_|refine zc ?_|refine zd ?_|refine ze ?_|refine zf ?_|refine zg ?_|refine zh ?_|((first|refine zi ?_ ?_|refine zj ?_ ?_|refine zk ?_ ?_)<;> intro hh <;> first|(exfalso;omega)|skip)|(refine zl ?_ ?_<;> intro hh)|refine zm ?_|refine zn ?_|refine zo ?_|refine zp ?_|refine zq ?_|refine zr ?_|refine zs _ rfl ?_|refine zu ?_|exact Sy.fin_val (fun e=>rfl))));(all_goals (try conv => whnf)))
          refine Sy.ar_eq (y := t - ph) rfl (by omega) ?_
          by_cases hg : span ≤ t - ph
          · ((repeat' ((conv => whnf);(first|refine z1 ?_|refine z2 ?_|refine z3 ?_|refine z4 ?_|refine z5 ?_|refine z6 ?_|refine z7 ?_|refine z8 ?_|refine z9 ?_|refine za ?_|refine zb ?_|refine zc ?_|refine zd ?_|refine ze ?_|refine zf ?_|refine zg ?_|refine zh ?_|((first|refine zi ?_ ?_|refine zj ?_ ?_|refine zk ?_ ?_)<;> intro hh <;> first|(exfalso;omega)|skip)|(refine zl ?_ ?_<;> intro hh)|refine zm ?_|refine zn ?_|refine zo ?_|refine zp ?_|refine zq ?_|refine zr ?_|refine zs _ rfl ?_|refine zu ?_|exact Sy.fin_val (fun e=>rfl))));(all_goals (try conv => whnf)))
            refine Sy.el_map ⟨pw, ph, false⟩ e5 ?_
            ((repeat' ((conv => whnf);(first|refine z1 ?_|refine z2 ?_|refine z3 ?_|refine z4 ?_|refine z5 ?_|refine z6 ?_|refine z7 ?_|refine z8 ?_|refine z9 ?_|refine za ?_|refine zb ?_|refine zc ?_|refine zd ?_|refine ze ?_|refine zf ?_|refine zg ?_|refine zh ?_|((first|refine zi ?_ ?_|refine zj ?_ ?_|refine zk ?_ ?_)<;> intro hh <;> first|(exfalso;omega)|skip)|(refine zl ?_ ?_<;> intro hh)|refine zm ?_|refine zn ?_|refine zo ?_|refine zp ?_|refine zq ?_|refine zr ?_|refine zs _ rfl ?_|refine zu ?_|exact Sy.fin_val (fun e=>rfl))));(all_goals (try conv => whnf)))
            refine Sy.need_app 8 rfl ⟨by omega, by omega⟩ ?_
            ((repeat' ((conv => whnf);(first|refine z1 ?_|refine z2 ?_|refine z3 ?_|refine z4 ?_|refine z5 ?_|refine z6 ?_|refine z7 ?_|refine z8 ?_|refine z9 ?_|refine za ?_|refine zb ?_|refine zc ?_|refine zd ?_|refine ze ?_|refine zf ?_|refine zg ?_|refine zh ?_|((first|refine zi ?_ ?_|refine zj ?_ ?_|refine zk ?_ ?_)<;> intro hh <;> first|(exfalso;omega)|skip)|(refine zl ?_ ?_<;> intro hh)|refine zm ?_|refine zn ?_|refine zo ?_|refine zp ?_|refine zq ?_|refine zr ?_|refine zs _ rfl ?_|refine zu ?_|exact Sy.fin_val (fun e=>rfl))));(all_goals (try conv => whnf)))
            refine ⟨n + 1, by omega, by omega, ?_⟩
            rw [e1, if_pos (by simp [goes]; omega), ← e3]
            ((repeat' (first|((conv => whnf);done)|((try conv => whnf);first|exact trivial|(refine And.intro ?_ ?_)|rfl)));(all_goals (try conv => whnf)))
            all_goals first
              | (rw [List.map_set, downAt, if_pos (by simp [goes]; omega)]; rfl)
              | (simp [encI]; done)
          · ((repeat' ((conv => whnf);(first|refine z1 ?_|refine z2 ?_|refine z3 ?_|refine z4 ?_|refine z5 ?_|refine z6 ?_|refine z7 ?_|refine z8 ?_|refine z9 ?_|refine za ?_|refine zb ?_|refine zc ?_|refine zd ?_|refine ze ?_|refine zf ?_|refine zg ?_|refine zh ?_|((first|refine zi ?_ ?_|refine zj ?_ ?_|refine zk ?_ ?_)<;> intro hh <;> first|(exfalso;omega)|skip)|(refine zl ?_ ?_<;> intro hh)|refine zm ?_|refine zn ?_|refine zo ?_|refine zp ?_|refine zq ?_|refine zr ?_|refine zs _ rfl ?_|refine zu ?_|exact Sy.fin_val (fun e=>rfl))));(all_goals (try conv => whnf)))
            refine ⟨n + 1, by omega, by omega, ?_⟩
            rw [e1, if_neg (by simp [goes]; omega), List.append_nil, ← e4 (by simp [goes]; omega)]
            ((repeat' (first|((conv => whnf);done)|((try conv => whnf);first|exact trivial|(refine And.intro ?_ ?_)|rfl)));(all_goals (try conv => whnf)))
        · ((repeat' ((conv => whnf);(first|refine z1 ?_|refine z2 ?_|refine z3 ?_|refine z4 ?_|refine z5 ?_|refine z6 ?_|refine z7 ?_|refine z8 ?_|refine z9 ?_|refine za ?_|refine zb ?_|refine zc ?_|refine zd ?_|refine ze ?_|refine zf ?_|refine zg ?_|refine zh ?_|((first|refine zi ?_ ?_|refine zj ?_ ?_|refine zk ?_ ?_)<;> intro hh <;> first|(exfalso;omega)|skip)|(refine zl ?_ ?_<;> intro hh)|refine zm ?_|refine zn ?_|refine zo ?_|refine zp ?_|refine zq ?_|refine zr ?_|refine zs _ rfl ?_|refine zu ?_|exact Sy.fin_val (fun e=>rfl))));(all_goals (try conv => whnf)))
          refine ⟨n + 1, by omega, by omega, ?_⟩
          rw [e1, if_neg (by simp [goes]), List.append_nil, ← e4 (by simp [goes])]
          ((repeat' (first|((conv => whnf);done)|((try conv => whnf);first|exact trivial|(refine And.intro ?_ ?_)|rfl)));(all_goals (try conv => whnf)))
      · have e : n = ps.length := by omega
        subst e
        rw [passN_all, goneN_all]
        refine Sy.fin_rows () trivial [.row 3, .row 4] ⟨?_, (by intro j hj h1 h2; simp at hj; subst hj; simp [Sy.rowId] at h2), ?_, (by intro j hj; cases hj), trivial⟩ (fun e => rfl)
        · show some (Blk.row 51 3 ps.length (Els.vs ((passL t span ps).map encP))) = some (.row 51 3 (passL t span ps).length (.vs ((passL t span ps).map encP)))
          rw [show (passL t span ps).length = ps.length by simp [passL]]
        · rfl
  · rw [if_neg hk1] at eV
    rw [eV]
    ((repeat' ((conv => whnf);(first|refine z1 ?_|refine z2 ?_|refine z3 ?_|refine z4 ?_|refine z5 ?_|refine z6 ?_|refine z7 ?_|refine z8 ?_|refine z9 ?_|refine za ?_|refine zb ?_|refine zc ?_|refine zd ?_|refine ze ?_|refine zf ?_|refine zg ?_|refine zh ?_|((first|refine zi ?_ ?_|refine zj ?_ ?_|refine zk ?_ ?_)<;> intro hh <;> first|(exfalso;omega)|skip)|(refine zl ?_ ?_<;> intro hh)|refine zm ?_|refine zn ?_|refine zo ?_|refine zp ?_|refine zq ?_|refine zr ?_|refine zs _ rfl ?_|refine zu ?_|exact Sy.fin_val (fun e=>rfl))));(all_goals (try conv => whnf)))
    all_goals exact Sy.fin_rows () trivial [.v (.slice none 0 0), .v (.slice none 0 0)] ⟨⟨rfl, rfl⟩, (by intro j hj h; simp [Sy.rowId] at h), ⟨⟨rfl, rfl⟩, (by intro j hj; cases hj), trivial⟩⟩ (fun e => rfl)
end Go.Proofs.Ytiapcohnjklcfaa
