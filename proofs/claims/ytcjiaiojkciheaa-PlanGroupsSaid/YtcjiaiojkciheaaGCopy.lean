/- Graph: the document's Copy. -/
import Derived.Test.YtcjiaiojkciheaaGJ
namespace Go.Proofs.Ytcjiaiojkciheaa
open Go Go.RowKit
open Sy (C SV V1 Blk St XD Els)
set_option maxRecDepth 10000

def copyC (gv : Value) (gl : List OpV) : Sy.Ctr (List OpV) := { avs := [.agg [.v gv]], n0 := 0, H0 := [], pre := fun F w => GOk F w gv gl ∧ gl.length ≤ 50 ∧ ∀ o ∈ gl, o.op.ins.length ≤ 50, p := fun ls => opsOf ls = opsOf gl, sv := fun _ => .agg [.row 0], n1 := fun _ => 1, H1 := fun ls => [(0, .row 56 5 ls.length (.vs (ls.map encOV)))], learn := true, q := fun ls G w => ∀ o ∈ ls, OOk G w o }
theorem lt_c1 {v : Value} (h : v.oneCell' = true) : Sy.allLt 0 [.agg [.v v]] = true := by
  have h1 : SV.lt 0 (.agg [.v v]) = true := by show Sy.ltAll 0 [C.v v] = true; simp [Sy.ltAll, C.lt, h]
  simp [Sy.allLt, h1]
set_option maxHeartbeats 1000000 in
theorem copy_does (gv : Value) (gl : List OpV) (hone : gv.oneCell' = true) : Sy.Does Try.prog 11 (copyC gv gl) := by
  refine Sy.does_of Sy.lv11 Sy.tab_ok Try.func11 rfl _ Try.ntmps11 _ (lt_c1 hone) rfl (fun e0 w hpre0 => ?_)
  have hpre0 : GOk (Sy.frz e0 [] w) w gv gl ∧ gl.length ≤ 50 ∧ ∀ o ∈ gl, o.op.ins.length ≤ 50 := hpre0
  obtain ⟨hpre, h50, hi50⟩ := hpre0
  have hl := ok_len hpre.1
  ((repeat' ((conv => whnf);(first|refine z1 ?_|refine z2 ?_|refine z3 ?_|refine z4 ?_|refine z5 ?_|refine z6 ?_|refine z7 ?_|refine z8 ?_|refine z9 ?_|refine za ?_|refine zb ?_|refine zc ?_|refine zd ?_|refine ze ?_|refine zf ?_|refine zg ?_|refine zh ?_|((first|refine zi ?_ ?_|refine zj ?_ ?_|refine zk ?_ ?_)<;> intro hh <;> first|(exfalso;omega)|skip)|(refine zl ?_ ?_<;> intro hh)|refine zm ?_|refine zn ?_|refine zo ?_|refine zp ?_|refine zq ?_|refine zv ?_|refine zr ?_|refine zs _ rfl ?_|exact Sy.fin_val (fun e=>rfl))));(all_goals (try conv => whnf)))
  refine open_f _ _ _ (hpre.1) ?_
  ((repeat' ((conv => whnf);(first|refine z1 ?_|refine z2 ?_|refine z3 ?_|refine z4 ?_|refine z5 ?_|refine z6 ?_|refine z7 ?_|refine z8 ?_|refine z9 ?_|refine za ?_|refine zb ?_|refine zc ?_|refine zd ?_|refine ze ?_|refine zf ?_|refine zg ?_|refine zh ?_|((first|refine zi ?_ ?_|refine zj ?_ ?_|refine zk ?_ ?_)<;> intro hh <;> first|(exfalso;omega)|skip)|(refine zl ?_ ?_<;> intro hh)|refine zm ?_|refine zn ?_|refine zo ?_|refine zp ?_|refine zq ?_|refine zv ?_|refine zr ?_|refine zs _ rfl ?_|exact Sy.fin_val (fun e=>rfl))));(all_goals (try conv => whnf)))
  refine Sy.sem_subF (Sy.sub_rowc 2 0 56 5 rfl rfl) ?_
  conv => whnf
  refine Sy.loop_ends Sy.tab_ok (fun x : Nat × List OpV × (Nat → Prop) × (World → Prop) => [(9, .c (.v (.int .i64 x.1)))]) (fun x => [(2, .cells 24 [.row 4]), (4, .row 56 5 x.2.1.length (.vs (x.2.1.map encOV)))]) (fun x => x.2.2.1) (fun x => x.2.2.2)
    (fun x => x.1 ≤ gl.length ∧ opsOf x.2.1 = (opsOf gl).take x.1 ∧ (∀ b, Sy.frz e0 [] w b → x.2.2.1 b) ∧ ∀ w', x.2.2.2 w' → ∀ o ∈ x.2.1, OOk (fun b => x.2.2.1 b ∧ ¬ Sy.frz e0 [] w b) w' o) (fun x => gl.length - x.1) (0, [], Sy.frz e0 [] w, fun _ => True)
    ⟨Nat.zero_le _, rfl, fun _ h => h, fun _ _ o ho => by cases ho⟩ ?_ (fun x hx => ?_)
  · ((repeat' (first|((conv => whnf);done)|((try conv => whnf);first|exact trivial|(refine And.intro ?_ ?_)|rfl|exact fun _ _ _ h=>h|exact fun _ _ _ _=>trivial)));(all_goals (try conv => whnf)))
  · obtain ⟨n, ls, F, E⟩ := x
    obtain ⟨hn, hls, hF, hE⟩ := hx
    dsimp only at hn hls hF hE ⊢
    have hll : ls.length ≤ 50 := by
      have := congrArg List.length hls
      rw [opsOf_len, List.length_take, opsOf_len] at this
      omega
    ((repeat' ((conv => whnf);(first|refine z1 ?_|refine z2 ?_|refine z3 ?_|refine z4 ?_|refine z5 ?_|refine z6 ?_|refine z7 ?_|refine z8 ?_|refine z9 ?_|refine za ?_|refine zb ?_|refine zc ?_|refine zd ?_|refine ze ?_|refine zf ?_|refine zg ?_|refine zh ?_|((first|refine zi ?_ ?_|refine zj ?_ ?_|refine zk ?_ ?_)<;> intro hh <;> first|(exfalso;omega)|skip)|(refine zl ?_ ?_<;> intro hh)|refine zm ?_|refine zn ?_|refine zo ?_|refine zp ?_|refine zr ?_|refine zs _ rfl ?_|exact Sy.fin_val (fun e=>rfl))));(all_goals (try conv => whnf)))
    · have hlt : n < gl.length := by omega
      have hg := List.getElem?_eq_getElem hlt
      have hio := hi50 _ (List.getElem_mem hlt)
      generalize gl[n] = o at *
      have hss : (opsOf gl).take (n + 1) = (opsOf gl).take n ++ [o.op] := by rw [List.take_add_one, opsOf_get hg]; rfl
      have hoo := hpre.at hg
      have hil := ok_len hoo
      refine Sy.el_map o hg ?_
      ((repeat' ((conv => whnf);(first|refine z1 ?_|refine z2 ?_|refine z3 ?_|refine z4 ?_|refine z5 ?_|refine z6 ?_|refine z7 ?_|refine z8 ?_|refine z9 ?_|refine za ?_|refine zb ?_|refine zc ?_|refine zd ?_|refine ze ?_|refine zf ?_|refine zg ?_|refine zh ?_|((first|refine zi ?_ ?_|refine zj ?_ ?_|refine zk ?_ ?_)<;> intro hh <;> first|(exfalso;omega)|skip)|(refine zl ?_ ?_<;> intro hh)|refine zm ?_|refine zn ?_|refine zo ?_|refine zp ?_|refine zq ?_|refine zv ?_|refine zr ?_|refine zs _ rfl ?_|exact Sy.fin_val (fun e=>rfl))));(all_goals (try conv => whnf)))
      refine open_f _ _ _ (hoo) ?_
      ((repeat' ((conv => whnf);(first|refine z1 ?_|refine z2 ?_|refine z3 ?_|refine z4 ?_|refine z5 ?_|refine z6 ?_|refine z7 ?_|refine z8 ?_|refine z9 ?_|refine za ?_|refine zb ?_|refine zc ?_|refine zd ?_|refine ze ?_|refine zf ?_|refine zg ?_|refine zh ?_|((first|refine zi ?_ ?_|refine zj ?_ ?_|refine zk ?_ ?_)<;> intro hh <;> first|(exfalso;omega)|skip)|(refine zl ?_ ?_<;> intro hh)|refine zm ?_|refine zn ?_|refine zo ?_|refine zp ?_|refine zq ?_|refine zv ?_|refine zr ?_|refine zs _ rfl ?_|exact Sy.fin_val (fun e=>rfl))));(all_goals (try conv => whnf)))
      refine Sy.need_of (by show (0 + o.op.ins.length) * 8 ≤ _ ∧ _; omega) ?_
      ((repeat' ((conv => whnf);(first|refine z1 ?_|refine z2 ?_|refine z3 ?_|refine z4 ?_|refine z5 ?_|refine z6 ?_|refine z7 ?_|refine z8 ?_|refine z9 ?_|refine za ?_|refine zb ?_|refine zc ?_|refine zd ?_|refine ze ?_|refine zf ?_|refine zg ?_|refine zh ?_|((first|refine zi ?_ ?_|refine zj ?_ ?_|refine zk ?_ ?_)<;> intro hh <;> first|(exfalso;omega)|skip)|(refine zl ?_ ?_<;> intro hh)|refine zm ?_|refine zn ?_|refine zo ?_|refine zp ?_|refine zq ?_|refine zv ?_|refine zr ?_|refine zs _ rfl ?_|exact Sy.fin_val (fun e=>rfl))));(all_goals (try conv => whnf)))
      refine Sy.need_of (by show (ls.length + 1) * 56 ≤ _ ∧ _; omega) ?_
      ((repeat' ((conv => whnf);(first|refine z1 ?_|refine z2 ?_|refine z3 ?_|refine z4 ?_|refine z5 ?_|refine z6 ?_|refine z7 ?_|refine z8 ?_|refine z9 ?_|refine za ?_|refine zb ?_|refine zc ?_|refine zd ?_|refine ze ?_|refine zf ?_|refine zg ?_|refine zh ?_|((first|refine zi ?_ ?_|refine zj ?_ ?_|refine zk ?_ ?_)<;> intro hh <;> first|(exfalso;omega)|skip)|(refine zl ?_ ?_<;> intro hh)|refine zm ?_|refine zn ?_|refine zo ?_|refine zp ?_|refine zq ?_|refine zv ?_|refine zr ?_|refine zs _ rfl ?_|exact Sy.fin_val (fun e=>rfl))));(all_goals (try conv => whnf)))
      have hxl : 0 + o.op.ins.length = o.op.ins.length := Nat.zero_add _
      rw [hxl]
      refine Sy.end_freeze 8 10 (fun u => (ls ++ [(⟨o.op, u⟩ : OpV)]).map encOV) (by decide) rfl rfl (fun e => by
        show List.map _ ((Els.vs (ls.map encOV)).toC ++ _) = _
        rw [List.map_append, Sy.Els.den_toC, List.map_append]; rfl) (fun u G hG hu => ?_)
      conv => whnf
      refine Sy.end_here ⟨(n + 1, ls ++ [⟨o.op, u⟩], fun b => F b ∨ G b, fun w' => E w' ∧ (XD.ok G w' ⟨u, 1, o.op.ins.length, o.op.ins.map encI⟩ ∧ ∀ b, G b → F b ∨ G b)), ⟨by dsimp only; omega, ?_, fun b hb => .inl (hF b hb), fun w' hw p hp => ?_⟩, by dsimp only; omega, ?_⟩
      · dsimp only
        rw [opsOf, List.map_append, ← opsOf, hls, hss]
        rfl
      · rcases List.mem_append.1 hp with hp | hp
        · exact (hE w' hw.1 p hp).mono fun b hb => ⟨.inl hb.1, hb.2⟩
        · rw [List.mem_singleton.1 hp]
          exact XD.ok.mono hw.2.1 fun b hb => ⟨.inr hb, fun hf => hG b hb (hF b hf)⟩
      · dsimp only
        ((repeat' (first|((conv => whnf);done)|((try conv => whnf);first|exact trivial|(refine And.intro ?_ ?_)|rfl|exact fun _ _ _ h=>h|exact fun _ _ _ _=>trivial)));(all_goals (try conv => whnf)))
        all_goals simp
    · have e : n = gl.length := by omega
      rw [e, ← opsOf_len, List.take_length] at hls
      refine Sy.fin_own ls hls ?_ rfl (fun w' hw' => ⟨fun b => F b ∧ ¬ Sy.frz e0 [] w b, fun b hb => hb, hE w' hw'⟩)
      ((conv => whnf);(refine And.intro ?_ (And.intro ?_ (And.intro ?_ ?_)));(all_goals ((repeat' (first|((conv => whnf);done)|((try conv => whnf);first|exact trivial|(refine And.intro ?_ ?_)|rfl|exact fun _ _ _ h=>h|exact fun _ _ _ _=>trivial)));(all_goals (try conv => whnf)))))
end Go.Proofs.Ytcjiaiojkciheaa
