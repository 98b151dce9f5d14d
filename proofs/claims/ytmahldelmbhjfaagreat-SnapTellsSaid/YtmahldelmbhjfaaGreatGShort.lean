/- Graph: short, as the law's packages have it. -/
import Derived.Test.YtmahldelmbhjfaaGreatGJ
namespace Go.Proofs.YtmahldelmbhjfaaGreat
open Go Go.RowKit
open Sy (C SV V1 Blk St XD Els)
set_option maxRecDepth 10000

def shortO (o : Opr) : Opr := { o with ins := o.ins.take 10 }
def shortM (g : List Opr) : List Opr := (g.take 9).map shortO
def shortC (gv : Value) (gl : List OpV) : Sy.Ctr (List OpV) := { avs := [.agg [.v gv]], n0 := 0, H0 := [], pre := fun F w => GOk F w gv gl, p := fun ls => opsOf ls = shortM (opsOf gl), sv := fun _ => .agg [.row 0], n1 := fun _ => 1, H1 := fun ls => [(0, .row 55 5 ls.length (.vs (ls.map encOV)))], learn := true, q := fun ls G w => ∀ o ∈ ls, OOk G w o }
theorem lt_g1 {v : Value} (h : v.oneCell' = true) : Sy.allLt 0 [.agg [.v v]] = true := by
  have h1 : SV.lt 0 (.agg [.v v]) = true := by show Sy.ltAll 0 [C.v v] = true; simp [Sy.ltAll, C.lt, h]
  simp [Sy.allLt, h1]
theorem shortM_succ {g : List Opr} {n : Nat} {o : Opr} (h : g[n]? = some o) : (g.take (n + 1)).take 9 = (g.take n).take 9 ++ (if n ≤ 8 then [o] else []) := by
  obtain ⟨hn, he⟩ := List.getElem?_eq_some_iff.1 h
  rw [List.take_succ_eq_append_getElem hn, he, List.take_append, List.length_take, Nat.min_eq_left (by omega)]
  by_cases h8 : n ≤ 8
  · rw [if_pos h8, List.take_of_length_le (l := [o]) (by simp; omega)]
  · rw [if_neg h8, show 9 - n = 0 by omega]; simp
set_option maxHeartbeats 1000000 in
theorem short_does (gv : Value) (gl : List OpV) (hone : gv.oneCell' = true) : Sy.Does Tryz.prog 5 (shortC gv gl) := by
  refine Sy.does_of Sy.lv5 Sy.tab_ok Tryz.func5 rfl _ Tryz.ntmps5 _ (lt_g1 hone) rfl (fun e0 w hpre => ?_)
  have hpre : GOk (Sy.frz e0 [] w) w gv gl := hpre
  have hl := ok_len hpre.1
  ((repeat' ((conv => whnf);(first|refine zA ?_|(refine zI ?_ ?_<;> intro hh<;> first|(exfalso;omega)|skip)|(refine zl ?_ ?_<;> intro hh)|refine zq ?_|refine zv ?_|exact Sy.fin_val fun e=>rfl)));(all_goals (try conv => whnf)))
  refine open_f _ _ _ (hpre.1) ?_
  ((repeat' ((conv => whnf);(first|refine zA ?_|(refine zI ?_ ?_<;> intro hh<;> first|(exfalso;omega)|skip)|(refine zl ?_ ?_<;> intro hh)|refine zq ?_|refine zv ?_|exact Sy.fin_val fun e=>rfl)));(all_goals (try conv => whnf)))
  refine Sy.sem_subF (Sy.sub_rowc 2 0 55 5 rfl rfl) ?_
  conv => whnf
  refine Sy.loop_ends Sy.tab_ok (fun x : Nat × List OpV × (Nat → Prop) × (World → Prop) => [(9, .c (.v (.int .i64 x.1)))]) (fun x => [(2, .cells 24 [.row 4]), (4, .row 55 5 x.2.1.length (.vs (x.2.1.map encOV)))]) (fun x => x.2.2.1) (fun x => x.2.2.2)
    (fun x => x.1 ≤ gl.length ∧ opsOf x.2.1 = shortM ((opsOf gl).take x.1) ∧ (∀ b, Sy.frz e0 [] w b → x.2.2.1 b) ∧ ∀ w', x.2.2.2 w' → ∀ o ∈ x.2.1, OOk (fun b => x.2.2.1 b ∧ ¬ Sy.frz e0 [] w b) w' o) (fun x => gl.length - x.1) (0, [], Sy.frz e0 [] w, fun _ => True)
    ⟨Nat.zero_le _, rfl, fun _ h => h, fun _ _ o ho => by cases ho⟩ ?_ (fun x hx => ?_)
  · ((repeat' (first|((conv => whnf);done)|((try conv => whnf);first|exact trivial|(refine And.intro ?_ ?_)|rfl|exact fun _ _ _ h=>h|exact fun _ _ _ _=>trivial)));(all_goals (try conv => whnf)))
  · obtain ⟨n, ls, F, E⟩ := x
    obtain ⟨hn, hls, hF, hE⟩ := hx
    dsimp only at hn hls hF hE ⊢
    have hll : ls.length ≤ 9 := by
      have := congrArg List.length hls
      rw [opsOf_len, shortM, List.length_map, List.length_take] at this
      omega
    ((repeat' ((conv => whnf);(first|refine zA ?_|(refine zI ?_ ?_<;> intro hh<;> first|(exfalso;omega)|skip)|(refine zl ?_ ?_<;> intro hh)|exact Sy.fin_val fun e=>rfl)));(all_goals (try conv => whnf)))
    · have hlt : n < gl.length := by omega
      have hg := List.getElem?_eq_getElem hlt
      generalize gl[n] = o at *
      have hss := shortM_succ (opsOf_get hg)
      have hoo := hpre.at hg
      refine Sy.el_map o hg ?_
      by_cases h8 : n ≤ 8
      · rw [if_pos h8] at hss
        ((repeat' ((conv => whnf);(first|refine zA ?_|(refine zI ?_ ?_<;> intro hh<;> first|(exfalso;omega)|skip)|(refine zl ?_ ?_<;> intro hh)|refine zq ?_|refine zv ?_|exact Sy.fin_val fun e=>rfl)));(all_goals (try conv => whnf)))
        refine open_f _ _ _ (hoo) ?_
        ((repeat' ((conv => whnf);(first|refine zA ?_|(refine zI ?_ ?_<;> intro hh<;> first|(exfalso;omega)|skip)|(refine zl ?_ ?_<;> intro hh)|refine zq ?_|refine zv ?_|exact Sy.fin_val fun e=>rfl)));(all_goals (try conv => whnf)))
        refine open_f _ _ _ (hoo) ?_
        ((repeat' ((conv => whnf);(first|refine zA ?_|(refine zI ?_ ?_<;> intro hh<;> first|(exfalso;omega)|skip)|(refine zl ?_ ?_<;> intro hh)|refine zq ?_|refine zv ?_|exact Sy.fin_val fun e=>rfl)));(all_goals (try conv => whnf)))
        obtain ⟨m, hm⟩ : ∃ m, m = min o.op.ins.length 10 := ⟨_, rfl⟩
        have hmin : Sy.minI (o.op.ins.length : Int) 10 = (m : Int) := by unfold Sy.minI; split <;> omega
        refine Sy.sli_eq 0 m rfl hmin ⟨by omega, by omega⟩ ?_
        ((repeat' ((conv => whnf);(first|refine zA ?_|(refine zI ?_ ?_<;> intro hh<;> first|(exfalso;omega)|skip)|(refine zl ?_ ?_<;> intro hh)|refine zq ?_|refine zv ?_|exact Sy.fin_val fun e=>rfl)));(all_goals (try conv => whnf)))
        refine Sy.need_of (by show (0 + (m - 0)) * 8 ≤ _ ∧ _; omega) ?_
        have hxs : List.take (m - 0) (List.drop 0 (o.op.ins.map encI)) = (shortO o.op).ins.map encI := by
          show _ = (o.op.ins.take 10).map encI
          rw [List.drop_zero, ← List.map_take, Nat.sub_zero, hm]
          by_cases h10 : o.op.ins.length ≤ 10
          · rw [Nat.min_eq_left h10, List.take_length, List.take_of_length_le h10]
          · rw [Nat.min_eq_right (by omega)]
        have hxl : 0 + (m - 0) = (shortO o.op).ins.length := by
          show _ = (o.op.ins.take 10).length
          rw [List.length_take]; omega
        rw [hxs, hxl]
        ((repeat' ((conv => whnf);(first|refine zA ?_|(refine zI ?_ ?_<;> intro hh<;> first|(exfalso;omega)|skip)|(refine zl ?_ ?_<;> intro hh)|refine zq ?_|refine zv ?_|exact Sy.fin_val fun e=>rfl)));(all_goals (try conv => whnf)))
        refine Sy.need_of (by show (ls.length + 1) * 56 ≤ _ ∧ _; omega) ?_
        ((repeat' ((conv => whnf);(first|refine zA ?_|(refine zI ?_ ?_<;> intro hh<;> first|(exfalso;omega)|skip)|(refine zl ?_ ?_<;> intro hh)|refine zq ?_|refine zv ?_|exact Sy.fin_val fun e=>rfl)));(all_goals (try conv => whnf)))
        refine Sy.end_freeze 10 12 (fun u => (ls ++ [(⟨shortO o.op, u⟩ : OpV)]).map encOV) (by decide) rfl rfl (fun e => by
          show List.map _ ((Els.vs (ls.map encOV)).toC ++ _) = _
          rw [List.map_append, Sy.Els.den_toC, List.map_append]; rfl) (fun u G hG hu => ?_)
        conv => whnf
        refine Sy.end_here ⟨(n + 1, ls ++ [⟨shortO o.op, u⟩], fun b => F b ∨ G b, fun w' => E w' ∧ (XD.ok G w' ⟨u, 1, (shortO o.op).ins.length, (shortO o.op).ins.map encI⟩ ∧ ∀ b, G b → F b ∨ G b)), ⟨by dsimp only; omega, ?_, fun b hb => .inl (hF b hb), fun w' hw p hp => ?_⟩, by dsimp only; omega, ?_⟩
        · dsimp only
          rw [opsOf, List.map_append, ← opsOf, hls, shortM, shortM, hss, List.map_append]
          rfl
        · rcases List.mem_append.1 hp with hp | hp
          · exact (hE w' hw.1 p hp).mono fun b hb => ⟨.inl hb.1, hb.2⟩
          · rw [List.mem_singleton.1 hp]
            exact XD.ok.mono hw.2.1 fun b hb => ⟨.inr hb, fun hf => hG b hb (hF b hf)⟩
        · dsimp only
          ((repeat' (first|((conv => whnf);done)|((try conv => whnf);first|exact trivial|(refine And.intro ?_ ?_)|rfl|exact fun _ _ _ h=>h|exact fun _ _ _ _=>trivial)));(all_goals (try conv => whnf)))
          all_goals simp
      · rw [if_neg h8, List.append_nil] at hss
        ((repeat' ((conv => whnf);(first|refine zA ?_|(refine zI ?_ ?_<;> intro hh<;> first|(exfalso;omega)|skip)|(refine zl ?_ ?_<;> intro hh)|refine zq ?_|refine zv ?_|exact Sy.fin_val fun e=>rfl)));(all_goals (try conv => whnf)))
        refine Sy.end_here ⟨(n + 1, ls, F, E), ⟨by dsimp only; omega, by dsimp only; rw [hls, shortM, shortM, hss], hF, hE⟩, by dsimp only; omega, ?_⟩
        dsimp only
        ((repeat' (first|((conv => whnf);done)|((try conv => whnf);first|exact trivial|(refine And.intro ?_ ?_)|rfl|exact fun _ _ _ h=>h|exact fun _ _ _ _=>trivial)));(all_goals (try conv => whnf)))
    · have e : n = gl.length := by omega
      rw [e, ← opsOf_len, List.take_length] at hls
      refine Sy.fin_own ls hls ?_ rfl (fun w' hw' => ⟨fun b => F b ∧ ¬ Sy.frz e0 [] w b, fun b hb => hb, hE w' hw'⟩)
      ((conv => whnf);(refine And.intro ?_ (And.intro ?_ (And.intro ?_ ?_)));(all_goals ((repeat' (first|((conv => whnf);done)|((try conv => whnf);first|exact trivial|(refine And.intro ?_ ?_)|rfl|exact fun _ _ _ h=>h|exact fun _ _ _ _=>trivial)));(all_goals (try conv => whnf)))))
def encGr (p : Value × List OpV) : List Value := [p.1]
/-- A row of graphs is read. -/
def GsOk (F : Nat → Prop) (w : World) (v : Value) (gs : List (Value × List OpV)) : Prop := XD.ok F w ⟨v, 1, gs.length, gs.map encGr⟩ ∧ ∀ p ∈ gs, GOk F w p.1 p.2
theorem shortM_len (g : List Opr) : (shortM g).length ≤ 9 := by unfold shortM; rw [List.length_map, List.length_take]; omega
theorem shortM_ins (g : List Opr) : ∀ o ∈ shortM g, o.ins.length ≤ 10 := fun o ho => by
  obtain ⟨p, _, rfl⟩ := List.mem_map.1 ho
  show (p.ins.take 10).length ≤ 10
  rw [List.length_take]; omega
end Go.Proofs.YtmahldelmbhjfaaGreat
