/- Heart: New, Same, Alive, Due. -/
import Derived.Test.YtiapcohnjklcfaaHeB
namespace Go.Proofs.Ytiapcohnjklcfaa
open Go Go.RowKit
open Sy (C SV V1 Blk St XD Els)
set_option maxRecDepth 10000
attribute [local irreducible] okN okH ok0 chkE

def sameB (n1 s1 : Int) (ps : List Pulse) (n2 s2 : Int) (qs : List Pulse) : Bool := decide (n1 = n2 ∧ s1 = s2 ∧ ps = qs)

theorem hsame_any (n1 s1 n2 s2 : Int) (u v : Value) (ps qs : List Pulse) (w : World) (hx : XD.ok (fun b => b < w.heap.size) w ⟨u, 3, ps.length, ps.map encP⟩) (hy : XD.ok (fun b => b < w.heap.size) w ⟨v, 3, qs.length, qs.map encP⟩) :
    Calls Try.prog 23 #[.agg #[.int .i64 n1, .int .i64 s1, u], .agg #[.int .i64 n2, .int .i64 s2, v]] w (Sy.Ret (.bool (sameB n1 s1 ps n2 s2 qs)) w) := by
  refine Sy.calls_of Sy.lv23 Sy.tab_ok Try.func23 rfl _ Try.ntmps23 [⟨u, 3, ps.length, ps.map encP⟩, ⟨v, 3, qs.length, qs.map encP⟩] [.agg [.v (.int .i64 n1), .v (.int .i64 s1), .row 0], .agg [.v (.int .i64 n2), .v (.int .i64 s2), .row 1]] rfl rfl rfl ⟨hx, hy, trivial⟩ ?_
  ((repeat' ((conv => whnf);(first|refine z1 ?_|refine z2 ?_|refine z3 ?_|refine z4 ?_|refine z5 ?_|refine z6 ?_|refine z7 ?_|refine z8 ?_|refine z9 ?_|refine za ?_|refine zb ?_|refine zc ?_|refine zd ?_|refine ze ?_|refine zf ?_|refine zg ?_|refine zh ?_|((first|refine zi ?_ ?_|refine zj ?_ ?_|refine zk ?_ ?_)<;> intro hh <;> first|(exfalso;omega)|skip)|(refine zl ?_ ?_<;> intro hh)|refine zm ?_|refine zn ?_|refine zo ?_|refine zp ?_|refine zq ?_|refine zr ?_|refine zs _ rfl ?_|refine zu ?_|exact Sy.fin_val (fun e=>rfl))));(all_goals (try conv => whnf)))
  · refine Sy.call_val (.c (.v (.bool (decide (ps = qs))))) Try.call43 rfl (fun e a w' h => equalP_any _ _ ps qs w' (Sy.row_reads h (.inr rfl)) (Sy.row_reads h (.inr rfl))) ?_
    ((repeat' ((conv => whnf);(first|refine z1 ?_|refine z2 ?_|refine z3 ?_|refine z4 ?_|refine z5 ?_|refine z6 ?_|refine z7 ?_|refine z8 ?_|refine z9 ?_|refine za ?_|refine zb ?_|refine zc ?_|refine zd ?_|refine ze ?_|refine zf ?_|refine zg ?_|refine zh ?_|((first|refine zi ?_ ?_|refine zj ?_ ?_|refine zk ?_ ?_)<;> intro hh <;> first|(exfalso;omega)|skip)|(refine zl ?_ ?_<;> intro hh)|refine zm ?_|refine zn ?_|refine zo ?_|refine zp ?_|refine zq ?_|refine zr ?_|refine zs _ rfl ?_|refine zu ?_|exact Sy.fin_val (fun e=>rfl))));(all_goals (try conv => whnf)))
    all_goals exact Sy.fin_val (fun e => congrArg Value.bool (by simp_all [sameB]))
  all_goals exact Sy.fin_val (fun e => congrArg Value.bool (by simp_all [sameB]))

theorem rsame_any (n1 s1 n2 s2 : Int) (u v : Value) (ps qs : List Pulse) (w : World) (hx : XD.ok (fun b => b < w.heap.size) w ⟨u, 3, ps.length, ps.map encP⟩) (hy : XD.ok (fun b => b < w.heap.size) w ⟨v, 3, qs.length, qs.map encP⟩) :
    Calls Try.prog 12 #[.agg #[.int .i64 n1, .int .i64 s1, u], .agg #[.int .i64 n2, .int .i64 s2, v]] w (Sy.Ret (.bool (sameB n1 s1 ps n2 s2 qs)) w) := by
  have hl := ok_len hx
  have hl' := ok_len hy
  refine Sy.calls_of Sy.lv12 Sy.tab_ok Try.func12 rfl _ Try.ntmps12 [⟨u, 3, ps.length, ps.map encP⟩, ⟨v, 3, qs.length, qs.map encP⟩] [.agg [.v (.int .i64 n1), .v (.int .i64 s1), .row 0], .agg [.v (.int .i64 n2), .v (.int .i64 s2), .row 1]] rfl rfl rfl ⟨hx, hy, trivial⟩ ?_
  ((repeat' ((conv => whnf);(first|refine z1 ?_|refine z2 ?_|refine z3 ?_|refine z4 ?_|refine z5 ?_|refine z6 ?_|refine z7 ?_|refine z8 ?_|refine z9 ?_|refine za ?_|refine zb ?_|refine zc ?_|refine zd ?_|refine ze ?_|refine zf ?_|refine zg ?_|refine zh ?_|((first|refine zi ?_ ?_|refine zj ?_ ?_|refine zk ?_ ?_)<;> intro hh <;> first|(exfalso;omega)|skip)|(refine zl ?_ ?_<;> intro hh)|refine zm ?_|refine zn ?_|refine zo ?_|refine zp ?_|refine zq ?_|refine zr ?_|refine zs _ rfl ?_|refine zu ?_|exact Sy.fin_val (fun e=>rfl))));(all_goals (try conv => whnf)))
  · refine Sy.loop_inv Sy.tab_ok (fun n : Nat => [(30, .c (.v (.int .i64 n)))]) (fun _ => []) (fun n => n ≤ ps.length ∧ ∀ i, i < n → ps[i]? = qs[i]?) (fun n => ps.length - n) 0 ⟨Nat.zero_le _, fun i hi => by omega⟩ ?_ (fun n hle => ?_)
    · ((repeat' (first|((conv => whnf);done)|((try conv => whnf);first|exact trivial|(refine And.intro ?_ ?_)|rfl)));(all_goals (try conv => whnf)))
    · obtain ⟨hle, hpre⟩ := hle
      ((repeat' ((conv => whnf);(first|refine z1 ?_|refine z2 ?_|refine z3 ?_|refine z4 ?_|refine z5 ?_|refine z6 ?_|refine z7 ?_|refine z8 ?_|refine z9 ?_|refine za ?_|refine zb ?_|refine zc ?_|refine zd ?_|refine ze ?_|refine zf ?_|refine zg ?_|refine zh ?_|((first|refine zi ?_ ?_|refine zj ?_ ?_|refine zk ?_ ?_)<;> intro hh <;> first|(exfalso;omega)|skip)|(refine zl ?_ ?_<;> intro hh)|refine zm ?_|refine zn ?_|refine zo ?_|refine zp ?_|refine zq ?_|refine zr ?_|refine zs _ rfl ?_|refine zu ?_|exact Sy.fin_val (fun e=>rfl))));(all_goals (try conv => whnf)))
      · have hlt : n < ps.length := by omega
        have h1 := List.getElem?_eq_getElem hlt
        have h2 := List.getElem?_eq_getElem (show n < qs.length by omega)
        generalize ps[n] = x at *
        generalize qs[n]'(by omega) = y at *
        all_goals (refine Sy.draw_go [] (by kernel_rfl) ?_; intro e0; conv => whnf)
        all_goals (refine zt 0 rfl ?_)
        all_goals (conv => whnf)
        all_goals (refine zt 1 rfl ?_)
        all_goals (conv => whnf)
        all_goals (refine zt 2 rfl ?_)
        all_goals (conv => whnf)
        all_goals (refine zt 3 rfl ?_)
        all_goals ((conv => whnf);(repeat' ((first|refine z1 ?_|refine z2 ?_|refine z3 ?_|refine z4 ?_|refine z5 ?_|refine z6 ?_|refine z7 ?_|refine z8 ?_|refine z9 ?_|refine za ?_|refine zb ?_|refine zc ?_|refine zd ?_|refine ze ?_|refine zf ?_|refine zg ?_|refine zh ?_|((first|refine zi ?_ ?_|refine zj ?_ ?_|refine zk ?_ ?_)<;> intro hh <;> first|(exfalso;omega)|skip)|(refine zl ?_ ?_<;> intro hh)|refine zm ?_|refine zn ?_|refine zo ?_|refine zp ?_|refine zq ?_|refine zr ?_|refine zs _ rfl ?_|refine zu ?_|exact Sy.fin_val (fun e=>rfl));(try conv => whnf))))
        all_goals (refine zt 4 rfl ?_)
        all_goals (conv => whnf)
        all_goals (refine Sy.el_map x h1 ?_)
        all_goals (conv => whnf)
        all_goals (refine zt 5 rfl ?_)
        all_goals (conv => whnf)
        all_goals (refine zt 6 rfl ?_)
        all_goals (conv => whnf)
        all_goals (refine zt 7 rfl ?_)
        all_goals (conv => whnf)
        all_goals (refine zt 8 rfl ?_)
        all_goals ((conv => whnf);(repeat' ((first|refine z1 ?_|refine z2 ?_|refine z3 ?_|refine z4 ?_|refine z5 ?_|refine z6 ?_|refine z7 ?_|refine z8 ?_|refine z9 ?_|refine za ?_|refine zb ?_|refine zc ?_|refine zd ?_|refine ze ?_|refine zf ?_|refine zg ?_|refine zh ?_|((first|refine zi ?_ ?_|refine zj ?_ ?_|refine zk ?_ ?_)<;> intro hh <;> first|(exfalso;omega)|skip)|(refine zl ?_ ?_<;> intro hh)|refine zm ?_|refine zn ?_|refine zo ?_|refine zp ?_|refine zq ?_|refine zr ?_|refine zs _ rfl ?_|refine zu ?_|exact Sy.fin_val (fun e=>rfl));(try conv => whnf))))
        all_goals (refine zt 9 rfl ?_)
        all_goals (conv => whnf)
        all_goals (refine Sy.el_map y h2 ?_)
        all_goals (conv => whnf)
        all_goals (refine zt 10 rfl ?_)
        all_goals ((conv => whnf);(repeat' ((first|refine z1 ?_|refine z2 ?_|refine z3 ?_|refine z4 ?_|refine z5 ?_|refine z6 ?_|refine z7 ?_|refine z8 ?_|refine z9 ?_|refine za ?_|refine zb ?_|refine zc ?_|refine zd ?_|refine ze ?_|refine zf ?_|refine zg ?_|refine zh ?_|((first|refine zi ?_ ?_|refine zj ?_ ?_|refine zk ?_ ?_)<;> intro hh <;> first|(exfalso;omega)|skip)|(refine zl ?_ ?_<;> intro hh)|refine zm ?_|refine zn ?_|refine zo ?_|refine zp ?_|refine zq ?_|refine zr ?_|refine zs _ rfl ?_|refine zu ?_|exact Sy.fin_val (fun e=>rfl));(try conv => whnf))))
        all_goals (refine zw ?_)
        all_goals (((repeat' ((conv => whnf);(first|refine z1 ?_|refine z2 ?_|refine z3 ?_|refine z4 ?_|refine z5 ?_|refine z6 ?_|refine z7 ?_|refine z8 ?_|refine z9 ?_|refine za ?_|refine zb ?_|refine zc ?_|refine zd ?_|refine ze ?_|refine zf ?_|refine zg ?_|refine zh ?_|((first|refine zi ?_ ?_|refine zj ?_ ?_|refine zk ?_ ?_)<;> intro hh <;> first|(exfalso;omega)|skip)|(refine zl ?_ ?_<;> intro hh)|refine zm ?_|refine zn ?_|refine zo ?_|refine zp ?_|refine zq ?_|refine zr ?_|refine zs _ rfl ?_|refine zu ?_|exact Sy.fin_val (fun e=>rfl))));(all_goals (try conv => whnf))))
        all_goals first
          | exact Sy.fin_val (fun e => congrArg Value.bool (decide_eq_false (fun hc => lst_ne n h1 h2 (by intro hh; subst hh; contradiction) hc.2.2)).symm)
          | (refine ⟨n + 1, ⟨by omega, pre_succ h1 h2 (by cases x; cases y; simp_all) hpre⟩, by omega, ?_⟩; ((repeat' (first|((conv => whnf);done)|((try conv => whnf);first|exact trivial|(refine And.intro ?_ ?_)|rfl)));(all_goals (try conv => whnf))))
      · exact Sy.fin_val (fun e => congrArg Value.bool (decide_eq_true ⟨by assumption, by assumption, lst_eq n (by omega) (by omega) hpre⟩).symm)
  all_goals exact Sy.fin_val (fun e => congrArg Value.bool (decide_eq_false (by rintro ⟨h1, h2, h3⟩; subst h3; contradiction)).symm)

theorem new_any (now span : Int) (w : World) (hn : I64 now) :
    Calls Try.prog 10 #[.int .i64 now, .int .i64 span] w (Sy.Ret (if okH now span [] = true then .tuple #[.agg #[.int .i64 now, .int .i64 span, .slice none 0 0], .int .i64 0] else .tuple #[.agg #[.int .i64 0, .int .i64 0, .slice none 0 0], .int .i64 2]) w) := by
  refine Sy.calls_of Sy.lv10 Sy.tab_ok Try.func10 rfl _ Try.ntmps10 [] [.c (.v (.int .i64 now)), .c (.v (.int .i64 span))] rfl rfl rfl trivial ?_
  ((repeat' ((conv => whnf);(first|refine z1 ?_|refine z2 ?_|refine z3 ?_|refine z4 ?_|refine z5 ?_|refine z6 ?_|refine z7 ?_|refine z8 ?_|refine z9 ?_|refine za ?_|refine zb ?_|refine zc ?_|refine zd ?_|refine ze ?_|refine zf ?_|refine zg ?_|refine zh ?_|((first|refine zi ?_ ?_|refine zj ?_ ?_|refine zk ?_ ?_)<;> intro hh <;> first|(exfalso;omega)|skip)|(refine zl ?_ ?_<;> intro hh)|refine zm ?_|refine zn ?_|refine zo ?_|refine zp ?_|refine zq ?_|refine zr ?_|refine zs _ rfl ?_|refine zu ?_|exact Sy.fin_val (fun e=>rfl))));(all_goals (try conv => whnf)))
  refine Sy.call_val (.c (.v (.int .i64 (chkE now span [])))) Try.call22 rfl (fun e a w' h => check_any now span _ [] w' hn nil_ok) ?_
  by_cases hk : okH now span [] = true
  · rw [show chkE now span [] = 0 by unfold chkE; rw [if_pos hk]]
    ((repeat' ((conv => whnf);(first|refine z1 ?_|refine z2 ?_|refine z3 ?_|refine z4 ?_|refine z5 ?_|refine z6 ?_|refine z7 ?_|refine z8 ?_|refine z9 ?_|refine za ?_|refine zb ?_|refine zc ?_|refine zd ?_|refine ze ?_|refine zf ?_|refine zg ?_|refine zh ?_|((first|refine zi ?_ ?_|refine zj ?_ ?_|refine zk ?_ ?_)<;> intro hh <;> first|(exfalso;omega)|skip)|(refine zl ?_ ?_<;> intro hh)|refine zm ?_|refine zn ?_|refine zo ?_|refine zp ?_|refine zq ?_|refine zr ?_|refine zs _ rfl ?_|refine zu ?_|exact Sy.fin_val (fun e=>rfl))));(all_goals (try conv => whnf)))
    exact Sy.fin_val (fun e => by rw [if_pos hk]; rfl)
  · rw [show chkE now span [] = 360 by unfold chkE; rw [if_neg hk]]
    ((repeat' ((conv => whnf);(first|refine z1 ?_|refine z2 ?_|refine z3 ?_|refine z4 ?_|refine z5 ?_|refine z6 ?_|refine z7 ?_|refine z8 ?_|refine z9 ?_|refine za ?_|refine zb ?_|refine zc ?_|refine zd ?_|refine ze ?_|refine zf ?_|refine zg ?_|refine zh ?_|((first|refine zi ?_ ?_|refine zj ?_ ?_|refine zk ?_ ?_)<;> intro hh <;> first|(exfalso;omega)|skip)|(refine zl ?_ ?_<;> intro hh)|refine zm ?_|refine zn ?_|refine zo ?_|refine zp ?_|refine zq ?_|refine zr ?_|refine zs _ rfl ?_|refine zu ?_|exact Sy.fin_val (fun e=>rfl))));(all_goals (try conv => whnf)))
    exact Sy.fin_val (fun e => by rw [if_neg hk]; rfl)

/-- What is known of pulse n of a heart that may be. -/
theorem okH_pre (now span : Int) (ps : List Pulse) (hk : okH now span ps = true) (n : Nat) (hn : n ≤ ps.length) : (okN now span ps n).1 = true := by
  cases h : (okN now span ps n).1 with
  | true => rfl
  | false => rw [okH_false now span ps n hn h] at hk; cases hk
theorem okH_get (now span : Int) (ps : List Pulse) (hk : okH now span ps = true) (n : Nat) (hn : n < ps.length) :
    0 ≤ lastN ps n ∧ lastN ps n < ps[n].worker ∧ ps[n].worker ≤ 4 ∧ 0 ≤ ps[n].heard ∧ ps[n].heard ≤ now ∧ (ps[n].down = true ∨ now - ps[n].heard < span) := by
  have h0 := okH_pre now span ps hk n (by omega)
  have h1 := okH_pre now span ps hk (n + 1) hn
  have hl := okN_lo now span ps n (by omega) h0
  rw [okN_last _ _ _ _ (by omega)] at hl
  rw [okN_succ _ _ _ _ hn, okStep, okN_last _ _ _ _ (by omega)] at h1
  simp only [Bool.and_eq_true] at h1
  exact ⟨hl, (pok_true _ _ _ _).1 h1.2⟩
theorem okH_bd (now span : Int) (ps : List Pulse) (hk : okH now span ps = true) : 0 ≤ now ∧ now ≤ 1099511627776 ∧ 1 ≤ span ∧ span ≤ 100 := okN_bd now span ps 0 (okH_pre now span ps hk 0 (Nat.zero_le _))
theorem lastN_succ (ps : List Pulse) (n : Nat) (hn : n < ps.length) : lastN ps (n + 1) = ps[n].worker := by simp [lastN, List.getElem?_eq_getElem hn]
theorem okH_len (now span : Int) (ps : List Pulse) (hk : okH now span ps = true) : ps.length ≤ 4 := by
  have : ∀ n, n ≤ ps.length → (n : Int) ≤ lastN ps n ∧ lastN ps n ≤ 4 := by
    intro n
    induction n with
    | zero => intro _; simp [lastN]
    | succ n ih =>
      intro hn
      obtain ⟨h1, h2⟩ := ih (by omega)
      have := okH_get now span ps hk n hn
      rw [lastN_succ _ _ hn]
      omega
  have := this _ (Nat.le_refl _)
  omega

def aliveL (now span : Int) (ps : List Pulse) : List Int := if okH now span ps = true then (ps.filter (fun p => !p.down)).map (·.worker) else []
def aliveN (ps : List Pulse) (n : Nat) : List Int := ((ps.take n).filter (fun p => !p.down)).map (·.worker)
theorem aliveN_succ (ps : List Pulse) (n : Nat) (h : n < ps.length) : aliveN ps (n + 1) = aliveN ps n ++ (if ps[n].down = true then [] else [ps[n].worker]) := by
  unfold aliveN
  rw [List.take_succ_eq_append_getElem h, List.filter_append, List.map_append]
  congr 1
  cases hd : ps[n].down <;> simp [hd]
theorem aliveN_len (ps : List Pulse) (n : Nat) : (aliveN ps n).length ≤ n := by
  unfold aliveN
  rw [List.length_map]
  exact Nat.le_trans (List.length_filter_le _ _) (by rw [List.length_take]; omega)
theorem alive_any (now span : Int) (v : Value) (ps : List Pulse) (w : World) (hn : I64 now) (hr : XD.ok (fun b => b < w.heap.size) w ⟨v, 3, ps.length, ps.map encP⟩) :
    Calls Try.prog 15 #[.agg #[.int .i64 now, .int .i64 span, v]] w (Sy.RetRows Sy.noRow (fun _ : Unit => True) (fun _ => [⟨3, 1, (aliveL now span ps).length, (aliveL now span ps).map encI⟩]) (fun _ vs => vs.headD undef) w) := by
  have hl := ok_len hr
  refine Sy.calls_of Sy.lv15 Sy.tab_ok Try.func15 rfl _ Try.ntmps15 [⟨v, 3, ps.length, ps.map encP⟩] [.agg [.v (.int .i64 now), .v (.int .i64 span), .row 0]] rfl rfl rfl ⟨hr, trivial⟩ ?_
  ((repeat' ((conv => whnf);(first|refine z1 ?_|refine z2 ?_|refine z3 ?_|refine z4 ?_|refine z5 ?_|refine z6 ?_|refine z7 ?_|refine z8 ?_|refine z9 ?_|refine za ?_|refine zb ?_|refine zc ?_|refine zd ?_|refine ze ?_|refine zf ?_|refine zg ?_|refine zh ?_|((first|refine zi ?_ ?_|refine zj ?_ ?_|refine zk ?_ ?_)<;> intro hh <;> first|(exfalso;omega)|skip)|(refine zl ?_ ?_<;> intro hh)|refine zm ?_|refine zn ?_|refine zo ?_|refine zp ?_|refine zq ?_|refine zr ?_|refine zs _ rfl ?_|refine zu ?_|exact Sy.fin_val (fun e=>rfl))));(all_goals (try conv => whnf)))
  refine Sy.call_val (.c (.v (.int .i64 (chkE now span ps)))) Try.call22 rfl (fun e a w' h => check_any now span _ ps w' hn (Sy.row_reads h (.inr rfl))) ?_
  by_cases hk : okH now span ps = true
  · have hb := okH_len now span ps hk
    rw [show chkE now span ps = 0 by unfold chkE; rw [if_pos hk]]
    ((repeat' ((conv => whnf);(first|refine z1 ?_|refine z2 ?_|refine z3 ?_|refine z4 ?_|refine z5 ?_|refine z6 ?_|refine z7 ?_|refine z8 ?_|refine z9 ?_|refine za ?_|refine zb ?_|refine zc ?_|refine zd ?_|refine ze ?_|refine zf ?_|refine zg ?_|refine zh ?_|((first|refine zi ?_ ?_|refine zj ?_ ?_|refine zk ?_ ?_)<;> intro hh <;> first|(exfalso;omega)|skip)|(refine zl ?_ ?_<;> intro hh)|refine zm ?_|refine zn ?_|refine zo ?_|refine zp ?_|refine zq ?_|refine zr ?_|refine zs _ rfl ?_|refine zu ?_|exact Sy.fin_val (fun e=>rfl))));(all_goals (try conv => whnf)))
    refine Sy.sem_subF (Sy.sub_row 3 3 1 rfl) ?_
    conv => whnf
    refine Sy.loop_inv Sy.tab_ok (fun n : Nat => [(12, .c (.v (.int .i64 n))), (3, .c (.row 2))]) (fun n => [(2, .row 3 1 (aliveN ps n).length (.vs ((aliveN ps n).map encI)))]) (fun n => n ≤ ps.length) (fun n => ps.length - n) 0 (Nat.zero_le _) ?_ (fun n hle => ?_)
    · ((repeat' (first|((conv => whnf);done)|((try conv => whnf);first|exact trivial|(refine And.intro ?_ ?_)|rfl)));(all_goals (try conv => whnf)))
    · ((repeat' ((conv => whnf);(first|refine z1 ?_|refine z2 ?_|refine z3 ?_|refine z4 ?_|refine z5 ?_|refine z6 ?_|refine z7 ?_|refine z8 ?_|refine z9 ?_|refine za ?_|refine zb ?_|refine zc ?_|refine zd ?_|refine ze ?_|refine zf ?_|refine zg ?_|refine zh ?_|((first|refine zi ?_ ?_|refine zj ?_ ?_|refine zk ?_ ?_)<;> intro hh <;> first|(exfalso;omega)|skip)|(refine zl ?_ ?_<;> intro hh)|refine zm ?_|refine zn ?_|refine zo ?_|refine zp ?_|refine zq ?_|refine zr ?_|refine zs _ rfl ?_|refine zu ?_|exact Sy.fin_val (fun e=>rfl))));(all_goals (try conv => whnf)))
      · have hlt : n < ps.length := by omega
        refine Sy.el_map ps[n] (List.getElem?_eq_getElem hlt) ?_
        have e1 := aliveN_succ ps n hlt
        have e2 := aliveN_len ps n
        generalize ps[n] = p at *
        generalize aliveN ps n = l at *
        ((repeat' ((conv => whnf);(first|refine z1 ?_|refine z2 ?_|refine z3 ?_|refine z4 ?_|refine z5 ?_|refine z6 ?_|refine z7 ?_|refine z8 ?_|refine z9 ?_|refine za ?_|refine zb ?_|refine zc ?_|refine zd ?_|refine ze ?_|refine zf ?_|refine zg ?_|refine zh ?_|((first|refine zi ?_ ?_|refine zj ?_ ?_|refine zk ?_ ?_)<;> intro hh <;> first|(exfalso;omega)|skip)|(refine zl ?_ ?_<;> intro hh)|refine zm ?_|refine zn ?_|refine zo ?_|refine zp ?_|refine zq ?_|refine zr ?_|refine zs _ rfl ?_|refine zu ?_|exact Sy.fin_val (fun e=>rfl))));(all_goals (try conv => whnf)))
        · rw [if_pos (by assumption : p.down = true), List.append_nil] at e1
          refine ⟨n + 1, by omega, by omega, ?_⟩
          rw [e1]
          ((repeat' (first|((conv => whnf);done)|((try conv => whnf);first|exact trivial|(refine And.intro ?_ ?_)|rfl)));(all_goals (try conv => whnf)))
        · rw [if_neg (by simp [(by assumption : p.down = false)])] at e1
          refine Sy.need_app 8 rfl ⟨by omega, by omega⟩ ?_
          ((repeat' ((conv => whnf);(first|refine z1 ?_|refine z2 ?_|refine z3 ?_|refine z4 ?_|refine z5 ?_|refine z6 ?_|refine z7 ?_|refine z8 ?_|refine z9 ?_|refine za ?_|refine zb ?_|refine zc ?_|refine zd ?_|refine ze ?_|refine zf ?_|refine zg ?_|refine zh ?_|((first|refine zi ?_ ?_|refine zj ?_ ?_|refine zk ?_ ?_)<;> intro hh <;> first|(exfalso;omega)|skip)|(refine zl ?_ ?_<;> intro hh)|refine zm ?_|refine zn ?_|refine zo ?_|refine zp ?_|refine zq ?_|refine zr ?_|refine zs _ rfl ?_|refine zu ?_|exact Sy.fin_val (fun e=>rfl))));(all_goals (try conv => whnf)))
          refine ⟨n + 1, by omega, by omega, ?_⟩
          rw [e1]
          ((repeat' (first|((conv => whnf);done)|((try conv => whnf);first|exact trivial|(refine And.intro ?_ ?_)|rfl)));(all_goals (try conv => whnf)))
          all_goals simp [encI]
      · have e : n = ps.length := by omega
        subst e
        have e2 : aliveN ps ps.length = aliveL now span ps := by rw [aliveL, if_pos hk, aliveN, List.take_length]
        refine Sy.fin_rows () trivial [.row 2] ⟨?_, (by intro j hj; cases hj), trivial⟩ (fun e => rfl)
        rw [← e2]
        rfl
  · rw [show chkE now span ps = 360 by unfold chkE; rw [if_neg hk]]
    ((repeat' ((conv => whnf);(first|refine z1 ?_|refine z2 ?_|refine z3 ?_|refine z4 ?_|refine z5 ?_|refine z6 ?_|refine z7 ?_|refine z8 ?_|refine z9 ?_|refine za ?_|refine zb ?_|refine zc ?_|refine zd ?_|refine ze ?_|refine zf ?_|refine zg ?_|refine zh ?_|((first|refine zi ?_ ?_|refine zj ?_ ?_|refine zk ?_ ?_)<;> intro hh <;> first|(exfalso;omega)|skip)|(refine zl ?_ ?_<;> intro hh)|refine zm ?_|refine zn ?_|refine zo ?_|refine zp ?_|refine zq ?_|refine zr ?_|refine zs _ rfl ?_|refine zu ?_|exact Sy.fin_val (fun e=>rfl))));(all_goals (try conv => whnf)))
    exact Sy.fin_rows () trivial [.v (.slice none 0 0)] ⟨⟨by simp [aliveL, hk], by simp [aliveL, hk]⟩, (by intro j hj; cases hj), trivial⟩ (fun e => rfl)
end Go.Proofs.Ytiapcohnjklcfaa
