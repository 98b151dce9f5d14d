/- Heart: what is done, by the layer and by the document. -/
import Derived.Test.YtiapcohnjklcfaaHeN
namespace Go.Proofs.Ytiapcohnjklcfaa
open Go Go.RowKit
open Sy (C SV V1 Blk St XD Els)
set_option maxRecDepth 10000
theorem hearV_bad {now span : Int} {ps : List Pulse} (k : Int) (h : ¬ okH now span ps = true) : hearV now span ps k = (hs0, false, 360) := by rw [hearV, if_neg h]
theorem passV_bad {now span : Int} {ps : List Pulse} (k : Int) (h : ¬ okH now span ps = true) : passV now span ps k = (hs0, [], 360) := by rw [passV, if_neg h]
theorem dropV_bad {now span : Int} {ps : List Pulse} (k : Int) (h : ¬ okH now span ps = true) : dropV now span ps k = (hs0, 360) := by rw [dropV, if_neg h]
attribute [local irreducible] okN okH ok0 chkE hearV passV dropV

structure OpI where
  kind : Int
  worker : Int
  tick : Int
  far : Bool
def encO (o : OpI) : List Value := [.int .i64 o.kind, .int .i64 o.worker, .int .i64 o.tick, .bool o.far]
def OpI.ok (o : OpI) : Prop := I64 o.worker
def uk (o : OpI) : Int := IntKind.u64.wrap o.kind % 5
def nowO (o : OpI) (now : Int) : Int := if o.far = true then o.tick else IntKind.i64.wrap (now + o.tick.tmod 200)
theorem wrap64_pos (x : Int) : 0 ≤ IntKind.u64.wrap x := by
  show 0 ≤ (if false && decide (x % 18446744073709551616 ≥ 9223372036854775808) then x % 18446744073709551616 - 18446744073709551616 else x % 18446744073709551616)
  simp only [Bool.false_and, Bool.false_eq_true, if_false]
  omega
theorem uk_in (o : OpI) : 0 ≤ uk o ∧ uk o < 5 := by unfold uk; omega
structure RV where
  h : HS
  came : Bool
  gone : List Int
  e : Int
def runV (now span : Int) (ps : List Pulse) (o : OpI) : RV :=
  if uk o = 0 ∨ uk o = 1 then ⟨(hearV now span ps o.worker).1, (hearV now span ps o.worker).2.1, [], (hearV now span ps o.worker).2.2⟩
  else if uk o = 2 ∨ uk o = 3 then ⟨(passV now span ps (nowO o now)).1, false, (passV now span ps (nowO o now)).2.1, (passV now span ps (nowO o now)).2.2⟩
  else ⟨(dropV now span ps o.worker).1, false, [], (dropV now span ps o.worker).2⟩
theorem run_hear {now span : Int} {ps : List Pulse} {o : OpI} (h : uk o = 0 ∨ uk o = 1) : runV now span ps o = ⟨(hearV now span ps o.worker).1, (hearV now span ps o.worker).2.1, [], (hearV now span ps o.worker).2.2⟩ := by rw [runV, if_pos h]
theorem run_pass {now span : Int} {ps : List Pulse} {o : OpI} (h : uk o = 2 ∨ uk o = 3) : runV now span ps o = ⟨(passV now span ps (nowO o now)).1, false, (passV now span ps (nowO o now)).2.1, (passV now span ps (nowO o now)).2.2⟩ := by rw [runV, if_neg (by omega), if_pos h]
theorem run_drop {now span : Int} {ps : List Pulse} {o : OpI} (h : uk o = 4) : runV now span ps o = ⟨(dropV now span ps o.worker).1, false, [], (dropV now span ps o.worker).2⟩ := by rw [runV, if_neg (by omega), if_neg (by omega)]
theorem run_bad {now span : Int} {ps : List Pulse} {o : OpI} (h : ¬ okH now span ps = true) : runV now span ps o = ⟨hs0, false, [], 360⟩ := by
  unfold runV; rw [hearV_bad _ h, passV_bad _ h, dropV_bad _ h]; simp
def RetRun (r : RV) (w : World) : Ending → World → Prop := Sy.RetRows Sy.noRow (fun _ : Unit => True) (fun _ => [rowH r.h, rowI r.gone]) (fun _ vs => .tuple #[valH r.h (vs.headD undef), .bool r.came, (vs.drop 1).headD undef, .int .i64 r.e]) w
theorem nowO_any (o : OpI) (now span : Int) (v : Value) (w : World) (hv : v.oneCell' = true) :
    Calls Try.prog 37 #[.agg #[.int .i64 o.kind, .int .i64 o.worker, .int .i64 o.tick, .bool o.far], .agg #[.int .i64 now, .int .i64 span, v]] w (Sy.Ret (.int .i64 (nowO o now)) w) := by
  refine Sy.calls_of Sy.lv37 Sy.tab_ok Try.func37 rfl _ Try.ntmps37 [] [.agg [.v (.int .i64 o.kind), .v (.int .i64 o.worker), .v (.int .i64 o.tick), .v (.bool o.far)], .agg [.v (.int .i64 now), .v (.int .i64 span), .v v]] rfl (by simp [Sy.allLt, SV.lt, Sy.ltAll, C.lt, hv]; rfl) rfl trivial ?_
  ((repeat' ((conv => whnf);(first|refine z1 ?_|refine z2 ?_|refine z3 ?_|refine z4 ?_|refine z5 ?_|refine z6 ?_|refine z7 ?_|refine z8 ?_|refine z9 ?_|refine za ?_|refine zb ?_|refine zc ?_|refine zd ?_|refine ze ?_|refine zf ?_|refine zg ?_|refine zh ?_|((first|refine zi ?_ ?_|refine zj ?_ ?_|refine zk ?_ ?_)<;> intro hh <;> first|(exfalso;omega)|skip)|(refine zl ?_ ?_<;> intro hh)|refine zm ?_|refine zn ?_|refine zo ?_|refine zp ?_|refine zq ?_|refine zr ?_|refine zs _ rfl ?_|refine zu ?_|exact Sy.fin_val (fun e=>rfl))));(all_goals (try conv => whnf)))
  · exact Sy.fin_val (fun e => congrArg (Value.int .i64) (by rw [nowO, if_pos (by assumption)]))
  · refine Sy.rem_of (by decide) ?_
    ((repeat' ((conv => whnf);(first|refine z1 ?_|refine z2 ?_|refine z3 ?_|refine z4 ?_|refine z5 ?_|refine z6 ?_|refine z7 ?_|refine z8 ?_|refine z9 ?_|refine za ?_|refine zb ?_|refine zc ?_|refine zd ?_|refine ze ?_|refine zf ?_|refine zg ?_|refine zh ?_|((first|refine zi ?_ ?_|refine zj ?_ ?_|refine zk ?_ ?_)<;> intro hh <;> first|(exfalso;omega)|skip)|(refine zl ?_ ?_<;> intro hh)|refine zm ?_|refine zn ?_|refine zo ?_|refine zp ?_|refine zq ?_|refine zr ?_|refine zs _ rfl ?_|refine zu ?_|exact Sy.fin_val (fun e=>rfl))));(all_goals (try conv => whnf)))
    refine Sy.ar_wrap ?_
    ((repeat' ((conv => whnf);(first|refine z1 ?_|refine z2 ?_|refine z3 ?_|refine z4 ?_|refine z5 ?_|refine z6 ?_|refine z7 ?_|refine z8 ?_|refine z9 ?_|refine za ?_|refine zb ?_|refine zc ?_|refine zd ?_|refine ze ?_|refine zf ?_|refine zg ?_|refine zh ?_|((first|refine zi ?_ ?_|refine zj ?_ ?_|refine zk ?_ ?_)<;> intro hh <;> first|(exfalso;omega)|skip)|(refine zl ?_ ?_<;> intro hh)|refine zm ?_|refine zn ?_|refine zo ?_|refine zp ?_|refine zq ?_|refine zr ?_|refine zs _ rfl ?_|refine zu ?_|exact Sy.fin_val (fun e=>rfl))));(all_goals (try conv => whnf)))
    exact Sy.fin_val (fun e => congrArg (Value.int .i64) (by rw [nowO, if_neg (by simp [*])]))
theorem nowO_I64 (o : OpI) (now : Int) (h : I64 o.tick) : I64 (nowO o now) := by
  unfold nowO
  split
  · exact h
  · unfold I64; rw [IntKind.wrap_i64]; omega
theorem run_any (now span : Int) (v : Value) (ps : List Pulse) (o : OpI) (w : World) (hn : I64 now) (ho : o.ok) (hr : XD.ok (fun b => b < w.heap.size) w ⟨v, 3, ps.length, ps.map encP⟩) :
    Calls Try.prog 18 #[.agg #[.int .i64 o.kind, .int .i64 o.worker, .int .i64 o.tick, .bool o.far], .agg #[.int .i64 now, .int .i64 span, v]] w (RetRun (runV now span ps o) w) := by
  have hu := uk_in o
  have hw0 := wrap64_pos o.kind
  unfold RetRun
  refine Sy.calls_of Sy.lv18 Sy.tab_ok Try.func18 rfl _ Try.ntmps18 [⟨v, 3, ps.length, ps.map encP⟩] [.agg [.v (.int .i64 o.kind), .v (.int .i64 o.worker), .v (.int .i64 o.tick), .v (.bool o.far)], .agg [.v (.int .i64 now), .v (.int .i64 span), .row 0]] rfl rfl rfl ⟨hr, trivial⟩ ?_
  ((repeat' ((conv => whnf);(first|refine z1 ?_|refine z2 ?_|refine z3 ?_|refine z4 ?_|refine z5 ?_|refine z6 ?_|refine z7 ?_|refine z8 ?_|refine z9 ?_|refine za ?_|refine zb ?_|refine zc ?_|refine zd ?_|refine ze ?_|refine zf ?_|refine zg ?_|refine zh ?_|((first|refine zi ?_ ?_|refine zj ?_ ?_|refine zk ?_ ?_)<;> intro hh <;> first|(exfalso;omega)|skip)|(refine zl ?_ ?_<;> intro hh)|refine zm ?_|refine zn ?_|refine zo ?_|refine zp ?_|refine zq ?_|refine zr ?_|refine zs _ rfl ?_|refine zu ?_|exact Sy.fin_val (fun e=>rfl))));(all_goals (try conv => whnf)))
  refine Sy.ar_wrap ?_
  ((repeat' ((conv => whnf);(first|refine z1 ?_|refine z2 ?_|refine z3 ?_|refine z4 ?_|refine z5 ?_|refine z6 ?_|refine z7 ?_|refine z8 ?_|refine z9 ?_|refine za ?_|refine zb ?_|refine zc ?_|refine zd ?_|refine ze ?_|refine zf ?_|refine zg ?_|refine zh ?_|((first|refine zi ?_ ?_|refine zj ?_ ?_|refine zk ?_ ?_)<;> intro hh <;> first|(exfalso;omega)|skip)|(refine zl ?_ ?_<;> intro hh)|refine zm ?_|refine zn ?_|refine zo ?_|refine zp ?_|refine zq ?_|refine zr ?_|refine zs _ rfl ?_|refine zu ?_|exact Sy.fin_val (fun e=>rfl))));(all_goals (try conv => whnf)))
  refine Sy.rem_in hw0 (by decide) ?_
  conv => whnf
  rw [show IntKind.u64.wrap o.kind % 5 = uk o from rfl]
  ((repeat' ((conv => whnf);(first|refine z1 ?_|refine z2 ?_|refine z3 ?_|refine z4 ?_|refine z5 ?_|refine z6 ?_|refine z7 ?_|refine z8 ?_|refine z9 ?_|refine za ?_|refine zb ?_|refine zc ?_|refine zd ?_|refine ze ?_|refine zf ?_|refine zg ?_|refine zh ?_|((first|refine zi ?_ ?_|refine zj ?_ ?_|refine zk ?_ ?_)<;> intro hh <;> first|(exfalso;omega)|skip)|(refine zl ?_ ?_<;> intro hh)|refine zm ?_|refine zn ?_|refine zo ?_|refine zp ?_|refine zq ?_|refine zr ?_|refine zs _ rfl ?_|refine zu ?_|exact Sy.fin_val (fun e=>rfl))));(all_goals (try conv => whnf)))
  · rw [run_hear (.inl (by assumption))]
    refine Sy.call_r1 (rowH (hearV now span ps o.worker).1) (fun k => .tup [.agg [.v (.int .i64 (hearV now span ps o.worker).1.now), .v (.int .i64 (hearV now span ps o.worker).1.span), .row k], .c (.v (.bool (hearV now span ps o.worker).2.1)), .c (.v (.int .i64 (hearV now span ps o.worker).2.2))]) Try.call13 (fun e a w' h => hear_any _ _ _ _ _ w' hn ho (Sy.row_reads h (.inr rfl))) ?_
    ((repeat' ((conv => whnf);(first|refine z1 ?_|refine z2 ?_|refine z3 ?_|refine z4 ?_|refine z5 ?_|refine z6 ?_|refine z7 ?_|refine z8 ?_|refine z9 ?_|refine za ?_|refine zb ?_|refine zc ?_|refine zd ?_|refine ze ?_|refine zf ?_|refine zg ?_|refine zh ?_|((first|refine zi ?_ ?_|refine zj ?_ ?_|refine zk ?_ ?_)<;> intro hh <;> first|(exfalso;omega)|skip)|(refine zl ?_ ?_<;> intro hh)|refine zm ?_|refine zn ?_|refine zo ?_|refine zp ?_|refine zq ?_|refine zr ?_|refine zs _ rfl ?_|refine zu ?_|exact Sy.fin_val (fun e=>rfl))));(all_goals (try conv => whnf)))
    exact Sy.fin_r2 (.row 4) (.v (.slice none 0 0)) rfl ⟨rfl, rfl⟩
  · rw [run_hear (.inr (by assumption))]
    refine Sy.call_r1 (rowH (hearV now span ps o.worker).1) (fun k => .tup [.agg [.v (.int .i64 (hearV now span ps o.worker).1.now), .v (.int .i64 (hearV now span ps o.worker).1.span), .row k], .c (.v (.bool (hearV now span ps o.worker).2.1)), .c (.v (.int .i64 (hearV now span ps o.worker).2.2))]) Try.call13 (fun e a w' h => hear_any _ _ _ _ _ w' hn ho (Sy.row_reads h (.inr rfl))) ?_
    ((repeat' ((conv => whnf);(first|refine z1 ?_|refine z2 ?_|refine z3 ?_|refine z4 ?_|refine z5 ?_|refine z6 ?_|refine z7 ?_|refine z8 ?_|refine z9 ?_|refine za ?_|refine zb ?_|refine zc ?_|refine zd ?_|refine ze ?_|refine zf ?_|refine zg ?_|refine zh ?_|((first|refine zi ?_ ?_|refine zj ?_ ?_|refine zk ?_ ?_)<;> intro hh <;> first|(exfalso;omega)|skip)|(refine zl ?_ ?_<;> intro hh)|refine zm ?_|refine zn ?_|refine zo ?_|refine zp ?_|refine zq ?_|refine zr ?_|refine zs _ rfl ?_|refine zu ?_|exact Sy.fin_val (fun e=>rfl))));(all_goals (try conv => whnf)))
    exact Sy.fin_r2 (.row 4) (.v (.slice none 0 0)) rfl ⟨rfl, rfl⟩
  · rw [run_pass (.inl (by assumption))]
    refine Sy.draw_go [3] (by kernel_rfl) ?_
    intro e0
    conv => whnf
    refine zt 0 rfl ?_
    conv => whnf
    refine zt 1 rfl ?_
    conv => whnf
    refine zt 2 rfl ?_
    conv => whnf
    refine zd1 [3] (zx rfl ?_ zy)
    conv => whnf
    refine Sy.call_val (.c (.v (.int .i64 (nowO o now)))) Try.call37 rfl (fun e a w' h => nowO_any o now span _ w' (h.one 0)) ?_
    conv => whnf
    refine ⟨(by repeat' ((conv => whnf);first|exact trivial|(refine And.intro ?_ ?_)|rfl)), ?_⟩
    refine zd1 [4] (zx rfl ?_ zy)
    conv => whnf
    refine Sy.call_r2 4 (rowH (passV now span ps (nowO o now)).1) (rowI (passV now span ps (nowO o now)).2.1) (.tup [.agg [.v (.int .i64 (passV now span ps (nowO o now)).1.now), .v (.int .i64 (passV now span ps (nowO o now)).1.span), .row 4], .c (.row 5), .c (.v (.int .i64 (passV now span ps (nowO o now)).2.2))]) Try.call16 (fun e a w' h => pass_any _ _ _ _ _ w' hn (Sy.row_reads h (.inr rfl))) ?_
    conv => whnf
    refine ⟨(by repeat' ((conv => whnf);first|exact trivial|(refine And.intro ?_ ?_)|rfl)), ?_⟩
    refine zt 5 rfl ?_
    conv => whnf
    refine zt 6 rfl ?_
    conv => whnf
    refine zt 7 rfl ?_
    conv => whnf
    refine zt 8 rfl ?_
    conv => whnf
    refine zd1 [9] (zx rfl ?_ zy)
    conv => whnf
    refine ⟨(by repeat' ((conv => whnf);first|exact trivial|(refine And.intro ?_ ?_)|rfl)), ?_⟩
    refine zt 10 rfl ?_
    conv => whnf
    refine zt 11 rfl ?_
    conv => whnf
    refine zw ?_
    ((repeat' ((conv => whnf);(first|refine z1 ?_|refine z2 ?_|refine z3 ?_|refine z4 ?_|refine z5 ?_|refine z6 ?_|refine z7 ?_|refine z8 ?_|refine z9 ?_|refine za ?_|refine zb ?_|refine zc ?_|refine zd ?_|refine ze ?_|refine zf ?_|refine zg ?_|refine zh ?_|((first|refine zi ?_ ?_|refine zj ?_ ?_|refine zk ?_ ?_)<;> intro hh <;> first|(exfalso;omega)|skip)|(refine zl ?_ ?_<;> intro hh)|refine zm ?_|refine zn ?_|refine zo ?_|refine zp ?_|refine zq ?_|refine zr ?_|refine zs _ rfl ?_|refine zu ?_|exact Sy.fin_val (fun e=>rfl))));(all_goals (try conv => whnf)))
    exact Sy.fin_r2 (.row 4) (.row 5) rfl rfl
  · rw [run_pass (.inr (by assumption))]
    refine Sy.draw_go [3] (by kernel_rfl) ?_
    intro e0
    conv => whnf
    refine zt 0 rfl ?_
    conv => whnf
    refine zt 1 rfl ?_
    conv => whnf
    refine zt 2 rfl ?_
    conv => whnf
    refine zd1 [3] (zx rfl ?_ zy)
    conv => whnf
    refine Sy.call_val (.c (.v (.int .i64 (nowO o now)))) Try.call37 rfl (fun e a w' h => nowO_any o now span _ w' (h.one 0)) ?_
    conv => whnf
    refine ⟨(by repeat' ((conv => whnf);first|exact trivial|(refine And.intro ?_ ?_)|rfl)), ?_⟩
    refine zd1 [4] (zx rfl ?_ zy)
    conv => whnf
    refine Sy.call_r2 4 (rowH (passV now span ps (nowO o now)).1) (rowI (passV now span ps (nowO o now)).2.1) (.tup [.agg [.v (.int .i64 (passV now span ps (nowO o now)).1.now), .v (.int .i64 (passV now span ps (nowO o now)).1.span), .row 4], .c (.row 5), .c (.v (.int .i64 (passV now span ps (nowO o now)).2.2))]) Try.call16 (fun e a w' h => pass_any _ _ _ _ _ w' hn (Sy.row_reads h (.inr rfl))) ?_
    conv => whnf
    refine ⟨(by repeat' ((conv => whnf);first|exact trivial|(refine And.intro ?_ ?_)|rfl)), ?_⟩
    refine zt 5 rfl ?_
    conv => whnf
    refine zt 6 rfl ?_
    conv => whnf
    refine zt 7 rfl ?_
    conv => whnf
    refine zt 8 rfl ?_
    conv => whnf
    refine zd1 [9] (zx rfl ?_ zy)
    conv => whnf
    refine ⟨(by repeat' ((conv => whnf);first|exact trivial|(refine And.intro ?_ ?_)|rfl)), ?_⟩
    refine zt 10 rfl ?_
    conv => whnf
    refine zt 11 rfl ?_
    conv => whnf
    refine zw ?_
    ((repeat' ((conv => whnf);(first|refine z1 ?_|refine z2 ?_|refine z3 ?_|refine z4 ?_|refine z5 ?_|refine z6 ?_|refine z7 ?_|refine z8 ?_|refine z9 ?_|refine za ?_|refine zb ?_|refine zc ?_|refine zd ?_|refine ze ?_|refine zf ?_|refine zg ?_|refine zh ?_|((first|refine zi ?_ ?_|refine zj ?_ ?_|refine zk ?_ ?_)<;> intro hh <;> first|(exfalso;omega)|skip)|(refine zl ?_ ?_<;> intro hh)|refine zm ?_|refine zn ?_|refine zo ?_|refine zp ?_|refine zq ?_|refine zr ?_|refine zs _ rfl ?_|refine zu ?_|exact Sy.fin_val (fun e=>rfl))));(all_goals (try conv => whnf)))
    exact Sy.fin_r2 (.row 4) (.row 5) rfl rfl
  · rw [run_drop (by omega)]
    refine Sy.call_r1 (rowH (dropV now span ps o.worker).1) (fun k => .tup [.agg [.v (.int .i64 (dropV now span ps o.worker).1.now), .v (.int .i64 (dropV now span ps o.worker).1.span), .row k], .c (.v (.int .i64 (dropV now span ps o.worker).2))]) Try.call38 (fun e a w' h => drop_any _ _ _ _ _ w' hn ho (Sy.row_reads h (.inr rfl))) ?_
    ((repeat' ((conv => whnf);(first|refine z1 ?_|refine z2 ?_|refine z3 ?_|refine z4 ?_|refine z5 ?_|refine z6 ?_|refine z7 ?_|refine z8 ?_|refine z9 ?_|refine za ?_|refine zb ?_|refine zc ?_|refine zd ?_|refine ze ?_|refine zf ?_|refine zg ?_|refine zh ?_|((first|refine zi ?_ ?_|refine zj ?_ ?_|refine zk ?_ ?_)<;> intro hh <;> first|(exfalso;omega)|skip)|(refine zl ?_ ?_<;> intro hh)|refine zm ?_|refine zn ?_|refine zo ?_|refine zp ?_|refine zq ?_|refine zr ?_|refine zs _ rfl ?_|refine zu ?_|exact Sy.fin_val (fun e=>rfl))));(all_goals (try conv => whnf)))
    exact Sy.fin_r2 (.row 4) (.v (.slice none 0 0)) rfl ⟨rfl, rfl⟩

theorem wants_any (now span : Int) (v : Value) (ps : List Pulse) (o : OpI) (w : World) (hn : I64 now) (ho : o.ok) (hr : XD.ok (fun b => b < w.heap.size) w ⟨v, 3, ps.length, ps.map encP⟩) :
    Calls Try.prog 19 #[.agg #[.int .i64 o.kind, .int .i64 o.worker, .int .i64 o.tick, .bool o.far], .agg #[.int .i64 now, .int .i64 span, v]] w (RetRun (runV now span ps o) w) := by
  have hu := uk_in o
  have hw0 := wrap64_pos o.kind
  unfold RetRun
  refine Sy.calls_of Sy.lv19 Sy.tab_ok Try.func19 rfl _ Try.ntmps19 [⟨v, 3, ps.length, ps.map encP⟩] [.agg [.v (.int .i64 o.kind), .v (.int .i64 o.worker), .v (.int .i64 o.tick), .v (.bool o.far)], .agg [.v (.int .i64 now), .v (.int .i64 span), .row 0]] rfl rfl rfl ⟨hr, trivial⟩ ?_
  ((repeat' ((conv => whnf);(first|refine z1 ?_|refine z2 ?_|refine z3 ?_|refine z4 ?_|refine z5 ?_|refine z6 ?_|refine z7 ?_|refine z8 ?_|refine z9 ?_|refine za ?_|refine zb ?_|refine zc ?_|refine zd ?_|refine ze ?_|refine zf ?_|refine zg ?_|refine zh ?_|((first|refine zi ?_ ?_|refine zj ?_ ?_|refine zk ?_ ?_)<;> intro hh <;> first|(exfalso;omega)|skip)|(refine zl ?_ ?_<;> intro hh)|refine zm ?_|refine zn ?_|refine zo ?_|refine zp ?_|refine zq ?_|refine zr ?_|refine zs _ rfl ?_|refine zu ?_|exact Sy.fin_val (fun e=>rfl))));(all_goals (try conv => whnf)))
  by_cases hok : okH now span ps = true
  rotate_left
  · refine Sy.call_val (.c (.v (.bool false))) Try.call11 rfl (fun e a w' h => by have := right_any now span (e.rv 0) ps w' hn (Sy.row_reads h (.inr rfl)); rw [show okH now span ps = false by simpa using hok] at this; exact this) ?_
    rw [run_bad hok]
    ((repeat' ((conv => whnf);(first|refine z1 ?_|refine z2 ?_|refine z3 ?_|refine z4 ?_|refine z5 ?_|refine z6 ?_|refine z7 ?_|refine z8 ?_|refine z9 ?_|refine za ?_|refine zb ?_|refine zc ?_|refine zd ?_|refine ze ?_|refine zf ?_|refine zg ?_|refine zh ?_|((first|refine zi ?_ ?_|refine zj ?_ ?_|refine zk ?_ ?_)<;> intro hh <;> first|(exfalso;omega)|skip)|(refine zl ?_ ?_<;> intro hh)|refine zm ?_|refine zn ?_|refine zo ?_|refine zp ?_|refine zq ?_|refine zr ?_|refine zs _ rfl ?_|refine zu ?_|exact Sy.fin_val (fun e=>rfl))));(all_goals (try conv => whnf)))
    exact Sy.fin_r2 (.v (.slice none 0 0)) (.v (.slice none 0 0)) ⟨rfl, rfl⟩ ⟨rfl, rfl⟩
  refine Sy.call_val (.c (.v (.bool true))) Try.call11 rfl (fun e a w' h => by have := right_any now span (e.rv 0) ps w' hn (Sy.row_reads h (.inr rfl)); rw [hok] at this; exact this) ?_
  ((repeat' ((conv => whnf);(first|refine z1 ?_|refine z2 ?_|refine z3 ?_|refine z4 ?_|refine z5 ?_|refine z6 ?_|refine z7 ?_|refine z8 ?_|refine z9 ?_|refine za ?_|refine zb ?_|refine zc ?_|refine zd ?_|refine ze ?_|refine zf ?_|refine zg ?_|refine zh ?_|((first|refine zi ?_ ?_|refine zj ?_ ?_|refine zk ?_ ?_)<;> intro hh <;> first|(exfalso;omega)|skip)|(refine zl ?_ ?_<;> intro hh)|refine zm ?_|refine zn ?_|refine zo ?_|refine zp ?_|refine zq ?_|refine zr ?_|refine zs _ rfl ?_|refine zu ?_|exact Sy.fin_val (fun e=>rfl))));(all_goals (try conv => whnf)))
  refine Sy.ar_wrap ?_
  ((repeat' ((conv => whnf);(first|refine z1 ?_|refine z2 ?_|refine z3 ?_|refine z4 ?_|refine z5 ?_|refine z6 ?_|refine z7 ?_|refine z8 ?_|refine z9 ?_|refine za ?_|refine zb ?_|refine zc ?_|refine zd ?_|refine ze ?_|refine zf ?_|refine zg ?_|refine zh ?_|((first|refine zi ?_ ?_|refine zj ?_ ?_|refine zk ?_ ?_)<;> intro hh <;> first|(exfalso;omega)|skip)|(refine zl ?_ ?_<;> intro hh)|refine zm ?_|refine zn ?_|refine zo ?_|refine zp ?_|refine zq ?_|refine zr ?_|refine zs _ rfl ?_|refine zu ?_|exact Sy.fin_val (fun e=>rfl))));(all_goals (try conv => whnf)))
  refine Sy.rem_in hw0 (by decide) ?_
  conv => whnf
  rw [show IntKind.u64.wrap o.kind % 5 = uk o from rfl]
  ((repeat' ((conv => whnf);(first|refine z1 ?_|refine z2 ?_|refine z3 ?_|refine z4 ?_|refine z5 ?_|refine z6 ?_|refine z7 ?_|refine z8 ?_|refine z9 ?_|refine za ?_|refine zb ?_|refine zc ?_|refine zd ?_|refine ze ?_|refine zf ?_|refine zg ?_|refine zh ?_|((first|refine zi ?_ ?_|refine zj ?_ ?_|refine zk ?_ ?_)<;> intro hh <;> first|(exfalso;omega)|skip)|(refine zl ?_ ?_<;> intro hh)|refine zm ?_|refine zn ?_|refine zo ?_|refine zp ?_|refine zq ?_|refine zr ?_|refine zs _ rfl ?_|refine zu ?_|exact Sy.fin_val (fun e=>rfl))));(all_goals (try conv => whnf)))
  · rw [run_hear (.inl (by assumption))]
    refine Sy.call_r1 (rowH (hearV now span ps o.worker).1) (fun k => .tup [.agg [.v (.int .i64 (hearV now span ps o.worker).1.now), .v (.int .i64 (hearV now span ps o.worker).1.span), .row k], .c (.v (.bool (hearV now span ps o.worker).2.1)), .c (.v (.int .i64 (hearV now span ps o.worker).2.2))]) Try.call39 (fun e a w' h => rhear_any _ _ _ _ _ w' hok ho (Sy.row_reads h (.inr rfl))) ?_
    ((repeat' ((conv => whnf);(first|refine z1 ?_|refine z2 ?_|refine z3 ?_|refine z4 ?_|refine z5 ?_|refine z6 ?_|refine z7 ?_|refine z8 ?_|refine z9 ?_|refine za ?_|refine zb ?_|refine zc ?_|refine zd ?_|refine ze ?_|refine zf ?_|refine zg ?_|refine zh ?_|((first|refine zi ?_ ?_|refine zj ?_ ?_|refine zk ?_ ?_)<;> intro hh <;> first|(exfalso;omega)|skip)|(refine zl ?_ ?_<;> intro hh)|refine zm ?_|refine zn ?_|refine zo ?_|refine zp ?_|refine zq ?_|refine zr ?_|refine zs _ rfl ?_|refine zu ?_|exact Sy.fin_val (fun e=>rfl))));(all_goals (try conv => whnf)))
    exact Sy.fin_r2 (.row 4) (.v (.slice none 0 0)) rfl ⟨rfl, rfl⟩
  · rw [run_hear (.inr (by assumption))]
    refine Sy.call_r1 (rowH (hearV now span ps o.worker).1) (fun k => .tup [.agg [.v (.int .i64 (hearV now span ps o.worker).1.now), .v (.int .i64 (hearV now span ps o.worker).1.span), .row k], .c (.v (.bool (hearV now span ps o.worker).2.1)), .c (.v (.int .i64 (hearV now span ps o.worker).2.2))]) Try.call39 (fun e a w' h => rhear_any _ _ _ _ _ w' hok ho (Sy.row_reads h (.inr rfl))) ?_
    ((repeat' ((conv => whnf);(first|refine z1 ?_|refine z2 ?_|refine z3 ?_|refine z4 ?_|refine z5 ?_|refine z6 ?_|refine z7 ?_|refine z8 ?_|refine z9 ?_|refine za ?_|refine zb ?_|refine zc ?_|refine zd ?_|refine ze ?_|refine zf ?_|refine zg ?_|refine zh ?_|((first|refine zi ?_ ?_|refine zj ?_ ?_|refine zk ?_ ?_)<;> intro hh <;> first|(exfalso;omega)|skip)|(refine zl ?_ ?_<;> intro hh)|refine zm ?_|refine zn ?_|refine zo ?_|refine zp ?_|refine zq ?_|refine zr ?_|refine zs _ rfl ?_|refine zu ?_|exact Sy.fin_val (fun e=>rfl))));(all_goals (try conv => whnf)))
    exact Sy.fin_r2 (.row 4) (.v (.slice none 0 0)) rfl ⟨rfl, rfl⟩
  · rw [run_pass (.inl (by assumption))]
    refine Sy.draw_go [3] (by kernel_rfl) ?_
    intro e0
    conv => whnf
    refine zt 0 rfl ?_
    conv => whnf
    refine zt 1 rfl ?_
    conv => whnf
    refine zt 2 rfl ?_
    conv => whnf
    refine zd1 [3] (zx rfl ?_ zy)
    conv => whnf
    refine Sy.call_val (.c (.v (.int .i64 (nowO o now)))) Try.call37 rfl (fun e a w' h => nowO_any o now span _ w' (h.one 0)) ?_
    conv => whnf
    refine ⟨(by repeat' ((conv => whnf);first|exact trivial|(refine And.intro ?_ ?_)|rfl)), ?_⟩
    refine zd1 [4] (zx rfl ?_ zy)
    conv => whnf
    refine Sy.call_r2 4 (rowH (passV now span ps (nowO o now)).1) (rowI (passV now span ps (nowO o now)).2.1) (.tup [.agg [.v (.int .i64 (passV now span ps (nowO o now)).1.now), .v (.int .i64 (passV now span ps (nowO o now)).1.span), .row 4], .c (.row 5), .c (.v (.int .i64 (passV now span ps (nowO o now)).2.2))]) Try.call40 (fun e a w' h => rpass_any _ _ _ _ _ w' hok (Sy.row_reads h (.inr rfl))) ?_
    conv => whnf
    refine ⟨(by repeat' ((conv => whnf);first|exact trivial|(refine And.intro ?_ ?_)|rfl)), ?_⟩
    refine zt 5 rfl ?_
    conv => whnf
    refine zt 6 rfl ?_
    conv => whnf
    refine zt 7 rfl ?_
    conv => whnf
    refine zt 8 rfl ?_
    conv => whnf
    refine zd1 [9] (zx rfl ?_ zy)
    conv => whnf
    refine ⟨(by repeat' ((conv => whnf);first|exact trivial|(refine And.intro ?_ ?_)|rfl)), ?_⟩
    refine zt 10 rfl ?_
    conv => whnf
    refine zt 11 rfl ?_
    conv => whnf
    refine zw ?_
    ((repeat' ((conv => whnf);(first|refine z1 ?_|refine z2 ?_|refine z3 ?_|refine z4 ?_|refine z5 ?_|refine z6 ?_|refine z7 ?_|refine z8 ?_|refine z9 ?_|refine za ?_|refine zb ?_|refine zc ?_|refine zd ?_|refine ze ?_|refine zf ?_|refine zg ?_|refine zh ?_|((first|refine zi ?_ ?_|refine zj ?_ ?_|refine zk ?_ ?_)<;> intro hh <;> first|(exfalso;omega)|skip)|(refine zl ?_ ?_<;> intro hh)|refine zm ?_|refine zn ?_|refine zo ?_|refine zp ?_|refine zq ?_|refine zr ?_|refine zs _ rfl ?_|refine zu ?_|exact Sy.fin_val (fun e=>rfl))));(all_goals (try conv => whnf)))
    exact Sy.fin_r2 (.row 4) (.row 5) rfl rfl
  · rw [run_pass (.inr (by assumption))]
    refine Sy.draw_go [3] (by kernel_rfl) ?_
    intro e0
    conv => whnf
    refine zt 0 rfl ?_
    conv => whnf
    refine zt 1 rfl ?_
    conv => whnf
    refine zt 2 rfl ?_
    conv => whnf
    refine zd1 [3] (zx rfl ?_ zy)
    conv => whnf
    refine Sy.call_val (.c (.v (.int .i64 (nowO o now)))) Try.call37 rfl (fun e a w' h => nowO_any o now span _ w' (h.one 0)) ?_
    conv => whnf
    refine ⟨(by repeat' ((conv => whnf);first|exact trivial|(refine And.intro ?_ ?_)|rfl)), ?_⟩
    refine zd1 [4] (zx rfl ?_ zy)
    conv => whnf
    refine Sy.call_r2 4 (rowH (passV now span ps (nowO o now)).1) (rowI (passV now span ps (nowO o now)).2.1) (.tup [.agg [.v (.int .i64 (passV now span ps (nowO o now)).1.now), .v (.int .i64 (passV now span ps (nowO o now)).1.span), .row 4], .c (.row 5), .c (.v (.int .i64 (passV now span ps (nowO o now)).2.2))]) Try.call40 (fun e a w' h => rpass_any _ _ _ _ _ w' hok (Sy.row_reads h (.inr rfl))) ?_
    conv => whnf
    refine ⟨(by repeat' ((conv => whnf);first|exact trivial|(refine And.intro ?_ ?_)|rfl)), ?_⟩
    refine zt 5 rfl ?_
    conv => whnf
    refine zt 6 rfl ?_
    conv => whnf
    refine zt 7 rfl ?_
    conv => whnf
    refine zt 8 rfl ?_
    conv => whnf
    refine zd1 [9] (zx rfl ?_ zy)
    conv => whnf
    refine ⟨(by repeat' ((conv => whnf);first|exact trivial|(refine And.intro ?_ ?_)|rfl)), ?_⟩
    refine zt 10 rfl ?_
    conv => whnf
    refine zt 11 rfl ?_
    conv => whnf
    refine zw ?_
    ((repeat' ((conv => whnf);(first|refine z1 ?_|refine z2 ?_|refine z3 ?_|refine z4 ?_|refine z5 ?_|refine z6 ?_|refine z7 ?_|refine z8 ?_|refine z9 ?_|refine za ?_|refine zb ?_|refine zc ?_|refine zd ?_|refine ze ?_|refine zf ?_|refine zg ?_|refine zh ?_|((first|refine zi ?_ ?_|refine zj ?_ ?_|refine zk ?_ ?_)<;> intro hh <;> first|(exfalso;omega)|skip)|(refine zl ?_ ?_<;> intro hh)|refine zm ?_|refine zn ?_|refine zo ?_|refine zp ?_|refine zq ?_|refine zr ?_|refine zs _ rfl ?_|refine zu ?_|exact Sy.fin_val (fun e=>rfl))));(all_goals (try conv => whnf)))
    exact Sy.fin_r2 (.row 4) (.row 5) rfl rfl
  · rw [run_drop (by omega)]
    refine Sy.call_r1 (rowH (dropV now span ps o.worker).1) (fun k => .tup [.agg [.v (.int .i64 (dropV now span ps o.worker).1.now), .v (.int .i64 (dropV now span ps o.worker).1.span), .row k], .c (.v (.int .i64 (dropV now span ps o.worker).2))]) Try.call41 (fun e a w' h => rdrop_any _ _ _ _ _ w' hok (Sy.row_reads h (.inr rfl))) ?_
    ((repeat' ((conv => whnf);(first|refine z1 ?_|refine z2 ?_|refine z3 ?_|refine z4 ?_|refine z5 ?_|refine z6 ?_|refine z7 ?_|refine z8 ?_|refine z9 ?_|refine za ?_|refine zb ?_|refine zc ?_|refine zd ?_|refine ze ?_|refine zf ?_|refine zg ?_|refine zh ?_|((first|refine zi ?_ ?_|refine zj ?_ ?_|refine zk ?_ ?_)<;> intro hh <;> first|(exfalso;omega)|skip)|(refine zl ?_ ?_<;> intro hh)|refine zm ?_|refine zn ?_|refine zo ?_|refine zp ?_|refine zq ?_|refine zr ?_|refine zs _ rfl ?_|refine zu ?_|exact Sy.fin_val (fun e=>rfl))));(all_goals (try conv => whnf)))
    exact Sy.fin_r2 (.row 4) (.v (.slice none 0 0)) rfl ⟨rfl, rfl⟩

end Go.Proofs.Ytiapcohnjklcfaa
