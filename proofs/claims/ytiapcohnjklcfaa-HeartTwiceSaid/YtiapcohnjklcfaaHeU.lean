/- Heart: the law HeartTwice. -/
import Derived.Test.YtiapcohnjklcfaaHeT
import Derived.Test.YtiapcohnjklcfaaConcat
import Derived.Test.YtiapcohnjklcfaaHeQ
namespace Go.Proofs.Ytiapcohnjklcfaa
open Go Go.RowKit
open Sy (C SV V1 Blk St XD Els)
set_option maxRecDepth 10000

theorem passV_in {now span t : Int} {ps : List Pulse} (hok : okH now span ps = true) (h : now ≤ t ∧ t ≤ 1099511627776) : passV now span ps t = (⟨t, span, passL t span ps⟩, goneL t span ps, 0) := by rw [passV, if_pos hok, if_pos h]
theorem passV_out {now span t : Int} {ps : List Pulse} (hok : okH now span ps = true) (h : ¬ (now ≤ t ∧ t ≤ 1099511627776)) : passV now span ps t = (hs0, [], 2) := by rw [passV, if_pos hok, if_neg h]
theorem okH_pass {now span t : Int} {ps : List Pulse} (hok : okH now span ps = true) (h : now ≤ t ∧ t ≤ 1099511627776) : okH t span (passL t span ps) = true := by
  obtain ⟨⟨h1, h2, h3, h4⟩, h5⟩ := okH_iff.1 hok
  exact okH_iff.2 ⟨⟨by omega, h.2, h3, h4⟩, okL_pass h.1 h5⟩
theorem passL_len (t span : Int) (ps : List Pulse) : (passL t span ps).length = ps.length := by rw [passL, List.length_map]
theorem goneL_le {now span t : Int} {ps : List Pulse} (hok : okH now span ps = true) : (goneL t span ps).length ≤ 4 := by
  have := okH_len _ _ _ hok
  have := List.length_filter_le (goes t span) ps
  rw [goneL, List.length_map]; omega
attribute [local irreducible] okN okH ok0 chkE hearV passV dropV runV sh sameB aliveL dueH passL goneL sortL
set_option maxHeartbeats 2000000 in
theorem twice_any (now span a b : Int) (v : Value) (ps : List Pulse) (w : World) (hn : I64 now) (hr : XD.ok (fun b => b < w.heap.size) w ⟨v, 3, ps.length, ps.map encP⟩) :
    Calls Try.prog 8 #[.agg #[.int .i64 now, .int .i64 span, v], .int .i64 a, .int .i64 b] w (Sy.Ret (.bool true) w) := by
  have hl := ok_len hr
  have ha := tm_bd a 200 (by decide)
  have hb := tm_bd b 200 (by decide)
  refine Sy.calls_of Sy.lv8 Sy.tab_ok Try.func8 rfl _ Try.ntmps8 [⟨v, 3, ps.length, ps.map encP⟩] [.agg [.v (.int .i64 now), .v (.int .i64 span), .row 0], .c (.v (.int .i64 a)), .c (.v (.int .i64 b))] rfl rfl rfl ⟨hr, trivial⟩ ?_
  ((repeat' ((conv => whnf);(first|refine z1 ?_|refine z2 ?_|refine z3 ?_|refine z4 ?_|refine z5 ?_|refine z6 ?_|refine z7 ?_|refine z8 ?_|refine z9 ?_|refine za ?_|refine zb ?_|refine zc ?_|refine zd ?_|refine ze ?_|refine zf ?_|refine zg ?_|refine zh ?_|((first|refine zi ?_ ?_|refine zj ?_ ?_|refine zk ?_ ?_)<;> intro hh <;> first|(exfalso;omega)|skip)|(refine zl ?_ ?_<;> intro hh)|refine zm ?_|refine zn ?_|refine zo ?_|refine zp ?_|refine zq ?_|refine zr ?_|refine zs _ rfl ?_|refine zu ?_|exact Sy.fin_val (fun e=>rfl))));(all_goals (try conv => whnf)))
  refine Sy.call_val (.c (.v (.bool true))) Try.call9 rfl (fun e a w' h => wakes_any w') ?_
  ((repeat' ((conv => whnf);(first|refine z1 ?_|refine z2 ?_|refine z3 ?_|refine z4 ?_|refine z5 ?_|refine z6 ?_|refine z7 ?_|refine z8 ?_|refine z9 ?_|refine za ?_|refine zb ?_|refine zc ?_|refine zd ?_|refine ze ?_|refine zf ?_|refine zg ?_|refine zh ?_|((first|refine zi ?_ ?_|refine zj ?_ ?_|refine zk ?_ ?_)<;> intro hh <;> first|(exfalso;omega)|skip)|(refine zl ?_ ?_<;> intro hh)|refine zm ?_|refine zn ?_|refine zo ?_|refine zp ?_|refine zq ?_|refine zr ?_|refine zs _ rfl ?_|refine zu ?_|exact Sy.fin_val (fun e=>rfl))));(all_goals (try conv => whnf)))
  refine Sy.call_r1 ⟨51, 3, (sh ps).length, (sh ps).map encP⟩ (fun k => .agg [.v (.int .i64 now), .v (.int .i64 span), .row k]) Try.call17 (fun e a w' h => short_r now span _ ps w' (Sy.row_reads h (.inr rfl))) ?_
  generalize sh ps = qs at *
  ((repeat' ((conv => whnf);(first|refine z1 ?_|refine z2 ?_|refine z3 ?_|refine z4 ?_|refine z5 ?_|refine z6 ?_|refine z7 ?_|refine z8 ?_|refine z9 ?_|refine za ?_|refine zb ?_|refine zc ?_|refine zd ?_|refine ze ?_|refine zf ?_|refine zg ?_|refine zh ?_|((first|refine zi ?_ ?_|refine zj ?_ ?_|refine zk ?_ ?_)<;> intro hh <;> first|(exfalso;omega)|skip)|(refine zl ?_ ?_<;> intro hh)|refine zm ?_|refine zn ?_|refine zo ?_|refine zp ?_|refine zq ?_|refine zr ?_|refine zs _ rfl ?_|refine zu ?_|exact Sy.fin_val (fun e=>rfl))));(all_goals (try conv => whnf)))
  by_cases hok : okH now span qs = true
  rotate_left
  · refine Sy.call_val (.c (.v (.int .i64 360))) Try.call22 rfl (fun e a w' h => by have := check_any now span (e.rv 2) qs w' hn (Sy.row_reads h (.inl ⟨_, rfl⟩)); rw [show chkE now span qs = 360 by unfold chkE; rw [if_neg hok]] at this; exact this) ?_
    ((repeat' ((conv => whnf);(first|refine z1 ?_|refine z2 ?_|refine z3 ?_|refine z4 ?_|refine z5 ?_|refine z6 ?_|refine z7 ?_|refine z8 ?_|refine z9 ?_|refine za ?_|refine zb ?_|refine zc ?_|refine zd ?_|refine ze ?_|refine zf ?_|refine zg ?_|refine zh ?_|((first|refine zi ?_ ?_|refine zj ?_ ?_|refine zk ?_ ?_)<;> intro hh <;> first|(exfalso;omega)|skip)|(refine zl ?_ ?_<;> intro hh)|refine zm ?_|refine zn ?_|refine zo ?_|refine zp ?_|refine zq ?_|refine zr ?_|refine zs _ rfl ?_|refine zu ?_|exact Sy.fin_val (fun e=>rfl))));(all_goals (try conv => whnf)))
  refine Sy.call_val (.c (.v (.int .i64 0))) Try.call22 rfl (fun e a w' h => by have := check_any now span (e.rv 2) qs w' hn (Sy.row_reads h (.inl ⟨_, rfl⟩)); rw [show chkE now span qs = 0 by unfold chkE; rw [if_pos hok]] at this; exact this) ?_
  have hbd := okH_bd _ _ _ hok
  have hql := okH_len _ _ _ hok
  ((repeat' ((conv => whnf);(first|refine z1 ?_|refine z2 ?_|refine z3 ?_|refine z4 ?_|refine z5 ?_|refine z6 ?_|refine z7 ?_|refine z8 ?_|refine z9 ?_|refine za ?_|refine zb ?_|refine zc ?_|refine zd ?_|refine ze ?_|refine zf ?_|refine zg ?_|refine zh ?_|((first|refine zi ?_ ?_|refine zj ?_ ?_|refine zk ?_ ?_)<;> intro hh <;> first|(exfalso;omega)|skip)|(refine zl ?_ ?_<;> intro hh)|refine zm ?_|refine zn ?_|refine zo ?_|refine zp ?_|refine zq ?_|refine zr ?_|refine zs _ rfl ?_|refine zu ?_|exact Sy.fin_val (fun e=>rfl))));(all_goals (try conv => whnf)))
  refine Sy.rem_of (by decide) ?_
  ((repeat' ((conv => whnf);(first|refine z1 ?_|refine z2 ?_|refine z3 ?_|refine z4 ?_|refine z5 ?_|refine z6 ?_|refine z7 ?_|refine z8 ?_|refine z9 ?_|refine za ?_|refine zb ?_|refine zc ?_|refine zd ?_|refine ze ?_|refine zf ?_|refine zg ?_|refine zh ?_|((first|refine zi ?_ ?_|refine zj ?_ ?_|refine zk ?_ ?_)<;> intro hh <;> first|(exfalso;omega)|skip)|(refine zl ?_ ?_<;> intro hh)|refine zm ?_|refine zn ?_|refine zo ?_|refine zp ?_|refine zq ?_|refine zr ?_|refine zs _ rfl ?_|refine zu ?_|exact Sy.fin_val (fun e=>rfl))));(all_goals (try conv => whnf)))
  refine Sy.rem_in (by omega) (by decide) ?_
  ((repeat' ((conv => whnf);(first|refine z1 ?_|refine z2 ?_|refine z3 ?_|refine z4 ?_|refine z5 ?_|refine z6 ?_|refine z7 ?_|refine z8 ?_|refine z9 ?_|refine za ?_|refine zb ?_|refine zc ?_|refine zd ?_|refine ze ?_|refine zf ?_|refine zg ?_|refine zh ?_|((first|refine zi ?_ ?_|refine zj ?_ ?_|refine zk ?_ ?_)<;> intro hh <;> first|(exfalso;omega)|skip)|(refine zl ?_ ?_<;> intro hh)|refine zm ?_|refine zn ?_|refine zo ?_|refine zp ?_|refine zq ?_|refine zr ?_|refine zs _ rfl ?_|refine zu ?_|exact Sy.fin_val (fun e=>rfl))));(all_goals (try conv => whnf)))
  refine Sy.rem_of (by decide) ?_
  ((repeat' ((conv => whnf);(first|refine z1 ?_|refine z2 ?_|refine z3 ?_|refine z4 ?_|refine z5 ?_|refine z6 ?_|refine z7 ?_|refine z8 ?_|refine z9 ?_|refine za ?_|refine zb ?_|refine zc ?_|refine zd ?_|refine ze ?_|refine zf ?_|refine zg ?_|refine zh ?_|((first|refine zi ?_ ?_|refine zj ?_ ?_|refine zk ?_ ?_)<;> intro hh <;> first|(exfalso;omega)|skip)|(refine zl ?_ ?_<;> intro hh)|refine zm ?_|refine zn ?_|refine zo ?_|refine zp ?_|refine zq ?_|refine zr ?_|refine zs _ rfl ?_|refine zu ?_|exact Sy.fin_val (fun e=>rfl))));(all_goals (try conv => whnf)))
  refine Sy.rem_in (by omega) (by decide) ?_
  ((repeat' ((conv => whnf);(first|refine z1 ?_|refine z2 ?_|refine z3 ?_|refine z4 ?_|refine z5 ?_|refine z6 ?_|refine z7 ?_|refine z8 ?_|refine z9 ?_|refine za ?_|refine zb ?_|refine zc ?_|refine zd ?_|refine ze ?_|refine zf ?_|refine zg ?_|refine zh ?_|((first|refine zi ?_ ?_|refine zj ?_ ?_|refine zk ?_ ?_)<;> intro hh <;> first|(exfalso;omega)|skip)|(refine zl ?_ ?_<;> intro hh)|refine zm ?_|refine zn ?_|refine zo ?_|refine zp ?_|refine zq ?_|refine zr ?_|refine zs _ rfl ?_|refine zu ?_|exact Sy.fin_val (fun e=>rfl))));(all_goals (try conv => whnf)))
  obtain ⟨x, hx, hx1, hx2⟩ : ∃ x, (a.tmod 200 + 200) % 200 = x ∧ 0 ≤ x ∧ x < 200 := ⟨_, rfl, by omega, by omega⟩
  obtain ⟨y, hy, hy1, hy2⟩ : ∃ y, (b.tmod 200 + 200) % 200 = y ∧ 0 ≤ y ∧ y < 200 := ⟨_, rfl, by omega, by omega⟩
  rw [hx, hy]
  clear hx hy ha hb
  by_cases hc : now + x + y ≤ 1099511627776
  · have p1 := passV_in hok (show now ≤ now + x ∧ now + x ≤ 1099511627776 from ⟨by omega, by omega⟩)
    have p2 := passV_in hok (show now ≤ now + x + y ∧ now + x + y ≤ 1099511627776 from ⟨by omega, by omega⟩)
    have hok1 := okH_pass hok (show now ≤ now + x ∧ now + x ≤ 1099511627776 from ⟨by omega, by omega⟩)
    have p3 := passV_in hok1 (show now + x ≤ now + x + y ∧ now + x + y ≤ 1099511627776 from ⟨by omega, by omega⟩)
    have g1 := goneL_le (t := now + x) hok
    have g2 := goneL_le (t := now + x + y) hok
    have g3 := goneL_le (t := now + x + y) hok1
    have hbs := both_sorted (t1 := now + x) (t2 := now + x + y) hok (by omega)
    have hdg := due_gone (t := now + x + y) hok
    rw [pass_twice (show now + x ≤ now + x + y by omega)] at p3
    refine Sy.call_r2 4 ⟨51, 3, (passL (now + x) span qs).length, (passL (now + x) span qs).map encP⟩ ⟨3, 1, (goneL (now + x) span qs).length, (goneL (now + x) span qs).map encI⟩ (.tup [.agg [.v (.int .i64 (now + x)), .v (.int .i64 span), .row 4], .c (.row 5), .c (.v (.int .i64 0))]) Try.call16 (v := fun _ vs => .tuple #[valH ⟨now + x, span, passL (now + x) span qs⟩ (vs.headD undef), (vs.drop 1).headD undef, .int .i64 0])
      (fun e a w' h => by have := pass_any now span (e.rv 2) qs (now + x) w' hn (Sy.row_reads h (.inl ⟨_, rfl⟩)); rw [p1] at this; exact this) ?_
    ((repeat' ((conv => whnf);(first|refine z1 ?_|refine z2 ?_|refine z3 ?_|refine z4 ?_|refine z5 ?_|refine z6 ?_|refine z7 ?_|refine z8 ?_|refine z9 ?_|refine za ?_|refine zb ?_|refine zc ?_|refine zd ?_|refine ze ?_|refine zf ?_|refine zg ?_|refine zh ?_|((first|refine zi ?_ ?_|refine zj ?_ ?_|refine zk ?_ ?_)<;> intro hh <;> first|(exfalso;omega)|skip)|(refine zl ?_ ?_<;> intro hh)|refine zm ?_|refine zn ?_|refine zo ?_|refine zp ?_|refine zq ?_|refine zr ?_|refine zs _ rfl ?_|refine zu ?_|exact Sy.fin_val (fun e=>rfl))));(all_goals (try conv => whnf)))
    have hn1 : I64 (now + x) := by unfold I64; omega
    refine Sy.call_r2 7 ⟨51, 3, (passL (now + x + y) span qs).length, (passL (now + x + y) span qs).map encP⟩ ⟨3, 1, (goneL (now + x + y) span qs).length, (goneL (now + x + y) span qs).map encI⟩ (.tup [.agg [.v (.int .i64 (now + x + y)), .v (.int .i64 span), .row 7], .c (.row 8), .c (.v (.int .i64 0))]) Try.call16 (v := fun _ vs => .tuple #[valH ⟨now + x + y, span, passL (now + x + y) span qs⟩ (vs.headD undef), (vs.drop 1).headD undef, .int .i64 0])
      (fun e a w' h => by have := pass_any now span (e.rv 2) qs (now + x + y) w' hn (Sy.row_reads h (.inl ⟨_, rfl⟩)); rw [p2] at this; exact this) ?_
    ((repeat' ((conv => whnf);(first|refine z1 ?_|refine z2 ?_|refine z3 ?_|refine z4 ?_|refine z5 ?_|refine z6 ?_|refine z7 ?_|refine z8 ?_|refine z9 ?_|refine za ?_|refine zb ?_|refine zc ?_|refine zd ?_|refine ze ?_|refine zf ?_|refine zg ?_|refine zh ?_|((first|refine zi ?_ ?_|refine zj ?_ ?_|refine zk ?_ ?_)<;> intro hh <;> first|(exfalso;omega)|skip)|(refine zl ?_ ?_<;> intro hh)|refine zm ?_|refine zn ?_|refine zo ?_|refine zp ?_|refine zq ?_|refine zr ?_|refine zs _ rfl ?_|refine zu ?_|exact Sy.fin_val (fun e=>rfl))));(all_goals (try conv => whnf)))
    refine Sy.call_r2 10 ⟨51, 3, (passL (now + x + y) span qs).length, (passL (now + x + y) span qs).map encP⟩ ⟨3, 1, (goneL (now + x + y) span (passL (now + x) span qs)).length, (goneL (now + x + y) span (passL (now + x) span qs)).map encI⟩ (.tup [.agg [.v (.int .i64 (now + x + y)), .v (.int .i64 span), .row 10], .c (.row 11), .c (.v (.int .i64 0))]) Try.call16 (v := fun _ vs => .tuple #[valH ⟨now + x + y, span, passL (now + x + y) span qs⟩ (vs.headD undef), (vs.drop 1).headD undef, .int .i64 0])
      (fun e a w' h => by have := pass_any (now + x) span (e.rv 4) (passL (now + x) span qs) (now + x + y) w' hn1 (Sy.row_reads h (.inl ⟨_, rfl⟩)); rw [p3] at this; exact this) ?_
    ((repeat' ((conv => whnf);(first|refine z1 ?_|refine z2 ?_|refine z3 ?_|refine z4 ?_|refine z5 ?_|refine z6 ?_|refine z7 ?_|refine z8 ?_|refine z9 ?_|refine za ?_|refine zb ?_|refine zc ?_|refine zd ?_|refine ze ?_|refine zf ?_|refine zg ?_|refine zh ?_|((first|refine zi ?_ ?_|refine zj ?_ ?_|refine zk ?_ ?_)<;> intro hh <;> first|(exfalso;omega)|skip)|(refine zl ?_ ?_<;> intro hh)|refine zm ?_|refine zn ?_|refine zo ?_|refine zp ?_|refine zq ?_|refine zr ?_|refine zs _ rfl ?_|refine zu ?_|exact Sy.fin_val (fun e=>rfl))));(all_goals (try conv => whnf)))
    refine Sy.call_val (.c (.v (.bool true))) Try.call23 rfl (fun e a w' h => by have := hsame_any (now + x + y) span (now + x + y) span (e.rv 10) (e.rv 7) (passL (now + x + y) span qs) (passL (now + x + y) span qs) w' (Sy.row_reads h (.inl ⟨_, rfl⟩)) (Sy.row_reads h (.inl ⟨_, rfl⟩)); rw [sameB_self] at this; exact this) ?_
    ((repeat' ((conv => whnf);(first|refine z1 ?_|refine z2 ?_|refine z3 ?_|refine z4 ?_|refine z5 ?_|refine z6 ?_|refine z7 ?_|refine z8 ?_|refine z9 ?_|refine za ?_|refine zb ?_|refine zc ?_|refine zd ?_|refine ze ?_|refine zf ?_|refine zg ?_|refine zh ?_|((first|refine zi ?_ ?_|refine zj ?_ ?_|refine zk ?_ ?_)<;> intro hh <;> first|(exfalso;omega)|skip)|(refine zl ?_ ?_<;> intro hh)|refine zm ?_|refine zn ?_|refine zo ?_|refine zp ?_|refine zq ?_|refine zr ?_|refine zs _ rfl ?_|refine zu ?_|exact Sy.fin_val (fun e=>rfl))));(all_goals (try conv => whnf)))
    generalize hP : goneL (now + x) span qs = P at *
    generalize hQ : goneL (now + x + y) span (passL (now + x) span qs) = Q at *
    generalize hR : goneL (now + x + y) span qs = R at *
    refine Sy.call_r1 ⟨3, 1, (P ++ Q).length, (P ++ Q).map encI⟩ (fun j => .c (.row j)) Try.call29 (v := fun _ vs => vs.headD undef) (fun e a w' h => by
      have h5 := Sy.row_reads (k := 5) h (.inl ⟨_, rfl⟩)
      have h11 := Sy.row_reads (k := 11) h (.inl ⟨_, rfl⟩)
      have h13 := (h.hp 13 _ rfl).1.reads.mono (F' := fun b => b < w'.heap.size) (fun b hb => hb.1)
      have := concat_any (e.rv 13) [(e.rv 5, P), (e.rv 11, Q)] w' h13 (fun z hz => by
        rcases List.mem_cons.1 hz with rfl | hz
        · exact h5
        · rcases List.mem_cons.1 hz with rfl | hz
          · exact h11
          · cases hz) (by simp [catL]; omega)
      rw [show catL [(e.rv 5, P), (e.rv 11, Q)] = P ++ Q by simp [catL]] at this
      exact this) ?_
    ((repeat' ((conv => whnf);(first|refine z1 ?_|refine z2 ?_|refine z3 ?_|refine z4 ?_|refine z5 ?_|refine z6 ?_|refine z7 ?_|refine z8 ?_|refine z9 ?_|refine za ?_|refine zb ?_|refine zc ?_|refine zd ?_|refine ze ?_|refine zf ?_|refine zg ?_|refine zh ?_|((first|refine zi ?_ ?_|refine zj ?_ ?_|refine zk ?_ ?_)<;> intro hh <;> first|(exfalso;omega)|skip)|(refine zl ?_ ?_<;> intro hh)|refine zm ?_|refine zn ?_|refine zo ?_|refine zp ?_|refine zq ?_|refine zr ?_|refine zs _ rfl ?_|refine zu ?_|exact Sy.fin_val (fun e=>rfl))));(all_goals (try conv => whnf)))
    have hlen : (P ++ Q).length = R.length := by rw [← hbs, sortL_len]
    refine Sy.call_mut 14 ⟨3, 1, R.length, R.map encI⟩ (.tup []) Try.call30 (fun e a w' h => by
      have := sort_mut (e.rv 14) (P ++ Q) w' (h.hp 14 _ rfl).1 (by rw [List.length_append]; omega)
      rw [hbs, hlen] at this
      exact this) ?_
    ((repeat' ((conv => whnf);(first|refine z1 ?_|refine z2 ?_|refine z3 ?_|refine z4 ?_|refine z5 ?_|refine z6 ?_|refine z7 ?_|refine z8 ?_|refine z9 ?_|refine za ?_|refine zb ?_|refine zc ?_|refine zd ?_|refine ze ?_|refine zf ?_|refine zg ?_|refine zh ?_|((first|refine zi ?_ ?_|refine zj ?_ ?_|refine zk ?_ ?_)<;> intro hh <;> first|(exfalso;omega)|skip)|(refine zl ?_ ?_<;> intro hh)|refine zm ?_|refine zn ?_|refine zo ?_|refine zp ?_|refine zq ?_|refine zr ?_|refine zs _ rfl ?_|refine zu ?_|exact Sy.fin_val (fun e=>rfl))));(all_goals (try conv => whnf)))
    refine Sy.call_val (.c (.v (.bool true))) Try.call14 rfl (fun e a w' h => by have := equalI_any (e.rv 14) (e.rv 8) R R w' (Sy.row_reads h (.inl ⟨_, rfl⟩)) (Sy.row_reads h (.inl ⟨_, rfl⟩)); rw [decide_eq_true rfl] at this; exact this) ?_
    ((repeat' ((conv => whnf);(first|refine z1 ?_|refine z2 ?_|refine z3 ?_|refine z4 ?_|refine z5 ?_|refine z6 ?_|refine z7 ?_|refine z8 ?_|refine z9 ?_|refine za ?_|refine zb ?_|refine zc ?_|refine zd ?_|refine ze ?_|refine zf ?_|refine zg ?_|refine zh ?_|((first|refine zi ?_ ?_|refine zj ?_ ?_|refine zk ?_ ?_)<;> intro hh <;> first|(exfalso;omega)|skip)|(refine zl ?_ ?_<;> intro hh)|refine zm ?_|refine zn ?_|refine zo ?_|refine zp ?_|refine zq ?_|refine zr ?_|refine zs _ rfl ?_|refine zu ?_|exact Sy.fin_val (fun e=>rfl))));(all_goals (try conv => whnf)))
    obtain ⟨du, dk, hdu⟩ : ∃ du dk, dueH now span qs = (du, dk) := ⟨_, _, rfl⟩
    rw [hdu] at hdg
    refine Sy.call_val (.tup [.c (.v (.int .i64 du)), .c (.v (.bool dk))]) Try.call24 rfl (fun e a w' h => by have := due_any now span (e.rv 2) qs w' hn (Sy.row_reads h (.inl ⟨_, rfl⟩)); rw [hdu] at this; exact this) ?_
    simp only at hdg
    cases dk
    · ((repeat' ((conv => whnf);(first|refine z1 ?_|refine z2 ?_|refine z3 ?_|refine z4 ?_|refine z5 ?_|refine z6 ?_|refine z7 ?_|refine z8 ?_|refine z9 ?_|refine za ?_|refine zb ?_|refine zc ?_|refine zd ?_|refine ze ?_|refine zf ?_|refine zg ?_|refine zh ?_|((first|refine zi ?_ ?_|refine zj ?_ ?_|refine zk ?_ ?_)<;> intro hh <;> first|(exfalso;omega)|skip)|(refine zl ?_ ?_<;> intro hh)|refine zm ?_|refine zn ?_|refine zo ?_|refine zp ?_|refine zq ?_|refine zr ?_|refine zs _ rfl ?_|refine zu ?_|exact Sy.fin_val (fun e=>rfl))));(all_goals (try conv => whnf)))
      exact Sy.fin_val (fun e => congrArg Value.bool (by
        have : ¬ 0 < R.length := fun h => by have := (hdg.1 h).1; cases this
        have hR0 : R.length = 0 := by omega
        simp [hR0]))
    · ((repeat' ((conv => whnf);(first|refine z1 ?_|refine z2 ?_|refine z3 ?_|refine z4 ?_|refine z5 ?_|refine z6 ?_|refine z7 ?_|refine z8 ?_|refine z9 ?_|refine za ?_|refine zb ?_|refine zc ?_|refine zd ?_|refine ze ?_|refine zf ?_|refine zg ?_|refine zh ?_|((first|refine zi ?_ ?_|refine zj ?_ ?_|refine zk ?_ ?_)<;> intro hh <;> first|(exfalso;omega)|skip)|(refine zl ?_ ?_<;> intro hh)|refine zm ?_|refine zn ?_|refine zo ?_|refine zp ?_|refine zq ?_|refine zr ?_|refine zs _ rfl ?_|refine zu ?_|exact Sy.fin_val (fun e=>rfl))));(all_goals (try conv => whnf)))
      exact Sy.fin_val (fun e => congrArg Value.bool (by
        by_cases h0 : 0 < R.length
        · have := (hdg.1 h0).2
          simp [this, h0]
        · have : ¬ du ≤ now + x + y := fun h => h0 (hdg.2 ⟨rfl, h⟩)
          have hR0 : R.length = 0 := by omega
          simp [this, hR0]))
  · have p2 := passV_out hok (show ¬ (now ≤ now + x + y ∧ now + x + y ≤ 1099511627776) from by omega)
    refine Sy.call_r2 4 (rowH (passV now span qs (now + x)).1) (rowI (passV now span qs (now + x)).2.1) (.tup [.agg [.v (.int .i64 (passV now span qs (now + x)).1.now), .v (.int .i64 (passV now span qs (now + x)).1.span), .row 4], .c (.row 5), .c (.v (.int .i64 (passV now span qs (now + x)).2.2))]) Try.call16
      (fun e a w' h => pass_any now span (e.rv 2) qs (now + x) w' hn (Sy.row_reads h (.inl ⟨_, rfl⟩))) ?_
    ((repeat' ((conv => whnf);(first|refine z1 ?_|refine z2 ?_|refine z3 ?_|refine z4 ?_|refine z5 ?_|refine z6 ?_|refine z7 ?_|refine z8 ?_|refine z9 ?_|refine za ?_|refine zb ?_|refine zc ?_|refine zd ?_|refine ze ?_|refine zf ?_|refine zg ?_|refine zh ?_|((first|refine zi ?_ ?_|refine zj ?_ ?_|refine zk ?_ ?_)<;> intro hh <;> first|(exfalso;omega)|skip)|(refine zl ?_ ?_<;> intro hh)|refine zm ?_|refine zn ?_|refine zo ?_|refine zp ?_|refine zq ?_|refine zr ?_|refine zs _ rfl ?_|refine zu ?_|exact Sy.fin_val (fun e=>rfl))));(all_goals (try conv => whnf)))
    refine Sy.call_r2 7 ⟨51, 3, 0, []⟩ ⟨3, 1, 0, []⟩ (.tup [.agg [.v (.int .i64 0), .v (.int .i64 0), .row 7], .c (.row 8), .c (.v (.int .i64 2))]) Try.call16 (v := fun _ vs => .tuple #[valH hs0 (vs.headD undef), (vs.drop 1).headD undef, .int .i64 2])
      (fun e a w' h => by have := pass_any now span (e.rv 2) qs (now + x + y) w' hn (Sy.row_reads h (.inl ⟨_, rfl⟩)); rw [p2] at this; exact this) ?_
    ((repeat' ((conv => whnf);(first|refine z1 ?_|refine z2 ?_|refine z3 ?_|refine z4 ?_|refine z5 ?_|refine z6 ?_|refine z7 ?_|refine z8 ?_|refine z9 ?_|refine za ?_|refine zb ?_|refine zc ?_|refine zd ?_|refine ze ?_|refine zf ?_|refine zg ?_|refine zh ?_|((first|refine zi ?_ ?_|refine zj ?_ ?_|refine zk ?_ ?_)<;> intro hh <;> first|(exfalso;omega)|skip)|(refine zl ?_ ?_<;> intro hh)|refine zm ?_|refine zn ?_|refine zo ?_|refine zp ?_|refine zq ?_|refine zr ?_|refine zs _ rfl ?_|refine zu ?_|exact Sy.fin_val (fun e=>rfl))));(all_goals (try conv => whnf)))
    exact Sy.fin_val (fun e => congrArg Value.bool (by simp; omega))
end Go.Proofs.Ytiapcohnjklcfaa
