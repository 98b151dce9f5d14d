/- Slots: the law Tells. -/
import Derived.Test.YtjhjmeajdebcbaaSQ
import Derived.Test.YtjhjmeajdebcbaaSY
import Derived.Test.YtjhjmeajdebcbaaSK
namespace Go.Proofs.Ytjhjmeajdebcbaa
open Go Go.RowKit
open Sy (C SV V1 Blk St XD Els)
set_option maxRecDepth 10000

theorem whr_at2 {ps : List (Int × Int)} (ha : asc ps) {t b : Int} (h : (t, b) ∈ ps) : whrL ps t = (b, true) := by
  obtain ⟨i, hi⟩ := List.mem_iff_getElem?.1 h
  exact whr_hit ha hi rfl
theorem whr_cases2 (ps : List (Int × Int)) (t : Int) : (∃ b, (t, b) ∈ ps ∧ whrL ps t = (b, true)) ∨ ((∀ p ∈ ps, p.1 ≠ t) ∧ whrL ps t = (0, false)) := by
  unfold whrL
  cases hf : ps.find? (fun p => decide (p.1 = t)) with
  | none => exact .inr ⟨fun p hp => by have := List.find?_eq_none.1 hf p hp; simpa using this, rfl⟩
  | some p =>
    have h1 : p.1 = t := of_decide_eq_true (List.find?_some (p := fun p : Int × Int => decide (p.1 = t)) hf)
    exact .inl ⟨p.2, by rw [← h1]; exact List.mem_of_find?_eq_some hf, rfl⟩
attribute [local irreducible] overB FlOk atL atV whrL whrV freeV frL sumL
set_option maxHeartbeats 2000000 in
theorem ltells_any (u v u' v' : Value) (ws ps ws' ps' : List (Int × Int)) (q0 q1 : Int) (w : World) (hu : XD.ok (fun b => b < w.heap.size) w ⟨u, 2, ws.length, ws.map enc2⟩) (hv : XD.ok (fun b => b < w.heap.size) w ⟨v, 2, ps.length, ps.map enc2⟩) (hu' : XD.ok (fun b => b < w.heap.size) w ⟨u', 2, ws'.length, ws'.map enc2⟩) (hv' : XD.ok (fun b => b < w.heap.size) w ⟨v', 2, ps'.length, ps'.map enc2⟩) :
    Calls Try.prog 5 #[.agg #[u, v], .agg #[u', v'], .agg #[.int .i64 q0, .int .i64 q1]] w (Sy.Ret (.bool true) w) := by
  refine Sy.calls_of Sy.lv5 Sy.tab_ok Try.func5 rfl _ Try.ntmps5 [⟨u, 2, ws.length, ws.map enc2⟩, ⟨v, 2, ps.length, ps.map enc2⟩, ⟨u', 2, ws'.length, ws'.map enc2⟩, ⟨v', 2, ps'.length, ps'.map enc2⟩] [.agg [.row 0, .row 1], .agg [.row 2, .row 3], .agg [.v (.int .i64 q0), .v (.int .i64 q1)]] rfl rfl rfl ⟨hu, hv, hu', hv', trivial⟩ ?_
  ((repeat' ((conv => whnf);(first|refine z1 ?_|refine z2 ?_|refine z3 ?_|refine z4 ?_|refine z5 ?_|refine z6 ?_|refine z7 ?_|refine z8 ?_|refine z9 ?_|refine za ?_|refine zb ?_|refine zc ?_|refine zd ?_|refine ze ?_|refine zf ?_|refine zg ?_|refine zh ?_|((first|refine zi ?_ ?_|refine zj ?_ ?_|refine zk ?_ ?_)<;> intro hh <;> first|(exfalso;omega)|skip)|(refine zl ?_ ?_<;> intro hh)|refine zm ?_|refine zn ?_|refine zo ?_|refine zp ?_|refine zq ?_|refine zv ?_|refine zr ?_|refine zs _ rfl ?_|refine zu ?_|exact Sy.fin_val (fun e=>rfl))));(all_goals (try conv => whnf)))
  refine Sy.call_val (.c (.v (.bool true))) Try.call9 rfl (fun e a w' h => wakes_any w') ?_
  ((repeat' ((conv => whnf);(first|refine z1 ?_|refine z2 ?_|refine z3 ?_|refine z4 ?_|refine z5 ?_|refine z6 ?_|refine z7 ?_|refine z8 ?_|refine z9 ?_|refine za ?_|refine zb ?_|refine zc ?_|refine zd ?_|refine ze ?_|refine zf ?_|refine zg ?_|refine zh ?_|((first|refine zi ?_ ?_|refine zj ?_ ?_|refine zk ?_ ?_)<;> intro hh <;> first|(exfalso;omega)|skip)|(refine zl ?_ ?_<;> intro hh)|refine zm ?_|refine zn ?_|refine zo ?_|refine zp ?_|refine zq ?_|refine zv ?_|refine zr ?_|refine zs _ rfl ?_|refine zu ?_|exact Sy.fin_val (fun e=>rfl))));(all_goals (try conv => whnf)))
  refine Sy.call_val (.c (.v (.bool (overB ws ps)))) Try.call13 rfl (fun e a w' h => over_any (e.rv 0) (e.rv 1) ws ps w' (Sy.row_reads h (.inr rfl)) (Sy.row_reads h (.inr rfl))) ?_
  cases h50 : overB ws ps
  · obtain ⟨hw50, hp100⟩ := over_not h50
    ((repeat' ((conv => whnf);(first|refine z1 ?_|refine z2 ?_|refine z3 ?_|refine z4 ?_|refine z5 ?_|refine z6 ?_|refine z7 ?_|refine z8 ?_|refine z9 ?_|refine za ?_|refine zb ?_|refine zc ?_|refine zd ?_|refine ze ?_|refine zf ?_|refine zg ?_|refine zh ?_|((first|refine zi ?_ ?_|refine zj ?_ ?_|refine zk ?_ ?_)<;> intro hh <;> first|(exfalso;omega)|skip)|(refine zl ?_ ?_<;> intro hh)|refine zm ?_|refine zn ?_|refine zo ?_|refine zp ?_|refine zq ?_|refine zv ?_|refine zr ?_|refine zs _ rfl ?_|refine zu ?_|exact Sy.fin_val (fun e=>rfl))));(all_goals (try conv => whnf)))
    refine Sy.call_val (.c (.v (.bool (overB ws' ps')))) Try.call13 rfl (fun e a w' h => over_any (e.rv 2) (e.rv 3) ws' ps' w' (Sy.row_reads h (.inr rfl)) (Sy.row_reads h (.inr rfl))) ?_
    cases h51 : overB ws' ps'
    · obtain ⟨hw51, hp101⟩ := over_not h51
      ((repeat' ((conv => whnf);(first|refine z1 ?_|refine z2 ?_|refine z3 ?_|refine z4 ?_|refine z5 ?_|refine z6 ?_|refine z7 ?_|refine z8 ?_|refine z9 ?_|refine za ?_|refine zb ?_|refine zc ?_|refine zd ?_|refine ze ?_|refine zf ?_|refine zg ?_|refine zh ?_|((first|refine zi ?_ ?_|refine zj ?_ ?_|refine zk ?_ ?_)<;> intro hh <;> first|(exfalso;omega)|skip)|(refine zl ?_ ?_<;> intro hh)|refine zm ?_|refine zn ?_|refine zo ?_|refine zp ?_|refine zq ?_|refine zv ?_|refine zr ?_|refine zs _ rfl ?_|refine zu ?_|exact Sy.fin_val (fun e=>rfl))));(all_goals (try conv => whnf)))
      refine Sy.call_val (.c (.v (.bool (decide (FlOk ws ps))))) Try.call19 rfl (fun e a w' h => rright_any (e.rv 0) (e.rv 1) ws ps w' (Sy.row_reads h (.inr rfl)) (Sy.row_reads h (.inr rfl)) (by omega)) ?_
      ((repeat' ((conv => whnf);(first|refine z1 ?_|refine z2 ?_|refine z3 ?_|refine z4 ?_|refine z5 ?_|refine z6 ?_|refine z7 ?_|refine z8 ?_|refine z9 ?_|refine za ?_|refine zb ?_|refine zc ?_|refine zd ?_|refine ze ?_|refine zf ?_|refine zg ?_|refine zh ?_|((first|refine zi ?_ ?_|refine zj ?_ ?_|refine zk ?_ ?_)<;> intro hh <;> first|(exfalso;omega)|skip)|(refine zl ?_ ?_<;> intro hh)|refine zm ?_|refine zn ?_|refine zo ?_|refine zp ?_|refine zq ?_|refine zv ?_|refine zr ?_|refine zs _ rfl ?_|refine zu ?_|exact Sy.fin_val (fun e=>rfl))));(all_goals (try conv => whnf)))
      refine Sy.call_r2f ⟨31, 2, ws.length, ws.map enc2⟩ ⟨67, 2, ps.length, ps.map enc2⟩ (fun j => .agg [.row j, .row (j + 1)]) Try.call14 (fun e a w' h => copied_any (e.rv 0) (e.rv 1) ws ps w' (Sy.row_reads h (.inr rfl)) (Sy.row_reads h (.inr rfl)) (by omega) (by omega)) ?_
      ((repeat' ((conv => whnf);(first|refine z1 ?_|refine z2 ?_|refine z3 ?_|refine z4 ?_|refine z5 ?_|refine z6 ?_|refine z7 ?_|refine z8 ?_|refine z9 ?_|refine za ?_|refine zb ?_|refine zc ?_|refine zd ?_|refine ze ?_|refine zf ?_|refine zg ?_|refine zh ?_|((first|refine zi ?_ ?_|refine zj ?_ ?_|refine zk ?_ ?_)<;> intro hh <;> first|(exfalso;omega)|skip)|(refine zl ?_ ?_<;> intro hh)|refine zm ?_|refine zn ?_|refine zo ?_|refine zp ?_|refine zq ?_|refine zv ?_|refine zr ?_|refine zs _ rfl ?_|refine zu ?_|exact Sy.fin_val (fun e=>rfl))));(all_goals (try conv => whnf)))
      refine Sy.call_val (.c (.v (.int .i64 (chkE ws ps)))) Try.call20 rfl (fun e a w' h => check_any (e.rv 7) (e.rv 8) ws ps w' (Sy.row_reads h (.inl ⟨_, rfl⟩)) (Sy.row_reads h (.inl ⟨_, rfl⟩)) (by omega)) ?_
      ((repeat' ((conv => whnf);(first|refine z1 ?_|refine z2 ?_|refine z3 ?_|refine z4 ?_|refine z5 ?_|refine z6 ?_|refine z7 ?_|refine z8 ?_|refine z9 ?_|refine za ?_|refine zb ?_|refine zc ?_|refine zd ?_|refine ze ?_|refine zf ?_|refine zg ?_|refine zh ?_|((first|refine zi ?_ ?_|refine zj ?_ ?_|refine zk ?_ ?_)<;> intro hh <;> first|(exfalso;omega)|skip)|(refine zl ?_ ?_<;> intro hh)|refine zm ?_|refine zn ?_|refine zo ?_|refine zp ?_|refine zq ?_|refine zv ?_|refine zr ?_|refine zs _ rfl ?_|refine zu ?_|exact Sy.fin_val (fun e=>rfl))));(all_goals (try conv => whnf)))
      refine Sy.draw_go [] (by kernel_rfl) ?_
      intro e0
      conv => whnf
      refine zt 0 rfl ?_
      conv => whnf
      refine zt 2 rfl ?_
      (conv => whnf);(repeat' ((first|refine z1 ?_|refine z2 ?_|refine z3 ?_|refine z4 ?_|refine z5 ?_|refine z6 ?_|refine z7 ?_|refine z8 ?_|refine z9 ?_|refine za ?_|refine zb ?_|refine zc ?_|refine zd ?_|refine ze ?_|refine zf ?_|refine zg ?_|refine zh ?_|((first|refine zi ?_ ?_|refine zj ?_ ?_|refine zk ?_ ?_)<;> intro hh <;> first|(exfalso;omega)|skip)|(refine zl ?_ ?_<;> intro hh)|refine zm ?_|refine zn ?_|refine zo ?_|refine zp ?_|refine zq ?_|refine zv ?_|refine zr ?_|refine zs _ rfl ?_|refine zu ?_|exact Sy.fin_val (fun e=>rfl));(try conv => whnf)))
      refine zt 3 rfl ?_
      conv => whnf
      refine zd1 [1] (zx rfl ?_ zy)
      conv => whnf
      refine Sy.call_r2f ⟨31, 2, ws.length, ws.map enc2⟩ ⟨67, 2, ps.length, ps.map enc2⟩ (fun j => .agg [.row j, .row (j + 1)]) Try.call14 (fun e a w' h => copied_any (e.rv 0) (e.rv 1) ws ps w' (Sy.row_reads h (.inr rfl)) (Sy.row_reads h (.inr rfl)) (by omega) (by omega)) ?_
      conv => whnf
      refine ⟨(by repeat' ((conv => whnf);first|exact trivial|(refine And.intro ?_ ?_)|rfl)), ?_⟩
      refine zd1 [4] (zx rfl ?_ zy)
      conv => whnf
      refine Sy.call_val (.tup [.c (.v (.int .i64 (whrV ws ps q0).1)), .c (.v (.bool (whrV ws ps q0).2))]) Try.call21 rfl (fun e a w' h => where_any (e.rv 9) (e.rv 10) ws ps q0 w' (Sy.row_reads h (.inl ⟨_, rfl⟩)) (Sy.row_reads h (.inl ⟨_, rfl⟩)) (by omega)) ?_
      conv => whnf
      refine ⟨(by repeat' ((conv => whnf);first|exact trivial|(refine And.intro ?_ ?_)|rfl)), ?_⟩
      refine zt 5 rfl ?_
      conv => whnf
      refine zt 6 rfl ?_
      conv => whnf
      refine zt 7 rfl ?_
      conv => whnf
      refine zt 8 rfl ?_
      conv => whnf
      refine zt 9 rfl ?_
      conv => whnf
      refine zw ?_
      skip
      ((repeat' ((conv => whnf);(first|refine z1 ?_|refine z2 ?_|refine z3 ?_|refine z4 ?_|refine z5 ?_|refine z6 ?_|refine z7 ?_|refine z8 ?_|refine z9 ?_|refine za ?_|refine zb ?_|refine zc ?_|refine zd ?_|refine ze ?_|refine zf ?_|refine zg ?_|refine zh ?_|((first|refine zi ?_ ?_|refine zj ?_ ?_|refine zk ?_ ?_)<;> intro hh <;> first|(exfalso;omega)|skip)|(refine zl ?_ ?_<;> intro hh)|refine zm ?_|refine zn ?_|refine zo ?_|refine zp ?_|refine zq ?_|refine zv ?_|refine zr ?_|refine zs _ rfl ?_|refine zu ?_|exact Sy.fin_val (fun e=>rfl))));(all_goals (try conv => whnf)))
      refine Sy.draw_go [] (by kernel_rfl) ?_
      intro e0
      conv => whnf
      refine zt 0 rfl ?_
      conv => whnf
      refine zt 2 rfl ?_
      (conv => whnf);(repeat' ((first|refine z1 ?_|refine z2 ?_|refine z3 ?_|refine z4 ?_|refine z5 ?_|refine z6 ?_|refine z7 ?_|refine z8 ?_|refine z9 ?_|refine za ?_|refine zb ?_|refine zc ?_|refine zd ?_|refine ze ?_|refine zf ?_|refine zg ?_|refine zh ?_|((first|refine zi ?_ ?_|refine zj ?_ ?_|refine zk ?_ ?_)<;> intro hh <;> first|(exfalso;omega)|skip)|(refine zl ?_ ?_<;> intro hh)|refine zm ?_|refine zn ?_|refine zo ?_|refine zp ?_|refine zq ?_|refine zv ?_|refine zr ?_|refine zs _ rfl ?_|refine zu ?_|exact Sy.fin_val (fun e=>rfl));(try conv => whnf)))
      refine zt 3 rfl ?_
      conv => whnf
      refine zd1 [1] (zx rfl ?_ zy)
      conv => whnf
      refine Sy.call_r2f ⟨31, 2, ws.length, ws.map enc2⟩ ⟨67, 2, ps.length, ps.map enc2⟩ (fun j => .agg [.row j, .row (j + 1)]) Try.call14 (fun e a w' h => copied_any (e.rv 0) (e.rv 1) ws ps w' (Sy.row_reads h (.inr rfl)) (Sy.row_reads h (.inr rfl)) (by omega) (by omega)) ?_
      conv => whnf
      refine ⟨(by repeat' ((conv => whnf);first|exact trivial|(refine And.intro ?_ ?_)|rfl)), ?_⟩
      refine zd1 [4] (zx rfl ?_ zy)
      conv => whnf
      refine Sy.call_r1 ⟨3, 1, (atV ws ps q1).length, (atV ws ps q1).map encI⟩ (fun j => .c (.row j)) Try.call12 (fun e a w' h => pat_any (e.rv 11) (e.rv 12) ws ps q1 w' (Sy.row_reads h (.inl ⟨_, rfl⟩)) (Sy.row_reads h (.inl ⟨_, rfl⟩)) (by omega)) ?_
      conv => whnf
      refine ⟨(by repeat' ((conv => whnf);first|exact trivial|(refine And.intro ?_ ?_)|rfl)), ?_⟩
      refine zt 5 rfl ?_
      conv => whnf
      refine zw ?_
      skip
      ((repeat' ((conv => whnf);(first|refine z1 ?_|refine z2 ?_|refine z3 ?_|refine z4 ?_|refine z5 ?_|refine z6 ?_|refine z7 ?_|refine z8 ?_|refine z9 ?_|refine za ?_|refine zb ?_|refine zc ?_|refine zd ?_|refine ze ?_|refine zf ?_|refine zg ?_|refine zh ?_|((first|refine zi ?_ ?_|refine zj ?_ ?_|refine zk ?_ ?_)<;> intro hh <;> first|(exfalso;omega)|skip)|(refine zl ?_ ?_<;> intro hh)|refine zm ?_|refine zn ?_|refine zo ?_|refine zp ?_|refine zq ?_|refine zv ?_|refine zr ?_|refine zs _ rfl ?_|refine zu ?_|exact Sy.fin_val (fun e=>rfl))));(all_goals (try conv => whnf)))
      refine Sy.call_r2f ⟨31, 2, ws.length, ws.map enc2⟩ ⟨67, 2, ps.length, ps.map enc2⟩ (fun j => .agg [.row j, .row (j + 1)]) Try.call14 (fun e a w' h => copied_any (e.rv 0) (e.rv 1) ws ps w' (Sy.row_reads h (.inr rfl)) (Sy.row_reads h (.inr rfl)) (by omega) (by omega)) ?_
      ((repeat' ((conv => whnf);(first|refine z1 ?_|refine z2 ?_|refine z3 ?_|refine z4 ?_|refine z5 ?_|refine z6 ?_|refine z7 ?_|refine z8 ?_|refine z9 ?_|refine za ?_|refine zb ?_|refine zc ?_|refine zd ?_|refine ze ?_|refine zf ?_|refine zg ?_|refine zh ?_|((first|refine zi ?_ ?_|refine zj ?_ ?_|refine zk ?_ ?_)<;> intro hh <;> first|(exfalso;omega)|skip)|(refine zl ?_ ?_<;> intro hh)|refine zm ?_|refine zn ?_|refine zo ?_|refine zp ?_|refine zq ?_|refine zv ?_|refine zr ?_|refine zs _ rfl ?_|refine zu ?_|exact Sy.fin_val (fun e=>rfl))));(all_goals (try conv => whnf)))
      refine Sy.call_val (.c (.v (.int .i64 (freeV ws ps)))) Try.call22 rfl (fun e a w' h => free_any (e.rv 14) (e.rv 15) ws ps w' (Sy.row_reads h (.inl ⟨_, rfl⟩)) (Sy.row_reads h (.inl ⟨_, rfl⟩)) (by omega)) ?_
      rcases (⟨_, rfl⟩ : ∃ sm, sm = decide (ws = ws' ∧ ps = ps')) with ⟨sm, hsm⟩
      obtain ⟨cc, hcc, hcv⟩ : ∃ c : Int, c = chkE ws ps ∧ c = if FlOk ws ps then 0 else 210 := ⟨_, rfl, by unfold chkE; rfl⟩
      obtain ⟨ok, hok⟩ : ∃ b : Bool, b = decide (FlOk ws ps) := ⟨_, rfl⟩
      rw [← hcc, ← hok]
      have hcs : (ok = true ∧ cc = 0 ∧ FlOk ws ps ∧ atV ws ps q1 = atL ps q1 ∧ freeV ws ps = sumL (frL ws ps) ∧ ((∃ k : Nat, k < 4 ∧ whrV ws ps q0 = ((k : Int) + 1, true) ∧ whrR ps q0 = (k : Int) + 1) ∨ (whrV ws ps q0 = (0, false) ∧ whrR ps q0 = 0))) ∨ (ok = false ∧ cc = 210 ∧ atV ws ps q1 = [] ∧ freeV ws ps = 0 ∧ whrV ws ps q0 = (0, false)) := by
        by_cases hf : FlOk ws ps
        · refine .inl ⟨by rw [hok, decide_eq_true hf], by rw [hcv, if_pos hf], hf, by unfold atV; rw [if_pos hf], by unfold freeV; rw [if_pos hf], ?_⟩
          have hwv : whrV ws ps q0 = whrL ps q0 := by unfold whrV; rw [if_pos hf]
          rw [hwv]
          rcases whr_cases2 ps q0 with ⟨b, hb, he⟩ | ⟨_, he⟩
          · refine .inl ⟨(b - 1).toNat, ?_⟩
            have h14 : 1 ≤ b ∧ b ≤ 4 := by
              unfold FlOk at hf
              obtain ⟨p, hp, hpb⟩ := (hf.2.1.1 _ hb).2
              have := hf.1.1 p hp
              unfold okW at this
              dsimp only at hpb
              omega
            rw [show (((b - 1).toNat : Nat) : Int) + 1 = b by omega]
            exact ⟨by omega, he, by unfold whrR; rw [he]⟩
          · exact .inr ⟨he, by unfold whrR; rw [he]⟩
        · exact .inr ⟨by rw [hok, decide_eq_false hf], by rw [hcv, if_neg hf], by unfold atV; rw [if_neg hf], by unfold freeV; rw [if_neg hf], by unfold whrV; rw [if_neg hf]⟩
      clear hok hcc hcv
      ((repeat' ((conv => whnf);(first|refine z1 ?_|refine z2 ?_|refine z3 ?_|refine z4 ?_|refine z5 ?_|refine z6 ?_|refine z7 ?_|refine z8 ?_|refine z9 ?_|refine za ?_|refine zb ?_|refine zc ?_|refine zd ?_|refine ze ?_|refine zf ?_|refine zg ?_|refine zh ?_|((first|refine zi ?_ ?_|refine zj ?_ ?_|refine zk ?_ ?_)<;> intro hh <;> first|(exfalso;omega)|skip)|(refine zl ?_ ?_<;> intro hh)|refine zm ?_|refine zn ?_|refine zo ?_|refine zp ?_|refine zq ?_|refine zv ?_|refine zr ?_|refine zs _ rfl ?_|refine zu ?_|exact Sy.fin_val (fun e=>rfl))));(all_goals (try conv => whnf)))
      have hne : (sm != sm) = false := by cases sm <;> rfl
      refine Sy.draw_go [] (by kernel_rfl) ?_
      intro e0
      conv => whnf
      refine zt 0 rfl ?_
      conv => whnf
      refine zt 1 rfl ?_
      conv => whnf
      refine zt 3 rfl ?_
      conv => whnf
      refine zt 4 rfl ?_
      conv => whnf
      refine zd1 [2] (zx rfl ?_ zy)
      conv => whnf
      refine Sy.call_val (.c (.v (.bool sm))) Try.call23 rfl (fun e a w' h => by rw [hsm]; exact psame_any (e.rv 0) (e.rv 1) (e.rv 2) (e.rv 3) ws ps ws' ps' w' (Sy.row_reads h (.inr rfl)) (Sy.row_reads h (.inr rfl)) (Sy.row_reads h (.inr rfl)) (Sy.row_reads h (.inr rfl))) ?_
      conv => whnf
      refine ⟨(by repeat' ((conv => whnf);first|exact trivial|(refine And.intro ?_ ?_)|rfl)), ?_⟩
      refine zd1 [5] (zx rfl ?_ zy)
      conv => whnf
      refine Sy.call_val (.c (.v (.bool sm))) Try.call18 rfl (fun e a w' h => by rw [hsm]; exact rsame_any (e.rv 0) (e.rv 1) (e.rv 2) (e.rv 3) ws ps ws' ps' w' (Sy.row_reads h (.inr rfl)) (Sy.row_reads h (.inr rfl)) (Sy.row_reads h (.inr rfl)) (Sy.row_reads h (.inr rfl))) ?_
      conv => whnf
      refine ⟨(by repeat' ((conv => whnf);first|exact trivial|(refine And.intro ?_ ?_)|rfl)), ?_⟩
      refine zt 6 rfl ?_
      (conv => whnf);(repeat' ((first|refine z1 ?_|refine z2 ?_|refine z3 ?_|refine z4 ?_|refine z5 ?_|refine z6 ?_|refine z7 ?_|refine z8 ?_|refine z9 ?_|refine za ?_|refine zb ?_|refine zc ?_|refine zd ?_|refine ze ?_|refine zf ?_|refine zg ?_|refine zh ?_|((first|refine zi ?_ ?_|refine zj ?_ ?_|refine zk ?_ ?_)<;> intro hh <;> first|(exfalso;omega)|skip)|(refine zl ?_ ?_<;> intro hh)|refine zm ?_|refine zn ?_|refine zo ?_|refine zp ?_|refine zq ?_|refine zv ?_|refine zr ?_|refine zs _ rfl ?_|refine zu ?_|exact Sy.fin_val (fun e=>rfl));(try conv => whnf)))
      refine zt 7 rfl ?_
      conv => whnf
      refine zt 8 rfl ?_
      (conv => whnf);(repeat' ((first|refine z1 ?_|refine z2 ?_|refine z3 ?_|refine z4 ?_|refine z5 ?_|refine z6 ?_|refine z7 ?_|refine z8 ?_|refine z9 ?_|refine za ?_|refine zb ?_|refine zc ?_|refine zd ?_|refine ze ?_|refine zf ?_|refine zg ?_|refine zh ?_|((first|refine zi ?_ ?_|refine zj ?_ ?_|refine zk ?_ ?_)<;> intro hh <;> first|(exfalso;omega)|skip)|(refine zl ?_ ?_<;> intro hh)|refine zm ?_|refine zn ?_|refine zo ?_|refine zp ?_|refine zq ?_|refine zv ?_|refine zr ?_|refine zs _ rfl ?_|refine zu ?_|exact Sy.fin_val (fun e=>rfl));(try conv => whnf)))
      refine zt 9 rfl ?_
      (conv => whnf);(repeat' ((first|refine z1 ?_|refine z2 ?_|refine z3 ?_|refine z4 ?_|refine z5 ?_|refine z6 ?_|refine z7 ?_|refine z8 ?_|refine z9 ?_|refine za ?_|refine zb ?_|refine zc ?_|refine zd ?_|refine ze ?_|refine zf ?_|refine zg ?_|refine zh ?_|((first|refine zi ?_ ?_|refine zj ?_ ?_|refine zk ?_ ?_)<;> intro hh <;> first|(exfalso;omega)|skip)|(refine zl ?_ ?_<;> intro hh)|refine zm ?_|refine zn ?_|refine zo ?_|refine zp ?_|refine zq ?_|refine zv ?_|refine zr ?_|refine zs _ rfl ?_|refine zu ?_|exact Sy.fin_val (fun e=>rfl));(try conv => whnf)))
      refine zd1 [10] (zx rfl ?_ zy)
      conv => whnf
      ((first|refine z1 ?_|refine z2 ?_|refine z3 ?_|refine z4 ?_);conv => whnf)
      refine Sy.call_r2f ⟨31, 2, ws.length, ws.map enc2⟩ ⟨67, 2, ps.length, ps.map enc2⟩ (fun j => .agg [.row j, .row (j + 1)]) Try.call14 (fun e a w' h => copied_any (e.rv 0) (e.rv 1) ws ps w' (Sy.row_reads h (.inr rfl)) (Sy.row_reads h (.inr rfl)) (by omega) (by omega)) ?_
      conv => whnf
      refine ⟨(by repeat' ((conv => whnf);first|exact trivial|(refine And.intro ?_ ?_)|rfl)), ?_⟩
      refine zd1 [11] (zx rfl ?_ zy)
      conv => whnf
      ((first|refine z1 ?_|refine z2 ?_|refine z3 ?_|refine z4 ?_);conv => whnf)
      refine Sy.call_val (.c (.v (.bool true))) Try.call23 rfl (fun e a w' h => by have := psame_any (e.rv 0) (e.rv 1) (e.rv 16) (e.rv 17) ws ps ws ps w' (Sy.row_reads h (.inr rfl)) (Sy.row_reads h (.inr rfl)) (Sy.row_reads h (.inl ⟨_, rfl⟩)) (Sy.row_reads h (.inl ⟨_, rfl⟩)); rw [decide_eq_true ⟨rfl, rfl⟩] at this; exact this) ?_
      conv => whnf
      refine ⟨(by repeat' ((conv => whnf);first|exact trivial|(refine And.intro ?_ ?_)|rfl)), ?_⟩
      refine zt 12 rfl ?_
      (conv => whnf);(repeat' ((first|refine z1 ?_|refine z2 ?_|refine z3 ?_|refine z4 ?_|refine z5 ?_|refine z6 ?_|refine z7 ?_|refine z8 ?_|refine z9 ?_|refine za ?_|refine zb ?_|refine zc ?_|refine zd ?_|refine ze ?_|refine zf ?_|refine zg ?_|refine zh ?_|((first|refine zi ?_ ?_|refine zj ?_ ?_|refine zk ?_ ?_)<;> intro hh <;> first|(exfalso;omega)|skip)|(refine zl ?_ ?_<;> intro hh)|refine zm ?_|refine zn ?_|refine zo ?_|refine zp ?_|refine zq ?_|refine zv ?_|refine zr ?_|refine zs _ rfl ?_|refine zu ?_|exact Sy.fin_val (fun e=>rfl));(try conv => whnf)))
      refine zt 13 rfl ?_
      (conv => whnf);(repeat' ((first|refine z1 ?_|refine z2 ?_|refine z3 ?_|refine z4 ?_|refine z5 ?_|refine z6 ?_|refine z7 ?_|refine z8 ?_|refine z9 ?_|refine za ?_|refine zb ?_|refine zc ?_|refine zd ?_|refine ze ?_|refine zf ?_|refine zg ?_|refine zh ?_|((first|refine zi ?_ ?_|refine zj ?_ ?_|refine zk ?_ ?_)<;> intro hh <;> first|(exfalso;omega)|skip)|(refine zl ?_ ?_<;> intro hh)|refine zm ?_|refine zn ?_|refine zo ?_|refine zp ?_|refine zq ?_|refine zv ?_|refine zr ?_|refine zs _ rfl ?_|refine zu ?_|exact Sy.fin_val (fun e=>rfl));(try conv => whnf)))
      refine zw ?_
      skip
      rcases hcs with ⟨rfl, rfl, hf, h3, h4, h5⟩ | ⟨rfl, rfl, h3, h4, h5⟩
      · have ha : asc ps := by unfold FlOk at hf; exact hf.2.1.2
        rw [h3, h4]
        rcases h5 with ⟨k, hk, h5, h6⟩ | ⟨h5, h6⟩
        · rw [show (whrV ws ps q0).1 = _ from congrArg Prod.fst h5, show (whrV ws ps q0).2 = _ from congrArg Prod.snd h5]
          dsimp only
          have hpos : (true == decide ((0 : Int) < (k : Int) + 1)) = true := by rw [decide_eq_true (by omega)]; rfl
          have hkk : ((k : Int) + 1 == (k : Int) + 1) = true := by rw [beq_self_eq_true]
          ((repeat' ((conv => whnf);(first|refine z1 ?_|refine z2 ?_|refine z3 ?_|refine z4 ?_|refine z5 ?_|refine z6 ?_|refine z7 ?_|refine z8 ?_|refine z9 ?_|refine za ?_|refine zb ?_|refine zc ?_|refine zd ?_|refine ze ?_|refine zf ?_|refine zg ?_|refine zh ?_|((first|refine zi ?_ ?_|refine zj ?_ ?_|refine zk ?_ ?_)<;> intro hh <;> first|(exfalso;omega)|skip)|(refine zl ?_ ?_<;> intro hh)|refine zm ?_|refine zn ?_|refine zo ?_|refine zp ?_|refine zq ?_|refine zv ?_|refine zr ?_|refine zs _ rfl ?_|refine zu ?_|exact Sy.fin_val (fun e=>rfl))));(all_goals (try conv => whnf)))
          refine Sy.call_val (.c (.v (.int .i64 ((k : Int) + 1)))) Try.call24 rfl (fun e a w' h => by have := rwhere_any (e.rv 0) (e.rv 1) ws ps q0 w' ha (Sy.row_reads h (.inr rfl)) (Sy.row_reads h (.inr rfl)); rw [h6] at this; exact this) ?_
          ((repeat' ((conv => whnf);(first|refine z1 ?_|refine z2 ?_|refine z3 ?_|refine z4 ?_|refine z5 ?_|refine z6 ?_|refine z7 ?_|refine z8 ?_|refine z9 ?_|refine za ?_|refine zb ?_|refine zc ?_|refine zd ?_|refine ze ?_|refine zf ?_|refine zg ?_|refine zh ?_|((first|refine zi ?_ ?_|refine zj ?_ ?_|refine zk ?_ ?_)<;> intro hh <;> first|(exfalso;omega)|skip)|(refine zl ?_ ?_<;> intro hh)|refine zm ?_|refine zn ?_|refine zo ?_|refine zp ?_|refine zq ?_|refine zv ?_|refine zr ?_|refine zs _ rfl ?_|refine zu ?_|exact Sy.fin_val (fun e=>rfl))));(all_goals (try conv => whnf)))
          refine Sy.call_r1 ⟨3, 1, (atL ps q1).length, (atL ps q1).map encI⟩ (fun j => .c (.row j)) Try.call26 (fun e a w' h => rat_any (e.rv 0) (e.rv 1) ws ps q1 w' (Sy.row_reads h (.inr rfl)) (Sy.row_reads h (.inr rfl)) (by omega)) ?_
          ((repeat' ((conv => whnf);(first|refine z1 ?_|refine z2 ?_|refine z3 ?_|refine z4 ?_|refine z5 ?_|refine z6 ?_|refine z7 ?_|refine z8 ?_|refine z9 ?_|refine za ?_|refine zb ?_|refine zc ?_|refine zd ?_|refine ze ?_|refine zf ?_|refine zg ?_|refine zh ?_|((first|refine zi ?_ ?_|refine zj ?_ ?_|refine zk ?_ ?_)<;> intro hh <;> first|(exfalso;omega)|skip)|(refine zl ?_ ?_<;> intro hh)|refine zm ?_|refine zn ?_|refine zo ?_|refine zp ?_|refine zq ?_|refine zv ?_|refine zr ?_|refine zs _ rfl ?_|refine zu ?_|exact Sy.fin_val (fun e=>rfl))));(all_goals (try conv => whnf)))
          refine Sy.call_val (.c (.v (.bool true))) Try.call25 rfl (fun e a w' h => by have := same_any (e.rv 13) (e.rv 18) (atL ps q1) (atL ps q1) w' (Sy.row_reads h (.inl ⟨_, rfl⟩)) (Sy.row_reads h (.inl ⟨_, rfl⟩)); rw [decide_eq_true rfl] at this; exact this) ?_
          ((repeat' ((conv => whnf);(first|refine z1 ?_|refine z2 ?_|refine z3 ?_|refine z4 ?_|refine z5 ?_|refine z6 ?_|refine z7 ?_|refine z8 ?_|refine z9 ?_|refine za ?_|refine zb ?_|refine zc ?_|refine zd ?_|refine ze ?_|refine zf ?_|refine zg ?_|refine zh ?_|((first|refine zi ?_ ?_|refine zj ?_ ?_|refine zk ?_ ?_)<;> intro hh <;> first|(exfalso;omega)|skip)|(refine zl ?_ ?_<;> intro hh)|refine zm ?_|refine zn ?_|refine zo ?_|refine zp ?_|refine zq ?_|refine zv ?_|refine zr ?_|refine zs _ rfl ?_|refine zu ?_|exact Sy.fin_val (fun e=>rfl))));(all_goals (try conv => whnf)))
          refine Sy.call_val (.c (.v (.int .i64 (sumL (frL ws ps))))) Try.call27 rfl (fun e a w' h => rfree_any (e.rv 0) (e.rv 1) ws ps w' hf (Sy.row_reads h (.inr rfl)) (Sy.row_reads h (.inr rfl))) ?_
          ((repeat' ((conv => whnf);(first|refine z1 ?_|refine z2 ?_|refine z3 ?_|refine z4 ?_|refine z5 ?_|refine z6 ?_|refine z7 ?_|refine z8 ?_|refine z9 ?_|refine za ?_|refine zb ?_|refine zc ?_|refine zd ?_|refine ze ?_|refine zf ?_|refine zg ?_|refine zh ?_|((first|refine zi ?_ ?_|refine zj ?_ ?_|refine zk ?_ ?_)<;> intro hh <;> first|(exfalso;omega)|skip)|(refine zl ?_ ?_<;> intro hh)|refine zm ?_|refine zn ?_|refine zo ?_|refine zp ?_|refine zq ?_|refine zv ?_|refine zr ?_|refine zs _ rfl ?_|refine zu ?_|exact Sy.fin_val (fun e=>rfl))));(all_goals (try conv => whnf)))
          exact Sy.fin_val (fun e => by show Value.bool (sumL (frL ws ps) == sumL (frL ws ps)) = .bool true; rw [beq_self_eq_true])
        · rw [show (whrV ws ps q0).1 = _ from congrArg Prod.fst h5, show (whrV ws ps q0).2 = _ from congrArg Prod.snd h5]
          dsimp only
          ((repeat' ((conv => whnf);(first|refine z1 ?_|refine z2 ?_|refine z3 ?_|refine z4 ?_|refine z5 ?_|refine z6 ?_|refine z7 ?_|refine z8 ?_|refine z9 ?_|refine za ?_|refine zb ?_|refine zc ?_|refine zd ?_|refine ze ?_|refine zf ?_|refine zg ?_|refine zh ?_|((first|refine zi ?_ ?_|refine zj ?_ ?_|refine zk ?_ ?_)<;> intro hh <;> first|(exfalso;omega)|skip)|(refine zl ?_ ?_<;> intro hh)|refine zm ?_|refine zn ?_|refine zo ?_|refine zp ?_|refine zq ?_|refine zv ?_|refine zr ?_|refine zs _ rfl ?_|refine zu ?_|exact Sy.fin_val (fun e=>rfl))));(all_goals (try conv => whnf)))
          refine Sy.call_val (.c (.v (.int .i64 0))) Try.call24 rfl (fun e a w' h => by have := rwhere_any (e.rv 0) (e.rv 1) ws ps q0 w' ha (Sy.row_reads h (.inr rfl)) (Sy.row_reads h (.inr rfl)); rw [h6] at this; exact this) ?_
          ((repeat' ((conv => whnf);(first|refine z1 ?_|refine z2 ?_|refine z3 ?_|refine z4 ?_|refine z5 ?_|refine z6 ?_|refine z7 ?_|refine z8 ?_|refine z9 ?_|refine za ?_|refine zb ?_|refine zc ?_|refine zd ?_|refine ze ?_|refine zf ?_|refine zg ?_|refine zh ?_|((first|refine zi ?_ ?_|refine zj ?_ ?_|refine zk ?_ ?_)<;> intro hh <;> first|(exfalso;omega)|skip)|(refine zl ?_ ?_<;> intro hh)|refine zm ?_|refine zn ?_|refine zo ?_|refine zp ?_|refine zq ?_|refine zv ?_|refine zr ?_|refine zs _ rfl ?_|refine zu ?_|exact Sy.fin_val (fun e=>rfl))));(all_goals (try conv => whnf)))
          refine Sy.call_r1 ⟨3, 1, (atL ps q1).length, (atL ps q1).map encI⟩ (fun j => .c (.row j)) Try.call26 (fun e a w' h => rat_any (e.rv 0) (e.rv 1) ws ps q1 w' (Sy.row_reads h (.inr rfl)) (Sy.row_reads h (.inr rfl)) (by omega)) ?_
          ((repeat' ((conv => whnf);(first|refine z1 ?_|refine z2 ?_|refine z3 ?_|refine z4 ?_|refine z5 ?_|refine z6 ?_|refine z7 ?_|refine z8 ?_|refine z9 ?_|refine za ?_|refine zb ?_|refine zc ?_|refine zd ?_|refine ze ?_|refine zf ?_|refine zg ?_|refine zh ?_|((first|refine zi ?_ ?_|refine zj ?_ ?_|refine zk ?_ ?_)<;> intro hh <;> first|(exfalso;omega)|skip)|(refine zl ?_ ?_<;> intro hh)|refine zm ?_|refine zn ?_|refine zo ?_|refine zp ?_|refine zq ?_|refine zv ?_|refine zr ?_|refine zs _ rfl ?_|refine zu ?_|exact Sy.fin_val (fun e=>rfl))));(all_goals (try conv => whnf)))
          refine Sy.call_val (.c (.v (.bool true))) Try.call25 rfl (fun e a w' h => by have := same_any (e.rv 13) (e.rv 18) (atL ps q1) (atL ps q1) w' (Sy.row_reads h (.inl ⟨_, rfl⟩)) (Sy.row_reads h (.inl ⟨_, rfl⟩)); rw [decide_eq_true rfl] at this; exact this) ?_
          ((repeat' ((conv => whnf);(first|refine z1 ?_|refine z2 ?_|refine z3 ?_|refine z4 ?_|refine z5 ?_|refine z6 ?_|refine z7 ?_|refine z8 ?_|refine z9 ?_|refine za ?_|refine zb ?_|refine zc ?_|refine zd ?_|refine ze ?_|refine zf ?_|refine zg ?_|refine zh ?_|((first|refine zi ?_ ?_|refine zj ?_ ?_|refine zk ?_ ?_)<;> intro hh <;> first|(exfalso;omega)|skip)|(refine zl ?_ ?_<;> intro hh)|refine zm ?_|refine zn ?_|refine zo ?_|refine zp ?_|refine zq ?_|refine zv ?_|refine zr ?_|refine zs _ rfl ?_|refine zu ?_|exact Sy.fin_val (fun e=>rfl))));(all_goals (try conv => whnf)))
          refine Sy.call_val (.c (.v (.int .i64 (sumL (frL ws ps))))) Try.call27 rfl (fun e a w' h => rfree_any (e.rv 0) (e.rv 1) ws ps w' hf (Sy.row_reads h (.inr rfl)) (Sy.row_reads h (.inr rfl))) ?_
          ((repeat' ((conv => whnf);(first|refine z1 ?_|refine z2 ?_|refine z3 ?_|refine z4 ?_|refine z5 ?_|refine z6 ?_|refine z7 ?_|refine z8 ?_|refine z9 ?_|refine za ?_|refine zb ?_|refine zc ?_|refine zd ?_|refine ze ?_|refine zf ?_|refine zg ?_|refine zh ?_|((first|refine zi ?_ ?_|refine zj ?_ ?_|refine zk ?_ ?_)<;> intro hh <;> first|(exfalso;omega)|skip)|(refine zl ?_ ?_<;> intro hh)|refine zm ?_|refine zn ?_|refine zo ?_|refine zp ?_|refine zq ?_|refine zv ?_|refine zr ?_|refine zs _ rfl ?_|refine zu ?_|exact Sy.fin_val (fun e=>rfl))));(all_goals (try conv => whnf)))
          exact Sy.fin_val (fun e => by show Value.bool (sumL (frL ws ps) == sumL (frL ws ps)) = .bool true; rw [beq_self_eq_true])
      · rw [h3, h4, h5]
        ((repeat' ((conv => whnf);(first|refine z1 ?_|refine z2 ?_|refine z3 ?_|refine z4 ?_|refine z5 ?_|refine z6 ?_|refine z7 ?_|refine z8 ?_|refine z9 ?_|refine za ?_|refine zb ?_|refine zc ?_|refine zd ?_|refine ze ?_|refine zf ?_|refine zg ?_|refine zh ?_|((first|refine zi ?_ ?_|refine zj ?_ ?_|refine zk ?_ ?_)<;> intro hh <;> first|(exfalso;omega)|skip)|(refine zl ?_ ?_<;> intro hh)|refine zm ?_|refine zn ?_|refine zo ?_|refine zp ?_|refine zq ?_|refine zv ?_|refine zr ?_|refine zs _ rfl ?_|refine zu ?_|exact Sy.fin_val (fun e=>rfl))));(all_goals (try conv => whnf)))
        all_goals done
    · ((repeat' ((conv => whnf);(first|refine z1 ?_|refine z2 ?_|refine z3 ?_|refine z4 ?_|refine z5 ?_|refine z6 ?_|refine z7 ?_|refine z8 ?_|refine z9 ?_|refine za ?_|refine zb ?_|refine zc ?_|refine zd ?_|refine ze ?_|refine zf ?_|refine zg ?_|refine zh ?_|((first|refine zi ?_ ?_|refine zj ?_ ?_|refine zk ?_ ?_)<;> intro hh <;> first|(exfalso;omega)|skip)|(refine zl ?_ ?_<;> intro hh)|refine zm ?_|refine zn ?_|refine zo ?_|refine zp ?_|refine zq ?_|refine zv ?_|refine zr ?_|refine zs _ rfl ?_|refine zu ?_|exact Sy.fin_val (fun e=>rfl))));(all_goals (try conv => whnf)))
      all_goals done
  · ((repeat' ((conv => whnf);(first|refine z1 ?_|refine z2 ?_|refine z3 ?_|refine z4 ?_|refine z5 ?_|refine z6 ?_|refine z7 ?_|refine z8 ?_|refine z9 ?_|refine za ?_|refine zb ?_|refine zc ?_|refine zd ?_|refine ze ?_|refine zf ?_|refine zg ?_|refine zh ?_|((first|refine zi ?_ ?_|refine zj ?_ ?_|refine zk ?_ ?_)<;> intro hh <;> first|(exfalso;omega)|skip)|(refine zl ?_ ?_<;> intro hh)|refine zm ?_|refine zn ?_|refine zo ?_|refine zp ?_|refine zq ?_|refine zv ?_|refine zr ?_|refine zs _ rfl ?_|refine zu ?_|exact Sy.fin_val (fun e=>rfl))));(all_goals (try conv => whnf)))
    all_goals done
end Go.Proofs.Ytjhjmeajdebcbaa
