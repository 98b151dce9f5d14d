/- Plan: the law Routes. -/
import Derived.Test.YtcjiaiojkciheaaPR
import Derived.Test.YtcjiaiojkciheaaPQ
namespace Go.Proofs.Ytcjiaiojkciheaa
open Go Go.RowKit
open Sy (C SV V1 Blk St XD Els)
set_option maxRecDepth 10000

theorem pick_congr {p q : Nat × Nat → Bool} {l : List (Nat × Nat)} (h : ∀ c ∈ l, p c = q c) : pick p l = pick q l := by
  unfold pick
  congr 1
  refine List.filter_congr fun j hj => ?_
  have hj := List.mem_range.1 hj
  rw [List.getElem?_eq_getElem hj]
  exact h _ (List.getElem_mem hj)
theorem sub_small {g : List Opr} (hg : goodTo g g.length) {s : Nat × Nat} (h : s.1 < g.length) (h2 : s.2 < widN g s.1) : widN g s.1 < 4 ∧ s.2 < 3 := by
  have := widN_good hg h (List.getElem?_eq_getElem h)
  omega
theorem bit_own {g : List Opr} (hg : goodTo g g.length) {i j : Nat} {a b : Nat × Nat} {gr : Nat} (hgr : gr < 8) (ha : (subsL g)[i]? = some a) (hb : (subsL g)[j]? = some b) : bitB g (subsL g) gr (i, j) = (ownB (widN g a.1) a.2 gr && ownB (widN g b.1) b.2 gr) := by
  obtain ⟨a1, a2⟩ := subsL_mem hg (List.mem_of_getElem? ha)
  obtain ⟨b1, b2⟩ := subsL_mem hg (List.mem_of_getElem? hb)
  have wa := sub_small hg a1 a2
  have wb := sub_small hg b1 b2
  rw [bitB_of g gr ha hb, Bool.eq_iff_iff, beq_iff_eq]
  exact both_bit _ wa.1 _ wa.2 _ wb.1 _ wb.2 gr hgr
theorem via_goes {g : List Opr} (hg : goodTo g g.length) {n : Int} {gr : Nat} (hgr : gr < 8) (hs : subE g n = 0) (ho : ownB (widN g (subV g n).1) (subV g n).2 gr = true) : pick (viaB g (subsL g) n gr) (chansL g) = pick (goesB g (subsL g) n gr) (chansL g) := by
  refine pick_congr fun c hc => ?_
  obtain ⟨h1, h2, _⟩ := chansL_mem hc
  unfold viaB goesB
  by_cases hn : (c.1 : Int) = n
  · rw [decide_eq_true hn, Bool.true_and, Bool.true_and]
    have ha := (subV_in hg hs).2.2.1
    rw [show n.toNat = c.1 by omega] at ha
    have hb := List.getElem?_eq_getElem h2
    have := bit_own hg hgr ha hb
    rw [ho, Bool.true_and] at this
    rw [hb]
    exact this
  · rw [decide_eq_false hn]; rfl
attribute [local irreducible] checkV subN chN pick subE subV recE hasE hasB routeE routeL ownB widN overB
set_option maxHeartbeats 4000000 in
theorem lroutes_any (v : Value) (gl : List OpV) (n s k x : Int) (w : World) (hr : GOk (fun b => b < w.heap.size) w v gl) :
    Calls Try.prog 3 #[.agg #[v], .int .i64 n, .agg #[.int .i64 s, .int .i64 k, .int .i64 x]] w (Sy.Ret (.bool true) w) := by
  have hone := hr.one
  have hol := opsOf_len gl
  refine Sy.calls_of Sy.lv3 Sy.tab_ok Try.func3 rfl _ Try.ntmps3 [] [.agg [.v v], .c (.v (.int .i64 n)), .agg [.v (.int .i64 s), .v (.int .i64 k), .v (.int .i64 x)]] rfl (lt_v hone rfl) rfl trivial ?_
  ((repeat' ((conv => whnf);(first|refine z1 ?_|refine z2 ?_|refine z3 ?_|refine z4 ?_|refine z5 ?_|refine z6 ?_|refine z7 ?_|refine z8 ?_|refine z9 ?_|refine za ?_|refine zb ?_|refine zc ?_|refine zd ?_|refine ze ?_|refine zf ?_|refine zg ?_|refine zh ?_|((first|refine zi ?_ ?_|refine zj ?_ ?_|refine zk ?_ ?_)<;> intro hh <;> first|(exfalso;omega)|skip)|(refine zl ?_ ?_<;> intro hh)|refine zm ?_|refine zn ?_|refine zo ?_|refine zp ?_|refine zq ?_|refine zv ?_|refine zr ?_|refine zs _ rfl ?_|exact Sy.fin_val (fun e=>rfl))));(all_goals (try conv => whnf)))
  refine Sy.call_val (.c (.v (.bool true))) Try.call9 rfl (fun e a w' h => wakes_any w') ?_
  ((repeat' ((conv => whnf);(first|refine z1 ?_|refine z2 ?_|refine z3 ?_|refine z4 ?_|refine z5 ?_|refine z6 ?_|refine z7 ?_|refine z8 ?_|refine z9 ?_|refine za ?_|refine zb ?_|refine zc ?_|refine zd ?_|refine ze ?_|refine zf ?_|refine zg ?_|refine zh ?_|((first|refine zi ?_ ?_|refine zj ?_ ?_|refine zk ?_ ?_)<;> intro hh <;> first|(exfalso;omega)|skip)|(refine zl ?_ ?_<;> intro hh)|refine zm ?_|refine zn ?_|refine zo ?_|refine zp ?_|refine zq ?_|refine zv ?_|refine zr ?_|refine zs _ rfl ?_|exact Sy.fin_val (fun e=>rfl))));(all_goals (try conv => whnf)))
  refine Sy.call_val (.c (.v (.bool (overB (opsOf gl))))) Try.call10 rfl (fun e a w' h => over_any v gl w' (GOk.mono (GOk.later h (hr.mono fun b hb => ⟨hb, fun h => h⟩)) fun b hb => h.fl b hb)) ?_
  cases h50 : overB (opsOf gl)
  · ((repeat' ((conv => whnf);(first|refine z1 ?_|refine z2 ?_|refine z3 ?_|refine z4 ?_|refine z5 ?_|refine z6 ?_|refine z7 ?_|refine z8 ?_|refine z9 ?_|refine za ?_|refine zb ?_|refine zc ?_|refine zd ?_|refine ze ?_|refine zf ?_|refine zg ?_|refine zh ?_|((first|refine zi ?_ ?_|refine zj ?_ ?_|refine zk ?_ ?_)<;> intro hh <;> first|(exfalso;omega)|skip)|(refine zl ?_ ?_<;> intro hh)|refine zm ?_|refine zn ?_|refine zo ?_|refine zp ?_|refine zq ?_|refine zv ?_|refine zr ?_|refine zs _ rfl ?_|exact Sy.fin_val (fun e=>rfl))));(all_goals (try conv => whnf)))
    refine copy_call v gl rfl hr h50 (fun _ h => h) ?_
    ((conv => whnf);(refine And.intro ?_ (And.intro ?_ (And.intro ?_ (And.intro ?_ ?_))));(all_goals ((repeat' (first|((conv => whnf);done)|((try conv => whnf);first|exact trivial|(refine And.intro ?_ ?_)|rfl|exact fun _ _ _ h=>h|exact fun _ _ _ _=>trivial)));(all_goals (try conv => whnf))));rotate_right)
    intro ls hls G
    have hls : opsOf ls = opsOf gl := hls
    ((repeat' ((conv => whnf);(first|refine z1 ?_|refine z2 ?_|refine z3 ?_|refine z4 ?_|refine z5 ?_|refine z6 ?_|refine z7 ?_|refine z8 ?_|refine z9 ?_|refine za ?_|refine zb ?_|refine zc ?_|refine zd ?_|refine ze ?_|refine zf ?_|refine zg ?_|refine zh ?_|((first|refine zi ?_ ?_|refine zj ?_ ?_|refine zk ?_ ?_)<;> intro hh <;> first|(exfalso;omega)|skip)|(refine zl ?_ ?_<;> intro hh)|refine zm ?_|refine zn ?_|refine zo ?_|refine zp ?_|refine zq ?_|refine zv ?_|refine zr ?_|refine zs _ rfl ?_|exact Sy.fin_val (fun e=>rfl))));(all_goals (try conv => whnf)))
    refine Sy.call_val (.tup [.c (.v (.bool (hasB (opsOf gl) n s k))), .c (.v (.int .i64 (hasE (opsOf gl) n s k)))]) Try.call12 rfl (fun e a w' h => by have := phas_any (e.rv 2) ls n s k x w' ⟨Sy.row_reads h (.inl ⟨_, rfl⟩), fun o ho => ((h.ev w' fun _ _ => rfl).2.2 o ho).mono fun b hb => h.fl b hb⟩; rw [hls] at this; exact this) ?_
    ((repeat' ((conv => whnf);(first|refine z1 ?_|refine z2 ?_|refine z3 ?_|refine z4 ?_|refine z5 ?_|refine z6 ?_|refine z7 ?_|refine z8 ?_|refine z9 ?_|refine za ?_|refine zb ?_|refine zc ?_|refine zd ?_|refine ze ?_|refine zf ?_|refine zg ?_|refine zh ?_|((first|refine zi ?_ ?_|refine zj ?_ ?_|refine zk ?_ ?_)<;> intro hh <;> first|(exfalso;omega)|skip)|(refine zl ?_ ?_<;> intro hh)|refine zm ?_|refine zn ?_|refine zo ?_|refine zp ?_|refine zq ?_|refine zv ?_|refine zr ?_|refine zs _ rfl ?_|exact Sy.fin_val (fun e=>rfl))));(all_goals (try conv => whnf)))
    refine Sy.call_r1 ⟨3, 1, (routeL (opsOf gl) n s k).length, (routeL (opsOf gl) n s k).map encI⟩ (fun j => .tup [.c (.row j), .c (.v (.int .i64 (routeE (opsOf gl) n s k)))]) Try.call13 (fun e a w' h => by have := route_any (e.rv 2) ls n s k x w' ⟨Sy.row_reads h (.inl ⟨_, rfl⟩), fun o ho => ((h.ev w' fun _ _ => rfl).2.2 o ho).mono fun b hb => h.fl b hb⟩; rw [hls] at this; exact this) ?_
    ((repeat' ((conv => whnf);(first|refine z1 ?_|refine z2 ?_|refine z3 ?_|refine z4 ?_|refine z5 ?_|refine z6 ?_|refine z7 ?_|refine z8 ?_|refine z9 ?_|refine za ?_|refine zb ?_|refine zc ?_|refine zd ?_|refine ze ?_|refine zf ?_|refine zg ?_|refine zh ?_|((first|refine zi ?_ ?_|refine zj ?_ ?_|refine zk ?_ ?_)<;> intro hh <;> first|(exfalso;omega)|skip)|(refine zl ?_ ?_<;> intro hh)|refine zm ?_|refine zn ?_|refine zo ?_|refine zp ?_|refine zq ?_|refine zv ?_|refine zr ?_|refine zs _ rfl ?_|exact Sy.fin_val (fun e=>rfl))));(all_goals (try conv => whnf)))
    refine Sy.call_val (.tup [.c (.v (.int .i64 (checkV (opsOf gl)).1)), .c (.v (.int .i64 (checkV (opsOf gl)).2))]) Try.call14 rfl (fun e a w' h => rcheck_any v gl w' (GOk.mono (GOk.later h (hr.mono fun b hb => ⟨hb, fun h => h⟩)) fun b hb => h.fl b hb)) ?_
    by_cases h0 : (checkV (opsOf gl)).2 = 0
    · have h8 := check_ok h0
      have hg := check_good h0
      have hg' := hg
      rw [hol] at h8 hg
      have hhE : hasE (opsOf gl) n s k = if subE (opsOf gl) n = 0 then recE s k else subE (opsOf gl) n := by unfold hasE; rw [if_pos h0]; rfl
      rw [h0]
      ((repeat' ((conv => whnf);(first|refine z1 ?_|refine z2 ?_|refine z3 ?_|refine z4 ?_|refine z5 ?_|refine z6 ?_|refine z7 ?_|refine z8 ?_|refine z9 ?_|refine za ?_|refine zb ?_|refine zc ?_|refine zd ?_|refine ze ?_|refine zf ?_|refine zg ?_|refine zh ?_|((first|refine zi ?_ ?_|refine zj ?_ ?_|refine zk ?_ ?_)<;> intro hh <;> first|(exfalso;omega)|skip)|(refine zl ?_ ?_<;> intro hh)|refine zm ?_|refine zn ?_|refine zo ?_|refine zp ?_|refine zq ?_|refine zv ?_|refine zr ?_|refine zs _ rfl ?_|exact Sy.fin_val (fun e=>rfl))));(all_goals (try conv => whnf)))
      refine Sy.call_r1 ⟨43, 2, (subsL (opsOf gl)).length, (subsL (opsOf gl)).map encS⟩ (fun j => .c (.row j)) Try.call15 (fun e a w' h => rsubs_any v gl w' (GOk.mono (GOk.later h (hr.mono fun b hb => ⟨hb, fun h => h⟩)) fun b hb => h.fl b hb) (by omega) hg) ?_
      by_cases hin : 0 ≤ n ∧ n < ((subsL (opsOf gl)).length : Int)
      · have hsE : subE (opsOf gl) n = 0 := by unfold subE; rw [if_neg (by omega)]
        rw [if_pos hsE] at hhE
        obtain ⟨s1, s2, s3, _⟩ := subV_in hg' hsE
        have hhB : hasB (opsOf gl) n s k = (decide (recE s k = 0) && ownB (widN (opsOf gl) (subV (opsOf gl) n).1) (subV (opsOf gl) n).2 (k.toNat % 8)) := by unfold hasB; rw [hhE]
        have hvg := fun gr hgr => via_goes (g := opsOf gl) (n := n) (gr := gr) hg' hgr hsE
        obtain ⟨N, rfl⟩ : ∃ N : Nat, n = (N : Int) := ⟨n.toNat, by omega⟩
        rw [Int.toNat_natCast] at s3
        by_cases hk : recOk s k
        · rw [recE_ok hk] at hhE hhB
          rw [decide_eq_true rfl, Bool.true_and] at hhB
          obtain ⟨K, rfl⟩ : ∃ K : Nat, k = (K : Int) := ⟨k.toNat, by have := hk.2.2.1; omega⟩
          rw [Int.toNat_natCast] at hhB
          have hK : K < 32 := by have := hk.2.2.2; omega
          have hk8 : K % 8 < 8 := Nat.mod_lt _ (by omega)
          have hgs := rright_any s K x
          rw [decide_eq_true hk] at hgs
          have hlt : N < (subsL (opsOf gl)).length := by omega
          have hv1 := hvg (K % 8) hk8
          have hgp := rgroup_any K
          have how := fun v' w' hr' => owns_any v' gl (subV (opsOf gl) N).1 (subV (opsOf gl) N).2 (K % 8) w' hr' (by omega) hg (by omega) hk8
          rw [← hhB] at how
          have hrr := rroute_any v gl N s x K
          have hrE : routeE (opsOf gl) N s K = if hasB (opsOf gl) N s K = true then 0 else 2 := by unfold routeE; rw [if_pos hhE]
          have hrV : routeL (opsOf gl) N s K = if routeE (opsOf gl) N s K = 0 then pick (viaB (opsOf gl) (subsL (opsOf gl)) N (K % 8)) (chansL (opsOf gl)) else [] := by unfold routeL; rw [Int.toNat_natCast]
          rw [← hhB] at hv1
          generalize subV (opsOf gl) N = b at *
          generalize hLe : subsL (opsOf gl) = L at *
          rw [hhE]
          cases hb : hasB (opsOf gl) N s K
          · rw [hb, if_neg (by decide)] at hrE
            rw [hrE, if_neg (by decide)] at hrV
            rw [hrE, hrV]
            rw [hb] at how
            ((repeat' ((conv => whnf);(first|refine z1 ?_|refine z2 ?_|refine z3 ?_|refine z4 ?_|refine z5 ?_|refine z6 ?_|refine z7 ?_|refine z8 ?_|refine z9 ?_|refine za ?_|refine zb ?_|refine zc ?_|refine zd ?_|refine ze ?_|refine zf ?_|refine zg ?_|refine zh ?_|((first|refine zi ?_ ?_|refine zj ?_ ?_|refine zk ?_ ?_)<;> intro hh <;> first|(exfalso;omega)|skip)|(refine zl ?_ ?_<;> intro hh)|refine zm ?_|refine zn ?_|refine zo ?_|refine zp ?_|refine zq ?_|refine zv ?_|refine zr ?_|refine zs _ rfl ?_|exact Sy.fin_val (fun e=>rfl))));(all_goals (try conv => whnf)))
            refine Sy.call_val (.c (.v (.bool true))) Try.call16 rfl (fun e a w' h => hgs w') ?_
            ((repeat' ((conv => whnf);(first|refine z1 ?_|refine z2 ?_|refine z3 ?_|refine z4 ?_|refine z5 ?_|refine z6 ?_|refine z7 ?_|refine z8 ?_|refine z9 ?_|refine za ?_|refine zb ?_|refine zc ?_|refine zd ?_|refine ze ?_|refine zf ?_|refine zg ?_|refine zh ?_|((first|refine zi ?_ ?_|refine zj ?_ ?_|refine zk ?_ ?_)<;> intro hh <;> first|(exfalso;omega)|skip)|(refine zl ?_ ?_<;> intro hh)|refine zm ?_|refine zn ?_|refine zo ?_|refine zp ?_|refine zq ?_|refine zv ?_|refine zr ?_|refine zs _ rfl ?_|exact Sy.fin_val (fun e=>rfl))));(all_goals (try conv => whnf)))
            refine Sy.draw_go [] (by kernel_rfl) ?_
            intro e0
            conv => whnf
            refine zt 0 rfl ?_
            conv => whnf
            refine zt 1 rfl ?_
            conv => whnf
            refine zt 2 rfl ?_
            conv => whnf
            refine zt 3 rfl ?_
            (conv => whnf);(repeat' ((first|refine z1 ?_|refine z2 ?_|refine z3 ?_|refine z4 ?_|refine z5 ?_|refine z6 ?_|refine z7 ?_|refine z8 ?_|refine z9 ?_|refine za ?_|refine zb ?_|refine zc ?_|refine zd ?_|refine ze ?_|refine zf ?_|refine zg ?_|refine zh ?_|((first|refine zi ?_ ?_|refine zj ?_ ?_|refine zk ?_ ?_)<;> intro hh <;> first|(exfalso;omega)|skip)|(refine zl ?_ ?_<;> intro hh)|refine zm ?_|refine zn ?_|refine zo ?_|refine zp ?_|refine zq ?_|refine zv ?_|refine zr ?_|refine zs _ rfl ?_|refine zu ?_|exact Sy.fin_val (fun e=>rfl));(try conv => whnf)))
            refine zt 4 rfl ?_
            conv => whnf
            refine Sy.el_map b s3 ?_
            conv => whnf
            conv => whnf
            refine zt 5 rfl ?_
            conv => whnf
            refine zt 6 rfl ?_
            conv => whnf
            refine zd1 [7] (zx rfl ?_ zy)
            conv => whnf
            refine Sy.call_val (.c (.v (.int .i64 ((K % 8 : Nat) : Int)))) Try.call18 rfl (fun e x w' h => hgp w' (by omega)) ?_
            conv => whnf
            refine ⟨(by repeat' ((conv => whnf);first|exact trivial|(refine And.intro ?_ ?_)|rfl)), ?_⟩
            refine zd1 [8] (zx rfl ?_ zy)
            conv => whnf
            refine Sy.call_val (.c (.v (.bool false))) Try.call17 rfl (fun e x w' h => how v w' (GOk.mono (GOk.later h (hr.mono fun b hb => ⟨hb, fun h => h⟩)) fun b hb => h.fl b hb)) ?_
            conv => whnf
            refine ⟨(by repeat' ((conv => whnf);first|exact trivial|(refine And.intro ?_ ?_)|rfl)), ?_⟩
            refine zt 9 rfl ?_
            conv => whnf
            refine zw ?_
            skip
            all_goals (((repeat' ((conv => whnf);(first|refine z1 ?_|refine z2 ?_|refine z3 ?_|refine z4 ?_|refine z5 ?_|refine z6 ?_|refine z7 ?_|refine z8 ?_|refine z9 ?_|refine za ?_|refine zb ?_|refine zc ?_|refine zd ?_|refine ze ?_|refine zf ?_|refine zg ?_|refine zh ?_|((first|refine zi ?_ ?_|refine zj ?_ ?_|refine zk ?_ ?_)<;> intro hh <;> first|(exfalso;omega)|skip)|(refine zl ?_ ?_<;> intro hh)|refine zm ?_|refine zn ?_|refine zo ?_|refine zp ?_|refine zq ?_|refine zv ?_|refine zr ?_|refine zs _ rfl ?_|exact Sy.fin_val (fun e=>rfl))));(all_goals (try conv => whnf))))
            all_goals done
          · rw [hb, if_pos rfl] at hrE
            rw [hrE, if_pos rfl, hv1 hb] at hrV
            rw [hrE, hrV]
            rw [hb] at how
            ((repeat' ((conv => whnf);(first|refine z1 ?_|refine z2 ?_|refine z3 ?_|refine z4 ?_|refine z5 ?_|refine z6 ?_|refine z7 ?_|refine z8 ?_|refine z9 ?_|refine za ?_|refine zb ?_|refine zc ?_|refine zd ?_|refine ze ?_|refine zf ?_|refine zg ?_|refine zh ?_|((first|refine zi ?_ ?_|refine zj ?_ ?_|refine zk ?_ ?_)<;> intro hh <;> first|(exfalso;omega)|skip)|(refine zl ?_ ?_<;> intro hh)|refine zm ?_|refine zn ?_|refine zo ?_|refine zp ?_|refine zq ?_|refine zv ?_|refine zr ?_|refine zs _ rfl ?_|exact Sy.fin_val (fun e=>rfl))));(all_goals (try conv => whnf)))
            refine Sy.call_val (.c (.v (.bool true))) Try.call16 rfl (fun e a w' h => hgs w') ?_
            ((repeat' ((conv => whnf);(first|refine z1 ?_|refine z2 ?_|refine z3 ?_|refine z4 ?_|refine z5 ?_|refine z6 ?_|refine z7 ?_|refine z8 ?_|refine z9 ?_|refine za ?_|refine zb ?_|refine zc ?_|refine zd ?_|refine ze ?_|refine zf ?_|refine zg ?_|refine zh ?_|((first|refine zi ?_ ?_|refine zj ?_ ?_|refine zk ?_ ?_)<;> intro hh <;> first|(exfalso;omega)|skip)|(refine zl ?_ ?_<;> intro hh)|refine zm ?_|refine zn ?_|refine zo ?_|refine zp ?_|refine zq ?_|refine zv ?_|refine zr ?_|refine zs _ rfl ?_|exact Sy.fin_val (fun e=>rfl))));(all_goals (try conv => whnf)))
            refine Sy.draw_go [] (by kernel_rfl) ?_
            intro e0
            conv => whnf
            refine zt 0 rfl ?_
            conv => whnf
            refine zt 1 rfl ?_
            conv => whnf
            refine zt 2 rfl ?_
            conv => whnf
            refine zt 3 rfl ?_
            (conv => whnf);(repeat' ((first|refine z1 ?_|refine z2 ?_|refine z3 ?_|refine z4 ?_|refine z5 ?_|refine z6 ?_|refine z7 ?_|refine z8 ?_|refine z9 ?_|refine za ?_|refine zb ?_|refine zc ?_|refine zd ?_|refine ze ?_|refine zf ?_|refine zg ?_|refine zh ?_|((first|refine zi ?_ ?_|refine zj ?_ ?_|refine zk ?_ ?_)<;> intro hh <;> first|(exfalso;omega)|skip)|(refine zl ?_ ?_<;> intro hh)|refine zm ?_|refine zn ?_|refine zo ?_|refine zp ?_|refine zq ?_|refine zv ?_|refine zr ?_|refine zs _ rfl ?_|refine zu ?_|exact Sy.fin_val (fun e=>rfl));(try conv => whnf)))
            refine zt 4 rfl ?_
            conv => whnf
            refine Sy.el_map b s3 ?_
            conv => whnf
            conv => whnf
            refine zt 5 rfl ?_
            conv => whnf
            refine zt 6 rfl ?_
            conv => whnf
            refine zd1 [7] (zx rfl ?_ zy)
            conv => whnf
            refine Sy.call_val (.c (.v (.int .i64 ((K % 8 : Nat) : Int)))) Try.call18 rfl (fun e x w' h => hgp w' (by omega)) ?_
            conv => whnf
            refine ⟨(by repeat' ((conv => whnf);first|exact trivial|(refine And.intro ?_ ?_)|rfl)), ?_⟩
            refine zd1 [8] (zx rfl ?_ zy)
            conv => whnf
            refine Sy.call_val (.c (.v (.bool true))) Try.call17 rfl (fun e x w' h => how v w' (GOk.mono (GOk.later h (hr.mono fun b hb => ⟨hb, fun h => h⟩)) fun b hb => h.fl b hb)) ?_
            conv => whnf
            refine ⟨(by repeat' ((conv => whnf);first|exact trivial|(refine And.intro ?_ ?_)|rfl)), ?_⟩
            refine zt 9 rfl ?_
            conv => whnf
            refine zw ?_
            skip
            all_goals (((repeat' ((conv => whnf);(first|refine z1 ?_|refine z2 ?_|refine z3 ?_|refine z4 ?_|refine z5 ?_|refine z6 ?_|refine z7 ?_|refine z8 ?_|refine z9 ?_|refine za ?_|refine zb ?_|refine zc ?_|refine zd ?_|refine ze ?_|refine zf ?_|refine zg ?_|refine zh ?_|((first|refine zi ?_ ?_|refine zj ?_ ?_|refine zk ?_ ?_)<;> intro hh <;> first|(exfalso;omega)|skip)|(refine zl ?_ ?_<;> intro hh)|refine zm ?_|refine zn ?_|refine zo ?_|refine zp ?_|refine zq ?_|refine zv ?_|refine zr ?_|refine zs _ rfl ?_|exact Sy.fin_val (fun e=>rfl))));(all_goals (try conv => whnf))))
            generalize pick (goesB (opsOf gl) L N (K % 8)) (chansL (opsOf gl)) = R at *
            all_goals (refine Sy.call_r1 ⟨3, 1, R.length, R.map encI⟩ (fun j => .c (.row j)) Try.call20 (fun e a w' h => hrr w' (GOk.mono (GOk.later h (hr.mono fun b hb => ⟨hb, fun h => h⟩)) fun b hb => h.fl b hb) (by omega) hg hK) ?_)
            all_goals (((repeat' ((conv => whnf);(first|refine z1 ?_|refine z2 ?_|refine z3 ?_|refine z4 ?_|refine z5 ?_|refine z6 ?_|refine z7 ?_|refine z8 ?_|refine z9 ?_|refine za ?_|refine zb ?_|refine zc ?_|refine zd ?_|refine ze ?_|refine zf ?_|refine zg ?_|refine zh ?_|((first|refine zi ?_ ?_|refine zj ?_ ?_|refine zk ?_ ?_)<;> intro hh <;> first|(exfalso;omega)|skip)|(refine zl ?_ ?_<;> intro hh)|refine zm ?_|refine zn ?_|refine zo ?_|refine zp ?_|refine zq ?_|refine zv ?_|refine zr ?_|refine zs _ rfl ?_|exact Sy.fin_val (fun e=>rfl))));(all_goals (try conv => whnf))))
            all_goals (refine Sy.call_val (.c (.v (.bool true))) Try.call19 rfl (fun e a w' h => by have := psame_any (e.rv 4) (e.rv 6) R R w' (Sy.row_reads h (.inl ⟨_, rfl⟩)) (Sy.row_reads h (.inl ⟨_, rfl⟩)); rw [decide_eq_true rfl] at this; exact this) ?_)
            all_goals (((repeat' ((conv => whnf);(first|refine z1 ?_|refine z2 ?_|refine z3 ?_|refine z4 ?_|refine z5 ?_|refine z6 ?_|refine z7 ?_|refine z8 ?_|refine z9 ?_|refine za ?_|refine zb ?_|refine zc ?_|refine zd ?_|refine ze ?_|refine zf ?_|refine zg ?_|refine zh ?_|((first|refine zi ?_ ?_|refine zj ?_ ?_|refine zk ?_ ?_)<;> intro hh <;> first|(exfalso;omega)|skip)|(refine zl ?_ ?_<;> intro hh)|refine zm ?_|refine zn ?_|refine zo ?_|refine zp ?_|refine zq ?_|refine zv ?_|refine zr ?_|refine zs _ rfl ?_|exact Sy.fin_val (fun e=>rfl))));(all_goals (try conv => whnf))))
            all_goals done
        · rw [recE_no hk] at hhE hhB
          have hhB : hasB (opsOf gl) N s k = false := hhB
          have hE : routeE (opsOf gl) N s k = 150 := by unfold routeE; rw [hhE]; rfl
          have hV : routeL (opsOf gl) N s k = [] := by unfold routeL; rw [if_neg (by rw [hE]; decide)]
          rw [hhE, hhB, hE, hV]
          ((repeat' ((conv => whnf);(first|refine z1 ?_|refine z2 ?_|refine z3 ?_|refine z4 ?_|refine z5 ?_|refine z6 ?_|refine z7 ?_|refine z8 ?_|refine z9 ?_|refine za ?_|refine zb ?_|refine zc ?_|refine zd ?_|refine ze ?_|refine zf ?_|refine zg ?_|refine zh ?_|((first|refine zi ?_ ?_|refine zj ?_ ?_|refine zk ?_ ?_)<;> intro hh <;> first|(exfalso;omega)|skip)|(refine zl ?_ ?_<;> intro hh)|refine zm ?_|refine zn ?_|refine zo ?_|refine zp ?_|refine zq ?_|refine zv ?_|refine zr ?_|refine zs _ rfl ?_|exact Sy.fin_val (fun e=>rfl))));(all_goals (try conv => whnf)))
          refine Sy.call_val (.c (.v (.bool false))) Try.call16 rfl (fun e a w' h => by have := rright_any s k x w'; rw [decide_eq_false hk] at this; exact this) ?_
          ((repeat' ((conv => whnf);(first|refine z1 ?_|refine z2 ?_|refine z3 ?_|refine z4 ?_|refine z5 ?_|refine z6 ?_|refine z7 ?_|refine z8 ?_|refine z9 ?_|refine za ?_|refine zb ?_|refine zc ?_|refine zd ?_|refine ze ?_|refine zf ?_|refine zg ?_|refine zh ?_|((first|refine zi ?_ ?_|refine zj ?_ ?_|refine zk ?_ ?_)<;> intro hh <;> first|(exfalso;omega)|skip)|(refine zl ?_ ?_<;> intro hh)|refine zm ?_|refine zn ?_|refine zo ?_|refine zp ?_|refine zq ?_|refine zv ?_|refine zr ?_|refine zs _ rfl ?_|exact Sy.fin_val (fun e=>rfl))));(all_goals (try conv => whnf)))
          all_goals done
      · have hsE : subE (opsOf gl) n = 2 := by unfold subE; rw [if_pos (by omega)]
        rw [hsE, if_neg (by decide)] at hhE
        have hhB : hasB (opsOf gl) n s k = false := by unfold hasB; rw [hhE]; rfl
        have hE : routeE (opsOf gl) n s k = 2 := by unfold routeE; rw [hhE]; rfl
        have hV : routeL (opsOf gl) n s k = [] := by unfold routeL; rw [if_neg (by rw [hE]; decide)]
        rw [hhE, hhB, hE, hV]
        by_cases hn0 : 0 ≤ n
        · ((repeat' ((conv => whnf);(first|refine z1 ?_|refine z2 ?_|refine z3 ?_|refine z4 ?_|refine z5 ?_|refine z6 ?_|refine z7 ?_|refine z8 ?_|refine z9 ?_|refine za ?_|refine zb ?_|refine zc ?_|refine zd ?_|refine ze ?_|refine zf ?_|refine zg ?_|refine zh ?_|((first|refine zi ?_ ?_|refine zj ?_ ?_|refine zk ?_ ?_)<;> intro hh <;> first|(exfalso;omega)|skip)|(refine zl ?_ ?_<;> intro hh)|refine zm ?_|refine zn ?_|refine zo ?_|refine zp ?_|refine zq ?_|refine zv ?_|refine zr ?_|refine zs _ rfl ?_|exact Sy.fin_val (fun e=>rfl))));(all_goals (try conv => whnf)))
          all_goals done
        · ((repeat' ((conv => whnf);(first|refine z1 ?_|refine z2 ?_|refine z3 ?_|refine z4 ?_|refine z5 ?_|refine z6 ?_|refine z7 ?_|refine z8 ?_|refine z9 ?_|refine za ?_|refine zb ?_|refine zc ?_|refine zd ?_|refine ze ?_|refine zf ?_|refine zg ?_|refine zh ?_|((first|refine zi ?_ ?_|refine zj ?_ ?_|refine zk ?_ ?_)<;> intro hh <;> first|(exfalso;omega)|skip)|(refine zl ?_ ?_<;> intro hh)|refine zm ?_|refine zn ?_|refine zo ?_|refine zp ?_|refine zq ?_|refine zv ?_|refine zr ?_|refine zs _ rfl ?_|exact Sy.fin_val (fun e=>rfl))));(all_goals (try conv => whnf)))
          all_goals done
    · have hhE : hasE (opsOf gl) n s k = (checkV (opsOf gl)).2 := by unfold hasE; rw [if_neg h0]
      have hhB : hasB (opsOf gl) n s k = false := by unfold hasB; rw [hhE, decide_eq_false h0]; rfl
      have hE : routeE (opsOf gl) n s k = (checkV (opsOf gl)).2 := by unfold routeE; rw [hhE, if_neg h0]
      have hV : routeL (opsOf gl) n s k = [] := by unfold routeL; rw [if_neg (by rw [hE]; exact h0)]
      rw [hhE, hhB, hE, hV]
      ((repeat' ((conv => whnf);(first|refine z1 ?_|refine z2 ?_|refine z3 ?_|refine z4 ?_|refine z5 ?_|refine z6 ?_|refine z7 ?_|refine z8 ?_|refine z9 ?_|refine za ?_|refine zb ?_|refine zc ?_|refine zd ?_|refine ze ?_|refine zf ?_|refine zg ?_|refine zh ?_|((first|refine zi ?_ ?_|refine zj ?_ ?_|refine zk ?_ ?_)<;> intro hh <;> first|(exfalso;omega)|skip)|(refine zl ?_ ?_<;> intro hh)|refine zm ?_|refine zn ?_|refine zo ?_|refine zp ?_|refine zq ?_|refine zv ?_|refine zr ?_|refine zs _ rfl ?_|exact Sy.fin_val (fun e=>rfl))));(all_goals (try conv => whnf)))
      exact Sy.fin_val (fun e => congrArg Value.bool (by simp))
  · ((repeat' ((conv => whnf);(first|refine z1 ?_|refine z2 ?_|refine z3 ?_|refine z4 ?_|refine z5 ?_|refine z6 ?_|refine z7 ?_|refine z8 ?_|refine z9 ?_|refine za ?_|refine zb ?_|refine zc ?_|refine zd ?_|refine ze ?_|refine zf ?_|refine zg ?_|refine zh ?_|((first|refine zi ?_ ?_|refine zj ?_ ?_|refine zk ?_ ?_)<;> intro hh <;> first|(exfalso;omega)|skip)|(refine zl ?_ ?_<;> intro hh)|refine zm ?_|refine zn ?_|refine zo ?_|refine zp ?_|refine zq ?_|refine zv ?_|refine zr ?_|refine zs _ rfl ?_|exact Sy.fin_val (fun e=>rfl))));(all_goals (try conv => whnf)))
    all_goals done
end Go.Proofs.Ytcjiaiojkciheaa
