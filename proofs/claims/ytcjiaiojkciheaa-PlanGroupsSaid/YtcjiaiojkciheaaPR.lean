/- Plan: wakes; Copy called. -/
import Derived.Test.YtcjiaiojkciheaaPL
import Derived.Test.YtcjiaiojkciheaaPPa
import Derived.Test.YtcjiaiojkciheaaGCopy
namespace Go.Proofs.Ytcjiaiojkciheaa
open Go Go.RowKit
open Sy (C SV V1 Blk St XD Els)
set_option maxRecDepth 10000

theorem lt_v {v : Value} {l : List SV} (h : v.oneCell' = true) (hl : Sy.allLt 0 l = true) : Sy.allLt 0 (.agg [.v v] :: l) = true := by
  have h1 : SV.lt 0 (.agg [.v v]) = true := by show Sy.ltAll 0 [C.v v] = true; simp [Sy.ltAll, C.lt, h]
  simp only [Sy.allLt, h1] at hl ⊢
  exact hl
theorem copy_call {X : Sy.Cx} {S : St} {d : Option Nat} {K : St → Prop} (gv : Value) (gl : List OpV) (hP : X.P = Try.prog) (hr : GOk (fun b => b < X.w0.heap.size) X.w0 gv gl) (h50 : overB (opsOf gl) = false) (ho : ∀ b, ¬ X.own b) (h : Sy.lendGo S d [.agg [.v gv]] (copyC gv gl) K) :
    Sy.callP X S d 11 [.agg [.v gv]] K := by
  have hlen := over_not h50
  rw [opsOf_len] at hlen
  refine Sy.call_own (by rw [hP]; exact copy_does gv gl hr.one) (by rw [hP]; exact Try.call11) h (fun e a w' F' h hF' => ⟨(GOk.later h (hr.mono fun b hb => ⟨hb, ho b⟩)).mono hF', hlen.1, fun o ho => hlen.2 o.op (List.mem_map.2 ⟨o, ho, rfl⟩)⟩) (fun _ ls G G' w1 w2 hq hG hk o ho => (hq o ho).keep hG hk)
def threeM : List Opr := [⟨1, 2, [], 0, 0⟩, ⟨2, 1, [0], 0, 0⟩, ⟨7, 3, [1], 0, 0⟩]
theorem three_check : checkV threeM = (0, 0) := by decide +kernel
theorem three_chans : chansV threeM = [(0, 2), (1, 2), (2, 3), (2, 4), (2, 5)] := by decide +kernel
theorem three_route : routeL threeM 2 0 9 = [2] ∧ routeE threeM 2 0 9 = 0 := by decide +kernel
def threeV (u v : Value) : List OpV := [⟨⟨1, 2, [], 0, 0⟩, .slice none 0 0⟩, ⟨⟨2, 1, [0], 0, 0⟩, u⟩, ⟨⟨7, 3, [1], 0, 0⟩, v⟩]
theorem threeV_ops (u v : Value) : opsOf (threeV u v) = threeM := rfl
theorem three_ok {F : Nat → Prop} {w : World} {p u v : Value} (hp : XD.ok F w ⟨p, 5, 3, (threeV u v).map encOV⟩) (hu : XD.ok F w ⟨u, 1, 1, [[.int .i64 0]]⟩) (hv : XD.ok F w ⟨v, 1, 1, [[.int .i64 1]]⟩) : GOk F w p (threeV u v) := by
  refine ⟨hp, fun o ho => ?_⟩
  unfold threeV at ho
  simp only [List.mem_cons, List.mem_nil_iff, or_false] at ho
  rcases ho with rfl | rfl | rfl
  · exact nil_ok
  · exact hu
  · exact hv
attribute [local irreducible] checkV chansV routeL routeE
set_option maxHeartbeats 2000000 in
theorem wakes_any (w : World) : Calls Try.prog 9 #[] w (Sy.Ret (.bool true) w) := by
  refine Sy.calls_of Sy.lv9 Sy.tab_ok Try.func9 rfl _ Try.ntmps9 [] [] rfl rfl rfl trivial ?_
  ((repeat' ((conv => whnf);(first|refine z1 ?_|refine z2 ?_|refine z3 ?_|refine z4 ?_|refine z5 ?_|refine z6 ?_|refine z7 ?_|refine z8 ?_|refine z9 ?_|refine za ?_|refine zb ?_|refine zc ?_|refine zd ?_|refine ze ?_|refine zf ?_|refine zg ?_|refine zh ?_|((first|refine zi ?_ ?_|refine zj ?_ ?_|refine zk ?_ ?_)<;> intro hh <;> first|(exfalso;omega)|skip)|(refine zl ?_ ?_<;> intro hh)|refine zm ?_|refine zn ?_|refine zo ?_|refine zp ?_|refine zq ?_|refine zv ?_|refine zr ?_|refine zs _ rfl ?_|refine zu ?_|exact Sy.fin_val (fun e=>rfl))));(all_goals (try conv => whnf)))
  refine Sy.call_r1 ⟨58, 2, ([(0, 2), (1, 2), (2, 3), (2, 4), (2, 5)] : List (Nat × Nat)).length, ([(0, 2), (1, 2), (2, 3), (2, 4), (2, 5)] : List (Nat × Nat)).map encS⟩ (fun j => .tup [.c (.row j), .c (.v (.int .i64 0))]) Try.call21 (fun e a w' h => by
    have := pchans_any (e.rv 2) (threeV (e.rv 0) (e.rv 1)) w' (three_ok (XD.ok.mono (h.hp 2 _ rfl).1.reads fun b hb => h.foot_lt (k := 2) rfl hb.2) (XD.ok.mono (h.hp 0 _ rfl).1.reads fun b hb => h.foot_lt (k := 0) rfl hb.2) (XD.ok.mono (h.hp 1 _ rfl).1.reads fun b hb => h.foot_lt (k := 1) rfl hb.2))
    rw [threeV_ops, three_chans, three_check] at this
    exact this) ?_
  ((repeat' ((conv => whnf);(first|refine z1 ?_|refine z2 ?_|refine z3 ?_|refine z4 ?_|refine z5 ?_|refine z6 ?_|refine z7 ?_|refine z8 ?_|refine z9 ?_|refine za ?_|refine zb ?_|refine zc ?_|refine zd ?_|refine ze ?_|refine zf ?_|refine zg ?_|refine zh ?_|((first|refine zi ?_ ?_|refine zj ?_ ?_|refine zk ?_ ?_)<;> intro hh <;> first|(exfalso;omega)|skip)|(refine zl ?_ ?_<;> intro hh)|refine zm ?_|refine zn ?_|refine zo ?_|refine zp ?_|refine zq ?_|refine zv ?_|refine zr ?_|refine zs _ rfl ?_|refine zu ?_|exact Sy.fin_val (fun e=>rfl))));(all_goals (try conv => whnf)))
  refine Sy.call_r1 ⟨3, 1, ([2] : List Int).length, ([2] : List Int).map encI⟩ (fun j => .tup [.c (.row j), .c (.v (.int .i64 0))]) Try.call13 (fun e a w' h => by
    have := route_any (e.rv 2) (threeV (e.rv 0) (e.rv 1)) 2 0 9 0 w' (three_ok (XD.ok.mono (h.hp 2 _ rfl).1.reads fun b hb => h.foot_lt (k := 2) rfl hb.2) (XD.ok.mono (h.hp 0 _ rfl).1.reads fun b hb => h.foot_lt (k := 0) rfl hb.2) (XD.ok.mono (h.hp 1 _ rfl).1.reads fun b hb => h.foot_lt (k := 1) rfl hb.2))
    rw [threeV_ops, three_route.1, three_route.2] at this
    exact this) ?_
  ((repeat' ((conv => whnf);(first|refine z1 ?_|refine z2 ?_|refine z3 ?_|refine z4 ?_|refine z5 ?_|refine z6 ?_|refine z7 ?_|refine z8 ?_|refine z9 ?_|refine za ?_|refine zb ?_|refine zc ?_|refine zd ?_|refine ze ?_|refine zf ?_|refine zg ?_|refine zh ?_|((first|refine zi ?_ ?_|refine zj ?_ ?_|refine zk ?_ ?_)<;> intro hh <;> first|(exfalso;omega)|skip)|(refine zl ?_ ?_<;> intro hh)|refine zm ?_|refine zn ?_|refine zo ?_|refine zp ?_|refine zq ?_|refine zv ?_|refine zr ?_|refine zs _ rfl ?_|refine zu ?_|exact Sy.fin_val (fun e=>rfl))));(all_goals (try conv => whnf)))
  refine Sy.idx_eq (j := 0) rfl (by decide) ?_
  ((repeat' ((conv => whnf);(first|refine z1 ?_|refine z2 ?_|refine z3 ?_|refine z4 ?_|refine z5 ?_|refine z6 ?_|refine z7 ?_|refine z8 ?_|refine z9 ?_|refine za ?_|refine zb ?_|refine zc ?_|refine zd ?_|refine ze ?_|refine zf ?_|refine zg ?_|refine zh ?_|((first|refine zi ?_ ?_|refine zj ?_ ?_|refine zk ?_ ?_)<;> intro hh <;> first|(exfalso;omega)|skip)|(refine zl ?_ ?_<;> intro hh)|refine zm ?_|refine zn ?_|refine zo ?_|refine zp ?_|refine zq ?_|refine zv ?_|refine zr ?_|refine zs _ rfl ?_|refine zu ?_|exact Sy.fin_val (fun e=>rfl))));(all_goals (try conv => whnf)))
  refine Sy.el_map (2 : Int) rfl ?_
  ((repeat' ((conv => whnf);(first|refine z1 ?_|refine z2 ?_|refine z3 ?_|refine z4 ?_|refine z5 ?_|refine z6 ?_|refine z7 ?_|refine z8 ?_|refine z9 ?_|refine za ?_|refine zb ?_|refine zc ?_|refine zd ?_|refine ze ?_|refine zf ?_|refine zg ?_|refine zh ?_|((first|refine zi ?_ ?_|refine zj ?_ ?_|refine zk ?_ ?_)<;> intro hh <;> first|(exfalso;omega)|skip)|(refine zl ?_ ?_<;> intro hh)|refine zm ?_|refine zn ?_|refine zo ?_|refine zp ?_|refine zq ?_|refine zv ?_|refine zr ?_|refine zs _ rfl ?_|refine zu ?_|exact Sy.fin_val (fun e=>rfl))));(all_goals (try conv => whnf)))
  all_goals done
end Go.Proofs.Ytcjiaiojkciheaa
