/- Graph: the law First. -/
import Derived.Test.YteldohidnepaoaaGT
namespace Go.Proofs.Yteldohidnepaoaa
open Go Go.RowKit
open Sy (C SV V1 Blk St XD Els)
set_option maxRecDepth 10000

theorem one_of {o : OpV} {ls : List OpV} (h : opsOf ls = shortM (opsOf [o])) : ∃ y : OpV, ls = [y] ∧ y.op = shortO o.op := by
  match ls, h with
  | [], h => cases h
  | [y], h => exact ⟨y, rfl, by simpa [opsOf, shortM] using h⟩
  | _ :: _ :: _, h => simp [opsOf, shortM] at h
attribute [local irreducible] checkV gBs
set_option maxHeartbeats 4000000 in
theorem first_any (v : Value) (gl : List OpV) (o : OpV) (n : Int) (w : World) (hr : GOk (fun b => b < w.heap.size) w v gl) (ho : OOk (fun b => b < w.heap.size) w o) :
    Calls Try.prog 3 #[.agg #[v], .agg #[.int .i64 o.op.tag, .int .i64 o.op.width, o.iv, .int .i64 o.op.a, .int .i64 o.op.b], .int .i64 n] w (Sy.Ret (.bool true) w) := by
  have hone := hr.one
  have hone2 := ho.1.one
  refine Sy.calls_of Sy.lv3 Sy.tab_ok Try.func3 rfl _ Try.ntmps3 [] [.agg [.v v], .agg [.v (.int .i64 o.op.tag), .v (.int .i64 o.op.width), .v o.iv, .v (.int .i64 o.op.a), .v (.int .i64 o.op.b)], .c (.v (.int .i64 n))] rfl (by simp [Sy.allLt, SV.lt, Sy.ltAll, C.lt, hone, hone2]; rfl) rfl trivial ?_
  ((repeat' ((conv => whnf);(first|refine z1 ?_|refine z2 ?_|refine z3 ?_|refine z4 ?_|refine z5 ?_|refine z6 ?_|refine z7 ?_|refine z8 ?_|refine z9 ?_|refine za ?_|refine zb ?_|refine zc ?_|refine zd ?_|refine ze ?_|refine zf ?_|refine zg ?_|refine zh ?_|((first|refine zi ?_ ?_|refine zj ?_ ?_|refine zk ?_ ?_)<;> intro hh <;> first|(exfalso;omega)|skip)|(refine zl ?_ ?_<;> intro hh)|refine zm ?_|refine zn ?_|refine zo ?_|refine zp ?_|refine zq ?_|refine zv ?_|refine zr ?_|refine zs _ rfl ?_|exact Sy.fin_val (fun e=>rfl))));(all_goals (try conv => whnf)))
  refine Sy.call_val (.c (.v (.bool true))) Try.call9 rfl (fun e a w' h => wakes_any w') ?_
  ((repeat' ((conv => whnf);(first|refine z1 ?_|refine z2 ?_|refine z3 ?_|refine z4 ?_|refine z5 ?_|refine z6 ?_|refine z7 ?_|refine z8 ?_|refine z9 ?_|refine za ?_|refine zb ?_|refine zc ?_|refine zd ?_|refine ze ?_|refine zf ?_|refine zg ?_|refine zh ?_|((first|refine zi ?_ ?_|refine zj ?_ ?_|refine zk ?_ ?_)<;> intro hh <;> first|(exfalso;omega)|skip)|(refine zl ?_ ?_<;> intro hh)|refine zm ?_|refine zn ?_|refine zo ?_|refine zp ?_|refine zq ?_|refine zv ?_|refine zr ?_|refine zs _ rfl ?_|exact Sy.fin_val (fun e=>rfl))));(all_goals (try conv => whnf)))
  refine Sy.call_own (short_does v gl hone) Try.call10 ?_ (fun e a w' F' h hF' => (GOk.later h (hr.mono fun b hb => ⟨hb, fun h => h⟩)).mono hF') (fun _ ls G G' w1 w2 hq hG hk o ho => (hq o ho).keep hG hk)
  ((conv => whnf);(refine And.intro ?_ (And.intro ?_ (And.intro ?_ (And.intro ?_ ?_))));(all_goals ((repeat' (first|((conv => whnf);done)|((try conv => whnf);first|exact trivial|(refine And.intro ?_ ?_)|rfl)));(all_goals (try conv => whnf))));rotate_right)
  intro ls hls G
  have hol := opsOf_len ls
  have hln : ls.length ≤ 9 := by rw [← hol, show opsOf ls = shortM (opsOf gl) from hls]; exact shortM_len _
  ((repeat' ((conv => whnf);(first|refine z1 ?_|refine z2 ?_|refine z3 ?_|refine z4 ?_|refine z5 ?_|refine z6 ?_|refine z7 ?_|refine z8 ?_|refine z9 ?_|refine za ?_|refine zb ?_|refine zc ?_|refine zd ?_|refine ze ?_|refine zf ?_|refine zg ?_|refine zh ?_|((first|refine zi ?_ ?_|refine zj ?_ ?_|refine zk ?_ ?_)<;> intro hh <;> first|(exfalso;omega)|skip)|(refine zl ?_ ?_<;> intro hh)|refine zm ?_|refine zn ?_|refine zo ?_|refine zp ?_|refine zq ?_|refine zv ?_|refine zr ?_|refine zs _ rfl ?_|exact Sy.fin_val (fun e=>rfl))));(all_goals (try conv => whnf)))
  refine Sy.call_val (.tup [.c (.v (.int .i64 (checkV (opsOf ls)).1)), .c (.v (.int .i64 (checkV (opsOf ls)).2))]) Try.call11 rfl (fun e a w' h => check_any (e.rv 2) ls w' ⟨Sy.row_reads h (.inl ⟨_, rfl⟩), fun o ho => ((h.ev w' fun _ _ => rfl).2.2 o ho).mono fun b hb => h.fl b hb⟩) ?_
  by_cases h0 : (checkV (opsOf ls)).2 = 0
  · have h8 := check_ok h0
    rw [hol] at h8
    rw [h0]
    ((repeat' ((conv => whnf);(first|refine z1 ?_|refine z2 ?_|refine z3 ?_|refine z4 ?_|refine z5 ?_|refine z6 ?_|refine z7 ?_|refine z8 ?_|refine z9 ?_|refine za ?_|refine zb ?_|refine zc ?_|refine zd ?_|refine ze ?_|refine zf ?_|refine zg ?_|refine zh ?_|((first|refine zi ?_ ?_|refine zj ?_ ?_|refine zk ?_ ?_)<;> intro hh <;> first|(exfalso;omega)|skip)|(refine zl ?_ ?_<;> intro hh)|refine zm ?_|refine zn ?_|refine zo ?_|refine zp ?_|refine zq ?_|refine zv ?_|refine zr ?_|refine zs _ rfl ?_|exact Sy.fin_val (fun e=>rfl))));(all_goals (try conv => whnf)))
    refine Sy.ar_wrap ?_
    ((repeat' ((conv => whnf);(first|refine z1 ?_|refine z2 ?_|refine z3 ?_|refine z4 ?_|refine z5 ?_|refine z6 ?_|refine z7 ?_|refine z8 ?_|refine z9 ?_|refine za ?_|refine zb ?_|refine zc ?_|refine zd ?_|refine ze ?_|refine zf ?_|refine zg ?_|refine zh ?_|((first|refine zi ?_ ?_|refine zj ?_ ?_|refine zk ?_ ?_)<;> intro hh <;> first|(exfalso;omega)|skip)|(refine zl ?_ ?_<;> intro hh)|refine zm ?_|refine zn ?_|refine zo ?_|refine zp ?_|refine zq ?_|refine zv ?_|refine zr ?_|refine zs _ rfl ?_|exact Sy.fin_val (fun e=>rfl))));(all_goals (try conv => whnf)))
    refine Sy.ar_wrap ?_
    have ew : IntKind.u64.wrap (ls.length : Int) = (ls.length : Int) := by rw [IntKind.wrap_u64]; omega
    have en : 0 ≤ IntKind.u64.wrap n := by rw [IntKind.wrap_u64]; omega
    rw [ew]
    ((repeat' ((conv => whnf);(first|refine z1 ?_|refine z2 ?_|refine z3 ?_|refine z4 ?_|refine z5 ?_|refine z6 ?_|refine z7 ?_|refine z8 ?_|refine z9 ?_|refine za ?_|refine zb ?_|refine zc ?_|refine zd ?_|refine ze ?_|refine zf ?_|refine zg ?_|refine zh ?_|((first|refine zi ?_ ?_|refine zj ?_ ?_|refine zk ?_ ?_)<;> intro hh <;> first|(exfalso;omega)|skip)|(refine zl ?_ ?_<;> intro hh)|refine zm ?_|refine zn ?_|refine zo ?_|refine zp ?_|refine zq ?_|refine zv ?_|refine zr ?_|refine zs _ rfl ?_|exact Sy.fin_val (fun e=>rfl))));(all_goals (try conv => whnf)))
    refine Sy.rem_in en (by omega) ?_
    have hi0 : 0 ≤ IntKind.u64.wrap n % (ls.length : Int) := Int.emod_nonneg _ (by omega)
    have hi1 : IntKind.u64.wrap n % (ls.length : Int) < (ls.length : Int) := Int.emod_lt_of_pos _ (by omega)
    generalize IntKind.u64.wrap n % (ls.length : Int) = q at *
    obtain ⟨i, rfl⟩ : ∃ i : Nat, q = (i : Int) := ⟨q.toNat, by omega⟩
    have hlt : i < ls.length := by omega
    obtain ⟨p0, hgi⟩ : ∃ p0, ls[i]? = some p0 := ⟨_, List.getElem?_eq_getElem hlt⟩
    ((repeat' ((conv => whnf);(first|refine z1 ?_|refine z2 ?_|refine z3 ?_|refine z4 ?_|refine z5 ?_|refine z6 ?_|refine z7 ?_|refine z8 ?_|refine z9 ?_|refine za ?_|refine zb ?_|refine zc ?_|refine zd ?_|refine ze ?_|refine zf ?_|refine zg ?_|refine zh ?_|((first|refine zi ?_ ?_|refine zj ?_ ?_|refine zk ?_ ?_)<;> intro hh <;> first|(exfalso;omega)|skip)|(refine zl ?_ ?_<;> intro hh)|refine zm ?_|refine zn ?_|refine zo ?_|refine zp ?_|refine zq ?_|refine zv ?_|refine zr ?_|refine zs _ rfl ?_|exact Sy.fin_val (fun e=>rfl))));(all_goals (try conv => whnf)))
    refine Sy.draw_go [2] (by kernel_rfl) ?_
    intro e0
    conv => whnf
    refine zt 0 rfl ?_
    conv => whnf
    refine zt 1 rfl ?_
    conv => whnf
    refine zt 2 rfl ?_
    conv => whnf
    refine zt 3 rfl ?_
    conv => whnf
    refine zd1 [4] (zx rfl ?_ zy)
    conv => whnf
    refine ⟨(by repeat' ((conv => whnf);first|exact trivial|(refine And.intro ?_ ?_)|rfl)), ?_⟩
    refine zt 5 rfl ?_
    conv => whnf
    refine zd1 [6] (zx rfl ?_ zy)
    conv => whnf
    refine Sy.call_own (short1_does [o] (by simp)) Try.call10 ?_ (fun e a w' F' h hF' p hp => by rw [List.mem_singleton.1 hp]; exact (XD.later h (XD.ok.mono ho fun b hb => ⟨hb, fun h => h⟩)).mono hF') (fun _ ls G G' w1 w2 hq hG hk o ho => (hq o ho).keep hG hk)
    ((conv => whnf);(refine And.intro ?_ (And.intro ?_ (And.intro ?_ (And.intro ?_ ?_))));(all_goals ((repeat' (first|((conv => whnf);done)|((try conv => whnf);first|exact trivial|(refine And.intro ?_ ?_)|rfl)));(all_goals (try conv => whnf))));rotate_right)
    intro ls2 hls2 G2
    obtain ⟨y, rfl, hy⟩ := one_of hls2
    conv => whnf
    rw [show ([y] : List OpV).length = 1 from rfl]
    refine ⟨(by repeat' ((conv => whnf);first|exact trivial|(refine And.intro ?_ ?_)|rfl)), ?_⟩
    refine zd1 [7] (zx rfl ?_ zy)
    conv => whnf
    refine ⟨(by repeat' ((conv => whnf);first|exact trivial|(refine And.intro ?_ ?_)|rfl)), ?_⟩
    refine zd1 [8] (zx rfl ?_ zy)
    conv => whnf
    refine Sy.idx_in (by decide) (by decide) ?_
    conv => whnf
    refine ⟨(by repeat' ((conv => whnf);first|exact trivial|(refine And.intro ?_ ?_)|rfl)), ?_⟩
    refine zd1 [9] (zx rfl ?_ zy)
    conv => whnf
    refine Sy.el_map y rfl ?_
    conv => whnf
    refine ⟨(by repeat' ((conv => whnf);first|exact trivial|(refine And.intro ?_ ?_)|rfl)), ?_⟩
    refine zd1 [10] (zx rfl ?_ zy)
    conv => whnf
    refine Sy.idx_in (by omega) (by omega) ?_
    conv => whnf
    refine ⟨(by repeat' ((conv => whnf);first|exact trivial|(refine And.intro ?_ ?_)|rfl)), ?_⟩
    refine zd1 [11] (zx rfl ?_ zy)
    conv => whnf
    refine Sy.el_map p0 hgi ?_
    conv => whnf
    refine ⟨(by repeat' ((conv => whnf);first|exact trivial|(refine And.intro ?_ ?_)|rfl)), ?_⟩
    refine zw ?_
    skip
    have eset : (ls.map encOV).set (i : Int).toNat (Sy.splice (encOV p0) 0 [.int .i64 y.op.tag, .int .i64 y.op.width, y.iv, .int .i64 y.op.a, .int .i64 y.op.b]) = (ls.set i y).map encOV := by
      rw [List.map_set]; rfl
    have hset : opsOf (ls.set i y) = (opsOf ls).set i y.op := by unfold opsOf; rw [List.map_set]
    have hmem : ∀ z0 ∈ ls.set i y, z0 ∈ ls ∨ z0 = y := fun z0 hz => List.mem_or_eq_of_mem_set hz
    have hgy : (ls.set i y)[i]? = some y := by rw [List.getElem?_set_self hlt]
    rw [eset]
    obtain ⟨ls', hls'⟩ : ∃ l, l = ls.set i y := ⟨_, rfl⟩
    have hll : ls.length = ls'.length := by rw [hls', List.length_set]
    rw [← hls'] at hset hmem hgy ⊢
    rw [hll]
    ((repeat' ((conv => whnf);(first|refine z1 ?_|refine z2 ?_|refine z3 ?_|refine z4 ?_|refine z5 ?_|refine z6 ?_|refine z7 ?_|refine z8 ?_|refine z9 ?_|refine za ?_|refine zb ?_|refine zc ?_|refine zd ?_|refine ze ?_|refine zf ?_|refine zg ?_|refine zh ?_|((first|refine zi ?_ ?_|refine zj ?_ ?_|refine zk ?_ ?_)<;> intro hh <;> first|(exfalso;omega)|skip)|(refine zl ?_ ?_<;> intro hh)|refine zm ?_|refine zn ?_|refine zo ?_|refine zp ?_|refine zq ?_|refine zv ?_|refine zr ?_|refine zs _ rfl ?_|exact Sy.fin_val (fun e=>rfl))));(all_goals (try conv => whnf)))
    refine Sy.call_val (.tup [.c (.v (.int .i64 (checkV (opsOf ls')).1)), .c (.v (.int .i64 (checkV (opsOf ls')).2))]) Try.call11 rfl (fun e a w' h => check_any (e.rv 2) ls' w' ⟨Sy.row_reads h (.inl ⟨_, rfl⟩), fun o ho => by
      have hE := h.ev w' fun _ _ => rfl
      rcases hmem o ho with ho | rfl
      · exact (hE.1.2.2 o ho).mono fun b hb => h.fl b (.inl hb)
      · exact (hE.2.2 _ (List.mem_singleton.2 rfl)).mono fun b hb => h.fl b hb⟩) ?_
    ((repeat' ((conv => whnf);(first|refine z1 ?_|refine z2 ?_|refine z3 ?_|refine z4 ?_|refine z5 ?_|refine z6 ?_|refine z7 ?_|refine z8 ?_|refine z9 ?_|refine za ?_|refine zb ?_|refine zc ?_|refine zd ?_|refine ze ?_|refine zf ?_|refine zg ?_|refine zh ?_|((first|refine zi ?_ ?_|refine zj ?_ ?_|refine zk ?_ ?_)<;> intro hh <;> first|(exfalso;omega)|skip)|(refine zl ?_ ?_<;> intro hh)|refine zm ?_|refine zn ?_|refine zo ?_|refine zp ?_|refine zq ?_|refine zv ?_|refine zr ?_|refine zs _ rfl ?_|exact Sy.fin_val (fun e=>rfl))));(all_goals (try conv => whnf)))
    refine Sy.el_map y hgy ?_
    ((repeat' ((conv => whnf);(first|refine z1 ?_|refine z2 ?_|refine z3 ?_|refine z4 ?_|refine z5 ?_|refine z6 ?_|refine z7 ?_|refine z8 ?_|refine z9 ?_|refine za ?_|refine zb ?_|refine zc ?_|refine zd ?_|refine ze ?_|refine zf ?_|refine zg ?_|refine zh ?_|((first|refine zi ?_ ?_|refine zj ?_ ?_|refine zk ?_ ?_)<;> intro hh <;> first|(exfalso;omega)|skip)|(refine zl ?_ ?_<;> intro hh)|refine zm ?_|refine zn ?_|refine zo ?_|refine zp ?_|refine zq ?_|refine zv ?_|refine zr ?_|refine zs _ rfl ?_|exact Sy.fin_val (fun e=>rfl))));(all_goals (try conv => whnf)))
    refine Sy.call_val (.c (.v (.bool (aloneB y.op i)))) Try.call12 rfl (fun e a w' h => alone_any y i w' (((h.ev w' fun _ _ => rfl).2.2 _ (List.mem_singleton.2 rfl)).mono fun b hb => h.fl b hb)) ?_
    have hlen' : 1 ≤ (opsOf ls').length := by rw [opsOf_len]; omega
    have hin := first_in (opsOf ls') hlen'
    rw [opsOf_len] at hin
    cases ha : aloneB y.op i
    · have hnot := first_not (g := opsOf ls) (i := i) h0 (by omega) (of_decide_eq_false ha)
      rw [← hset] at hnot
      rw [hnot]
      ((repeat' ((conv => whnf);(first|refine z1 ?_|refine z2 ?_|refine z3 ?_|refine z4 ?_|refine z5 ?_|refine z6 ?_|refine z7 ?_|refine z8 ?_|refine z9 ?_|refine za ?_|refine zb ?_|refine zc ?_|refine zd ?_|refine ze ?_|refine zf ?_|refine zg ?_|refine zh ?_|((first|refine zi ?_ ?_|refine zj ?_ ?_|refine zk ?_ ?_)<;> intro hh <;> first|(exfalso;omega)|skip)|(refine zl ?_ ?_<;> intro hh)|refine zm ?_|refine zn ?_|refine zo ?_|refine zp ?_|refine zq ?_|refine zv ?_|refine zr ?_|refine zs _ rfl ?_|exact Sy.fin_val (fun e=>rfl))));(all_goals (try conv => whnf)))
      all_goals exact Sy.fin_val (fun e => congrArg Value.bool (by simp))
    · ((repeat' ((conv => whnf);(first|refine z1 ?_|refine z2 ?_|refine z3 ?_|refine z4 ?_|refine z5 ?_|refine z6 ?_|refine z7 ?_|refine z8 ?_|refine z9 ?_|refine za ?_|refine zb ?_|refine zc ?_|refine zd ?_|refine ze ?_|refine zf ?_|refine zg ?_|refine zh ?_|((first|refine zi ?_ ?_|refine zj ?_ ?_|refine zk ?_ ?_)<;> intro hh <;> first|(exfalso;omega)|skip)|(refine zl ?_ ?_<;> intro hh)|refine zm ?_|refine zn ?_|refine zo ?_|refine zp ?_|refine zq ?_|refine zv ?_|refine zr ?_|refine zs _ rfl ?_|exact Sy.fin_val (fun e=>rfl))));(all_goals (try conv => whnf)))
      all_goals exact Sy.fin_val (fun e => congrArg Value.bool (by
        refine decide_eq_true ?_
        rcases hin with hin | hin
        · exfalso; simp only [hin, beq_self_eq_true, Bool.true_eq_false, not_true_eq_false] at *
        · exact hin.2))
  · ((repeat' ((conv => whnf);(first|refine z1 ?_|refine z2 ?_|refine z3 ?_|refine z4 ?_|refine z5 ?_|refine z6 ?_|refine z7 ?_|refine z8 ?_|refine z9 ?_|refine za ?_|refine zb ?_|refine zc ?_|refine zd ?_|refine ze ?_|refine zf ?_|refine zg ?_|refine zh ?_|((first|refine zi ?_ ?_|refine zj ?_ ?_|refine zk ?_ ?_)<;> intro hh <;> first|(exfalso;omega)|skip)|(refine zl ?_ ?_<;> intro hh)|refine zm ?_|refine zn ?_|refine zo ?_|refine zp ?_|refine zq ?_|refine zv ?_|refine zr ?_|refine zs _ rfl ?_|exact Sy.fin_val (fun e=>rfl))));(all_goals (try conv => whnf)))
    done
end Go.Proofs.Yteldohidnepaoaa
