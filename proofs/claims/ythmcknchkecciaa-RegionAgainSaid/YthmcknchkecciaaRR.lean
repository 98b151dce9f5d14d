/- Region: the law Again. -/
import Derived.Test.YthmcknchkecciaaRS
import Derived.Test.YthmcknchkecciaaFz
namespace Go.Proofs.Ythmcknchkecciaa
open Go Go.RowKit
open Sy (C SV V1 Blk St XD Els)
set_option maxRecDepth 10000

def someL (N : Nat) (l : List Int) : List Int := (l.take 20).map fun t => IntKind.u64.wrap t % (N : Int)
theorem someL_len (N : Nat) (l : List Int) : (someL N l).length ≤ 20 := by unfold someL; rw [List.length_map, List.length_take]; omega
theorem some_in {g : List Opr} {N : Nat} {l : List Int} (hp : 1 ≤ N) (hN : N = (subsL g).length) : Tin g (someL N l) := fun t ht => by
  obtain ⟨x, _, rfl⟩ := List.mem_map.1 ht
  rw [← hN]
  exact ⟨Int.emod_nonneg _ (by omega), Int.emod_lt_of_pos _ (by omega)⟩
attribute [local irreducible] checkV regOf subN pick taskN subC ofL tasksL subtasks askE opV opsC thereB tasksV ofV ropV anewE anewV
set_option maxHeartbeats 4000000 in
theorem ragain_any (v u1 u2 : Value) (gl : List OpV) (xs ys : List Int) (w : World) (hr : GOk (fun b => b < w.heap.size) w v gl) (hx : XD.ok (fun b => b < w.heap.size) w ⟨u1, 1, xs.length, xs.map encI⟩) (hy : XD.ok (fun b => b < w.heap.size) w ⟨u2, 1, ys.length, ys.map encI⟩) :
    Calls Try.prog 6 #[.agg #[v], u1, u2] w (Sy.Ret (.bool true) w) := by
  have hone := hr.one
  have hxl := ok_len hx
  have hyl := ok_len hy
  refine Sy.calls_of Sy.lv6 Sy.tab_ok Try.func6 rfl _ Try.ntmps6 [⟨u1, 1, xs.length, xs.map encI⟩, ⟨u2, 1, ys.length, ys.map encI⟩] [.agg [.v v], .c (.row 0), .c (.row 1)] rfl (by simp [Sy.allLt, SV.lt, Sy.ltAll, C.lt, hone]; rfl) rfl ⟨hx, hy, trivial⟩ ?_
  ((repeat' ((conv => whnf);(first|refine z1 ?_|refine z2 ?_|refine z3 ?_|refine z4 ?_|refine z5 ?_|refine z6 ?_|refine z7 ?_|refine z8 ?_|refine z9 ?_|refine za ?_|refine zb ?_|refine zc ?_|refine zd ?_|refine ze ?_|refine zf ?_|refine zg ?_|refine zh ?_|((first|refine zi ?_ ?_|refine zj ?_ ?_|refine zk ?_ ?_)<;> intro hh <;> first|(exfalso;omega)|skip)|(refine zl ?_ ?_<;> intro hh)|refine zm ?_|refine zn ?_|refine zo ?_|refine zp ?_|refine zq ?_|refine zv ?_|refine zr ?_|refine zs _ rfl ?_|exact Sy.fin_val (fun e=>rfl))));(all_goals (try conv => whnf)))
  refine Sy.call_val (.c (.v (.bool true))) Try.call11 rfl (fun e a w' h => wakes_any w') ?_
  ((repeat' ((conv => whnf);(first|refine z1 ?_|refine z2 ?_|refine z3 ?_|refine z4 ?_|refine z5 ?_|refine z6 ?_|refine z7 ?_|refine z8 ?_|refine z9 ?_|refine za ?_|refine zb ?_|refine zc ?_|refine zd ?_|refine ze ?_|refine zf ?_|refine zg ?_|refine zh ?_|((first|refine zi ?_ ?_|refine zj ?_ ?_|refine zk ?_ ?_)<;> intro hh <;> first|(exfalso;omega)|skip)|(refine zl ?_ ?_<;> intro hh)|refine zm ?_|refine zn ?_|refine zo ?_|refine zp ?_|refine zq ?_|refine zv ?_|refine zr ?_|refine zs _ rfl ?_|exact Sy.fin_val (fun e=>rfl))));(all_goals (try conv => whnf)))
  refine Sy.call_own (short_does v gl hone) Try.call12 ?_ (fun e a w' F' h hF' => (GOk.later h (hr.mono fun b hb => ⟨hb, fun h => h⟩)).mono hF') (fun _ ls G G' w1 w2 hq hG hk o ho => (hq o ho).keep hG hk)
  ((conv => whnf);(refine And.intro ?_ (And.intro ?_ (And.intro ?_ (And.intro ?_ ?_))));(all_goals ((repeat' (first|((conv => whnf);done)|((try conv => whnf);first|exact trivial|(refine And.intro ?_ ?_)|rfl|exact fun _ _ _ h=>h|exact fun _ _ _ _=>trivial)));(all_goals (try conv => whnf))));rotate_right)
  intro ls hls G
  have hol := opsOf_len ls
  have hln : ls.length ≤ 9 := by rw [← hol, show opsOf ls = shortM (opsOf gl) from hls]; exact shortM_len _
  ((repeat' ((conv => whnf);(first|refine z1 ?_|refine z2 ?_|refine z3 ?_|refine z4 ?_|refine z5 ?_|refine z6 ?_|refine z7 ?_|refine z8 ?_|refine z9 ?_|refine za ?_|refine zb ?_|refine zc ?_|refine zd ?_|refine ze ?_|refine zf ?_|refine zg ?_|refine zh ?_|((first|refine zi ?_ ?_|refine zj ?_ ?_|refine zk ?_ ?_)<;> intro hh <;> first|(exfalso;omega)|skip)|(refine zl ?_ ?_<;> intro hh)|refine zm ?_|refine zn ?_|refine zo ?_|refine zp ?_|refine zq ?_|refine zv ?_|refine zr ?_|refine zs _ rfl ?_|exact Sy.fin_val (fun e=>rfl))));(all_goals (try conv => whnf)))
  refine Sy.call_val (.c (.v (.int .i64 (subtasks (opsOf ls))))) Try.call20 rfl (fun e a w' h => subtasks_any (e.rv 3) ls w' ⟨Sy.row_reads h (.inl ⟨_, rfl⟩), fun o ho => ((h.ev w' fun _ _ => rfl).2.2 o ho).mono fun b hb => h.fl b hb⟩) ?_
  by_cases h0 : (checkV (opsOf ls)).2 = 0
  · have h8 := check_ok h0
    have hg := check_good h0
    have hg' := hg
    rw [hol] at h8 hg
    have hsa := subs_all h0
    ((repeat' ((conv => whnf);(first|refine z1 ?_|refine z2 ?_|refine z3 ?_|refine z4 ?_|refine z5 ?_|refine z6 ?_|refine z7 ?_|refine z8 ?_|refine z9 ?_|refine za ?_|refine zb ?_|refine zc ?_|refine zd ?_|refine ze ?_|refine zf ?_|refine zg ?_|refine zh ?_|((first|refine zi ?_ ?_|refine zj ?_ ?_|refine zk ?_ ?_)<;> intro hh <;> first|(exfalso;omega)|skip)|(refine zl ?_ ?_<;> intro hh)|refine zm ?_|refine zn ?_|refine zo ?_|refine zp ?_|refine zq ?_|refine zv ?_|refine zr ?_|refine zs _ rfl ?_|exact Sy.fin_val (fun e=>rfl))));(all_goals (try conv => whnf)))
    have hN : (subsL (opsOf ls)).length ≤ 27 := by
      have := (subN_le (g := opsOf ls) (opsOf ls).length hg' (Nat.le_refl _)).2
      show (subN (opsOf ls) (opsOf ls).length 0).length ≤ 27
      omega
    obtain ⟨N, hNe⟩ : ∃ N : Nat, N = subC (opsOf ls) (opsOf ls).length 0 := ⟨_, rfl⟩
    have hNb : N ≤ 27 := by rw [hNe]; unfold subC; exact hN
    have hNp : 1 ≤ N := by
      have := (subN_le (g := opsOf ls) (opsOf ls).length hg' (Nat.le_refl _)).1
      rw [hNe]; unfold subC
      omega
    rw [← hNe] at hsa
    rw [hsa] at *
    refine Sy.call_in Sy.lv23 Sy.tab_ok Try.func23 rfl _ Try.ntmps23 Try.call23 rfl (fun _ => ?_)
    ((repeat' ((conv => whnf);(first|refine z1 ?_|refine z2 ?_|refine z3 ?_|refine z4 ?_|refine z5 ?_|refine z6 ?_|refine z7 ?_|refine z8 ?_|refine z9 ?_|refine za ?_|refine zb ?_|refine zc ?_|refine zd ?_|refine ze ?_|refine zf ?_|refine zg ?_|refine zh ?_|((first|refine zi ?_ ?_|refine zj ?_ ?_|refine zk ?_ ?_)<;> intro hh <;> first|(exfalso;omega)|skip)|(refine zl ?_ ?_<;> intro hh)|refine zm ?_|refine zn ?_|refine zo ?_|refine zp ?_|refine zq ?_|refine zv ?_|refine zr ?_|refine zs _ rfl ?_|exact Sy.fin_val (fun e=>rfl))));(all_goals (try conv => whnf)))
    refine Sy.sem_subF (Sy.sub_row 4 3 1 rfl) ?_
    conv => whnf
    refine Sy.loop_inv Sy.tab_ok (fun m : Nat => [(9, .c (.v (.int .i64 m))), (4, .c (.row 7))]) (fun m => [(7, .row 3 1 (someL N (xs.take m)).length (.vs ((someL N (xs.take m)).map encI)))]) (fun m => m ≤ xs.length) (fun m => xs.length - m) 0 (Nat.zero_le _) ?_ (fun m hm => ?_)
    · rw [show someL N (xs.take 0) = [] by rfl]
      ((repeat' (first|((conv => whnf);done)|((try conv => whnf);first|exact trivial|(refine And.intro ?_ ?_)|rfl|exact fun _ _ _ h=>h|exact fun _ _ _ _=>trivial)));(all_goals (try conv => whnf)))
    · ((repeat' ((conv => whnf);(first|refine z1 ?_|refine z2 ?_|refine z3 ?_|refine z4 ?_|refine z5 ?_|refine z6 ?_|refine z7 ?_|refine z8 ?_|refine z9 ?_|refine za ?_|refine zb ?_|refine zc ?_|refine zd ?_|refine ze ?_|refine zf ?_|refine zg ?_|refine zh ?_|((first|refine zi ?_ ?_|refine zj ?_ ?_|refine zk ?_ ?_)<;> intro hh <;> first|(exfalso;omega)|skip)|(refine zl ?_ ?_<;> intro hh)|refine zm ?_|refine zn ?_|refine zo ?_|refine zp ?_|refine zq ?_|refine zv ?_|refine zr ?_|refine zs _ rfl ?_|exact Sy.fin_val (fun e=>rfl))));(all_goals (try conv => whnf)))
      · have hlt : m < xs.length := by omega
        have hg1 := List.getElem?_eq_getElem hlt
        have hlt0 := hlt
        obtain ⟨x, hxe⟩ : ∃ x, xs[m] = x := ⟨_, rfl⟩
        rw [hxe] at hg1
        refine Sy.el_map x hg1 ?_
        by_cases h20 : m < 20
        · ((repeat' ((conv => whnf);(first|refine z1 ?_|refine z2 ?_|refine z3 ?_|refine z4 ?_|refine z5 ?_|refine z6 ?_|refine z7 ?_|refine z8 ?_|refine z9 ?_|refine za ?_|refine zb ?_|refine zc ?_|refine zd ?_|refine ze ?_|refine zf ?_|refine zg ?_|refine zh ?_|((first|refine zi ?_ ?_|refine zj ?_ ?_|refine zk ?_ ?_)<;> intro hh <;> first|(exfalso;omega)|skip)|(refine zl ?_ ?_<;> intro hh)|refine zm ?_|refine zn ?_|refine zo ?_|refine zp ?_|refine zq ?_|refine zv ?_|refine zr ?_|refine zs _ rfl ?_|exact Sy.fin_val (fun e=>rfl))));(all_goals (try conv => whnf)))
          refine Sy.ar_wrap ?_
          ((repeat' ((conv => whnf);(first|refine z1 ?_|refine z2 ?_|refine z3 ?_|refine z4 ?_|refine z5 ?_|refine z6 ?_|refine z7 ?_|refine z8 ?_|refine z9 ?_|refine za ?_|refine zb ?_|refine zc ?_|refine zd ?_|refine ze ?_|refine zf ?_|refine zg ?_|refine zh ?_|((first|refine zi ?_ ?_|refine zj ?_ ?_|refine zk ?_ ?_)<;> intro hh <;> first|(exfalso;omega)|skip)|(refine zl ?_ ?_<;> intro hh)|refine zm ?_|refine zn ?_|refine zo ?_|refine zp ?_|refine zq ?_|refine zv ?_|refine zr ?_|refine zs _ rfl ?_|exact Sy.fin_val (fun e=>rfl))));(all_goals (try conv => whnf)))
          refine Sy.ar_u64 (by omega) ?_
          ((repeat' ((conv => whnf);(first|refine z1 ?_|refine z2 ?_|refine z3 ?_|refine z4 ?_|refine z5 ?_|refine z6 ?_|refine z7 ?_|refine z8 ?_|refine z9 ?_|refine za ?_|refine zb ?_|refine zc ?_|refine zd ?_|refine ze ?_|refine zf ?_|refine zg ?_|refine zh ?_|((first|refine zi ?_ ?_|refine zj ?_ ?_|refine zk ?_ ?_)<;> intro hh <;> first|(exfalso;omega)|skip)|(refine zl ?_ ?_<;> intro hh)|refine zm ?_|refine zn ?_|refine zo ?_|refine zp ?_|refine zq ?_|refine zv ?_|refine zr ?_|refine zs _ rfl ?_|exact Sy.fin_val (fun e=>rfl))));(all_goals (try conv => whnf)))
          have hu0 : 0 ≤ IntKind.u64.wrap x := by rw [IntKind.wrap_u64]; omega
          refine Sy.rem_in hu0 (by omega) ?_
          have hr0 := Int.emod_nonneg (IntKind.u64.wrap x) (show (N : Int) ≠ 0 by omega)
          have hr1 := Int.emod_lt_of_pos (IntKind.u64.wrap x) (show (0 : Int) < N by omega)
          have hsk : someL N (xs.take (m + 1)) = someL N (xs.take m) ++ [IntKind.u64.wrap x % (N : Int)] := by
            unfold someL
            rw [List.take_take, List.take_take, Nat.min_eq_right (by omega), Nat.min_eq_right (by omega), List.take_succ_eq_append_getElem hlt0, List.map_append, hxe]
            rfl
          have hsl : (someL N (xs.take m)).length ≤ 20 := by unfold someL; rw [List.length_map, List.length_take, List.length_take]; omega
          ((repeat' ((conv => whnf);(first|refine z1 ?_|refine z2 ?_|refine z3 ?_|refine z4 ?_|refine z5 ?_|refine z6 ?_|refine z7 ?_|refine z8 ?_|refine z9 ?_|refine za ?_|refine zb ?_|refine zc ?_|refine zd ?_|refine ze ?_|refine zf ?_|refine zg ?_|refine zh ?_|((first|refine zi ?_ ?_|refine zj ?_ ?_|refine zk ?_ ?_)<;> intro hh <;> first|(exfalso;omega)|skip)|(refine zl ?_ ?_<;> intro hh)|refine zm ?_|refine zn ?_|refine zo ?_|refine zp ?_|refine zq ?_|refine zv ?_|refine zr ?_|refine zs _ rfl ?_|exact Sy.fin_val (fun e=>rfl))));(all_goals (try conv => whnf)))
          refine Sy.need_of (by show ((someL N (xs.take m)).length + 1) * 8 ≤ _ ∧ _; omega) ?_
          ((repeat' ((conv => whnf);(first|refine z1 ?_|refine z2 ?_|refine z3 ?_|refine z4 ?_|refine z5 ?_|refine z6 ?_|refine z7 ?_|refine z8 ?_|refine z9 ?_|refine za ?_|refine zb ?_|refine zc ?_|refine zd ?_|refine ze ?_|refine zf ?_|refine zg ?_|refine zh ?_|((first|refine zi ?_ ?_|refine zj ?_ ?_|refine zk ?_ ?_)<;> intro hh <;> first|(exfalso;omega)|skip)|(refine zl ?_ ?_<;> intro hh)|refine zm ?_|refine zn ?_|refine zo ?_|refine zp ?_|refine zq ?_|refine zv ?_|refine zr ?_|refine zs _ rfl ?_|exact Sy.fin_val (fun e=>rfl))));(all_goals (try conv => whnf)))
          have es : (someL N (xs.take m)).map encI ++ [[Value.int .i64 (IntKind.u64.wrap x % (N : Int))]] = (someL N (xs.take (m + 1))).map encI := by rw [hsk, List.map_append]; rfl
          have el : (someL N (xs.take m)).length + 1 = (someL N (xs.take (m + 1))).length := by rw [hsk, List.length_append]; rfl
          rw [es, el]
          refine ⟨m + 1, by omega, by omega, ?_⟩
          ((repeat' (first|((conv => whnf);done)|((try conv => whnf);first|exact trivial|(refine And.intro ?_ ?_)|rfl|exact fun _ _ _ h=>h|exact fun _ _ _ _=>trivial)));(all_goals (try conv => whnf)))
        · have hsk : someL N (xs.take (m + 1)) = someL N (xs.take m) := by
            unfold someL
            rw [List.take_take, List.take_take, Nat.min_eq_left (by omega), Nat.min_eq_left (by omega)]
          ((repeat' ((conv => whnf);(first|refine z1 ?_|refine z2 ?_|refine z3 ?_|refine z4 ?_|refine z5 ?_|refine z6 ?_|refine z7 ?_|refine z8 ?_|refine z9 ?_|refine za ?_|refine zb ?_|refine zc ?_|refine zd ?_|refine ze ?_|refine zf ?_|refine zg ?_|refine zh ?_|((first|refine zi ?_ ?_|refine zj ?_ ?_|refine zk ?_ ?_)<;> intro hh <;> first|(exfalso;omega)|skip)|(refine zl ?_ ?_<;> intro hh)|refine zm ?_|refine zn ?_|refine zo ?_|refine zp ?_|refine zq ?_|refine zv ?_|refine zr ?_|refine zs _ rfl ?_|exact Sy.fin_val (fun e=>rfl))));(all_goals (try conv => whnf)))
          refine ⟨m + 1, by omega, by omega, ?_⟩
          rw [hsk]
          ((repeat' (first|((conv => whnf);done)|((try conv => whnf);first|exact trivial|(refine And.intro ?_ ?_)|rfl|exact fun _ _ _ h=>h|exact fun _ _ _ _=>trivial)));(all_goals (try conv => whnf)))
      · have e : m = xs.length := by omega
        subst e
        rw [List.take_length]
        refine Sy.call_in Sy.lv23 Sy.tab_ok Try.func23 rfl _ Try.ntmps23 Try.call23 rfl (fun _ => ?_)
        ((repeat' ((conv => whnf);(first|refine z1 ?_|refine z2 ?_|refine z3 ?_|refine z4 ?_|refine z5 ?_|refine z6 ?_|refine z7 ?_|refine z8 ?_|refine z9 ?_|refine za ?_|refine zb ?_|refine zc ?_|refine zd ?_|refine ze ?_|refine zf ?_|refine zg ?_|refine zh ?_|((first|refine zi ?_ ?_|refine zj ?_ ?_|refine zk ?_ ?_)<;> intro hh <;> first|(exfalso;omega)|skip)|(refine zl ?_ ?_<;> intro hh)|refine zm ?_|refine zn ?_|refine zo ?_|refine zp ?_|refine zq ?_|refine zv ?_|refine zr ?_|refine zs _ rfl ?_|exact Sy.fin_val (fun e=>rfl))));(all_goals (try conv => whnf)))
        refine Sy.sem_subF (Sy.sub_row 4 3 1 rfl) ?_
        conv => whnf
        refine Sy.loop_inv Sy.tab_ok (fun m : Nat => [(9, .c (.v (.int .i64 m))), (4, .c (.row 8))]) (fun m => [(8, .row 3 1 (someL N (ys.take m)).length (.vs ((someL N (ys.take m)).map encI)))]) (fun m => m ≤ ys.length) (fun m => ys.length - m) 0 (Nat.zero_le _) ?_ (fun m hm => ?_)
        · rw [show someL N (ys.take 0) = [] by rfl]
          ((repeat' (first|((conv => whnf);done)|((try conv => whnf);first|exact trivial|(refine And.intro ?_ ?_)|rfl|exact fun _ _ _ h=>h|exact fun _ _ _ _=>trivial)));(all_goals (try conv => whnf)))
        · ((repeat' ((conv => whnf);(first|refine z1 ?_|refine z2 ?_|refine z3 ?_|refine z4 ?_|refine z5 ?_|refine z6 ?_|refine z7 ?_|refine z8 ?_|refine z9 ?_|refine za ?_|refine zb ?_|refine zc ?_|refine zd ?_|refine ze ?_|refine zf ?_|refine zg ?_|refine zh ?_|((first|refine zi ?_ ?_|refine zj ?_ ?_|refine zk ?_ ?_)<;> intro hh <;> first|(exfalso;omega)|skip)|(refine zl ?_ ?_<;> intro hh)|refine zm ?_|refine zn ?_|refine zo ?_|refine zp ?_|refine zq ?_|refine zv ?_|refine zr ?_|refine zs _ rfl ?_|exact Sy.fin_val (fun e=>rfl))));(all_goals (try conv => whnf)))
          · have hlt : m < ys.length := by omega
            have hg1 := List.getElem?_eq_getElem hlt
            have hlt0 := hlt
            obtain ⟨x, hye⟩ : ∃ x, ys[m] = x := ⟨_, rfl⟩
            rw [hye] at hg1
            refine Sy.el_map x hg1 ?_
            by_cases h20 : m < 20
            · ((repeat' ((conv => whnf);(first|refine z1 ?_|refine z2 ?_|refine z3 ?_|refine z4 ?_|refine z5 ?_|refine z6 ?_|refine z7 ?_|refine z8 ?_|refine z9 ?_|refine za ?_|refine zb ?_|refine zc ?_|refine zd ?_|refine ze ?_|refine zf ?_|refine zg ?_|refine zh ?_|((first|refine zi ?_ ?_|refine zj ?_ ?_|refine zk ?_ ?_)<;> intro hh <;> first|(exfalso;omega)|skip)|(refine zl ?_ ?_<;> intro hh)|refine zm ?_|refine zn ?_|refine zo ?_|refine zp ?_|refine zq ?_|refine zv ?_|refine zr ?_|refine zs _ rfl ?_|exact Sy.fin_val (fun e=>rfl))));(all_goals (try conv => whnf)))
              refine Sy.ar_wrap ?_
              ((repeat' ((conv => whnf);(first|refine z1 ?_|refine z2 ?_|refine z3 ?_|refine z4 ?_|refine z5 ?_|refine z6 ?_|refine z7 ?_|refine z8 ?_|refine z9 ?_|refine za ?_|refine zb ?_|refine zc ?_|refine zd ?_|refine ze ?_|refine zf ?_|refine zg ?_|refine zh ?_|((first|refine zi ?_ ?_|refine zj ?_ ?_|refine zk ?_ ?_)<;> intro hh <;> first|(exfalso;omega)|skip)|(refine zl ?_ ?_<;> intro hh)|refine zm ?_|refine zn ?_|refine zo ?_|refine zp ?_|refine zq ?_|refine zv ?_|refine zr ?_|refine zs _ rfl ?_|exact Sy.fin_val (fun e=>rfl))));(all_goals (try conv => whnf)))
              refine Sy.ar_u64 (by omega) ?_
              ((repeat' ((conv => whnf);(first|refine z1 ?_|refine z2 ?_|refine z3 ?_|refine z4 ?_|refine z5 ?_|refine z6 ?_|refine z7 ?_|refine z8 ?_|refine z9 ?_|refine za ?_|refine zb ?_|refine zc ?_|refine zd ?_|refine ze ?_|refine zf ?_|refine zg ?_|refine zh ?_|((first|refine zi ?_ ?_|refine zj ?_ ?_|refine zk ?_ ?_)<;> intro hh <;> first|(exfalso;omega)|skip)|(refine zl ?_ ?_<;> intro hh)|refine zm ?_|refine zn ?_|refine zo ?_|refine zp ?_|refine zq ?_|refine zv ?_|refine zr ?_|refine zs _ rfl ?_|exact Sy.fin_val (fun e=>rfl))));(all_goals (try conv => whnf)))
              have hu0 : 0 ≤ IntKind.u64.wrap x := by rw [IntKind.wrap_u64]; omega
              refine Sy.rem_in hu0 (by omega) ?_
              have hr0 := Int.emod_nonneg (IntKind.u64.wrap x) (show (N : Int) ≠ 0 by omega)
              have hr1 := Int.emod_lt_of_pos (IntKind.u64.wrap x) (show (0 : Int) < N by omega)
              have hsk : someL N (ys.take (m + 1)) = someL N (ys.take m) ++ [IntKind.u64.wrap x % (N : Int)] := by
                unfold someL
                rw [List.take_take, List.take_take, Nat.min_eq_right (by omega), Nat.min_eq_right (by omega), List.take_succ_eq_append_getElem hlt0, List.map_append, hye]
                rfl
              have hsl : (someL N (ys.take m)).length ≤ 20 := by unfold someL; rw [List.length_map, List.length_take, List.length_take]; omega
              ((repeat' ((conv => whnf);(first|refine z1 ?_|refine z2 ?_|refine z3 ?_|refine z4 ?_|refine z5 ?_|refine z6 ?_|refine z7 ?_|refine z8 ?_|refine z9 ?_|refine za ?_|refine zb ?_|refine zc ?_|refine zd ?_|refine ze ?_|refine zf ?_|refine zg ?_|refine zh ?_|((first|refine zi ?_ ?_|refine zj ?_ ?_|refine zk ?_ ?_)<;> intro hh <;> first|(exfalso;omega)|skip)|(refine zl ?_ ?_<;> intro hh)|refine zm ?_|refine zn ?_|refine zo ?_|refine zp ?_|refine zq ?_|refine zv ?_|refine zr ?_|refine zs _ rfl ?_|exact Sy.fin_val (fun e=>rfl))));(all_goals (try conv => whnf)))
              refine Sy.need_of (by show ((someL N (ys.take m)).length + 1) * 8 ≤ _ ∧ _; omega) ?_
              ((repeat' ((conv => whnf);(first|refine z1 ?_|refine z2 ?_|refine z3 ?_|refine z4 ?_|refine z5 ?_|refine z6 ?_|refine z7 ?_|refine z8 ?_|refine z9 ?_|refine za ?_|refine zb ?_|refine zc ?_|refine zd ?_|refine ze ?_|refine zf ?_|refine zg ?_|refine zh ?_|((first|refine zi ?_ ?_|refine zj ?_ ?_|refine zk ?_ ?_)<;> intro hh <;> first|(exfalso;omega)|skip)|(refine zl ?_ ?_<;> intro hh)|refine zm ?_|refine zn ?_|refine zo ?_|refine zp ?_|refine zq ?_|refine zv ?_|refine zr ?_|refine zs _ rfl ?_|exact Sy.fin_val (fun e=>rfl))));(all_goals (try conv => whnf)))
              have es : (someL N (ys.take m)).map encI ++ [[Value.int .i64 (IntKind.u64.wrap x % (N : Int))]] = (someL N (ys.take (m + 1))).map encI := by rw [hsk, List.map_append]; rfl
              have el : (someL N (ys.take m)).length + 1 = (someL N (ys.take (m + 1))).length := by rw [hsk, List.length_append]; rfl
              rw [es, el]
              refine ⟨m + 1, by omega, by omega, ?_⟩
              ((repeat' (first|((conv => whnf);done)|((try conv => whnf);first|exact trivial|(refine And.intro ?_ ?_)|rfl|exact fun _ _ _ h=>h|exact fun _ _ _ _=>trivial)));(all_goals (try conv => whnf)))
            · have hsk : someL N (ys.take (m + 1)) = someL N (ys.take m) := by
                unfold someL
                rw [List.take_take, List.take_take, Nat.min_eq_left (by omega), Nat.min_eq_left (by omega)]
              ((repeat' ((conv => whnf);(first|refine z1 ?_|refine z2 ?_|refine z3 ?_|refine z4 ?_|refine z5 ?_|refine z6 ?_|refine z7 ?_|refine z8 ?_|refine z9 ?_|refine za ?_|refine zb ?_|refine zc ?_|refine zd ?_|refine ze ?_|refine zf ?_|refine zg ?_|refine zh ?_|((first|refine zi ?_ ?_|refine zj ?_ ?_|refine zk ?_ ?_)<;> intro hh <;> first|(exfalso;omega)|skip)|(refine zl ?_ ?_<;> intro hh)|refine zm ?_|refine zn ?_|refine zo ?_|refine zp ?_|refine zq ?_|refine zv ?_|refine zr ?_|refine zs _ rfl ?_|exact Sy.fin_val (fun e=>rfl))));(all_goals (try conv => whnf)))
              refine ⟨m + 1, by omega, by omega, ?_⟩
              rw [hsk]
              ((repeat' (first|((conv => whnf);done)|((try conv => whnf);first|exact trivial|(refine And.intro ?_ ?_)|rfl|exact fun _ _ _ h=>h|exact fun _ _ _ _=>trivial)));(all_goals (try conv => whnf)))
          · have e : m = ys.length := by omega
            subst e
            rw [List.take_length]
            obtain ⟨P, hP⟩ : ∃ P, P = someL N xs := ⟨_, rfl⟩
            obtain ⟨Q, hQ⟩ : ∃ Q, Q = someL N ys := ⟨_, rfl⟩
            have hPi : Tin (opsOf ls) P := by rw [hP]; exact some_in hNp (by rw [hNe]; unfold subC; rfl)
            have hQi : Tin (opsOf ls) Q := by rw [hQ]; exact some_in hNp (by rw [hNe]; unfold subC; rfl)
            have hPl : P.length ≤ 20 := by rw [hP]; exact someL_len _ _
            have hQl : Q.length ≤ 20 := by rw [hQ]; exact someL_len _ _
            rw [← hP, ← hQ]
            obtain ⟨hPe, hPv⟩ := anew_in h0 hPi
            obtain ⟨hQe, hQv⟩ := anew_in h0 hQi
            refine Sy.call_r1 ⟨3, 1, (anewV (opsOf ls) P).length, (anewV (opsOf ls) P).map encI⟩ (fun j => .tup [.c (.row j), .c (.v (.int .i64 0))]) Try.call18 (fun e a w' h => by have := anew_any (e.rv 3) (e.rv 7) ls P w' ⟨Sy.row_reads h (.inl ⟨_, rfl⟩), fun o ho => ((h.ev w' fun _ _ => rfl).2.2 o ho).mono fun b hb => h.fl b hb⟩ (Sy.row_reads h (.inl ⟨_, rfl⟩)) (by omega); rw [hPe] at this; exact this) ?_
            ((repeat' ((conv => whnf);(first|refine z1 ?_|refine z2 ?_|refine z3 ?_|refine z4 ?_|refine z5 ?_|refine z6 ?_|refine z7 ?_|refine z8 ?_|refine z9 ?_|refine za ?_|refine zb ?_|refine zc ?_|refine zd ?_|refine ze ?_|refine zf ?_|refine zg ?_|refine zh ?_|((first|refine zi ?_ ?_|refine zj ?_ ?_|refine zk ?_ ?_)<;> intro hh <;> first|(exfalso;omega)|skip)|(refine zl ?_ ?_<;> intro hh)|refine zm ?_|refine zn ?_|refine zo ?_|refine zp ?_|refine zq ?_|refine zv ?_|refine zr ?_|refine zs _ rfl ?_|exact Sy.fin_val (fun e=>rfl))));(all_goals (try conv => whnf)))
            refine Sy.call_r1 ⟨3, 1, (anewV (opsOf ls) Q).length, (anewV (opsOf ls) Q).map encI⟩ (fun j => .tup [.c (.row j), .c (.v (.int .i64 0))]) Try.call18 (fun e a w' h => by have := anew_any (e.rv 3) (e.rv 8) ls Q w' ⟨Sy.row_reads h (.inl ⟨_, rfl⟩), fun o ho => ((h.ev w' fun _ _ => rfl).2.2 o ho).mono fun b hb => h.fl b hb⟩ (Sy.row_reads h (.inl ⟨_, rfl⟩)) (by omega); rw [hQe] at this; exact this) ?_
            ((repeat' ((conv => whnf);(first|refine z1 ?_|refine z2 ?_|refine z3 ?_|refine z4 ?_|refine z5 ?_|refine z6 ?_|refine z7 ?_|refine z8 ?_|refine z9 ?_|refine za ?_|refine zb ?_|refine zc ?_|refine zd ?_|refine ze ?_|refine zf ?_|refine zg ?_|refine zh ?_|((first|refine zi ?_ ?_|refine zj ?_ ?_|refine zk ?_ ?_)<;> intro hh <;> first|(exfalso;omega)|skip)|(refine zl ?_ ?_<;> intro hh)|refine zm ?_|refine zn ?_|refine zo ?_|refine zp ?_|refine zq ?_|refine zv ?_|refine zr ?_|refine zs _ rfl ?_|exact Sy.fin_val (fun e=>rfl))));(all_goals (try conv => whnf)))
            refine Sy.freezeF 10 7 3 1 P.length (P.map encI) rfl rfl Sy.ints_one (fun p F1 E1 hF1 hE1 hp => ?_)
            conv => whnf
            refine Sy.freezeF 11 8 3 1 Q.length (Q.map encI) rfl rfl Sy.ints_one (fun q F2 E2 hF2 hE2 hq => ?_)
            conv => whnf
            obtain ⟨A, hA⟩ : ∃ A, A = anewV (opsOf ls) P := ⟨_, rfl⟩
            obtain ⟨B, hB⟩ : ∃ B, B = anewV (opsOf ls) Q := ⟨_, rfl⟩
            rw [← hA, ← hB]
            refine Sy.freezeF 12 9 3 1 A.length (A.map encI) rfl rfl Sy.ints_one (fun a F3 E3 hF3 hE3 ha => ?_)
            conv => whnf
            refine Sy.freezeF 14 10 3 1 B.length (B.map encI) rfl rfl Sy.ints_one (fun b F E hF4 hE4 hb => ?_)
            conv => whnf
            have hE : ∀ w, E w → (∀ o ∈ ls, OOk F w o) ∧ XD.ok F w ⟨p, 1, P.length, P.map encI⟩ ∧ XD.ok F w ⟨q, 1, Q.length, Q.map encI⟩ ∧ XD.ok F w ⟨a, 1, A.length, A.map encI⟩ ∧ XD.ok F w ⟨b, 1, B.length, B.map encI⟩ := by
              intro w h
              obtain ⟨h3, hb'⟩ := hE4 w h
              obtain ⟨h2, ha'⟩ := hE3 w h3
              obtain ⟨h1, hq'⟩ := hE2 w h2
              obtain ⟨h0, hp'⟩ := hE1 w h1
              have h14 : ∀ b, F1 b → F b := fun b h => hF4 b (hF3 b (hF2 b h))
              exact ⟨fun o ho => (h0.2.2 o ho).mono fun b h => h14 b (hF1 b h), hp'.mono h14, hq'.mono fun b h => hF4 b (hF3 b h), ha'.mono hF4, hb'⟩
            clear hE1 hE2 hE3 hE4 hF1 hF2 hF3 hF4
            have hCat : ∀ v w', XD.ok (fun b => b < w'.heap.size) w' ⟨v, 1, 2, [[p], [q]]⟩ → RowsOk w' [(p, P), (q, Q)] → Calls Try.prog 24 #[v] w' (Sy.RetRows Sy.noRow (fun _ : Unit => True) (fun _ => [⟨3, 1, (P ++ Q).length, (P ++ Q).map encI⟩]) (fun _ vs => vs.headD undef) w') := fun v w' h1 h2 => by
              have hcl : catL [(p, P), (q, Q)] = P ++ Q := by unfold catL; simp
              have := concat_any v [(p, P), (q, Q)] w' h1 h2 (by rw [hcl, List.length_append]; omega)
              rw [hcl] at this
              exact this
            have hRows : ∀ w', E w' → ∀ x ∈ [(p, P), (q, Q)], XD.ok F w' ⟨x.1, 1, x.2.length, x.2.map encI⟩ := fun w' h x hx => by
              rcases List.mem_cons.1 hx with rfl | hx
              · exact (hE w' h).2.1
              · rcases List.mem_cons.1 hx with rfl | hx
                · exact (hE w' h).2.2.1
                · cases hx
            obtain ⟨U, hU⟩ : ∃ U, U = anewV (opsOf ls) (P ++ Q) := ⟨_, rfl⟩
            have hUi : Tin (opsOf ls) (P ++ Q) := fun t ht => (List.mem_append.1 ht).elim (hPi t) (hQi t)
            obtain ⟨hUe, hUv⟩ := anew_in h0 hUi
            have hUn : ∀ v u w', GOk (fun b => b < w'.heap.size) w' v ls → XD.ok (fun b => b < w'.heap.size) w' ⟨u, 1, (P ++ Q).length, (P ++ Q).map encI⟩ → Calls Try.prog 18 #[.agg #[v], u] w' (Sy.RetRows Sy.noRow (fun _ : Unit => True) (fun _ => [⟨3, 1, U.length, U.map encI⟩]) (fun _ vs => .tuple #[vs.headD undef, .int .i64 0]) w') := fun v u w' h1 h2 => by
              have := anew_any v u ls (P ++ Q) w' h1 h2 (by rw [List.length_append]; omega)
              rw [hUe, ← hU] at this
              exact this
            have hAi : Tin (opsOf ls) A := fun t ht => by rw [hA, hPv] at ht; exact ((anew_mem h0).1 ht).1
            obtain ⟨hAe, hAv⟩ := anew_in h0 hAi
            have hAA : anewV (opsOf ls) A = A := by rw [hAv, hA, hPv, anew_twice h0]
            have hAl : A.length ≤ 27 := by have := (tasksL_okS (opsOf ls) (opsC (opsOf ls) P)).len; rw [hA, hPv]; omega
            have hBl : B.length ≤ 27 := by have := (tasksL_okS (opsOf ls) (opsC (opsOf ls) Q)).len; rw [hB, hQv]; omega
            have hAg : ∀ v w', GOk (fun b => b < w'.heap.size) w' v ls → XD.ok (fun b => b < w'.heap.size) w' ⟨a, 1, A.length, A.map encI⟩ → Calls Try.prog 18 #[.agg #[v], a] w' (Sy.RetRows Sy.noRow (fun _ : Unit => True) (fun _ => [⟨3, 1, A.length, A.map encI⟩]) (fun _ vs => .tuple #[vs.headD undef, .int .i64 0]) w') := fun v w' h1 h2 => by
              have := anew_any v a ls A w' h1 h2 (by omega)
              rw [hAe, hAA] at this
              exact this
            have hCat2 : ∀ v w', XD.ok (fun b => b < w'.heap.size) w' ⟨v, 1, 2, [[a], [b]]⟩ → RowsOk w' [(a, A), (b, B)] → Calls Try.prog 24 #[v] w' (Sy.RetRows Sy.noRow (fun _ : Unit => True) (fun _ => [⟨3, 1, (A ++ B).length, (A ++ B).map encI⟩]) (fun _ vs => vs.headD undef) w') := fun v w' h1 h2 => by
              have hcl : catL [(a, A), (b, B)] = A ++ B := by unfold catL; simp
              have := concat_any v [(a, A), (b, B)] w' h1 h2 (by rw [hcl, List.length_append]; omega)
              rw [hcl] at this
              exact this
            have hRows2 : ∀ w', E w' → ∀ x ∈ [(a, A), (b, B)], XD.ok F w' ⟨x.1, 1, x.2.length, x.2.map encI⟩ := fun w' h x hx => by
              rcases List.mem_cons.1 hx with rfl | hx
              · exact (hE w' h).2.2.2.1
              · rcases List.mem_cons.1 hx with rfl | hx
                · exact (hE w' h).2.2.2.2
                · cases hx
            have hcmp : Lib.compact (sortL (A ++ B)) = U := by rw [hU, hUv, hA, hPv, hB, hQv]; exact anew_both h0 P Q
            have hCp : ∀ v w', Sy.OwnE w' 3 1 v (sortL (A ++ B)).length ((sortL (A ++ B)).map encI) → Calls Try.prog 27 #[v] w' (Sy.RetRows v (fun _ : Unit => True) (fun _ => [⟨3, 1, U.length, U.map encI⟩]) (fun _ vs => vs.headD undef) w') := fun v w' h1 => by
              have := compact_rows v (sortL (A ++ B)) w' h1 (by rw [sortL_len, List.length_append]; omega)
              rw [hcmp] at this
              exact this
            refine Sy.draw_go [] (by kernel_rfl) ?_
            intro e0
            conv => whnf
            refine zt 0 rfl ?_
            conv => whnf
            refine zt 1 rfl ?_
            conv => whnf
            refine zt 2 rfl ?_
            conv => whnf
            refine zd1 [3] (zx rfl ?_ zy)
            conv => whnf
            refine ⟨(by repeat' ((conv => whnf);first|exact trivial|(refine And.intro ?_ ?_)|rfl)), ?_⟩
            refine zd1 [4] (zx rfl ?_ zy)
            conv => whnf
            refine Sy.call_r1 ⟨3, 1, (P ++ Q).length, (P ++ Q).map encI⟩ (fun j => .c (.row j)) Try.call24 (v := fun _ vs => vs.headD undef) (fun e a w' h => hCat (e.rv 11) w' (Sy.row_reads (k := 11) h (.inl ⟨_, rfl⟩)) fun x hx => (hRows w' (h.ev w' fun _ _ => rfl) x hx).mono fun b hb => h.fl b hb) ?_
            refine ⟨(by repeat' ((conv => whnf);first|exact trivial|(refine And.intro ?_ ?_)|rfl)), ?_⟩
            refine zd1 [5] (zx rfl ?_ zy)
            conv => whnf
            refine Sy.call_r1 ⟨3, 1, U.length, U.map encI⟩ (fun j => .tup [.c (.row j), .c (.v (.int .i64 0))]) Try.call18 (fun e a w' h => hUn (e.rv 3) (e.rv 12) w' ⟨Sy.row_reads h (.inl ⟨_, rfl⟩), fun o ho => ((hE w' (h.ev w' fun _ _ => rfl)).1 o ho).mono fun b hb => h.fl b hb⟩ (Sy.row_reads h (.inl ⟨_, rfl⟩))) ?_
            refine ⟨(by repeat' ((conv => whnf);first|exact trivial|(refine And.intro ?_ ?_)|rfl)), ?_⟩
            refine zt 6 rfl ?_
            conv => whnf
            refine zt 7 rfl ?_
            conv => whnf
            refine zt 8 rfl ?_
            conv => whnf
            refine zt 9 rfl ?_
            conv => whnf
            refine zt 10 rfl ?_
            conv => whnf
            refine zw ?_
            skip
            ((repeat' ((conv => whnf);(first|refine z1 ?_|refine z2 ?_|refine z3 ?_|refine z4 ?_|refine z5 ?_|refine z6 ?_|refine z7 ?_|refine z8 ?_|refine z9 ?_|refine za ?_|refine zb ?_|refine zc ?_|refine zd ?_|refine ze ?_|refine zf ?_|refine zg ?_|refine zh ?_|((first|refine zi ?_ ?_|refine zj ?_ ?_|refine zk ?_ ?_)<;> intro hh <;> first|(exfalso;omega)|skip)|(refine zl ?_ ?_<;> intro hh)|refine zm ?_|refine zn ?_|refine zo ?_|refine zp ?_|refine zq ?_|refine zv ?_|refine zr ?_|refine zs _ rfl ?_|exact Sy.fin_val (fun e=>rfl))));(all_goals (try conv => whnf)))
            refine Sy.call_r1 ⟨3, 1, A.length, A.map encI⟩ (fun j => .tup [.c (.row j), .c (.v (.int .i64 0))]) Try.call18 (fun e x w' h => hAg (e.rv 3) w' ⟨Sy.row_reads h (.inl ⟨_, rfl⟩), fun o ho => ((hE w' (h.ev w' fun _ _ => rfl)).1 o ho).mono fun b hb => h.fl b hb⟩ ((hE w' (h.ev w' fun _ _ => rfl)).2.2.2.1.mono fun b hb => h.fl b hb)) ?_
            ((repeat' ((conv => whnf);(first|refine z1 ?_|refine z2 ?_|refine z3 ?_|refine z4 ?_|refine z5 ?_|refine z6 ?_|refine z7 ?_|refine z8 ?_|refine z9 ?_|refine za ?_|refine zb ?_|refine zc ?_|refine zd ?_|refine ze ?_|refine zf ?_|refine zg ?_|refine zh ?_|((first|refine zi ?_ ?_|refine zj ?_ ?_|refine zk ?_ ?_)<;> intro hh <;> first|(exfalso;omega)|skip)|(refine zl ?_ ?_<;> intro hh)|refine zm ?_|refine zn ?_|refine zo ?_|refine zp ?_|refine zr ?_|refine zs _ rfl ?_|exact Sy.fin_val (fun e=>rfl))));(all_goals (try conv => whnf)))
            refine Sy.cut_sem (Sy.sem_subF (Sy.sub_openS 10 1 P.length (P.map encI) rfl (fun e x w' h => (hE w' (h.ev w' fun _ _ => rfl)).2.1.1) Sy.ints_one) ?_)
            conv => whnf
            refine zp ?_
            refine Sy.region_go Sy.tab_ok ?_
            ((repeat' ((conv => whnf);(first|refine z1 ?_|refine z2 ?_|refine z3 ?_|refine z4 ?_|refine z5 ?_|refine z6 ?_|refine z7 ?_|refine z8 ?_|refine z9 ?_|refine za ?_|refine zb ?_|refine zc ?_|refine zd ?_|refine ze ?_|refine zf ?_|refine zg ?_|refine zh ?_|((first|refine zi ?_ ?_|refine zj ?_ ?_|refine zk ?_ ?_)<;> intro hh <;> first|(exfalso;omega)|skip)|(refine zl ?_ ?_<;> intro hh)|refine zm ?_|refine zn ?_|refine zo ?_|refine zp ?_|refine zq ?_|refine zv ?_|refine zr ?_|refine zs _ rfl ?_|exact Sy.fin_val (fun e=>rfl))));(all_goals (try conv => whnf)))
            refine Sy.call_val (.c (.v (.bool true))) Try.call25 rfl (fun e x w' h => by have := equalI_any a (e.rv 14) A A w' ((hE w' (h.ev w' fun _ _ => rfl)).2.2.2.1.mono fun b hb => h.fl b hb) (Sy.row_reads h (.inl ⟨_, rfl⟩)); rw [decide_eq_true rfl] at this; exact this) ?_
            ((repeat' ((conv => whnf);(first|refine z1 ?_|refine z2 ?_|refine z3 ?_|refine z4 ?_|refine z5 ?_|refine z6 ?_|refine z7 ?_|refine z8 ?_|refine z9 ?_|refine za ?_|refine zb ?_|refine zc ?_|refine zd ?_|refine ze ?_|refine zf ?_|refine zg ?_|refine zh ?_|((first|refine zi ?_ ?_|refine zj ?_ ?_|refine zk ?_ ?_)<;> intro hh <;> first|(exfalso;omega)|skip)|(refine zl ?_ ?_<;> intro hh)|refine zm ?_|refine zn ?_|refine zo ?_|refine zp ?_|refine zq ?_|refine zv ?_|refine zr ?_|refine zs _ rfl ?_|exact Sy.fin_val (fun e=>rfl))));(all_goals (try conv => whnf)))
            refine Sy.call_r1 ⟨3, 1, (A ++ B).length, (A ++ B).map encI⟩ (fun j => .c (.row j)) Try.call24 (v := fun _ vs => vs.headD undef) (fun e x w' h => hCat2 (e.rv 16) w' (Sy.row_reads (k := 16) h (.inl ⟨_, rfl⟩)) fun x hx => (hRows2 w' (h.ev w' fun _ _ => rfl) x hx).mono fun b hb => h.fl b hb) ?_
            ((repeat' ((conv => whnf);(first|refine z1 ?_|refine z2 ?_|refine z3 ?_|refine z4 ?_|refine z5 ?_|refine z6 ?_|refine z7 ?_|refine z8 ?_|refine z9 ?_|refine za ?_|refine zb ?_|refine zc ?_|refine zd ?_|refine ze ?_|refine zf ?_|refine zg ?_|refine zh ?_|((first|refine zi ?_ ?_|refine zj ?_ ?_|refine zk ?_ ?_)<;> intro hh <;> first|(exfalso;omega)|skip)|(refine zl ?_ ?_<;> intro hh)|refine zm ?_|refine zn ?_|refine zo ?_|refine zp ?_|refine zq ?_|refine zv ?_|refine zr ?_|refine zs _ rfl ?_|exact Sy.fin_val (fun e=>rfl))));(all_goals (try conv => whnf)))
            refine Sy.call_mut 17 ⟨3, 1, (sortL (A ++ B)).length, (sortL (A ++ B)).map encI⟩ (.tup []) Try.call26 (fun e a w' h => by
              have := sort_mut (e.rv 17) (A ++ B) w' (h.hp 17 _ rfl).1 (by rw [List.length_append]; omega)
              rw [← sortL_len] at this
              exact this) ?_
            ((repeat' ((conv => whnf);(first|refine z1 ?_|refine z2 ?_|refine z3 ?_|refine z4 ?_|refine z5 ?_|refine z6 ?_|refine z7 ?_|refine z8 ?_|refine z9 ?_|refine za ?_|refine zb ?_|refine zc ?_|refine zd ?_|refine ze ?_|refine zf ?_|refine zg ?_|refine zh ?_|((first|refine zi ?_ ?_|refine zj ?_ ?_|refine zk ?_ ?_)<;> intro hh <;> first|(exfalso;omega)|skip)|(refine zl ?_ ?_<;> intro hh)|refine zm ?_|refine zn ?_|refine zo ?_|refine zp ?_|refine zq ?_|refine zv ?_|refine zr ?_|refine zs _ rfl ?_|exact Sy.fin_val (fun e=>rfl))));(all_goals (try conv => whnf)))
            refine Sy.call_k1 17 ⟨3, 1, U.length, U.map encI⟩ (fun j => .c (.row j)) Try.call27 (fun e x w' h => hCp (e.rv 17) w' (h.hp 17 _ rfl).1) ?_
            ((repeat' ((conv => whnf);(first|refine z1 ?_|refine z2 ?_|refine z3 ?_|refine z4 ?_|refine z5 ?_|refine z6 ?_|refine z7 ?_|refine z8 ?_|refine z9 ?_|refine za ?_|refine zb ?_|refine zc ?_|refine zd ?_|refine ze ?_|refine zf ?_|refine zg ?_|refine zh ?_|((first|refine zi ?_ ?_|refine zj ?_ ?_|refine zk ?_ ?_)<;> intro hh <;> first|(exfalso;omega)|skip)|(refine zl ?_ ?_<;> intro hh)|refine zm ?_|refine zn ?_|refine zo ?_|refine zp ?_|refine zq ?_|refine zv ?_|refine zr ?_|refine zs _ rfl ?_|exact Sy.fin_val (fun e=>rfl))));(all_goals (try conv => whnf)))
            refine Sy.call_val (.c (.v (.bool true))) Try.call25 rfl (fun e x w' h => by have := equalI_any (e.rv 18) (e.rv 13) U U w' (Sy.row_reads h (.inl ⟨_, rfl⟩)) (Sy.row_reads h (.inl ⟨_, rfl⟩)); rw [decide_eq_true rfl] at this; exact this) ?_
            ((repeat' ((conv => whnf);(first|refine z1 ?_|refine z2 ?_|refine z3 ?_|refine z4 ?_|refine z5 ?_|refine z6 ?_|refine z7 ?_|refine z8 ?_|refine z9 ?_|refine za ?_|refine zb ?_|refine zc ?_|refine zd ?_|refine ze ?_|refine zf ?_|refine zg ?_|refine zh ?_|((first|refine zi ?_ ?_|refine zj ?_ ?_|refine zk ?_ ?_)<;> intro hh <;> first|(exfalso;omega)|skip)|(refine zl ?_ ?_<;> intro hh)|refine zm ?_|refine zn ?_|refine zo ?_|refine zp ?_|refine zq ?_|refine zv ?_|refine zr ?_|refine zs _ rfl ?_|exact Sy.fin_val (fun e=>rfl))));(all_goals (try conv => whnf)))
            refine Sy.loop_inv Sy.tab_ok (fun m : Nat => [(98, .c (.v (.int .i64 m)))]) (fun _ => []) (fun m => m ≤ P.length) (fun m => P.length - m) 0 (Nat.zero_le _) ?_ (fun m hm => ?_)
            · ((repeat' (first|((conv => whnf);done)|((try conv => whnf);first|exact trivial|(refine And.intro ?_ ?_)|rfl|exact fun _ _ _ h=>h|exact fun _ _ _ _=>trivial)));(all_goals (try conv => whnf)))
            · ((repeat' ((conv => whnf);(first|refine z1 ?_|refine z2 ?_|refine z3 ?_|refine z4 ?_|refine z5 ?_|refine z6 ?_|refine z7 ?_|refine z8 ?_|refine z9 ?_|refine za ?_|refine zb ?_|refine zc ?_|refine zd ?_|refine ze ?_|refine zf ?_|refine zg ?_|refine zh ?_|((first|refine zi ?_ ?_|refine zj ?_ ?_|refine zk ?_ ?_)<;> intro hh <;> first|(exfalso;omega)|skip)|(refine zl ?_ ?_<;> intro hh)|refine zm ?_|refine zn ?_|refine zo ?_|refine zp ?_|refine zq ?_|refine zv ?_|refine zr ?_|refine zs _ rfl ?_|exact Sy.fin_val (fun e=>rfl))));(all_goals (try conv => whnf)))
              · have hlt : m < P.length := by omega
                refine Sy.el_map P[m] (List.getElem?_eq_getElem hlt) ?_
                have hin : P[m] ∈ A := by rw [hA, hPv]; exact anew_has h0 hPi (List.getElem_mem _)
                generalize P[m] = x at *
                ((repeat' ((conv => whnf);(first|refine z1 ?_|refine z2 ?_|refine z3 ?_|refine z4 ?_|refine z5 ?_|refine z6 ?_|refine z7 ?_|refine z8 ?_|refine z9 ?_|refine za ?_|refine zb ?_|refine zc ?_|refine zd ?_|refine ze ?_|refine zf ?_|refine zg ?_|refine zh ?_|((first|refine zi ?_ ?_|refine zj ?_ ?_|refine zk ?_ ?_)<;> intro hh <;> first|(exfalso;omega)|skip)|(refine zl ?_ ?_<;> intro hh)|refine zm ?_|refine zn ?_|refine zo ?_|refine zp ?_|refine zq ?_|refine zv ?_|refine zr ?_|refine zs _ rfl ?_|exact Sy.fin_val (fun e=>rfl))));(all_goals (try conv => whnf)))
                refine Sy.call_val (.c (.v (.bool true))) Try.call28 rfl (fun e y w' h => by have := contains_any a A x w' ((hE w' (h.ev w' fun _ _ => rfl)).2.2.2.1.mono fun b hb => h.fl b hb); rw [decide_eq_true hin] at this; exact this) ?_
                ((repeat' ((conv => whnf);(first|refine z1 ?_|refine z2 ?_|refine z3 ?_|refine z4 ?_|refine z5 ?_|refine z6 ?_|refine z7 ?_|refine z8 ?_|refine z9 ?_|refine za ?_|refine zb ?_|refine zc ?_|refine zd ?_|refine ze ?_|refine zf ?_|refine zg ?_|refine zh ?_|((first|refine zi ?_ ?_|refine zj ?_ ?_|refine zk ?_ ?_)<;> intro hh <;> first|(exfalso;omega)|skip)|(refine zl ?_ ?_<;> intro hh)|refine zm ?_|refine zn ?_|refine zo ?_|refine zp ?_|refine zq ?_|refine zv ?_|refine zr ?_|refine zs _ rfl ?_|exact Sy.fin_val (fun e=>rfl))));(all_goals (try conv => whnf)))
                refine ⟨m + 1, by omega, by omega, ?_⟩
                ((repeat' (first|((conv => whnf);done)|((try conv => whnf);first|exact trivial|(refine And.intro ?_ ?_)|rfl|exact fun _ _ _ h=>h|exact fun _ _ _ _=>trivial)));(all_goals (try conv => whnf)))
  · have hs0 : subtasks (opsOf ls) = 0 := by unfold subtasks; rw [if_neg h0]
    rw [hs0]
    ((repeat' ((conv => whnf);(first|refine z1 ?_|refine z2 ?_|refine z3 ?_|refine z4 ?_|refine z5 ?_|refine z6 ?_|refine z7 ?_|refine z8 ?_|refine z9 ?_|refine za ?_|refine zb ?_|refine zc ?_|refine zd ?_|refine ze ?_|refine zf ?_|refine zg ?_|refine zh ?_|((first|refine zi ?_ ?_|refine zj ?_ ?_|refine zk ?_ ?_)<;> intro hh <;> first|(exfalso;omega)|skip)|(refine zl ?_ ?_<;> intro hh)|refine zm ?_|refine zn ?_|refine zo ?_|refine zp ?_|refine zq ?_|refine zv ?_|refine zr ?_|refine zs _ rfl ?_|exact Sy.fin_val (fun e=>rfl))));(all_goals (try conv => whnf)))
    done
end Go.Proofs.Ythmcknchkecciaa
