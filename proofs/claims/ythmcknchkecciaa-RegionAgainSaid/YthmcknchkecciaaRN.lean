/- Region: the law Anew. -/
import Derived.Test.YthmcknchkecciaaRM
namespace Go.Proofs.Ythmcknchkecciaa
open Go Go.RowKit
open Sy (C SV V1 Blk St XD Els)
set_option maxRecDepth 10000

theorem nil_okI (F : Nat → Prop) (w : World) : XD.ok F w ⟨.slice none 0 0, 1, ([] : List Int).length, ([] : List Int).map encI⟩ := ⟨⟨rfl, fun c hc => (by cases hc), none, 0, rfl, Nat.le_refl _, Nat.zero_le _, fun h => absurd h (Nat.lt_irrefl _)⟩, fun c hc => by cases hc⟩
attribute [local irreducible] checkV regOf subN pick taskN subC ofL tasksL subtasks askE opV opsC thereB tasksV ofV ropV anewE anewV
set_option maxHeartbeats 4000000 in
theorem ranewlaw_any (v u : Value) (gl : List OpV) (us : List (Value × List Int)) (w : World) (hr : GOk (fun b => b < w.heap.size) w v gl) (hu : XD.ok (fun b => b < w.heap.size) w ⟨u, 1, us.length, us.map encU⟩ ∧ RowsOk w us) :
    Calls Try.prog 4 #[.agg #[v], u] w (Sy.Ret (.bool true) w) := by
  have hone := hr.one
  have hll := ok_len hu.1
  refine Sy.calls_of Sy.lv4 Sy.tab_ok Try.func4 rfl _ Try.ntmps4 [⟨u, 1, us.length, us.map encU⟩] [.agg [.v v], .c (.row 0)] rfl (by simp [Sy.allLt, SV.lt, Sy.ltAll, C.lt, hone]; rfl) rfl ⟨hu.1, trivial⟩ ?_
  ((repeat' ((conv => whnf);(first|refine z1 ?_|refine z2 ?_|refine z3 ?_|refine z4 ?_|refine z5 ?_|refine z6 ?_|refine z7 ?_|refine z8 ?_|refine z9 ?_|refine za ?_|refine zb ?_|refine zc ?_|refine zd ?_|refine ze ?_|refine zf ?_|refine zg ?_|refine zh ?_|((first|refine zi ?_ ?_|refine zj ?_ ?_|refine zk ?_ ?_)<;> intro hh <;> first|(exfalso;omega)|skip)|(refine zl ?_ ?_<;> intro hh)|refine zm ?_|refine zn ?_|refine zo ?_|refine zp ?_|refine zq ?_|refine zv ?_|refine zr ?_|refine zs _ rfl ?_|exact Sy.fin_val (fun e=>rfl))));(all_goals (try conv => whnf)))
  refine Sy.call_val (.c (.v (.bool true))) Try.call11 rfl (fun e a w' h => wakes_any w') ?_
  ((repeat' ((conv => whnf);(first|refine z1 ?_|refine z2 ?_|refine z3 ?_|refine z4 ?_|refine z5 ?_|refine z6 ?_|refine z7 ?_|refine z8 ?_|refine z9 ?_|refine za ?_|refine zb ?_|refine zc ?_|refine zd ?_|refine ze ?_|refine zf ?_|refine zg ?_|refine zh ?_|((first|refine zi ?_ ?_|refine zj ?_ ?_|refine zk ?_ ?_)<;> intro hh <;> first|(exfalso;omega)|skip)|(refine zl ?_ ?_<;> intro hh)|refine zm ?_|refine zn ?_|refine zo ?_|refine zp ?_|refine zq ?_|refine zv ?_|refine zr ?_|refine zs _ rfl ?_|exact Sy.fin_val (fun e=>rfl))));(all_goals (try conv => whnf)))
  refine Sy.call_own (short_does v gl hone) Try.call12 ?_ (fun e a w' F' h hF' => (GOk.later h (hr.mono fun b hb => ⟨hb, fun h => h⟩)).mono hF') (fun _ ls G G' w1 w2 hq hG hk o ho => (hq o ho).keep hG hk)
  ((conv => whnf);(refine And.intro ?_ (And.intro ?_ (And.intro ?_ (And.intro ?_ ?_))));(all_goals ((repeat' (first|((conv => whnf);done)|((try conv => whnf);first|exact trivial|(refine And.intro ?_ ?_)|rfl|exact fun _ _ _ h=>h|exact fun _ _ _ _=>trivial)));(all_goals (try conv => whnf))));rotate_right)
  intro ls hls G
  have hol := opsOf_len ls
  have hln : ls.length ≤ 9 := by rw [← hol, show opsOf ls = shortM (opsOf gl) from hls]; exact shortM_len _
  ((repeat' ((conv => whnf);(first|refine z1 ?_|refine z2 ?_|refine z3 ?_|refine z4 ?_|refine z5 ?_|refine z6 ?_|refine z7 ?_|refine z8 ?_|refine z9 ?_|refine za ?_|refine zb ?_|refine zc ?_|refine zd ?_|refine ze ?_|refine zf ?_|refine zg ?_|refine zh ?_|((first|refine zi ?_ ?_|refine zj ?_ ?_|refine zk ?_ ?_)<;> intro hh <;> first|(exfalso;omega)|skip)|(refine zl ?_ ?_<;> intro hh)|refine zm ?_|refine zn ?_|refine zo ?_|refine zp ?_|refine zq ?_|refine zv ?_|refine zr ?_|refine zs _ rfl ?_|exact Sy.fin_val (fun e=>rfl))));(all_goals (try conv => whnf)))
  refine Sy.call_val (.tup [.c (.v (.int .i64 (checkV (opsOf ls)).1)), .c (.v (.int .i64 (checkV (opsOf ls)).2))]) Try.call14 rfl (fun e a w' h => rcheck_any (e.rv 2) ls w' ⟨Sy.row_reads h (.inl ⟨_, rfl⟩), fun o ho => ((h.ev w' fun _ _ => rfl).2.2 o ho).mono fun b hb => h.fl b hb⟩) ?_
  ((repeat' ((conv => whnf);(first|refine z1 ?_|refine z2 ?_|refine z3 ?_|refine z4 ?_|refine z5 ?_|refine z6 ?_|refine z7 ?_|refine z8 ?_|refine z9 ?_|refine za ?_|refine zb ?_|refine zc ?_|refine zd ?_|refine ze ?_|refine zf ?_|refine zg ?_|refine zh ?_|((first|refine zi ?_ ?_|refine zj ?_ ?_|refine zk ?_ ?_)<;> intro hh <;> first|(exfalso;omega)|skip)|(refine zl ?_ ?_<;> intro hh)|refine zm ?_|refine zn ?_|refine zo ?_|refine zp ?_|refine zq ?_|refine zv ?_|refine zr ?_|refine zs _ rfl ?_|exact Sy.fin_val (fun e=>rfl))));(all_goals (try conv => whnf)))
  refine Sy.loop_inv Sy.tab_ok (fun m : Nat => [(25, .c (.v (.int .i64 m)))]) (fun m => []) (fun m => m ≤ us.length ∧ m ≤ 8) (fun m => us.length - m) 0 ⟨Nat.zero_le _, Nat.zero_le _⟩ ?_ (fun m hm => ?_)
  · ((repeat' (first|((conv => whnf);done)|((try conv => whnf);first|exact trivial|(refine And.intro ?_ ?_)|rfl|exact fun _ _ _ h=>h|exact fun _ _ _ _=>trivial)));(all_goals (try conv => whnf)))
  · obtain ⟨hm, hm8⟩ := hm
    ((repeat' ((conv => whnf);(first|refine z1 ?_|refine z2 ?_|refine z3 ?_|refine z4 ?_|refine z5 ?_|refine z6 ?_|refine z7 ?_|refine z8 ?_|refine z9 ?_|refine za ?_|refine zb ?_|refine zc ?_|refine zd ?_|refine ze ?_|refine zf ?_|refine zg ?_|refine zh ?_|((first|refine zi ?_ ?_|refine zj ?_ ?_|refine zk ?_ ?_)<;> intro hh <;> first|(exfalso;omega)|skip)|(refine zl ?_ ?_<;> intro hh)|refine zm ?_|refine zn ?_|refine zo ?_|refine zp ?_|refine zq ?_|refine zv ?_|refine zr ?_|refine zs _ rfl ?_|exact Sy.fin_val (fun e=>rfl))));(all_goals (try conv => whnf)))
    · have hlt : m < us.length := by omega
      have hg1 := List.getElem?_eq_getElem hlt
      have hxo := hu.2 _ (List.getElem_mem hlt)
      generalize us[m] = x at *
      have hxl := ok_len hxo
      refine Sy.el_map x hg1 ?_
      ((repeat' ((conv => whnf);(first|refine z1 ?_|refine z2 ?_|refine z3 ?_|refine z4 ?_|refine z5 ?_|refine z6 ?_|refine z7 ?_|refine z8 ?_|refine z9 ?_|refine za ?_|refine zb ?_|refine zc ?_|refine zd ?_|refine ze ?_|refine zf ?_|refine zg ?_|refine zh ?_|((first|refine zi ?_ ?_|refine zj ?_ ?_|refine zk ?_ ?_)<;> intro hh <;> first|(exfalso;omega)|skip)|(refine zl ?_ ?_<;> intro hh)|refine zm ?_|refine zn ?_|refine zo ?_|refine zp ?_|refine zq ?_|refine zv ?_|refine zr ?_|refine zs _ rfl ?_|exact Sy.fin_val (fun e=>rfl))));(all_goals (try conv => whnf)))
      refine open_x _ _ _ (hxo) (fun _ h => h) ?_
      ((repeat' ((conv => whnf);(first|refine z1 ?_|refine z2 ?_|refine z3 ?_|refine z4 ?_|refine z5 ?_|refine z6 ?_|refine z7 ?_|refine z8 ?_|refine z9 ?_|refine za ?_|refine zb ?_|refine zc ?_|refine zd ?_|refine ze ?_|refine zf ?_|refine zg ?_|refine zh ?_|((first|refine zi ?_ ?_|refine zj ?_ ?_|refine zk ?_ ?_)<;> intro hh <;> first|(exfalso;omega)|skip)|(refine zl ?_ ?_<;> intro hh)|refine zm ?_|refine zn ?_|refine zo ?_|refine zp ?_|refine zq ?_|refine zv ?_|refine zr ?_|refine zs _ rfl ?_|exact Sy.fin_val (fun e=>rfl))));(all_goals (try conv => whnf)))
      obtain ⟨n, hn⟩ : ∃ n, n = min x.2.length 20 := ⟨_, rfl⟩
      have hmin : Sy.minI (x.2.length : Int) 20 = (n : Int) := by unfold Sy.minI; split <;> omega
      refine Sy.sli_eq 0 n rfl hmin ⟨by omega, by omega⟩ ?_
      ((repeat' ((conv => whnf);(first|refine z1 ?_|refine z2 ?_|refine z3 ?_|refine z4 ?_|refine z5 ?_|refine z6 ?_|refine z7 ?_|refine z8 ?_|refine z9 ?_|refine za ?_|refine zb ?_|refine zc ?_|refine zd ?_|refine ze ?_|refine zf ?_|refine zg ?_|refine zh ?_|((first|refine zi ?_ ?_|refine zj ?_ ?_|refine zk ?_ ?_)<;> intro hh <;> first|(exfalso;omega)|skip)|(refine zl ?_ ?_<;> intro hh)|refine zm ?_|refine zn ?_|refine zo ?_|refine zp ?_|refine zq ?_|refine zv ?_|refine zr ?_|refine zs _ rfl ?_|exact Sy.fin_val (fun e=>rfl))));(all_goals (try conv => whnf)))
      refine Sy.need_of (by show (0 + (n - 0)) * 8 ≤ _ ∧ _; omega) ?_
      have hxs : List.take (n - 0) (List.drop 0 (x.2.map encI)) = (x.2.take n).map encI := by rw [List.drop_zero, ← List.map_take, Nat.sub_zero]
      have hxl2 : 0 + (n - 0) = (x.2.take n).length := by rw [List.length_take]; omega
      have hl20 : (x.2.take n).length ≤ 20 := by rw [List.length_take]; omega
      rw [hxs, hxl2]
      generalize x.2.take n = l at *
      ((repeat' ((conv => whnf);(first|refine z1 ?_|refine z2 ?_|refine z3 ?_|refine z4 ?_|refine z5 ?_|refine z6 ?_|refine z7 ?_|refine z8 ?_|refine z9 ?_|refine za ?_|refine zb ?_|refine zc ?_|refine zd ?_|refine ze ?_|refine zf ?_|refine zg ?_|refine zh ?_|((first|refine zi ?_ ?_|refine zj ?_ ?_|refine zk ?_ ?_)<;> intro hh <;> first|(exfalso;omega)|skip)|(refine zl ?_ ?_<;> intro hh)|refine zm ?_|refine zn ?_|refine zo ?_|refine zp ?_|refine zq ?_|refine zv ?_|refine zr ?_|refine zs _ rfl ?_|exact Sy.fin_val (fun e=>rfl))));(all_goals (try conv => whnf)))
      refine Sy.call_r1 ⟨3, 1, (anewV (opsOf ls) l).length, (anewV (opsOf ls) l).map encI⟩ (fun j => .tup [.c (.row j), .c (.v (.int .i64 (anewE (opsOf ls) l)))]) Try.call18 (fun e a w' h => anew_any (e.rv 2) (e.rv 7) ls l w' ⟨Sy.row_reads h (.inl ⟨_, rfl⟩), fun o ho => ((h.ev w' fun _ _ => rfl).2.2 o ho).mono fun b hb => h.fl b hb⟩ (Sy.row_reads h (.inl ⟨_, rfl⟩)) (by omega)) ?_
      by_cases h0 : (checkV (opsOf ls)).2 = 0
      · rw [h0]
        cases hth : thereB (opsOf ls) l
        · have hv : anewE (opsOf ls) l = 2 := by unfold anewE; rw [if_pos h0, if_neg (by rw [hth]; simp)]
          have hv2 : anewV (opsOf ls) l = [] := by unfold anewV; rw [hv, if_neg (by decide)]
          rw [hv]
          ((repeat' ((conv => whnf);(first|refine z1 ?_|refine z2 ?_|refine z3 ?_|refine z4 ?_|refine z5 ?_|refine z6 ?_|refine z7 ?_|refine z8 ?_|refine z9 ?_|refine za ?_|refine zb ?_|refine zc ?_|refine zd ?_|refine ze ?_|refine zf ?_|refine zg ?_|refine zh ?_|((first|refine zi ?_ ?_|refine zj ?_ ?_|refine zk ?_ ?_)<;> intro hh <;> first|(exfalso;omega)|skip)|(refine zl ?_ ?_<;> intro hh)|refine zm ?_|refine zn ?_|refine zo ?_|refine zp ?_|refine zq ?_|refine zv ?_|refine zr ?_|refine zs _ rfl ?_|exact Sy.fin_val (fun e=>rfl))));(all_goals (try conv => whnf)))
          refine Sy.call_r1 ⟨3, 1, (anewV (opsOf ls) l).length, (anewV (opsOf ls) l).map encI⟩ (fun j => .tup [.c (.row j), .c (.v (.bool false))]) Try.call19 (fun e a w' h => by have := ranew_any (e.rv 2) (e.rv 7) ls l w' ⟨Sy.row_reads h (.inl ⟨_, rfl⟩), fun o ho => ((h.ev w' fun _ _ => rfl).2.2 o ho).mono fun b hb => h.fl b hb⟩ (Sy.row_reads h (.inl ⟨_, rfl⟩)) h0; rw [hth] at this; exact this) ?_
          ((repeat' ((conv => whnf);(first|refine z1 ?_|refine z2 ?_|refine z3 ?_|refine z4 ?_|refine z5 ?_|refine z6 ?_|refine z7 ?_|refine z8 ?_|refine z9 ?_|refine za ?_|refine zb ?_|refine zc ?_|refine zd ?_|refine ze ?_|refine zf ?_|refine zg ?_|refine zh ?_|((first|refine zi ?_ ?_|refine zj ?_ ?_|refine zk ?_ ?_)<;> intro hh <;> first|(exfalso;omega)|skip)|(refine zl ?_ ?_<;> intro hh)|refine zm ?_|refine zn ?_|refine zo ?_|refine zp ?_|refine zq ?_|refine zv ?_|refine zr ?_|refine zs _ rfl ?_|exact Sy.fin_val (fun e=>rfl))));(all_goals (try conv => whnf)))
          refine Sy.call_val (.c (.v (.bool true))) Try.call16 rfl (fun e a w' h => by have := same10_any (e.rv 8) (e.rv 9) _ _ w' (Sy.row_reads h (.inl ⟨_, rfl⟩)) (Sy.row_reads h (.inl ⟨_, rfl⟩)); rw [decide_eq_true rfl] at this; exact this) ?_
          ((repeat' ((conv => whnf);(first|refine z1 ?_|refine z2 ?_|refine z3 ?_|refine z4 ?_|refine z5 ?_|refine z6 ?_|refine z7 ?_|refine z8 ?_|refine z9 ?_|refine za ?_|refine zb ?_|refine zc ?_|refine zd ?_|refine ze ?_|refine zf ?_|refine zg ?_|refine zh ?_|((first|refine zi ?_ ?_|refine zj ?_ ?_|refine zk ?_ ?_)<;> intro hh <;> first|(exfalso;omega)|skip)|(refine zl ?_ ?_<;> intro hh)|refine zm ?_|refine zn ?_|refine zo ?_|refine zp ?_|refine zq ?_|refine zv ?_|refine zr ?_|refine zs _ rfl ?_|exact Sy.fin_val (fun e=>rfl))));(all_goals (try conv => whnf)))
          refine ⟨m + 1, ⟨by omega, by omega⟩, by omega, ?_⟩
          ((repeat' (first|((conv => whnf);done)|((try conv => whnf);first|exact trivial|(refine And.intro ?_ ?_)|rfl|exact fun _ _ _ h=>h|exact fun _ _ _ _=>trivial)));(all_goals (try conv => whnf)))
        · have hv : anewE (opsOf ls) l = 0 := by unfold anewE; rw [if_pos h0, if_pos hth]
          rw [hv]
          ((repeat' ((conv => whnf);(first|refine z1 ?_|refine z2 ?_|refine z3 ?_|refine z4 ?_|refine z5 ?_|refine z6 ?_|refine z7 ?_|refine z8 ?_|refine z9 ?_|refine za ?_|refine zb ?_|refine zc ?_|refine zd ?_|refine ze ?_|refine zf ?_|refine zg ?_|refine zh ?_|((first|refine zi ?_ ?_|refine zj ?_ ?_|refine zk ?_ ?_)<;> intro hh <;> first|(exfalso;omega)|skip)|(refine zl ?_ ?_<;> intro hh)|refine zm ?_|refine zn ?_|refine zo ?_|refine zp ?_|refine zq ?_|refine zv ?_|refine zr ?_|refine zs _ rfl ?_|exact Sy.fin_val (fun e=>rfl))));(all_goals (try conv => whnf)))
          refine Sy.call_r1 ⟨3, 1, (anewV (opsOf ls) l).length, (anewV (opsOf ls) l).map encI⟩ (fun j => .tup [.c (.row j), .c (.v (.bool true))]) Try.call19 (fun e a w' h => by have := ranew_any (e.rv 2) (e.rv 7) ls l w' ⟨Sy.row_reads h (.inl ⟨_, rfl⟩), fun o ho => ((h.ev w' fun _ _ => rfl).2.2 o ho).mono fun b hb => h.fl b hb⟩ (Sy.row_reads h (.inl ⟨_, rfl⟩)) h0; rw [hth] at this; exact this) ?_
          ((repeat' ((conv => whnf);(first|refine z1 ?_|refine z2 ?_|refine z3 ?_|refine z4 ?_|refine z5 ?_|refine z6 ?_|refine z7 ?_|refine z8 ?_|refine z9 ?_|refine za ?_|refine zb ?_|refine zc ?_|refine zd ?_|refine ze ?_|refine zf ?_|refine zg ?_|refine zh ?_|((first|refine zi ?_ ?_|refine zj ?_ ?_|refine zk ?_ ?_)<;> intro hh <;> first|(exfalso;omega)|skip)|(refine zl ?_ ?_<;> intro hh)|refine zm ?_|refine zn ?_|refine zo ?_|refine zp ?_|refine zq ?_|refine zv ?_|refine zr ?_|refine zs _ rfl ?_|exact Sy.fin_val (fun e=>rfl))));(all_goals (try conv => whnf)))
          refine Sy.call_val (.c (.v (.bool true))) Try.call16 rfl (fun e a w' h => by have := same10_any (e.rv 8) (e.rv 9) _ _ w' (Sy.row_reads h (.inl ⟨_, rfl⟩)) (Sy.row_reads h (.inl ⟨_, rfl⟩)); rw [decide_eq_true rfl] at this; exact this) ?_
          ((repeat' ((conv => whnf);(first|refine z1 ?_|refine z2 ?_|refine z3 ?_|refine z4 ?_|refine z5 ?_|refine z6 ?_|refine z7 ?_|refine z8 ?_|refine z9 ?_|refine za ?_|refine zb ?_|refine zc ?_|refine zd ?_|refine ze ?_|refine zf ?_|refine zg ?_|refine zh ?_|((first|refine zi ?_ ?_|refine zj ?_ ?_|refine zk ?_ ?_)<;> intro hh <;> first|(exfalso;omega)|skip)|(refine zl ?_ ?_<;> intro hh)|refine zm ?_|refine zn ?_|refine zo ?_|refine zp ?_|refine zq ?_|refine zv ?_|refine zr ?_|refine zs _ rfl ?_|exact Sy.fin_val (fun e=>rfl))));(all_goals (try conv => whnf)))
          refine ⟨m + 1, ⟨by omega, by omega⟩, by omega, ?_⟩
          ((repeat' (first|((conv => whnf);done)|((try conv => whnf);first|exact trivial|(refine And.intro ?_ ?_)|rfl|exact fun _ _ _ h=>h|exact fun _ _ _ _=>trivial)));(all_goals (try conv => whnf)))
      · have hv : anewE (opsOf ls) l = (checkV (opsOf ls)).2 := by unfold anewE; exact if_neg h0
        have hv2 : anewV (opsOf ls) l = [] := by unfold anewV; rw [hv, if_neg h0]
        rw [hv, hv2]
        ((repeat' ((conv => whnf);(first|refine z1 ?_|refine z2 ?_|refine z3 ?_|refine z4 ?_|refine z5 ?_|refine z6 ?_|refine z7 ?_|refine z8 ?_|refine z9 ?_|refine za ?_|refine zb ?_|refine zc ?_|refine zd ?_|refine ze ?_|refine zf ?_|refine zg ?_|refine zh ?_|((first|refine zi ?_ ?_|refine zj ?_ ?_|refine zk ?_ ?_)<;> intro hh <;> first|(exfalso;omega)|skip)|(refine zl ?_ ?_<;> intro hh)|refine zm ?_|refine zn ?_|refine zo ?_|refine zp ?_|refine zq ?_|refine zv ?_|refine zr ?_|refine zs _ rfl ?_|exact Sy.fin_val (fun e=>rfl))));(all_goals (try conv => whnf)))
        refine ⟨m + 1, ⟨by omega, by omega⟩, by omega, ?_⟩
        ((repeat' (first|((conv => whnf);done)|((try conv => whnf);first|exact trivial|(refine And.intro ?_ ?_)|rfl|exact fun _ _ _ h=>h|exact fun _ _ _ _=>trivial)));(all_goals (try conv => whnf)))
end Go.Proofs.Ythmcknchkecciaa
