/- Slots: the law Even. -/
import Derived.Test.YtjhjmeajdebcbaaSQ
import Derived.Test.YtjhjmeajdebcbaaSR
namespace Go.Proofs.Ytjhjmeajdebcbaa
open Go Go.RowKit
open Sy (C SV V1 Blk St XD Els)
set_option maxRecDepth 100000

/-- So many workers of as many slots; so many tasks. -/
def floorW (k : Nat) (E : Int) : List (Int × Int) := (List.range k).map fun i : Nat => ((i : Int) + 1, E)
def tasksN (n : Nat) : List Int := (List.range n).map fun i : Nat => (i : Int)
theorem tasksN_succ (n : Nat) : tasksN (n + 1) = tasksN n ++ [(n : Int)] := by unfold tasksN; rw [List.range_succ, List.map_append]; rfl
theorem tasksN_len (n : Nat) : (tasksN n).length = n := by unfold tasksN; simp
theorem floor_come : ∀ k : Nat, k < 4 → ∀ e : Nat, e < 8 → comeE (floorW k ((e : Int) + 1)) [] ((k : Int) + 1, (e : Int) + 1) = 0 ∧ comeV (floorW k ((e : Int) + 1)) [] ((k : Int) + 1, (e : Int) + 1) = (floorW (k + 1) ((e : Int) + 1), []) := by decide +kernel
theorem floor_lay : ∀ k : Nat, k < 4 → ∀ e : Nat, e < 8 → ∀ n : Nat, n < 17 → layE (floorW (k + 1) ((e : Int) + 1)) [] (tasksN n) = if (k + 1) * (e + 1) < n then 6 else 0 := by decide +kernel
def cntAt (k e n i : Nat) : Nat := (atV (floorW (k + 1) ((e : Int) + 1)) (layV (floorW (k + 1) ((e : Int) + 1)) [] (tasksN n)).2 ((i : Int) + 1)).length
def evenB (k e n : Nat) : Bool := decide ((k + 1) * (e + 1) < n) || (List.range (k + 1)).all fun i => decide (n / (k + 1) ≤ cntAt k e n i) && decide (cntAt k e n i ≤ n / (k + 1) + 1)
theorem floor_evenB : ∀ k : Nat, k < 4 → ∀ e : Nat, e < 8 → ∀ n : Nat, n < 17 → evenB k e n = true := by decide +kernel
theorem floor_even {k e n i : Nat} (hk : k < 4) (he : e < 8) (hn : n < 17) (hle : ¬ (k + 1) * (e + 1) < n) (hi : i < k + 1) : n / (k + 1) ≤ cntAt k e n i ∧ cntAt k e n i ≤ n / (k + 1) + 1 := by
  have := floor_evenB k hk e he n hn
  unfold evenB at this
  rw [decide_eq_false hle, Bool.false_or, List.all_eq_true] at this
  have := this i (List.mem_range.2 hi)
  rw [Bool.and_eq_true, decide_eq_true_eq, decide_eq_true_eq] at this
  exact this
theorem hMul (k e : Nat) : ((k : Int) + 1) * ((e : Int) + 1) = (((k + 1) * (e + 1) : Nat) : Int) := by rw [Int.natCast_mul]; rfl
theorem natdiv_le (n k : Nat) : n / (k + 1) ≤ n := Nat.div_le_self _ _
attribute [local irreducible] comeV comeE layV layE atV floorW tasksN
set_option maxHeartbeats 2000000 in
theorem leven_any (a b c : Int) (w : World) : Calls Try.prog 3 #[.int .i64 a, .int .i64 b, .int .i64 c] w (Sy.Ret (.bool true) w) := by
  refine Sy.calls_of Sy.lv3 Sy.tab_ok Try.func3 rfl _ Try.ntmps3 [] [.c (.v (.int .i64 a)), .c (.v (.int .i64 b)), .c (.v (.int .i64 c))] rfl rfl rfl trivial ?_
  ((repeat' ((conv => whnf);(first|refine z1 ?_|refine z2 ?_|refine z3 ?_|refine z4 ?_|refine z5 ?_|refine z6 ?_|refine z7 ?_|refine z8 ?_|refine z9 ?_|refine za ?_|refine zb ?_|refine zc ?_|refine zd ?_|refine ze ?_|refine zf ?_|refine zg ?_|refine zh ?_|((first|refine zi ?_ ?_|refine zj ?_ ?_|refine zk ?_ ?_)<;> intro hh <;> first|(exfalso;omega)|skip)|(refine zl ?_ ?_<;> intro hh)|refine zm ?_|refine zn ?_|refine zo ?_|refine zp ?_|refine zq ?_|refine zv ?_|refine zr ?_|refine zs _ rfl ?_|refine zu ?_|exact Sy.fin_val (fun e=>rfl))));(all_goals (try conv => whnf)))
  refine Sy.call_val (.c (.v (.bool true))) Try.call9 rfl (fun e a w' h => wakes_any w') ?_
  ((repeat' ((conv => whnf);(first|refine z1 ?_|refine z2 ?_|refine z3 ?_|refine z4 ?_|refine z5 ?_|refine z6 ?_|refine z7 ?_|refine z8 ?_|refine z9 ?_|refine za ?_|refine zb ?_|refine zc ?_|refine zd ?_|refine ze ?_|refine zf ?_|refine zg ?_|refine zh ?_|((first|refine zi ?_ ?_|refine zj ?_ ?_|refine zk ?_ ?_)<;> intro hh <;> first|(exfalso;omega)|skip)|(refine zl ?_ ?_<;> intro hh)|refine zm ?_|refine zn ?_|refine zo ?_|refine zp ?_|refine zq ?_|refine zv ?_|refine zr ?_|refine zs _ rfl ?_|refine zu ?_|exact Sy.fin_val (fun e=>rfl))));(all_goals (try conv => whnf)))
  have hma : 0 ≤ Sy.maxI a 0 := by unfold Sy.maxI; split <;> omega
  have hmb : 0 ≤ Sy.maxI b 0 := by unfold Sy.maxI; split <;> omega
  have hmc : 0 ≤ Sy.maxI c 0 := by unfold Sy.maxI; split <;> omega
  refine Sy.rem_in (by omega) (by omega) ?_
  obtain ⟨k, hk⟩ : ∃ k : Nat, Sy.maxI a 0 % 4 = (k : Int) := ⟨(Sy.maxI a 0 % 4).toNat, by omega⟩
  rw [hk]
  ((repeat' ((conv => whnf);(first|refine z1 ?_|refine z2 ?_|refine z3 ?_|refine z4 ?_|refine z5 ?_|refine z6 ?_|refine z7 ?_|refine z8 ?_|refine z9 ?_|refine za ?_|refine zb ?_|refine zc ?_|refine zd ?_|refine ze ?_|refine zf ?_|refine zg ?_|refine zh ?_|((first|refine zi ?_ ?_|refine zj ?_ ?_|refine zk ?_ ?_)<;> intro hh <;> first|(exfalso;omega)|skip)|(refine zl ?_ ?_<;> intro hh)|refine zm ?_|refine zn ?_|refine zo ?_|refine zp ?_|refine zq ?_|refine zv ?_|refine zr ?_|refine zs _ rfl ?_|refine zu ?_|exact Sy.fin_val (fun e=>rfl))));(all_goals (try conv => whnf)))
  refine Sy.rem_in (by omega) (by omega) ?_
  obtain ⟨e, he⟩ : ∃ e : Nat, Sy.maxI b 0 % 8 = (e : Int) := ⟨(Sy.maxI b 0 % 8).toNat, by omega⟩
  rw [he]
  ((repeat' ((conv => whnf);(first|refine z1 ?_|refine z2 ?_|refine z3 ?_|refine z4 ?_|refine z5 ?_|refine z6 ?_|refine z7 ?_|refine z8 ?_|refine z9 ?_|refine za ?_|refine zb ?_|refine zc ?_|refine zd ?_|refine ze ?_|refine zf ?_|refine zg ?_|refine zh ?_|((first|refine zi ?_ ?_|refine zj ?_ ?_|refine zk ?_ ?_)<;> intro hh <;> first|(exfalso;omega)|skip)|(refine zl ?_ ?_<;> intro hh)|refine zm ?_|refine zn ?_|refine zo ?_|refine zp ?_|refine zq ?_|refine zv ?_|refine zr ?_|refine zs _ rfl ?_|refine zu ?_|exact Sy.fin_val (fun e=>rfl))));(all_goals (try conv => whnf)))
  refine Sy.rem_in (by omega) (by omega) ?_
  obtain ⟨n, hn⟩ : ∃ n : Nat, Sy.maxI c 0 % 17 = (n : Int) := ⟨(Sy.maxI c 0 % 17).toNat, by omega⟩
  rw [hn]
  have hk4 : k < 4 := by omega
  have he8 : e < 8 := by omega
  have hn17 : n < 17 := by omega
  ((repeat' ((conv => whnf);(first|refine z1 ?_|refine z2 ?_|refine z3 ?_|refine z4 ?_|refine z5 ?_|refine z6 ?_|refine z7 ?_|refine z8 ?_|refine z9 ?_|refine za ?_|refine zb ?_|refine zc ?_|refine zd ?_|refine ze ?_|refine zf ?_|refine zg ?_|refine zh ?_|((first|refine zi ?_ ?_|refine zj ?_ ?_|refine zk ?_ ?_)<;> intro hh <;> first|(exfalso;omega)|skip)|(refine zl ?_ ?_<;> intro hh)|refine zm ?_|refine zn ?_|refine zo ?_|refine zp ?_|refine zq ?_|refine zv ?_|refine zr ?_|refine zs _ rfl ?_|refine zu ?_|exact Sy.fin_val (fun e=>rfl))));(all_goals (try conv => whnf)))
  refine Sy.sem_subF (Sy.sub_rowc 0 0 31 2 rfl rfl) ?_
  conv => whnf
  refine Sy.sem_subF (Sy.sub_rowc 0 1 67 2 rfl rfl) ?_
  conv => whnf
  refine Sy.loop_inv Sy.tab_ok (fun i : Nat => [(8, .c (.v (.int .i64 ((i : Int) + 1))))]) (fun i => [(0, .cells 26 [.row 1, .row 2]), (1, .row 31 2 (floorW i ((e : Int) + 1)).length (.vs ((floorW i ((e : Int) + 1)).map enc2))), (2, .row 67 2 0 (.vs []))]) (fun i => i ≤ k + 1) (fun i => k + 1 - i) 0 (Nat.zero_le _) ?_ (fun i hi => ?_)
  · rw [show floorW 0 ((e : Int) + 1) = [] by unfold floorW; rfl]
    ((repeat' (first|((conv => whnf);done)|((try conv => whnf);first|exact trivial|(refine And.intro ?_ ?_)|rfl|exact fun _ _ _ h=>h|exact fun _ _ _ _=>trivial)));(all_goals (try conv => whnf)))
  · ((repeat' ((conv => whnf);(first|refine z1 ?_|refine z2 ?_|refine z3 ?_|refine z4 ?_|refine z5 ?_|refine z6 ?_|refine z7 ?_|refine z8 ?_|refine z9 ?_|refine za ?_|refine zb ?_|refine zc ?_|refine zd ?_|refine ze ?_|refine zf ?_|refine zg ?_|refine zh ?_|((first|refine zi ?_ ?_|refine zj ?_ ?_|refine zk ?_ ?_)<;> intro hh <;> first|(exfalso;omega)|skip)|(refine zl ?_ ?_<;> intro hh)|refine zm ?_|refine zn ?_|refine zo ?_|refine zp ?_|refine zq ?_|refine zv ?_|refine zr ?_|refine zs _ rfl ?_|refine zu ?_|exact Sy.fin_val (fun e=>rfl))));(all_goals (try conv => whnf)))
    · obtain ⟨hc1, hc2⟩ := floor_come i (by omega) e he8
      refine Sy.call_r2f ⟨31, 2, (floorW (i + 1) ((e : Int) + 1)).length, (floorW (i + 1) ((e : Int) + 1)).map enc2⟩ ⟨67, 2, ([] : List (Int × Int)).length, ([] : List (Int × Int)).map enc2⟩ (fun j => .tup [.agg [.row j, .row (j + 1)], .c (.v (.int .i64 0))]) Try.call10 (fun e1 a w' h => by have := come_any (e1.rv 1) (e1.rv 2) (floorW i ((e : Int) + 1)) [] ((i : Int) + 1, (e : Int) + 1) w' (Sy.row_reads h (.inl ⟨_, rfl⟩)) (Sy.row_reads h (.inl ⟨_, rfl⟩)) (by decide); rw [hc1, hc2] at this; exact this) ?_
      ((repeat' ((conv => whnf);(first|refine z1 ?_|refine z2 ?_|refine z3 ?_|refine z4 ?_|refine z5 ?_|refine z6 ?_|refine z7 ?_|refine z8 ?_|refine z9 ?_|refine za ?_|refine zb ?_|refine zc ?_|refine zd ?_|refine ze ?_|refine zf ?_|refine zg ?_|refine zh ?_|((first|refine zi ?_ ?_|refine zj ?_ ?_|refine zk ?_ ?_)<;> intro hh <;> first|(exfalso;omega)|skip)|(refine zl ?_ ?_<;> intro hh)|refine zm ?_|refine zn ?_|refine zo ?_|refine zp ?_|refine zq ?_|refine zv ?_|refine zr ?_|refine zs _ rfl ?_|refine zu ?_|exact Sy.fin_val (fun e=>rfl))));(all_goals (try conv => whnf)))
      refine ⟨i + 1, by omega, by omega, ?_⟩
      ((repeat' (first|((conv => whnf);done)|((try conv => whnf);first|exact trivial|(refine And.intro ?_ ?_)|rfl|exact fun _ _ _ h=>h|exact fun _ _ _ _=>trivial)));(all_goals (try conv => whnf)))
    · have ei : i = k + 1 := by omega
      subst ei
      refine Sy.sem_subF (Sy.sub_row 11 3 1 rfl) ?_
      conv => whnf
      refine Sy.loop_inv Sy.tab_ok (fun i : Nat => [(48, .c (.v (.int .i64 i))), (11, .c (.row 3))]) (fun i => [(3, .row 3 1 i (.vs ((tasksN i).map encI)))]) (fun i => i ≤ n) (fun i => n - i) 0 (Nat.zero_le _) ?_ (fun i hi => ?_)
      · rw [show tasksN 0 = [] by unfold tasksN; rfl]
        ((repeat' (first|((conv => whnf);done)|((try conv => whnf);first|exact trivial|(refine And.intro ?_ ?_)|rfl|exact fun _ _ _ h=>h|exact fun _ _ _ _=>trivial)));(all_goals (try conv => whnf)))
      · ((repeat' ((conv => whnf);(first|refine z1 ?_|refine z2 ?_|refine z3 ?_|refine z4 ?_|refine z5 ?_|refine z6 ?_|refine z7 ?_|refine z8 ?_|refine z9 ?_|refine za ?_|refine zb ?_|refine zc ?_|refine zd ?_|refine ze ?_|refine zf ?_|refine zg ?_|refine zh ?_|((first|refine zi ?_ ?_|refine zj ?_ ?_|refine zk ?_ ?_)<;> intro hh <;> first|(exfalso;omega)|skip)|(refine zl ?_ ?_<;> intro hh)|refine zm ?_|refine zn ?_|refine zo ?_|refine zp ?_|refine zq ?_|refine zv ?_|refine zr ?_|refine zs _ rfl ?_|refine zu ?_|exact Sy.fin_val (fun e=>rfl))));(all_goals (try conv => whnf)))
        · refine Sy.need_of (by show (i + 1) * 8 ≤ _ ∧ _; omega) ?_
          ((repeat' ((conv => whnf);(first|refine z1 ?_|refine z2 ?_|refine z3 ?_|refine z4 ?_|refine z5 ?_|refine z6 ?_|refine z7 ?_|refine z8 ?_|refine z9 ?_|refine za ?_|refine zb ?_|refine zc ?_|refine zd ?_|refine ze ?_|refine zf ?_|refine zg ?_|refine zh ?_|((first|refine zi ?_ ?_|refine zj ?_ ?_|refine zk ?_ ?_)<;> intro hh <;> first|(exfalso;omega)|skip)|(refine zl ?_ ?_<;> intro hh)|refine zm ?_|refine zn ?_|refine zo ?_|refine zp ?_|refine zq ?_|refine zv ?_|refine zr ?_|refine zs _ rfl ?_|refine zu ?_|exact Sy.fin_val (fun e=>rfl))));(all_goals (try conv => whnf)))
          refine ⟨i + 1, by omega, by omega, ?_⟩
          rw [tasksN_succ, List.map_append]
          ((repeat' (first|((conv => whnf);done)|((try conv => whnf);first|exact trivial|(refine And.intro ?_ ?_)|rfl|exact fun _ _ _ h=>h|exact fun _ _ _ _=>trivial)));(all_goals (try conv => whnf)))
        · have ei : i = n := by omega
          subst ei
          have hlE := floor_lay k hk4 e he8 i hn17
          have htl := tasksN_len i
          refine Sy.call_r2f ⟨31, 2, (layV (floorW (k + 1) ((e : Int) + 1)) [] (tasksN i)).1.length, (layV (floorW (k + 1) ((e : Int) + 1)) [] (tasksN i)).1.map enc2⟩ ⟨67, 2, (layV (floorW (k + 1) ((e : Int) + 1)) [] (tasksN i)).2.length, (layV (floorW (k + 1) ((e : Int) + 1)) [] (tasksN i)).2.map enc2⟩ (fun j => .tup [.agg [.row j, .row (j + 1)], .c (.v (.int .i64 (layE (floorW (k + 1) ((e : Int) + 1)) [] (tasksN i))))]) Try.call11 (fun e1 a w' h => lay_any (e1.rv 1) (e1.rv 2) (e1.rv 3) (floorW (k + 1) ((e : Int) + 1)) [] (tasksN i) w' (Sy.row_reads h (.inl ⟨_, rfl⟩)) (Sy.row_reads h (.inl ⟨_, rfl⟩)) (by have := Sy.row_reads h (k := 3) (.inl ⟨_, rfl⟩); rw [htl]; exact this) (by decide) (by rw [htl]; omega)) ?_
          by_cases hover : (k + 1) * (e + 1) < i
          · rw [if_pos hover] at hlE
            rw [hlE]
            have hM := hMul k e
            have hM2 : (k + 1) * (e + 1) ≤ 4 * 8 := Nat.mul_le_mul (by omega) (by omega)
            generalize (k + 1) * (e + 1) = M at *
            ((repeat' ((conv => whnf);(first|refine z1 ?_|refine z2 ?_|refine z3 ?_|refine z4 ?_|refine z5 ?_|refine z6 ?_|refine z7 ?_|refine z8 ?_|refine z9 ?_|refine za ?_|refine zb ?_|refine zc ?_|refine zd ?_|refine ze ?_|refine zf ?_|refine zg ?_|refine zh ?_|((first|refine zi ?_ ?_|refine zj ?_ ?_|refine zk ?_ ?_)<;> intro hh <;> first|(exfalso;omega)|skip)|(refine zl ?_ ?_<;> intro hh)|refine zm ?_|refine zn ?_|refine zo ?_|refine zp ?_|refine zq ?_|refine zv ?_|refine zr ?_|refine zs _ rfl ?_|refine zu ?_|exact Sy.fin_val (fun e=>rfl))));(all_goals (try conv => whnf)))
            all_goals first | done | exact Sy.fin_val (fun e => congrArg Value.bool (decide_eq_true (by omega)))
          · rw [if_neg hover] at hlE
            have hlV1 : (layV (floorW (k + 1) ((e : Int) + 1)) [] (tasksN i)).1 = floorW (k + 1) ((e : Int) + 1) := by unfold layV; rw [if_pos hlE]
            have hev := fun j hj => floor_even (i := j) hk4 he8 hn17 hover hj
            have hM := hMul k e
            have hM2 : (k + 1) * (e + 1) ≤ 4 * 8 := Nat.mul_le_mul (by omega) (by omega)
            generalize (k + 1) * (e + 1) = M at *
            have hq := natdiv_le i k
            have hcnt : ∀ j, cntAt k e i j = (atV (floorW (k + 1) ((e : Int) + 1)) (layV (floorW (k + 1) ((e : Int) + 1)) [] (tasksN i)).2 ((j : Int) + 1)).length := fun j => rfl
            have hpl : (layV (floorW (k + 1) ((e : Int) + 1)) [] (tasksN i)).2.length ≤ 1000 := by
              have h1 : layV (floorW (k + 1) ((e : Int) + 1)) [] (tasksN i) = (floorW (k + 1) ((e : Int) + 1), layL (floorW (k + 1) ((e : Int) + 1)) [] (tasksN i)) := by unfold layV; rw [if_pos hlE]
              rw [h1]
              obtain ⟨a1, a2, a3, a4⟩ := layE_zero hlE
              have hla := (lay_all a1 a2 a3 a4 (tasksN i).length (Nat.le_refl _)).1
              rw [List.take_length] at hla
              have := (ok_lens hla).2
              dsimp only
              omega
            generalize (layV (floorW (k + 1) ((e : Int) + 1)) [] (tasksN i)).2 = Q at *
            generalize i / (k + 1) = q at *
            rw [hlE, hlV1]
            ((repeat' ((conv => whnf);(first|refine z1 ?_|refine z2 ?_|refine z3 ?_|refine z4 ?_|refine z5 ?_|refine z6 ?_|refine z7 ?_|refine z8 ?_|refine z9 ?_|refine za ?_|refine zb ?_|refine zc ?_|refine zd ?_|refine ze ?_|refine zf ?_|refine zg ?_|refine zh ?_|((first|refine zi ?_ ?_|refine zj ?_ ?_|refine zk ?_ ?_)<;> intro hh <;> first|(exfalso;omega)|skip)|(refine zl ?_ ?_<;> intro hh)|refine zm ?_|refine zn ?_|refine zo ?_|refine zp ?_|refine zq ?_|refine zv ?_|refine zr ?_|refine zs _ rfl ?_|refine zu ?_|exact Sy.fin_val (fun e=>rfl))));(all_goals (try conv => whnf)))
            refine Sy.loop_inv Sy.tab_ok (fun x : Nat × Int × Int => [(16, .c (.v (.int .i64 ((x.1 : Int) + 1)))), (14, .c (.v (.int .i64 x.2.1))), (15, .c (.v (.int .i64 x.2.2)))]) (fun x => []) (fun x => x.1 ≤ k + 1 ∧ (q : Int) ≤ x.2.1 ∧ x.2.1 ≤ 16 ∧ 0 ≤ x.2.2 ∧ x.2.2 ≤ q + 1) (fun x => k + 1 - x.1) (0, 16, 0) ⟨Nat.zero_le _, by dsimp only; omega, by dsimp only; omega, by dsimp only; omega, by dsimp only; omega⟩ ?_ (fun x hx => ?_)
            · ((repeat' (first|((conv => whnf);done)|((try conv => whnf);first|exact trivial|(refine And.intro ?_ ?_)|rfl|exact fun _ _ _ h=>h|exact fun _ _ _ _=>trivial)));(all_goals (try conv => whnf)))
            · obtain ⟨j, least, most⟩ := x
              dsimp only at hx ⊢
              obtain ⟨hj, hl1, hl2, hm1, hm2⟩ := hx
              ((repeat' ((conv => whnf);(first|refine z1 ?_|refine z2 ?_|refine z3 ?_|refine z4 ?_|refine z5 ?_|refine z6 ?_|refine z7 ?_|refine z8 ?_|refine z9 ?_|refine za ?_|refine zb ?_|refine zc ?_|refine zd ?_|refine ze ?_|refine zf ?_|refine zg ?_|refine zh ?_|((first|refine zi ?_ ?_|refine zj ?_ ?_|refine zk ?_ ?_)<;> intro hh <;> first|(exfalso;omega)|skip)|(refine zl ?_ ?_<;> intro hh)|refine zm ?_|refine zn ?_|refine zo ?_|refine zp ?_|refine zq ?_|refine zv ?_|refine zr ?_|refine zs _ rfl ?_|refine zu ?_|exact Sy.fin_val (fun e=>rfl))));(all_goals (try conv => whnf)))
              · obtain ⟨hc1, hc2⟩ := hev j (by omega)
                rw [hcnt] at hc1 hc2
                refine Sy.call_r1 ⟨3, 1, (atV (floorW (k + 1) ((e : Int) + 1)) Q ((j : Int) + 1)).length, (atV (floorW (k + 1) ((e : Int) + 1)) Q ((j : Int) + 1)).map encI⟩ (fun j => .c (.row j)) Try.call12 (fun e1 a w' h => pat_any (e1.rv 4) (e1.rv 5) (floorW (k + 1) ((e : Int) + 1)) Q ((j : Int) + 1) w' (Sy.row_reads h (.inl ⟨_, rfl⟩)) (Sy.row_reads h (.inl ⟨_, rfl⟩)) hpl) ?_
                generalize atV (floorW (k + 1) ((e : Int) + 1)) Q ((j : Int) + 1) = R at *
                ((repeat' ((conv => whnf);(first|refine z1 ?_|refine z2 ?_|refine z3 ?_|refine z4 ?_|refine z5 ?_|refine z6 ?_|refine z7 ?_|refine z8 ?_|refine z9 ?_|refine za ?_|refine zb ?_|refine zc ?_|refine zd ?_|refine ze ?_|refine zf ?_|refine zg ?_|refine zh ?_|((first|refine zi ?_ ?_|refine zj ?_ ?_|refine zk ?_ ?_)<;> intro hh <;> first|(exfalso;omega)|skip)|(refine zl ?_ ?_<;> intro hh)|refine zm ?_|refine zn ?_|refine zo ?_|refine zp ?_|refine zq ?_|refine zv ?_|refine zr ?_|refine zs _ rfl ?_|refine zu ?_|exact Sy.fin_val (fun e=>rfl))));(all_goals (try conv => whnf)))
                refine ⟨(j + 1, Sy.minI least R.length, Sy.maxI most R.length), ⟨by dsimp only; omega, by dsimp only; unfold Sy.minI; split <;> omega, by dsimp only; unfold Sy.minI; split <;> omega, by dsimp only; unfold Sy.maxI; split <;> omega, by dsimp only; unfold Sy.maxI; split <;> omega⟩, by dsimp only; omega, ?_⟩
                dsimp only
                ((repeat' (first|((conv => whnf);done)|((try conv => whnf);first|exact trivial|(refine And.intro ?_ ?_)|rfl|exact fun _ _ _ h=>h|exact fun _ _ _ _=>trivial)));(all_goals (try conv => whnf)))
              · all_goals first | done | exact Sy.fin_val (fun e => congrArg Value.bool (decide_eq_true (by omega)))
end Go.Proofs.Ytjhjmeajdebcbaa
