/- slices.Concat at integers. -/
import Derived.Test.YtmahldelmbhjfaaGreatEnc
import Derived.Test.YtmahldelmbhjfaaGreatSyG
namespace Go.Proofs.YtmahldelmbhjfaaGreat
open Go Go.RowKit
open Sy (C SV V1 Blk St XD Els)
set_option maxRecDepth 10000

/-- A row of slices, each by its value and what it reads as. -/
def RowsOk (w : World) (us : List (Value × List Int)) : Prop := ∀ x ∈ us, XD.ok (fun b => b < w.heap.size) w ⟨x.1, 1, x.2.length, x.2.map encI⟩
def encU (x : Value × List Int) : List Value := [x.1]
def catN (us : List (Value × List Int)) (n : Nat) : List Int := ((us.take n).map (·.2)).flatten
theorem catN_succ (us : List (Value × List Int)) (n : Nat) (h : n < us.length) : catN us (n + 1) = catN us n ++ us[n].2 := by
  unfold catN
  rw [List.take_succ_eq_append_getElem h, List.map_append, List.flatten_append]
  simp
def catL (us : List (Value × List Int)) : List Int := (us.map (·.2)).flatten
theorem catN_all (us : List (Value × List Int)) : catN us us.length = catL us := by rw [catN, List.take_length, catL]
theorem catN_le (us : List (Value × List Int)) (n : Nat) : (catN us n).length ≤ (catL us).length := by
  have : catL us = catN us n ++ ((us.drop n).map (·.2)).flatten := by
    unfold catL catN
    rw [← List.flatten_append, ← List.map_append, List.take_append_drop]
  rw [this, List.length_append]; omega
attribute [local irreducible] catN catL
theorem concat_any (v : Value) (us : List (Value × List Int)) (w : World) (hr : XD.ok (fun b => b < w.heap.size) w ⟨v, 1, us.length, us.map encU⟩) (hu : RowsOk w us) (hb : (catL us).length ≤ 1000000) :
    Calls Tryz.prog 109 #[v] w (Sy.RetRows Sy.noRow (fun _ : Unit => True) (fun _ => [⟨3, 1, (catL us).length, (catL us).map encI⟩]) (fun _ vs => vs.headD undef) w) := by
  have hl := ok_len hr
  refine Sy.calls_of Sy.lv109 Sy.tab_ok Tryz.func109 rfl _ Tryz.ntmps109 [⟨v, 1, us.length, us.map encU⟩] [.c (.row 0)] rfl rfl rfl ⟨hr, trivial⟩ ?_
  ((repeat' ((conv => whnf);(first|refine zA ?_|(refine zI ?_ ?_<;> intro hh<;> first|(exfalso;omega)|skip)|(refine zl ?_ ?_<;> intro hh)|refine zq ?_|refine zv ?_|refine zu ?_|exact Sy.fin_val fun e=>rfl)));(all_goals (try conv => whnf)))
  refine Sy.loop_inv Sy.tab_ok (fun n : Nat => [(11, .c (.v (.int .i64 n))), (3, .c (.v (.int .i64 (catN us n).length)))]) (fun _ => []) (fun n => n ≤ us.length) (fun n => us.length - n) 0 (Nat.zero_le _) ?_ (fun n hle => ?_)
  · ((repeat' (first|((conv => whnf);done)|((try conv => whnf);first|exact trivial|(refine And.intro ?_ ?_)|rfl|exact fun _ _ _ h=>h|exact fun _ _ _ _=>trivial)));(all_goals (try conv => whnf)))
    all_goals (unfold catN; rfl)
  · have hcl := catN_le us n
    ((repeat' ((conv => whnf);(first|refine zA ?_|(refine zI ?_ ?_<;> intro hh<;> first|(exfalso;omega)|skip)|(refine zl ?_ ?_<;> intro hh)|refine zq ?_|refine zv ?_|refine zu ?_|exact Sy.fin_val fun e=>rfl)));(all_goals (try conv => whnf)))
    · have hlt : n < us.length := by omega
      have e1 := catN_succ us n hlt
      have hcl2 := catN_le us (n + 1)
      have hun := hu us[n] (List.getElem_mem _)
      refine Sy.el_map us[n] (List.getElem?_eq_getElem hlt) ?_
      generalize us[n] = x at *
      rw [e1, List.length_append] at hcl2
      conv => whnf
      refine Sy.open_in 1 x.2.length (x.2.map encI) (hun.1.keep (fun b hb => ⟨hb, fun h => h⟩) (fun _ _ => rfl)) hun.2 ?_
      ((repeat' ((conv => whnf);(first|refine zA ?_|(refine zI ?_ ?_<;> intro hh<;> first|(exfalso;omega)|skip)|(refine zl ?_ ?_<;> intro hh)|refine zq ?_|refine zv ?_|refine zu ?_|exact Sy.fin_val fun e=>rfl)));(all_goals (try conv => whnf)))
      refine ⟨n + 1, by omega, by omega, ?_⟩
      rw [e1, List.length_append]
      ((repeat' (first|((conv => whnf);done)|((try conv => whnf);first|exact trivial|(refine And.intro ?_ ?_)|rfl|exact fun _ _ _ h=>h|exact fun _ _ _ _=>trivial)));(all_goals (try conv => whnf)))
    · have e : n = us.length := by omega
      subst e
      rw [catN_all]
      refine Sy.call_in Sy.lv114 Sy.tab_ok Tryz.func114 rfl _ Tryz.ntmps114 Tryz.call114 rfl (fun _ => ?_)
      by_cases h0 : (catL us).length = 0
      · rw [h0]
        ((repeat' ((conv => whnf);(first|refine zA ?_|(refine zI ?_ ?_<;> intro hh<;> first|(exfalso;omega)|skip)|(refine zl ?_ ?_<;> intro hh)|refine zq ?_|refine zv ?_|refine zu ?_|exact Sy.fin_val fun e=>rfl)));(all_goals (try conv => whnf)))
        refine Sy.sem_subF (Sy.sub_row 6 3 1 rfl) ?_
        conv => whnf
        refine Sy.loop_inv Sy.tab_ok (fun n : Nat => [(27, .c (.v (.int .i64 n))), (6, .c (.row 1))]) (fun n => [(1, .row 3 1 (catN us n).length (.vs ((catN us n).map encI)))]) (fun n => n ≤ us.length) (fun n => us.length - n) 0 (Nat.zero_le _) ?_ (fun n hle => ?_)
        · ((repeat' (first|((conv => whnf);done)|((try conv => whnf);first|exact trivial|(refine And.intro ?_ ?_)|rfl|exact fun _ _ _ h=>h|exact fun _ _ _ _=>trivial)));(all_goals (try conv => whnf)))
          all_goals (first | rfl | (unfold catN; rfl))
        · have hcl := catN_le us n
          ((repeat' ((conv => whnf);(first|refine zA ?_|(refine zI ?_ ?_<;> intro hh<;> first|(exfalso;omega)|skip)|(refine zl ?_ ?_<;> intro hh)|refine zq ?_|refine zv ?_|refine zu ?_|exact Sy.fin_val fun e=>rfl)));(all_goals (try conv => whnf)))
          · have hlt : n < us.length := by omega
            have e1 := catN_succ us n hlt
            have hcl2 := catN_le us (n + 1)
            have hun := hu us[n] (List.getElem_mem _)
            refine Sy.el_map us[n] (List.getElem?_eq_getElem hlt) ?_
            generalize us[n] = x at *
            rw [e1, List.length_append] at hcl2
            conv => whnf
            refine Sy.open_in 1 x.2.length (x.2.map encI) (hun.1.keep (fun b hb => ⟨hb, fun h => h⟩) (fun _ _ => rfl)) hun.2 ?_
            ((repeat' ((conv => whnf);(first|refine zA ?_|(refine zI ?_ ?_<;> intro hh<;> first|(exfalso;omega)|skip)|(refine zl ?_ ?_<;> intro hh)|refine zq ?_|refine zv ?_|refine zu ?_|exact Sy.fin_val fun e=>rfl)));(all_goals (try conv => whnf)))
            refine Sy.need_app 8 rfl ⟨by omega, by omega⟩ ?_
            ((repeat' ((conv => whnf);(first|refine zA ?_|(refine zI ?_ ?_<;> intro hh<;> first|(exfalso;omega)|skip)|(refine zl ?_ ?_<;> intro hh)|refine zq ?_|refine zv ?_|refine zu ?_|exact Sy.fin_val fun e=>rfl)));(all_goals (try conv => whnf)))
            refine ⟨n + 1, by omega, by omega, ?_⟩
            rw [e1]
            ((repeat' (first|((conv => whnf);done)|((try conv => whnf);first|exact trivial|(refine And.intro ?_ ?_)|rfl|exact fun _ _ _ h=>h|exact fun _ _ _ _=>trivial)));(all_goals (try conv => whnf)))
            all_goals simp
          · have e : n = us.length := by omega
            subst e
            rw [catN_all]
            exact Sy.fin_r1 (.row 1) (by rw [h0]; rfl)
      · ((repeat' ((conv => whnf);(first|refine zA ?_|(refine zI ?_ ?_<;> intro hh<;> first|(exfalso;omega)|skip)|(refine zl ?_ ?_<;> intro hh)|refine zq ?_|refine zv ?_|refine zu ?_|exact Sy.fin_val fun e=>rfl)));(all_goals (try conv => whnf)))
        refine Sy.sli_nat (lo := 0) ⟨Nat.le_refl _, Nat.zero_le _⟩ ?_
        ((repeat' ((conv => whnf);(first|refine zA ?_|(refine zI ?_ ?_<;> intro hh<;> first|(exfalso;omega)|skip)|(refine zl ?_ ?_<;> intro hh)|refine zq ?_|refine zv ?_|refine zu ?_|exact Sy.fin_val fun e=>rfl)));(all_goals (try conv => whnf)))
        refine Sy.cnt_eq (catL us).length (by omega) (by omega) ?_
        refine Sy.need_of ⟨by show (catL us).length * 8 ≤ _; omega, by omega⟩ (fun cap' hc1 hc2 => ?_)
        ((repeat' ((conv => whnf);(first|refine zA ?_|(refine zI ?_ ?_<;> intro hh<;> first|(exfalso;omega)|skip)|(refine zl ?_ ?_<;> intro hh)|refine zq ?_|refine zv ?_|refine zu ?_|exact Sy.fin_val fun e=>rfl)));(all_goals (try conv => whnf)))
        refine Sy.sli_nat (lo := 0) (hi := 0) ⟨Nat.le_refl _, Nat.zero_le _⟩ ?_
        conv => whnf
        refine Sy.br_dec (fun hh => ?_) (fun hh => by exfalso; omega)
        conv => whnf
        refine Sy.rev_in (Nat.zero_le _) ?_
        ((repeat' ((conv => whnf);(first|refine zA ?_|(refine zI ?_ ?_<;> intro hh<;> first|(exfalso;omega)|skip)|(refine zl ?_ ?_<;> intro hh)|refine zq ?_|refine zv ?_|refine zu ?_|exact Sy.fin_val fun e=>rfl)));(all_goals (try conv => whnf)))
        refine Sy.sem_subF (Sy.sub_bufrow 6 1 0 3 1 cap' _ rfl rfl (Nat.zero_le _)) ?_
        conv => whnf
        refine Sy.loop_inv Sy.tab_ok (fun n : Nat => [(27, .c (.v (.int .i64 n))), (6, .c (.row 2))]) (fun n => [(2, .row 3 1 (catN us n).length (.vs ((catN us n).map encI)))]) (fun n => n ≤ us.length) (fun n => us.length - n) 0 (Nat.zero_le _) ?_ (fun n hle => ?_)
        · ((repeat' (first|((conv => whnf);done)|((try conv => whnf);first|exact trivial|(refine And.intro ?_ ?_)|rfl|exact fun _ _ _ h=>h|exact fun _ _ _ _=>trivial)));(all_goals (try conv => whnf)))
          all_goals (first | rfl | (unfold catN; rfl))
        · have hcl := catN_le us n
          ((repeat' ((conv => whnf);(first|refine zA ?_|(refine zI ?_ ?_<;> intro hh<;> first|(exfalso;omega)|skip)|(refine zl ?_ ?_<;> intro hh)|refine zq ?_|refine zv ?_|refine zu ?_|exact Sy.fin_val fun e=>rfl)));(all_goals (try conv => whnf)))
          · have hlt : n < us.length := by omega
            have e1 := catN_succ us n hlt
            have hcl2 := catN_le us (n + 1)
            have hun := hu us[n] (List.getElem_mem _)
            refine Sy.el_map us[n] (List.getElem?_eq_getElem hlt) ?_
            generalize us[n] = x at *
            rw [e1, List.length_append] at hcl2
            conv => whnf
            refine Sy.open_in 1 x.2.length (x.2.map encI) (hun.1.keep (fun b hb => ⟨hb, fun h => h⟩) (fun _ _ => rfl)) hun.2 ?_
            ((repeat' ((conv => whnf);(first|refine zA ?_|(refine zI ?_ ?_<;> intro hh<;> first|(exfalso;omega)|skip)|(refine zl ?_ ?_<;> intro hh)|refine zq ?_|refine zv ?_|refine zu ?_|exact Sy.fin_val fun e=>rfl)));(all_goals (try conv => whnf)))
            refine Sy.need_app 8 rfl ⟨by omega, by omega⟩ ?_
            ((repeat' ((conv => whnf);(first|refine zA ?_|(refine zI ?_ ?_<;> intro hh<;> first|(exfalso;omega)|skip)|(refine zl ?_ ?_<;> intro hh)|refine zq ?_|refine zv ?_|refine zu ?_|exact Sy.fin_val fun e=>rfl)));(all_goals (try conv => whnf)))
            refine ⟨n + 1, by omega, by omega, ?_⟩
            rw [e1]
            ((repeat' (first|((conv => whnf);done)|((try conv => whnf);first|exact trivial|(refine And.intro ?_ ?_)|rfl|exact fun _ _ _ h=>h|exact fun _ _ _ _=>trivial)));(all_goals (try conv => whnf)))
            all_goals simp
          · have e : n = us.length := by omega
            subst e
            rw [catN_all]
            exact Sy.fin_r1 (.row 2) rfl
end Go.Proofs.YtmahldelmbhjfaaGreat
