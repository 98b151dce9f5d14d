/- Job: what May does. -/
import Derived.Test.YtbajgjbgkpcapaaJobD
namespace Go.Proofs.Ytbajgjbgkpcapaa
open Go Go.RowKit
open Sx (C SV V1 Blk St)
set_option maxRecDepth 10000

def mayL (s f m : Int) : Nat → List Value
  | 0 => []
  | n + 1 => mayL s f m n ++ (if (dS s f m ((n : Int) + 1)).2.2.2 = 0 then [.int .i64 ((n : Int) + 1)] else [])
theorem mayL_len (s f m : Int) : ∀ n, (mayL s f m n).length ≤ n
  | 0 => Nat.le_refl _
  | n + 1 => by
    have := mayL_len s f m n
    unfold mayL
    rw [List.length_append]
    split <;> simp <;> omega
theorem mayL_one (s f m : Int) : ∀ n, ∀ u ∈ mayL s f m n, u.oneCell' = true
  | 0, u, hu => by cases hu
  | n + 1, u, hu => by
    unfold mayL at hu
    rcases List.mem_append.1 hu with hu | hu
    · exact mayL_one s f m n u hu
    · split at hu
      · rw [List.mem_singleton.1 hu]; rfl
      · cases hu
def mayI (s f m : Int) (w : World) (n : Nat) : St :=
  { fr := [(4, .c (.v (.int .i64 ((n : Int) + 1)))), (3, .c (.row 1)), (1, .c (.loc 0 0)), (2, .c (.v (.slice none 0 0)))],
    H := [(1, .row 3 1 (mayL s f m n).length ((mayL s f m n).map C.v)), (0, .cells 23 [.v (.int .i64 s), .v (.int .i64 f), .v (.int .i64 m)])], nx := 2, F := fun x => x < w.heap.size, E := fun _ => True }
theorem may_any (s f m : Int) (w : World) : Calls Try.prog 13 #[.agg #[.int .i64 s, .int .i64 f, .int .i64 m]] w (Sx.RetRow (fun _ : Unit => True) 3 1 (fun _ => (mayL s f m 9).length) (fun _ => mayL s f m 9) (fun _ r => r) w) := by
  refine Sx.calls_of Sx.tab_ok Try.func13 rfl _ Try.ntmps13 [.agg [.v (.int .i64 s), .v (.int .i64 f), .v (.int .i64 m)]] rfl rfl rfl ?_
  ((repeat' ((conv => whnf); (first | refine Sx.brT ?_ | refine Sx.brF ?_ | refine Sx.br_pos (by assumption) ?_ | refine Sx.br_neg (by assumption) ?_ | refine Sx.br_bneT ?_ | refine Sx.br_bneF ?_ | refine Sx.br_bneT' ?_ | refine Sx.br_bneF' ?_ | refine Sx.br_not ?_ | refine Sx.br_lself ?_ | refine Sx.br_dT (by assumption) ?_ | refine Sx.br_dF (by assumption) ?_ | refine Sx.br_eT (by assumption) ?_ | refine Sx.br_eF (by assumption) ?_ | refine Sx.br_nT (by assumption) ?_ | refine Sx.br_nF (by assumption) ?_ | (refine Sx.br_dec (fun hh => ?_) (fun hh => ?_) <;> first | (exfalso; omega) | skip) | (refine Sx.br_eq (fun hh => ?_) (fun hh => ?_) <;> first | (exfalso; omega) | skip) | (refine Sx.br_ne (fun hh => ?_) (fun hh => ?_) <;> first | (exfalso; omega) | skip) | refine Sx.br_split (fun hh => ?_) (fun hh => ?_) | refine Sx.ar_in (by omega) ?_ | refine Sx.idx_nat (by omega) ?_ | refine Sx.idx_in (by omega) (by omega) ?_ | refine Sx.seq_go Sx.tab_ok ?_ | refine Sx.block_go Sx.tab_ok ?_ | refine Sx.cond_go Sx.tab_ok _ rfl ?_ | refine Sx.cell_of _ rfl ?_ | refine Sx.part_of _ rfl rfl ?_ | refine Sx.open_skip ?_ | exact Sx.fin_val (fun e => rfl)))); (all_goals (try conv => whnf)))
  refine Sx.loop_of Sx.tab_ok (mayI s f m w) (fun n => n ≤ 9) (fun n => 9 - n) 0 (by omega) ?_ (fun n hn => ?_)
  · refine Sx.sub_trans (Sx.sub_row 3 3 1 rfl) (Sx.sub_of id ?_ ?_ rfl rfl (fun _ h => h))
    · repeat' (first | exact trivial | refine And.intro ?_ ?_ | rfl)
    · repeat' (first | exact trivial | refine And.intro ?_ ?_ | rfl | exact Sx.idAll_of rfl)
  · have hl := mayL_len s f m n
    ((repeat' ((conv => whnf); (first | refine Sx.brT ?_ | refine Sx.brF ?_ | refine Sx.br_pos (by assumption) ?_ | refine Sx.br_neg (by assumption) ?_ | refine Sx.br_bneT ?_ | refine Sx.br_bneF ?_ | refine Sx.br_bneT' ?_ | refine Sx.br_bneF' ?_ | refine Sx.br_not ?_ | refine Sx.br_lself ?_ | refine Sx.br_dT (by assumption) ?_ | refine Sx.br_dF (by assumption) ?_ | refine Sx.br_eT (by assumption) ?_ | refine Sx.br_eF (by assumption) ?_ | refine Sx.br_nT (by assumption) ?_ | refine Sx.br_nF (by assumption) ?_ | (refine Sx.br_dec (fun hh => ?_) (fun hh => ?_) <;> first | (exfalso; omega) | skip) | (refine Sx.br_eq (fun hh => ?_) (fun hh => ?_) <;> first | (exfalso; omega) | skip) | (refine Sx.br_ne (fun hh => ?_) (fun hh => ?_) <;> first | (exfalso; omega) | skip) | refine Sx.br_split (fun hh => ?_) (fun hh => ?_) | refine Sx.ar_in (by omega) ?_ | refine Sx.idx_nat (by omega) ?_ | refine Sx.idx_in (by omega) (by omega) ?_ | refine Sx.seq_go Sx.tab_ok ?_ | refine Sx.block_go Sx.tab_ok ?_ | refine Sx.cond_go Sx.tab_ok _ rfl ?_ | refine Sx.cell_of _ rfl ?_ | refine Sx.part_of _ rfl rfl ?_ | refine Sx.open_skip ?_ | exact Sx.fin_val (fun e => rfl)))); (all_goals (try conv => whnf)))
    · refine Sx.call_val (doSV (dS s f m ((n : Int) + 1))) Try.call9 rfl rfl (fun _ _ w' _ => jobDo_any s f m ((n : Int) + 1) w') ?_
      ((repeat' ((conv => whnf); (first | refine Sx.brT ?_ | refine Sx.brF ?_ | refine Sx.br_pos (by assumption) ?_ | refine Sx.br_neg (by assumption) ?_ | refine Sx.br_bneT ?_ | refine Sx.br_bneF ?_ | refine Sx.br_bneT' ?_ | refine Sx.br_bneF' ?_ | refine Sx.br_not ?_ | refine Sx.br_lself ?_ | refine Sx.br_dT (by assumption) ?_ | refine Sx.br_dF (by assumption) ?_ | refine Sx.br_eT (by assumption) ?_ | refine Sx.br_eF (by assumption) ?_ | refine Sx.br_nT (by assumption) ?_ | refine Sx.br_nF (by assumption) ?_ | (refine Sx.br_dec (fun hh => ?_) (fun hh => ?_) <;> first | (exfalso; omega) | skip) | (refine Sx.br_eq (fun hh => ?_) (fun hh => ?_) <;> first | (exfalso; omega) | skip) | (refine Sx.br_ne (fun hh => ?_) (fun hh => ?_) <;> first | (exfalso; omega) | skip) | refine Sx.br_split (fun hh => ?_) (fun hh => ?_) | refine Sx.ar_in (by omega) ?_ | refine Sx.idx_nat (by omega) ?_ | refine Sx.idx_in (by omega) (by omega) ?_ | refine Sx.seq_go Sx.tab_ok ?_ | refine Sx.block_go Sx.tab_ok ?_ | refine Sx.cond_go Sx.tab_ok _ rfl ?_ | refine Sx.cell_of _ rfl ?_ | refine Sx.part_of _ rfl rfl ?_ | refine Sx.open_skip ?_ | exact Sx.fin_val (fun e => rfl)))); (all_goals (try conv => whnf)))
      · refine Sx.need_app 8 rfl (by omega) ?_
        ((repeat' ((conv => whnf); (first | refine Sx.brT ?_ | refine Sx.brF ?_ | refine Sx.br_pos (by assumption) ?_ | refine Sx.br_neg (by assumption) ?_ | refine Sx.br_bneT ?_ | refine Sx.br_bneF ?_ | refine Sx.br_bneT' ?_ | refine Sx.br_bneF' ?_ | refine Sx.br_not ?_ | refine Sx.br_lself ?_ | refine Sx.br_dT (by assumption) ?_ | refine Sx.br_dF (by assumption) ?_ | refine Sx.br_eT (by assumption) ?_ | refine Sx.br_eF (by assumption) ?_ | refine Sx.br_nT (by assumption) ?_ | refine Sx.br_nF (by assumption) ?_ | (refine Sx.br_dec (fun hh => ?_) (fun hh => ?_) <;> first | (exfalso; omega) | skip) | (refine Sx.br_eq (fun hh => ?_) (fun hh => ?_) <;> first | (exfalso; omega) | skip) | (refine Sx.br_ne (fun hh => ?_) (fun hh => ?_) <;> first | (exfalso; omega) | skip) | refine Sx.br_split (fun hh => ?_) (fun hh => ?_) | refine Sx.ar_in (by omega) ?_ | refine Sx.idx_nat (by omega) ?_ | refine Sx.idx_in (by omega) (by omega) ?_ | refine Sx.seq_go Sx.tab_ok ?_ | refine Sx.block_go Sx.tab_ok ?_ | refine Sx.cond_go Sx.tab_ok _ rfl ?_ | refine Sx.cell_of _ rfl ?_ | refine Sx.part_of _ rfl rfl ?_ | refine Sx.open_skip ?_ | exact Sx.fin_val (fun e => rfl)))); (all_goals (try conv => whnf)))
        have e1 : mayL s f m (n + 1) = mayL s f m n ++ [.int .i64 ((n : Int) + 1)] := by rw [mayL, if_pos hh]
        refine ⟨n + 1, by omega, by omega, Sx.sub_of (fun k => match k with | 0 => 0 | _ => 4) ?_ ?_ rfl rfl (fun _ h => h)⟩
        · repeat' (first | exact trivial | refine And.intro ?_ ?_ | rfl)
        · refine ⟨⟨Sx.row_ren _ rfl (by rw [e1, List.length_append]; rfl) (by rw [e1, List.map_append]; rfl), Sx.idAll_v _, rfl⟩, ?_⟩
          repeat' (first | exact trivial | refine And.intro ?_ ?_ | rfl | exact Sx.idAll_of rfl)
      · have e1 : mayL s f m (n + 1) = mayL s f m n := by rw [mayL, if_neg hh, List.append_nil]
        refine ⟨n + 1, by omega, by omega, Sx.sub_of id ?_ ?_ rfl rfl (fun _ h => h)⟩
        · repeat' (first | exact trivial | refine And.intro ?_ ?_ | rfl)
        · refine ⟨⟨Sx.row_ren _ rfl (by rw [e1]) (by rw [e1]), Sx.idAll_v _, rfl⟩, ?_⟩
          repeat' (first | exact trivial | refine And.intro ?_ ?_ | rfl | exact Sx.idAll_of rfl)
    · have e : n = 9 := by omega
      subst e
      exact Sx.fin_row () trivial rfl rfl rfl (mayL_one s f m 9)
end Go.Proofs.Ytbajgjbgkpcapaa
