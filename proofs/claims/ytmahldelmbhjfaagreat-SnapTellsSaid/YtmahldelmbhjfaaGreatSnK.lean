/- Snap: the rows of two tables. -/
import Derived.Test.YtmahldelmbhjfaaGreatSnJ
namespace Go.Proofs.YtmahldelmbhjfaaGreat.Sn
open Go Go.RowKit
open Sy (C SV V1 Blk St XD Els)
set_option maxRecDepth 10000

def joinK (a b : List Kc) : List Kc := b.foldl insO a
theorem joinK_snoc (a b : List Kc) (x : Kc) : joinK a (b ++ [x]) = insO (joinK a b) x := by
  unfold joinK
  rw [List.foldl_append]; rfl
/-- No key of the one is one of the other. -/
def apartK (a b : List Kc) : Prop := ∀ x ∈ b, ∀ y ∈ a, kn y ≠ kn x
theorem join_step {a b : List Kc} (ha : RowsOk a) (hb : RowsOk b) (hd : apartK a b) : ∀ n, n ≤ b.length → RowsOk (joinK a (b.take n)) ∧ ∀ y, y ∈ joinK a (b.take n) ↔ y ∈ a ∨ y ∈ b.take n
  | 0, _ => ⟨ha, fun y => by simp [joinK]⟩
  | n + 1, hn => by
    obtain ⟨h1, h2⟩ := join_step ha hb hd n (by omega)
    have hg := List.getElem?_eq_getElem (show n < b.length by omega)
    have hxm := List.getElem_mem (show n < b.length by omega)
    have ht : b.take (n + 1) = b.take n ++ [b[n]] := List.take_succ_eq_append_getElem (by omega)
    have hno : ∀ p ∈ joinK a (b.take n), kn p ≠ kn b[n] := fun p hp => by
      rcases (h2 p).1 hp with hp | hp
      · exact hd _ hxm p hp
      · obtain ⟨j, hj⟩ := List.mem_iff_getElem?.1 hp
        have hjn : j < n := by
          have := (List.getElem?_eq_some_iff.1 hj).1
          rw [List.length_take] at this; omega
        rw [List.getElem?_take_of_lt hjn] at hj
        have := ascK_lt hb.2 hj hg hjn
        omega
    rw [ht, joinK_snoc]
    refine ⟨insO_ok h1 (hb.1 _ hxm) hno, fun y => ?_⟩
    rw [insO_mem hno, h2 y, List.mem_append, List.mem_singleton]
    constructor
    · rintro (h | h | h)
      · exact .inr (.inr h)
      · exact .inl h
      · exact .inr (.inl h)
    · rintro (h | h | h)
      · exact .inr (.inl h)
      · exact .inr (.inr h)
      · exact .inl h
theorem join_ok {a b : List Kc} (ha : RowsOk a) (hb : RowsOk b) (hd : apartK a b) : RowsOk (joinK a b) ∧ ∀ y, y ∈ joinK a b ↔ y ∈ a ∨ y ∈ b := by
  have := join_step ha hb hd b.length (Nat.le_refl _)
  rwa [List.take_length] at this
set_option maxHeartbeats 4000000 in
theorem join_any (u v : Value) (a b : List Kc) (w : World) (hu : XD.ok (fun b => b < w.heap.size) w ⟨u, 4, a.length, a.map encK⟩) (hv : XD.ok (fun b => b < w.heap.size) w ⟨v, 4, b.length, b.map encK⟩) (ha : RowsOk a) (hb : RowsOk b) (hd : apartK a b) :
    Calls Tryz.prog 41 #[.agg #[u], .agg #[v]] w (Sy.RetRows Sy.noRow (fun _ : Unit => True) (fun _ => [⟨46, 4, (joinK a b).length, (joinK a b).map encK⟩]) (fun _ vs => .tuple #[.agg #[vs.headD undef], .int .i64 0]) w) := by
  have hla := rows_len ha
  have hlb := rows_len hb
  refine Sy.calls_of Sy.lv41 Sy.tab_ok Tryz.func41 rfl _ Tryz.ntmps41 [⟨u, 4, a.length, a.map encK⟩, ⟨v, 4, b.length, b.map encK⟩] [.agg [.row 0], .agg [.row 1]] rfl rfl rfl ⟨hu, hv, trivial⟩ ?_
  ((repeat' ((conv => whnf);(first|refine zA ?_|(refine zI ?_ ?_<;> intro hh<;> first|(exfalso;omega)|skip)|(refine zl ?_ ?_<;> intro hh)|refine zq ?_|refine zv ?_|refine zu ?_|exact Sy.fin_val fun e=>rfl)));(all_goals (try conv => whnf)))
  refine Sy.call_val (.c (.v (.int .i64 0))) Tryz.call23 rfl (fun e _ w' h => by have := tbl_any (e.rv 1) b w' (Sy.row_reads h (.inr rfl)); rw [if_pos (rows_tbl hb)] at this; exact this) ?_
  ((repeat' ((conv => whnf);(first|refine zA ?_|(refine zI ?_ ?_<;> intro hh<;> first|(exfalso;omega)|skip)|(refine zl ?_ ?_<;> intro hh)|refine zq ?_|refine zv ?_|refine zu ?_|exact Sy.fin_val fun e=>rfl)));(all_goals (try conv => whnf)))
  refine Sy.call_in Sy.lv69 Sy.tab_ok Tryz.func69 rfl _ Tryz.ntmps69 Tryz.call69 rfl (fun _ => ?_)
  ((repeat' ((conv => whnf);(first|refine zA ?_|(refine zI ?_ ?_<;> intro hh<;> first|(exfalso;omega)|skip)|(refine zl ?_ ?_<;> intro hh)|refine zq ?_|refine zv ?_|refine zu ?_|exact Sy.fin_val fun e=>rfl)));(all_goals (try conv => whnf)))
  refine Sy.call_val (.c (.v (.int .i64 0))) Tryz.call23 rfl (fun e _ w' h => by have := tbl_any (e.rv 0) a w' (Sy.row_reads h (.inr rfl)); rw [if_pos (rows_tbl ha)] at this; exact this) ?_
  ((repeat' ((conv => whnf);(first|refine zA ?_|(refine zI ?_ ?_<;> intro hh<;> first|(exfalso;omega)|skip)|(refine zl ?_ ?_<;> intro hh)|refine zq ?_|refine zv ?_|refine zu ?_|exact Sy.fin_val fun e=>rfl)));(all_goals (try conv => whnf)))
  refine Sy.call_r1 ⟨46, 4, a.length, a.map encK⟩ (fun j => .c (.row j)) Tryz.call92 (fun e _ w' h => cloneK_any (e.rv 0) a w' (Sy.row_reads h (.inr rfl)) (by omega)) ?_
  ((repeat' ((conv => whnf);(first|refine zA ?_|(refine zI ?_ ?_<;> intro hh<;> first|(exfalso;omega)|skip)|(refine zl ?_ ?_<;> intro hh)|refine zq ?_|refine zv ?_|refine zu ?_|exact Sy.fin_val fun e=>rfl)));(all_goals (try conv => whnf)))
  refine Sy.call_in Sy.lv70 Sy.tab_ok Tryz.func70 rfl _ Tryz.ntmps70 Tryz.call70 rfl (fun _ => ?_)
  ((repeat' ((conv => whnf);(first|refine zA ?_|(refine zI ?_ ?_<;> intro hh<;> first|(exfalso;omega)|skip)|(refine zl ?_ ?_<;> intro hh)|refine zq ?_|refine zv ?_|refine zu ?_|exact Sy.fin_val fun e=>rfl)));(all_goals (try conv => whnf)))
  refine Sy.loop_inv Sy.tab_ok (fun n : Nat => [(11, .c (.v (.int .i64 n)))]) (fun n => [(9, .cells 30 [.row 8]), (8, .row 46 4 (joinK a (b.take n)).length (.vs ((joinK a (b.take n)).map encK)))]) (fun n => n ≤ b.length) (fun n => b.length - n) 0 (Nat.zero_le _) ?_ (fun n hn => ?_)
  · rw [show joinK a (b.take 0) = a from rfl]
    ((repeat' (first|((conv => whnf);done)|((try conv => whnf);first|exact trivial|(refine And.intro ?_ ?_)|rfl|exact fun _ _ _ h=>h|exact fun _ _ _ _=>trivial)));(all_goals (try conv => whnf)))
  · obtain ⟨hT, hTm⟩ := join_step ha hb hd n hn
    by_cases hlt : n < b.length
    · have hg := List.getElem?_eq_getElem hlt
      have hxm := List.getElem_mem hlt
      have ht : b.take (n + 1) = b.take n ++ [b[n]] := List.take_succ_eq_append_getElem hlt
      have hlT := rows_len hT
      generalize b[n] = x at *
      have hx := hb.1 x hxm
      have hno : ∀ p ∈ joinK a (b.take n), kn p ≠ kn x := fun p hp => by
        rcases (hTm p).1 hp with hp | hp
        · exact hd _ hxm p hp
        · obtain ⟨j, hj⟩ := List.mem_iff_getElem?.1 hp
          have hjn : j < n := by
            have := (List.getElem?_eq_some_iff.1 hj).1
            rw [List.length_take] at this; omega
          rw [List.getElem?_take_of_lt hjn] at hj
          have := ascK_lt hb.2 hj hg hjn
          omega
      have hnext : joinK a (b.take (n + 1)) = insO (joinK a (b.take n)) x := by rw [ht, joinK_snoc]
      generalize joinK a (b.take n) = T at *
      ((repeat' ((conv => whnf);(first|refine zA ?_|(refine zI ?_ ?_<;> intro hh<;> first|(exfalso;omega)|skip)|(refine zl ?_ ?_<;> intro hh)|refine zq ?_|refine zv ?_|refine zu ?_|exact Sy.fin_val fun e=>rfl)));(all_goals (try conv => whnf)))
      refine Sy.el_map x hg ?_
      ((repeat' ((conv => whnf);(first|refine zA ?_|(refine zI ?_ ?_<;> intro hh<;> first|(exfalso;omega)|skip)|(refine zl ?_ ?_<;> intro hh)|refine zq ?_|refine zv ?_|refine zu ?_|exact Sy.fin_val fun e=>rfl)));(all_goals (try conv => whnf)))
      refine Sy.draw_go [] (by kernel_rfl) ?_
      intro e0
      conv => whnf
      refine zt 0 rfl ?_
      conv => whnf
      refine zt 1 rfl ?_
      conv => whnf
      refine zt 2 rfl ?_
      conv => whnf
      refine zt 3 rfl ?_
      conv => whnf
      refine zt 4 rfl ?_
      conv => whnf
      refine zd1 [5] (zx rfl ?_ zy)
      conv => whnf
      refine Sy.call_val (.agg [.v (.int .i64 x.src), .v (.int .i64 x.key), .v (.int .i64 0)]) Tryz.call56 rfl (fun e _ w' h => key_any x w') ?_
      conv => whnf
      refine ⟨(by repeat' ((conv => whnf);first|exact trivial|(refine And.intro ?_ ?_)|rfl)), ?_⟩
      refine zd1 [6] (zx rfl ?_ zy)
      conv => whnf
      refine Sy.call_ex (srchK T (kn x)) (fun r => .tup [.c (.v (.int .i64 r.1)), .c (.v (.bool r.2))]) Tryz.call71 (fun _ _ => rfl) (fun e _ w' h => at_any (e.rv 8) T x.src x.key 0 w' (Sy.row_reads h (.inl ⟨_, rfl⟩)) hT hx.1 (by omega)) (fun r hr => ?_)
      obtain ⟨i, there⟩ := r
      have hth : there = false := by
        cases there with
        | false => rfl
        | true => exact absurd (hr.2.1 rfl) (fun ⟨p, hp, he⟩ => hno p (List.mem_of_getElem? hp) he)
      subst hth
      dsimp only
      conv => whnf
      refine ⟨(by repeat' ((conv => whnf);first|exact trivial|(refine And.intro ?_ ?_)|rfl)), ?_⟩
      refine zt 7 rfl ?_
      conv => whnf
      refine zt 8 rfl ?_
      conv => whnf
      refine zt 9 rfl ?_
      conv => whnf
      refine zt 10 rfl ?_
      conv => whnf
      refine zt 11 rfl ?_
      conv => whnf
      refine zw ?_
      skip
      ((repeat' ((conv => whnf);(first|refine zA ?_|(refine zI ?_ ?_<;> intro hh<;> first|(exfalso;omega)|skip)|(refine zl ?_ ?_<;> intro hh)|refine zq ?_|refine zv ?_|refine zu ?_|exact Sy.fin_val fun e=>rfl)));(all_goals (try conv => whnf)))
      refine Sy.draw_go [8,9] (by kernel_rfl) ?_
      intro e0
      conv => whnf
      refine zt 0 rfl ?_
      conv => whnf
      refine zt 1 rfl ?_
      conv => whnf
      refine zt 3 rfl ?_
      conv => whnf
      refine zt 4 rfl ?_
      conv => whnf
      refine zd1 [2] (zx rfl ?_ zy)
      conv => whnf
      refine Sy.call_val (.agg [.v (.int .i64 x.src), .v (.int .i64 x.key), .v (.int .i64 0)]) Tryz.call56 rfl (fun e _ w' h => key_any x w') ?_
      conv => whnf
      refine ⟨(by repeat' ((conv => whnf);first|exact trivial|(refine And.intro ?_ ?_)|rfl)), ?_⟩
      refine zd1 [5] (zx rfl ?_ zy)
      conv => whnf
      refine Sy.call_own (set_does T x hT hx hno) Tryz.call72 ?_
      ((conv => whnf);(refine And.intro ?_ (And.intro ?_ (And.intro ?_ (And.intro ?_ ?_))));(all_goals ((repeat' (first|((conv => whnf);done)|((try conv => whnf);first|exact trivial|(refine And.intro ?_ ?_)|rfl|exact fun _ _ _ h=>h|exact fun _ _ _ _=>trivial)));(all_goals (try conv => whnf))));rotate_right)
      intro _ _ _
      conv => whnf
      refine ⟨(by repeat' ((conv => whnf);first|exact trivial|(refine And.intro ?_ ?_)|rfl)), ?_⟩
      refine zw ?_
      skip
      all_goals (((repeat' ((conv => whnf);(first|refine zA ?_|(refine zI ?_ ?_<;> intro hh<;> first|(exfalso;omega)|skip)|(refine zl ?_ ?_<;> intro hh)|refine zq ?_|refine zv ?_|refine zu ?_|exact Sy.fin_val fun e=>rfl)));(all_goals (try conv => whnf))))
      all_goals (refine ⟨n + 1, by omega, by omega, ?_⟩)
      all_goals (rw [hnext])
      all_goals (((repeat' (first|((conv => whnf);done)|((try conv => whnf);first|exact trivial|(refine And.intro ?_ ?_)|rfl|exact fun _ _ _ h=>h|exact fun _ _ _ _=>trivial)));(all_goals (try conv => whnf))))
    · have e : n = b.length := by omega
      subst e
      rw [List.take_length]
      ((repeat' ((conv => whnf);(first|refine zA ?_|(refine zI ?_ ?_<;> intro hh<;> first|(exfalso;omega)|skip)|(refine zl ?_ ?_<;> intro hh)|refine zq ?_|refine zv ?_|refine zu ?_|exact Sy.fin_val fun e=>rfl)));(all_goals (try conv => whnf)))
      exact Sy.fin_r1 (.row 8) rfl (fun e => rfl)
end Go.Proofs.YtmahldelmbhjfaaGreat.Sn
