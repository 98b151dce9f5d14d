/- Plan: Sources, Sinks; the law Parts. -/
import Derived.Test.YtcjiaiojkciheaaPR
import Derived.Test.YtcjiaiojkciheaaPPc
import Derived.Test.YtcjiaiojkciheaaPG
import Derived.Test.YtcjiaiojkciheaaPO
namespace Go.Proofs.Ytcjiaiojkciheaa
open Go Go.RowKit
open Sy (C SV V1 Blk St XD Els)
set_option maxRecDepth 10000

theorem subN_sorted (g : List Opr) : ∀ i k, (∀ s ∈ subN g i k, s.1 < i ∨ s.1 = i ∧ s.2 < k) ∧ (subN g i k).Pairwise (fun a b => a.1 < b.1 ∨ a.1 = b.1 ∧ a.2 < b.2)
  | 0, 0 => by rw [subN_zero]; exact ⟨fun s hs => (by cases hs), List.Pairwise.nil⟩
  | i + 1, 0 => by
    have ih := subN_sorted g i (widN g i)
    rw [subN_i]
    exact ⟨fun s hs => by have := ih.1 s hs; omega, ih.2⟩
  | i, k + 1 => by
    have ih := subN_sorted g i k
    rw [subN_k]
    refine ⟨fun s hs => ?_, List.pairwise_append.2 ⟨ih.2, List.pairwise_singleton _ _, fun a ha b hb => ?_⟩⟩
    · rcases List.mem_append.1 hs with hs | hs
      · have := ih.1 s hs; omega
      · rw [List.mem_singleton.1 hs]; dsimp only; omega
    · rw [List.mem_singleton.1 hb]
      exact ih.1 a ha
  termination_by i k => (i, k)
theorem subsL_inj {g : List Opr} {i j : Nat} {s : Nat × Nat} (hi : (subsL g)[i]? = some s) (hj : (subsL g)[j]? = some s) : i = j := by
  have hp := (subN_sorted g g.length 0).2
  rw [show subN g g.length 0 = subsL g from rfl, List.pairwise_iff_getElem] at hp
  obtain ⟨h1, e1⟩ := List.getElem?_eq_some_iff.1 hi
  obtain ⟨h2, e2⟩ := List.getElem?_eq_some_iff.1 hj
  rcases Nat.lt_trichotomy i j with h | h | h
  · have := hp i j h1 h2 h
    rw [e1, e2] at this; omega
  · exact h
  · have := hp j i h2 h1 h
    rw [e1, e2] at this; omega
theorem num_some {g : List Opr} {p q : Int} {m : Nat} {s : Nat × Nat} (h0 : (checkV g).2 = 0) (hm : (subsL g)[m]? = some s) (hs : isSub p q s = true) : numF g p q = some m := by
  unfold numF
  rw [if_pos h0]
  cases hf : (subsL g).findIdx? (isSub p q) with
  | none => 
    have := List.findIdx?_eq_none_iff.1 hf s (List.mem_of_getElem? hm)
    rw [hs] at this; cases this
  | some k =>
    obtain ⟨h1, h2, _⟩ := List.findIdx?_eq_some_iff_getElem.1 hf
    have e1 := of_decide_eq_true hs
    have e2 := of_decide_eq_true h2
    have : (subsL g)[k] = s := by
      refine Prod.ext ?_ ?_ <;> omega
    exact congrArg some (subsL_inj (List.getElem?_eq_some_iff.2 ⟨h1, this⟩) hm)
theorem num_none {g : List Opr} {p q : Int} (h : ∀ (i : Nat) (s : Nat × Nat), (subsL g)[i]? = some s → isSub p q s = false) : numF g p q = none := by
  unfold numF
  split
  · refine List.findIdx?_eq_none_iff.2 fun s hs => ?_
    obtain ⟨i, hi, he⟩ := List.getElem_of_mem hs
    exact h i s (List.getElem?_eq_some_iff.2 ⟨hi, he⟩)
  · rfl
attribute [local irreducible] tagL checkV
theorem psources_any (v : Value) (gl : List OpV) (w : World) (hr : GOk (fun b => b < w.heap.size) w v gl) :
    Calls Try.prog 26 #[.agg #[v]] w (Sy.RetRows Sy.noRow (fun _ : Unit => True) (fun _ => [⟨3, 1, (tagL (opsOf gl) 1).length, (tagL (opsOf gl) 1).map encI⟩]) (fun _ vs => .tuple #[vs.headD undef, .int .i64 (checkV (opsOf gl)).2]) w) := by
  refine Sy.calls_of Sy.lv26 Sy.tab_ok Try.func26 rfl _ Try.ntmps26 [⟨v, 5, gl.length, gl.map encOV⟩] [.agg [.row 0]] rfl rfl rfl ⟨hr.1, trivial⟩ ?_
  ((repeat' ((conv => whnf);(first|refine z1 ?_|refine z2 ?_|refine z3 ?_|refine z4 ?_|refine z5 ?_|refine z6 ?_|refine z7 ?_|refine z8 ?_|refine z9 ?_|refine za ?_|refine zb ?_|refine zc ?_|refine zd ?_|refine ze ?_|refine zf ?_|refine zg ?_|refine zh ?_|((first|refine zi ?_ ?_|refine zj ?_ ?_|refine zk ?_ ?_)<;> intro hh <;> first|(exfalso;omega)|skip)|(refine zl ?_ ?_<;> intro hh)|refine zm ?_|refine zn ?_|refine zo ?_|refine zp ?_|refine zq ?_|refine zv ?_|refine zr ?_|refine zs _ rfl ?_|exact Sy.fin_val (fun e=>rfl))));(all_goals (try conv => whnf)))
  refine Sy.call_r1 ⟨3, 1, (tagL (opsOf gl) 1).length, (tagL (opsOf gl) 1).map encI⟩ (fun j => .tup [.c (.row j), .c (.v (.int .i64 (checkV (opsOf gl)).2))]) Try.call59 (fun e a w' h => tagged_any (e.rv 0) gl 1 w' ⟨Sy.row_reads h (.inr rfl), fun o ho => Sy.later_in h (hr.2 o ho)⟩) ?_
  ((repeat' ((conv => whnf);(first|refine z1 ?_|refine z2 ?_|refine z3 ?_|refine z4 ?_|refine z5 ?_|refine z6 ?_|refine z7 ?_|refine z8 ?_|refine z9 ?_|refine za ?_|refine zb ?_|refine zc ?_|refine zd ?_|refine ze ?_|refine zf ?_|refine zg ?_|refine zh ?_|((first|refine zi ?_ ?_|refine zj ?_ ?_|refine zk ?_ ?_)<;> intro hh <;> first|(exfalso;omega)|skip)|(refine zl ?_ ?_<;> intro hh)|refine zm ?_|refine zn ?_|refine zo ?_|refine zp ?_|refine zq ?_|refine zv ?_|refine zr ?_|refine zs _ rfl ?_|exact Sy.fin_val (fun e=>rfl))));(all_goals (try conv => whnf)))
  exact Sy.fin_r1 (.row 2) rfl (fun e => rfl)
theorem psinks_any (v : Value) (gl : List OpV) (w : World) (hr : GOk (fun b => b < w.heap.size) w v gl) :
    Calls Try.prog 27 #[.agg #[v]] w (Sy.RetRows Sy.noRow (fun _ : Unit => True) (fun _ => [⟨3, 1, (tagL (opsOf gl) 7).length, (tagL (opsOf gl) 7).map encI⟩]) (fun _ vs => .tuple #[vs.headD undef, .int .i64 (checkV (opsOf gl)).2]) w) := by
  refine Sy.calls_of Sy.lv27 Sy.tab_ok Try.func27 rfl _ Try.ntmps27 [⟨v, 5, gl.length, gl.map encOV⟩] [.agg [.row 0]] rfl rfl rfl ⟨hr.1, trivial⟩ ?_
  ((repeat' ((conv => whnf);(first|refine z1 ?_|refine z2 ?_|refine z3 ?_|refine z4 ?_|refine z5 ?_|refine z6 ?_|refine z7 ?_|refine z8 ?_|refine z9 ?_|refine za ?_|refine zb ?_|refine zc ?_|refine zd ?_|refine ze ?_|refine zf ?_|refine zg ?_|refine zh ?_|((first|refine zi ?_ ?_|refine zj ?_ ?_|refine zk ?_ ?_)<;> intro hh <;> first|(exfalso;omega)|skip)|(refine zl ?_ ?_<;> intro hh)|refine zm ?_|refine zn ?_|refine zo ?_|refine zp ?_|refine zq ?_|refine zv ?_|refine zr ?_|refine zs _ rfl ?_|exact Sy.fin_val (fun e=>rfl))));(all_goals (try conv => whnf)))
  refine Sy.call_r1 ⟨3, 1, (tagL (opsOf gl) 7).length, (tagL (opsOf gl) 7).map encI⟩ (fun j => .tup [.c (.row j), .c (.v (.int .i64 (checkV (opsOf gl)).2))]) Try.call59 (fun e a w' h => tagged_any (e.rv 0) gl 7 w' ⟨Sy.row_reads h (.inr rfl), fun o ho => Sy.later_in h (hr.2 o ho)⟩) ?_
  ((repeat' ((conv => whnf);(first|refine z1 ?_|refine z2 ?_|refine z3 ?_|refine z4 ?_|refine z5 ?_|refine z6 ?_|refine z7 ?_|refine z8 ?_|refine z9 ?_|refine za ?_|refine zb ?_|refine zc ?_|refine zd ?_|refine ze ?_|refine zf ?_|refine zg ?_|refine zh ?_|((first|refine zi ?_ ?_|refine zj ?_ ?_|refine zk ?_ ?_)<;> intro hh <;> first|(exfalso;omega)|skip)|(refine zl ?_ ?_<;> intro hh)|refine zm ?_|refine zn ?_|refine zo ?_|refine zp ?_|refine zq ?_|refine zv ?_|refine zr ?_|refine zs _ rfl ?_|exact Sy.fin_val (fun e=>rfl))));(all_goals (try conv => whnf)))
  exact Sy.fin_r1 (.row 2) rfl (fun e => rfl)
attribute [local irreducible] subN chN pick ownB widN overB psubsV chansV numV numE isSub
set_option maxHeartbeats 4000000 in
theorem lparts_any (v : Value) (gl : List OpV) (p q : Int) (w : World) (hr : GOk (fun b => b < w.heap.size) w v gl) :
    Calls Try.prog 5 #[.agg #[v], .agg #[.int .i64 p, .int .i64 q]] w (Sy.Ret (.bool true) w) := by
  have hone := hr.one
  have hol := opsOf_len gl
  refine Sy.calls_of Sy.lv5 Sy.tab_ok Try.func5 rfl _ Try.ntmps5 [] [.agg [.v v], .agg [.v (.int .i64 p), .v (.int .i64 q)]] rfl (lt_v hone rfl) rfl trivial ?_
  ((repeat' ((conv => whnf);(first|refine z1 ?_|refine z2 ?_|refine z3 ?_|refine z4 ?_|refine z5 ?_|refine z6 ?_|refine z7 ?_|refine z8 ?_|refine z9 ?_|refine za ?_|refine zb ?_|refine zc ?_|refine zd ?_|refine ze ?_|refine zf ?_|refine zg ?_|refine zh ?_|((first|refine zi ?_ ?_|refine zj ?_ ?_|refine zk ?_ ?_)<;> intro hh <;> first|(exfalso;omega)|skip)|(refine zl ?_ ?_<;> intro hh)|refine zm ?_|refine zn ?_|refine zo ?_|refine zp ?_|refine zq ?_|refine zv ?_|refine zr ?_|refine zs _ rfl ?_|exact Sy.fin_val (fun e=>rfl))));(all_goals (try conv => whnf)))
  refine Sy.call_val (.c (.v (.bool true))) Try.call9 rfl (fun e a w' h => wakes_any w') ?_
  ((repeat' ((conv => whnf);(first|refine z1 ?_|refine z2 ?_|refine z3 ?_|refine z4 ?_|refine z5 ?_|refine z6 ?_|refine z7 ?_|refine z8 ?_|refine z9 ?_|refine za ?_|refine zb ?_|refine zc ?_|refine zd ?_|refine ze ?_|refine zf ?_|refine zg ?_|refine zh ?_|((first|refine zi ?_ ?_|refine zj ?_ ?_|refine zk ?_ ?_)<;> intro hh <;> first|(exfalso;omega)|skip)|(refine zl ?_ ?_<;> intro hh)|refine zm ?_|refine zn ?_|refine zo ?_|refine zp ?_|refine zq ?_|refine zv ?_|refine zr ?_|refine zs _ rfl ?_|exact Sy.fin_val (fun e=>rfl))));(all_goals (try conv => whnf)))
  refine Sy.call_val (.c (.v (.bool (overB (opsOf gl))))) Try.call10 rfl (fun e a w' h => over_any v gl w' (GOk.mono (GOk.later h (hr.mono fun b hb => ⟨hb, fun h => h⟩)) fun b hb => h.fl b hb)) ?_
  cases h50 : overB (opsOf gl)
  · ((repeat' ((conv => whnf);(first|refine z1 ?_|refine z2 ?_|refine z3 ?_|refine z4 ?_|refine z5 ?_|refine z6 ?_|refine z7 ?_|refine z8 ?_|refine z9 ?_|refine za ?_|refine zb ?_|refine zc ?_|refine zd ?_|refine ze ?_|refine zf ?_|refine zg ?_|refine zh ?_|((first|refine zi ?_ ?_|refine zj ?_ ?_|refine zk ?_ ?_)<;> intro hh <;> first|(exfalso;omega)|skip)|(refine zl ?_ ?_<;> intro hh)|refine zm ?_|refine zn ?_|refine zo ?_|refine zp ?_|refine zq ?_|refine zv ?_|refine zr ?_|refine zs _ rfl ?_|exact Sy.fin_val (fun e=>rfl))));(all_goals (try conv => whnf)))
    refine copy_call v gl rfl hr h50 (fun _ h => h) ?_
    ((conv => whnf);(refine And.intro ?_ (And.intro ?_ (And.intro ?_ (And.intro ?_ ?_))));(all_goals ((repeat' (first|((conv => whnf);done)|((try conv => whnf);first|exact trivial|(refine And.intro ?_ ?_)|rfl|exact fun _ _ _ h=>h|exact fun _ _ _ _=>trivial)));(all_goals (try conv => whnf))));rotate_right)
    intro ls hls G
    have hls : opsOf ls = opsOf gl := hls
    ((repeat' ((conv => whnf);(first|refine z1 ?_|refine z2 ?_|refine z3 ?_|refine z4 ?_|refine z5 ?_|refine z6 ?_|refine z7 ?_|refine z8 ?_|refine z9 ?_|refine za ?_|refine zb ?_|refine zc ?_|refine zd ?_|refine ze ?_|refine zf ?_|refine zg ?_|refine zh ?_|((first|refine zi ?_ ?_|refine zj ?_ ?_|refine zk ?_ ?_)<;> intro hh <;> first|(exfalso;omega)|skip)|(refine zl ?_ ?_<;> intro hh)|refine zm ?_|refine zn ?_|refine zo ?_|refine zp ?_|refine zq ?_|refine zv ?_|refine zr ?_|refine zs _ rfl ?_|exact Sy.fin_val (fun e=>rfl))));(all_goals (try conv => whnf)))
    refine Sy.call_r1 ⟨43, 2, (psubsV (opsOf gl)).length, (psubsV (opsOf gl)).map encS⟩ (fun j => .tup [.c (.row j), .c (.v (.int .i64 (checkV (opsOf gl)).2))]) Try.call22 (fun e a w' h => by have := psubs_any (e.rv 2) ls w' ⟨Sy.row_reads h (.inl ⟨_, rfl⟩), fun o ho => ((h.ev w' fun _ _ => rfl).2.2 o ho).mono fun b hb => h.fl b hb⟩; rw [hls] at this; exact this) ?_
    ((repeat' ((conv => whnf);(first|refine z1 ?_|refine z2 ?_|refine z3 ?_|refine z4 ?_|refine z5 ?_|refine z6 ?_|refine z7 ?_|refine z8 ?_|refine z9 ?_|refine za ?_|refine zb ?_|refine zc ?_|refine zd ?_|refine ze ?_|refine zf ?_|refine zg ?_|refine zh ?_|((first|refine zi ?_ ?_|refine zj ?_ ?_|refine zk ?_ ?_)<;> intro hh <;> first|(exfalso;omega)|skip)|(refine zl ?_ ?_<;> intro hh)|refine zm ?_|refine zn ?_|refine zo ?_|refine zp ?_|refine zq ?_|refine zv ?_|refine zr ?_|refine zs _ rfl ?_|exact Sy.fin_val (fun e=>rfl))));(all_goals (try conv => whnf)))
    refine Sy.call_r1 ⟨58, 2, (chansV (opsOf gl)).length, (chansV (opsOf gl)).map encS⟩ (fun j => .tup [.c (.row j), .c (.v (.int .i64 (checkV (opsOf gl)).2))]) Try.call21 (fun e a w' h => by have := pchans_any (e.rv 2) ls w' ⟨Sy.row_reads h (.inl ⟨_, rfl⟩), fun o ho => ((h.ev w' fun _ _ => rfl).2.2 o ho).mono fun b hb => h.fl b hb⟩; rw [hls] at this; exact this) ?_
    ((repeat' ((conv => whnf);(first|refine z1 ?_|refine z2 ?_|refine z3 ?_|refine z4 ?_|refine z5 ?_|refine z6 ?_|refine z7 ?_|refine z8 ?_|refine z9 ?_|refine za ?_|refine zb ?_|refine zc ?_|refine zd ?_|refine ze ?_|refine zf ?_|refine zg ?_|refine zh ?_|((first|refine zi ?_ ?_|refine zj ?_ ?_|refine zk ?_ ?_)<;> intro hh <;> first|(exfalso;omega)|skip)|(refine zl ?_ ?_<;> intro hh)|refine zm ?_|refine zn ?_|refine zo ?_|refine zp ?_|refine zq ?_|refine zv ?_|refine zr ?_|refine zs _ rfl ?_|exact Sy.fin_val (fun e=>rfl))));(all_goals (try conv => whnf)))
    refine Sy.call_val (.tup [.c (.v (.int .i64 (numV (opsOf gl) p q))), .c (.v (.int .i64 (numE (opsOf gl) p q)))]) Try.call25 rfl (fun e a w' h => by have := number_any (e.rv 2) ls p q w' ⟨Sy.row_reads h (.inl ⟨_, rfl⟩), fun o ho => ((h.ev w' fun _ _ => rfl).2.2 o ho).mono fun b hb => h.fl b hb⟩; rw [hls] at this; exact this) ?_
    ((repeat' ((conv => whnf);(first|refine z1 ?_|refine z2 ?_|refine z3 ?_|refine z4 ?_|refine z5 ?_|refine z6 ?_|refine z7 ?_|refine z8 ?_|refine z9 ?_|refine za ?_|refine zb ?_|refine zc ?_|refine zd ?_|refine ze ?_|refine zf ?_|refine zg ?_|refine zh ?_|((first|refine zi ?_ ?_|refine zj ?_ ?_|refine zk ?_ ?_)<;> intro hh <;> first|(exfalso;omega)|skip)|(refine zl ?_ ?_<;> intro hh)|refine zm ?_|refine zn ?_|refine zo ?_|refine zp ?_|refine zq ?_|refine zv ?_|refine zr ?_|refine zs _ rfl ?_|exact Sy.fin_val (fun e=>rfl))));(all_goals (try conv => whnf)))
    refine Sy.call_r1 ⟨3, 1, (tagL (opsOf gl) 1).length, (tagL (opsOf gl) 1).map encI⟩ (fun j => .tup [.c (.row j), .c (.v (.int .i64 (checkV (opsOf gl)).2))]) Try.call26 (fun e a w' h => by have := psources_any (e.rv 2) ls w' ⟨Sy.row_reads h (.inl ⟨_, rfl⟩), fun o ho => ((h.ev w' fun _ _ => rfl).2.2 o ho).mono fun b hb => h.fl b hb⟩; rw [hls] at this; exact this) ?_
    ((repeat' ((conv => whnf);(first|refine z1 ?_|refine z2 ?_|refine z3 ?_|refine z4 ?_|refine z5 ?_|refine z6 ?_|refine z7 ?_|refine z8 ?_|refine z9 ?_|refine za ?_|refine zb ?_|refine zc ?_|refine zd ?_|refine ze ?_|refine zf ?_|refine zg ?_|refine zh ?_|((first|refine zi ?_ ?_|refine zj ?_ ?_|refine zk ?_ ?_)<;> intro hh <;> first|(exfalso;omega)|skip)|(refine zl ?_ ?_<;> intro hh)|refine zm ?_|refine zn ?_|refine zo ?_|refine zp ?_|refine zq ?_|refine zv ?_|refine zr ?_|refine zs _ rfl ?_|exact Sy.fin_val (fun e=>rfl))));(all_goals (try conv => whnf)))
    refine Sy.call_r1 ⟨3, 1, (tagL (opsOf gl) 7).length, (tagL (opsOf gl) 7).map encI⟩ (fun j => .tup [.c (.row j), .c (.v (.int .i64 (checkV (opsOf gl)).2))]) Try.call27 (fun e a w' h => by have := psinks_any (e.rv 2) ls w' ⟨Sy.row_reads h (.inl ⟨_, rfl⟩), fun o ho => ((h.ev w' fun _ _ => rfl).2.2 o ho).mono fun b hb => h.fl b hb⟩; rw [hls] at this; exact this) ?_
    ((repeat' ((conv => whnf);(first|refine z1 ?_|refine z2 ?_|refine z3 ?_|refine z4 ?_|refine z5 ?_|refine z6 ?_|refine z7 ?_|refine z8 ?_|refine z9 ?_|refine za ?_|refine zb ?_|refine zc ?_|refine zd ?_|refine ze ?_|refine zf ?_|refine zg ?_|refine zh ?_|((first|refine zi ?_ ?_|refine zj ?_ ?_|refine zk ?_ ?_)<;> intro hh <;> first|(exfalso;omega)|skip)|(refine zl ?_ ?_<;> intro hh)|refine zm ?_|refine zn ?_|refine zo ?_|refine zp ?_|refine zq ?_|refine zv ?_|refine zr ?_|refine zs _ rfl ?_|exact Sy.fin_val (fun e=>rfl))));(all_goals (try conv => whnf)))
    refine Sy.call_val (.tup [.c (.v (.int .i64 (checkV (opsOf gl)).1)), .c (.v (.int .i64 (checkV (opsOf gl)).2))]) Try.call14 rfl (fun e a w' h => rcheck_any v gl w' (GOk.mono (GOk.later h (hr.mono fun b hb => ⟨hb, fun h => h⟩)) fun b hb => h.fl b hb)) ?_
    by_cases h0 : (checkV (opsOf gl)).2 = 0
    · have h8 := check_ok h0
      have hg := check_good h0
      have hg' := hg
      rw [hol] at h8 hg
      have hsV : psubsV (opsOf gl) = subsL (opsOf gl) := by unfold psubsV; rw [if_pos h0]
      have hcV : chansV (opsOf gl) = chansL (opsOf gl) := by unfold chansV; rw [if_pos h0]
      have ht1 : tagL (opsOf gl) 1 = pick (tagB (opsOf gl) 1) (subsL (opsOf gl)) := by unfold tagL; rw [if_pos h0]
      have ht7 : tagL (opsOf gl) 7 = pick (tagB (opsOf gl) 7) (subsL (opsOf gl)) := by unfold tagL; rw [if_pos h0]
      have hsome := fun m s => num_some (g := opsOf gl) (p := p) (q := q) (m := m) (s := s) h0
      have hnone := num_none (g := opsOf gl) (p := p) (q := q)
      have hnEs : ∀ m, numF (opsOf gl) p q = some m → numE (opsOf gl) p q = 0 ∧ numV (opsOf gl) p q = (m : Int) := fun m h => ⟨by unfold numE; rw [if_pos h0, h], by unfold numV; rw [h]; rfl⟩
      have hnEn : numF (opsOf gl) p q = none → numE (opsOf gl) p q = 2 ∧ numV (opsOf gl) p q = 0 := fun h => ⟨by unfold numE; rw [if_pos h0, h], by unfold numV; rw [h]; rfl⟩
      rw [h0, hsV, hcV, ht1, ht7]
      ((repeat' ((conv => whnf);(first|refine z1 ?_|refine z2 ?_|refine z3 ?_|refine z4 ?_|refine z5 ?_|refine z6 ?_|refine z7 ?_|refine z8 ?_|refine z9 ?_|refine za ?_|refine zb ?_|refine zc ?_|refine zd ?_|refine ze ?_|refine zf ?_|refine zg ?_|refine zh ?_|((first|refine zi ?_ ?_|refine zj ?_ ?_|refine zk ?_ ?_)<;> intro hh <;> first|(exfalso;omega)|skip)|(refine zl ?_ ?_<;> intro hh)|refine zm ?_|refine zn ?_|refine zo ?_|refine zp ?_|refine zq ?_|refine zv ?_|refine zr ?_|refine zs _ rfl ?_|exact Sy.fin_val (fun e=>rfl))));(all_goals (try conv => whnf)))
      refine Sy.draw_go [] (by kernel_rfl) ?_
      intro e0
      conv => whnf
      refine zt 0 rfl ?_
      conv => whnf
      refine zt 2 rfl ?_
      conv => whnf
      refine zd1 [1] (zx rfl ?_ zy)
      conv => whnf
      refine Sy.call_r1 ⟨43, 2, (subsL (opsOf gl)).length, (subsL (opsOf gl)).map encS⟩ (fun j => .c (.row j)) Try.call15 (fun e a w' h => rsubs_any v gl w' (GOk.mono (GOk.later h (hr.mono fun b hb => ⟨hb, fun h => h⟩)) fun b hb => h.fl b hb) (by omega) hg) ?_
      conv => whnf
      refine ⟨(by repeat' ((conv => whnf);first|exact trivial|(refine And.intro ?_ ?_)|rfl)), ?_⟩
      refine zd1 [3] (zx rfl ?_ zy)
      conv => whnf
      refine Sy.call_r1 ⟨58, 2, (chansL (opsOf gl)).length, (chansL (opsOf gl)).map encS⟩ (fun j => .c (.row j)) Try.call28 (fun e a w' h => rchans_any v gl w' (GOk.mono (GOk.later h (hr.mono fun b hb => ⟨hb, fun h => h⟩)) fun b hb => h.fl b hb) (by omega) hg) ?_
      conv => whnf
      refine ⟨(by repeat' ((conv => whnf);first|exact trivial|(refine And.intro ?_ ?_)|rfl)), ?_⟩
      refine zt 4 rfl ?_
      conv => whnf
      refine zt 5 rfl ?_
      conv => whnf
      refine zw ?_
      skip
      ((repeat' ((conv => whnf);(first|refine z1 ?_|refine z2 ?_|refine z3 ?_|refine z4 ?_|refine z5 ?_|refine z6 ?_|refine z7 ?_|refine z8 ?_|refine z9 ?_|refine za ?_|refine zb ?_|refine zc ?_|refine zd ?_|refine ze ?_|refine zf ?_|refine zg ?_|refine zh ?_|((first|refine zi ?_ ?_|refine zj ?_ ?_|refine zk ?_ ?_)<;> intro hh <;> first|(exfalso;omega)|skip)|(refine zl ?_ ?_<;> intro hh)|refine zm ?_|refine zn ?_|refine zo ?_|refine zp ?_|refine zq ?_|refine zv ?_|refine zr ?_|refine zs _ rfl ?_|exact Sy.fin_val (fun e=>rfl))));(all_goals (try conv => whnf)))
      refine Sy.call_r1 ⟨3, 1, (pick (tagB (opsOf gl) 1) (subsL (opsOf gl))).length, (pick (tagB (opsOf gl) 1) (subsL (opsOf gl))).map encI⟩ (fun j => .c (.row j)) Try.call29 (fun e a w' h => rtag_any v gl 1 w' (GOk.mono (GOk.later h (hr.mono fun b hb => ⟨hb, fun h => h⟩)) fun b hb => h.fl b hb) (by omega) hg) ?_
      ((repeat' ((conv => whnf);(first|refine z1 ?_|refine z2 ?_|refine z3 ?_|refine z4 ?_|refine z5 ?_|refine z6 ?_|refine z7 ?_|refine z8 ?_|refine z9 ?_|refine za ?_|refine zb ?_|refine zc ?_|refine zd ?_|refine ze ?_|refine zf ?_|refine zg ?_|refine zh ?_|((first|refine zi ?_ ?_|refine zj ?_ ?_|refine zk ?_ ?_)<;> intro hh <;> first|(exfalso;omega)|skip)|(refine zl ?_ ?_<;> intro hh)|refine zm ?_|refine zn ?_|refine zo ?_|refine zp ?_|refine zq ?_|refine zv ?_|refine zr ?_|refine zs _ rfl ?_|exact Sy.fin_val (fun e=>rfl))));(all_goals (try conv => whnf)))
      refine Sy.call_val (.c (.v (.bool true))) Try.call19 rfl (fun e x w' h => by have := psame_any (e.rv 6) (e.rv 10) (pick (tagB (opsOf gl) 1) (subsL (opsOf gl))) (pick (tagB (opsOf gl) 1) (subsL (opsOf gl))) w' (Sy.row_reads h (.inl ⟨_, rfl⟩)) (Sy.row_reads h (.inl ⟨_, rfl⟩)); rw [decide_eq_true rfl] at this; exact this) ?_
      ((repeat' ((conv => whnf);(first|refine z1 ?_|refine z2 ?_|refine z3 ?_|refine z4 ?_|refine z5 ?_|refine z6 ?_|refine z7 ?_|refine z8 ?_|refine z9 ?_|refine za ?_|refine zb ?_|refine zc ?_|refine zd ?_|refine ze ?_|refine zf ?_|refine zg ?_|refine zh ?_|((first|refine zi ?_ ?_|refine zj ?_ ?_|refine zk ?_ ?_)<;> intro hh <;> first|(exfalso;omega)|skip)|(refine zl ?_ ?_<;> intro hh)|refine zm ?_|refine zn ?_|refine zo ?_|refine zp ?_|refine zq ?_|refine zv ?_|refine zr ?_|refine zs _ rfl ?_|exact Sy.fin_val (fun e=>rfl))));(all_goals (try conv => whnf)))
      refine Sy.call_r1 ⟨3, 1, (pick (tagB (opsOf gl) 7) (subsL (opsOf gl))).length, (pick (tagB (opsOf gl) 7) (subsL (opsOf gl))).map encI⟩ (fun j => .c (.row j)) Try.call29 (fun e a w' h => rtag_any v gl 7 w' (GOk.mono (GOk.later h (hr.mono fun b hb => ⟨hb, fun h => h⟩)) fun b hb => h.fl b hb) (by omega) hg) ?_
      ((repeat' ((conv => whnf);(first|refine z1 ?_|refine z2 ?_|refine z3 ?_|refine z4 ?_|refine z5 ?_|refine z6 ?_|refine z7 ?_|refine z8 ?_|refine z9 ?_|refine za ?_|refine zb ?_|refine zc ?_|refine zd ?_|refine ze ?_|refine zf ?_|refine zg ?_|refine zh ?_|((first|refine zi ?_ ?_|refine zj ?_ ?_|refine zk ?_ ?_)<;> intro hh <;> first|(exfalso;omega)|skip)|(refine zl ?_ ?_<;> intro hh)|refine zm ?_|refine zn ?_|refine zo ?_|refine zp ?_|refine zq ?_|refine zv ?_|refine zr ?_|refine zs _ rfl ?_|exact Sy.fin_val (fun e=>rfl))));(all_goals (try conv => whnf)))
      refine Sy.call_val (.c (.v (.bool true))) Try.call19 rfl (fun e x w' h => by have := psame_any (e.rv 7) (e.rv 11) (pick (tagB (opsOf gl) 7) (subsL (opsOf gl))) (pick (tagB (opsOf gl) 7) (subsL (opsOf gl))) w' (Sy.row_reads h (.inl ⟨_, rfl⟩)) (Sy.row_reads h (.inl ⟨_, rfl⟩)); rw [decide_eq_true rfl] at this; exact this) ?_
      ((repeat' ((conv => whnf);(first|refine z1 ?_|refine z2 ?_|refine z3 ?_|refine z4 ?_|refine z5 ?_|refine z6 ?_|refine z7 ?_|refine z8 ?_|refine z9 ?_|refine za ?_|refine zb ?_|refine zc ?_|refine zd ?_|refine ze ?_|refine zf ?_|refine zg ?_|refine zh ?_|((first|refine zi ?_ ?_|refine zj ?_ ?_|refine zk ?_ ?_)<;> intro hh <;> first|(exfalso;omega)|skip)|(refine zl ?_ ?_<;> intro hh)|refine zm ?_|refine zn ?_|refine zo ?_|refine zp ?_|refine zq ?_|refine zv ?_|refine zr ?_|refine zs _ rfl ?_|exact Sy.fin_val (fun e=>rfl))));(all_goals (try conv => whnf)))
      have hLl := subsL_len hg'
      have hCl := chans_len (gl := gl) (by omega) hg
      generalize subsL (opsOf gl) = L at *
      generalize chansL (opsOf gl) = D at *
      refine Sy.loop_inv Sy.tab_ok (fun x : Nat × Nat × Bool => [(158, .c (.v (.int .i64 x.1))), (20, .c (.v (.int .i64 x.2.1))), (21, .c (.v (.bool x.2.2)))]) (fun _ => []) (fun x => x.1 ≤ L.length ∧ (x.2.2 = false → x.2.1 = 0 ∧ ∀ (i : Nat) (s : Nat × Nat), i < x.1 → L[i]? = some s → isSub p q s = false) ∧ (x.2.2 = true → ∃ s, L[x.2.1]? = some s ∧ isSub p q s = true)) (fun x => L.length - x.1) (0, 0, false) ⟨Nat.zero_le _, fun _ => ⟨rfl, fun i s hi => by omega⟩, fun h => by cases h⟩ ?_ (fun x hx => ?_)
      · ((repeat' (first|((conv => whnf);done)|((try conv => whnf);first|exact trivial|(refine And.intro ?_ ?_)|rfl|exact fun _ _ _ h=>h|exact fun _ _ _ _=>trivial)));(all_goals (try conv => whnf)))
      · obtain ⟨n, want, there⟩ := x
        dsimp only at hx ⊢
        obtain ⟨hn, hx1, hx2⟩ := hx
        ((repeat' ((conv => whnf);(first|refine z1 ?_|refine z2 ?_|refine z3 ?_|refine z4 ?_|refine z5 ?_|refine z6 ?_|refine z7 ?_|refine z8 ?_|refine z9 ?_|refine za ?_|refine zb ?_|refine zc ?_|refine zd ?_|refine ze ?_|refine zf ?_|refine zg ?_|refine zh ?_|((first|refine zi ?_ ?_|refine zj ?_ ?_|refine zk ?_ ?_)<;> intro hh <;> first|(exfalso;omega)|skip)|(refine zl ?_ ?_<;> intro hh)|refine zm ?_|refine zn ?_|refine zo ?_|refine zp ?_|refine zq ?_|refine zv ?_|refine zr ?_|refine zs _ rfl ?_|exact Sy.fin_val (fun e=>rfl))));(all_goals (try conv => whnf)))
        · have hlt : n < L.length := by omega
          have hgn := List.getElem?_eq_getElem hlt
          generalize L[n] = b at *
          refine Sy.draw_go [] (by kernel_rfl) ?_
          intro e0
          conv => whnf
          refine zt 0 rfl ?_
          conv => whnf
          refine zt 1 rfl ?_
          conv => whnf
          refine zt 2 rfl ?_
          (conv => whnf);(repeat' ((first|refine z1 ?_|refine z2 ?_|refine z3 ?_|refine z4 ?_|refine z5 ?_|refine z6 ?_|refine z7 ?_|refine z8 ?_|refine z9 ?_|refine za ?_|refine zb ?_|refine zc ?_|refine zd ?_|refine ze ?_|refine zf ?_|refine zg ?_|refine zh ?_|((first|refine zi ?_ ?_|refine zj ?_ ?_|refine zk ?_ ?_)<;> intro hh <;> first|(exfalso;omega)|skip)|(refine zl ?_ ?_<;> intro hh)|refine zm ?_|refine zn ?_|refine zo ?_|refine zp ?_|refine zq ?_|refine zv ?_|refine zr ?_|refine zs _ rfl ?_|refine zu ?_|exact Sy.fin_val (fun e=>rfl));(try conv => whnf)))
          refine zt 3 rfl ?_
          conv => whnf
          refine Sy.el_map b hgn ?_
          conv => whnf
          conv => whnf
          refine zt 4 rfl ?_
          conv => whnf
          refine zt 5 rfl ?_
          conv => whnf
          refine zt 6 rfl ?_
          (conv => whnf);(repeat' ((first|refine z1 ?_|refine z2 ?_|refine z3 ?_|refine z4 ?_|refine z5 ?_|refine z6 ?_|refine z7 ?_|refine z8 ?_|refine z9 ?_|refine za ?_|refine zb ?_|refine zc ?_|refine zd ?_|refine ze ?_|refine zf ?_|refine zg ?_|refine zh ?_|((first|refine zi ?_ ?_|refine zj ?_ ?_|refine zk ?_ ?_)<;> intro hh <;> first|(exfalso;omega)|skip)|(refine zl ?_ ?_<;> intro hh)|refine zm ?_|refine zn ?_|refine zo ?_|refine zp ?_|refine zq ?_|refine zv ?_|refine zr ?_|refine zs _ rfl ?_|refine zu ?_|exact Sy.fin_val (fun e=>rfl));(try conv => whnf)))
          refine zt 7 rfl ?_
          conv => whnf
          refine Sy.el_map b hgn ?_
          conv => whnf
          conv => whnf
          refine zt 8 rfl ?_
          (conv => whnf);(repeat' ((first|refine z1 ?_|refine z2 ?_|refine z3 ?_|refine z4 ?_|refine z5 ?_|refine z6 ?_|refine z7 ?_|refine z8 ?_|refine z9 ?_|refine za ?_|refine zb ?_|refine zc ?_|refine zd ?_|refine ze ?_|refine zf ?_|refine zg ?_|refine zh ?_|((first|refine zi ?_ ?_|refine zj ?_ ?_|refine zk ?_ ?_)<;> intro hh <;> first|(exfalso;omega)|skip)|(refine zl ?_ ?_<;> intro hh)|refine zm ?_|refine zn ?_|refine zo ?_|refine zp ?_|refine zq ?_|refine zv ?_|refine zr ?_|refine zs _ rfl ?_|refine zu ?_|exact Sy.fin_val (fun e=>rfl));(try conv => whnf)))
          refine zw ?_
          skip
          ((repeat' ((conv => whnf);(first|refine z1 ?_|refine z2 ?_|refine z3 ?_|refine z4 ?_|refine z5 ?_|refine z6 ?_|refine z7 ?_|refine z8 ?_|refine z9 ?_|refine za ?_|refine zb ?_|refine zc ?_|refine zd ?_|refine ze ?_|refine zf ?_|refine zg ?_|refine zh ?_|((first|refine zi ?_ ?_|refine zj ?_ ?_|refine zk ?_ ?_)<;> intro hh <;> first|(exfalso;omega)|skip)|(refine zl ?_ ?_<;> intro hh)|refine zm ?_|refine zn ?_|refine zo ?_|refine zp ?_|refine zq ?_|refine zv ?_|refine zr ?_|refine zs _ rfl ?_|exact Sy.fin_val (fun e=>rfl))));(all_goals (try conv => whnf)))
          refine Sy.draw_go [] (by kernel_rfl) ?_
          intro e0
          conv => whnf
          refine zt 0 rfl ?_
          conv => whnf
          refine zt 1 rfl ?_
          conv => whnf
          refine zt 2 rfl ?_
          (conv => whnf);(repeat' ((first|refine z1 ?_|refine z2 ?_|refine z3 ?_|refine z4 ?_|refine z5 ?_|refine z6 ?_|refine z7 ?_|refine z8 ?_|refine z9 ?_|refine za ?_|refine zb ?_|refine zc ?_|refine zd ?_|refine ze ?_|refine zf ?_|refine zg ?_|refine zh ?_|((first|refine zi ?_ ?_|refine zj ?_ ?_|refine zk ?_ ?_)<;> intro hh <;> first|(exfalso;omega)|skip)|(refine zl ?_ ?_<;> intro hh)|refine zm ?_|refine zn ?_|refine zo ?_|refine zp ?_|refine zq ?_|refine zv ?_|refine zr ?_|refine zs _ rfl ?_|refine zu ?_|exact Sy.fin_val (fun e=>rfl));(try conv => whnf)))
          refine zt 3 rfl ?_
          conv => whnf
          refine Sy.el_map b hgn ?_
          conv => whnf
          conv => whnf
          refine zt 4 rfl ?_
          conv => whnf
          refine zt 5 rfl ?_
          (conv => whnf);(repeat' ((first|refine z1 ?_|refine z2 ?_|refine z3 ?_|refine z4 ?_|refine z5 ?_|refine z6 ?_|refine z7 ?_|refine z8 ?_|refine z9 ?_|refine za ?_|refine zb ?_|refine zc ?_|refine zd ?_|refine ze ?_|refine zf ?_|refine zg ?_|refine zh ?_|((first|refine zi ?_ ?_|refine zj ?_ ?_|refine zk ?_ ?_)<;> intro hh <;> first|(exfalso;omega)|skip)|(refine zl ?_ ?_<;> intro hh)|refine zm ?_|refine zn ?_|refine zo ?_|refine zp ?_|refine zq ?_|refine zv ?_|refine zr ?_|refine zs _ rfl ?_|refine zu ?_|exact Sy.fin_val (fun e=>rfl));(try conv => whnf)))
          refine zw ?_
          skip
          by_cases hm : (b.1 : Int) = p ∧ (b.2 : Int) = q
          · have hms : isSub p q b = true := by unfold isSub; exact decide_eq_true hm
            obtain ⟨hm1, hm2⟩ := hm
            ((repeat' ((conv => whnf);(first|refine z1 ?_|refine z2 ?_|refine z3 ?_|refine z4 ?_|refine z5 ?_|refine z6 ?_|refine z7 ?_|refine z8 ?_|refine z9 ?_|refine za ?_|refine zb ?_|refine zc ?_|refine zd ?_|refine ze ?_|refine zf ?_|refine zg ?_|refine zh ?_|((first|refine zi ?_ ?_|refine zj ?_ ?_|refine zk ?_ ?_)<;> intro hh <;> first|(exfalso;omega)|skip)|(refine zl ?_ ?_<;> intro hh)|refine zm ?_|refine zn ?_|refine zo ?_|refine zp ?_|refine zq ?_|refine zv ?_|refine zr ?_|refine zs _ rfl ?_|exact Sy.fin_val (fun e=>rfl))));(all_goals (try conv => whnf)))
            refine ⟨(n + 1, n, true), ⟨by dsimp only; omega, fun h => (by cases h), fun _ => ⟨b, hgn, hms⟩⟩, by dsimp only; omega, ?_⟩
            dsimp only
            ((repeat' (first|((conv => whnf);done)|((try conv => whnf);first|exact trivial|(refine And.intro ?_ ?_)|rfl|exact fun _ _ _ h=>h|exact fun _ _ _ _=>trivial)));(all_goals (try conv => whnf)))
          · have hms : isSub p q b = false := by unfold isSub; exact decide_eq_false hm
            have hnext : (n + 1 : Nat) ≤ L.length ∧ (there = false → want = 0 ∧ ∀ (i : Nat) (s : Nat × Nat), i < n + 1 → L[i]? = some s → isSub p q s = false) ∧ (there = true → ∃ s, L[want]? = some s ∧ isSub p q s = true) := by
              refine ⟨hlt, fun h => ⟨(hx1 h).1, fun i s hi hs => ?_⟩, hx2⟩
              rcases Nat.lt_or_ge i n with h2 | h2
              · exact (hx1 h).2 i s h2 hs
              · rw [show i = n by omega, hgn] at hs
                rw [← Option.some.inj hs]; exact hms
            ((repeat' ((conv => whnf);(first|refine z1 ?_|refine z2 ?_|refine z3 ?_|refine z4 ?_|refine z5 ?_|refine z6 ?_|refine z7 ?_|refine z8 ?_|refine z9 ?_|refine za ?_|refine zb ?_|refine zc ?_|refine zd ?_|refine ze ?_|refine zf ?_|refine zg ?_|refine zh ?_|((first|refine zi ?_ ?_|refine zj ?_ ?_|refine zk ?_ ?_)<;> intro hh <;> first|(exfalso;omega)|skip)|(refine zl ?_ ?_<;> intro hh)|refine zm ?_|refine zn ?_|refine zo ?_|refine zp ?_|refine zq ?_|refine zv ?_|refine zr ?_|refine zs _ rfl ?_|exact Sy.fin_val (fun e=>rfl))));(all_goals (try conv => whnf)))
            all_goals first
              | (exfalso; exact hm ⟨by assumption, by assumption⟩)
              | (refine ⟨(n + 1, want, there), hnext, by dsimp only; omega, ?_⟩; dsimp only; ((repeat' (first|((conv => whnf);done)|((try conv => whnf);first|exact trivial|(refine And.intro ?_ ?_)|rfl|exact fun _ _ _ h=>h|exact fun _ _ _ _=>trivial)));(all_goals (try conv => whnf))))
        · have e : n = L.length := by omega
          subst e
          have hF : (numV (opsOf gl) p q = (want : Int)) ∧ ((there = true ∧ numE (opsOf gl) p q = 0) ∨ (there = false ∧ numE (opsOf gl) p q = 2)) := by
            cases ht : there
            · have hh := hnEn (hnone fun i s hs => (hx1 ht).2 i s (List.getElem?_eq_some_iff.1 hs).1 hs)
              exact ⟨by rw [hh.2, (hx1 ht).1]; rfl, .inr ⟨rfl, hh.1⟩⟩
            · obtain ⟨s, h1, h2⟩ := hx2 ht
              have hh := hnEs _ (hsome _ _ h1 h2)
              exact ⟨hh.2, .inl ⟨rfl, hh.1⟩⟩
          rw [hF.1]
          rcases hF.2 with ⟨ht, hE⟩ | ⟨ht, hE⟩
          · rw [hE, ht]
            refine Sy.loop_inv Sy.tab_ok (fun m : Nat => [(180, .c (.v (.int .i64 m)))]) (fun _ => []) (fun m => m ≤ D.length) (fun m => D.length - m) 0 (Nat.zero_le _) ?_ (fun m hm => ?_)
            · ((repeat' (first|((conv => whnf);done)|((try conv => whnf);first|exact trivial|(refine And.intro ?_ ?_)|rfl|exact fun _ _ _ h=>h|exact fun _ _ _ _=>trivial)));(all_goals (try conv => whnf)))
            · ((repeat' ((conv => whnf);(first|refine z1 ?_|refine z2 ?_|refine z3 ?_|refine z4 ?_|refine z5 ?_|refine z6 ?_|refine z7 ?_|refine z8 ?_|refine z9 ?_|refine za ?_|refine zb ?_|refine zc ?_|refine zd ?_|refine ze ?_|refine zf ?_|refine zg ?_|refine zh ?_|((first|refine zi ?_ ?_|refine zj ?_ ?_|refine zk ?_ ?_)<;> intro hh <;> first|(exfalso;omega)|skip)|(refine zl ?_ ?_<;> intro hh)|refine zm ?_|refine zn ?_|refine zo ?_|refine zp ?_|refine zq ?_|refine zv ?_|refine zr ?_|refine zs _ rfl ?_|exact Sy.fin_val (fun e=>rfl))));(all_goals (try conv => whnf)))
              · have hltm : m < D.length := by omega
                have hgm := List.getElem?_eq_getElem hltm
                generalize D[m] = c at *
                refine Sy.draw_go [] (by kernel_rfl) ?_
                intro e0
                conv => whnf
                refine zt 0 rfl ?_
                conv => whnf
                refine zt 1 rfl ?_
                conv => whnf
                refine zt 2 rfl ?_
                (conv => whnf);(repeat' ((first|refine z1 ?_|refine z2 ?_|refine z3 ?_|refine z4 ?_|refine z5 ?_|refine z6 ?_|refine z7 ?_|refine z8 ?_|refine z9 ?_|refine za ?_|refine zb ?_|refine zc ?_|refine zd ?_|refine ze ?_|refine zf ?_|refine zg ?_|refine zh ?_|((first|refine zi ?_ ?_|refine zj ?_ ?_|refine zk ?_ ?_)<;> intro hh <;> first|(exfalso;omega)|skip)|(refine zl ?_ ?_<;> intro hh)|refine zm ?_|refine zn ?_|refine zo ?_|refine zp ?_|refine zq ?_|refine zv ?_|refine zr ?_|refine zs _ rfl ?_|refine zu ?_|exact Sy.fin_val (fun e=>rfl));(try conv => whnf)))
                refine zt 3 rfl ?_
                conv => whnf
                refine Sy.el_map c hgm ?_
                conv => whnf
                conv => whnf
                refine zt 4 rfl ?_
                conv => whnf
                refine zt 5 rfl ?_
                conv => whnf
                refine zt 6 rfl ?_
                (conv => whnf);(repeat' ((first|refine z1 ?_|refine z2 ?_|refine z3 ?_|refine z4 ?_|refine z5 ?_|refine z6 ?_|refine z7 ?_|refine z8 ?_|refine z9 ?_|refine za ?_|refine zb ?_|refine zc ?_|refine zd ?_|refine ze ?_|refine zf ?_|refine zg ?_|refine zh ?_|((first|refine zi ?_ ?_|refine zj ?_ ?_|refine zk ?_ ?_)<;> intro hh <;> first|(exfalso;omega)|skip)|(refine zl ?_ ?_<;> intro hh)|refine zm ?_|refine zn ?_|refine zo ?_|refine zp ?_|refine zq ?_|refine zv ?_|refine zr ?_|refine zs _ rfl ?_|refine zu ?_|exact Sy.fin_val (fun e=>rfl));(try conv => whnf)))
                refine zt 7 rfl ?_
                conv => whnf
                refine Sy.el_map c hgm ?_
                conv => whnf
                conv => whnf
                refine zt 8 rfl ?_
                (conv => whnf);(repeat' ((first|refine z1 ?_|refine z2 ?_|refine z3 ?_|refine z4 ?_|refine z5 ?_|refine z6 ?_|refine z7 ?_|refine z8 ?_|refine z9 ?_|refine za ?_|refine zb ?_|refine zc ?_|refine zd ?_|refine ze ?_|refine zf ?_|refine zg ?_|refine zh ?_|((first|refine zi ?_ ?_|refine zj ?_ ?_|refine zk ?_ ?_)<;> intro hh <;> first|(exfalso;omega)|skip)|(refine zl ?_ ?_<;> intro hh)|refine zm ?_|refine zn ?_|refine zo ?_|refine zp ?_|refine zq ?_|refine zv ?_|refine zr ?_|refine zs _ rfl ?_|refine zu ?_|exact Sy.fin_val (fun e=>rfl));(try conv => whnf)))
                refine zw ?_
                skip
                ((repeat' ((conv => whnf);(first|refine z1 ?_|refine z2 ?_|refine z3 ?_|refine z4 ?_|refine z5 ?_|refine z6 ?_|refine z7 ?_|refine z8 ?_|refine z9 ?_|refine za ?_|refine zb ?_|refine zc ?_|refine zd ?_|refine ze ?_|refine zf ?_|refine zg ?_|refine zh ?_|((first|refine zi ?_ ?_|refine zj ?_ ?_|refine zk ?_ ?_)<;> intro hh <;> first|(exfalso;omega)|skip)|(refine zl ?_ ?_<;> intro hh)|refine zm ?_|refine zn ?_|refine zo ?_|refine zp ?_|refine zq ?_|refine zv ?_|refine zr ?_|refine zs _ rfl ?_|exact Sy.fin_val (fun e=>rfl))));(all_goals (try conv => whnf)))
                refine ⟨m + 1, by omega, by omega, ?_⟩
                ((repeat' (first|((conv => whnf);done)|((try conv => whnf);first|exact trivial|(refine And.intro ?_ ?_)|rfl|exact fun _ _ _ h=>h|exact fun _ _ _ _=>trivial)));(all_goals (try conv => whnf)))
              all_goals first
                | done
                | (exfalso; simp at *; done)
                | exact Sy.fin_val (fun e => congrArg Value.bool (by simp))
          · rw [hE, ht]
            refine Sy.loop_inv Sy.tab_ok (fun m : Nat => [(180, .c (.v (.int .i64 m)))]) (fun _ => []) (fun m => m ≤ D.length) (fun m => D.length - m) 0 (Nat.zero_le _) ?_ (fun m hm => ?_)
            · ((repeat' (first|((conv => whnf);done)|((try conv => whnf);first|exact trivial|(refine And.intro ?_ ?_)|rfl|exact fun _ _ _ h=>h|exact fun _ _ _ _=>trivial)));(all_goals (try conv => whnf)))
            · ((repeat' ((conv => whnf);(first|refine z1 ?_|refine z2 ?_|refine z3 ?_|refine z4 ?_|refine z5 ?_|refine z6 ?_|refine z7 ?_|refine z8 ?_|refine z9 ?_|refine za ?_|refine zb ?_|refine zc ?_|refine zd ?_|refine ze ?_|refine zf ?_|refine zg ?_|refine zh ?_|((first|refine zi ?_ ?_|refine zj ?_ ?_|refine zk ?_ ?_)<;> intro hh <;> first|(exfalso;omega)|skip)|(refine zl ?_ ?_<;> intro hh)|refine zm ?_|refine zn ?_|refine zo ?_|refine zp ?_|refine zq ?_|refine zv ?_|refine zr ?_|refine zs _ rfl ?_|exact Sy.fin_val (fun e=>rfl))));(all_goals (try conv => whnf)))
              · have hltm : m < D.length := by omega
                have hgm := List.getElem?_eq_getElem hltm
                generalize D[m] = c at *
                refine Sy.draw_go [] (by kernel_rfl) ?_
                intro e0
                conv => whnf
                refine zt 0 rfl ?_
                conv => whnf
                refine zt 1 rfl ?_
                conv => whnf
                refine zt 2 rfl ?_
                (conv => whnf);(repeat' ((first|refine z1 ?_|refine z2 ?_|refine z3 ?_|refine z4 ?_|refine z5 ?_|refine z6 ?_|refine z7 ?_|refine z8 ?_|refine z9 ?_|refine za ?_|refine zb ?_|refine zc ?_|refine zd ?_|refine ze ?_|refine zf ?_|refine zg ?_|refine zh ?_|((first|refine zi ?_ ?_|refine zj ?_ ?_|refine zk ?_ ?_)<;> intro hh <;> first|(exfalso;omega)|skip)|(refine zl ?_ ?_<;> intro hh)|refine zm ?_|refine zn ?_|refine zo ?_|refine zp ?_|refine zq ?_|refine zv ?_|refine zr ?_|refine zs _ rfl ?_|refine zu ?_|exact Sy.fin_val (fun e=>rfl));(try conv => whnf)))
                refine zt 3 rfl ?_
                conv => whnf
                refine Sy.el_map c hgm ?_
                conv => whnf
                conv => whnf
                refine zt 4 rfl ?_
                conv => whnf
                refine zt 5 rfl ?_
                conv => whnf
                refine zt 6 rfl ?_
                (conv => whnf);(repeat' ((first|refine z1 ?_|refine z2 ?_|refine z3 ?_|refine z4 ?_|refine z5 ?_|refine z6 ?_|refine z7 ?_|refine z8 ?_|refine z9 ?_|refine za ?_|refine zb ?_|refine zc ?_|refine zd ?_|refine ze ?_|refine zf ?_|refine zg ?_|refine zh ?_|((first|refine zi ?_ ?_|refine zj ?_ ?_|refine zk ?_ ?_)<;> intro hh <;> first|(exfalso;omega)|skip)|(refine zl ?_ ?_<;> intro hh)|refine zm ?_|refine zn ?_|refine zo ?_|refine zp ?_|refine zq ?_|refine zv ?_|refine zr ?_|refine zs _ rfl ?_|refine zu ?_|exact Sy.fin_val (fun e=>rfl));(try conv => whnf)))
                refine zt 7 rfl ?_
                conv => whnf
                refine Sy.el_map c hgm ?_
                conv => whnf
                conv => whnf
                refine zt 8 rfl ?_
                (conv => whnf);(repeat' ((first|refine z1 ?_|refine z2 ?_|refine z3 ?_|refine z4 ?_|refine z5 ?_|refine z6 ?_|refine z7 ?_|refine z8 ?_|refine z9 ?_|refine za ?_|refine zb ?_|refine zc ?_|refine zd ?_|refine ze ?_|refine zf ?_|refine zg ?_|refine zh ?_|((first|refine zi ?_ ?_|refine zj ?_ ?_|refine zk ?_ ?_)<;> intro hh <;> first|(exfalso;omega)|skip)|(refine zl ?_ ?_<;> intro hh)|refine zm ?_|refine zn ?_|refine zo ?_|refine zp ?_|refine zq ?_|refine zv ?_|refine zr ?_|refine zs _ rfl ?_|refine zu ?_|exact Sy.fin_val (fun e=>rfl));(try conv => whnf)))
                refine zw ?_
                skip
                ((repeat' ((conv => whnf);(first|refine z1 ?_|refine z2 ?_|refine z3 ?_|refine z4 ?_|refine z5 ?_|refine z6 ?_|refine z7 ?_|refine z8 ?_|refine z9 ?_|refine za ?_|refine zb ?_|refine zc ?_|refine zd ?_|refine ze ?_|refine zf ?_|refine zg ?_|refine zh ?_|((first|refine zi ?_ ?_|refine zj ?_ ?_|refine zk ?_ ?_)<;> intro hh <;> first|(exfalso;omega)|skip)|(refine zl ?_ ?_<;> intro hh)|refine zm ?_|refine zn ?_|refine zo ?_|refine zp ?_|refine zq ?_|refine zv ?_|refine zr ?_|refine zs _ rfl ?_|exact Sy.fin_val (fun e=>rfl))));(all_goals (try conv => whnf)))
                refine ⟨m + 1, by omega, by omega, ?_⟩
                ((repeat' (first|((conv => whnf);done)|((try conv => whnf);first|exact trivial|(refine And.intro ?_ ?_)|rfl|exact fun _ _ _ h=>h|exact fun _ _ _ _=>trivial)));(all_goals (try conv => whnf)))
              all_goals first
                | done
                | (exfalso; simp at *; done)
                | exact Sy.fin_val (fun e => congrArg Value.bool (by simp))
    · have hsV : psubsV (opsOf gl) = [] := by unfold psubsV; rw [if_neg h0]
      have hcV : chansV (opsOf gl) = [] := by unfold chansV; rw [if_neg h0]
      have ht1 : tagL (opsOf gl) 1 = [] := by unfold tagL; rw [if_neg h0]
      have ht7 : tagL (opsOf gl) 7 = [] := by unfold tagL; rw [if_neg h0]
      have hF : numF (opsOf gl) p q = none := by unfold numF; rw [if_neg h0]
      have hnV : numV (opsOf gl) p q = 0 := by unfold numV; rw [hF]; rfl
      have hnE : numE (opsOf gl) p q = (checkV (opsOf gl)).2 := by unfold numE; rw [if_neg h0]
      rw [hsV, hcV, ht1, ht7, hnV, hnE]
      ((repeat' ((conv => whnf);(first|refine z1 ?_|refine z2 ?_|refine z3 ?_|refine z4 ?_|refine z5 ?_|refine z6 ?_|refine z7 ?_|refine z8 ?_|refine z9 ?_|refine za ?_|refine zb ?_|refine zc ?_|refine zd ?_|refine ze ?_|refine zf ?_|refine zg ?_|refine zh ?_|((first|refine zi ?_ ?_|refine zj ?_ ?_|refine zk ?_ ?_)<;> intro hh <;> first|(exfalso;omega)|skip)|(refine zl ?_ ?_<;> intro hh)|refine zm ?_|refine zn ?_|refine zo ?_|refine zp ?_|refine zq ?_|refine zv ?_|refine zr ?_|refine zs _ rfl ?_|exact Sy.fin_val (fun e=>rfl))));(all_goals (try conv => whnf)))
      exact Sy.fin_val (fun e => congrArg Value.bool (by simp))
  · ((repeat' ((conv => whnf);(first|refine z1 ?_|refine z2 ?_|refine z3 ?_|refine z4 ?_|refine z5 ?_|refine z6 ?_|refine z7 ?_|refine z8 ?_|refine z9 ?_|refine za ?_|refine zb ?_|refine zc ?_|refine zd ?_|refine ze ?_|refine zf ?_|refine zg ?_|refine zh ?_|((first|refine zi ?_ ?_|refine zj ?_ ?_|refine zk ?_ ?_)<;> intro hh <;> first|(exfalso;omega)|skip)|(refine zl ?_ ?_<;> intro hh)|refine zm ?_|refine zn ?_|refine zo ?_|refine zp ?_|refine zq ?_|refine zv ?_|refine zr ?_|refine zs _ rfl ?_|exact Sy.fin_val (fun e=>rfl))));(all_goals (try conv => whnf)))
    all_goals done
end Go.Proofs.Ytcjiaiojkciheaa
