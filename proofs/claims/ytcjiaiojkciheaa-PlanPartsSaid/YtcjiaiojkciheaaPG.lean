/- Plan: Number. -/
import Derived.Test.YtcjiaiojkciheaaPD
namespace Go.Proofs.Ytcjiaiojkciheaa
open Go Go.RowKit
open Sy (C SV V1 Blk St XD Els)
set_option maxRecDepth 10000

def isSub (p q : Int) (s : Nat × Nat) : Bool := decide ((s.1 : Int) = p ∧ (s.2 : Int) = q)
def numF (g : List Opr) (p q : Int) : Option Nat := if (checkV g).2 = 0 then (subsL g).findIdx? (isSub p q) else none
def numV (g : List Opr) (p q : Int) : Int := ((numF g p q).getD 0 : Nat)
def numE (g : List Opr) (p q : Int) : Int := if (checkV g).2 = 0 then (match numF g p q with | some _ => 0 | none => 2) else (checkV g).2
theorem find_pre {p : Nat × Nat → Bool} {A t : List (Nat × Nat)} {x : Nat × Nat} (h : ∀ s ∈ A, p s = false) (hx : p x = true) : (A ++ x :: t).findIdx? p = some A.length := by
  rw [List.findIdx?_append, List.findIdx?_eq_none_iff.2 h]
  simp [List.findIdx?_cons, hx]
theorem subsL_split {g : List Opr} {i k : Nat} (hi : i < g.length) (hk : k < widN g i) : ∃ t, subsL g = subN g i k ++ (i, k) :: t := by
  have h1 := subN_pre_k g i (k + 1) (widN g i - (k + 1))
  rw [show k + 1 + (widN g i - (k + 1)) = widN g i by omega, ← subN_i] at h1
  have h2 := subN_pre_i g (i + 1) (g.length - (i + 1))
  rw [show i + 1 + (g.length - (i + 1)) = g.length by omega] at h2
  obtain ⟨t, ht⟩ := h1.trans h2
  exact ⟨t, by rw [show subsL g = subN g g.length 0 from rfl, ← ht, subN_k, List.append_assoc]; rfl⟩
attribute [local irreducible] checkV subN pick
set_option maxHeartbeats 2000000 in
theorem number_any (v : Value) (gl : List OpV) (p q : Int) (w : World) (hr : GOk (fun b => b < w.heap.size) w v gl) :
    Calls Try.prog 25 #[.agg #[v], .agg #[.int .i64 p, .int .i64 q]] w (Sy.Ret (.tuple #[.int .i64 (numV (opsOf gl) p q), .int .i64 (numE (opsOf gl) p q)]) w) := by
  have hol := opsOf_len gl
  refine Sy.calls_of Sy.lv25 Sy.tab_ok Try.func25 rfl _ Try.ntmps25 [⟨v, 5, gl.length, gl.map encOV⟩] [.agg [.row 0], .agg [.v (.int .i64 p), .v (.int .i64 q)]] rfl rfl rfl ⟨hr.1, trivial⟩ ?_
  ((repeat' ((conv => whnf);(first|refine z1 ?_|refine z2 ?_|refine z3 ?_|refine z4 ?_|refine z5 ?_|refine z6 ?_|refine z7 ?_|refine z8 ?_|refine z9 ?_|refine za ?_|refine zb ?_|refine zc ?_|refine zd ?_|refine ze ?_|refine zf ?_|refine zg ?_|refine zh ?_|((first|refine zi ?_ ?_|refine zj ?_ ?_|refine zk ?_ ?_)<;> intro hh <;> first|(exfalso;omega)|skip)|(refine zl ?_ ?_<;> intro hh)|refine zm ?_|refine zn ?_|refine zo ?_|refine zp ?_|refine zq ?_|refine zv ?_|refine zr ?_|refine zs _ rfl ?_|exact Sy.fin_val (fun e=>rfl))));(all_goals (try conv => whnf)))
  refine Sy.call_in Sy.lv56 Sy.tab_ok Try.func56 rfl _ Try.ntmps56 Try.call56 rfl (fun _ => ?_)
  ((repeat' ((conv => whnf);(first|refine z1 ?_|refine z2 ?_|refine z3 ?_|refine z4 ?_|refine z5 ?_|refine z6 ?_|refine z7 ?_|refine z8 ?_|refine z9 ?_|refine za ?_|refine zb ?_|refine zc ?_|refine zd ?_|refine ze ?_|refine zf ?_|refine zg ?_|refine zh ?_|((first|refine zi ?_ ?_|refine zj ?_ ?_|refine zk ?_ ?_)<;> intro hh <;> first|(exfalso;omega)|skip)|(refine zl ?_ ?_<;> intro hh)|refine zm ?_|refine zn ?_|refine zo ?_|refine zp ?_|refine zq ?_|refine zv ?_|refine zr ?_|refine zs _ rfl ?_|exact Sy.fin_val (fun e=>rfl))));(all_goals (try conv => whnf)))
  refine Sy.call_val (.tup [.c (.v (.int .i64 (checkV (opsOf gl)).1)), .c (.v (.int .i64 (checkV (opsOf gl)).2))]) Try.call65 rfl (fun e a w' h => check_any (e.rv 0) gl w' ⟨Sy.row_reads h (.inr rfl), fun o ho => Sy.later_in h (hr.2 o ho)⟩) ?_
  by_cases h0 : (checkV (opsOf gl)).2 = 0
  · have h8 := check_ok h0
    have hg := check_good h0
    have hg' := hg
    rw [hol] at h8 hg
    have hf : numF (opsOf gl) p q = (subsL (opsOf gl)).findIdx? (isSub p q) := if_pos h0
    have hE : numE (opsOf gl) p q = (match numF (opsOf gl) p q with | some _ => 0 | none => 2) := if_pos h0
    ((repeat' ((conv => whnf);(first|refine z1 ?_|refine z2 ?_|refine z3 ?_|refine z4 ?_|refine z5 ?_|refine z6 ?_|refine z7 ?_|refine z8 ?_|refine z9 ?_|refine za ?_|refine zb ?_|refine zc ?_|refine zd ?_|refine ze ?_|refine zf ?_|refine zg ?_|refine zh ?_|((first|refine zi ?_ ?_|refine zj ?_ ?_|refine zk ?_ ?_)<;> intro hh <;> first|(exfalso;omega)|skip)|(refine zl ?_ ?_<;> intro hh)|refine zm ?_|refine zn ?_|refine zo ?_|refine zp ?_|refine zq ?_|refine zv ?_|refine zr ?_|refine zs _ rfl ?_|exact Sy.fin_val (fun e=>rfl))));(all_goals (try conv => whnf)))
    refine Sy.call_in Sy.lv57 Sy.tab_ok Try.func57 rfl _ Try.ntmps57 Try.call57 rfl (fun _ => ?_)
    ((repeat' ((conv => whnf);(first|refine z1 ?_|refine z2 ?_|refine z3 ?_|refine z4 ?_|refine z5 ?_|refine z6 ?_|refine z7 ?_|refine z8 ?_|refine z9 ?_|refine za ?_|refine zb ?_|refine zc ?_|refine zd ?_|refine ze ?_|refine zf ?_|refine zg ?_|refine zh ?_|((first|refine zi ?_ ?_|refine zj ?_ ?_|refine zk ?_ ?_)<;> intro hh <;> first|(exfalso;omega)|skip)|(refine zl ?_ ?_<;> intro hh)|refine zm ?_|refine zn ?_|refine zo ?_|refine zp ?_|refine zq ?_|refine zv ?_|refine zr ?_|refine zs _ rfl ?_|exact Sy.fin_val (fun e=>rfl))));(all_goals (try conv => whnf)))
    refine Sy.call_in Sy.lv58 Sy.tab_ok Try.func58 rfl _ Try.ntmps58 Try.call58 rfl (fun _ => ?_)
    ((repeat' ((conv => whnf);(first|refine z1 ?_|refine z2 ?_|refine z3 ?_|refine z4 ?_|refine z5 ?_|refine z6 ?_|refine z7 ?_|refine z8 ?_|refine z9 ?_|refine za ?_|refine zb ?_|refine zc ?_|refine zd ?_|refine ze ?_|refine zf ?_|refine zg ?_|refine zh ?_|((first|refine zi ?_ ?_|refine zj ?_ ?_|refine zk ?_ ?_)<;> intro hh <;> first|(exfalso;omega)|skip)|(refine zl ?_ ?_<;> intro hh)|refine zm ?_|refine zn ?_|refine zo ?_|refine zp ?_|refine zq ?_|refine zv ?_|refine zr ?_|refine zs _ rfl ?_|exact Sy.fin_val (fun e=>rfl))));(all_goals (try conv => whnf)))
    refine Sy.sem_range Sy.lv77 Sy.tab_ok _ rfl rfl Try.func77 rfl Try.ntmps77 Try.call77 rfl (fun _ _ => ?_)
    ((repeat' ((conv => whnf);(first|refine z1 ?_|refine z2 ?_|refine z3 ?_|refine z4 ?_|refine z5 ?_|refine z6 ?_|refine z7 ?_|refine z8 ?_|refine z9 ?_|refine za ?_|refine zb ?_|refine zc ?_|refine zd ?_|refine ze ?_|refine zf ?_|refine zg ?_|refine zh ?_|((first|refine zi ?_ ?_|refine zj ?_ ?_|refine zk ?_ ?_)<;> intro hh <;> first|(exfalso;omega)|skip)|(refine zl ?_ ?_<;> intro hh)|refine zm ?_|refine zn ?_|refine zo ?_|refine zp ?_|refine zq ?_|refine zv ?_|refine zr ?_|refine zs _ rfl ?_|exact Sy.fin_val (fun e=>rfl))));(all_goals (try conv => whnf)))
    refine Sy.loop_inv Sy.tab_ok (fun i : Nat => [(10, .c (.v (.int .i64 i))), (3, .c (.v (.int .i64 (subN (opsOf gl) i 0).length)))]) (fun i => []) (fun i => i ≤ gl.length ∧ ∀ s ∈ subN (opsOf gl) i 0, isSub p q s = false) (fun i => gl.length - i) 0 ⟨Nat.zero_le _, fun s hs => by rw [subN_zero] at hs; cases hs⟩ ?_ (fun i hi => ?_)
    · rw [subN_zero]
      ((repeat' (first|((conv => whnf);done)|((try conv => whnf);first|exact trivial|(refine And.intro ?_ ?_)|rfl|exact fun _ _ _ h=>h|exact fun _ _ _ _=>trivial)));(all_goals (try conv => whnf)))
    · obtain ⟨hi, hno⟩ := hi
      ((repeat' ((conv => whnf);(first|refine z1 ?_|refine z2 ?_|refine z3 ?_|refine z4 ?_|refine z5 ?_|refine z6 ?_|refine z7 ?_|refine z8 ?_|refine z9 ?_|refine za ?_|refine zb ?_|refine zc ?_|refine zd ?_|refine ze ?_|refine zf ?_|refine zg ?_|refine zh ?_|((first|refine zi ?_ ?_|refine zj ?_ ?_|refine zk ?_ ?_)<;> intro hh <;> first|(exfalso;omega)|skip)|(refine zl ?_ ?_<;> intro hh)|refine zm ?_|refine zn ?_|refine zo ?_|refine zp ?_|refine zq ?_|refine zv ?_|refine zr ?_|refine zs _ rfl ?_|exact Sy.fin_val (fun e=>rfl))));(all_goals (try conv => whnf)))
      · have hlt : i < gl.length := by omega
        have hgi := List.getElem?_eq_getElem hlt
        generalize gl[i] = o at *
        have hgo := opsOf_get hgi
        have hw := widN_good hg hlt hgo
        refine Sy.el_map o hgi ?_
        ((repeat' ((conv => whnf);(first|refine z1 ?_|refine z2 ?_|refine z3 ?_|refine z4 ?_|refine z5 ?_|refine z6 ?_|refine z7 ?_|refine z8 ?_|refine z9 ?_|refine za ?_|refine zb ?_|refine zc ?_|refine zd ?_|refine ze ?_|refine zf ?_|refine zg ?_|refine zh ?_|((first|refine zi ?_ ?_|refine zj ?_ ?_|refine zk ?_ ?_)<;> intro hh <;> first|(exfalso;omega)|skip)|(refine zl ?_ ?_<;> intro hh)|refine zm ?_|refine zn ?_|refine zo ?_|refine zp ?_|refine zq ?_|refine zv ?_|refine zr ?_|refine zs _ rfl ?_|exact Sy.fin_val (fun e=>rfl))));(all_goals (try conv => whnf)))
        refine Sy.loop_inv Sy.tab_ok (fun k : Nat => [(17, .c (.v (.int .i64 k))), (3, .c (.v (.int .i64 (subN (opsOf gl) i k).length)))]) (fun k => []) (fun k => k ≤ widN (opsOf gl) i ∧ ∀ s ∈ subN (opsOf gl) i k, isSub p q s = false) (fun k => widN (opsOf gl) i - k) 0 ⟨Nat.zero_le _, hno⟩ ?_ (fun k hk => ?_)
        · ((repeat' (first|((conv => whnf);done)|((try conv => whnf);first|exact trivial|(refine And.intro ?_ ?_)|rfl|exact fun _ _ _ h=>h|exact fun _ _ _ _=>trivial)));(all_goals (try conv => whnf)))
        · obtain ⟨hk, hnk⟩ := hk
          have hs := subN_k (opsOf gl) i k
          have hsl := subN_len (opsOf gl) i k
          have hcl := (subN_le (g := opsOf gl) i hg' (by omega)).2
          by_cases hkw : k < widN (opsOf gl) i
          · have hkw' : (k : Int) < o.op.width := by omega
            have el2 : (subN (opsOf gl) i k).length + 1 = (subN (opsOf gl) i (k + 1)).length := by rw [hs, List.length_append]; rfl
            ((repeat' ((conv => whnf);(first|refine z1 ?_|refine z2 ?_|refine z3 ?_|refine z4 ?_|refine z5 ?_|refine z6 ?_|refine z7 ?_|refine z8 ?_|refine z9 ?_|refine za ?_|refine zb ?_|refine zc ?_|refine zd ?_|refine ze ?_|refine zf ?_|refine zg ?_|refine zh ?_|((first|refine zi ?_ ?_|refine zj ?_ ?_|refine zk ?_ ?_)<;> intro hh <;> first|(exfalso;omega)|skip)|(refine zl ?_ ?_<;> intro hh)|refine zm ?_|refine zn ?_|refine zo ?_|refine zp ?_|refine zq ?_|refine zv ?_|refine zr ?_|refine zs _ rfl ?_|exact Sy.fin_val (fun e=>rfl))));(all_goals (try conv => whnf)))
            obtain ⟨t, ht⟩ := subsL_split (g := opsOf gl) (i := i) (k := k) (by omega) hkw
            refine Sy.yield_in Sy.tab_ok rfl rfl rfl rfl rfl (fun _ => ?_)
            ((repeat' ((conv => whnf);(first|refine z1 ?_|refine z2 ?_|refine z3 ?_|refine z4 ?_|refine z5 ?_|refine z6 ?_|refine z7 ?_|refine z8 ?_|refine z9 ?_|refine za ?_|refine zb ?_|refine zc ?_|refine zd ?_|refine ze ?_|refine zf ?_|refine zg ?_|refine zh ?_|((first|refine zi ?_ ?_|refine zj ?_ ?_|refine zk ?_ ?_)<;> intro hh <;> first|(exfalso;omega)|skip)|(refine zl ?_ ?_<;> intro hh)|refine zm ?_|refine zn ?_|refine zo ?_|refine zp ?_|refine zq ?_|refine zv ?_|refine zr ?_|refine zs _ rfl ?_|exact Sy.fin_val (fun e=>rfl))));(all_goals (try conv => whnf)))
            · have hm : isSub p q (i, k) = true := decide_eq_true ⟨by assumption, by assumption⟩
              have hf2 : numF (opsOf gl) p q = some (subN (opsOf gl) i k).length := by rw [hf, ht]; exact find_pre hnk hm
              have hE2 : numE (opsOf gl) p q = 0 := by rw [hE, hf2]
              have hV2 : numV (opsOf gl) p q = (subN (opsOf gl) i k).length := by unfold numV; rw [hf2]; rfl
              exact Sy.fin_val (fun e => by rw [hE2, hV2]; rfl)
            all_goals (
              have hm : isSub p q (i, k) = false := decide_eq_false (by show ¬ ((i : Int) = p ∧ (k : Int) = q); omega)
              refine ⟨k + 1, ⟨by omega, fun s hs2 => by
                rw [hs] at hs2
                rcases List.mem_append.1 hs2 with h | h
                · exact hnk s h
                · rw [List.mem_singleton.1 h]; exact hm⟩, by omega, ?_⟩
              rw [← el2]
              ((repeat' (first|((conv => whnf);done)|((try conv => whnf);first|exact trivial|(refine And.intro ?_ ?_)|rfl|exact fun _ _ _ h=>h|exact fun _ _ _ _=>trivial)));(all_goals (try conv => whnf))))
          · have hkw' : ¬ (k : Int) < o.op.width := by omega
            have ek : k = widN (opsOf gl) i := by omega
            ((repeat' ((conv => whnf);(first|refine z1 ?_|refine z2 ?_|refine z3 ?_|refine z4 ?_|refine z5 ?_|refine z6 ?_|refine z7 ?_|refine z8 ?_|refine z9 ?_|refine za ?_|refine zb ?_|refine zc ?_|refine zd ?_|refine ze ?_|refine zf ?_|refine zg ?_|refine zh ?_|((first|refine zi ?_ ?_|refine zj ?_ ?_|refine zk ?_ ?_)<;> intro hh <;> first|(exfalso;omega)|skip)|(refine zl ?_ ?_<;> intro hh)|refine zm ?_|refine zn ?_|refine zo ?_|refine zp ?_|refine zq ?_|refine zv ?_|refine zr ?_|refine zs _ rfl ?_|exact Sy.fin_val (fun e=>rfl))));(all_goals (try conv => whnf)))
            refine ⟨i + 1, ⟨by omega, by rw [subN_i, ← ek]; exact hnk⟩, by omega, ?_⟩
            rw [subN_i, ← ek]
            ((repeat' (first|((conv => whnf);done)|((try conv => whnf);first|exact trivial|(refine And.intro ?_ ?_)|rfl|exact fun _ _ _ h=>h|exact fun _ _ _ _=>trivial)));(all_goals (try conv => whnf)))
      · have e : i = gl.length := by omega
        subst e
        have e2 : subN (opsOf gl) gl.length 0 = subsL (opsOf gl) := by unfold subsL; rw [hol]
        rw [e2] at hno
        have hf2 : numF (opsOf gl) p q = none := by rw [hf]; exact List.findIdx?_eq_none_iff.2 hno
        have hE2 : numE (opsOf gl) p q = 2 := by rw [hE, hf2]
        have hV2 : numV (opsOf gl) p q = 0 := by unfold numV; rw [hf2]; rfl
        exact Sy.fin_val (fun e => by rw [hE2, hV2]; rfl)
  · have hf : numF (opsOf gl) p q = none := if_neg h0
    have hE : numE (opsOf gl) p q = (checkV (opsOf gl)).2 := if_neg h0
    have hV2 : numV (opsOf gl) p q = 0 := by unfold numV; rw [hf]; rfl
    rw [hE, hV2]
    ((repeat' ((conv => whnf);(first|refine z1 ?_|refine z2 ?_|refine z3 ?_|refine z4 ?_|refine z5 ?_|refine z6 ?_|refine z7 ?_|refine z8 ?_|refine z9 ?_|refine za ?_|refine zb ?_|refine zc ?_|refine zd ?_|refine ze ?_|refine zf ?_|refine zg ?_|refine zh ?_|((first|refine zi ?_ ?_|refine zj ?_ ?_|refine zk ?_ ?_)<;> intro hh <;> first|(exfalso;omega)|skip)|(refine zl ?_ ?_<;> intro hh)|refine zm ?_|refine zn ?_|refine zo ?_|refine zp ?_|refine zq ?_|refine zv ?_|refine zr ?_|refine zs _ rfl ?_|refine zu ?_|exact Sy.fin_val (fun e=>rfl))));(all_goals (try conv => whnf)))
    all_goals done
end Go.Proofs.Ytcjiaiojkciheaa
