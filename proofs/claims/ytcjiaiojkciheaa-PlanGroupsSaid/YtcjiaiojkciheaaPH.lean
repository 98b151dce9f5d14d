/- Plan: In. -/
import Derived.Test.YtcjiaiojkciheaaPE
namespace Go.Proofs.Ytcjiaiojkciheaa
open Go Go.RowKit
open Sy (C SV V1 Blk St XD Els)
set_option maxRecDepth 10000

def endE (g : List Opr) (n : Int) : Int := if (checkV g).2 = 0 then subE g n else (checkV g).2
def toB (n : Int) (c : Nat × Nat) : Bool := decide ((c.2 : Int) = n)
def fromB (n : Int) (c : Nat × Nat) : Bool := decide ((c.1 : Int) = n)
def inL (g : List Opr) (n : Int) : List Int := if endE g n = 0 then pick (toB n) (chansL g) else []
def outL (g : List Opr) (n : Int) : List Int := if endE g n = 0 then pick (fromB n) (chansL g) else []
attribute [local irreducible] checkV subN chN mask pick
set_option maxHeartbeats 4000000 in
theorem in_any (v : Value) (gl : List OpV) (n : Int) (w : World) (hr : GOk (fun b => b < w.heap.size) w v gl) :
    Calls Try.prog 23 #[.agg #[v], .int .i64 n] w (Sy.RetRows Sy.noRow (fun _ : Unit => True) (fun _ => [⟨3, 1, (inL (opsOf gl) n).length, (inL (opsOf gl) n).map encI⟩]) (fun _ vs => .tuple #[vs.headD undef, .int .i64 (endE (opsOf gl) n)]) w) := by
  have hol := opsOf_len gl
  refine Sy.calls_of Sy.lv23 Sy.tab_ok Try.func23 rfl _ Try.ntmps23 [⟨v, 5, gl.length, gl.map encOV⟩] [.agg [.row 0], .c (.v (.int .i64 n))] rfl rfl rfl ⟨hr.1, trivial⟩ ?_
  ((repeat' ((conv => whnf);(first|refine z1 ?_|refine z2 ?_|refine z3 ?_|refine z4 ?_|refine z5 ?_|refine z6 ?_|refine z7 ?_|refine z8 ?_|refine z9 ?_|refine za ?_|refine zb ?_|refine zc ?_|refine zd ?_|refine ze ?_|refine zf ?_|refine zg ?_|refine zh ?_|((first|refine zi ?_ ?_|refine zj ?_ ?_|refine zk ?_ ?_)<;> intro hh <;> first|(exfalso;omega)|skip)|(refine zl ?_ ?_<;> intro hh)|refine zm ?_|refine zn ?_|refine zo ?_|refine zp ?_|refine zq ?_|refine zv ?_|refine zr ?_|refine zs _ rfl ?_|exact Sy.fin_val (fun e=>rfl))));(all_goals (try conv => whnf)))
  refine Sy.call_in Sy.lv53 Sy.tab_ok Try.func53 rfl _ Try.ntmps53 Try.call53 rfl (fun _ => ?_)
  ((repeat' ((conv => whnf);(first|refine z1 ?_|refine z2 ?_|refine z3 ?_|refine z4 ?_|refine z5 ?_|refine z6 ?_|refine z7 ?_|refine z8 ?_|refine z9 ?_|refine za ?_|refine zb ?_|refine zc ?_|refine zd ?_|refine ze ?_|refine zf ?_|refine zg ?_|refine zh ?_|((first|refine zi ?_ ?_|refine zj ?_ ?_|refine zk ?_ ?_)<;> intro hh <;> first|(exfalso;omega)|skip)|(refine zl ?_ ?_<;> intro hh)|refine zm ?_|refine zn ?_|refine zo ?_|refine zp ?_|refine zq ?_|refine zv ?_|refine zr ?_|refine zs _ rfl ?_|exact Sy.fin_val (fun e=>rfl))));(all_goals (try conv => whnf)))
  refine Sy.call_in Sy.lv38 Sy.tab_ok Try.func38 rfl _ Try.ntmps38 Try.call38 rfl (fun _ => ?_)
  ((repeat' ((conv => whnf);(first|refine z1 ?_|refine z2 ?_|refine z3 ?_|refine z4 ?_|refine z5 ?_|refine z6 ?_|refine z7 ?_|refine z8 ?_|refine z9 ?_|refine za ?_|refine zb ?_|refine zc ?_|refine zd ?_|refine ze ?_|refine zf ?_|refine zg ?_|refine zh ?_|((first|refine zi ?_ ?_|refine zj ?_ ?_|refine zk ?_ ?_)<;> intro hh <;> first|(exfalso;omega)|skip)|(refine zl ?_ ?_<;> intro hh)|refine zm ?_|refine zn ?_|refine zo ?_|refine zp ?_|refine zq ?_|refine zv ?_|refine zr ?_|refine zs _ rfl ?_|exact Sy.fin_val (fun e=>rfl))));(all_goals (try conv => whnf)))
  refine Sy.call_val (.tup [.c (.v (.int .i64 (checkV (opsOf gl)).1)), .c (.v (.int .i64 (checkV (opsOf gl)).2))]) Try.call65 rfl (fun e a w' h => check_any (e.rv 0) gl w' ⟨Sy.row_reads h (.inr rfl), fun o ho => Sy.later_in h (hr.2 o ho)⟩) ?_
  by_cases h0 : (checkV (opsOf gl)).2 = 0
  · have h8 := check_ok h0
    have hg := check_good h0
    have hg' := hg
    rw [hol] at h8 hg
    have hE : endE (opsOf gl) n = subE (opsOf gl) n := if_pos h0
    ((repeat' ((conv => whnf);(first|refine z1 ?_|refine z2 ?_|refine z3 ?_|refine z4 ?_|refine z5 ?_|refine z6 ?_|refine z7 ?_|refine z8 ?_|refine z9 ?_|refine za ?_|refine zb ?_|refine zc ?_|refine zd ?_|refine ze ?_|refine zf ?_|refine zg ?_|refine zh ?_|((first|refine zi ?_ ?_|refine zj ?_ ?_|refine zk ?_ ?_)<;> intro hh <;> first|(exfalso;omega)|skip)|(refine zl ?_ ?_<;> intro hh)|refine zm ?_|refine zn ?_|refine zo ?_|refine zp ?_|refine zq ?_|refine zv ?_|refine zr ?_|refine zs _ rfl ?_|exact Sy.fin_val (fun e=>rfl))));(all_goals (try conv => whnf)))
    refine Sy.call_in Sy.lv75 Sy.tab_ok Try.func75 rfl _ Try.ntmps75 Try.call75 rfl (fun _ => ?_)
    ((repeat' ((conv => whnf);(first|refine z1 ?_|refine z2 ?_|refine z3 ?_|refine z4 ?_|refine z5 ?_|refine z6 ?_|refine z7 ?_|refine z8 ?_|refine z9 ?_|refine za ?_|refine zb ?_|refine zc ?_|refine zd ?_|refine ze ?_|refine zf ?_|refine zg ?_|refine zh ?_|((first|refine zi ?_ ?_|refine zj ?_ ?_|refine zk ?_ ?_)<;> intro hh <;> first|(exfalso;omega)|skip)|(refine zl ?_ ?_<;> intro hh)|refine zm ?_|refine zn ?_|refine zo ?_|refine zp ?_|refine zq ?_|refine zv ?_|refine zr ?_|refine zs _ rfl ?_|exact Sy.fin_val (fun e=>rfl))));(all_goals (try conv => whnf)))
    refine Sy.call_val (.tup [.agg [.v (.int .i64 (subV (opsOf gl) n).1), .v (.int .i64 (subV (opsOf gl) n).2)], .c (.v (.int .i64 (subE (opsOf gl) n)))]) Try.call66 rfl (fun e a w' h => sub_any (e.rv 0) gl n w' ⟨Sy.row_reads h (.inr rfl), fun o ho => Sy.later_in h (hr.2 o ho)⟩ (by omega) hg) ?_
    by_cases hs : subE (opsOf gl) n = 0
    · have hv : inL (opsOf gl) n = pick (toB n) (chansL (opsOf gl)) := if_pos (by rw [hE, hs])
      rw [hE, hs, hv]
      ((repeat' ((conv => whnf);(first|refine z1 ?_|refine z2 ?_|refine z3 ?_|refine z4 ?_|refine z5 ?_|refine z6 ?_|refine z7 ?_|refine z8 ?_|refine z9 ?_|refine za ?_|refine zb ?_|refine zc ?_|refine zd ?_|refine ze ?_|refine zf ?_|refine zg ?_|refine zh ?_|((first|refine zi ?_ ?_|refine zj ?_ ?_|refine zk ?_ ?_)<;> intro hh <;> first|(exfalso;omega)|skip)|(refine zl ?_ ?_<;> intro hh)|refine zm ?_|refine zn ?_|refine zo ?_|refine zp ?_|refine zq ?_|refine zv ?_|refine zr ?_|refine zs _ rfl ?_|exact Sy.fin_val (fun e=>rfl))));(all_goals (try conv => whnf)))
      refine Sy.call_in Sy.lv41 Sy.tab_ok Try.func41 rfl _ Try.ntmps41 Try.call41 rfl (fun _ => ?_)
      ((repeat' ((conv => whnf);(first|refine z1 ?_|refine z2 ?_|refine z3 ?_|refine z4 ?_|refine z5 ?_|refine z6 ?_|refine z7 ?_|refine z8 ?_|refine z9 ?_|refine za ?_|refine zb ?_|refine zc ?_|refine zd ?_|refine ze ?_|refine zf ?_|refine zg ?_|refine zh ?_|((first|refine zi ?_ ?_|refine zj ?_ ?_|refine zk ?_ ?_)<;> intro hh <;> first|(exfalso;omega)|skip)|(refine zl ?_ ?_<;> intro hh)|refine zm ?_|refine zn ?_|refine zo ?_|refine zp ?_|refine zq ?_|refine zv ?_|refine zr ?_|refine zs _ rfl ?_|exact Sy.fin_val (fun e=>rfl))));(all_goals (try conv => whnf)))
      refine Sy.call_in Sy.lv49 Sy.tab_ok Try.func49 rfl _ Try.ntmps49 Try.call49 rfl (fun _ => ?_)
      ((repeat' ((conv => whnf);(first|refine z1 ?_|refine z2 ?_|refine z3 ?_|refine z4 ?_|refine z5 ?_|refine z6 ?_|refine z7 ?_|refine z8 ?_|refine z9 ?_|refine za ?_|refine zb ?_|refine zc ?_|refine zd ?_|refine ze ?_|refine zf ?_|refine zg ?_|refine zh ?_|((first|refine zi ?_ ?_|refine zj ?_ ?_|refine zk ?_ ?_)<;> intro hh <;> first|(exfalso;omega)|skip)|(refine zl ?_ ?_<;> intro hh)|refine zm ?_|refine zn ?_|refine zo ?_|refine zp ?_|refine zq ?_|refine zv ?_|refine zr ?_|refine zs _ rfl ?_|exact Sy.fin_val (fun e=>rfl))));(all_goals (try conv => whnf)))
      refine Sy.sem_subF (Sy.sub_rowc 11 0 3 1 rfl rfl) ?_
      conv => whnf
      refine Sy.sem_range Sy.lv72 Sy.tab_ok _ rfl rfl Try.func72 rfl Try.ntmps72 Try.call72 rfl (fun _ _ => ?_)
      ((repeat' ((conv => whnf);(first|refine z1 ?_|refine z2 ?_|refine z3 ?_|refine z4 ?_|refine z5 ?_|refine z6 ?_|refine z7 ?_|refine z8 ?_|refine z9 ?_|refine za ?_|refine zb ?_|refine zc ?_|refine zd ?_|refine ze ?_|refine zf ?_|refine zg ?_|refine zh ?_|((first|refine zi ?_ ?_|refine zj ?_ ?_|refine zk ?_ ?_)<;> intro hh <;> first|(exfalso;omega)|skip)|(refine zl ?_ ?_<;> intro hh)|refine zm ?_|refine zn ?_|refine zo ?_|refine zp ?_|refine zq ?_|refine zv ?_|refine zr ?_|refine zs _ rfl ?_|exact Sy.fin_val (fun e=>rfl))));(all_goals (try conv => whnf)))
      refine Sy.call_r1 ⟨43, 2, (subsL (opsOf gl)).length, (subsL (opsOf gl)).map encS⟩ (fun j => .c (.row j)) Try.call52 (fun e a w' h => all_any (e.rv 0) gl w' ⟨Sy.row_reads h (.inr rfl), fun o ho => Sy.later_in h (hr.2 o ho)⟩ (by omega) hg) ?_
      have hLlen := subsL_len hg'
      rw [hol] at hLlen
      obtain ⟨L, hL⟩ : ∃ L, L = subsL (opsOf gl) := ⟨_, rfl⟩
      have hmem : ∀ s ∈ L, s.1 < gl.length ∧ s.2 < widN (opsOf gl) s.1 ∧ widN (opsOf gl) s.1 ≤ 3 := fun s hs => by
        rw [hL] at hs
        have h1 := subsL_mem hg' hs
        have h2 := widN_good hg' h1.1 (List.getElem?_eq_getElem h1.1)
        exact ⟨by omega, h1.2, h2.2.2⟩
      have hch : chansL (opsOf gl) = chN (opsOf gl) L L.length 0 := by rw [hL]; rfl
      rw [hch]
      rw [← hL] at hLlen ⊢
      ((repeat' ((conv => whnf);(first|refine z1 ?_|refine z2 ?_|refine z3 ?_|refine z4 ?_|refine z5 ?_|refine z6 ?_|refine z7 ?_|refine z8 ?_|refine z9 ?_|refine za ?_|refine zb ?_|refine zc ?_|refine zd ?_|refine ze ?_|refine zf ?_|refine zg ?_|refine zh ?_|((first|refine zi ?_ ?_|refine zj ?_ ?_|refine zk ?_ ?_)<;> intro hh <;> first|(exfalso;omega)|skip)|(refine zl ?_ ?_<;> intro hh)|refine zm ?_|refine zn ?_|refine zo ?_|refine zp ?_|refine zq ?_|refine zv ?_|refine zr ?_|refine zs _ rfl ?_|exact Sy.fin_val (fun e=>rfl))));(all_goals (try conv => whnf)))
      refine Sy.mk_nat ⟨by omega, by show (8 : Int) * _ ≤ _; omega, by omega⟩ ?_
      ((repeat' ((conv => whnf);(first|refine z1 ?_|refine z2 ?_|refine z3 ?_|refine z4 ?_|refine z5 ?_|refine z6 ?_|refine z7 ?_|refine z8 ?_|refine z9 ?_|refine za ?_|refine zb ?_|refine zc ?_|refine zd ?_|refine ze ?_|refine zf ?_|refine zg ?_|refine zh ?_|((first|refine zi ?_ ?_|refine zj ?_ ?_|refine zk ?_ ?_)<;> intro hh <;> first|(exfalso;omega)|skip)|(refine zl ?_ ?_<;> intro hh)|refine zm ?_|refine zn ?_|refine zo ?_|refine zp ?_|refine zq ?_|refine zv ?_|refine zr ?_|refine zs _ rfl ?_|exact Sy.fin_val (fun e=>rfl))));(all_goals (try conv => whnf)))
      rw [show List.replicate L.length (Sy.zeroE Sy.ti74) = masksR (opsOf gl) L 0 from masksR_zero _ _]
      refine Sy.loop_inv Sy.tab_ok (fun i : Nat => [(20, .c (.v (.int .i64 i)))]) (fun i => [(17, .row 74 1 L.length (.vs (masksR (opsOf gl) L i)))]) (fun i => i ≤ L.length) (fun i => L.length - i) 0 (Nat.zero_le _) ?_ (fun i hi => ?_)
      · ((repeat' (first|((conv => whnf);done)|((try conv => whnf);first|exact trivial|(refine And.intro ?_ ?_)|rfl|exact fun _ _ _ h=>h|exact fun _ _ _ _=>trivial)));(all_goals (try conv => whnf)))
      · ((repeat' ((conv => whnf);(first|refine z1 ?_|refine z2 ?_|refine z3 ?_|refine z4 ?_|refine z5 ?_|refine z6 ?_|refine z7 ?_|refine z8 ?_|refine z9 ?_|refine za ?_|refine zb ?_|refine zc ?_|refine zd ?_|refine ze ?_|refine zf ?_|refine zg ?_|refine zh ?_|((first|refine zi ?_ ?_|refine zj ?_ ?_|refine zk ?_ ?_)<;> intro hh <;> first|(exfalso;omega)|skip)|(refine zl ?_ ?_<;> intro hh)|refine zm ?_|refine zn ?_|refine zo ?_|refine zp ?_|refine zq ?_|refine zv ?_|refine zr ?_|refine zs _ rfl ?_|exact Sy.fin_val (fun e=>rfl))));(all_goals (try conv => whnf)))
        · have hlt : i < L.length := by omega
          have hgi := List.getElem?_eq_getElem hlt
          have hmi := hmem _ (List.getElem_mem hlt)
          generalize L[i] = s at *
          have hset := masksR_set (opsOf gl) hgi
          have hML := masksR_len (opsOf gl) L i
          refine Sy.el_map s hgi ?_
          ((repeat' ((conv => whnf);(first|refine z1 ?_|refine z2 ?_|refine z3 ?_|refine z4 ?_|refine z5 ?_|refine z6 ?_|refine z7 ?_|refine z8 ?_|refine z9 ?_|refine za ?_|refine zb ?_|refine zc ?_|refine zd ?_|refine ze ?_|refine zf ?_|refine zg ?_|refine zh ?_|((first|refine zi ?_ ?_|refine zj ?_ ?_|refine zk ?_ ?_)<;> intro hh <;> first|(exfalso;omega)|skip)|(refine zl ?_ ?_<;> intro hh)|refine zm ?_|refine zn ?_|refine zo ?_|refine zp ?_|refine zq ?_|refine zv ?_|refine zr ?_|refine zs _ rfl ?_|exact Sy.fin_val (fun e=>rfl))));(all_goals (try conv => whnf)))
          refine Sy.call_val (.c (.v (.int .u64 (mask (widN (opsOf gl) s.1) s.2)))) Try.call73 rfl (fun e a w' h => groups_any (e.rv 0) gl s.1 s.2 w' ⟨Sy.row_reads h (.inr rfl), fun o ho => Sy.later_in h (hr.2 o ho)⟩ (by omega) hg hmi.1) ?_
          ((repeat' ((conv => whnf);(first|refine z1 ?_|refine z2 ?_|refine z3 ?_|refine z4 ?_|refine z5 ?_|refine z6 ?_|refine z7 ?_|refine z8 ?_|refine z9 ?_|refine za ?_|refine zb ?_|refine zc ?_|refine zd ?_|refine ze ?_|refine zf ?_|refine zg ?_|refine zh ?_|((first|refine zi ?_ ?_|refine zj ?_ ?_|refine zk ?_ ?_)<;> intro hh <;> first|(exfalso;omega)|skip)|(refine zl ?_ ?_<;> intro hh)|refine zm ?_|refine zn ?_|refine zo ?_|refine zp ?_|refine zq ?_|refine zv ?_|refine zr ?_|refine zs _ rfl ?_|exact Sy.fin_val (fun e=>rfl))));(all_goals (try conv => whnf)))
          refine Sy.el_of _ (masksR_get (opsOf gl) hlt) ?_
          ((repeat' ((conv => whnf);(first|refine z1 ?_|refine z2 ?_|refine z3 ?_|refine z4 ?_|refine z5 ?_|refine z6 ?_|refine z7 ?_|refine z8 ?_|refine z9 ?_|refine za ?_|refine zb ?_|refine zc ?_|refine zd ?_|refine ze ?_|refine zf ?_|refine zg ?_|refine zh ?_|((first|refine zi ?_ ?_|refine zj ?_ ?_|refine zk ?_ ?_)<;> intro hh <;> first|(exfalso;omega)|skip)|(refine zl ?_ ?_<;> intro hh)|refine zm ?_|refine zn ?_|refine zo ?_|refine zp ?_|refine zq ?_|refine zv ?_|refine zr ?_|refine zs _ rfl ?_|exact Sy.fin_val (fun e=>rfl))));(all_goals (try conv => whnf)))
          rw [show (masksR (opsOf gl) L i).set i (Sy.splice [Value.int .u64 (if i < i then (maskAt (opsOf gl) L i : Int) else 0)] 0 [.int .u64 (mask (widN (opsOf gl) s.1) s.2 : Int)]) = masksR (opsOf gl) L (i + 1) from hset]
          refine ⟨i + 1, by omega, by omega, ?_⟩
          ((repeat' (first|((conv => whnf);done)|((try conv => whnf);first|exact trivial|(refine And.intro ?_ ?_)|rfl|exact fun _ _ _ h=>h|exact fun _ _ _ _=>trivial)));(all_goals (try conv => whnf)))
        · have e : i = L.length := by omega
          subst e
          ((repeat' ((conv => whnf);(first|refine z1 ?_|refine z2 ?_|refine z3 ?_|refine z4 ?_|refine z5 ?_|refine z6 ?_|refine z7 ?_|refine z8 ?_|refine z9 ?_|refine za ?_|refine zb ?_|refine zc ?_|refine zd ?_|refine ze ?_|refine zf ?_|refine zg ?_|refine zh ?_|((first|refine zi ?_ ?_|refine zj ?_ ?_|refine zk ?_ ?_)<;> intro hh <;> first|(exfalso;omega)|skip)|(refine zl ?_ ?_<;> intro hh)|refine zm ?_|refine zn ?_|refine zo ?_|refine zp ?_|refine zq ?_|refine zv ?_|refine zr ?_|refine zs _ rfl ?_|exact Sy.fin_val (fun e=>rfl))));(all_goals (try conv => whnf)))
          refine Sy.loop_inv Sy.tab_ok (fun i : Nat => [(34, .c (.v (.int .i64 i))), (3, .c (.v (.int .i64 (chN (opsOf gl) L i 0).length)))]) (fun i => [(11, .cells 33 [.row 14]), (14, .row 3 1 (pick (toB n) (chN (opsOf gl) L i 0)).length (.vs ((pick (toB n) (chN (opsOf gl) L i 0)).map encI)))]) (fun i => i ≤ L.length) (fun i => L.length - i) 0 (Nat.zero_le _) ?_ (fun i hi => ?_)
          · rw [chN_zero, pick_nil]
            ((repeat' (first|((conv => whnf);done)|((try conv => whnf);first|exact trivial|(refine And.intro ?_ ?_)|rfl|exact fun _ _ _ h=>h|exact fun _ _ _ _=>trivial)));(all_goals (try conv => whnf)))
          · ((repeat' ((conv => whnf);(first|refine z1 ?_|refine z2 ?_|refine z3 ?_|refine z4 ?_|refine z5 ?_|refine z6 ?_|refine z7 ?_|refine z8 ?_|refine z9 ?_|refine za ?_|refine zb ?_|refine zc ?_|refine zd ?_|refine ze ?_|refine zf ?_|refine zg ?_|refine zh ?_|((first|refine zi ?_ ?_|refine zj ?_ ?_|refine zk ?_ ?_)<;> intro hh <;> first|(exfalso;omega)|skip)|(refine zl ?_ ?_<;> intro hh)|refine zm ?_|refine zn ?_|refine zo ?_|refine zp ?_|refine zq ?_|refine zv ?_|refine zr ?_|refine zs _ rfl ?_|exact Sy.fin_val (fun e=>rfl))));(all_goals (try conv => whnf)))
            · have hlt : i < L.length := by omega
              have hgi := List.getElem?_eq_getElem hlt
              have hmi := hmem _ (List.getElem_mem hlt)
              generalize L[i] = a at *
              have hMi := masksR_at (opsOf gl) hgi
              refine Sy.el_map a hgi ?_
              ((repeat' ((conv => whnf);(first|refine z1 ?_|refine z2 ?_|refine z3 ?_|refine z4 ?_|refine z5 ?_|refine z6 ?_|refine z7 ?_|refine z8 ?_|refine z9 ?_|refine za ?_|refine zb ?_|refine zc ?_|refine zd ?_|refine ze ?_|refine zf ?_|refine zg ?_|refine zh ?_|((first|refine zi ?_ ?_|refine zj ?_ ?_|refine zk ?_ ?_)<;> intro hh <;> first|(exfalso;omega)|skip)|(refine zl ?_ ?_<;> intro hh)|refine zm ?_|refine zn ?_|refine zo ?_|refine zp ?_|refine zq ?_|refine zv ?_|refine zr ?_|refine zs _ rfl ?_|exact Sy.fin_val (fun e=>rfl))));(all_goals (try conv => whnf)))
              refine Sy.loop_inv Sy.tab_ok (fun j : Nat => [(41, .c (.v (.int .i64 j))), (3, .c (.v (.int .i64 (chN (opsOf gl) L i j).length)))]) (fun j => [(11, .cells 33 [.row 14]), (14, .row 3 1 (pick (toB n) (chN (opsOf gl) L i j)).length (.vs ((pick (toB n) (chN (opsOf gl) L i j)).map encI)))]) (fun j => j ≤ L.length) (fun j => L.length - j) 0 (Nat.zero_le _) ?_ (fun j hj => ?_)
              · ((repeat' (first|((conv => whnf);done)|((try conv => whnf);first|exact trivial|(refine And.intro ?_ ?_)|rfl|exact fun _ _ _ h=>h|exact fun _ _ _ _=>trivial)));(all_goals (try conv => whnf)))
              · have hcl := chN_len (opsOf gl) L i j
                have hcj := chN_j (opsOf gl) L i j
                have hLL : i * L.length ≤ 24 * 24 := Nat.mul_le_mul (by omega) (by omega)
                ((repeat' ((conv => whnf);(first|refine z1 ?_|refine z2 ?_|refine z3 ?_|refine z4 ?_|refine z5 ?_|refine z6 ?_|refine z7 ?_|refine z8 ?_|refine z9 ?_|refine za ?_|refine zb ?_|refine zc ?_|refine zd ?_|refine ze ?_|refine zf ?_|refine zg ?_|refine zh ?_|((first|refine zi ?_ ?_|refine zj ?_ ?_|refine zk ?_ ?_)<;> intro hh <;> first|(exfalso;omega)|skip)|(refine zl ?_ ?_<;> intro hh)|refine zm ?_|refine zn ?_|refine zo ?_|refine zp ?_|refine zq ?_|refine zv ?_|refine zr ?_|refine zs _ rfl ?_|exact Sy.fin_val (fun e=>rfl))));(all_goals (try conv => whnf)))
                · have hlj : j < L.length := by omega
                  have hgj := List.getElem?_eq_getElem hlj
                  have hmj := hmem _ (List.getElem_mem hlj)
                  generalize L[j] = b at *
                  have hMj := masksR_at (opsOf gl) hgj
                  refine Sy.el_map b hgj ?_
                  ((repeat' ((conv => whnf);(first|refine z1 ?_|refine z2 ?_|refine z3 ?_|refine z4 ?_|refine z5 ?_|refine z6 ?_|refine z7 ?_|refine z8 ?_|refine z9 ?_|refine za ?_|refine zb ?_|refine zc ?_|refine zd ?_|refine ze ?_|refine zf ?_|refine zg ?_|refine zh ?_|((first|refine zi ?_ ?_|refine zj ?_ ?_|refine zk ?_ ?_)<;> intro hh <;> first|(exfalso;omega)|skip)|(refine zl ?_ ?_<;> intro hh)|refine zm ?_|refine zn ?_|refine zo ?_|refine zp ?_|refine zq ?_|refine zv ?_|refine zr ?_|refine zs _ rfl ?_|exact Sy.fin_val (fun e=>rfl))));(all_goals (try conv => whnf)))
                  refine Sy.draw_go [] (by kernel_rfl) ?_
                  intro e0
                  conv => whnf
                  refine zt 0 rfl ?_
                  conv => whnf
                  refine zt 1 rfl ?_
                  conv => whnf
                  refine zt 2 rfl ?_
                  (conv => whnf);(repeat' ((first|refine z1 ?_|refine z2 ?_|refine z3 ?_|refine z4 ?_|refine z5 ?_|refine z6 ?_|refine z7 ?_|refine z8 ?_|refine z9 ?_|refine za ?_|refine zb ?_|refine zc ?_|refine zd ?_|refine ze ?_|refine zf ?_|refine zg ?_|refine zh ?_|((first|refine zi ?_ ?_|refine zj ?_ ?_|refine zk ?_ ?_)<;> intro hh <;> first|(exfalso;omega)|skip)|(refine zl ?_ ?_<;> intro hh)|refine zm ?_|refine zn ?_|refine zo ?_|refine zp ?_|refine zq ?_|refine zv ?_|refine zr ?_|refine zs _ rfl ?_|refine zu ?_|exact Sy.fin_val (fun e=>rfl));(try conv => whnf)))
                  refine zt 3 rfl ?_
                  conv => whnf
                  refine Sy.el_of _ hMi ?_
                  conv => whnf
                  conv => whnf
                  refine zt 4 rfl ?_
                  conv => whnf
                  refine zt 5 rfl ?_
                  conv => whnf
                  refine zt 6 rfl ?_
                  (conv => whnf);(repeat' ((first|refine z1 ?_|refine z2 ?_|refine z3 ?_|refine z4 ?_|refine z5 ?_|refine z6 ?_|refine z7 ?_|refine z8 ?_|refine z9 ?_|refine za ?_|refine zb ?_|refine zc ?_|refine zd ?_|refine ze ?_|refine zf ?_|refine zg ?_|refine zh ?_|((first|refine zi ?_ ?_|refine zj ?_ ?_|refine zk ?_ ?_)<;> intro hh <;> first|(exfalso;omega)|skip)|(refine zl ?_ ?_<;> intro hh)|refine zm ?_|refine zn ?_|refine zo ?_|refine zp ?_|refine zq ?_|refine zv ?_|refine zr ?_|refine zs _ rfl ?_|refine zu ?_|exact Sy.fin_val (fun e=>rfl));(try conv => whnf)))
                  refine zt 7 rfl ?_
                  conv => whnf
                  refine Sy.el_of _ hMj ?_
                  conv => whnf
                  conv => whnf
                  refine zt 8 rfl ?_
                  (conv => whnf);(repeat' ((first|refine z1 ?_|refine z2 ?_|refine z3 ?_|refine z4 ?_|refine z5 ?_|refine z6 ?_|refine z7 ?_|refine z8 ?_|refine z9 ?_|refine za ?_|refine zb ?_|refine zc ?_|refine zd ?_|refine ze ?_|refine zf ?_|refine zg ?_|refine zh ?_|((first|refine zi ?_ ?_|refine zj ?_ ?_|refine zk ?_ ?_)<;> intro hh <;> first|(exfalso;omega)|skip)|(refine zl ?_ ?_<;> intro hh)|refine zm ?_|refine zn ?_|refine zo ?_|refine zp ?_|refine zq ?_|refine zv ?_|refine zr ?_|refine zs _ rfl ?_|refine zu ?_|exact Sy.fin_val (fun e=>rfl));(try conv => whnf)))
                  refine zt 9 rfl ?_
                  conv => whnf
                  refine zw ?_
                  skip
                  all_goals (((repeat' ((conv => whnf);(first|refine z1 ?_|refine z2 ?_|refine z3 ?_|refine z4 ?_|refine z5 ?_|refine z6 ?_|refine z7 ?_|refine z8 ?_|refine z9 ?_|refine za ?_|refine zb ?_|refine zc ?_|refine zd ?_|refine ze ?_|refine zf ?_|refine zg ?_|refine zh ?_|((first|refine zi ?_ ?_|refine zj ?_ ?_|refine zk ?_ ?_)<;> intro hh <;> first|(exfalso;omega)|skip)|(refine zl ?_ ?_<;> intro hh)|refine zm ?_|refine zn ?_|refine zo ?_|refine zp ?_|refine zq ?_|refine zv ?_|refine zr ?_|refine zs _ rfl ?_|exact Sy.fin_val (fun e=>rfl))));(all_goals (try conv => whnf))))
                  all_goals (rw [both_of (g := opsOf gl) (a := a) (b := b) (by omega) (by omega)])
                  have hlk := linkAt_of (opsOf gl) hgi hgj
                  have hgo := List.getElem?_eq_getElem hmj.1
                  generalize gl[b.1] = o at *
                  have hoo := hr.at hgo
                  have hin : readsB (opsOf gl) b.1 a.1 = decide ((a.1 : Int) ∈ o.op.ins) := by unfold readsB; rw [opsOf_get hgo]
                  by_cases hb0 : bothOf (opsOf gl) a b = 0
                  · have hl0 : linkAt (opsOf gl) L i j = false := by rw [hlk]; unfold linkB; rw [hb0]; rfl
                    rw [hl0, if_neg (by simp), List.append_nil] at hcj
                    rw [hb0, show ((0 : Nat) : Int) = 0 from rfl]
                    ((repeat' ((conv => whnf);(first|refine z1 ?_|refine z2 ?_|refine z3 ?_|refine z4 ?_|refine z5 ?_|refine z6 ?_|refine z7 ?_|refine z8 ?_|refine z9 ?_|refine za ?_|refine zb ?_|refine zc ?_|refine zd ?_|refine ze ?_|refine zf ?_|refine zg ?_|refine zh ?_|((first|refine zi ?_ ?_|refine zj ?_ ?_|refine zk ?_ ?_)<;> intro hh <;> first|(exfalso;omega)|skip)|(refine zl ?_ ?_<;> intro hh)|refine zm ?_|refine zn ?_|refine zo ?_|refine zp ?_|refine zq ?_|refine zv ?_|refine zr ?_|refine zs _ rfl ?_|exact Sy.fin_val (fun e=>rfl))));(all_goals (try conv => whnf)))
                    refine Sy.draw_go [] (by kernel_rfl) ?_
                    intro e0
                    conv => whnf
                    refine zt 0 rfl ?_
                    conv => whnf
                    refine zt 1 rfl ?_
                    (conv => whnf);(repeat' ((first|refine z1 ?_|refine z2 ?_|refine z3 ?_|refine z4 ?_|refine z5 ?_|refine z6 ?_|refine z7 ?_|refine z8 ?_|refine z9 ?_|refine za ?_|refine zb ?_|refine zc ?_|refine zd ?_|refine ze ?_|refine zf ?_|refine zg ?_|refine zh ?_|((first|refine zi ?_ ?_|refine zj ?_ ?_|refine zk ?_ ?_)<;> intro hh <;> first|(exfalso;omega)|skip)|(refine zl ?_ ?_<;> intro hh)|refine zm ?_|refine zn ?_|refine zo ?_|refine zp ?_|refine zq ?_|refine zv ?_|refine zr ?_|refine zs _ rfl ?_|refine zu ?_|exact Sy.fin_val (fun e=>rfl));(try conv => whnf)))
                    refine zt 2 rfl ?_
                    conv => whnf
                    refine zt 3 rfl ?_
                    (conv => whnf);(repeat' ((first|refine z1 ?_|refine z2 ?_|refine z3 ?_|refine z4 ?_|refine z5 ?_|refine z6 ?_|refine z7 ?_|refine z8 ?_|refine z9 ?_|refine za ?_|refine zb ?_|refine zc ?_|refine zd ?_|refine ze ?_|refine zf ?_|refine zg ?_|refine zh ?_|((first|refine zi ?_ ?_|refine zj ?_ ?_|refine zk ?_ ?_)<;> intro hh <;> first|(exfalso;omega)|skip)|(refine zl ?_ ?_<;> intro hh)|refine zm ?_|refine zn ?_|refine zo ?_|refine zp ?_|refine zq ?_|refine zv ?_|refine zr ?_|refine zs _ rfl ?_|refine zu ?_|exact Sy.fin_val (fun e=>rfl));(try conv => whnf)))
                    refine zt 4 rfl ?_
                    (conv => whnf);(repeat' ((first|refine z1 ?_|refine z2 ?_|refine z3 ?_|refine z4 ?_|refine z5 ?_|refine z6 ?_|refine z7 ?_|refine z8 ?_|refine z9 ?_|refine za ?_|refine zb ?_|refine zc ?_|refine zd ?_|refine ze ?_|refine zf ?_|refine zg ?_|refine zh ?_|((first|refine zi ?_ ?_|refine zj ?_ ?_|refine zk ?_ ?_)<;> intro hh <;> first|(exfalso;omega)|skip)|(refine zl ?_ ?_<;> intro hh)|refine zm ?_|refine zn ?_|refine zo ?_|refine zp ?_|refine zq ?_|refine zv ?_|refine zr ?_|refine zs _ rfl ?_|refine zu ?_|exact Sy.fin_val (fun e=>rfl));(try conv => whnf)))
                    refine zt 5 rfl ?_
                    (conv => whnf);(repeat' ((first|refine z1 ?_|refine z2 ?_|refine z3 ?_|refine z4 ?_|refine z5 ?_|refine z6 ?_|refine z7 ?_|refine z8 ?_|refine z9 ?_|refine za ?_|refine zb ?_|refine zc ?_|refine zd ?_|refine ze ?_|refine zf ?_|refine zg ?_|refine zh ?_|((first|refine zi ?_ ?_|refine zj ?_ ?_|refine zk ?_ ?_)<;> intro hh <;> first|(exfalso;omega)|skip)|(refine zl ?_ ?_<;> intro hh)|refine zm ?_|refine zn ?_|refine zo ?_|refine zp ?_|refine zq ?_|refine zv ?_|refine zr ?_|refine zs _ rfl ?_|refine zu ?_|exact Sy.fin_val (fun e=>rfl));(try conv => whnf)))
                    refine zt 6 rfl ?_
                    (conv => whnf);(repeat' ((first|refine z1 ?_|refine z2 ?_|refine z3 ?_|refine z4 ?_|refine z5 ?_|refine z6 ?_|refine z7 ?_|refine z8 ?_|refine z9 ?_|refine za ?_|refine zb ?_|refine zc ?_|refine zd ?_|refine ze ?_|refine zf ?_|refine zg ?_|refine zh ?_|((first|refine zi ?_ ?_|refine zj ?_ ?_|refine zk ?_ ?_)<;> intro hh <;> first|(exfalso;omega)|skip)|(refine zl ?_ ?_<;> intro hh)|refine zm ?_|refine zn ?_|refine zo ?_|refine zp ?_|refine zq ?_|refine zv ?_|refine zr ?_|refine zs _ rfl ?_|refine zu ?_|exact Sy.fin_val (fun e=>rfl));(try conv => whnf)))
                    refine zt 7 rfl ?_
                    (conv => whnf);(repeat' ((first|refine z1 ?_|refine z2 ?_|refine z3 ?_|refine z4 ?_|refine z5 ?_|refine z6 ?_|refine z7 ?_|refine z8 ?_|refine z9 ?_|refine za ?_|refine zb ?_|refine zc ?_|refine zd ?_|refine ze ?_|refine zf ?_|refine zg ?_|refine zh ?_|((first|refine zi ?_ ?_|refine zj ?_ ?_|refine zk ?_ ?_)<;> intro hh <;> first|(exfalso;omega)|skip)|(refine zl ?_ ?_<;> intro hh)|refine zm ?_|refine zn ?_|refine zo ?_|refine zp ?_|refine zq ?_|refine zv ?_|refine zr ?_|refine zs _ rfl ?_|refine zu ?_|exact Sy.fin_val (fun e=>rfl));(try conv => whnf)))
                    refine zt 8 rfl ?_
                    (conv => whnf);(repeat' ((first|refine z1 ?_|refine z2 ?_|refine z3 ?_|refine z4 ?_|refine z5 ?_|refine z6 ?_|refine z7 ?_|refine z8 ?_|refine z9 ?_|refine za ?_|refine zb ?_|refine zc ?_|refine zd ?_|refine ze ?_|refine zf ?_|refine zg ?_|refine zh ?_|((first|refine zi ?_ ?_|refine zj ?_ ?_|refine zk ?_ ?_)<;> intro hh <;> first|(exfalso;omega)|skip)|(refine zl ?_ ?_<;> intro hh)|refine zm ?_|refine zn ?_|refine zo ?_|refine zp ?_|refine zq ?_|refine zv ?_|refine zr ?_|refine zs _ rfl ?_|refine zu ?_|exact Sy.fin_val (fun e=>rfl));(try conv => whnf)))
                    refine zt 9 rfl ?_
                    (conv => whnf);(repeat' ((first|refine z1 ?_|refine z2 ?_|refine z3 ?_|refine z4 ?_|refine z5 ?_|refine z6 ?_|refine z7 ?_|refine z8 ?_|refine z9 ?_|refine za ?_|refine zb ?_|refine zc ?_|refine zd ?_|refine ze ?_|refine zf ?_|refine zg ?_|refine zh ?_|((first|refine zi ?_ ?_|refine zj ?_ ?_|refine zk ?_ ?_)<;> intro hh <;> first|(exfalso;omega)|skip)|(refine zl ?_ ?_<;> intro hh)|refine zm ?_|refine zn ?_|refine zo ?_|refine zp ?_|refine zq ?_|refine zv ?_|refine zr ?_|refine zs _ rfl ?_|refine zu ?_|exact Sy.fin_val (fun e=>rfl));(try conv => whnf)))
                    refine zt 10 rfl ?_
                    (conv => whnf);(repeat' ((first|refine z1 ?_|refine z2 ?_|refine z3 ?_|refine z4 ?_|refine z5 ?_|refine z6 ?_|refine z7 ?_|refine z8 ?_|refine z9 ?_|refine za ?_|refine zb ?_|refine zc ?_|refine zd ?_|refine ze ?_|refine zf ?_|refine zg ?_|refine zh ?_|((first|refine zi ?_ ?_|refine zj ?_ ?_|refine zk ?_ ?_)<;> intro hh <;> first|(exfalso;omega)|skip)|(refine zl ?_ ?_<;> intro hh)|refine zm ?_|refine zn ?_|refine zo ?_|refine zp ?_|refine zq ?_|refine zv ?_|refine zr ?_|refine zs _ rfl ?_|refine zu ?_|exact Sy.fin_val (fun e=>rfl));(try conv => whnf)))
                    refine zt 11 rfl ?_
                    (conv => whnf);(repeat' ((first|refine z1 ?_|refine z2 ?_|refine z3 ?_|refine z4 ?_|refine z5 ?_|refine z6 ?_|refine z7 ?_|refine z8 ?_|refine z9 ?_|refine za ?_|refine zb ?_|refine zc ?_|refine zd ?_|refine ze ?_|refine zf ?_|refine zg ?_|refine zh ?_|((first|refine zi ?_ ?_|refine zj ?_ ?_|refine zk ?_ ?_)<;> intro hh <;> first|(exfalso;omega)|skip)|(refine zl ?_ ?_<;> intro hh)|refine zm ?_|refine zn ?_|refine zo ?_|refine zp ?_|refine zq ?_|refine zv ?_|refine zr ?_|refine zs _ rfl ?_|refine zu ?_|exact Sy.fin_val (fun e=>rfl));(try conv => whnf)))
                    refine zd1 [12] (zx rfl ?_ zy)
                    conv => whnf
                    ((first|refine z1 ?_|refine z2 ?_|refine z3 ?_|refine z4 ?_);conv => whnf)
                    refine ⟨(by repeat' ((conv => whnf);first|exact trivial|(refine And.intro ?_ ?_)|rfl)), ?_⟩
                    refine zt 13 rfl ?_
                    (conv => whnf);(repeat' ((first|refine z1 ?_|refine z2 ?_|refine z3 ?_|refine z4 ?_|refine z5 ?_|refine z6 ?_|refine z7 ?_|refine z8 ?_|refine z9 ?_|refine za ?_|refine zb ?_|refine zc ?_|refine zd ?_|refine ze ?_|refine zf ?_|refine zg ?_|refine zh ?_|((first|refine zi ?_ ?_|refine zj ?_ ?_|refine zk ?_ ?_)<;> intro hh <;> first|(exfalso;omega)|skip)|(refine zl ?_ ?_<;> intro hh)|refine zm ?_|refine zn ?_|refine zo ?_|refine zp ?_|refine zq ?_|refine zv ?_|refine zr ?_|refine zs _ rfl ?_|refine zu ?_|exact Sy.fin_val (fun e=>rfl));(try conv => whnf)))
                    refine zt 14 rfl ?_
                    (conv => whnf);(repeat' ((first|refine z1 ?_|refine z2 ?_|refine z3 ?_|refine z4 ?_|refine z5 ?_|refine z6 ?_|refine z7 ?_|refine z8 ?_|refine z9 ?_|refine za ?_|refine zb ?_|refine zc ?_|refine zd ?_|refine ze ?_|refine zf ?_|refine zg ?_|refine zh ?_|((first|refine zi ?_ ?_|refine zj ?_ ?_|refine zk ?_ ?_)<;> intro hh <;> first|(exfalso;omega)|skip)|(refine zl ?_ ?_<;> intro hh)|refine zm ?_|refine zn ?_|refine zo ?_|refine zp ?_|refine zq ?_|refine zv ?_|refine zr ?_|refine zs _ rfl ?_|refine zu ?_|exact Sy.fin_val (fun e=>rfl));(try conv => whnf)))
                    refine zw ?_
                    skip
                    all_goals (((repeat' ((conv => whnf);(first|refine z1 ?_|refine z2 ?_|refine z3 ?_|refine z4 ?_|refine z5 ?_|refine z6 ?_|refine z7 ?_|refine z8 ?_|refine z9 ?_|refine za ?_|refine zb ?_|refine zc ?_|refine zd ?_|refine ze ?_|refine zf ?_|refine zg ?_|refine zh ?_|((first|refine zi ?_ ?_|refine zj ?_ ?_|refine zk ?_ ?_)<;> intro hh <;> first|(exfalso;omega)|skip)|(refine zl ?_ ?_<;> intro hh)|refine zm ?_|refine zn ?_|refine zo ?_|refine zp ?_|refine zq ?_|refine zv ?_|refine zr ?_|refine zs _ rfl ?_|exact Sy.fin_val (fun e=>rfl))));(all_goals (try conv => whnf))))
                    all_goals (refine ⟨j + 1, by omega, by omega, ?_⟩)
                    all_goals (rw [hcj])
                    all_goals (((repeat' (first|((conv => whnf);done)|((try conv => whnf);first|exact trivial|(refine And.intro ?_ ?_)|rfl|exact fun _ _ _ h=>h|exact fun _ _ _ _=>trivial)));(all_goals (try conv => whnf))))
                  · have hlr : linkAt (opsOf gl) L i j = decide ((a.1 : Int) ∈ o.op.ins) := by
                      rw [hlk]; unfold linkB; rw [hin, bne_iff_ne.2 hb0]; rfl
                    have hb1 : ((bothOf (opsOf gl) a b : Int) == 0) = false := by rw [beq_eq_false_iff_ne]; omega
                    ((repeat' ((conv => whnf);(first|refine z1 ?_|refine z2 ?_|refine z3 ?_|refine z4 ?_|refine z5 ?_|refine z6 ?_|refine z7 ?_|refine z8 ?_|refine z9 ?_|refine za ?_|refine zb ?_|refine zc ?_|refine zd ?_|refine ze ?_|refine zf ?_|refine zg ?_|refine zh ?_|((first|refine zi ?_ ?_|refine zj ?_ ?_|refine zk ?_ ?_)<;> intro hh <;> first|(exfalso;omega)|skip)|(refine zl ?_ ?_<;> intro hh)|refine zm ?_|refine zn ?_|refine zo ?_|refine zp ?_|refine zq ?_|refine zv ?_|refine zr ?_|refine zs _ rfl ?_|exact Sy.fin_val (fun e=>rfl))));(all_goals (try conv => whnf)))
                    refine Sy.draw_go [] (by kernel_rfl) ?_
                    intro e0
                    conv => whnf
                    refine zt 0 rfl ?_
                    conv => whnf
                    refine zt 1 rfl ?_
                    (conv => whnf);(repeat' ((first|refine z1 ?_|refine z2 ?_|refine z3 ?_|refine z4 ?_|refine z5 ?_|refine z6 ?_|refine z7 ?_|refine z8 ?_|refine z9 ?_|refine za ?_|refine zb ?_|refine zc ?_|refine zd ?_|refine ze ?_|refine zf ?_|refine zg ?_|refine zh ?_|((first|refine zi ?_ ?_|refine zj ?_ ?_|refine zk ?_ ?_)<;> intro hh <;> first|(exfalso;omega)|skip)|(refine zl ?_ ?_<;> intro hh)|refine zm ?_|refine zn ?_|refine zo ?_|refine zp ?_|refine zq ?_|refine zv ?_|refine zr ?_|refine zs _ rfl ?_|refine zu ?_|exact Sy.fin_val (fun e=>rfl));(try conv => whnf)))
                    refine zt 2 rfl ?_
                    conv => whnf
                    refine zt 3 rfl ?_
                    (conv => whnf);(repeat' ((first|refine z1 ?_|refine z2 ?_|refine z3 ?_|refine z4 ?_|refine z5 ?_|refine z6 ?_|refine z7 ?_|refine z8 ?_|refine z9 ?_|refine za ?_|refine zb ?_|refine zc ?_|refine zd ?_|refine ze ?_|refine zf ?_|refine zg ?_|refine zh ?_|((first|refine zi ?_ ?_|refine zj ?_ ?_|refine zk ?_ ?_)<;> intro hh <;> first|(exfalso;omega)|skip)|(refine zl ?_ ?_<;> intro hh)|refine zm ?_|refine zn ?_|refine zo ?_|refine zp ?_|refine zq ?_|refine zv ?_|refine zr ?_|refine zs _ rfl ?_|refine zu ?_|exact Sy.fin_val (fun e=>rfl));(try conv => whnf)))
                    refine zt 4 rfl ?_
                    (conv => whnf);(repeat' ((first|refine z1 ?_|refine z2 ?_|refine z3 ?_|refine z4 ?_|refine z5 ?_|refine z6 ?_|refine z7 ?_|refine z8 ?_|refine z9 ?_|refine za ?_|refine zb ?_|refine zc ?_|refine zd ?_|refine ze ?_|refine zf ?_|refine zg ?_|refine zh ?_|((first|refine zi ?_ ?_|refine zj ?_ ?_|refine zk ?_ ?_)<;> intro hh <;> first|(exfalso;omega)|skip)|(refine zl ?_ ?_<;> intro hh)|refine zm ?_|refine zn ?_|refine zo ?_|refine zp ?_|refine zq ?_|refine zv ?_|refine zr ?_|refine zs _ rfl ?_|refine zu ?_|exact Sy.fin_val (fun e=>rfl));(try conv => whnf)))
                    refine zt 5 rfl ?_
                    (conv => whnf);(repeat' ((first|refine z1 ?_|refine z2 ?_|refine z3 ?_|refine z4 ?_|refine z5 ?_|refine z6 ?_|refine z7 ?_|refine z8 ?_|refine z9 ?_|refine za ?_|refine zb ?_|refine zc ?_|refine zd ?_|refine ze ?_|refine zf ?_|refine zg ?_|refine zh ?_|((first|refine zi ?_ ?_|refine zj ?_ ?_|refine zk ?_ ?_)<;> intro hh <;> first|(exfalso;omega)|skip)|(refine zl ?_ ?_<;> intro hh)|refine zm ?_|refine zn ?_|refine zo ?_|refine zp ?_|refine zq ?_|refine zv ?_|refine zr ?_|refine zs _ rfl ?_|refine zu ?_|exact Sy.fin_val (fun e=>rfl));(try conv => whnf)))
                    refine zt 6 rfl ?_
                    (conv => whnf);(repeat' ((first|refine z1 ?_|refine z2 ?_|refine z3 ?_|refine z4 ?_|refine z5 ?_|refine z6 ?_|refine z7 ?_|refine z8 ?_|refine z9 ?_|refine za ?_|refine zb ?_|refine zc ?_|refine zd ?_|refine ze ?_|refine zf ?_|refine zg ?_|refine zh ?_|((first|refine zi ?_ ?_|refine zj ?_ ?_|refine zk ?_ ?_)<;> intro hh <;> first|(exfalso;omega)|skip)|(refine zl ?_ ?_<;> intro hh)|refine zm ?_|refine zn ?_|refine zo ?_|refine zp ?_|refine zq ?_|refine zv ?_|refine zr ?_|refine zs _ rfl ?_|refine zu ?_|exact Sy.fin_val (fun e=>rfl));(try conv => whnf)))
                    refine zt 7 rfl ?_
                    (conv => whnf);(repeat' ((first|refine z1 ?_|refine z2 ?_|refine z3 ?_|refine z4 ?_|refine z5 ?_|refine z6 ?_|refine z7 ?_|refine z8 ?_|refine z9 ?_|refine za ?_|refine zb ?_|refine zc ?_|refine zd ?_|refine ze ?_|refine zf ?_|refine zg ?_|refine zh ?_|((first|refine zi ?_ ?_|refine zj ?_ ?_|refine zk ?_ ?_)<;> intro hh <;> first|(exfalso;omega)|skip)|(refine zl ?_ ?_<;> intro hh)|refine zm ?_|refine zn ?_|refine zo ?_|refine zp ?_|refine zq ?_|refine zv ?_|refine zr ?_|refine zs _ rfl ?_|refine zu ?_|exact Sy.fin_val (fun e=>rfl));(try conv => whnf)))
                    refine zt 8 rfl ?_
                    (conv => whnf);(repeat' ((first|refine z1 ?_|refine z2 ?_|refine z3 ?_|refine z4 ?_|refine z5 ?_|refine z6 ?_|refine z7 ?_|refine z8 ?_|refine z9 ?_|refine za ?_|refine zb ?_|refine zc ?_|refine zd ?_|refine ze ?_|refine zf ?_|refine zg ?_|refine zh ?_|((first|refine zi ?_ ?_|refine zj ?_ ?_|refine zk ?_ ?_)<;> intro hh <;> first|(exfalso;omega)|skip)|(refine zl ?_ ?_<;> intro hh)|refine zm ?_|refine zn ?_|refine zo ?_|refine zp ?_|refine zq ?_|refine zv ?_|refine zr ?_|refine zs _ rfl ?_|refine zu ?_|exact Sy.fin_val (fun e=>rfl));(try conv => whnf)))
                    refine zt 9 rfl ?_
                    (conv => whnf);(repeat' ((first|refine z1 ?_|refine z2 ?_|refine z3 ?_|refine z4 ?_|refine z5 ?_|refine z6 ?_|refine z7 ?_|refine z8 ?_|refine z9 ?_|refine za ?_|refine zb ?_|refine zc ?_|refine zd ?_|refine ze ?_|refine zf ?_|refine zg ?_|refine zh ?_|((first|refine zi ?_ ?_|refine zj ?_ ?_|refine zk ?_ ?_)<;> intro hh <;> first|(exfalso;omega)|skip)|(refine zl ?_ ?_<;> intro hh)|refine zm ?_|refine zn ?_|refine zo ?_|refine zp ?_|refine zq ?_|refine zv ?_|refine zr ?_|refine zs _ rfl ?_|refine zu ?_|exact Sy.fin_val (fun e=>rfl));(try conv => whnf)))
                    refine Sy.el_map o hgo ?_
                    conv => whnf
                    conv => whnf
                    refine zt 10 rfl ?_
                    (conv => whnf);(repeat' ((first|refine z1 ?_|refine z2 ?_|refine z3 ?_|refine z4 ?_|refine z5 ?_|refine z6 ?_|refine z7 ?_|refine z8 ?_|refine z9 ?_|refine za ?_|refine zb ?_|refine zc ?_|refine zd ?_|refine ze ?_|refine zf ?_|refine zg ?_|refine zh ?_|((first|refine zi ?_ ?_|refine zj ?_ ?_|refine zk ?_ ?_)<;> intro hh <;> first|(exfalso;omega)|skip)|(refine zl ?_ ?_<;> intro hh)|refine zm ?_|refine zn ?_|refine zo ?_|refine zp ?_|refine zq ?_|refine zv ?_|refine zr ?_|refine zs _ rfl ?_|refine zu ?_|exact Sy.fin_val (fun e=>rfl));(try conv => whnf)))
                    refine zt 11 rfl ?_
                    (conv => whnf);(repeat' ((first|refine z1 ?_|refine z2 ?_|refine z3 ?_|refine z4 ?_|refine z5 ?_|refine z6 ?_|refine z7 ?_|refine z8 ?_|refine z9 ?_|refine za ?_|refine zb ?_|refine zc ?_|refine zd ?_|refine ze ?_|refine zf ?_|refine zg ?_|refine zh ?_|((first|refine zi ?_ ?_|refine zj ?_ ?_|refine zk ?_ ?_)<;> intro hh <;> first|(exfalso;omega)|skip)|(refine zl ?_ ?_<;> intro hh)|refine zm ?_|refine zn ?_|refine zo ?_|refine zp ?_|refine zq ?_|refine zv ?_|refine zr ?_|refine zs _ rfl ?_|refine zu ?_|exact Sy.fin_val (fun e=>rfl));(try conv => whnf)))
                    refine zd1 [12] (zx rfl ?_ zy)
                    conv => whnf
                    ((first|refine z1 ?_|refine z2 ?_|refine z3 ?_|refine z4 ?_);conv => whnf)
                    refine Sy.call_val (.c (.v (.bool (decide ((a.1 : Int) ∈ o.op.ins))))) Try.call74 rfl (fun e a' w' h => contains_any _ _ a.1 w' (Sy.later_in h hoo)) ?_
                    conv => whnf
                    refine ⟨(by repeat' ((conv => whnf);first|exact trivial|(refine And.intro ?_ ?_)|rfl)), ?_⟩
                    refine zt 13 rfl ?_
                    (conv => whnf);(repeat' ((first|refine z1 ?_|refine z2 ?_|refine z3 ?_|refine z4 ?_|refine z5 ?_|refine z6 ?_|refine z7 ?_|refine z8 ?_|refine z9 ?_|refine za ?_|refine zb ?_|refine zc ?_|refine zd ?_|refine ze ?_|refine zf ?_|refine zg ?_|refine zh ?_|((first|refine zi ?_ ?_|refine zj ?_ ?_|refine zk ?_ ?_)<;> intro hh <;> first|(exfalso;omega)|skip)|(refine zl ?_ ?_<;> intro hh)|refine zm ?_|refine zn ?_|refine zo ?_|refine zp ?_|refine zq ?_|refine zv ?_|refine zr ?_|refine zs _ rfl ?_|refine zu ?_|exact Sy.fin_val (fun e=>rfl));(try conv => whnf)))
                    refine zt 14 rfl ?_
                    (conv => whnf);(repeat' ((first|refine z1 ?_|refine z2 ?_|refine z3 ?_|refine z4 ?_|refine z5 ?_|refine z6 ?_|refine z7 ?_|refine z8 ?_|refine z9 ?_|refine za ?_|refine zb ?_|refine zc ?_|refine zd ?_|refine ze ?_|refine zf ?_|refine zg ?_|refine zh ?_|((first|refine zi ?_ ?_|refine zj ?_ ?_|refine zk ?_ ?_)<;> intro hh <;> first|(exfalso;omega)|skip)|(refine zl ?_ ?_<;> intro hh)|refine zm ?_|refine zn ?_|refine zo ?_|refine zp ?_|refine zq ?_|refine zv ?_|refine zr ?_|refine zs _ rfl ?_|refine zu ?_|exact Sy.fin_val (fun e=>rfl));(try conv => whnf)))
                    refine zw ?_
                    skip
                    by_cases he : (a.1 : Int) ∈ o.op.ins
                    · rw [decide_eq_true he] at hlr ⊢
                      rw [hlr, if_pos rfl] at hcj
                      ((repeat' ((conv => whnf);(first|refine z1 ?_|refine z2 ?_|refine z3 ?_|refine z4 ?_|refine z5 ?_|refine z6 ?_|refine z7 ?_|refine z8 ?_|refine z9 ?_|refine za ?_|refine zb ?_|refine zc ?_|refine zd ?_|refine ze ?_|refine zf ?_|refine zg ?_|refine zh ?_|((first|refine zi ?_ ?_|refine zj ?_ ?_|refine zk ?_ ?_)<;> intro hh <;> first|(exfalso;omega)|skip)|(refine zl ?_ ?_<;> intro hh)|refine zm ?_|refine zn ?_|refine zo ?_|refine zp ?_|refine zq ?_|refine zv ?_|refine zr ?_|refine zs _ rfl ?_|exact Sy.fin_val (fun e=>rfl))));(all_goals (try conv => whnf)))
                      have hps := pick_snoc (toB n) (chN (opsOf gl) L i j) (i, j)
                      rw [← hcj] at hps
                      have hpl := pick_len (toB n) (chN (opsOf gl) L i j)
                      have el2 : (chN (opsOf gl) L i j).length + 1 = (chN (opsOf gl) L i (j + 1)).length := by rw [hcj, List.length_append]; rfl
                      by_cases hc : (j : Int) = n
                      · rw [show (toB n) (i, j) = true from decide_eq_true hc, if_pos rfl] at hps
                        ((repeat' ((conv => whnf);(first|refine z1 ?_|refine z2 ?_|refine z3 ?_|refine z4 ?_|refine z5 ?_|refine z6 ?_|refine z7 ?_|refine z8 ?_|refine z9 ?_|refine za ?_|refine zb ?_|refine zc ?_|refine zd ?_|refine ze ?_|refine zf ?_|refine zg ?_|refine zh ?_|((first|refine zi ?_ ?_|refine zj ?_ ?_|refine zk ?_ ?_)<;> intro hh <;> first|(exfalso;omega)|skip)|(refine zl ?_ ?_<;> intro hh)|refine zm ?_|refine zn ?_|refine zo ?_|refine zp ?_|refine zq ?_|refine zv ?_|refine zr ?_|refine zs _ rfl ?_|exact Sy.fin_val (fun e=>rfl))));(all_goals (try conv => whnf)))
                        refine Sy.yield_in Sy.tab_ok rfl rfl rfl rfl rfl (fun _ => ?_)
                        ((repeat' ((conv => whnf);(first|refine z1 ?_|refine z2 ?_|refine z3 ?_|refine z4 ?_|refine z5 ?_|refine z6 ?_|refine z7 ?_|refine z8 ?_|refine z9 ?_|refine za ?_|refine zb ?_|refine zc ?_|refine zd ?_|refine ze ?_|refine zf ?_|refine zg ?_|refine zh ?_|((first|refine zi ?_ ?_|refine zj ?_ ?_|refine zk ?_ ?_)<;> intro hh <;> first|(exfalso;omega)|skip)|(refine zl ?_ ?_<;> intro hh)|refine zm ?_|refine zn ?_|refine zo ?_|refine zp ?_|refine zq ?_|refine zv ?_|refine zr ?_|refine zs _ rfl ?_|exact Sy.fin_val (fun e=>rfl))));(all_goals (try conv => whnf)))
                        refine Sy.call_in Sy.lv76 Sy.tab_ok Try.func76 rfl _ Try.ntmps76 Try.call76 rfl (fun _ => ?_)
                        ((repeat' ((conv => whnf);(first|refine z1 ?_|refine z2 ?_|refine z3 ?_|refine z4 ?_|refine z5 ?_|refine z6 ?_|refine z7 ?_|refine z8 ?_|refine z9 ?_|refine za ?_|refine zb ?_|refine zc ?_|refine zd ?_|refine ze ?_|refine zf ?_|refine zg ?_|refine zh ?_|((first|refine zi ?_ ?_|refine zj ?_ ?_|refine zk ?_ ?_)<;> intro hh <;> first|(exfalso;omega)|skip)|(refine zl ?_ ?_<;> intro hh)|refine zm ?_|refine zn ?_|refine zo ?_|refine zp ?_|refine zq ?_|refine zv ?_|refine zr ?_|refine zs _ rfl ?_|exact Sy.fin_val (fun e=>rfl))));(all_goals (try conv => whnf)))
                        refine Sy.draw_go [] (by kernel_rfl) ?_
                        intro e0
                        conv => whnf
                        refine zt 0 rfl ?_
                        conv => whnf
                        refine zt 1 rfl ?_
                        conv => whnf
                        refine zt 3 rfl ?_
                        conv => whnf
                        refine zd1 [2] (zx rfl ?_ zy)
                        conv => whnf
                        refine Sy.call_in Sy.lv54 Sy.tab_ok Try.func54 rfl _ Try.ntmps54 Try.call54 rfl (fun _ => ?_)
                        ((repeat' ((conv => whnf);(first|refine z1 ?_|refine z2 ?_|refine z3 ?_|refine z4 ?_|refine z5 ?_|refine z6 ?_|refine z7 ?_|refine z8 ?_|refine z9 ?_|refine za ?_|refine zb ?_|refine zc ?_|refine zd ?_|refine ze ?_|refine zf ?_|refine zg ?_|refine zh ?_|((first|refine zi ?_ ?_|refine zj ?_ ?_|refine zk ?_ ?_)<;> intro hh <;> first|(exfalso;omega)|skip)|(refine zl ?_ ?_<;> intro hh)|refine zm ?_|refine zn ?_|refine zo ?_|refine zp ?_|refine zq ?_|refine zv ?_|refine zr ?_|refine zs _ rfl ?_|exact Sy.fin_val (fun e=>rfl))));(all_goals (try conv => whnf)))
                        refine ⟨(by repeat' ((conv => whnf);first|exact trivial|(refine And.intro ?_ ?_)|rfl)), ?_⟩
                        refine zt 4 rfl ?_
                        (conv => whnf);(repeat' ((first|refine z1 ?_|refine z2 ?_|refine z3 ?_|refine z4 ?_|refine z5 ?_|refine z6 ?_|refine z7 ?_|refine z8 ?_|refine z9 ?_|refine za ?_|refine zb ?_|refine zc ?_|refine zd ?_|refine ze ?_|refine zf ?_|refine zg ?_|refine zh ?_|((first|refine zi ?_ ?_|refine zj ?_ ?_|refine zk ?_ ?_)<;> intro hh <;> first|(exfalso;omega)|skip)|(refine zl ?_ ?_<;> intro hh)|refine zm ?_|refine zn ?_|refine zo ?_|refine zp ?_|refine zq ?_|refine zv ?_|refine zr ?_|refine zs _ rfl ?_|refine zu ?_|exact Sy.fin_val (fun e=>rfl));(try conv => whnf)))
                        refine zt 5 rfl ?_
                        conv => whnf
                        refine zw ?_
                        skip
                        ((repeat' ((conv => whnf);(first|refine z1 ?_|refine z2 ?_|refine z3 ?_|refine z4 ?_|refine z5 ?_|refine z6 ?_|refine z7 ?_|refine z8 ?_|refine z9 ?_|refine za ?_|refine zb ?_|refine zc ?_|refine zd ?_|refine ze ?_|refine zf ?_|refine zg ?_|refine zh ?_|((first|refine zi ?_ ?_|refine zj ?_ ?_|refine zk ?_ ?_)<;> intro hh <;> first|(exfalso;omega)|skip)|(refine zl ?_ ?_<;> intro hh)|refine zm ?_|refine zn ?_|refine zo ?_|refine zp ?_|refine zq ?_|refine zv ?_|refine zr ?_|refine zs _ rfl ?_|exact Sy.fin_val (fun e=>rfl))));(all_goals (try conv => whnf)))
                        refine Sy.need_of (by show ((pick (toB n) (chN (opsOf gl) L i j)).length + 1) * 8 ≤ _ ∧ _; omega) ?_
                        ((repeat' ((conv => whnf);(first|refine z1 ?_|refine z2 ?_|refine z3 ?_|refine z4 ?_|refine z5 ?_|refine z6 ?_|refine z7 ?_|refine z8 ?_|refine z9 ?_|refine za ?_|refine zb ?_|refine zc ?_|refine zd ?_|refine ze ?_|refine zf ?_|refine zg ?_|refine zh ?_|((first|refine zi ?_ ?_|refine zj ?_ ?_|refine zk ?_ ?_)<;> intro hh <;> first|(exfalso;omega)|skip)|(refine zl ?_ ?_<;> intro hh)|refine zm ?_|refine zn ?_|refine zo ?_|refine zp ?_|refine zq ?_|refine zv ?_|refine zr ?_|refine zs _ rfl ?_|exact Sy.fin_val (fun e=>rfl))));(all_goals (try conv => whnf)))
                        have es : (pick (toB n) (chN (opsOf gl) L i j)).map encI ++ [[Value.int .i64 ((chN (opsOf gl) L i j).length : Int)]] = (pick (toB n) (chN (opsOf gl) L i (j + 1))).map encI := by rw [hps, List.map_append]; rfl
                        have el : (pick (toB n) (chN (opsOf gl) L i j)).length + 1 = (pick (toB n) (chN (opsOf gl) L i (j + 1))).length := by rw [hps, List.length_append]; rfl
                        rw [es, el]
                        refine ⟨j + 1, by omega, by omega, ?_⟩
                        rw [← el2]
                        ((repeat' (first|((conv => whnf);done)|((try conv => whnf);first|exact trivial|(refine And.intro ?_ ?_)|rfl|exact fun _ _ _ h=>h|exact fun _ _ _ _=>trivial)));(all_goals (try conv => whnf)))
                      · rw [show (toB n) (i, j) = false from decide_eq_false hc, if_neg (by simp), List.append_nil] at hps
                        ((repeat' ((conv => whnf);(first|refine z1 ?_|refine z2 ?_|refine z3 ?_|refine z4 ?_|refine z5 ?_|refine z6 ?_|refine z7 ?_|refine z8 ?_|refine z9 ?_|refine za ?_|refine zb ?_|refine zc ?_|refine zd ?_|refine ze ?_|refine zf ?_|refine zg ?_|refine zh ?_|((first|refine zi ?_ ?_|refine zj ?_ ?_|refine zk ?_ ?_)<;> intro hh <;> first|(exfalso;omega)|skip)|(refine zl ?_ ?_<;> intro hh)|refine zm ?_|refine zn ?_|refine zo ?_|refine zp ?_|refine zq ?_|refine zv ?_|refine zr ?_|refine zs _ rfl ?_|exact Sy.fin_val (fun e=>rfl))));(all_goals (try conv => whnf)))
                        refine Sy.yield_in Sy.tab_ok rfl rfl rfl rfl rfl (fun _ => ?_)
                        ((repeat' ((conv => whnf);(first|refine z1 ?_|refine z2 ?_|refine z3 ?_|refine z4 ?_|refine z5 ?_|refine z6 ?_|refine z7 ?_|refine z8 ?_|refine z9 ?_|refine za ?_|refine zb ?_|refine zc ?_|refine zd ?_|refine ze ?_|refine zf ?_|refine zg ?_|refine zh ?_|((first|refine zi ?_ ?_|refine zj ?_ ?_|refine zk ?_ ?_)<;> intro hh <;> first|(exfalso;omega)|skip)|(refine zl ?_ ?_<;> intro hh)|refine zm ?_|refine zn ?_|refine zo ?_|refine zp ?_|refine zq ?_|refine zv ?_|refine zr ?_|refine zs _ rfl ?_|exact Sy.fin_val (fun e=>rfl))));(all_goals (try conv => whnf)))
                        refine Sy.call_in Sy.lv76 Sy.tab_ok Try.func76 rfl _ Try.ntmps76 Try.call76 rfl (fun _ => ?_)
                        ((repeat' ((conv => whnf);(first|refine z1 ?_|refine z2 ?_|refine z3 ?_|refine z4 ?_|refine z5 ?_|refine z6 ?_|refine z7 ?_|refine z8 ?_|refine z9 ?_|refine za ?_|refine zb ?_|refine zc ?_|refine zd ?_|refine ze ?_|refine zf ?_|refine zg ?_|refine zh ?_|((first|refine zi ?_ ?_|refine zj ?_ ?_|refine zk ?_ ?_)<;> intro hh <;> first|(exfalso;omega)|skip)|(refine zl ?_ ?_<;> intro hh)|refine zm ?_|refine zn ?_|refine zo ?_|refine zp ?_|refine zq ?_|refine zv ?_|refine zr ?_|refine zs _ rfl ?_|exact Sy.fin_val (fun e=>rfl))));(all_goals (try conv => whnf)))
                        refine Sy.draw_go [] (by kernel_rfl) ?_
                        intro e0
                        conv => whnf
                        refine zt 0 rfl ?_
                        conv => whnf
                        refine zt 1 rfl ?_
                        conv => whnf
                        refine zt 3 rfl ?_
                        conv => whnf
                        refine zd1 [2] (zx rfl ?_ zy)
                        conv => whnf
                        refine Sy.call_in Sy.lv54 Sy.tab_ok Try.func54 rfl _ Try.ntmps54 Try.call54 rfl (fun _ => ?_)
                        ((repeat' ((conv => whnf);(first|refine z1 ?_|refine z2 ?_|refine z3 ?_|refine z4 ?_|refine z5 ?_|refine z6 ?_|refine z7 ?_|refine z8 ?_|refine z9 ?_|refine za ?_|refine zb ?_|refine zc ?_|refine zd ?_|refine ze ?_|refine zf ?_|refine zg ?_|refine zh ?_|((first|refine zi ?_ ?_|refine zj ?_ ?_|refine zk ?_ ?_)<;> intro hh <;> first|(exfalso;omega)|skip)|(refine zl ?_ ?_<;> intro hh)|refine zm ?_|refine zn ?_|refine zo ?_|refine zp ?_|refine zq ?_|refine zv ?_|refine zr ?_|refine zs _ rfl ?_|exact Sy.fin_val (fun e=>rfl))));(all_goals (try conv => whnf)))
                        refine ⟨(by repeat' ((conv => whnf);first|exact trivial|(refine And.intro ?_ ?_)|rfl)), ?_⟩
                        refine zt 4 rfl ?_
                        (conv => whnf);(repeat' ((first|refine z1 ?_|refine z2 ?_|refine z3 ?_|refine z4 ?_|refine z5 ?_|refine z6 ?_|refine z7 ?_|refine z8 ?_|refine z9 ?_|refine za ?_|refine zb ?_|refine zc ?_|refine zd ?_|refine ze ?_|refine zf ?_|refine zg ?_|refine zh ?_|((first|refine zi ?_ ?_|refine zj ?_ ?_|refine zk ?_ ?_)<;> intro hh <;> first|(exfalso;omega)|skip)|(refine zl ?_ ?_<;> intro hh)|refine zm ?_|refine zn ?_|refine zo ?_|refine zp ?_|refine zq ?_|refine zv ?_|refine zr ?_|refine zs _ rfl ?_|refine zu ?_|exact Sy.fin_val (fun e=>rfl));(try conv => whnf)))
                        refine zt 5 rfl ?_
                        conv => whnf
                        refine zw ?_
                        skip
                        ((repeat' ((conv => whnf);(first|refine z1 ?_|refine z2 ?_|refine z3 ?_|refine z4 ?_|refine z5 ?_|refine z6 ?_|refine z7 ?_|refine z8 ?_|refine z9 ?_|refine za ?_|refine zb ?_|refine zc ?_|refine zd ?_|refine ze ?_|refine zf ?_|refine zg ?_|refine zh ?_|((first|refine zi ?_ ?_|refine zj ?_ ?_|refine zk ?_ ?_)<;> intro hh <;> first|(exfalso;omega)|skip)|(refine zl ?_ ?_<;> intro hh)|refine zm ?_|refine zn ?_|refine zo ?_|refine zp ?_|refine zq ?_|refine zv ?_|refine zr ?_|refine zs _ rfl ?_|exact Sy.fin_val (fun e=>rfl))));(all_goals (try conv => whnf)))
                        refine ⟨j + 1, by omega, by omega, ?_⟩
                        rw [hps, ← el2]
                        ((repeat' (first|((conv => whnf);done)|((try conv => whnf);first|exact trivial|(refine And.intro ?_ ?_)|rfl|exact fun _ _ _ h=>h|exact fun _ _ _ _=>trivial)));(all_goals (try conv => whnf)))
                    · rw [decide_eq_false he] at hlr ⊢
                      rw [hlr, if_neg (by simp), List.append_nil] at hcj
                      ((repeat' ((conv => whnf);(first|refine z1 ?_|refine z2 ?_|refine z3 ?_|refine z4 ?_|refine z5 ?_|refine z6 ?_|refine z7 ?_|refine z8 ?_|refine z9 ?_|refine za ?_|refine zb ?_|refine zc ?_|refine zd ?_|refine ze ?_|refine zf ?_|refine zg ?_|refine zh ?_|((first|refine zi ?_ ?_|refine zj ?_ ?_|refine zk ?_ ?_)<;> intro hh <;> first|(exfalso;omega)|skip)|(refine zl ?_ ?_<;> intro hh)|refine zm ?_|refine zn ?_|refine zo ?_|refine zp ?_|refine zq ?_|refine zv ?_|refine zr ?_|refine zs _ rfl ?_|exact Sy.fin_val (fun e=>rfl))));(all_goals (try conv => whnf)))
                      refine ⟨j + 1, by omega, by omega, ?_⟩
                      rw [hcj]
                      ((repeat' (first|((conv => whnf);done)|((try conv => whnf);first|exact trivial|(refine And.intro ?_ ?_)|rfl|exact fun _ _ _ h=>h|exact fun _ _ _ _=>trivial)));(all_goals (try conv => whnf)))
                · have e : j = L.length := by omega
                  subst e
                  refine ⟨i + 1, by omega, by omega, ?_⟩
                  rw [chN_i]
                  ((repeat' (first|((conv => whnf);done)|((try conv => whnf);first|exact trivial|(refine And.intro ?_ ?_)|rfl|exact fun _ _ _ h=>h|exact fun _ _ _ _=>trivial)));(all_goals (try conv => whnf)))
            · have e : i = L.length := by omega
              subst e
              exact Sy.fin_r1 (.row 14) rfl (fun e => rfl)
    · have hv : inL (opsOf gl) n = [] := if_neg (by rw [hE]; exact hs)
      rw [hE, hv]
      ((repeat' ((conv => whnf);(first|refine z1 ?_|refine z2 ?_|refine z3 ?_|refine z4 ?_|refine z5 ?_|refine z6 ?_|refine z7 ?_|refine z8 ?_|refine z9 ?_|refine za ?_|refine zb ?_|refine zc ?_|refine zd ?_|refine ze ?_|refine zf ?_|refine zg ?_|refine zh ?_|((first|refine zi ?_ ?_|refine zj ?_ ?_|refine zk ?_ ?_)<;> intro hh <;> first|(exfalso;omega)|skip)|(refine zl ?_ ?_<;> intro hh)|refine zm ?_|refine zn ?_|refine zo ?_|refine zp ?_|refine zq ?_|refine zv ?_|refine zr ?_|refine zs _ rfl ?_|refine zu ?_|exact Sy.fin_val (fun e=>rfl))));(all_goals (try conv => whnf)))
      exact Sy.fin_r1 (.v (.slice none 0 0)) ⟨rfl, rfl⟩
  · have hE : endE (opsOf gl) n = (checkV (opsOf gl)).2 := if_neg h0
    have hv : inL (opsOf gl) n = [] := if_neg (by rw [hE]; exact h0)
    rw [hE, hv]
    ((repeat' ((conv => whnf);(first|refine z1 ?_|refine z2 ?_|refine z3 ?_|refine z4 ?_|refine z5 ?_|refine z6 ?_|refine z7 ?_|refine z8 ?_|refine z9 ?_|refine za ?_|refine zb ?_|refine zc ?_|refine zd ?_|refine ze ?_|refine zf ?_|refine zg ?_|refine zh ?_|((first|refine zi ?_ ?_|refine zj ?_ ?_|refine zk ?_ ?_)<;> intro hh <;> first|(exfalso;omega)|skip)|(refine zl ?_ ?_<;> intro hh)|refine zm ?_|refine zn ?_|refine zo ?_|refine zp ?_|refine zq ?_|refine zv ?_|refine zr ?_|refine zs _ rfl ?_|refine zu ?_|exact Sy.fin_val (fun e=>rfl))));(all_goals (try conv => whnf)))
    exact Sy.fin_r1 (.v (.slice none 0 0)) ⟨rfl, rfl⟩
end Go.Proofs.Ytcjiaiojkciheaa
