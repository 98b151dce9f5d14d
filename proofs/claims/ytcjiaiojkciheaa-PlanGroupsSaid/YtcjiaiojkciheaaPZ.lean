/- Plan: the law Groups. -/
import Derived.Test.YtcjiaiojkciheaaPR
import Derived.Test.YtcjiaiojkciheaaPX
import Derived.Test.YtcjiaiojkciheaaMapI
import Derived.Test.YtcjiaiojkciheaaPH
import Derived.Test.YtcjiaiojkciheaaPM
import Derived.Test.YtcjiaiojkciheaaPO
namespace Go.Proofs.Ytcjiaiojkciheaa
open Go Go.RowKit
open Sy (C SV V1 Blk St XD Els)
set_option maxRecDepth 10000

def cntL (l : List Int) : List (Int × Int) := l.map fun z => (z, (1 : Int))
theorem cntL_fst (l : List Int) : (cntL l).map Prod.fst = l := by unfold cntL; rw [List.map_map]; exact List.map_id'' (fun _ => rfl) _
theorem cntL_app (l : List Int) (x : Int) : cntL (l ++ [x]) = cntL l ++ [(x, 1)] := by unfold cntL; rw [List.map_append]; rfl
theorem cntL_miss {l : List Int} {x : Int} (h : x ∉ l) : ∀ z ∈ cntL l, z.1 ≠ x := fun z hz => by
  obtain ⟨y, hy, rfl⟩ := List.mem_map.1 hz
  rintro rfl
  exact h hy
theorem cntL_hit {l : List Int} {x : Int} (h : x ∈ l) : (x, (1 : Int)) ∈ cntL l := List.mem_map.2 ⟨x, h, rfl⟩
theorem com_nodup (g : List Opr) (a b : Nat × Nat) (m : Nat) : (comN g a b m).Nodup := by
  unfold comN
  exact List.Pairwise.map _ (R := fun a b : Nat => a ≠ b) (fun a b h => by omega) (List.Pairwise.filter _ List.nodup_range)
theorem com_mem {g : List Opr} {a b : Nat × Nat} {gr : Nat} (h : gr < 8) : (gr : Int) ∈ comN g a b 8 ↔ (ownB (widN g a.1) a.2 gr && ownB (widN g b.1) b.2 gr) = true := by
  unfold comN
  rw [List.mem_map]
  constructor
  · rintro ⟨k, hk, he⟩
    rw [show gr = k by omega]
    exact (List.mem_filter.1 hk).2
  · exact fun hh => ⟨gr, List.mem_filter.2 ⟨List.mem_range.2 h, hh⟩, rfl⟩
/-- What is counted after m channels. -/
def baseL (g : List Opr) (own : Bool) (n gr m : Nat) : List Int := if own = true then selL g n gr m else []
/-- What is counted after some groups of a channel. -/
def halfL (l : List Int) (x gr : Int) (t : List Int) : List (Int × Int) := cntL l ++ (if gr ∈ t then [(x, (1 : Int))] else [])
theorem selL_zero (g : List Opr) (n gr : Nat) : selL g n gr 0 = [] := by unfold selL; rw [List.take_zero]; rfl
theorem baseL_zero (g : List Opr) (own : Bool) (n gr : Nat) : baseL g own n gr 0 = [] := by
  unfold baseL
  rw [selL_zero]
  split <;> rfl
theorem halfL_nil (l : List Int) (x gr : Int) : halfL l x gr [] = cntL l := by
  unfold halfL
  rw [if_neg (by simp), List.append_nil]
theorem halfL_no {l t : List Int} {x gr : Int} (h : gr ∉ t) : halfL l x gr t = cntL l := by
  unfold halfL
  rw [if_neg h, List.append_nil]
theorem halfL_yes {l t : List Int} {x gr : Int} (h : gr ∈ t) : halfL l x gr t = cntL l ++ [(x, 1)] := by
  unfold halfL
  rw [if_pos h]
theorem halfL_ne {l t : List Int} {x gr y : Int} (h : y ≠ gr) : halfL l x gr (t ++ [y]) = halfL l x gr t := by
  unfold halfL
  have : gr ∈ t ++ [y] ↔ gr ∈ t := by
    rw [List.mem_append, List.mem_singleton]
    exact ⟨fun h2 => h2.elim id fun h3 => absurd h3.symm h, .inl⟩
  by_cases hg : gr ∈ t
  · rw [if_pos (this.2 hg), if_pos hg]
  · rw [if_neg (fun h2 => hg (this.1 h2)), if_neg hg]
theorem baseL_true (g : List Opr) (n gr m : Nat) : baseL g true n gr m = selL g n gr m := if_pos rfl
theorem baseL_false (g : List Opr) (n gr m : Nat) : baseL g false n gr m = [] := if_neg (by decide)
attribute [local irreducible] checkV subN chN pick overB chansV psubsV hasE hasB endE inL grE grL comN mpI cntL selL opFrom ownF baseL halfL ownB widN
set_option maxHeartbeats 4000000 in
theorem lgroups_any (v : Value) (gl : List OpV) (key : Int) (w : World) (hr : GOk (fun b => b < w.heap.size) w v gl) :
    Calls Try.prog 8 #[.agg #[v], .int .i64 key] w (Sy.Ret (.bool true) w) := by
  have hol := opsOf_len gl
  have hl := ok_len hr.1
  refine Sy.calls_of Sy.lv8 Sy.tab_ok Try.func8 rfl _ Try.ntmps8 [⟨v, 5, gl.length, gl.map encOV⟩] [.agg [.row 0], .c (.v (.int .i64 key))] rfl rfl rfl ⟨hr.1, trivial⟩ ?_
  ((repeat' ((conv => whnf);(first|refine z1 ?_|refine z2 ?_|refine z3 ?_|refine z4 ?_|refine z5 ?_|refine z6 ?_|refine z7 ?_|refine z8 ?_|refine z9 ?_|refine za ?_|refine zb ?_|refine zc ?_|refine zd ?_|refine ze ?_|refine zf ?_|refine zg ?_|refine zh ?_|((first|refine zi ?_ ?_|refine zj ?_ ?_|refine zk ?_ ?_)<;> intro hh <;> first|(exfalso;omega)|skip)|(refine zl ?_ ?_<;> intro hh)|refine zm ?_|refine zn ?_|refine zo ?_|refine zp ?_|refine zq ?_|refine zv ?_|refine zr ?_|refine zs _ rfl ?_|exact Sy.fin_val (fun e=>rfl))));(all_goals (try conv => whnf)))
  refine Sy.call_val (.c (.v (.bool true))) Try.call9 rfl (fun e a w' h => wakes_any w') ?_
  ((repeat' ((conv => whnf);(first|refine z1 ?_|refine z2 ?_|refine z3 ?_|refine z4 ?_|refine z5 ?_|refine z6 ?_|refine z7 ?_|refine z8 ?_|refine z9 ?_|refine za ?_|refine zb ?_|refine zc ?_|refine zd ?_|refine ze ?_|refine zf ?_|refine zg ?_|refine zh ?_|((first|refine zi ?_ ?_|refine zj ?_ ?_|refine zk ?_ ?_)<;> intro hh <;> first|(exfalso;omega)|skip)|(refine zl ?_ ?_<;> intro hh)|refine zm ?_|refine zn ?_|refine zo ?_|refine zp ?_|refine zq ?_|refine zv ?_|refine zr ?_|refine zs _ rfl ?_|exact Sy.fin_val (fun e=>rfl))));(all_goals (try conv => whnf)))
  refine Sy.call_val (.c (.v (.bool (overB (opsOf gl))))) Try.call10 rfl (fun e a w' h => over_any (e.rv 0) gl w' ⟨Sy.row_reads h (.inr rfl), fun o ho => Sy.later_in h (hr.2 o ho)⟩) ?_
  cases h50 : overB (opsOf gl)
  · ((repeat' ((conv => whnf);(first|refine z1 ?_|refine z2 ?_|refine z3 ?_|refine z4 ?_|refine z5 ?_|refine z6 ?_|refine z7 ?_|refine z8 ?_|refine z9 ?_|refine za ?_|refine zb ?_|refine zc ?_|refine zd ?_|refine ze ?_|refine zf ?_|refine zg ?_|refine zh ?_|((first|refine zi ?_ ?_|refine zj ?_ ?_|refine zk ?_ ?_)<;> intro hh <;> first|(exfalso;omega)|skip)|(refine zl ?_ ?_<;> intro hh)|refine zm ?_|refine zn ?_|refine zo ?_|refine zp ?_|refine zq ?_|refine zv ?_|refine zr ?_|refine zs _ rfl ?_|exact Sy.fin_val (fun e=>rfl))));(all_goals (try conv => whnf)))
    have hmx : 0 ≤ Sy.maxI key 0 := by unfold Sy.maxI; split <;> omega
    refine Sy.rem_in (by omega) (by omega) ?_
    obtain ⟨K, hK⟩ : ∃ K : Nat, Sy.maxI key 0 % 32 = (K : Int) := ⟨(Sy.maxI key 0 % 32).toNat, by omega⟩
    rw [hK]
    have hk : recOk 0 (K : Int) := ⟨by omega, by omega, by omega, by omega⟩
    obtain ⟨gr, hgrE⟩ : ∃ gr, gr = K % 8 := ⟨_, rfl⟩
    have hgr : gr < 8 := by omega
    have hgi : (K : Int) % 8 = (gr : Int) := by omega
    ((repeat' ((conv => whnf);(first|refine z1 ?_|refine z2 ?_|refine z3 ?_|refine z4 ?_|refine z5 ?_|refine z6 ?_|refine z7 ?_|refine z8 ?_|refine z9 ?_|refine za ?_|refine zb ?_|refine zc ?_|refine zd ?_|refine ze ?_|refine zf ?_|refine zg ?_|refine zh ?_|((first|refine zi ?_ ?_|refine zj ?_ ?_|refine zk ?_ ?_)<;> intro hh <;> first|(exfalso;omega)|skip)|(refine zl ?_ ?_<;> intro hh)|refine zm ?_|refine zn ?_|refine zo ?_|refine zp ?_|refine zq ?_|refine zv ?_|refine zr ?_|refine zs _ rfl ?_|exact Sy.fin_val (fun e=>rfl))));(all_goals (try conv => whnf)))
    refine Sy.call_r1 ⟨43, 2, (psubsV (opsOf gl)).length, (psubsV (opsOf gl)).map encS⟩ (fun j => .tup [.c (.row j), .c (.v (.int .i64 (checkV (opsOf gl)).2))]) Try.call22 (fun e a w' h => psubs_any (e.rv 0) gl w' ⟨Sy.row_reads h (.inr rfl), fun o ho => Sy.later_in h (hr.2 o ho)⟩) ?_
    ((repeat' ((conv => whnf);(first|refine z1 ?_|refine z2 ?_|refine z3 ?_|refine z4 ?_|refine z5 ?_|refine z6 ?_|refine z7 ?_|refine z8 ?_|refine z9 ?_|refine za ?_|refine zb ?_|refine zc ?_|refine zd ?_|refine ze ?_|refine zf ?_|refine zg ?_|refine zh ?_|((first|refine zi ?_ ?_|refine zj ?_ ?_|refine zk ?_ ?_)<;> intro hh <;> first|(exfalso;omega)|skip)|(refine zl ?_ ?_<;> intro hh)|refine zm ?_|refine zn ?_|refine zo ?_|refine zp ?_|refine zq ?_|refine zv ?_|refine zr ?_|refine zs _ rfl ?_|exact Sy.fin_val (fun e=>rfl))));(all_goals (try conv => whnf)))
    refine Sy.call_r1 ⟨58, 2, (chansV (opsOf gl)).length, (chansV (opsOf gl)).map encS⟩ (fun j => .tup [.c (.row j), .c (.v (.int .i64 (checkV (opsOf gl)).2))]) Try.call21 (fun e a w' h => pchans_any (e.rv 0) gl w' ⟨Sy.row_reads h (.inr rfl), fun o ho => Sy.later_in h (hr.2 o ho)⟩) ?_
    by_cases h0 : (checkV (opsOf gl)).2 = 0
    · have h8 := check_ok h0
      have hg := check_good h0
      have hg' := hg
      rw [hol] at h8 hg
      have hsV : psubsV (opsOf gl) = subsL (opsOf gl) := by unfold psubsV; rw [if_pos h0]
      have hcV : chansV (opsOf gl) = chansL (opsOf gl) := by unfold chansV; rw [if_pos h0]
      have hLl := subsL_len hg'
      have hCl := chans_len (gl := gl) (by omega) hg
      rw [hsV, hcV, h0]
      have hHas : ∀ (n : Nat) (a : Nat × Nat), (subsL (opsOf gl))[n]? = some a → hasE (opsOf gl) n 0 K = 0 ∧ hasB (opsOf gl) n 0 K = ownB (widN (opsOf gl) a.1) a.2 gr := fun n a ha => by rw [hgrE]; have := has_at h0 ha hk; rw [Int.toNat_natCast] at this; exact this
      have hEnd : ∀ n : Nat, n < (subsL (opsOf gl)).length → endE (opsOf gl) n = 0 ∧ inL (opsOf gl) n = pick (fun c => decide ((c.2 : Int) = n)) (chansL (opsOf gl)) := fun n hn => by
        have heE : endE (opsOf gl) n = 0 := by unfold endE; rw [if_pos h0]; unfold subE; rw [if_neg (by omega)]
        exact ⟨heE, by unfold inL; rw [if_pos heE]; rfl⟩
      have hGr : ∀ (i : Nat) (d a b : Nat × Nat), (chansL (opsOf gl))[i]? = some d → (subsL (opsOf gl))[d.1]? = some a → (subsL (opsOf gl))[d.2]? = some b → grE (opsOf gl) i = 0 ∧ grL (opsOf gl) i = comN (opsOf gl) a b 8 := fun i d a b hd ha hb => by
        have hlt := (List.getElem?_eq_some_iff.1 hd).1
        have h1 : grE (opsOf gl) i = 0 := by unfold grE; rw [if_pos h0, if_neg (by omega)]
        refine ⟨h1, ?_⟩
        unfold grL
        rw [if_pos h1]
        unfold chanGr
        rw [Int.toNat_natCast, hd]
        dsimp only
        rw [ha, hb]
      have z0 : mpI (cntL []) = [] := by unfold mpI cntL; rfl
      ((repeat' ((conv => whnf);(first|refine z1 ?_|refine z2 ?_|refine z3 ?_|refine z4 ?_|refine z5 ?_|refine z6 ?_|refine z7 ?_|refine z8 ?_|refine z9 ?_|refine za ?_|refine zb ?_|refine zc ?_|refine zd ?_|refine ze ?_|refine zf ?_|refine zg ?_|refine zh ?_|((first|refine zi ?_ ?_|refine zj ?_ ?_|refine zk ?_ ?_)<;> intro hh <;> first|(exfalso;omega)|skip)|(refine zl ?_ ?_<;> intro hh)|refine zm ?_|refine zn ?_|refine zo ?_|refine zp ?_|refine zq ?_|refine zv ?_|refine zr ?_|refine zs _ rfl ?_|exact Sy.fin_val (fun e=>rfl))));(all_goals (try conv => whnf)))
      refine Sy.loop_inv Sy.tab_ok (fun n : Nat => [(53, .c (.v (.int .i64 n)))]) (fun _ => []) (fun n => n ≤ (subsL (opsOf gl)).length) (fun n => (subsL (opsOf gl)).length - n) 0 (Nat.zero_le _) ?_ (fun n hn => ?_)
      · ((repeat' (first|((conv => whnf);done)|((try conv => whnf);first|exact trivial|(refine And.intro ?_ ?_)|rfl|exact fun _ _ _ h=>h|exact fun _ _ _ _=>trivial)));(all_goals (try conv => whnf)))
      · ((repeat' ((conv => whnf);(first|refine z1 ?_|refine z2 ?_|refine z3 ?_|refine z4 ?_|refine z5 ?_|refine z6 ?_|refine z7 ?_|refine z8 ?_|refine z9 ?_|refine za ?_|refine zb ?_|refine zc ?_|refine zd ?_|refine ze ?_|refine zf ?_|refine zg ?_|refine zh ?_|((first|refine zi ?_ ?_|refine zj ?_ ?_|refine zk ?_ ?_)<;> intro hh <;> first|(exfalso;omega)|skip)|(refine zl ?_ ?_<;> intro hh)|refine zm ?_|refine zn ?_|refine zo ?_|refine zp ?_|refine zq ?_|refine zv ?_|refine zr ?_|refine zs _ rfl ?_|exact Sy.fin_val (fun e=>rfl))));(all_goals (try conv => whnf)))
        · have hlt : n < (subsL (opsOf gl)).length := by omega
          have hgn := List.getElem?_eq_getElem hlt
          generalize (subsL (opsOf gl))[n] = b at *
          obtain ⟨hE, hB⟩ := hHas n b hgn
          obtain ⟨heE, hiV⟩ := hEnd n hlt
          have hsm := small_at hg' hgn
          have hbl : b.1 < gl.length := by omega
          have hgo := List.getElem?_eq_getElem hbl
          generalize gl[b.1] = o at *
          have hoo := hr.at hgo
          have hil := ok_len hoo
          obtain ⟨own, hown⟩ : ∃ own, own = ownB (widN (opsOf gl) b.1) b.2 gr := ⟨_, rfl⟩
          rw [← hown] at hB
          have hAc := fun c hc => in_at (c := c) (gr := gr) hgn hc
          have hAl := pick_len (fun c => decide ((c.2 : Int) = n)) (chansL (opsOf gl))
          have hsel := fun m c h => selL_succ (g := opsOf gl) (n := n) (gr := gr) (m := m) (c := c) h
          have hsnd := selL_nodup (n := n) hg' hgr hgn
          have hsmm := fun z (ho : ownB (widN (opsOf gl) b.1) b.2 gr = true) hz => selL_mem (z := z) hg' hgr hgn ho (opsOf_get hgo) hz
          refine Sy.el_map b hgn ?_
          ((repeat' ((conv => whnf);(first|refine z1 ?_|refine z2 ?_|refine z3 ?_|refine z4 ?_|refine z5 ?_|refine z6 ?_|refine z7 ?_|refine z8 ?_|refine z9 ?_|refine za ?_|refine zb ?_|refine zc ?_|refine zd ?_|refine ze ?_|refine zf ?_|refine zg ?_|refine zh ?_|((first|refine zi ?_ ?_|refine zj ?_ ?_|refine zk ?_ ?_)<;> intro hh <;> first|(exfalso;omega)|skip)|(refine zl ?_ ?_<;> intro hh)|refine zm ?_|refine zn ?_|refine zo ?_|refine zp ?_|refine zq ?_|refine zv ?_|refine zr ?_|refine zs _ rfl ?_|exact Sy.fin_val (fun e=>rfl))));(all_goals (try conv => whnf)))
          refine Sy.call_val (.tup [.c (.v (.bool own)), .c (.v (.int .i64 0))]) Try.call12 rfl (fun e a w' h => by have := phas_any (e.rv 0) gl n 0 K 0 w' ⟨Sy.row_reads h (.inr rfl), fun o ho => Sy.later_in h (hr.2 o ho)⟩; rw [hE, hB] at this; exact this) ?_
          ((repeat' ((conv => whnf);(first|refine z1 ?_|refine z2 ?_|refine z3 ?_|refine z4 ?_|refine z5 ?_|refine z6 ?_|refine z7 ?_|refine z8 ?_|refine z9 ?_|refine za ?_|refine zb ?_|refine zc ?_|refine zd ?_|refine ze ?_|refine zf ?_|refine zg ?_|refine zh ?_|((first|refine zi ?_ ?_|refine zj ?_ ?_|refine zk ?_ ?_)<;> intro hh <;> first|(exfalso;omega)|skip)|(refine zl ?_ ?_<;> intro hh)|refine zm ?_|refine zn ?_|refine zo ?_|refine zp ?_|refine zq ?_|refine zv ?_|refine zr ?_|refine zs _ rfl ?_|exact Sy.fin_val (fun e=>rfl))));(all_goals (try conv => whnf)))
          refine Sy.call_r1 ⟨3, 1, (pick (fun c => decide ((c.2 : Int) = n)) (chansL (opsOf gl))).length, (pick (fun c => decide ((c.2 : Int) = n)) (chansL (opsOf gl))).map encI⟩ (fun j => .tup [.c (.row j), .c (.v (.int .i64 0))]) Try.call23 (fun e a w' h => by have := in_any (e.rv 0) gl n w' ⟨Sy.row_reads h (.inr rfl), fun o ho => Sy.later_in h (hr.2 o ho)⟩; rw [heE, hiV] at this; exact this) ?_
          generalize pick (fun c => decide ((c.2 : Int) = n)) (chansL (opsOf gl)) = A at *
          ((repeat' ((conv => whnf);(first|refine z1 ?_|refine z2 ?_|refine z3 ?_|refine z4 ?_|refine z5 ?_|refine z6 ?_|refine z7 ?_|refine z8 ?_|refine z9 ?_|refine za ?_|refine zb ?_|refine zc ?_|refine zd ?_|refine ze ?_|refine zf ?_|refine zg ?_|refine zh ?_|((first|refine zi ?_ ?_|refine zj ?_ ?_|refine zk ?_ ?_)<;> intro hh <;> first|(exfalso;omega)|skip)|(refine zl ?_ ?_<;> intro hh)|refine zm ?_|refine zn ?_|refine zo ?_|refine zp ?_|refine zq ?_|refine zv ?_|refine zr ?_|refine zs _ rfl ?_|exact Sy.fin_val (fun e=>rfl))));(all_goals (try conv => whnf)))
          refine Sy.loop_inv Sy.tab_ok (fun p : Nat => [(81, .c (.v (.int .i64 p)))]) (fun p => [(6, .mp (mpI (cntL (baseL (opsOf gl) own n gr p))))]) (fun p => p ≤ A.length) (fun p => A.length - p) 0 (Nat.zero_le _) ?_ (fun p hp => ?_)
          · rw [baseL_zero, z0]
            ((repeat' (first|((conv => whnf);done)|((try conv => whnf);first|exact trivial|(refine And.intro ?_ ?_)|rfl|exact fun _ _ _ h=>h|exact fun _ _ _ _=>trivial)));(all_goals (try conv => whnf)))
          · ((repeat' ((conv => whnf);(first|refine z1 ?_|refine z2 ?_|refine z3 ?_|refine z4 ?_|refine z5 ?_|refine z6 ?_|refine z7 ?_|refine z8 ?_|refine z9 ?_|refine za ?_|refine zb ?_|refine zc ?_|refine zd ?_|refine ze ?_|refine zf ?_|refine zg ?_|refine zh ?_|((first|refine zi ?_ ?_|refine zj ?_ ?_|refine zk ?_ ?_)<;> intro hh <;> first|(exfalso;omega)|skip)|(refine zl ?_ ?_<;> intro hh)|refine zm ?_|refine zn ?_|refine zo ?_|refine zp ?_|refine zq ?_|refine zv ?_|refine zr ?_|refine zs _ rfl ?_|exact Sy.fin_val (fun e=>rfl))));(all_goals (try conv => whnf)))
            · have hlp : p < A.length := by omega
              have hgp := List.getElem?_eq_getElem hlp
              generalize A[p] = c at *
              obtain ⟨i, d, a, rfl, hd, hdn, ha, hlk, hof, hop⟩ := hAc c (List.mem_of_getElem? hgp)
              have hil2 := (List.getElem?_eq_some_iff.1 hd).1
              have hal := (List.getElem?_eq_some_iff.1 ha).1
              have hsa := small_at hg' ha
              obtain ⟨hgE, hgL⟩ := hGr i d a b hd ha (by rw [hdn]; exact hgn)
              have hsel1 := hsel p _ hgp
              have hnd1 := hsnd (p + 1)
              have hcm := com_mem (g := opsOf gl) (a := a) (b := b) hgr
              rw [← hown] at hcm
              have hcn := com_nodup (opsOf gl) a b 8
              have hc0 : ¬ (comN (opsOf gl) a b 8).length = 0 := fun h => by
                have h1 := (com_nil (g := opsOf gl) (a := a) (b := b) (by omega) (by omega)).2 h
                unfold linkB at hlk
                rw [h1] at hlk
                cases hlk
              have hcl := comN_len (opsOf gl) a b 8
              have hend : halfL (baseL (opsOf gl) own n gr p) a.1 gr (comN (opsOf gl) a b 8) = cntL (baseL (opsOf gl) own n gr (p + 1)) := by
                cases own with
                | false => rw [baseL_false, baseL_false, halfL_no (fun h => by have := hcm.1 h; simp at this)]
                | true =>
                  rw [baseL_true, baseL_true, hsel1]
                  cases hao : ownB (widN (opsOf gl) a.1) a.2 gr with
                  | false =>
                    rw [hof, hao, if_neg (by decide), List.append_nil, halfL_no (fun h => by have := hcm.1 h; rw [hao] at this; simp at this)]
                  | true =>
                    rw [hof, hao, if_pos rfl, hop, cntL_app, halfL_yes (hcm.2 (by rw [hao]; rfl))]
              have hnew : (gr : Int) ∈ comN (opsOf gl) a b 8 → (a.1 : Int) ∉ baseL (opsOf gl) own n gr p := fun h => by
                have h1 := hcm.1 h
                cases own with
                | false => simp at h1
                | true =>
                  rw [Bool.and_true] at h1
                  rw [hof, h1, if_pos rfl, hop] at hsel1
                  rw [hsel1] at hnd1
                  rw [baseL_true]
                  exact fun hm => (List.nodup_append.1 hnd1).2.2 _ hm _ (List.mem_singleton.2 rfl) rfl
              generalize comN (opsOf gl) a b 8 = Gs at *
              refine Sy.el_map (i : Int) hgp ?_
              ((repeat' ((conv => whnf);(first|refine z1 ?_|refine z2 ?_|refine z3 ?_|refine z4 ?_|refine z5 ?_|refine z6 ?_|refine z7 ?_|refine z8 ?_|refine z9 ?_|refine za ?_|refine zb ?_|refine zc ?_|refine zd ?_|refine ze ?_|refine zf ?_|refine zg ?_|refine zh ?_|((first|refine zi ?_ ?_|refine zj ?_ ?_|refine zk ?_ ?_)<;> intro hh <;> first|(exfalso;omega)|skip)|(refine zl ?_ ?_<;> intro hh)|refine zm ?_|refine zn ?_|refine zo ?_|refine zp ?_|refine zq ?_|refine zv ?_|refine zr ?_|refine zs _ rfl ?_|exact Sy.fin_val (fun e=>rfl))));(all_goals (try conv => whnf)))
              refine Sy.call_r1 ⟨3, 1, Gs.length, Gs.map encI⟩ (fun j => .tup [.c (.row j), .c (.v (.int .i64 0))]) Try.call30 (fun e x w' h => by have := pgroups_any (e.rv 0) gl i w' ⟨Sy.row_reads h (.inr rfl), fun o ho => Sy.later_in h (hr.2 o ho)⟩; rw [hgE, hgL] at this; exact this) ?_
              ((repeat' ((conv => whnf);(first|refine z1 ?_|refine z2 ?_|refine z3 ?_|refine z4 ?_|refine z5 ?_|refine z6 ?_|refine z7 ?_|refine z8 ?_|refine z9 ?_|refine za ?_|refine zb ?_|refine zc ?_|refine zd ?_|refine ze ?_|refine zf ?_|refine zg ?_|refine zh ?_|((first|refine zi ?_ ?_|refine zj ?_ ?_|refine zk ?_ ?_)<;> intro hh <;> first|(exfalso;omega)|skip)|(refine zl ?_ ?_<;> intro hh)|refine zm ?_|refine zn ?_|refine zo ?_|refine zp ?_|refine zq ?_|refine zv ?_|refine zr ?_|refine zs _ rfl ?_|exact Sy.fin_val (fun e=>rfl))));(all_goals (try conv => whnf)))
              refine Sy.loop_inv Sy.tab_ok (fun q : Nat => [(100, .c (.v (.int .i64 q)))]) (fun q => [(6, .mp (mpI (halfL (baseL (opsOf gl) own n gr p) a.1 gr (Gs.take q))))]) (fun q => q ≤ Gs.length) (fun q => Gs.length - q) 0 (Nat.zero_le _) ?_ (fun q hq => ?_)
              · rw [List.take_zero, halfL_nil]
                ((repeat' (first|((conv => whnf);done)|((try conv => whnf);first|exact trivial|(refine And.intro ?_ ?_)|rfl|exact fun _ _ _ h=>h|exact fun _ _ _ _=>trivial)));(all_goals (try conv => whnf)))
              · ((repeat' ((conv => whnf);(first|refine z1 ?_|refine z2 ?_|refine z3 ?_|refine z4 ?_|refine z5 ?_|refine z6 ?_|refine z7 ?_|refine z8 ?_|refine z9 ?_|refine za ?_|refine zb ?_|refine zc ?_|refine zd ?_|refine ze ?_|refine zf ?_|refine zg ?_|refine zh ?_|((first|refine zi ?_ ?_|refine zj ?_ ?_|refine zk ?_ ?_)<;> intro hh <;> first|(exfalso;omega)|skip)|(refine zl ?_ ?_<;> intro hh)|refine zm ?_|refine zn ?_|refine zo ?_|refine zp ?_|refine zq ?_|refine zv ?_|refine zr ?_|refine zs _ rfl ?_|exact Sy.fin_val (fun e=>rfl))));(all_goals (try conv => whnf)))
                · have hlq : q < Gs.length := by omega
                  have hgq := List.getElem?_eq_getElem hlq
                  generalize Gs[q] = y at *
                  have hsn := take_snoc hgq
                  refine Sy.el_map y hgq ?_
                  ((repeat' ((conv => whnf);(first|refine z1 ?_|refine z2 ?_|refine z3 ?_|refine z4 ?_|refine z5 ?_|refine z6 ?_|refine z7 ?_|refine z8 ?_|refine z9 ?_|refine za ?_|refine zb ?_|refine zc ?_|refine zd ?_|refine ze ?_|refine zf ?_|refine zg ?_|refine zh ?_|((first|refine zi ?_ ?_|refine zj ?_ ?_|refine zk ?_ ?_)<;> intro hh <;> first|(exfalso;omega)|skip)|(refine zl ?_ ?_<;> intro hh)|refine zm ?_|refine zn ?_|refine zo ?_|refine zp ?_|refine zq ?_|refine zv ?_|refine zr ?_|refine zs _ rfl ?_|exact Sy.fin_val (fun e=>rfl))));(all_goals (try conv => whnf)))
                  refine Sy.rem_in (by omega) (by omega) ?_
                  rw [hgi]
                  by_cases hy : y = (gr : Int)
                  · have hfr := take_fresh hcn hgq
                    have hnb := hnew (by rw [← hy]; exact List.mem_of_getElem? hgq)
                    rw [hy] at hfr hsn
                    rw [halfL_no hfr]
                    ((repeat' ((conv => whnf);(first|refine z1 ?_|refine z2 ?_|refine z3 ?_|refine z4 ?_|refine z5 ?_|refine z6 ?_|refine z7 ?_|refine z8 ?_|refine z9 ?_|refine za ?_|refine zb ?_|refine zc ?_|refine zd ?_|refine ze ?_|refine zf ?_|refine zg ?_|refine zh ?_|((first|refine zi ?_ ?_|refine zj ?_ ?_|refine zk ?_ ?_)<;> intro hh <;> first|(exfalso;omega)|skip)|(refine zl ?_ ?_<;> intro hh)|refine zm ?_|refine zn ?_|refine zo ?_|refine zp ?_|refine zq ?_|refine zv ?_|refine zr ?_|refine zs _ rfl ?_|exact Sy.fin_val (fun e=>rfl))));(all_goals (try conv => whnf)))
                    refine Sy.el_map d hd ?_
                    ((repeat' ((conv => whnf);(first|refine z1 ?_|refine z2 ?_|refine z3 ?_|refine z4 ?_|refine z5 ?_|refine z6 ?_|refine z7 ?_|refine z8 ?_|refine z9 ?_|refine za ?_|refine zb ?_|refine zc ?_|refine zd ?_|refine ze ?_|refine zf ?_|refine zg ?_|refine zh ?_|((first|refine zi ?_ ?_|refine zj ?_ ?_|refine zk ?_ ?_)<;> intro hh <;> first|(exfalso;omega)|skip)|(refine zl ?_ ?_<;> intro hh)|refine zm ?_|refine zn ?_|refine zo ?_|refine zp ?_|refine zq ?_|refine zv ?_|refine zr ?_|refine zs _ rfl ?_|exact Sy.fin_val (fun e=>rfl))));(all_goals (try conv => whnf)))
                    refine Sy.el_map a ha ?_
                    ((repeat' ((conv => whnf);(first|refine z1 ?_|refine z2 ?_|refine z3 ?_|refine z4 ?_|refine z5 ?_|refine z6 ?_|refine z7 ?_|refine z8 ?_|refine z9 ?_|refine za ?_|refine zb ?_|refine zc ?_|refine zd ?_|refine ze ?_|refine zf ?_|refine zg ?_|refine zh ?_|((first|refine zi ?_ ?_|refine zj ?_ ?_|refine zk ?_ ?_)<;> intro hh <;> first|(exfalso;omega)|skip)|(refine zl ?_ ?_<;> intro hh)|refine zm ?_|refine zn ?_|refine zo ?_|refine zp ?_|refine zq ?_|refine zv ?_|refine zr ?_|refine zs _ rfl ?_|exact Sy.fin_val (fun e=>rfl))));(all_goals (try conv => whnf)))
                    refine miss_i _ (a.1 : Int) (cntL_miss hnb) ?_
                    ((repeat' ((conv => whnf);(first|refine z1 ?_|refine z2 ?_|refine z3 ?_|refine z4 ?_|refine z5 ?_|refine z6 ?_|refine z7 ?_|refine z8 ?_|refine z9 ?_|refine za ?_|refine zb ?_|refine zc ?_|refine zd ?_|refine ze ?_|refine zf ?_|refine zg ?_|refine zh ?_|((first|refine zi ?_ ?_|refine zj ?_ ?_|refine zk ?_ ?_)<;> intro hh <;> first|(exfalso;omega)|skip)|(refine zl ?_ ?_<;> intro hh)|refine zm ?_|refine zn ?_|refine zo ?_|refine zp ?_|refine zq ?_|refine zv ?_|refine zr ?_|refine zs _ rfl ?_|exact Sy.fin_val (fun e=>rfl))));(all_goals (try conv => whnf)))
                    refine miss_i _ (a.1 : Int) (cntL_miss hnb) ?_
                    ((repeat' ((conv => whnf);(first|refine z1 ?_|refine z2 ?_|refine z3 ?_|refine z4 ?_|refine z5 ?_|refine z6 ?_|refine z7 ?_|refine z8 ?_|refine z9 ?_|refine za ?_|refine zb ?_|refine zc ?_|refine zd ?_|refine ze ?_|refine zf ?_|refine zg ?_|refine zh ?_|((first|refine zi ?_ ?_|refine zj ?_ ?_|refine zk ?_ ?_)<;> intro hh <;> first|(exfalso;omega)|skip)|(refine zl ?_ ?_<;> intro hh)|refine zm ?_|refine zn ?_|refine zo ?_|refine zp ?_|refine zq ?_|refine zv ?_|refine zr ?_|refine zs _ rfl ?_|exact Sy.fin_val (fun e=>rfl))));(all_goals (try conv => whnf)))
                    refine ⟨q + 1, by omega, by omega, ?_⟩
                    rw [hsn, halfL_yes (t := Gs.take q ++ [(gr : Int)]) (by simp)]
                    ((repeat' (first|((conv => whnf);done)|((try conv => whnf);first|exact trivial|(refine And.intro ?_ ?_)|rfl|exact fun _ _ _ h=>h|exact fun _ _ _ _=>trivial)));(all_goals (try conv => whnf)))
                    all_goals exact mpI_add _ _ _
                  · ((repeat' ((conv => whnf);(first|refine z1 ?_|refine z2 ?_|refine z3 ?_|refine z4 ?_|refine z5 ?_|refine z6 ?_|refine z7 ?_|refine z8 ?_|refine z9 ?_|refine za ?_|refine zb ?_|refine zc ?_|refine zd ?_|refine ze ?_|refine zf ?_|refine zg ?_|refine zh ?_|((first|refine zi ?_ ?_|refine zj ?_ ?_|refine zk ?_ ?_)<;> intro hh <;> first|(exfalso;omega)|skip)|(refine zl ?_ ?_<;> intro hh)|refine zm ?_|refine zn ?_|refine zo ?_|refine zp ?_|refine zq ?_|refine zv ?_|refine zr ?_|refine zs _ rfl ?_|exact Sy.fin_val (fun e=>rfl))));(all_goals (try conv => whnf)))
                    refine ⟨q + 1, by omega, by omega, ?_⟩
                    rw [hsn, halfL_ne hy]
                    ((repeat' (first|((conv => whnf);done)|((try conv => whnf);first|exact trivial|(refine And.intro ?_ ?_)|rfl|exact fun _ _ _ h=>h|exact fun _ _ _ _=>trivial)));(all_goals (try conv => whnf)))
                · have eq : q = Gs.length := by omega
                  rw [eq, List.take_length, hend]
                  refine ⟨p + 1, by omega, by omega, ?_⟩
                  ((repeat' (first|((conv => whnf);done)|((try conv => whnf);first|exact trivial|(refine And.intro ?_ ?_)|rfl|exact fun _ _ _ h=>h|exact fun _ _ _ _=>trivial)));(all_goals (try conv => whnf)))
            · have ep : p = A.length := by omega
              refine Sy.el_map o hgo ?_
              ((repeat' ((conv => whnf);(first|refine z1 ?_|refine z2 ?_|refine z3 ?_|refine z4 ?_|refine z5 ?_|refine z6 ?_|refine z7 ?_|refine z8 ?_|refine z9 ?_|refine za ?_|refine zb ?_|refine zc ?_|refine zd ?_|refine ze ?_|refine zf ?_|refine zg ?_|refine zh ?_|((first|refine zi ?_ ?_|refine zj ?_ ?_|refine zk ?_ ?_)<;> intro hh <;> first|(exfalso;omega)|skip)|(refine zl ?_ ?_<;> intro hh)|refine zm ?_|refine zn ?_|refine zo ?_|refine zp ?_|refine zq ?_|refine zv ?_|refine zr ?_|refine zs _ rfl ?_|exact Sy.fin_val (fun e=>rfl))));(all_goals (try conv => whnf)))
              refine open_x _ _ _ (hoo) (fun _ h => h) ?_
              ((repeat' ((conv => whnf);(first|refine z1 ?_|refine z2 ?_|refine z3 ?_|refine z4 ?_|refine z5 ?_|refine z6 ?_|refine z7 ?_|refine z8 ?_|refine z9 ?_|refine za ?_|refine zb ?_|refine zc ?_|refine zd ?_|refine ze ?_|refine zf ?_|refine zg ?_|refine zh ?_|((first|refine zi ?_ ?_|refine zj ?_ ?_|refine zk ?_ ?_)<;> intro hh <;> first|(exfalso;omega)|skip)|(refine zl ?_ ?_<;> intro hh)|refine zm ?_|refine zn ?_|refine zo ?_|refine zp ?_|refine zq ?_|refine zv ?_|refine zr ?_|refine zs _ rfl ?_|exact Sy.fin_val (fun e=>rfl))));(all_goals (try conv => whnf)))
              have hins := alone_ins (hg b.1 o.op (by omega) (opsOf_get hgo))
              cases own with
              | false =>
                rw [baseL_false]
                refine Sy.loop_inv Sy.tab_ok (fun q : Nat => [(130, .c (.v (.int .i64 q)))]) (fun _ => []) (fun q => q ≤ o.op.ins.length) (fun q => o.op.ins.length - q) 0 (Nat.zero_le _) ?_ (fun q hq => ?_)
                · ((repeat' (first|((conv => whnf);done)|((try conv => whnf);first|exact trivial|(refine And.intro ?_ ?_)|rfl|exact fun _ _ _ h=>h|exact fun _ _ _ _=>trivial)));(all_goals (try conv => whnf)))
                · ((repeat' ((conv => whnf);(first|refine z1 ?_|refine z2 ?_|refine z3 ?_|refine z4 ?_|refine z5 ?_|refine z6 ?_|refine z7 ?_|refine z8 ?_|refine z9 ?_|refine za ?_|refine zb ?_|refine zc ?_|refine zd ?_|refine ze ?_|refine zf ?_|refine zg ?_|refine zh ?_|((first|refine zi ?_ ?_|refine zj ?_ ?_|refine zk ?_ ?_)<;> intro hh <;> first|(exfalso;omega)|skip)|(refine zl ?_ ?_<;> intro hh)|refine zm ?_|refine zn ?_|refine zo ?_|refine zp ?_|refine zq ?_|refine zv ?_|refine zr ?_|refine zs _ rfl ?_|exact Sy.fin_val (fun e=>rfl))));(all_goals (try conv => whnf)))
                  · have hlq : q < o.op.ins.length := by omega
                    have hgq := List.getElem?_eq_getElem hlq
                    generalize o.op.ins[q] = z at *
                    refine Sy.el_map z hgq ?_
                    ((repeat' ((conv => whnf);(first|refine z1 ?_|refine z2 ?_|refine z3 ?_|refine z4 ?_|refine z5 ?_|refine z6 ?_|refine z7 ?_|refine z8 ?_|refine z9 ?_|refine za ?_|refine zb ?_|refine zc ?_|refine zd ?_|refine ze ?_|refine zf ?_|refine zg ?_|refine zh ?_|((first|refine zi ?_ ?_|refine zj ?_ ?_|refine zk ?_ ?_)<;> intro hh <;> first|(exfalso;omega)|skip)|(refine zl ?_ ?_<;> intro hh)|refine zm ?_|refine zn ?_|refine zo ?_|refine zp ?_|refine zq ?_|refine zv ?_|refine zr ?_|refine zs _ rfl ?_|exact Sy.fin_val (fun e=>rfl))));(all_goals (try conv => whnf)))
                    refine miss_i _ z (cntL_miss (by simp)) ?_
                    ((repeat' ((conv => whnf);(first|refine z1 ?_|refine z2 ?_|refine z3 ?_|refine z4 ?_|refine z5 ?_|refine z6 ?_|refine z7 ?_|refine z8 ?_|refine z9 ?_|refine za ?_|refine zb ?_|refine zc ?_|refine zd ?_|refine ze ?_|refine zf ?_|refine zg ?_|refine zh ?_|((first|refine zi ?_ ?_|refine zj ?_ ?_|refine zk ?_ ?_)<;> intro hh <;> first|(exfalso;omega)|skip)|(refine zl ?_ ?_<;> intro hh)|refine zm ?_|refine zn ?_|refine zo ?_|refine zp ?_|refine zq ?_|refine zv ?_|refine zr ?_|refine zs _ rfl ?_|exact Sy.fin_val (fun e=>rfl))));(all_goals (try conv => whnf)))
                    refine ⟨q + 1, by omega, by omega, ?_⟩
                    ((repeat' (first|((conv => whnf);done)|((try conv => whnf);first|exact trivial|(refine And.intro ?_ ?_)|rfl|exact fun _ _ _ h=>h|exact fun _ _ _ _=>trivial)));(all_goals (try conv => whnf)))
                  · refine ⟨n + 1, by omega, by omega, ?_⟩
                    ((repeat' (first|((conv => whnf);done)|((try conv => whnf);first|exact trivial|(refine And.intro ?_ ?_)|rfl|exact fun _ _ _ h=>h|exact fun _ _ _ _=>trivial)));(all_goals (try conv => whnf)))
              | true =>
                have hsmm := fun z hz => hsmm z hown.symm hz
                have hfst : ((cntL (selL (opsOf gl) n gr A.length)).map Prod.fst).Nodup := by rw [cntL_fst]; exact hsnd _
                rw [baseL_true, ep]
                refine Sy.loop_inv Sy.tab_ok (fun q : Nat => [(130, .c (.v (.int .i64 q)))]) (fun _ => []) (fun q => q ≤ o.op.ins.length) (fun q => o.op.ins.length - q) 0 (Nat.zero_le _) ?_ (fun q hq => ?_)
                · ((repeat' (first|((conv => whnf);done)|((try conv => whnf);first|exact trivial|(refine And.intro ?_ ?_)|rfl|exact fun _ _ _ h=>h|exact fun _ _ _ _=>trivial)));(all_goals (try conv => whnf)))
                · ((repeat' ((conv => whnf);(first|refine z1 ?_|refine z2 ?_|refine z3 ?_|refine z4 ?_|refine z5 ?_|refine z6 ?_|refine z7 ?_|refine z8 ?_|refine z9 ?_|refine za ?_|refine zb ?_|refine zc ?_|refine zd ?_|refine ze ?_|refine zf ?_|refine zg ?_|refine zh ?_|((first|refine zi ?_ ?_|refine zj ?_ ?_|refine zk ?_ ?_)<;> intro hh <;> first|(exfalso;omega)|skip)|(refine zl ?_ ?_<;> intro hh)|refine zm ?_|refine zn ?_|refine zo ?_|refine zp ?_|refine zq ?_|refine zv ?_|refine zr ?_|refine zs _ rfl ?_|exact Sy.fin_val (fun e=>rfl))));(all_goals (try conv => whnf)))
                  · have hlq : q < o.op.ins.length := by omega
                    have hgq := List.getElem?_eq_getElem hlq
                    generalize o.op.ins[q] = z at *
                    have hzm := hsmm z (List.mem_of_getElem? hgq)
                    refine Sy.el_map z hgq ?_
                    ((repeat' ((conv => whnf);(first|refine z1 ?_|refine z2 ?_|refine z3 ?_|refine z4 ?_|refine z5 ?_|refine z6 ?_|refine z7 ?_|refine z8 ?_|refine z9 ?_|refine za ?_|refine zb ?_|refine zc ?_|refine zd ?_|refine ze ?_|refine zf ?_|refine zg ?_|refine zh ?_|((first|refine zi ?_ ?_|refine zj ?_ ?_|refine zk ?_ ?_)<;> intro hh <;> first|(exfalso;omega)|skip)|(refine zl ?_ ?_<;> intro hh)|refine zm ?_|refine zn ?_|refine zo ?_|refine zp ?_|refine zq ?_|refine zv ?_|refine zr ?_|refine zs _ rfl ?_|exact Sy.fin_val (fun e=>rfl))));(all_goals (try conv => whnf)))
                    refine hit_i _ z 1 hfst (cntL_hit hzm) (fun q1 hq1 hq2 => ?_)
                    ((repeat' ((conv => whnf);(first|refine z1 ?_|refine z2 ?_|refine z3 ?_|refine z4 ?_|refine z5 ?_|refine z6 ?_|refine z7 ?_|refine z8 ?_|refine z9 ?_|refine za ?_|refine zb ?_|refine zc ?_|refine zd ?_|refine ze ?_|refine zf ?_|refine zg ?_|refine zh ?_|((first|refine zi ?_ ?_|refine zj ?_ ?_|refine zk ?_ ?_)<;> intro hh <;> first|(exfalso;omega)|skip)|(refine zl ?_ ?_<;> intro hh)|refine zm ?_|refine zn ?_|refine zo ?_|refine zp ?_|refine zq ?_|refine zv ?_|refine zr ?_|refine zs _ rfl ?_|exact Sy.fin_val (fun e=>rfl))));(all_goals (try conv => whnf)))
                    refine ⟨q + 1, by omega, by omega, ?_⟩
                    ((repeat' (first|((conv => whnf);done)|((try conv => whnf);first|exact trivial|(refine And.intro ?_ ?_)|rfl|exact fun _ _ _ h=>h|exact fun _ _ _ _=>trivial)));(all_goals (try conv => whnf)))
                  · refine ⟨n + 1, by omega, by omega, ?_⟩
                    ((repeat' (first|((conv => whnf);done)|((try conv => whnf);first|exact trivial|(refine And.intro ?_ ?_)|rfl|exact fun _ _ _ h=>h|exact fun _ _ _ _=>trivial)));(all_goals (try conv => whnf)))
    · have hsV : psubsV (opsOf gl) = [] := by unfold psubsV; rw [if_neg h0]
      have hcV : chansV (opsOf gl) = [] := by unfold chansV; rw [if_neg h0]
      rw [hsV, hcV]
      ((repeat' ((conv => whnf);(first|refine z1 ?_|refine z2 ?_|refine z3 ?_|refine z4 ?_|refine z5 ?_|refine z6 ?_|refine z7 ?_|refine z8 ?_|refine z9 ?_|refine za ?_|refine zb ?_|refine zc ?_|refine zd ?_|refine ze ?_|refine zf ?_|refine zg ?_|refine zh ?_|((first|refine zi ?_ ?_|refine zj ?_ ?_|refine zk ?_ ?_)<;> intro hh <;> first|(exfalso;omega)|skip)|(refine zl ?_ ?_<;> intro hh)|refine zm ?_|refine zn ?_|refine zo ?_|refine zp ?_|refine zq ?_|refine zv ?_|refine zr ?_|refine zs _ rfl ?_|exact Sy.fin_val (fun e=>rfl))));(all_goals (try conv => whnf)))
      exact Sy.fin_val (fun e => congrArg Value.bool (by simp))
  · ((repeat' ((conv => whnf);(first|refine z1 ?_|refine z2 ?_|refine z3 ?_|refine z4 ?_|refine z5 ?_|refine z6 ?_|refine z7 ?_|refine z8 ?_|refine z9 ?_|refine za ?_|refine zb ?_|refine zc ?_|refine zd ?_|refine ze ?_|refine zf ?_|refine zg ?_|refine zh ?_|((first|refine zi ?_ ?_|refine zj ?_ ?_|refine zk ?_ ?_)<;> intro hh <;> first|(exfalso;omega)|skip)|(refine zl ?_ ?_<;> intro hh)|refine zm ?_|refine zn ?_|refine zo ?_|refine zp ?_|refine zq ?_|refine zv ?_|refine zr ?_|refine zs _ rfl ?_|exact Sy.fin_val (fun e=>rfl))));(all_goals (try conv => whnf)))
    all_goals done
end Go.Proofs.Ytcjiaiojkciheaa
