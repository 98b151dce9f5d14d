/- Heart: Hear. -/
import Derived.Test.YtiapcohnjklcfaaHeG
namespace Go.Proofs.Ytiapcohnjklcfaa
open Go Go.RowKit
open Sy (C SV V1 Blk St XD Els)
set_option maxRecDepth 10000
attribute [local irreducible] okN okH ok0 chkE

/-- A pulse put into its place. -/
def putL (y : Pulse) : List Pulse → List Pulse
  | [] => [y]
  | p :: r => if p.worker < y.worker then p :: putL y r else if p.worker = y.worker then y :: r else y :: p :: r
def cameL (k : Int) (ps : List Pulse) : Bool := match ps.find? (fun p => p.worker == k) with
  | some p => p.down
  | none => true
theorem putL_skip (y : Pulse) : ∀ (i : Nat) (ps : List Pulse), i ≤ ps.length → (∀ m p, m < i → ps[m]? = some p → p.worker < y.worker) → putL y ps = ps.take i ++ putL y (ps.drop i)
  | 0, ps, _, _ => rfl
  | i + 1, [], h, _ => by simp at h
  | i + 1, p :: r, h, hlt => by
    have h0 := hlt 0 p (by omega) rfl
    rw [putL, if_pos h0, putL_skip y i r (by simpa using h) (fun m q hm hq => hlt (m + 1) q (by omega) (by simpa using hq))]
    rfl
theorem put_there {ps : List Pulse} {y : Pulse} {i : Nat} {p : Pulse} (hp : ps[i]? = some p) (he : p.worker = y.worker) (hlt : ∀ m p, m < i → ps[m]? = some p → p.worker < y.worker) : putL y ps = ps.set i y := by
  have hi : i < ps.length := (List.getElem?_eq_some_iff.1 hp).1
  have hd : ps.drop i = p :: ps.drop (i + 1) := by rw [List.drop_eq_getElem_cons hi, (List.getElem?_eq_some_iff.1 hp).2]
  rw [putL_skip y i ps (by omega) hlt, hd, putL, if_neg (by omega), if_pos he, List.set_eq_take_append_cons_drop, if_pos hi]
theorem put_new {ps : List Pulse} {y : Pulse} {i : Nat} (hi : i ≤ ps.length) (hge : ∀ p, ps[i]? = some p → y.worker < p.worker) (hlt : ∀ m p, m < i → ps[m]? = some p → p.worker < y.worker) : putL y ps = insL ps i y := by
  rw [putL_skip y i ps hi hlt, insL]
  congr 1
  cases hd : ps.drop i with
  | nil => rfl
  | cons p r =>
    have hp : ps[i]? = some p := by
      have := congrArg (fun l => l[0]?) hd
      simpa using this
    have := hge p hp
    rw [putL, if_neg (by omega), if_neg (by omega)]
theorem ins_set {ps : List Pulse} {i : Nat} (hi : i ≤ ps.length) (y : Pulse) {z : Pulse} : insL ps i y = (insL ps i z).set i y := by
  unfold insL
  rw [List.set_append_right _ _ (by rw [List.length_take]; omega), List.length_take, Nat.min_eq_left hi, Nat.sub_self]
  rfl
theorem came_there {ps : List Pulse} {k : Int} {i : Nat} {p : Pulse} (hp : ps[i]? = some p) (he : p.worker = k) (hlt : ∀ m p, m < i → ps[m]? = some p → p.worker < k) : cameL k ps = p.down := by
  have : ps.find? (fun p => p.worker == k) = some p := by
    rw [List.find?_eq_some_iff_getElem]
    obtain ⟨hi, hg⟩ := List.getElem?_eq_some_iff.1 hp
    refine ⟨by simpa using he, i, hi, hg, fun j hj => ?_⟩
    have := hlt j ps[j] hj (List.getElem?_eq_getElem _)
    simp; omega
  rw [cameL, this]
theorem came_new {ps : List Pulse} {k : Int} (h : ∀ (m : Nat) p, ps[m]? = some p → p.worker ≠ k) : cameL k ps = true := by
  have : ps.find? (fun p => p.worker == k) = none := by
    rw [List.find?_eq_none]
    intro p hp
    obtain ⟨m, hm⟩ := List.mem_iff_getElem?.1 hp
    simpa using h m p hm
  rw [cameL, this]
structure HS where
  now : Int
  span : Int
  ps : List Pulse
def hs0 : HS := ⟨0, 0, []⟩
def hearV (now span : Int) (ps : List Pulse) (k : Int) : HS × Bool × Int :=
  if okH now span ps = true then (if 1 ≤ k ∧ k ≤ 4 then (⟨now, span, putL ⟨k, now, false⟩ ps⟩, cameL k ps, 0) else (hs0, false, 2)) else (hs0, false, 360)
def rowH (h : HS) : Sy.RD := ⟨51, 3, h.ps.length, h.ps.map encP⟩
def valH (h : HS) (v : Value) : Value := .agg #[.int .i64 h.now, .int .i64 h.span, v]
theorem hear_any (now span : Int) (v : Value) (ps : List Pulse) (k : Int) (w : World) (hn : I64 now) (hk : I64 k) (hr : XD.ok (fun b => b < w.heap.size) w ⟨v, 3, ps.length, ps.map encP⟩) :
    Calls Try.prog 13 #[.agg #[.int .i64 now, .int .i64 span, v], .int .i64 k] w (Sy.RetRows Sy.noRow (fun _ : Unit => True) (fun _ => [rowH (hearV now span ps k).1])
      (fun _ vs => .tuple #[valH (hearV now span ps k).1 (vs.headD undef), .bool (hearV now span ps k).2.1, .int .i64 (hearV now span ps k).2.2]) w) := by
  have hl := ok_len hr
  refine Sy.calls_of Sy.lv13 Sy.tab_ok Try.func13 rfl _ Try.ntmps13 [⟨v, 3, ps.length, ps.map encP⟩] [.agg [.v (.int .i64 now), .v (.int .i64 span), .row 0], .c (.v (.int .i64 k))] rfl rfl rfl ⟨hr, trivial⟩ ?_
  ((repeat' ((conv => whnf);(first|refine z1 ?_|refine z2 ?_|refine z3 ?_|refine z4 ?_|refine z5 ?_|refine z6 ?_|refine z7 ?_|refine z8 ?_|refine z9 ?_|refine za ?_|refine zb ?_|refine zc ?_|refine zd ?_|refine ze ?_|refine zf ?_|refine zg ?_|refine zh ?_|((first|refine zi ?_ ?_|refine zj ?_ ?_|refine zk ?_ ?_)<;> intro hh <;> first|(exfalso;omega)|skip)|(refine zl ?_ ?_<;> intro hh)|refine zm ?_|refine zn ?_|refine zo ?_|refine zp ?_|refine zq ?_|refine zr ?_|refine zs _ rfl ?_|refine zu ?_|exact Sy.fin_val (fun e=>rfl))));(all_goals (try conv => whnf)))
  refine Sy.call_in Sy.lv31 Sy.tab_ok Try.func31 rfl _ Try.ntmps31 Try.call31 rfl (fun _ => ?_)
  ((repeat' ((conv => whnf);(first|refine z1 ?_|refine z2 ?_|refine z3 ?_|refine z4 ?_|refine z5 ?_|refine z6 ?_|refine z7 ?_|refine z8 ?_|refine z9 ?_|refine za ?_|refine zb ?_|refine zc ?_|refine zd ?_|refine ze ?_|refine zf ?_|refine zg ?_|refine zh ?_|((first|refine zi ?_ ?_|refine zj ?_ ?_|refine zk ?_ ?_)<;> intro hh <;> first|(exfalso;omega)|skip)|(refine zl ?_ ?_<;> intro hh)|refine zm ?_|refine zn ?_|refine zo ?_|refine zp ?_|refine zq ?_|refine zr ?_|refine zs _ rfl ?_|refine zu ?_|exact Sy.fin_val (fun e=>rfl))));(all_goals (try conv => whnf)))
  refine Sy.call_val (.c (.v (.int .i64 (chkE now span ps)))) Try.call22 rfl (fun e a w' h => check_any now span _ ps w' hn (Sy.row_reads h (.inr rfl))) ?_
  by_cases hok : okH now span ps = true
  · have hb := okH_len now span ps hok
    have hwk := okH_wks now span ps hok
    have eV : hearV now span ps k = if 1 ≤ k ∧ k ≤ 4 then (⟨now, span, putL ⟨k, now, false⟩ ps⟩, cameL k ps, 0) else (hs0, false, 2) := by rw [hearV, if_pos hok]
    rw [show chkE now span ps = 0 by unfold chkE; rw [if_pos hok]]
    ((repeat' ((conv => whnf);(first|refine z1 ?_|refine z2 ?_|refine z3 ?_|refine z4 ?_|refine z5 ?_|refine z6 ?_|refine z7 ?_|refine z8 ?_|refine z9 ?_|refine za ?_|refine zb ?_|refine zc ?_|refine zd ?_|refine ze ?_|refine zf ?_|refine zg ?_|refine zh ?_|((first|refine zi ?_ ?_|refine zj ?_ ?_|refine zk ?_ ?_)<;> intro hh <;> first|(exfalso;omega)|skip)|(refine zl ?_ ?_<;> intro hh)|refine zm ?_|refine zn ?_|refine zo ?_|refine zp ?_|refine zq ?_|refine zr ?_|refine zs _ rfl ?_|refine zu ?_|exact Sy.fin_val (fun e=>rfl))));(all_goals (try conv => whnf)))
    refine Sy.call_rows none (fun _ : Unit => True) (fun _ => [⟨51, 3, ps.length, ps.map encP⟩]) (fun _ => .c (.row 8)) Try.call49 (fun j hj => by cases hj) (fun _ _ => rfl)
      (fun e a w' h => Sy.rows_one (clone_any _ ps w' (Sy.row_reads (k := 0) h (.inr rfl)) (by omega)) (fun x u => rfl)) (fun _ _ => ?_)
    ((repeat' ((conv => whnf);(first|refine z1 ?_|refine z2 ?_|refine z3 ?_|refine z4 ?_|refine z5 ?_|refine z6 ?_|refine z7 ?_|refine z8 ?_|refine z9 ?_|refine za ?_|refine zb ?_|refine zc ?_|refine zd ?_|refine ze ?_|refine zf ?_|refine zg ?_|refine zh ?_|((first|refine zi ?_ ?_|refine zj ?_ ?_|refine zk ?_ ?_)<;> intro hh <;> first|(exfalso;omega)|skip)|(refine zl ?_ ?_<;> intro hh)|refine zm ?_|refine zn ?_|refine zo ?_|refine zp ?_|refine zq ?_|refine zr ?_|refine zs _ rfl ?_|refine zu ?_|exact Sy.fin_val (fun e=>rfl))));(all_goals (try conv => whnf)))
    refine Sy.call_in Sy.lv32 Sy.tab_ok Try.func32 rfl _ Try.ntmps32 Try.call32 rfl (fun _ => ?_)
    by_cases hk1 : 1 ≤ k ∧ k ≤ 4
    · rw [if_pos hk1] at eV
      rw [eV]
      ((repeat' ((conv => whnf);(first|refine z1 ?_|refine z2 ?_|refine z3 ?_|refine z4 ?_|refine z5 ?_|refine z6 ?_|refine z7 ?_|refine z8 ?_|refine z9 ?_|refine za ?_|refine zb ?_|refine zc ?_|refine zd ?_|refine ze ?_|refine zf ?_|refine zg ?_|refine zh ?_|((first|refine zi ?_ ?_|refine zj ?_ ?_|refine zk ?_ ?_)<;> intro hh <;> first|(exfalso;omega)|skip)|(refine zl ?_ ?_<;> intro hh)|refine zm ?_|refine zn ?_|refine zo ?_|refine zp ?_|refine zq ?_|refine zr ?_|refine zs _ rfl ?_|refine zu ?_|exact Sy.fin_val (fun e=>rfl))));(all_goals (try conv => whnf)))
      refine Sy.call_in Sy.lv33 Sy.tab_ok Try.func33 rfl _ Try.ntmps33 Try.call33 rfl (fun _ => ?_)
      ((repeat' ((conv => whnf);(first|refine z1 ?_|refine z2 ?_|refine z3 ?_|refine z4 ?_|refine z5 ?_|refine z6 ?_|refine z7 ?_|refine z8 ?_|refine z9 ?_|refine za ?_|refine zb ?_|refine zc ?_|refine zd ?_|refine ze ?_|refine zf ?_|refine zg ?_|refine zh ?_|((first|refine zi ?_ ?_|refine zj ?_ ?_|refine zk ?_ ?_)<;> intro hh <;> first|(exfalso;omega)|skip)|(refine zl ?_ ?_<;> intro hh)|refine zm ?_|refine zn ?_|refine zo ?_|refine zp ?_|refine zq ?_|refine zr ?_|refine zs _ rfl ?_|refine zu ?_|exact Sy.fin_val (fun e=>rfl))));(all_goals (try conv => whnf)))
      refine Sy.call_ex (srchP ps k) (fun x => .tup [.c (.v (.int .i64 x.1)), .c (.v (.bool x.2))]) Try.call50 (fun _ _ => rfl)
        (fun e a w' h => srch_any _ ps k w' (Sy.row_reads (k := 8) h (.inl ⟨_, rfl⟩)) hwk hk hb) (fun x hx => ?_)
      obtain ⟨i, there⟩ := x
      ((repeat' ((conv => whnf);(first|refine z1 ?_|refine z2 ?_|refine z3 ?_|refine z4 ?_|refine z5 ?_|refine z6 ?_|refine z7 ?_|refine z8 ?_|refine z9 ?_|refine za ?_|refine zb ?_|refine zc ?_|refine zd ?_|refine ze ?_|refine zf ?_|refine zg ?_|refine zh ?_|((first|refine zi ?_ ?_|refine zj ?_ ?_|refine zk ?_ ?_)<;> intro hh <;> first|(exfalso;omega)|skip)|(refine zl ?_ ?_<;> intro hh)|refine zm ?_|refine zn ?_|refine zo ?_|refine zp ?_|refine zq ?_|refine zr ?_|refine zs _ rfl ?_|refine zu ?_|exact Sy.fin_val (fun e=>rfl))));(all_goals (try conv => whnf)))
      · obtain ⟨h1, h2, h3⟩ := hx
        obtain ⟨h3, h4⟩ := h3 hk1.1 hk1.2
        obtain ⟨p, hp, hpk⟩ := h2.1 (by assumption)
        simp only at hp h3 h4
        have hi : i < ps.length := (List.getElem?_eq_some_iff.1 hp).1
        rw [put_there (y := ⟨k, now, false⟩) hp hpk h3, came_there hp hpk h3]
        refine Sy.idx_nat hi ?_
        ((repeat' ((conv => whnf);(first|refine z1 ?_|refine z2 ?_|refine z3 ?_|refine z4 ?_|refine z5 ?_|refine z6 ?_|refine z7 ?_|refine z8 ?_|refine z9 ?_|refine za ?_|refine zb ?_|refine zc ?_|refine zd ?_|refine ze ?_|refine zf ?_|refine zg ?_|refine zh ?_|((first|refine zi ?_ ?_|refine zj ?_ ?_|refine zk ?_ ?_)<;> intro hh <;> first|(exfalso;omega)|skip)|(refine zl ?_ ?_<;> intro hh)|refine zm ?_|refine zn ?_|refine zo ?_|refine zp ?_|refine zq ?_|refine zr ?_|refine zs _ rfl ?_|refine zu ?_|exact Sy.fin_val (fun e=>rfl))));(all_goals (try conv => whnf)))
        refine Sy.el_map p hp ?_
        ((repeat' ((conv => whnf);(first|refine z1 ?_|refine z2 ?_|refine z3 ?_|refine z4 ?_|refine z5 ?_|refine z6 ?_|refine z7 ?_|refine z8 ?_|refine z9 ?_|refine za ?_|refine zb ?_|refine zc ?_|refine zd ?_|refine ze ?_|refine zf ?_|refine zg ?_|refine zh ?_|((first|refine zi ?_ ?_|refine zj ?_ ?_|refine zk ?_ ?_)<;> intro hh <;> first|(exfalso;omega)|skip)|(refine zl ?_ ?_<;> intro hh)|refine zm ?_|refine zn ?_|refine zo ?_|refine zp ?_|refine zq ?_|refine zr ?_|refine zs _ rfl ?_|refine zu ?_|exact Sy.fin_val (fun e=>rfl))));(all_goals (try conv => whnf)))
        refine Sy.draw_go [8] (by kernel_rfl) ?_
        intro e0
        conv => whnf
        refine zt 0 rfl ?_
        conv => whnf
        refine zt 1 rfl ?_
        conv => whnf
        refine zt 2 rfl ?_
        conv => whnf
        refine zt 3 rfl ?_
        conv => whnf
        refine zt 4 rfl ?_
        conv => whnf
        refine zt 5 rfl ?_
        conv => whnf
        refine zt 6 rfl ?_
        conv => whnf
        refine zt 7 rfl ?_
        conv => whnf
        refine zt 8 rfl ?_
        conv => whnf
        refine zt 9 rfl ?_
        conv => whnf
        refine zt 10 rfl ?_
        conv => whnf
        refine zd1 [11] (zx rfl ?_ zy)
        conv => whnf
        refine Sy.idx_nat hi ?_
        conv => whnf
        refine ⟨(by repeat' ((conv => whnf);first|exact trivial|(refine And.intro ?_ ?_)|rfl)), ?_⟩
        refine zd1 [12] (zx rfl ?_ zy)
        conv => whnf
        refine Sy.el_map p hp ?_
        conv => whnf
        refine ⟨(by repeat' ((conv => whnf);first|exact trivial|(refine And.intro ?_ ?_)|rfl)), ?_⟩
        refine zw ?_
        ((repeat' ((conv => whnf);(first|refine z1 ?_|refine z2 ?_|refine z3 ?_|refine z4 ?_|refine z5 ?_|refine z6 ?_|refine z7 ?_|refine z8 ?_|refine z9 ?_|refine za ?_|refine zb ?_|refine zc ?_|refine zd ?_|refine ze ?_|refine zf ?_|refine zg ?_|refine zh ?_|((first|refine zi ?_ ?_|refine zj ?_ ?_|refine zk ?_ ?_)<;> intro hh <;> first|(exfalso;omega)|skip)|(refine zl ?_ ?_<;> intro hh)|refine zm ?_|refine zn ?_|refine zo ?_|refine zp ?_|refine zq ?_|refine zr ?_|refine zs _ rfl ?_|refine zu ?_|exact Sy.fin_val (fun e=>rfl))));(all_goals (try conv => whnf)))
        refine Sy.draw_go [3] (by kernel_rfl) ?_
        intro e0
        conv => whnf
        refine zt 0 rfl ?_
        conv => whnf
        refine zt 1 rfl ?_
        conv => whnf
        refine zt 2 rfl ?_
        conv => whnf
        refine zd1 [3] (zx rfl ?_ zy)
        conv => whnf
        refine ⟨(by repeat' ((conv => whnf);first|exact trivial|(refine And.intro ?_ ?_)|rfl)), ?_⟩
        refine zt 4 rfl ?_
        conv => whnf
        refine zt 5 rfl ?_
        conv => whnf
        refine zw ?_
        ((repeat' ((conv => whnf);(first|refine z1 ?_|refine z2 ?_|refine z3 ?_|refine z4 ?_|refine z5 ?_|refine z6 ?_|refine z7 ?_|refine z8 ?_|refine z9 ?_|refine za ?_|refine zb ?_|refine zc ?_|refine zd ?_|refine ze ?_|refine zf ?_|refine zg ?_|refine zh ?_|((first|refine zi ?_ ?_|refine zj ?_ ?_|refine zk ?_ ?_)<;> intro hh <;> first|(exfalso;omega)|skip)|(refine zl ?_ ?_<;> intro hh)|refine zm ?_|refine zn ?_|refine zo ?_|refine zp ?_|refine zq ?_|refine zr ?_|refine zs _ rfl ?_|refine zu ?_|exact Sy.fin_val (fun e=>rfl))));(all_goals (try conv => whnf)))
        refine Sy.fin_rows () trivial [.row 8] ⟨?_, (by intro j hj; cases hj), trivial⟩ (fun e => rfl)
        show some (Blk.row 51 3 ps.length (Els.vs ((ps.map encP).set i _))) = some (.row 51 3 (ps.set i ⟨k, now, false⟩).length (.vs ((ps.set i ⟨k, now, false⟩).map encP)))
        rw [List.length_set, List.map_set]
        rfl
      · obtain ⟨h1, h2, h3⟩ := hx
        obtain ⟨h3, h4⟩ := h3 hk1.1 hk1.2
        simp only at h1 h2 h3 h4
        have hne : ¬ ∃ p, ps[i]? = some p ∧ p.worker = k := fun h => by
          have h5 := h2.2 h
          rw [show there = false from hh] at h5
          cases h5
        have hgt : ∀ p, ps[i]? = some p → k < p.worker := fun p hp => by
          have := h4 i p (Nat.le_refl _) hp
          have : p.worker ≠ k := fun h => hne ⟨p, hp, h⟩
          omega
        rw [put_new (y := ⟨k, now, false⟩) h1 hgt h3, came_new (fun m p hp => by
          by_cases hm : m < i
          · have := h3 m p hm hp; omega
          · by_cases hmi : m = i
            · subst hmi; have := hgt p hp; omega
            · obtain ⟨q, hq⟩ : ∃ q, ps[i]? = some q := ⟨_, List.getElem?_eq_getElem (by have := (List.getElem?_eq_some_iff.1 hp).1; omega)⟩
              have h6 := hgt q hq
              have := hwk i m q p hq hp (by omega)
              omega)]
        refine Sy.call_rows (some 8) (fun _ : Unit => True) (fun _ => [⟨51, 3, ps.length + 1, (insL ps i ⟨0, 0, false⟩).map encP⟩]) (fun _ => .c (.row 10)) Try.call34 (fun j hj => by cases hj; exact ⟨_, _, _, _, rfl⟩) (fun _ _ => rfl)
          (fun e a w' h => Sy.rows_one (insert_any _ _ ps i ⟨0, 0, false⟩ w' (h.hp 8 _ rfl).1 (h.hp 9 _ rfl).1 (fun b h1 h2 => h.sep 9 8 _ _ b rfl rfl (by decide) h1 h2) h1 (by omega)) (fun x u => rfl)) (fun _ _ => ?_)
        ((repeat' ((conv => whnf);(first|refine z1 ?_|refine z2 ?_|refine z3 ?_|refine z4 ?_|refine z5 ?_|refine z6 ?_|refine z7 ?_|refine z8 ?_|refine z9 ?_|refine za ?_|refine zb ?_|refine zc ?_|refine zd ?_|refine ze ?_|refine zf ?_|refine zg ?_|refine zh ?_|((first|refine zi ?_ ?_|refine zj ?_ ?_|refine zk ?_ ?_)<;> intro hh <;> first|(exfalso;omega)|skip)|(refine zl ?_ ?_<;> intro hh)|refine zm ?_|refine zn ?_|refine zo ?_|refine zp ?_|refine zq ?_|refine zr ?_|refine zs _ rfl ?_|refine zu ?_|exact Sy.fin_val (fun e=>rfl))));(all_goals (try conv => whnf)))
        have hi : i < (insL ps i ⟨0, 0, false⟩).length := by simp [insL]; omega
        have hil : (insL ps i ⟨0, 0, false⟩).length = ps.length + 1 := by simp [insL]; omega
        have hp : (insL ps i ⟨0, 0, false⟩)[i]? = some ⟨0, 0, false⟩ := by simp [insL, List.length_take, Nat.min_eq_left h1]
        refine Sy.draw_go [10] (by kernel_rfl) ?_
        intro e0
        conv => whnf
        refine zt 0 rfl ?_
        conv => whnf
        refine zt 1 rfl ?_
        conv => whnf
        refine zt 2 rfl ?_
        conv => whnf
        refine zt 3 rfl ?_
        conv => whnf
        refine zt 4 rfl ?_
        conv => whnf
        refine zt 5 rfl ?_
        conv => whnf
        refine zt 6 rfl ?_
        conv => whnf
        refine zt 7 rfl ?_
        conv => whnf
        refine zt 8 rfl ?_
        conv => whnf
        refine zt 9 rfl ?_
        conv => whnf
        refine zt 10 rfl ?_
        conv => whnf
        refine zd1 [11] (zx rfl ?_ zy)
        conv => whnf
        refine Sy.idx_nat (by omega) ?_
        conv => whnf
        refine ⟨(by repeat' ((conv => whnf);first|exact trivial|(refine And.intro ?_ ?_)|rfl)), ?_⟩
        refine zd1 [12] (zx rfl ?_ zy)
        conv => whnf
        refine Sy.el_map ⟨0, 0, false⟩ hp ?_
        conv => whnf
        refine ⟨(by repeat' ((conv => whnf);first|exact trivial|(refine And.intro ?_ ?_)|rfl)), ?_⟩
        refine zw ?_
        ((repeat' ((conv => whnf);(first|refine z1 ?_|refine z2 ?_|refine z3 ?_|refine z4 ?_|refine z5 ?_|refine z6 ?_|refine z7 ?_|refine z8 ?_|refine z9 ?_|refine za ?_|refine zb ?_|refine zc ?_|refine zd ?_|refine ze ?_|refine zf ?_|refine zg ?_|refine zh ?_|((first|refine zi ?_ ?_|refine zj ?_ ?_|refine zk ?_ ?_)<;> intro hh <;> first|(exfalso;omega)|skip)|(refine zl ?_ ?_<;> intro hh)|refine zm ?_|refine zn ?_|refine zo ?_|refine zp ?_|refine zq ?_|refine zr ?_|refine zs _ rfl ?_|refine zu ?_|exact Sy.fin_val (fun e=>rfl))));(all_goals (try conv => whnf)))
        refine Sy.draw_go [3] (by kernel_rfl) ?_
        intro e0
        conv => whnf
        refine zt 0 rfl ?_
        conv => whnf
        refine zt 1 rfl ?_
        conv => whnf
        refine zt 2 rfl ?_
        conv => whnf
        refine zd1 [3] (zx rfl ?_ zy)
        conv => whnf
        refine ⟨(by repeat' ((conv => whnf);first|exact trivial|(refine And.intro ?_ ?_)|rfl)), ?_⟩
        refine zt 4 rfl ?_
        conv => whnf
        refine zt 5 rfl ?_
        conv => whnf
        refine zw ?_
        ((repeat' ((conv => whnf);(first|refine z1 ?_|refine z2 ?_|refine z3 ?_|refine z4 ?_|refine z5 ?_|refine z6 ?_|refine z7 ?_|refine z8 ?_|refine z9 ?_|refine za ?_|refine zb ?_|refine zc ?_|refine zd ?_|refine ze ?_|refine zf ?_|refine zg ?_|refine zh ?_|((first|refine zi ?_ ?_|refine zj ?_ ?_|refine zk ?_ ?_)<;> intro hh <;> first|(exfalso;omega)|skip)|(refine zl ?_ ?_<;> intro hh)|refine zm ?_|refine zn ?_|refine zo ?_|refine zp ?_|refine zq ?_|refine zr ?_|refine zs _ rfl ?_|refine zu ?_|exact Sy.fin_val (fun e=>rfl))));(all_goals (try conv => whnf)))
        refine Sy.fin_rows () trivial [.row 10] ⟨?_, (by intro j hj; cases hj), trivial⟩ (fun e => rfl)
        show some (Blk.row 51 3 (ps.length + 1) (Els.vs (((insL ps i ⟨0, 0, false⟩).map encP).set i _))) = some (.row 51 3 (insL ps i ⟨k, now, false⟩).length (.vs ((insL ps i ⟨k, now, false⟩).map encP)))
        rw [ins_set h1 ⟨k, now, false⟩, List.length_set, List.map_set, hil]
        rfl
    · rw [if_neg hk1] at eV
      rw [eV]
      ((repeat' ((conv => whnf);(first|refine z1 ?_|refine z2 ?_|refine z3 ?_|refine z4 ?_|refine z5 ?_|refine z6 ?_|refine z7 ?_|refine z8 ?_|refine z9 ?_|refine za ?_|refine zb ?_|refine zc ?_|refine zd ?_|refine ze ?_|refine zf ?_|refine zg ?_|refine zh ?_|((first|refine zi ?_ ?_|refine zj ?_ ?_|refine zk ?_ ?_)<;> intro hh <;> first|(exfalso;omega)|skip)|(refine zl ?_ ?_<;> intro hh)|refine zm ?_|refine zn ?_|refine zo ?_|refine zp ?_|refine zq ?_|refine zr ?_|refine zs _ rfl ?_|refine zu ?_|exact Sy.fin_val (fun e=>rfl))));(all_goals (try conv => whnf)))
      all_goals (refine Sy.draw_go [3] (by kernel_rfl) ?_; intro e0; conv => whnf)
      all_goals (refine zt 0 rfl ?_)
      all_goals (conv => whnf)
      all_goals (refine zt 1 rfl ?_)
      all_goals (conv => whnf)
      all_goals (refine zt 2 rfl ?_)
      all_goals (conv => whnf)
      all_goals (refine zd1 [3] (zx rfl ?_ zy))
      all_goals (conv => whnf)
      all_goals (refine ⟨(by repeat' ((conv => whnf);first|exact trivial|(refine And.intro ?_ ?_)|rfl)), ?_⟩)
      all_goals (refine zt 4 rfl ?_)
      all_goals (conv => whnf)
      all_goals (refine zt 5 rfl ?_)
      all_goals (conv => whnf)
      all_goals (refine zw ?_)
      all_goals (((repeat' ((conv => whnf);(first|refine z1 ?_|refine z2 ?_|refine z3 ?_|refine z4 ?_|refine z5 ?_|refine z6 ?_|refine z7 ?_|refine z8 ?_|refine z9 ?_|refine za ?_|refine zb ?_|refine zc ?_|refine zd ?_|refine ze ?_|refine zf ?_|refine zg ?_|refine zh ?_|((first|refine zi ?_ ?_|refine zj ?_ ?_|refine zk ?_ ?_)<;> intro hh <;> first|(exfalso;omega)|skip)|(refine zl ?_ ?_<;> intro hh)|refine zm ?_|refine zn ?_|refine zo ?_|refine zp ?_|refine zq ?_|refine zr ?_|refine zs _ rfl ?_|refine zu ?_|exact Sy.fin_val (fun e=>rfl))));(all_goals (try conv => whnf))))
      all_goals exact Sy.fin_rows () trivial [.v (.slice none 0 0)] ⟨⟨rfl, rfl⟩, (by intro j hj; cases hj), trivial⟩ (fun e => rfl)
  · rw [show chkE now span ps = 360 by unfold chkE; rw [if_neg hok]]
    have eV : hearV now span ps k = (hs0, false, 360) := by rw [hearV, if_neg hok]
    rw [eV]
    ((repeat' ((conv => whnf);(first|refine z1 ?_|refine z2 ?_|refine z3 ?_|refine z4 ?_|refine z5 ?_|refine z6 ?_|refine z7 ?_|refine z8 ?_|refine z9 ?_|refine za ?_|refine zb ?_|refine zc ?_|refine zd ?_|refine ze ?_|refine zf ?_|refine zg ?_|refine zh ?_|((first|refine zi ?_ ?_|refine zj ?_ ?_|refine zk ?_ ?_)<;> intro hh <;> first|(exfalso;omega)|skip)|(refine zl ?_ ?_<;> intro hh)|refine zm ?_|refine zn ?_|refine zo ?_|refine zp ?_|refine zq ?_|refine zr ?_|refine zs _ rfl ?_|refine zu ?_|exact Sy.fin_val (fun e=>rfl))));(all_goals (try conv => whnf)))
    all_goals (refine Sy.draw_go [3] (by kernel_rfl) ?_; intro e0; conv => whnf)
    all_goals (refine zt 0 rfl ?_)
    all_goals (conv => whnf)
    all_goals (refine zt 1 rfl ?_)
    all_goals (conv => whnf)
    all_goals (refine zt 2 rfl ?_)
    all_goals (conv => whnf)
    all_goals (refine zd1 [3] (zx rfl ?_ zy))
    all_goals (conv => whnf)
    all_goals (refine ⟨(by repeat' ((conv => whnf);first|exact trivial|(refine And.intro ?_ ?_)|rfl)), ?_⟩)
    all_goals (refine zt 4 rfl ?_)
    all_goals (conv => whnf)
    all_goals (refine zt 5 rfl ?_)
    all_goals (conv => whnf)
    all_goals (refine zw ?_)
    all_goals (((repeat' ((conv => whnf);(first|refine z1 ?_|refine z2 ?_|refine z3 ?_|refine z4 ?_|refine z5 ?_|refine z6 ?_|refine z7 ?_|refine z8 ?_|refine z9 ?_|refine za ?_|refine zb ?_|refine zc ?_|refine zd ?_|refine ze ?_|refine zf ?_|refine zg ?_|refine zh ?_|((first|refine zi ?_ ?_|refine zj ?_ ?_|refine zk ?_ ?_)<;> intro hh <;> first|(exfalso;omega)|skip)|(refine zl ?_ ?_<;> intro hh)|refine zm ?_|refine zn ?_|refine zo ?_|refine zp ?_|refine zq ?_|refine zr ?_|refine zs _ rfl ?_|refine zu ?_|exact Sy.fin_val (fun e=>rfl))));(all_goals (try conv => whnf))))
    all_goals exact Sy.fin_rows () trivial [.v (.slice none 0 0)] ⟨⟨rfl, rfl⟩, (by intro j hj; cases hj), trivial⟩ (fun e => rfl)
end Go.Proofs.Ytiapcohnjklcfaa
