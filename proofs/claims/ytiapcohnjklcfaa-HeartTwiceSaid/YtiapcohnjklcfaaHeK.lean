/- Heart: the document's Hear, Drop and Pass. -/
import Derived.Test.YtiapcohnjklcfaaHeJ
namespace Go.Proofs.Ytiapcohnjklcfaa
open Go Go.RowKit
open Sy (C SV V1 Blk St XD Els)
set_option maxRecDepth 10000
attribute [local irreducible] okN okH ok0 chkE

structure HB where
  l : List Pulse
  came : Bool
  done : Bool
def hstep1 (y : Pulse) (s : HB) (p : Pulse) : HB := if s.done = false ∧ y.worker ≤ p.worker then ⟨s.l ++ [y], s.came, true⟩ else s
def hstep (y : Pulse) (s : HB) (p : Pulse) : HB := if p.worker = y.worker then ⟨(hstep1 y s p).l, p.down, (hstep1 y s p).done⟩ else ⟨(hstep1 y s p).l ++ [p], (hstep1 y s p).came, (hstep1 y s p).done⟩
def hearN (y : Pulse) (ps : List Pulse) (n : Nat) : HB := (ps.take n).foldl (hstep y) ⟨[], true, false⟩
def hearE (y : Pulse) (s : HB) : List Pulse := if s.done = true then s.l else s.l ++ [y]
theorem hearN_succ (y : Pulse) (ps : List Pulse) (n : Nat) (h : n < ps.length) : hearN y ps (n + 1) = hstep y (hearN y ps n) ps[n] := snoc_fold _ _ _ _ h
theorem hstep_len (y : Pulse) (s : HB) (p : Pulse) : (hstep y s p).l.length ≤ s.l.length + 2 := by
  unfold hstep hstep1
  split <;> split <;> simp
theorem hearN_len (y : Pulse) (ps : List Pulse) : ∀ n, n ≤ ps.length → (hearN y ps n).l.length ≤ 2 * n
  | 0, _ => Nat.le_refl _
  | n + 1, h => by
    rw [hearN_succ _ _ _ h]
    have := hstep_len y (hearN y ps n) ps[n]
    have := hearN_len y ps n (by omega)
    omega
def Sorted (ps : List Pulse) : Prop := ps.Pairwise fun p q => p.worker < q.worker
theorem wks_sorted {ps : List Pulse} (h : Wks ps) : Sorted ps := by
  rw [Sorted, List.pairwise_iff_getElem]
  intro i j hi hj hij
  exact (h i j _ _ (List.getElem?_eq_getElem hi) (List.getElem?_eq_getElem hj) (by omega)).2.2.2 hij
theorem fold_done (y : Pulse) : ∀ (r : List Pulse) (acc : List Pulse) (c : Bool), (∀ p ∈ r, y.worker < p.worker) → r.foldl (hstep y) ⟨acc, c, true⟩ = ⟨acc ++ r, c, true⟩
  | [], acc, c, _ => by simp
  | p :: r, acc, c, h => by
    have hp := h p (by simp)
    rw [List.foldl_cons, show hstep y ⟨acc, c, true⟩ p = ⟨acc ++ [p], c, true⟩ by unfold hstep hstep1; rw [if_neg (by omega)]; simp, fold_done y r _ _ (fun q hq => h q (by simp [hq]))]
    simp
theorem fold_hear (y : Pulse) : ∀ (r : List Pulse) (acc : List Pulse) (c : Bool), Sorted r →
    hearE y (r.foldl (hstep y) ⟨acc, c, false⟩) = acc ++ putL y r ∧ (r.foldl (hstep y) ⟨acc, c, false⟩).came = (match r.find? (fun p => p.worker == y.worker) with | some p => p.down | none => c)
  | [], acc, c, _ => by simp [hearE, putL]
  | p :: r, acc, c, h => by
    obtain ⟨h1, h2⟩ := List.pairwise_cons.1 h
    rw [List.foldl_cons, putL, List.find?_cons]
    rcases Int.lt_trichotomy p.worker y.worker with h3 | h3 | h3
    · rw [show hstep y ⟨acc, c, false⟩ p = ⟨acc ++ [p], c, false⟩ by unfold hstep hstep1; rw [if_neg (by omega), if_neg (by omega)], if_pos h3]
      have := fold_hear y r (acc ++ [p]) c h2
      rw [this.1, this.2, show (p.worker == y.worker) = false by simp; omega]
      simp
    · rw [show hstep y ⟨acc, c, false⟩ p = ⟨acc ++ [y], p.down, true⟩ by unfold hstep hstep1; rw [if_pos h3, if_pos ⟨rfl, by omega⟩], if_neg (by omega), if_pos h3, fold_done y r _ _ (fun q hq => by have := h1 q hq; omega), show (p.worker == y.worker) = true by simp [h3]]
      simp [hearE]
    · rw [show hstep y ⟨acc, c, false⟩ p = ⟨acc ++ [y] ++ [p], c, true⟩ by unfold hstep hstep1; rw [if_neg (by omega), if_pos ⟨rfl, by omega⟩], if_neg (by omega), if_neg (by omega), fold_done y r _ _ (fun q hq => by have := h1 q hq; omega), show (p.worker == y.worker) = false by simp; omega]
      have : r.find? (fun p => p.worker == y.worker) = none := by
        rw [List.find?_eq_none]
        intro q hq
        have := h1 q hq
        simp; omega
      rw [this]
      simp [hearE]
theorem hear_law (y : Pulse) (ps : List Pulse) (h : Sorted ps) : hearE y (hearN y ps ps.length) = putL y ps ∧ (hearN y ps ps.length).came = cameL y.worker ps := by
  have := fold_hear y ps [] true h
  unfold hearN cameL
  rw [List.take_length]
  exact this
attribute [local irreducible] hearN
theorem rhear_any (now span : Int) (v : Value) (ps : List Pulse) (k : Int) (w : World) (hok : okH now span ps = true) (hk : I64 k) (hr : XD.ok (fun b => b < w.heap.size) w ⟨v, 3, ps.length, ps.map encP⟩) :
    Calls Try.prog 39 #[.agg #[.int .i64 now, .int .i64 span, v], .int .i64 k] w (Sy.RetRows Sy.noRow (fun _ : Unit => True) (fun _ => [rowH (hearV now span ps k).1])
      (fun _ vs => .tuple #[valH (hearV now span ps k).1 (vs.headD undef), .bool (hearV now span ps k).2.1, .int .i64 (hearV now span ps k).2.2]) w) := by
  have hl := ok_len hr
  have hb := okH_len now span ps hok
  have hwk := okH_wks now span ps hok
  have eV : hearV now span ps k = if 1 ≤ k ∧ k ≤ 4 then (⟨now, span, putL ⟨k, now, false⟩ ps⟩, cameL k ps, 0) else (hs0, false, 2) := by rw [hearV, if_pos hok]
  refine Sy.calls_of Sy.lv39 Sy.tab_ok Try.func39 rfl _ Try.ntmps39 [⟨v, 3, ps.length, ps.map encP⟩] [.agg [.v (.int .i64 now), .v (.int .i64 span), .row 0], .c (.v (.int .i64 k))] rfl rfl rfl ⟨hr, trivial⟩ ?_
  by_cases hk1 : 1 ≤ k ∧ k ≤ 4
  · rw [if_pos hk1] at eV
    rw [eV]
    have hy : (⟨k, now, false⟩ : Pulse).worker = k := rfl
    obtain ⟨hL1, hL2⟩ := hear_law ⟨k, now, false⟩ ps (wks_sorted hwk)
    ((repeat' ((conv => whnf);(first|refine z1 ?_|refine z2 ?_|refine z3 ?_|refine z4 ?_|refine z5 ?_|refine z6 ?_|refine z7 ?_|refine z8 ?_|refine z9 ?_|refine za ?_|refine zb ?_|refine zc ?_|refine zd ?_|refine ze ?_|refine zf ?_|refine zg ?_|refine zh ?_|((first|refine zi ?_ ?_|refine zj ?_ ?_|refine zk ?_ ?_)<;> intro hh <;> first|(exfalso;omega)|skip)|(refine zl ?_ ?_<;> intro hh)|refine zm ?_|refine zn ?_|refine zo ?_|refine zp ?_|refine zq ?_|refine zr ?_|refine zs _ rfl ?_|refine zu ?_|exact Sy.fin_val (fun e=>rfl))));(all_goals (try conv => whnf)))
    refine Sy.sem_subF (Sy.sub_row 8 51 3 rfl) ?_
    conv => whnf
    refine Sy.loop_inv Sy.tab_ok (fun n : Nat => [(27, .c (.v (.int .i64 n))), (8, .c (.row 4)), (9, .c (.v (.bool (hearN ⟨k, now, false⟩ ps n).came))), (10, .c (.v (.bool (hearN ⟨k, now, false⟩ ps n).done)))])
      (fun n => [(4, .row 51 3 (hearN ⟨k, now, false⟩ ps n).l.length (.vs ((hearN ⟨k, now, false⟩ ps n).l.map encP)))]) (fun n => n ≤ ps.length) (fun n => ps.length - n) 0 (Nat.zero_le _) ?_ (fun n hle => ?_)
    · ((repeat' (first|((conv => whnf);done)|((try conv => whnf);first|exact trivial|(refine And.intro ?_ ?_)|rfl)));(all_goals (try conv => whnf)))
      all_goals (unfold hearN; rfl)
    · ((repeat' ((conv => whnf);(first|refine z1 ?_|refine z2 ?_|refine z3 ?_|refine z4 ?_|refine z5 ?_|refine z6 ?_|refine z7 ?_|refine z8 ?_|refine z9 ?_|refine za ?_|refine zb ?_|refine zc ?_|refine zd ?_|refine ze ?_|refine zf ?_|refine zg ?_|refine zh ?_|((first|refine zi ?_ ?_|refine zj ?_ ?_|refine zk ?_ ?_)<;> intro hh <;> first|(exfalso;omega)|skip)|(refine zl ?_ ?_<;> intro hh)|refine zm ?_|refine zn ?_|refine zo ?_|refine zp ?_|refine zq ?_|refine zr ?_|refine zs _ rfl ?_|refine zu ?_|exact Sy.fin_val (fun e=>rfl))));(all_goals (try conv => whnf)))
      · have hlt : n < ps.length := by omega
        refine Sy.el_map ps[n] (List.getElem?_eq_getElem hlt) ?_
        have e1 := hearN_succ ⟨k, now, false⟩ ps n hlt
        have e2 := hearN_len ⟨k, now, false⟩ ps n hle
        generalize hearN ⟨k, now, false⟩ ps n = s at *
        generalize ps[n] = p at *
        obtain ⟨l, c, d⟩ := s
        simp only at e2
        have e3 : (p.worker = k ∧ k ≤ p.worker) ∨ (¬ p.worker = k ∧ k ≤ p.worker) ∨ (¬ p.worker = k ∧ ¬ k ≤ p.worker) := by omega
        cases d <;> rcases e3 with ⟨a, b⟩ | ⟨a, b⟩ | ⟨a, b⟩
        all_goals
          simp [hstep, hstep1, a, b] at e1
          ((repeat' ((conv => whnf);(first|refine z1 ?_|refine z2 ?_|refine z3 ?_|refine z4 ?_|refine z5 ?_|refine z6 ?_|refine z7 ?_|refine z8 ?_|refine z9 ?_|refine za ?_|refine zb ?_|refine zc ?_|refine zd ?_|refine ze ?_|refine zf ?_|refine zg ?_|refine zh ?_|((first|refine zi ?_ ?_|refine zj ?_ ?_|refine zk ?_ ?_)<;> intro hh <;> first|(exfalso;omega)|skip)|(refine zl ?_ ?_<;> intro hh)|refine zm ?_|refine zn ?_|refine zo ?_|refine zp ?_|refine zq ?_|refine zr ?_|refine zs _ rfl ?_|refine zu ?_|exact Sy.fin_val (fun e=>rfl))));(all_goals (try conv => whnf)))
        all_goals (repeat (refine Sy.need_app 24 rfl ⟨by (try simp only [List.length_append, List.length_cons, List.length_nil]); omega, by (try simp only [List.length_append, List.length_cons, List.length_nil]); omega⟩ ?_; ((repeat' ((conv => whnf);(first|refine z1 ?_|refine z2 ?_|refine z3 ?_|refine z4 ?_|refine z5 ?_|refine z6 ?_|refine z7 ?_|refine z8 ?_|refine z9 ?_|refine za ?_|refine zb ?_|refine zc ?_|refine zd ?_|refine ze ?_|refine zf ?_|refine zg ?_|refine zh ?_|((first|refine zi ?_ ?_|refine zj ?_ ?_|refine zk ?_ ?_)<;> intro hh <;> first|(exfalso;omega)|skip)|(refine zl ?_ ?_<;> intro hh)|refine zm ?_|refine zn ?_|refine zo ?_|refine zp ?_|refine zq ?_|refine zr ?_|refine zs _ rfl ?_|refine zu ?_|exact Sy.fin_val (fun e=>rfl))));(all_goals (try conv => whnf)))))
        all_goals
          refine ⟨n + 1, by omega, by omega, ?_⟩
          rw [e1]
          ((repeat' (first|((conv => whnf);done)|((try conv => whnf);first|exact trivial|(refine And.intro ?_ ?_)|rfl)));(all_goals (try conv => whnf)))
          all_goals (first | rfl | (simp [encP]; done))
      · have e : n = ps.length := by omega
        subst e
        rw [hearE, if_pos (by assumption)] at hL1
        rw [show cameL k ps = _ from hL2.symm, ← hL1]
        exact Sy.fin_rows () trivial [.row 4] ⟨rfl, (by intro j hj; cases hj), trivial⟩ (fun e => rfl)
      · have e : n = ps.length := by omega
        subst e
        have e2 := hearN_len ⟨k, now, false⟩ ps ps.length (Nat.le_refl _)
        rw [hearE, if_neg (by simp [*])] at hL1
        rw [show cameL k ps = _ from hL2.symm, ← hL1]
        refine Sy.need_app 24 rfl ⟨by omega, by omega⟩ ?_
        ((repeat' ((conv => whnf);(first|refine z1 ?_|refine z2 ?_|refine z3 ?_|refine z4 ?_|refine z5 ?_|refine z6 ?_|refine z7 ?_|refine z8 ?_|refine z9 ?_|refine za ?_|refine zb ?_|refine zc ?_|refine zd ?_|refine ze ?_|refine zf ?_|refine zg ?_|refine zh ?_|((first|refine zi ?_ ?_|refine zj ?_ ?_|refine zk ?_ ?_)<;> intro hh <;> first|(exfalso;omega)|skip)|(refine zl ?_ ?_<;> intro hh)|refine zm ?_|refine zn ?_|refine zo ?_|refine zp ?_|refine zq ?_|refine zr ?_|refine zs _ rfl ?_|refine zu ?_|exact Sy.fin_val (fun e=>rfl))));(all_goals (try conv => whnf)))
        refine Sy.fin_rows () trivial [.row 6] ⟨?_, (by intro j hj; cases hj), trivial⟩ (fun e => rfl)
        show some (Blk.row 51 3 (_ + 1) (Els.vs (_ ++ [_]))) = some (.row 51 3 (_ ++ [_]).length (.vs ((_ ++ [_]).map encP)))
        rw [List.length_append, List.map_append]
        rfl
  · rw [if_neg hk1] at eV
    rw [eV]
    ((repeat' ((conv => whnf);(first|refine z1 ?_|refine z2 ?_|refine z3 ?_|refine z4 ?_|refine z5 ?_|refine z6 ?_|refine z7 ?_|refine z8 ?_|refine z9 ?_|refine za ?_|refine zb ?_|refine zc ?_|refine zd ?_|refine ze ?_|refine zf ?_|refine zg ?_|refine zh ?_|((first|refine zi ?_ ?_|refine zj ?_ ?_|refine zk ?_ ?_)<;> intro hh <;> first|(exfalso;omega)|skip)|(refine zl ?_ ?_<;> intro hh)|refine zm ?_|refine zn ?_|refine zo ?_|refine zp ?_|refine zq ?_|refine zr ?_|refine zs _ rfl ?_|refine zu ?_|exact Sy.fin_val (fun e=>rfl))));(all_goals (try conv => whnf)))
    all_goals exact Sy.fin_rows () trivial [.v (.slice none 0 0)] ⟨⟨rfl, rfl⟩, (by intro j hj; cases hj), trivial⟩ (fun e => rfl)

theorem dropL_len (k : Int) (ps : List Pulse) : (dropL k ps).length = ps.length ↔ hasW k ps = false := by
  unfold dropL hasW
  rw [List.length_filter_eq_length_iff]
  simp
def dropN (k : Int) (ps : List Pulse) (n : Nat) : List Pulse := (ps.take n).filter fun p => !(p.worker == k)
theorem dropN_succ (k : Int) (ps : List Pulse) (n : Nat) (h : n < ps.length) : dropN k ps (n + 1) = dropN k ps n ++ (if ps[n].worker = k then [] else [ps[n]]) := by
  unfold dropN
  rw [List.take_succ_eq_append_getElem h, List.filter_append]
  congr 1
  by_cases hd : ps[n].worker = k <;> simp [hd]
theorem dropN_len (k : Int) (ps : List Pulse) (n : Nat) : (dropN k ps n).length ≤ n := by
  unfold dropN
  exact Nat.le_trans (List.length_filter_le _ _) (by rw [List.length_take]; omega)
theorem dropN_all (k : Int) (ps : List Pulse) : dropN k ps ps.length = dropL k ps := by rw [dropN, List.take_length, dropL]
theorem rdrop_any (now span : Int) (v : Value) (ps : List Pulse) (k : Int) (w : World) (hok : okH now span ps = true) (hr : XD.ok (fun b => b < w.heap.size) w ⟨v, 3, ps.length, ps.map encP⟩) :
    Calls Try.prog 41 #[.agg #[.int .i64 now, .int .i64 span, v], .int .i64 k] w (Sy.RetRows Sy.noRow (fun _ : Unit => True) (fun _ => [rowH (dropV now span ps k).1])
      (fun _ vs => .tuple #[valH (dropV now span ps k).1 (vs.headD undef), .int .i64 (dropV now span ps k).2]) w) := by
  have hl := ok_len hr
  have hb := okH_len now span ps hok
  have eV : dropV now span ps k = if hasW k ps = true then (⟨now, span, dropL k ps⟩, 0) else (hs0, 4) := by rw [dropV, if_pos hok]
  have hlen := dropL_len k ps
  refine Sy.calls_of Sy.lv41 Sy.tab_ok Try.func41 rfl _ Try.ntmps41 [⟨v, 3, ps.length, ps.map encP⟩] [.agg [.v (.int .i64 now), .v (.int .i64 span), .row 0], .c (.v (.int .i64 k))] rfl rfl rfl ⟨hr, trivial⟩ ?_
  ((repeat' ((conv => whnf);(first|refine z1 ?_|refine z2 ?_|refine z3 ?_|refine z4 ?_|refine z5 ?_|refine z6 ?_|refine z7 ?_|refine z8 ?_|refine z9 ?_|refine za ?_|refine zb ?_|refine zc ?_|refine zd ?_|refine ze ?_|refine zf ?_|refine zg ?_|refine zh ?_|((first|refine zi ?_ ?_|refine zj ?_ ?_|refine zk ?_ ?_)<;> intro hh <;> first|(exfalso;omega)|skip)|(refine zl ?_ ?_<;> intro hh)|refine zm ?_|refine zn ?_|refine zo ?_|refine zp ?_|refine zq ?_|refine zr ?_|refine zs _ rfl ?_|refine zu ?_|exact Sy.fin_val (fun e=>rfl))));(all_goals (try conv => whnf)))
  refine Sy.sem_subF (Sy.sub_row 6 51 3 rfl) ?_
  conv => whnf
  refine Sy.loop_inv Sy.tab_ok (fun n : Nat => [(12, .c (.v (.int .i64 n))), (6, .c (.row 3))]) (fun n => [(3, .row 51 3 (dropN k ps n).length (.vs ((dropN k ps n).map encP)))]) (fun n => n ≤ ps.length) (fun n => ps.length - n) 0 (Nat.zero_le _) ?_ (fun n hle => ?_)
  · ((repeat' (first|((conv => whnf);done)|((try conv => whnf);first|exact trivial|(refine And.intro ?_ ?_)|rfl)));(all_goals (try conv => whnf)))
  · ((repeat' ((conv => whnf);(first|refine z1 ?_|refine z2 ?_|refine z3 ?_|refine z4 ?_|refine z5 ?_|refine z6 ?_|refine z7 ?_|refine z8 ?_|refine z9 ?_|refine za ?_|refine zb ?_|refine zc ?_|refine zd ?_|refine ze ?_|refine zf ?_|refine zg ?_|refine zh ?_|((first|refine zi ?_ ?_|refine zj ?_ ?_|refine zk ?_ ?_)<;> intro hh <;> first|(exfalso;omega)|skip)|(refine zl ?_ ?_<;> intro hh)|refine zm ?_|refine zn ?_|refine zo ?_|refine zp ?_|refine zq ?_|refine zr ?_|refine zs _ rfl ?_|refine zu ?_|exact Sy.fin_val (fun e=>rfl))));(all_goals (try conv => whnf)))
    · have hlt : n < ps.length := by omega
      refine Sy.el_map ps[n] (List.getElem?_eq_getElem hlt) ?_
      have e1 := dropN_succ k ps n hlt
      have e2 := dropN_len k ps n
      generalize dropN k ps n = l at *
      generalize ps[n] = p at *
      ((repeat' ((conv => whnf);(first|refine z1 ?_|refine z2 ?_|refine z3 ?_|refine z4 ?_|refine z5 ?_|refine z6 ?_|refine z7 ?_|refine z8 ?_|refine z9 ?_|refine za ?_|refine zb ?_|refine zc ?_|refine zd ?_|refine ze ?_|refine zf ?_|refine zg ?_|refine zh ?_|((first|refine zi ?_ ?_|refine zj ?_ ?_|refine zk ?_ ?_)<;> intro hh <;> first|(exfalso;omega)|skip)|(refine zl ?_ ?_<;> intro hh)|refine zm ?_|refine zn ?_|refine zo ?_|refine zp ?_|refine zq ?_|refine zr ?_|refine zs _ rfl ?_|refine zu ?_|exact Sy.fin_val (fun e=>rfl))));(all_goals (try conv => whnf)))
      · rw [if_pos (by assumption), List.append_nil] at e1
        refine ⟨n + 1, by omega, by omega, ?_⟩
        rw [e1]
        ((repeat' (first|((conv => whnf);done)|((try conv => whnf);first|exact trivial|(refine And.intro ?_ ?_)|rfl)));(all_goals (try conv => whnf)))
      · rw [if_neg (by assumption)] at e1
        refine Sy.need_app 24 rfl ⟨by omega, by omega⟩ ?_
        ((repeat' ((conv => whnf);(first|refine z1 ?_|refine z2 ?_|refine z3 ?_|refine z4 ?_|refine z5 ?_|refine z6 ?_|refine z7 ?_|refine z8 ?_|refine z9 ?_|refine za ?_|refine zb ?_|refine zc ?_|refine zd ?_|refine ze ?_|refine zf ?_|refine zg ?_|refine zh ?_|((first|refine zi ?_ ?_|refine zj ?_ ?_|refine zk ?_ ?_)<;> intro hh <;> first|(exfalso;omega)|skip)|(refine zl ?_ ?_<;> intro hh)|refine zm ?_|refine zn ?_|refine zo ?_|refine zp ?_|refine zq ?_|refine zr ?_|refine zs _ rfl ?_|refine zu ?_|exact Sy.fin_val (fun e=>rfl))));(all_goals (try conv => whnf)))
        refine ⟨n + 1, by omega, by omega, ?_⟩
        rw [e1]
        ((repeat' (first|((conv => whnf);done)|((try conv => whnf);first|exact trivial|(refine And.intro ?_ ?_)|rfl)));(all_goals (try conv => whnf)))
        all_goals (first | rfl | (simp [encP]; done))
    all_goals
      have e : n = ps.length := by omega
      subst e
      rw [dropN_all] at *
    · have hh : hasW k ps = false := hlen.1 (by omega)
      rw [eV, if_neg (by simp [hh])]
      exact Sy.fin_rows () trivial [.v (.slice none 0 0)] ⟨⟨rfl, rfl⟩, (by intro j hj; cases hj), trivial⟩ (fun e => rfl)
    · have hh : hasW k ps = true := by
        cases h : hasW k ps with
        | true => rfl
        | false => have := hlen.2 h; omega
      rw [eV, if_pos hh]
      exact Sy.fin_rows () trivial [.row 3] ⟨rfl, (by intro j hj; cases hj), trivial⟩ (fun e => rfl)
end Go.Proofs.Ytiapcohnjklcfaa
