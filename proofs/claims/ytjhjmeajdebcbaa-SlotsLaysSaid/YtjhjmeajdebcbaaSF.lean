/- Slots: free, by contract. -/
import Derived.Test.YtjhjmeajdebcbaaSE
import Derived.Test.YtjhjmeajdebcbaaMapI
namespace Go.Proofs.Ytjhjmeajdebcbaa
open Go Go.RowKit
open Sy (C SV V1 Blk St XD Els)
set_option maxRecDepth 10000

/-- How many of these places are a worker's. -/
def cntW (ps : List (Int × Int)) (id : Int) : Int := (ps.countP fun q => q.2 == id : Nat)
theorem cntW_nil (id : Int) : cntW [] id = 0 := rfl
theorem cntW_snoc (ps : List (Int × Int)) (q : Int × Int) (id : Int) : cntW (ps ++ [q]) id = cntW ps id + (if q.2 = id then 1 else 0) := by
  unfold cntW
  rw [List.countP_append, List.countP_singleton]
  by_cases h : q.2 = id
  · rw [if_pos h, if_pos (beq_iff_eq.2 h)]; omega
  · rw [if_neg h, if_neg (by simpa using h)]; omega
theorem cntW_le (ps : List (Int × Int)) (id : Int) : 0 ≤ cntW ps id ∧ cntW ps id ≤ ps.length := by
  unfold cntW
  have := List.countP_le_length (p := fun q : Int × Int => q.2 == id) (l := ps)
  omega
def frL (ws ps : List (Int × Int)) : List (Int × Int) := ws.map fun p => (p.1, p.2 - cntW ps p.1)
theorem frL_fst (ws ps : List (Int × Int)) : (frL ws ps).map Prod.fst = ws.map Prod.fst := by unfold frL; rw [List.map_map]; rfl
theorem frL_nil (ws : List (Int × Int)) : frL ws [] = ws := by
  unfold frL
  conv => rhs; rw [← List.map_id ws]
  refine List.map_congr_left fun p _ => ?_
  rw [cntW_nil, Int.sub_zero]; rfl
theorem asc_nodup {ws : List (Int × Int)} (h : asc ws) : (ws.map Prod.fst).Nodup := List.pairwise_map.2 (List.Pairwise.imp (fun {a b} h => by omega) h)
theorem frL_get {ws ps : List (Int × Int)} {j : Nat} {x c : Int} (h : (frL ws ps)[j]? = some (x, c)) : ∃ p, ws[j]? = some p ∧ p.1 = x ∧ c = p.2 - cntW ps x := by
  unfold frL at h
  rw [List.getElem?_map] at h
  obtain ⟨p, hp, he⟩ := Option.map_eq_some_iff.1 h
  have h1 := congrArg Prod.fst he
  have h2 := congrArg Prod.snd he
  dsimp only at h1 h2
  exact ⟨p, hp, h1, by rw [← h2, h1]⟩
theorem frL_set {ws ps : List (Int × Int)} {q : Int × Int} {j : Nat} {c : Int} (ha : asc ws) (h : (frL ws ps)[j]? = some (q.2, c)) : (frL ws ps).set j (q.2, c - 1) = frL ws (ps ++ [q]) := by
  obtain ⟨p, hp, he, hc⟩ := frL_get h
  refine List.ext_getElem? fun i => ?_
  rw [List.getElem?_set]
  by_cases hij : j = i
  · subst hij
    rw [if_pos rfl, if_pos (List.getElem?_eq_some_iff.1 h).1]
    unfold frL
    rw [List.getElem?_map, hp]
    show some (q.2, c - 1) = some (p.1, p.2 - cntW (ps ++ [q]) p.1)
    rw [cntW_snoc, if_pos he.symm, he, hc]
    congr 2
    omega
  · rw [if_neg hij]
    unfold frL
    rw [List.getElem?_map, List.getElem?_map]
    cases hw : ws[i]? with
    | none => rfl
    | some r =>
      show some (r.1, r.2 - cntW ps r.1) = some (r.1, r.2 - cntW (ps ++ [q]) r.1)
      have hne : q.2 ≠ r.1 := fun h2 => by
        rcases Nat.lt_or_gt_of_ne hij with h3 | h3
        · have := asc_lt ha hp hw h3; omega
        · have := asc_lt ha hw hp h3; omega
      rw [cntW_snoc, if_neg hne, Int.add_zero]
/-- Rows that free may read. -/
def flH (ws ps : List (Int × Int)) : List (Nat × Blk) := [(0, .ext 2 ws.length (.vs (ws.map enc2))), (1, .ext 2 ps.length (.vs (ps.map enc2)))]
def freeC (ws ps : List (Int × Int)) : Sy.Ctr Unit := { avs := [.agg [.row 0, .row 1]], n0 := 2, H0 := flH ws ps, sv := fun _ => .c (.row 2), n1 := fun _ => 3, H1 := fun _ => [(2, .mp (mpI (frL ws ps)))] }
/-- What free needs of a floor. -/
def FrOk (ws ps : List (Int × Int)) : Prop := asc ws ∧ (∀ p ∈ ws, 1 ≤ p.2 ∧ p.2 ≤ 8) ∧ (∀ q ∈ ps, ∃ p ∈ ws, p.1 = q.2) ∧ ws.length ≤ 1000 ∧ ps.length ≤ 1000
attribute [local irreducible] mpI frL cntW
set_option maxHeartbeats 1000000 in
theorem free_does (ws ps : List (Int × Int)) (h : FrOk ws ps) : Sy.Does Try.prog 45 (freeC ws ps) := by
  obtain ⟨ha, hs, hin, hwl, hpl⟩ := h
  have z0 : mpI [] = [] := by unfold mpI; rfl
  refine Sy.does_of Sy.lv45 Sy.tab_ok Try.func45 rfl _ Try.ntmps45 _ rfl rfl (fun e0 w hpre => ?_)
  ((repeat' ((conv => whnf);(first|refine zA ?_|(refine zI ?_ ?_<;> intro hh<;> first|(exfalso;omega)|skip)|(refine zl ?_ ?_<;> intro hh)|refine zq ?_|refine zv ?_|refine zu ?_|exact Sy.fin_val fun e=>rfl)));(all_goals (try conv => whnf)))
  refine Sy.loop_inv Sy.tab_ok (fun n : Nat => [(12, .c (.v (.int .i64 n)))]) (fun n => [(3, .mp (mpI (ws.take n)))]) (fun n => n ≤ ws.length) (fun n => ws.length - n) 0 (Nat.zero_le _) ?_ (fun n hn => ?_)
  · rw [List.take_zero, z0]
    ((repeat' (first|((conv => whnf);done)|((try conv => whnf);first|exact trivial|(refine And.intro ?_ ?_)|rfl|exact fun _ _ _ h=>h|exact fun _ _ _ _=>trivial)));(all_goals (try conv => whnf)))
  · ((repeat' ((conv => whnf);(first|refine zA ?_|(refine zI ?_ ?_<;> intro hh<;> first|(exfalso;omega)|skip)|(refine zl ?_ ?_<;> intro hh)|refine zq ?_|refine zv ?_|refine zu ?_|exact Sy.fin_val fun e=>rfl)));(all_goals (try conv => whnf)))
    · have hlt : n < ws.length := by omega
      have hgn := List.getElem?_eq_getElem hlt
      have hsn : ws.take (n + 1) = ws.take n ++ [ws[n]] := List.take_succ_eq_append_getElem hlt
      have hno : ∀ z ∈ ws.take n, z.1 ≠ ws[n].1 := fun z hz => by
        obtain ⟨j, hj⟩ := List.mem_iff_getElem?.1 hz
        have hjn : j < n := by
          have := (List.getElem?_eq_some_iff.1 hj).1
          rw [List.length_take] at this; omega
        rw [List.getElem?_take_of_lt hjn] at hj
        have := asc_lt ha hj hgn hjn
        omega
      generalize ws[n] = p at *
      refine Sy.el_map p hgn ?_
      ((repeat' ((conv => whnf);(first|refine zA ?_|(refine zI ?_ ?_<;> intro hh<;> first|(exfalso;omega)|skip)|(refine zl ?_ ?_<;> intro hh)|refine zq ?_|refine zv ?_|refine zu ?_|exact Sy.fin_val fun e=>rfl)));(all_goals (try conv => whnf)))
      refine miss_i _ p.1 hno ?_
      ((repeat' ((conv => whnf);(first|refine zA ?_|(refine zI ?_ ?_<;> intro hh<;> first|(exfalso;omega)|skip)|(refine zl ?_ ?_<;> intro hh)|refine zq ?_|refine zv ?_|refine zu ?_|exact Sy.fin_val fun e=>rfl)));(all_goals (try conv => whnf)))
      refine ⟨n + 1, by omega, by omega, ?_⟩
      rw [hsn]
      ((repeat' (first|((conv => whnf);done)|((try conv => whnf);first|exact trivial|(refine And.intro ?_ ?_)|rfl|exact fun _ _ _ h=>h|exact fun _ _ _ _=>trivial)));(all_goals (try conv => whnf)))
      all_goals exact mpI_add _ _ _
    · have e : n = ws.length := by omega
      rw [e, List.take_length]
      refine Sy.loop_inv Sy.tab_ok (fun n : Nat => [(25, .c (.v (.int .i64 n)))]) (fun n => [(3, .mp (mpI (frL ws (ps.take n))))]) (fun n => n ≤ ps.length) (fun n => ps.length - n) 0 (Nat.zero_le _) ?_ (fun n hn => ?_)
      · rw [List.take_zero, frL_nil]
        ((repeat' (first|((conv => whnf);done)|((try conv => whnf);first|exact trivial|(refine And.intro ?_ ?_)|rfl|exact fun _ _ _ h=>h|exact fun _ _ _ _=>trivial)));(all_goals (try conv => whnf)))
      · ((repeat' ((conv => whnf);(first|refine zA ?_|(refine zI ?_ ?_<;> intro hh<;> first|(exfalso;omega)|skip)|(refine zl ?_ ?_<;> intro hh)|refine zq ?_|refine zv ?_|refine zu ?_|exact Sy.fin_val fun e=>rfl)));(all_goals (try conv => whnf)))
        · have hlt : n < ps.length := by omega
          have hgn := List.getElem?_eq_getElem hlt
          have hsn : ps.take (n + 1) = ps.take n ++ [ps[n]] := List.take_succ_eq_append_getElem hlt
          have hpw := hin _ (List.getElem_mem hlt)
          generalize ps[n] = q at *
          obtain ⟨p, hp, hpe⟩ := hpw
          have hps := hs p hp
          have hmem : (q.2, p.2 - cntW (ps.take n) q.2) ∈ frL ws (ps.take n) := by unfold frL; exact List.mem_map.2 ⟨p, hp, by rw [hpe]⟩
          have hcb := cntW_le (ps.take n) q.2
          rw [List.length_take] at hcb
          have hnd : ((frL ws (ps.take n)).map Prod.fst).Nodup := by rw [frL_fst]; exact asc_nodup ha
          refine Sy.el_map q hgn ?_
          ((repeat' ((conv => whnf);(first|refine zA ?_|(refine zI ?_ ?_<;> intro hh<;> first|(exfalso;omega)|skip)|(refine zl ?_ ?_<;> intro hh)|refine zq ?_|refine zv ?_|refine zu ?_|exact Sy.fin_val fun e=>rfl)));(all_goals (try conv => whnf)))
          refine hit_i _ q.2 _ hnd hmem (fun j hj1 hj2 => ?_)
          ((repeat' ((conv => whnf);(first|refine zA ?_|(refine zI ?_ ?_<;> intro hh<;> first|(exfalso;omega)|skip)|(refine zl ?_ ?_<;> intro hh)|refine zq ?_|refine zv ?_|refine zu ?_|exact Sy.fin_val fun e=>rfl)));(all_goals (try conv => whnf)))
          refine hit_i _ q.2 _ hnd hmem (fun j2 hj3 hj4 => ?_)
          ((repeat' ((conv => whnf);(first|refine zA ?_|(refine zI ?_ ?_<;> intro hh<;> first|(exfalso;omega)|skip)|(refine zl ?_ ?_<;> intro hh)|refine zq ?_|refine zv ?_|refine zu ?_|exact Sy.fin_val fun e=>rfl)));(all_goals (try conv => whnf)))
          refine ⟨n + 1, by omega, by omega, ?_⟩
          rw [hsn, ← frL_set ha hj4]
          ((repeat' (first|((conv => whnf);done)|((try conv => whnf);first|exact trivial|(refine And.intro ?_ ?_)|rfl|exact fun _ _ _ h=>h|exact fun _ _ _ _=>trivial)));(all_goals (try conv => whnf)))
          all_goals exact mpI_set _ _ _ _ _ hj4
        · have e : n = ps.length := by omega
          rw [e, List.take_length]
          refine Sy.fin_own () trivial ?_
          ((conv => whnf);(refine And.intro ?_ (And.intro ?_ (And.intro ?_ ?_)));(all_goals ((repeat' (first|((conv => whnf);done)|((try conv => whnf);first|exact trivial|(refine And.intro ?_ ?_)|rfl|exact fun _ _ _ h=>h|exact fun _ _ _ _=>trivial)));(all_goals (try conv => whnf)))))
end Go.Proofs.Ytjhjmeajdebcbaa
