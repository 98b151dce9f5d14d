/- Retain: Settle. -/
import Derived.Test.YtkmdmjnbjoakbaaReK
namespace Go.Proofs.Ytkmdmjnbjoakbaa
open Go Go.RowKit
open Sy (C SV V1 Blk St XD Els)
set_option maxRecDepth 10000

theorem asc_inj {ks : List Kp} (h : asc ks) {i j : Nat} {a b : Kp} (hi : ks[i]? = some a) (hj : ks[j]? = some b) (he : a.number = b.number) : i = j := by
  rcases Nat.lt_trichotomy i j with h1 | h1 | h1
  · have := h i j a b hi hj h1; omega
  · exact h1
  · have := h j i b a hj hi h1; omega
theorem plc_some {ks : List Kp} (h : asc ks) {x : Int} {n : Nat} {k : Kp} (hk : ks[n]? = some k) (hx : k.number = x) : plc ks x = some n := by
  obtain ⟨hn, he⟩ := List.getElem?_eq_some_iff.1 hk
  unfold plc
  rw [List.findIdx?_eq_some_iff_getElem]
  refine ⟨hn, by simp [he, hx], fun j hj => ?_⟩
  have := h j n ks[j] k (List.getElem?_eq_getElem (by omega)) hk hj
  simp; omega
theorem plc_none {ks : List Kp} {x : Int} (hk : ∀ k ∈ ks, k.number ≠ x) : plc ks x = none := by
  unfold plc
  rw [List.findIdx?_eq_none_iff]
  intro k hk'
  simp [hk k hk']
/-- What is done to row n. -/
theorem turn_at {keep : Int} {ks : List Kp} {x : Int} {kind n : Nat} {k : Kp} (hk : okS keep ks = true) (h : asc ks) (hg : ks[n]? = some k) (hx : k.number = x) : turnV keep ks x kind = (match chg ks n k kind with
    | .inr e => ((0, []), [], e)
    | .inl r => ((keep, (cutL keep (ks.set n r)).1), (cutL keep (ks.set n r)).2, 0)) := by
  unfold turnV
  rw [if_pos hk, plc_some h hg hx]
  simp only [hg, Option.getD_some]
  cases chg ks n k kind <;> rfl
theorem turn_none {keep : Int} {ks : List Kp} {x : Int} {kind : Nat} (hk : okS keep ks = true) (h : ∀ k ∈ ks, k.number ≠ x) : turnV keep ks x kind = ((0, []), [], 4) := by
  unfold turnV
  rw [if_pos hk, plc_none h]
theorem turn_bad {keep : Int} {ks : List Kp} {x : Int} {kind : Nat} (hk : ¬ okS keep ks = true) : turnV keep ks x kind = ((0, []), [], 330) := by unfold turnV; rw [if_neg hk]
theorem set_rising {ks : List Kp} {n : Nat} {k r : Kp} (h : rising ks) (hg : ks[n]? = some k) (hr : r.number = k.number) : rising (ks.set n r) := by
  unfold rising at *
  have : (ks.set n r).map (·.number) = ks.map (·.number) := by
    rw [List.map_set]
    obtain ⟨hn, he⟩ := List.getElem?_eq_some_iff.1 hg
    refine List.ext_getElem? fun i => ?_
    rw [List.getElem?_set]
    split
    · rename_i hi
      subst hi
      simp [hn, he, hr]
    · rfl
  rw [this]; exact h
theorem cut_gone (keep : Int) (hk : 1 ≤ keep) : ∀ (ks : List Kp), (cutL keep ks).2.length ≤ cntP ks - 1
  | [] => Nat.le_refl _
  | k :: r => by
    have ih := cut_gone keep hk r
    rw [cut_cons, cnt_cons]
    split
    · rename_i h
      rw [if_pos h.1, List.length_cons]
      omega
    · split <;> simp <;> omega
/-- What is open stands behind what is not. -/
theorem opn_mono {ks : List Kp} : ∀ {l : Kp}, okL l ks = true → ∀ (i j : Nat) (a b : Kp), ks[i]? = some a → ks[j]? = some b → i ≤ j → a.opn = true → b.opn = true := by
  intro l h i j a b ha hb hij hao
  induction j generalizing b with
  | zero =>
    have : i = 0 := by omega
    subst this; rw [ha] at hb; cases hb; exact hao
  | succ j ih =>
    by_cases he : i = j + 1
    · subst he; rw [ha] at hb; cases hb; exact hao
    · obtain ⟨hj1, hjb⟩ := List.getElem?_eq_some_iff.1 hb
      have hj : j < ks.length := by omega
      have h1 := ih ks[j] (List.getElem?_eq_getElem hj) (by omega)
      have h2 := okL_get ks l h (j + 1) hj1
      simp only [List.getElem?_eq_getElem hj, Option.getD_some] at h2
      rw [← hjb]
      exact ((kok_true _ _).1 h2).2.2 h1
theorem lastK_get {ks : List Kp} {n : Nat} {k : Kp} (h : ks[n]? = some k) : lastK ks (n + 1) = k := by simp [lastK, h]
/-- Row n is the next one just if it is open and the one ahead of it is not. -/
theorem next_iff {keep : Int} {ks : List Kp} (hk : okS keep ks = true) {n : Nat} {k : Kp} (hg : ks[n]? = some k) : nextV keep ks = (k.number, true) ↔ (k.opn = true ∧ (n = 0 ∨ (lastK ks n).opn = false)) := by
  have hol := (okS_bd hk).2.2.2
  have hasc := asc_of (okL_asc ks k0 hol)
  constructor
  · intro h
    cases hf : ks.find? (·.opn) with
    | none => rw [nextV_none hf] at h; exact absurd (congrArg Prod.snd h) (by simp)
    | some q =>
      rw [nextV_some hk hf] at h
      have hq : q.number = k.number := by injection h
      obtain ⟨m, hm, hmq, hmin⟩ := List.find?_eq_some_iff_getElem.1 hf |>.2
      have hmg : ks[m]? = some q := by rw [List.getElem?_eq_getElem hm, hmq]
      have := asc_inj hasc hmg hg hq
      subst this
      rw [hg] at hmg
      cases hmg
      refine ⟨(List.find?_eq_some_iff_getElem.1 hf).1, ?_⟩
      cases m with
      | zero => exact .inl rfl
      | succ m =>
        have := hmin m (Nat.lt_succ_self m)
        rw [lastK_succ _ _ (by omega)]
        exact .inr (by simpa using this)
  · rintro ⟨ho, hp⟩
    have hf : ks.find? (·.opn) = some k := by
      rw [List.find?_eq_some_iff_getElem]
      obtain ⟨hn, he⟩ := List.getElem?_eq_some_iff.1 hg
      refine ⟨ho, n, hn, he, fun j hj => ?_⟩
      cases hb : ks[j].opn with
      | false => rfl
      | true =>
        exfalso
        rcases hp with rfl | hp
        · omega
        · obtain ⟨m, rfl⟩ : ∃ m, n = m + 1 := ⟨n - 1, by omega⟩
          rw [lastK_succ _ _ (by omega)] at hp
          have := opn_mono hol j m _ _ (List.getElem?_eq_getElem (by omega)) (List.getElem?_eq_getElem (by omega)) (by omega) hb
          rw [hp] at this; cases this
    exact nextV_some hk hf
theorem chg0 (ks : List Kp) (n : Nat) (k : Kp) : chg ks n k 0 = if k.opn = true ∧ (n = 0 ∨ (lastK ks n).opn = false) then .inl { k with opn := false } else .inr 331 := rfl
theorem chg1 (ks : List Kp) (n : Nat) (k : Kp) : chg ks n k 1 = if k.save = true then .inl { k with save := false } else .inr 2 := rfl
theorem chg2 (ks : List Kp) (n : Nat) (k : Kp) : chg ks n k 2 = if k.save = true then .inr 5 else .inl { k with save := true } := rfl
attribute [local irreducible] okS chkE
set_option maxHeartbeats 1000000 in
theorem settle_any (keep : Int) (v : Value) (ks : List Kp) (number : Int) (w : World) (hr : XD.ok (fun b => b < w.heap.size) w ⟨v, 3, ks.length, ks.map encK⟩) :
    Calls Try.prog 16 #[.agg #[.int .i64 keep, v], .int .u64 number] w (Sy.RetRows Sy.noRow (fun _ : Unit => True) (fun _ => turnR (turnV keep ks number 0)) (fun _ => turnVal (turnV keep ks number 0)) w) := by
  have hl := ok_len hr
  refine Sy.calls_of Sy.lv16 Sy.tab_ok Try.func16 rfl _ Try.ntmps16 [⟨v, 3, ks.length, ks.map encK⟩] [.agg [.v (.int .i64 keep), .row 0], .c (.v (.int .u64 number))] rfl rfl rfl ⟨hr, trivial⟩ ?_
  ((repeat' ((conv => whnf);(first|refine zA ?_|(refine zI ?_ ?_<;> intro hh<;> first|(exfalso;omega)|skip)|(refine zl ?_ ?_<;> intro hh)|refine zq ?_|refine zv ?_|refine zu ?_|exact Sy.fin_val fun e=>rfl)));(all_goals (try conv => whnf)))
  refine Sy.call_in Sy.lv33 Sy.tab_ok Try.func33 rfl _ Try.ntmps33 Try.call33 rfl (fun _ => ?_)
  ((repeat' ((conv => whnf);(first|refine zA ?_|(refine zI ?_ ?_<;> intro hh<;> first|(exfalso;omega)|skip)|(refine zl ?_ ?_<;> intro hh)|refine zq ?_|refine zv ?_|refine zu ?_|exact Sy.fin_val fun e=>rfl)));(all_goals (try conv => whnf)))
  refine Sy.call_in Sy.lv27 Sy.tab_ok Try.func27 rfl _ Try.ntmps27 Try.call27 rfl (fun _ => ?_)
  ((repeat' ((conv => whnf);(first|refine zA ?_|(refine zI ?_ ?_<;> intro hh<;> first|(exfalso;omega)|skip)|(refine zl ?_ ?_<;> intro hh)|refine zq ?_|refine zv ?_|refine zu ?_|exact Sy.fin_val fun e=>rfl)));(all_goals (try conv => whnf)))
  by_cases hk : okS keep ks = true
  · have hb := okS_bd hk
    have hris := okL_rising hb.2.2.2
    have hasc := asc_of hris
    refine Sy.call_val (.c (.v (.int .i64 0))) Try.call24 rfl (fun e a w' h => by have := check_any keep (e.rv 0) ks w' (Sy.row_reads h (.inr rfl)); rw [chkE_ok hk] at this; exact this) ?_
    ((repeat' ((conv => whnf);(first|refine zA ?_|(refine zI ?_ ?_<;> intro hh<;> first|(exfalso;omega)|skip)|(refine zl ?_ ?_<;> intro hh)|refine zq ?_|refine zv ?_|refine zu ?_|exact Sy.fin_val fun e=>rfl)));(all_goals (try conv => whnf)))
    refine Sy.call_r1 ⟨39, 3, ks.length, ks.map encK⟩ (fun k => .c (.row k)) Try.call39 (fun e a w' h => cloneK_any (e.rv 0) ks w' (Sy.row_reads h (.inr rfl)) (by omega)) ?_
    ((repeat' ((conv => whnf);(first|refine zA ?_|(refine zI ?_ ?_<;> intro hh<;> first|(exfalso;omega)|skip)|(refine zl ?_ ?_<;> intro hh)|refine zq ?_|refine zv ?_|refine zu ?_|exact Sy.fin_val fun e=>rfl)));(all_goals (try conv => whnf)))
    refine Sy.call_in Sy.lv42 Sy.tab_ok Try.func42 rfl _ Try.ntmps42 Try.call42 rfl (fun _ => ?_)
    ((repeat' ((conv => whnf);(first|refine zA ?_|(refine zI ?_ ?_<;> intro hh<;> first|(exfalso;omega)|skip)|(refine zl ?_ ?_<;> intro hh)|refine zq ?_|refine zv ?_|refine zu ?_|exact Sy.fin_val fun e=>rfl)));(all_goals (try conv => whnf)))
    refine Sy.draw_go [] (by kernel_rfl) ?_
    intro e0
    conv => whnf
    refine zt 0 rfl ?_
    conv => whnf
    refine zt 1 rfl ?_
    conv => whnf
    refine zt 2 rfl ?_
    conv => whnf
    refine zt 3 rfl ?_
    conv => whnf
    refine zd1 [4] (zx rfl ?_ zy)
    conv => whnf
    refine Sy.call_ex (plcP ks number) (fun r => .tup [.c (.v (.int .i64 r.1)), .c (.v (.bool r.2))]) Try.call43 (fun _ _ => rfl) (fun e a w' h => place_any keep (e.rv 12) ks number w' (Sy.row_reads h (.inl ⟨_, rfl⟩)) hasc (by omega)) (fun r hp => ?_)
    conv => whnf
    refine ⟨(by repeat' ((conv => whnf);first|exact trivial|(refine And.intro ?_ ?_)|rfl)), ?_⟩
    refine zt 5 rfl ?_
    conv => whnf
    refine zt 6 rfl ?_
    conv => whnf
    refine zt 7 rfl ?_
    conv => whnf
    refine zt 8 rfl ?_
    conv => whnf
    refine zt 9 rfl ?_
    conv => whnf
    refine zw ?_
    ((repeat' ((conv => whnf);(first|refine zA ?_|(refine zI ?_ ?_<;> intro hh<;> first|(exfalso;omega)|skip)|(refine zl ?_ ?_<;> intro hh)|refine zq ?_|refine zv ?_|refine zu ?_|exact Sy.fin_val fun e=>rfl)));(all_goals (try conv => whnf)))
    · rcases hp with ⟨h1, n, k, e1, hg, hx⟩ | ⟨h1, h2⟩
      · obtain ⟨i, b⟩ := r
        dsimp only at *
        subst e1
        have hn := (List.getElem?_eq_some_iff.1 hg).1
        have hti := next_iff hk hg
        have htn := turn_at (kind := 0) hk hasc hg hx
        generalize hnv : nextV keep ks = nv at *
        obtain ⟨nn, nb⟩ := nv
        all_goals (refine Sy.draw_go [12] (by kernel_rfl) ?_; intro e0; conv => whnf)
        all_goals (refine zt 0 rfl ?_)
        all_goals (conv => whnf)
        all_goals (refine zt 1 rfl ?_)
        all_goals (conv => whnf)
        all_goals (refine zt 2 rfl ?_)
        all_goals (conv => whnf)
        all_goals (refine zt 3 rfl ?_)
        all_goals (conv => whnf)
        all_goals (refine zt 4 rfl ?_)
        all_goals (conv => whnf)
        all_goals (refine zt 5 rfl ?_)
        all_goals (conv => whnf)
        all_goals (refine zt 6 rfl ?_)
        all_goals (conv => whnf)
        all_goals (refine zd1 [7] (zx rfl ?_ zy))
        all_goals (conv => whnf)
        all_goals (refine Sy.idx_nat hn ?_)
        all_goals (conv => whnf)
        all_goals (refine ⟨(by repeat' ((conv => whnf);first|exact trivial|(refine And.intro ?_ ?_)|rfl)), ?_⟩)
        all_goals (refine zd1 [8] (zx rfl ?_ zy))
        all_goals (conv => whnf)
        all_goals (refine Sy.call_in Sy.lv34 Sy.tab_ok Try.func34 rfl _ Try.ntmps34 Try.call34 rfl (fun _ => ?_))
        all_goals (((repeat' ((conv => whnf);(first|refine zA ?_|(refine zI ?_ ?_<;> intro hh<;> first|(exfalso;omega)|skip)|(refine zl ?_ ?_<;> intro hh)|refine zq ?_|refine zv ?_|refine zu ?_|exact Sy.fin_val fun e=>rfl)));(all_goals (try conv => whnf))))
        all_goals (refine Sy.call_val (.tup [.c (.v (.int .u64 nn)), .c (.v (.bool nb))]) Try.call15 rfl (fun e a w' h => by have := next_any keep (e.rv 12) ks w' (Sy.row_reads h (.inl ⟨_, rfl⟩)); rw [hnv] at this; exact this) ?_)
        all_goals (((repeat' ((conv => whnf);(first|refine zA ?_|(refine zI ?_ ?_<;> intro hh<;> first|(exfalso;omega)|skip)|(refine zl ?_ ?_<;> intro hh)|refine zq ?_|refine zv ?_|refine zu ?_|exact Sy.fin_val fun e=>rfl)));(all_goals (try conv => whnf))))
        all_goals ((try refine Sy.el_map k hg ?_); (try ((repeat' ((conv => whnf);(first|refine zA ?_|(refine zI ?_ ?_<;> intro hh<;> first|(exfalso;omega)|skip)|(refine zl ?_ ?_<;> intro hh)|refine zq ?_|refine zv ?_|refine zu ?_|exact Sy.fin_val fun e=>rfl)));(all_goals (try conv => whnf)))))
        all_goals (refine ⟨(by repeat' ((conv => whnf);first|exact trivial|(refine And.intro ?_ ?_)|rfl)), ?_⟩)
        all_goals (refine zt 9 rfl ?_)
        all_goals (conv => whnf)
        all_goals (refine zw ?_)
        all_goals ((repeat' ((conv => whnf);(first|refine zA ?_|(refine zI ?_ ?_<;> intro hh<;> first|(exfalso;omega)|skip)|(refine zl ?_ ?_<;> intro hh)|refine zq ?_|refine zv ?_|refine zu ?_|exact Sy.fin_val fun e=>rfl)));(all_goals (try conv => whnf)))
        · have hch : chg ks n k 0 = .inl { k with opn := false } := by
            rw [chg0, if_pos (hti.1 (by simp_all))]
          rw [hch] at htn
          generalize hr' : ({ k with opn := false } : Kp) = r' at *
          have hrn : r'.number = k.number := by rw [← hr']
          have hgone := cut_gone keep hb.1 (ks.set n r')
          have hcnt : cntP (ks.set n r') ≤ ks.length := Nat.le_trans (List.length_filter_le _ _) (Nat.le_of_eq List.length_set)
          have hcl := cut_len keep (ks.set n r')
          rw [List.length_set] at hcl
          refine Sy.call_own (drop_does keep (ks.set n r') (set_rising hris hg hrn) ⟨by omega, by omega⟩ (by rw [List.length_set]; omega) (by omega)) Try.call40 ?_
          ((conv => whnf);(refine And.intro ?_ (And.intro ?_ (And.intro ?_ (And.intro ?_ ?_))));(all_goals ((repeat' (first|((conv => whnf);done)|((try conv => whnf);first|exact trivial|(refine And.intro ?_ ?_)|rfl|exact fun _ _ _ h=>h|exact fun _ _ _ _=>trivial)));(all_goals (try conv => whnf))));rotate_right)
          · intro _ _ _
            ((repeat' ((conv => whnf);(first|refine zA ?_|(refine zI ?_ ?_<;> intro hh<;> first|(exfalso;omega)|skip)|(refine zl ?_ ?_<;> intro hh)|refine zq ?_|refine zv ?_|refine zu ?_|exact Sy.fin_val fun e=>rfl)));(all_goals (try conv => whnf)))
            rw [htn]
            exact Sy.fin_r2 (.row 14) (.row 13) rfl rfl
          · rw [List.length_set]
          · rw [List.map_set, ← hr']; rfl
        · rw [htn, show chg ks n k 0 = .inr 331 by rw [chg0, if_neg (fun h => by have := hti.2 h; simp_all)]]
          exact Sy.fin_r2 (.v (.slice none 0 0)) (.v (.slice none 0 0)) ⟨rfl, rfl⟩ ⟨rfl, rfl⟩
        · rw [htn, show chg ks n k 0 = .inr 331 by rw [chg0, if_neg (fun h => by have := hti.2 h; simp_all)]]
          exact Sy.fin_r2 (.v (.slice none 0 0)) (.v (.slice none 0 0)) ⟨rfl, rfl⟩ ⟨rfl, rfl⟩
      · exfalso; simp_all
    · rcases hp with ⟨h1, n, k, e1, hg, hx⟩ | ⟨h1, h2⟩
      · exfalso; simp_all
      · rw [turn_none hk h2]
        exact Sy.fin_r2 (.v (.slice none 0 0)) (.v (.slice none 0 0)) ⟨rfl, rfl⟩ ⟨rfl, rfl⟩
  · refine Sy.call_val (.c (.v (.int .i64 330))) Try.call24 rfl (fun e a w' h => by have := check_any keep (e.rv 0) ks w' (Sy.row_reads h (.inr rfl)); rw [chkE_no hk] at this; exact this) ?_
    ((repeat' ((conv => whnf);(first|refine zA ?_|(refine zI ?_ ?_<;> intro hh<;> first|(exfalso;omega)|skip)|(refine zl ?_ ?_<;> intro hh)|refine zq ?_|refine zv ?_|refine zu ?_|exact Sy.fin_val fun e=>rfl)));(all_goals (try conv => whnf)))
    rw [turn_bad hk]
    exact Sy.fin_r2 (.v (.slice none 0 0)) (.v (.slice none 0 0)) ⟨rfl, rfl⟩ ⟨rfl, rfl⟩
end Go.Proofs.Ytkmdmjnbjoakbaa
