/- Retain: the document's Turn; wakes. -/
import Derived.Test.YtkmdmjnbjoakbaaReO
namespace Go.Proofs.Ytkmdmjnbjoakbaa
open Go Go.RowKit
open Sy (C SV V1 Blk St XD Els)
set_option maxRecDepth 10000
attribute [local irreducible] okS chkE

theorem plc_get {ks : List Kp} {x : Int} {n : Nat} (h : plc ks x = some n) : ∃ k, ks[n]? = some k ∧ k.number = x := by
  unfold plc at h
  obtain ⟨hn, h1, _⟩ := List.findIdx?_eq_some_iff_getElem.1 h
  exact ⟨ks[n], List.getElem?_eq_getElem hn, by simpa using h1⟩
theorem turn_some {keep : Int} {ks : List Kp} {x : Int} {kind n : Nat} {k : Kp} (hk : okS keep ks = true) (hp : plc ks x = some n) (hg : ks[n]? = some k) : turnV keep ks x kind = (match chg ks n k kind with
    | .inr e => ((0, []), [], e)
    | .inl r => ((keep, (cutL keep (ks.set n r)).1), (cutL keep (ks.set n r)).2, 0)) := by
  unfold turnV
  rw [if_pos hk, hp]
  simp only [hg, Option.getD_some]
  cases chg ks n k kind <;> rfl
set_option maxHeartbeats 2000000 in
theorem rturn_any (keep : Int) (v : Value) (ks : List Kp) (number : Int) (kind : Nat) (w : World) (hr : XD.ok (fun b => b < w.heap.size) w ⟨v, 3, ks.length, ks.map encK⟩) (hkd : kind = 0 ∨ kind = 1 ∨ kind = 2) :
    Calls Try.prog 18 #[.agg #[.int .i64 keep, v], .int .u64 number, .int .i64 kind] w (Sy.RetRows Sy.noRow (fun _ : Unit => True) (fun _ => turnR (turnV keep ks number kind)) (fun _ => turnVal (turnV keep ks number kind)) w) := by
  have hl := ok_len hr
  refine Sy.calls_of Sy.lv18 Sy.tab_ok Try.func18 rfl _ Try.ntmps18 [⟨v, 3, ks.length, ks.map encK⟩] [.agg [.v (.int .i64 keep), .row 0], .c (.v (.int .u64 number)), .c (.v (.int .i64 kind))] rfl rfl rfl ⟨hr, trivial⟩ ?_
  ((repeat' ((conv => whnf);(first|refine zA ?_|(refine zI ?_ ?_<;> intro hh<;> first|(exfalso;omega)|skip)|(refine zl ?_ ?_<;> intro hh)|refine zq ?_|refine zv ?_|refine zu ?_|exact Sy.fin_val fun e=>rfl)));(all_goals (try conv => whnf)))
  by_cases hk : okS keep ks = true
  · refine Sy.call_val (.c (.v (.bool true))) Try.call23 rfl (fun e a w' h => by have := right_any keep (e.rv 0) ks w' (Sy.row_reads h (.inr rfl)); rw [hk] at this; exact this) ?_
    have hb := okS_bd hk
    ((repeat' ((conv => whnf);(first|refine zA ?_|(refine zI ?_ ?_<;> intro hh<;> first|(exfalso;omega)|skip)|(refine zl ?_ ?_<;> intro hh)|refine zq ?_|refine zv ?_|refine zu ?_|exact Sy.fin_val fun e=>rfl)));(all_goals (try conv => whnf)))
    refine Sy.call_val (.c (.v (.int .i64 (plcI ks number)))) Try.call35 rfl (fun e a w' h => rplace_any keep (e.rv 0) ks number w' (Sy.row_reads h (.inr rfl))) ?_
    cases hp : plc ks number with
    | none =>
      rw [show plcI ks number = -1 by unfold plcI; rw [hp]]
      ((repeat' ((conv => whnf);(first|refine zA ?_|(refine zI ?_ ?_<;> intro hh<;> first|(exfalso;omega)|skip)|(refine zl ?_ ?_<;> intro hh)|refine zq ?_|refine zv ?_|refine zu ?_|exact Sy.fin_val fun e=>rfl)));(all_goals (try conv => whnf)))
      rw [show turnV keep ks number kind = ((0, []), [], 4) by unfold turnV; rw [if_pos hk, hp]]
      exact Sy.fin_r2 (.v (.slice none 0 0)) (.v (.slice none 0 0)) ⟨rfl, rfl⟩ ⟨rfl, rfl⟩
    | some n =>
      rw [show plcI ks number = (n : Int) by unfold plcI; rw [hp]]
      obtain ⟨k, hg, hx⟩ := plc_get hp
      have hn := (List.getElem?_eq_some_iff.1 hg).1
      have htn := fun kd => turn_some (kind := kd) hk hp hg
      obtain ⟨q, hq, hln⟩ : ∃ q, ks[((n : Int) - 1).toNat]? = some q ∧ (0 < n → lastK ks n = q) := ⟨ks[n - 1], by rw [show ((n : Int) - 1).toNat = n - 1 by omega]; exact List.getElem?_eq_getElem (by omega), fun h => by
        obtain ⟨m, rfl⟩ : ∃ m, n = m + 1 := ⟨n - 1, by omega⟩
        rw [lastK_succ _ _ (by omega)]; rfl⟩
      ((repeat' ((conv => whnf);(first|refine zA ?_|(refine zI ?_ ?_<;> intro hh<;> first|(exfalso;omega)|skip)|(refine zl ?_ ?_<;> intro hh)|refine zq ?_|refine zv ?_|refine zu ?_|exact Sy.fin_val fun e=>rfl)));(all_goals (try conv => whnf)))
      refine Sy.el_map k hg ?_
      ((repeat' ((conv => whnf);(first|refine zA ?_|(refine zI ?_ ?_<;> intro hh<;> first|(exfalso;omega)|skip)|(refine zl ?_ ?_<;> intro hh)|refine zq ?_|refine zv ?_|refine zu ?_|exact Sy.fin_val fun e=>rfl)));(all_goals (try conv => whnf)))
      all_goals (try refine Sy.el_map q hq ?_)
      all_goals (try ((repeat' ((conv => whnf);(first|refine zA ?_|(refine zI ?_ ?_<;> intro hh<;> first|(exfalso;omega)|skip)|(refine zl ?_ ?_<;> intro hh)|refine zq ?_|refine zv ?_|refine zu ?_|exact Sy.fin_val fun e=>rfl)));(all_goals (try conv => whnf))))
      all_goals first
        | (have hkind : kind = 0 := by omega
           subst hkind
           rw [htn, show chg ks n k 0 = .inr 331 by rw [chg0, if_neg (by rintro ⟨h1, h2 | h2⟩ <;> first | omega | (have := hln (by omega); simp_all) | simp_all)]]
           exact Sy.fin_r2 (.v (.slice none 0 0)) (.v (.slice none 0 0)) ⟨rfl, rfl⟩ ⟨rfl, rfl⟩)
        | (have hkind : kind = 1 := by omega
           subst hkind
           rw [htn, show chg ks n k 1 = .inr 2 by rw [chg1, if_neg (by simp_all)]]
           exact Sy.fin_r2 (.v (.slice none 0 0)) (.v (.slice none 0 0)) ⟨rfl, rfl⟩ ⟨rfl, rfl⟩)
        | (have hkind : kind = 2 := by omega
           subst hkind
           rw [htn, show chg ks n k 2 = .inr 5 by rw [chg2, if_pos (by simp_all)]]
           exact Sy.fin_r2 (.v (.slice none 0 0)) (.v (.slice none 0 0)) ⟨rfl, rfl⟩ ⟨rfl, rfl⟩)
        | skip
      all_goals first
        | (have hkind : kind = 0 := by omega
           subst hkind
           have hw : withV ks n (⟨k.number, k.save, false⟩ : Kp) = ks.set n (⟨k.number, k.save, false⟩ : Kp) := by rw [withV, if_neg (by omega)]
           have hwl : (ks.set n (⟨k.number, k.save, false⟩ : Kp)).length = ks.length := List.length_set
           rw [htn, show chg ks n k 0 = .inl (⟨k.number, k.save, false⟩ : Kp) by rw [chg0, if_pos (by refine ⟨by simp_all, ?_⟩; first | exact .inl (by omega) | exact .inr (by rw [hln (by omega)]; assumption))]]
           dsimp only
           generalize hkk : ks.set n (⟨k.number, k.save, false⟩ : Kp) = kk at *
           refine Sy.call_r1 ⟨39, 3, kk.length, kk.map encK⟩ (fun j => .agg [.v (.int .i64 keep), .row j]) Try.call30 (fun e a w' h => by have := with_any keep (e.rv 0) ks n (⟨k.number, k.save, false⟩ : Kp) w' (Sy.row_reads h (.inr rfl)) (by omega) (by omega); rw [hw] at this; exact this) ?_
           ((repeat' ((conv => whnf);(first|refine zA ?_|(refine zI ?_ ?_<;> intro hh<;> first|(exfalso;omega)|skip)|(refine zl ?_ ?_<;> intro hh)|refine zq ?_|refine zv ?_|refine zu ?_|exact Sy.fin_val fun e=>rfl)));(all_goals (try conv => whnf)))
           refine Sy.call_r2f ⟨39, 3, (cutL keep kk).1.length, (cutL keep kk).1.map encK⟩ ⟨25, 1, (cutL keep kk).2.length, (cutL keep kk).2.map encU⟩ (fun j => .tup [.agg [.v (.int .i64 keep), .row j], .c (.row (j + 1))]) Try.call29 (fun e a w' h => cut_any keep (e.rv 4) kk w' (Sy.row_reads h (.inl ⟨_, rfl⟩)) (by omega)) ?_
           ((repeat' ((conv => whnf);(first|refine zA ?_|(refine zI ?_ ?_<;> intro hh<;> first|(exfalso;omega)|skip)|(refine zl ?_ ?_<;> intro hh)|refine zq ?_|refine zv ?_|refine zu ?_|exact Sy.fin_val fun e=>rfl)));(all_goals (try conv => whnf)))
           exact Sy.fin_r2 (.row 5) (.row 6) rfl rfl)
        | (have hkind : kind = 1 := by omega
           subst hkind
           have hw : withV ks n (⟨k.number, false, k.opn⟩ : Kp) = ks.set n (⟨k.number, false, k.opn⟩ : Kp) := by rw [withV, if_neg (by omega)]
           have hwl : (ks.set n (⟨k.number, false, k.opn⟩ : Kp)).length = ks.length := List.length_set
           rw [htn, show chg ks n k 1 = .inl (⟨k.number, false, k.opn⟩ : Kp) by rw [chg1, if_pos (by simp_all)]]
           dsimp only
           generalize hkk : ks.set n (⟨k.number, false, k.opn⟩ : Kp) = kk at *
           refine Sy.call_r1 ⟨39, 3, kk.length, kk.map encK⟩ (fun j => .agg [.v (.int .i64 keep), .row j]) Try.call30 (fun e a w' h => by have := with_any keep (e.rv 0) ks n (⟨k.number, false, k.opn⟩ : Kp) w' (Sy.row_reads h (.inr rfl)) (by omega) (by omega); rw [hw] at this; exact this) ?_
           ((repeat' ((conv => whnf);(first|refine zA ?_|(refine zI ?_ ?_<;> intro hh<;> first|(exfalso;omega)|skip)|(refine zl ?_ ?_<;> intro hh)|refine zq ?_|refine zv ?_|refine zu ?_|exact Sy.fin_val fun e=>rfl)));(all_goals (try conv => whnf)))
           refine Sy.call_r2f ⟨39, 3, (cutL keep kk).1.length, (cutL keep kk).1.map encK⟩ ⟨25, 1, (cutL keep kk).2.length, (cutL keep kk).2.map encU⟩ (fun j => .tup [.agg [.v (.int .i64 keep), .row j], .c (.row (j + 1))]) Try.call29 (fun e a w' h => cut_any keep (e.rv 4) kk w' (Sy.row_reads h (.inl ⟨_, rfl⟩)) (by omega)) ?_
           ((repeat' ((conv => whnf);(first|refine zA ?_|(refine zI ?_ ?_<;> intro hh<;> first|(exfalso;omega)|skip)|(refine zl ?_ ?_<;> intro hh)|refine zq ?_|refine zv ?_|refine zu ?_|exact Sy.fin_val fun e=>rfl)));(all_goals (try conv => whnf)))
           exact Sy.fin_r2 (.row 5) (.row 6) rfl rfl)
        | (have hkind : kind = 2 := by omega
           subst hkind
           have hw : withV ks n (⟨k.number, true, k.opn⟩ : Kp) = ks.set n (⟨k.number, true, k.opn⟩ : Kp) := by rw [withV, if_neg (by omega)]
           have hwl : (ks.set n (⟨k.number, true, k.opn⟩ : Kp)).length = ks.length := List.length_set
           rw [htn, show chg ks n k 2 = .inl (⟨k.number, true, k.opn⟩ : Kp) by rw [chg2, if_neg (by simp_all)]]
           dsimp only
           generalize hkk : ks.set n (⟨k.number, true, k.opn⟩ : Kp) = kk at *
           refine Sy.call_r1 ⟨39, 3, kk.length, kk.map encK⟩ (fun j => .agg [.v (.int .i64 keep), .row j]) Try.call30 (fun e a w' h => by have := with_any keep (e.rv 0) ks n (⟨k.number, true, k.opn⟩ : Kp) w' (Sy.row_reads h (.inr rfl)) (by omega) (by omega); rw [hw] at this; exact this) ?_
           ((repeat' ((conv => whnf);(first|refine zA ?_|(refine zI ?_ ?_<;> intro hh<;> first|(exfalso;omega)|skip)|(refine zl ?_ ?_<;> intro hh)|refine zq ?_|refine zv ?_|refine zu ?_|exact Sy.fin_val fun e=>rfl)));(all_goals (try conv => whnf)))
           refine Sy.call_r2f ⟨39, 3, (cutL keep kk).1.length, (cutL keep kk).1.map encK⟩ ⟨25, 1, (cutL keep kk).2.length, (cutL keep kk).2.map encU⟩ (fun j => .tup [.agg [.v (.int .i64 keep), .row j], .c (.row (j + 1))]) Try.call29 (fun e a w' h => cut_any keep (e.rv 4) kk w' (Sy.row_reads h (.inl ⟨_, rfl⟩)) (by omega)) ?_
           ((repeat' ((conv => whnf);(first|refine zA ?_|(refine zI ?_ ?_<;> intro hh<;> first|(exfalso;omega)|skip)|(refine zl ?_ ?_<;> intro hh)|refine zq ?_|refine zv ?_|refine zu ?_|exact Sy.fin_val fun e=>rfl)));(all_goals (try conv => whnf)))
           exact Sy.fin_r2 (.row 5) (.row 6) rfl rfl)
  · refine Sy.call_val (.c (.v (.bool false))) Try.call23 rfl (fun e a w' h => by have := right_any keep (e.rv 0) ks w' (Sy.row_reads h (.inr rfl)); rw [show okS keep ks = false by simpa using hk] at this; exact this) ?_
    ((repeat' ((conv => whnf);(first|refine zA ?_|(refine zI ?_ ?_<;> intro hh<;> first|(exfalso;omega)|skip)|(refine zl ?_ ?_<;> intro hh)|refine zq ?_|refine zv ?_|refine zu ?_|exact Sy.fin_val fun e=>rfl)));(all_goals (try conv => whnf)))
    rw [turn_bad hk]
    exact Sy.fin_r2 (.v (.slice none 0 0)) (.v (.slice none 0 0)) ⟨rfl, rfl⟩ ⟨rfl, rfl⟩
def kk3 (o : Bool) : Kp := ⟨3, false, o⟩
set_option maxHeartbeats 1000000 in
theorem wakes_any (w : World) : Calls Try.prog 9 #[] w (Sy.Ret (.bool true) w) := by
  refine Sy.calls_of Sy.lv9 Sy.tab_ok Try.func9 rfl _ Try.ntmps9 [] [] rfl rfl rfl trivial ?_
  ((repeat' ((conv => whnf);(first|refine zA ?_|(refine zI ?_ ?_<;> intro hh<;> first|(exfalso;omega)|skip)|(refine zl ?_ ?_<;> intro hh)|refine zq ?_|refine zv ?_|refine zu ?_|exact Sy.fin_val fun e=>rfl)));(all_goals (try conv => whnf)))
  refine Sy.call_val (.tup [.agg [.v (.int .i64 1), .v (.slice none 0 0)], .c (.v (.int .i64 0))]) Try.call21 rfl (fun e a w' h => new_any 1 w') ?_
  ((repeat' ((conv => whnf);(first|refine zA ?_|(refine zI ?_ ?_<;> intro hh<;> first|(exfalso;omega)|skip)|(refine zl ?_ ?_<;> intro hh)|refine zq ?_|refine zv ?_|refine zu ?_|exact Sy.fin_val fun e=>rfl)));(all_goals (try conv => whnf)))
  refine Sy.call_r2f ⟨39, 3, 1, [encK (kk3 true)]⟩ ⟨25, 1, 0, []⟩ (fun j => .tup [.agg [.v (.int .i64 1), .row j], .c (.row (j + 1)), .c (.v (.int .i64 0))]) Try.call11 (fun e a w' h => by have := put_any 1 (.slice none 0 0) [] 3 false w' nil_ok; rw [show putV 1 [] 3 false = ((1, [kk3 true]), [], 0) by decide +kernel] at this; exact this) ?_
  ((repeat' ((conv => whnf);(first|refine zA ?_|(refine zI ?_ ?_<;> intro hh<;> first|(exfalso;omega)|skip)|(refine zl ?_ ?_<;> intro hh)|refine zq ?_|refine zv ?_|refine zu ?_|exact Sy.fin_val fun e=>rfl)));(all_goals (try conv => whnf)))
  refine Sy.call_r2f ⟨39, 3, 0, []⟩ ⟨25, 1, 0, []⟩ (fun j => .tup [.agg [.v (.int .i64 0), .row j], .c (.row (j + 1)), .c (.v (.int .i64 4))]) Try.call16 (fun e a w' h => by have := settle_any 1 (e.rv 1) [kk3 true] 4 w' (Sy.row_reads h (.inl ⟨_, rfl⟩)); rw [show turnV 1 [kk3 true] 4 0 = ((0, []), [], 4) by decide +kernel] at this; exact this) ?_
  ((repeat' ((conv => whnf);(first|refine zA ?_|(refine zI ?_ ?_<;> intro hh<;> first|(exfalso;omega)|skip)|(refine zl ?_ ?_<;> intro hh)|refine zq ?_|refine zv ?_|refine zu ?_|exact Sy.fin_val fun e=>rfl)));(all_goals (try conv => whnf)))
  refine Sy.call_r2f ⟨39, 3, 1, [encK (kk3 false)]⟩ ⟨25, 1, 0, []⟩ (fun j => .tup [.agg [.v (.int .i64 1), .row j], .c (.row (j + 1)), .c (.v (.int .i64 0))]) Try.call16 (fun e a w' h => by have := settle_any 1 (e.rv 1) [kk3 true] 3 w' (Sy.row_reads h (.inl ⟨_, rfl⟩)); rw [show turnV 1 [kk3 true] 3 0 = ((1, [kk3 false]), [], 0) by decide +kernel] at this; exact this) ?_
  ((repeat' ((conv => whnf);(first|refine zA ?_|(refine zI ?_ ?_<;> intro hh<;> first|(exfalso;omega)|skip)|(refine zl ?_ ?_<;> intro hh)|refine zq ?_|refine zv ?_|refine zu ?_|exact Sy.fin_val fun e=>rfl)));(all_goals (try conv => whnf)))
  refine Sy.call_val (.tup [.agg [.v (.int .u64 3), .v (.bool false), .v (.bool false)], .c (.v (.bool true))]) Try.call17 rfl (fun e a w' h => by have := latest_any 1 (e.rv 6) [kk3 false] w' (Sy.row_reads h (.inl ⟨_, rfl⟩)); rw [show latestV 1 [kk3 false] = (kk3 false, true) by decide +kernel] at this; exact this) ?_
  ((repeat' ((conv => whnf);(first|refine zA ?_|(refine zI ?_ ?_<;> intro hh<;> first|(exfalso;omega)|skip)|(refine zl ?_ ?_<;> intro hh)|refine zq ?_|refine zv ?_|refine zu ?_|exact Sy.fin_val fun e=>rfl)));(all_goals (try conv => whnf)))
  done
end Go.Proofs.Ytkmdmjnbjoakbaa
