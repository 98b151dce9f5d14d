/- Retain: the document's with, Place, Put. -/
import Derived.Test.YtkmdmjnbjoakbaaReN
namespace Go.Proofs.Ytkmdmjnbjoakbaa
open Go Go.RowKit
open Sy (C SV V1 Blk St XD Els)
set_option maxRecDepth 10000
attribute [local irreducible] okS chkE

def withV (ks : List Kp) (p : Nat) (r : Kp) : List Kp := if p = ks.length then ks ++ [r] else ks.set p r
set_option maxHeartbeats 1000000 in
theorem with_any (keep : Int) (v : Value) (ks : List Kp) (p : Nat) (r : Kp) (w : World) (hr : XD.ok (fun b => b < w.heap.size) w ⟨v, 3, ks.length, ks.map encK⟩) (hp : p ≤ ks.length) (hb : ks.length ≤ 1000) :
    Calls Try.prog 30 #[.agg #[.int .i64 keep, v], .int .i64 p, .agg #[.int .u64 r.number, .bool r.save, .bool r.opn]] w (Sy.RetRows Sy.noRow (fun _ : Unit => True) (fun _ => [⟨39, 3, (withV ks p r).length, (withV ks p r).map encK⟩]) (fun _ vs => .agg #[.int .i64 keep, vs.headD undef]) w) := by
  refine Sy.calls_of Sy.lv30 Sy.tab_ok Try.func30 rfl _ Try.ntmps30 [⟨v, 3, ks.length, ks.map encK⟩] [.agg [.v (.int .i64 keep), .row 0], .c (.v (.int .i64 p)), .agg [.v (.int .u64 r.number), .v (.bool r.save), .v (.bool r.opn)]] rfl rfl rfl ⟨hr, trivial⟩ ?_
  ((repeat' ((conv => whnf);(first|refine zA ?_|(refine zI ?_ ?_<;> intro hh<;> first|(exfalso;omega)|skip)|(refine zl ?_ ?_<;> intro hh)|refine zq ?_|refine zv ?_|refine zu ?_|exact Sy.fin_val fun e=>rfl)));(all_goals (try conv => whnf)))
  refine Sy.sem_subF (Sy.sub_rowc 4 1 39 3 rfl rfl) ?_
  conv => whnf
  ((repeat' ((conv => whnf);(first|refine zA ?_|(refine zI ?_ ?_<;> intro hh<;> first|(exfalso;omega)|skip)|(refine zl ?_ ?_<;> intro hh)|refine zq ?_|refine zv ?_|refine zu ?_|exact Sy.fin_val fun e=>rfl)));(all_goals (try conv => whnf)))
  refine Sy.loop_inv Sy.tab_ok (fun j : Nat => [(8, .c (.v (.int .i64 j)))]) (fun j => [(4, .cells 24 [.v (.int .i64 keep), .row 5]), (5, keptB ((ks.set p r).take j))]) (fun j => j ≤ ks.length) (fun j => ks.length - j) 0 (Nat.zero_le _) ?_ (fun j hj => ?_)
  · ((repeat' (first|((conv => whnf);done)|((try conv => whnf);first|exact trivial|(refine And.intro ?_ ?_)|rfl|exact fun _ _ _ h=>h|exact fun _ _ _ _=>trivial)));(all_goals (try conv => whnf)))
  · have hsl : (ks.set p r).length = ks.length := List.length_set
    have hA : ((ks.set p r).take j).length = j := by rw [List.length_take]; omega
    ((repeat' ((conv => whnf);(first|refine zA ?_|(refine zI ?_ ?_<;> intro hh<;> first|(exfalso;omega)|skip)|(refine zl ?_ ?_<;> intro hh)|refine zq ?_|refine zv ?_|refine zu ?_|exact Sy.fin_val fun e=>rfl)));(all_goals (try conv => whnf)))
    · have hlt : j < ks.length := by omega
      have e1 := List.take_succ_eq_append_getElem (show j < (ks.set p r).length by omega)
      refine Sy.need_app 16 rfl ⟨by omega, by omega⟩ ?_
      ((repeat' ((conv => whnf);(first|refine zA ?_|(refine zI ?_ ?_<;> intro hh<;> first|(exfalso;omega)|skip)|(refine zl ?_ ?_<;> intro hh)|refine zq ?_|refine zv ?_|refine zu ?_|exact Sy.fin_val fun e=>rfl)));(all_goals (try conv => whnf)))
      have hjp : j = p := by omega
      subst hjp
      rw [List.getElem_set_self] at e1
      refine ⟨j + 1, by omega, by omega, ?_⟩
      rw [e1]
      dsimp only [keptB]
      ((repeat' (first|((conv => whnf);done)|((try conv => whnf);first|exact trivial|(refine And.intro ?_ ?_)|rfl|exact fun _ _ _ h=>h|exact fun _ _ _ _=>trivial)));(all_goals (try conv => whnf)))
      all_goals simp [encK]
    · have hlt : j < ks.length := by omega
      have hgj := List.getElem?_eq_getElem hlt
      have e1 := List.take_succ_eq_append_getElem (show j < (ks.set p r).length by omega)
      rw [List.getElem_set_ne (by omega)] at e1
      generalize ks[j] = q at *
      refine Sy.draw_go [4,5] (by kernel_rfl) ?_
      intro e0
      conv => whnf
      refine zt 0 rfl ?_
      conv => whnf
      refine zt 2 rfl ?_
      conv => whnf
      refine zt 3 rfl ?_
      conv => whnf
      refine zt 4 rfl ?_
      conv => whnf
      refine zt 5 rfl ?_
      (conv => whnf);(repeat' ((first|refine zA ?_|(refine zI ?_ ?_<;> intro hh<;> first|(exfalso;omega)|skip)|(refine zl ?_ ?_<;> intro hh)|refine zq ?_|refine zv ?_|refine zu ?_|exact Sy.fin_val fun e=>rfl);(try conv => whnf)))
      refine zt 6 rfl ?_
      conv => whnf
      refine Sy.el_map q hgj ?_
      conv => whnf
      focus
        refine zd1 [1, 7] (zx rfl ?_ (zx rfl ?_ zy))
        focus
          conv => whnf
          refine ⟨(by repeat' ((conv => whnf);first|exact trivial|(refine And.intro ?_ ?_)|rfl)), ?_⟩
          refine zd1 [7] (zx rfl ?_ zy)
          conv => whnf
          refine ⟨(by repeat' ((conv => whnf);first|exact trivial|(refine And.intro ?_ ?_)|rfl)), ?_⟩
          refine zd1 [8] (zx rfl ?_ zy)
          conv => whnf
          refine Sy.need_app 16 rfl ⟨by omega, by omega⟩ ?_
          conv => whnf
          refine ⟨(by repeat' ((conv => whnf);first|exact trivial|(refine And.intro ?_ ?_)|rfl)), ?_⟩
          refine zt 9 rfl ?_
          conv => whnf
          refine zd1 [10] (zx rfl ?_ zy)
          conv => whnf
          refine ⟨(by repeat' ((conv => whnf);first|exact trivial|(refine And.intro ?_ ?_)|rfl)), ?_⟩
          refine zw ?_
          ((repeat' ((conv => whnf);(first|refine zA ?_|(refine zI ?_ ?_<;> intro hh<;> first|(exfalso;omega)|skip)|(refine zl ?_ ?_<;> intro hh)|refine zq ?_|refine zv ?_|refine zu ?_|exact Sy.fin_val fun e=>rfl)));(all_goals (try conv => whnf)))
        rotate_right
        focus
          conv => whnf
          refine ⟨(by repeat' ((conv => whnf);first|exact trivial|(refine And.intro ?_ ?_)|rfl)), ?_⟩
          refine zd1 [1] (zx rfl ?_ zy)
          conv => whnf
          refine ⟨(by repeat' ((conv => whnf);first|exact trivial|(refine And.intro ?_ ?_)|rfl)), ?_⟩
          refine zd1 [8] (zx rfl ?_ zy)
          conv => whnf
          refine Sy.need_app 16 rfl ⟨by omega, by omega⟩ ?_
          conv => whnf
          refine ⟨(by repeat' ((conv => whnf);first|exact trivial|(refine And.intro ?_ ?_)|rfl)), ?_⟩
          refine zt 9 rfl ?_
          conv => whnf
          refine zd1 [10] (zx rfl ?_ zy)
          conv => whnf
          refine ⟨(by repeat' ((conv => whnf);first|exact trivial|(refine And.intro ?_ ?_)|rfl)), ?_⟩
          refine zw ?_
          ((repeat' ((conv => whnf);(first|refine zA ?_|(refine zI ?_ ?_<;> intro hh<;> first|(exfalso;omega)|skip)|(refine zl ?_ ?_<;> intro hh)|refine zq ?_|refine zv ?_|refine zu ?_|exact Sy.fin_val fun e=>rfl)));(all_goals (try conv => whnf)))
      all_goals
        refine ⟨j + 1, by omega, by omega, ?_⟩
        rw [e1]
        dsimp only [keptB]
        ((repeat' (first|((conv => whnf);done)|((try conv => whnf);first|exact trivial|(refine And.intro ?_ ?_)|rfl|exact fun _ _ _ h=>h|exact fun _ _ _ _=>trivial)));(all_goals (try conv => whnf)))
        all_goals simp [encK]
    · have e : j = ks.length := by omega
      subst e
      have e2 : (ks.set p r).take ks.length = ks.set p r := List.take_of_length_le (by omega)
      rw [e2] at hA ⊢
      refine Sy.need_app 16 rfl ⟨by omega, by omega⟩ ?_
      ((repeat' ((conv => whnf);(first|refine zA ?_|(refine zI ?_ ?_<;> intro hh<;> first|(exfalso;omega)|skip)|(refine zl ?_ ?_<;> intro hh)|refine zq ?_|refine zv ?_|refine zu ?_|exact Sy.fin_val fun e=>rfl)));(all_goals (try conv => whnf)))
      have hpl : p = ks.length := by omega
      have e3 : ks.set p r = ks := List.set_eq_of_length_le (by omega)
      rw [e3, show withV ks p r = ks ++ [r] by rw [withV, if_pos hpl]]
      refine Sy.fin_r1 (.row 7) ?_
      show some (Blk.row _ _ _ _) = _
      rw [List.length_append, List.map_append]
      rfl
    · have e : j = ks.length := by omega
      subst e
      have e2 : (ks.set p r).take ks.length = ks.set p r := List.take_of_length_le (by omega)
      rw [e2, show withV ks p r = ks.set p r by rw [withV, if_neg (by omega)]]
      exact Sy.fin_r1 (.row 5) rfl
def plcI (ks : List Kp) (x : Int) : Int := match plc ks x with
  | some n => n
  | none => -1
theorem rplace_any (keep : Int) (v : Value) (ks : List Kp) (x : Int) (w : World) (hr : XD.ok (fun b => b < w.heap.size) w ⟨v, 3, ks.length, ks.map encK⟩) :
    Calls Try.prog 35 #[.agg #[.int .i64 keep, v], .int .u64 x] w (Sy.Ret (.int .i64 (plcI ks x)) w) := by
  have hl := ok_len hr
  refine Sy.calls_of Sy.lv35 Sy.tab_ok Try.func35 rfl _ Try.ntmps35 [⟨v, 3, ks.length, ks.map encK⟩] [.agg [.v (.int .i64 keep), .row 0], .c (.v (.int .u64 x))] rfl rfl rfl ⟨hr, trivial⟩ ?_
  ((repeat' ((conv => whnf);(first|refine zA ?_|(refine zI ?_ ?_<;> intro hh<;> first|(exfalso;omega)|skip)|(refine zl ?_ ?_<;> intro hh)|refine zq ?_|refine zv ?_|refine zu ?_|exact Sy.fin_val fun e=>rfl)));(all_goals (try conv => whnf)))
  refine Sy.loop_inv Sy.tab_ok (fun n : Nat => [(5, .c (.v (.int .i64 n)))]) (fun _ => []) (fun n => n ≤ ks.length ∧ ∀ i (h : i < ks.length), i < n → ks[i].number ≠ x) (fun n => ks.length - n) 0 ⟨Nat.zero_le _, fun i _ h => absurd h (Nat.not_lt_zero _)⟩ ?_ (fun n hle => ?_)
  · ((repeat' (first|((conv => whnf);done)|((try conv => whnf);first|exact trivial|(refine And.intro ?_ ?_)|rfl|exact fun _ _ _ h=>h|exact fun _ _ _ _=>trivial)));(all_goals (try conv => whnf)))
  · obtain ⟨hle, hno⟩ := hle
    ((repeat' ((conv => whnf);(first|refine zA ?_|(refine zI ?_ ?_<;> intro hh<;> first|(exfalso;omega)|skip)|(refine zl ?_ ?_<;> intro hh)|refine zq ?_|refine zv ?_|refine zu ?_|exact Sy.fin_val fun e=>rfl)));(all_goals (try conv => whnf)))
    · have hlt : n < ks.length := by omega
      have hg := List.getElem?_eq_getElem hlt
      refine Sy.el_map ks[n] hg ?_
      generalize hq : ks[n] = q at *
      ((repeat' ((conv => whnf);(first|refine zA ?_|(refine zI ?_ ?_<;> intro hh<;> first|(exfalso;omega)|skip)|(refine zl ?_ ?_<;> intro hh)|refine zq ?_|refine zv ?_|refine zu ?_|exact Sy.fin_val fun e=>rfl)));(all_goals (try conv => whnf)))
      · have hpl : plc ks x = some n := by
          unfold plc
          rw [List.findIdx?_eq_some_iff_getElem]
          exact ⟨hlt, by rw [hq]; simp [*], fun j hj => by simp [hno j (by omega) hj]⟩
        exact Sy.fin_val (fun e => by unfold plcI; rw [hpl]; rfl)
      · refine ⟨n + 1, ⟨by omega, fun i hi hin => ?_⟩, by omega, ?_⟩
        · rcases Nat.lt_succ_iff_lt_or_eq.1 hin with h | rfl
          · exact hno i hi h
          · rw [hq]; assumption
        · ((repeat' (first|((conv => whnf);done)|((try conv => whnf);first|exact trivial|(refine And.intro ?_ ?_)|rfl|exact fun _ _ _ h=>h|exact fun _ _ _ _=>trivial)));(all_goals (try conv => whnf)))
    · have e : n = ks.length := by omega
      subst e
      exact Sy.fin_val (fun e => by
        unfold plcI; rw [plc_none (fun k hk => by obtain ⟨i, hi, rfl⟩ := List.mem_iff_getElem.1 hk; exact hno i hi hi)]; rfl)
set_option maxHeartbeats 2000000 in
theorem rput_any (keep : Int) (v : Value) (ks : List Kp) (number : Int) (save : Bool) (w : World) (hr : XD.ok (fun b => b < w.heap.size) w ⟨v, 3, ks.length, ks.map encK⟩) :
    Calls Try.prog 12 #[.agg #[.int .i64 keep, v], .int .u64 number, .bool save] w (Sy.RetRows Sy.noRow (fun _ : Unit => True) (fun _ => turnR (putV keep ks number save)) (fun _ => turnVal (putV keep ks number save)) w) := by
  have hl := ok_len hr
  refine Sy.calls_of Sy.lv12 Sy.tab_ok Try.func12 rfl _ Try.ntmps12 [⟨v, 3, ks.length, ks.map encK⟩] [.agg [.v (.int .i64 keep), .row 0], .c (.v (.int .u64 number)), .c (.v (.bool save))] rfl rfl rfl ⟨hr, trivial⟩ ?_
  ((repeat' ((conv => whnf);(first|refine zA ?_|(refine zI ?_ ?_<;> intro hh<;> first|(exfalso;omega)|skip)|(refine zl ?_ ?_<;> intro hh)|refine zq ?_|refine zv ?_|refine zu ?_|exact Sy.fin_val fun e=>rfl)));(all_goals (try conv => whnf)))
  by_cases hk : okS keep ks = true
  · refine Sy.call_val (.c (.v (.bool true))) Try.call23 rfl (fun e a w' h => by have := right_any keep (e.rv 0) ks w' (Sy.row_reads h (.inr rfl)); rw [hk] at this; exact this) ?_
    have hb := okS_bd hk
    have hn2 : ¬ ((lastOf ks).number < number ∧ number ≤ 4611686018427387904) → putV keep ks number save = ((0, []), [], 2) := fun h => by rw [putV, if_pos hk, if_neg h]
    have hlast : 0 < ks.length → ks[((ks.length : Int) - 1).toNat]? = some (lastOf ks) ∧ 1 ≤ (lastOf ks).number := fun h => by
      obtain ⟨m, hm⟩ : ∃ m, ks.length = m + 1 := ⟨ks.length - 1, by omega⟩
      have h1 : lastOf ks = lastK ks (m + 1) := by rw [lastOf, hm]
      rw [h1, lastK_succ _ _ (by omega), show ((ks.length : Int) - 1).toNat = m by omega]
      exact ⟨List.getElem?_eq_getElem (by omega), by
        have := okL_lt ks k0 hb.2.2.2 ks[m] (List.getElem_mem _)
        simp only [k0] at this; omega⟩
    have hlast0 : ks.length = 0 → (lastOf ks).number = 0 := fun h => by rw [lastOf, h]; rfl
    have hokp : ∀ (_ : (lastOf ks).number < number ∧ number ≤ 4611686018427387904), putV keep ks number save = put1 keep ks ⟨number, save, true⟩ := fun h => by rw [putV, if_pos hk, if_pos h]
    ((repeat' ((conv => whnf);(first|refine zA ?_|(refine zI ?_ ?_<;> intro hh<;> first|(exfalso;omega)|skip)|(refine zl ?_ ?_<;> intro hh)|refine zq ?_|refine zv ?_|refine zu ?_|exact Sy.fin_val fun e=>rfl)));(all_goals (try conv => whnf)))
    any_goals (
      rw [hn2 (by intro h; omega)]
      exact Sy.fin_r2 (.v (.slice none 0 0)) (.v (.slice none 0 0)) ⟨rfl, rfl⟩ ⟨rfl, rfl⟩)
    any_goals (
      refine Sy.el_map (lastOf ks) (hlast (by omega)).1 ?_
      ((repeat' ((conv => whnf);(first|refine zA ?_|(refine zI ?_ ?_<;> intro hh<;> first|(exfalso;omega)|skip)|(refine zl ?_ ?_<;> intro hh)|refine zq ?_|refine zv ?_|refine zu ?_|exact Sy.fin_val fun e=>rfl)));(all_goals (try conv => whnf))))
    any_goals (
      rw [hn2 (by intro h; omega)]
      exact Sy.fin_r2 (.v (.slice none 0 0)) (.v (.slice none 0 0)) ⟨rfl, rfl⟩ ⟨rfl, rfl⟩)
    all_goals
      have hw : withV ks ks.length ⟨number, save, true⟩ = ks ++ [⟨number, save, true⟩] := by rw [withV, if_pos rfl]
      have hwl : (ks ++ [(⟨number, save, true⟩ : Kp)]).length = ks.length + 1 := by simp
      rw [hokp ⟨by first | omega | (have := hlast0 (by omega); omega), by omega⟩]
      unfold put1
      generalize hkk : ks ++ [(⟨number, save, true⟩ : Kp)] = kk at *
      refine Sy.call_r1 ⟨39, 3, kk.length, kk.map encK⟩ (fun j => .agg [.v (.int .i64 keep), .row j]) Try.call30 (fun e a w' h => by have := with_any keep (e.rv 0) ks ks.length ⟨number, save, true⟩ w' (Sy.row_reads h (.inr rfl)) (Nat.le_refl _) (by omega); rw [hw] at this; exact this) ?_
      ((repeat' ((conv => whnf);(first|refine zA ?_|(refine zI ?_ ?_<;> intro hh<;> first|(exfalso;omega)|skip)|(refine zl ?_ ?_<;> intro hh)|refine zq ?_|refine zv ?_|refine zu ?_|exact Sy.fin_val fun e=>rfl)));(all_goals (try conv => whnf)))
      refine Sy.call_r2f ⟨39, 3, (cutL keep kk).1.length, (cutL keep kk).1.map encK⟩ ⟨25, 1, (cutL keep kk).2.length, (cutL keep kk).2.map encU⟩ (fun j => .tup [.agg [.v (.int .i64 keep), .row j], .c (.row (j + 1))]) Try.call29 (fun e a w' h => cut_any keep (e.rv 3) kk w' (Sy.row_reads h (.inl ⟨_, rfl⟩)) (by omega)) ?_
      ((repeat' ((conv => whnf);(first|refine zA ?_|(refine zI ?_ ?_<;> intro hh<;> first|(exfalso;omega)|skip)|(refine zl ?_ ?_<;> intro hh)|refine zq ?_|refine zv ?_|refine zu ?_|exact Sy.fin_val fun e=>rfl)));(all_goals (try conv => whnf)))
      · rw [if_neg (by omega)]
        exact Sy.fin_r2 (.v (.slice none 0 0)) (.v (.slice none 0 0)) ⟨rfl, rfl⟩ ⟨rfl, rfl⟩
      · rw [if_pos (by omega)]
        exact Sy.fin_r2 (.row 4) (.row 5) rfl rfl
  · refine Sy.call_val (.c (.v (.bool false))) Try.call23 rfl (fun e a w' h => by have := right_any keep (e.rv 0) ks w' (Sy.row_reads h (.inr rfl)); rw [show okS keep ks = false by simpa using hk] at this; exact this) ?_
    ((repeat' ((conv => whnf);(first|refine zA ?_|(refine zI ?_ ?_<;> intro hh<;> first|(exfalso;omega)|skip)|(refine zl ?_ ?_<;> intro hh)|refine zq ?_|refine zv ?_|refine zu ?_|exact Sy.fin_val fun e=>rfl)));(all_goals (try conv => whnf)))
    rw [show putV keep ks number save = ((0, []), [], 330) by rw [putV, if_neg hk]]
    exact Sy.fin_r2 (.v (.slice none 0 0)) (.v (.slice none 0 0)) ⟨rfl, rfl⟩ ⟨rfl, rfl⟩
end Go.Proofs.Ytkmdmjnbjoakbaa
