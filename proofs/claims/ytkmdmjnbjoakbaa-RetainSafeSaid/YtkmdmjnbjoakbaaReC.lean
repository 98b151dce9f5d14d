/- Retain: Next, Saves. -/
import Derived.Test.YtkmdmjnbjoakbaaReB
namespace Go.Proofs.Ytkmdmjnbjoakbaa
open Go Go.RowKit
open Sy (C SV V1 Blk St XD Els)
set_option maxRecDepth 10000
attribute [local irreducible] okS chkE

theorem find_drop (ks : List Kp) (n : Nat) (h : n < ks.length) : (ks.drop n).find? (·.opn) = if ks[n].opn = true then some ks[n] else (ks.drop (n + 1)).find? (·.opn) := by
  rw [List.drop_eq_getElem_cons h, List.find?_cons]
  cases ks[n].opn <;> rfl
theorem nextV_some {keep : Int} {ks : List Kp} {k : Kp} (hk : okS keep ks = true) (h : ks.find? (·.opn) = some k) : nextV keep ks = (k.number, true) := by rw [nextV, if_pos hk, h]
theorem nextV_none {keep : Int} {ks : List Kp} (h : ks.find? (·.opn) = none) : nextV keep ks = (0, false) := by rw [nextV, h]; split <;> rfl
theorem nextV_bad {keep : Int} {ks : List Kp} (hk : ¬ okS keep ks = true) : nextV keep ks = (0, false) := by rw [nextV, if_neg hk]
set_option maxHeartbeats 1000000 in
theorem next_any (keep : Int) (v : Value) (ks : List Kp) (w : World) (hr : XD.ok (fun b => b < w.heap.size) w ⟨v, 3, ks.length, ks.map encK⟩) :
    Calls Try.prog 15 #[.agg #[.int .i64 keep, v]] w (Sy.Ret (.tuple #[.int .u64 (nextV keep ks).1, .bool (nextV keep ks).2]) w) := by
  have hl := ok_len hr
  refine Sy.calls_of Sy.lv15 Sy.tab_ok Try.func15 rfl _ Try.ntmps15 [⟨v, 3, ks.length, ks.map encK⟩] [.agg [.v (.int .i64 keep), .row 0]] rfl rfl rfl ⟨hr, trivial⟩ ?_
  ((repeat' ((conv => whnf);(first|refine zA ?_|(refine zI ?_ ?_<;> intro hh<;> first|(exfalso;omega)|skip)|(refine zl ?_ ?_<;> intro hh)|refine zq ?_|refine zv ?_|refine zu ?_|exact Sy.fin_val fun e=>rfl)));(all_goals (try conv => whnf)))
  refine Sy.call_in Sy.lv31 Sy.tab_ok Try.func31 rfl _ Try.ntmps31 Try.call31 rfl (fun _ => ?_)
  ((repeat' ((conv => whnf);(first|refine zA ?_|(refine zI ?_ ?_<;> intro hh<;> first|(exfalso;omega)|skip)|(refine zl ?_ ?_<;> intro hh)|refine zq ?_|refine zv ?_|refine zu ?_|exact Sy.fin_val fun e=>rfl)));(all_goals (try conv => whnf)))
  refine Sy.loop_inv Sy.tab_ok (fun n : Nat => [(8, .c (.v (.int .i64 n)))]) (fun _ => []) (fun n => n ≤ ks.length ∧ ks.find? (·.opn) = (ks.drop n).find? (·.opn)) (fun n => ks.length - n) 0 ⟨Nat.zero_le _, rfl⟩ ?_ (fun n hle => ?_)
  · ((repeat' (first|((conv => whnf);done)|((try conv => whnf);first|exact trivial|(refine And.intro ?_ ?_)|rfl|exact fun _ _ _ h=>h|exact fun _ _ _ _=>trivial)));(all_goals (try conv => whnf)))
  · obtain ⟨hle, hfd⟩ := hle
    ((repeat' ((conv => whnf);(first|refine zA ?_|(refine zI ?_ ?_<;> intro hh<;> first|(exfalso;omega)|skip)|(refine zl ?_ ?_<;> intro hh)|refine zq ?_|refine zv ?_|refine zu ?_|exact Sy.fin_val fun e=>rfl)));(all_goals (try conv => whnf)))
    · have hlt : n < ks.length := by omega
      have e1 := find_drop ks n hlt
      have hg := List.getElem?_eq_getElem hlt
      refine Sy.el_map ks[n] hg ?_
      generalize ks[n] = p at *
      ((repeat' ((conv => whnf);(first|refine zA ?_|(refine zI ?_ ?_<;> intro hh<;> first|(exfalso;omega)|skip)|(refine zl ?_ ?_<;> intro hh)|refine zq ?_|refine zv ?_|refine zu ?_|exact Sy.fin_val fun e=>rfl)));(all_goals (try conv => whnf)))
      refine Sy.call_in Sy.lv32 Sy.tab_ok Try.func32 rfl _ Try.ntmps32 Try.call32 rfl (fun _ => ?_)
      ((repeat' ((conv => whnf);(first|refine zA ?_|(refine zI ?_ ?_<;> intro hh<;> first|(exfalso;omega)|skip)|(refine zl ?_ ?_<;> intro hh)|refine zq ?_|refine zv ?_|refine zu ?_|exact Sy.fin_val fun e=>rfl)));(all_goals (try conv => whnf)))
      · rw [if_pos (by assumption), ← hfd] at e1
        by_cases hk : okS keep ks = true
        · refine Sy.call_val (.c (.v (.int .i64 0))) Try.call24 rfl (fun e a w' h => by have := check_any keep (e.rv 0) ks w' (Sy.row_reads h (.inr rfl)); rw [chkE_ok hk] at this; exact this) ?_
          ((repeat' ((conv => whnf);(first|refine zA ?_|(refine zI ?_ ?_<;> intro hh<;> first|(exfalso;omega)|skip)|(refine zl ?_ ?_<;> intro hh)|refine zq ?_|refine zv ?_|refine zu ?_|exact Sy.fin_val fun e=>rfl)));(all_goals (try conv => whnf)))
          refine Sy.el_map p hg ?_
          ((repeat' ((conv => whnf);(first|refine zA ?_|(refine zI ?_ ?_<;> intro hh<;> first|(exfalso;omega)|skip)|(refine zl ?_ ?_<;> intro hh)|refine zq ?_|refine zv ?_|refine zu ?_|exact Sy.fin_val fun e=>rfl)));(all_goals (try conv => whnf)))
          exact Sy.fin_val (fun e => by rw [nextV_some hk e1]; rfl)
        · refine Sy.call_val (.c (.v (.int .i64 330))) Try.call24 rfl (fun e a w' h => by have := check_any keep (e.rv 0) ks w' (Sy.row_reads h (.inr rfl)); rw [chkE_no hk] at this; exact this) ?_
          ((repeat' ((conv => whnf);(first|refine zA ?_|(refine zI ?_ ?_<;> intro hh<;> first|(exfalso;omega)|skip)|(refine zl ?_ ?_<;> intro hh)|refine zq ?_|refine zv ?_|refine zu ?_|exact Sy.fin_val fun e=>rfl)));(all_goals (try conv => whnf)))
          exact Sy.fin_val (fun e => by rw [nextV_bad hk]; rfl)
      · rw [if_neg (by simp [*])] at e1
        refine ⟨n + 1, ⟨by omega, by rw [hfd, e1]⟩, by omega, ?_⟩
        ((repeat' (first|((conv => whnf);done)|((try conv => whnf);first|exact trivial|(refine And.intro ?_ ?_)|rfl|exact fun _ _ _ h=>h|exact fun _ _ _ _=>trivial)));(all_goals (try conv => whnf)))
    · have e : n = ks.length := by omega
      subst e
      rw [List.drop_length] at hfd
      refine Sy.call_val (.c (.v (.int .i64 (chkE keep ks)))) Try.call24 rfl (fun e a w' h => check_any keep (e.rv 0) ks w' (Sy.row_reads h (.inr rfl))) ?_
      ((repeat' ((conv => whnf);(first|refine zA ?_|(refine zI ?_ ?_<;> intro hh<;> first|(exfalso;omega)|skip)|(refine zl ?_ ?_<;> intro hh)|refine zq ?_|refine zv ?_|refine zu ?_|exact Sy.fin_val fun e=>rfl)));(all_goals (try conv => whnf)))
      all_goals exact Sy.fin_val (fun e => by rw [nextV_none hfd]; rfl)

def savN (ks : List Kp) (n : Nat) : List Int := ((ks.take n).filter (·.save)).map (·.number)
theorem savN_succ (ks : List Kp) (n : Nat) (h : n < ks.length) : savN ks (n + 1) = savN ks n ++ (if ks[n].save = true then [ks[n].number] else []) := by
  unfold savN
  rw [List.take_succ_eq_append_getElem h, List.filter_append, List.map_append]
  congr 1
  cases hd : ks[n].save <;> simp [hd]
theorem savN_len (ks : List Kp) (n : Nat) : (savN ks n).length ≤ n := by
  unfold savN
  rw [List.length_map]
  exact Nat.le_trans (List.length_filter_le _ _) (by rw [List.length_take]; omega)
theorem saves_any (keep : Int) (v : Value) (ks : List Kp) (w : World) (hr : XD.ok (fun b => b < w.heap.size) w ⟨v, 3, ks.length, ks.map encK⟩) :
    Calls Try.prog 26 #[.agg #[.int .i64 keep, v]] w (Sy.RetRows Sy.noRow (fun _ : Unit => True) (fun _ => [⟨25, 1, (savesV keep ks).length, (savesV keep ks).map encU⟩]) (fun _ vs => vs.headD undef) w) := by
  have hl := ok_len hr
  refine Sy.calls_of Sy.lv26 Sy.tab_ok Try.func26 rfl _ Try.ntmps26 [⟨v, 3, ks.length, ks.map encK⟩] [.agg [.v (.int .i64 keep), .row 0]] rfl rfl rfl ⟨hr, trivial⟩ ?_
  ((repeat' ((conv => whnf);(first|refine zA ?_|(refine zI ?_ ?_<;> intro hh<;> first|(exfalso;omega)|skip)|(refine zl ?_ ?_<;> intro hh)|refine zq ?_|refine zv ?_|refine zu ?_|exact Sy.fin_val fun e=>rfl)));(all_goals (try conv => whnf)))
  by_cases hk : okS keep ks = true
  · have hb := (okS_bd hk).2.2.1
    refine Sy.call_val (.c (.v (.int .i64 0))) Try.call24 rfl (fun e a w' h => by have := check_any keep (e.rv 0) ks w' (Sy.row_reads h (.inr rfl)); rw [chkE_ok hk] at this; exact this) ?_
    ((repeat' ((conv => whnf);(first|refine zA ?_|(refine zI ?_ ?_<;> intro hh<;> first|(exfalso;omega)|skip)|(refine zl ?_ ?_<;> intro hh)|refine zq ?_|refine zv ?_|refine zu ?_|exact Sy.fin_val fun e=>rfl)));(all_goals (try conv => whnf)))
    refine Sy.sem_subF (Sy.sub_row 3 25 1 rfl) ?_
    conv => whnf
    refine Sy.loop_inv Sy.tab_ok (fun n : Nat => [(12, .c (.v (.int .i64 n))), (3, .c (.row 2))]) (fun n => [(2, .row 25 1 (savN ks n).length (.vs ((savN ks n).map encU)))]) (fun n => n ≤ ks.length) (fun n => ks.length - n) 0 (Nat.zero_le _) ?_ (fun n hle => ?_)
    · ((repeat' (first|((conv => whnf);done)|((try conv => whnf);first|exact trivial|(refine And.intro ?_ ?_)|rfl|exact fun _ _ _ h=>h|exact fun _ _ _ _=>trivial)));(all_goals (try conv => whnf)))
    · ((repeat' ((conv => whnf);(first|refine zA ?_|(refine zI ?_ ?_<;> intro hh<;> first|(exfalso;omega)|skip)|(refine zl ?_ ?_<;> intro hh)|refine zq ?_|refine zv ?_|refine zu ?_|exact Sy.fin_val fun e=>rfl)));(all_goals (try conv => whnf)))
      · have hlt : n < ks.length := by omega
        refine Sy.el_map ks[n] (List.getElem?_eq_getElem hlt) ?_
        have e1 := savN_succ ks n hlt
        have e2 := savN_len ks n
        generalize ks[n] = p at *
        generalize savN ks n = l at *
        ((repeat' ((conv => whnf);(first|refine zA ?_|(refine zI ?_ ?_<;> intro hh<;> first|(exfalso;omega)|skip)|(refine zl ?_ ?_<;> intro hh)|refine zq ?_|refine zv ?_|refine zu ?_|exact Sy.fin_val fun e=>rfl)));(all_goals (try conv => whnf)))
        · rw [if_pos (by assumption : p.save = true)] at e1
          refine Sy.need_app 8 rfl ⟨by omega, by omega⟩ ?_
          ((repeat' ((conv => whnf);(first|refine zA ?_|(refine zI ?_ ?_<;> intro hh<;> first|(exfalso;omega)|skip)|(refine zl ?_ ?_<;> intro hh)|refine zq ?_|refine zv ?_|refine zu ?_|exact Sy.fin_val fun e=>rfl)));(all_goals (try conv => whnf)))
          refine ⟨n + 1, by omega, by omega, ?_⟩
          rw [e1]
          ((repeat' (first|((conv => whnf);done)|((try conv => whnf);first|exact trivial|(refine And.intro ?_ ?_)|rfl|exact fun _ _ _ h=>h|exact fun _ _ _ _=>trivial)));(all_goals (try conv => whnf)))
          all_goals simp [encU]
        · rw [if_neg (by simp [(by assumption : p.save = false)]), List.append_nil] at e1
          refine ⟨n + 1, by omega, by omega, ?_⟩
          rw [e1]
          ((repeat' (first|((conv => whnf);done)|((try conv => whnf);first|exact trivial|(refine And.intro ?_ ?_)|rfl|exact fun _ _ _ h=>h|exact fun _ _ _ _=>trivial)));(all_goals (try conv => whnf)))
      · have e : n = ks.length := by omega
        subst e
        have e2 : savN ks ks.length = savesV keep ks := by rw [savesV, if_pos hk, savN, List.take_length]
        refine Sy.fin_rows () trivial [.row 2] ⟨?_, (by intro j hj; cases hj), trivial⟩ (fun e => rfl)
        rw [← e2]
        rfl
  · refine Sy.call_val (.c (.v (.int .i64 330))) Try.call24 rfl (fun e a w' h => by have := check_any keep (e.rv 0) ks w' (Sy.row_reads h (.inr rfl)); rw [chkE_no hk] at this; exact this) ?_
    ((repeat' ((conv => whnf);(first|refine zA ?_|(refine zI ?_ ?_<;> intro hh<;> first|(exfalso;omega)|skip)|(refine zl ?_ ?_<;> intro hh)|refine zq ?_|refine zv ?_|refine zu ?_|exact Sy.fin_val fun e=>rfl)));(all_goals (try conv => whnf)))
    exact Sy.fin_rows () trivial [.v (.slice none 0 0)] ⟨⟨by simp [savesV, hk], by simp [savesV, hk]⟩, (by intro j hj; cases hj), trivial⟩ (fun e => rfl)
end Go.Proofs.Ytkmdmjnbjoakbaa
