/- Retain: Put. -/
import Derived.Test.YtkmdmjnbjoakbaaReJ
namespace Go.Proofs.Ytkmdmjnbjoakbaa
open Go Go.RowKit
open Sy (C SV V1 Blk St XD Els)
set_option maxRecDepth 10000

/-- What Put and the others hand back: a shelf, numbers, an error. -/
def turnR (r : (Int × List Kp) × List Int × Int) : List Sy.RD := [⟨39, 3, r.1.2.length, r.1.2.map encK⟩, ⟨25, 1, r.2.1.length, r.2.1.map encU⟩]
def turnVal (r : (Int × List Kp) × List Int × Int) (vs : List Value) : Value := .tuple #[.agg #[.int .i64 r.1.1, vs.headD undef], (vs.drop 1).headD undef, .int .i64 r.2.2]
attribute [local irreducible] okS chkE
theorem cloneK_any (v : Value) (ks : List Kp) (w : World) (hr : XD.ok (fun b => b < w.heap.size) w ⟨v, 3, ks.length, ks.map encK⟩) (hb : ks.length ≤ 1000) :
    Calls Try.prog 39 #[v] w (Sy.RetRows Sy.noRow (fun _ : Unit => True) (fun _ => [⟨39, 3, ks.length, ks.map encK⟩]) (fun _ vs => vs.headD undef) w) := by
  refine Sy.calls_of Sy.lv39 Sy.tab_ok Try.func39 rfl _ Try.ntmps39 [⟨v, 3, ks.length, ks.map encK⟩] [.c (.row 0)] rfl rfl rfl ⟨hr, trivial⟩ ?_
  ((repeat' ((conv => whnf);(first|refine zA ?_|(refine zI ?_ ?_<;> intro hh<;> first|(exfalso;omega)|skip)|(refine zl ?_ ?_<;> intro hh)|refine zq ?_|refine zv ?_|refine zu ?_|exact Sy.fin_val fun e=>rfl)));(all_goals (try conv => whnf)))
  refine Sy.nil_of (fun h0 => ?_) ?_
  · ((repeat' ((conv => whnf);(first|refine zA ?_|(refine zI ?_ ?_<;> intro hh<;> first|(exfalso;omega)|skip)|(refine zl ?_ ?_<;> intro hh)|refine zq ?_|refine zv ?_|refine zu ?_|exact Sy.fin_val fun e=>rfl)));(all_goals (try conv => whnf)))
    exact Sy.fin_r1 (.v (.slice none 0 0)) ⟨h0, by rw [List.length_eq_zero_iff] at h0; rw [h0]; rfl⟩
  · ((repeat' ((conv => whnf);(first|refine zA ?_|(refine zI ?_ ?_<;> intro hh<;> first|(exfalso;omega)|skip)|(refine zl ?_ ?_<;> intro hh)|refine zq ?_|refine zv ?_|refine zu ?_|exact Sy.fin_val fun e=>rfl)));(all_goals (try conv => whnf)))
    refine Sy.need_of (by show (0 + ks.length) * 16 ≤ _ ∧ _; omega) ?_
    ((repeat' ((conv => whnf);(first|refine zA ?_|(refine zI ?_ ?_<;> intro hh<;> first|(exfalso;omega)|skip)|(refine zl ?_ ?_<;> intro hh)|refine zq ?_|refine zv ?_|refine zu ?_|exact Sy.fin_val fun e=>rfl)));(all_goals (try conv => whnf)))
    refine Sy.fin_r1 (.row 2) ?_
    show some (Blk.row 39 3 (0 + ks.length) (.vs (ks.map encK))) = _
    rw [Nat.zero_add]
theorem latest_last {keep : Int} {ks : List Kp} (hk : okS keep ks = true) : (latestV keep ks).1 = lastOf ks := by
  unfold latestV
  by_cases h : 0 < ks.length
  · rw [if_pos ⟨hk, h⟩]
  · rw [if_neg (fun h' => h h'.2)]
    rw [Nat.not_lt, Nat.le_zero] at h
    show k0 = lastK ks ks.length
    rw [h]; rfl
theorem okL_rising {ks : List Kp} {l : Kp} (h : okL l ks = true) : rising ks := okL_asc ks l h
theorem rising_put {ks : List Kp} {k : Kp} (h : rising ks) (hk : ∀ q ∈ ks, q.number < k.number) : rising (ks ++ [k]) := by
  unfold rising at *
  rw [List.map_append]
  refine List.pairwise_append.2 ⟨h, List.pairwise_singleton _ _, fun x hx y hy => ?_⟩
  obtain ⟨q, hq, rfl⟩ := List.mem_map.1 hx
  simp at hy
  subst hy
  exact hk q hq
theorem last_max {ks : List Kp} (h : rising ks) : ∀ q ∈ ks, q.number ≤ (lastOf ks).number := by
  intro q hq
  obtain ⟨i, hi, rfl⟩ := List.mem_iff_getElem.1 hq
  have hlast : lastOf ks = ks[ks.length - 1] := by
    obtain ⟨m, hm⟩ : ∃ m, ks.length = m + 1 := ⟨ks.length - 1, by omega⟩
    have h1 : lastOf ks = lastK ks (m + 1) := by rw [lastOf, hm]
    rw [h1, lastK_succ _ _ (by omega)]
    simp [hm]
  rw [hlast]
  rcases Nat.lt_or_eq_of_le (show i ≤ ks.length - 1 by omega) with hlt | rfl
  · have := asc_of h i (ks.length - 1) _ _ (List.getElem?_eq_getElem hi) (List.getElem?_eq_getElem (by omega)) hlt
    omega
  · exact Int.le_refl _
/-- What is open is kept. -/
theorem cut_open (keep : Int) : ∀ (ks : List Kp), (∃ k ∈ ks, k.opn = true) → 1 ≤ (cutL keep ks).1.length
  | [], h => by obtain ⟨k, hk, _⟩ := h; cases hk
  | k :: r, ⟨q, hq, ho⟩ => by
    rw [cut_cons]
    split
    · rename_i hp
      rcases List.mem_cons.1 hq with rfl | hq
      · simp [plainK, ho] at hp
      · exact cut_open keep r ⟨q, hq, ho⟩
    · simp
set_option maxHeartbeats 1000000 in
theorem put_any (keep : Int) (v : Value) (ks : List Kp) (number : Int) (save : Bool) (w : World) (hr : XD.ok (fun b => b < w.heap.size) w ⟨v, 3, ks.length, ks.map encK⟩) :
    Calls Try.prog 11 #[.agg #[.int .i64 keep, v], .int .u64 number, .bool save] w (Sy.RetRows Sy.noRow (fun _ : Unit => True) (fun _ => turnR (putV keep ks number save)) (fun _ => turnVal (putV keep ks number save)) w) := by
  have hl := ok_len hr
  refine Sy.calls_of Sy.lv11 Sy.tab_ok Try.func11 rfl _ Try.ntmps11 [⟨v, 3, ks.length, ks.map encK⟩] [.agg [.v (.int .i64 keep), .row 0], .c (.v (.int .u64 number)), .c (.v (.bool save))] rfl rfl rfl ⟨hr, trivial⟩ ?_
  ((repeat' ((conv => whnf);(first|refine zA ?_|(refine zI ?_ ?_<;> intro hh<;> first|(exfalso;omega)|skip)|(refine zl ?_ ?_<;> intro hh)|refine zq ?_|refine zv ?_|refine zu ?_|exact Sy.fin_val fun e=>rfl)));(all_goals (try conv => whnf)))
  refine Sy.call_in Sy.lv27 Sy.tab_ok Try.func27 rfl _ Try.ntmps27 Try.call27 rfl (fun _ => ?_)
  ((repeat' ((conv => whnf);(first|refine zA ?_|(refine zI ?_ ?_<;> intro hh<;> first|(exfalso;omega)|skip)|(refine zl ?_ ?_<;> intro hh)|refine zq ?_|refine zv ?_|refine zu ?_|exact Sy.fin_val fun e=>rfl)));(all_goals (try conv => whnf)))
  by_cases hk : okS keep ks = true
  · have hb := okS_bd hk
    refine Sy.call_val (.c (.v (.int .i64 0))) Try.call24 rfl (fun e a w' h => by have := check_any keep (e.rv 0) ks w' (Sy.row_reads h (.inr rfl)); rw [chkE_ok hk] at this; exact this) ?_
    ((repeat' ((conv => whnf);(first|refine zA ?_|(refine zI ?_ ?_<;> intro hh<;> first|(exfalso;omega)|skip)|(refine zl ?_ ?_<;> intro hh)|refine zq ?_|refine zv ?_|refine zu ?_|exact Sy.fin_val fun e=>rfl)));(all_goals (try conv => whnf)))
    refine Sy.call_r1 ⟨39, 3, ks.length, ks.map encK⟩ (fun k => .c (.row k)) Try.call39 (fun e a w' h => cloneK_any (e.rv 0) ks w' (Sy.row_reads h (.inr rfl)) (by omega)) ?_
    ((repeat' ((conv => whnf);(first|refine zA ?_|(refine zI ?_ ?_<;> intro hh<;> first|(exfalso;omega)|skip)|(refine zl ?_ ?_<;> intro hh)|refine zq ?_|refine zv ?_|refine zu ?_|exact Sy.fin_val fun e=>rfl)));(all_goals (try conv => whnf)))
    refine Sy.call_in Sy.lv28 Sy.tab_ok Try.func28 rfl _ Try.ntmps28 Try.call28 rfl (fun _ => ?_)
    ((repeat' ((conv => whnf);(first|refine zA ?_|(refine zI ?_ ?_<;> intro hh<;> first|(exfalso;omega)|skip)|(refine zl ?_ ?_<;> intro hh)|refine zq ?_|refine zv ?_|refine zu ?_|exact Sy.fin_val fun e=>rfl)));(all_goals (try conv => whnf)))
    refine Sy.call_val (.tup [.agg [.v (.int .u64 (latestV keep ks).1.number), .v (.bool (latestV keep ks).1.save), .v (.bool (latestV keep ks).1.opn)], .c (.v (.bool (latestV keep ks).2))]) Try.call17 rfl (fun e a w' h => latest_any keep (e.rv 8) ks w' (Sy.row_reads h (.inl ⟨_, rfl⟩))) ?_
    rw [latest_last hk]
    generalize (latestV keep ks).2 = b
    ((repeat' ((conv => whnf);(first|refine zA ?_|(refine zI ?_ ?_<;> intro hh<;> first|(exfalso;omega)|skip)|(refine zl ?_ ?_<;> intro hh)|refine zq ?_|refine zv ?_|refine zu ?_|exact Sy.fin_val fun e=>rfl)));(all_goals (try conv => whnf)))
    · rw [show putV keep ks number save = ((0, []), [], 2) by rw [putV, if_pos hk, if_neg (by intro h; omega)]]
      exact Sy.fin_rows () trivial [.v (.slice none 0 0), .v (.slice none 0 0)] ⟨⟨rfl, rfl⟩, (by intro j _ h; exact absurd rfl h), ⟨rfl, rfl⟩, (by intro j hj; cases hj), trivial⟩ (fun e => rfl)
    · rw [show putV keep ks number save = ((0, []), [], 2) by rw [putV, if_pos hk, if_neg (by intro h; omega)]]
      exact Sy.fin_rows () trivial [.v (.slice none 0 0), .v (.slice none 0 0)] ⟨⟨rfl, rfl⟩, (by intro j _ h; exact absurd rfl h), ⟨rfl, rfl⟩, (by intro j hj; cases hj), trivial⟩ (fun e => rfl)
    refine Sy.draw_go [6,8] (by kernel_rfl) ?_
    intro e0
    conv => whnf
    refine zt 0 rfl ?_
    conv => whnf
    refine zt 1 rfl ?_
    conv => whnf
    refine zt 2 rfl ?_
    conv => whnf
    refine zt 3 rfl ?_
    conv => whnf
    refine zt 5 rfl ?_
    conv => whnf
    refine zt 6 rfl ?_
    conv => whnf
    refine zt 7 rfl ?_
    conv => whnf
    focus
      refine zd1 [4, 8] (zx rfl ?_ (zx rfl ?_ zy))
      focus
        conv => whnf
        refine ⟨(by repeat' ((conv => whnf);first|exact trivial|(refine And.intro ?_ ?_)|rfl)), ?_⟩
        refine zd1 [8] (zx rfl ?_ zy)
        conv => whnf
        refine ⟨(by repeat' ((conv => whnf);first|exact trivial|(refine And.intro ?_ ?_)|rfl)), ?_⟩
        refine zd1 [9] (zx rfl ?_ zy)
        conv => whnf
        refine Sy.need_app 16 rfl ⟨by omega, by omega⟩ ?_
        conv => whnf
        refine ⟨(by repeat' ((conv => whnf);first|exact trivial|(refine And.intro ?_ ?_)|rfl)), ?_⟩
        refine zt 10 rfl ?_
        conv => whnf
        refine zt 11 rfl ?_
        conv => whnf
        refine zd1 [12] (zx rfl ?_ zy)
        conv => whnf
        refine ⟨(by repeat' ((conv => whnf);first|exact trivial|(refine And.intro ?_ ?_)|rfl)), ?_⟩
        refine zw ?_
        ((repeat' ((conv => whnf);(first|refine zA ?_|(refine zI ?_ ?_<;> intro hh<;> first|(exfalso;omega)|skip)|(refine zl ?_ ?_<;> intro hh)|refine zq ?_|refine zv ?_|refine zu ?_|exact Sy.fin_val fun e=>rfl)));(all_goals (try conv => whnf)))
      rotate_right
      focus
        conv => whnf
        refine ⟨(by repeat' ((conv => whnf);first|exact trivial|(refine And.intro ?_ ?_)|rfl)), ?_⟩
        refine zd1 [4] (zx rfl ?_ zy)
        conv => whnf
        refine ⟨(by repeat' ((conv => whnf);first|exact trivial|(refine And.intro ?_ ?_)|rfl)), ?_⟩
        refine zd1 [9] (zx rfl ?_ zy)
        conv => whnf
        refine Sy.need_app 16 rfl ⟨by omega, by omega⟩ ?_
        conv => whnf
        refine ⟨(by repeat' ((conv => whnf);first|exact trivial|(refine And.intro ?_ ?_)|rfl)), ?_⟩
        refine zt 10 rfl ?_
        conv => whnf
        refine zt 11 rfl ?_
        conv => whnf
        refine zd1 [12] (zx rfl ?_ zy)
        conv => whnf
        refine ⟨(by repeat' ((conv => whnf);first|exact trivial|(refine And.intro ?_ ?_)|rfl)), ?_⟩
        refine zw ?_
        ((repeat' ((conv => whnf);(first|refine zA ?_|(refine zI ?_ ?_<;> intro hh<;> first|(exfalso;omega)|skip)|(refine zl ?_ ?_<;> intro hh)|refine zq ?_|refine zv ?_|refine zu ?_|exact Sy.fin_val fun e=>rfl)));(all_goals (try conv => whnf)))
    all_goals
      have hasc := okL_rising hb.2.2.2
      have hris := rising_put (k := ⟨number, save, true⟩) hasc (fun q hq => by have := last_max hasc q hq; show q.number < number; omega)
      have hlen : (ks ++ [(⟨number, save, true⟩ : Kp)]).length = ks.length + 1 := by simp
      have h17 := cut_open keep (ks ++ [⟨number, save, true⟩]) ⟨⟨number, save, true⟩, by simp, rfl⟩
      have hcl := cut_len keep (ks ++ [⟨number, save, true⟩])
      refine Sy.call_own (drop_does keep (ks ++ [⟨number, save, true⟩]) hris ⟨by omega, by omega⟩ (by omega) (by omega)) Try.call40 ?_
      ((conv => whnf);(refine And.intro ?_ (And.intro ?_ (And.intro ?_ (And.intro ?_ ?_))));(all_goals ((repeat' (first|((conv => whnf);done)|((try conv => whnf);first|exact trivial|(refine And.intro ?_ ?_)|rfl|exact fun _ _ _ h=>h|exact fun _ _ _ _=>trivial)));(all_goals (try conv => whnf))));rotate_right)
      · intro _ _ _
        ((repeat' ((conv => whnf);(first|refine zA ?_|(refine zI ?_ ?_<;> intro hh<;> first|(exfalso;omega)|skip)|(refine zl ?_ ?_<;> intro hh)|refine zq ?_|refine zv ?_|refine zu ?_|exact Sy.fin_val fun e=>rfl)));(all_goals (try conv => whnf)))
        · rw [show putV keep ks number save = ((0, []), [], 6) by rw [putV, if_pos hk, if_pos ⟨by omega, by omega⟩, put1, if_neg (by omega)]]
          exact Sy.fin_r2 (.v (.slice none 0 0)) (.v (.slice none 0 0)) ⟨rfl, rfl⟩ ⟨rfl, rfl⟩
        · rw [show putV keep ks number save = ((keep, (cutL keep (ks ++ [⟨number, save, true⟩])).1), (cutL keep (ks ++ [⟨number, save, true⟩])).2, 0) by rw [putV, if_pos hk, if_pos ⟨by omega, by omega⟩, put1, if_pos (by omega)]]
          exact Sy.fin_r2 (.row 13) (.row 12) rfl rfl
      all_goals simp [encK]
  · refine Sy.call_val (.c (.v (.int .i64 330))) Try.call24 rfl (fun e a w' h => by have := check_any keep (e.rv 0) ks w' (Sy.row_reads h (.inr rfl)); rw [chkE_no hk] at this; exact this) ?_
    ((repeat' ((conv => whnf);(first|refine zA ?_|(refine zI ?_ ?_<;> intro hh<;> first|(exfalso;omega)|skip)|(refine zl ?_ ?_<;> intro hh)|refine zq ?_|refine zv ?_|refine zu ?_|exact Sy.fin_val fun e=>rfl)));(all_goals (try conv => whnf)))
    rw [show putV keep ks number save = ((0, []), [], 330) by rw [putV, if_neg hk]]
    exact Sy.fin_rows () trivial [.v (.slice none 0 0), .v (.slice none 0 0)] ⟨⟨rfl, rfl⟩, (by intro j _ h; exact absurd rfl h), ⟨rfl, rfl⟩, (by intro j hj; cases hj), trivial⟩ (fun e => rfl)
end Go.Proofs.Ytkmdmjnbjoakbaa
