/- Snap: the document's numbers and tables of bytes. -/
import Derived.Test.YtmahldelmbhjfaaSdC
import Derived.Test.YtmahldelmbhjfaaDrawB
namespace Go.Proofs.Ytmahldelmbhjfaa
open Go Go.RowKit
open Sy (C SV V1 Blk St XD Els yt yt1 yd1 yw)
set_option maxRecDepth 10000

theorem or_u64 (x c : Int) (hx : 0 ≤ x) (hc : 0 ≤ c ∧ c < 256) (h : x * 256 + c < 18446744073709551616) : IntKind.u64.wrap ((BitVec.ofInt IntKind.u64.bits (IntKind.u64.wrap (x * 2 ^ min 8 IntKind.u64.bits)) ||| BitVec.ofInt IntKind.u64.bits c).toNat : Int) = x * 256 + c := by
  obtain ⟨xn, rfl⟩ : ∃ n : Nat, x = (n : Int) := ⟨x.toNat, by omega⟩
  obtain ⟨k, rfl⟩ : ∃ k : Nat, c = (k : Int) := ⟨c.toNat, by omega⟩
  have hw : IntKind.u64.wrap ((xn : Int) * 2 ^ min 8 IntKind.u64.bits) = (xn : Int) * 256 := by
    show IntKind.u64.wrap ((xn : Int) * 256) = _
    rw [IntKind.wrap_u64]; omega
  rw [hw]
  have e1 : (BitVec.ofInt IntKind.u64.bits ((xn : Int) * 256)).toNat = 2 ^ 8 * xn := by
    show (BitVec.ofInt 64 ((xn : Int) * 256)).toNat = 256 * xn
    rw [BitVec.toNat_ofInt]
    omega
  have e2 : (BitVec.ofInt IntKind.u64.bits (k : Int)).toNat = k := by
    show (BitVec.ofInt 64 (k : Int)).toNat = k
    rw [BitVec.toNat_ofInt]
    omega
  rw [BitVec.toNat_or, e1, e2, ← Nat.two_pow_add_eq_or_of_lt (by omega), IntKind.wrap_u64]
  omega
set_option maxHeartbeats 1000000 in
theorem num_row (v : Value) (l : List Int) (w : World) (hr : XD.ok (fun x => x < w.heap.size) w ⟨v, 1, l.length, l.map encB⟩) (h8 : bytesOk l) (hl : l.length ≤ 8) :
    Calls Try.prog 70 #[v] w (Sy.Ret (.int .u64 (num l)) w) := by
  refine Sy.calls_of Sy.lv70 Sy.tab_ok Try.func70 rfl _ Try.ntmps70 [⟨v, 1, l.length, l.map encB⟩] [.c (.row 0)] rfl rfl rfl ⟨hr, trivial⟩ ?_
  ((repeat' ((conv => whnf);(first|refine zA ?_|(refine zI ?_ ?_<;> intro hh<;> first|(exfalso;omega)|skip)|(refine zl ?_ ?_<;> intro hh)|refine zq ?_|refine zv ?_|refine zu ?_|exact Sy.fin_val fun e=>rfl)));(all_goals (try conv => whnf)))
  refine Sy.loop_inv Sy.tab_ok (fun i : Nat => [(4, .c (.v (.int .i64 i))), (3, .c (.v (.int .u64 (num (l.take i)))))]) (fun _ => []) (fun i => i ≤ l.length) (fun i => l.length - i) 0 (Nat.zero_le _) ?_ (fun i hi => ?_)
  · rw [show num (l.take 0) = 0 from rfl]
    ((repeat' (first|((conv => whnf);done)|((try conv => whnf);first|exact trivial|(refine And.intro ?_ ?_)|rfl|exact fun _ _ _ h=>h|exact fun _ _ _ _=>trivial)));(all_goals (try conv => whnf)))
  · by_cases hlt : i < l.length
    · have hg := List.getElem?_eq_getElem hlt
      have hc := h8 _ (List.getElem_mem hlt)
      have hb := num_bound (l := l.take i) fun x hx => h8 x (List.mem_of_mem_take hx)
      have hb2 := num_bound (l := l.take (i + 1)) fun x hx => h8 x (List.mem_of_mem_take hx)
      have hs : num (l.take (i + 1)) = num (l.take i) * 256 + l[i] := by rw [List.take_succ_eq_append_getElem hlt, num_snoc]
      have h64 : num (l.take (i + 1)) < 18446744073709551616 := by
        refine Int.lt_of_lt_of_le hb2.2 ?_
        have h1 : (l.take (i + 1)).length ≤ 8 := by rw [List.length_take]; omega
        have : ((256 ^ (l.take (i + 1)).length : Nat) : Int) ≤ ((256 ^ 8 : Nat) : Int) := Int.ofNat_le.2 (Nat.pow_le_pow_right (by decide) h1)
        simpa using this
      generalize l[i] = c at *
      have hor := or_u64 (num (l.take i)) c hb.1 hc (by rw [← hs]; exact h64)
      rw [← hs] at hor
      ((repeat' ((conv => whnf);(first|refine zA ?_|(refine zI ?_ ?_<;> intro hh<;> first|(exfalso;omega)|skip)|(refine zl ?_ ?_<;> intro hh)|refine zq ?_|refine zv ?_|refine zu ?_|exact Sy.fin_val fun e=>rfl)));(all_goals (try conv => whnf)))
      refine Sy.sh_nat (y := 8) ?_
      ((repeat' ((conv => whnf);(first|refine zA ?_|(refine zI ?_ ?_<;> intro hh<;> first|(exfalso;omega)|skip)|(refine zl ?_ ?_<;> intro hh)|refine zq ?_|refine zv ?_|refine zu ?_|exact Sy.fin_val fun e=>rfl)));(all_goals (try conv => whnf)))
      refine Sy.ar_wrap ?_
      ((repeat' ((conv => whnf);(first|refine zA ?_|(refine zI ?_ ?_<;> intro hh<;> first|(exfalso;omega)|skip)|(refine zl ?_ ?_<;> intro hh)|refine zq ?_|refine zv ?_|refine zu ?_|exact Sy.fin_val fun e=>rfl)));(all_goals (try conv => whnf)))
      refine Sy.el_map c hg ?_
      ((repeat' ((conv => whnf);(first|refine zA ?_|(refine zI ?_ ?_<;> intro hh<;> first|(exfalso;omega)|skip)|(refine zl ?_ ?_<;> intro hh)|refine zq ?_|refine zv ?_|refine zu ?_|exact Sy.fin_val fun e=>rfl)));(all_goals (try conv => whnf)))
      refine Sy.ar_u64 (by omega) ?_
      ((repeat' ((conv => whnf);(first|refine zA ?_|(refine zI ?_ ?_<;> intro hh<;> first|(exfalso;omega)|skip)|(refine zl ?_ ?_<;> intro hh)|refine zq ?_|refine zv ?_|refine zu ?_|exact Sy.fin_val fun e=>rfl)));(all_goals (try conv => whnf)))
      rw [hor]
      refine ⟨i + 1, by omega, by omega, ?_⟩
      ((repeat' (first|((conv => whnf);done)|((try conv => whnf);first|exact trivial|(refine And.intro ?_ ?_)|rfl|exact fun _ _ _ h=>h|exact fun _ _ _ _=>trivial)));(all_goals (try conv => whnf)))
    · have e : i = l.length := by omega
      subst e
      rw [List.take_length]
      ((repeat' ((conv => whnf);(first|refine zA ?_|(refine zI ?_ ?_<;> intro hh<;> first|(exfalso;omega)|skip)|(refine zl ?_ ?_<;> intro hh)|refine zq ?_|refine zv ?_|refine zu ?_|exact Sy.fin_val fun e=>rfl)));(all_goals (try conv => whnf)))
      done
theorem num_any (v : Value) (n : Nat) (xs : List (List Value)) (l : List Int) (w : World) (hn : n = l.length) (hx : xs = l.map encB) (hr : XD.ok (fun x => x < w.heap.size) w ⟨v, 1, n, xs⟩) (h8 : bytesOk l) (hl : l.length ≤ 8) :
    Calls Try.prog 70 #[v] w (Sy.Ret (.int .u64 (num l)) w) := by
  subst hn hx; exact num_row v l w hr h8 hl
/-- A part of bytes. -/
theorem sub_of {l : List Int} (lo n : Nat) (h : lo + n ≤ l.length) : List.take (lo + n - lo) (List.drop lo (l.map encB)) = ((l.drop lo).take n).map encB ∧ lo + n - lo = ((l.drop lo).take n).length := by
  rw [List.map_take, List.map_drop, Nat.add_sub_cancel_left, List.length_take, List.length_drop]
  exact ⟨rfl, by omega⟩
theorem kOf_take (y : List Int) : kOf (y.take 18) = kOf y := by
  unfold kOf
  simp only [List.drop_take, List.take_take]
  rfl
theorem nOf_take (y : List Int) : nOf (y.take 9) = nOf y := by
  unfold nOf
  simp only [List.drop_take, List.take_take]
  rfl
attribute [local irreducible] tblB ksOf cntAt numAt
set_option maxHeartbeats 8000000 in
theorem rtdec_any (v : Value) (b : List Int) (w : World) (hr : XD.ok (fun x => x < w.heap.size) w ⟨v, 1, b.length, b.map encB⟩) (b8 : bytesOk b) (hb : b.length ≤ 10000) :
    Calls Try.prog 71 #[v] w (Sy.RetRows Sy.noRow (fun _ : Unit => True) (fun _ => [⟨73, 4, (tdV b).length, (tdV b).map encK⟩]) (fun _ vs => .tuple #[.agg #[vs.headD undef], .int .i64 (tdE b)]) w) := by
  refine Sy.calls_of Sy.lv71 Sy.tab_ok Try.func71 rfl _ Try.ntmps71 [⟨v, 1, b.length, b.map encB⟩] [.c (.row 0)] rfl rfl rfl ⟨hr, trivial⟩ ?_
  have hbad : ∀ e, tdE b = e → e ≠ 0 → tdV b = [] := fun e h1 h2 => if_neg (by rw [h1]; exact h2)
  by_cases h2 : b.length < 2
  · have hE : tdE b = 7 := if_pos h2
    rw [hE, hbad 7 hE (by decide)]
    ((repeat' ((conv => whnf);(first|refine zA ?_|(refine zI ?_ ?_<;> intro hh<;> first|(exfalso;omega)|skip)|(refine zl ?_ ?_<;> intro hh)|refine zq ?_|refine zv ?_|refine zu ?_|exact Sy.fin_val fun e=>rfl)));(all_goals (try conv => whnf)))
    exact Sy.fin_r1 (.v (.slice none 0 0)) ⟨rfl, rfl⟩ (fun e => rfl)
  · obtain ⟨n, hn⟩ : ∃ n, n = cntAt b 0 := ⟨_, rfl⟩
    have hcn := cntAt_eq b8 0
    rw [← hn] at hcn
    have hnum : num (b.take 2) = (n : Int) := by rw [hcn.1]; unfold numAt; rfl
    have hE' : tdE b = if b.length < 2 + 18 * n then 7 else if tblB (ksOf b 2 n) = true ∧ b.length = 2 + 18 * n then 0 else 220 := by unfold tdE; rw [if_neg h2, ← hn]
    ((repeat' ((conv => whnf);(first|refine zA ?_|(refine zI ?_ ?_<;> intro hh<;> first|(exfalso;omega)|skip)|(refine zl ?_ ?_<;> intro hh)|refine zq ?_|refine zv ?_|refine zu ?_|exact Sy.fin_val fun e=>rfl)));(all_goals (try conv => whnf)))
    refine Sy.sli_eq 0 2 rfl rfl ⟨by decide, by omega⟩ ?_
    ((repeat' ((conv => whnf);(first|refine zA ?_|(refine zI ?_ ?_<;> intro hh<;> first|(exfalso;omega)|skip)|(refine zl ?_ ?_<;> intro hh)|refine zq ?_|refine zv ?_|refine zu ?_|exact Sy.fin_val fun e=>rfl)));(all_goals (try conv => whnf)))
    refine Sy.call_val (.c (.v (.int .u64 n))) Try.call70 rfl (fun e a w' h => by
      have := num_any (e.rv 2) (2 - 0) (List.take (2 - 0) (List.drop 0 (b.map encB))) (b.take 2) w' (by rw [List.length_take]; omega) (by rw [List.map_take]; rfl) (Sy.row_reads h (.inr rfl)) (b8.take 2) (by rw [List.length_take]; omega)
      rw [hnum] at this; exact this) ?_
    by_cases hs : b.length < 2 + 18 * n
    · rw [if_pos hs] at hE'
      rw [hE', hbad 7 hE' (by decide)]
      ((repeat' ((conv => whnf);(first|refine zA ?_|(refine zI ?_ ?_<;> intro hh<;> first|(exfalso;omega)|skip)|(refine zl ?_ ?_<;> intro hh)|refine zq ?_|refine zv ?_|refine zu ?_|exact Sy.fin_val fun e=>rfl)));(all_goals (try conv => whnf)))
      exact Sy.fin_r1 (.v (.slice none 0 0)) ⟨rfl, rfl⟩ (fun e => rfl)
    · rw [if_neg hs] at hE'
      ((repeat' ((conv => whnf);(first|refine zA ?_|(refine zI ?_ ?_<;> intro hh<;> first|(exfalso;omega)|skip)|(refine zl ?_ ?_<;> intro hh)|refine zq ?_|refine zv ?_|refine zu ?_|exact Sy.fin_val fun e=>rfl)));(all_goals (try conv => whnf)))
      refine Sy.sli_eq 0 2 rfl rfl ⟨by decide, by omega⟩ ?_
      ((repeat' ((conv => whnf);(first|refine zA ?_|(refine zI ?_ ?_<;> intro hh<;> first|(exfalso;omega)|skip)|(refine zl ?_ ?_<;> intro hh)|refine zq ?_|refine zv ?_|refine zu ?_|exact Sy.fin_val fun e=>rfl)));(all_goals (try conv => whnf)))
      refine Sy.call_val (.c (.v (.int .u64 n))) Try.call70 rfl (fun e a w' h => by
        have := num_any (e.rv 4) (2 - 0) (List.take (2 - 0) (List.drop 0 (b.map encB))) (b.take 2) w' (by rw [List.length_take]; omega) (by rw [List.map_take]; rfl) (Sy.row_reads h (.inr rfl)) (b8.take 2) (by rw [List.length_take]; omega)
        rw [hnum] at this; exact this) ?_
      ((repeat' ((conv => whnf);(first|refine zA ?_|(refine zI ?_ ?_<;> intro hh<;> first|(exfalso;omega)|skip)|(refine zl ?_ ?_<;> intro hh)|refine zq ?_|refine zv ?_|refine zu ?_|exact Sy.fin_val fun e=>rfl)));(all_goals (try conv => whnf)))
      refine Sy.sem_subF (Sy.sub_rowc 3 0 73 4 rfl rfl) ?_
      conv => whnf
      refine Sy.loop_inv Sy.tab_ok (fun i : Nat => [(28, .c (.v (.int .i64 i)))]) (fun i => [(3, .cells 28 [.row 5]), (5, .row 73 4 (ksOf b 2 i).length (.vs ((ksOf b 2 i).map encK)))]) (fun i => i ≤ n) (fun i => n - i) 0 (Nat.zero_le _) ?_ (fun i hi => ?_)
      · rw [show ksOf b 2 0 = [] by unfold ksOf; rfl]
        ((repeat' (first|((conv => whnf);done)|((try conv => whnf);first|exact trivial|(refine And.intro ?_ ?_)|rfl|exact fun _ _ _ h=>h|exact fun _ _ _ _=>trivial)));(all_goals (try conv => whnf)))
      · have hkl := ksOf_len b 2 i
        by_cases hlt : i < n
        · obtain ⟨x, hx⟩ : ∃ x, x = (b.drop (2 + 18 * i)).take 18 := ⟨_, rfl⟩
          have xl : x.length = 18 := by rw [hx, List.length_take, List.length_drop]; omega
          have x8 : bytesOk x := by rw [hx]; exact (b8.drop _).take _
          have hsub := sub_of (l := b) (2 + 18 * i) 18 (by omega)
          rw [← hx, show 2 + 18 * i + 18 = 20 + 18 * i by omega] at hsub
          have g0 := at_num (b := x) (i := 0) (by omega)
          have g1 := at_num (b := x) (i := 1) (by omega)
          have z0 := numAt_bound x8 0 1
          have z1 := numAt_bound x8 1 1
          have hk : ksOf b 2 (i + 1) = ksOf b 2 i ++ [⟨numAt x 0 1, numAt x 1 1, IntKind.i64.wrap (num ((x.drop 2).take 8)), IntKind.i64.wrap (num ((x.drop 10).take 8))⟩] := by
            rw [ksOf_succ, ← kOf_take, ← hx]
            unfold kOf numAt
            rfl
          have s2 : List.take (10 - 2) (List.drop 2 (x.map encB)) = ((x.drop 2).take 8).map encB := by rw [List.map_take, List.map_drop]
          have s10 : List.take (18 - 10) (List.drop 10 (x.map encB)) = ((x.drop 10).take 8).map encB := by rw [List.map_take, List.map_drop]
          ((repeat' ((conv => whnf);(first|refine zA ?_|(refine zI ?_ ?_<;> intro hh<;> first|(exfalso;omega)|skip)|(refine zl ?_ ?_<;> intro hh)|refine zq ?_|refine zv ?_|refine zu ?_|exact Sy.fin_val fun e=>rfl)));(all_goals (try conv => whnf)))
          refine Sy.sli_eq (2 + 18 * i) (20 + 18 * i) (by omega) (by omega) ⟨by omega, by omega⟩ ?_
          conv => whnf
          rw [hsub.1, hsub.2]
          ((repeat' ((conv => whnf);(first|refine zA ?_|(refine zI ?_ ?_<;> intro hh<;> first|(exfalso;omega)|skip)|(refine zl ?_ ?_<;> intro hh)|refine zq ?_|refine zv ?_|refine zu ?_|exact Sy.fin_val fun e=>rfl)));(all_goals (try conv => whnf)))
          refine Sy.drawB2_go [3] [5] [23] (by kernel_rfl) ?_
          intro e0
          conv => whnf
          refine yt 0 rfl ?_
          conv => whnf
          refine yt 1 rfl ?_
          conv => whnf
          refine yt 2 rfl ?_
          conv => whnf
          refine yt 3 rfl ?_
          (conv => whnf);(repeat' ((first|refine zA ?_|(refine zI ?_ ?_<;> intro hh<;> first|(exfalso;omega)|skip)|(refine zl ?_ ?_<;> intro hh)|refine zq ?_|refine zv ?_|refine zu ?_|exact Sy.fin_val fun e=>rfl);(try conv => whnf)))
          refine yt 4 rfl ?_
          conv => whnf
          refine Sy.el_map (numAt x 0 1) g0 ?_
          conv => whnf
          refine yt 5 rfl ?_
          (conv => whnf);(repeat' ((first|refine zA ?_|(refine zI ?_ ?_<;> intro hh<;> first|(exfalso;omega)|skip)|(refine zl ?_ ?_<;> intro hh)|refine zq ?_|refine zv ?_|refine zu ?_|exact Sy.fin_val fun e=>rfl);(try conv => whnf)))
          refine yt 6 rfl ?_
          conv => whnf
          refine yt 7 rfl ?_
          (conv => whnf);(repeat' ((first|refine zA ?_|(refine zI ?_ ?_<;> intro hh<;> first|(exfalso;omega)|skip)|(refine zl ?_ ?_<;> intro hh)|refine zq ?_|refine zv ?_|refine zu ?_|exact Sy.fin_val fun e=>rfl);(try conv => whnf)))
          refine yt 8 rfl ?_
          conv => whnf
          refine Sy.el_map (numAt x 1 1) g1 ?_
          conv => whnf
          refine yt 9 rfl ?_
          (conv => whnf);(repeat' ((first|refine zA ?_|(refine zI ?_ ?_<;> intro hh<;> first|(exfalso;omega)|skip)|(refine zl ?_ ?_<;> intro hh)|refine zq ?_|refine zv ?_|refine zu ?_|exact Sy.fin_val fun e=>rfl);(try conv => whnf)))
          refine yt 10 rfl ?_
          conv => whnf
          refine yt 14 rfl ?_
          conv => whnf
          focus
            refine yd1 [11, 15] (zx rfl ?_ (zx rfl ?_ zy))
            focus
              conv => whnf
              refine Sy.sli_eq 2 10 rfl rfl ⟨by decide, by omega⟩ ?_
              refine ⟨(by repeat' ((conv => whnf);first|exact trivial|(refine And.intro ?_ ?_)|rfl)), ?_⟩
              focus
                refine yd1 [12, 15] (zx rfl ?_ (zx rfl ?_ zy))
                focus
                  conv => whnf
                  refine Sy.call_val (.c (.v (.int .u64 (num ((x.drop 2).take 8))))) Try.call70 rfl (fun e a w' h => num_any _ (10 - 2) _ ((x.drop 2).take 8) w' (by rw [List.length_take, List.length_drop]; omega) s2 (Sy.row_reads h (.inr rfl)) ((x8.drop 2).take 8) (by rw [List.length_take]; omega)) ?_
                  conv => whnf
                  refine ⟨(by repeat' ((conv => whnf);first|exact trivial|(refine And.intro ?_ ?_)|rfl)), ?_⟩
                  refine yt 13 rfl ?_
                  (conv => whnf);(repeat' ((first|refine zA ?_|(refine zI ?_ ?_<;> intro hh<;> first|(exfalso;omega)|skip)|(refine zl ?_ ?_<;> intro hh)|refine zq ?_|refine zv ?_|refine zu ?_|exact Sy.fin_val fun e=>rfl);(try conv => whnf)))
                  refine Sy.ar_wrap ?_
                  conv => whnf
                  refine yd1 [15] (zx rfl ?_ zy)
                  conv => whnf
                  refine Sy.sli_eq 10 18 rfl rfl ⟨by decide, by omega⟩ ?_
                  refine ⟨(by repeat' ((conv => whnf);first|exact trivial|(refine And.intro ?_ ?_)|rfl)), ?_⟩
                  refine yd1 [16] (zx rfl ?_ zy)
                  conv => whnf
                  refine Sy.call_val (.c (.v (.int .u64 (num ((x.drop 10).take 8))))) Try.call70 rfl (fun e a w' h => num_any _ (18 - 10) _ ((x.drop 10).take 8) w' (by rw [List.length_take, List.length_drop]; omega) s10 (Sy.row_reads h (.inr rfl)) ((x8.drop 10).take 8) (by rw [List.length_take]; omega)) ?_
                  conv => whnf
                  refine ⟨(by repeat' ((conv => whnf);first|exact trivial|(refine And.intro ?_ ?_)|rfl)), ?_⟩
                  refine yt 17 rfl ?_
                  (conv => whnf);(repeat' ((first|refine zA ?_|(refine zI ?_ ?_<;> intro hh<;> first|(exfalso;omega)|skip)|(refine zl ?_ ?_<;> intro hh)|refine zq ?_|refine zv ?_|refine zu ?_|exact Sy.fin_val fun e=>rfl);(try conv => whnf)))
                  refine Sy.ar_wrap ?_
                  conv => whnf
                  refine yt 18 rfl ?_
                  conv => whnf
                  refine yt 19 rfl ?_
                  conv => whnf
                  refine yd1 [20] (zx rfl ?_ zy)
                  conv => whnf
                  refine ⟨(by repeat' ((conv => whnf);first|exact trivial|(refine And.intro ?_ ?_)|rfl)), ?_⟩
                  refine yd1 [21] (zx rfl ?_ zy)
                  conv => whnf
                  refine Sy.need_app 32 rfl ⟨by omega, by omega⟩ ?_
                  conv => whnf
                  refine ⟨(by repeat' ((conv => whnf);first|exact trivial|(refine And.intro ?_ ?_)|rfl)), ?_⟩
                  refine yt 22 rfl ?_
                  conv => whnf
                  refine yd1 [23] (zx rfl ?_ zy)
                  conv => whnf
                  refine ⟨(by repeat' ((conv => whnf);first|exact trivial|(refine And.intro ?_ ?_)|rfl)), ?_⟩
                  refine yw ?_
                  skip
                rotate_right
                focus
                  conv => whnf
                  refine Sy.sli_eq 10 18 rfl rfl ⟨by decide, by omega⟩ ?_
                  refine ⟨(by repeat' ((conv => whnf);first|exact trivial|(refine And.intro ?_ ?_)|rfl)), ?_⟩
                  refine yd1 [12] (zx rfl ?_ zy)
                  conv => whnf
                  refine Sy.call_val (.c (.v (.int .u64 (num ((x.drop 2).take 8))))) Try.call70 rfl (fun e a w' h => num_any _ (10 - 2) _ ((x.drop 2).take 8) w' (by rw [List.length_take, List.length_drop]; omega) s2 (Sy.row_reads h (.inr rfl)) ((x8.drop 2).take 8) (by rw [List.length_take]; omega)) ?_
                  conv => whnf
                  refine ⟨(by repeat' ((conv => whnf);first|exact trivial|(refine And.intro ?_ ?_)|rfl)), ?_⟩
                  refine yt 13 rfl ?_
                  (conv => whnf);(repeat' ((first|refine zA ?_|(refine zI ?_ ?_<;> intro hh<;> first|(exfalso;omega)|skip)|(refine zl ?_ ?_<;> intro hh)|refine zq ?_|refine zv ?_|refine zu ?_|exact Sy.fin_val fun e=>rfl);(try conv => whnf)))
                  refine Sy.ar_wrap ?_
                  conv => whnf
                  refine yd1 [16] (zx rfl ?_ zy)
                  conv => whnf
                  refine Sy.call_val (.c (.v (.int .u64 (num ((x.drop 10).take 8))))) Try.call70 rfl (fun e a w' h => num_any _ (18 - 10) _ ((x.drop 10).take 8) w' (by rw [List.length_take, List.length_drop]; omega) s10 (Sy.row_reads h (.inr rfl)) ((x8.drop 10).take 8) (by rw [List.length_take]; omega)) ?_
                  conv => whnf
                  refine ⟨(by repeat' ((conv => whnf);first|exact trivial|(refine And.intro ?_ ?_)|rfl)), ?_⟩
                  refine yt 17 rfl ?_
                  (conv => whnf);(repeat' ((first|refine zA ?_|(refine zI ?_ ?_<;> intro hh<;> first|(exfalso;omega)|skip)|(refine zl ?_ ?_<;> intro hh)|refine zq ?_|refine zv ?_|refine zu ?_|exact Sy.fin_val fun e=>rfl);(try conv => whnf)))
                  refine Sy.ar_wrap ?_
                  conv => whnf
                  refine yt 18 rfl ?_
                  conv => whnf
                  refine yt 19 rfl ?_
                  conv => whnf
                  refine yd1 [20] (zx rfl ?_ zy)
                  conv => whnf
                  refine ⟨(by repeat' ((conv => whnf);first|exact trivial|(refine And.intro ?_ ?_)|rfl)), ?_⟩
                  refine yd1 [21] (zx rfl ?_ zy)
                  conv => whnf
                  refine Sy.need_app 32 rfl ⟨by omega, by omega⟩ ?_
                  conv => whnf
                  refine ⟨(by repeat' ((conv => whnf);first|exact trivial|(refine And.intro ?_ ?_)|rfl)), ?_⟩
                  refine yt 22 rfl ?_
                  conv => whnf
                  refine yd1 [23] (zx rfl ?_ zy)
                  conv => whnf
                  refine ⟨(by repeat' ((conv => whnf);first|exact trivial|(refine And.intro ?_ ?_)|rfl)), ?_⟩
                  refine yw ?_
                  skip
            rotate_right
            focus
              conv => whnf
              refine Sy.sli_eq 10 18 rfl rfl ⟨by decide, by omega⟩ ?_
              refine ⟨(by repeat' ((conv => whnf);first|exact trivial|(refine And.intro ?_ ?_)|rfl)), ?_⟩
              refine yd1 [11] (zx rfl ?_ zy)
              conv => whnf
              refine Sy.sli_eq 2 10 rfl rfl ⟨by decide, by omega⟩ ?_
              refine ⟨(by repeat' ((conv => whnf);first|exact trivial|(refine And.intro ?_ ?_)|rfl)), ?_⟩
              refine yd1 [12] (zx rfl ?_ zy)
              conv => whnf
              refine Sy.call_val (.c (.v (.int .u64 (num ((x.drop 2).take 8))))) Try.call70 rfl (fun e a w' h => num_any _ (10 - 2) _ ((x.drop 2).take 8) w' (by rw [List.length_take, List.length_drop]; omega) s2 (Sy.row_reads h (.inr rfl)) ((x8.drop 2).take 8) (by rw [List.length_take]; omega)) ?_
              conv => whnf
              refine ⟨(by repeat' ((conv => whnf);first|exact trivial|(refine And.intro ?_ ?_)|rfl)), ?_⟩
              refine yt 13 rfl ?_
              (conv => whnf);(repeat' ((first|refine zA ?_|(refine zI ?_ ?_<;> intro hh<;> first|(exfalso;omega)|skip)|(refine zl ?_ ?_<;> intro hh)|refine zq ?_|refine zv ?_|refine zu ?_|exact Sy.fin_val fun e=>rfl);(try conv => whnf)))
              refine Sy.ar_wrap ?_
              conv => whnf
              refine yd1 [16] (zx rfl ?_ zy)
              conv => whnf
              refine Sy.call_val (.c (.v (.int .u64 (num ((x.drop 10).take 8))))) Try.call70 rfl (fun e a w' h => num_any _ (18 - 10) _ ((x.drop 10).take 8) w' (by rw [List.length_take, List.length_drop]; omega) s10 (Sy.row_reads h (.inr rfl)) ((x8.drop 10).take 8) (by rw [List.length_take]; omega)) ?_
              conv => whnf
              refine ⟨(by repeat' ((conv => whnf);first|exact trivial|(refine And.intro ?_ ?_)|rfl)), ?_⟩
              refine yt 17 rfl ?_
              (conv => whnf);(repeat' ((first|refine zA ?_|(refine zI ?_ ?_<;> intro hh<;> first|(exfalso;omega)|skip)|(refine zl ?_ ?_<;> intro hh)|refine zq ?_|refine zv ?_|refine zu ?_|exact Sy.fin_val fun e=>rfl);(try conv => whnf)))
              refine Sy.ar_wrap ?_
              conv => whnf
              refine yt 18 rfl ?_
              conv => whnf
              refine yt 19 rfl ?_
              conv => whnf
              refine yd1 [20] (zx rfl ?_ zy)
              conv => whnf
              refine ⟨(by repeat' ((conv => whnf);first|exact trivial|(refine And.intro ?_ ?_)|rfl)), ?_⟩
              refine yd1 [21] (zx rfl ?_ zy)
              conv => whnf
              refine Sy.need_app 32 rfl ⟨by omega, by omega⟩ ?_
              conv => whnf
              refine ⟨(by repeat' ((conv => whnf);first|exact trivial|(refine And.intro ?_ ?_)|rfl)), ?_⟩
              refine yt 22 rfl ?_
              conv => whnf
              refine yd1 [23] (zx rfl ?_ zy)
              conv => whnf
              refine ⟨(by repeat' ((conv => whnf);first|exact trivial|(refine And.intro ?_ ?_)|rfl)), ?_⟩
              refine yw ?_
              skip
          all_goals (((repeat' ((conv => whnf);(first|refine zA ?_|(refine zI ?_ ?_<;> intro hh<;> first|(exfalso;omega)|skip)|(refine zl ?_ ?_<;> intro hh)|refine zq ?_|refine zv ?_|refine zu ?_|exact Sy.fin_val fun e=>rfl)));(all_goals (try conv => whnf))))
          all_goals (refine ⟨i + 1, by omega, by omega, ?_⟩)
          all_goals (rw [hk])
          all_goals (((repeat' (first|((conv => whnf);done)|((try conv => whnf);first|exact trivial|(refine And.intro ?_ ?_)|rfl|exact fun _ _ _ h=>h|exact fun _ _ _ _=>trivial)));(all_goals (try conv => whnf))))
          all_goals simp [encK]
        · have e : i = n := by omega
          rw [e]
          by_cases hq : b.length = 2 + 18 * n
          · ((repeat' ((conv => whnf);(first|refine zA ?_|(refine zI ?_ ?_<;> intro hh<;> first|(exfalso;omega)|skip)|(refine zl ?_ ?_<;> intro hh)|refine zq ?_|refine zv ?_|refine zu ?_|exact Sy.fin_val fun e=>rfl)));(all_goals (try conv => whnf)))
            refine Sy.call_val (.c (.v (.bool (tblB (ksOf b 2 n))))) Try.call36 rfl (fun e a w' h => rtbl_any (e.rv 5) (ksOf b 2 n) w' (Sy.row_reads h (.inl ⟨_, rfl⟩))) ?_
            by_cases ht : tblB (ksOf b 2 n) = true
            · have hE : tdE b = 0 := by rw [hE', if_pos ⟨ht, hq⟩]
              rw [hE, show tdV b = ksOf b 2 n by rw [hn]; exact if_pos hE, ht]
              ((repeat' ((conv => whnf);(first|refine zA ?_|(refine zI ?_ ?_<;> intro hh<;> first|(exfalso;omega)|skip)|(refine zl ?_ ?_<;> intro hh)|refine zq ?_|refine zv ?_|refine zu ?_|exact Sy.fin_val fun e=>rfl)));(all_goals (try conv => whnf)))
              exact Sy.fin_r1 (.row 5) rfl (fun e => rfl)
            · have hE : tdE b = 220 := by rw [hE', if_neg fun h => ht h.1]
              rw [hE, hbad 220 hE (by decide), show tblB (ksOf b 2 n) = false by simpa using ht]
              ((repeat' ((conv => whnf);(first|refine zA ?_|(refine zI ?_ ?_<;> intro hh<;> first|(exfalso;omega)|skip)|(refine zl ?_ ?_<;> intro hh)|refine zq ?_|refine zv ?_|refine zu ?_|exact Sy.fin_val fun e=>rfl)));(all_goals (try conv => whnf)))
              exact Sy.fin_r1 (.v (.slice none 0 0)) ⟨rfl, rfl⟩ (fun e => rfl)
          · have hE : tdE b = 220 := by rw [hE', if_neg fun h => hq h.2]
            rw [hE, hbad 220 hE (by decide)]
            ((repeat' ((conv => whnf);(first|refine zA ?_|(refine zI ?_ ?_<;> intro hh<;> first|(exfalso;omega)|skip)|(refine zl ?_ ?_<;> intro hh)|refine zq ?_|refine zv ?_|refine zu ?_|exact Sy.fin_val fun e=>rfl)));(all_goals (try conv => whnf)))
            all_goals first | (exfalso; omega) | exact Sy.fin_r1 (.v (.slice none 0 0)) ⟨rfl, rfl⟩ (fun e => rfl)
end Go.Proofs.Ytmahldelmbhjfaa
