/- Snap: numbers of bytes; what a reader gives. -/
import Derived.Test.YtgkkpefpbfadoaaGreatAk18
import Derived.Test.YtgkkpefpbfadoaaGreatAk17
import Derived.Test.YtgkkpefpbfadoaaGreatAk34
namespace Go.Proofs.YtgkkpefpbfadoaaGreat.Sn
open Go Go.RowKit
open Sy (C SV V1 Blk St XD Els)
set_option maxRecDepth 10000
def num (l : List Int) : Int := l.foldl (fun a b => a * 256 + b) 0
def bytesOk (l : List Int) : Prop := ∀ b ∈ l, 0 ≤ b ∧ b < 256
theorem num_fold (l : List Int) : ∀ a, l.foldl (fun a b => a * 256 + b) a = a * 256 ^ l.length + num l := by
 induction l with
 | nil => intro a; simp [num]
 |cons b l ih =>
  intro a
  unfold num
  rw [List.foldl_cons, List.foldl_cons, ih, ih (0 * 256 + b), List.length_cons, Int.pow_succ, Int.add_mul]
  simp only [Int.zero_mul, Int.zero_add]
  rw [Int.mul_assoc a, Int.mul_comm 256, Int.add_assoc]
theorem num_cons (b : Int) (l : List Int) : num (b :: l) = b * 256 ^ l.length + num l := by
 show List.foldl (fun a b => a * 256 + b) 0 (b :: l) = _
 rw [List.foldl_cons, Int.zero_mul, Int.zero_add]
 exact num_fold l b
theorem num_snoc (l : List Int) (b : Int) : num (l ++ [b]) = num l * 256 + b := by unfold num; rw [List.foldl_append]; rfl
theorem num_bound : ∀ {l : List Int}, bytesOk l → 0 ≤ num l ∧ num l < 256 ^ l.length
 | [], _ => ⟨Int.le_refl _, by decide⟩
 |b :: l, h => by
  have ih := num_bound (l := l) fun x hx => h x (List.mem_cons_of_mem _ hx)
  have hb := h b List.mem_cons_self
  rw [num_cons, List.length_cons, Int.pow_succ]
  have hp : (0 : Int) < 256 ^ l.length := Int.pow_pos (by decide)
  generalize (256 : Int) ^ l.length = p at *
  have h1 : 0 ≤ b * p := Int.mul_nonneg hb.1 (by omega)
  have h2 : b * p ≤ 255 * p := Int.mul_le_mul_of_nonneg_right (by omega) (by omega)
  omega
theorem or_high (x b : Int) (i : Nat) (hi : i < 8) (hx : 0 ≤ x ∧ x < 256 ^ i) (hb : 0 ≤ b ∧ b < 256) :
  IntKind.u64.wrap ((BitVec.ofInt IntKind.u64.bits x ||| BitVec.ofInt IntKind.u64.bits (IntKind.u64.wrap (b * 2 ^ min (8 * i) IntKind.u64.bits))).toNat : Int) = b * 256 ^ i + x := by
 have hmin : min (8 * i) IntKind.u64.bits = 8 * i := by show min (8 * i) 64 = _; omega
 have hpow : (256 : Int) ^ i = 2 ^ (8 * i) := by rw [Int.pow_mul]; rfl
 rw [hmin, ← hpow]
 obtain ⟨xn, rfl⟩ : ∃ n : Nat, x = (n : Int) := ⟨x.toNat, by omega⟩
 obtain ⟨bn, rfl⟩ : ∃ n : Nat, b = (n : Int) := ⟨b.toNat, by omega⟩
 have hpn : (256 : Int) ^ i = ((2 ^ (8 * i) : Nat) : Int) := by rw [hpow]; simp
 rw [hpn] at hx ⊢
 have h8 : 2 ^ (8 * i) * 256 ≤ 2 ^ 64 := by
  rw [show (256 : Nat) = 2 ^ 8 by decide, ← Nat.pow_add]
  exact Nat.pow_le_pow_right (by decide) (by omega)
 generalize hP : 2 ^ (8 * i) = P at *
 have hxP : xn < P := by omega
 have hbP : bn * P ≤ 255 * P := Nat.mul_le_mul_right _ (by omega)
 have hw : IntKind.u64.wrap ((bn : Int) * (P : Int)) = ((P * bn : Nat) : Int) := by
  rw [IntKind.wrap_u64, show (bn : Int) * (P : Int) = ((P * bn : Nat) : Int) by rw [Nat.mul_comm]; simp]
  rw [Nat.mul_comm] at hbP
  omega
 rw [hw]
 have e1 : (BitVec.ofInt IntKind.u64.bits (xn : Int)).toNat = xn := by
  show (BitVec.ofInt 64 (xn : Int)).toNat = xn
  rw [BitVec.toNat_ofInt]
  omega
 have e2 : (BitVec.ofInt IntKind.u64.bits ((P * bn : Nat) : Int)).toNat = P * bn := by
  show (BitVec.ofInt 64 ((P * bn : Nat) : Int)).toNat = P * bn
  rw [BitVec.toNat_ofInt]
  rw [Nat.mul_comm] at hbP
  omega
 rw [BitVec.toNat_or, e1, e2, Nat.or_comm, ← hP, ← Nat.two_pow_add_eq_or_of_lt (by omega), hP, IntKind.wrap_u64]
 rw [Nat.mul_comm] at hbP
 rw [show (bn : Int) * (P : Int) + (xn : Int) = ((P * bn + xn : Nat) : Int) by rw [Nat.mul_comm]; simp]
 omega
def bitsH (x : Int) (l : List Int) : List (Nat × Blk) := [(0, .cells 22 [.v (.int .u64 x)]), (1, .ext 1 l.length (.vs (l.map encB)))]
def bitsC (l : List Int) : Sy.Ctr Unit := { avs := [.c (.row 1), .c (.loc 0 0)], n0 := 2, H0 := bitsH 0 l, sv := fun _ => .tup [], n1 := fun _ => 2, H1 := fun _ => [(0, .cells 22 [.v (.int .u64 (num l))])] }
set_option maxHeartbeats 2000000 in
theorem bits_does (l : List Int) (hl : l.length ≤ 8) (h8 : bytesOk l) : Sy.Does Tryz.prog 165 (bitsC l) := by
 refine Sy.does_of Sy.lv165 Sy.tab_ok Tryz.func165 rfl _ Tryz.ntmps165 _ rfl rfl (fun e0 w hpre => ?_)
 ((repeat' first|refine Y ?_|refine Y2 ?_ ?_|refine Y1 fun hh=>?_|exact Y0.mk);(all_goals (try conv => whnf)))
 refine Sy.loop_inv Sy.tab_ok (fun i : Nat => [(6, .c (.v (.int .i64 i)))]) (fun i => [(0, .cells 22 [.v (.int .u64 (num (l.drop (l.length - i))))])]) (fun i => i ≤ l.length) (fun i => l.length - i) 0 (Nat.zero_le _) ?_ (fun i hi => ?_)
 ·rw [show num (l.drop (l.length - 0)) = 0 by rw [Nat.sub_zero, List.drop_length]; rfl]
  ((repeat' (first|((conv => whnf);done)|((try conv => whnf);first|exact trivial|(refine And.intro ?_ ?_)|rfl|exact fun _ _ _ h=>h|exact fun _ _ _ _=>trivial)));(all_goals (try conv => whnf)))
 ·by_cases hlt : i < l.length
  ·have hg := List.getElem?_eq_getElem (show l.length - 1 - i < l.length by omega)
   have hb := h8 _ (List.getElem_mem (show l.length - 1 - i < l.length by omega))
   have hd : l.drop (l.length - (i + 1)) = l[l.length - 1 - i] :: l.drop (l.length - i) := by
    rw [show l.length - (i + 1) = l.length - 1 - i by omega, List.drop_eq_getElem_cons (by omega), show l.length - 1 - i + 1 = l.length - i by omega]
   generalize l[l.length - 1 - i] = b at *
   have hx := num_bound (l := l.drop (l.length - i)) fun y hy => h8 y (List.mem_of_mem_drop hy)
   rw [List.length_drop, show l.length - (l.length - i) = i by omega] at hx
   have hor := or_high _ b i (by omega) hx hb
   have hnum : num (l.drop (l.length - (i + 1))) = b * 256 ^ i + num (l.drop (l.length - i)) := by
    rw [hd, num_cons, List.length_drop, show l.length - (l.length - i) = i by omega]
   generalize num (l.drop (l.length - i)) = x at *
   have hix : ((l.length : Int) - 1 - (i : Int)).toNat = l.length - 1 - i := by omega
   ((repeat' first|refine Y ?_|refine Y2 ?_ ?_|refine Y1 fun hh=>?_|exact Y0.mk);(all_goals (try conv => whnf)))
   refine Sy.draw_go [0] (by kernel_rfl) ?_
   intro e0
   conv => whnf
   refine zt 1 rfl ?_
   conv => whnf
   refine zt 2 rfl ?_
   conv => whnf
   refine zt 3 rfl ?_
   ((repeat' first|refine Y ?_|refine Y2 ?_ ?_|refine Y1 fun hh=>?_|exact Y0.mk);(all_goals (try conv => whnf)))
   refine zt 4 rfl ?_
   ((repeat' first|refine Y ?_|refine Y2 ?_ ?_|refine Y1 fun hh=>?_|exact Y0.mk);(all_goals (try conv => whnf)))
   refine zt 5 rfl ?_
   conv => whnf
   refine zt 6 rfl ?_
   ((repeat' first|refine Y ?_|refine Y2 ?_ ?_|refine Y1 fun hh=>?_|exact Y0.mk);(all_goals (try conv => whnf)))
   refine zt 7 rfl ?_
   ((repeat' first|refine Y ?_|refine Y2 ?_ ?_|refine Y1 fun hh=>?_|exact Y0.mk);(all_goals (try conv => whnf)))
   refine zt 8 rfl ?_
   conv => whnf
   refine Sy.el_map b (by rw [hix]; exact hg) ?_
   conv => whnf
   refine zt 9 rfl ?_
   ((repeat' first|refine Y ?_|refine Y2 ?_ ?_|refine Y1 fun hh=>?_|exact Y0.mk);(all_goals (try conv => whnf)))
   refine Sy.ar_u64 (by omega) ?_
   conv => whnf
   refine zt 10 rfl ?_
   conv => whnf
   refine zt 11 rfl ?_
   ((repeat' first|refine Y ?_|refine Y2 ?_ ?_|refine Y1 fun hh=>?_|exact Y0.mk);(all_goals (try conv => whnf)))
   refine zt 12 rfl ?_
   ((repeat' first|refine Y ?_|refine Y2 ?_ ?_|refine Y1 fun hh=>?_|exact Y0.mk);(all_goals (try conv => whnf)))
   refine Sy.sh_nat (y := 8 * i) ?_
   conv => whnf
   refine Sy.ar_wrap ?_
   conv => whnf
   refine zd1 [0] (zx rfl ?_ zy)
   conv => whnf
   refine Yk ?_
   refine zt 13 rfl ?_
   ((repeat' first|refine Y ?_|refine Y2 ?_ ?_|refine Y1 fun hh=>?_|exact Y0.mk);(all_goals (try conv => whnf)))
   refine zd1 [14] (zx rfl ?_ zy)
   conv => whnf
   refine Yk ?_
   refine zw ?_
   skip
   ((repeat' first|refine Y ?_|refine Y2 ?_ ?_|refine Y1 fun hh=>?_|exact Y0.mk);(all_goals (try conv => whnf)))
   refine ⟨i + 1, by omega, by omega, ?_⟩
   rw [hor, ← hnum]
   ((repeat' (first|((conv => whnf);done)|((try conv => whnf);first|exact trivial|(refine And.intro ?_ ?_)|rfl|exact fun _ _ _ h=>h|exact fun _ _ _ _=>trivial)));(all_goals (try conv => whnf)))
  ·have e : i = l.length := by omega
   subst e
   rw [Nat.sub_self, List.drop_zero]
   ((repeat' first|refine Y ?_|refine Y2 ?_ ?_|refine Y1 fun hh=>?_|exact Y0.mk);(all_goals (try conv => whnf)))
   refine Sy.fin_own () trivial ?_
   ((conv => whnf);(refine And.intro ?_ (And.intro ?_ (And.intro ?_ ?_)));(all_goals ((repeat' (first|((conv => whnf);done)|((try conv => whnf);first|exact trivial|(refine And.intro ?_ ?_)|rfl|exact fun _ _ _ h=>h|exact fun _ _ _ _=>trivial)));(all_goals (try conv => whnf)))))
def viewC (n : Nat) (xs : List (List Value)) (r : Int) : Sy.Ctr Unit := { avs := [.c (.row 1), .c (.loc 0 0)], n0 := 2, H0 := [(0, .cells 22 [.v (.int .u64 0)]), (1, .ext 1 n (.vs xs))], sv := fun _ => .tup [], n1 := fun _ => 2, H1 := fun _ => [(0, .cells 22 [.v (.int .u64 r)])] }
theorem view_does (l : List Int) (k : Nat) (hk : k ≤ 8 ∧ k ≤ l.length) (h8 : bytesOk l) : Sy.Does Tryz.prog 165 (viewC (k - 0) (List.take (k - 0) (List.drop 0 (l.map encB))) (num (l.take k))) := by
 have h := bits_does (l.take k) (by rw [List.length_take]; omega) fun x hx => h8 x (List.mem_of_mem_take hx)
 have e : (l.take k).length = k - 0 := by rw [List.length_take]; omega
 have e2 : (l.take k).map encB = List.take (k - 0) (List.drop 0 (l.map encB)) := by rw [List.map_take, Nat.sub_zero, List.drop_zero]
 unfold bitsC bitsH at h
 rw [e, e2] at h
 exact h
theorem rest_of {l l' : List Int} {k : Nat} (h : l' = l.drop k) : List.take (l.length - k) (List.drop k (l.map encB)) = l'.map encB ∧ l.length - k = l'.length := by
 subst h
 rw [← List.map_drop, List.take_of_length_le (by rw [List.length_map, List.length_drop]; exact Nat.le_refl _), List.length_drop]
 exact ⟨rfl, rfl⟩
theorem take_bound {l : List Int} (h : bytesOk l) (k : Nat) : 0 ≤ num (l.take k) ∧ num (l.take k) < 256 ^ k := by
 have := num_bound (l := l.take k) fun x hx => h x (List.mem_of_mem_take hx)
 refine ⟨this.1, Int.lt_of_lt_of_le this.2 ?_⟩
 have hl : (l.take k).length ≤ k := List.length_take_le _ _
 have : ((256 ^ (l.take k).length : Nat) : Int) ≤ ((256 ^ k : Nat) : Int) := Int.ofNat_le.2 (Nat.pow_le_pow_right (by decide) hl)
 simpa using this
theorem u8_num {l : List Int} (h : bytesOk l) : IntKind.u8.wrap (num (l.take 1)) = num (l.take 1) ∧ 0 ≤ num (l.take 1) ∧ num (l.take 1) < 256 := by
 have h1 := take_bound h 1
 have h2 : num (l.take 1) < 256 := h1.2
 refine ⟨?_, h1.1, h2⟩
 rw [IntKind.wrap_u8]; omega
theorem u32_num {l : List Int} (h : bytesOk l) : IntKind.u32.wrap (num (l.take 4)) = num (l.take 4) ∧ 0 ≤ num (l.take 4) ∧ num (l.take 4) < 4294967296 := by
 have h1 := take_bound h 4
 have h2 : num (l.take 4) < 4294967296 := h1.2
 refine ⟨?_, h1.1, h2⟩
 rw [IntKind.wrap_u32]; omega
end Go.Proofs.YtgkkpefpbfadoaaGreat.Sn
