/- slices.Index, slices.Contains, slices.IsSorted at integers; cmp.Less. -/
import Derived.Test.YtiapcohnjklcfaaEnc
namespace Go.Proofs.Ytiapcohnjklcfaa
open Go Go.RowKit
open Sy (C SV V1 Blk St XD Els)
set_option maxRecDepth 10000

theorem less_any (x y : Int) (w : World) : Calls Try.prog 45 #[.int .i64 x, .int .i64 y] w (Sy.Ret (.bool (decide (x < y))) w) := by
  refine Sy.calls_of Sy.lv45 Sy.tab_ok Try.func45 rfl _ Try.ntmps45 [] [.c (.v (.int .i64 x)), .c (.v (.int .i64 y))] rfl rfl rfl trivial ?_
  ((repeat' ((conv => whnf);(first|refine z1 ?_|refine z2 ?_|refine z3 ?_|refine z4 ?_|refine z5 ?_|refine z6 ?_|refine z7 ?_|refine z8 ?_|refine z9 ?_|refine za ?_|refine zb ?_|refine zc ?_|refine zd ?_|refine ze ?_|refine zf ?_|refine zg ?_|refine zh ?_|((first|refine zi ?_ ?_|refine zj ?_ ?_|refine zk ?_ ?_)<;> intro hh <;> first|(exfalso;omega)|skip)|(refine zl ?_ ?_<;> intro hh)|refine zm ?_|refine zn ?_|refine zo ?_|refine zp ?_|refine zq ?_|refine zr ?_|refine zs _ rfl ?_|refine zu ?_|exact Sy.fin_val (fun e=>rfl))));(all_goals (try conv => whnf)))
  refine Sy.call_in Sy.lv57 Sy.tab_ok Try.func57 rfl _ Try.ntmps57 Try.call57 rfl (fun _ => ?_)
  ((repeat' ((conv => whnf);(first|refine z1 ?_|refine z2 ?_|refine z3 ?_|refine z4 ?_|refine z5 ?_|refine z6 ?_|refine z7 ?_|refine z8 ?_|refine z9 ?_|refine za ?_|refine zb ?_|refine zc ?_|refine zd ?_|refine ze ?_|refine zf ?_|refine zg ?_|refine zh ?_|((first|refine zi ?_ ?_|refine zj ?_ ?_|refine zk ?_ ?_)<;> intro hh <;> first|(exfalso;omega)|skip)|(refine zl ?_ ?_<;> intro hh)|refine zm ?_|refine zn ?_|refine zo ?_|refine zp ?_|refine zq ?_|refine zr ?_|refine zs _ rfl ?_|refine zu ?_|exact Sy.fin_val (fun e=>rfl))));(all_goals (try conv => whnf)))
def idxP (xs : List Int) (x r : Int) : Prop := (r = -1 ∧ x ∉ xs) ∨ ∃ i : Nat, r = (i : Int) ∧ xs[i]? = some x
theorem index_any (v : Value) (xs : List Int) (x : Int) (w : World) (hr : XD.ok (fun b => b < w.heap.size) w ⟨v, 1, xs.length, xs.map encI⟩) :
    Calls Try.prog 44 #[v, .int .i64 x] w (Sy.RetEx (idxP xs x) (fun r => .int .i64 r) w) := by
  have hl := ok_len hr
  refine Sy.calls_of Sy.lv44 Sy.tab_ok Try.func44 rfl _ Try.ntmps44 [⟨v, 1, xs.length, xs.map encI⟩] [.c (.row 0), .c (.v (.int .i64 x))] rfl rfl rfl ⟨hr, trivial⟩ ?_
  ((repeat' ((conv => whnf);(first|refine z1 ?_|refine z2 ?_|refine z3 ?_|refine z4 ?_|refine z5 ?_|refine z6 ?_|refine z7 ?_|refine z8 ?_|refine z9 ?_|refine za ?_|refine zb ?_|refine zc ?_|refine zd ?_|refine ze ?_|refine zf ?_|refine zg ?_|refine zh ?_|((first|refine zi ?_ ?_|refine zj ?_ ?_|refine zk ?_ ?_)<;> intro hh <;> first|(exfalso;omega)|skip)|(refine zl ?_ ?_<;> intro hh)|refine zm ?_|refine zn ?_|refine zo ?_|refine zp ?_|refine zq ?_|refine zr ?_|refine zs _ rfl ?_|refine zu ?_|exact Sy.fin_val (fun e=>rfl))));(all_goals (try conv => whnf)))
  refine Sy.loop_inv Sy.tab_ok (fun n : Nat => [(8, .c (.v (.int .i64 n)))]) (fun _ => []) (fun n => n ≤ xs.length ∧ ∀ i, i < n → xs[i]? ≠ some x) (fun n => xs.length - n) 0 ⟨Nat.zero_le _, fun i hi => absurd hi (Nat.not_lt_zero i)⟩ ?_ (fun n hle => ?_)
  · ((repeat' (first|((conv => whnf);done)|((try conv => whnf);first|exact trivial|(refine And.intro ?_ ?_)|rfl)));(all_goals (try conv => whnf)))
  · obtain ⟨hle, hne⟩ := hle
    ((repeat' ((conv => whnf);(first|refine z1 ?_|refine z2 ?_|refine z3 ?_|refine z4 ?_|refine z5 ?_|refine z6 ?_|refine z7 ?_|refine z8 ?_|refine z9 ?_|refine za ?_|refine zb ?_|refine zc ?_|refine zd ?_|refine ze ?_|refine zf ?_|refine zg ?_|refine zh ?_|((first|refine zi ?_ ?_|refine zj ?_ ?_|refine zk ?_ ?_)<;> intro hh <;> first|(exfalso;omega)|skip)|(refine zl ?_ ?_<;> intro hh)|refine zm ?_|refine zn ?_|refine zo ?_|refine zp ?_|refine zq ?_|refine zr ?_|refine zs _ rfl ?_|refine zu ?_|exact Sy.fin_val (fun e=>rfl))));(all_goals (try conv => whnf)))
    · have hlt : n < xs.length := by omega
      have hg := List.getElem?_eq_getElem hlt
      generalize xs[n] = y at *
      refine Sy.el_map y hg ?_
      ((repeat' ((conv => whnf);(first|refine z1 ?_|refine z2 ?_|refine z3 ?_|refine z4 ?_|refine z5 ?_|refine z6 ?_|refine z7 ?_|refine z8 ?_|refine z9 ?_|refine za ?_|refine zb ?_|refine zc ?_|refine zd ?_|refine ze ?_|refine zf ?_|refine zg ?_|refine zh ?_|((first|refine zi ?_ ?_|refine zj ?_ ?_|refine zk ?_ ?_)<;> intro hh <;> first|(exfalso;omega)|skip)|(refine zl ?_ ?_<;> intro hh)|refine zm ?_|refine zn ?_|refine zo ?_|refine zp ?_|refine zq ?_|refine zr ?_|refine zs _ rfl ?_|refine zu ?_|exact Sy.fin_val (fun e=>rfl))));(all_goals (try conv => whnf)))
      · exact Sy.fin_ex (n : Int) (.inr ⟨n, rfl, by rw [hg]; simp [*]⟩) (fun e => rfl)
      · refine ⟨n + 1, ⟨by omega, fun i hi => ?_⟩, by omega, ?_⟩
        · by_cases e : i = n
          · subst e; rw [hg]; intro h; injection h with h; omega
          · exact hne i (by omega)
        · ((repeat' (first|((conv => whnf);done)|((try conv => whnf);first|exact trivial|(refine And.intro ?_ ?_)|rfl)));(all_goals (try conv => whnf)))
    · have e : n = xs.length := by omega
      subst e
      refine Sy.fin_ex (-1) (.inl ⟨rfl, fun hm => ?_⟩) (fun e => rfl)
      obtain ⟨i, hi⟩ := List.mem_iff_getElem?.1 hm
      exact hne i (List.getElem?_eq_some_iff.1 hi).1 hi
theorem contains_any (v : Value) (xs : List Int) (x : Int) (w : World) (hr : XD.ok (fun b => b < w.heap.size) w ⟨v, 1, xs.length, xs.map encI⟩) :
    Calls Try.prog 27 #[v, .int .i64 x] w (Sy.Ret (.bool (decide (x ∈ xs))) w) := by
  refine Sy.calls_of Sy.lv27 Sy.tab_ok Try.func27 rfl _ Try.ntmps27 [⟨v, 1, xs.length, xs.map encI⟩] [.c (.row 0), .c (.v (.int .i64 x))] rfl rfl rfl ⟨hr, trivial⟩ ?_
  ((repeat' ((conv => whnf);(first|refine z1 ?_|refine z2 ?_|refine z3 ?_|refine z4 ?_|refine z5 ?_|refine z6 ?_|refine z7 ?_|refine z8 ?_|refine z9 ?_|refine za ?_|refine zb ?_|refine zc ?_|refine zd ?_|refine ze ?_|refine zf ?_|refine zg ?_|refine zh ?_|((first|refine zi ?_ ?_|refine zj ?_ ?_|refine zk ?_ ?_)<;> intro hh <;> first|(exfalso;omega)|skip)|(refine zl ?_ ?_<;> intro hh)|refine zm ?_|refine zn ?_|refine zo ?_|refine zp ?_|refine zq ?_|refine zr ?_|refine zs _ rfl ?_|refine zu ?_|exact Sy.fin_val (fun e=>rfl))));(all_goals (try conv => whnf)))
  refine Sy.call_ex (idxP xs x) (fun r => .c (.v (.int .i64 r))) Try.call44 (fun _ _ => rfl) (fun e a w' h => index_any _ xs x w' (Sy.row_reads h (.inr rfl))) (fun r hr => ?_)
  ((repeat' ((conv => whnf);(first|refine z1 ?_|refine z2 ?_|refine z3 ?_|refine z4 ?_|refine z5 ?_|refine z6 ?_|refine z7 ?_|refine z8 ?_|refine z9 ?_|refine za ?_|refine zb ?_|refine zc ?_|refine zd ?_|refine ze ?_|refine zf ?_|refine zg ?_|refine zh ?_|((first|refine zi ?_ ?_|refine zj ?_ ?_|refine zk ?_ ?_)<;> intro hh <;> first|(exfalso;omega)|skip)|(refine zl ?_ ?_<;> intro hh)|refine zm ?_|refine zn ?_|refine zo ?_|refine zp ?_|refine zq ?_|refine zr ?_|refine zs _ rfl ?_|refine zu ?_|exact Sy.fin_val (fun e=>rfl))));(all_goals (try conv => whnf)))
  refine Sy.fin_val (fun e => congrArg Value.bool (decide_eq_decide.2 ?_))
  rcases hr with ⟨h1, h2⟩ | ⟨i, h1, h2⟩
  · constructor
    · intro h; omega
    · intro h; exact absurd h h2
  · constructor
    · intro _; exact List.mem_of_getElem? h2
    · intro _; omega
theorem issorted_any (v : Value) (xs : List Int) (w : World) (hs : xs.Pairwise (· ≤ ·)) (hr : XD.ok (fun b => b < w.heap.size) w ⟨v, 1, xs.length, xs.map encI⟩) :
    Calls Try.prog 28 #[v] w (Sy.Ret (.bool true) w) := by
  have hl := ok_len hr
  rw [List.pairwise_iff_getElem] at hs
  refine Sy.calls_of Sy.lv28 Sy.tab_ok Try.func28 rfl _ Try.ntmps28 [⟨v, 1, xs.length, xs.map encI⟩] [.c (.row 0)] rfl rfl rfl ⟨hr, trivial⟩ ?_
  ((repeat' ((conv => whnf);(first|refine z1 ?_|refine z2 ?_|refine z3 ?_|refine z4 ?_|refine z5 ?_|refine z6 ?_|refine z7 ?_|refine z8 ?_|refine z9 ?_|refine za ?_|refine zb ?_|refine zc ?_|refine zd ?_|refine ze ?_|refine zf ?_|refine zg ?_|refine zh ?_|((first|refine zi ?_ ?_|refine zj ?_ ?_|refine zk ?_ ?_)<;> intro hh <;> first|(exfalso;omega)|skip)|(refine zl ?_ ?_<;> intro hh)|refine zm ?_|refine zn ?_|refine zo ?_|refine zp ?_|refine zq ?_|refine zr ?_|refine zs _ rfl ?_|refine zu ?_|exact Sy.fin_val (fun e=>rfl))));(all_goals (try conv => whnf)))
  refine Sy.loop_inv Sy.tab_ok (fun n : Nat => [(3, .c (.v (.int .i64 ((xs.length : Int) - 1 - n))))]) (fun _ => []) (fun n => n ≤ xs.length) (fun n => xs.length - n) 0 (Nat.zero_le _) ?_ (fun n hle => ?_)
  · ((repeat' (first|((conv => whnf);done)|((try conv => whnf);first|exact trivial|(refine And.intro ?_ ?_)|rfl)));(all_goals (try conv => whnf)))
    simp
  · ((repeat' ((conv => whnf);(first|refine z1 ?_|refine z2 ?_|refine z3 ?_|refine z4 ?_|refine z5 ?_|refine z6 ?_|refine z7 ?_|refine z8 ?_|refine z9 ?_|refine za ?_|refine zb ?_|refine zc ?_|refine zd ?_|refine ze ?_|refine zf ?_|refine zg ?_|refine zh ?_|((first|refine zi ?_ ?_|refine zj ?_ ?_|refine zk ?_ ?_)<;> intro hh <;> first|(exfalso;omega)|skip)|(refine zl ?_ ?_<;> intro hh)|refine zm ?_|refine zn ?_|refine zo ?_|refine zp ?_|refine zq ?_|refine zr ?_|refine zs _ rfl ?_|refine zu ?_|exact Sy.fin_val (fun e=>rfl))));(all_goals (try conv => whnf)))
    obtain ⟨i, hi, hil⟩ : ∃ i : Nat, (xs.length : Int) - 1 - n = ((i + 1 : Nat) : Int) ∧ i + 1 < xs.length := ⟨xs.length - 2 - n, by omega, by omega⟩
    rw [hi]
    have h1 := List.getElem?_eq_getElem hil
    have h2 := List.getElem?_eq_getElem (show i < xs.length by omega)
    have h3 := hs i (i + 1) (by omega) hil (by omega)
    generalize xs[i + 1] = x at *
    generalize xs[i]'(by omega) = y at *
    have h2' : xs[(((i + 1 : Nat) : Int) - 1).toNat]? = some y := by rw [show (((i + 1 : Nat) : Int) - 1).toNat = i by omega]; exact h2
    all_goals (refine Sy.draw_go [] (by kernel_rfl) ?_; intro e0; conv => whnf)
    all_goals (refine zt 0 rfl ?_)
    all_goals (conv => whnf)
    all_goals (refine zt 1 rfl ?_)
    all_goals (conv => whnf)
    all_goals (refine zt 2 rfl ?_)
    all_goals ((conv => whnf);(repeat' ((first|refine z1 ?_|refine z2 ?_|refine z3 ?_|refine z4 ?_|refine z5 ?_|refine z6 ?_|refine z7 ?_|refine z8 ?_|refine z9 ?_|refine za ?_|refine zb ?_|refine zc ?_|refine zd ?_|refine ze ?_|refine zf ?_|refine zg ?_|refine zh ?_|((first|refine zi ?_ ?_|refine zj ?_ ?_|refine zk ?_ ?_)<;> intro hh <;> first|(exfalso;omega)|skip)|(refine zl ?_ ?_<;> intro hh)|refine zm ?_|refine zn ?_|refine zo ?_|refine zp ?_|refine zq ?_|refine zr ?_|refine zs _ rfl ?_|refine zu ?_|exact Sy.fin_val (fun e=>rfl));(try conv => whnf))))
    all_goals (refine zt 3 rfl ?_)
    all_goals (conv => whnf)
    all_goals (refine Sy.el_map x h1 ?_)
    all_goals (conv => whnf)
    all_goals (refine zt 4 rfl ?_)
    all_goals (conv => whnf)
    all_goals (refine zt 5 rfl ?_)
    all_goals (conv => whnf)
    all_goals (refine zt 6 rfl ?_)
    all_goals ((conv => whnf);(repeat' ((first|refine z1 ?_|refine z2 ?_|refine z3 ?_|refine z4 ?_|refine z5 ?_|refine z6 ?_|refine z7 ?_|refine z8 ?_|refine z9 ?_|refine za ?_|refine zb ?_|refine zc ?_|refine zd ?_|refine ze ?_|refine zf ?_|refine zg ?_|refine zh ?_|((first|refine zi ?_ ?_|refine zj ?_ ?_|refine zk ?_ ?_)<;> intro hh <;> first|(exfalso;omega)|skip)|(refine zl ?_ ?_<;> intro hh)|refine zm ?_|refine zn ?_|refine zo ?_|refine zp ?_|refine zq ?_|refine zr ?_|refine zs _ rfl ?_|refine zu ?_|exact Sy.fin_val (fun e=>rfl));(try conv => whnf))))
    all_goals (refine zt 7 rfl ?_)
    all_goals ((conv => whnf);(repeat' ((first|refine z1 ?_|refine z2 ?_|refine z3 ?_|refine z4 ?_|refine z5 ?_|refine z6 ?_|refine z7 ?_|refine z8 ?_|refine z9 ?_|refine za ?_|refine zb ?_|refine zc ?_|refine zd ?_|refine ze ?_|refine zf ?_|refine zg ?_|refine zh ?_|((first|refine zi ?_ ?_|refine zj ?_ ?_|refine zk ?_ ?_)<;> intro hh <;> first|(exfalso;omega)|skip)|(refine zl ?_ ?_<;> intro hh)|refine zm ?_|refine zn ?_|refine zo ?_|refine zp ?_|refine zq ?_|refine zr ?_|refine zs _ rfl ?_|refine zu ?_|exact Sy.fin_val (fun e=>rfl));(try conv => whnf))))
    all_goals (refine zt 8 rfl ?_)
    all_goals (conv => whnf)
    all_goals (refine Sy.el_map y h2' ?_)
    all_goals (conv => whnf)
    all_goals (refine zd1 [9] (zx rfl ?_ zy))
    all_goals (conv => whnf)
    all_goals (refine Sy.call_val (.c (.v (.bool false))) Try.call45 rfl (fun e a w' h => by have := less_any x y w'; rw [decide_eq_false (by omega)] at this; exact this) ?_)
    all_goals (conv => whnf)
    all_goals (refine ⟨(by repeat' ((conv => whnf);first|exact trivial|(refine And.intro ?_ ?_)|rfl)), ?_⟩)
    all_goals (refine zw ?_)
    all_goals (((repeat' ((conv => whnf);(first|refine z1 ?_|refine z2 ?_|refine z3 ?_|refine z4 ?_|refine z5 ?_|refine z6 ?_|refine z7 ?_|refine z8 ?_|refine z9 ?_|refine za ?_|refine zb ?_|refine zc ?_|refine zd ?_|refine ze ?_|refine zf ?_|refine zg ?_|refine zh ?_|((first|refine zi ?_ ?_|refine zj ?_ ?_|refine zk ?_ ?_)<;> intro hh <;> first|(exfalso;omega)|skip)|(refine zl ?_ ?_<;> intro hh)|refine zm ?_|refine zn ?_|refine zo ?_|refine zp ?_|refine zq ?_|refine zr ?_|refine zs _ rfl ?_|refine zu ?_|exact Sy.fin_val (fun e=>rfl))));(all_goals (try conv => whnf))))
    refine ⟨n + 1, by omega, by omega, ?_⟩
    ((repeat' (first|((conv => whnf);done)|((try conv => whnf);first|exact trivial|(refine And.intro ?_ ?_)|rfl)));(all_goals (try conv => whnf)))
    congr 1
    omega
end Go.Proofs.Ytiapcohnjklcfaa
