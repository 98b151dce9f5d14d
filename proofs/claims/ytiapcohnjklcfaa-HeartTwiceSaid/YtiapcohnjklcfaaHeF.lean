/- Heart: where a worker stands. -/
import Derived.Test.YtiapcohnjklcfaaHeE
namespace Go.Proofs.Ytiapcohnjklcfaa
open Go Go.RowKit
open Sy (C SV V1 Blk St XD Els)
set_option maxRecDepth 10000
attribute [local irreducible] okN okH ok0 chkE

/-- Workers of 1 to 4, each greater than the one ahead of it. -/
def Wks (ps : List Pulse) : Prop := ∀ (i j : Nat) (p q : Pulse), ps[i]? = some p → ps[j]? = some q → i ≤ j → 1 ≤ p.worker ∧ p.worker ≤ q.worker ∧ q.worker ≤ 4 ∧ (i < j → p.worker < q.worker)
theorem okH_wks (now span : Int) (ps : List Pulse) (hk : okH now span ps = true) : Wks ps := by
  intro i j p q hp hq hij
  have hj : j < ps.length := (List.getElem?_eq_some_iff.1 hq).1
  have hq' : ps[j] = q := (List.getElem?_eq_some_iff.1 hq).2
  have hi : i < ps.length := by omega
  have hp' : ps[i] = p := (List.getElem?_eq_some_iff.1 hp).2
  have hle : ∀ d, (h : i + d < ps.length) → ps[i].worker + d ≤ ps[i + d].worker := by
    intro d
    induction d with
    | zero => intro h; simp
    | succ d ih =>
      intro h
      have h1 := ih (by omega)
      have h2 := okH_get now span ps hk (i + d + 1) h
      rw [lastN_succ _ _ (by omega)] at h2
      have h3 := h2.2.1
      show ps[i].worker + ((d + 1 : Nat) : Int) ≤ ps[i + d + 1].worker
      omega
  have h1 := okH_get now span ps hk i hi
  have h2 := okH_get now span ps hk j hj
  have h3 := hle (j - i) (by omega)
  have e : ps[i + (j - i)]'(by omega) = ps[j] := by congr 1; omega
  rw [e] at h3
  subst hp' hq'
  omega

def cmpV (x k : Int) : Int := IntKind.i64.wrap (x - k)
theorem at1_any (p : Pulse) (k : Int) (w : World) :
    Calls Try.prog 51 #[.agg #[.int .i64 p.worker, .int .i64 p.heard, .bool p.down], .int .i64 k] w (Sy.Ret (.int .i64 (cmpV p.worker k)) w) := by
  refine Sy.calls_of Sy.lv51 Sy.tab_ok Try.func51 rfl _ Try.ntmps51 [] [.agg [.v (.int .i64 p.worker), .v (.int .i64 p.heard), .v (.bool p.down)], .c (.v (.int .i64 k))] rfl rfl rfl trivial ?_
  ((repeat' ((conv => whnf);(first|refine z1 ?_|refine z2 ?_|refine z3 ?_|refine z4 ?_|refine z5 ?_|refine z6 ?_|refine z7 ?_|refine z8 ?_|refine z9 ?_|refine za ?_|refine zb ?_|refine zc ?_|refine zd ?_|refine ze ?_|refine zf ?_|refine zg ?_|refine zh ?_|((first|refine zi ?_ ?_|refine zj ?_ ?_|refine zk ?_ ?_)<;> intro hh <;> first|(exfalso;omega)|skip)|(refine zl ?_ ?_<;> intro hh)|refine zm ?_|refine zn ?_|refine zo ?_|refine zp ?_|refine zq ?_|refine zr ?_|refine zs _ rfl ?_|refine zu ?_|exact Sy.fin_val (fun e=>rfl))));(all_goals (try conv => whnf)))
  refine Sy.ar_wrap ?_
  ((repeat' ((conv => whnf);(first|refine z1 ?_|refine z2 ?_|refine z3 ?_|refine z4 ?_|refine z5 ?_|refine z6 ?_|refine z7 ?_|refine z8 ?_|refine z9 ?_|refine za ?_|refine zb ?_|refine zc ?_|refine zd ?_|refine ze ?_|refine zf ?_|refine zg ?_|refine zh ?_|((first|refine zi ?_ ?_|refine zj ?_ ?_|refine zk ?_ ?_)<;> intro hh <;> first|(exfalso;omega)|skip)|(refine zl ?_ ?_<;> intro hh)|refine zm ?_|refine zn ?_|refine zo ?_|refine zp ?_|refine zq ?_|refine zr ?_|refine zs _ rfl ?_|refine zu ?_|exact Sy.fin_val (fun e=>rfl))));(all_goals (try conv => whnf)))
theorem cmpV_in {x k : Int} (hx : 1 ≤ x ∧ x ≤ 4) (hk : 1 ≤ k ∧ k ≤ 4) : cmpV x k = x - k := by
  unfold cmpV
  show (if true && decide ((x - k) % 18446744073709551616 ≥ 9223372036854775808) then (x - k) % 18446744073709551616 - 18446744073709551616 else (x - k) % 18446744073709551616) = _
  simp only [Bool.true_and, decide_eq_true_eq]
  split <;> omega
theorem cmpV_zero {x k : Int} (hx : 1 ≤ x ∧ x ≤ 4) (hk : I64 k) : cmpV x k = 0 ↔ x = k := by
  unfold I64 at hk
  unfold cmpV
  show (if true && decide ((x - k) % 18446744073709551616 ≥ 9223372036854775808) then (x - k) % 18446744073709551616 - 18446744073709551616 else (x - k) % 18446744073709551616) = _ ↔ _
  simp only [Bool.true_and, decide_eq_true_eq]
  split <;> omega
theorem half (a b : Nat) : ((a : Int) + (b : Int)).fdiv (2 ^ min 1 IntKind.u64.bits) = (((a + b) / 2 : Nat) : Int) := by
  show ((a : Int) + (b : Int)).fdiv 2 = _
  rw [Int.fdiv_eq_ediv_of_nonneg _ (by omega)]
  omega
attribute [local irreducible] cmpV
def srchP (ps : List Pulse) (k : Int) (x : Nat × Bool) : Prop := x.1 ≤ ps.length ∧ (x.2 = true ↔ ∃ p, ps[x.1]? = some p ∧ p.worker = k) ∧
  (1 ≤ k → k ≤ 4 → (∀ m p, m < x.1 → ps[m]? = some p → p.worker < k) ∧ (∀ m p, x.1 ≤ m → ps[m]? = some p → k ≤ p.worker))
theorem srch_any (v : Value) (ps : List Pulse) (k : Int) (w : World) (hr : XD.ok (fun b => b < w.heap.size) w ⟨v, 3, ps.length, ps.map encP⟩) (hw : Wks ps) (hk : I64 k) (hb : ps.length ≤ 4) :
    Calls Try.prog 50 #[v, .int .i64 k, .func (.func 51) #[] #[]] w (Sy.RetEx (srchP ps k) (fun x => .tuple #[.int .i64 x.1, .bool x.2]) w) := by
  refine Sy.calls_of Sy.lv50 Sy.tab_ok Try.func50 rfl _ Try.ntmps50 [⟨v, 3, ps.length, ps.map encP⟩] [.c (.row 0), .c (.v (.int .i64 k)), .c (.v (.func (.func 51) #[] #[]))] rfl rfl rfl ⟨hr, trivial⟩ ?_
  ((repeat' ((conv => whnf);(first|refine z1 ?_|refine z2 ?_|refine z3 ?_|refine z4 ?_|refine z5 ?_|refine z6 ?_|refine z7 ?_|refine z8 ?_|refine z9 ?_|refine za ?_|refine zb ?_|refine zc ?_|refine zd ?_|refine ze ?_|refine zf ?_|refine zg ?_|refine zh ?_|((first|refine zi ?_ ?_|refine zj ?_ ?_|refine zk ?_ ?_)<;> intro hh <;> first|(exfalso;omega)|skip)|(refine zl ?_ ?_<;> intro hh)|refine zm ?_|refine zn ?_|refine zo ?_|refine zp ?_|refine zq ?_|refine zr ?_|refine zs _ rfl ?_|refine zu ?_|exact Sy.fin_val (fun e=>rfl))));(all_goals (try conv => whnf)))
  refine Sy.loop_inv Sy.tab_ok (fun x : Nat × Nat => [(9, .c (.v (.int .i64 x.1))), (10, .c (.v (.int .i64 x.2)))]) (fun _ => []) (fun x => x.1 ≤ x.2 ∧ x.2 ≤ ps.length ∧ (1 ≤ k → k ≤ 4 → (∀ m p, m < x.1 → ps[m]? = some p → p.worker < k) ∧ (∀ m p, x.2 ≤ m → ps[m]? = some p → k ≤ p.worker))) (fun x => x.2 - x.1) (0, ps.length) ⟨Nat.zero_le _, Nat.le_refl _, fun _ _ => ⟨fun m p hm => absurd hm (Nat.not_lt_zero m), fun m p hm hp => by rw [List.getElem?_eq_none hm] at hp; cases hp⟩⟩ ?_ (fun x hx => ?_)
  · ((repeat' (first|((conv => whnf);done)|((try conv => whnf);first|exact trivial|(refine And.intro ?_ ?_)|rfl)));(all_goals (try conv => whnf)))
  · obtain ⟨h1, h2, h3⟩ := hx
    ((repeat' ((conv => whnf);(first|refine z1 ?_|refine z2 ?_|refine z3 ?_|refine z4 ?_|refine z5 ?_|refine z6 ?_|refine z7 ?_|refine z8 ?_|refine z9 ?_|refine za ?_|refine zb ?_|refine zc ?_|refine zd ?_|refine ze ?_|refine zf ?_|refine zg ?_|refine zh ?_|((first|refine zi ?_ ?_|refine zj ?_ ?_|refine zk ?_ ?_)<;> intro hh <;> first|(exfalso;omega)|skip)|(refine zl ?_ ?_<;> intro hh)|refine zm ?_|refine zn ?_|refine zo ?_|refine zp ?_|refine zq ?_|refine zr ?_|refine zs _ rfl ?_|refine zu ?_|exact Sy.fin_val (fun e=>rfl))));(all_goals (try conv => whnf)))
    · refine Sy.ar_u64 (by omega) ?_
      ((repeat' ((conv => whnf);(first|refine z1 ?_|refine z2 ?_|refine z3 ?_|refine z4 ?_|refine z5 ?_|refine z6 ?_|refine z7 ?_|refine z8 ?_|refine z9 ?_|refine za ?_|refine zb ?_|refine zc ?_|refine zd ?_|refine ze ?_|refine zf ?_|refine zg ?_|refine zh ?_|((first|refine zi ?_ ?_|refine zj ?_ ?_|refine zk ?_ ?_)<;> intro hh <;> first|(exfalso;omega)|skip)|(refine zl ?_ ?_<;> intro hh)|refine zm ?_|refine zn ?_|refine zo ?_|refine zp ?_|refine zq ?_|refine zr ?_|refine zs _ rfl ?_|refine zu ?_|exact Sy.fin_val (fun e=>rfl))));(all_goals (try conv => whnf)))
      refine Sy.sh_nat (y := 1) ?_
      ((repeat' ((conv => whnf);(first|refine z1 ?_|refine z2 ?_|refine z3 ?_|refine z4 ?_|refine z5 ?_|refine z6 ?_|refine z7 ?_|refine z8 ?_|refine z9 ?_|refine za ?_|refine zb ?_|refine zc ?_|refine zd ?_|refine ze ?_|refine zf ?_|refine zg ?_|refine zh ?_|((first|refine zi ?_ ?_|refine zj ?_ ?_|refine zk ?_ ?_)<;> intro hh <;> first|(exfalso;omega)|skip)|(refine zl ?_ ?_<;> intro hh)|refine zm ?_|refine zn ?_|refine zo ?_|refine zp ?_|refine zq ?_|refine zr ?_|refine zs _ rfl ?_|refine zu ?_|exact Sy.fin_val (fun e=>rfl))));(all_goals (try conv => whnf)))
      refine Sy.ar_eq (half x.1 x.2) (by omega) ?_
      ((repeat' ((conv => whnf);(first|refine z1 ?_|refine z2 ?_|refine z3 ?_|refine z4 ?_|refine z5 ?_|refine z6 ?_|refine z7 ?_|refine z8 ?_|refine z9 ?_|refine za ?_|refine zb ?_|refine zc ?_|refine zd ?_|refine ze ?_|refine zf ?_|refine zg ?_|refine zh ?_|((first|refine zi ?_ ?_|refine zj ?_ ?_|refine zk ?_ ?_)<;> intro hh <;> first|(exfalso;omega)|skip)|(refine zl ?_ ?_<;> intro hh)|refine zm ?_|refine zn ?_|refine zo ?_|refine zp ?_|refine zq ?_|refine zr ?_|refine zs _ rfl ?_|refine zu ?_|exact Sy.fin_val (fun e=>rfl))));(all_goals (try conv => whnf)))
      have hlt : (x.1 + x.2) / 2 < ps.length := by omega
      have hlo : x.1 ≤ (x.1 + x.2) / 2 := by omega
      have hhi : (x.1 + x.2) / 2 < x.2 := by omega
      have hp := List.getElem?_eq_getElem hlt
      generalize ps[(x.1 + x.2) / 2] = p at *
      generalize (x.1 + x.2) / 2 = m at *
      refine Sy.el_map p hp ?_
      ((repeat' ((conv => whnf);(first|refine z1 ?_|refine z2 ?_|refine z3 ?_|refine z4 ?_|refine z5 ?_|refine z6 ?_|refine z7 ?_|refine z8 ?_|refine z9 ?_|refine za ?_|refine zb ?_|refine zc ?_|refine zd ?_|refine ze ?_|refine zf ?_|refine zg ?_|refine zh ?_|((first|refine zi ?_ ?_|refine zj ?_ ?_|refine zk ?_ ?_)<;> intro hh <;> first|(exfalso;omega)|skip)|(refine zl ?_ ?_<;> intro hh)|refine zm ?_|refine zn ?_|refine zo ?_|refine zp ?_|refine zq ?_|refine zr ?_|refine zs _ rfl ?_|refine zu ?_|exact Sy.fin_val (fun e=>rfl))));(all_goals (try conv => whnf)))
      refine Sy.call_val (.c (.v (.int .i64 (cmpV p.worker k)))) Try.call51 rfl (fun e a w' h => at1_any p k w') ?_
      have hw1 := hw m m p p hp hp (Nat.le_refl _)
      ((repeat' ((conv => whnf);(first|refine z1 ?_|refine z2 ?_|refine z3 ?_|refine z4 ?_|refine z5 ?_|refine z6 ?_|refine z7 ?_|refine z8 ?_|refine z9 ?_|refine za ?_|refine zb ?_|refine zc ?_|refine zd ?_|refine ze ?_|refine zf ?_|refine zg ?_|refine zh ?_|((first|refine zi ?_ ?_|refine zj ?_ ?_|refine zk ?_ ?_)<;> intro hh <;> first|(exfalso;omega)|skip)|(refine zl ?_ ?_<;> intro hh)|refine zm ?_|refine zn ?_|refine zo ?_|refine zp ?_|refine zq ?_|refine zr ?_|refine zs _ rfl ?_|refine zu ?_|exact Sy.fin_val (fun e=>rfl))));(all_goals (try conv => whnf)))
      · refine ⟨(m + 1, x.2), ⟨by simp only; omega, by simp only; omega, fun a b => ⟨fun m' q hm hq => ?_, (h3 a b).2⟩⟩, by simp only; omega, ?_⟩
        · have h5 := cmpV_in (x := p.worker) (k := k) ⟨hw1.1, hw1.2.2.1⟩ ⟨a, b⟩
          have h4 := hw m' m q p hq hp (by simp only at hm; omega)
          omega
        · ((repeat' (first|((conv => whnf);done)|((try conv => whnf);first|exact trivial|(refine And.intro ?_ ?_)|rfl)));(all_goals (try conv => whnf)))
      · refine ⟨(x.1, m), ⟨by simp only; omega, by simp only; omega, fun a b => ⟨(h3 a b).1, fun m' q hm hq => ?_⟩⟩, by simp only; omega, ?_⟩
        · have h5 := cmpV_in (x := p.worker) (k := k) ⟨hw1.1, hw1.2.2.1⟩ ⟨a, b⟩
          have h4 := hw m m' p q hp hq (by simp only at hm; omega)
          omega
        · ((repeat' (first|((conv => whnf);done)|((try conv => whnf);first|exact trivial|(refine And.intro ?_ ?_)|rfl)));(all_goals (try conv => whnf)))
    · have hlt : x.1 < ps.length := by omega
      have hp := List.getElem?_eq_getElem hlt
      generalize ps[x.1] = p at *
      refine Sy.el_map p hp ?_
      ((repeat' ((conv => whnf);(first|refine z1 ?_|refine z2 ?_|refine z3 ?_|refine z4 ?_|refine z5 ?_|refine z6 ?_|refine z7 ?_|refine z8 ?_|refine z9 ?_|refine za ?_|refine zb ?_|refine zc ?_|refine zd ?_|refine ze ?_|refine zf ?_|refine zg ?_|refine zh ?_|((first|refine zi ?_ ?_|refine zj ?_ ?_|refine zk ?_ ?_)<;> intro hh <;> first|(exfalso;omega)|skip)|(refine zl ?_ ?_<;> intro hh)|refine zm ?_|refine zn ?_|refine zo ?_|refine zp ?_|refine zq ?_|refine zr ?_|refine zs _ rfl ?_|refine zu ?_|exact Sy.fin_val (fun e=>rfl))));(all_goals (try conv => whnf)))
      refine Sy.call_val (.c (.v (.int .i64 (cmpV p.worker k)))) Try.call51 rfl (fun e a w' h => at1_any p k w') ?_
      have hw1 := hw x.1 x.1 p p hp hp (Nat.le_refl _)
      have hz := cmpV_zero (x := p.worker) (k := k) ⟨hw1.1, hw1.2.2.1⟩ hk
      ((repeat' ((conv => whnf);(first|refine z1 ?_|refine z2 ?_|refine z3 ?_|refine z4 ?_|refine z5 ?_|refine z6 ?_|refine z7 ?_|refine z8 ?_|refine z9 ?_|refine za ?_|refine zb ?_|refine zc ?_|refine zd ?_|refine ze ?_|refine zf ?_|refine zg ?_|refine zh ?_|((first|refine zi ?_ ?_|refine zj ?_ ?_|refine zk ?_ ?_)<;> intro hh <;> first|(exfalso;omega)|skip)|(refine zl ?_ ?_<;> intro hh)|refine zm ?_|refine zn ?_|refine zo ?_|refine zp ?_|refine zq ?_|refine zr ?_|refine zs _ rfl ?_|refine zu ?_|exact Sy.fin_val (fun e=>rfl))));(all_goals (try conv => whnf)))
      refine Sy.fin_ex (x.1, cmpV p.worker k == 0) ⟨by simp only; omega, ⟨fun h => ⟨p, hp, hz.1 (by simpa using h)⟩, fun ⟨q, hq, he⟩ => ?_⟩, fun a b => ⟨(h3 a b).1, fun m p hm hp => (h3 a b).2 m p (by simp only at hm; omega) hp⟩⟩ (fun e => rfl)
      simp only at hq
      rw [hp] at hq
      cases hq
      simpa using hz.2 he
    · have e : x.1 = ps.length := by omega
      refine Sy.fin_ex (x.1, false) ⟨by simp only; omega, ⟨fun h => absurd h (by simp), fun ⟨p, hp, _⟩ => by rw [List.getElem?_eq_none (by simp only; omega)] at hp; cases hp⟩, fun a b => ⟨(h3 a b).1, fun m p hm hp => by rw [List.getElem?_eq_none (by simp only at hm; omega)] at hp; cases hp⟩⟩ (fun e => rfl)
end Go.Proofs.Ytiapcohnjklcfaa
