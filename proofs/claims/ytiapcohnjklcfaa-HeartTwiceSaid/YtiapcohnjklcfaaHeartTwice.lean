/- 'HeartTwice': whatever a heart and two waits are, to pass to two ticks is to pass to the last one, and ahead of Due nobody goes down, and at it somebody does; what came in reads as it did. No conditions. -/
import Derived.Test.YtiapcohnjklcfaaHeU
import Derived.Test.YtiapcohnjklcfaaHeOpen
import Derived.Test.YtiapcohnjklcfaaHeOpen2
import Derived.Test.YtiapcohnjklcfaaPost
import Derived.Test.YtiapcohnjklcfaaOpenY
namespace Go.Proofs.Ytiapcohnjklcfaa
open Go Go.RowKit Go.WideShapes Go.ChangeShapes Go.ChangeAt Go.Joins
open Sy (XD)
namespace HeartTwiceN
set_option maxRecDepth 100000 in
theorem lifted (os : Os) (started : os.Started) (H : Type) (enc : TypeId × Value → H) :
    ReturnsInHanded {} Try.checked os 8 .any (Rows.heartTwiceSpec.pre6 enc Try.prog Try.f8 Rows.heartTwiceRow.domain false) (Rows.heartTwiceSpec.post enc Try.prog Try.f8 false true false false) := by
  refine returnsInHanded_of_change (C := Try.checked) own started (by kernel_rfl) Try.func8
    (ChangeSpec.witness6 (enc := enc) (C := Try.checked) false ⟨#[], #[.agg #[.int .i64 0, .int .i64 0, .slice none 0 0], .int .i64 0, .int .i64 0], []⟩ 8 (by kernel_rfl) (by kernel_rfl) (by kernel_rfl) (by kernel_rfl)) ?_
  intro W base args ds gs before hval0 hW hcnd _
  have hval : ∀ (j : Nat) t v, Try.f8.params[j]? = some t → args[j]? = some v → Value.okWide Try.prog W .any base t v := hval0
  have hW' := hW
  obtain ⟨p, q, hA0, hV, rfl, hfz, hnd⟩ := hW
  have hA : DataW.TrodAll enc Try.prog W 0 (fun _ => true) true Try.f8.params.toList args.toList ds p := hA0
  rw [Try.params8] at hA hval
  obtain ⟨v0, v1, v2, d0, d1, d2, p0, p1, p2, rfl, rfl, rfl, h0, h1, h2⟩ := trodAll_three hA
  obtain ⟨rfl, rfl⟩ := trodVars_none hV
  have o0 := hval 0 27 v0 rfl rfl
  have r0 := Rd.of h0
  have o1 := hval 1 2 v1 rfl rfl
  have r1 := Rd.of h1
  have o2 := hval 2 2 v2 rfl rfl
  have r2 := Rd.of h2
  clear hA0 hval0
  obtain ⟨cs, rfl, _⟩ := okWide_struct Try.underlying27 o0
  obtain ⟨x, hx, hxo, _⟩ := open_heart r0
  obtain rfl := agg_heart hx
  obtain ⟨n1, rfl⟩ := okWide_int Try.underlying2 o1
  obtain ⟨n2, rfl⟩ := okWide_int Try.underlying2 o2
  obtain ⟨m1, hm1, b1⟩ := r1.i64 Try.underlying2
  obtain ⟨m2, hm2, b2⟩ := r2.i64 Try.underlying2
  obtain rfl : n1 = m1 := by simpa [Value.cells] using hm1
  obtain rfl : n2 = m2 := by simpa [Value.cells] using hm2
  refine (twice_any x.now x.span n1 n2 x.v x.ps W hxo.1 hxo.2).mono fun e W' ⟨he, hb⟩ => ?_
  subst he
  exact ⟨_, rfl, law_post (t := 4) rfl (by rw [Try.params8]; decide +kernel) (by kernel_rfl) Try.underlying4 hW' hb rfl rfl rfl⟩
theorem over : Rows.heartTwiceRow.holds Try.pinned (OpenSpec.ofChange Rows.heartTwiceSpec) :=
  OpenClaim.holds_of_wide 8 Try.f8 rfl rfl rfl rfl rfl rfl rfl ⟨rfl, rfl, rfl, rfl, rfl⟩ rfl rfl rfl rfl rfl (by kernel_rfl) Try.func8 (by kernel_rfl)
    (of_decide_eq_true (by kernel_rfl)) (by unfold Func.isWrapper; first | (rw [if_pos (by decide +kernel)]; kernel_rfl) | (rw [if_neg (by decide +kernel)]; exact ⟨rfl, rfl⟩))
    (fun os started H enc _ => lifted os started H enc)
theorem proved : Rows.HeartTwiceSaid := over
end HeartTwiceN
end Go.Proofs.Ytiapcohnjklcfaa
