/- 'HeartSteady': whatever a span, a worker and a row of waits are, who is heard in time is never down, and who is not is, and stays so till it is heard; what came in reads as it did. No conditions. -/
import Derived.Test.YtiapcohnjklcfaaHeQ
import Derived.Test.YtiapcohnjklcfaaHeOpen
import Derived.Test.YtiapcohnjklcfaaPost
import Derived.Test.YtiapcohnjklcfaaOpenY
namespace Go.Proofs.Ytiapcohnjklcfaa
open Go Go.RowKit Go.WideShapes Go.ChangeShapes Go.ChangeAt Go.Joins
open Sy (XD)
namespace HeartSteadyN
set_option maxRecDepth 100000 in
theorem lifted (os : Os) (started : os.Started) (H : Type) (enc : TypeId × Value → H) :
    ReturnsInHanded {} Try.checked os 4 .any (Rows.heartSteadySpec.pre6 enc Try.prog Try.f4 Rows.heartSteadyRow.domain false) (Rows.heartSteadySpec.post enc Try.prog Try.f4 false true false false) := by
  refine returnsInHanded_of_change (C := Try.checked) own started (by kernel_rfl) Try.func4
    (ChangeSpec.witness6 (enc := enc) (C := Try.checked) false ⟨#[], #[.int .i64 0, .int .i64 0, .slice none 0 0], []⟩ 8 (by kernel_rfl) (by kernel_rfl) (by kernel_rfl) (by kernel_rfl)) ?_
  intro W base args ds gs before hval0 hW hcnd _
  have hval : ∀ (j : Nat) t v, Try.f4.params[j]? = some t → args[j]? = some v → Value.okWide Try.prog W .any base t v := hval0
  have hW' := hW
  obtain ⟨p, q, hA0, hV, rfl, hfz, hnd⟩ := hW
  have hA : DataW.TrodAll enc Try.prog W 0 (fun _ => true) true Try.f4.params.toList args.toList ds p := hA0
  rw [Try.params4] at hA hval
  obtain ⟨v0, v1, v2, d0, d1, d2, p0, p1, p2, rfl, rfl, rfl, h0, h1, h2⟩ := trodAll_three hA
  obtain ⟨rfl, rfl⟩ := trodVars_none hV
  have o0 := hval 0 2 v0 rfl rfl
  have r0 := Rd.of h0
  have o1 := hval 1 3 v1 rfl rfl
  have r1 := Rd.of h1
  have o2 := hval 2 34 v2 rfl rfl
  have r2 := Rd.of h2
  clear hA0 hval0
  obtain ⟨n0, rfl⟩ := okWide_int Try.underlying2 o0
  obtain ⟨n1, rfl⟩ := okWide_int Try.underlying3 o1
  obtain ⟨a, len, cap, rfl⟩ := okWide_slice Try.underlying34 o2
  obtain ⟨m0, hm0, b0⟩ := r0.i64 Try.underlying2
  obtain ⟨m1, hm1, b1⟩ := r1.i64 Try.underlying3
  obtain rfl : n0 = m0 := by simpa [Value.cells] using hm0
  obtain ⟨v, xs, hv, hr, he⟩ := r2.slice Try.underlying34 (by rw [cells2]; decide)
  obtain rfl : Value.slice a len cap = v := by simpa [Value.cells] using hv
  obtain ⟨l, rfl, hl⟩ := list_of (enc := encI) (p := fun _ => True) fun c hc => by
    obtain ⟨x, hx, _⟩ := (he c hc).i64 Try.underlying2
    exact ⟨x, hx, trivial⟩
  rw [cells2, List.length_map] at hr
  refine (steady_any n0 n1 _ l W b0 ⟨hr, fun c hc u hu => ?_⟩).mono fun e W' ⟨he, hb⟩ => ?_
  · obtain ⟨x, _, rfl⟩ := List.mem_map.1 hc
    simp [encI] at hu
    subst hu; rfl
  subst he
  exact ⟨_, rfl, law_post (t := 4) rfl (by rw [Try.params4]; decide +kernel) (by kernel_rfl) Try.underlying4 hW' hb rfl rfl rfl⟩
theorem over : Rows.heartSteadyRow.holds Try.pinned (OpenSpec.ofChange Rows.heartSteadySpec) :=
  OpenClaim.holds_of_wide 4 Try.f4 rfl rfl rfl rfl rfl rfl rfl ⟨rfl, rfl, rfl, rfl, rfl⟩ rfl rfl rfl rfl rfl (by kernel_rfl) Try.func4 (by kernel_rfl)
    (of_decide_eq_true (by kernel_rfl)) (by unfold Func.isWrapper; first | (rw [if_pos (by decide +kernel)]; kernel_rfl) | (rw [if_neg (by decide +kernel)]; exact ⟨rfl, rfl⟩))
    (fun os started H enc _ => lifted os started H enc)
theorem proved : Rows.HeartSteadySaid := over
end HeartSteadyN
end Go.Proofs.Ytiapcohnjklcfaa
