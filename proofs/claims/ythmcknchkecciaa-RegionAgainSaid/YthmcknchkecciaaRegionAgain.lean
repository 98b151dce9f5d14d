/- 'RegionAgain': whatever graph and rows of subtasks come in, what has to be begun anew has to be begun anew with it, and together what comes of each; what came in reads as it did. No conditions. -/
import Derived.Test.YthmcknchkecciaaRR
import Derived.Test.YthmcknchkecciaaGOpenT
import Derived.Test.YthmcknchkecciaaPost
import Derived.Test.YthmcknchkecciaaOpenY
namespace Go.Proofs.Ythmcknchkecciaa
open Go Go.RowKit Go.WideShapes Go.ChangeShapes Go.ChangeAt Go.Joins
open Sy (XD)
namespace RegionAgainN
set_option maxRecDepth 100000 in
theorem lifted (os : Os) (started : os.Started) (H : Type) (enc : TypeId × Value → H) :
    ReturnsInHanded {} Try.checked os 6 .any (Rows.regionAgainSpec.pre6 enc Try.prog Try.f6 Rows.regionAgainRow.domain false) (Rows.regionAgainSpec.post enc Try.prog Try.f6 false true false false) := by
  refine returnsInHanded_of_change (C := Try.checked) own started (by kernel_rfl) Try.func6
    (ChangeSpec.witness6 (enc := enc) (C := Try.checked) false ⟨#[], #[.agg #[.slice none 0 0], .slice none 0 0, .slice none 0 0], []⟩ 8 (by kernel_rfl) (by kernel_rfl) (by kernel_rfl) (by kernel_rfl)) ?_
  intro W base args ds gs before hval0 hW hcnd _
  have hval : ∀ (j : Nat) t v, Try.f6.params[j]? = some t → args[j]? = some v → Value.okWide Try.prog W .any base t v := hval0
  have hW' := hW
  obtain ⟨p, q, hA0, hV, rfl, hfz, hnd⟩ := hW
  have hA : DataW.TrodAll enc Try.prog W 0 (fun _ => true) true Try.f6.params.toList args.toList ds p := hA0
  rw [Try.params6] at hA hval
  obtain ⟨v0, v1, v2, d0, d1, d2, p0, p1, p2, rfl, rfl, rfl, h0, h1, h2⟩ := trodAll_three hA
  obtain ⟨rfl, rfl⟩ := trodVars_none hV
  have o0 := hval 0 26 v0 rfl rfl
  have r0 := Rd.of h0
  have o1 := hval 1 36 v1 rfl rfl
  have r1 := Rd.of h1
  have o2 := hval 2 36 v2 rfl rfl
  have r2 := Rd.of h2
  clear hA0 hval0
  obtain ⟨cs0, rfl, _⟩ := okWide_struct Try.underlying26 o0
  obtain ⟨v, gl, hx0, hr⟩ := open_graph r0
  obtain rfl := agg_graph hx0
  obtain ⟨a1, len1, cap1, rfl⟩ := okWide_slice Try.underlying36 o1
  obtain ⟨u1, xs, hv1, hr1⟩ := open_ints r1
  obtain rfl : Value.slice a1 len1 cap1 = u1 := by simpa [Value.cells] using hv1
  obtain ⟨a2, len2, cap2, rfl⟩ := okWide_slice Try.underlying36 o2
  obtain ⟨u2, ys, hv2, hr2⟩ := open_ints r2
  obtain rfl : Value.slice a2 len2 cap2 = u2 := by simpa [Value.cells] using hv2
  refine (ragain_any v _ _ gl xs ys W hr hr1 hr2).mono fun e W' ⟨he, hb⟩ => ?_
  subst he
  exact ⟨_, rfl, law_post (t := 4) rfl (by rw [Try.params6]; decide +kernel) (by kernel_rfl) Try.underlying4 hW' hb rfl rfl rfl⟩
theorem over : Rows.regionAgainRow.holds Try.pinned (OpenSpec.ofChange Rows.regionAgainSpec) :=
  OpenClaim.holds_of_wide 6 Try.f6 rfl rfl rfl rfl rfl rfl rfl ⟨rfl, rfl, rfl, rfl, rfl⟩ rfl rfl rfl rfl rfl (by kernel_rfl) Try.func6 (by kernel_rfl)
    (of_decide_eq_true (by kernel_rfl)) (by unfold Func.isWrapper; first | (rw [if_pos (by decide +kernel)]; kernel_rfl) | (rw [if_neg (by decide +kernel)]; exact ⟨rfl, rfl⟩))
    (fun os started H enc _ => lifted os started H enc)
theorem proved : Rows.RegionAgainSaid := over
end RegionAgainN
end Go.Proofs.Ythmcknchkecciaa
