/- 'PlanGroups': whatever graph and key come in, the groups of the channels that come to a subtask from one operator are, together, just those that it has; what came in reads as it did. No conditions. -/
import Derived.Test.YtcjiaiojkciheaaPZ
import Derived.Test.YtcjiaiojkciheaaPOpen
import Derived.Test.YtcjiaiojkciheaaPost
import Derived.Test.YtcjiaiojkciheaaOpenY
namespace Go.Proofs.Ytcjiaiojkciheaa
open Go Go.RowKit Go.WideShapes Go.ChangeShapes Go.ChangeAt Go.Joins
open Sy (XD)
namespace PlanGroupsN
set_option maxRecDepth 100000 in
theorem lifted (os : Os) (started : os.Started) (H : Type) (enc : TypeId × Value → H) :
    ReturnsInHanded {} Try.checked os 8 .any (Rows.planGroupsSpec.pre6 enc Try.prog Try.f8 Rows.planGroupsRow.domain false) (Rows.planGroupsSpec.post enc Try.prog Try.f8 false true false false) := by
  refine returnsInHanded_of_change (C := Try.checked) own started (by kernel_rfl) Try.func8
    (ChangeSpec.witness6 (enc := enc) (C := Try.checked) false ⟨#[], #[.agg #[.slice none 0 0], .int .i64 0], []⟩ 8 (by kernel_rfl) (by kernel_rfl) (by kernel_rfl) (by kernel_rfl)) ?_
  intro W base args ds gs before hval0 hW hcnd _
  have hval : ∀ (j : Nat) t v, Try.f8.params[j]? = some t → args[j]? = some v → Value.okWide Try.prog W .any base t v := hval0
  have hW' := hW
  obtain ⟨p, q, hA0, hV, rfl, hfz, hnd⟩ := hW
  have hA : DataW.TrodAll enc Try.prog W 0 (fun _ => true) true Try.f8.params.toList args.toList ds p := hA0
  rw [Try.params8] at hA hval
  obtain ⟨v0, v1, d0, d1, p0, p1, rfl, rfl, rfl, h0, h1⟩ := trodAll_two hA
  obtain ⟨rfl, rfl⟩ := trodVars_none hV
  have o0 := hval 0 24 v0 rfl rfl
  have r0 := Rd.of h0
  have o1 := hval 1 3 v1 rfl rfl
  have r1 := Rd.of h1
  clear hA0 hval0
  obtain ⟨cs0, rfl, _⟩ := okWide_struct Try.underlying24 o0
  obtain ⟨v, gl, hx0, hr⟩ := open_graph r0
  obtain rfl := agg_graph hx0
  obtain ⟨n1, rfl⟩ := okWide_int Try.underlying3 o1
  refine (lgroups_any v gl n1 W hr).mono fun e W' ⟨he, hb⟩ => ?_
  subst he
  exact ⟨_, rfl, law_post (t := 4) rfl (by rw [Try.params8]; decide +kernel) (by kernel_rfl) Try.underlying4 hW' hb rfl rfl rfl⟩
theorem over : Rows.planGroupsRow.holds Try.pinned (OpenSpec.ofChange Rows.planGroupsSpec) :=
  OpenClaim.holds_of_wide 8 Try.f8 rfl rfl rfl rfl rfl rfl rfl ⟨rfl, rfl, rfl, rfl, rfl⟩ rfl rfl rfl rfl rfl (by kernel_rfl) Try.func8 (by kernel_rfl)
    (of_decide_eq_true (by kernel_rfl)) (by unfold Func.isWrapper; first | (rw [if_pos (by decide +kernel)]; kernel_rfl) | (rw [if_neg (by decide +kernel)]; exact ⟨rfl, rfl⟩))
    (fun os started H enc _ => lifted os started H enc)
theorem proved : Rows.PlanGroupsSaid := over
end PlanGroupsN
end Go.Proofs.Ytcjiaiojkciheaa
