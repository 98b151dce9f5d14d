/- 'JobLife': whatever number and row of happenings come in, a job that is over stays as it is, one that lives can be cancelled, it is begun anew at most as often as it may, and comes to no state that was not told; what came in reads as it did. No conditions. -/
import Derived.Test.YtbajgjbgkpcapaaJYi
import Derived.Test.YtbajgjbgkpcapaaJYo
import Derived.Test.YtbajgjbgkpcapaaPost
import Derived.Test.YtbajgjbgkpcapaaOpenY
namespace Go.Proofs.Ytbajgjbgkpcapaa
open Go Go.RowKit Go.WideShapes Go.ChangeShapes Go.ChangeAt Go.Joins
open Sy (XD)
namespace JobLifeN
set_option maxRecDepth 100000 in
theorem lifted (os : Os) (started : os.Started) (H : Type) (enc : TypeId × Value → H) :
    ReturnsInHanded {} Try.checked os 7 .any (Rows.jobLifeSpec.pre6 enc Try.prog Try.f7 Rows.jobLifeRow.domain false) (Rows.jobLifeSpec.post enc Try.prog Try.f7 false true false false) := by
  refine returnsInHanded_of_change (C := Try.checked) own started (by kernel_rfl) Try.func7
    (ChangeSpec.witness6 (enc := enc) (C := Try.checked) false ⟨#[], #[.int .i64 0, .slice none 0 0], []⟩ 8 (by kernel_rfl) (by kernel_rfl) (by kernel_rfl) (by kernel_rfl)) ?_
  intro W base args ds gs before hval0 hW hcnd _
  have hval : ∀ (j : Nat) t v, Try.f7.params[j]? = some t → args[j]? = some v → Value.okWide Try.prog W .any base t v := hval0
  have hW' := hW
  obtain ⟨p, q, hA0, hV, rfl, hfz, hnd⟩ := hW
  have hA : DataW.TrodAll enc Try.prog W 0 (fun _ => true) true Try.f7.params.toList args.toList ds p := hA0
  rw [Try.params7] at hA hval
  obtain ⟨v0, v1, d0, d1, p0, p1, rfl, rfl, rfl, h0, h1⟩ := trodAll_two hA
  obtain ⟨rfl, rfl⟩ := trodVars_none hV
  have o0 := hval 0 3 v0 rfl rfl
  have r0 := Rd.of h0
  have o1 := hval 1 30 v1 rfl rfl
  have r1 := Rd.of h1
  clear hA0 hval0
  obtain ⟨n0, rfl⟩ := okWide_int Try.underlying3 o0
  obtain ⟨a1, len1, cap1, rfl⟩ := okWide_slice Try.underlying30 o1
  obtain ⟨u1, l1, hv1, hr1⟩ := open_ints r1
  obtain rfl : Value.slice a1 len1 cap1 = u1 := by simpa [Value.cells] using hv1
  refine (life_any n0 _ l1 W hr1).mono fun e W' ⟨he, hb⟩ => ?_
  subst he
  exact ⟨_, rfl, law_post (t := 4) rfl (by rw [Try.params7]; decide +kernel) (by kernel_rfl) Try.underlying4 hW' hb rfl rfl rfl⟩
theorem over : Rows.jobLifeRow.holds Try.pinned (OpenSpec.ofChange Rows.jobLifeSpec) :=
  OpenClaim.holds_of_wide 7 Try.f7 rfl rfl rfl rfl rfl rfl rfl ⟨rfl, rfl, rfl, rfl, rfl⟩ rfl rfl rfl rfl rfl (by kernel_rfl) Try.func7 (by kernel_rfl)
    (of_decide_eq_true (by kernel_rfl)) (by unfold Func.isWrapper; first | (rw [if_pos (by decide +kernel)]; kernel_rfl) | (rw [if_neg (by decide +kernel)]; exact ⟨rfl, rfl⟩))
    (fun os started H enc _ => lifted os started H enc)
theorem proved : Rows.JobLifeSaid := over
end JobLifeN
end Go.Proofs.Ytbajgjbgkpcapaa
