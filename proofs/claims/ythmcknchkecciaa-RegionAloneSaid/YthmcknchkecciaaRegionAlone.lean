/- 'RegionAlone': whatever graph and number come in, what stands alone is what the document says; what came in reads as it did, whatever is written into it. No conditions. -/
import Derived.Test.YthmcknchkecciaaRY
import Derived.Test.YthmcknchkecciaaGOpenT
import Derived.Test.YthmcknchkecciaaPost
import Derived.Test.YthmcknchkecciaaOpenY
namespace Go.Proofs.Ythmcknchkecciaa
open Go Go.RowKit Go.WideShapes Go.ChangeShapes Go.ChangeAt Go.Joins
open Sy (XD)
namespace RegionAloneN
set_option maxRecDepth 100000 in
theorem lifted (os : Os) (started : os.Started) (H : Type) (enc : TypeId × Value → H) :
    ReturnsInHanded {} Try.checked os 9 .any (Rows.regionAloneSpec.pre6 enc Try.prog Try.f9 Rows.regionAloneRow.domain false) (Rows.regionAloneSpec.post enc Try.prog Try.f9 false true false false) := by
  refine returnsInHanded_of_change (C := Try.checked) own started (by kernel_rfl) Try.func9
    (ChangeSpec.witness6 (enc := enc) (C := Try.checked) false ⟨#[], #[.agg #[.slice none 0 0], .int .i64 0], []⟩ 8 (by kernel_rfl) (by kernel_rfl) (by kernel_rfl) (by kernel_rfl)) ?_
  intro W base args ds gs before hval0 hW hcnd _
  have hval : ∀ (j : Nat) t v, Try.f9.params[j]? = some t → args[j]? = some v → Value.okWide Try.prog W .any base t v := hval0
  have hW' := hW
  obtain ⟨p, q, hA0, hV, rfl, hfz, hnd⟩ := hW
  have hA : DataW.TrodAll enc Try.prog W 0 (fun _ => true) true Try.f9.params.toList args.toList ds p := hA0
  rw [Try.params9] at hA hval
  obtain ⟨v0, v1, d0, d1, p0, p1, rfl, rfl, rfl, h0, h1⟩ := trodAll_two hA
  obtain ⟨rfl, rfl⟩ := trodVars_none hV
  have o0 := hval 0 26 v0 rfl rfl
  have r0 := Rd.of h0
  have o1 := hval 1 3 v1 rfl rfl
  have r1 := Rd.of h1
  clear hA0 hval0
  obtain ⟨cs0, rfl, _⟩ := okWide_struct Try.underlying26 o0
  obtain ⟨v, gl, hx0, hr⟩ := open_graph r0
  obtain rfl := agg_graph hx0
  obtain ⟨n1, rfl⟩ := okWide_int Try.underlying3 o1
  refine (alonelaw_any v gl n1 W hr).mono fun e W' ⟨he, hb⟩ => ?_
  subst he
  exact ⟨_, rfl, law_post (t := 4) rfl (by rw [Try.params9]; decide +kernel) (by kernel_rfl) Try.underlying4 hW' hb rfl rfl rfl⟩
theorem over : Rows.regionAloneRow.holds Try.pinned (OpenSpec.ofChange Rows.regionAloneSpec) :=
  OpenClaim.holds_of_wide 9 Try.f9 rfl rfl rfl rfl rfl rfl rfl ⟨rfl, rfl, rfl, rfl, rfl⟩ rfl rfl rfl rfl rfl (by kernel_rfl) Try.func9 (by kernel_rfl)
    (of_decide_eq_true (by kernel_rfl)) (by unfold Func.isWrapper; first | (rw [if_pos (by decide +kernel)]; kernel_rfl) | (rw [if_neg (by decide +kernel)]; exact ⟨rfl, rfl⟩))
    (fun os started H enc _ => lifted os started H enc)
theorem proved : Rows.RegionAloneSaid := over
end RegionAloneN
end Go.Proofs.Ythmcknchkecciaa
