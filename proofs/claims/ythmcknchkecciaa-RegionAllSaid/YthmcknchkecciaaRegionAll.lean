/- 'RegionAll': whatever graphs come in, their regions are what the document says; what came in reads as it did. No conditions. -/
import Derived.Test.YthmcknchkecciaaRQ
import Derived.Test.YthmcknchkecciaaGOpenT
import Derived.Test.YthmcknchkecciaaPost
import Derived.Test.YthmcknchkecciaaOpenY
namespace Go.Proofs.Ythmcknchkecciaa
open Go Go.RowKit Go.WideShapes Go.ChangeShapes Go.ChangeAt Go.Joins
open Sy (XD)
namespace RegionAllN
set_option maxRecDepth 100000 in
theorem lifted (os : Os) (started : os.Started) (H : Type) (enc : TypeId × Value → H) :
    ReturnsInHanded {} Try.checked os 3 .any (Rows.regionAllSpec.pre6 enc Try.prog Try.f3 Rows.regionAllRow.domain false) (Rows.regionAllSpec.post enc Try.prog Try.f3 false true false false) := by
  refine returnsInHanded_of_change (C := Try.checked) own started (by kernel_rfl) Try.func3
    (ChangeSpec.witness6 (enc := enc) (C := Try.checked) false ⟨#[], #[.slice none 0 0], []⟩ 8 (by kernel_rfl) (by kernel_rfl) (by kernel_rfl) (by kernel_rfl)) ?_
  intro W base args ds gs before hval0 hW hcnd _
  have hval : ∀ (j : Nat) t v, Try.f3.params[j]? = some t → args[j]? = some v → Value.okWide Try.prog W .any base t v := hval0
  have hW' := hW
  obtain ⟨p, q, hA0, hV, rfl, hfz, hnd⟩ := hW
  have hA : DataW.TrodAll enc Try.prog W 0 (fun _ => true) true Try.f3.params.toList args.toList ds p := hA0
  rw [Try.params3] at hA hval
  obtain ⟨v0, d0, rfl, rfl, h0⟩ := trodAll_one hA
  obtain ⟨rfl, rfl⟩ := trodVars_none hV
  have o0 := hval 0 22 v0 rfl rfl
  have r0 := Rd.of h0
  clear hA0 hval0
  obtain ⟨a, len, cap, rfl⟩ := okWide_slice Try.underlying22 o0
  obtain ⟨u, gs, hv, hr⟩ := open_graphs r0
  obtain rfl : Value.slice a len cap = u := by simpa [Value.cells] using hv
  refine (ralllaw_any _ gs W hr).mono fun e W' ⟨he, hb⟩ => ?_
  subst he
  exact ⟨_, rfl, law_post (t := 4) rfl (by rw [Try.params3]; decide +kernel) (by kernel_rfl) Try.underlying4 hW' hb rfl rfl rfl⟩
theorem over : Rows.regionAllRow.holds Try.pinned (OpenSpec.ofChange Rows.regionAllSpec) :=
  OpenClaim.holds_of_wide 3 Try.f3 rfl rfl rfl rfl rfl rfl rfl ⟨rfl, rfl, rfl, rfl, rfl⟩ rfl rfl rfl rfl rfl (by kernel_rfl) Try.func3 (by kernel_rfl)
    (of_decide_eq_true (by kernel_rfl)) (by unfold Func.isWrapper; first | (rw [if_pos (by decide +kernel)]; kernel_rfl) | (rw [if_neg (by decide +kernel)]; exact ⟨rfl, rfl⟩))
    (fun os started H enc _ => lifted os started H enc)
theorem proved : Rows.RegionAllSaid := over
end RegionAllN
end Go.Proofs.Ythmcknchkecciaa
