/- 'SlotsKeep': whatever row of deeds comes in, no worker has more than its slots, no place is moved but by what is done to it, and what cannot be laid is too much; what came in reads as it did. No conditions. -/
import Derived.Test.YtjhjmeajdebcbaaSKb
import Derived.Test.YtjhjmeajdebcbaaSOpenD
import Derived.Test.YtjhjmeajdebcbaaPost
import Derived.Test.YtjhjmeajdebcbaaOpenY
namespace Go.Proofs.Ytjhjmeajdebcbaa
open Go Go.RowKit Go.WideShapes Go.ChangeShapes Go.ChangeAt Go.Joins
open Sy (XD)
namespace SlotsKeepN
set_option maxRecDepth 100000 in
theorem lifted (os : Os) (started : os.Started) (H : Type) (enc : TypeId × Value → H) :
    ReturnsInHanded {} Try.checked os 7 .any (Rows.slotsKeepSpec.pre6 enc Try.prog Try.f7 Rows.slotsKeepRow.domain false) (Rows.slotsKeepSpec.post enc Try.prog Try.f7 false true false false) := by
  refine returnsInHanded_of_change (C := Try.checked) own started (by kernel_rfl) Try.func7
    (ChangeSpec.witness6 (enc := enc) (C := Try.checked) false ⟨#[], #[.slice none 0 0], []⟩ 8 (by kernel_rfl) (by kernel_rfl) (by kernel_rfl) (by kernel_rfl)) ?_
  intro W base args ds gs before hval0 hW hcnd _
  have hval : ∀ (j : Nat) t v, Try.f7.params[j]? = some t → args[j]? = some v → Value.okWide Try.prog W .any base t v := hval0
  have hW' := hW
  obtain ⟨p, q, hA0, hV, rfl, hfz, hnd⟩ := hW
  have hA : DataW.TrodAll enc Try.prog W 0 (fun _ => true) true Try.f7.params.toList args.toList ds p := hA0
  rw [Try.params7] at hA hval
  obtain ⟨v0, d0, rfl, rfl, h0⟩ := trodAll_one hA
  obtain ⟨rfl, rfl⟩ := trodVars_none hV
  have o0 := hval 0 51 v0 rfl rfl
  have r0 := Rd.of h0
  clear hA0 hval0
  obtain ⟨a, len, cap, rfl⟩ := okWide_slice Try.underlying51 o0
  obtain ⟨u1, ds, hv1, hr1, hd1⟩ := open_deeds r0
  obtain rfl : Value.slice a len cap = u1 := by simpa [Value.cells] using hv1
  refine (lkeep_any _ ds W hr1 hd1).mono fun e W' ⟨he, hb⟩ => ?_
  subst he
  exact ⟨_, rfl, law_post (t := 4) rfl (by rw [Try.params7]; decide +kernel) (by kernel_rfl) Try.underlying4 hW' hb rfl rfl rfl⟩
theorem over : Rows.slotsKeepRow.holds Try.pinned (OpenSpec.ofChange Rows.slotsKeepSpec) :=
  OpenClaim.holds_of_wide 7 Try.f7 rfl rfl rfl rfl rfl rfl rfl ⟨rfl, rfl, rfl, rfl, rfl⟩ rfl rfl rfl rfl rfl (by kernel_rfl) Try.func7 (by kernel_rfl)
    (of_decide_eq_true (by kernel_rfl)) (by unfold Func.isWrapper; first | (rw [if_pos (by decide +kernel)]; kernel_rfl) | (rw [if_neg (by decide +kernel)]; exact ⟨rfl, rfl⟩))
    (fun os started H enc _ => lifted os started H enc)
theorem proved : Rows.SlotsKeepSaid := over
end SlotsKeepN
end Go.Proofs.Ytjhjmeajdebcbaa
