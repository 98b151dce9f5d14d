/- 'SlotsEven': whatever numbers come in, tasks laid from nothing on among workers of as many slots are laid so that no two workers differ by more than one; what came in reads as it did. No conditions. -/
import Derived.Test.YtjhjmeajdebcbaaSU
import Derived.Test.YtjhjmeajdebcbaaSOpen
import Derived.Test.YtjhjmeajdebcbaaPost
import Derived.Test.YtjhjmeajdebcbaaOpenY
namespace Go.Proofs.Ytjhjmeajdebcbaa
open Go Go.RowKit Go.WideShapes Go.ChangeShapes Go.ChangeAt Go.Joins
open Sy (XD)
namespace SlotsEvenN
set_option maxRecDepth 100000 in
theorem lifted (os : Os) (started : os.Started) (H : Type) (enc : TypeId × Value → H) :
    ReturnsInHanded {} Try.checked os 3 .any (Rows.slotsEvenSpec.pre6 enc Try.prog Try.f3 Rows.slotsEvenRow.domain false) (Rows.slotsEvenSpec.post enc Try.prog Try.f3 false true false false) := by
  refine returnsInHanded_of_change (C := Try.checked) own started (by kernel_rfl) Try.func3
    (ChangeSpec.witness6 (enc := enc) (C := Try.checked) false ⟨#[], #[.int .i64 0, .int .i64 0, .int .i64 0], []⟩ 8 (by kernel_rfl) (by kernel_rfl) (by kernel_rfl) (by kernel_rfl)) ?_
  intro W base args ds gs before hval0 hW hcnd _
  have hval : ∀ (j : Nat) t v, Try.f3.params[j]? = some t → args[j]? = some v → Value.okWide Try.prog W .any base t v := hval0
  have hW' := hW
  obtain ⟨p, q, hA0, hV, rfl, hfz, hnd⟩ := hW
  have hA : DataW.TrodAll enc Try.prog W 0 (fun _ => true) true Try.f3.params.toList args.toList ds p := hA0
  rw [Try.params3] at hA hval
  obtain ⟨v0, v1, v2, d0, d1, d2, p0, p1, p2, rfl, rfl, rfl, h0, h1, h2⟩ := trodAll_three hA
  obtain ⟨rfl, rfl⟩ := trodVars_none hV
  have o0 := hval 0 3 v0 rfl rfl
  have r0 := Rd.of h0
  have o1 := hval 1 3 v1 rfl rfl
  have r1 := Rd.of h1
  have o2 := hval 2 3 v2 rfl rfl
  have r2 := Rd.of h2
  clear hA0 hval0
  obtain ⟨n0, rfl⟩ := okWide_int Try.underlying3 o0
  obtain ⟨n1, rfl⟩ := okWide_int Try.underlying3 o1
  obtain ⟨n2, rfl⟩ := okWide_int Try.underlying3 o2
  refine (leven_any n0 n1 n2 W).mono fun e W' ⟨he, hb⟩ => ?_
  subst he
  exact ⟨_, rfl, law_post (t := 4) rfl (by rw [Try.params3]; decide +kernel) (by kernel_rfl) Try.underlying4 hW' hb rfl rfl rfl⟩
theorem over : Rows.slotsEvenRow.holds Try.pinned (OpenSpec.ofChange Rows.slotsEvenSpec) :=
  OpenClaim.holds_of_wide 3 Try.f3 rfl rfl rfl rfl rfl rfl rfl ⟨rfl, rfl, rfl, rfl, rfl⟩ rfl rfl rfl rfl rfl (by kernel_rfl) Try.func3 (by kernel_rfl)
    (of_decide_eq_true (by kernel_rfl)) (by unfold Func.isWrapper; first | (rw [if_pos (by decide +kernel)]; kernel_rfl) | (rw [if_neg (by decide +kernel)]; exact ⟨rfl, rfl⟩))
    (fun os started H enc _ => lifted os started H enc)
theorem proved : Rows.SlotsEvenSaid := over
end SlotsEvenN
end Go.Proofs.Ytjhjmeajdebcbaa
