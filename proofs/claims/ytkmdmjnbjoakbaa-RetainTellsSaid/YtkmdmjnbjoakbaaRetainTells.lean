/- 'RetainTells': whatever two shelves and a number are, which of them may be, are the same, and what they have, is as the document says; what came in reads as it did. No conditions. -/
import Derived.Test.YtkmdmjnbjoakbaaReR
import Derived.Test.YtkmdmjnbjoakbaaReOpen
import Derived.Test.YtkmdmjnbjoakbaaPost
import Derived.Test.YtkmdmjnbjoakbaaOpenY
namespace Go.Proofs.Ytkmdmjnbjoakbaa
open Go Go.RowKit Go.WideShapes Go.ChangeShapes Go.ChangeAt Go.Joins
open Sy (XD)
namespace RetainTellsN
set_option maxRecDepth 100000 in
theorem lifted (os : Os) (started : os.Started) (H : Type) (enc : TypeId × Value → H) :
    ReturnsInHanded {} Try.checked os 7 .any (Rows.retainTellsSpec.pre6 enc Try.prog Try.f7 Rows.retainTellsRow.domain false) (Rows.retainTellsSpec.post enc Try.prog Try.f7 false true false false) := by
  refine returnsInHanded_of_change (C := Try.checked) own started (by kernel_rfl) Try.func7
    (ChangeSpec.witness6 (enc := enc) (C := Try.checked) false ⟨#[], #[.agg #[.int .i64 0, .slice none 0 0], .agg #[.int .i64 0, .slice none 0 0], .int .i64 0], []⟩ 8 (by kernel_rfl) (by kernel_rfl) (by kernel_rfl) (by kernel_rfl)) ?_
  intro W base args ds gs before hval0 hW hcnd _
  have hval : ∀ (j : Nat) t v, Try.f7.params[j]? = some t → args[j]? = some v → Value.okWide Try.prog W .any base t v := hval0
  have hW' := hW
  obtain ⟨p, q, hA0, hV, rfl, hfz, hnd⟩ := hW
  have hA : DataW.TrodAll enc Try.prog W 0 (fun _ => true) true Try.f7.params.toList args.toList ds p := hA0
  rw [Try.params7] at hA hval
  obtain ⟨v0, v1, v2, d0, d1, d2, p0, p1, p2, rfl, rfl, rfl, h0, h1, h2⟩ := trodAll_three hA
  obtain ⟨rfl, rfl⟩ := trodVars_none hV
  have o0 := hval 0 24 v0 rfl rfl
  have r0 := Rd.of h0
  have o1 := hval 1 24 v1 rfl rfl
  have r1 := Rd.of h1
  have o2 := hval 2 3 v2 rfl rfl
  have r2 := Rd.of h2
  clear hA0 hval0
  obtain ⟨cs0, rfl, _⟩ := okWide_struct Try.underlying24 o0
  obtain ⟨k0, s0, x0, hx0, ho0⟩ := open_shelf r0
  obtain rfl := agg_shelf hx0
  obtain ⟨cs1, rfl, _⟩ := okWide_struct Try.underlying24 o1
  obtain ⟨k1, s1, x1, hx1, ho1⟩ := open_shelf r1
  obtain rfl := agg_shelf hx1
  obtain ⟨n2, rfl⟩ := okWide_int Try.underlying3 o2
  refine (tells_any k0 k1 n2 s0 s1 x0 x1 W ho0 ho1).mono fun e W' ⟨he, hb⟩ => ?_
  subst he
  exact ⟨_, rfl, law_post (t := 4) rfl (by rw [Try.params7]; decide +kernel) (by kernel_rfl) Try.underlying4 hW' hb rfl rfl rfl⟩
theorem over : Rows.retainTellsRow.holds Try.pinned (OpenSpec.ofChange Rows.retainTellsSpec) :=
  OpenClaim.holds_of_wide 7 Try.f7 rfl rfl rfl rfl rfl rfl rfl ⟨rfl, rfl, rfl, rfl, rfl⟩ rfl rfl rfl rfl rfl (by kernel_rfl) Try.func7 (by kernel_rfl)
    (of_decide_eq_true (by kernel_rfl)) (by unfold Func.isWrapper; first | (rw [if_pos (by decide +kernel)]; kernel_rfl) | (rw [if_neg (by decide +kernel)]; exact ⟨rfl, rfl⟩))
    (fun os started H enc _ => lifted os started H enc)
theorem proved : Rows.RetainTellsSaid := over
end RetainTellsN
end Go.Proofs.Ytkmdmjnbjoakbaa
