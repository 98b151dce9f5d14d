/- 'RetainLast': whatever a shelf, a number and a mark are, the checkpoint that was put last is kept, whatever is settled behind it; what came in reads as it did. No conditions. -/
import Derived.Test.YtkmdmjnbjoakbaaReT
import Derived.Test.YtkmdmjnbjoakbaaReOpen
import Derived.Test.YtkmdmjnbjoakbaaPost
import Derived.Test.YtkmdmjnbjoakbaaOpenY
namespace Go.Proofs.Ytkmdmjnbjoakbaa
open Go Go.RowKit Go.WideShapes Go.ChangeShapes Go.ChangeAt Go.Joins
open Sy (XD)
namespace RetainLastN
set_option maxRecDepth 100000 in
theorem lifted (os : Os) (started : os.Started) (H : Type) (enc : TypeId × Value → H) :
    ReturnsInHanded {} Try.checked os 4 .any (Rows.retainLastSpec.pre6 enc Try.prog Try.f4 Rows.retainLastRow.domain false) (Rows.retainLastSpec.post enc Try.prog Try.f4 false true false false) := by
  refine returnsInHanded_of_change (C := Try.checked) own started (by kernel_rfl) Try.func4
    (ChangeSpec.witness6 (enc := enc) (C := Try.checked) false ⟨#[], #[.agg #[.int .i64 0, .slice none 0 0], .int .u64 0, .bool false], []⟩ 8 (by kernel_rfl) (by kernel_rfl) (by kernel_rfl) (by kernel_rfl)) ?_
  intro W base args ds gs before hval0 hW hcnd _
  have hval : ∀ (j : Nat) t v, Try.f4.params[j]? = some t → args[j]? = some v → Value.okWide Try.prog W .any base t v := hval0
  have hW' := hW
  obtain ⟨p, q, hA0, hV, rfl, hfz, hnd⟩ := hW
  have hA : DataW.TrodAll enc Try.prog W 0 (fun _ => true) true Try.f4.params.toList args.toList ds p := hA0
  rw [Try.params4] at hA hval
  obtain ⟨v0, v1, v2, d0, d1, d2, p0, p1, p2, rfl, rfl, rfl, h0, h1, h2⟩ := trodAll_three hA
  obtain ⟨rfl, rfl⟩ := trodVars_none hV
  have o0 := hval 0 24 v0 rfl rfl
  have r0 := Rd.of h0
  have o1 := hval 1 25 v1 rfl rfl
  have r1 := Rd.of h1
  have o2 := hval 2 4 v2 rfl rfl
  have r2 := Rd.of h2
  clear hA0 hval0
  obtain ⟨cs0, rfl, _⟩ := okWide_struct Try.underlying24 o0
  obtain ⟨k0, s0, x0, hx0, ho0⟩ := open_shelf r0
  obtain rfl := agg_shelf hx0
  obtain ⟨n1, rfl⟩ := okWide_int Try.underlying25 o1
  obtain ⟨b2, rfl⟩ := okWide_bool Try.underlying4 o2
  refine (last_any k0 s0 x0 n1 b2 W ho0).mono fun e W' ⟨he, hb⟩ => ?_
  subst he
  exact ⟨_, rfl, law_post (t := 4) rfl (by rw [Try.params4]; decide +kernel) (by kernel_rfl) Try.underlying4 hW' hb rfl rfl rfl⟩
theorem over : Rows.retainLastRow.holds Try.pinned (OpenSpec.ofChange Rows.retainLastSpec) :=
  OpenClaim.holds_of_wide 4 Try.f4 rfl rfl rfl rfl rfl rfl rfl ⟨rfl, rfl, rfl, rfl, rfl⟩ rfl rfl rfl rfl rfl (by kernel_rfl) Try.func4 (by kernel_rfl)
    (of_decide_eq_true (by kernel_rfl)) (by unfold Func.isWrapper; first | (rw [if_pos (by decide +kernel)]; kernel_rfl) | (rw [if_neg (by decide +kernel)]; exact ⟨rfl, rfl⟩))
    (fun os started H enc _ => lifted os started H enc)
theorem proved : Rows.RetainLastSaid := over
end RetainLastN
end Go.Proofs.Ytkmdmjnbjoakbaa
