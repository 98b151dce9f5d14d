/- 'RetainSafe': whatever is done to a shelf, nothing goes that is needed, and what is dropped was settled and is gone once; what came in reads as it did. No conditions. -/
import Derived.Test.YtkmdmjnbjoakbaaReV
import Derived.Test.YtkmdmjnbjoakbaaReOpenD
import Derived.Test.YtkmdmjnbjoakbaaPost
import Derived.Test.YtkmdmjnbjoakbaaOpenY
namespace Go.Proofs.Ytkmdmjnbjoakbaa
open Go Go.RowKit Go.WideShapes Go.ChangeShapes Go.ChangeAt Go.Joins
open Sy (XD)
namespace RetainSafeN
set_option maxRecDepth 100000 in
theorem lifted (os : Os) (started : os.Started) (H : Type) (enc : TypeId × Value → H) :
    ReturnsInHanded {} Try.checked os 6 .any (Rows.retainSafeSpec.pre6 enc Try.prog Try.f6 Rows.retainSafeRow.domain false) (Rows.retainSafeSpec.post enc Try.prog Try.f6 false true false false) := by
  refine returnsInHanded_of_change (C := Try.checked) own started (by kernel_rfl) Try.func6
    (ChangeSpec.witness6 (enc := enc) (C := Try.checked) false ⟨#[], #[.int .i64 0, .slice none 0 0], []⟩ 8 (by kernel_rfl) (by kernel_rfl) (by kernel_rfl) (by kernel_rfl)) ?_
  intro W base args ds gs before hval0 hW hcnd _
  have hval : ∀ (j : Nat) t v, Try.f6.params[j]? = some t → args[j]? = some v → Value.okWide Try.prog W .any base t v := hval0
  have hW' := hW
  obtain ⟨p, q, hA0, hV, rfl, hfz, hnd⟩ := hW
  have hA : DataW.TrodAll enc Try.prog W 0 (fun _ => true) true Try.f6.params.toList args.toList ds p := hA0
  rw [Try.params6] at hA hval
  obtain ⟨v0, v1, d0, d1, p0, p1, rfl, rfl, rfl, h0, h1⟩ := trodAll_two hA
  obtain ⟨rfl, rfl⟩ := trodVars_none hV
  have o0 := hval 0 3 v0 rfl rfl
  have r0 := Rd.of h0
  have o1 := hval 1 46 v1 rfl rfl
  have r1 := Rd.of h1
  clear hA0 hval0
  obtain ⟨n0, rfl⟩ := okWide_int Try.underlying3 o0
  obtain ⟨a, len, cap, rfl⟩ := okWide_slice Try.underlying46 o1
  obtain ⟨u1, ds, hv1, hr1, hd1⟩ := open_deeds r1
  obtain rfl : Value.slice a len cap = u1 := by simpa [Value.cells] using hv1
  refine (safe_any n0 _ ds W hr1 hd1).mono fun e W' ⟨he, hb⟩ => ?_
  subst he
  exact ⟨_, rfl, law_post (t := 4) rfl (by rw [Try.params6]; decide +kernel) (by kernel_rfl) Try.underlying4 hW' hb rfl rfl rfl⟩
theorem over : Rows.retainSafeRow.holds Try.pinned (OpenSpec.ofChange Rows.retainSafeSpec) :=
  OpenClaim.holds_of_wide 6 Try.f6 rfl rfl rfl rfl rfl rfl rfl ⟨rfl, rfl, rfl, rfl, rfl⟩ rfl rfl rfl rfl rfl (by kernel_rfl) Try.func6 (by kernel_rfl)
    (of_decide_eq_true (by kernel_rfl)) (by unfold Func.isWrapper; first | (rw [if_pos (by decide +kernel)]; kernel_rfl) | (rw [if_neg (by decide +kernel)]; exact ⟨rfl, rfl⟩))
    (fun os started H enc _ => lifted os started H enc)
theorem proved : Rows.RetainSafeSaid := over
end RetainSafeN
end Go.Proofs.Ytkmdmjnbjoakbaa
