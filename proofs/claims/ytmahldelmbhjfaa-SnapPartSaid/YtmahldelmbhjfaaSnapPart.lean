/- 'SnapPart': whatever snapshot and row of shares come in, its part for a share is what the document says, or it is refused; the part's memory is its own, and what came in reads as it did. No conditions. -/
import Derived.Test.YtmahldelmbhjfaaSnY
import Derived.Test.YtmahldelmbhjfaaSnOpenA
import Derived.Test.YtmahldelmbhjfaaSnOpenB
import Derived.Test.YtmahldelmbhjfaaPost
import Derived.Test.YtmahldelmbhjfaaOpenY
namespace Go.Proofs.Ytmahldelmbhjfaa
open Go Go.RowKit Go.WideShapes Go.ChangeShapes Go.ChangeAt Go.Joins
open Sy (XD)
namespace SnapPartN
set_option maxRecDepth 100000 in
theorem lifted (os : Os) (started : os.Started) (H : Type) (enc : TypeId × Value → H) :
    ReturnsInHanded {} Try.checked os 4 .any (Rows.snapPartSpec.pre6 enc Try.prog Try.f4 Rows.snapPartRow.domain false) (Rows.snapPartSpec.post enc Try.prog Try.f4 false true false false) := by
  refine returnsInHanded_of_change (C := Try.checked) own started (by kernel_rfl) Try.func4
    (ChangeSpec.witness6 (enc := enc) (C := Try.checked) false ⟨#[], #[.agg #[.int .i64 0, .int .i64 0, .int .i64 0, .bool false, .slice none 0 0, .int .i64 0, .int .i64 0, .int .i64 0, .int .i64 0, .int .i64 0, .int .i64 0, .int .i64 0, .int .i64 0, .slice none 0 0], .slice none 0 0], []⟩ 8 (by kernel_rfl) (by kernel_rfl) (by kernel_rfl) (by kernel_rfl)) ?_
  intro W base args ds gs before hval0 hW hcnd _
  have hval : ∀ (j : Nat) t v, Try.f4.params[j]? = some t → args[j]? = some v → Value.okWide Try.prog W .any base t v := hval0
  have hW' := hW
  obtain ⟨p, q, hA0, hV, rfl, hfz, hnd⟩ := hW
  have hA : DataW.TrodAll enc Try.prog W 0 (fun _ => true) true Try.f4.params.toList args.toList ds p := hA0
  rw [Try.params4] at hA hval
  obtain ⟨v0, v1, d0, d1, p0, p1, rfl, rfl, rfl, h0, h1⟩ := trodAll_two hA
  obtain ⟨rfl, rfl⟩ := trodVars_none hV
  have o0 := hval 0 33 v0 rfl rfl
  have r0 := Rd.of h0
  have o1 := hval 1 22 v1 rfl rfl
  have r1 := Rd.of h1
  clear hA0 hval0
  obtain ⟨cs0, rfl, _⟩ := okWide_struct Try.underlying33 o0
  obtain ⟨s, hx0, hs⟩ := open_snap r0
  obtain rfl := agg_snap hx0
  obtain ⟨a, len, cap, rfl⟩ := okWide_slice Try.underlying22 o1
  obtain ⟨u, l, hv, hr⟩ := open_shares r1
  obtain rfl : Value.slice a len cap = u := by simpa [Value.cells] using hv
  refine (lpart_any s _ l W hs hr).mono fun e W' ⟨he, hb⟩ => ?_
  subst he
  exact ⟨_, rfl, law_post (t := 4) rfl (by rw [Try.params4]; decide +kernel) (by kernel_rfl) Try.underlying4 hW' hb rfl rfl rfl⟩
theorem over : Rows.snapPartRow.holds Try.pinned (OpenSpec.ofChange Rows.snapPartSpec) :=
  OpenClaim.holds_of_wide 4 Try.f4 rfl rfl rfl rfl rfl rfl rfl ⟨rfl, rfl, rfl, rfl, rfl⟩ rfl rfl rfl rfl rfl (by kernel_rfl) Try.func4 (by kernel_rfl)
    (of_decide_eq_true (by kernel_rfl)) (by unfold Func.isWrapper; first | (rw [if_pos (by decide +kernel)]; kernel_rfl) | (rw [if_neg (by decide +kernel)]; exact ⟨rfl, rfl⟩))
    (fun os started H enc _ => lifted os started H enc)
theorem proved : Rows.SnapPartSaid := over
end SnapPartN
end Go.Proofs.Ytmahldelmbhjfaa
