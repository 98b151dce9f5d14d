/- 'SnapBack': whatever snapshot and bytes come in, a snapshot and its bytes lead back to one another, less of them is too short, and bytes that are taken are those of what they tell; what came in reads as it did. No conditions. -/
import Derived.Test.YtmahldelmbhjfaaSdM
import Derived.Test.YtmahldelmbhjfaaSnOpenF
import Derived.Test.YtmahldelmbhjfaaPost
import Derived.Test.YtmahldelmbhjfaaOpenY
namespace Go.Proofs.Ytmahldelmbhjfaa
open Go Go.RowKit Go.WideShapes Go.ChangeShapes Go.ChangeAt Go.Joins
open Sy (XD)
namespace SnapBackN
set_option maxRecDepth 100000 in
theorem lifted (os : Os) (started : os.Started) (H : Type) (enc : TypeId × Value → H) :
    ReturnsInHanded {} Try.checked os 9 .any (Rows.snapBackSpec.pre6 enc Try.prog Try.f9 Rows.snapBackRow.domain false) (Rows.snapBackSpec.post enc Try.prog Try.f9 false true false false) := by
  refine returnsInHanded_of_change (C := Try.checked) own started (by kernel_rfl) Try.func9
    (ChangeSpec.witness6 (enc := enc) (C := Try.checked) false ⟨#[], #[.agg #[.int .i64 0, .int .i64 0, .int .i64 0, .bool false, .slice none 0 0, .int .i64 0, .int .i64 0, .int .i64 0, .int .i64 0, .int .i64 0, .int .i64 0, .int .i64 0, .int .i64 0, .slice none 0 0], .slice none 0 0], []⟩ 8 (by kernel_rfl) (by kernel_rfl) (by kernel_rfl) (by kernel_rfl)) ?_
  intro W base args ds gs before hval0 hW hcnd _
  have hval : ∀ (j : Nat) t v, Try.f9.params[j]? = some t → args[j]? = some v → Value.okWide Try.prog W .any base t v := hval0
  have hW' := hW
  obtain ⟨p, q, hA0, hV, rfl, hfz, hnd⟩ := hW
  have hA : DataW.TrodAll enc Try.prog W 0 (fun _ => true) true Try.f9.params.toList args.toList ds p := hA0
  rw [Try.params9] at hA hval
  obtain ⟨v0, v1, d0, d1, p0, p1, rfl, rfl, rfl, h0, h1⟩ := trodAll_two hA
  obtain ⟨rfl, rfl⟩ := trodVars_none hV
  have o0 := hval 0 33 v0 rfl rfl
  have r0 := Rd.of h0
  have o1 := hval 1 64 v1 rfl rfl
  have r1 := Rd.of h1
  clear hA0 hval0
  obtain ⟨cs0, rfl, _⟩ := okWide_struct Try.underlying33 o0
  obtain ⟨s, hx0, hs, hi⟩ := open_snapB r0
  obtain rfl := agg_snap hx0
  obtain ⟨a, len, cap, rfl⟩ := okWide_slice Try.underlying64 o1
  obtain ⟨u, l, hv, hb8, h8⟩ := open_bytes r1
  obtain rfl : Value.slice a len cap = u := by simpa [Value.cells] using hv
  refine (lback_any s _ l W hs hi hb8 h8).mono fun e W' ⟨he, hb⟩ => ?_
  subst he
  exact ⟨_, rfl, law_post (t := 4) rfl (by rw [Try.params9]; decide +kernel) (by kernel_rfl) Try.underlying4 hW' hb rfl rfl rfl⟩
theorem over : Rows.snapBackRow.holds Try.pinned (OpenSpec.ofChange Rows.snapBackSpec) :=
  OpenClaim.holds_of_wide 9 Try.f9 rfl rfl rfl rfl rfl rfl rfl ⟨rfl, rfl, rfl, rfl, rfl⟩ rfl rfl rfl rfl rfl (by kernel_rfl) Try.func9 (by kernel_rfl)
    (of_decide_eq_true (by kernel_rfl)) (by unfold Func.isWrapper; first | (rw [if_pos (by decide +kernel)]; kernel_rfl) | (rw [if_neg (by decide +kernel)]; exact ⟨rfl, rfl⟩))
    (fun os started H enc _ => lifted os started H enc)
theorem proved : Rows.SnapBackSaid := over
end SnapBackN
end Go.Proofs.Ytmahldelmbhjfaa
