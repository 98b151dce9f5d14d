/- 'HeartGoes': whatever a heart is and whatever is done with it, what comes of a heart that may be may be, and nobody else goes down or comes; what came in reads as it did. No conditions. -/
import Derived.Test.YtiapcohnjklcfaaHeS
import Derived.Test.YtiapcohnjklcfaaHeOpen2
import Derived.Test.YtiapcohnjklcfaaPost
import Derived.Test.YtiapcohnjklcfaaOpenY
namespace Go.Proofs.Ytiapcohnjklcfaa
open Go Go.RowKit Go.WideShapes Go.ChangeShapes Go.ChangeAt Go.Joins
open Sy (XD)
namespace HeartGoesN
set_option maxRecDepth 100000 in
theorem lifted (os : Os) (started : os.Started) (H : Type) (enc : TypeId × Value → H) :
    ReturnsInHanded {} Try.checked os 7 .any (Rows.heartGoesSpec.pre6 enc Try.prog Try.f7 Rows.heartGoesRow.domain false) (Rows.heartGoesSpec.post enc Try.prog Try.f7 false true false false) := by
  refine returnsInHanded_of_change (C := Try.checked) own started (by kernel_rfl) Try.func7
    (ChangeSpec.witness6 (enc := enc) (C := Try.checked) false ⟨#[], #[.agg #[.int .i64 0, .int .i64 0, .slice none 0 0], .slice none 0 0], []⟩ 8 (by kernel_rfl) (by kernel_rfl) (by kernel_rfl) (by kernel_rfl)) ?_
  intro W base args ds gs before hval0 hW hcnd _
  have hval : ∀ (j : Nat) t v, Try.f7.params[j]? = some t → args[j]? = some v → Value.okWide Try.prog W .any base t v := hval0
  have hW' := hW
  obtain ⟨p, q, hA0, hV, rfl, hfz, hnd⟩ := hW
  have hA : DataW.TrodAll enc Try.prog W 0 (fun _ => true) true Try.f7.params.toList args.toList ds p := hA0
  rw [Try.params7] at hA hval
  obtain ⟨v0, v1, d0, d1, p0, p1, rfl, rfl, rfl, h0, h1⟩ := trodAll_two hA
  obtain ⟨rfl, rfl⟩ := trodVars_none hV
  have o0 := hval 0 27 v0 rfl rfl
  have r0 := Rd.of h0
  have o1 := hval 1 44 v1 rfl rfl
  have r1 := Rd.of h1
  clear hA0 hval0
  obtain ⟨cs, rfl, _⟩ := okWide_struct Try.underlying27 o0
  obtain ⟨x, hx, hxo, _⟩ := open_heart r0
  obtain rfl := agg_heart hx
  obtain ⟨a, len, cap, rfl⟩ := okWide_slice Try.underlying44 o1
  obtain ⟨u, l, hv, hr, hl⟩ := open_ops r1
  obtain rfl : Value.slice a len cap = u := by simpa [Value.cells] using hv
  refine (goes_any x.now x.span x.v _ x.ps l W hxo.1 (fun o h => (hl o h).1) hxo.2 hr).mono fun e W' ⟨he, hb⟩ => ?_
  subst he
  exact ⟨_, rfl, law_post (t := 4) rfl (by rw [Try.params7]; decide +kernel) (by kernel_rfl) Try.underlying4 hW' hb rfl rfl rfl⟩
theorem over : Rows.heartGoesRow.holds Try.pinned (OpenSpec.ofChange Rows.heartGoesSpec) :=
  OpenClaim.holds_of_wide 7 Try.f7 rfl rfl rfl rfl rfl rfl rfl ⟨rfl, rfl, rfl, rfl, rfl⟩ rfl rfl rfl rfl rfl (by kernel_rfl) Try.func7 (by kernel_rfl)
    (of_decide_eq_true (by kernel_rfl)) (by unfold Func.isWrapper; first | (rw [if_pos (by decide +kernel)]; kernel_rfl) | (rw [if_neg (by decide +kernel)]; exact ⟨rfl, rfl⟩))
    (fun os started H enc _ => lifted os started H enc)
theorem proved : Rows.HeartGoesSaid := over
end HeartGoesN
end Go.Proofs.Ytiapcohnjklcfaa
