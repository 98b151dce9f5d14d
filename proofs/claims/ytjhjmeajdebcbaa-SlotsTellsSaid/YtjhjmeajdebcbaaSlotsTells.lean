/- 'SlotsTells': whatever two floors and two numbers come in, what lies where and how much is free is as the document says; what came in reads as it did. No conditions. -/
import Derived.Test.YtjhjmeajdebcbaaSZ
import Derived.Test.YtjhjmeajdebcbaaSOpenQ
import Derived.Test.YtjhjmeajdebcbaaPost
import Derived.Test.YtjhjmeajdebcbaaOpenY
namespace Go.Proofs.Ytjhjmeajdebcbaa
open Go Go.RowKit Go.WideShapes Go.ChangeShapes Go.ChangeAt Go.Joins
open Sy (XD)
namespace SlotsTellsN
set_option maxRecDepth 100000 in
theorem lifted (os : Os) (started : os.Started) (H : Type) (enc : TypeId × Value → H) :
    ReturnsInHanded {} Try.checked os 5 .any (Rows.slotsTellsSpec.pre6 enc Try.prog Try.f5 Rows.slotsTellsRow.domain false) (Rows.slotsTellsSpec.post enc Try.prog Try.f5 false true false false) := by
  refine returnsInHanded_of_change (C := Try.checked) own started (by kernel_rfl) Try.func5
    (ChangeSpec.witness6 (enc := enc) (C := Try.checked) false ⟨#[], #[.agg #[.slice none 0 0, .slice none 0 0], .agg #[.slice none 0 0, .slice none 0 0], .agg #[.int .i64 0, .int .i64 0]], []⟩ 8 (by kernel_rfl) (by kernel_rfl) (by kernel_rfl) (by kernel_rfl)) ?_
  intro W base args ds gs before hval0 hW hcnd _
  have hval : ∀ (j : Nat) t v, Try.f5.params[j]? = some t → args[j]? = some v → Value.okWide Try.prog W .any base t v := hval0
  have hW' := hW
  obtain ⟨p, q, hA0, hV, rfl, hfz, hnd⟩ := hW
  have hA : DataW.TrodAll enc Try.prog W 0 (fun _ => true) true Try.f5.params.toList args.toList ds p := hA0
  rw [Try.params5] at hA hval
  obtain ⟨v0, v1, v2, d0, d1, d2, p0, p1, p2, rfl, rfl, rfl, h0, h1, h2⟩ := trodAll_three hA
  obtain ⟨rfl, rfl⟩ := trodVars_none hV
  have o0 := hval 0 26 v0 rfl rfl
  have r0 := Rd.of h0
  have o1 := hval 1 26 v1 rfl rfl
  have r1 := Rd.of h1
  have o2 := hval 2 40 v2 rfl rfl
  have r2 := Rd.of h2
  clear hA0 hval0
  obtain ⟨cs0, rfl, _⟩ := okWide_struct Try.underlying26 o0
  obtain ⟨fu, fv, ws, ps, hx0, hu, hv⟩ := open_floor r0
  obtain rfl := agg_floor hx0
  obtain ⟨cs1, rfl, _⟩ := okWide_struct Try.underlying26 o1
  obtain ⟨fu', fv', ws', ps', hx1, hu', hv'⟩ := open_floor r1
  obtain rfl := agg_floor hx1
  obtain ⟨q0, q1, rfl⟩ := open_pair r2 o2
  refine (ltells_any fu fv fu' fv' ws ps ws' ps' q0 q1 W hu hv hu' hv').mono fun e W' ⟨he, hb⟩ => ?_
  subst he
  exact ⟨_, rfl, law_post (t := 4) rfl (by rw [Try.params5]; decide +kernel) (by kernel_rfl) Try.underlying4 hW' hb rfl rfl rfl⟩
theorem over : Rows.slotsTellsRow.holds Try.pinned (OpenSpec.ofChange Rows.slotsTellsSpec) :=
  OpenClaim.holds_of_wide 5 Try.f5 rfl rfl rfl rfl rfl rfl rfl ⟨rfl, rfl, rfl, rfl, rfl⟩ rfl rfl rfl rfl rfl (by kernel_rfl) Try.func5 (by kernel_rfl)
    (of_decide_eq_true (by kernel_rfl)) (by unfold Func.isWrapper; first | (rw [if_pos (by decide +kernel)]; kernel_rfl) | (rw [if_neg (by decide +kernel)]; exact ⟨rfl, rfl⟩))
    (fun os started H enc _ => lifted os started H enc)
theorem proved : Rows.SlotsTellsSaid := over
end SlotsTellsN
end Go.Proofs.Ytjhjmeajdebcbaa
