/- 'SlotsWorkers': whatever floor and worker come in, a worker comes and goes as the document says, or it is refused; what came in reads as it did. No conditions. -/
import Derived.Test.YtjhjmeajdebcbaaSBd
import Derived.Test.YtjhjmeajdebcbaaSOpen
import Derived.Test.YtjhjmeajdebcbaaPost
import Derived.Test.YtjhjmeajdebcbaaOpenY
namespace Go.Proofs.Ytjhjmeajdebcbaa
open Go Go.RowKit Go.WideShapes Go.ChangeShapes Go.ChangeAt Go.Joins
open Sy (XD)
namespace SlotsWorkersN
set_option maxRecDepth 100000 in
theorem lifted (os : Os) (started : os.Started) (H : Type) (enc : TypeId × Value → H) :
    ReturnsInHanded {} Try.checked os 6 .any (Rows.slotsWorkersSpec.pre6 enc Try.prog Try.f6 Rows.slotsWorkersRow.domain false) (Rows.slotsWorkersSpec.post enc Try.prog Try.f6 false true false false) := by
  refine returnsInHanded_of_change (C := Try.checked) own started (by kernel_rfl) Try.func6
    (ChangeSpec.witness6 (enc := enc) (C := Try.checked) false ⟨#[], #[.agg #[.slice none 0 0, .slice none 0 0], .agg #[.int .i64 0, .int .i64 0]], []⟩ 8 (by kernel_rfl) (by kernel_rfl) (by kernel_rfl) (by kernel_rfl)) ?_
  intro W base args ds gs before hval0 hW hcnd _
  have hval : ∀ (j : Nat) t v, Try.f6.params[j]? = some t → args[j]? = some v → Value.okWide Try.prog W .any base t v := hval0
  have hW' := hW
  obtain ⟨p, q, hA0, hV, rfl, hfz, hnd⟩ := hW
  have hA : DataW.TrodAll enc Try.prog W 0 (fun _ => true) true Try.f6.params.toList args.toList ds p := hA0
  rw [Try.params6] at hA hval
  obtain ⟨v0, v1, d0, d1, p0, p1, rfl, rfl, rfl, h0, h1⟩ := trodAll_two hA
  obtain ⟨rfl, rfl⟩ := trodVars_none hV
  have o0 := hval 0 26 v0 rfl rfl
  have r0 := Rd.of h0
  have o1 := hval 1 31 v1 rfl rfl
  have r1 := Rd.of h1
  clear hA0 hval0
  obtain ⟨cs0, rfl, _⟩ := okWide_struct Try.underlying26 o0
  obtain ⟨fu, fv, ws, ps, hx0, hu, hv⟩ := open_floor r0
  obtain rfl := agg_floor hx0
  obtain ⟨cs1, rfl, _⟩ := okWide_struct Try.underlying31 o1
  obtain ⟨x1, hx1⟩ := open_worker r1
  obtain rfl := agg_worker hx1
  refine (lworkers_any fu fv ws ps x1 W hu hv).mono fun e W' ⟨he, hb⟩ => ?_
  subst he
  exact ⟨_, rfl, law_post (t := 4) rfl (by rw [Try.params6]; decide +kernel) (by kernel_rfl) Try.underlying4 hW' hb rfl rfl rfl⟩
theorem over : Rows.slotsWorkersRow.holds Try.pinned (OpenSpec.ofChange Rows.slotsWorkersSpec) :=
  OpenClaim.holds_of_wide 6 Try.f6 rfl rfl rfl rfl rfl rfl rfl ⟨rfl, rfl, rfl, rfl, rfl⟩ rfl rfl rfl rfl rfl (by kernel_rfl) Try.func6 (by kernel_rfl)
    (of_decide_eq_true (by kernel_rfl)) (by unfold Func.isWrapper; first | (rw [if_pos (by decide +kernel)]; kernel_rfl) | (rw [if_neg (by decide +kernel)]; exact ⟨rfl, rfl⟩))
    (fun os started H enc _ => lifted os started H enc)
theorem proved : Rows.SlotsWorkersSaid := over
end SlotsWorkersN
end Go.Proofs.Ytjhjmeajdebcbaa
