/- 'HeartTells': whatever a row of hearts is, Check, Same, Alive and Due say of each what the document says; what came in reads as it did. No conditions. -/
import Derived.Test.YtiapcohnjklcfaaHeOpen
import Derived.Test.YtiapcohnjklcfaaPost
import Derived.Test.YtiapcohnjklcfaaOpenY
namespace Go.Proofs.Ytiapcohnjklcfaa
open Go Go.RowKit Go.WideShapes Go.ChangeShapes Go.ChangeAt Go.Joins
open Sy (XD)
namespace HeartTellsN
set_option maxRecDepth 100000 in
theorem lifted (os : Os) (started : os.Started) (H : Type) (enc : TypeId × Value → H) :
    ReturnsInHanded {} Try.checked os 6 .any (Rows.heartTellsSpec.pre6 enc Try.prog Try.f6 Rows.heartTellsRow.domain false) (Rows.heartTellsSpec.post enc Try.prog Try.f6 false true false false) := by
  refine returnsInHanded_of_change (C := Try.checked) own started (by kernel_rfl) Try.func6
    (ChangeSpec.witness6 (enc := enc) (C := Try.checked) false ⟨#[], #[.slice none 0 0], []⟩ 8 (by kernel_rfl) (by kernel_rfl) (by kernel_rfl) (by kernel_rfl)) ?_
  intro W base args ds gs before hval0 hW hcnd _
  have hval : ∀ (j : Nat) t v, Try.f6.params[j]? = some t → args[j]? = some v → Value.okWide Try.prog W .any base t v := hval0
  have hW' := hW
  obtain ⟨p, q, hA0, hV, rfl, hfz, hnd⟩ := hW
  have hA : DataW.TrodAll enc Try.prog W 0 (fun _ => true) true Try.f6.params.toList args.toList ds p := hA0
  rw [Try.params6] at hA hval
  obtain ⟨v0, d0, rfl, rfl, h0⟩ := trodAll_one hA
  obtain ⟨rfl, rfl⟩ := trodVars_none hV
  have o0 := hval 0 53 v0 rfl rfl
  have r0 := Rd.of h0
  clear hA0 hval0
  obtain ⟨a, len, cap, rfl⟩ := okWide_slice Try.underlying53 o0
  obtain ⟨v, xs, hv, hr, he⟩ := r0.slice Try.underlying53 (by rw [cells27]; decide)
  obtain rfl : Value.slice a len cap = v := by simpa [Value.cells] using hv
  obtain ⟨l, rfl, hl⟩ := list_of (enc := encH) (p := fun x => x.ok W ∧ I64 x.span) fun c hc => open_heart (he c hc)
  rw [cells27, List.length_map] at hr
  refine (tells_any _ l W (fun x hx => (hl x hx).1) ⟨hr, encH_one l hl⟩).mono fun e W' ⟨he, hb⟩ => ?_
  subst he
  exact ⟨_, rfl, law_post (t := 4) rfl (by rw [Try.params6]; decide +kernel) (by kernel_rfl) Try.underlying4 hW' hb rfl rfl rfl⟩
theorem over : Rows.heartTellsRow.holds Try.pinned (OpenSpec.ofChange Rows.heartTellsSpec) :=
  OpenClaim.holds_of_wide 6 Try.f6 rfl rfl rfl rfl rfl rfl rfl ⟨rfl, rfl, rfl, rfl, rfl⟩ rfl rfl rfl rfl rfl (by kernel_rfl) Try.func6 (by kernel_rfl)
    (of_decide_eq_true (by kernel_rfl)) (by unfold Func.isWrapper; first | (rw [if_pos (by decide +kernel)]; kernel_rfl) | (rw [if_neg (by decide +kernel)]; exact ⟨rfl, rfl⟩))
    (fun os started H enc _ => lifted os started H enc)
theorem proved : Rows.HeartTellsSaid := over
end HeartTellsN
end Go.Proofs.Ytiapcohnjklcfaa
