/- 'HeartNews': whatever a row of ticks and spans is, New makes a heart of those that may be, and refuses the others; what came in reads as it did. No conditions. -/
import Derived.Test.YtiapcohnjklcfaaHeM
import Derived.Test.YtiapcohnjklcfaaPost
import Derived.Test.YtiapcohnjklcfaaOpenY
namespace Go.Proofs.Ytiapcohnjklcfaa
open Go Go.RowKit Go.WideShapes Go.ChangeShapes Go.ChangeAt Go.Joins
open Sy (XD)
namespace HeartNewsN
set_option maxRecDepth 100000 in
theorem lifted (os : Os) (started : os.Started) (H : Type) (enc : TypeId × Value → H) :
    ReturnsInHanded {} Try.checked os 3 .any (Rows.heartNewsSpec.pre6 enc Try.prog Try.f3 Rows.heartNewsRow.domain false) (Rows.heartNewsSpec.post enc Try.prog Try.f3 false true false false) := by
  refine returnsInHanded_of_change (C := Try.checked) own started (by kernel_rfl) Try.func3
    (ChangeSpec.witness6 (enc := enc) (C := Try.checked) false ⟨#[], #[.slice none 0 0], []⟩ 8 (by kernel_rfl) (by kernel_rfl) (by kernel_rfl) (by kernel_rfl)) ?_
  intro W base args ds gs before hval0 hW hcnd _
  have hval : ∀ (j : Nat) t v, Try.f3.params[j]? = some t → args[j]? = some v → Value.okWide Try.prog W .any base t v := hval0
  have hW' := hW
  obtain ⟨p, q, hA0, hV, rfl, hfz, hnd⟩ := hW
  have hA : DataW.TrodAll enc Try.prog W 0 (fun _ => true) true Try.f3.params.toList args.toList ds p := hA0
  rw [Try.params3] at hA hval
  obtain ⟨v0, d0, rfl, rfl, h0⟩ := trodAll_one hA
  obtain ⟨rfl, rfl⟩ := trodVars_none hV
  have o0 := hval 0 22 v0 rfl rfl
  have r0 := Rd.of h0
  clear hA0 hval0
  obtain ⟨a, len, cap, rfl⟩ := okWide_slice Try.underlying22 o0
  have hc24 : Try.prog.cellsOf 24 = 2 := by kernel_rfl
  have hc2 : Try.prog.cellsOf 2 = 1 := by kernel_rfl
  obtain ⟨v, xs, hv, hr, he⟩ := r0.slice Try.underlying22 (by rw [hc24]; decide)
  obtain rfl : Value.slice a len cap = v := by simpa [Value.cells] using hv
  rw [hc24] at hr
  obtain ⟨l, rfl, hl⟩ := list_of (enc := encT) (p := fun x => I64 x.1) fun c hc => by
    obtain ⟨h1, h2⟩ := (he c hc).array Try.underlying24
    rw [hc24] at h1
    rw [hc2] at h2
    obtain ⟨x, hx, bx⟩ := (h2 0 (by decide)).i64 Try.underlying2
    obtain ⟨y, hy, by_⟩ := (h2 1 (by decide)).i64 Try.underlying2
    exact ⟨(x, y), list2 h1 (take1 hx) (take1 hy), bx⟩
  rw [List.length_map] at hr
  refine (news_any _ l W hl ⟨hr, fun c hc u hu => ?_⟩).mono fun e W' ⟨he, hb⟩ => ?_
  · obtain ⟨x, _, rfl⟩ := List.mem_map.1 hc
    simp [encT] at hu
    rcases hu with rfl | rfl <;> rfl
  subst he
  exact ⟨_, rfl, law_post (t := 4) rfl (by rw [Try.params3]; decide +kernel) (by kernel_rfl) Try.underlying4 hW' hb rfl rfl rfl⟩
theorem over : Rows.heartNewsRow.holds Try.pinned (OpenSpec.ofChange Rows.heartNewsSpec) :=
  OpenClaim.holds_of_wide 3 Try.f3 rfl rfl rfl rfl rfl rfl rfl ⟨rfl, rfl, rfl, rfl, rfl⟩ rfl rfl rfl rfl rfl (by kernel_rfl) Try.func3 (by kernel_rfl)
    (of_decide_eq_true (by kernel_rfl)) (by unfold Func.isWrapper; first | (rw [if_pos (by decide +kernel)]; kernel_rfl) | (rw [if_neg (by decide +kernel)]; exact ⟨rfl, rfl⟩))
    (fun os started H enc _ => lifted os started H enc)
theorem proved : Rows.HeartNewsSaid := over
end HeartNewsN
end Go.Proofs.Ytiapcohnjklcfaa
