/- 'SnapTells': whatever graph and row of snapshots come in, which snapshots may be, fit the graph and are the same is as the document says; what came in reads as it did. No conditions. -/
import Derived.Test.YtmahldelmbhjfaaGreatZD
import Derived.Test.YtmahldelmbhjfaaGreatGOpenT
import Derived.Test.YtmahldelmbhjfaaGreatSnOpenC
import Derived.Test.YtmahldelmbhjfaaGreatPost
import Derived.Test.YtmahldelmbhjfaaGreatOpenY
namespace Go.Proofs.YtmahldelmbhjfaaGreat
open Go Go.RowKit Go.WideShapes Go.ChangeShapes Go.ChangeAt Go.Joins
open Sy (XD)
namespace SnapTellsN
set_option maxRecDepth 100000 in
theorem lifted (os : Os) (started : os.Started) (H : Type) (enc : TypeId × Value → H) :
    ReturnsInHanded {} Tryz.checked os 3 .any (Rows.snapTellsSpec.pre6 enc Tryz.prog Tryz.f3 Rows.snapTellsRow.domain false) (Rows.snapTellsSpec.post enc Tryz.prog Tryz.f3 false true false false) := by
  refine returnsInHanded_of_change (C := Tryz.checked) own started (by kernel_rfl) Tryz.func3
    (ChangeSpec.witness6 (enc := enc) (C := Tryz.checked) false ⟨#[], #[.agg #[.slice none 0 0], .slice none 0 0], []⟩ 8 (by kernel_rfl) (by kernel_rfl) (by kernel_rfl) (by kernel_rfl)) ?_
  intro W base args ds gs before hval0 hW hcnd _
  have hval : ∀ (j : Nat) t v, Tryz.f3.params[j]? = some t → args[j]? = some v → Value.okWide Tryz.prog W .any base t v := hval0
  have hW' := hW
  obtain ⟨p, q, hA0, hV, rfl, hfz, hnd⟩ := hW
  have hA : DataW.TrodAll enc Tryz.prog W 0 (fun _ => true) true Tryz.f3.params.toList args.toList ds p := hA0
  rw [Tryz.params3] at hA hval
  obtain ⟨v0, v1, d0, d1, p0, p1, rfl, rfl, rfl, h0, h1⟩ := trodAll_two hA
  obtain ⟨rfl, rfl⟩ := trodVars_none hV
  have o0 := hval 0 24 v0 rfl rfl
  have r0 := Rd.of h0
  have o1 := hval 1 25 v1 rfl rfl
  have r1 := Rd.of h1
  clear hA0 hval0
  obtain ⟨cs0, rfl, _⟩ := okWide_struct Tryz.underlying24 o0
  obtain ⟨gv, gl, hx0, hg⟩ := open_graph r0
  obtain rfl := agg_graph hx0
  obtain ⟨a2, len2, cap2, rfl⟩ := okWide_slice Tryz.underlying25 o1
  obtain ⟨u2, ls, hx1, hs⟩ := Sn.open_snaps r1
  obtain rfl : Value.slice a2 len2 cap2 = u2 := by simpa [Value.cells] using hx1
  refine (Sn.ltells_any _ _ gl ls W hg.one hg hs).mono fun e W' ⟨he, hb⟩ => ?_
  subst he
  exact ⟨_, rfl, law_post (t := 4) rfl (by rw [Tryz.params3]; decide +kernel) (by kernel_rfl) Tryz.underlying4 hW' hb rfl rfl rfl⟩
theorem over : Rows.snapTellsRow.holds Tryz.pinned (OpenSpec.ofChange Rows.snapTellsSpec) :=
  OpenClaim.holds_of_wide 3 Tryz.f3 rfl rfl rfl rfl rfl rfl rfl ⟨rfl, rfl, rfl, rfl, rfl⟩ rfl rfl rfl rfl rfl (by kernel_rfl) Tryz.func3 (by kernel_rfl)
    (of_decide_eq_true (by kernel_rfl)) (by unfold Func.isWrapper; first | (rw [if_pos (by decide +kernel)]; kernel_rfl) | (rw [if_neg (by decide +kernel)]; exact ⟨rfl, rfl⟩))
    (fun os started H enc _ => lifted os started H enc)
theorem proved : Rows.SnapTellsSaid := over
end SnapTellsN
end Go.Proofs.YtmahldelmbhjfaaGreat
