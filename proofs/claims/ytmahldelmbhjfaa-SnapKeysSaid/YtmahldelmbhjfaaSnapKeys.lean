/- 'SnapKeys': whatever row of snapshots, width and key come in, the key's cell and its group's offset are in the one part whose they are, as they were; what came in reads as it did. No conditions. -/
import Derived.Test.YtmahldelmbhjfaaSwK
import Derived.Test.YtmahldelmbhjfaaSnOpenE
import Derived.Test.YtmahldelmbhjfaaPost
import Derived.Test.YtmahldelmbhjfaaOpenY
namespace Go.Proofs.Ytmahldelmbhjfaa
open Go Go.RowKit Go.WideShapes Go.ChangeShapes Go.ChangeAt Go.Joins
open Sy (XD)
namespace SnapKeysN
set_option maxRecDepth 100000 in
theorem lifted (os : Os) (started : os.Started) (H : Type) (enc : TypeId × Value → H) :
    ReturnsInHanded {} Try.checked os 6 .any (Rows.snapKeysSpec.pre6 enc Try.prog Try.f6 Rows.snapKeysRow.domain false) (Rows.snapKeysSpec.post enc Try.prog Try.f6 false true false false) := by
  refine returnsInHanded_of_change (C := Try.checked) own started (by kernel_rfl) Try.func6
    (ChangeSpec.witness6 (enc := enc) (C := Try.checked) false ⟨#[], #[.slice none 0 0, .int .i64 0, .agg #[.int .i64 0, .int .i64 0, .int .i64 0]], []⟩ 8 (by kernel_rfl) (by kernel_rfl) (by kernel_rfl) (by kernel_rfl)) ?_
  intro W base args ds gs before hval0 hW hcnd _
  have hval : ∀ (j : Nat) t v, Try.f6.params[j]? = some t → args[j]? = some v → Value.okWide Try.prog W .any base t v := hval0
  have hW' := hW
  obtain ⟨p, q, hA0, hV, rfl, hfz, hnd⟩ := hW
  have hA : DataW.TrodAll enc Try.prog W 0 (fun _ => true) true Try.f6.params.toList args.toList ds p := hA0
  rw [Try.params6] at hA hval
  obtain ⟨v0, v1, v2, d0, d1, d2, p0, p1, p2, rfl, rfl, rfl, h0, h1, h2⟩ := trodAll_three hA
  obtain ⟨rfl, rfl⟩ := trodVars_none hV
  have o0 := hval 0 44 v0 rfl rfl
  have r0 := Rd.of h0
  have o1 := hval 1 3 v1 rfl rfl
  have r1 := Rd.of h1
  have o2 := hval 2 53 v2 rfl rfl
  have r2 := Rd.of h2
  clear hA0 hval0
  obtain ⟨a, len, cap, rfl⟩ := okWide_slice Try.underlying44 o0
  obtain ⟨u, ls, hx0, hs⟩ := open_snaps r0
  obtain rfl : Value.slice a len cap = u := by simpa [Value.cells] using hx0
  obtain ⟨x, rfl, _⟩ := okWide_int Try.underlying3 o1
  obtain ⟨cs0, rfl, _⟩ := okWide_struct Try.underlying53 o2
  obtain ⟨s, k, v, rfl⟩ := open_rec r2
  refine (lkeys_any _ x s k v ls W hs).mono fun e W' ⟨he, hb⟩ => ?_
  subst he
  exact ⟨_, rfl, law_post (t := 4) rfl (by rw [Try.params6]; decide +kernel) (by kernel_rfl) Try.underlying4 hW' hb rfl rfl rfl⟩
theorem over : Rows.snapKeysRow.holds Try.pinned (OpenSpec.ofChange Rows.snapKeysSpec) :=
  OpenClaim.holds_of_wide 6 Try.f6 rfl rfl rfl rfl rfl rfl rfl ⟨rfl, rfl, rfl, rfl, rfl⟩ rfl rfl rfl rfl rfl (by kernel_rfl) Try.func6 (by kernel_rfl)
    (of_decide_eq_true (by kernel_rfl)) (by unfold Func.isWrapper; first | (rw [if_pos (by decide +kernel)]; kernel_rfl) | (rw [if_neg (by decide +kernel)]; exact ⟨rfl, rfl⟩))
    (fun os started H enc _ => lifted os started H enc)
theorem proved : Rows.SnapKeysSaid := over
end SnapKeysN
end Go.Proofs.Ytmahldelmbhjfaa
