/- 'FrameReads': whatever bytes and message come in, bytes that are taken are the document's of the message that is told, others are none; cut short too; what came in reads as it did. No conditions. -/
import Derived.Test.YtgkkpefpbfadoaaGreatDk42
import Derived.Test.YtgkkpefpbfadoaaGreatDk50
import Derived.Test.YtgkkpefpbfadoaaGreatDk41
namespace Go.Proofs.YtgkkpefpbfadoaaGreat
open Go Go.RowKit Go.WideShapes Go.ChangeShapes Go.ChangeAt Go.Joins
open Sy (XD)
namespace FrameReadsN
set_option maxRecDepth 100000 in
theorem lifted (os : Os) (started : os.Started) (H : Type) (enc : TypeId × Value → H) :
  ReturnsInHanded {} Tryz.checked os 4 .any (Rows.frameReadsSpec.pre6 enc Tryz.prog Tryz.f4 Rows.frameReadsRow.domain false) (Rows.frameReadsSpec.post enc Tryz.prog Tryz.f4 false true false false) := by
 refine returnsInHanded_of_change (C := Tryz.checked) own started (by kernel_rfl) Tryz.func4
  (ChangeSpec.witness6 (enc := enc) (C := Tryz.checked) false ⟨#[], #[.slice none 0 0, .agg #[.int .i64 0, .int .i64 0, .int .i64 0, .int .u64 0, .int .i64 0, .int .i64 0, .int .u64 0, .slice none 0 0, .slice none 0 0, .slice none 0 0, .int .i64 0, .int .i64 0, .int .i64 0, .bool false, .slice none 0 0, .int .i64 0, .int .i64 0, .int .i64 0, .int .i64 0, .int .i64 0, .int .i64 0, .int .i64 0, .int .i64 0, .slice none 0 0, .slice none 0 0, .slice none 0 0, .slice none 0 0, .int .i64 0, .int .u32 0, .int .u64 0, .int .u64 0, .int .i64 0, .int .i64 0, .int .i64 0, .int .i64 0, .int .u64 0], .int .i64 0], []⟩ 8 (by kernel_rfl) (by kernel_rfl) (by kernel_rfl) (by kernel_rfl)) ?_
 intro W base args ds gs before hval0 hW hcnd _
 have hval : ∀ (j : Nat) t v, Tryz.f4.params[j]? = some t → args[j]? = some v → Value.okWide Tryz.prog W .any base t v := hval0
 have hW' := hW
 obtain ⟨p, q, hA0, hV, rfl, hfz, hnd⟩ := hW
 have hA : DataW.TrodAll enc Tryz.prog W 0 (fun _ => true) true Tryz.f4.params.toList args.toList ds p := hA0
 rw [Tryz.params4] at hA hval
 obtain ⟨v0, v1, v2, d0, d1, d2, p0, p1, p2, rfl, rfl, rfl, h0, h1, h2⟩ := trodAll_three hA
 obtain ⟨rfl, rfl⟩ := trodVars_none hV
 have o0 := hval 0 52 v0 rfl rfl
 have r0 := Rd.of h0
 have o1 := hval 1 49 v1 rfl rfl
 have r1 := Rd.of h1
 have o2 := hval 2 3 v2 rfl rfl
 have r2 := Rd.of h2
 clear hA0 hval0
 obtain ⟨a, len, cap, rfl⟩ := okWide_slice Tryz.underlying52 o0
 obtain ⟨u, l, hv, hb8, h8⟩ := open_bytes r0
 obtain rfl : Value.slice a len cap = u := by simpa [Value.cells] using hv
 obtain ⟨cs0, rfl, _⟩ := okWide_struct Tryz.underlying49 o1
 obtain ⟨m, hx0, hr, hm⟩ := open_msg r1
 obtain rfl := agg_msg hx0
 obtain ⟨n, rfl⟩ := okWide_int Tryz.underlying3 o2
 obtain ⟨n', hn', hn⟩ := Rd.i64 Tryz.underlying3 r2
 obtain rfl : n = n' := by simpa [Value.cells] using hn'
 refine (lreads_any m _ l n hn W hr hm.w hm.s hm.d hb8 h8).mono fun e W' ⟨he, hb⟩ => ?_
 subst he
 exact ⟨_, rfl, law_post (t := 4) rfl (by rw [Tryz.params4]; decide +kernel) (by kernel_rfl) Tryz.underlying4 hW' hb rfl rfl rfl⟩
theorem over : Rows.frameReadsRow.holds Tryz.pinned (OpenSpec.ofChange Rows.frameReadsSpec) :=
 OpenClaim.holds_of_wide 4 Tryz.f4 rfl rfl rfl rfl rfl rfl rfl ⟨rfl, rfl, rfl, rfl, rfl⟩ rfl rfl rfl rfl rfl (by kernel_rfl) Tryz.func4 (by kernel_rfl)
  (of_decide_eq_true (by kernel_rfl)) (by unfold Func.isWrapper; first | (rw [if_pos (by decide +kernel)]; kernel_rfl) | (rw [if_neg (by decide +kernel)]; exact ⟨rfl, rfl⟩))
  (fun os started H enc _ => lifted os started H enc)
theorem proved : Rows.FrameReadsSaid := over
end FrameReadsN
end Go.Proofs.YtgkkpefpbfadoaaGreat
