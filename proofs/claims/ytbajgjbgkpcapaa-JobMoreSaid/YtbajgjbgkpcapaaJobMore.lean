/- 'JobMore': whatever a bound and a row of events are, a job that may fall once more goes on where the other has failed, and else they go alike; what came in reads as it did. No conditions. -/
import Derived.Test.YtbajgjbgkpcapaaLawC
import Derived.Test.YtbajgjbgkpcapaaPost
namespace Go.Proofs.Ytbajgjbgkpcapaa
open Go Go.RowKit Go.WideShapes Go.ChangeShapes Go.ChangeAt Go.Joins
namespace JobMoreN
theorem ints_of {k : Nat} {xs : List Value} (hl : xs.length = k * 1) (h : ∀ i, i < k → ∃ z : Int, (xs.drop (i * 1)).take 1 = [.int .i64 z]) : ∃ zs : List Int, xs = zs.map (Value.int .i64) := by
  have h2 : ∀ i, i < xs.length → ∃ z : Int, xs[i]? = some (.int .i64 z) := fun i hi => by
    obtain ⟨z, hz⟩ := h i (by omega)
    refine ⟨z, ?_⟩
    have := congrArg (fun l => l[0]?) hz
    simpa [List.getElem?_take, List.getElem?_drop] using this
  clear h hl
  induction xs with
  | nil => exact ⟨[], rfl⟩
  | cons x r ih =>
    obtain ⟨z, hz⟩ := h2 0 (by simp)
    obtain ⟨zs, rfl⟩ := ih fun i hi => by simpa using h2 (i + 1) (by simpa using hi)
    simp only [List.getElem?_cons_zero, Option.some.injEq] at hz
    exact ⟨z :: zs, by rw [hz]; rfl⟩
set_option maxRecDepth 100000 in
theorem lifted (os : Os) (started : os.Started) (H : Type) (enc : TypeId × Value → H) :
    ReturnsInHanded {} Try.checked os 4 .any (Rows.jobMoreSpec.pre6 enc Try.prog Try.f4 Rows.jobMoreRow.domain false) (Rows.jobMoreSpec.post enc Try.prog Try.f4 false true false false) := by
  refine returnsInHanded_of_change (C := Try.checked) own started (by kernel_rfl) Try.func4
    (ChangeSpec.witness6 (enc := enc) (C := Try.checked) false ⟨#[], #[.int .i64 0, .slice none 0 0], []⟩ 8 (by kernel_rfl) (by kernel_rfl) (by kernel_rfl) (by kernel_rfl)) ?_
  intro W base args ds gs before hval0 hW hcnd _
  have hval : ∀ (j : Nat) t v, Try.f4.params[j]? = some t → args[j]? = some v → Value.okWide Try.prog W .any base t v := hval0
  have hW' := hW
  obtain ⟨p, q, hA0, hV, rfl, hfz, hnd⟩ := hW
  have hA : DataW.TrodAll enc Try.prog W 0 (fun _ => true) true Try.f4.params.toList args.toList ds p := hA0
  rw [Try.params4] at hA hval
  obtain ⟨v0, v1, d0, d1, p0, p1, rfl, rfl, rfl, h0, h1⟩ := trodAll_two hA
  obtain ⟨rfl, rfl⟩ := trodVars_none hV
  obtain ⟨n, rfl, rfl, rfl, wn⟩ := open_int Try.underlying3 (hval 0 3 v0 rfl rfl) h0
  obtain ⟨a, len, cap, rfl⟩ := okWide_slice Try.underlying30 (hval 1 30 v1 rfl rfl)
  have hc3 : Try.prog.cellsOf 3 = 1 := by kernel_rfl
  obtain ⟨v, k, xs, hv, hr, hk, he⟩ := (Rd.of h1).slice Try.underlying30 (by rw [hc3]; decide)
  obtain rfl : Value.slice a len cap = v := by simpa [Value.cells] using hv
  rw [hc3] at hr he
  obtain ⟨zs, rfl⟩ := ints_of hr.1 fun i hi => by
    obtain ⟨z, hz, _⟩ := (he i hi).int Try.underlying3
    exact ⟨z, hz⟩
  clear hA0 hval0
  refine (more_any n _ k zs W (bounds_i64 wn) rfl (by unfold maxLen at hk; omega) hr).mono fun e W' ⟨he, hb⟩ => ?_
  subst he
  exact ⟨_, rfl, law_post (t := 4) rfl (by rw [Try.params4]; decide +kernel) (by kernel_rfl) Try.underlying4 hW' hb rfl rfl rfl⟩
theorem over : Rows.jobMoreRow.holds Try.pinned (OpenSpec.ofChange Rows.jobMoreSpec) :=
  OpenClaim.holds_of_wide 4 Try.f4 rfl rfl rfl rfl rfl rfl rfl ⟨rfl, rfl, rfl, rfl, rfl⟩ rfl rfl rfl rfl rfl (by kernel_rfl) Try.func4 (by kernel_rfl)
    (of_decide_eq_true (by kernel_rfl)) (by unfold Func.isWrapper; first | (rw [if_pos (by decide +kernel)]; kernel_rfl) | (rw [if_neg (by decide +kernel)]; exact ⟨rfl, rfl⟩))
    (fun os started H enc _ => lifted os started H enc)
theorem proved : Rows.JobMoreSaid := over
end JobMoreN
end Go.Proofs.Ytbajgjbgkpcapaa
