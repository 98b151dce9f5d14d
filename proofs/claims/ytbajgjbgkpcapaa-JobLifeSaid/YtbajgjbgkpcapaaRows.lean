/-
  No cell of these rows narrows 'for every input' (looked for: loops, veiled, ifaces, maps, wideKeys, modest, calm, conditions, laid).
  DERIVED. THE GIVEN ROWS OF THIS SEAT. 5 by the template 'for every input the law returns true; each argument reads behind the call as it read before'; 0 by the template 'total and deterministic' (their statements: YtbajgjbgkpcapaaTotals.lean).
  GIVEN WITH THE SEED: the statements are not yours to turn. If you find one false, say at which input.
  Laid BY PROGRAM, IN A SANDBOX (cutbox-rows.mjs): the forced cells as the released guide's own fill.sh prints them over the translation 3049fcf5f5646801… (all of the seat's roots in one cut). By AI agents, Wed Nov 11 2026. No macro, syntax, notation, axiom, sorry.
-/
import Derived.Test.YtbajgjbgkpcapaaChecked
import GoSem.Claim
import GoSem.ClaimJoined
import GoSem.ClaimMapViews
import Derived.JoinedTies
import Derived.KernelRfl
namespace Go.Proofs.Ytbajgjbgkpcapaa
/- THE CELL 'sum', in the pinned program and in every row, IS THE sha256 OF THE DUMP (.gsa) THAT YtbajgjbgkpcapaaProg.lean LOADS. Nothing in Lean hashes anything: it is a label: what it is worth is what the hold of that sum in a sandbox is worth. -/
noncomputable def Try.pinned : Pinned := { name := "ytbajgjbgkpcapaa", sum := "3049fcf5f5646801120ac55b93d55151f773307da96a172e363eebb40bd7df54", checked := Try.checked }
namespace Rows
def none {H : Type} : Left H := { results := [], args := [] }

/-- 'headracelaw25.JobDoes': WHATEVER THE INPUT: true; the input reads as it did. -/
def jobDoesSpec : ChangeSpec := { name := "jobDoes", fn := fun _ => fun
  | [d1, d2] => { results := [.lit (.bool true)], args := [d1, d2] }
  | _ => none }
def jobDoesRow : OpenClaim := { program := "ytbajgjbgkpcapaa", sum := "3049fcf5f5646801120ac55b93d55151f773307da96a172e363eebb40bd7df54", func := "headrace/headracelaw25.JobDoes", spec := "jobDoes", plainKeys := false, apart := false }
def JobDoesSaid : Prop := jobDoesRow.holds Try.pinned (OpenSpec.ofChange jobDoesSpec)

/-- ITS FALSE NEIGHBOUR: 'it returns false'. Refute it at one input. -/
def jobDoesWrong : ChangeSpec := { name := "jobDoes", fn := fun _ => fun
  | [d1, d2] => { results := [.lit (.bool false)], args := [d1, d2] }
  | _ => none }
def JobDoesWrongFalsely : Prop := jobDoesRow.holds Try.pinned (OpenSpec.ofChange jobDoesWrong)

/-- 'headracelaw25.JobMore': WHATEVER THE INPUT: true; the input reads as it did. -/
def jobMoreSpec : ChangeSpec := { name := "jobMore", fn := fun _ => fun
  | [d1, d2] => { results := [.lit (.bool true)], args := [d1, d2] }
  | _ => none }
def jobMoreRow : OpenClaim := { program := "ytbajgjbgkpcapaa", sum := "3049fcf5f5646801120ac55b93d55151f773307da96a172e363eebb40bd7df54", func := "headrace/headracelaw25.JobMore", spec := "jobMore", plainKeys := false, apart := false }
def JobMoreSaid : Prop := jobMoreRow.holds Try.pinned (OpenSpec.ofChange jobMoreSpec)

/-- ITS FALSE NEIGHBOUR: 'it returns false'. Refute it at one input. -/
def jobMoreWrong : ChangeSpec := { name := "jobMore", fn := fun _ => fun
  | [d1, d2] => { results := [.lit (.bool false)], args := [d1, d2] }
  | _ => none }
def JobMoreWrongFalsely : Prop := jobMoreRow.holds Try.pinned (OpenSpec.ofChange jobMoreWrong)

/-- 'headracelaw25.JobTells': WHATEVER THE INPUT: true; the input reads as it did. -/
def jobTellsSpec : ChangeSpec := { name := "jobTells", fn := fun _ => fun
  | [d1, d2] => { results := [.lit (.bool true)], args := [d1, d2] }
  | _ => none }
def jobTellsRow : OpenClaim := { program := "ytbajgjbgkpcapaa", sum := "3049fcf5f5646801120ac55b93d55151f773307da96a172e363eebb40bd7df54", func := "headrace/headracelaw25.JobTells", spec := "jobTells", plainKeys := false, apart := false }
def JobTellsSaid : Prop := jobTellsRow.holds Try.pinned (OpenSpec.ofChange jobTellsSpec)

/-- ITS FALSE NEIGHBOUR: 'it returns false'. Refute it at one input. -/
def jobTellsWrong : ChangeSpec := { name := "jobTells", fn := fun _ => fun
  | [d1, d2] => { results := [.lit (.bool false)], args := [d1, d2] }
  | _ => none }
def JobTellsWrongFalsely : Prop := jobTellsRow.holds Try.pinned (OpenSpec.ofChange jobTellsWrong)

/-- 'headracelaw25.JobReaches': WHATEVER THE INPUT: true; the input reads as it did. -/
def jobReachesSpec : ChangeSpec := { name := "jobReaches", fn := fun _ => fun
  | [d] => { results := [.lit (.bool true)], args := [d] }
  | _ => none }
def jobReachesRow : OpenClaim := { program := "ytbajgjbgkpcapaa", sum := "3049fcf5f5646801120ac55b93d55151f773307da96a172e363eebb40bd7df54", func := "headrace/headracelaw25.JobReaches", spec := "jobReaches", recurses := true, plainKeys := false, apart := false }
def JobReachesSaid : Prop := jobReachesRow.holds Try.pinned (OpenSpec.ofChange jobReachesSpec)

/-- ITS FALSE NEIGHBOUR: 'it returns false'. Refute it at one input. -/
def jobReachesWrong : ChangeSpec := { name := "jobReaches", fn := fun _ => fun
  | [d] => { results := [.lit (.bool false)], args := [d] }
  | _ => none }
def JobReachesWrongFalsely : Prop := jobReachesRow.holds Try.pinned (OpenSpec.ofChange jobReachesWrong)

/-- 'headracelaw25.JobLife': WHATEVER THE INPUT: true; the input reads as it did. -/
def jobLifeSpec : ChangeSpec := { name := "jobLife", fn := fun _ => fun
  | [d1, d2] => { results := [.lit (.bool true)], args := [d1, d2] }
  | _ => none }
def jobLifeRow : OpenClaim := { program := "ytbajgjbgkpcapaa", sum := "3049fcf5f5646801120ac55b93d55151f773307da96a172e363eebb40bd7df54", func := "headrace/headracelaw25.JobLife", spec := "jobLife", recurses := true, plainKeys := false, apart := false }
def JobLifeSaid : Prop := jobLifeRow.holds Try.pinned (OpenSpec.ofChange jobLifeSpec)

/-- ITS FALSE NEIGHBOUR: 'it returns false'. Refute it at one input. -/
def jobLifeWrong : ChangeSpec := { name := "jobLife", fn := fun _ => fun
  | [d1, d2] => { results := [.lit (.bool false)], args := [d1, d2] }
  | _ => none }
def JobLifeWrongFalsely : Prop := jobLifeRow.holds Try.pinned (OpenSpec.ofChange jobLifeWrong)

/- THE SECOND FORM. 'bulk': how many values and letters a reading holds, each counted each time it is reached (what is shared counts as often as it is met; a slice's spare places count too). A statement '..UptoSaid' is the law's where the arguments, and the package variables that the reading takes, are together of bulk at most 1048576: NARROWER than '..Said'. Prove '..Said' where nothing that the law and all that it calls make is longer than what came in: it says more and counts as full. Else prove '..UptoSaid'. A law counts once. -/
mutual
def uptoBulk {H : Type} : DataW H → Nat
  | .lit (.string bytes) => bytes.length + 1
  | .lit _ => 1
  | .nil => 1
  | .ptr d => uptoBulk d + 1
  | .slice elems spare => uptoBulkAll elems + uptoBulkAll spare + 1
  | .agg parts => uptoBulkAll parts + 1
  | .iface _ d => uptoBulk d + 1
  | .map entries => uptoBulkEntries entries + 1
  | .held _ => 1
def uptoBulkAll {H : Type} : List (DataW H) → Nat
  | [] => 0
  | d :: r => uptoBulk d + uptoBulkAll r
def uptoBulkEntries {H : Type} : List (Lit × DataW H) → Nat
  | [] => 0
  | x :: r => uptoBulkEntry x + uptoBulkEntries r
def uptoBulkEntry {H : Type} : Lit × DataW H → Nat
  | (.string bytes, d) => bytes.length + uptoBulk d + 1
  | (_, d) => uptoBulk d + 1
 end
def uptoSmall : (H : Type) → List (DataW H) → Bool := fun _ ds => decide (uptoBulkAll ds ≤ 1048576)
def OpenSpec.upto (s : _root_.Go.ChangeSpec) : _root_.Go.OpenSpec := { _root_.Go.OpenSpec.ofChange s with cond := some uptoSmall }

/-- 'headracelaw25.JobDoes', WHERE WHAT IT READS IS OF BULK AT MOST 1048576: true; the input reads as it did. -/
def jobDoesUptoRow : OpenClaim := { program := "ytbajgjbgkpcapaa", sum := "3049fcf5f5646801120ac55b93d55151f773307da96a172e363eebb40bd7df54", func := "headrace/headracelaw25.JobDoes", spec := "jobDoes", plainKeys := false, apart := false, narrowed := true }
def JobDoesUptoSaid : Prop := jobDoesUptoRow.holds Try.pinned (OpenSpec.upto jobDoesSpec)

/-- 'headracelaw25.JobMore', WHERE WHAT IT READS IS OF BULK AT MOST 1048576: true; the input reads as it did. -/
def jobMoreUptoRow : OpenClaim := { program := "ytbajgjbgkpcapaa", sum := "3049fcf5f5646801120ac55b93d55151f773307da96a172e363eebb40bd7df54", func := "headrace/headracelaw25.JobMore", spec := "jobMore", plainKeys := false, apart := false, narrowed := true }
def JobMoreUptoSaid : Prop := jobMoreUptoRow.holds Try.pinned (OpenSpec.upto jobMoreSpec)

/-- 'headracelaw25.JobTells', WHERE WHAT IT READS IS OF BULK AT MOST 1048576: true; the input reads as it did. -/
def jobTellsUptoRow : OpenClaim := { program := "ytbajgjbgkpcapaa", sum := "3049fcf5f5646801120ac55b93d55151f773307da96a172e363eebb40bd7df54", func := "headrace/headracelaw25.JobTells", spec := "jobTells", plainKeys := false, apart := false, narrowed := true }
def JobTellsUptoSaid : Prop := jobTellsUptoRow.holds Try.pinned (OpenSpec.upto jobTellsSpec)

/-- 'headracelaw25.JobReaches', WHERE WHAT IT READS IS OF BULK AT MOST 1048576: true; the input reads as it did. -/
def jobReachesUptoRow : OpenClaim := { program := "ytbajgjbgkpcapaa", sum := "3049fcf5f5646801120ac55b93d55151f773307da96a172e363eebb40bd7df54", func := "headrace/headracelaw25.JobReaches", spec := "jobReaches", recurses := true, plainKeys := false, apart := false, narrowed := true }
def JobReachesUptoSaid : Prop := jobReachesUptoRow.holds Try.pinned (OpenSpec.upto jobReachesSpec)

/-- 'headracelaw25.JobLife', WHERE WHAT IT READS IS OF BULK AT MOST 1048576: true; the input reads as it did. -/
def jobLifeUptoRow : OpenClaim := { program := "ytbajgjbgkpcapaa", sum := "3049fcf5f5646801120ac55b93d55151f773307da96a172e363eebb40bd7df54", func := "headrace/headracelaw25.JobLife", spec := "jobLife", recurses := true, plainKeys := false, apart := false, narrowed := true }
def JobLifeUptoSaid : Prop := jobLifeUptoRow.holds Try.pinned (OpenSpec.upto jobLifeSpec)

end Rows
end Go.Proofs.Ytbajgjbgkpcapaa
