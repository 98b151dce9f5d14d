/-
  No cell of these rows narrows 'for every input' (looked for: loops, veiled, ifaces, maps, wideKeys, modest, calm, conditions, laid).
  DERIVED. THE GIVEN ROWS OF THIS SEAT. 6 by the template 'for every input the law returns true; each argument reads behind the call as it read before'; 0 by the template 'total and deterministic' (their statements: YtcjiaiojkciheaaTotals.lean).
  GIVEN WITH THE SEED: the statements are not yours to turn. If you find one false, say at which input.
  Laid BY PROGRAM, IN A SANDBOX (cutbox-rows.mjs): the forced cells as the released guide's own fill.sh prints them over the translation 013b01442fcfc1c3… (all of the seat's roots in one cut). By AI agents, Wed Nov 11 2026. No macro, syntax, notation, axiom, sorry.
-/
import Derived.Test.YtcjiaiojkciheaaChecked
import GoSem.Claim
import GoSem.ClaimJoined
import GoSem.ClaimMapViews
import Derived.JoinedTies
import Derived.KernelRfl
namespace Go.Proofs.Ytcjiaiojkciheaa
/- THE CELL 'sum', in the pinned program and in every row, IS THE sha256 OF THE DUMP (.gsa) THAT YtcjiaiojkciheaaProg.lean LOADS. Nothing in Lean hashes anything: it is a label: what it is worth is what the hold of that sum in a sandbox is worth. -/
noncomputable def Try.pinned : Pinned := { name := "ytcjiaiojkciheaa", sum := "013b01442fcfc1c37f9341b976069de11086d3b55e4343a7986f908459952ae1", checked := Try.checked }
namespace Rows
def none {H : Type} : Left H := { results := [], args := [] }

/-- 'headracelaw09.PlanRoutes': WHATEVER THE INPUT: true; the input reads as it did. -/
def planRoutesSpec : ChangeSpec := { name := "planRoutes", fn := fun _ => fun
  | [d1, d2, d3] => { results := [.lit (.bool true)], args := [d1, d2, d3] }
  | _ => none }
def planRoutesRow : OpenClaim := { program := "ytcjiaiojkciheaa", sum := "013b01442fcfc1c37f9341b976069de11086d3b55e4343a7986f908459952ae1", func := "headrace/headracelaw09.PlanRoutes", spec := "planRoutes", unfollowed := true, recurses := true, apart := false }
def PlanRoutesSaid : Prop := planRoutesRow.holds Try.pinned (OpenSpec.ofChange planRoutesSpec)

/-- ITS FALSE NEIGHBOUR: 'it returns false'. Refute it at one input. -/
def planRoutesWrong : ChangeSpec := { name := "planRoutes", fn := fun _ => fun
  | [d1, d2, d3] => { results := [.lit (.bool false)], args := [d1, d2, d3] }
  | _ => none }
def PlanRoutesWrongFalsely : Prop := planRoutesRow.holds Try.pinned (OpenSpec.ofChange planRoutesWrong)

/-- 'headracelaw09.PlanWhole': WHATEVER THE INPUT: true; the input reads as it did. -/
def planWholeSpec : ChangeSpec := { name := "planWhole", fn := fun _ => fun
  | [d] => { results := [.lit (.bool true)], args := [d] }
  | _ => none }
def planWholeRow : OpenClaim := { program := "ytcjiaiojkciheaa", sum := "013b01442fcfc1c37f9341b976069de11086d3b55e4343a7986f908459952ae1", func := "headrace/headracelaw09.PlanWhole", spec := "planWhole", unfollowed := true, recurses := true, apart := false }
def PlanWholeSaid : Prop := planWholeRow.holds Try.pinned (OpenSpec.ofChange planWholeSpec)

/-- ITS FALSE NEIGHBOUR: 'it returns false'. Refute it at one input. -/
def planWholeWrong : ChangeSpec := { name := "planWhole", fn := fun _ => fun
  | [d] => { results := [.lit (.bool false)], args := [d] }
  | _ => none }
def PlanWholeWrongFalsely : Prop := planWholeRow.holds Try.pinned (OpenSpec.ofChange planWholeWrong)

/-- 'headracelaw09.PlanParts': WHATEVER THE INPUT: true; the input reads as it did. -/
def planPartsSpec : ChangeSpec := { name := "planParts", fn := fun _ => fun
  | [d1, d2] => { results := [.lit (.bool true)], args := [d1, d2] }
  | _ => none }
def planPartsRow : OpenClaim := { program := "ytcjiaiojkciheaa", sum := "013b01442fcfc1c37f9341b976069de11086d3b55e4343a7986f908459952ae1", func := "headrace/headracelaw09.PlanParts", spec := "planParts", unfollowed := true, recurses := true, apart := false }
def PlanPartsSaid : Prop := planPartsRow.holds Try.pinned (OpenSpec.ofChange planPartsSpec)

/-- ITS FALSE NEIGHBOUR: 'it returns false'. Refute it at one input. -/
def planPartsWrong : ChangeSpec := { name := "planParts", fn := fun _ => fun
  | [d1, d2] => { results := [.lit (.bool false)], args := [d1, d2] }
  | _ => none }
def PlanPartsWrongFalsely : Prop := planPartsRow.holds Try.pinned (OpenSpec.ofChange planPartsWrong)

/-- 'headracelaw09.PlanEnds': WHATEVER THE INPUT: true; the input reads as it did. -/
def planEndsSpec : ChangeSpec := { name := "planEnds", fn := fun _ => fun
  | [d1, d2] => { results := [.lit (.bool true)], args := [d1, d2] }
  | _ => none }
def planEndsRow : OpenClaim := { program := "ytcjiaiojkciheaa", sum := "013b01442fcfc1c37f9341b976069de11086d3b55e4343a7986f908459952ae1", func := "headrace/headracelaw09.PlanEnds", spec := "planEnds", unfollowed := true, recurses := true, apart := false }
def PlanEndsSaid : Prop := planEndsRow.holds Try.pinned (OpenSpec.ofChange planEndsSpec)

/-- ITS FALSE NEIGHBOUR: 'it returns false'. Refute it at one input. -/
def planEndsWrong : ChangeSpec := { name := "planEnds", fn := fun _ => fun
  | [d1, d2] => { results := [.lit (.bool false)], args := [d1, d2] }
  | _ => none }
def PlanEndsWrongFalsely : Prop := planEndsRow.holds Try.pinned (OpenSpec.ofChange planEndsWrong)

/-- 'headracelaw09.PlanOne': WHATEVER THE INPUT: true; the input reads as it did. -/
def planOneSpec : ChangeSpec := { name := "planOne", fn := fun _ => fun
  | [d1, d2] => { results := [.lit (.bool true)], args := [d1, d2] }
  | _ => none }
def planOneRow : OpenClaim := { program := "ytcjiaiojkciheaa", sum := "013b01442fcfc1c37f9341b976069de11086d3b55e4343a7986f908459952ae1", func := "headrace/headracelaw09.PlanOne", spec := "planOne", unfollowed := true, recurses := true, apart := false }
def PlanOneSaid : Prop := planOneRow.holds Try.pinned (OpenSpec.ofChange planOneSpec)

/-- ITS FALSE NEIGHBOUR: 'it returns false'. Refute it at one input. -/
def planOneWrong : ChangeSpec := { name := "planOne", fn := fun _ => fun
  | [d1, d2] => { results := [.lit (.bool false)], args := [d1, d2] }
  | _ => none }
def PlanOneWrongFalsely : Prop := planOneRow.holds Try.pinned (OpenSpec.ofChange planOneWrong)

/-- 'headracelaw09.PlanGroups': WHATEVER THE INPUT: true; the input reads as it did. -/
def planGroupsSpec : ChangeSpec := { name := "planGroups", fn := fun _ => fun
  | [d1, d2] => { results := [.lit (.bool true)], args := [d1, d2] }
  | _ => none }
def planGroupsRow : OpenClaim := { program := "ytcjiaiojkciheaa", sum := "013b01442fcfc1c37f9341b976069de11086d3b55e4343a7986f908459952ae1", func := "headrace/headracelaw09.PlanGroups", spec := "planGroups", unfollowed := true, recurses := true, apart := false }
def PlanGroupsSaid : Prop := planGroupsRow.holds Try.pinned (OpenSpec.ofChange planGroupsSpec)

/-- ITS FALSE NEIGHBOUR: 'it returns false'. Refute it at one input. -/
def planGroupsWrong : ChangeSpec := { name := "planGroups", fn := fun _ => fun
  | [d1, d2] => { results := [.lit (.bool false)], args := [d1, d2] }
  | _ => none }
def PlanGroupsWrongFalsely : Prop := planGroupsRow.holds Try.pinned (OpenSpec.ofChange planGroupsWrong)

/- THE SECOND FORM. 'bulk': how many values and letters a reading holds, each counted each time it is reached (what is shared counts as often as it is met; a slice's spare places count too). A statement '..UptoSaid' is the law's where the arguments, and the package variables that the reading takes, are together of bulk at most 1048576: NARROWER than '..Said'. Prove '..Said' where nothing that the law and all that it calls make is longer than what came in: it says more and counts as full. Else prove '..UptoSaid'. A law counts once. -/
mutual
def uptoBulk {H : Type} : DataW H → Nat
  | .lit (.string bytes) => bytes.length + 1
  | .lit _ => 1
  | .nil => 1
  | .ptr d => uptoBulk d + 1
  | .slice elems spare => uptoBulkAll elems + uptoBulkAll spare + 1
  | .agg parts => uptoBulkAll parts + 1
  | .iface _ d => uptoBulk d + 1
  | .map entries => uptoBulkEntries entries + 1
  | .held _ => 1
def uptoBulkAll {H : Type} : List (DataW H) → Nat
  | [] => 0
  | d :: r => uptoBulk d + uptoBulkAll r
def uptoBulkEntries {H : Type} : List (Lit × DataW H) → Nat
  | [] => 0
  | x :: r => uptoBulkEntry x + uptoBulkEntries r
def uptoBulkEntry {H : Type} : Lit × DataW H → Nat
  | (.string bytes, d) => bytes.length + uptoBulk d + 1
  | (_, d) => uptoBulk d + 1
 end
def uptoSmall : (H : Type) → List (DataW H) → Bool := fun _ ds => decide (uptoBulkAll ds ≤ 1048576)
def OpenSpec.upto (s : _root_.Go.ChangeSpec) : _root_.Go.OpenSpec := { _root_.Go.OpenSpec.ofChange s with cond := some uptoSmall }

/-- 'headracelaw09.PlanRoutes', WHERE WHAT IT READS IS OF BULK AT MOST 1048576: true; the input reads as it did. -/
def planRoutesUptoRow : OpenClaim := { program := "ytcjiaiojkciheaa", sum := "013b01442fcfc1c37f9341b976069de11086d3b55e4343a7986f908459952ae1", func := "headrace/headracelaw09.PlanRoutes", spec := "planRoutes", unfollowed := true, recurses := true, apart := false, narrowed := true }
def PlanRoutesUptoSaid : Prop := planRoutesUptoRow.holds Try.pinned (OpenSpec.upto planRoutesSpec)

/-- 'headracelaw09.PlanWhole', WHERE WHAT IT READS IS OF BULK AT MOST 1048576: true; the input reads as it did. -/
def planWholeUptoRow : OpenClaim := { program := "ytcjiaiojkciheaa", sum := "013b01442fcfc1c37f9341b976069de11086d3b55e4343a7986f908459952ae1", func := "headrace/headracelaw09.PlanWhole", spec := "planWhole", unfollowed := true, recurses := true, apart := false, narrowed := true }
def PlanWholeUptoSaid : Prop := planWholeUptoRow.holds Try.pinned (OpenSpec.upto planWholeSpec)

/-- 'headracelaw09.PlanParts', WHERE WHAT IT READS IS OF BULK AT MOST 1048576: true; the input reads as it did. -/
def planPartsUptoRow : OpenClaim := { program := "ytcjiaiojkciheaa", sum := "013b01442fcfc1c37f9341b976069de11086d3b55e4343a7986f908459952ae1", func := "headrace/headracelaw09.PlanParts", spec := "planParts", unfollowed := true, recurses := true, apart := false, narrowed := true }
def PlanPartsUptoSaid : Prop := planPartsUptoRow.holds Try.pinned (OpenSpec.upto planPartsSpec)

/-- 'headracelaw09.PlanEnds', WHERE WHAT IT READS IS OF BULK AT MOST 1048576: true; the input reads as it did. -/
def planEndsUptoRow : OpenClaim := { program := "ytcjiaiojkciheaa", sum := "013b01442fcfc1c37f9341b976069de11086d3b55e4343a7986f908459952ae1", func := "headrace/headracelaw09.PlanEnds", spec := "planEnds", unfollowed := true, recurses := true, apart := false, narrowed := true }
def PlanEndsUptoSaid : Prop := planEndsUptoRow.holds Try.pinned (OpenSpec.upto planEndsSpec)

/-- 'headracelaw09.PlanOne', WHERE WHAT IT READS IS OF BULK AT MOST 1048576: true; the input reads as it did. -/
def planOneUptoRow : OpenClaim := { program := "ytcjiaiojkciheaa", sum := "013b01442fcfc1c37f9341b976069de11086d3b55e4343a7986f908459952ae1", func := "headrace/headracelaw09.PlanOne", spec := "planOne", unfollowed := true, recurses := true, apart := false, narrowed := true }
def PlanOneUptoSaid : Prop := planOneUptoRow.holds Try.pinned (OpenSpec.upto planOneSpec)

/-- 'headracelaw09.PlanGroups', WHERE WHAT IT READS IS OF BULK AT MOST 1048576: true; the input reads as it did. -/
def planGroupsUptoRow : OpenClaim := { program := "ytcjiaiojkciheaa", sum := "013b01442fcfc1c37f9341b976069de11086d3b55e4343a7986f908459952ae1", func := "headrace/headracelaw09.PlanGroups", spec := "planGroups", unfollowed := true, recurses := true, apart := false, narrowed := true }
def PlanGroupsUptoSaid : Prop := planGroupsUptoRow.holds Try.pinned (OpenSpec.upto planGroupsSpec)

end Rows
end Go.Proofs.Ytcjiaiojkciheaa
