/-
  No cell of these rows narrows 'for every input' (looked for: loops, veiled, ifaces, maps, wideKeys, modest, calm, conditions, laid).
  DERIVED. THE GIVEN ROWS OF THIS SEAT. 8 by the template 'for every input the law returns true; each argument reads behind the call as it read before'; 0 by the template 'total and deterministic' (their statements: YthmcknchkecciaaTotals.lean).
  GIVEN WITH THE SEED: the statements are not yours to turn. If you find one false, say at which input.
  Laid BY PROGRAM, IN A SANDBOX (cutbox-rows.mjs): the forced cells as the released guide's own fill.sh prints them over the translation f9ae5af716012d5e… (all of the seat's roots in one cut). By AI agents, Wed Nov 11 2026. No macro, syntax, notation, axiom, sorry.
-/
import Derived.Test.YthmcknchkecciaaChecked
import GoSem.Claim
import GoSem.ClaimJoined
import GoSem.ClaimMapViews
import Derived.JoinedTies
import Derived.KernelRfl
namespace Go.Proofs.Ythmcknchkecciaa
/- THE CELL 'sum', in the pinned program and in every row, IS THE sha256 OF THE DUMP (.gsa) THAT YthmcknchkecciaaProg.lean LOADS. Nothing in Lean hashes anything: it is a label: what it is worth is what the hold of that sum in a sandbox is worth. -/
noncomputable def Try.pinned : Pinned := { name := "ythmcknchkecciaa", sum := "f9ae5af716012d5e5783a514f7aa83ad0f18a6c95d69d55a9a20930bdeb81450", checked := Try.checked }
namespace Rows
def none {H : Type} : Left H := { results := [], args := [] }

/-- 'headracelaw10.RegionAll': WHATEVER THE INPUT: true; the input reads as it did. -/
def regionAllSpec : ChangeSpec := { name := "regionAll", fn := fun _ => fun
  | [d] => { results := [.lit (.bool true)], args := [d] }
  | _ => none }
def regionAllRow : OpenClaim := { program := "ythmcknchkecciaa", sum := "f9ae5af716012d5e5783a514f7aa83ad0f18a6c95d69d55a9a20930bdeb81450", func := "headrace/headracelaw10.RegionAll", spec := "regionAll", unfollowed := true, recurses := true, apart := false }
def RegionAllSaid : Prop := regionAllRow.holds Try.pinned (OpenSpec.ofChange regionAllSpec)

/-- ITS FALSE NEIGHBOUR: 'it returns false'. Refute it at one input. -/
def regionAllWrong : ChangeSpec := { name := "regionAll", fn := fun _ => fun
  | [d] => { results := [.lit (.bool false)], args := [d] }
  | _ => none }
def RegionAllWrongFalsely : Prop := regionAllRow.holds Try.pinned (OpenSpec.ofChange regionAllWrong)

/-- 'headracelaw10.RegionAnew': WHATEVER THE INPUT: true; the input reads as it did. -/
def regionAnewSpec : ChangeSpec := { name := "regionAnew", fn := fun _ => fun
  | [d1, d2] => { results := [.lit (.bool true)], args := [d1, d2] }
  | _ => none }
def regionAnewRow : OpenClaim := { program := "ythmcknchkecciaa", sum := "f9ae5af716012d5e5783a514f7aa83ad0f18a6c95d69d55a9a20930bdeb81450", func := "headrace/headracelaw10.RegionAnew", spec := "regionAnew", unfollowed := true, recurses := true, apart := false }
def RegionAnewSaid : Prop := regionAnewRow.holds Try.pinned (OpenSpec.ofChange regionAnewSpec)

/-- ITS FALSE NEIGHBOUR: 'it returns false'. Refute it at one input. -/
def regionAnewWrong : ChangeSpec := { name := "regionAnew", fn := fun _ => fun
  | [d1, d2] => { results := [.lit (.bool false)], args := [d1, d2] }
  | _ => none }
def RegionAnewWrongFalsely : Prop := regionAnewRow.holds Try.pinned (OpenSpec.ofChange regionAnewWrong)

/-- 'headracelaw10.RegionNumbers': WHATEVER THE INPUT: true; the input reads as it did. -/
def regionNumbersSpec : ChangeSpec := { name := "regionNumbers", fn := fun _ => fun
  | [d] => { results := [.lit (.bool true)], args := [d] }
  | _ => none }
def regionNumbersRow : OpenClaim := { program := "ythmcknchkecciaa", sum := "f9ae5af716012d5e5783a514f7aa83ad0f18a6c95d69d55a9a20930bdeb81450", func := "headrace/headracelaw10.RegionNumbers", spec := "regionNumbers", unfollowed := true, recurses := true, apart := false }
def RegionNumbersSaid : Prop := regionNumbersRow.holds Try.pinned (OpenSpec.ofChange regionNumbersSpec)

/-- ITS FALSE NEIGHBOUR: 'it returns false'. Refute it at one input. -/
def regionNumbersWrong : ChangeSpec := { name := "regionNumbers", fn := fun _ => fun
  | [d] => { results := [.lit (.bool false)], args := [d] }
  | _ => none }
def RegionNumbersWrongFalsely : Prop := regionNumbersRow.holds Try.pinned (OpenSpec.ofChange regionNumbersWrong)

/-- 'headracelaw10.RegionAgain': WHATEVER THE INPUT: true; the input reads as it did. -/
def regionAgainSpec : ChangeSpec := { name := "regionAgain", fn := fun _ => fun
  | [d1, d2, d3] => { results := [.lit (.bool true)], args := [d1, d2, d3] }
  | _ => none }
def regionAgainRow : OpenClaim := { program := "ythmcknchkecciaa", sum := "f9ae5af716012d5e5783a514f7aa83ad0f18a6c95d69d55a9a20930bdeb81450", func := "headrace/headracelaw10.RegionAgain", spec := "regionAgain", unfollowed := true, recurses := true, apart := false }
def RegionAgainSaid : Prop := regionAgainRow.holds Try.pinned (OpenSpec.ofChange regionAgainSpec)

/-- ITS FALSE NEIGHBOUR: 'it returns false'. Refute it at one input. -/
def regionAgainWrong : ChangeSpec := { name := "regionAgain", fn := fun _ => fun
  | [d1, d2, d3] => { results := [.lit (.bool false)], args := [d1, d2, d3] }
  | _ => none }
def RegionAgainWrongFalsely : Prop := regionAgainRow.holds Try.pinned (OpenSpec.ofChange regionAgainWrong)

/-- 'headracelaw10.RegionTells': WHATEVER THE INPUT: true; the input reads as it did. -/
def regionTellsSpec : ChangeSpec := { name := "regionTells", fn := fun _ => fun
  | [d1, d2] => { results := [.lit (.bool true)], args := [d1, d2] }
  | _ => none }
def regionTellsRow : OpenClaim := { program := "ythmcknchkecciaa", sum := "f9ae5af716012d5e5783a514f7aa83ad0f18a6c95d69d55a9a20930bdeb81450", func := "headrace/headracelaw10.RegionTells", spec := "regionTells", unfollowed := true, recurses := true, apart := false }
def RegionTellsSaid : Prop := regionTellsRow.holds Try.pinned (OpenSpec.ofChange regionTellsSpec)

/-- ITS FALSE NEIGHBOUR: 'it returns false'. Refute it at one input. -/
def regionTellsWrong : ChangeSpec := { name := "regionTells", fn := fun _ => fun
  | [d1, d2] => { results := [.lit (.bool false)], args := [d1, d2] }
  | _ => none }
def RegionTellsWrongFalsely : Prop := regionTellsRow.holds Try.pinned (OpenSpec.ofChange regionTellsWrong)

/-- 'headracelaw10.RegionParts': WHATEVER THE INPUT: true; the input reads as it did. -/
def regionPartsSpec : ChangeSpec := { name := "regionParts", fn := fun _ => fun
  | [d] => { results := [.lit (.bool true)], args := [d] }
  | _ => none }
def regionPartsRow : OpenClaim := { program := "ythmcknchkecciaa", sum := "f9ae5af716012d5e5783a514f7aa83ad0f18a6c95d69d55a9a20930bdeb81450", func := "headrace/headracelaw10.RegionParts", spec := "regionParts", unfollowed := true, recurses := true, apart := false }
def RegionPartsSaid : Prop := regionPartsRow.holds Try.pinned (OpenSpec.ofChange regionPartsSpec)

/-- ITS FALSE NEIGHBOUR: 'it returns false'. Refute it at one input. -/
def regionPartsWrong : ChangeSpec := { name := "regionParts", fn := fun _ => fun
  | [d] => { results := [.lit (.bool false)], args := [d] }
  | _ => none }
def RegionPartsWrongFalsely : Prop := regionPartsRow.holds Try.pinned (OpenSpec.ofChange regionPartsWrong)

/-- 'headracelaw10.RegionAlone': WHATEVER THE INPUT: true; the input reads as it did. -/
def regionAloneSpec : ChangeSpec := { name := "regionAlone", fn := fun _ => fun
  | [d1, d2] => { results := [.lit (.bool true)], args := [d1, d2] }
  | _ => none }
def regionAloneRow : OpenClaim := { program := "ythmcknchkecciaa", sum := "f9ae5af716012d5e5783a514f7aa83ad0f18a6c95d69d55a9a20930bdeb81450", func := "headrace/headracelaw10.RegionAlone", spec := "regionAlone", unfollowed := true, recurses := true, apart := false }
def RegionAloneSaid : Prop := regionAloneRow.holds Try.pinned (OpenSpec.ofChange regionAloneSpec)

/-- ITS FALSE NEIGHBOUR: 'it returns false'. Refute it at one input. -/
def regionAloneWrong : ChangeSpec := { name := "regionAlone", fn := fun _ => fun
  | [d1, d2] => { results := [.lit (.bool false)], args := [d1, d2] }
  | _ => none }
def RegionAloneWrongFalsely : Prop := regionAloneRow.holds Try.pinned (OpenSpec.ofChange regionAloneWrong)

/-- 'headracelaw10.RegionGraphs': WHATEVER THE INPUT: true; the input reads as it did. -/
def regionGraphsSpec : ChangeSpec := { name := "regionGraphs", fn := fun _ => fun
  | [d] => { results := [.lit (.bool true)], args := [d] }
  | _ => none }
def regionGraphsRow : OpenClaim := { program := "ythmcknchkecciaa", sum := "f9ae5af716012d5e5783a514f7aa83ad0f18a6c95d69d55a9a20930bdeb81450", func := "headrace/headracelaw10.RegionGraphs", spec := "regionGraphs", unfollowed := true, recurses := true, apart := false }
def RegionGraphsSaid : Prop := regionGraphsRow.holds Try.pinned (OpenSpec.ofChange regionGraphsSpec)

/-- ITS FALSE NEIGHBOUR: 'it returns false'. Refute it at one input. -/
def regionGraphsWrong : ChangeSpec := { name := "regionGraphs", fn := fun _ => fun
  | [d] => { results := [.lit (.bool false)], args := [d] }
  | _ => none }
def RegionGraphsWrongFalsely : Prop := regionGraphsRow.holds Try.pinned (OpenSpec.ofChange regionGraphsWrong)

/- THE SECOND FORM. 'bulk': how many values and letters a reading holds, each counted each time it is reached (what is shared counts as often as it is met; a slice's spare places count too). A statement '..UptoSaid' is the law's where the arguments, and the package variables that the reading takes, are together of bulk at most 1048576: NARROWER than '..Said'. Prove '..Said' where nothing that the law and all that it calls make is longer than what came in: it says more and counts as full. Else prove '..UptoSaid'. A law counts once. -/
mutual
def uptoBulk {H : Type} : DataW H → Nat
  | .lit (.string bytes) => bytes.length + 1
  | .lit _ => 1
  | .nil => 1
  | .ptr d => uptoBulk d + 1
  | .slice elems spare => uptoBulkAll elems + uptoBulkAll spare + 1
  | .agg parts => uptoBulkAll parts + 1
  | .iface _ d => uptoBulk d + 1
  | .map entries => uptoBulkEntries entries + 1
  | .held _ => 1
def uptoBulkAll {H : Type} : List (DataW H) → Nat
  | [] => 0
  | d :: r => uptoBulk d + uptoBulkAll r
def uptoBulkEntries {H : Type} : List (Lit × DataW H) → Nat
  | [] => 0
  | x :: r => uptoBulkEntry x + uptoBulkEntries r
def uptoBulkEntry {H : Type} : Lit × DataW H → Nat
  | (.string bytes, d) => bytes.length + uptoBulk d + 1
  | (_, d) => uptoBulk d + 1
 end
def uptoSmall : (H : Type) → List (DataW H) → Bool := fun _ ds => decide (uptoBulkAll ds ≤ 1048576)
def OpenSpec.upto (s : _root_.Go.ChangeSpec) : _root_.Go.OpenSpec := { _root_.Go.OpenSpec.ofChange s with cond := some uptoSmall }

/-- 'headracelaw10.RegionAll', WHERE WHAT IT READS IS OF BULK AT MOST 1048576: true; the input reads as it did. -/
def regionAllUptoRow : OpenClaim := { program := "ythmcknchkecciaa", sum := "f9ae5af716012d5e5783a514f7aa83ad0f18a6c95d69d55a9a20930bdeb81450", func := "headrace/headracelaw10.RegionAll", spec := "regionAll", unfollowed := true, recurses := true, apart := false, narrowed := true }
def RegionAllUptoSaid : Prop := regionAllUptoRow.holds Try.pinned (OpenSpec.upto regionAllSpec)

/-- 'headracelaw10.RegionAnew', WHERE WHAT IT READS IS OF BULK AT MOST 1048576: true; the input reads as it did. -/
def regionAnewUptoRow : OpenClaim := { program := "ythmcknchkecciaa", sum := "f9ae5af716012d5e5783a514f7aa83ad0f18a6c95d69d55a9a20930bdeb81450", func := "headrace/headracelaw10.RegionAnew", spec := "regionAnew", unfollowed := true, recurses := true, apart := false, narrowed := true }
def RegionAnewUptoSaid : Prop := regionAnewUptoRow.holds Try.pinned (OpenSpec.upto regionAnewSpec)

/-- 'headracelaw10.RegionNumbers', WHERE WHAT IT READS IS OF BULK AT MOST 1048576: true; the input reads as it did. -/
def regionNumbersUptoRow : OpenClaim := { program := "ythmcknchkecciaa", sum := "f9ae5af716012d5e5783a514f7aa83ad0f18a6c95d69d55a9a20930bdeb81450", func := "headrace/headracelaw10.RegionNumbers", spec := "regionNumbers", unfollowed := true, recurses := true, apart := false, narrowed := true }
def RegionNumbersUptoSaid : Prop := regionNumbersUptoRow.holds Try.pinned (OpenSpec.upto regionNumbersSpec)

/-- 'headracelaw10.RegionAgain', WHERE WHAT IT READS IS OF BULK AT MOST 1048576: true; the input reads as it did. -/
def regionAgainUptoRow : OpenClaim := { program := "ythmcknchkecciaa", sum := "f9ae5af716012d5e5783a514f7aa83ad0f18a6c95d69d55a9a20930bdeb81450", func := "headrace/headracelaw10.RegionAgain", spec := "regionAgain", unfollowed := true, recurses := true, apart := false, narrowed := true }
def RegionAgainUptoSaid : Prop := regionAgainUptoRow.holds Try.pinned (OpenSpec.upto regionAgainSpec)

/-- 'headracelaw10.RegionTells', WHERE WHAT IT READS IS OF BULK AT MOST 1048576: true; the input reads as it did. -/
def regionTellsUptoRow : OpenClaim := { program := "ythmcknchkecciaa", sum := "f9ae5af716012d5e5783a514f7aa83ad0f18a6c95d69d55a9a20930bdeb81450", func := "headrace/headracelaw10.RegionTells", spec := "regionTells", unfollowed := true, recurses := true, apart := false, narrowed := true }
def RegionTellsUptoSaid : Prop := regionTellsUptoRow.holds Try.pinned (OpenSpec.upto regionTellsSpec)

/-- 'headracelaw10.RegionParts', WHERE WHAT IT READS IS OF BULK AT MOST 1048576: true; the input reads as it did. -/
def regionPartsUptoRow : OpenClaim := { program := "ythmcknchkecciaa", sum := "f9ae5af716012d5e5783a514f7aa83ad0f18a6c95d69d55a9a20930bdeb81450", func := "headrace/headracelaw10.RegionParts", spec := "regionParts", unfollowed := true, recurses := true, apart := false, narrowed := true }
def RegionPartsUptoSaid : Prop := regionPartsUptoRow.holds Try.pinned (OpenSpec.upto regionPartsSpec)

/-- 'headracelaw10.RegionAlone', WHERE WHAT IT READS IS OF BULK AT MOST 1048576: true; the input reads as it did. -/
def regionAloneUptoRow : OpenClaim := { program := "ythmcknchkecciaa", sum := "f9ae5af716012d5e5783a514f7aa83ad0f18a6c95d69d55a9a20930bdeb81450", func := "headrace/headracelaw10.RegionAlone", spec := "regionAlone", unfollowed := true, recurses := true, apart := false, narrowed := true }
def RegionAloneUptoSaid : Prop := regionAloneUptoRow.holds Try.pinned (OpenSpec.upto regionAloneSpec)

/-- 'headracelaw10.RegionGraphs', WHERE WHAT IT READS IS OF BULK AT MOST 1048576: true; the input reads as it did. -/
def regionGraphsUptoRow : OpenClaim := { program := "ythmcknchkecciaa", sum := "f9ae5af716012d5e5783a514f7aa83ad0f18a6c95d69d55a9a20930bdeb81450", func := "headrace/headracelaw10.RegionGraphs", spec := "regionGraphs", unfollowed := true, recurses := true, apart := false, narrowed := true }
def RegionGraphsUptoSaid : Prop := regionGraphsUptoRow.holds Try.pinned (OpenSpec.upto regionGraphsSpec)

end Rows
end Go.Proofs.Ythmcknchkecciaa
