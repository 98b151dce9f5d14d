/-
  No cell of these rows narrows 'for every input' (looked for: loops, veiled, ifaces, maps, wideKeys, modest, calm, conditions, laid).
  DERIVED. THE GIVEN ROWS OF THIS SEAT. 6 by the template 'for every input the law returns true; each argument reads behind the call as it read before'; 0 by the template 'total and deterministic' (their statements: YtkmdmjnbjoakbaaTotals.lean).
  GIVEN WITH THE SEED: the statements are not yours to turn. If you find one false, say at which input.
  Laid BY PROGRAM, IN A SANDBOX (cutbox-rows.mjs): the forced cells as the released guide's own fill.sh prints them over the translation b63d6eee912f884e… (all of the seat's roots in one cut). By AI agents, Wed Nov 11 2026. No macro, syntax, notation, axiom, sorry.
-/
import Derived.Test.YtkmdmjnbjoakbaaChecked
import GoSem.Claim
import GoSem.ClaimJoined
import GoSem.ClaimMapViews
import Derived.JoinedTies
import Derived.KernelRfl
namespace Go.Proofs.Ytkmdmjnbjoakbaa
/- THE CELL 'sum', in the pinned program and in every row, IS THE sha256 OF THE DUMP (.gsa) THAT YtkmdmjnbjoakbaaProg.lean LOADS. Nothing in Lean hashes anything: it is a label: what it is worth is what the hold of that sum in a sandbox is worth. -/
noncomputable def Try.pinned : Pinned := { name := "ytkmdmjnbjoakbaa", sum := "b63d6eee912f884e6f1efd3da07e37f7de8f59da054e760beabcbb1331ac4aaa", checked := Try.checked }
namespace Rows
def none {H : Type} : Left H := { results := [], args := [] }

/-- 'headracelaw23.RetainPuts': WHATEVER THE INPUT: true; the input reads as it did. -/
def retainPutsSpec : ChangeSpec := { name := "retainPuts", fn := fun _ => fun
  | [d1, d2, d3] => { results := [.lit (.bool true)], args := [d1, d2, d3] }
  | _ => none }
def retainPutsRow : OpenClaim := { program := "ytkmdmjnbjoakbaa", sum := "b63d6eee912f884e6f1efd3da07e37f7de8f59da054e760beabcbb1331ac4aaa", func := "headrace/headracelaw23.RetainPuts", spec := "retainPuts", unfollowed := true, recurses := true, apart := false }
def RetainPutsSaid : Prop := retainPutsRow.holds Try.pinned (OpenSpec.ofChange retainPutsSpec)

/-- ITS FALSE NEIGHBOUR: 'it returns false'. Refute it at one input. -/
def retainPutsWrong : ChangeSpec := { name := "retainPuts", fn := fun _ => fun
  | [d1, d2, d3] => { results := [.lit (.bool false)], args := [d1, d2, d3] }
  | _ => none }
def RetainPutsWrongFalsely : Prop := retainPutsRow.holds Try.pinned (OpenSpec.ofChange retainPutsWrong)

/-- 'headracelaw23.RetainLast': WHATEVER THE INPUT: true; the input reads as it did. -/
def retainLastSpec : ChangeSpec := { name := "retainLast", fn := fun _ => fun
  | [d1, d2, d3] => { results := [.lit (.bool true)], args := [d1, d2, d3] }
  | _ => none }
def retainLastRow : OpenClaim := { program := "ytkmdmjnbjoakbaa", sum := "b63d6eee912f884e6f1efd3da07e37f7de8f59da054e760beabcbb1331ac4aaa", func := "headrace/headracelaw23.RetainLast", spec := "retainLast", unfollowed := true, recurses := true, apart := false }
def RetainLastSaid : Prop := retainLastRow.holds Try.pinned (OpenSpec.ofChange retainLastSpec)

/-- ITS FALSE NEIGHBOUR: 'it returns false'. Refute it at one input. -/
def retainLastWrong : ChangeSpec := { name := "retainLast", fn := fun _ => fun
  | [d1, d2, d3] => { results := [.lit (.bool false)], args := [d1, d2, d3] }
  | _ => none }
def RetainLastWrongFalsely : Prop := retainLastRow.holds Try.pinned (OpenSpec.ofChange retainLastWrong)

/-- 'headracelaw23.RetainTurns': WHATEVER THE INPUT: true; the input reads as it did. -/
def retainTurnsSpec : ChangeSpec := { name := "retainTurns", fn := fun _ => fun
  | [d1, d2] => { results := [.lit (.bool true)], args := [d1, d2] }
  | _ => none }
def retainTurnsRow : OpenClaim := { program := "ytkmdmjnbjoakbaa", sum := "b63d6eee912f884e6f1efd3da07e37f7de8f59da054e760beabcbb1331ac4aaa", func := "headrace/headracelaw23.RetainTurns", spec := "retainTurns", unfollowed := true, recurses := true, apart := false }
def RetainTurnsSaid : Prop := retainTurnsRow.holds Try.pinned (OpenSpec.ofChange retainTurnsSpec)

/-- ITS FALSE NEIGHBOUR: 'it returns false'. Refute it at one input. -/
def retainTurnsWrong : ChangeSpec := { name := "retainTurns", fn := fun _ => fun
  | [d1, d2] => { results := [.lit (.bool false)], args := [d1, d2] }
  | _ => none }
def RetainTurnsWrongFalsely : Prop := retainTurnsRow.holds Try.pinned (OpenSpec.ofChange retainTurnsWrong)

/-- 'headracelaw23.RetainSafe': WHATEVER THE INPUT: true; the input reads as it did. -/
def retainSafeSpec : ChangeSpec := { name := "retainSafe", fn := fun _ => fun
  | [d1, d2] => { results := [.lit (.bool true)], args := [d1, d2] }
  | _ => none }
def retainSafeRow : OpenClaim := { program := "ytkmdmjnbjoakbaa", sum := "b63d6eee912f884e6f1efd3da07e37f7de8f59da054e760beabcbb1331ac4aaa", func := "headrace/headracelaw23.RetainSafe", spec := "retainSafe", unfollowed := true, recurses := true, apart := false }
def RetainSafeSaid : Prop := retainSafeRow.holds Try.pinned (OpenSpec.ofChange retainSafeSpec)

/-- ITS FALSE NEIGHBOUR: 'it returns false'. Refute it at one input. -/
def retainSafeWrong : ChangeSpec := { name := "retainSafe", fn := fun _ => fun
  | [d1, d2] => { results := [.lit (.bool false)], args := [d1, d2] }
  | _ => none }
def RetainSafeWrongFalsely : Prop := retainSafeRow.holds Try.pinned (OpenSpec.ofChange retainSafeWrong)

/-- 'headracelaw23.RetainTells': WHATEVER THE INPUT: true; the input reads as it did. -/
def retainTellsSpec : ChangeSpec := { name := "retainTells", fn := fun _ => fun
  | [d1, d2, d3] => { results := [.lit (.bool true)], args := [d1, d2, d3] }
  | _ => none }
def retainTellsRow : OpenClaim := { program := "ytkmdmjnbjoakbaa", sum := "b63d6eee912f884e6f1efd3da07e37f7de8f59da054e760beabcbb1331ac4aaa", func := "headrace/headracelaw23.RetainTells", spec := "retainTells", unfollowed := true, recurses := true, apart := false }
def RetainTellsSaid : Prop := retainTellsRow.holds Try.pinned (OpenSpec.ofChange retainTellsSpec)

/-- ITS FALSE NEIGHBOUR: 'it returns false'. Refute it at one input. -/
def retainTellsWrong : ChangeSpec := { name := "retainTells", fn := fun _ => fun
  | [d1, d2, d3] => { results := [.lit (.bool false)], args := [d1, d2, d3] }
  | _ => none }
def RetainTellsWrongFalsely : Prop := retainTellsRow.holds Try.pinned (OpenSpec.ofChange retainTellsWrong)

/-- 'headracelaw23.RetainMarks': WHATEVER THE INPUT: true; the input reads as it did. -/
def retainMarksSpec : ChangeSpec := { name := "retainMarks", fn := fun _ => fun
  | [d1, d2] => { results := [.lit (.bool true)], args := [d1, d2] }
  | _ => none }
def retainMarksRow : OpenClaim := { program := "ytkmdmjnbjoakbaa", sum := "b63d6eee912f884e6f1efd3da07e37f7de8f59da054e760beabcbb1331ac4aaa", func := "headrace/headracelaw23.RetainMarks", spec := "retainMarks", unfollowed := true, recurses := true, apart := false }
def RetainMarksSaid : Prop := retainMarksRow.holds Try.pinned (OpenSpec.ofChange retainMarksSpec)

/-- ITS FALSE NEIGHBOUR: 'it returns false'. Refute it at one input. -/
def retainMarksWrong : ChangeSpec := { name := "retainMarks", fn := fun _ => fun
  | [d1, d2] => { results := [.lit (.bool false)], args := [d1, d2] }
  | _ => none }
def RetainMarksWrongFalsely : Prop := retainMarksRow.holds Try.pinned (OpenSpec.ofChange retainMarksWrong)

/- THE SECOND FORM. 'bulk': how many values and letters a reading holds, each counted each time it is reached (what is shared counts as often as it is met; a slice's spare places count too). A statement '..UptoSaid' is the law's where the arguments, and the package variables that the reading takes, are together of bulk at most 1048576: NARROWER than '..Said'. Prove '..Said' where nothing that the law and all that it calls make is longer than what came in: it says more and counts as full. Else prove '..UptoSaid'. A law counts once. -/
mutual
def uptoBulk {H : Type} : DataW H → Nat
  | .lit (.string bytes) => bytes.length + 1
  | .lit _ => 1
  | .nil => 1
  | .ptr d => uptoBulk d + 1
  | .slice elems spare => uptoBulkAll elems + uptoBulkAll spare + 1
  | .agg parts => uptoBulkAll parts + 1
  | .iface _ d => uptoBulk d + 1
  | .map entries => uptoBulkEntries entries + 1
  | .held _ => 1
def uptoBulkAll {H : Type} : List (DataW H) → Nat
  | [] => 0
  | d :: r => uptoBulk d + uptoBulkAll r
def uptoBulkEntries {H : Type} : List (Lit × DataW H) → Nat
  | [] => 0
  | x :: r => uptoBulkEntry x + uptoBulkEntries r
def uptoBulkEntry {H : Type} : Lit × DataW H → Nat
  | (.string bytes, d) => bytes.length + uptoBulk d + 1
  | (_, d) => uptoBulk d + 1
 end
def uptoSmall : (H : Type) → List (DataW H) → Bool := fun _ ds => decide (uptoBulkAll ds ≤ 1048576)
def OpenSpec.upto (s : _root_.Go.ChangeSpec) : _root_.Go.OpenSpec := { _root_.Go.OpenSpec.ofChange s with cond := some uptoSmall }

/-- 'headracelaw23.RetainPuts', WHERE WHAT IT READS IS OF BULK AT MOST 1048576: true; the input reads as it did. -/
def retainPutsUptoRow : OpenClaim := { program := "ytkmdmjnbjoakbaa", sum := "b63d6eee912f884e6f1efd3da07e37f7de8f59da054e760beabcbb1331ac4aaa", func := "headrace/headracelaw23.RetainPuts", spec := "retainPuts", unfollowed := true, recurses := true, apart := false, narrowed := true }
def RetainPutsUptoSaid : Prop := retainPutsUptoRow.holds Try.pinned (OpenSpec.upto retainPutsSpec)

/-- 'headracelaw23.RetainLast', WHERE WHAT IT READS IS OF BULK AT MOST 1048576: true; the input reads as it did. -/
def retainLastUptoRow : OpenClaim := { program := "ytkmdmjnbjoakbaa", sum := "b63d6eee912f884e6f1efd3da07e37f7de8f59da054e760beabcbb1331ac4aaa", func := "headrace/headracelaw23.RetainLast", spec := "retainLast", unfollowed := true, recurses := true, apart := false, narrowed := true }
def RetainLastUptoSaid : Prop := retainLastUptoRow.holds Try.pinned (OpenSpec.upto retainLastSpec)

/-- 'headracelaw23.RetainTurns', WHERE WHAT IT READS IS OF BULK AT MOST 1048576: true; the input reads as it did. -/
def retainTurnsUptoRow : OpenClaim := { program := "ytkmdmjnbjoakbaa", sum := "b63d6eee912f884e6f1efd3da07e37f7de8f59da054e760beabcbb1331ac4aaa", func := "headrace/headracelaw23.RetainTurns", spec := "retainTurns", unfollowed := true, recurses := true, apart := false, narrowed := true }
def RetainTurnsUptoSaid : Prop := retainTurnsUptoRow.holds Try.pinned (OpenSpec.upto retainTurnsSpec)

/-- 'headracelaw23.RetainSafe', WHERE WHAT IT READS IS OF BULK AT MOST 1048576: true; the input reads as it did. -/
def retainSafeUptoRow : OpenClaim := { program := "ytkmdmjnbjoakbaa", sum := "b63d6eee912f884e6f1efd3da07e37f7de8f59da054e760beabcbb1331ac4aaa", func := "headrace/headracelaw23.RetainSafe", spec := "retainSafe", unfollowed := true, recurses := true, apart := false, narrowed := true }
def RetainSafeUptoSaid : Prop := retainSafeUptoRow.holds Try.pinned (OpenSpec.upto retainSafeSpec)

/-- 'headracelaw23.RetainTells', WHERE WHAT IT READS IS OF BULK AT MOST 1048576: true; the input reads as it did. -/
def retainTellsUptoRow : OpenClaim := { program := "ytkmdmjnbjoakbaa", sum := "b63d6eee912f884e6f1efd3da07e37f7de8f59da054e760beabcbb1331ac4aaa", func := "headrace/headracelaw23.RetainTells", spec := "retainTells", unfollowed := true, recurses := true, apart := false, narrowed := true }
def RetainTellsUptoSaid : Prop := retainTellsUptoRow.holds Try.pinned (OpenSpec.upto retainTellsSpec)

/-- 'headracelaw23.RetainMarks', WHERE WHAT IT READS IS OF BULK AT MOST 1048576: true; the input reads as it did. -/
def retainMarksUptoRow : OpenClaim := { program := "ytkmdmjnbjoakbaa", sum := "b63d6eee912f884e6f1efd3da07e37f7de8f59da054e760beabcbb1331ac4aaa", func := "headrace/headracelaw23.RetainMarks", spec := "retainMarks", unfollowed := true, recurses := true, apart := false, narrowed := true }
def RetainMarksUptoSaid : Prop := retainMarksUptoRow.holds Try.pinned (OpenSpec.upto retainMarksSpec)

end Rows
end Go.Proofs.Ytkmdmjnbjoakbaa
