/-
  No cell of these rows narrows 'for every input' (looked for: loops, veiled, ifaces, maps, wideKeys, modest, calm, conditions, laid).
  DERIVED. THE GIVEN ROWS OF THIS SEAT. 6 by the template 'for every input the law returns true; each argument reads behind the call as it read before'; 0 by the template 'total and deterministic' (their statements: YtjhjmeajdebcbaaTotals.lean).
  GIVEN WITH THE SEED: the statements are not yours to turn. If you find one false, say at which input.
  Laid BY PROGRAM, IN A SANDBOX (cutbox-rows.mjs): the forced cells as the released guide's own fill.sh prints them over the translation 2b165b0889363efd… (all of the seat's roots in one cut). By AI agents, Wed Nov 11 2026. No macro, syntax, notation, axiom, sorry.
-/
import Derived.Test.YtjhjmeajdebcbaaChecked
import GoSem.Claim
import GoSem.ClaimJoined
import GoSem.ClaimMapViews
import Derived.JoinedTies
import Derived.KernelRfl
namespace Go.Proofs.Ytjhjmeajdebcbaa
/- THE CELL 'sum', in the pinned program and in every row, IS THE sha256 OF THE DUMP (.gsa) THAT YtjhjmeajdebcbaaProg.lean LOADS. Nothing in Lean hashes anything: it is a label: what it is worth is what the hold of that sum in a sandbox is worth. -/
noncomputable def Try.pinned : Pinned := { name := "ytjhjmeajdebcbaa", sum := "2b165b0889363efda21e27e0df53c88e0e315c288543f951b21ff13927a6249f", checked := Try.checked }
namespace Rows
def none {H : Type} : Left H := { results := [], args := [] }

/-- 'headracelaw11.SlotsEven': WHATEVER THE INPUT: true; the input reads as it did. -/
def slotsEvenSpec : ChangeSpec := { name := "slotsEven", fn := fun _ => fun
  | [d1, d2, d3] => { results := [.lit (.bool true)], args := [d1, d2, d3] }
  | _ => none }
def slotsEvenRow : OpenClaim := { program := "ytjhjmeajdebcbaa", sum := "2b165b0889363efda21e27e0df53c88e0e315c288543f951b21ff13927a6249f", func := "headrace/headracelaw11.SlotsEven", spec := "slotsEven", inPlace := ["slices.overlaps[headrace/api.Worker]", "slices.overlaps[headrace/api.Place]"], unfollowed := true, recurses := true, apart := false }
def SlotsEvenSaid : Prop := slotsEvenRow.holds Try.pinned (OpenSpec.ofChange slotsEvenSpec)

/-- ITS FALSE NEIGHBOUR: 'it returns false'. Refute it at one input. -/
def slotsEvenWrong : ChangeSpec := { name := "slotsEven", fn := fun _ => fun
  | [d1, d2, d3] => { results := [.lit (.bool false)], args := [d1, d2, d3] }
  | _ => none }
def SlotsEvenWrongFalsely : Prop := slotsEvenRow.holds Try.pinned (OpenSpec.ofChange slotsEvenWrong)

/-- 'headracelaw11.SlotsLays': WHATEVER THE INPUT: true; the input reads as it did. -/
def slotsLaysSpec : ChangeSpec := { name := "slotsLays", fn := fun _ => fun
  | [d1, d2] => { results := [.lit (.bool true)], args := [d1, d2] }
  | _ => none }
def slotsLaysRow : OpenClaim := { program := "ytjhjmeajdebcbaa", sum := "2b165b0889363efda21e27e0df53c88e0e315c288543f951b21ff13927a6249f", func := "headrace/headracelaw11.SlotsLays", spec := "slotsLays", inPlace := ["slices.overlaps[headrace/api.Worker]", "slices.overlaps[headrace/api.Place]"], unfollowed := true, recurses := true, apart := false }
def SlotsLaysSaid : Prop := slotsLaysRow.holds Try.pinned (OpenSpec.ofChange slotsLaysSpec)

/-- ITS FALSE NEIGHBOUR: 'it returns false'. Refute it at one input. -/
def slotsLaysWrong : ChangeSpec := { name := "slotsLays", fn := fun _ => fun
  | [d1, d2] => { results := [.lit (.bool false)], args := [d1, d2] }
  | _ => none }
def SlotsLaysWrongFalsely : Prop := slotsLaysRow.holds Try.pinned (OpenSpec.ofChange slotsLaysWrong)

/-- 'headracelaw11.SlotsTells': WHATEVER THE INPUT: true; the input reads as it did. -/
def slotsTellsSpec : ChangeSpec := { name := "slotsTells", fn := fun _ => fun
  | [d1, d2, d3] => { results := [.lit (.bool true)], args := [d1, d2, d3] }
  | _ => none }
def slotsTellsRow : OpenClaim := { program := "ytjhjmeajdebcbaa", sum := "2b165b0889363efda21e27e0df53c88e0e315c288543f951b21ff13927a6249f", func := "headrace/headracelaw11.SlotsTells", spec := "slotsTells", inPlace := ["slices.overlaps[headrace/api.Worker]", "slices.overlaps[headrace/api.Place]"], unfollowed := true, recurses := true, apart := false }
def SlotsTellsSaid : Prop := slotsTellsRow.holds Try.pinned (OpenSpec.ofChange slotsTellsSpec)

/-- ITS FALSE NEIGHBOUR: 'it returns false'. Refute it at one input. -/
def slotsTellsWrong : ChangeSpec := { name := "slotsTells", fn := fun _ => fun
  | [d1, d2, d3] => { results := [.lit (.bool false)], args := [d1, d2, d3] }
  | _ => none }
def SlotsTellsWrongFalsely : Prop := slotsTellsRow.holds Try.pinned (OpenSpec.ofChange slotsTellsWrong)

/-- 'headracelaw11.SlotsWorkers': WHATEVER THE INPUT: true; the input reads as it did. -/
def slotsWorkersSpec : ChangeSpec := { name := "slotsWorkers", fn := fun _ => fun
  | [d1, d2] => { results := [.lit (.bool true)], args := [d1, d2] }
  | _ => none }
def slotsWorkersRow : OpenClaim := { program := "ytjhjmeajdebcbaa", sum := "2b165b0889363efda21e27e0df53c88e0e315c288543f951b21ff13927a6249f", func := "headrace/headracelaw11.SlotsWorkers", spec := "slotsWorkers", inPlace := ["slices.overlaps[headrace/api.Worker]", "slices.overlaps[headrace/api.Place]"], unfollowed := true, recurses := true, apart := false }
def SlotsWorkersSaid : Prop := slotsWorkersRow.holds Try.pinned (OpenSpec.ofChange slotsWorkersSpec)

/-- ITS FALSE NEIGHBOUR: 'it returns false'. Refute it at one input. -/
def slotsWorkersWrong : ChangeSpec := { name := "slotsWorkers", fn := fun _ => fun
  | [d1, d2] => { results := [.lit (.bool false)], args := [d1, d2] }
  | _ => none }
def SlotsWorkersWrongFalsely : Prop := slotsWorkersRow.holds Try.pinned (OpenSpec.ofChange slotsWorkersWrong)

/-- 'headracelaw11.SlotsKeep': WHATEVER THE INPUT: true; the input reads as it did. -/
def slotsKeepSpec : ChangeSpec := { name := "slotsKeep", fn := fun _ => fun
  | [d] => { results := [.lit (.bool true)], args := [d] }
  | _ => none }
def slotsKeepRow : OpenClaim := { program := "ytjhjmeajdebcbaa", sum := "2b165b0889363efda21e27e0df53c88e0e315c288543f951b21ff13927a6249f", func := "headrace/headracelaw11.SlotsKeep", spec := "slotsKeep", inPlace := ["slices.overlaps[headrace/api.Worker]", "slices.overlaps[headrace/api.Place]"], unfollowed := true, recurses := true, apart := false }
def SlotsKeepSaid : Prop := slotsKeepRow.holds Try.pinned (OpenSpec.ofChange slotsKeepSpec)

/-- ITS FALSE NEIGHBOUR: 'it returns false'. Refute it at one input. -/
def slotsKeepWrong : ChangeSpec := { name := "slotsKeep", fn := fun _ => fun
  | [d] => { results := [.lit (.bool false)], args := [d] }
  | _ => none }
def SlotsKeepWrongFalsely : Prop := slotsKeepRow.holds Try.pinned (OpenSpec.ofChange slotsKeepWrong)

/-- 'headracelaw11.SlotsBack': WHATEVER THE INPUT: true; the input reads as it did. -/
def slotsBackSpec : ChangeSpec := { name := "slotsBack", fn := fun _ => fun
  | [d1, d2, d3] => { results := [.lit (.bool true)], args := [d1, d2, d3] }
  | _ => none }
def slotsBackRow : OpenClaim := { program := "ytjhjmeajdebcbaa", sum := "2b165b0889363efda21e27e0df53c88e0e315c288543f951b21ff13927a6249f", func := "headrace/headracelaw11.SlotsBack", spec := "slotsBack", inPlace := ["slices.overlaps[headrace/api.Worker]", "slices.overlaps[headrace/api.Place]"], unfollowed := true, recurses := true, apart := false }
def SlotsBackSaid : Prop := slotsBackRow.holds Try.pinned (OpenSpec.ofChange slotsBackSpec)

/-- ITS FALSE NEIGHBOUR: 'it returns false'. Refute it at one input. -/
def slotsBackWrong : ChangeSpec := { name := "slotsBack", fn := fun _ => fun
  | [d1, d2, d3] => { results := [.lit (.bool false)], args := [d1, d2, d3] }
  | _ => none }
def SlotsBackWrongFalsely : Prop := slotsBackRow.holds Try.pinned (OpenSpec.ofChange slotsBackWrong)

/- THE SECOND FORM. 'bulk': how many values and letters a reading holds, each counted each time it is reached (what is shared counts as often as it is met; a slice's spare places count too). A statement '..UptoSaid' is the law's where the arguments, and the package variables that the reading takes, are together of bulk at most 1048576: NARROWER than '..Said'. Prove '..Said' where nothing that the law and all that it calls make is longer than what came in: it says more and counts as full. Else prove '..UptoSaid'. A law counts once. -/
mutual
def uptoBulk {H : Type} : DataW H → Nat
  | .lit (.string bytes) => bytes.length + 1
  | .lit _ => 1
  | .nil => 1
  | .ptr d => uptoBulk d + 1
  | .slice elems spare => uptoBulkAll elems + uptoBulkAll spare + 1
  | .agg parts => uptoBulkAll parts + 1
  | .iface _ d => uptoBulk d + 1
  | .map entries => uptoBulkEntries entries + 1
  | .held _ => 1
def uptoBulkAll {H : Type} : List (DataW H) → Nat
  | [] => 0
  | d :: r => uptoBulk d + uptoBulkAll r
def uptoBulkEntries {H : Type} : List (Lit × DataW H) → Nat
  | [] => 0
  | x :: r => uptoBulkEntry x + uptoBulkEntries r
def uptoBulkEntry {H : Type} : Lit × DataW H → Nat
  | (.string bytes, d) => bytes.length + uptoBulk d + 1
  | (_, d) => uptoBulk d + 1
 end
def uptoSmall : (H : Type) → List (DataW H) → Bool := fun _ ds => decide (uptoBulkAll ds ≤ 1048576)
def OpenSpec.upto (s : _root_.Go.ChangeSpec) : _root_.Go.OpenSpec := { _root_.Go.OpenSpec.ofChange s with cond := some uptoSmall }

/-- 'headracelaw11.SlotsEven', WHERE WHAT IT READS IS OF BULK AT MOST 1048576: true; the input reads as it did. -/
def slotsEvenUptoRow : OpenClaim := { program := "ytjhjmeajdebcbaa", sum := "2b165b0889363efda21e27e0df53c88e0e315c288543f951b21ff13927a6249f", func := "headrace/headracelaw11.SlotsEven", spec := "slotsEven", inPlace := ["slices.overlaps[headrace/api.Worker]", "slices.overlaps[headrace/api.Place]"], unfollowed := true, recurses := true, apart := false, narrowed := true }
def SlotsEvenUptoSaid : Prop := slotsEvenUptoRow.holds Try.pinned (OpenSpec.upto slotsEvenSpec)

/-- 'headracelaw11.SlotsLays', WHERE WHAT IT READS IS OF BULK AT MOST 1048576: true; the input reads as it did. -/
def slotsLaysUptoRow : OpenClaim := { program := "ytjhjmeajdebcbaa", sum := "2b165b0889363efda21e27e0df53c88e0e315c288543f951b21ff13927a6249f", func := "headrace/headracelaw11.SlotsLays", spec := "slotsLays", inPlace := ["slices.overlaps[headrace/api.Worker]", "slices.overlaps[headrace/api.Place]"], unfollowed := true, recurses := true, apart := false, narrowed := true }
def SlotsLaysUptoSaid : Prop := slotsLaysUptoRow.holds Try.pinned (OpenSpec.upto slotsLaysSpec)

/-- 'headracelaw11.SlotsTells', WHERE WHAT IT READS IS OF BULK AT MOST 1048576: true; the input reads as it did. -/
def slotsTellsUptoRow : OpenClaim := { program := "ytjhjmeajdebcbaa", sum := "2b165b0889363efda21e27e0df53c88e0e315c288543f951b21ff13927a6249f", func := "headrace/headracelaw11.SlotsTells", spec := "slotsTells", inPlace := ["slices.overlaps[headrace/api.Worker]", "slices.overlaps[headrace/api.Place]"], unfollowed := true, recurses := true, apart := false, narrowed := true }
def SlotsTellsUptoSaid : Prop := slotsTellsUptoRow.holds Try.pinned (OpenSpec.upto slotsTellsSpec)

/-- 'headracelaw11.SlotsWorkers', WHERE WHAT IT READS IS OF BULK AT MOST 1048576: true; the input reads as it did. -/
def slotsWorkersUptoRow : OpenClaim := { program := "ytjhjmeajdebcbaa", sum := "2b165b0889363efda21e27e0df53c88e0e315c288543f951b21ff13927a6249f", func := "headrace/headracelaw11.SlotsWorkers", spec := "slotsWorkers", inPlace := ["slices.overlaps[headrace/api.Worker]", "slices.overlaps[headrace/api.Place]"], unfollowed := true, recurses := true, apart := false, narrowed := true }
def SlotsWorkersUptoSaid : Prop := slotsWorkersUptoRow.holds Try.pinned (OpenSpec.upto slotsWorkersSpec)

/-- 'headracelaw11.SlotsKeep', WHERE WHAT IT READS IS OF BULK AT MOST 1048576: true; the input reads as it did. -/
def slotsKeepUptoRow : OpenClaim := { program := "ytjhjmeajdebcbaa", sum := "2b165b0889363efda21e27e0df53c88e0e315c288543f951b21ff13927a6249f", func := "headrace/headracelaw11.SlotsKeep", spec := "slotsKeep", inPlace := ["slices.overlaps[headrace/api.Worker]", "slices.overlaps[headrace/api.Place]"], unfollowed := true, recurses := true, apart := false, narrowed := true }
def SlotsKeepUptoSaid : Prop := slotsKeepUptoRow.holds Try.pinned (OpenSpec.upto slotsKeepSpec)

/-- 'headracelaw11.SlotsBack', WHERE WHAT IT READS IS OF BULK AT MOST 1048576: true; the input reads as it did. -/
def slotsBackUptoRow : OpenClaim := { program := "ytjhjmeajdebcbaa", sum := "2b165b0889363efda21e27e0df53c88e0e315c288543f951b21ff13927a6249f", func := "headrace/headracelaw11.SlotsBack", spec := "slotsBack", inPlace := ["slices.overlaps[headrace/api.Worker]", "slices.overlaps[headrace/api.Place]"], unfollowed := true, recurses := true, apart := false, narrowed := true }
def SlotsBackUptoSaid : Prop := slotsBackUptoRow.holds Try.pinned (OpenSpec.upto slotsBackSpec)

end Rows
end Go.Proofs.Ytjhjmeajdebcbaa
