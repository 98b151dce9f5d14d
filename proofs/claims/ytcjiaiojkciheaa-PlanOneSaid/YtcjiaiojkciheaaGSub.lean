/- Graph: Subtasks. -/
import Derived.Test.YtcjiaiojkciheaaGJ
namespace Go.Proofs.Ytcjiaiojkciheaa
open Go Go.RowKit
open Sy (C SV V1 Blk St XD Els)
set_option maxRecDepth 10000

theorem sem_fact {X : Sy.Cx} {S : St} {c : Code} {Q : Exit → St → Prop} {P : Prop} (h : ∀ e a w, Sy.Rep X e S a w → P) (k : P → Sy.semP X c S Q) : Sy.semP X c S Q :=
  ⟨fun e a w hR => (k (h e a w hR)).out e a w hR⟩
attribute [local irreducible] checkV
def subtasks (g : List Opr) : Int := if (checkV g).2 = 0 then wideN g g.length else 0
def asksB (g : List Opr) (i : Int) : Bool := decide ((checkV g).2 = 0) && decide (0 ≤ i) && decide (i < g.length)
end Go.Proofs.Ytcjiaiojkciheaa
