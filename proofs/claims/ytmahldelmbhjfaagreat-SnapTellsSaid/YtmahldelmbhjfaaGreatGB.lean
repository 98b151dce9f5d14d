/- Graph: which graphs are the same. -/
import Derived.Test.YtmahldelmbhjfaaGreatGA
namespace Go.Proofs.YtmahldelmbhjfaaGreat
open Go Go.RowKit
open Sy (C SV V1 Blk St XD Els)
set_option maxRecDepth 10000

theorem opN_get {xs : List OpV} {n : Nat} {x : OpV} (h : xs[n]? = some x) : (opsOf xs)[n]? = some x.op := by simp [opsOf, h]
end Go.Proofs.YtmahldelmbhjfaaGreat
