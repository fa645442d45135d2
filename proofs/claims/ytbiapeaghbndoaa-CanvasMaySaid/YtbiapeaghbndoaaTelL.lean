/- canvas: the walk of CanvasTells. Printed by a program of this seat's prover. -/
import Derived.Test.YtbiapeaghbndoaaCanP
namespace Go.Proofs.Ytbiapeaghbndoaa
open Go Go.RowKit
set_option maxRecDepth 10000
theorem difC_le (wd hg : Nat) (ts us : List T64) (hwd : 1 ≤ wd ∧ wd ≤ 4) (hhg : 1 ≤ hg ∧ hg ≤ 4) : (difC wd hg ts us).length ≤ 1024 := by
  rw [← dif_all]; exact dif_le wd hg ts us _ hwd hhg
end Go.Proofs.Ytbiapeaghbndoaa
