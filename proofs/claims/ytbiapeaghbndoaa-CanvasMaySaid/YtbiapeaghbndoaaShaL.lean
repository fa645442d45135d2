/- canvas: the walk of CanvasShares. Printed by a program of this seat's prover. -/
import Derived.Test.YtbiapeaghbndoaaWake
import Derived.Test.YtbiapeaghbndoaaRd
namespace Go.Proofs.Ytbiapeaghbndoaa
open Go Go.RowKit
set_option maxRecDepth 10000
end Go.Proofs.Ytbiapeaghbndoaa
