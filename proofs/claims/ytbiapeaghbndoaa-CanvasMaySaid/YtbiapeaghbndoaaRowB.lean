/- A row that is one's own, or is another one. Over any program. -/
import Derived.Test.YtbiapeaghbndoaaOpx
namespace Go.Proofs.Ytbiapeaghbndoaa
open Go Go.RowKit
end Go.Proofs.Ytbiapeaghbndoaa
