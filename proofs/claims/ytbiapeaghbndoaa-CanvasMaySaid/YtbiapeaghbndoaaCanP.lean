/- canvas: the plain law. -/
import Derived.Test.YtbiapeaghbndoaaShaL
namespace Go.Proofs.Ytbiapeaghbndoaa
open Go Go.RowKit
end Go.Proofs.Ytbiapeaghbndoaa
