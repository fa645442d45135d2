/- append, onto a slice whose room is used up. Over any program. -/
import Derived.Test.YtbiapeaghbndoaaCall
namespace Go.Proofs.Ytbiapeaghbndoaa
open Go Go.RowKit
section
variable {P : Program} {w : World}
end
section
variable {C : Cx} {ops : Array Oper} {os : List Oper} {Q : Post} {K : List (Nat × Value)} {L : Heap}
end
section
variable {C : Cx} {R : Rg} {Q : Post} {K0 V : List (Nat × Value)} {lo : Nat} {L : Heap}
end
end Go.Proofs.Ytbiapeaghbndoaa
