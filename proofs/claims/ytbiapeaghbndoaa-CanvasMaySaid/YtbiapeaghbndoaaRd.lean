/- Slices that are read, wherever they lie. Over any program. -/
import Derived.Test.YtbiapeaghbndoaaRowB
namespace Go.Proofs.Ytbiapeaghbndoaa
open Go Go.RowKit
section
variable {C : Cx} {Q : Post} {K : List (Nat × Value)} {L : Heap} {α : Type} {s : Nat} {f : α → List Value} {l : List α} {a : Option Addr} {cap : Nat}
end
section
variable {P : Program} {w : World} {ρ : Operand → Value} {d : Option Tmp} {ty : TypeId} {ps : String} {af : Array Edge} {g : Option (Nat × Bool)} {x : Operand} {α : Type} {s : Nat} {f : α → List Value} {l : List α} {b off cap i : Nat} {u : α} {t : TypeId}
end
end Go.Proofs.Ytbiapeaghbndoaa
