/- Facts on the types of this seat's program. Printed by a program of this seat's prover. -/
import Derived.Test.YtbiapeaghbndoaaEq
import Derived.Test.YtbiapeaghbndoaaPtr
import Derived.Test.YtbiapeaghbndoaaMap
import Derived.Test.YtbiapeaghbndoaaChecked
namespace Go.Proofs.Ytbiapeaghbndoaa
open Go.RowKit
theorem mixed : Try.prog.follows .mixedOrders = true := by kernel_rfl
theorem sz3 : szOf Try.prog 3 = some 1 := by kernel_rfl
theorem ag3 : aggOf Try.prog 3 = some false := by kernel_rfl
theorem io3 : intOf? Try.prog 3 = some .i64 := by kernel_rfl
theorem sz5 : szOf Try.prog 5 = some 1 := by kernel_rfl
theorem ag5 : aggOf Try.prog 5 = some false := by kernel_rfl
theorem io5 : intOf? Try.prog 5 = some .u8 := by kernel_rfl
theorem sz22 : szOf Try.prog 22 = some 1 := by kernel_rfl
theorem ag22 : aggOf Try.prog 22 = some false := by kernel_rfl
theorem sl22 : sliOf Try.prog 22 = some 39 := by kernel_rfl
theorem sz24 : szOf Try.prog 24 = some 3 := by kernel_rfl
theorem ag24 : aggOf Try.prog 24 = some true := by kernel_rfl
theorem fl24_0 : fldOf Try.prog 24 0 = some (3, 0) := by kernel_rfl
theorem fl24_1 : fldOf Try.prog 24 1 = some (3, 1) := by kernel_rfl
theorem fl24_2 : fldOf Try.prog 24 2 = some (22, 2) := by kernel_rfl
theorem sl25 : sliOf Try.prog 25 = some 51 := by kernel_rfl
theorem ag28 : aggOf Try.prog 28 = some false := by kernel_rfl
theorem po28 : ptrOf Try.prog 28 = some 111 := by kernel_rfl
theorem sz37 : szOf Try.prog 37 = some 4 := by kernel_rfl
theorem ag37 : aggOf Try.prog 37 = some true := by kernel_rfl
theorem fl37_0 : fldOf Try.prog 37 0 = some (5, 0) := by kernel_rfl
theorem fl37_1 : fldOf Try.prog 37 1 = some (5, 1) := by kernel_rfl
theorem fl37_2 : fldOf Try.prog 37 2 = some (5, 2) := by kernel_rfl
theorem fl37_3 : fldOf Try.prog 37 3 = some (5, 3) := by kernel_rfl
theorem ar38 : arrOf Try.prog 38 = some (64, 37) := by kernel_rfl
theorem sz39 : szOf Try.prog 39 = some 256 := by kernel_rfl
theorem by39 : byOf Try.prog 39 = some 256 := by kernel_rfl
theorem ag39 : aggOf Try.prog 39 = some true := by kernel_rfl
theorem ar39 : arrOf Try.prog 39 = some (64, 37) := by kernel_rfl
theorem sz44 : szOf Try.prog 44 = some 1 := by kernel_rfl
theorem ag44 : aggOf Try.prog 44 = some false := by kernel_rfl
theorem sl44 : sliOf Try.prog 44 = some 47 := by kernel_rfl
theorem sz47 : szOf Try.prog 47 = some 2 := by kernel_rfl
theorem by47 : byOf Try.prog 47 = some 16 := by kernel_rfl
theorem ag47 : aggOf Try.prog 47 = some true := by kernel_rfl
theorem fl47_0 : fldOf Try.prog 47 0 = some (3, 0) := by kernel_rfl
theorem fl47_1 : fldOf Try.prog 47 1 = some (3, 1) := by kernel_rfl
theorem sz51 : szOf Try.prog 51 = some 6 := by kernel_rfl
theorem ag51 : aggOf Try.prog 51 = some true := by kernel_rfl
theorem fl51_0 : fldOf Try.prog 51 0 = some (3, 0) := by kernel_rfl
theorem fl51_1 : fldOf Try.prog 51 1 = some (3, 1) := by kernel_rfl
theorem fl51_2 : fldOf Try.prog 51 2 = some (37, 2) := by kernel_rfl
theorem sz104 : szOf Try.prog 104 = some 1 := by kernel_rfl
theorem ag104 : aggOf Try.prog 104 = some false := by kernel_rfl
theorem sl104 : sliOf Try.prog 104 = some 106 := by kernel_rfl
theorem sz106 : szOf Try.prog 106 = some 1 := by kernel_rfl
theorem by106 : byOf Try.prog 106 = some 8 := by kernel_rfl
theorem ag106 : aggOf Try.prog 106 = some false := by kernel_rfl
theorem po106 : ptrOf Try.prog 106 = some 39 := by kernel_rfl
theorem sz109 : szOf Try.prog 109 = some 2 := by kernel_rfl
theorem ag109 : aggOf Try.prog 109 = some true := by kernel_rfl
theorem fl109_0 : fldOf Try.prog 109 0 = some (3, 0) := by kernel_rfl
theorem fl109_1 : fldOf Try.prog 109 1 = some (3, 1) := by kernel_rfl
theorem fl111_0 : fldOf Try.prog 111 0 = some (109, 0) := by kernel_rfl
theorem fl111_1 : fldOf Try.prog 111 1 = some (104, 2) := by kernel_rfl
theorem mp113 : mapOf Try.prog 113 = some (3, 106) := by kernel_rfl
theorem sz118 : szOf Try.prog 118 = some 1 := by kernel_rfl
theorem ag118 : aggOf Try.prog 118 = some false := by kernel_rfl
theorem fl148_0 : fldOf Try.prog 148 0 = some (39, 0) := by kernel_rfl
end Go.Proofs.Ytbiapeaghbndoaa

