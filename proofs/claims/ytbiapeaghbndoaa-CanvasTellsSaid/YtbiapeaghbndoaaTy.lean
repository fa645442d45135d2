/- Facts on the types of this seat's program. Printed by a program of this seat's prover. -/
import Derived.Test.YtbiapeaghbndoaaEq
import Derived.Test.YtbiapeaghbndoaaPtr
import Derived.Test.YtbiapeaghbndoaaMap
import Derived.Test.YtbiapeaghbndoaaChecked
namespace Go.Proofs.Ytbiapeaghbndoaa
open Go.RowKit
theorem mixed : Try.prog.follows .mixedOrders = true := by kernel_rfl
theorem sz0 : szOf Try.prog 0 = some 1 := by kernel_rfl
theorem by0 : byOf Try.prog 0 = some 0 := by kernel_rfl
theorem ag0 : aggOf Try.prog 0 = some false := by kernel_rfl
theorem un0 : (Try.prog.underlying 0).isSome = true := by kernel_rfl
theorem sz1 : szOf Try.prog 1 = some 1 := by kernel_rfl
theorem by1 : byOf Try.prog 1 = some 8 := by kernel_rfl
theorem ag1 : aggOf Try.prog 1 = some false := by kernel_rfl
theorem un1 : (Try.prog.underlying 1).isSome = true := by kernel_rfl
theorem sz2 : szOf Try.prog 2 = some 1 := by kernel_rfl
theorem by2 : byOf Try.prog 2 = some 8 := by kernel_rfl
theorem ag2 : aggOf Try.prog 2 = some false := by kernel_rfl
theorem un2 : (Try.prog.underlying 2).isSome = true := by kernel_rfl
theorem io2 : intOf? Try.prog 2 = some .i64 := by kernel_rfl
theorem sz3 : szOf Try.prog 3 = some 1 := by kernel_rfl
theorem by3 : byOf Try.prog 3 = some 8 := by kernel_rfl
theorem ag3 : aggOf Try.prog 3 = some false := by kernel_rfl
theorem un3 : (Try.prog.underlying 3).isSome = true := by kernel_rfl
theorem io3 : intOf? Try.prog 3 = some .i64 := by kernel_rfl
theorem sz4 : szOf Try.prog 4 = some 1 := by kernel_rfl
theorem by4 : byOf Try.prog 4 = some 1 := by kernel_rfl
theorem ag4 : aggOf Try.prog 4 = some false := by kernel_rfl
theorem un4 : (Try.prog.underlying 4).isSome = true := by kernel_rfl
theorem sz5 : szOf Try.prog 5 = some 1 := by kernel_rfl
theorem by5 : byOf Try.prog 5 = some 1 := by kernel_rfl
theorem ag5 : aggOf Try.prog 5 = some false := by kernel_rfl
theorem un5 : (Try.prog.underlying 5).isSome = true := by kernel_rfl
theorem io5 : intOf? Try.prog 5 = some .u8 := by kernel_rfl
theorem sz6 : szOf Try.prog 6 = some 1 := by kernel_rfl
theorem by6 : byOf Try.prog 6 = some 1 := by kernel_rfl
theorem ag6 : aggOf Try.prog 6 = some false := by kernel_rfl
theorem un6 : (Try.prog.underlying 6).isSome = true := by kernel_rfl
theorem io6 : intOf? Try.prog 6 = some .u8 := by kernel_rfl
theorem sz7 : szOf Try.prog 7 = some 4 := by kernel_rfl
theorem by7 : byOf Try.prog 7 = some 24 := by kernel_rfl
theorem ag7 : aggOf Try.prog 7 = some true := by kernel_rfl
theorem un7 : (Try.prog.underlying 7).isSome = true := by kernel_rfl
theorem fl7_0 : fldOf Try.prog 7 0 = some (2, 0) := by kernel_rfl
theorem fl7_1 : fldOf Try.prog 7 1 = some (3, 1) := by kernel_rfl
theorem fl7_2 : fldOf Try.prog 7 2 = some (4, 2) := by kernel_rfl
theorem fl7_3 : fldOf Try.prog 7 3 = some (6, 3) := by kernel_rfl
theorem sz8 : szOf Try.prog 8 = some 4 := by kernel_rfl
theorem by8 : byOf Try.prog 8 = some 24 := by kernel_rfl
theorem ag8 : aggOf Try.prog 8 = some true := by kernel_rfl
theorem un8 : (Try.prog.underlying 8).isSome = true := by kernel_rfl
theorem fl8_0 : fldOf Try.prog 8 0 = some (2, 0) := by kernel_rfl
theorem fl8_1 : fldOf Try.prog 8 1 = some (3, 1) := by kernel_rfl
theorem fl8_2 : fldOf Try.prog 8 2 = some (4, 2) := by kernel_rfl
theorem fl8_3 : fldOf Try.prog 8 3 = some (6, 3) := by kernel_rfl
theorem sz9 : szOf Try.prog 9 = some 1 := by kernel_rfl
theorem by9 : byOf Try.prog 9 = some 16 := by kernel_rfl
theorem ag9 : aggOf Try.prog 9 = some false := by kernel_rfl
theorem un9 : (Try.prog.underlying 9).isSome = true := by kernel_rfl
theorem st9 : isStr Try.prog 9 = true := by kernel_rfl
theorem sz10 : szOf Try.prog 10 = some 1 := by kernel_rfl
theorem by10 : byOf Try.prog 10 = some 16 := by kernel_rfl
theorem ag10 : aggOf Try.prog 10 = some false := by kernel_rfl
theorem un10 : (Try.prog.underlying 10).isSome = true := by kernel_rfl
theorem st10 : isStr Try.prog 10 = true := by kernel_rfl
theorem sz11 : szOf Try.prog 11 = some 1 := by kernel_rfl
theorem by11 : byOf Try.prog 11 = some 16 := by kernel_rfl
theorem ag11 : aggOf Try.prog 11 = some false := by kernel_rfl
theorem un11 : (Try.prog.underlying 11).isSome = true := by kernel_rfl
theorem st11 : isStr Try.prog 11 = true := by kernel_rfl
theorem sz12 : szOf Try.prog 12 = some 1 := by kernel_rfl
theorem by12 : byOf Try.prog 12 = some 8 := by kernel_rfl
theorem ag12 : aggOf Try.prog 12 = some false := by kernel_rfl
theorem un12 : (Try.prog.underlying 12).isSome = true := by kernel_rfl
theorem io12 : intOf? Try.prog 12 = some .u64 := by kernel_rfl
theorem sz13 : szOf Try.prog 13 = some 2 := by kernel_rfl
theorem by13 : byOf Try.prog 13 = some 24 := by kernel_rfl
theorem ag13 : aggOf Try.prog 13 = some true := by kernel_rfl
theorem un13 : (Try.prog.underlying 13).isSome = true := by kernel_rfl
theorem fl13_0 : fldOf Try.prog 13 0 = some (9, 0) := by kernel_rfl
theorem fl13_1 : fldOf Try.prog 13 1 = some (12, 1) := by kernel_rfl
theorem sz14 : szOf Try.prog 14 = some 2 := by kernel_rfl
theorem by14 : byOf Try.prog 14 = some 24 := by kernel_rfl
theorem ag14 : aggOf Try.prog 14 = some true := by kernel_rfl
theorem un14 : (Try.prog.underlying 14).isSome = true := by kernel_rfl
theorem fl14_0 : fldOf Try.prog 14 0 = some (9, 0) := by kernel_rfl
theorem fl14_1 : fldOf Try.prog 14 1 = some (12, 1) := by kernel_rfl
theorem sz15 : szOf Try.prog 15 = some 1 := by kernel_rfl
theorem by15 : byOf Try.prog 15 = some 8 := by kernel_rfl
theorem ag15 : aggOf Try.prog 15 = some false := by kernel_rfl
theorem un15 : (Try.prog.underlying 15).isSome = true := by kernel_rfl
theorem po15 : ptrOf Try.prog 15 = some 175 := by kernel_rfl
theorem sz16 : szOf Try.prog 16 = some 1 := by kernel_rfl
theorem by16 : byOf Try.prog 16 = some 8 := by kernel_rfl
theorem ag16 : aggOf Try.prog 16 = some false := by kernel_rfl
theorem un16 : (Try.prog.underlying 16).isSome = true := by kernel_rfl
theorem po16 : ptrOf Try.prog 16 = some 178 := by kernel_rfl
theorem sz17 : szOf Try.prog 17 = some 1 := by kernel_rfl
theorem by17 : byOf Try.prog 17 = some 8 := by kernel_rfl
theorem ag17 : aggOf Try.prog 17 = some false := by kernel_rfl
theorem un17 : (Try.prog.underlying 17).isSome = true := by kernel_rfl
theorem po17 : ptrOf Try.prog 17 = some 187 := by kernel_rfl
theorem sz18 : szOf Try.prog 18 = some 1 := by kernel_rfl
theorem by18 : byOf Try.prog 18 = some 8 := by kernel_rfl
theorem ag18 : aggOf Try.prog 18 = some true := by kernel_rfl
theorem un18 : (Try.prog.underlying 18).isSome = true := by kernel_rfl
theorem fl18_0 : fldOf Try.prog 18 0 = some (17, 0) := by kernel_rfl
theorem sz19 : szOf Try.prog 19 = some 1 := by kernel_rfl
theorem by19 : byOf Try.prog 19 = some 8 := by kernel_rfl
theorem ag19 : aggOf Try.prog 19 = some true := by kernel_rfl
theorem un19 : (Try.prog.underlying 19).isSome = true := by kernel_rfl
theorem fl19_0 : fldOf Try.prog 19 0 = some (17, 0) := by kernel_rfl
theorem sz20 : szOf Try.prog 20 = some 1 := by kernel_rfl
theorem by20 : byOf Try.prog 20 = some 16 := by kernel_rfl
theorem ag20 : aggOf Try.prog 20 = some false := by kernel_rfl
theorem un20 : (Try.prog.underlying 20).isSome = true := by kernel_rfl
theorem sz21 : szOf Try.prog 21 = some 1 := by kernel_rfl
theorem by21 : byOf Try.prog 21 = some 4 := by kernel_rfl
theorem ag21 : aggOf Try.prog 21 = some false := by kernel_rfl
theorem un21 : (Try.prog.underlying 21).isSome = true := by kernel_rfl
theorem io21 : intOf? Try.prog 21 = some .i32 := by kernel_rfl
theorem sz22 : szOf Try.prog 22 = some 1 := by kernel_rfl
theorem by22 : byOf Try.prog 22 = some 24 := by kernel_rfl
theorem ag22 : aggOf Try.prog 22 = some false := by kernel_rfl
theorem un22 : (Try.prog.underlying 22).isSome = true := by kernel_rfl
theorem sl22 : sliOf Try.prog 22 = some 39 := by kernel_rfl
theorem sz23 : szOf Try.prog 23 = some 3 := by kernel_rfl
theorem by23 : byOf Try.prog 23 = some 40 := by kernel_rfl
theorem ag23 : aggOf Try.prog 23 = some true := by kernel_rfl
theorem un23 : (Try.prog.underlying 23).isSome = true := by kernel_rfl
theorem fl23_0 : fldOf Try.prog 23 0 = some (3, 0) := by kernel_rfl
theorem fl23_1 : fldOf Try.prog 23 1 = some (3, 1) := by kernel_rfl
theorem fl23_2 : fldOf Try.prog 23 2 = some (22, 2) := by kernel_rfl
theorem sz24 : szOf Try.prog 24 = some 3 := by kernel_rfl
theorem by24 : byOf Try.prog 24 = some 40 := by kernel_rfl
theorem ag24 : aggOf Try.prog 24 = some true := by kernel_rfl
theorem un24 : (Try.prog.underlying 24).isSome = true := by kernel_rfl
theorem fl24_0 : fldOf Try.prog 24 0 = some (3, 0) := by kernel_rfl
theorem fl24_1 : fldOf Try.prog 24 1 = some (3, 1) := by kernel_rfl
theorem fl24_2 : fldOf Try.prog 24 2 = some (22, 2) := by kernel_rfl
theorem sz25 : szOf Try.prog 25 = some 1 := by kernel_rfl
theorem by25 : byOf Try.prog 25 = some 24 := by kernel_rfl
theorem ag25 : aggOf Try.prog 25 = some false := by kernel_rfl
theorem un25 : (Try.prog.underlying 25).isSome = true := by kernel_rfl
theorem sl25 : sliOf Try.prog 25 = some 51 := by kernel_rfl
theorem sz26 : szOf Try.prog 26 = some 1 := by kernel_rfl
theorem by26 : byOf Try.prog 26 = some 8 := by kernel_rfl
theorem ag26 : aggOf Try.prog 26 = some false := by kernel_rfl
theorem un26 : (Try.prog.underlying 26).isSome = true := by kernel_rfl
theorem sz27 : szOf Try.prog 27 = some 1 := by kernel_rfl
theorem by27 : byOf Try.prog 27 = some 8 := by kernel_rfl
theorem ag27 : aggOf Try.prog 27 = some false := by kernel_rfl
theorem un27 : (Try.prog.underlying 27).isSome = true := by kernel_rfl
theorem sz28 : szOf Try.prog 28 = some 1 := by kernel_rfl
theorem by28 : byOf Try.prog 28 = some 8 := by kernel_rfl
theorem ag28 : aggOf Try.prog 28 = some false := by kernel_rfl
theorem un28 : (Try.prog.underlying 28).isSome = true := by kernel_rfl
theorem po28 : ptrOf Try.prog 28 = some 111 := by kernel_rfl
theorem sz29 : szOf Try.prog 29 = some 1 := by kernel_rfl
theorem by29 : byOf Try.prog 29 = some 8 := by kernel_rfl
theorem ag29 : aggOf Try.prog 29 = some false := by kernel_rfl
theorem un29 : (Try.prog.underlying 29).isSome = true := by kernel_rfl
theorem io29 : intOf? Try.prog 29 = some .i64 := by kernel_rfl
theorem sz30 : szOf Try.prog 30 = some 1 := by kernel_rfl
theorem by30 : byOf Try.prog 30 = some 0 := by kernel_rfl
theorem ag30 : aggOf Try.prog 30 = some false := by kernel_rfl
theorem un30 : (Try.prog.underlying 30).isSome = true := by kernel_rfl
theorem sz31 : szOf Try.prog 31 = some 1 := by kernel_rfl
theorem by31 : byOf Try.prog 31 = some 8 := by kernel_rfl
theorem ag31 : aggOf Try.prog 31 = some false := by kernel_rfl
theorem un31 : (Try.prog.underlying 31).isSome = true := by kernel_rfl
theorem sz32 : szOf Try.prog 32 = some 1 := by kernel_rfl
theorem by32 : byOf Try.prog 32 = some 8 := by kernel_rfl
theorem ag32 : aggOf Try.prog 32 = some false := by kernel_rfl
theorem un32 : (Try.prog.underlying 32).isSome = true := by kernel_rfl
theorem sz33 : szOf Try.prog 33 = some 1 := by kernel_rfl
theorem by33 : byOf Try.prog 33 = some 8 := by kernel_rfl
theorem ag33 : aggOf Try.prog 33 = some false := by kernel_rfl
theorem un33 : (Try.prog.underlying 33).isSome = true := by kernel_rfl
theorem sz34 : szOf Try.prog 34 = some 1 := by kernel_rfl
theorem by34 : byOf Try.prog 34 = some 8 := by kernel_rfl
theorem ag34 : aggOf Try.prog 34 = some false := by kernel_rfl
theorem un34 : (Try.prog.underlying 34).isSome = true := by kernel_rfl
theorem sz35 : szOf Try.prog 35 = some 1 := by kernel_rfl
theorem by35 : byOf Try.prog 35 = some 8 := by kernel_rfl
theorem ag35 : aggOf Try.prog 35 = some false := by kernel_rfl
theorem un35 : (Try.prog.underlying 35).isSome = true := by kernel_rfl
theorem sz36 : szOf Try.prog 36 = some 4 := by kernel_rfl
theorem by36 : byOf Try.prog 36 = some 4 := by kernel_rfl
theorem ag36 : aggOf Try.prog 36 = some true := by kernel_rfl
theorem un36 : (Try.prog.underlying 36).isSome = true := by kernel_rfl
theorem fl36_0 : fldOf Try.prog 36 0 = some (5, 0) := by kernel_rfl
theorem fl36_1 : fldOf Try.prog 36 1 = some (5, 1) := by kernel_rfl
theorem fl36_2 : fldOf Try.prog 36 2 = some (5, 2) := by kernel_rfl
theorem fl36_3 : fldOf Try.prog 36 3 = some (5, 3) := by kernel_rfl
theorem sz37 : szOf Try.prog 37 = some 4 := by kernel_rfl
theorem by37 : byOf Try.prog 37 = some 4 := by kernel_rfl
theorem ag37 : aggOf Try.prog 37 = some true := by kernel_rfl
theorem un37 : (Try.prog.underlying 37).isSome = true := by kernel_rfl
theorem fl37_0 : fldOf Try.prog 37 0 = some (5, 0) := by kernel_rfl
theorem fl37_1 : fldOf Try.prog 37 1 = some (5, 1) := by kernel_rfl
theorem fl37_2 : fldOf Try.prog 37 2 = some (5, 2) := by kernel_rfl
theorem fl37_3 : fldOf Try.prog 37 3 = some (5, 3) := by kernel_rfl
theorem sz38 : szOf Try.prog 38 = some 256 := by kernel_rfl
theorem by38 : byOf Try.prog 38 = some 256 := by kernel_rfl
theorem ag38 : aggOf Try.prog 38 = some true := by kernel_rfl
theorem un38 : (Try.prog.underlying 38).isSome = true := by kernel_rfl
theorem ar38 : arrOf Try.prog 38 = some (64, 37) := by kernel_rfl
theorem sz39 : szOf Try.prog 39 = some 256 := by kernel_rfl
theorem by39 : byOf Try.prog 39 = some 256 := by kernel_rfl
theorem ag39 : aggOf Try.prog 39 = some true := by kernel_rfl
theorem un39 : (Try.prog.underlying 39).isSome = true := by kernel_rfl
theorem ar39 : arrOf Try.prog 39 = some (64, 37) := by kernel_rfl
theorem sz40 : szOf Try.prog 40 = some 1 := by kernel_rfl
theorem by40 : byOf Try.prog 40 = some 8 := by kernel_rfl
theorem ag40 : aggOf Try.prog 40 = some false := by kernel_rfl
theorem un40 : (Try.prog.underlying 40).isSome = true := by kernel_rfl
theorem sz41 : szOf Try.prog 41 = some 1 := by kernel_rfl
theorem by41 : byOf Try.prog 41 = some 8 := by kernel_rfl
theorem ag41 : aggOf Try.prog 41 = some false := by kernel_rfl
theorem un41 : (Try.prog.underlying 41).isSome = true := by kernel_rfl
theorem sz42 : szOf Try.prog 42 = some 1 := by kernel_rfl
theorem by42 : byOf Try.prog 42 = some 8 := by kernel_rfl
theorem ag42 : aggOf Try.prog 42 = some false := by kernel_rfl
theorem un42 : (Try.prog.underlying 42).isSome = true := by kernel_rfl
theorem sz43 : szOf Try.prog 43 = some 1 := by kernel_rfl
theorem by43 : byOf Try.prog 43 = some 8 := by kernel_rfl
theorem ag43 : aggOf Try.prog 43 = some false := by kernel_rfl
theorem un43 : (Try.prog.underlying 43).isSome = true := by kernel_rfl
theorem mp43 : mapOf Try.prog 43 = some (47, 3) := by kernel_rfl
theorem sz44 : szOf Try.prog 44 = some 1 := by kernel_rfl
theorem by44 : byOf Try.prog 44 = some 24 := by kernel_rfl
theorem ag44 : aggOf Try.prog 44 = some false := by kernel_rfl
theorem un44 : (Try.prog.underlying 44).isSome = true := by kernel_rfl
theorem sl44 : sliOf Try.prog 44 = some 47 := by kernel_rfl
theorem sz45 : szOf Try.prog 45 = some 1 := by kernel_rfl
theorem by45 : byOf Try.prog 45 = some 8 := by kernel_rfl
theorem ag45 : aggOf Try.prog 45 = some false := by kernel_rfl
theorem un45 : (Try.prog.underlying 45).isSome = true := by kernel_rfl
theorem sz46 : szOf Try.prog 46 = some 2 := by kernel_rfl
theorem by46 : byOf Try.prog 46 = some 16 := by kernel_rfl
theorem ag46 : aggOf Try.prog 46 = some true := by kernel_rfl
theorem un46 : (Try.prog.underlying 46).isSome = true := by kernel_rfl
theorem fl46_0 : fldOf Try.prog 46 0 = some (3, 0) := by kernel_rfl
theorem fl46_1 : fldOf Try.prog 46 1 = some (3, 1) := by kernel_rfl
theorem sz47 : szOf Try.prog 47 = some 2 := by kernel_rfl
theorem by47 : byOf Try.prog 47 = some 16 := by kernel_rfl
theorem ag47 : aggOf Try.prog 47 = some true := by kernel_rfl
theorem un47 : (Try.prog.underlying 47).isSome = true := by kernel_rfl
theorem fl47_0 : fldOf Try.prog 47 0 = some (3, 0) := by kernel_rfl
theorem fl47_1 : fldOf Try.prog 47 1 = some (3, 1) := by kernel_rfl
theorem sz48 : szOf Try.prog 48 = some 1 := by kernel_rfl
theorem by48 : byOf Try.prog 48 = some 0 := by kernel_rfl
theorem ag48 : aggOf Try.prog 48 = some false := by kernel_rfl
theorem un48 : (Try.prog.underlying 48).isSome = true := by kernel_rfl
theorem sz49 : szOf Try.prog 49 = some 1 := by kernel_rfl
theorem by49 : byOf Try.prog 49 = some 8 := by kernel_rfl
theorem ag49 : aggOf Try.prog 49 = some false := by kernel_rfl
theorem un49 : (Try.prog.underlying 49).isSome = true := by kernel_rfl
theorem sz50 : szOf Try.prog 50 = some 6 := by kernel_rfl
theorem by50 : byOf Try.prog 50 = some 24 := by kernel_rfl
theorem ag50 : aggOf Try.prog 50 = some true := by kernel_rfl
theorem un50 : (Try.prog.underlying 50).isSome = true := by kernel_rfl
theorem fl50_0 : fldOf Try.prog 50 0 = some (3, 0) := by kernel_rfl
theorem fl50_1 : fldOf Try.prog 50 1 = some (3, 1) := by kernel_rfl
theorem fl50_2 : fldOf Try.prog 50 2 = some (37, 2) := by kernel_rfl
theorem sz51 : szOf Try.prog 51 = some 6 := by kernel_rfl
theorem by51 : byOf Try.prog 51 = some 24 := by kernel_rfl
theorem ag51 : aggOf Try.prog 51 = some true := by kernel_rfl
theorem un51 : (Try.prog.underlying 51).isSome = true := by kernel_rfl
theorem fl51_0 : fldOf Try.prog 51 0 = some (3, 0) := by kernel_rfl
theorem fl51_1 : fldOf Try.prog 51 1 = some (3, 1) := by kernel_rfl
theorem fl51_2 : fldOf Try.prog 51 2 = some (37, 2) := by kernel_rfl
theorem sz52 : szOf Try.prog 52 = some 1 := by kernel_rfl
theorem by52 : byOf Try.prog 52 = some 8 := by kernel_rfl
theorem ag52 : aggOf Try.prog 52 = some false := by kernel_rfl
theorem un52 : (Try.prog.underlying 52).isSome = true := by kernel_rfl
theorem sz53 : szOf Try.prog 53 = some 1 := by kernel_rfl
theorem by53 : byOf Try.prog 53 = some 8 := by kernel_rfl
theorem ag53 : aggOf Try.prog 53 = some false := by kernel_rfl
theorem un53 : (Try.prog.underlying 53).isSome = true := by kernel_rfl
theorem sz54 : szOf Try.prog 54 = some 1 := by kernel_rfl
theorem by54 : byOf Try.prog 54 = some 8 := by kernel_rfl
theorem ag54 : aggOf Try.prog 54 = some false := by kernel_rfl
theorem un54 : (Try.prog.underlying 54).isSome = true := by kernel_rfl
theorem sz55 : szOf Try.prog 55 = some 1 := by kernel_rfl
theorem by55 : byOf Try.prog 55 = some 8 := by kernel_rfl
theorem ag55 : aggOf Try.prog 55 = some false := by kernel_rfl
theorem un55 : (Try.prog.underlying 55).isSome = true := by kernel_rfl
theorem sz56 : szOf Try.prog 56 = some 1 := by kernel_rfl
theorem by56 : byOf Try.prog 56 = some 8 := by kernel_rfl
theorem ag56 : aggOf Try.prog 56 = some false := by kernel_rfl
theorem un56 : (Try.prog.underlying 56).isSome = true := by kernel_rfl
theorem sz57 : szOf Try.prog 57 = some 1 := by kernel_rfl
theorem by57 : byOf Try.prog 57 = some 8 := by kernel_rfl
theorem ag57 : aggOf Try.prog 57 = some false := by kernel_rfl
theorem un57 : (Try.prog.underlying 57).isSome = true := by kernel_rfl
theorem sz58 : szOf Try.prog 58 = some 1 := by kernel_rfl
theorem by58 : byOf Try.prog 58 = some 8 := by kernel_rfl
theorem ag58 : aggOf Try.prog 58 = some false := by kernel_rfl
theorem un58 : (Try.prog.underlying 58).isSome = true := by kernel_rfl
theorem sz59 : szOf Try.prog 59 = some 1 := by kernel_rfl
theorem by59 : byOf Try.prog 59 = some 8 := by kernel_rfl
theorem ag59 : aggOf Try.prog 59 = some false := by kernel_rfl
theorem un59 : (Try.prog.underlying 59).isSome = true := by kernel_rfl
theorem sz60 : szOf Try.prog 60 = some 1 := by kernel_rfl
theorem by60 : byOf Try.prog 60 = some 0 := by kernel_rfl
theorem ag60 : aggOf Try.prog 60 = some false := by kernel_rfl
theorem un60 : (Try.prog.underlying 60).isSome = true := by kernel_rfl
theorem sz61 : szOf Try.prog 61 = some 1 := by kernel_rfl
theorem by61 : byOf Try.prog 61 = some 8 := by kernel_rfl
theorem ag61 : aggOf Try.prog 61 = some false := by kernel_rfl
theorem un61 : (Try.prog.underlying 61).isSome = true := by kernel_rfl
theorem sz62 : szOf Try.prog 62 = some 1 := by kernel_rfl
theorem by62 : byOf Try.prog 62 = some 8 := by kernel_rfl
theorem ag62 : aggOf Try.prog 62 = some false := by kernel_rfl
theorem un62 : (Try.prog.underlying 62).isSome = true := by kernel_rfl
theorem sz63 : szOf Try.prog 63 = some 1 := by kernel_rfl
theorem by63 : byOf Try.prog 63 = some 8 := by kernel_rfl
theorem ag63 : aggOf Try.prog 63 = some false := by kernel_rfl
theorem un63 : (Try.prog.underlying 63).isSome = true := by kernel_rfl
theorem sz64 : szOf Try.prog 64 = some 1 := by kernel_rfl
theorem by64 : byOf Try.prog 64 = some 8 := by kernel_rfl
theorem ag64 : aggOf Try.prog 64 = some false := by kernel_rfl
theorem un64 : (Try.prog.underlying 64).isSome = true := by kernel_rfl
theorem sz65 : szOf Try.prog 65 = some 1 := by kernel_rfl
theorem by65 : byOf Try.prog 65 = some 8 := by kernel_rfl
theorem ag65 : aggOf Try.prog 65 = some false := by kernel_rfl
theorem un65 : (Try.prog.underlying 65).isSome = true := by kernel_rfl
theorem sz66 : szOf Try.prog 66 = some 1 := by kernel_rfl
theorem by66 : byOf Try.prog 66 = some 8 := by kernel_rfl
theorem ag66 : aggOf Try.prog 66 = some false := by kernel_rfl
theorem un66 : (Try.prog.underlying 66).isSome = true := by kernel_rfl
theorem sz67 : szOf Try.prog 67 = some 1 := by kernel_rfl
theorem by67 : byOf Try.prog 67 = some 8 := by kernel_rfl
theorem ag67 : aggOf Try.prog 67 = some false := by kernel_rfl
theorem un67 : (Try.prog.underlying 67).isSome = true := by kernel_rfl
theorem sz68 : szOf Try.prog 68 = some 1 := by kernel_rfl
theorem by68 : byOf Try.prog 68 = some 8 := by kernel_rfl
theorem ag68 : aggOf Try.prog 68 = some false := by kernel_rfl
theorem un68 : (Try.prog.underlying 68).isSome = true := by kernel_rfl
theorem sz69 : szOf Try.prog 69 = some 1 := by kernel_rfl
theorem by69 : byOf Try.prog 69 = some 8 := by kernel_rfl
theorem ag69 : aggOf Try.prog 69 = some false := by kernel_rfl
theorem un69 : (Try.prog.underlying 69).isSome = true := by kernel_rfl
theorem sz70 : szOf Try.prog 70 = some 1 := by kernel_rfl
theorem by70 : byOf Try.prog 70 = some 24 := by kernel_rfl
theorem ag70 : aggOf Try.prog 70 = some false := by kernel_rfl
theorem un70 : (Try.prog.underlying 70).isSome = true := by kernel_rfl
theorem sl70 : sliOf Try.prog 70 = some 73 := by kernel_rfl
theorem sz71 : szOf Try.prog 71 = some 1 := by kernel_rfl
theorem by71 : byOf Try.prog 71 = some 24 := by kernel_rfl
theorem ag71 : aggOf Try.prog 71 = some false := by kernel_rfl
theorem un71 : (Try.prog.underlying 71).isSome = true := by kernel_rfl
theorem sl71 : sliOf Try.prog 71 = some 37 := by kernel_rfl
theorem sz72 : szOf Try.prog 72 = some 1 := by kernel_rfl
theorem by72 : byOf Try.prog 72 = some 8 := by kernel_rfl
theorem ag72 : aggOf Try.prog 72 = some false := by kernel_rfl
theorem un72 : (Try.prog.underlying 72).isSome = true := by kernel_rfl
theorem sz73 : szOf Try.prog 73 = some 2 := by kernel_rfl
theorem by73 : byOf Try.prog 73 = some 16 := by kernel_rfl
theorem ag73 : aggOf Try.prog 73 = some true := by kernel_rfl
theorem un73 : (Try.prog.underlying 73).isSome = true := by kernel_rfl
theorem ar73 : arrOf Try.prog 73 = some (2, 3) := by kernel_rfl
theorem sz74 : szOf Try.prog 74 = some 3 := by kernel_rfl
theorem by74 : byOf Try.prog 74 = some 40 := by kernel_rfl
theorem ag74 : aggOf Try.prog 74 = some true := by kernel_rfl
theorem un74 : (Try.prog.underlying 74).isSome = true := by kernel_rfl
theorem fl74_0 : fldOf Try.prog 74 0 = some (3, 0) := by kernel_rfl
theorem fl74_1 : fldOf Try.prog 74 1 = some (3, 1) := by kernel_rfl
theorem fl74_2 : fldOf Try.prog 74 2 = some (71, 2) := by kernel_rfl
theorem sz75 : szOf Try.prog 75 = some 3 := by kernel_rfl
theorem by75 : byOf Try.prog 75 = some 40 := by kernel_rfl
theorem ag75 : aggOf Try.prog 75 = some true := by kernel_rfl
theorem un75 : (Try.prog.underlying 75).isSome = true := by kernel_rfl
theorem fl75_0 : fldOf Try.prog 75 0 = some (3, 0) := by kernel_rfl
theorem fl75_1 : fldOf Try.prog 75 1 = some (3, 1) := by kernel_rfl
theorem fl75_2 : fldOf Try.prog 75 2 = some (71, 2) := by kernel_rfl
theorem sz76 : szOf Try.prog 76 = some 1 := by kernel_rfl
theorem by76 : byOf Try.prog 76 = some 0 := by kernel_rfl
theorem ag76 : aggOf Try.prog 76 = some false := by kernel_rfl
theorem un76 : (Try.prog.underlying 76).isSome = true := by kernel_rfl
theorem sz77 : szOf Try.prog 77 = some 1 := by kernel_rfl
theorem by77 : byOf Try.prog 77 = some 8 := by kernel_rfl
theorem ag77 : aggOf Try.prog 77 = some false := by kernel_rfl
theorem un77 : (Try.prog.underlying 77).isSome = true := by kernel_rfl
theorem sz78 : szOf Try.prog 78 = some 1 := by kernel_rfl
theorem by78 : byOf Try.prog 78 = some 8 := by kernel_rfl
theorem ag78 : aggOf Try.prog 78 = some false := by kernel_rfl
theorem un78 : (Try.prog.underlying 78).isSome = true := by kernel_rfl
theorem sz79 : szOf Try.prog 79 = some 1 := by kernel_rfl
theorem by79 : byOf Try.prog 79 = some 8 := by kernel_rfl
theorem ag79 : aggOf Try.prog 79 = some false := by kernel_rfl
theorem un79 : (Try.prog.underlying 79).isSome = true := by kernel_rfl
theorem sz80 : szOf Try.prog 80 = some 1 := by kernel_rfl
theorem by80 : byOf Try.prog 80 = some 8 := by kernel_rfl
theorem ag80 : aggOf Try.prog 80 = some false := by kernel_rfl
theorem un80 : (Try.prog.underlying 80).isSome = true := by kernel_rfl
theorem sz81 : szOf Try.prog 81 = some 1 := by kernel_rfl
theorem by81 : byOf Try.prog 81 = some 8 := by kernel_rfl
theorem ag81 : aggOf Try.prog 81 = some false := by kernel_rfl
theorem un81 : (Try.prog.underlying 81).isSome = true := by kernel_rfl
theorem sz82 : szOf Try.prog 82 = some 1 := by kernel_rfl
theorem by82 : byOf Try.prog 82 = some 8 := by kernel_rfl
theorem ag82 : aggOf Try.prog 82 = some false := by kernel_rfl
theorem un82 : (Try.prog.underlying 82).isSome = true := by kernel_rfl
theorem sz83 : szOf Try.prog 83 = some 1 := by kernel_rfl
theorem by83 : byOf Try.prog 83 = some 8 := by kernel_rfl
theorem ag83 : aggOf Try.prog 83 = some false := by kernel_rfl
theorem un83 : (Try.prog.underlying 83).isSome = true := by kernel_rfl
theorem sz84 : szOf Try.prog 84 = some 1 := by kernel_rfl
theorem by84 : byOf Try.prog 84 = some 8 := by kernel_rfl
theorem ag84 : aggOf Try.prog 84 = some false := by kernel_rfl
theorem un84 : (Try.prog.underlying 84).isSome = true := by kernel_rfl
theorem sz85 : szOf Try.prog 85 = some 1 := by kernel_rfl
theorem by85 : byOf Try.prog 85 = some 8 := by kernel_rfl
theorem ag85 : aggOf Try.prog 85 = some false := by kernel_rfl
theorem un85 : (Try.prog.underlying 85).isSome = true := by kernel_rfl
theorem sz86 : szOf Try.prog 86 = some 1 := by kernel_rfl
theorem by86 : byOf Try.prog 86 = some 8 := by kernel_rfl
theorem ag86 : aggOf Try.prog 86 = some false := by kernel_rfl
theorem un86 : (Try.prog.underlying 86).isSome = true := by kernel_rfl
theorem sz87 : szOf Try.prog 87 = some 1 := by kernel_rfl
theorem by87 : byOf Try.prog 87 = some 8 := by kernel_rfl
theorem ag87 : aggOf Try.prog 87 = some false := by kernel_rfl
theorem un87 : (Try.prog.underlying 87).isSome = true := by kernel_rfl
theorem sz88 : szOf Try.prog 88 = some 1 := by kernel_rfl
theorem by88 : byOf Try.prog 88 = some 8 := by kernel_rfl
theorem ag88 : aggOf Try.prog 88 = some false := by kernel_rfl
theorem un88 : (Try.prog.underlying 88).isSome = true := by kernel_rfl
theorem sz89 : szOf Try.prog 89 = some 1 := by kernel_rfl
theorem by89 : byOf Try.prog 89 = some 8 := by kernel_rfl
theorem ag89 : aggOf Try.prog 89 = some false := by kernel_rfl
theorem un89 : (Try.prog.underlying 89).isSome = true := by kernel_rfl
theorem sz90 : szOf Try.prog 90 = some 1 := by kernel_rfl
theorem by90 : byOf Try.prog 90 = some 8 := by kernel_rfl
theorem ag90 : aggOf Try.prog 90 = some false := by kernel_rfl
theorem un90 : (Try.prog.underlying 90).isSome = true := by kernel_rfl
theorem sz91 : szOf Try.prog 91 = some 1 := by kernel_rfl
theorem by91 : byOf Try.prog 91 = some 8 := by kernel_rfl
theorem ag91 : aggOf Try.prog 91 = some false := by kernel_rfl
theorem un91 : (Try.prog.underlying 91).isSome = true := by kernel_rfl
theorem sz92 : szOf Try.prog 92 = some 1 := by kernel_rfl
theorem by92 : byOf Try.prog 92 = some 8 := by kernel_rfl
theorem ag92 : aggOf Try.prog 92 = some false := by kernel_rfl
theorem un92 : (Try.prog.underlying 92).isSome = true := by kernel_rfl
theorem sz93 : szOf Try.prog 93 = some 5 := by kernel_rfl
theorem by93 : byOf Try.prog 93 = some 56 := by kernel_rfl
theorem ag93 : aggOf Try.prog 93 = some true := by kernel_rfl
theorem un93 : (Try.prog.underlying 93).isSome = true := by kernel_rfl
theorem fl93_0 : fldOf Try.prog 93 0 = some (3, 0) := by kernel_rfl
theorem fl93_1 : fldOf Try.prog 93 1 = some (3, 1) := by kernel_rfl
theorem fl93_2 : fldOf Try.prog 93 2 = some (3, 2) := by kernel_rfl
theorem fl93_3 : fldOf Try.prog 93 3 = some (3, 3) := by kernel_rfl
theorem fl93_4 : fldOf Try.prog 93 4 = some (44, 4) := by kernel_rfl
theorem sz94 : szOf Try.prog 94 = some 5 := by kernel_rfl
theorem by94 : byOf Try.prog 94 = some 56 := by kernel_rfl
theorem ag94 : aggOf Try.prog 94 = some true := by kernel_rfl
theorem un94 : (Try.prog.underlying 94).isSome = true := by kernel_rfl
theorem fl94_0 : fldOf Try.prog 94 0 = some (3, 0) := by kernel_rfl
theorem fl94_1 : fldOf Try.prog 94 1 = some (3, 1) := by kernel_rfl
theorem fl94_2 : fldOf Try.prog 94 2 = some (3, 2) := by kernel_rfl
theorem fl94_3 : fldOf Try.prog 94 3 = some (3, 3) := by kernel_rfl
theorem fl94_4 : fldOf Try.prog 94 4 = some (44, 4) := by kernel_rfl
theorem sz95 : szOf Try.prog 95 = some 1 := by kernel_rfl
theorem by95 : byOf Try.prog 95 = some 8 := by kernel_rfl
theorem ag95 : aggOf Try.prog 95 = some false := by kernel_rfl
theorem un95 : (Try.prog.underlying 95).isSome = true := by kernel_rfl
theorem sz96 : szOf Try.prog 96 = some 1 := by kernel_rfl
theorem by96 : byOf Try.prog 96 = some 8 := by kernel_rfl
theorem ag96 : aggOf Try.prog 96 = some false := by kernel_rfl
theorem un96 : (Try.prog.underlying 96).isSome = true := by kernel_rfl
theorem sz97 : szOf Try.prog 97 = some 1 := by kernel_rfl
theorem by97 : byOf Try.prog 97 = some 8 := by kernel_rfl
theorem ag97 : aggOf Try.prog 97 = some false := by kernel_rfl
theorem un97 : (Try.prog.underlying 97).isSome = true := by kernel_rfl
theorem sz98 : szOf Try.prog 98 = some 1 := by kernel_rfl
theorem by98 : byOf Try.prog 98 = some 0 := by kernel_rfl
theorem ag98 : aggOf Try.prog 98 = some false := by kernel_rfl
theorem un98 : (Try.prog.underlying 98).isSome = true := by kernel_rfl
theorem sz99 : szOf Try.prog 99 = some 1 := by kernel_rfl
theorem by99 : byOf Try.prog 99 = some 8 := by kernel_rfl
theorem ag99 : aggOf Try.prog 99 = some false := by kernel_rfl
theorem un99 : (Try.prog.underlying 99).isSome = true := by kernel_rfl
theorem sz100 : szOf Try.prog 100 = some 1 := by kernel_rfl
theorem by100 : byOf Try.prog 100 = some 8 := by kernel_rfl
theorem ag100 : aggOf Try.prog 100 = some false := by kernel_rfl
theorem un100 : (Try.prog.underlying 100).isSome = true := by kernel_rfl
theorem sz101 : szOf Try.prog 101 = some 1 := by kernel_rfl
theorem by101 : byOf Try.prog 101 = some 8 := by kernel_rfl
theorem ag101 : aggOf Try.prog 101 = some false := by kernel_rfl
theorem un101 : (Try.prog.underlying 101).isSome = true := by kernel_rfl
theorem sz102 : szOf Try.prog 102 = some 1 := by kernel_rfl
theorem by102 : byOf Try.prog 102 = some 8 := by kernel_rfl
theorem ag102 : aggOf Try.prog 102 = some false := by kernel_rfl
theorem un102 : (Try.prog.underlying 102).isSome = true := by kernel_rfl
theorem sz103 : szOf Try.prog 103 = some 1 := by kernel_rfl
theorem by103 : byOf Try.prog 103 = some 8 := by kernel_rfl
theorem ag103 : aggOf Try.prog 103 = some false := by kernel_rfl
theorem un103 : (Try.prog.underlying 103).isSome = true := by kernel_rfl
theorem sz104 : szOf Try.prog 104 = some 1 := by kernel_rfl
theorem by104 : byOf Try.prog 104 = some 24 := by kernel_rfl
theorem ag104 : aggOf Try.prog 104 = some false := by kernel_rfl
theorem un104 : (Try.prog.underlying 104).isSome = true := by kernel_rfl
theorem sl104 : sliOf Try.prog 104 = some 106 := by kernel_rfl
theorem sz105 : szOf Try.prog 105 = some 1 := by kernel_rfl
theorem by105 : byOf Try.prog 105 = some 8 := by kernel_rfl
theorem ag105 : aggOf Try.prog 105 = some false := by kernel_rfl
theorem un105 : (Try.prog.underlying 105).isSome = true := by kernel_rfl
theorem sz106 : szOf Try.prog 106 = some 1 := by kernel_rfl
theorem by106 : byOf Try.prog 106 = some 8 := by kernel_rfl
theorem ag106 : aggOf Try.prog 106 = some false := by kernel_rfl
theorem un106 : (Try.prog.underlying 106).isSome = true := by kernel_rfl
theorem po106 : ptrOf Try.prog 106 = some 39 := by kernel_rfl
theorem sz107 : szOf Try.prog 107 = some 1 := by kernel_rfl
theorem by107 : byOf Try.prog 107 = some 8 := by kernel_rfl
theorem ag107 : aggOf Try.prog 107 = some false := by kernel_rfl
theorem un107 : (Try.prog.underlying 107).isSome = true := by kernel_rfl
theorem sz108 : szOf Try.prog 108 = some 2 := by kernel_rfl
theorem by108 : byOf Try.prog 108 = some 16 := by kernel_rfl
theorem ag108 : aggOf Try.prog 108 = some true := by kernel_rfl
theorem un108 : (Try.prog.underlying 108).isSome = true := by kernel_rfl
theorem fl108_0 : fldOf Try.prog 108 0 = some (3, 0) := by kernel_rfl
theorem fl108_1 : fldOf Try.prog 108 1 = some (3, 1) := by kernel_rfl
theorem sz109 : szOf Try.prog 109 = some 2 := by kernel_rfl
theorem by109 : byOf Try.prog 109 = some 16 := by kernel_rfl
theorem ag109 : aggOf Try.prog 109 = some true := by kernel_rfl
theorem un109 : (Try.prog.underlying 109).isSome = true := by kernel_rfl
theorem fl109_0 : fldOf Try.prog 109 0 = some (3, 0) := by kernel_rfl
theorem fl109_1 : fldOf Try.prog 109 1 = some (3, 1) := by kernel_rfl
theorem sz110 : szOf Try.prog 110 = some 3 := by kernel_rfl
theorem by110 : byOf Try.prog 110 = some 40 := by kernel_rfl
theorem ag110 : aggOf Try.prog 110 = some true := by kernel_rfl
theorem un110 : (Try.prog.underlying 110).isSome = true := by kernel_rfl
theorem fl110_0 : fldOf Try.prog 110 0 = some (109, 0) := by kernel_rfl
theorem fl110_1 : fldOf Try.prog 110 1 = some (104, 2) := by kernel_rfl
theorem sz111 : szOf Try.prog 111 = some 3 := by kernel_rfl
theorem by111 : byOf Try.prog 111 = some 40 := by kernel_rfl
theorem ag111 : aggOf Try.prog 111 = some true := by kernel_rfl
theorem un111 : (Try.prog.underlying 111).isSome = true := by kernel_rfl
theorem fl111_0 : fldOf Try.prog 111 0 = some (109, 0) := by kernel_rfl
theorem fl111_1 : fldOf Try.prog 111 1 = some (104, 2) := by kernel_rfl
theorem sz112 : szOf Try.prog 112 = some 1 := by kernel_rfl
theorem by112 : byOf Try.prog 112 = some 8 := by kernel_rfl
theorem ag112 : aggOf Try.prog 112 = some false := by kernel_rfl
theorem un112 : (Try.prog.underlying 112).isSome = true := by kernel_rfl
theorem sz113 : szOf Try.prog 113 = some 1 := by kernel_rfl
theorem by113 : byOf Try.prog 113 = some 8 := by kernel_rfl
theorem ag113 : aggOf Try.prog 113 = some false := by kernel_rfl
theorem un113 : (Try.prog.underlying 113).isSome = true := by kernel_rfl
theorem mp113 : mapOf Try.prog 113 = some (3, 106) := by kernel_rfl
theorem sz114 : szOf Try.prog 114 = some 1 := by kernel_rfl
theorem by114 : byOf Try.prog 114 = some 0 := by kernel_rfl
theorem ag114 : aggOf Try.prog 114 = some false := by kernel_rfl
theorem un114 : (Try.prog.underlying 114).isSome = true := by kernel_rfl
theorem sz115 : szOf Try.prog 115 = some 1 := by kernel_rfl
theorem by115 : byOf Try.prog 115 = some 0 := by kernel_rfl
theorem ag115 : aggOf Try.prog 115 = some false := by kernel_rfl
theorem un115 : (Try.prog.underlying 115).isSome = true := by kernel_rfl
theorem sz116 : szOf Try.prog 116 = some 1 := by kernel_rfl
theorem by116 : byOf Try.prog 116 = some 8 := by kernel_rfl
theorem ag116 : aggOf Try.prog 116 = some false := by kernel_rfl
theorem un116 : (Try.prog.underlying 116).isSome = true := by kernel_rfl
theorem sz117 : szOf Try.prog 117 = some 1 := by kernel_rfl
theorem by117 : byOf Try.prog 117 = some 8 := by kernel_rfl
theorem ag117 : aggOf Try.prog 117 = some false := by kernel_rfl
theorem un117 : (Try.prog.underlying 117).isSome = true := by kernel_rfl
theorem sz118 : szOf Try.prog 118 = some 1 := by kernel_rfl
theorem by118 : byOf Try.prog 118 = some 8 := by kernel_rfl
theorem ag118 : aggOf Try.prog 118 = some false := by kernel_rfl
theorem un118 : (Try.prog.underlying 118).isSome = true := by kernel_rfl
theorem sz119 : szOf Try.prog 119 = some 1 := by kernel_rfl
theorem by119 : byOf Try.prog 119 = some 8 := by kernel_rfl
theorem ag119 : aggOf Try.prog 119 = some false := by kernel_rfl
theorem un119 : (Try.prog.underlying 119).isSome = true := by kernel_rfl
theorem sz120 : szOf Try.prog 120 = some 1 := by kernel_rfl
theorem by120 : byOf Try.prog 120 = some 8 := by kernel_rfl
theorem ag120 : aggOf Try.prog 120 = some false := by kernel_rfl
theorem un120 : (Try.prog.underlying 120).isSome = true := by kernel_rfl
theorem sz121 : szOf Try.prog 121 = some 1 := by kernel_rfl
theorem by121 : byOf Try.prog 121 = some 8 := by kernel_rfl
theorem ag121 : aggOf Try.prog 121 = some false := by kernel_rfl
theorem un121 : (Try.prog.underlying 121).isSome = true := by kernel_rfl
theorem sz122 : szOf Try.prog 122 = some 1 := by kernel_rfl
theorem by122 : byOf Try.prog 122 = some 0 := by kernel_rfl
theorem ag122 : aggOf Try.prog 122 = some false := by kernel_rfl
theorem un122 : (Try.prog.underlying 122).isSome = true := by kernel_rfl
theorem sz123 : szOf Try.prog 123 = some 1 := by kernel_rfl
theorem by123 : byOf Try.prog 123 = some 8 := by kernel_rfl
theorem ag123 : aggOf Try.prog 123 = some false := by kernel_rfl
theorem un123 : (Try.prog.underlying 123).isSome = true := by kernel_rfl
theorem sz124 : szOf Try.prog 124 = some 1 := by kernel_rfl
theorem by124 : byOf Try.prog 124 = some 8 := by kernel_rfl
theorem ag124 : aggOf Try.prog 124 = some false := by kernel_rfl
theorem un124 : (Try.prog.underlying 124).isSome = true := by kernel_rfl
theorem sz125 : szOf Try.prog 125 = some 1 := by kernel_rfl
theorem by125 : byOf Try.prog 125 = some 8 := by kernel_rfl
theorem ag125 : aggOf Try.prog 125 = some false := by kernel_rfl
theorem un125 : (Try.prog.underlying 125).isSome = true := by kernel_rfl
theorem sz126 : szOf Try.prog 126 = some 1 := by kernel_rfl
theorem by126 : byOf Try.prog 126 = some 8 := by kernel_rfl
theorem ag126 : aggOf Try.prog 126 = some false := by kernel_rfl
theorem un126 : (Try.prog.underlying 126).isSome = true := by kernel_rfl
theorem sz127 : szOf Try.prog 127 = some 1 := by kernel_rfl
theorem by127 : byOf Try.prog 127 = some 8 := by kernel_rfl
theorem ag127 : aggOf Try.prog 127 = some false := by kernel_rfl
theorem un127 : (Try.prog.underlying 127).isSome = true := by kernel_rfl
theorem sz128 : szOf Try.prog 128 = some 1 := by kernel_rfl
theorem by128 : byOf Try.prog 128 = some 8 := by kernel_rfl
theorem ag128 : aggOf Try.prog 128 = some false := by kernel_rfl
theorem un128 : (Try.prog.underlying 128).isSome = true := by kernel_rfl
theorem sz129 : szOf Try.prog 129 = some 1 := by kernel_rfl
theorem by129 : byOf Try.prog 129 = some 8 := by kernel_rfl
theorem ag129 : aggOf Try.prog 129 = some false := by kernel_rfl
theorem un129 : (Try.prog.underlying 129).isSome = true := by kernel_rfl
theorem sz130 : szOf Try.prog 130 = some 1 := by kernel_rfl
theorem by130 : byOf Try.prog 130 = some 8 := by kernel_rfl
theorem ag130 : aggOf Try.prog 130 = some false := by kernel_rfl
theorem un130 : (Try.prog.underlying 130).isSome = true := by kernel_rfl
theorem sz131 : szOf Try.prog 131 = some 1 := by kernel_rfl
theorem by131 : byOf Try.prog 131 = some 8 := by kernel_rfl
theorem ag131 : aggOf Try.prog 131 = some false := by kernel_rfl
theorem un131 : (Try.prog.underlying 131).isSome = true := by kernel_rfl
theorem sz132 : szOf Try.prog 132 = some 1 := by kernel_rfl
theorem by132 : byOf Try.prog 132 = some 8 := by kernel_rfl
theorem ag132 : aggOf Try.prog 132 = some false := by kernel_rfl
theorem un132 : (Try.prog.underlying 132).isSome = true := by kernel_rfl
theorem sz133 : szOf Try.prog 133 = some 1 := by kernel_rfl
theorem by133 : byOf Try.prog 133 = some 8 := by kernel_rfl
theorem ag133 : aggOf Try.prog 133 = some false := by kernel_rfl
theorem un133 : (Try.prog.underlying 133).isSome = true := by kernel_rfl
theorem sz134 : szOf Try.prog 134 = some 1 := by kernel_rfl
theorem by134 : byOf Try.prog 134 = some 8 := by kernel_rfl
theorem ag134 : aggOf Try.prog 134 = some false := by kernel_rfl
theorem un134 : (Try.prog.underlying 134).isSome = true := by kernel_rfl
theorem po134 : ptrOf Try.prog 134 = some 138 := by kernel_rfl
theorem sz135 : szOf Try.prog 135 = some 1 := by kernel_rfl
theorem by135 : byOf Try.prog 135 = some 8 := by kernel_rfl
theorem ag135 : aggOf Try.prog 135 = some false := by kernel_rfl
theorem un135 : (Try.prog.underlying 135).isSome = true := by kernel_rfl
theorem sz136 : szOf Try.prog 136 = some 1 := by kernel_rfl
theorem by136 : byOf Try.prog 136 = some 8 := by kernel_rfl
theorem ag136 : aggOf Try.prog 136 = some false := by kernel_rfl
theorem un136 : (Try.prog.underlying 136).isSome = true := by kernel_rfl
theorem sz137 : szOf Try.prog 137 = some 3 := by kernel_rfl
theorem by137 : byOf Try.prog 137 = some 40 := by kernel_rfl
theorem ag137 : aggOf Try.prog 137 = some true := by kernel_rfl
theorem un137 : (Try.prog.underlying 137).isSome = true := by kernel_rfl
theorem fl137_0 : fldOf Try.prog 137 0 = some (75, 0) := by kernel_rfl
theorem sz138 : szOf Try.prog 138 = some 3 := by kernel_rfl
theorem by138 : byOf Try.prog 138 = some 40 := by kernel_rfl
theorem ag138 : aggOf Try.prog 138 = some true := by kernel_rfl
theorem un138 : (Try.prog.underlying 138).isSome = true := by kernel_rfl
theorem fl138_0 : fldOf Try.prog 138 0 = some (75, 0) := by kernel_rfl
theorem sz139 : szOf Try.prog 139 = some 1 := by kernel_rfl
theorem by139 : byOf Try.prog 139 = some 8 := by kernel_rfl
theorem ag139 : aggOf Try.prog 139 = some false := by kernel_rfl
theorem un139 : (Try.prog.underlying 139).isSome = true := by kernel_rfl
theorem sz140 : szOf Try.prog 140 = some 1 := by kernel_rfl
theorem by140 : byOf Try.prog 140 = some 8 := by kernel_rfl
theorem ag140 : aggOf Try.prog 140 = some false := by kernel_rfl
theorem un140 : (Try.prog.underlying 140).isSome = true := by kernel_rfl
theorem sz141 : szOf Try.prog 141 = some 1 := by kernel_rfl
theorem by141 : byOf Try.prog 141 = some 8 := by kernel_rfl
theorem ag141 : aggOf Try.prog 141 = some false := by kernel_rfl
theorem un141 : (Try.prog.underlying 141).isSome = true := by kernel_rfl
theorem sz142 : szOf Try.prog 142 = some 1 := by kernel_rfl
theorem by142 : byOf Try.prog 142 = some 8 := by kernel_rfl
theorem ag142 : aggOf Try.prog 142 = some false := by kernel_rfl
theorem un142 : (Try.prog.underlying 142).isSome = true := by kernel_rfl
theorem sz143 : szOf Try.prog 143 = some 1 := by kernel_rfl
theorem by143 : byOf Try.prog 143 = some 8 := by kernel_rfl
theorem ag143 : aggOf Try.prog 143 = some false := by kernel_rfl
theorem un143 : (Try.prog.underlying 143).isSome = true := by kernel_rfl
theorem sz144 : szOf Try.prog 144 = some 1 := by kernel_rfl
theorem by144 : byOf Try.prog 144 = some 8 := by kernel_rfl
theorem ag144 : aggOf Try.prog 144 = some false := by kernel_rfl
theorem un144 : (Try.prog.underlying 144).isSome = true := by kernel_rfl
theorem sz145 : szOf Try.prog 145 = some 1 := by kernel_rfl
theorem by145 : byOf Try.prog 145 = some 8 := by kernel_rfl
theorem ag145 : aggOf Try.prog 145 = some false := by kernel_rfl
theorem un145 : (Try.prog.underlying 145).isSome = true := by kernel_rfl
theorem sz146 : szOf Try.prog 146 = some 1 := by kernel_rfl
theorem by146 : byOf Try.prog 146 = some 8 := by kernel_rfl
theorem ag146 : aggOf Try.prog 146 = some false := by kernel_rfl
theorem un146 : (Try.prog.underlying 146).isSome = true := by kernel_rfl
theorem po146 : ptrOf Try.prog 146 = some 148 := by kernel_rfl
theorem sz147 : szOf Try.prog 147 = some 256 := by kernel_rfl
theorem by147 : byOf Try.prog 147 = some 256 := by kernel_rfl
theorem ag147 : aggOf Try.prog 147 = some true := by kernel_rfl
theorem un147 : (Try.prog.underlying 147).isSome = true := by kernel_rfl
theorem fl147_0 : fldOf Try.prog 147 0 = some (39, 0) := by kernel_rfl
theorem sz148 : szOf Try.prog 148 = some 256 := by kernel_rfl
theorem by148 : byOf Try.prog 148 = some 256 := by kernel_rfl
theorem ag148 : aggOf Try.prog 148 = some true := by kernel_rfl
theorem un148 : (Try.prog.underlying 148).isSome = true := by kernel_rfl
theorem fl148_0 : fldOf Try.prog 148 0 = some (39, 0) := by kernel_rfl
theorem sz149 : szOf Try.prog 149 = some 1 := by kernel_rfl
theorem by149 : byOf Try.prog 149 = some 8 := by kernel_rfl
theorem ag149 : aggOf Try.prog 149 = some false := by kernel_rfl
theorem un149 : (Try.prog.underlying 149).isSome = true := by kernel_rfl
theorem sz150 : szOf Try.prog 150 = some 1 := by kernel_rfl
theorem by150 : byOf Try.prog 150 = some 8 := by kernel_rfl
theorem ag150 : aggOf Try.prog 150 = some false := by kernel_rfl
theorem un150 : (Try.prog.underlying 150).isSome = true := by kernel_rfl
theorem io150 : intOf? Try.prog 150 = some .u64 := by kernel_rfl
theorem sz151 : szOf Try.prog 151 = some 1 := by kernel_rfl
theorem by151 : byOf Try.prog 151 = some 0 := by kernel_rfl
theorem ag151 : aggOf Try.prog 151 = some false := by kernel_rfl
theorem un151 : (Try.prog.underlying 151).isSome = true := by kernel_rfl
theorem sz152 : szOf Try.prog 152 = some 1 := by kernel_rfl
theorem by152 : byOf Try.prog 152 = some 8 := by kernel_rfl
theorem ag152 : aggOf Try.prog 152 = some false := by kernel_rfl
theorem un152 : (Try.prog.underlying 152).isSome = true := by kernel_rfl
theorem sz153 : szOf Try.prog 153 = some 1 := by kernel_rfl
theorem by153 : byOf Try.prog 153 = some 0 := by kernel_rfl
theorem ag153 : aggOf Try.prog 153 = some false := by kernel_rfl
theorem un153 : (Try.prog.underlying 153).isSome = true := by kernel_rfl
theorem sz154 : szOf Try.prog 154 = some 1 := by kernel_rfl
theorem by154 : byOf Try.prog 154 = some 8 := by kernel_rfl
theorem ag154 : aggOf Try.prog 154 = some false := by kernel_rfl
theorem un154 : (Try.prog.underlying 154).isSome = true := by kernel_rfl
theorem sz155 : szOf Try.prog 155 = some 4 := by kernel_rfl
theorem by155 : byOf Try.prog 155 = some 4 := by kernel_rfl
theorem ag155 : aggOf Try.prog 155 = some true := by kernel_rfl
theorem un155 : (Try.prog.underlying 155).isSome = true := by kernel_rfl
theorem ar155 : arrOf Try.prog 155 = some (4, 5) := by kernel_rfl
theorem sz156 : szOf Try.prog 156 = some 1 := by kernel_rfl
theorem by156 : byOf Try.prog 156 = some 8 := by kernel_rfl
theorem ag156 : aggOf Try.prog 156 = some false := by kernel_rfl
theorem un156 : (Try.prog.underlying 156).isSome = true := by kernel_rfl
theorem sz157 : szOf Try.prog 157 = some 1 := by kernel_rfl
theorem by157 : byOf Try.prog 157 = some 8 := by kernel_rfl
theorem ag157 : aggOf Try.prog 157 = some false := by kernel_rfl
theorem un157 : (Try.prog.underlying 157).isSome = true := by kernel_rfl
theorem sz158 : szOf Try.prog 158 = some 1 := by kernel_rfl
theorem by158 : byOf Try.prog 158 = some 8 := by kernel_rfl
theorem ag158 : aggOf Try.prog 158 = some false := by kernel_rfl
theorem un158 : (Try.prog.underlying 158).isSome = true := by kernel_rfl
theorem sz159 : szOf Try.prog 159 = some 4 := by kernel_rfl
theorem by159 : byOf Try.prog 159 = some 4 := by kernel_rfl
theorem ag159 : aggOf Try.prog 159 = some true := by kernel_rfl
theorem un159 : (Try.prog.underlying 159).isSome = true := by kernel_rfl
theorem fl159_0 : fldOf Try.prog 159 0 = some (37, 0) := by kernel_rfl
theorem sz160 : szOf Try.prog 160 = some 4 := by kernel_rfl
theorem by160 : byOf Try.prog 160 = some 4 := by kernel_rfl
theorem ag160 : aggOf Try.prog 160 = some true := by kernel_rfl
theorem un160 : (Try.prog.underlying 160).isSome = true := by kernel_rfl
theorem fl160_0 : fldOf Try.prog 160 0 = some (37, 0) := by kernel_rfl
theorem sz161 : szOf Try.prog 161 = some 4 := by kernel_rfl
theorem by161 : byOf Try.prog 161 = some 32 := by kernel_rfl
theorem ag161 : aggOf Try.prog 161 = some true := by kernel_rfl
theorem un161 : (Try.prog.underlying 161).isSome = true := by kernel_rfl
theorem ar161 : arrOf Try.prog 161 = some (4, 3) := by kernel_rfl
theorem sz162 : szOf Try.prog 162 = some 1 := by kernel_rfl
theorem by162 : byOf Try.prog 162 = some 8 := by kernel_rfl
theorem ag162 : aggOf Try.prog 162 = some false := by kernel_rfl
theorem un162 : (Try.prog.underlying 162).isSome = true := by kernel_rfl
theorem sz163 : szOf Try.prog 163 = some 1 := by kernel_rfl
theorem by163 : byOf Try.prog 163 = some 8 := by kernel_rfl
theorem ag163 : aggOf Try.prog 163 = some false := by kernel_rfl
theorem un163 : (Try.prog.underlying 163).isSome = true := by kernel_rfl
theorem sz164 : szOf Try.prog 164 = some 1 := by kernel_rfl
theorem by164 : byOf Try.prog 164 = some 4 := by kernel_rfl
theorem ag164 : aggOf Try.prog 164 = some false := by kernel_rfl
theorem un164 : (Try.prog.underlying 164).isSome = true := by kernel_rfl
theorem io164 : intOf? Try.prog 164 = some .u32 := by kernel_rfl
theorem sz165 : szOf Try.prog 165 = some 1 := by kernel_rfl
theorem by165 : byOf Try.prog 165 = some 0 := by kernel_rfl
theorem ag165 : aggOf Try.prog 165 = some false := by kernel_rfl
theorem un165 : (Try.prog.underlying 165).isSome = true := by kernel_rfl
theorem sz166 : szOf Try.prog 166 = some 1 := by kernel_rfl
theorem by166 : byOf Try.prog 166 = some 8 := by kernel_rfl
theorem ag166 : aggOf Try.prog 166 = some false := by kernel_rfl
theorem un166 : (Try.prog.underlying 166).isSome = true := by kernel_rfl
theorem sz167 : szOf Try.prog 167 = some 1 := by kernel_rfl
theorem by167 : byOf Try.prog 167 = some 8 := by kernel_rfl
theorem ag167 : aggOf Try.prog 167 = some false := by kernel_rfl
theorem un167 : (Try.prog.underlying 167).isSome = true := by kernel_rfl
theorem io167 : intOf? Try.prog 167 = some .u64 := by kernel_rfl
theorem sz168 : szOf Try.prog 168 = some 1 := by kernel_rfl
theorem by168 : byOf Try.prog 168 = some 0 := by kernel_rfl
theorem ag168 : aggOf Try.prog 168 = some false := by kernel_rfl
theorem un168 : (Try.prog.underlying 168).isSome = true := by kernel_rfl
theorem sz169 : szOf Try.prog 169 = some 1 := by kernel_rfl
theorem by169 : byOf Try.prog 169 = some 8 := by kernel_rfl
theorem ag169 : aggOf Try.prog 169 = some false := by kernel_rfl
theorem un169 : (Try.prog.underlying 169).isSome = true := by kernel_rfl
theorem sz170 : szOf Try.prog 170 = some 1 := by kernel_rfl
theorem by170 : byOf Try.prog 170 = some 8 := by kernel_rfl
theorem ag170 : aggOf Try.prog 170 = some false := by kernel_rfl
theorem un170 : (Try.prog.underlying 170).isSome = true := by kernel_rfl
theorem sz171 : szOf Try.prog 171 = some 1 := by kernel_rfl
theorem by171 : byOf Try.prog 171 = some 8 := by kernel_rfl
theorem ag171 : aggOf Try.prog 171 = some false := by kernel_rfl
theorem un171 : (Try.prog.underlying 171).isSome = true := by kernel_rfl
theorem sz172 : szOf Try.prog 172 = some 1 := by kernel_rfl
theorem by172 : byOf Try.prog 172 = some 8 := by kernel_rfl
theorem ag172 : aggOf Try.prog 172 = some false := by kernel_rfl
theorem un172 : (Try.prog.underlying 172).isSome = true := by kernel_rfl
theorem sz173 : szOf Try.prog 173 = some 1 := by kernel_rfl
theorem by173 : byOf Try.prog 173 = some 8 := by kernel_rfl
theorem ag173 : aggOf Try.prog 173 = some false := by kernel_rfl
theorem un173 : (Try.prog.underlying 173).isSome = true := by kernel_rfl
theorem sz174 : szOf Try.prog 174 = some 4 := by kernel_rfl
theorem by174 : byOf Try.prog 174 = some 40 := by kernel_rfl
theorem ag174 : aggOf Try.prog 174 = some true := by kernel_rfl
theorem un174 : (Try.prog.underlying 174).isSome = true := by kernel_rfl
theorem fl174_0 : fldOf Try.prog 174 0 = some (17, 0) := by kernel_rfl
theorem fl174_1 : fldOf Try.prog 174 1 = some (17, 1) := by kernel_rfl
theorem fl174_2 : fldOf Try.prog 174 2 = some (17, 2) := by kernel_rfl
theorem fl174_3 : fldOf Try.prog 174 3 = some (9, 3) := by kernel_rfl
theorem sz175 : szOf Try.prog 175 = some 4 := by kernel_rfl
theorem by175 : byOf Try.prog 175 = some 40 := by kernel_rfl
theorem ag175 : aggOf Try.prog 175 = some true := by kernel_rfl
theorem un175 : (Try.prog.underlying 175).isSome = true := by kernel_rfl
theorem fl175_0 : fldOf Try.prog 175 0 = some (17, 0) := by kernel_rfl
theorem fl175_1 : fldOf Try.prog 175 1 = some (17, 1) := by kernel_rfl
theorem fl175_2 : fldOf Try.prog 175 2 = some (17, 2) := by kernel_rfl
theorem fl175_3 : fldOf Try.prog 175 3 = some (9, 3) := by kernel_rfl
theorem sz176 : szOf Try.prog 176 = some 0 := by kernel_rfl
theorem by176 : byOf Try.prog 176 = some 0 := by kernel_rfl
theorem ag176 : aggOf Try.prog 176 = some true := by kernel_rfl
theorem un176 : (Try.prog.underlying 176).isSome = true := by kernel_rfl
theorem ar176 : arrOf Try.prog 176 = some (0, 16) := by kernel_rfl
theorem sz177 : szOf Try.prog 177 = some 0 := by kernel_rfl
theorem by177 : byOf Try.prog 177 = some 0 := by kernel_rfl
theorem ag177 : aggOf Try.prog 177 = some true := by kernel_rfl
theorem un177 : (Try.prog.underlying 177).isSome = true := by kernel_rfl
theorem fl177_0 : fldOf Try.prog 177 0 = some (176, 0) := by kernel_rfl
theorem sz178 : szOf Try.prog 178 = some 0 := by kernel_rfl
theorem by178 : byOf Try.prog 178 = some 0 := by kernel_rfl
theorem ag178 : aggOf Try.prog 178 = some true := by kernel_rfl
theorem un178 : (Try.prog.underlying 178).isSome = true := by kernel_rfl
theorem fl178_0 : fldOf Try.prog 178 0 = some (176, 0) := by kernel_rfl
theorem sz179 : szOf Try.prog 179 = some 1 := by kernel_rfl
theorem by179 : byOf Try.prog 179 = some 8 := by kernel_rfl
theorem ag179 : aggOf Try.prog 179 = some false := by kernel_rfl
theorem un179 : (Try.prog.underlying 179).isSome = true := by kernel_rfl
theorem sz180 : szOf Try.prog 180 = some 1 := by kernel_rfl
theorem by180 : byOf Try.prog 180 = some 1 := by kernel_rfl
theorem ag180 : aggOf Try.prog 180 = some false := by kernel_rfl
theorem un180 : (Try.prog.underlying 180).isSome = true := by kernel_rfl
theorem io180 : intOf? Try.prog 180 = some .u8 := by kernel_rfl
theorem sz181 : szOf Try.prog 181 = some 1 := by kernel_rfl
theorem by181 : byOf Try.prog 181 = some 1 := by kernel_rfl
theorem ag181 : aggOf Try.prog 181 = some false := by kernel_rfl
theorem un181 : (Try.prog.underlying 181).isSome = true := by kernel_rfl
theorem io181 : intOf? Try.prog 181 = some .u8 := by kernel_rfl
theorem sz182 : szOf Try.prog 182 = some 1 := by kernel_rfl
theorem by182 : byOf Try.prog 182 = some 8 := by kernel_rfl
theorem ag182 : aggOf Try.prog 182 = some false := by kernel_rfl
theorem un182 : (Try.prog.underlying 182).isSome = true := by kernel_rfl
theorem sz183 : szOf Try.prog 183 = some 1 := by kernel_rfl
theorem by183 : byOf Try.prog 183 = some 8 := by kernel_rfl
theorem ag183 : aggOf Try.prog 183 = some false := by kernel_rfl
theorem un183 : (Try.prog.underlying 183).isSome = true := by kernel_rfl
theorem po183 : ptrOf Try.prog 183 = some 5 := by kernel_rfl
theorem sz184 : szOf Try.prog 184 = some 1 := by kernel_rfl
theorem by184 : byOf Try.prog 184 = some 4 := by kernel_rfl
theorem ag184 : aggOf Try.prog 184 = some false := by kernel_rfl
theorem un184 : (Try.prog.underlying 184).isSome = true := by kernel_rfl
theorem io184 : intOf? Try.prog 184 = some .i32 := by kernel_rfl
theorem sz185 : szOf Try.prog 185 = some 1 := by kernel_rfl
theorem by185 : byOf Try.prog 185 = some 4 := by kernel_rfl
theorem ag185 : aggOf Try.prog 185 = some false := by kernel_rfl
theorem un185 : (Try.prog.underlying 185).isSome = true := by kernel_rfl
theorem io185 : intOf? Try.prog 185 = some .i32 := by kernel_rfl
theorem sz186 : szOf Try.prog 186 = some 11 := by kernel_rfl
theorem by186 : byOf Try.prog 186 = some 48 := by kernel_rfl
theorem ag186 : aggOf Try.prog 186 = some true := by kernel_rfl
theorem un186 : (Try.prog.underlying 186).isSome = true := by kernel_rfl
theorem fl186_0 : fldOf Try.prog 186 0 = some (12, 0) := by kernel_rfl
theorem fl186_1 : fldOf Try.prog 186 1 = some (12, 1) := by kernel_rfl
theorem fl186_2 : fldOf Try.prog 186 2 = some (164, 2) := by kernel_rfl
theorem fl186_3 : fldOf Try.prog 186 3 = some (180, 3) := by kernel_rfl
theorem fl186_4 : fldOf Try.prog 186 4 = some (5, 4) := by kernel_rfl
theorem fl186_5 : fldOf Try.prog 186 5 = some (5, 5) := by kernel_rfl
theorem fl186_6 : fldOf Try.prog 186 6 = some (181, 6) := by kernel_rfl
theorem fl186_7 : fldOf Try.prog 186 7 = some (182, 7) := by kernel_rfl
theorem fl186_8 : fldOf Try.prog 186 8 = some (183, 8) := by kernel_rfl
theorem fl186_9 : fldOf Try.prog 186 9 = some (184, 9) := by kernel_rfl
theorem fl186_10 : fldOf Try.prog 186 10 = some (185, 10) := by kernel_rfl
theorem sz187 : szOf Try.prog 187 = some 11 := by kernel_rfl
theorem by187 : byOf Try.prog 187 = some 48 := by kernel_rfl
theorem ag187 : aggOf Try.prog 187 = some true := by kernel_rfl
theorem un187 : (Try.prog.underlying 187).isSome = true := by kernel_rfl
theorem fl187_0 : fldOf Try.prog 187 0 = some (12, 0) := by kernel_rfl
theorem fl187_1 : fldOf Try.prog 187 1 = some (12, 1) := by kernel_rfl
theorem fl187_2 : fldOf Try.prog 187 2 = some (164, 2) := by kernel_rfl
theorem fl187_3 : fldOf Try.prog 187 3 = some (180, 3) := by kernel_rfl
theorem fl187_4 : fldOf Try.prog 187 4 = some (5, 4) := by kernel_rfl
theorem fl187_5 : fldOf Try.prog 187 5 = some (5, 5) := by kernel_rfl
theorem fl187_6 : fldOf Try.prog 187 6 = some (181, 6) := by kernel_rfl
theorem fl187_7 : fldOf Try.prog 187 7 = some (182, 7) := by kernel_rfl
theorem fl187_8 : fldOf Try.prog 187 8 = some (183, 8) := by kernel_rfl
theorem fl187_9 : fldOf Try.prog 187 9 = some (184, 9) := by kernel_rfl
theorem fl187_10 : fldOf Try.prog 187 10 = some (185, 10) := by kernel_rfl
theorem sz188 : szOf Try.prog 188 = some 1 := by kernel_rfl
theorem by188 : byOf Try.prog 188 = some 8 := by kernel_rfl
theorem ag188 : aggOf Try.prog 188 = some false := by kernel_rfl
theorem un188 : (Try.prog.underlying 188).isSome = true := by kernel_rfl
end Go.Proofs.Ytbiapeaghbndoaa

