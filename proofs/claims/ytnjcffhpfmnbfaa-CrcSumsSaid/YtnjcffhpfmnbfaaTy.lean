/- Facts on the types of this seat's program. Printed by a program of this seat's prover. -/
import Derived.Test.YtnjcffhpfmnbfaaEq
import Derived.Test.YtnjcffhpfmnbfaaChecked
namespace Go.Proofs.Ytnjcffhpfmnbfaa
open Go.RowKit
theorem mixed : Try.prog.follows .mixedOrders = true := by kernel_rfl
theorem sz0 : szOf Try.prog 0 = some 1 := by kernel_rfl
theorem by0 : byOf Try.prog 0 = some 0 := by kernel_rfl
theorem ag0 : aggOf Try.prog 0 = some false := by kernel_rfl
theorem un0 : (Try.prog.underlying 0).isSome = true := by kernel_rfl
theorem sz1 : szOf Try.prog 1 = some 1 := by kernel_rfl
theorem by1 : byOf Try.prog 1 = some 8 := by kernel_rfl
theorem ag1 : aggOf Try.prog 1 = some false := by kernel_rfl
theorem un1 : (Try.prog.underlying 1).isSome = true := by kernel_rfl
theorem sz2 : szOf Try.prog 2 = some 1 := by kernel_rfl
theorem by2 : byOf Try.prog 2 = some 8 := by kernel_rfl
theorem ag2 : aggOf Try.prog 2 = some false := by kernel_rfl
theorem un2 : (Try.prog.underlying 2).isSome = true := by kernel_rfl
theorem io2 : intOf? Try.prog 2 = some .i64 := by kernel_rfl
theorem sz3 : szOf Try.prog 3 = some 1 := by kernel_rfl
theorem by3 : byOf Try.prog 3 = some 8 := by kernel_rfl
theorem ag3 : aggOf Try.prog 3 = some false := by kernel_rfl
theorem un3 : (Try.prog.underlying 3).isSome = true := by kernel_rfl
theorem io3 : intOf? Try.prog 3 = some .i64 := by kernel_rfl
theorem sz4 : szOf Try.prog 4 = some 1 := by kernel_rfl
theorem by4 : byOf Try.prog 4 = some 1 := by kernel_rfl
theorem ag4 : aggOf Try.prog 4 = some false := by kernel_rfl
theorem un4 : (Try.prog.underlying 4).isSome = true := by kernel_rfl
theorem sz5 : szOf Try.prog 5 = some 1 := by kernel_rfl
theorem by5 : byOf Try.prog 5 = some 1 := by kernel_rfl
theorem ag5 : aggOf Try.prog 5 = some false := by kernel_rfl
theorem un5 : (Try.prog.underlying 5).isSome = true := by kernel_rfl
theorem io5 : intOf? Try.prog 5 = some .u8 := by kernel_rfl
theorem sz6 : szOf Try.prog 6 = some 1 := by kernel_rfl
theorem by6 : byOf Try.prog 6 = some 1 := by kernel_rfl
theorem ag6 : aggOf Try.prog 6 = some false := by kernel_rfl
theorem un6 : (Try.prog.underlying 6).isSome = true := by kernel_rfl
theorem io6 : intOf? Try.prog 6 = some .u8 := by kernel_rfl
theorem sz7 : szOf Try.prog 7 = some 4 := by kernel_rfl
theorem by7 : byOf Try.prog 7 = some 24 := by kernel_rfl
theorem ag7 : aggOf Try.prog 7 = some true := by kernel_rfl
theorem un7 : (Try.prog.underlying 7).isSome = true := by kernel_rfl
theorem fl7_0 : fldOf Try.prog 7 0 = some (2, 0) := by kernel_rfl
theorem fl7_1 : fldOf Try.prog 7 1 = some (3, 1) := by kernel_rfl
theorem fl7_2 : fldOf Try.prog 7 2 = some (4, 2) := by kernel_rfl
theorem fl7_3 : fldOf Try.prog 7 3 = some (6, 3) := by kernel_rfl
theorem sz8 : szOf Try.prog 8 = some 4 := by kernel_rfl
theorem by8 : byOf Try.prog 8 = some 24 := by kernel_rfl
theorem ag8 : aggOf Try.prog 8 = some true := by kernel_rfl
theorem un8 : (Try.prog.underlying 8).isSome = true := by kernel_rfl
theorem fl8_0 : fldOf Try.prog 8 0 = some (2, 0) := by kernel_rfl
theorem fl8_1 : fldOf Try.prog 8 1 = some (3, 1) := by kernel_rfl
theorem fl8_2 : fldOf Try.prog 8 2 = some (4, 2) := by kernel_rfl
theorem fl8_3 : fldOf Try.prog 8 3 = some (6, 3) := by kernel_rfl
theorem sz9 : szOf Try.prog 9 = some 1 := by kernel_rfl
theorem by9 : byOf Try.prog 9 = some 16 := by kernel_rfl
theorem ag9 : aggOf Try.prog 9 = some false := by kernel_rfl
theorem un9 : (Try.prog.underlying 9).isSome = true := by kernel_rfl
theorem st9 : isStr Try.prog 9 = true := by kernel_rfl
theorem sz10 : szOf Try.prog 10 = some 1 := by kernel_rfl
theorem by10 : byOf Try.prog 10 = some 16 := by kernel_rfl
theorem ag10 : aggOf Try.prog 10 = some false := by kernel_rfl
theorem un10 : (Try.prog.underlying 10).isSome = true := by kernel_rfl
theorem st10 : isStr Try.prog 10 = true := by kernel_rfl
theorem sz11 : szOf Try.prog 11 = some 1 := by kernel_rfl
theorem by11 : byOf Try.prog 11 = some 16 := by kernel_rfl
theorem ag11 : aggOf Try.prog 11 = some false := by kernel_rfl
theorem un11 : (Try.prog.underlying 11).isSome = true := by kernel_rfl
theorem st11 : isStr Try.prog 11 = true := by kernel_rfl
theorem sz12 : szOf Try.prog 12 = some 1 := by kernel_rfl
theorem by12 : byOf Try.prog 12 = some 8 := by kernel_rfl
theorem ag12 : aggOf Try.prog 12 = some false := by kernel_rfl
theorem un12 : (Try.prog.underlying 12).isSome = true := by kernel_rfl
theorem io12 : intOf? Try.prog 12 = some .u64 := by kernel_rfl
theorem sz13 : szOf Try.prog 13 = some 2 := by kernel_rfl
theorem by13 : byOf Try.prog 13 = some 24 := by kernel_rfl
theorem ag13 : aggOf Try.prog 13 = some true := by kernel_rfl
theorem un13 : (Try.prog.underlying 13).isSome = true := by kernel_rfl
theorem fl13_0 : fldOf Try.prog 13 0 = some (9, 0) := by kernel_rfl
theorem fl13_1 : fldOf Try.prog 13 1 = some (12, 1) := by kernel_rfl
theorem sz14 : szOf Try.prog 14 = some 2 := by kernel_rfl
theorem by14 : byOf Try.prog 14 = some 24 := by kernel_rfl
theorem ag14 : aggOf Try.prog 14 = some true := by kernel_rfl
theorem un14 : (Try.prog.underlying 14).isSome = true := by kernel_rfl
theorem fl14_0 : fldOf Try.prog 14 0 = some (9, 0) := by kernel_rfl
theorem fl14_1 : fldOf Try.prog 14 1 = some (12, 1) := by kernel_rfl
theorem sz15 : szOf Try.prog 15 = some 1 := by kernel_rfl
theorem by15 : byOf Try.prog 15 = some 8 := by kernel_rfl
theorem ag15 : aggOf Try.prog 15 = some false := by kernel_rfl
theorem un15 : (Try.prog.underlying 15).isSome = true := by kernel_rfl
theorem sz16 : szOf Try.prog 16 = some 1 := by kernel_rfl
theorem by16 : byOf Try.prog 16 = some 8 := by kernel_rfl
theorem ag16 : aggOf Try.prog 16 = some false := by kernel_rfl
theorem un16 : (Try.prog.underlying 16).isSome = true := by kernel_rfl
theorem sz17 : szOf Try.prog 17 = some 1 := by kernel_rfl
theorem by17 : byOf Try.prog 17 = some 8 := by kernel_rfl
theorem ag17 : aggOf Try.prog 17 = some false := by kernel_rfl
theorem un17 : (Try.prog.underlying 17).isSome = true := by kernel_rfl
theorem sz18 : szOf Try.prog 18 = some 1 := by kernel_rfl
theorem by18 : byOf Try.prog 18 = some 8 := by kernel_rfl
theorem ag18 : aggOf Try.prog 18 = some true := by kernel_rfl
theorem un18 : (Try.prog.underlying 18).isSome = true := by kernel_rfl
theorem fl18_0 : fldOf Try.prog 18 0 = some (17, 0) := by kernel_rfl
theorem sz19 : szOf Try.prog 19 = some 1 := by kernel_rfl
theorem by19 : byOf Try.prog 19 = some 8 := by kernel_rfl
theorem ag19 : aggOf Try.prog 19 = some true := by kernel_rfl
theorem un19 : (Try.prog.underlying 19).isSome = true := by kernel_rfl
theorem fl19_0 : fldOf Try.prog 19 0 = some (17, 0) := by kernel_rfl
theorem sz20 : szOf Try.prog 20 = some 1 := by kernel_rfl
theorem by20 : byOf Try.prog 20 = some 16 := by kernel_rfl
theorem ag20 : aggOf Try.prog 20 = some false := by kernel_rfl
theorem un20 : (Try.prog.underlying 20).isSome = true := by kernel_rfl
theorem sz21 : szOf Try.prog 21 = some 1 := by kernel_rfl
theorem by21 : byOf Try.prog 21 = some 4 := by kernel_rfl
theorem ag21 : aggOf Try.prog 21 = some false := by kernel_rfl
theorem un21 : (Try.prog.underlying 21).isSome = true := by kernel_rfl
theorem io21 : intOf? Try.prog 21 = some .i32 := by kernel_rfl
theorem sz22 : szOf Try.prog 22 = some 1 := by kernel_rfl
theorem by22 : byOf Try.prog 22 = some 24 := by kernel_rfl
theorem ag22 : aggOf Try.prog 22 = some false := by kernel_rfl
theorem un22 : (Try.prog.underlying 22).isSome = true := by kernel_rfl
theorem sl22 : sliOf Try.prog 22 = some 25 := by kernel_rfl
theorem sz23 : szOf Try.prog 23 = some 1 := by kernel_rfl
theorem by23 : byOf Try.prog 23 = some 8 := by kernel_rfl
theorem ag23 : aggOf Try.prog 23 = some false := by kernel_rfl
theorem un23 : (Try.prog.underlying 23).isSome = true := by kernel_rfl
theorem sz24 : szOf Try.prog 24 = some 1 := by kernel_rfl
theorem by24 : byOf Try.prog 24 = some 4 := by kernel_rfl
theorem ag24 : aggOf Try.prog 24 = some false := by kernel_rfl
theorem un24 : (Try.prog.underlying 24).isSome = true := by kernel_rfl
theorem io24 : intOf? Try.prog 24 = some .u32 := by kernel_rfl
theorem sz25 : szOf Try.prog 25 = some 2 := by kernel_rfl
theorem by25 : byOf Try.prog 25 = some 8 := by kernel_rfl
theorem ag25 : aggOf Try.prog 25 = some true := by kernel_rfl
theorem un25 : (Try.prog.underlying 25).isSome = true := by kernel_rfl
theorem ar25 : arrOf Try.prog 25 = some (2, 24) := by kernel_rfl
theorem sz26 : szOf Try.prog 26 = some 4 := by kernel_rfl
theorem by26 : byOf Try.prog 26 = some 4 := by kernel_rfl
theorem ag26 : aggOf Try.prog 26 = some true := by kernel_rfl
theorem un26 : (Try.prog.underlying 26).isSome = true := by kernel_rfl
theorem ar26 : arrOf Try.prog 26 = some (4, 5) := by kernel_rfl
theorem sz27 : szOf Try.prog 27 = some 1 := by kernel_rfl
theorem by27 : byOf Try.prog 27 = some 8 := by kernel_rfl
theorem ag27 : aggOf Try.prog 27 = some false := by kernel_rfl
theorem un27 : (Try.prog.underlying 27).isSome = true := by kernel_rfl
theorem sz28 : szOf Try.prog 28 = some 1 := by kernel_rfl
theorem by28 : byOf Try.prog 28 = some 8 := by kernel_rfl
theorem ag28 : aggOf Try.prog 28 = some false := by kernel_rfl
theorem un28 : (Try.prog.underlying 28).isSome = true := by kernel_rfl
theorem sz29 : szOf Try.prog 29 = some 1 := by kernel_rfl
theorem by29 : byOf Try.prog 29 = some 24 := by kernel_rfl
theorem ag29 : aggOf Try.prog 29 = some false := by kernel_rfl
theorem un29 : (Try.prog.underlying 29).isSome = true := by kernel_rfl
theorem sl29 : sliOf Try.prog 29 = some 5 := by kernel_rfl
theorem sz30 : szOf Try.prog 30 = some 1 := by kernel_rfl
theorem by30 : byOf Try.prog 30 = some 8 := by kernel_rfl
theorem ag30 : aggOf Try.prog 30 = some false := by kernel_rfl
theorem un30 : (Try.prog.underlying 30).isSome = true := by kernel_rfl
theorem sz31 : szOf Try.prog 31 = some 1 := by kernel_rfl
theorem by31 : byOf Try.prog 31 = some 8 := by kernel_rfl
theorem ag31 : aggOf Try.prog 31 = some false := by kernel_rfl
theorem un31 : (Try.prog.underlying 31).isSome = true := by kernel_rfl
theorem sz32 : szOf Try.prog 32 = some 1 := by kernel_rfl
theorem by32 : byOf Try.prog 32 = some 8 := by kernel_rfl
theorem ag32 : aggOf Try.prog 32 = some false := by kernel_rfl
theorem un32 : (Try.prog.underlying 32).isSome = true := by kernel_rfl
theorem sz33 : szOf Try.prog 33 = some 1 := by kernel_rfl
theorem by33 : byOf Try.prog 33 = some 8 := by kernel_rfl
theorem ag33 : aggOf Try.prog 33 = some false := by kernel_rfl
theorem un33 : (Try.prog.underlying 33).isSome = true := by kernel_rfl
theorem io33 : intOf? Try.prog 33 = some .i64 := by kernel_rfl
theorem sz34 : szOf Try.prog 34 = some 1 := by kernel_rfl
theorem by34 : byOf Try.prog 34 = some 0 := by kernel_rfl
theorem ag34 : aggOf Try.prog 34 = some false := by kernel_rfl
theorem un34 : (Try.prog.underlying 34).isSome = true := by kernel_rfl
theorem sz35 : szOf Try.prog 35 = some 1 := by kernel_rfl
theorem by35 : byOf Try.prog 35 = some 8 := by kernel_rfl
theorem ag35 : aggOf Try.prog 35 = some false := by kernel_rfl
theorem un35 : (Try.prog.underlying 35).isSome = true := by kernel_rfl
theorem sz36 : szOf Try.prog 36 = some 1 := by kernel_rfl
theorem by36 : byOf Try.prog 36 = some 0 := by kernel_rfl
theorem ag36 : aggOf Try.prog 36 = some false := by kernel_rfl
theorem un36 : (Try.prog.underlying 36).isSome = true := by kernel_rfl
theorem sz37 : szOf Try.prog 37 = some 1 := by kernel_rfl
theorem by37 : byOf Try.prog 37 = some 8 := by kernel_rfl
theorem ag37 : aggOf Try.prog 37 = some false := by kernel_rfl
theorem un37 : (Try.prog.underlying 37).isSome = true := by kernel_rfl
theorem sz38 : szOf Try.prog 38 = some 1 := by kernel_rfl
theorem by38 : byOf Try.prog 38 = some 8 := by kernel_rfl
theorem ag38 : aggOf Try.prog 38 = some false := by kernel_rfl
theorem un38 : (Try.prog.underlying 38).isSome = true := by kernel_rfl
theorem sz39 : szOf Try.prog 39 = some 1 := by kernel_rfl
theorem by39 : byOf Try.prog 39 = some 8 := by kernel_rfl
theorem ag39 : aggOf Try.prog 39 = some false := by kernel_rfl
theorem un39 : (Try.prog.underlying 39).isSome = true := by kernel_rfl
theorem sz40 : szOf Try.prog 40 = some 1 := by kernel_rfl
theorem by40 : byOf Try.prog 40 = some 8 := by kernel_rfl
theorem ag40 : aggOf Try.prog 40 = some false := by kernel_rfl
theorem un40 : (Try.prog.underlying 40).isSome = true := by kernel_rfl
theorem sz41 : szOf Try.prog 41 = some 1 := by kernel_rfl
theorem by41 : byOf Try.prog 41 = some 8 := by kernel_rfl
theorem ag41 : aggOf Try.prog 41 = some false := by kernel_rfl
theorem un41 : (Try.prog.underlying 41).isSome = true := by kernel_rfl
theorem io41 : intOf? Try.prog 41 = some .u64 := by kernel_rfl
theorem sz42 : szOf Try.prog 42 = some 1 := by kernel_rfl
theorem by42 : byOf Try.prog 42 = some 8 := by kernel_rfl
theorem ag42 : aggOf Try.prog 42 = some false := by kernel_rfl
theorem un42 : (Try.prog.underlying 42).isSome = true := by kernel_rfl
theorem sz43 : szOf Try.prog 43 = some 1 := by kernel_rfl
theorem by43 : byOf Try.prog 43 = some 24 := by kernel_rfl
theorem ag43 : aggOf Try.prog 43 = some false := by kernel_rfl
theorem un43 : (Try.prog.underlying 43).isSome = true := by kernel_rfl
theorem sl43 : sliOf Try.prog 43 = some 29 := by kernel_rfl
theorem sz44 : szOf Try.prog 44 = some 1 := by kernel_rfl
theorem by44 : byOf Try.prog 44 = some 24 := by kernel_rfl
theorem ag44 : aggOf Try.prog 44 = some false := by kernel_rfl
theorem un44 : (Try.prog.underlying 44).isSome = true := by kernel_rfl
theorem sl44 : sliOf Try.prog 44 = some 24 := by kernel_rfl
theorem sz45 : szOf Try.prog 45 = some 1 := by kernel_rfl
theorem by45 : byOf Try.prog 45 = some 8 := by kernel_rfl
theorem ag45 : aggOf Try.prog 45 = some false := by kernel_rfl
theorem un45 : (Try.prog.underlying 45).isSome = true := by kernel_rfl
theorem sz46 : szOf Try.prog 46 = some 1 := by kernel_rfl
theorem by46 : byOf Try.prog 46 = some 8 := by kernel_rfl
theorem ag46 : aggOf Try.prog 46 = some false := by kernel_rfl
theorem un46 : (Try.prog.underlying 46).isSome = true := by kernel_rfl
theorem sz47 : szOf Try.prog 47 = some 1 := by kernel_rfl
theorem by47 : byOf Try.prog 47 = some 8 := by kernel_rfl
theorem ag47 : aggOf Try.prog 47 = some false := by kernel_rfl
theorem un47 : (Try.prog.underlying 47).isSome = true := by kernel_rfl
theorem sz48 : szOf Try.prog 48 = some 256 := by kernel_rfl
theorem by48 : byOf Try.prog 48 = some 1024 := by kernel_rfl
theorem ag48 : aggOf Try.prog 48 = some true := by kernel_rfl
theorem un48 : (Try.prog.underlying 48).isSome = true := by kernel_rfl
theorem ar48 : arrOf Try.prog 48 = some (256, 24) := by kernel_rfl
theorem sz49 : szOf Try.prog 49 = some 1 := by kernel_rfl
theorem by49 : byOf Try.prog 49 = some 8 := by kernel_rfl
theorem ag49 : aggOf Try.prog 49 = some false := by kernel_rfl
theorem un49 : (Try.prog.underlying 49).isSome = true := by kernel_rfl
theorem sz50 : szOf Try.prog 50 = some 1 := by kernel_rfl
theorem by50 : byOf Try.prog 50 = some 8 := by kernel_rfl
theorem ag50 : aggOf Try.prog 50 = some false := by kernel_rfl
theorem un50 : (Try.prog.underlying 50).isSome = true := by kernel_rfl
theorem sz51 : szOf Try.prog 51 = some 1 := by kernel_rfl
theorem by51 : byOf Try.prog 51 = some 8 := by kernel_rfl
theorem ag51 : aggOf Try.prog 51 = some false := by kernel_rfl
theorem un51 : (Try.prog.underlying 51).isSome = true := by kernel_rfl
theorem sz52 : szOf Try.prog 52 = some 1 := by kernel_rfl
theorem by52 : byOf Try.prog 52 = some 8 := by kernel_rfl
theorem ag52 : aggOf Try.prog 52 = some false := by kernel_rfl
theorem un52 : (Try.prog.underlying 52).isSome = true := by kernel_rfl
theorem sz53 : szOf Try.prog 53 = some 1 := by kernel_rfl
theorem by53 : byOf Try.prog 53 = some 8 := by kernel_rfl
theorem ag53 : aggOf Try.prog 53 = some false := by kernel_rfl
theorem un53 : (Try.prog.underlying 53).isSome = true := by kernel_rfl
theorem sz54 : szOf Try.prog 54 = some 1 := by kernel_rfl
theorem by54 : byOf Try.prog 54 = some 8 := by kernel_rfl
theorem ag54 : aggOf Try.prog 54 = some false := by kernel_rfl
theorem un54 : (Try.prog.underlying 54).isSome = true := by kernel_rfl
theorem sz55 : szOf Try.prog 55 = some 1 := by kernel_rfl
theorem by55 : byOf Try.prog 55 = some 8 := by kernel_rfl
theorem ag55 : aggOf Try.prog 55 = some false := by kernel_rfl
theorem un55 : (Try.prog.underlying 55).isSome = true := by kernel_rfl
theorem sz56 : szOf Try.prog 56 = some 1 := by kernel_rfl
theorem by56 : byOf Try.prog 56 = some 8 := by kernel_rfl
theorem ag56 : aggOf Try.prog 56 = some false := by kernel_rfl
theorem un56 : (Try.prog.underlying 56).isSome = true := by kernel_rfl
theorem sz57 : szOf Try.prog 57 = some 1 := by kernel_rfl
theorem by57 : byOf Try.prog 57 = some 8 := by kernel_rfl
theorem ag57 : aggOf Try.prog 57 = some false := by kernel_rfl
theorem un57 : (Try.prog.underlying 57).isSome = true := by kernel_rfl
theorem sz58 : szOf Try.prog 58 = some 1 := by kernel_rfl
theorem by58 : byOf Try.prog 58 = some 8 := by kernel_rfl
theorem ag58 : aggOf Try.prog 58 = some false := by kernel_rfl
theorem un58 : (Try.prog.underlying 58).isSome = true := by kernel_rfl
theorem sz59 : szOf Try.prog 59 = some 1 := by kernel_rfl
theorem by59 : byOf Try.prog 59 = some 8 := by kernel_rfl
theorem ag59 : aggOf Try.prog 59 = some false := by kernel_rfl
theorem un59 : (Try.prog.underlying 59).isSome = true := by kernel_rfl
theorem sz60 : szOf Try.prog 60 = some 1 := by kernel_rfl
theorem by60 : byOf Try.prog 60 = some 8 := by kernel_rfl
theorem ag60 : aggOf Try.prog 60 = some false := by kernel_rfl
theorem un60 : (Try.prog.underlying 60).isSome = true := by kernel_rfl
theorem sz61 : szOf Try.prog 61 = some 0 := by kernel_rfl
theorem by61 : byOf Try.prog 61 = some 0 := by kernel_rfl
theorem ag61 : aggOf Try.prog 61 = some true := by kernel_rfl
theorem un61 : (Try.prog.underlying 61).isSome = true := by kernel_rfl
theorem sz62 : szOf Try.prog 62 = some 0 := by kernel_rfl
theorem by62 : byOf Try.prog 62 = some 0 := by kernel_rfl
theorem ag62 : aggOf Try.prog 62 = some true := by kernel_rfl
theorem un62 : (Try.prog.underlying 62).isSome = true := by kernel_rfl
theorem sz63 : szOf Try.prog 63 = some 0 := by kernel_rfl
theorem by63 : byOf Try.prog 63 = some 0 := by kernel_rfl
theorem ag63 : aggOf Try.prog 63 = some true := by kernel_rfl
theorem un63 : (Try.prog.underlying 63).isSome = true := by kernel_rfl
theorem sz64 : szOf Try.prog 64 = some 1 := by kernel_rfl
theorem by64 : byOf Try.prog 64 = some 4 := by kernel_rfl
theorem ag64 : aggOf Try.prog 64 = some true := by kernel_rfl
theorem un64 : (Try.prog.underlying 64).isSome = true := by kernel_rfl
theorem fl64_0 : fldOf Try.prog 64 0 = some (63, 0) := by kernel_rfl
theorem fl64_1 : fldOf Try.prog 64 1 = some (24, 0) := by kernel_rfl
theorem sz65 : szOf Try.prog 65 = some 1 := by kernel_rfl
theorem by65 : byOf Try.prog 65 = some 4 := by kernel_rfl
theorem ag65 : aggOf Try.prog 65 = some true := by kernel_rfl
theorem un65 : (Try.prog.underlying 65).isSome = true := by kernel_rfl
theorem fl65_0 : fldOf Try.prog 65 0 = some (63, 0) := by kernel_rfl
theorem fl65_1 : fldOf Try.prog 65 1 = some (24, 0) := by kernel_rfl
theorem sz66 : szOf Try.prog 66 = some 2 := by kernel_rfl
theorem by66 : byOf Try.prog 66 = some 8 := by kernel_rfl
theorem ag66 : aggOf Try.prog 66 = some true := by kernel_rfl
theorem un66 : (Try.prog.underlying 66).isSome = true := by kernel_rfl
theorem fl66_0 : fldOf Try.prog 66 0 = some (21, 0) := by kernel_rfl
theorem fl66_1 : fldOf Try.prog 66 1 = some (24, 1) := by kernel_rfl
theorem sz67 : szOf Try.prog 67 = some 2 := by kernel_rfl
theorem by67 : byOf Try.prog 67 = some 8 := by kernel_rfl
theorem ag67 : aggOf Try.prog 67 = some true := by kernel_rfl
theorem un67 : (Try.prog.underlying 67).isSome = true := by kernel_rfl
theorem fl67_0 : fldOf Try.prog 67 0 = some (21, 0) := by kernel_rfl
theorem fl67_1 : fldOf Try.prog 67 1 = some (24, 1) := by kernel_rfl
theorem sz68 : szOf Try.prog 68 = some 2 := by kernel_rfl
theorem by68 : byOf Try.prog 68 = some 8 := by kernel_rfl
theorem ag68 : aggOf Try.prog 68 = some true := by kernel_rfl
theorem un68 : (Try.prog.underlying 68).isSome = true := by kernel_rfl
theorem fl68_0 : fldOf Try.prog 68 0 = some (62, 0) := by kernel_rfl
theorem fl68_1 : fldOf Try.prog 68 1 = some (67, 0) := by kernel_rfl
theorem sz69 : szOf Try.prog 69 = some 2 := by kernel_rfl
theorem by69 : byOf Try.prog 69 = some 8 := by kernel_rfl
theorem ag69 : aggOf Try.prog 69 = some true := by kernel_rfl
theorem un69 : (Try.prog.underlying 69).isSome = true := by kernel_rfl
theorem fl69_0 : fldOf Try.prog 69 0 = some (62, 0) := by kernel_rfl
theorem fl69_1 : fldOf Try.prog 69 1 = some (67, 0) := by kernel_rfl
theorem sz70 : szOf Try.prog 70 = some 3 := by kernel_rfl
theorem by70 : byOf Try.prog 70 = some 12 := by kernel_rfl
theorem ag70 : aggOf Try.prog 70 = some true := by kernel_rfl
theorem un70 : (Try.prog.underlying 70).isSome = true := by kernel_rfl
theorem fl70_0 : fldOf Try.prog 70 0 = some (62, 0) := by kernel_rfl
theorem fl70_1 : fldOf Try.prog 70 1 = some (65, 0) := by kernel_rfl
theorem fl70_2 : fldOf Try.prog 70 2 = some (69, 1) := by kernel_rfl
theorem sz71 : szOf Try.prog 71 = some 3 := by kernel_rfl
theorem by71 : byOf Try.prog 71 = some 12 := by kernel_rfl
theorem ag71 : aggOf Try.prog 71 = some true := by kernel_rfl
theorem un71 : (Try.prog.underlying 71).isSome = true := by kernel_rfl
theorem fl71_0 : fldOf Try.prog 71 0 = some (62, 0) := by kernel_rfl
theorem fl71_1 : fldOf Try.prog 71 1 = some (65, 0) := by kernel_rfl
theorem fl71_2 : fldOf Try.prog 71 2 = some (69, 1) := by kernel_rfl
theorem sz72 : szOf Try.prog 72 = some 16 := by kernel_rfl
theorem by72 : byOf Try.prog 72 = some 64 := by kernel_rfl
theorem ag72 : aggOf Try.prog 72 = some true := by kernel_rfl
theorem un72 : (Try.prog.underlying 72).isSome = true := by kernel_rfl
theorem ar72 : arrOf Try.prog 72 = some (16, 24) := by kernel_rfl
theorem sz73 : szOf Try.prog 73 = some 19 := by kernel_rfl
theorem by73 : byOf Try.prog 73 = some 76 := by kernel_rfl
theorem ag73 : aggOf Try.prog 73 = some true := by kernel_rfl
theorem un73 : (Try.prog.underlying 73).isSome = true := by kernel_rfl
theorem fl73_0 : fldOf Try.prog 73 0 = some (71, 0) := by kernel_rfl
theorem fl73_1 : fldOf Try.prog 73 1 = some (72, 3) := by kernel_rfl
theorem sz74 : szOf Try.prog 74 = some 19 := by kernel_rfl
theorem by74 : byOf Try.prog 74 = some 76 := by kernel_rfl
theorem ag74 : aggOf Try.prog 74 = some true := by kernel_rfl
theorem un74 : (Try.prog.underlying 74).isSome = true := by kernel_rfl
theorem fl74_0 : fldOf Try.prog 74 0 = some (71, 0) := by kernel_rfl
theorem fl74_1 : fldOf Try.prog 74 1 = some (72, 3) := by kernel_rfl
theorem sz75 : szOf Try.prog 75 = some 1 := by kernel_rfl
theorem by75 : byOf Try.prog 75 = some 8 := by kernel_rfl
theorem ag75 : aggOf Try.prog 75 = some false := by kernel_rfl
theorem un75 : (Try.prog.underlying 75).isSome = true := by kernel_rfl
theorem sz76 : szOf Try.prog 76 = some 2 := by kernel_rfl
theorem by76 : byOf Try.prog 76 = some 16 := by kernel_rfl
theorem ag76 : aggOf Try.prog 76 = some true := by kernel_rfl
theorem un76 : (Try.prog.underlying 76).isSome = true := by kernel_rfl
theorem fl76_0 : fldOf Try.prog 76 0 = some (60, 0) := by kernel_rfl
theorem fl76_1 : fldOf Try.prog 76 1 = some (24, 1) := by kernel_rfl
theorem sz77 : szOf Try.prog 77 = some 2 := by kernel_rfl
theorem by77 : byOf Try.prog 77 = some 16 := by kernel_rfl
theorem ag77 : aggOf Try.prog 77 = some true := by kernel_rfl
theorem un77 : (Try.prog.underlying 77).isSome = true := by kernel_rfl
theorem fl77_0 : fldOf Try.prog 77 0 = some (60, 0) := by kernel_rfl
theorem fl77_1 : fldOf Try.prog 77 1 = some (24, 1) := by kernel_rfl
theorem sz78 : szOf Try.prog 78 = some 1 := by kernel_rfl
theorem by78 : byOf Try.prog 78 = some 8 := by kernel_rfl
theorem ag78 : aggOf Try.prog 78 = some false := by kernel_rfl
theorem un78 : (Try.prog.underlying 78).isSome = true := by kernel_rfl
theorem sz79 : szOf Try.prog 79 = some 1 := by kernel_rfl
theorem by79 : byOf Try.prog 79 = some 8 := by kernel_rfl
theorem ag79 : aggOf Try.prog 79 = some false := by kernel_rfl
theorem un79 : (Try.prog.underlying 79).isSome = true := by kernel_rfl
theorem sz80 : szOf Try.prog 80 = some 1 := by kernel_rfl
theorem by80 : byOf Try.prog 80 = some 8 := by kernel_rfl
theorem ag80 : aggOf Try.prog 80 = some false := by kernel_rfl
theorem un80 : (Try.prog.underlying 80).isSome = true := by kernel_rfl
theorem sz81 : szOf Try.prog 81 = some 1 := by kernel_rfl
theorem by81 : byOf Try.prog 81 = some 8 := by kernel_rfl
theorem ag81 : aggOf Try.prog 81 = some false := by kernel_rfl
theorem un81 : (Try.prog.underlying 81).isSome = true := by kernel_rfl
theorem sz82 : szOf Try.prog 82 = some 1 := by kernel_rfl
theorem by82 : byOf Try.prog 82 = some 8 := by kernel_rfl
theorem ag82 : aggOf Try.prog 82 = some false := by kernel_rfl
theorem un82 : (Try.prog.underlying 82).isSome = true := by kernel_rfl
theorem sz83 : szOf Try.prog 83 = some 1 := by kernel_rfl
theorem by83 : byOf Try.prog 83 = some 8 := by kernel_rfl
theorem ag83 : aggOf Try.prog 83 = some false := by kernel_rfl
theorem un83 : (Try.prog.underlying 83).isSome = true := by kernel_rfl
theorem sz84 : szOf Try.prog 84 = some 1 := by kernel_rfl
theorem by84 : byOf Try.prog 84 = some 8 := by kernel_rfl
theorem ag84 : aggOf Try.prog 84 = some false := by kernel_rfl
theorem un84 : (Try.prog.underlying 84).isSome = true := by kernel_rfl
theorem sz85 : szOf Try.prog 85 = some 1 := by kernel_rfl
theorem by85 : byOf Try.prog 85 = some 8 := by kernel_rfl
theorem ag85 : aggOf Try.prog 85 = some false := by kernel_rfl
theorem un85 : (Try.prog.underlying 85).isSome = true := by kernel_rfl
theorem sz86 : szOf Try.prog 86 = some 1 := by kernel_rfl
theorem by86 : byOf Try.prog 86 = some 8 := by kernel_rfl
theorem ag86 : aggOf Try.prog 86 = some false := by kernel_rfl
theorem un86 : (Try.prog.underlying 86).isSome = true := by kernel_rfl
theorem sz87 : szOf Try.prog 87 = some 1 := by kernel_rfl
theorem by87 : byOf Try.prog 87 = some 8 := by kernel_rfl
theorem ag87 : aggOf Try.prog 87 = some false := by kernel_rfl
theorem un87 : (Try.prog.underlying 87).isSome = true := by kernel_rfl
theorem sz88 : szOf Try.prog 88 = some 1 := by kernel_rfl
theorem by88 : byOf Try.prog 88 = some 8 := by kernel_rfl
theorem ag88 : aggOf Try.prog 88 = some false := by kernel_rfl
theorem un88 : (Try.prog.underlying 88).isSome = true := by kernel_rfl
theorem sz89 : szOf Try.prog 89 = some 1 := by kernel_rfl
theorem by89 : byOf Try.prog 89 = some 8 := by kernel_rfl
theorem ag89 : aggOf Try.prog 89 = some false := by kernel_rfl
theorem un89 : (Try.prog.underlying 89).isSome = true := by kernel_rfl
theorem sz90 : szOf Try.prog 90 = some 1 := by kernel_rfl
theorem by90 : byOf Try.prog 90 = some 8 := by kernel_rfl
theorem ag90 : aggOf Try.prog 90 = some false := by kernel_rfl
theorem un90 : (Try.prog.underlying 90).isSome = true := by kernel_rfl
theorem sz91 : szOf Try.prog 91 = some 1 := by kernel_rfl
theorem by91 : byOf Try.prog 91 = some 8 := by kernel_rfl
theorem ag91 : aggOf Try.prog 91 = some false := by kernel_rfl
theorem un91 : (Try.prog.underlying 91).isSome = true := by kernel_rfl
theorem sz92 : szOf Try.prog 92 = some 1 := by kernel_rfl
theorem by92 : byOf Try.prog 92 = some 8 := by kernel_rfl
theorem ag92 : aggOf Try.prog 92 = some false := by kernel_rfl
theorem un92 : (Try.prog.underlying 92).isSome = true := by kernel_rfl
theorem sz93 : szOf Try.prog 93 = some 1 := by kernel_rfl
theorem by93 : byOf Try.prog 93 = some 8 := by kernel_rfl
theorem ag93 : aggOf Try.prog 93 = some false := by kernel_rfl
theorem un93 : (Try.prog.underlying 93).isSome = true := by kernel_rfl
theorem sz94 : szOf Try.prog 94 = some 1 := by kernel_rfl
theorem by94 : byOf Try.prog 94 = some 8 := by kernel_rfl
theorem ag94 : aggOf Try.prog 94 = some false := by kernel_rfl
theorem un94 : (Try.prog.underlying 94).isSome = true := by kernel_rfl
theorem sz95 : szOf Try.prog 95 = some 1 := by kernel_rfl
theorem by95 : byOf Try.prog 95 = some 8 := by kernel_rfl
theorem ag95 : aggOf Try.prog 95 = some false := by kernel_rfl
theorem un95 : (Try.prog.underlying 95).isSome = true := by kernel_rfl
theorem sz96 : szOf Try.prog 96 = some 1 := by kernel_rfl
theorem by96 : byOf Try.prog 96 = some 8 := by kernel_rfl
theorem ag96 : aggOf Try.prog 96 = some false := by kernel_rfl
theorem un96 : (Try.prog.underlying 96).isSome = true := by kernel_rfl
theorem sz97 : szOf Try.prog 97 = some 1 := by kernel_rfl
theorem by97 : byOf Try.prog 97 = some 8 := by kernel_rfl
theorem ag97 : aggOf Try.prog 97 = some false := by kernel_rfl
theorem un97 : (Try.prog.underlying 97).isSome = true := by kernel_rfl
theorem sz98 : szOf Try.prog 98 = some 1 := by kernel_rfl
theorem by98 : byOf Try.prog 98 = some 8 := by kernel_rfl
theorem ag98 : aggOf Try.prog 98 = some false := by kernel_rfl
theorem un98 : (Try.prog.underlying 98).isSome = true := by kernel_rfl
theorem sz99 : szOf Try.prog 99 = some 1 := by kernel_rfl
theorem by99 : byOf Try.prog 99 = some 8 := by kernel_rfl
theorem ag99 : aggOf Try.prog 99 = some false := by kernel_rfl
theorem un99 : (Try.prog.underlying 99).isSome = true := by kernel_rfl
theorem sz100 : szOf Try.prog 100 = some 1 := by kernel_rfl
theorem by100 : byOf Try.prog 100 = some 8 := by kernel_rfl
theorem ag100 : aggOf Try.prog 100 = some false := by kernel_rfl
theorem un100 : (Try.prog.underlying 100).isSome = true := by kernel_rfl
theorem sz101 : szOf Try.prog 101 = some 1 := by kernel_rfl
theorem by101 : byOf Try.prog 101 = some 8 := by kernel_rfl
theorem ag101 : aggOf Try.prog 101 = some false := by kernel_rfl
theorem un101 : (Try.prog.underlying 101).isSome = true := by kernel_rfl
theorem sz102 : szOf Try.prog 102 = some 1 := by kernel_rfl
theorem by102 : byOf Try.prog 102 = some 8 := by kernel_rfl
theorem ag102 : aggOf Try.prog 102 = some false := by kernel_rfl
theorem un102 : (Try.prog.underlying 102).isSome = true := by kernel_rfl
theorem sz103 : szOf Try.prog 103 = some 1 := by kernel_rfl
theorem by103 : byOf Try.prog 103 = some 8 := by kernel_rfl
theorem ag103 : aggOf Try.prog 103 = some false := by kernel_rfl
theorem un103 : (Try.prog.underlying 103).isSome = true := by kernel_rfl
theorem sz104 : szOf Try.prog 104 = some 4 := by kernel_rfl
theorem by104 : byOf Try.prog 104 = some 40 := by kernel_rfl
theorem ag104 : aggOf Try.prog 104 = some true := by kernel_rfl
theorem un104 : (Try.prog.underlying 104).isSome = true := by kernel_rfl
theorem fl104_0 : fldOf Try.prog 104 0 = some (17, 0) := by kernel_rfl
theorem fl104_1 : fldOf Try.prog 104 1 = some (17, 1) := by kernel_rfl
theorem fl104_2 : fldOf Try.prog 104 2 = some (17, 2) := by kernel_rfl
theorem fl104_3 : fldOf Try.prog 104 3 = some (9, 3) := by kernel_rfl
theorem sz105 : szOf Try.prog 105 = some 4 := by kernel_rfl
theorem by105 : byOf Try.prog 105 = some 40 := by kernel_rfl
theorem ag105 : aggOf Try.prog 105 = some true := by kernel_rfl
theorem un105 : (Try.prog.underlying 105).isSome = true := by kernel_rfl
theorem fl105_0 : fldOf Try.prog 105 0 = some (17, 0) := by kernel_rfl
theorem fl105_1 : fldOf Try.prog 105 1 = some (17, 1) := by kernel_rfl
theorem fl105_2 : fldOf Try.prog 105 2 = some (17, 2) := by kernel_rfl
theorem fl105_3 : fldOf Try.prog 105 3 = some (9, 3) := by kernel_rfl
theorem sz106 : szOf Try.prog 106 = some 0 := by kernel_rfl
theorem by106 : byOf Try.prog 106 = some 0 := by kernel_rfl
theorem ag106 : aggOf Try.prog 106 = some true := by kernel_rfl
theorem un106 : (Try.prog.underlying 106).isSome = true := by kernel_rfl
theorem ar106 : arrOf Try.prog 106 = some (0, 16) := by kernel_rfl
theorem sz107 : szOf Try.prog 107 = some 0 := by kernel_rfl
theorem by107 : byOf Try.prog 107 = some 0 := by kernel_rfl
theorem ag107 : aggOf Try.prog 107 = some true := by kernel_rfl
theorem un107 : (Try.prog.underlying 107).isSome = true := by kernel_rfl
theorem fl107_0 : fldOf Try.prog 107 0 = some (106, 0) := by kernel_rfl
theorem sz108 : szOf Try.prog 108 = some 0 := by kernel_rfl
theorem by108 : byOf Try.prog 108 = some 0 := by kernel_rfl
theorem ag108 : aggOf Try.prog 108 = some true := by kernel_rfl
theorem un108 : (Try.prog.underlying 108).isSome = true := by kernel_rfl
theorem fl108_0 : fldOf Try.prog 108 0 = some (106, 0) := by kernel_rfl
theorem sz109 : szOf Try.prog 109 = some 1 := by kernel_rfl
theorem by109 : byOf Try.prog 109 = some 8 := by kernel_rfl
theorem ag109 : aggOf Try.prog 109 = some false := by kernel_rfl
theorem un109 : (Try.prog.underlying 109).isSome = true := by kernel_rfl
theorem sz110 : szOf Try.prog 110 = some 1 := by kernel_rfl
theorem by110 : byOf Try.prog 110 = some 1 := by kernel_rfl
theorem ag110 : aggOf Try.prog 110 = some false := by kernel_rfl
theorem un110 : (Try.prog.underlying 110).isSome = true := by kernel_rfl
theorem io110 : intOf? Try.prog 110 = some .u8 := by kernel_rfl
theorem sz111 : szOf Try.prog 111 = some 1 := by kernel_rfl
theorem by111 : byOf Try.prog 111 = some 1 := by kernel_rfl
theorem ag111 : aggOf Try.prog 111 = some false := by kernel_rfl
theorem un111 : (Try.prog.underlying 111).isSome = true := by kernel_rfl
theorem io111 : intOf? Try.prog 111 = some .u8 := by kernel_rfl
theorem sz112 : szOf Try.prog 112 = some 1 := by kernel_rfl
theorem by112 : byOf Try.prog 112 = some 8 := by kernel_rfl
theorem ag112 : aggOf Try.prog 112 = some false := by kernel_rfl
theorem un112 : (Try.prog.underlying 112).isSome = true := by kernel_rfl
theorem sz113 : szOf Try.prog 113 = some 1 := by kernel_rfl
theorem by113 : byOf Try.prog 113 = some 8 := by kernel_rfl
theorem ag113 : aggOf Try.prog 113 = some false := by kernel_rfl
theorem un113 : (Try.prog.underlying 113).isSome = true := by kernel_rfl
theorem sz114 : szOf Try.prog 114 = some 1 := by kernel_rfl
theorem by114 : byOf Try.prog 114 = some 4 := by kernel_rfl
theorem ag114 : aggOf Try.prog 114 = some false := by kernel_rfl
theorem un114 : (Try.prog.underlying 114).isSome = true := by kernel_rfl
theorem io114 : intOf? Try.prog 114 = some .i32 := by kernel_rfl
theorem sz115 : szOf Try.prog 115 = some 1 := by kernel_rfl
theorem by115 : byOf Try.prog 115 = some 4 := by kernel_rfl
theorem ag115 : aggOf Try.prog 115 = some false := by kernel_rfl
theorem un115 : (Try.prog.underlying 115).isSome = true := by kernel_rfl
theorem io115 : intOf? Try.prog 115 = some .i32 := by kernel_rfl
theorem sz116 : szOf Try.prog 116 = some 11 := by kernel_rfl
theorem by116 : byOf Try.prog 116 = some 48 := by kernel_rfl
theorem ag116 : aggOf Try.prog 116 = some true := by kernel_rfl
theorem un116 : (Try.prog.underlying 116).isSome = true := by kernel_rfl
theorem fl116_0 : fldOf Try.prog 116 0 = some (12, 0) := by kernel_rfl
theorem fl116_1 : fldOf Try.prog 116 1 = some (12, 1) := by kernel_rfl
theorem fl116_2 : fldOf Try.prog 116 2 = some (24, 2) := by kernel_rfl
theorem fl116_3 : fldOf Try.prog 116 3 = some (110, 3) := by kernel_rfl
theorem fl116_4 : fldOf Try.prog 116 4 = some (5, 4) := by kernel_rfl
theorem fl116_5 : fldOf Try.prog 116 5 = some (5, 5) := by kernel_rfl
theorem fl116_6 : fldOf Try.prog 116 6 = some (111, 6) := by kernel_rfl
theorem fl116_7 : fldOf Try.prog 116 7 = some (112, 7) := by kernel_rfl
theorem fl116_8 : fldOf Try.prog 116 8 = some (113, 8) := by kernel_rfl
theorem fl116_9 : fldOf Try.prog 116 9 = some (114, 9) := by kernel_rfl
theorem fl116_10 : fldOf Try.prog 116 10 = some (115, 10) := by kernel_rfl
theorem sz117 : szOf Try.prog 117 = some 11 := by kernel_rfl
theorem by117 : byOf Try.prog 117 = some 48 := by kernel_rfl
theorem ag117 : aggOf Try.prog 117 = some true := by kernel_rfl
theorem un117 : (Try.prog.underlying 117).isSome = true := by kernel_rfl
theorem fl117_0 : fldOf Try.prog 117 0 = some (12, 0) := by kernel_rfl
theorem fl117_1 : fldOf Try.prog 117 1 = some (12, 1) := by kernel_rfl
theorem fl117_2 : fldOf Try.prog 117 2 = some (24, 2) := by kernel_rfl
theorem fl117_3 : fldOf Try.prog 117 3 = some (110, 3) := by kernel_rfl
theorem fl117_4 : fldOf Try.prog 117 4 = some (5, 4) := by kernel_rfl
theorem fl117_5 : fldOf Try.prog 117 5 = some (5, 5) := by kernel_rfl
theorem fl117_6 : fldOf Try.prog 117 6 = some (111, 6) := by kernel_rfl
theorem fl117_7 : fldOf Try.prog 117 7 = some (112, 7) := by kernel_rfl
theorem fl117_8 : fldOf Try.prog 117 8 = some (113, 8) := by kernel_rfl
theorem fl117_9 : fldOf Try.prog 117 9 = some (114, 9) := by kernel_rfl
theorem fl117_10 : fldOf Try.prog 117 10 = some (115, 10) := by kernel_rfl
end Go.Proofs.Ytnjcffhpfmnbfaa

