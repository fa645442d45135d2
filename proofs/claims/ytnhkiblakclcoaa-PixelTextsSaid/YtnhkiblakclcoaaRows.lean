/-
  No cell of these rows narrows 'for every input' (looked for: loops, veiled, ifaces, maps, wideKeys, modest, calm, conditions, laid).
  DERIVED. THE GIVEN ROWS OF THIS SEAT. 6 by the template 'for every input the law returns true; each argument reads behind the call as it read before'; 0 by the template 'total and deterministic' (their statements: YtnhkiblakclcoaaTotals.lean).
  GIVEN WITH THE SEED: the statements are not yours to turn. If you find one false, say at which input.
  Laid BY PROGRAM, IN A SANDBOX (cutbox-rows.mjs): the forced cells as the released guide's own fill.sh prints them over the translation 6817993131bb5037… (all of the seat's roots in one cut). By AI agents, Wed Nov 11 2026. No macro, syntax, notation, axiom, sorry.
-/
import Derived.Test.YtnhkiblakclcoaaChecked
import GoSem.Claim
import GoSem.ClaimJoined
import GoSem.ClaimMapViews
import Derived.JoinedTies
import Derived.KernelRfl
namespace Go.Proofs.Ytnhkiblakclcoaa
/- THE CELL 'sum', in the pinned program and in every row, IS THE sha256 OF THE DUMP (.gsa) THAT YtnhkiblakclcoaaProg.lean LOADS. Nothing in Lean hashes anything: it is a label: what it is worth is what the hold of that sum in a sandbox is worth. -/
noncomputable def Try.pinned : Pinned := { name := "ytnhkiblakclcoaa", sum := "6817993131bb5037cfd8367acac25cfe0fe125ce1c4bd98852021336277c4042", checked := Try.checked }
namespace Rows
def none {H : Type} : Left H := { results := [], args := [] }

/-- 'gessolaw03.PixelTexts': WHATEVER THE INPUT: true; the input reads as it did. -/
def pixelTextsSpec : ChangeSpec := { name := "pixelTexts", fn := fun _ => fun
  | [d1, d2, d3] => { results := [.lit (.bool true)], args := [d1, d2, d3] }
  | _ => none }
def pixelTextsRow : OpenClaim := { program := "ytnhkiblakclcoaa", sum := "6817993131bb5037cfd8367acac25cfe0fe125ce1c4bd98852021336277c4042", func := "gesso/gessolaw03.PixelTexts", spec := "pixelTexts", unfollowed := true, recurses := true, apart := false }
def PixelTextsSaid : Prop := pixelTextsRow.holds Try.pinned (OpenSpec.ofChange pixelTextsSpec)

/-- ITS FALSE NEIGHBOUR: 'it returns false'. Refute it at one input. -/
def pixelTextsWrong : ChangeSpec := { name := "pixelTexts", fn := fun _ => fun
  | [d1, d2, d3] => { results := [.lit (.bool false)], args := [d1, d2, d3] }
  | _ => none }
def PixelTextsWrongFalsely : Prop := pixelTextsRow.holds Try.pinned (OpenSpec.ofChange pixelTextsWrong)

/-- 'gessolaw03.PixelBack': WHATEVER THE INPUT: true; the input reads as it did. -/
def pixelBackSpec : ChangeSpec := { name := "pixelBack", fn := fun _ => fun
  | [d1, d2, d3] => { results := [.lit (.bool true)], args := [d1, d2, d3] }
  | _ => none }
def pixelBackRow : OpenClaim := { program := "ytnhkiblakclcoaa", sum := "6817993131bb5037cfd8367acac25cfe0fe125ce1c4bd98852021336277c4042", func := "gesso/gessolaw03.PixelBack", spec := "pixelBack", unfollowed := true, recurses := true, apart := false }
def PixelBackSaid : Prop := pixelBackRow.holds Try.pinned (OpenSpec.ofChange pixelBackSpec)

/-- ITS FALSE NEIGHBOUR: 'it returns false'. Refute it at one input. -/
def pixelBackWrong : ChangeSpec := { name := "pixelBack", fn := fun _ => fun
  | [d1, d2, d3] => { results := [.lit (.bool false)], args := [d1, d2, d3] }
  | _ => none }
def PixelBackWrongFalsely : Prop := pixelBackRow.holds Try.pinned (OpenSpec.ofChange pixelBackWrong)

/-- 'gessolaw03.PixelWays': WHATEVER THE INPUT: true; the input reads as it did. -/
def pixelWaysSpec : ChangeSpec := { name := "pixelWays", fn := fun _ => fun
  | [d1, d2, d3] => { results := [.lit (.bool true)], args := [d1, d2, d3] }
  | _ => none }
def pixelWaysRow : OpenClaim := { program := "ytnhkiblakclcoaa", sum := "6817993131bb5037cfd8367acac25cfe0fe125ce1c4bd98852021336277c4042", func := "gesso/gessolaw03.PixelWays", spec := "pixelWays", unfollowed := true, recurses := true, apart := false }
def PixelWaysSaid : Prop := pixelWaysRow.holds Try.pinned (OpenSpec.ofChange pixelWaysSpec)

/-- ITS FALSE NEIGHBOUR: 'it returns false'. Refute it at one input. -/
def pixelWaysWrong : ChangeSpec := { name := "pixelWays", fn := fun _ => fun
  | [d1, d2, d3] => { results := [.lit (.bool false)], args := [d1, d2, d3] }
  | _ => none }
def PixelWaysWrongFalsely : Prop := pixelWaysRow.holds Try.pinned (OpenSpec.ofChange pixelWaysWrong)

/-- 'gessolaw03.PixelHides': WHATEVER THE INPUT: true; the input reads as it did. -/
def pixelHidesSpec : ChangeSpec := { name := "pixelHides", fn := fun _ => fun
  | [d1, d2, d3] => { results := [.lit (.bool true)], args := [d1, d2, d3] }
  | _ => none }
def pixelHidesRow : OpenClaim := { program := "ytnhkiblakclcoaa", sum := "6817993131bb5037cfd8367acac25cfe0fe125ce1c4bd98852021336277c4042", func := "gesso/gessolaw03.PixelHides", spec := "pixelHides", unfollowed := true, recurses := true, apart := false }
def PixelHidesSaid : Prop := pixelHidesRow.holds Try.pinned (OpenSpec.ofChange pixelHidesSpec)

/-- ITS FALSE NEIGHBOUR: 'it returns false'. Refute it at one input. -/
def pixelHidesWrong : ChangeSpec := { name := "pixelHides", fn := fun _ => fun
  | [d1, d2, d3] => { results := [.lit (.bool false)], args := [d1, d2, d3] }
  | _ => none }
def PixelHidesWrongFalsely : Prop := pixelHidesRow.holds Try.pinned (OpenSpec.ofChange pixelHidesWrong)

/-- 'gessolaw03.PixelFar': WHATEVER THE INPUT: true; the input reads as it did. -/
def pixelFarSpec : ChangeSpec := { name := "pixelFar", fn := fun _ => fun
  | [d1, d2, d3] => { results := [.lit (.bool true)], args := [d1, d2, d3] }
  | _ => none }
def pixelFarRow : OpenClaim := { program := "ytnhkiblakclcoaa", sum := "6817993131bb5037cfd8367acac25cfe0fe125ce1c4bd98852021336277c4042", func := "gesso/gessolaw03.PixelFar", spec := "pixelFar", unfollowed := true, recurses := true, apart := false }
def PixelFarSaid : Prop := pixelFarRow.holds Try.pinned (OpenSpec.ofChange pixelFarSpec)

/-- ITS FALSE NEIGHBOUR: 'it returns false'. Refute it at one input. -/
def pixelFarWrong : ChangeSpec := { name := "pixelFar", fn := fun _ => fun
  | [d1, d2, d3] => { results := [.lit (.bool false)], args := [d1, d2, d3] }
  | _ => none }
def PixelFarWrongFalsely : Prop := pixelFarRow.holds Try.pinned (OpenSpec.ofChange pixelFarWrong)

/-- 'gessolaw03.PixelMixes': WHATEVER THE INPUT: true; the input reads as it did. -/
def pixelMixesSpec : ChangeSpec := { name := "pixelMixes", fn := fun _ => fun
  | [d] => { results := [.lit (.bool true)], args := [d] }
  | _ => none }
def pixelMixesRow : OpenClaim := { program := "ytnhkiblakclcoaa", sum := "6817993131bb5037cfd8367acac25cfe0fe125ce1c4bd98852021336277c4042", func := "gesso/gessolaw03.PixelMixes", spec := "pixelMixes", unfollowed := true, recurses := true, apart := false }
def PixelMixesSaid : Prop := pixelMixesRow.holds Try.pinned (OpenSpec.ofChange pixelMixesSpec)

/-- ITS FALSE NEIGHBOUR: 'it returns false'. Refute it at one input. -/
def pixelMixesWrong : ChangeSpec := { name := "pixelMixes", fn := fun _ => fun
  | [d] => { results := [.lit (.bool false)], args := [d] }
  | _ => none }
def PixelMixesWrongFalsely : Prop := pixelMixesRow.holds Try.pinned (OpenSpec.ofChange pixelMixesWrong)

/- THE SECOND FORM. 'bulk': how many values and letters a reading holds, each counted each time it is reached (what is shared counts as often as it is met; a slice's spare places count too). A statement '..UptoSaid' is the law's where the arguments, and the package variables that the reading takes, are together of bulk at most 1048576: NARROWER than '..Said'. Prove '..Said' where nothing that the law and all that it calls make is longer than what came in: it says more and counts as full. Else prove '..UptoSaid'. A law counts once. -/
mutual
def uptoBulk {H : Type} : DataW H → Nat
  | .lit (.string bytes) => bytes.length + 1
  | .lit _ => 1
  | .nil => 1
  | .ptr d => uptoBulk d + 1
  | .slice elems spare => uptoBulkAll elems + uptoBulkAll spare + 1
  | .agg parts => uptoBulkAll parts + 1
  | .iface _ d => uptoBulk d + 1
  | .map entries => uptoBulkEntries entries + 1
  | .held _ => 1
def uptoBulkAll {H : Type} : List (DataW H) → Nat
  | [] => 0
  | d :: r => uptoBulk d + uptoBulkAll r
def uptoBulkEntries {H : Type} : List (Lit × DataW H) → Nat
  | [] => 0
  | x :: r => uptoBulkEntry x + uptoBulkEntries r
def uptoBulkEntry {H : Type} : Lit × DataW H → Nat
  | (.string bytes, d) => bytes.length + uptoBulk d + 1
  | (_, d) => uptoBulk d + 1
 end
def uptoSmall : (H : Type) → List (DataW H) → Bool := fun _ ds => decide (uptoBulkAll ds ≤ 1048576)
def OpenSpec.upto (s : _root_.Go.ChangeSpec) : _root_.Go.OpenSpec := { _root_.Go.OpenSpec.ofChange s with cond := some uptoSmall }

/-- 'gessolaw03.PixelTexts', WHERE WHAT IT READS IS OF BULK AT MOST 1048576: true; the input reads as it did. -/
def pixelTextsUptoRow : OpenClaim := { program := "ytnhkiblakclcoaa", sum := "6817993131bb5037cfd8367acac25cfe0fe125ce1c4bd98852021336277c4042", func := "gesso/gessolaw03.PixelTexts", spec := "pixelTexts", unfollowed := true, recurses := true, apart := false, narrowed := true }
def PixelTextsUptoSaid : Prop := pixelTextsUptoRow.holds Try.pinned (OpenSpec.upto pixelTextsSpec)

/-- 'gessolaw03.PixelBack', WHERE WHAT IT READS IS OF BULK AT MOST 1048576: true; the input reads as it did. -/
def pixelBackUptoRow : OpenClaim := { program := "ytnhkiblakclcoaa", sum := "6817993131bb5037cfd8367acac25cfe0fe125ce1c4bd98852021336277c4042", func := "gesso/gessolaw03.PixelBack", spec := "pixelBack", unfollowed := true, recurses := true, apart := false, narrowed := true }
def PixelBackUptoSaid : Prop := pixelBackUptoRow.holds Try.pinned (OpenSpec.upto pixelBackSpec)

/-- 'gessolaw03.PixelWays', WHERE WHAT IT READS IS OF BULK AT MOST 1048576: true; the input reads as it did. -/
def pixelWaysUptoRow : OpenClaim := { program := "ytnhkiblakclcoaa", sum := "6817993131bb5037cfd8367acac25cfe0fe125ce1c4bd98852021336277c4042", func := "gesso/gessolaw03.PixelWays", spec := "pixelWays", unfollowed := true, recurses := true, apart := false, narrowed := true }
def PixelWaysUptoSaid : Prop := pixelWaysUptoRow.holds Try.pinned (OpenSpec.upto pixelWaysSpec)

/-- 'gessolaw03.PixelHides', WHERE WHAT IT READS IS OF BULK AT MOST 1048576: true; the input reads as it did. -/
def pixelHidesUptoRow : OpenClaim := { program := "ytnhkiblakclcoaa", sum := "6817993131bb5037cfd8367acac25cfe0fe125ce1c4bd98852021336277c4042", func := "gesso/gessolaw03.PixelHides", spec := "pixelHides", unfollowed := true, recurses := true, apart := false, narrowed := true }
def PixelHidesUptoSaid : Prop := pixelHidesUptoRow.holds Try.pinned (OpenSpec.upto pixelHidesSpec)

/-- 'gessolaw03.PixelFar', WHERE WHAT IT READS IS OF BULK AT MOST 1048576: true; the input reads as it did. -/
def pixelFarUptoRow : OpenClaim := { program := "ytnhkiblakclcoaa", sum := "6817993131bb5037cfd8367acac25cfe0fe125ce1c4bd98852021336277c4042", func := "gesso/gessolaw03.PixelFar", spec := "pixelFar", unfollowed := true, recurses := true, apart := false, narrowed := true }
def PixelFarUptoSaid : Prop := pixelFarUptoRow.holds Try.pinned (OpenSpec.upto pixelFarSpec)

/-- 'gessolaw03.PixelMixes', WHERE WHAT IT READS IS OF BULK AT MOST 1048576: true; the input reads as it did. -/
def pixelMixesUptoRow : OpenClaim := { program := "ytnhkiblakclcoaa", sum := "6817993131bb5037cfd8367acac25cfe0fe125ce1c4bd98852021336277c4042", func := "gesso/gessolaw03.PixelMixes", spec := "pixelMixes", unfollowed := true, recurses := true, apart := false, narrowed := true }
def PixelMixesUptoSaid : Prop := pixelMixesUptoRow.holds Try.pinned (OpenSpec.upto pixelMixesSpec)

end Rows
end Go.Proofs.Ytnhkiblakclcoaa
