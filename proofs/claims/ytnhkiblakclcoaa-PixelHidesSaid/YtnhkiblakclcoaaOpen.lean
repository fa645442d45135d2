/- pixel: a colour that came in, opened; the step from a walk of three colours (or others) to the row. -/
import Derived.Test.YtnhkiblakclcoaaF
import Derived.ProofKit
import Derived.Lib.SmallJoins
import Derived.Below
namespace Go.Proofs.Ytnhkiblakclcoaa
open Go.ChangeShapes Go.WideShapes Go.ChangeAt Go.RowKit

theorem own : ownKnob Try.prog.godebug = none := by kernel_rfl
theorem laidOut : laidOutB Try.prog = true := by kernel_rfl
theorem ok8_of {n : Int} (h : (Lit.int .u8 n).wf = true) : ok8 n := by
  simp [Lit.wf, IntKind.min, IntKind.max, IntKind.signed, IntKind.bits] at h
  unfold ok8; omega
theorem u32_of {n : Int} (h : (Lit.int .u32 n).wf = true) : 0 ≤ n ∧ n ≤ 4294967295 := by
  simp [Lit.wf, IntKind.min, IntKind.max, IntKind.signed, IntKind.bits] at h
  omega
theorem open_byte {H : Type} {enc : TypeId × Value → H} {w : World} {base : Nat} {spare : Nat → Bool} {held : Bool} {n : Nat} {v : Value} {x : DataW H × List MemPlace}
    (h : DataW.trod enc Try.prog w base spare held n 5 [v] = some x) : ∃ z, v = .int .u8 z ∧ ok8 z := by
  obtain ⟨z, hh, hx, hw⟩ := DataW.trod_int Try.underlying5 h
  simp at hh
  exact ⟨z, hh, ok8_of hw⟩
theorem open_col {H : Type} {enc : TypeId × Value → H} {w : World} {base : Nat} {spare : Nat → Bool} {held : Bool} {r : Reach} {b0 : Nat} {v : Value} {d : DataW H} {p : List MemPlace}
    (hv : Value.okWide Try.prog w r b0 27 v) (h : DataW.Trod enc Try.prog w base spare held 27 v d p) : ∃ c : C4, v = c.v ∧ c.ok := by
  obtain ⟨v0, v1, v2, v3, y0, y1, y2, y3, n, rfl, rfl, rfl, h0, h1, h2, h3⟩ := Go.Joins.open_agg4 Try.underlying27 (by kernel_rfl) (by kernel_rfl) hv h
  obtain ⟨z0, rfl, k0⟩ := open_byte h0
  obtain ⟨z1, rfl, k1⟩ := open_byte h1
  obtain ⟨z2, rfl, k2⟩ := open_byte h2
  obtain ⟨z3, rfl, k3⟩ := open_byte h3
  exact ⟨⟨z0, z1, z2, z3⟩, rfl, k0, k1, k2, k3⟩
end Go.Proofs.Ytnhkiblakclcoaa
