/- pixel: facts on colours. -/
import Derived.Test.YtnhkiblakclcoaaF
import Derived.Test.YtnhkiblakclcoaaTy
namespace Go.Proofs.Ytnhkiblakclcoaa
open Go.RowKit
theorem overC_ok {u o : C4} (hu : u.ok) (ho : o.ok) : (overC u o).ok :=
  ⟨shareI_range hu.1 ho.1 ho.2.2.2, shareI_range hu.2.1 ho.2.1 ho.2.2.2, shareI_range hu.2.2.1 ho.2.2.1 ho.2.2.2, over_a hu.2.2.2 ho.2.2.2⟩
def mixC (u o : C4) (p : Int) : C4 := ⟨shareI u.r o.r p, shareI u.g o.g p, shareI u.b o.b p, shareI u.a o.a p⟩
theorem mixC_ok {u o : C4} {p : Int} (hu : u.ok) (ho : o.ok) (hp : ok8 p) : (mixC u o p).ok :=
  ⟨shareI_range hu.1 ho.1 hp, shareI_range hu.2.1 ho.2.1 hp, shareI_range hu.2.2.1 ho.2.2.1 hp, shareI_range hu.2.2.2 ho.2.2.2 hp⟩
theorem over_ref_eq (a b : C4) : (⟨(b.r * b.a + a.r * (255 - b.a) + 127) / 255, (b.g * b.a + a.g * (255 - b.a) + 127) / 255, (b.b * b.a + a.b * (255 - b.a) + 127) / 255, b.a + (a.a * (255 - b.a) + 127) / 255⟩ : C4) = overC a b := by
  simp only [overC, shareI, Int.zero_mul, Int.add_zero]
  rw [Int.add_comm (b.r * b.a), Int.add_comm (b.g * b.a), Int.add_comm (b.b * b.a)]
def packC (c : C4) : Int := ((c.r * 256 + c.g) * 256 + c.b) * 256 + c.a
theorem dI_eq (x y : Int) : dI x y = if y < x then x - y else y - x := by unfold dI; split <;> omega
abbrev parV (c : C4) : Value := .agg #[.int .i64 c.r, .int .i64 c.g, .int .i64 c.b, .int .i64 c.a]
abbrev C4.cells (c : C4) : List Value := [.int .u8 c.r, .int .u8 c.g, .int .u8 c.b, .int .u8 c.a]
theorem C4.cells_len (c : C4) : c.cells.length = 4 := rfl
theorem C4.cells_one (c : C4) : ∀ u ∈ c.cells, u.oneCell' = true := by simp [C4.cells, Value.oneCell']
theorem c4_ext {x y : C4} (h1 : x.r = y.r) (h2 : x.g = y.g) (h3 : x.b = y.b) (h4 : x.a = y.a) : x = y := by
  cases x; cases y; simp_all
instance : DecidableEq C4 := fun x y => decidable_of_iff (x.r = y.r ∧ x.g = y.g ∧ x.b = y.b ∧ x.a = y.a) ⟨fun ⟨h1, h2, h3, h4⟩ => c4_ext h1 h2 h3 h4, fun e => by subst e; exact ⟨rfl, rfl, rfl, rfl⟩⟩
theorem zero_ok : (⟨0, 0, 0, 0⟩ : C4).ok := by unfold C4.ok ok8; decide
/-- Two colours, and a part. -/
structure Th3 where
  a : C4
  b : C4
  p : Int
abbrev Th3.cells (x : Th3) : List Value := [.int .u8 x.a.r, .int .u8 x.a.g, .int .u8 x.a.b, .int .u8 x.a.a, .int .u8 x.b.r, .int .u8 x.b.g, .int .u8 x.b.b, .int .u8 x.b.a, .int .u8 x.p]
theorem Th3.cells_len (x : Th3) : x.cells.length = 9 := rfl
def Th3.ok (x : Th3) : Prop := x.a.ok ∧ x.b.ok ∧ ok8 x.p
end Go.Proofs.Ytnhkiblakclcoaa
