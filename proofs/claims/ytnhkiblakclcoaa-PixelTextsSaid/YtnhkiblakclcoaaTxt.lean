/- pixel: colours as texts, plainly. -/
import Derived.Test.YtnhkiblakclcoaaPix
import Derived.Test.YtnhkiblakclcoaaI
import Derived.Test.YtnhkiblakclcoaaH
namespace Go.Proofs.Ytnhkiblakclcoaa
open Go.RowKit
/-- The digits to the base 16. -/
def digB : ByteArray := ⟨#[48, 49, 50, 51, 52, 53, 54, 55, 56, 57, 97, 98, 99, 100, 101, 102]⟩
theorem digB_size : digB.size = 16 := rfl
def hexT (n : Nat) : ByteArray := digB.extract (n / 16) (n / 16 + 1) ++ digB.extract (n % 16) (n % 16 + 1)
theorem ex_size (s : ByteArray) (l h : Nat) (h1 : l ≤ h) (h2 : h ≤ s.size) : (s.extract l h).size = h - l := by
  rw [ByteArray.size_extract]; omega
theorem hexT_size (n : Nat) (h : n < 256) : (hexT n).size = 2 := by
  unfold hexT
  rw [ByteArray.size_append, ex_size _ _ _ (by omega) (by rw [digB_size]; omega), ex_size _ _ _ (by omega) (by rw [digB_size]; omega)]
  omega
def noB : ByteArray := ⟨#[]⟩
theorem noB_size : noB.size = 0 := rfl
def textT (c : C4) : ByteArray := noB ++ hexT c.r.toNat ++ hexT c.g.toNat ++ hexT c.b.toNat ++ hexT c.a.toNat
/-- Which number below n has these two digits. -/
def findT (b : ByteArray) : Nat → Option Nat
  | 0 => none
  | n + 1 => if (hexT n).toList == b.toList then some n else findT b n
def fnd (b : ByteArray) : Bool := (findT b 256).isSome
def val (b : ByteArray) : Nat := (findT b 256).getD 0
theorem find_t {b : ByteArray} {n : Nat} (h : ((hexT n).toList == b.toList) = true) : findT b (n + 1) = some n := by
  show (if _ then _ else _) = _
  rw [if_pos h]
theorem find_f {b : ByteArray} {n : Nat} (h : ((hexT n).toList == b.toList) = false) : findT b (n + 1) = findT b n := by
  show (if _ then _ else _) = _
  rw [if_neg (by rw [h]; decide)]
theorem find_lt (b : ByteArray) : ∀ n, n ≤ 256 → (findT b n).getD 0 ≤ 255
  | 0, _ => by simp [findT]
  | n + 1, h => by
    show (if _ then _ else _ : Option Nat).getD 0 ≤ 255
    split
    · simp; omega
    · exact find_lt b n (by omega)
def noR : Value := .tuple #[(⟨0, 0, 0, 0⟩ : C4).v, .bool false]
def valC (s : ByteArray) : C4 := ⟨val (s.extract 0 2), val (s.extract 2 4), val (s.extract 4 6), val (s.extract 6 8)⟩
def okR (s : ByteArray) : Prop := s.size = 8 ∧ fnd (s.extract 0 2) = true ∧ fnd (s.extract 2 4) = true ∧ fnd (s.extract 4 6) = true ∧ fnd (s.extract 6 8) = true
instance (s : ByteArray) : Decidable (okR s) := by unfold okR; infer_instance
def readR (s : ByteArray) : Value := if okR s then .tuple #[(valC s).v, .bool true] else noR
theorem readR_no {s : ByteArray} (h : ¬ okR s) : readR s = noR := if_neg h
theorem readR_yes {s : ByteArray} (h : s.size = 8) (h0 : fnd (s.extract 0 2) = true) (h1 : fnd (s.extract 2 4) = true) (h2 : fnd (s.extract 4 6) = true) (h3 : fnd (s.extract 6 8) = true) :
    readR s = .tuple #[(valC s).v, .bool true] := if_pos ⟨h, h0, h1, h2, h3⟩
end Go.Proofs.Ytnhkiblakclcoaa
