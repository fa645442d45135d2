/- Words of bits: sums, products, quotients, rests. Over any program. -/
import Derived.Test.YtnjcffhpfmnbfaaBit
namespace Go.Proofs.Ytnjcffhpfmnbfaa
open Go Go.RowKit
section
variable {P : Program} {w : World} {ρ : Operand → Value} {d : Option Tmp} {ty : TypeId} {ps : String} {af : Array Edge} {g : Option (Nat × Bool)} {x y : Operand} {k : IntKind} {a b : BitVec k.bits} {t t' : TypeId}
theorem wrap_of {k : IntKind} (hs : k.signed = false) (z : Int) {x : BitVec k.bits} (h : BitVec.ofInt k.bits z = x) : k.wrap z = (x.toNat : Int) := by
  subst h
  rw [wrap_uns hs, BitVec.toNat_ofInt]
  have h2 : (0 : Int) < ((2 ^ k.bits : Nat) : Int) := by exact_mod_cast Nat.two_pow_pos k.bits
  have := Int.emod_nonneg z (Int.ne_of_gt h2)
  rw [show (2 ^ k.bits : Int) = ((2 ^ k.bits : Nat) : Int) by simp]
  omega
theorem r_addB (hs : k.signed = false) (hx : ρ x = .int k (a.toNat : Int)) (hy : ρ y = .int k (b.toNat : Int)) : (execOp ρ (mk d (.binOp .add t x y t') ty ps af g)).run P w = .ok (.value (.int k ((a + b).toNat : Int))) w := by
  rw [r_add hx hy, wrap_of hs _ (x := a + b) (by rw [BitVec.ofInt_add, ofInt_nat, ofInt_nat])]
theorem r_mulB (hs : k.signed = false) (hx : ρ x = .int k (a.toNat : Int)) (hy : ρ y = .int k (b.toNat : Int)) : (execOp ρ (mk d (.binOp .mul t x y t') ty ps af g)).run P w = .ok (.value (.int k ((a * b).toNat : Int))) w := by
  rw [r_mul hx hy, wrap_of hs _ (x := a * b) (by rw [BitVec.ofInt_mul, ofInt_nat, ofInt_nat])]
theorem r_subB (hs : k.signed = false) (hx : ρ x = .int k (a.toNat : Int)) (hy : ρ y = .int k (b.toNat : Int)) : (execOp ρ (mk d (.binOp .sub t x y t') ty ps af g)).run P w = .ok (.value (.int k ((a - b).toNat : Int))) w := by
  rw [r_sub hx hy, wrap_of hs _ (x := a - b) (by rw [Int.sub_eq_add_neg, BitVec.ofInt_add, BitVec.ofInt_neg, ofInt_nat, ofInt_nat, BitVec.sub_eq_add_neg])]
theorem r_quoB (hs : k.signed = false) (hb : Nat.blt 0 b.toNat = true) (hx : ρ x = .int k (a.toNat : Int)) (hy : ρ y = .int k (b.toNat : Int)) : (execOp ρ (mk d (.binOp .quo t x y t') ty ps af g)).run P w = .ok (.value (.int k ((a / b).toNat : Int))) w := by
  have h0 : (b.toNat : Int) ≠ 0 := fun e => by rw [Int.natCast_eq_zero.1 e] at hb; cases hb
  rw [r_quo hx hy h0, Int.tdiv_eq_ediv_of_nonneg (Int.natCast_nonneg _), show (a.toNat : Int) / (b.toNat : Int) = ((a / b).toNat : Int) by rw [BitVec.toNat_udiv]; simp, wrap_nat hs]
theorem r_remB (hb : Nat.blt 0 b.toNat = true) (hx : ρ x = .int k (a.toNat : Int)) (hy : ρ y = .int k (b.toNat : Int)) : (execOp ρ (mk d (.binOp .rem t x y t') ty ps af g)).run P w = .ok (.value (.int k ((a % b).toNat : Int))) w := by
  have h0 : (b.toNat : Int) ≠ 0 := fun e => by rw [Int.natCast_eq_zero.1 e] at hb; cases hb
  rw [r_rem hx hy h0, Int.tmod_eq_emod_of_nonneg (Int.natCast_nonneg _), show (a.toNat : Int) % (b.toNat : Int) = ((a % b).toNat : Int) by rw [BitVec.toNat_umod]; simp]
/-- A shift by a word that is not too far. -/
theorem r_shlV {k' : IntKind} {n : Nat} (hs : k.signed = false) (hn : n ≤ k.bits) (hx : ρ x = .int k (a.toNat : Int)) (hy : ρ y = .int k' (n : Int)) : (execOp ρ (mk d (.binOp .shl t x y t') ty ps af g)).run P w = .ok (.value (.int k ((a <<< n).toNat : Int))) w := r_shlB hs hn hx hy
end
theorem half_b {n : Nat} (x : BitVec (n + 2)) : x / 2#(n + 2) = x >>> 1 := by
  apply BitVec.eq_of_toNat_eq
  have h4 : 4 ≤ 2 ^ (n + 2) := by have := Nat.two_pow_pos n; rw [Nat.pow_add]; omega
  rw [BitVec.toNat_udiv, BitVec.toNat_ushiftRight, BitVec.toNat_ofNat, Nat.mod_eq_of_lt (by omega), Nat.shiftRight_eq_div_pow]
theorem odd_b {n : Nat} (x : BitVec (n + 2)) : x % 2#(n + 2) = if x.getLsbD 0 = true then 1#(n + 2) else 0#(n + 2) := by
  apply BitVec.eq_of_toNat_eq
  have h4 : 4 ≤ 2 ^ (n + 2) := by have := Nat.two_pow_pos n; rw [Nat.pow_add]; omega
  rw [BitVec.toNat_umod, BitVec.toNat_ofNat, Nat.mod_eq_of_lt (a := 2) (by omega)]
  have hb : x.getLsbD 0 = decide (x.toNat % 2 = 1) := by unfold BitVec.getLsbD; rw [Nat.testBit_zero]
  rw [hb]
  by_cases h : x.toNat % 2 = 1
  · rw [h, decide_eq_true rfl, if_pos rfl, BitVec.toNat_ofNat, Nat.mod_eq_of_lt (by omega)]
  · rw [decide_eq_false h, if_neg (by decide), BitVec.toNat_ofNat]; simp; omega
end Go.Proofs.Ytnjcffhpfmnbfaa
