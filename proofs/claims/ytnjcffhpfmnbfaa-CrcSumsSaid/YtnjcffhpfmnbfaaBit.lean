/- Words of bits. Over any program. -/
import Derived.Test.YtnjcffhpfmnbfaaMisc
namespace Go.Proofs.Ytnjcffhpfmnbfaa
open Go Go.RowKit
theorem ofInt_nat {n : Nat} (x : BitVec n) : BitVec.ofInt n (x.toNat : Int) = x := by
  rw [BitVec.ofInt_natCast, BitVec.ofNat_toNat, BitVec.setWidth_eq]
theorem wrap_uns {k : IntKind} (hs : k.signed = false) (n : Int) : k.wrap n = n % (2 ^ k.bits : Int) := by
  unfold IntKind.wrap
  rw [hs]; rfl
theorem wrap_mod {k : IntKind} (hs : k.signed = false) (n : Nat) : k.wrap (n : Int) = ((n % 2 ^ k.bits : Nat) : Int) := by
  rw [wrap_uns hs, show (2 ^ k.bits : Int) = ((2 ^ k.bits : Nat) : Int) by simp]
  omega
theorem wrap_nat {k : IntKind} (hs : k.signed = false) (x : BitVec k.bits) : k.wrap (x.toNat : Int) = (x.toNat : Int) := by
  rw [wrap_mod hs, Nat.mod_eq_of_lt x.isLt]
section
variable {P : Program} {w : World} {ρ : Operand → Value} {d : Option Tmp} {ty : TypeId} {ps : String} {af : Array Edge} {g : Option (Nat × Bool)} {x y : Operand} {k : IntKind} {a b : BitVec k.bits} {t t' : TypeId}
theorem r_xorB (hs : k.signed = false) (hx : ρ x = .int k (a.toNat : Int)) (hy : ρ y = .int k (b.toNat : Int)) : (execOp ρ (mk d (.binOp .xor t x y t') ty ps af g)).run P w = .ok (.value (.int k ((a ^^^ b).toNat : Int))) w :=
  r_arith hx hy (by
    simp only [binOp, ne_eq, not_true_eq_false, if_false]
    unfold Op.intBits
    dsimp only
    rw [ofInt_nat, ofInt_nat, wrap_nat hs]; rfl)
theorem r_andB (hs : k.signed = false) (hx : ρ x = .int k (a.toNat : Int)) (hy : ρ y = .int k (b.toNat : Int)) : (execOp ρ (mk d (.binOp .and t x y t') ty ps af g)).run P w = .ok (.value (.int k ((a &&& b).toNat : Int))) w :=
  r_arith hx hy (by
    simp only [binOp, ne_eq, not_true_eq_false, if_false]
    unfold Op.intBits
    dsimp only
    rw [ofInt_nat, ofInt_nat, wrap_nat hs]; rfl)
theorem r_orB (hs : k.signed = false) (hx : ρ x = .int k (a.toNat : Int)) (hy : ρ y = .int k (b.toNat : Int)) : (execOp ρ (mk d (.binOp .or t x y t') ty ps af g)).run P w = .ok (.value (.int k ((a ||| b).toNat : Int))) w :=
  r_arith hx hy (by
    simp only [binOp, ne_eq, not_true_eq_false, if_false]
    unfold Op.intBits
    dsimp only
    rw [ofInt_nat, ofInt_nat, wrap_nat hs]; rfl)
theorem max_ones (hs : k.signed = false) : BitVec.ofInt k.bits k.max = BitVec.allOnes k.bits := by
  cases k <;> first | (cases hs; done) | decide
theorem r_notW (hs : k.signed = false) (hx : ρ x = .int k (a.toNat : Int)) : (execOp ρ (mk d (.unOp .xor t x) ty ps af g)).run P w = .ok (.value (.int k ((~~~a).toNat : Int))) w := by
  refine run_v ?_
  rw [hx]
  show (Op.intBits .xor k (if k.signed then -1 else k.max) _).run P w = _
  rw [hs]
  unfold Op.intBits
  dsimp only
  rw [if_neg (by decide), ofInt_nat, max_ones hs, wrap_nat hs, BitVec.allOnes_xor]; rfl
theorem r_shlB {k' : IntKind} {n : Nat} (hs : k.signed = false) (hn : n ≤ k.bits) (hx : ρ x = .int k (a.toNat : Int)) (hy : ρ y = .int k' (n : Int)) : (execOp ρ (mk d (.binOp .shl t x y t') ty ps af g)).run P w = .ok (.value (.int k ((a <<< n).toNat : Int))) w :=
  r_bin (.inl ⟨by decide, by decide⟩) hx hy (by
    show (Op.shift .shl k _ k' _).run P w = _
    unfold Op.shift
    rw [if_neg (by omega)]
    dsimp only
    rw [Int.toNat_natCast, Nat.min_eq_left hn, BitVec.toNat_shiftLeft, Nat.shiftLeft_eq, ← wrap_mod hs]
    simp only [Int.natCast_mul, Int.natCast_pow]
    rfl)
theorem r_shrB {k' : IntKind} {n : Nat} (hn : n ≤ k.bits) (hx : ρ x = .int k (a.toNat : Int)) (hy : ρ y = .int k' (n : Int)) : (execOp ρ (mk d (.binOp .shr t x y t') ty ps af g)).run P w = .ok (.value (.int k ((a >>> n).toNat : Int))) w :=
  r_bin (.inl ⟨by decide, by decide⟩) hx hy (by
    show (Op.shift .shr k _ k' _).run P w = _
    unfold Op.shift
    rw [if_neg (by omega)]
    dsimp only
    rw [Int.toNat_natCast, Nat.min_eq_left hn, BitVec.toNat_ushiftRight, Nat.shiftRight_eq_div_pow]
    have : (a.toNat : Int).fdiv (2 ^ n) = ((a.toNat / 2 ^ n : Nat) : Int) := by
      rw [show (2 ^ n : Int) = ((2 ^ n : Nat) : Int) by simp, Int.fdiv_eq_ediv_of_nonneg _ (Int.natCast_nonneg _)]
      simp
    rw [this]; rfl)
/-- A word told by another width. -/
theorem r_convB {k k' : IntKind} {a : BitVec k.bits} {t t' : TypeId} (ht : (P.underlying t).isSome = true) (ht' : intOf? P t' = some k') (hs' : k'.signed = false) (hx : ρ x = .int k (a.toNat : Int)) : (execOp ρ (mk d (.convert t t' x) ty ps af g)).run P w = .ok (.value (.int k' ((a.setWidth k'.bits).toNat : Int))) w := by
  have := r_conv (P := P) (w := w) (d := d) (ty := ty) (ps := ps) (af := af) (g := g) ht ht' hx
  rw [this, wrap_mod hs', BitVec.toNat_setWidth]
theorem r_convN {k k' : IntKind} {n : Nat} {t t' : TypeId} (ht : (P.underlying t).isSome = true) (ht' : intOf? P t' = some k') (hs' : k'.signed = false) (hx : ρ x = .int k (n : Int)) : (execOp ρ (mk d (.convert t t' x) ty ps af g)).run P w = .ok (.value (.int k' ((BitVec.ofNat k'.bits n).toNat : Int))) w := by
  have := r_conv (P := P) (w := w) (d := d) (ty := ty) (ps := ps) (af := af) (g := g) ht ht' hx
  rw [this, wrap_mod hs', BitVec.toNat_ofNat]
end
theorem bv_dec {n : Nat} (a b : BitVec n) : decide ((a.toNat : Int) = (b.toNat : Int)) = decide (a = b) := by
  by_cases h : a = b
  · subst h; simp
  · rw [decide_eq_false h, decide_eq_false]
    intro e
    exact h (BitVec.eq_of_toNat_eq (by omega))
end Go.Proofs.Ytnjcffhpfmnbfaa
