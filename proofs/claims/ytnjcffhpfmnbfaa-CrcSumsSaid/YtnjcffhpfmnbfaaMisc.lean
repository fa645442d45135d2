/- Single operations, more of them. Over any program. -/
import Derived.Test.YtnjcffhpfmnbfaaLst
namespace Go.Proofs.Ytnjcffhpfmnbfaa
open Go Go.RowKit
section
variable {P : Program} {w : World} {ρ : Operand → Value} {d : Option Tmp} {ty : TypeId} {ps : String} {af : Array Edge} {g : Option (Nat × Bool)} {x y : Operand}
theorem r_neg {t : TypeId} {k : IntKind} {a : Int} (h : ρ x = .int k a) : (execOp ρ (mk d (.unOp .neg t x) ty ps af g)).run P w = .ok (.value (.int k (k.wrap (0 - a)))) w := by
  refine run_v ?_
  rw [h]; rfl
end
theorem tmod_bd (x : Int) {n : Int} (hn : 0 < n) : -n < x.tmod n ∧ x.tmod n < n := by
  refine ⟨?_, Int.tmod_lt_of_pos x hn⟩
  have h := Int.tmod_lt_of_pos (-x) hn
  rw [Int.neg_tmod] at h
  omega
end Go.Proofs.Ytnjcffhpfmnbfaa
