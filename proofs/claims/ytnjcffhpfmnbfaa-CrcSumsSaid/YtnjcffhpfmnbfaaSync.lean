/- crc: small laws of what sync asks. -/
import Derived.Test.YtnjcffhpfmnbfaaDef
import Derived.Test.YtnjcffhpfmnbfaaBit
import Derived.Test.YtnjcffhpfmnbfaaTy
namespace Go.Proofs.Ytnjcffhpfmnbfaa
open Go Go.RowKit
theorem r_toUnsafe {P : Program} {w : World} {ρ : Operand → Value} {d : Option Tmp} {ty : TypeId} {ps : String} {af : Array Edge} {g : Option (Nat × Bool)} {x : Operand} {src dst t : TypeId} {a : Addr} {v : Value} (hs : P.underlying src = some (.pointer t)) (hd : P.underlying dst = some .unsafePointer)
    (hsz : (P.info? t).map (fun i => decide (i.size = 0)) = some false) (hx : ρ x = .pointer (some a)) (hc : w.cell? a = some v) : (execOp ρ (mk d (.convert src dst x) ty ps af g)).run P w = .ok (.value (.pointer (some a))) w := by
  refine run_v ?_
  rw [hx]
  exact run_convert_to_unsafe hs hd hsz hc
theorem lk_into {L : Heap} {j : Nat} {r : Res} (hi : lk L j = some r) : ∀ k q, lk L k = some q → lk ((j, r) :: L) k = some q := fun k q hk => by
  by_cases e : j = k
  · subst e; rw [hi] at hk; rw [lk_cons_same]; exact hk
  · rwa [lk_cons_other _ _ e]
theorem lk_shadow {L : Heap} {j : Nat} {r s : Res} : ∀ k q, lk ((j, s) :: L) k = some q → lk ((j, s) :: (j, r) :: L) k = some q := fun k q hk => by
  by_cases e : j = k
  · subst e; rwa [lk_cons_same] at hk ⊢
  · rw [lk_cons_other _ _ e] at hk ⊢; rwa [lk_cons_other _ _ e]
end Go.Proofs.Ytnjcffhpfmnbfaa
