/- Pointers, compared. Over any program. -/
import Derived.Test.YtbiapeaghbndoaaEq
import Derived.LaidEqlPtr
namespace Go.Proofs.Ytbiapeaghbndoaa
open Go Go.RowKit
def ptrOf (P : Program) (t : TypeId) : Option TypeId := (P.underlying t).bind fun | .pointer e => some e | _ => none
theorem und_ptr {P : Program} {t e : TypeId} (h : ptrOf P t = some e) : P.underlying t = some (.pointer e) := by
  simp only [ptrOf, Option.bind_eq_some_iff] at h
  obtain ⟨i, hi, h⟩ := h
  cases i <;> simp at h
  subst h
  exact hi
section
variable {P : Program} {w : World} {ρ : Operand → Value} {d : Option Tmp} {ty : TypeId} {ps : String} {af : Array Edge} {g : Option (Nat × Bool)} {x y : Operand}
theorem run_eqPtr {t e : TypeId} {n p q : Nat} {cp cq : Array Value} {tp tq : TypeId} (ht : ptrOf P t = some e) (hs : szOf P e = some n) (hn : n ≠ 0) (hp' : hp w p = some (.cells cp tp (0, 0))) (hq' : hp w q = some (.cells cq tq (0, 0))) :
    (Op.equal t (.pointer (some ⟨p, 0, none⟩)) (.pointer (some ⟨q, 0, none⟩))).run P w = .ok (decide (p = q)) w := by
  obtain ⟨j, hj, hjs⟩ := Option.map_eq_some_iff.1 hs
  subst hjs
  by_cases h : p = q
  · subst h
    rw [decide_eq_true rfl]
    unfold Op.equal Op.maxDepth Op.equalIn
    rw [run_underlying (und_ptr ht)]
    dsimp only
    rw [run_bind_ok (run_sizeOf hs), if_pos hn]
    exact run_sameAddr_same w _
  · rw [decide_eq_false h]
    unfold Op.equal Op.maxDepth Op.equalIn
    rw [run_underlying (und_ptr ht)]
    dsimp only
    rw [run_bind_ok (run_sizeOf hs), if_pos hn]
    exact run_sameAddr_other w (fun e => h (by cases e; rfl)) hp' hq'
theorem r_eqlP {t t' e : TypeId} {n p q : Nat} {cp cq : Array Value} {tp tq : TypeId} (ht : ptrOf P t = some e) (hs : szOf P e = some n) (hn : n ≠ 0) (hx : ρ x = .pointer (some ⟨p, 0, none⟩)) (hy : ρ y = .pointer (some ⟨q, 0, none⟩)) (hp' : hp w p = some (.cells cp tp (0, 0))) (hq' : hp w q = some (.cells cq tq (0, 0))) :
    (execOp ρ (mk d (.binOp .eql t x y t') ty ps af g)).run P w = .ok (.value (.bool (decide (p = q)))) w :=
  run_eqv (a := .pointer (some ⟨p, 0, none⟩)) (b := .pointer (some ⟨q, 0, none⟩)) rfl hx hy (run_eql (run_eqPtr ht hs hn hp' hq'))
theorem run_eqPtrN {t e : TypeId} {a : Option Addr} (ht : ptrOf P t = some e) : (Op.equal t (.pointer a) (.pointer none)).run P w = .ok a.isNone w := by
  unfold Op.equal Op.maxDepth Op.equalIn
  rw [run_underlying (und_ptr ht)]
  cases a <;> rfl
theorem r_eqlPn {t t' e : TypeId} {a : Option Addr} (ht : ptrOf P t = some e) (hx : ρ x = .pointer a) (hy : ρ y = .pointer none) : (execOp ρ (mk d (.binOp .eql t x y t') ty ps af g)).run P w = .ok (.value (.bool a.isNone)) w :=
  run_eqv (a := .pointer a) (b := .pointer none) rfl hx hy (run_eql (run_eqPtrN ht))
theorem run_eqNPtr {t e : TypeId} {a : Option Addr} (ht : ptrOf P t = some e) : (Op.equal t (.pointer none) (.pointer a)).run P w = .ok a.isNone w := by
  unfold Op.equal Op.maxDepth Op.equalIn
  rw [run_underlying (und_ptr ht)]
  cases a <;> rfl
theorem r_eqlnP {t t' e : TypeId} {a : Option Addr} (ht : ptrOf P t = some e) (hx : ρ x = .pointer none) (hy : ρ y = .pointer a) : (execOp ρ (mk d (.binOp .eql t x y t') ty ps af g)).run P w = .ok (.value (.bool a.isNone)) w :=
  run_eqv (a := .pointer none) (b := .pointer a) rfl hx hy (run_eql (run_eqNPtr ht))
theorem r_neqPn {t t' e : TypeId} {a : Option Addr} (ht : ptrOf P t = some e) (hx : ρ x = .pointer a) (hy : ρ y = .pointer none) : (execOp ρ (mk d (.binOp .neq t x y t') ty ps af g)).run P w = .ok (.value (.bool !a.isNone)) w :=
  run_eqv (a := .pointer a) (b := .pointer none) rfl hx hy (run_neq (run_eqPtrN ht))
end
end Go.Proofs.Ytbiapeaghbndoaa
