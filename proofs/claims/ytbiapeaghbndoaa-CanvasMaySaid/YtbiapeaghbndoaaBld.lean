/- A struct that is one part as a whole. Over any program. -/
import Derived.Test.YtbiapeaghbndoaaLst
namespace Go.Proofs.Ytbiapeaghbndoaa
open Go Go.RowKit
theorem fill_fold : ∀ (vs xs pre : List Value), xs.length = vs.length → (vs.zipIdx pre.length).foldl (fun (a : Array Value) (p : Value × Nat) => a.setIfInBounds (0 + p.2) p.1) (pre ++ xs).toArray = (pre ++ vs).toArray
  | [], xs, pre, h => by
    have : xs = [] := List.eq_nil_of_length_eq_zero h
    subst this; rfl
  | v :: vs, [], pre, h => by simp at h
  | v :: vs, x :: xs, pre, h => by
    have ih := fill_fold vs xs (pre ++ [v]) (by simpa using h)
    rw [List.zipIdx_cons, List.foldl_cons]
    have e : ((pre ++ x :: xs).toArray).setIfInBounds (0 + pre.length) v = (pre ++ [v] ++ xs).toArray := by
      apply Array.ext'
      simp [List.set_append]
    rw [e]
    rw [List.length_append, List.length_singleton] at ih
    rw [ih]
    simp
theorem fill_one {z cs : Array Value} {n : Nat} {place : Nat → Option (Nat × Nat)} (hp : place 0 = some (0, n)) (hz : z.size = n) (hc : cs.size = n) : Instr.fill place z [(0, .agg cs)] = some cs := by
  unfold Instr.fill
  rw [hp]
  dsimp only
  have hcs : (Value.agg cs).cells = cs := rfl
  rw [hcs, if_neg (by simp; omega)]
  unfold Instr.fill
  have := fill_fold cs.toList z.toList [] (by simp [hz, hc])
  congr 1
  rw [← Array.foldl_toList, Array.toList_zipIdx]
  simpa using this
end Go.Proofs.Ytbiapeaghbndoaa
