/- canvas: a work of a tile. -/
import Derived.Test.YtbiapeaghbndoaaBld
import Derived.Test.YtbiapeaghbndoaaTil
namespace Go.Proofs.Ytbiapeaghbndoaa
open Go Go.RowKit
theorem build_work {cs : Array Value} (hc : cs.size = 256) (w : World) : (Instr.build 148 #[(0, .agg cs)]).run Try.prog w = .ok (.agg cs) w := by
  have key : (Instr.build 148 #[(0, .agg cs)]).run Try.prog w = (match Instr.fill (fun x => (#[(0, 256)] : Array (Nat × Nat))[x]?) (lst C4.cells zero64) [(0, .agg cs)] with
    | some cells => (pure (Value.agg cells) : Sem Value)
    | _ => stuck "build: no such field, or a part of the wrong size").run Try.prog w := by kernel_rfl
  rw [key, fill_one (n := 256) rfl (tsz zero64_len) hc]
  rfl
end Go.Proofs.Ytbiapeaghbndoaa
