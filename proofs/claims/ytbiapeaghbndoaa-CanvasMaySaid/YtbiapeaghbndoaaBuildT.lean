/- canvas: a work of a tile. -/
import Derived.Test.YtbiapeaghbndoaaBld
import Derived.Test.YtbiapeaghbndoaaTil
namespace Go.Proofs.Ytbiapeaghbndoaa
open Go Go.RowKit
theorem build_work {cs : Array Value} (hc : cs.size = 256) (w : World) : (Instr.build 148 #[(0, .agg cs)]).run Try.prog w = .ok (.agg cs) w := by
  have key : Try.prog.built 148 [(0, .agg cs)] = Instr.fill (fun x => (#[(0, 256)] : Array (Nat × Nat))[x]?) (lst C4.cells zero64) [(0, .agg cs)] := by kernel_rfl
  exact run_build w 148 #[(0, .agg cs)] cs (key.trans (fill_one (n := 256) rfl (tsz zero64_len) hc))
end Go.Proofs.Ytbiapeaghbndoaa
