/- tile: how colours, tiles and points are read. -/
import Derived.Test.YtmlkifojbjbpcaaLawA
import Derived.Test.YtmlkifojbjbpcaaArg
namespace Go.Proofs.Ytmlkifojbjbpcaa
open Go.RowKit
theorem rds_col : Rds Try.prog 23 C4.cells (fun _ => True) :=
  Rds.map (rds4 fl23_0 fl23_1 fl23_2 fl23_3 sz5 sz5 sz5 sz5 sz23 (rds_int io5) (rds_int io5) (rds_int io5) (rds_int io5)) (fun p => ⟨p.1, p.2.1, p.2.2.1, p.2.2.2⟩) (fun _ => rfl) (fun _ _ => trivial)
theorem rds_tile : Rds Try.prog 25 (fun l : List C4 => l.flatMap C4.cells) (fun l => l.length = 64) :=
  Rds.map (rds_arr ar25 sz23 sz25 C4.cells_len rds_col) (fun l => l) (fun _ => rfl) (fun _ h => h.1)
theorem rds_pt : Rds Try.prog 43 Pt.cells (fun p => -9223372036854775808 ≤ p.x ∧ p.x ≤ 9223372036854775807) :=
  Rds.map (rds2 fl43_0 fl43_1 sz3 sz3 sz43 (rds_int io3) (rds_int io3)) (fun p => ⟨p.1, p.2⟩) (fun _ => rfl) (fun _ h => wf_i64 h.1)
end Go.Proofs.Ytmlkifojbjbpcaa
