/- pixel: how colours are read. -/
import Derived.Test.YtnhkiblakclcoaaPix
import Derived.Test.YtnhkiblakclcoaaArg
namespace Go.Proofs.Ytnhkiblakclcoaa
open Go.RowKit
theorem rds_col : Rds Try.prog 27 C4.cells C4.ok :=
  Rds.map (rds4 fl27_0 fl27_1 fl27_2 fl27_3 sz5 sz5 sz5 sz5 sz27 (rds_int io5) (rds_int io5) (rds_int io5) (rds_int io5)) (fun p => ⟨p.1, p.2.1, p.2.2.1, p.2.2.2⟩) (fun _ => rfl) (fun _ h => ⟨wf_u8 h.1, wf_u8 h.2.1, wf_u8 h.2.2.1, wf_u8 h.2.2.2⟩)
end Go.Proofs.Ytnhkiblakclcoaa
