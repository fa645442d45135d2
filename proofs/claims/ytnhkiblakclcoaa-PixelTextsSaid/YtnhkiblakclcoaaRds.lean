/- pixel: how colours are read. -/
import Derived.Test.YtnhkiblakclcoaaPix
import Derived.Test.YtnhkiblakclcoaaArg
namespace Go.Proofs.Ytnhkiblakclcoaa
open Go.RowKit
theorem rds_col : Rds Try.prog 27 C4.cells C4.ok :=
  Rds.map (rds4 fl27_0 fl27_1 fl27_2 fl27_3 sz5 sz5 sz5 sz5 sz27 (rds_int io5) (rds_int io5) (rds_int io5) (rds_int io5)) (fun p => ⟨p.1, p.2.1, p.2.2.1, p.2.2.2⟩) (fun _ => rfl) (fun _ h => ⟨wf_u8 h.1, wf_u8 h.2.1, wf_u8 h.2.2.1, wf_u8 h.2.2.2⟩)
theorem rds_th3 : Rds Try.prog 53 Th3.cells Th3.ok :=
  Rds.map (rds3 fl53_0 fl53_1 fl53_2 sz27 sz27 sz5 sz53 rds_col rds_col (rds_int io5)) (fun p => ⟨p.1, p.2.1, p.2.2⟩) (fun _ => rfl) (fun _ h => ⟨h.1, h.2.1, wf_u8 h.2.2⟩)
theorem rds_u32 : Rds Try.prog 28 (fun x : Int => [.int .u32 x]) (fun x => 0 ≤ x ∧ x ≤ 4294967295) := Rds.map (rds_int io28) (fun x => x) (fun _ => rfl) (fun _ h => wf_u32 h)
theorem rds_s : Rds Try.prog 9 (fun x : ByteArray => [.string x]) (fun x => x.size ≤ Go.maxLen) := rds_str st9
end Go.Proofs.Ytnhkiblakclcoaa
