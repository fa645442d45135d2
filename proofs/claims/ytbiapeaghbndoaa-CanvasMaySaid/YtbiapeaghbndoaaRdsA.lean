/- canvas: arguments of the laws, read. -/
import Derived.Test.YtbiapeaghbndoaaWithL
import Derived.Test.YtbiapeaghbndoaaArgS
namespace Go.Proofs.Ytbiapeaghbndoaa
open Go Go.RowKit Go.ChangeShapes Go.WideShapes
theorem rds_col : Rds Try.prog 37 C4.cells (fun _ => True) :=
  Rds.map (rds4 fl37_0 fl37_1 fl37_2 fl37_3 sz5 sz5 sz5 sz5 sz37 (rds_int io5) (rds_int io5) (rds_int io5) (rds_int io5)) (fun p => ⟨p.1, p.2.1, p.2.2.1, p.2.2.2⟩) (fun _ => rfl) (fun _ _ => trivial)
def T64.of (l : List C4) : T64 := if h : l.length = 64 then ⟨l, h⟩ else zeroT
theorem T64.of_l {l : List C4} (h : l.length = 64) : (T64.of l).l = l := by unfold T64.of; rw [dif_pos h]
theorem rds_t64 (w : World) : RdsAt Try.prog w 39 T64.cells (fun _ => True) :=
  RdsAt.mapIf ((rds_arr ar39 sz37 sz39 C4.cells_len rds_col).at w) T64.of (fun l h => by show l.flatMap C4.cells = (T64.of l).l.flatMap C4.cells; rw [T64.of_l h.1]) (fun _ _ => trivial)
def inI (n : Int) : Prop := -9223372036854775808 ≤ n ∧ n ≤ 9223372036854775807
theorem rds_pt (w : World) : RdsAt Try.prog w 47 Pt.cells (fun p => inI p.x ∧ inI p.y) :=
  RdsAt.mapIf (rdsA2 fl47_0 fl47_1 sz3 sz3 sz47 ((rds_int io3).at w) ((rds_int io3).at w)) (fun p => ⟨p.1, p.2⟩) (fun _ _ => rfl) (fun _ h => ⟨wf_i64 h.1, wf_i64 h.2⟩)
/-- A canvas that is handed in. -/
structure Pic where
  x : Int
  y : Int
  r : RowG T64
abbrev Pic.cells (p : Pic) : List Value := [.int .i64 p.x, .int .i64 p.y, .slice p.r.a p.r.l.length p.r.cap]
def Pic.ok (w : World) (p : Pic) : Prop := inI p.x ∧ inI p.y ∧ p.r.ok 256 T64.cells w ∧ p.r.cap ≤ Go.maxLen
theorem rds_pic (w : World) : RdsAt Try.prog w 24 Pic.cells (Pic.ok w) :=
  RdsAt.mapIf (rdsA3 fl24_0 fl24_1 fl24_2 sz3 sz3 sz22 sz24 ((rds_int io3).at w) ((rds_int io3).at w) (rds_slice sl22 sz39 T64.cells_len (by decide) (rds_t64 w))) (fun p => ⟨p.1, p.2.1, p.2.2⟩) (fun _ _ => rfl)
    (fun _ h => ⟨wf_i64 h.1, wf_i64 h.2.1, h.2.2.1, h.2.2.2.2⟩)
end Go.Proofs.Ytbiapeaghbndoaa
