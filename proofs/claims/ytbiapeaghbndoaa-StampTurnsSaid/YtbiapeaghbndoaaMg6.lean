/- Texts of this seat, merged: part 6. -/
import Derived.Test.YtbiapeaghbndoaaMg5
/- stamp: arguments of the laws, read. -/
namespace Go.Proofs.Ytbiapeaghbndoaa
open Go Go.RowKit Go.ChangeShapes Go.WideShapes
theorem rds_colb : Rds Try.prog 37 C4.cells C4.ok :=
  Rds.map (rds4 fl37_0 fl37_1 fl37_2 fl37_3 sz5 sz5 sz5 sz5 sz37 (rds_int io5) (rds_int io5) (rds_int io5) (rds_int io5)) (fun p => ⟨p.1, p.2.1, p.2.2.1, p.2.2.2⟩) (fun _ => rfl) (fun _ h => ⟨wf_u8 h.1, wf_u8 h.2.1, wf_u8 h.2.2.1, wf_u8 h.2.2.2⟩)
structure Stm where
  x : Int
  y : Int
  r : RowG C4
abbrev Stm.cells (p : Stm) : List Value := [.int .i64 p.x, .int .i64 p.y, .slice p.r.a p.r.l.length p.r.cap]
def Stm.ok (w : World) (p : Stm) : Prop := inI p.x ∧ inI p.y ∧ p.r.ok 4 C4.cells w ∧ p.r.cap ≤ Go.maxLen ∧ ∀ c ∈ p.r.l, c.ok
theorem rds_stm (w : World) : RdsAt Try.prog w 75 Stm.cells (Stm.ok w) :=
  RdsAt.mapIf (rdsA3 fl75_0 fl75_1 fl75_2 sz3 sz3 sz71 sz75 ((rds_int io3).at w) ((rds_int io3).at w) (rds_slice sl71 sz37 C4.cells_len (by decide) (rds_colb.at w))) (fun p => ⟨p.1, p.2.1, p.2.2⟩) (fun _ _ => rfl)
    (fun _ h => ⟨wf_i64 h.1, wf_i64 h.2.1, h.2.2.1, h.2.2.2.2, h.2.2.2.1⟩)
structure Rct where
  x : Int
  y : Int
  wi : Int
  hi : Int
  r : RowG Pt
abbrev Rct.cells (p : Rct) : List Value := [.int .i64 p.x, .int .i64 p.y, .int .i64 p.wi, .int .i64 p.hi, .slice p.r.a p.r.l.length p.r.cap]
def Rct.ok (w : World) (p : Rct) : Prop := inI p.x ∧ inI p.y ∧ inI p.wi ∧ inI p.hi ∧ p.r.ok 2 Pt.cells w ∧ p.r.cap ≤ Go.maxLen ∧ ∀ u ∈ p.r.l, inI u.x ∧ inI u.y
end Go.Proofs.Ytbiapeaghbndoaa
