/- canvas: maps by whole numbers. -/
import Derived.Test.YtbiapeaghbndoaaWithL
namespace Go.Proofs.Ytbiapeaghbndoaa
open Go Go.RowKit
set_option maxRecDepth 10000
theorem nat_dec (x y : Nat) : decide ((x : Int) = (y : Int)) = decide (x = y) := by
  by_cases h : x = y
  · subst h; simp
  · rw [decide_eq_false h, decide_eq_false (by omega)]
theorem keyN : KeyOk Try.prog 3 natK where
  und := ⟨_, rfl, .inr fun x y => congrArg some (nat_dec x y)⟩
  eq x y w := by
    refine Eq.trans ?_ (congrArg (fun b => Result.ok b w) (nat_dec x y))
    kernel_rfl
  chk b x w := by kernel_rfl
  same x := by show Instr.sameBits 10000 (.int .i64 (x : Int)) (.int .i64 (x : Int)) = true; simp [Instr.sameBits]
theorem with_one {t : T64} {c : C4} {px py : Nat} (hx : px < 8) (hy : py < 8) : withR t.l c [⟨(px : Int), (py : Int)⟩] = some (t.set (py * 8 + px) c).l := by
  have h : isP (px : Int) (py : Int) = true := decide_eq_true ⟨by omega, by omega, by omega, by omega⟩
  unfold withR
  rw [if_pos (by simp [Pt.inn, h])]
  show some (putL t.l (px : Int) (py : Int) c) = _
  rw [putL_at hx hy]; rfl
end Go.Proofs.Ytbiapeaghbndoaa
