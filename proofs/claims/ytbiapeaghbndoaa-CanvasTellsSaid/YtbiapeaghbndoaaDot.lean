/- canvas: dots compared; lists cut. -/
import Derived.Test.YtbiapeaghbndoaaWithL
namespace Go.Proofs.Ytbiapeaghbndoaa
open Go Go.RowKit
set_option maxRecDepth 10000
theorem eq_col (x y : C4) (d : Nat) (w : World) : (Op.equalIn (d + 2) 37 (.agg x.cells.toArray) (.agg y.cells.toArray)).run Try.prog w = .ok (decide (x = y)) w :=
  (run_eqIntS (l := [(0, .u8), (1, .u8), (2, .u8), (3, .u8)]) (by kernel_rfl) rfl rfl).trans (congrArg (fun b => Result.ok b w) (eqC x y))
theorem run_eqInt1 {P : Program} {t : TypeId} {k : IntKind} (hk : intOf? P t = some k) (d : Nat) (x y : Int) (w : World) : (Op.equalIn (d + 1) t (.int k x) (.int k y)).run P w = .ok (decide (x = y)) w := by
  unfold Op.equalIn
  rw [run_underlying (und_int hk)]
  simp only [if_true]
  rfl
theorem eq_dot (d e : Dt) (w : World) : (Op.equal 51 (.agg d.cells.toArray) (.agg e.cells.toArray)).run Try.prog w = .ok (decide (d = e)) w := by
  have key : (Op.equal 51 (.agg d.cells.toArray) (.agg e.cells.toArray)).run Try.prog w = .ok (decide (d.x = e.x) && (decide (d.y = e.y) && (decide (d.c = e.c) && true))) w := by
    unfold Op.equal Op.maxDepth
    refine (run_eqStruct (P := Try.prog) (fun f => match f.offset with | 0 => decide (d.x = e.x) | 1 => decide (d.y = e.y) | _ => decide (d.c = e.c)) rfl (by kernel_rfl) ?_).trans rfl
    intro f hf
    rcases List.mem_cons.1 hf with rfl | hf
    · exact ⟨by decide, _, _, run_part_one ag3 rfl, run_part_one ag3 rfl, run_eqInt1 io3 _ _ _ _⟩
    rcases List.mem_cons.1 hf with rfl | hf
    · exact ⟨by decide, _, _, run_part_one ag3 rfl, run_part_one ag3 rfl, run_eqInt1 io3 _ _ _ _⟩
    rcases List.mem_cons.1 hf with rfl | hf
    · exact ⟨by decide, .agg d.c.cells.toArray, .agg e.c.cells.toArray, run_part_agg ag37 sz37, run_part_agg ag37 sz37, eq_col _ _ _ _⟩
    · cases hf
  rw [key]
  congr 1
  by_cases h : d = e
  · subst h; simp
  · rw [decide_eq_false h]
    refine Bool.eq_false_iff.2 fun h2 => h ?_
    simp only [Bool.and_true, Bool.and_eq_true, decide_eq_true_eq] at h2
    exact dt_ext h2.1 h2.2.1 h2.2.2
theorem take_min {α : Type} (l : List α) (k : Nat) : l.take (min l.length k) = l.take k := by
  by_cases h : l.length ≤ k
  · rw [Nat.min_eq_left h, List.take_length, List.take_of_length_le h]
  · rw [Nat.min_eq_right (by omega)]
end Go.Proofs.Ytbiapeaghbndoaa
