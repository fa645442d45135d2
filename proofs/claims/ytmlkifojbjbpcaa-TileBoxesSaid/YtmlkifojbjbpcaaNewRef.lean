/- tile: the reference of New. Printed by a program of this seat's prover. -/
import Derived.Test.YtmlkifojbjbpcaaFlip
namespace Go.Proofs.Ytmlkifojbjbpcaa
open Go Go.RowKit
set_option maxRecDepth 10000
theorem new_step {c : C4} {z : List C4} {k : Nat} : (gridN (newG c) z k).set k c = gridN (newG c) z (k + 1) := by
  show _ = (gridN (newG c) z k).set (8 * (k / 8) + k % 8) c
  rw [show 8 * (k / 8) + k % 8 = k by omega]

theorem new_ref (c : C4) (w : World) : Calls Try.prog 32 #[c.v] w fun e w' => e = .returned (til (newL c)) ∧ Below w.heap.size w w' := by
  refine calls_of_T (l := [.agg #[.int .u8 c.r, .int .u8 c.g, .int .u8 c.b, .int .u8 c.a]]) 13 Try.func32 rfl rfl rfl ?_
  show T _ _ _ [(0, .agg #[.int .u8 c.r, .int .u8 c.g, .int .u8 c.b, .int .u8 c.a])] []
  refine T_seq (T_region ?_)
  refine TL_new 1 (.cells #[.int .u8 c.r, .int .u8 c.g, .int .u8 c.b, .int .u8 c.a] 23) (fun B => .pointer (some ⟨B, 0, none⟩)) (fun _ _ hρ _ => r_box (hρ _ _ rfl) rfl) rfl rfl rfl (w_n rfl) ?_
  intro B1
  refine TL_new 2 (.cells (lst C4.cells zero64) 25) (fun B => .pointer (some ⟨B, 0, none⟩)) (fun _ _ _ _ => r_alloc (v := .agg (lst C4.cells zero64)) (by kernel_rfl) rfl) rfl rfl rfl (w_n rfl) ?_
  intro B2
  refine TL_seq ?_
  refine T_seq (T_region ?_)
  refine TL_new 3 (.cells (lst C4.cells zero64) 25) (fun B => .pointer (some ⟨B, 0, none⟩)) (fun _ _ _ _ => r_alloc (v := .agg (lst C4.cells zero64)) (by kernel_rfl) rfl) rfl rfl rfl (w_n rfl) ?_
  intro B3
  refine TL_seq ?_
  refine T_seq ?_
  refine T_seq (T_region ?_)
  refine TL_q (.int .i64 0) (fun _ _ hρ _ => r_move (hρ _ _ rfl)) rfl rfl rfl (w_n rfl) ?_
  refine TL_seq ?_
  refine T_block ?_
  refine T_loop (ι := Nat) (fun (k : Nat) => k ≤ 64) (fun (k : Nat) => [(1, .pointer (some ⟨B1, 0, none⟩)), (2, .pointer (some ⟨B2, 0, none⟩)), (3, .pointer (some ⟨B3, 0, none⟩)), (5, .int .i64 ((k : Nat) : Int))]) (fun (k : Nat) => [(1, .blk B1 (.cells #[.int .u8 c.r, .int .u8 c.g, .int .u8 c.b, .int .u8 c.a] 23)), (2, .blk B2 (.cells (lst C4.cells zero64) 25)), (3, .blk B3 (.cells (lst C4.cells (gridN (newG c) zero64 k)) 25))]) (fun (k : Nat) => 64 - k) 0 (Nat.zero_le _) (sub_cons rfl (sub_cons rfl (sub_cons rfl (sub_cons rfl sub_nil)))) (sub_cons rfl (sub_cons rfl (sub_cons rfl sub_nil))) ?_
  rintro k hp
  show T _ _ _ [(1, .pointer (some ⟨B1, 0, none⟩)), (2, .pointer (some ⟨B2, 0, none⟩)), (3, .pointer (some ⟨B3, 0, none⟩)), (5, .int .i64 ((k : Nat) : Int))] [(1, .blk B1 (.cells #[.int .u8 c.r, .int .u8 c.g, .int .u8 c.b, .int .u8 c.a] 23)), (2, .blk B2 (.cells (lst C4.cells zero64) 25)), (3, .blk B3 (.cells (lst C4.cells (gridN (newG c) zero64 k)) 25))]
  refine T_seq (T_region ?_)
  refine TL_q (.bool (decide (((k : Nat) : Int) < 64))) (fun _ _ hρ _ => r_lss (hρ _ _ rfl) (hρ _ _ rfl)) rfl rfl rfl (w_n rfl) ?_
  refine TL_seq ?_
  refine T_seq ?_
  refine T_cond rfl (fun h1 => ?_) (fun h1 => ?_)
  · replace h1 := of_decide_eq_true h1
    refine T_skip' ?_
    refine p_seq ?_
    refine T_seq ?_
    refine T_block ?_
    refine T_seq (T_region ?_)
    refine TL_q (.int .i64 ((k : Nat) : Int)) (fun _ _ hρ _ => r_move (hρ _ _ rfl)) rfl rfl rfl (w_n rfl) ?_
    refine TL_q (.int .i64 ((k : Nat) : Int)) (fun _ _ hρ _ => r_assign (hρ _ _ rfl)) rfl rfl rfl (w_n rfl) ?_
    refine TL_seq ?_
    refine T_region ?_
    refine TL_q (.int .i64 ((k : Nat) : Int)) (fun _ _ hρ _ => r_move (hρ _ _ rfl)) rfl rfl rfl (w_n rfl) ?_
    refine TL_q (.agg #[.int .u8 c.r, .int .u8 c.g, .int .u8 c.b, .int .u8 c.a]) (fun _ _ hρ hm => r_loadA ag23 sz23 (hρ _ _ rfl) (hm.at 1 rfl) rfl rfl) rfl rfl rfl (w_n rfl) ?_
    refine TL_q (.pointer (some ⟨B3, 0 + k * 4, none⟩)) (fun _ _ hρ _ => r_indexAddrA (i := k) ar25 sz23 (hρ _ _ rfl) (hρ _ _ rfl) (by omega)) rfl rfl rfl (w_n rfl) ?_
    refine TL_store 3 (.cells (lst C4.cells ((gridN (newG c) zero64 k).set k c)) 25) rfl (fun _ _ hρ hm => r_storeLst (u := c) sz23 (hρ _ _ rfl) (hρ _ _ rfl) (hm.at 3 rfl) C4.cells_len (lt64 (grid_len (newG_len _) zero64_len _) (by omega)) rfl rfl) rfl rfl (w_n rfl) ?_
    refine TL_nil ?_
    refine p_blk_n ?_
    refine p_seq ?_
    refine T_region ?_
    refine TL_q (.int .i64 ((k + 1 : Nat) : Int)) (fun _ _ hρ _ => r_as (r_add (hρ _ _ rfl) (hρ _ _ rfl)) (int_as ((wrap64 (by omega) (by omega)).trans (by omega)))) rfl rfl rfl (w_n rfl) ?_
    refine TL_q (.int .i64 ((k + 1 : Nat) : Int)) (fun _ _ hρ _ => r_move (hρ _ _ rfl)) rfl rfl rfl (w_n rfl) ?_
    refine TL_nil ?_
    rw [show (gridN (newG c) zero64 k).set k c = gridN (newG c) zero64 (k + 1) from new_step]
    exact p_at (k + 1) ⟨by omega, by omega⟩ (sub_cons rfl (sub_cons rfl (sub_cons rfl (sub_cons rfl sub_nil)))) (sub_cons rfl (sub_cons rfl (sub_cons rfl sub_nil)))
  · replace h1 := of_decide_eq_false h1
    refine T_exit' ?_
    refine p_then_x ?_
    refine p_then_x ?_
    refine p_blk_x ?_
    refine p_seq ?_
    refine T_seq (T_region ?_)
    refine TL_q (.agg (lst C4.cells (gridN (newG c) zero64 k))) (fun _ _ hρ hm => r_loadW ag25 sz25 (hρ _ _ rfl) (hm.at 3 rfl) (tsz (grid_len (newG_len _) zero64_len _))) rfl rfl rfl (w_n rfl) ?_
    refine TL_store 2 (.cells (lst C4.cells (gridN (newG c) zero64 k)) 25) rfl (fun _ _ hρ hm => r_storeAll sz25 (hρ _ _ rfl) (hρ _ _ rfl) (hm.at 2 rfl) (tsz zero64_len) (tsz (grid_len (newG_len _) zero64_len _)) (lst_one C4.cells_all _)) rfl rfl (w_n rfl) ?_
    refine TL_seq ?_
    refine T_ret' ?_
    refine ret_of rfl (.agg (lst C4.cells (gridN (newG c) zero64 k))) (fun tmps w hk hm => res1 rfl (res_cell (hk 2 _ rfl) (run_loadVar_agg ag25 sz25 (hm.at 2 rfl) (le64 (grid_len (newG_len _) zero64_len _)) (ex64 (grid_len (newG_len _) zero64_len _))))) (fun w hm => ?_)
    have hk64 : k = 64 := by omega
    subst hk64
    exact ⟨rfl, hm.ext⟩
end Go.Proofs.Ytmlkifojbjbpcaa
