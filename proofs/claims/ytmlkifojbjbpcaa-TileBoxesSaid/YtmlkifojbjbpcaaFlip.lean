/- tile: Flip. Printed by a program of this seat's prover. -/
import Derived.Test.YtmlkifojbjbpcaaMoved
namespace Go.Proofs.Ytmlkifojbjbpcaa
open Go Go.RowKit
set_option maxRecDepth 10000
theorem flip1_c (px py : Nat) (w : World) (hx : px < 8) (hy : py < 8) : Calls Try.prog 42 (#[] ++ [.int .i64 px, .int .i64 py].toArray ++ #[]) w fun e w' => e = .returned (.tuple #[.int .i64 (7 - (px : Int)), .int .i64 py]) ∧ Below w.heap.size w w' := by
  refine calls_of_T (l := [.int .i64 ((px : Nat) : Int), .int .i64 ((py : Nat) : Int)]) 9 Try.func42 rfl rfl rfl ?_
  show T _ _ _ [(0, .int .i64 ((px : Nat) : Int)), (1, .int .i64 ((py : Nat) : Int))] []
  refine T_seq (T_region ?_)
  refine TL_q (.int .i64 0) (fun _ _ hρ _ => r_assign (hρ _ _ rfl)) rfl rfl rfl (w_n rfl) ?_
  refine TL_q (.int .i64 0) (fun _ _ hρ _ => r_assign (hρ _ _ rfl)) rfl rfl rfl (w_n rfl) ?_
  refine TL_seq ?_
  refine T_seq (T_region ?_)
  refine TL_q (.int .i64 ((px : Nat) : Int)) (fun _ _ hρ _ => r_move (hρ _ _ rfl)) rfl rfl rfl (w_n rfl) ?_
  refine TL_q (.int .i64 ((7 : Int) - ((px : Nat) : Int))) (fun _ _ hρ _ => r_as (r_sub (hρ _ _ rfl) (hρ _ _ rfl)) (int_as (wrap64 (by omega) (by omega)))) rfl rfl rfl (w_n rfl) ?_
  refine TL_q (.int .i64 ((py : Nat) : Int)) (fun _ _ hρ _ => r_move (hρ _ _ rfl)) rfl rfl rfl (w_n rfl) ?_
  refine TL_q (.int .i64 ((7 : Int) - ((px : Nat) : Int))) (fun _ _ hρ _ => r_assign (hρ _ _ rfl)) rfl rfl rfl (w_n rfl) ?_
  refine TL_q (.int .i64 ((py : Nat) : Int)) (fun _ _ hρ _ => r_assign (hρ _ _ rfl)) rfl rfl rfl (w_n rfl) ?_
  refine TL_seq ?_
  refine T_ret' ?_
  refine ret_of rfl (.tuple #[.int .i64 ((7 : Int) - ((px : Nat) : Int)), .int .i64 ((py : Nat) : Int)]) (fun tmps w hk hm => res2 rfl (res_tmp (hk 4 _ rfl)) (res_tmp (hk 5 _ rfl))) (fun w hm => ?_)
  exact ⟨rfl, hm.ext⟩

theorem turn1_c (px py : Nat) (w : World) (hx : px < 8) (hy : py < 8) : Calls Try.prog 43 (#[] ++ [.int .i64 px, .int .i64 py].toArray ++ #[]) w fun e w' => e = .returned (.tuple #[.int .i64 (7 - (py : Int)), .int .i64 px]) ∧ Below w.heap.size w w' := by
  refine calls_of_T (l := [.int .i64 ((px : Nat) : Int), .int .i64 ((py : Nat) : Int)]) 9 Try.func43 rfl rfl rfl ?_
  show T _ _ _ [(0, .int .i64 ((px : Nat) : Int)), (1, .int .i64 ((py : Nat) : Int))] []
  refine T_seq (T_region ?_)
  refine TL_q (.int .i64 0) (fun _ _ hρ _ => r_assign (hρ _ _ rfl)) rfl rfl rfl (w_n rfl) ?_
  refine TL_q (.int .i64 0) (fun _ _ hρ _ => r_assign (hρ _ _ rfl)) rfl rfl rfl (w_n rfl) ?_
  refine TL_seq ?_
  refine T_seq (T_region ?_)
  refine TL_q (.int .i64 ((py : Nat) : Int)) (fun _ _ hρ _ => r_move (hρ _ _ rfl)) rfl rfl rfl (w_n rfl) ?_
  refine TL_q (.int .i64 ((7 : Int) - ((py : Nat) : Int))) (fun _ _ hρ _ => r_as (r_sub (hρ _ _ rfl) (hρ _ _ rfl)) (int_as (wrap64 (by omega) (by omega)))) rfl rfl rfl (w_n rfl) ?_
  refine TL_q (.int .i64 ((px : Nat) : Int)) (fun _ _ hρ _ => r_move (hρ _ _ rfl)) rfl rfl rfl (w_n rfl) ?_
  refine TL_q (.int .i64 ((7 : Int) - ((py : Nat) : Int))) (fun _ _ hρ _ => r_assign (hρ _ _ rfl)) rfl rfl rfl (w_n rfl) ?_
  refine TL_q (.int .i64 ((px : Nat) : Int)) (fun _ _ hρ _ => r_assign (hρ _ _ rfl)) rfl rfl rfl (w_n rfl) ?_
  refine TL_seq ?_
  refine T_ret' ?_
  refine ret_of rfl (.tuple #[.int .i64 ((7 : Int) - ((py : Nat) : Int)), .int .i64 ((px : Nat) : Int)]) (fun tmps w hk hm => res2 rfl (res_tmp (hk 4 _ rfl)) (res_tmp (hk 5 _ rfl))) (fun w hm => ?_)
  exact ⟨rfl, hm.ext⟩

theorem flip_c (l : List C4) (w : World) (hl : l.length = 64) : Calls Try.prog 21 #[til l] w fun e w' => e = .returned (til (flipL l)) ∧ Below w.heap.size w w' := by
  refine calls_of_T (l := [.agg (lst C4.cells l)]) 6 Try.func21 rfl rfl rfl ?_
  show T _ _ _ [(0, .agg (lst C4.cells l))] []
  refine T_seq (T_region ?_)
  refine TL_new 1 (.cells (lst C4.cells l) 25) (fun B => .pointer (some ⟨B, 0, none⟩)) (fun _ _ hρ _ => r_box (hρ _ _ rfl) rfl) rfl rfl rfl (w_n rfl) ?_
  intro B1
  refine TL_new 2 (.cells (lst C4.cells zero64) 25) (fun B => .pointer (some ⟨B, 0, none⟩)) (fun _ _ _ _ => r_alloc (v := .agg (lst C4.cells zero64)) (by kernel_rfl) rfl) rfl rfl rfl (w_n rfl) ?_
  intro B2
  refine TL_seq ?_
  refine T_seq (T_region ?_)
  refine TL_q (.agg (lst C4.cells l)) (fun _ _ hρ hm => r_loadW ag25 sz25 (hρ _ _ rfl) (hm.at 1 rfl) (tsz hl)) rfl rfl rfl (w_n rfl) ?_
  refine TL_q (.agg #[.int .u8 0, .int .u8 0, .int .u8 0, .int .u8 0]) (fun _ _ _ _ => r_build (vs := []) (by kernel_rfl) rfl) rfl rfl rfl (w_n rfl) ?_
  refine TL_call (.agg (lst C4.cells (movedL flipF l zeroC))) (fun _ _ hρ _ => r_call (args := [.agg (lst C4.cells l), .agg #[.int .u8 0, .int .u8 0, .int .u8 0, .int .u8 0], .func (.func 42) #[] #[]]) (enters_of Try.func41 (by kernel_rfl) rfl) (hρ _ _ rfl) ((cons2 (hρ _ _ rfl) (cons2 (hρ _ _ rfl) (cons2 (hρ _ _ rfl) rfl)))) rfl) (fun w _ => moved_c l zeroC 42 #[] flipF w hl (enters_of Try.func42 (by kernel_rfl) rfl) (fun w' _ px py hx hy => flip1_c px py w' hx hy)) rfl rfl rfl (w_n rfl) ?_
  refine TL_store 2 (.cells (lst C4.cells (movedL flipF l zeroC)) 25) rfl (fun _ _ hρ hm => r_storeAll sz25 (hρ _ _ rfl) (hρ _ _ rfl) (hm.at 2 rfl) (tsz zero64_len) (tsz (movedL_len _ _ _)) (lst_one C4.cells_all _)) rfl rfl (w_n rfl) ?_
  refine TL_seq ?_
  refine T_ret' ?_
  refine ret_of rfl (.agg (lst C4.cells (movedL flipF l zeroC))) (fun tmps w hk hm => res1 rfl (res_cell (hk 2 _ rfl) (run_loadVar_agg ag25 sz25 (hm.at 2 rfl) (le64 (movedL_len _ _ _)) (ex64 (movedL_len _ _ _))))) (fun w hm => ?_)
  exact ⟨by rw [flip_eq], hm.ext⟩
end Go.Proofs.Ytmlkifojbjbpcaa
