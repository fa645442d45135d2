/- canvas: references: New, On, At, Put, Puts. Printed by a program of this seat's prover. -/
import Derived.Test.YtbiapeaghbndoaaRefA
import Derived.Test.YtbiapeaghbndoaaPix
namespace Go.Proofs.Ytbiapeaghbndoaa
open Go Go.RowKit
set_option maxRecDepth 10000
theorem rnew_c (wd hg : Nat) (w : World) (hwd : 1 ≤ wd ∧ wd ≤ 4) (hhg : 1 ≤ hg ∧ hg ≤ 4) : Calls Try.prog 31 #[.int .i64 (wd : Int), .int .i64 (hg : Int)] w fun e w' => ∃ a' cap', e = .returned (.agg #[.int .i64 (wd : Int), .int .i64 (hg : Int), .slice a' (List.replicate (wd * hg) zeroT).length cap']) ∧ Below w.heap.size w w' ∧ w'.ownsRow w.heap.size 39 256 (.slice a' (List.replicate (wd * hg) zeroT).length cap') (List.replicate (wd * hg) zeroT).length ((List.replicate (wd * hg) zeroT).flatMap T64.cells) := by
  have h16 := size4 hwd hhg
  refine calls_of_T (l := [.int .i64 ((wd : Nat) : Int), .int .i64 ((hg : Nat) : Int)]) 12 Try.func31 rfl rfl rfl ?_
  show T _ _ _ [(0, .int .i64 ((wd : Nat) : Int)), (1, .int .i64 ((hg : Nat) : Int))] []
  refine T_seq (T_region ?_)
  refine TL_new 1 (.cells #[.int .i64 0, .int .i64 0, .slice none 0 0] 24) (fun B => .pointer (some ⟨B, 0, none⟩)) (fun _ _ _ _ => r_alloc (v := .agg #[.int .i64 0, .int .i64 0, .slice none 0 0]) (by kernel_rfl) rfl) rfl rfl rfl (w_n rfl) ?_
  intro B1
  refine TL_seq ?_
  refine T_seq (T_region ?_)
  refine TL_q (.int .i64 ((wd : Nat) : Int)) (fun _ _ hρ _ => r_move (hρ _ _ rfl)) rfl rfl rfl (w_n rfl) ?_
  refine TL_q (.int .i64 ((hg : Nat) : Int)) (fun _ _ hρ _ => r_move (hρ _ _ rfl)) rfl rfl rfl (w_n rfl) ?_
  refine TL_q (.int .i64 ((wd : Nat) : Int)) (fun _ _ hρ _ => r_move (hρ _ _ rfl)) rfl rfl rfl (w_n rfl) ?_
  refine TL_q (.int .i64 ((hg : Nat) : Int)) (fun _ _ hρ _ => r_move (hρ _ _ rfl)) rfl rfl rfl (w_n rfl) ?_
  refine TL_q (.int .i64 ((wd * hg : Nat) : Int)) (fun _ _ hρ _ => r_as (r_mul (hρ _ _ rfl) (hρ _ _ rfl)) (int_as ((wrap64 (by omega) (by omega)).trans (by omega)))) rfl rfl rfl (w_n rfl) ?_
  refine TL_op (ι := Nat) (fun B => .slice (some ⟨B, 0, none⟩) (wd * hg) (wd * hg)) _ (fun _ _ hρ hm => o_make (n := wd * hg) (cap := wd * hg) (z := til zero64) (f := T64.cells) (u := zeroT) 2 rfl (hρ _ _ rfl) (hρ _ _ rfl) sl22 by39 sz39 rfl (by kernel_rfl) rfl T64.cells_len (by omega) (by omega) (by omega) hm) rfl rfl rfl (w_n rfl) ?_
  intro B2
  refine TL_q (.agg #[.int .i64 ((wd : Nat) : Int), .int .i64 ((hg : Nat) : Int), .slice (some ⟨B2, 0, none⟩) (wd * hg) (wd * hg)]) (fun _ _ hρ _ => r_build (vs := [(0, .int .i64 ((wd : Nat) : Int)), (1, .int .i64 ((hg : Nat) : Int)), (2, .slice (some ⟨B2, 0, none⟩) (wd * hg) (wd * hg))]) (by kernel_rfl) (cons2 (pair2 (hρ _ _ rfl)) (cons2 (pair2 (hρ _ _ rfl)) (cons2 (pair2 (hρ _ _ rfl)) rfl)))) rfl rfl rfl (w_n rfl) ?_
  refine TL_store 1 (.cells #[.int .i64 ((wd : Nat) : Int), .int .i64 ((hg : Nat) : Int), .slice (some ⟨B2, 0, none⟩) (wd * hg) (wd * hg)] 24) rfl (fun _ _ hρ hm => r_store sz24 (hρ _ _ rfl) (hρ _ _ rfl) (hm.at 1 rfl) rfl rfl rfl rfl) rfl rfl (w_n rfl) ?_
  refine TL_seq ?_
  refine T_ret' ?_
  refine ret_of rfl (.agg #[.int .i64 ((wd : Nat) : Int), .int .i64 ((hg : Nat) : Int), .slice (some ⟨B2, 0, none⟩) (wd * hg) (wd * hg)]) (fun tmps w hk hm => res1 rfl (res_cell (hk 4 _ rfl) (run_loadVar_agg ag24 sz24 (hm.at 1 rfl) (Nat.le_of_ble_eq_true rfl) rfl))) (fun w hm => ?_)
  have hrow := hm.row 2 rfl
  exact ⟨some ⟨B2, 0, none⟩, (wd * hg), by rw [List.length_replicate], hm.ext, by rw [List.length_replicate]; exact hrow⟩

theorem on_c (wd hg n : Nat) (a : Option Addr) (cap : Nat) (x y : Int) (w : World) (hwd : 1 ≤ wd ∧ wd ≤ 4) (hhg : 1 ≤ hg ∧ hg ≤ 4) : Calls Try.prog 35 #[.agg #[.int .i64 (wd : Int), .int .i64 (hg : Int), .slice a n cap], .int .i64 x, .int .i64 y] w fun e w' => e = .returned (.bool (onC wd hg x y)) ∧ Below w.heap.size w w' := by
  refine calls_of_T (l := [.agg #[.int .i64 ((wd : Nat) : Int), .int .i64 ((hg : Nat) : Int), .slice a n cap], .int .i64 x, .int .i64 y]) 27 Try.func35 rfl rfl rfl ?_
  show T _ _ _ [(0, .agg #[.int .i64 ((wd : Nat) : Int), .int .i64 ((hg : Nat) : Int), .slice a n cap]), (1, .int .i64 x), (2, .int .i64 y)] []
  refine T_seq (T_region ?_)
  refine TL_new 1 (.cells #[.int .i64 ((wd : Nat) : Int), .int .i64 ((hg : Nat) : Int), .slice a n cap] 24) (fun B => .pointer (some ⟨B, 0, none⟩)) (fun _ _ hρ _ => r_box (hρ _ _ rfl) rfl) rfl rfl rfl (w_n rfl) ?_
  intro B1
  refine TL_q (.bool false) (fun _ _ hρ _ => r_assign (hρ _ _ rfl)) rfl rfl rfl (w_n rfl) ?_
  refine TL_seq ?_
  by_cases c1 : (0 : Int) ≤ x
  · skip
    by_cases c2 : x < ((8 * wd : Nat) : Int)
    · skip
      by_cases c3 : (0 : Int) ≤ y
      · skip
        by_cases c4 : y < ((8 * hg : Nat) : Int)
        · skip
          refine T_seq (T_region ?_)
          refine TL_q (.int .i64 x) (fun _ _ hρ _ => r_move (hρ _ _ rfl)) rfl rfl rfl (w_n rfl) ?_
          refine TL_q (.bool true) (fun _ _ hρ _ => r_as (r_geq (hρ _ _ rfl) (hρ _ _ rfl)) (bool_as (decide_eq_true c1))) rfl rfl rfl (w_n rfl) ?_
          refine TL_q (.bool true) (fun _ _ hρ _ => r_move (hρ _ _ rfl)) rfl rfl rfl (w_n rfl) ?_
          refine TL_q (.int .i64 x) (fun _ _ hρ _ => r_move (hρ _ _ rfl)) rfl rfl rfl (want_y 9 rfl rfl rfl) ?_
          refine TL_q (.pointer (some ⟨B1, 0, none⟩)) (fun _ _ hρ _ => r_fieldAddr fl24_0 sz3 (hρ _ _ rfl)) rfl rfl rfl (want_y 9 rfl rfl rfl) ?_
          refine TL_q (.int .i64 ((wd : Nat) : Int)) (fun _ _ hρ hm => r_load ag3 (hρ _ _ rfl) (hm.at 1 rfl) rfl) rfl rfl rfl (want_y 9 rfl rfl rfl) ?_
          refine TL_q (.int .i64 ((8 * wd : Nat) : Int)) (fun _ _ hρ _ => r_as (r_mul (hρ _ _ rfl) (hρ _ _ rfl)) (int_as ((wrap64 (by omega) (by omega)).trans (by omega)))) rfl rfl rfl (want_y 9 rfl rfl rfl) ?_
          refine TL_q (.bool true) (fun _ _ hρ _ => r_as (r_lss (hρ _ _ rfl) (hρ _ _ rfl)) (bool_as (decide_eq_true c2))) rfl rfl rfl (want_y 9 rfl rfl rfl) ?_
          refine TL_q (.bool true) (fun _ _ hρ _ => r_pick_t (hρ _ _ rfl) (hρ _ _ rfl)) rfl rfl rfl (w_n rfl) ?_
          refine TL_q (.bool true) (fun _ _ hρ _ => r_move (hρ _ _ rfl)) rfl rfl rfl (w_n rfl) ?_
          refine TL_q (.int .i64 y) (fun _ _ hρ _ => r_move (hρ _ _ rfl)) rfl rfl rfl (want_y 16 rfl rfl rfl) ?_
          refine TL_q (.bool true) (fun _ _ hρ _ => r_as (r_geq (hρ _ _ rfl) (hρ _ _ rfl)) (bool_as (decide_eq_true c3))) rfl rfl rfl (want_y 16 rfl rfl rfl) ?_
          refine TL_q (.bool true) (fun _ _ hρ _ => r_pick_t (hρ _ _ rfl) (hρ _ _ rfl)) rfl rfl rfl (w_n rfl) ?_
          refine TL_q (.bool true) (fun _ _ hρ _ => r_move (hρ _ _ rfl)) rfl rfl rfl (w_n rfl) ?_
          refine TL_q (.int .i64 y) (fun _ _ hρ _ => r_move (hρ _ _ rfl)) rfl rfl rfl (want_y 20 rfl rfl rfl) ?_
          refine TL_q (.pointer (some ⟨B1, 1, none⟩)) (fun _ _ hρ _ => r_fieldAddr fl24_1 sz3 (hρ _ _ rfl)) rfl rfl rfl (want_y 20 rfl rfl rfl) ?_
          refine TL_q (.int .i64 ((hg : Nat) : Int)) (fun _ _ hρ hm => r_load ag3 (hρ _ _ rfl) (hm.at 1 rfl) rfl) rfl rfl rfl (want_y 20 rfl rfl rfl) ?_
          refine TL_q (.int .i64 ((8 * hg : Nat) : Int)) (fun _ _ hρ _ => r_as (r_mul (hρ _ _ rfl) (hρ _ _ rfl)) (int_as ((wrap64 (by omega) (by omega)).trans (by omega)))) rfl rfl rfl (want_y 20 rfl rfl rfl) ?_
          refine TL_q (.bool true) (fun _ _ hρ _ => r_as (r_lss (hρ _ _ rfl) (hρ _ _ rfl)) (bool_as (decide_eq_true c4))) rfl rfl rfl (want_y 20 rfl rfl rfl) ?_
          refine TL_q (.bool true) (fun _ _ hρ _ => r_pick_t (hρ _ _ rfl) (hρ _ _ rfl)) rfl rfl rfl (w_n rfl) ?_
          refine TL_q (.bool true) (fun _ _ hρ _ => r_assign (hρ _ _ rfl)) rfl rfl rfl (w_n rfl) ?_
          refine TL_seq ?_
          refine T_ret' ?_
          refine ret_of rfl (.bool true) (fun tmps w hk hm => res1 rfl (res_tmp (hk 6 _ rfl))) (fun w hm => ?_)
          exact ⟨congrArg Ending.returned (bool_as (decide_eq_true (by omega)).symm), hm.ext⟩
        · skip
          refine T_seq (T_region ?_)
          refine TL_q (.int .i64 x) (fun _ _ hρ _ => r_move (hρ _ _ rfl)) rfl rfl rfl (w_n rfl) ?_
          refine TL_q (.bool true) (fun _ _ hρ _ => r_as (r_geq (hρ _ _ rfl) (hρ _ _ rfl)) (bool_as (decide_eq_true c1))) rfl rfl rfl (w_n rfl) ?_
          refine TL_q (.bool true) (fun _ _ hρ _ => r_move (hρ _ _ rfl)) rfl rfl rfl (w_n rfl) ?_
          refine TL_q (.int .i64 x) (fun _ _ hρ _ => r_move (hρ _ _ rfl)) rfl rfl rfl (want_y 9 rfl rfl rfl) ?_
          refine TL_q (.pointer (some ⟨B1, 0, none⟩)) (fun _ _ hρ _ => r_fieldAddr fl24_0 sz3 (hρ _ _ rfl)) rfl rfl rfl (want_y 9 rfl rfl rfl) ?_
          refine TL_q (.int .i64 ((wd : Nat) : Int)) (fun _ _ hρ hm => r_load ag3 (hρ _ _ rfl) (hm.at 1 rfl) rfl) rfl rfl rfl (want_y 9 rfl rfl rfl) ?_
          refine TL_q (.int .i64 ((8 * wd : Nat) : Int)) (fun _ _ hρ _ => r_as (r_mul (hρ _ _ rfl) (hρ _ _ rfl)) (int_as ((wrap64 (by omega) (by omega)).trans (by omega)))) rfl rfl rfl (want_y 9 rfl rfl rfl) ?_
          refine TL_q (.bool true) (fun _ _ hρ _ => r_as (r_lss (hρ _ _ rfl) (hρ _ _ rfl)) (bool_as (decide_eq_true c2))) rfl rfl rfl (want_y 9 rfl rfl rfl) ?_
          refine TL_q (.bool true) (fun _ _ hρ _ => r_pick_t (hρ _ _ rfl) (hρ _ _ rfl)) rfl rfl rfl (w_n rfl) ?_
          refine TL_q (.bool true) (fun _ _ hρ _ => r_move (hρ _ _ rfl)) rfl rfl rfl (w_n rfl) ?_
          refine TL_q (.int .i64 y) (fun _ _ hρ _ => r_move (hρ _ _ rfl)) rfl rfl rfl (want_y 16 rfl rfl rfl) ?_
          refine TL_q (.bool true) (fun _ _ hρ _ => r_as (r_geq (hρ _ _ rfl) (hρ _ _ rfl)) (bool_as (decide_eq_true c3))) rfl rfl rfl (want_y 16 rfl rfl rfl) ?_
          refine TL_q (.bool true) (fun _ _ hρ _ => r_pick_t (hρ _ _ rfl) (hρ _ _ rfl)) rfl rfl rfl (w_n rfl) ?_
          refine TL_q (.bool true) (fun _ _ hρ _ => r_move (hρ _ _ rfl)) rfl rfl rfl (w_n rfl) ?_
          refine TL_q (.int .i64 y) (fun _ _ hρ _ => r_move (hρ _ _ rfl)) rfl rfl rfl (want_y 20 rfl rfl rfl) ?_
          refine TL_q (.pointer (some ⟨B1, 1, none⟩)) (fun _ _ hρ _ => r_fieldAddr fl24_1 sz3 (hρ _ _ rfl)) rfl rfl rfl (want_y 20 rfl rfl rfl) ?_
          refine TL_q (.int .i64 ((hg : Nat) : Int)) (fun _ _ hρ hm => r_load ag3 (hρ _ _ rfl) (hm.at 1 rfl) rfl) rfl rfl rfl (want_y 20 rfl rfl rfl) ?_
          refine TL_q (.int .i64 ((8 * hg : Nat) : Int)) (fun _ _ hρ _ => r_as (r_mul (hρ _ _ rfl) (hρ _ _ rfl)) (int_as ((wrap64 (by omega) (by omega)).trans (by omega)))) rfl rfl rfl (want_y 20 rfl rfl rfl) ?_
          refine TL_q (.bool false) (fun _ _ hρ _ => r_as (r_lss (hρ _ _ rfl) (hρ _ _ rfl)) (bool_as (decide_eq_false c4))) rfl rfl rfl (want_y 20 rfl rfl rfl) ?_
          refine TL_q (.bool false) (fun _ _ hρ _ => r_pick_t (hρ _ _ rfl) (hρ _ _ rfl)) rfl rfl rfl (w_n rfl) ?_
          refine TL_q (.bool false) (fun _ _ hρ _ => r_assign (hρ _ _ rfl)) rfl rfl rfl (w_n rfl) ?_
          refine TL_seq ?_
          refine T_ret' ?_
          refine ret_of rfl (.bool false) (fun tmps w hk hm => res1 rfl (res_tmp (hk 6 _ rfl))) (fun w hm => ?_)
          exact ⟨congrArg Ending.returned (bool_as (decide_eq_false (by omega)).symm), hm.ext⟩
      · skip
        refine T_seq (T_region ?_)
        refine TL_q (.int .i64 x) (fun _ _ hρ _ => r_move (hρ _ _ rfl)) rfl rfl rfl (w_n rfl) ?_
        refine TL_q (.bool true) (fun _ _ hρ _ => r_as (r_geq (hρ _ _ rfl) (hρ _ _ rfl)) (bool_as (decide_eq_true c1))) rfl rfl rfl (w_n rfl) ?_
        refine TL_q (.bool true) (fun _ _ hρ _ => r_move (hρ _ _ rfl)) rfl rfl rfl (w_n rfl) ?_
        refine TL_q (.int .i64 x) (fun _ _ hρ _ => r_move (hρ _ _ rfl)) rfl rfl rfl (want_y 9 rfl rfl rfl) ?_
        refine TL_q (.pointer (some ⟨B1, 0, none⟩)) (fun _ _ hρ _ => r_fieldAddr fl24_0 sz3 (hρ _ _ rfl)) rfl rfl rfl (want_y 9 rfl rfl rfl) ?_
        refine TL_q (.int .i64 ((wd : Nat) : Int)) (fun _ _ hρ hm => r_load ag3 (hρ _ _ rfl) (hm.at 1 rfl) rfl) rfl rfl rfl (want_y 9 rfl rfl rfl) ?_
        refine TL_q (.int .i64 ((8 * wd : Nat) : Int)) (fun _ _ hρ _ => r_as (r_mul (hρ _ _ rfl) (hρ _ _ rfl)) (int_as ((wrap64 (by omega) (by omega)).trans (by omega)))) rfl rfl rfl (want_y 9 rfl rfl rfl) ?_
        refine TL_q (.bool true) (fun _ _ hρ _ => r_as (r_lss (hρ _ _ rfl) (hρ _ _ rfl)) (bool_as (decide_eq_true c2))) rfl rfl rfl (want_y 9 rfl rfl rfl) ?_
        refine TL_q (.bool true) (fun _ _ hρ _ => r_pick_t (hρ _ _ rfl) (hρ _ _ rfl)) rfl rfl rfl (w_n rfl) ?_
        refine TL_q (.bool true) (fun _ _ hρ _ => r_move (hρ _ _ rfl)) rfl rfl rfl (w_n rfl) ?_
        refine TL_q (.int .i64 y) (fun _ _ hρ _ => r_move (hρ _ _ rfl)) rfl rfl rfl (want_y 16 rfl rfl rfl) ?_
        refine TL_q (.bool false) (fun _ _ hρ _ => r_as (r_geq (hρ _ _ rfl) (hρ _ _ rfl)) (bool_as (decide_eq_false c3))) rfl rfl rfl (want_y 16 rfl rfl rfl) ?_
        refine TL_q (.bool false) (fun _ _ hρ _ => r_pick_t (hρ _ _ rfl) (hρ _ _ rfl)) rfl rfl rfl (w_n rfl) ?_
        refine TL_q (.bool false) (fun _ _ hρ _ => r_move (hρ _ _ rfl)) rfl rfl rfl (w_n rfl) ?_
        refine TL_no rfl rfl (want_n 20 rfl rfl rfl) ?_
        refine TL_no rfl rfl (want_n 20 rfl rfl rfl) ?_
        refine TL_no rfl rfl (want_n 20 rfl rfl rfl) ?_
        refine TL_no rfl rfl (want_n 20 rfl rfl rfl) ?_
        refine TL_no rfl rfl (want_n 20 rfl rfl rfl) ?_
        refine TL_q (.bool false) (fun _ _ hρ _ => r_pick_f (hρ _ _ rfl) (hρ _ _ rfl)) rfl rfl rfl (w_n rfl) ?_
        refine TL_q (.bool false) (fun _ _ hρ _ => r_assign (hρ _ _ rfl)) rfl rfl rfl (w_n rfl) ?_
        refine TL_seq ?_
        refine T_ret' ?_
        refine ret_of rfl (.bool false) (fun tmps w hk hm => res1 rfl (res_tmp (hk 6 _ rfl))) (fun w hm => ?_)
        exact ⟨congrArg Ending.returned (bool_as (decide_eq_false (by omega)).symm), hm.ext⟩
    · skip
      refine T_seq (T_region ?_)
      refine TL_q (.int .i64 x) (fun _ _ hρ _ => r_move (hρ _ _ rfl)) rfl rfl rfl (w_n rfl) ?_
      refine TL_q (.bool true) (fun _ _ hρ _ => r_as (r_geq (hρ _ _ rfl) (hρ _ _ rfl)) (bool_as (decide_eq_true c1))) rfl rfl rfl (w_n rfl) ?_
      refine TL_q (.bool true) (fun _ _ hρ _ => r_move (hρ _ _ rfl)) rfl rfl rfl (w_n rfl) ?_
      refine TL_q (.int .i64 x) (fun _ _ hρ _ => r_move (hρ _ _ rfl)) rfl rfl rfl (want_y 9 rfl rfl rfl) ?_
      refine TL_q (.pointer (some ⟨B1, 0, none⟩)) (fun _ _ hρ _ => r_fieldAddr fl24_0 sz3 (hρ _ _ rfl)) rfl rfl rfl (want_y 9 rfl rfl rfl) ?_
      refine TL_q (.int .i64 ((wd : Nat) : Int)) (fun _ _ hρ hm => r_load ag3 (hρ _ _ rfl) (hm.at 1 rfl) rfl) rfl rfl rfl (want_y 9 rfl rfl rfl) ?_
      refine TL_q (.int .i64 ((8 * wd : Nat) : Int)) (fun _ _ hρ _ => r_as (r_mul (hρ _ _ rfl) (hρ _ _ rfl)) (int_as ((wrap64 (by omega) (by omega)).trans (by omega)))) rfl rfl rfl (want_y 9 rfl rfl rfl) ?_
      refine TL_q (.bool false) (fun _ _ hρ _ => r_as (r_lss (hρ _ _ rfl) (hρ _ _ rfl)) (bool_as (decide_eq_false c2))) rfl rfl rfl (want_y 9 rfl rfl rfl) ?_
      refine TL_q (.bool false) (fun _ _ hρ _ => r_pick_t (hρ _ _ rfl) (hρ _ _ rfl)) rfl rfl rfl (w_n rfl) ?_
      refine TL_q (.bool false) (fun _ _ hρ _ => r_move (hρ _ _ rfl)) rfl rfl rfl (w_n rfl) ?_
      refine TL_no rfl rfl (want_n 16 rfl rfl rfl) ?_
      refine TL_no rfl rfl (want_n 16 rfl rfl rfl) ?_
      refine TL_q (.bool false) (fun _ _ hρ _ => r_pick_f (hρ _ _ rfl) (hρ _ _ rfl)) rfl rfl rfl (w_n rfl) ?_
      refine TL_q (.bool false) (fun _ _ hρ _ => r_move (hρ _ _ rfl)) rfl rfl rfl (w_n rfl) ?_
      refine TL_no rfl rfl (want_n 20 rfl rfl rfl) ?_
      refine TL_no rfl rfl (want_n 20 rfl rfl rfl) ?_
      refine TL_no rfl rfl (want_n 20 rfl rfl rfl) ?_
      refine TL_no rfl rfl (want_n 20 rfl rfl rfl) ?_
      refine TL_no rfl rfl (want_n 20 rfl rfl rfl) ?_
      refine TL_q (.bool false) (fun _ _ hρ _ => r_pick_f (hρ _ _ rfl) (hρ _ _ rfl)) rfl rfl rfl (w_n rfl) ?_
      refine TL_q (.bool false) (fun _ _ hρ _ => r_assign (hρ _ _ rfl)) rfl rfl rfl (w_n rfl) ?_
      refine TL_seq ?_
      refine T_ret' ?_
      refine ret_of rfl (.bool false) (fun tmps w hk hm => res1 rfl (res_tmp (hk 6 _ rfl))) (fun w hm => ?_)
      exact ⟨congrArg Ending.returned (bool_as (decide_eq_false (by omega)).symm), hm.ext⟩
  · skip
    refine T_seq (T_region ?_)
    refine TL_q (.int .i64 x) (fun _ _ hρ _ => r_move (hρ _ _ rfl)) rfl rfl rfl (w_n rfl) ?_
    refine TL_q (.bool false) (fun _ _ hρ _ => r_as (r_geq (hρ _ _ rfl) (hρ _ _ rfl)) (bool_as (decide_eq_false c1))) rfl rfl rfl (w_n rfl) ?_
    refine TL_q (.bool false) (fun _ _ hρ _ => r_move (hρ _ _ rfl)) rfl rfl rfl (w_n rfl) ?_
    refine TL_no rfl rfl (want_n 9 rfl rfl rfl) ?_
    refine TL_no rfl rfl (want_n 9 rfl rfl rfl) ?_
    refine TL_no rfl rfl (want_n 9 rfl rfl rfl) ?_
    refine TL_no rfl rfl (want_n 9 rfl rfl rfl) ?_
    refine TL_no rfl rfl (want_n 9 rfl rfl rfl) ?_
    refine TL_q (.bool false) (fun _ _ hρ _ => r_pick_f (hρ _ _ rfl) (hρ _ _ rfl)) rfl rfl rfl (w_n rfl) ?_
    refine TL_q (.bool false) (fun _ _ hρ _ => r_move (hρ _ _ rfl)) rfl rfl rfl (w_n rfl) ?_
    refine TL_no rfl rfl (want_n 16 rfl rfl rfl) ?_
    refine TL_no rfl rfl (want_n 16 rfl rfl rfl) ?_
    refine TL_q (.bool false) (fun _ _ hρ _ => r_pick_f (hρ _ _ rfl) (hρ _ _ rfl)) rfl rfl rfl (w_n rfl) ?_
    refine TL_q (.bool false) (fun _ _ hρ _ => r_move (hρ _ _ rfl)) rfl rfl rfl (w_n rfl) ?_
    refine TL_no rfl rfl (want_n 20 rfl rfl rfl) ?_
    refine TL_no rfl rfl (want_n 20 rfl rfl rfl) ?_
    refine TL_no rfl rfl (want_n 20 rfl rfl rfl) ?_
    refine TL_no rfl rfl (want_n 20 rfl rfl rfl) ?_
    refine TL_no rfl rfl (want_n 20 rfl rfl rfl) ?_
    refine TL_q (.bool false) (fun _ _ hρ _ => r_pick_f (hρ _ _ rfl) (hρ _ _ rfl)) rfl rfl rfl (w_n rfl) ?_
    refine TL_q (.bool false) (fun _ _ hρ _ => r_assign (hρ _ _ rfl)) rfl rfl rfl (w_n rfl) ?_
    refine TL_seq ?_
    refine T_ret' ?_
    refine ret_of rfl (.bool false) (fun tmps w hk hm => res1 rfl (res_tmp (hk 6 _ rfl))) (fun w hm => ?_)
    exact ⟨congrArg Ending.returned (bool_as (decide_eq_false (by omega)).symm), hm.ext⟩

theorem rat_c (wd hg : Nat) (ts : List T64) (a : Option Addr) (cap : Nat) (w : World) (hs : SliceAt w a cap 256 T64.cells ts) (hlen : ts.length = wd * hg) (hwd : 1 ≤ wd ∧ wd ≤ 4) (hhg : 1 ≤ hg ∧ hg ≤ 4) (u v : Nat) (hu : u < 8 * wd) (hv : v < 8 * hg) : Calls Try.prog 36 #[.agg #[.int .i64 (wd : Int), .int .i64 (hg : Int), .slice a ts.length cap], .int .i64 (u : Int), .int .i64 (v : Int)] w fun e w' => e = .returned (colAt wd ts u v).v ∧ Below w.heap.size w w' := by
  have h16 := size4 hwd hhg
  refine calls_of_T (l := [.agg #[.int .i64 ((wd : Nat) : Int), .int .i64 ((hg : Nat) : Int), .slice a ts.length cap], .int .i64 ((u : Nat) : Int), .int .i64 ((v : Nat) : Int)]) 26 Try.func36 rfl rfl rfl ?_
  show T _ _ _ [(0, .agg #[.int .i64 ((wd : Nat) : Int), .int .i64 ((hg : Nat) : Int), .slice a ts.length cap]), (1, .int .i64 ((u : Nat) : Int)), (2, .int .i64 ((v : Nat) : Int))] []
  refine T_seq (T_region ?_)
  refine TL_new 1 (.cells #[.int .i64 ((wd : Nat) : Int), .int .i64 ((hg : Nat) : Int), .slice a ts.length cap] 24) (fun B => .pointer (some ⟨B, 0, none⟩)) (fun _ _ hρ _ => r_box (hρ _ _ rfl) rfl) rfl rfl rfl (w_n rfl) ?_
  intro B1
  refine TL_new 2 (.cells #[.int .u8 0, .int .u8 0, .int .u8 0, .int .u8 0] 37) (fun B => .pointer (some ⟨B, 0, none⟩)) (fun _ _ _ _ => r_alloc (v := .agg #[.int .u8 0, .int .u8 0, .int .u8 0, .int .u8 0]) (by kernel_rfl) rfl) rfl rfl rfl (w_n rfl) ?_
  intro B2
  refine TL_seq ?_
  have hix := idx_lt hu hv
  obtain ⟨t, ht⟩ : ∃ x, ts[((v / 8) * wd) + (u / 8)]? = some x := ⟨_, List.getElem?_eq_getElem (by omega)⟩
  obtain ⟨b3, of3, cs3, T3, fz3, ha3, hq3, hr3⟩ := hs.open (i := ((v / 8) * wd) + (u / 8)) (by omega)
  subst ha3
  refine T_seq (T_region ?_)
  refine TL_q (.pointer (some ⟨B1, 2, none⟩)) (fun _ _ hρ _ => r_fieldAddr fl24_2 sz22 (hρ _ _ rfl)) rfl rfl rfl (w_n rfl) ?_
  refine TL_q (.slice (some ⟨b3, of3, none⟩) ts.length cap) (fun _ _ hρ hm => r_load ag22 (hρ _ _ rfl) (hm.at 1 rfl) rfl) rfl rfl rfl (w_n rfl) ?_
  refine TL_q (.int .i64 ((v : Nat) : Int)) (fun _ _ hρ _ => r_move (hρ _ _ rfl)) rfl rfl rfl (w_n rfl) ?_
  refine TL_q (.int .i64 ((v / 8 : Nat) : Int)) (fun _ _ hρ _ => r_as (r_quo (hρ _ _ rfl) (hρ _ _ rfl) (by omega)) (int_as ((quo_i64 (by omega) (by omega) (by omega)).trans (by omega)))) rfl rfl rfl (w_n rfl) ?_
  refine TL_q (.pointer (some ⟨B1, 0, none⟩)) (fun _ _ hρ _ => r_fieldAddr fl24_0 sz3 (hρ _ _ rfl)) rfl rfl rfl (w_n rfl) ?_
  refine TL_q (.int .i64 ((wd : Nat) : Int)) (fun _ _ hρ hm => r_load ag3 (hρ _ _ rfl) (hm.at 1 rfl) rfl) rfl rfl rfl (w_n rfl) ?_
  refine TL_q (.int .i64 (((v / 8) * wd : Nat) : Int)) (fun _ _ hρ _ => r_as (r_mul (hρ _ _ rfl) (hρ _ _ rfl)) (int_as ((wrap64 (by omega) (by omega)).trans (by omega)))) rfl rfl rfl (w_n rfl) ?_
  refine TL_q (.int .i64 ((u : Nat) : Int)) (fun _ _ hρ _ => r_move (hρ _ _ rfl)) rfl rfl rfl (w_n rfl) ?_
  refine TL_q (.int .i64 ((u / 8 : Nat) : Int)) (fun _ _ hρ _ => r_as (r_quo (hρ _ _ rfl) (hρ _ _ rfl) (by omega)) (int_as ((quo_i64 (by omega) (by omega) (by omega)).trans (by omega)))) rfl rfl rfl (w_n rfl) ?_
  refine TL_q (.int .i64 ((((v / 8) * wd) + (u / 8) : Nat) : Int)) (fun _ _ hρ _ => r_as (r_add (hρ _ _ rfl) (hρ _ _ rfl)) (int_as ((wrap64 (by omega) (by omega)).trans (by omega)))) rfl rfl rfl (w_n rfl) ?_
  refine TL_q (.int .i64 ((v : Nat) : Int)) (fun _ _ hρ _ => r_move (hρ _ _ rfl)) rfl rfl rfl (w_n rfl) ?_
  refine TL_q (.int .i64 ((v % 8 : Nat) : Int)) (fun _ _ hρ _ => r_as (r_rem (hρ _ _ rfl) (hρ _ _ rfl) (by omega)) (int_as ((Int.tmod_eq_emod_of_nonneg (by omega)).trans (by omega)))) rfl rfl rfl (w_n rfl) ?_
  refine TL_q (.int .i64 (((v % 8) * 8 : Nat) : Int)) (fun _ _ hρ _ => r_as (r_mul (hρ _ _ rfl) (hρ _ _ rfl)) (int_as ((wrap64 (by omega) (by omega)).trans (by omega)))) rfl rfl rfl (w_n rfl) ?_
  refine TL_q (.int .i64 ((u : Nat) : Int)) (fun _ _ hρ _ => r_move (hρ _ _ rfl)) rfl rfl rfl (w_n rfl) ?_
  refine TL_q (.int .i64 ((u % 8 : Nat) : Int)) (fun _ _ hρ _ => r_as (r_rem (hρ _ _ rfl) (hρ _ _ rfl) (by omega)) (int_as ((Int.tmod_eq_emod_of_nonneg (by omega)).trans (by omega)))) rfl rfl rfl (w_n rfl) ?_
  refine TL_q (.int .i64 ((((v % 8) * 8) + (u % 8) : Nat) : Int)) (fun _ _ hρ _ => r_as (r_add (hρ _ _ rfl) (hρ _ _ rfl)) (int_as ((wrap64 (by omega) (by omega)).trans (by omega)))) rfl rfl rfl (w_n rfl) ?_
  refine TL_q (.pointer (some ⟨b3, of3 + (((v / 8) * wd) + (u / 8)) * 256, none⟩)) (fun _ _ hρ _ => r_indexAddrS (i := ((v / 8) * wd) + (u / 8)) sl22 sz39 (hρ _ _ rfl) (hρ _ _ rfl) (by omega)) rfl rfl rfl (w_n rfl) ?_
  refine TL_q (.pointer (some ⟨b3, of3 + (((v / 8) * wd) + (u / 8)) * 256 + (((v % 8) * 8) + (u % 8)) * 4, none⟩)) (fun _ _ hρ _ => r_indexAddrA (i := ((v % 8) * 8) + (u % 8)) ar39 sz37 (hρ _ _ rfl) (hρ _ _ rfl) (by omega)) rfl rfl rfl (w_n rfl) ?_
  refine TL_q (.agg #[.int .u8 ((get t.l (((v % 8) * 8) + (u % 8))).r), .int .u8 ((get t.l (((v % 8) * 8) + (u % 8))).g), .int .u8 ((get t.l (((v % 8) * 8) + (u % 8))).b), .int .u8 ((get t.l (((v % 8) * 8) + (u % 8))).a)]) (fun _ _ hρ hm => r_loadPix (i := ((v / 8) * wd) + (u / 8)) (j := (((v % 8) * 8) + (u % 8))) ag37 sz37 (hρ _ _ rfl) (hm.old hq3) hr3 ht (by omega)) rfl rfl rfl (w_n rfl) ?_
  refine TL_store 2 (.cells #[.int .u8 ((get t.l (((v % 8) * 8) + (u % 8))).r), .int .u8 ((get t.l (((v % 8) * 8) + (u % 8))).g), .int .u8 ((get t.l (((v % 8) * 8) + (u % 8))).b), .int .u8 ((get t.l (((v % 8) * 8) + (u % 8))).a)] 37) rfl (fun _ _ hρ hm => r_store sz37 (hρ _ _ rfl) (hρ _ _ rfl) (hm.at 2 rfl) rfl rfl rfl rfl) rfl rfl (w_n rfl) ?_
  refine TL_seq ?_
  refine T_ret' ?_
  refine ret_of rfl (.agg #[.int .u8 ((get t.l (((v % 8) * 8) + (u % 8))).r), .int .u8 ((get t.l (((v % 8) * 8) + (u % 8))).g), .int .u8 ((get t.l (((v % 8) * 8) + (u % 8))).b), .int .u8 ((get t.l (((v % 8) * 8) + (u % 8))).a)]) (fun tmps w hk hm => res1 rfl (res_cell (hk 6 _ rfl) (run_loadVar_agg ag37 sz37 (hm.at 2 rfl) (Nat.le_of_ble_eq_true rfl) rfl))) (fun w hm => ?_)
  exact ⟨by unfold colAt; rw [tileAt_some ht, Nat.mul_comm 8 (v % 8)], hm.ext⟩

end Go.Proofs.Ytbiapeaghbndoaa
