/- canvas: references: New, On, At, Put, Puts. Printed by a program of this seat's prover. -/
import Derived.Test.YtbiapeaghbndoaaRefA
import Derived.Test.YtbiapeaghbndoaaPix
namespace Go.Proofs.Ytbiapeaghbndoaa
open Go Go.RowKit
set_option maxRecDepth 10000
theorem rnew_c (wd hg : Nat) (w : World) (hwd : 1 ≤ wd ∧ wd ≤ 4) (hhg : 1 ≤ hg ∧ hg ≤ 4) : Calls Try.prog 31 #[.int .i64 (wd : Int), .int .i64 (hg : Int)] w fun e w' => ∃ a' cap', e = .returned (.agg #[.int .i64 (wd : Int), .int .i64 (hg : Int), .slice a' (List.replicate (wd * hg) zeroT).length cap']) ∧ Below w.heap.size w w' ∧ w'.ownsRow w.heap.size 39 256 (.slice a' (List.replicate (wd * hg) zeroT).length cap') (List.replicate (wd * hg) zeroT).length ((List.replicate (wd * hg) zeroT).flatMap T64.cells) := by
  have h16 := size4 hwd hhg
  refine calls_of_T (l := [.int .i64 ((wd : Nat) : Int), .int .i64 ((hg : Nat) : Int)]) 12 Try.func31 rfl rfl rfl ?_
  show T _ _ _ [(0, .int .i64 ((wd : Nat) : Int)), (1, .int .i64 ((hg : Nat) : Int))] []
  refine T_seq (T_region ?_)
  refine TL_new 1 (.cells #[.int .i64 0, .int .i64 0, .slice none 0 0] 24) (fun B => .pointer (some ⟨B, 0, none⟩)) (fun _ _ _ _ => r_alloc (v := .agg #[.int .i64 0, .int .i64 0, .slice none 0 0]) (by kernel_rfl) rfl) rfl rfl rfl (w_n rfl) ?_
  intro B1
  refine TL_seq ?_
  refine T_seq (T_region ?_)
  refine TL_q (.int .i64 ((wd : Nat) : Int)) (fun _ _ hρ _ => r_move (hρ _ _ rfl)) rfl rfl rfl (w_n rfl) ?_
  refine TL_q (.int .i64 ((hg : Nat) : Int)) (fun _ _ hρ _ => r_move (hρ _ _ rfl)) rfl rfl rfl (w_n rfl) ?_
  refine TL_q (.int .i64 ((wd : Nat) : Int)) (fun _ _ hρ _ => r_move (hρ _ _ rfl)) rfl rfl rfl (w_n rfl) ?_
  refine TL_q (.int .i64 ((hg : Nat) : Int)) (fun _ _ hρ _ => r_move (hρ _ _ rfl)) rfl rfl rfl (w_n rfl) ?_
  refine TL_q (.int .i64 ((wd * hg : Nat) : Int)) (fun _ _ hρ _ => r_as (r_mul (hρ _ _ rfl) (hρ _ _ rfl)) (int_as ((wrap64 (by omega) (by omega)).trans (by omega)))) rfl rfl rfl (w_n rfl) ?_
  refine TL_op (ι := Nat) (fun B => .slice (some ⟨B, 0, none⟩) (wd * hg) (wd * hg)) _ (fun _ _ hρ hm => o_make (n := wd * hg) (cap := wd * hg) (z := til zero64) (f := T64.cells) (u := zeroT) 2 rfl (hρ _ _ rfl) (hρ _ _ rfl) sl22 by39 sz39 rfl (by kernel_rfl) rfl T64.cells_len (by omega) (by omega) (by omega) hm) rfl rfl rfl (w_n rfl) ?_
  intro B2
  refine TL_q (.agg #[.int .i64 ((wd : Nat) : Int), .int .i64 ((hg : Nat) : Int), .slice (some ⟨B2, 0, none⟩) (wd * hg) (wd * hg)]) (fun _ _ hρ _ => r_build (vs := [(0, .int .i64 ((wd : Nat) : Int)), (1, .int .i64 ((hg : Nat) : Int)), (2, .slice (some ⟨B2, 0, none⟩) (wd * hg) (wd * hg))]) (by kernel_rfl) (cons2 (pair2 (hρ _ _ rfl)) (cons2 (pair2 (hρ _ _ rfl)) (cons2 (pair2 (hρ _ _ rfl)) rfl)))) rfl rfl rfl (w_n rfl) ?_
  refine TL_store 1 (.cells #[.int .i64 ((wd : Nat) : Int), .int .i64 ((hg : Nat) : Int), .slice (some ⟨B2, 0, none⟩) (wd * hg) (wd * hg)] 24) rfl (fun _ _ hρ hm => r_store sz24 (hρ _ _ rfl) (hρ _ _ rfl) (hm.at 1 rfl) rfl rfl rfl rfl) rfl rfl (w_n rfl) ?_
  refine TL_seq ?_
  refine T_ret' ?_
  refine ret_of rfl (.agg #[.int .i64 ((wd : Nat) : Int), .int .i64 ((hg : Nat) : Int), .slice (some ⟨B2, 0, none⟩) (wd * hg) (wd * hg)]) (fun tmps w hk hm => res1 rfl (res_cell (hk 4 _ rfl) (run_loadVar_agg ag24 sz24 (hm.at 1 rfl) (Nat.le_of_ble_eq_true rfl) rfl))) (fun w hm => ?_)
  have hrow := hm.row 2 rfl
  exact ⟨some ⟨B2, 0, none⟩, (wd * hg), by rw [List.length_replicate], hm.ext, by rw [List.length_replicate]; exact hrow⟩

theorem on_c (wd hg n : Nat) (a : Option Addr) (cap : Nat) (x y : Int) (w : World) (hwd : 1 ≤ wd ∧ wd ≤ 4) (hhg : 1 ≤ hg ∧ hg ≤ 4) : Calls Try.prog 35 #[.agg #[.int .i64 (wd : Int), .int .i64 (hg : Int), .slice a n cap], .int .i64 x, .int .i64 y] w fun e w' => e = .returned (.bool (onC wd hg x y)) ∧ Below w.heap.size w w' := by
  refine calls_of_T (l := [.agg #[.int .i64 ((wd : Nat) : Int), .int .i64 ((hg : Nat) : Int), .slice a n cap], .int .i64 x, .int .i64 y]) 27 Try.func35 rfl rfl rfl ?_
  show T _ _ _ [(0, .agg #[.int .i64 ((wd : Nat) : Int), .int .i64 ((hg : Nat) : Int), .slice a n cap]), (1, .int .i64 x), (2, .int .i64 y)] []
  refine T_seq (T_region ?_)
  refine TL_new 1 (.cells #[.int .i64 ((wd : Nat) : Int), .int .i64 ((hg : Nat) : Int), .slice a n cap] 24) (fun B => .pointer (some ⟨B, 0, none⟩)) (fun _ _ hρ _ => r_box (hρ _ _ rfl) rfl) rfl rfl rfl (w_n rfl) ?_
  intro B1
  refine TL_q (.bool false) (fun _ _ hρ _ => r_assign (hρ _ _ rfl)) rfl rfl rfl (w_n rfl) ?_
  refine TL_seq ?_
  by_cases c1 : (0 : Int) ≤ x
  · skip
    by_cases c2 : x < ((8 * wd : Nat) : Int)
    · skip
      by_cases c3 : (0 : Int) ≤ y
      · skip
        by_cases c4 : y < ((8 * hg : Nat) : Int)
        · skip
          refine T_seq (T_region ?_)
          refine TL_q (.int .i64 x) (fun _ _ hρ _ => r_move (hρ _ _ rfl)) rfl rfl rfl (w_n rfl) ?_
          refine TL_q (.bool true) (fun _ _ hρ _ => r_as (r_geq (hρ _ _ rfl) (hρ _ _ rfl)) (bool_as (decide_eq_true c1))) rfl rfl rfl (w_n rfl) ?_
          refine TL_q (.bool true) (fun _ _ hρ _ => r_move (hρ _ _ rfl)) rfl rfl rfl (w_n rfl) ?_
          refine TL_q (.int .i64 x) (fun _ _ hρ _ => r_move (hρ _ _ rfl)) rfl rfl rfl (want_y 9 rfl rfl rfl) ?_
          refine TL_q (.pointer (some ⟨B1, 0, none⟩)) (fun _ _ hρ _ => r_fieldAddr fl24_0 sz3 (hρ _ _ rfl)) rfl rfl rfl (want_y 9 rfl rfl rfl) ?_
          refine TL_q (.int .i64 ((wd : Nat) : Int)) (fun _ _ hρ hm => r_load ag3 (hρ _ _ rfl) (hm.at 1 rfl) rfl) rfl rfl rfl (want_y 9 rfl rfl rfl) ?_
          refine TL_q (.int .i64 ((8 * wd : Nat) : Int)) (fun _ _ hρ _ => r_as (r_mul (hρ _ _ rfl) (hρ _ _ rfl)) (int_as ((wrap64 (by omega) (by omega)).trans (by omega)))) rfl rfl rfl (want_y 9 rfl rfl rfl) ?_
          refine TL_q (.bool true) (fun _ _ hρ _ => r_as (r_lss (hρ _ _ rfl) (hρ _ _ rfl)) (bool_as (decide_eq_true c2))) rfl rfl rfl (want_y 9 rfl rfl rfl) ?_
          refine TL_q (.bool true) (fun _ _ hρ _ => r_pick_t (hρ _ _ rfl) (hρ _ _ rfl)) rfl rfl rfl (w_n rfl) ?_
          refine TL_q (.bool true) (fun _ _ hρ _ => r_move (hρ _ _ rfl)) rfl rfl rfl (w_n rfl) ?_
          refine TL_q (.int .i64 y) (fun _ _ hρ _ => r_move (hρ _ _ rfl)) rfl rfl rfl (want_y 16 rfl rfl rfl) ?_
          refine TL_q (.bool true) (fun _ _ hρ _ => r_as (r_geq (hρ _ _ rfl) (hρ _ _ rfl)) (bool_as (decide_eq_true c3))) rfl rfl rfl (want_y 16 rfl rfl rfl) ?_
          refine TL_q (.bool true) (fun _ _ hρ _ => r_pick_t (hρ _ _ rfl) (hρ _ _ rfl)) rfl rfl rfl (w_n rfl) ?_
          refine TL_q (.bool true) (fun _ _ hρ _ => r_move (hρ _ _ rfl)) rfl rfl rfl (w_n rfl) ?_
          refine TL_q (.int .i64 y) (fun _ _ hρ _ => r_move (hρ _ _ rfl)) rfl rfl rfl (want_y 20 rfl rfl rfl) ?_
          refine TL_q (.pointer (some ⟨B1, 1, none⟩)) (fun _ _ hρ _ => r_fieldAddr fl24_1 sz3 (hρ _ _ rfl)) rfl rfl rfl (want_y 20 rfl rfl rfl) ?_
          refine TL_q (.int .i64 ((hg : Nat) : Int)) (fun _ _ hρ hm => r_load ag3 (hρ _ _ rfl) (hm.at 1 rfl) rfl) rfl rfl rfl (want_y 20 rfl rfl rfl) ?_
          refine TL_q (.int .i64 ((8 * hg : Nat) : Int)) (fun _ _ hρ _ => r_as (r_mul (hρ _ _ rfl) (hρ _ _ rfl)) (int_as ((wrap64 (by omega) (by omega)).trans (by omega)))) rfl rfl rfl (want_y 20 rfl rfl rfl) ?_
          refine TL_q (.bool true) (fun _ _ hρ _ => r_as (r_lss (hρ _ _ rfl) (hρ _ _ rfl)) (bool_as (decide_eq_true c4))) rfl rfl rfl (want_y 20 rfl rfl rfl) ?_
          refine TL_q (.bool true) (fun _ _ hρ _ => r_pick_t (hρ _ _ rfl) (hρ _ _ rfl)) rfl rfl rfl (w_n rfl) ?_
          refine TL_q (.bool true) (fun _ _ hρ _ => r_assign (hρ _ _ rfl)) rfl rfl rfl (w_n rfl) ?_
          refine TL_seq ?_
          refine T_ret' ?_
          refine ret_of rfl (.bool true) (fun tmps w hk hm => res1 rfl (res_tmp (hk 6 _ rfl))) (fun w hm => ?_)
          exact ⟨congrArg Ending.returned (bool_as (decide_eq_true (by omega)).symm), hm.ext⟩
        · skip
          refine T_seq (T_region ?_)
          refine TL_q (.int .i64 x) (fun _ _ hρ _ => r_move (hρ _ _ rfl)) rfl rfl rfl (w_n rfl) ?_
          refine TL_q (.bool true) (fun _ _ hρ _ => r_as (r_geq (hρ _ _ rfl) (hρ _ _ rfl)) (bool_as (decide_eq_true c1))) rfl rfl rfl (w_n rfl) ?_
          refine TL_q (.bool true) (fun _ _ hρ _ => r_move (hρ _ _ rfl)) rfl rfl rfl (w_n rfl) ?_
          refine TL_q (.int .i64 x) (fun _ _ hρ _ => r_move (hρ _ _ rfl)) rfl rfl rfl (want_y 9 rfl rfl rfl) ?_
          refine TL_q (.pointer (some ⟨B1, 0, none⟩)) (fun _ _ hρ _ => r_fieldAddr fl24_0 sz3 (hρ _ _ rfl)) rfl rfl rfl (want_y 9 rfl rfl rfl) ?_
          refine TL_q (.int .i64 ((wd : Nat) : Int)) (fun _ _ hρ hm => r_load ag3 (hρ _ _ rfl) (hm.at 1 rfl) rfl) rfl rfl rfl (want_y 9 rfl rfl rfl) ?_
          refine TL_q (.int .i64 ((8 * wd : Nat) : Int)) (fun _ _ hρ _ => r_as (r_mul (hρ _ _ rfl) (hρ _ _ rfl)) (int_as ((wrap64 (by omega) (by omega)).trans (by omega)))) rfl rfl rfl (want_y 9 rfl rfl rfl) ?_
          refine TL_q (.bool true) (fun _ _ hρ _ => r_as (r_lss (hρ _ _ rfl) (hρ _ _ rfl)) (bool_as (decide_eq_true c2))) rfl rfl rfl (want_y 9 rfl rfl rfl) ?_
          refine TL_q (.bool true) (fun _ _ hρ _ => r_pick_t (hρ _ _ rfl) (hρ _ _ rfl)) rfl rfl rfl (w_n rfl) ?_
          refine TL_q (.bool true) (fun _ _ hρ _ => r_move (hρ _ _ rfl)) rfl rfl rfl (w_n rfl) ?_
          refine TL_q (.int .i64 y) (fun _ _ hρ _ => r_move (hρ _ _ rfl)) rfl rfl rfl (want_y 16 rfl rfl rfl) ?_
          refine TL_q (.bool true) (fun _ _ hρ _ => r_as (r_geq (hρ _ _ rfl) (hρ _ _ rfl)) (bool_as (decide_eq_true c3))) rfl rfl rfl (want_y 16 rfl rfl rfl) ?_
          refine TL_q (.bool true) (fun _ _ hρ _ => r_pick_t (hρ _ _ rfl) (hρ _ _ rfl)) rfl rfl rfl (w_n rfl) ?_
          refine TL_q (.bool true) (fun _ _ hρ _ => r_move (hρ _ _ rfl)) rfl rfl rfl (w_n rfl) ?_
          refine TL_q (.int .i64 y) (fun _ _ hρ _ => r_move (hρ _ _ rfl)) rfl rfl rfl (want_y 20 rfl rfl rfl) ?_
          refine TL_q (.pointer (some ⟨B1, 1, none⟩)) (fun _ _ hρ _ => r_fieldAddr fl24_1 sz3 (hρ _ _ rfl)) rfl rfl rfl (want_y 20 rfl rfl rfl) ?_
          refine TL_q (.int .i64 ((hg : Nat) : Int)) (fun _ _ hρ hm => r_load ag3 (hρ _ _ rfl) (hm.at 1 rfl) rfl) rfl rfl rfl (want_y 20 rfl rfl rfl) ?_
          refine TL_q (.int .i64 ((8 * hg : Nat) : Int)) (fun _ _ hρ _ => r_as (r_mul (hρ _ _ rfl) (hρ _ _ rfl)) (int_as ((wrap64 (by omega) (by omega)).trans (by omega)))) rfl rfl rfl (want_y 20 rfl rfl rfl) ?_
          refine TL_q (.bool false) (fun _ _ hρ _ => r_as (r_lss (hρ _ _ rfl) (hρ _ _ rfl)) (bool_as (decide_eq_false c4))) rfl rfl rfl (want_y 20 rfl rfl rfl) ?_
          refine TL_q (.bool false) (fun _ _ hρ _ => r_pick_t (hρ _ _ rfl) (hρ _ _ rfl)) rfl rfl rfl (w_n rfl) ?_
          refine TL_q (.bool false) (fun _ _ hρ _ => r_assign (hρ _ _ rfl)) rfl rfl rfl (w_n rfl) ?_
          refine TL_seq ?_
          refine T_ret' ?_
          refine ret_of rfl (.bool false) (fun tmps w hk hm => res1 rfl (res_tmp (hk 6 _ rfl))) (fun w hm => ?_)
          exact ⟨congrArg Ending.returned (bool_as (decide_eq_false (by omega)).symm), hm.ext⟩
      · skip
        refine T_seq (T_region ?_)
        refine TL_q (.int .i64 x) (fun _ _ hρ _ => r_move (hρ _ _ rfl)) rfl rfl rfl (w_n rfl) ?_
        refine TL_q (.bool true) (fun _ _ hρ _ => r_as (r_geq (hρ _ _ rfl) (hρ _ _ rfl)) (bool_as (decide_eq_true c1))) rfl rfl rfl (w_n rfl) ?_
        refine TL_q (.bool true) (fun _ _ hρ _ => r_move (hρ _ _ rfl)) rfl rfl rfl (w_n rfl) ?_
        refine TL_q (.int .i64 x) (fun _ _ hρ _ => r_move (hρ _ _ rfl)) rfl rfl rfl (want_y 9 rfl rfl rfl) ?_
        refine TL_q (.pointer (some ⟨B1, 0, none⟩)) (fun _ _ hρ _ => r_fieldAddr fl24_0 sz3 (hρ _ _ rfl)) rfl rfl rfl (want_y 9 rfl rfl rfl) ?_
        refine TL_q (.int .i64 ((wd : Nat) : Int)) (fun _ _ hρ hm => r_load ag3 (hρ _ _ rfl) (hm.at 1 rfl) rfl) rfl rfl rfl (want_y 9 rfl rfl rfl) ?_
        refine TL_q (.int .i64 ((8 * wd : Nat) : Int)) (fun _ _ hρ _ => r_as (r_mul (hρ _ _ rfl) (hρ _ _ rfl)) (int_as ((wrap64 (by omega) (by omega)).trans (by omega)))) rfl rfl rfl (want_y 9 rfl rfl rfl) ?_
        refine TL_q (.bool true) (fun _ _ hρ _ => r_as (r_lss (hρ _ _ rfl) (hρ _ _ rfl)) (bool_as (decide_eq_true c2))) rfl rfl rfl (want_y 9 rfl rfl rfl) ?_
        refine TL_q (.bool true) (fun _ _ hρ _ => r_pick_t (hρ _ _ rfl) (hρ _ _ rfl)) rfl rfl rfl (w_n rfl) ?_
        refine TL_q (.bool true) (fun _ _ hρ _ => r_move (hρ _ _ rfl)) rfl rfl rfl (w_n rfl) ?_
        refine TL_q (.int .i64 y) (fun _ _ hρ _ => r_move (hρ _ _ rfl)) rfl rfl rfl (want_y 16 rfl rfl rfl) ?_
        refine TL_q (.bool false) (fun _ _ hρ _ => r_as (r_geq (hρ _ _ rfl) (hρ _ _ rfl)) (bool_as (decide_eq_false c3))) rfl rfl rfl (want_y 16 rfl rfl rfl) ?_
        refine TL_q (.bool false) (fun _ _ hρ _ => r_pick_t (hρ _ _ rfl) (hρ _ _ rfl)) rfl rfl rfl (w_n rfl) ?_
        refine TL_q (.bool false) (fun _ _ hρ _ => r_move (hρ _ _ rfl)) rfl rfl rfl (w_n rfl) ?_
        refine TL_no rfl rfl (want_n 20 rfl rfl rfl) ?_
        refine TL_no rfl rfl (want_n 20 rfl rfl rfl) ?_
        refine TL_no rfl rfl (want_n 20 rfl rfl rfl) ?_
        refine TL_no rfl rfl (want_n 20 rfl rfl rfl) ?_
        refine TL_no rfl rfl (want_n 20 rfl rfl rfl) ?_
        refine TL_q (.bool false) (fun _ _ hρ _ => r_pick_f (hρ _ _ rfl) (hρ _ _ rfl)) rfl rfl rfl (w_n rfl) ?_
        refine TL_q (.bool false) (fun _ _ hρ _ => r_assign (hρ _ _ rfl)) rfl rfl rfl (w_n rfl) ?_
        refine TL_seq ?_
        refine T_ret' ?_
        refine ret_of rfl (.bool false) (fun tmps w hk hm => res1 rfl (res_tmp (hk 6 _ rfl))) (fun w hm => ?_)
        exact ⟨congrArg Ending.returned (bool_as (decide_eq_false (by omega)).symm), hm.ext⟩
    · skip
      refine T_seq (T_region ?_)
      refine TL_q (.int .i64 x) (fun _ _ hρ _ => r_move (hρ _ _ rfl)) rfl rfl rfl (w_n rfl) ?_
      refine TL_q (.bool true) (fun _ _ hρ _ => r_as (r_geq (hρ _ _ rfl) (hρ _ _ rfl)) (bool_as (decide_eq_true c1))) rfl rfl rfl (w_n rfl) ?_
      refine TL_q (.bool true) (fun _ _ hρ _ => r_move (hρ _ _ rfl)) rfl rfl rfl (w_n rfl) ?_
      refine TL_q (.int .i64 x) (fun _ _ hρ _ => r_move (hρ _ _ rfl)) rfl rfl rfl (want_y 9 rfl rfl rfl) ?_
      refine TL_q (.pointer (some ⟨B1, 0, none⟩)) (fun _ _ hρ _ => r_fieldAddr fl24_0 sz3 (hρ _ _ rfl)) rfl rfl rfl (want_y 9 rfl rfl rfl) ?_
      refine TL_q (.int .i64 ((wd : Nat) : Int)) (fun _ _ hρ hm => r_load ag3 (hρ _ _ rfl) (hm.at 1 rfl) rfl) rfl rfl rfl (want_y 9 rfl rfl rfl) ?_
      refine TL_q (.int .i64 ((8 * wd : Nat) : Int)) (fun _ _ hρ _ => r_as (r_mul (hρ _ _ rfl) (hρ _ _ rfl)) (int_as ((wrap64 (by omega) (by omega)).trans (by omega)))) rfl rfl rfl (want_y 9 rfl rfl rfl) ?_
      refine TL_q (.bool false) (fun _ _ hρ _ => r_as (r_lss (hρ _ _ rfl) (hρ _ _ rfl)) (bool_as (decide_eq_false c2))) rfl rfl rfl (want_y 9 rfl rfl rfl) ?_
      refine TL_q (.bool false) (fun _ _ hρ _ => r_pick_t (hρ _ _ rfl) (hρ _ _ rfl)) rfl rfl rfl (w_n rfl) ?_
      refine TL_q (.bool false) (fun _ _ hρ _ => r_move (hρ _ _ rfl)) rfl rfl rfl (w_n rfl) ?_
      refine TL_no rfl rfl (want_n 16 rfl rfl rfl) ?_
      refine TL_no rfl rfl (want_n 16 rfl rfl rfl) ?_
      refine TL_q (.bool false) (fun _ _ hρ _ => r_pick_f (hρ _ _ rfl) (hρ _ _ rfl)) rfl rfl rfl (w_n rfl) ?_
      refine TL_q (.bool false) (fun _ _ hρ _ => r_move (hρ _ _ rfl)) rfl rfl rfl (w_n rfl) ?_
      refine TL_no rfl rfl (want_n 20 rfl rfl rfl) ?_
      refine TL_no rfl rfl (want_n 20 rfl rfl rfl) ?_
      refine TL_no rfl rfl (want_n 20 rfl rfl rfl) ?_
      refine TL_no rfl rfl (want_n 20 rfl rfl rfl) ?_
      refine TL_no rfl rfl (want_n 20 rfl rfl rfl) ?_
      refine TL_q (.bool false) (fun _ _ hρ _ => r_pick_f (hρ _ _ rfl) (hρ _ _ rfl)) rfl rfl rfl (w_n rfl) ?_
      refine TL_q (.bool false) (fun _ _ hρ _ => r_assign (hρ _ _ rfl)) rfl rfl rfl (w_n rfl) ?_
      refine TL_seq ?_
      refine T_ret' ?_
      refine ret_of rfl (.bool false) (fun tmps w hk hm => res1 rfl (res_tmp (hk 6 _ rfl))) (fun w hm => ?_)
      exact ⟨congrArg Ending.returned (bool_as (decide_eq_false (by omega)).symm), hm.ext⟩
  · skip
    refine T_seq (T_region ?_)
    refine TL_q (.int .i64 x) (fun _ _ hρ _ => r_move (hρ _ _ rfl)) rfl rfl rfl (w_n rfl) ?_
    refine TL_q (.bool false) (fun _ _ hρ _ => r_as (r_geq (hρ _ _ rfl) (hρ _ _ rfl)) (bool_as (decide_eq_false c1))) rfl rfl rfl (w_n rfl) ?_
    refine TL_q (.bool false) (fun _ _ hρ _ => r_move (hρ _ _ rfl)) rfl rfl rfl (w_n rfl) ?_
    refine TL_no rfl rfl (want_n 9 rfl rfl rfl) ?_
    refine TL_no rfl rfl (want_n 9 rfl rfl rfl) ?_
    refine TL_no rfl rfl (want_n 9 rfl rfl rfl) ?_
    refine TL_no rfl rfl (want_n 9 rfl rfl rfl) ?_
    refine TL_no rfl rfl (want_n 9 rfl rfl rfl) ?_
    refine TL_q (.bool false) (fun _ _ hρ _ => r_pick_f (hρ _ _ rfl) (hρ _ _ rfl)) rfl rfl rfl (w_n rfl) ?_
    refine TL_q (.bool false) (fun _ _ hρ _ => r_move (hρ _ _ rfl)) rfl rfl rfl (w_n rfl) ?_
    refine TL_no rfl rfl (want_n 16 rfl rfl rfl) ?_
    refine TL_no rfl rfl (want_n 16 rfl rfl rfl) ?_
    refine TL_q (.bool false) (fun _ _ hρ _ => r_pick_f (hρ _ _ rfl) (hρ _ _ rfl)) rfl rfl rfl (w_n rfl) ?_
    refine TL_q (.bool false) (fun _ _ hρ _ => r_move (hρ _ _ rfl)) rfl rfl rfl (w_n rfl) ?_
    refine TL_no rfl rfl (want_n 20 rfl rfl rfl) ?_
    refine TL_no rfl rfl (want_n 20 rfl rfl rfl) ?_
    refine TL_no rfl rfl (want_n 20 rfl rfl rfl) ?_
    refine TL_no rfl rfl (want_n 20 rfl rfl rfl) ?_
    refine TL_no rfl rfl (want_n 20 rfl rfl rfl) ?_
    refine TL_q (.bool false) (fun _ _ hρ _ => r_pick_f (hρ _ _ rfl) (hρ _ _ rfl)) rfl rfl rfl (w_n rfl) ?_
    refine TL_q (.bool false) (fun _ _ hρ _ => r_assign (hρ _ _ rfl)) rfl rfl rfl (w_n rfl) ?_
    refine TL_seq ?_
    refine T_ret' ?_
    refine ret_of rfl (.bool false) (fun tmps w hk hm => res1 rfl (res_tmp (hk 6 _ rfl))) (fun w hm => ?_)
    exact ⟨congrArg Ending.returned (bool_as (decide_eq_false (by omega)).symm), hm.ext⟩

theorem rat_c (wd hg : Nat) (ts : List T64) (a : Option Addr) (cap : Nat) (w : World) (hs : SliceAt w a cap 256 T64.cells ts) (hlen : ts.length = wd * hg) (hwd : 1 ≤ wd ∧ wd ≤ 4) (hhg : 1 ≤ hg ∧ hg ≤ 4) (u v : Nat) (hu : u < 8 * wd) (hv : v < 8 * hg) : Calls Try.prog 36 #[.agg #[.int .i64 (wd : Int), .int .i64 (hg : Int), .slice a ts.length cap], .int .i64 (u : Int), .int .i64 (v : Int)] w fun e w' => e = .returned (colAt wd ts u v).v ∧ Below w.heap.size w w' := by
  have h16 := size4 hwd hhg
  refine calls_of_T (l := [.agg #[.int .i64 ((wd : Nat) : Int), .int .i64 ((hg : Nat) : Int), .slice a ts.length cap], .int .i64 ((u : Nat) : Int), .int .i64 ((v : Nat) : Int)]) 26 Try.func36 rfl rfl rfl ?_
  show T _ _ _ [(0, .agg #[.int .i64 ((wd : Nat) : Int), .int .i64 ((hg : Nat) : Int), .slice a ts.length cap]), (1, .int .i64 ((u : Nat) : Int)), (2, .int .i64 ((v : Nat) : Int))] []
  refine T_seq (T_region ?_)
  refine TL_new 1 (.cells #[.int .i64 ((wd : Nat) : Int), .int .i64 ((hg : Nat) : Int), .slice a ts.length cap] 24) (fun B => .pointer (some ⟨B, 0, none⟩)) (fun _ _ hρ _ => r_box (hρ _ _ rfl) rfl) rfl rfl rfl (w_n rfl) ?_
  intro B1
  refine TL_new 2 (.cells #[.int .u8 0, .int .u8 0, .int .u8 0, .int .u8 0] 37) (fun B => .pointer (some ⟨B, 0, none⟩)) (fun _ _ _ _ => r_alloc (v := .agg #[.int .u8 0, .int .u8 0, .int .u8 0, .int .u8 0]) (by kernel_rfl) rfl) rfl rfl rfl (w_n rfl) ?_
  intro B2
  refine TL_seq ?_
  have hix := idx_lt hu hv
  obtain ⟨t, ht⟩ : ∃ x, ts[((v / 8) * wd) + (u / 8)]? = some x := ⟨_, List.getElem?_eq_getElem (by omega)⟩
  obtain ⟨b3, of3, cs3, T3, fz3, ha3, hq3, hr3⟩ := hs.open (i := ((v / 8) * wd) + (u / 8)) (by omega)
  subst ha3
  refine T_seq (T_region ?_)
  refine TL_q (.pointer (some ⟨B1, 2, none⟩)) (fun _ _ hρ _ => r_fieldAddr fl24_2 sz22 (hρ _ _ rfl)) rfl rfl rfl (w_n rfl) ?_
  refine TL_q (.slice (some ⟨b3, of3, none⟩) ts.length cap) (fun _ _ hρ hm => r_load ag22 (hρ _ _ rfl) (hm.at 1 rfl) rfl) rfl rfl rfl (w_n rfl) ?_
  refine TL_q (.int .i64 ((v : Nat) : Int)) (fun _ _ hρ _ => r_move (hρ _ _ rfl)) rfl rfl rfl (w_n rfl) ?_
  refine TL_q (.int .i64 ((v / 8 : Nat) : Int)) (fun _ _ hρ _ => r_as (r_quo (hρ _ _ rfl) (hρ _ _ rfl) (by omega)) (int_as ((quo_i64 (by omega) (by omega) (by omega)).trans (by omega)))) rfl rfl rfl (w_n rfl) ?_
  refine TL_q (.pointer (some ⟨B1, 0, none⟩)) (fun _ _ hρ _ => r_fieldAddr fl24_0 sz3 (hρ _ _ rfl)) rfl rfl rfl (w_n rfl) ?_
  refine TL_q (.int .i64 ((wd : Nat) : Int)) (fun _ _ hρ hm => r_load ag3 (hρ _ _ rfl) (hm.at 1 rfl) rfl) rfl rfl rfl (w_n rfl) ?_
  refine TL_q (.int .i64 (((v / 8) * wd : Nat) : Int)) (fun _ _ hρ _ => r_as (r_mul (hρ _ _ rfl) (hρ _ _ rfl)) (int_as ((wrap64 (by omega) (by omega)).trans (by omega)))) rfl rfl rfl (w_n rfl) ?_
  refine TL_q (.int .i64 ((u : Nat) : Int)) (fun _ _ hρ _ => r_move (hρ _ _ rfl)) rfl rfl rfl (w_n rfl) ?_
  refine TL_q (.int .i64 ((u / 8 : Nat) : Int)) (fun _ _ hρ _ => r_as (r_quo (hρ _ _ rfl) (hρ _ _ rfl) (by omega)) (int_as ((quo_i64 (by omega) (by omega) (by omega)).trans (by omega)))) rfl rfl rfl (w_n rfl) ?_
  refine TL_q (.int .i64 ((((v / 8) * wd) + (u / 8) : Nat) : Int)) (fun _ _ hρ _ => r_as (r_add (hρ _ _ rfl) (hρ _ _ rfl)) (int_as ((wrap64 (by omega) (by omega)).trans (by omega)))) rfl rfl rfl (w_n rfl) ?_
  refine TL_q (.int .i64 ((v : Nat) : Int)) (fun _ _ hρ _ => r_move (hρ _ _ rfl)) rfl rfl rfl (w_n rfl) ?_
  refine TL_q (.int .i64 ((v % 8 : Nat) : Int)) (fun _ _ hρ _ => r_as (r_rem (hρ _ _ rfl) (hρ _ _ rfl) (by omega)) (int_as ((Int.tmod_eq_emod_of_nonneg (by omega)).trans (by omega)))) rfl rfl rfl (w_n rfl) ?_
  refine TL_q (.int .i64 (((v % 8) * 8 : Nat) : Int)) (fun _ _ hρ _ => r_as (r_mul (hρ _ _ rfl) (hρ _ _ rfl)) (int_as ((wrap64 (by omega) (by omega)).trans (by omega)))) rfl rfl rfl (w_n rfl) ?_
  refine TL_q (.int .i64 ((u : Nat) : Int)) (fun _ _ hρ _ => r_move (hρ _ _ rfl)) rfl rfl rfl (w_n rfl) ?_
  refine TL_q (.int .i64 ((u % 8 : Nat) : Int)) (fun _ _ hρ _ => r_as (r_rem (hρ _ _ rfl) (hρ _ _ rfl) (by omega)) (int_as ((Int.tmod_eq_emod_of_nonneg (by omega)).trans (by omega)))) rfl rfl rfl (w_n rfl) ?_
  refine TL_q (.int .i64 ((((v % 8) * 8) + (u % 8) : Nat) : Int)) (fun _ _ hρ _ => r_as (r_add (hρ _ _ rfl) (hρ _ _ rfl)) (int_as ((wrap64 (by omega) (by omega)).trans (by omega)))) rfl rfl rfl (w_n rfl) ?_
  refine TL_q (.pointer (some ⟨b3, of3 + (((v / 8) * wd) + (u / 8)) * 256, none⟩)) (fun _ _ hρ _ => r_indexAddrS (i := ((v / 8) * wd) + (u / 8)) sl22 sz39 (hρ _ _ rfl) (hρ _ _ rfl) (by omega)) rfl rfl rfl (w_n rfl) ?_
  refine TL_q (.pointer (some ⟨b3, of3 + (((v / 8) * wd) + (u / 8)) * 256 + (((v % 8) * 8) + (u % 8)) * 4, none⟩)) (fun _ _ hρ _ => r_indexAddrA (i := ((v % 8) * 8) + (u % 8)) ar39 sz37 (hρ _ _ rfl) (hρ _ _ rfl) (by omega)) rfl rfl rfl (w_n rfl) ?_
  refine TL_q (.agg #[.int .u8 ((get t.l (((v % 8) * 8) + (u % 8))).r), .int .u8 ((get t.l (((v % 8) * 8) + (u % 8))).g), .int .u8 ((get t.l (((v % 8) * 8) + (u % 8))).b), .int .u8 ((get t.l (((v % 8) * 8) + (u % 8))).a)]) (fun _ _ hρ hm => r_loadPix (i := ((v / 8) * wd) + (u / 8)) (j := (((v % 8) * 8) + (u % 8))) ag37 sz37 (hρ _ _ rfl) (hm.old hq3) hr3 ht (by omega)) rfl rfl rfl (w_n rfl) ?_
  refine TL_store 2 (.cells #[.int .u8 ((get t.l (((v % 8) * 8) + (u % 8))).r), .int .u8 ((get t.l (((v % 8) * 8) + (u % 8))).g), .int .u8 ((get t.l (((v % 8) * 8) + (u % 8))).b), .int .u8 ((get t.l (((v % 8) * 8) + (u % 8))).a)] 37) rfl (fun _ _ hρ hm => r_store sz37 (hρ _ _ rfl) (hρ _ _ rfl) (hm.at 2 rfl) rfl rfl rfl rfl) rfl rfl (w_n rfl) ?_
  refine TL_seq ?_
  refine T_ret' ?_
  refine ret_of rfl (.agg #[.int .u8 ((get t.l (((v % 8) * 8) + (u % 8))).r), .int .u8 ((get t.l (((v % 8) * 8) + (u % 8))).g), .int .u8 ((get t.l (((v % 8) * 8) + (u % 8))).b), .int .u8 ((get t.l (((v % 8) * 8) + (u % 8))).a)]) (fun tmps w hk hm => res1 rfl (res_cell (hk 6 _ rfl) (run_loadVar_agg ag37 sz37 (hm.at 2 rfl) (Nat.le_of_ble_eq_true rfl) rfl))) (fun w hm => ?_)
  exact ⟨by unfold colAt; rw [tileAt_some ht, Nat.mul_comm 8 (v % 8)], hm.ext⟩

theorem rput_c (wd hg : Nat) (ts : List T64) (a : Option Addr) (cap : Nat) (w : World) (hs : SliceAt w a cap 256 T64.cells ts) (hlen : ts.length = wd * hg) (hwd : 1 ≤ wd ∧ wd ≤ 4) (hhg : 1 ≤ hg ∧ hg ≤ 4) (ux uy : Int) (uc : C4) : Calls Try.prog 69 #[.agg #[.int .i64 (wd : Int), .int .i64 (hg : Int), .slice a ts.length cap], .agg #[.int .i64 ux, .int .i64 uy, .int .u8 uc.r, .int .u8 uc.g, .int .u8 uc.b, .int .u8 uc.a]] w fun e w' => ∃ (tB : Bool) (a' : Option Addr) (cap' : Nat), e = .returned (.agg #[.int .i64 (wd : Int), .int .i64 (hg : Int), .slice a' ts.length cap']) ∧ (tB = false → a' = a ∧ cap' = cap ∧ putD wd hg ts ⟨ux, uy, uc⟩ = ts) ∧ Below w.heap.size w w' ∧ (Res.rowB tB (.slice a' ts.length cap') 39 256 ts.length ((putD wd hg ts ⟨ux, uy, uc⟩).flatMap T64.cells)).ok w.heap.size w' := by
  have h16 := size4 hwd hhg
  refine calls_of_T (l := [.agg #[.int .i64 ((wd : Nat) : Int), .int .i64 ((hg : Nat) : Int), .slice a ts.length cap], .agg #[.int .i64 ux, .int .i64 uy, .int .u8 uc.r, .int .u8 uc.g, .int .u8 uc.b, .int .u8 uc.a]]) 43 Try.func69 rfl rfl rfl ?_
  show T _ _ _ [(0, .agg #[.int .i64 ((wd : Nat) : Int), .int .i64 ((hg : Nat) : Int), .slice a ts.length cap]), (1, .agg #[.int .i64 ux, .int .i64 uy, .int .u8 uc.r, .int .u8 uc.g, .int .u8 uc.b, .int .u8 uc.a])] []
  refine T_seq (T_region ?_)
  refine TL_new 1 (.cells #[.int .i64 ((wd : Nat) : Int), .int .i64 ((hg : Nat) : Int), .slice a ts.length cap] 24) (fun B => .pointer (some ⟨B, 0, none⟩)) (fun _ _ hρ _ => r_box (hρ _ _ rfl) rfl) rfl rfl rfl (w_n rfl) ?_
  intro B1
  refine TL_new 2 (.cells #[.int .i64 ux, .int .i64 uy, .int .u8 uc.r, .int .u8 uc.g, .int .u8 uc.b, .int .u8 uc.a] 51) (fun B => .pointer (some ⟨B, 0, none⟩)) (fun _ _ hρ _ => r_box (hρ _ _ rfl) rfl) rfl rfl rfl (w_n rfl) ?_
  intro B2
  refine TL_new 3 (.cells #[.int .i64 0, .int .i64 0, .slice none 0 0] 24) (fun B => .pointer (some ⟨B, 0, none⟩)) (fun _ _ _ _ => r_alloc (v := .agg #[.int .i64 0, .int .i64 0, .slice none 0 0]) (by kernel_rfl) rfl) rfl rfl rfl (w_n rfl) ?_
  intro B3
  refine TL_seq ?_
  refine T_seq ?_
  by_cases hon : onC wd hg ux uy = true
  · skip
    refine T_seq (T_region ?_)
    refine TL_q (.agg #[.int .i64 ((wd : Nat) : Int), .int .i64 ((hg : Nat) : Int), .slice a ts.length cap]) (fun _ _ hρ hm => r_loadA ag24 sz24 (hρ _ _ rfl) (hm.at 1 rfl) rfl rfl) rfl rfl rfl (w_n rfl) ?_
    refine TL_q (.pointer (some ⟨B2, 0, none⟩)) (fun _ _ hρ _ => r_fieldAddr fl51_0 sz3 (hρ _ _ rfl)) rfl rfl rfl (w_n rfl) ?_
    refine TL_q (.int .i64 ux) (fun _ _ hρ hm => r_load ag3 (hρ _ _ rfl) (hm.at 2 rfl) rfl) rfl rfl rfl (w_n rfl) ?_
    refine TL_q (.pointer (some ⟨B2, 1, none⟩)) (fun _ _ hρ _ => r_fieldAddr fl51_1 sz3 (hρ _ _ rfl)) rfl rfl rfl (w_n rfl) ?_
    refine TL_q (.int .i64 uy) (fun _ _ hρ hm => r_load ag3 (hρ _ _ rfl) (hm.at 2 rfl) rfl) rfl rfl rfl (w_n rfl) ?_
    refine TL_call (.bool true) (fun _ _ hρ _ => r_call (args := [.agg #[.int .i64 ((wd : Nat) : Int), .int .i64 ((hg : Nat) : Int), .slice a ts.length cap], .int .i64 ux, .int .i64 uy]) (enters_of Try.func35 (by kernel_rfl) rfl) (hρ _ _ rfl) ((cons2 (hρ _ _ rfl) (cons2 (hρ _ _ rfl) (cons2 (hρ _ _ rfl) rfl)))) rfl) (fun w _ => (on_c wd hg ts.length a cap ux uy w hwd hhg).mono fun _ _ h => ⟨h.1.trans (congrArg Ending.returned (bool_as hon)), h.2⟩) rfl rfl rfl (w_n rfl) ?_
    refine TL_q (.bool false) (fun _ _ hρ _ => r_not (b := true) (hρ _ _ rfl)) rfl rfl rfl (w_n rfl) ?_
    refine TL_seq ?_
    refine T_cond_f rfl ?_
    refine T_skip' ?_
    refine p_seq ?_
    obtain ⟨p, q, rfl, rfl, hp, hq⟩ := onC_nat hon
    have hix := idx_lt hp hq
    refine T_seq (T_region ?_)
    refine TL_new 4 (.cells #[] 39) (fun B => .slice (some ⟨B, 0, none⟩) 0 0) (fun _ _ _ _ => r_buildSlice (vs := []) (by kernel_rfl) rfl) rfl rfl rfl (w_n rfl) ?_
    intro B4
    refine TL_q (.pointer (some ⟨B1, 2, none⟩)) (fun _ _ hρ _ => r_fieldAddr fl24_2 sz22 (hρ _ _ rfl)) rfl rfl rfl (w_n rfl) ?_
    refine TL_q (.slice a ts.length cap) (fun _ _ hρ hm => r_load ag22 (hρ _ _ rfl) (hm.at 1 rfl) rfl) rfl rfl rfl (w_n rfl) ?_
    refine TL_mem ([(4, .row (.slice (some ⟨B4, 0, none⟩) 0 0) 39 256 0 []), (1, .blk B1 (.cells #[.int .i64 ((wd : Nat) : Int), .int .i64 ((hg : Nat) : Int), .slice a ts.length cap] 24)), (2, .blk B2 (.cells #[.int .i64 ((p : Nat) : Int), .int .i64 ((q : Nat) : Int), .int .u8 uc.r, .int .u8 uc.g, .int .u8 uc.b, .int .u8 uc.a] 51)), (3, .blk B3 (.cells #[.int .i64 0, .int .i64 0, .slice none 0 0] 24))]) (fun _ hm => MemOk.sub (hm.toRow (n := 0) (cap := 0) (s := 256) 4 rfl rfl (by omega) rfl _ rfl) (sub_cons rfl (sub_cons rfl (sub_cons rfl (sub_cons rfl sub_nil))))) ?_
    refine TL_append (n := 0) (m := ts.length) (xs := []) (news := (ts.flatMap T64.cells)) (z := .agg #[.int .u8 0, .int .u8 0, .int .u8 0, .int .u8 0, .int .u8 0, .int .u8 0, .int .u8 0, .int .u8 0, .int .u8 0, .int .u8 0, .int .u8 0, .int .u8 0, .int .u8 0, .int .u8 0, .int .u8 0, .int .u8 0, .int .u8 0, .int .u8 0, .int .u8 0, .int .u8 0, .int .u8 0, .int .u8 0, .int .u8 0, .int .u8 0, .int .u8 0, .int .u8 0, .int .u8 0, .int .u8 0, .int .u8 0, .int .u8 0, .int .u8 0, .int .u8 0, .int .u8 0, .int .u8 0, .int .u8 0, .int .u8 0, .int .u8 0, .int .u8 0, .int .u8 0, .int .u8 0, .int .u8 0, .int .u8 0, .int .u8 0, .int .u8 0, .int .u8 0, .int .u8 0, .int .u8 0, .int .u8 0, .int .u8 0, .int .u8 0, .int .u8 0, .int .u8 0, .int .u8 0, .int .u8 0, .int .u8 0, .int .u8 0, .int .u8 0, .int .u8 0, .int .u8 0, .int .u8 0, .int .u8 0, .int .u8 0, .int .u8 0, .int .u8 0, .int .u8 0, .int .u8 0, .int .u8 0, .int .u8 0, .int .u8 0, .int .u8 0, .int .u8 0, .int .u8 0, .int .u8 0, .int .u8 0, .int .u8 0, .int .u8 0, .int .u8 0, .int .u8 0, .int .u8 0, .int .u8 0, .int .u8 0, .int .u8 0, .int .u8 0, .int .u8 0, .int .u8 0, .int .u8 0, .int .u8 0, .int .u8 0, .int .u8 0, .int .u8 0, .int .u8 0, .int .u8 0, .int .u8 0, .int .u8 0, .int .u8 0, .int .u8 0, .int .u8 0, .int .u8 0, .int .u8 0, .int .u8 0, .int .u8 0, .int .u8 0, .int .u8 0, .int .u8 0, .int .u8 0, .int .u8 0, .int .u8 0, .int .u8 0, .int .u8 0, .int .u8 0, .int .u8 0, .int .u8 0, .int .u8 0, .int .u8 0, .int .u8 0, .int .u8 0, .int .u8 0, .int .u8 0, .int .u8 0, .int .u8 0, .int .u8 0, .int .u8 0, .int .u8 0, .int .u8 0, .int .u8 0, .int .u8 0, .int .u8 0, .int .u8 0, .int .u8 0, .int .u8 0, .int .u8 0, .int .u8 0, .int .u8 0, .int .u8 0, .int .u8 0, .int .u8 0, .int .u8 0, .int .u8 0, .int .u8 0, .int .u8 0, .int .u8 0, .int .u8 0, .int .u8 0, .int .u8 0, .int .u8 0, .int .u8 0, .int .u8 0, .int .u8 0, .int .u8 0, .int .u8 0, .int .u8 0, .int .u8 0, .int .u8 0, .int .u8 0, .int .u8 0, .int .u8 0, .int .u8 0, .int .u8 0, .int .u8 0, .int .u8 0, .int .u8 0, .int .u8 0, .int .u8 0, .int .u8 0, .int .u8 0, .int .u8 0, .int .u8 0, .int .u8 0, .int .u8 0, .int .u8 0, .int .u8 0, .int .u8 0, .int .u8 0, .int .u8 0, .int .u8 0, .int .u8 0, .int .u8 0, .int .u8 0, .int .u8 0, .int .u8 0, .int .u8 0, .int .u8 0, .int .u8 0, .int .u8 0, .int .u8 0, .int .u8 0, .int .u8 0, .int .u8 0, .int .u8 0, .int .u8 0, .int .u8 0, .int .u8 0, .int .u8 0, .int .u8 0, .int .u8 0, .int .u8 0, .int .u8 0, .int .u8 0, .int .u8 0, .int .u8 0, .int .u8 0, .int .u8 0, .int .u8 0, .int .u8 0, .int .u8 0, .int .u8 0, .int .u8 0, .int .u8 0, .int .u8 0, .int .u8 0, .int .u8 0, .int .u8 0, .int .u8 0, .int .u8 0, .int .u8 0, .int .u8 0, .int .u8 0, .int .u8 0, .int .u8 0, .int .u8 0, .int .u8 0, .int .u8 0, .int .u8 0, .int .u8 0, .int .u8 0, .int .u8 0, .int .u8 0, .int .u8 0, .int .u8 0, .int .u8 0, .int .u8 0, .int .u8 0, .int .u8 0, .int .u8 0, .int .u8 0, .int .u8 0, .int .u8 0, .int .u8 0, .int .u8 0, .int .u8 0, .int .u8 0, .int .u8 0, .int .u8 0, .int .u8 0, .int .u8 0, .int .u8 0, .int .u8 0, .int .u8 0, .int .u8 0, .int .u8 0, .int .u8 0, .int .u8 0, .int .u8 0, .int .u8 0, .int .u8 0, .int .u8 0]) 4 rfl rfl rfl sl22 sz39 by39 (by kernel_rfl) rfl rfl (.inl rfl) (fun _ hm => by have := src_of T64.cells_len (hs.keep hm.ext); simpa using this) tile_one1 (by omega) (by omega) rfl (w_n rfl) ?_
    intro a5 cap5
    refine TL_q (.pointer (some ⟨B1, 2, none⟩)) (fun _ _ hρ _ => r_fieldAddr fl24_2 sz22 (hρ _ _ rfl)) rfl rfl rfl (w_n rfl) ?_
    refine TL_store 1 (.cells #[.int .i64 ((wd : Nat) : Int), .int .i64 ((hg : Nat) : Int), .slice a5 (0 + ts.length) cap5] 24) rfl (fun _ _ hρ hm => r_store sz22 (hρ _ _ rfl) (hρ _ _ rfl) (hm.at 1 rfl) rfl rfl rfl rfl) rfl rfl (w_n rfl) ?_
    refine TL_seq ?_
    rw [Nat.zero_add, List.nil_append]
    obtain ⟨t, ht⟩ : ∃ x, ts[((q / 8) * wd) + (p / 8)]? = some x := ⟨_, List.getElem?_eq_getElem (by omega)⟩
    refine T_row 4 rfl (by omega) (fun g6 ha6 => ?_)
    subst ha6
    refine T_rowcap 4 rfl (fun hrc6 => ?_)
    refine T_seq (T_draw (V := [(0, .pointer (some ⟨B1, 2, none⟩)), (1, .slice (some ⟨g6, 0, none⟩) ts.length cap5), (2, .pointer (some ⟨B2, 1, none⟩)), (3, .int .i64 ((q : Nat) : Int)), (4, .int .i64 ((q / 8 : Nat) : Int)), (5, .pointer (some ⟨B1, 0, none⟩)), (6, .int .i64 ((wd : Nat) : Int)), (7, .int .i64 (((q / 8) * wd : Nat) : Int)), (8, .pointer (some ⟨B2, 0, none⟩)), (9, .int .i64 ((p : Nat) : Int)), (10, .int .i64 ((p / 8 : Nat) : Int)), (11, .int .i64 ((((q / 8) * wd) + (p / 8) : Nat) : Int)), (12, .pointer (some ⟨B2, 1, none⟩)), (13, .int .i64 ((q : Nat) : Int)), (14, .int .i64 ((q % 8 : Nat) : Int)), (15, .int .i64 (((q % 8) * 8 : Nat) : Int)), (16, .pointer (some ⟨B2, 0, none⟩)), (17, .int .i64 ((p : Nat) : Int)), (18, .int .i64 ((p % 8 : Nat) : Int)), (19, .int .i64 ((((q % 8) * 8) + (p % 8) : Nat) : Int)), (20, .pointer (some ⟨B2, 2, none⟩)), (21, .agg #[.int .u8 uc.r, .int .u8 uc.g, .int .u8 uc.b, .int .u8 uc.a]), (22, .pointer (some ⟨g6, 0 + (((q / 8) * wd) + (p / 8)) * 256, none⟩)), (23, .pointer (some ⟨g6, 0 + (((q / 8) * wd) + (p / 8)) * 256 + (((q % 8) * 8) + (p % 8)) * 4, none⟩))]) [0, 1, 0, 4, 12, 0, 32, 124, 0, 256, 768, 2044, 0, 4096, 12288, 28672, 0, 65536, 196608, 520192, 0, 1048576, 4095, 8388607, 16777215] [[(2, none)], [(18, some 0)], [(3, none)], [(20, some 2)], [(21, some 3)], [(2, none)], [(23, some 5)], [(22, some 4), (24, some 6)], [(3, none)], [(26, some 8)], [(27, some 9)], [(25, some 7), (28, some 10)], [(3, none)], [(30, some 12)], [(31, some 13)], [(32, some 14)], [(3, none)], [(34, some 16)], [(35, some 17)], [(33, some 15), (36, some 18)], [(3, none)], [(38, some 20)], [(19, some 1), (29, some 11)], [(40, some 22), (37, some 19)], [(41, some 23), (39, some 21)]] 16777216 mixed (by kernel_rfl) ?_)
    refine G_step [0, 1, 2, 3, 4, 5, 6, 7, 8, 9, 10, 11, 12, 13, 14, 15, 16, 17, 18, 19, 20, 21, 22, 23] 24 [] (by kernel_rfl) (allM (all_cons (q_run (.pointer (some ⟨B1, 2, none⟩)) rfl rfl (wv_n rfl) rfl (fun _ _ hρ _ => r_fieldAddr fl24_2 sz22 (hρ _ _ rfl))) (all_cons (q_run (.slice (some ⟨g6, 0, none⟩) ts.length cap5) rfl rfl (wv_n rfl) rfl (fun _ _ hρ hm => r_load ag22 (hρ _ _ rfl) (hm.at 1 rfl) rfl)) (all_cons (q_run (.pointer (some ⟨B2, 1, none⟩)) rfl rfl (wv_n rfl) rfl (fun _ _ hρ _ => r_fieldAddr fl51_1 sz3 (hρ _ _ rfl))) (all_cons (q_run (.int .i64 ((q : Nat) : Int)) rfl rfl (wv_n rfl) rfl (fun _ _ hρ hm => r_load ag3 (hρ _ _ rfl) (hm.at 2 rfl) rfl)) (all_cons (q_run (.int .i64 ((q / 8 : Nat) : Int)) rfl rfl (wv_n rfl) rfl (fun _ _ hρ _ => r_as (r_quo (hρ _ _ rfl) (hρ _ _ rfl) (by omega)) (int_as ((quo_i64 (by omega) (by omega) (by omega)).trans (by omega))))) (all_cons (q_run (.pointer (some ⟨B1, 0, none⟩)) rfl rfl (wv_n rfl) rfl (fun _ _ hρ _ => r_fieldAddr fl24_0 sz3 (hρ _ _ rfl))) (all_cons (q_run (.int .i64 ((wd : Nat) : Int)) rfl rfl (wv_n rfl) rfl (fun _ _ hρ hm => r_load ag3 (hρ _ _ rfl) (hm.at 1 rfl) rfl)) (all_cons (q_run (.int .i64 (((q / 8) * wd : Nat) : Int)) rfl rfl (wv_n rfl) rfl (fun _ _ hρ _ => r_as (r_mul (hρ _ _ rfl) (hρ _ _ rfl)) (int_as ((wrap64 (by omega) (by omega)).trans (by omega))))) (all_cons (q_run (.pointer (some ⟨B2, 0, none⟩)) rfl rfl (wv_n rfl) rfl (fun _ _ hρ _ => r_fieldAddr fl51_0 sz3 (hρ _ _ rfl))) (all_cons (q_run (.int .i64 ((p : Nat) : Int)) rfl rfl (wv_n rfl) rfl (fun _ _ hρ hm => r_load ag3 (hρ _ _ rfl) (hm.at 2 rfl) rfl)) (all_cons (q_run (.int .i64 ((p / 8 : Nat) : Int)) rfl rfl (wv_n rfl) rfl (fun _ _ hρ _ => r_as (r_quo (hρ _ _ rfl) (hρ _ _ rfl) (by omega)) (int_as ((quo_i64 (by omega) (by omega) (by omega)).trans (by omega))))) (all_cons (q_run (.int .i64 ((((q / 8) * wd) + (p / 8) : Nat) : Int)) rfl rfl (wv_n rfl) rfl (fun _ _ hρ _ => r_as (r_add (hρ _ _ rfl) (hρ _ _ rfl)) (int_as ((wrap64 (by omega) (by omega)).trans (by omega))))) (all_cons (q_run (.pointer (some ⟨B2, 1, none⟩)) rfl rfl (wv_n rfl) rfl (fun _ _ hρ _ => r_fieldAddr fl51_1 sz3 (hρ _ _ rfl))) (all_cons (q_run (.int .i64 ((q : Nat) : Int)) rfl rfl (wv_n rfl) rfl (fun _ _ hρ hm => r_load ag3 (hρ _ _ rfl) (hm.at 2 rfl) rfl)) (all_cons (q_run (.int .i64 ((q % 8 : Nat) : Int)) rfl rfl (wv_n rfl) rfl (fun _ _ hρ _ => r_as (r_rem (hρ _ _ rfl) (hρ _ _ rfl) (by omega)) (int_as ((Int.tmod_eq_emod_of_nonneg (by omega)).trans (by omega))))) (all_cons (q_run (.int .i64 (((q % 8) * 8 : Nat) : Int)) rfl rfl (wv_n rfl) rfl (fun _ _ hρ _ => r_as (r_mul (hρ _ _ rfl) (hρ _ _ rfl)) (int_as ((wrap64 (by omega) (by omega)).trans (by omega))))) (all_cons (q_run (.pointer (some ⟨B2, 0, none⟩)) rfl rfl (wv_n rfl) rfl (fun _ _ hρ _ => r_fieldAddr fl51_0 sz3 (hρ _ _ rfl))) (all_cons (q_run (.int .i64 ((p : Nat) : Int)) rfl rfl (wv_n rfl) rfl (fun _ _ hρ hm => r_load ag3 (hρ _ _ rfl) (hm.at 2 rfl) rfl)) (all_cons (q_run (.int .i64 ((p % 8 : Nat) : Int)) rfl rfl (wv_n rfl) rfl (fun _ _ hρ _ => r_as (r_rem (hρ _ _ rfl) (hρ _ _ rfl) (by omega)) (int_as ((Int.tmod_eq_emod_of_nonneg (by omega)).trans (by omega))))) (all_cons (q_run (.int .i64 ((((q % 8) * 8) + (p % 8) : Nat) : Int)) rfl rfl (wv_n rfl) rfl (fun _ _ hρ _ => r_as (r_add (hρ _ _ rfl) (hρ _ _ rfl)) (int_as ((wrap64 (by omega) (by omega)).trans (by omega))))) (all_cons (q_run (.pointer (some ⟨B2, 2, none⟩)) rfl rfl (wv_n rfl) rfl (fun _ _ hρ _ => r_fieldAddr fl51_2 sz37 (hρ _ _ rfl))) (all_cons (q_run (.agg #[.int .u8 uc.r, .int .u8 uc.g, .int .u8 uc.b, .int .u8 uc.a]) rfl rfl (wv_n rfl) rfl (fun _ _ hρ hm => r_loadA ag37 sz37 (hρ _ _ rfl) (hm.at 2 rfl) rfl rfl)) (all_cons (q_run (.pointer (some ⟨g6, 0 + (((q / 8) * wd) + (p / 8)) * 256, none⟩)) rfl rfl (wv_n rfl) rfl (fun _ _ hρ _ => r_indexAddrS (i := ((q / 8) * wd) + (p / 8)) sl22 sz39 (hρ _ _ rfl) (hρ _ _ rfl) (by omega))) (all_cons (q_run (.pointer (some ⟨g6, 0 + (((q / 8) * wd) + (p / 8)) * 256 + (((q % 8) * 8) + (p % 8)) * 4, none⟩)) rfl rfl (wv_n rfl) rfl (fun _ _ hρ _ => r_indexAddrA (i := ((q % 8) * 8) + (p % 8)) ar39 sz37 (hρ _ _ rfl) (hρ _ _ rfl) (by omega))) all_nil))))))))))))))))))))))))) (allM (all_cons ?_ all_nil))
    refine LOb_opS _ [] rfl (wv_n rfl) rfl rfl (fun _ _ hρ hm => o_storeC (xs' := (ts.set (((q / 8) * wd) + (p / 8)) (t.set (((q % 8) * 8) + (p % 8)) uc)).flatMap T64.cells) 4 rfl (hρ _ _ rfl) (hρ _ _ rfl) sz37 rfl rfl (by omega) (by rw [flat_len T64.cells_len, List.length_set]) (fun post => wr_pix ht (by omega) uc post) hm) (by kernel_rfl) ?_
    refine G_last [] [(2, .pointer (some ⟨B1, 0, none⟩)), (4, .pointer (some ⟨B3, 0, none⟩))] (by kernel_rfl) (allM all_nil) (end_old rfl rfl (end_old rfl rfl end_nil)) ?_
    refine T_seq (T_region ?_)
    refine TL_q (.agg #[.int .i64 ((wd : Nat) : Int), .int .i64 ((hg : Nat) : Int), .slice (some ⟨g6, 0, none⟩) ts.length cap5]) (fun _ _ hρ hm => r_loadA ag24 sz24 (hρ _ _ rfl) (hm.at 1 rfl) rfl rfl) rfl rfl rfl (w_n rfl) ?_
    refine TL_store 3 (.cells #[.int .i64 ((wd : Nat) : Int), .int .i64 ((hg : Nat) : Int), .slice (some ⟨g6, 0, none⟩) ts.length cap5] 24) rfl (fun _ _ hρ hm => r_store sz24 (hρ _ _ rfl) (hρ _ _ rfl) (hm.at 3 rfl) rfl rfl rfl rfl) rfl rfl (w_n rfl) ?_
    refine TL_seq ?_
    refine T_ret' ?_
    refine ret_of rfl (.agg #[.int .i64 ((wd : Nat) : Int), .int .i64 ((hg : Nat) : Int), .slice (some ⟨g6, 0, none⟩) ts.length cap5]) (fun tmps w hk hm => res1 rfl (res_cell (hk 4 _ rfl) (run_loadVar_agg ag24 sz24 (hm.at 3 rfl) (Nat.le_of_ble_eq_true rfl) rfl))) (fun w hm => ?_)
    exact ⟨true, some ⟨g6, 0, none⟩, cap5, rfl, (fun h => by cases h), hm.ext, rowB_own (by rw [putD_at hp hq ht]; exact hm.row 4 rfl)⟩
  · skip
    refine T_seq (T_region ?_)
    refine TL_q (.agg #[.int .i64 ((wd : Nat) : Int), .int .i64 ((hg : Nat) : Int), .slice a ts.length cap]) (fun _ _ hρ hm => r_loadA ag24 sz24 (hρ _ _ rfl) (hm.at 1 rfl) rfl rfl) rfl rfl rfl (w_n rfl) ?_
    refine TL_q (.pointer (some ⟨B2, 0, none⟩)) (fun _ _ hρ _ => r_fieldAddr fl51_0 sz3 (hρ _ _ rfl)) rfl rfl rfl (w_n rfl) ?_
    refine TL_q (.int .i64 ux) (fun _ _ hρ hm => r_load ag3 (hρ _ _ rfl) (hm.at 2 rfl) rfl) rfl rfl rfl (w_n rfl) ?_
    refine TL_q (.pointer (some ⟨B2, 1, none⟩)) (fun _ _ hρ _ => r_fieldAddr fl51_1 sz3 (hρ _ _ rfl)) rfl rfl rfl (w_n rfl) ?_
    refine TL_q (.int .i64 uy) (fun _ _ hρ hm => r_load ag3 (hρ _ _ rfl) (hm.at 2 rfl) rfl) rfl rfl rfl (w_n rfl) ?_
    refine TL_call (.bool false) (fun _ _ hρ _ => r_call (args := [.agg #[.int .i64 ((wd : Nat) : Int), .int .i64 ((hg : Nat) : Int), .slice a ts.length cap], .int .i64 ux, .int .i64 uy]) (enters_of Try.func35 (by kernel_rfl) rfl) (hρ _ _ rfl) ((cons2 (hρ _ _ rfl) (cons2 (hρ _ _ rfl) (cons2 (hρ _ _ rfl) rfl)))) rfl) (fun w _ => (on_c wd hg ts.length a cap ux uy w hwd hhg).mono fun _ _ h => ⟨h.1.trans (congrArg Ending.returned (bool_as (eq_false_of_ne_true hon))), h.2⟩) rfl rfl rfl (w_n rfl) ?_
    refine TL_q (.bool true) (fun _ _ hρ _ => r_not (b := false) (hρ _ _ rfl)) rfl rfl rfl (w_n rfl) ?_
    refine TL_seq ?_
    refine T_cond_t rfl ?_
    refine T_seq (T_region ?_)
    refine TL_q (.agg #[.int .i64 ((wd : Nat) : Int), .int .i64 ((hg : Nat) : Int), .slice a ts.length cap]) (fun _ _ hρ hm => r_loadA ag24 sz24 (hρ _ _ rfl) (hm.at 1 rfl) rfl rfl) rfl rfl rfl (w_n rfl) ?_
    refine TL_store 3 (.cells #[.int .i64 ((wd : Nat) : Int), .int .i64 ((hg : Nat) : Int), .slice a ts.length cap] 24) rfl (fun _ _ hρ hm => r_store sz24 (hρ _ _ rfl) (hρ _ _ rfl) (hm.at 3 rfl) rfl rfl rfl rfl) rfl rfl (w_n rfl) ?_
    refine TL_seq ?_
    refine T_ret' ?_
    refine p_then_r ?_
    refine ret_of rfl (.agg #[.int .i64 ((wd : Nat) : Int), .int .i64 ((hg : Nat) : Int), .slice a ts.length cap]) (fun tmps w hk hm => res1 rfl (res_cell (hk 4 _ rfl) (run_loadVar_agg ag24 sz24 (hm.at 3 rfl) (Nat.le_of_ble_eq_true rfl) rfl))) (fun w hm => ?_)
    exact ⟨false, a, cap, rfl, fun _ => ⟨rfl, rfl, putD_no hon⟩, hm.ext, rowB_no⟩

theorem rowB_next {wd hg : Nat} {ts : List T64} {ds : List Dt} {k : Nat} {u : Dt} {t1 t2 : Bool} {a a1 a2 : Option Addr} {c c1 c2 : Nat} (hu : ds[k]? = some u) (h1 : t1 = false → a1 = a ∧ c1 = c ∧ putDs wd hg ts (ds.take k) = ts) (h2 : t2 = false → a2 = a1 ∧ c2 = c1 ∧ putD wd hg (putDs wd hg ts (ds.take k)) u = putDs wd hg ts (ds.take k)) :
    (t1 || t2) = false → a2 = a ∧ c2 = c ∧ putDs wd hg ts (ds.take (k + 1)) = ts := by
  intro h
  rw [Bool.or_eq_false_iff] at h
  obtain ⟨rfl, rfl, e1⟩ := h1 h.1
  obtain ⟨rfl, rfl, e2⟩ := h2 h.2
  exact ⟨rfl, rfl, by rw [putDs_step hu, e2, e1]⟩

set_option maxHeartbeats 1000000 in
theorem rputs_c (wd hg : Nat) (ts : List T64) (a : Option Addr) (cap : Nat) (w : World) (hs : SliceAt w a cap 256 T64.cells ts) (hlen : ts.length = wd * hg) (hwd : 1 ≤ wd ∧ wd ≤ 4) (hhg : 1 ≤ hg ∧ hg ≤ 4) (ds : List Dt) (ad : Option Addr) (capd : Nat) (hvd : SliceAt w ad capd 6 Dt.cells ds) (hcapd : capd ≤ Go.maxLen) : Calls Try.prog 19 #[.agg #[.int .i64 (wd : Int), .int .i64 (hg : Int), .slice a ts.length cap], .slice ad ds.length capd] w fun e w' => ∃ (tB : Bool) (a' : Option Addr) (cap' : Nat), e = .returned (.agg #[.int .i64 (wd : Int), .int .i64 (hg : Int), .slice a' ts.length cap']) ∧ (tB = false → a' = a ∧ cap' = cap ∧ putDs wd hg ts ds = ts) ∧ Below w.heap.size w w' ∧ (Res.rowB tB (.slice a' ts.length cap') 39 256 ts.length ((putDs wd hg ts ds).flatMap T64.cells)).ok w.heap.size w' := by
  have h16 := size4 hwd hhg
  have hvl := hvd.1
  unfold Go.maxLen at hcapd
  refine calls_of_T (l := [.agg #[.int .i64 ((wd : Nat) : Int), .int .i64 ((hg : Nat) : Int), .slice a ts.length cap], .slice ad ds.length capd]) 18 Try.func19 rfl rfl rfl ?_
  show T _ _ _ [(0, .agg #[.int .i64 ((wd : Nat) : Int), .int .i64 ((hg : Nat) : Int), .slice a ts.length cap]), (1, .slice ad ds.length capd)] []
  refine T_seq (T_region ?_)
  refine TL_new 1 (.cells #[.int .i64 ((wd : Nat) : Int), .int .i64 ((hg : Nat) : Int), .slice a ts.length cap] 24) (fun B => .pointer (some ⟨B, 0, none⟩)) (fun _ _ hρ _ => r_box (hρ _ _ rfl) rfl) rfl rfl rfl (w_n rfl) ?_
  intro B1
  refine TL_new 2 (.cells #[.int .i64 0, .int .i64 0, .slice none 0 0] 24) (fun B => .pointer (some ⟨B, 0, none⟩)) (fun _ _ _ _ => r_alloc (v := .agg #[.int .i64 0, .int .i64 0, .slice none 0 0]) (by kernel_rfl) rfl) rfl rfl rfl (w_n rfl) ?_
  intro B2
  refine TL_seq ?_
  refine T_seq ?_
  refine T_seq (T_region ?_)
  refine TL_q (.slice ad ds.length capd) (fun _ _ hρ _ => r_move (hρ _ _ rfl)) rfl rfl rfl (w_n rfl) ?_
  refine TL_q (.int .i64 ((ds.length : Nat) : Int)) (fun _ _ hρ _ => r_len sl25 (hρ _ _ rfl)) rfl rfl rfl (w_n rfl) ?_
  refine TL_q (.int .i64 0) (fun _ _ hρ _ => r_move (hρ _ _ rfl)) rfl rfl rfl (w_n rfl) ?_
  refine TL_seq ?_
  refine T_block ?_
  refine T_mem (_ :: _) (fun _ hm => hm.rowB0 905 (.slice a ts.length cap) 39 256 ts.length (ts.flatMap T64.cells)) ?_
  refine T_loop (ι := Nat × Bool × Option Addr × Nat) (fun (z : Nat × Bool × Option Addr × Nat) => match z with | (k, tB, a2, cap2) => k ≤ ds.length ∧ (tB = false → a2 = a ∧ cap2 = cap ∧ putDs wd hg ts (ds.take k) = ts)) (fun (z : Nat × Bool × Option Addr × Nat) => match z with | (k, tB, a2, cap2) => [(2, .pointer (some ⟨B1, 0, none⟩)), (4, .pointer (some ⟨B2, 0, none⟩)), (7, .slice ad ds.length capd), (8, .int .i64 ((ds.length : Nat) : Int)), (9, .int .i64 ((k : Nat) : Int))]) (fun (z : Nat × Bool × Option Addr × Nat) => match z with | (k, tB, a2, cap2) => [(2, .blk B2 (.cells #[.int .i64 0, .int .i64 0, .slice none 0 0] 24)), (1, .blk B1 (.cells #[.int .i64 ((wd : Nat) : Int), .int .i64 ((hg : Nat) : Int), .slice a2 ts.length cap2] 24)), (905, .rowB tB (.slice a2 ts.length cap2) 39 256 ts.length ((putDs wd hg ts (ds.take k)).flatMap T64.cells))]) (fun (z : Nat × Bool × Option Addr × Nat) => match z with | (k, tB, a2, cap2) => ds.length - k) (0, false, a, cap) ⟨Nat.zero_le _, fun _ => ⟨rfl, rfl, rfl⟩⟩ (sub_cons rfl (sub_cons rfl (sub_cons rfl (sub_cons rfl (sub_cons rfl sub_nil))))) (sub_cons rfl (sub_cons rfl (sub_cons rfl sub_nil))) ?_
  rintro ⟨k, tB, a2, cap2⟩ hp
  obtain ⟨hk, hbf⟩ := hp
  show T _ _ _ [(2, .pointer (some ⟨B1, 0, none⟩)), (4, .pointer (some ⟨B2, 0, none⟩)), (7, .slice ad ds.length capd), (8, .int .i64 ((ds.length : Nat) : Int)), (9, .int .i64 ((k : Nat) : Int))] [(2, .blk B2 (.cells #[.int .i64 0, .int .i64 0, .slice none 0 0] 24)), (1, .blk B1 (.cells #[.int .i64 ((wd : Nat) : Int), .int .i64 ((hg : Nat) : Int), .slice a2 ts.length cap2] 24)), (905, .rowB tB (.slice a2 ts.length cap2) 39 256 ts.length ((putDs wd hg ts (ds.take k)).flatMap T64.cells))]
  refine T_seq (T_region ?_)
  refine TL_q (.bool (decide (((k : Nat) : Int) < ((ds.length : Nat) : Int)))) (fun _ _ hρ _ => r_lss (hρ _ _ rfl) (hρ _ _ rfl)) rfl rfl rfl (w_n rfl) ?_
  refine TL_seq ?_
  refine T_seq ?_
  refine T_cond rfl (fun h1 => ?_) (fun h1 => ?_)
  · replace h1 := of_decide_eq_true h1
    refine T_skip' ?_
    refine p_seq ?_
    refine T_seq ?_
    refine T_block ?_
    obtain ⟨u, hu⟩ : ∃ x, ds[k]? = some x := ⟨_, List.getElem?_eq_getElem (by omega)⟩
    obtain ⟨b3, of3, cs3, T3, fz3, ha3, hq3, hr3⟩ := hvd.open (i := k) (by omega)
    subst ha3
    refine T_seq (T_region ?_)
    refine TL_q (.pointer (some ⟨b3, of3 + k * 6, none⟩)) (fun _ _ hρ _ => r_indexAddrS (i := k) sl25 sz51 (hρ _ _ rfl) (hρ _ _ rfl) (by omega)) rfl rfl rfl (w_n rfl) ?_
    refine TL_q (.agg #[.int .i64 u.x, .int .i64 u.y, .int .u8 u.c.r, .int .u8 u.c.g, .int .u8 u.c.b, .int .u8 u.c.a]) (fun _ _ hρ hm => r_loadRow (f := Dt.cells) (u := u) ag51 sz51 (hρ _ _ rfl) (hm.old hq3) hr3 hu) rfl rfl rfl (w_n rfl) ?_
    refine TL_new 3 (.cells #[.int .i64 0, .int .i64 0, .int .u8 0, .int .u8 0, .int .u8 0, .int .u8 0] 51) (fun B => .pointer (some ⟨B, 0, none⟩)) (fun _ _ _ _ => r_alloc (v := .agg #[.int .i64 0, .int .i64 0, .int .u8 0, .int .u8 0, .int .u8 0, .int .u8 0]) (by kernel_rfl) rfl) rfl rfl rfl (w_n rfl) ?_
    intro B4
    refine TL_store 3 (.cells #[.int .i64 u.x, .int .i64 u.y, .int .u8 u.c.r, .int .u8 u.c.g, .int .u8 u.c.b, .int .u8 u.c.a] 51) rfl (fun _ _ hρ hm => r_store sz51 (hρ _ _ rfl) (hρ _ _ rfl) (hm.at 3 rfl) rfl rfl rfl rfl) rfl rfl (w_n rfl) ?_
    refine TL_seq ?_
    refine T_region ?_
    refine TL_q (.agg #[.int .i64 ((wd : Nat) : Int), .int .i64 ((hg : Nat) : Int), .slice a2 ts.length cap2]) (fun _ _ hρ hm => r_loadA ag24 sz24 (hρ _ _ rfl) (hm.at 1 rfl) rfl rfl) rfl rfl rfl (w_n rfl) ?_
    refine TL_q (.agg #[.int .i64 u.x, .int .i64 u.y, .int .u8 u.c.r, .int .u8 u.c.g, .int .u8 u.c.b, .int .u8 u.c.a]) (fun _ _ hρ hm => r_loadA ag51 sz51 (hρ _ _ rfl) (hm.at 3 rfl) rfl rfl) rfl rfl rfl (w_n rfl) ?_
    refine TL_callN (fun (z : Bool × Option Addr × Nat) => z.1 = false → z.2.1 = a2 ∧ z.2.2 = cap2 ∧ (putD wd hg (putDs wd hg ts (ds.take k)) u) = (putDs wd hg ts (ds.take k))) (fun (tb5, ab5, cb5) => .agg #[.int .i64 ((wd : Nat) : Int), .int .i64 ((hg : Nat) : Int), .slice ab5 ts.length cb5]) (fun (tb5, ab5, cb5) => [(4, .rowB tb5 (.slice ab5 ts.length cb5) 39 256 ts.length ((putD wd hg (putDs wd hg ts (ds.take k)) u).flatMap T64.cells))]) (fun _ _ hρ _ => r_call (args := [.agg #[.int .i64 ((wd : Nat) : Int), .int .i64 ((hg : Nat) : Int), .slice a2 ts.length cap2], .agg #[.int .i64 u.x, .int .i64 u.y, .int .u8 u.c.r, .int .u8 u.c.g, .int .u8 u.c.b, .int .u8 u.c.a]]) (enters_of Try.func69 (by kernel_rfl) rfl) (hρ _ _ rfl) ((cons2 (hρ _ _ rfl) (cons2 (hρ _ _ rfl) rfl))) rfl) (fun w hm => (by have hz := rput_c wd hg (putDs wd hg ts (ds.take k)) a2 cap2 w (rowB_at T64.cells_len (hm.rowB 905 rfl) (by rw [putDs_len]) hbf (hs.keep hm.ext)) (by rw [putDs_len, hlen]) hwd hhg u.x u.y u.c; rw [putDs_len] at hz; exact hz.mono fun e w' ⟨tB, a', cap', he, hb, h1, h2⟩ => ⟨(tB, a', cap'), hb, he, h1, newOk1 4 h2⟩)) rfl rfl rfl (w_n rfl) ?_
    rintro ⟨tb5, ab5, cb5⟩ hrb5
    dsimp only at hrb5
    refine TL_store 1 (.cells #[.int .i64 ((wd : Nat) : Int), .int .i64 ((hg : Nat) : Int), .slice ab5 ts.length cb5] 24) rfl (fun _ _ hρ hm => r_store sz24 (hρ _ _ rfl) (hρ _ _ rfl) (hm.at 1 rfl) rfl rfl rfl rfl) rfl rfl (w_n rfl) ?_
    refine TL_nil ?_
    refine p_blk_n ?_
    refine p_seq ?_
    refine T_region ?_
    refine TL_q (.int .i64 ((k + 1 : Nat) : Int)) (fun _ _ hρ _ => r_as (r_add (hρ _ _ rfl) (hρ _ _ rfl)) (int_as ((wrap64 (by omega) (by omega)).trans (by omega)))) rfl rfl rfl (w_n rfl) ?_
    refine TL_q (.int .i64 ((k + 1 : Nat) : Int)) (fun _ _ hρ _ => r_move (hρ _ _ rfl)) rfl rfl rfl (w_n rfl) ?_
    refine TL_nil ?_
    refine p_mem (_ :: _) (fun _ hm => hm.rowB2 905 4 rfl rfl (fun h => by obtain ⟨h1, h2, h3⟩ := hrb5 h; rw [h1, h2, h3]; exact ⟨rfl, rfl, rfl⟩) rfl) ?_
    exact p_at (k + 1, tB || tb5, ab5, cb5) ⟨⟨by omega, rowB_next hu hbf hrb5⟩, by dsimp only; omega⟩ (sub_cons rfl (sub_cons rfl (sub_cons rfl (sub_cons rfl (sub_cons rfl sub_nil))))) (sub_cons rfl (sub_cons rfl (sub_cons (by rw [putDs_step hu]; rfl) sub_nil)))
  · replace h1 := of_decide_eq_false h1
    refine T_exit' ?_
    refine p_then_x ?_
    refine p_then_x ?_
    refine p_blk_x ?_
    refine p_seq ?_
    refine T_seq (T_region ?_)
    refine TL_q (.agg #[.int .i64 ((wd : Nat) : Int), .int .i64 ((hg : Nat) : Int), .slice a2 ts.length cap2]) (fun _ _ hρ hm => r_loadA ag24 sz24 (hρ _ _ rfl) (hm.at 1 rfl) rfl rfl) rfl rfl rfl (w_n rfl) ?_
    refine TL_store 2 (.cells #[.int .i64 ((wd : Nat) : Int), .int .i64 ((hg : Nat) : Int), .slice a2 ts.length cap2] 24) rfl (fun _ _ hρ hm => r_store sz24 (hρ _ _ rfl) (hρ _ _ rfl) (hm.at 2 rfl) rfl rfl rfl rfl) rfl rfl (w_n rfl) ?_
    refine TL_seq ?_
    refine T_ret' ?_
    refine ret_of rfl (.agg #[.int .i64 ((wd : Nat) : Int), .int .i64 ((hg : Nat) : Int), .slice a2 ts.length cap2]) (fun tmps w hk hm => res1 rfl (res_cell (hk 4 _ rfl) (run_loadVar_agg ag24 sz24 (hm.at 2 rfl) (Nat.le_of_ble_eq_true rfl) rfl))) (fun w hm => ?_)
    have hk : k = ds.length := by omega
    subst hk
    have hrow := hm.own 905 _ rfl
    rw [List.take_length] at hbf hrow
    exact ⟨tB, a2, cap2, rfl, hbf, hm.ext, hrow⟩
end Go.Proofs.Ytbiapeaghbndoaa
