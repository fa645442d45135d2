/- tile: the references. Printed by a program of this seat's prover. -/
import Derived.Test.YtmlkifojbjbpcaaTil
namespace Go.Proofs.Ytmlkifojbjbpcaa
open Go Go.RowKit
set_option maxRecDepth 10000
theorem is_ref (x y : Int) (w : World) : Calls Try.prog 28 #[.int .i64 x, .int .i64 y] w fun e w' => e = .returned (.bool (isP x y)) ∧ Below w.heap.size w w' := by
  refine calls_of_T (l := [.int .i64 x, .int .i64 y]) 19 Try.func28 rfl rfl rfl ?_
  show T _ _ _ [(0, .int .i64 x), (1, .int .i64 y)] []
  refine T_seq (T_region ?_)
  refine TL_q (.bool false) (fun _ _ hρ _ => r_assign (hρ _ _ rfl)) rfl rfl rfl (w_n rfl) ?_
  refine TL_seq ?_
  by_cases c1 : (0 : Int) ≤ x
  · skip
    by_cases c2 : x < 8
    · skip
      by_cases c3 : (0 : Int) ≤ y
      · skip
        by_cases c4 : y < 8
        · skip
          refine T_seq (T_region ?_)
          refine TL_q (.int .i64 x) (fun _ _ hρ _ => r_move (hρ _ _ rfl)) rfl rfl rfl (w_n rfl) ?_
          refine TL_q (.bool true) (fun _ _ hρ _ => r_as (r_geq (hρ _ _ rfl) (hρ _ _ rfl)) (bool_as (decide_eq_true c1))) rfl rfl rfl (w_n rfl) ?_
          refine TL_q (.bool true) (fun _ _ hρ _ => r_move (hρ _ _ rfl)) rfl rfl rfl (w_n rfl) ?_
          refine TL_q (.int .i64 x) (fun _ _ hρ _ => r_move (hρ _ _ rfl)) rfl rfl rfl (want_y 7 rfl rfl rfl) ?_
          refine TL_q (.bool true) (fun _ _ hρ _ => r_as (r_lss (hρ _ _ rfl) (hρ _ _ rfl)) (bool_as (decide_eq_true c2))) rfl rfl rfl (want_y 7 rfl rfl rfl) ?_
          refine TL_q (.bool true) (fun _ _ hρ _ => r_pick_t (hρ _ _ rfl) (hρ _ _ rfl)) rfl rfl rfl (w_n rfl) ?_
          refine TL_q (.bool true) (fun _ _ hρ _ => r_move (hρ _ _ rfl)) rfl rfl rfl (w_n rfl) ?_
          refine TL_q (.int .i64 y) (fun _ _ hρ _ => r_move (hρ _ _ rfl)) rfl rfl rfl (want_y 11 rfl rfl rfl) ?_
          refine TL_q (.bool true) (fun _ _ hρ _ => r_as (r_geq (hρ _ _ rfl) (hρ _ _ rfl)) (bool_as (decide_eq_true c3))) rfl rfl rfl (want_y 11 rfl rfl rfl) ?_
          refine TL_q (.bool true) (fun _ _ hρ _ => r_pick_t (hρ _ _ rfl) (hρ _ _ rfl)) rfl rfl rfl (w_n rfl) ?_
          refine TL_q (.bool true) (fun _ _ hρ _ => r_move (hρ _ _ rfl)) rfl rfl rfl (w_n rfl) ?_
          refine TL_q (.int .i64 y) (fun _ _ hρ _ => r_move (hρ _ _ rfl)) rfl rfl rfl (want_y 15 rfl rfl rfl) ?_
          refine TL_q (.bool true) (fun _ _ hρ _ => r_as (r_lss (hρ _ _ rfl) (hρ _ _ rfl)) (bool_as (decide_eq_true c4))) rfl rfl rfl (want_y 15 rfl rfl rfl) ?_
          refine TL_q (.bool true) (fun _ _ hρ _ => r_pick_t (hρ _ _ rfl) (hρ _ _ rfl)) rfl rfl rfl (w_n rfl) ?_
          refine TL_q (.bool true) (fun _ _ hρ _ => r_assign (hρ _ _ rfl)) rfl rfl rfl (w_n rfl) ?_
          refine TL_seq ?_
          refine T_ret' ?_
          refine ret_of rfl (.bool true) (fun tmps w hk hm => res1 rfl (res_tmp (hk 4 _ rfl))) (fun w hm => ?_)
          exact ⟨congrArg Ending.returned (bool_as (decide_eq_true (by omega)).symm), hm.ext⟩
        · skip
          refine T_seq (T_region ?_)
          refine TL_q (.int .i64 x) (fun _ _ hρ _ => r_move (hρ _ _ rfl)) rfl rfl rfl (w_n rfl) ?_
          refine TL_q (.bool true) (fun _ _ hρ _ => r_as (r_geq (hρ _ _ rfl) (hρ _ _ rfl)) (bool_as (decide_eq_true c1))) rfl rfl rfl (w_n rfl) ?_
          refine TL_q (.bool true) (fun _ _ hρ _ => r_move (hρ _ _ rfl)) rfl rfl rfl (w_n rfl) ?_
          refine TL_q (.int .i64 x) (fun _ _ hρ _ => r_move (hρ _ _ rfl)) rfl rfl rfl (want_y 7 rfl rfl rfl) ?_
          refine TL_q (.bool true) (fun _ _ hρ _ => r_as (r_lss (hρ _ _ rfl) (hρ _ _ rfl)) (bool_as (decide_eq_true c2))) rfl rfl rfl (want_y 7 rfl rfl rfl) ?_
          refine TL_q (.bool true) (fun _ _ hρ _ => r_pick_t (hρ _ _ rfl) (hρ _ _ rfl)) rfl rfl rfl (w_n rfl) ?_
          refine TL_q (.bool true) (fun _ _ hρ _ => r_move (hρ _ _ rfl)) rfl rfl rfl (w_n rfl) ?_
          refine TL_q (.int .i64 y) (fun _ _ hρ _ => r_move (hρ _ _ rfl)) rfl rfl rfl (want_y 11 rfl rfl rfl) ?_
          refine TL_q (.bool true) (fun _ _ hρ _ => r_as (r_geq (hρ _ _ rfl) (hρ _ _ rfl)) (bool_as (decide_eq_true c3))) rfl rfl rfl (want_y 11 rfl rfl rfl) ?_
          refine TL_q (.bool true) (fun _ _ hρ _ => r_pick_t (hρ _ _ rfl) (hρ _ _ rfl)) rfl rfl rfl (w_n rfl) ?_
          refine TL_q (.bool true) (fun _ _ hρ _ => r_move (hρ _ _ rfl)) rfl rfl rfl (w_n rfl) ?_
          refine TL_q (.int .i64 y) (fun _ _ hρ _ => r_move (hρ _ _ rfl)) rfl rfl rfl (want_y 15 rfl rfl rfl) ?_
          refine TL_q (.bool false) (fun _ _ hρ _ => r_as (r_lss (hρ _ _ rfl) (hρ _ _ rfl)) (bool_as (decide_eq_false c4))) rfl rfl rfl (want_y 15 rfl rfl rfl) ?_
          refine TL_q (.bool false) (fun _ _ hρ _ => r_pick_t (hρ _ _ rfl) (hρ _ _ rfl)) rfl rfl rfl (w_n rfl) ?_
          refine TL_q (.bool false) (fun _ _ hρ _ => r_assign (hρ _ _ rfl)) rfl rfl rfl (w_n rfl) ?_
          refine TL_seq ?_
          refine T_ret' ?_
          refine ret_of rfl (.bool false) (fun tmps w hk hm => res1 rfl (res_tmp (hk 4 _ rfl))) (fun w hm => ?_)
          exact ⟨congrArg Ending.returned (bool_as (decide_eq_false (by omega)).symm), hm.ext⟩
      · skip
        by_cases c4 : y < 8
        · skip
          refine T_seq (T_region ?_)
          refine TL_q (.int .i64 x) (fun _ _ hρ _ => r_move (hρ _ _ rfl)) rfl rfl rfl (w_n rfl) ?_
          refine TL_q (.bool true) (fun _ _ hρ _ => r_as (r_geq (hρ _ _ rfl) (hρ _ _ rfl)) (bool_as (decide_eq_true c1))) rfl rfl rfl (w_n rfl) ?_
          refine TL_q (.bool true) (fun _ _ hρ _ => r_move (hρ _ _ rfl)) rfl rfl rfl (w_n rfl) ?_
          refine TL_q (.int .i64 x) (fun _ _ hρ _ => r_move (hρ _ _ rfl)) rfl rfl rfl (want_y 7 rfl rfl rfl) ?_
          refine TL_q (.bool true) (fun _ _ hρ _ => r_as (r_lss (hρ _ _ rfl) (hρ _ _ rfl)) (bool_as (decide_eq_true c2))) rfl rfl rfl (want_y 7 rfl rfl rfl) ?_
          refine TL_q (.bool true) (fun _ _ hρ _ => r_pick_t (hρ _ _ rfl) (hρ _ _ rfl)) rfl rfl rfl (w_n rfl) ?_
          refine TL_q (.bool true) (fun _ _ hρ _ => r_move (hρ _ _ rfl)) rfl rfl rfl (w_n rfl) ?_
          refine TL_q (.int .i64 y) (fun _ _ hρ _ => r_move (hρ _ _ rfl)) rfl rfl rfl (want_y 11 rfl rfl rfl) ?_
          refine TL_q (.bool false) (fun _ _ hρ _ => r_as (r_geq (hρ _ _ rfl) (hρ _ _ rfl)) (bool_as (decide_eq_false c3))) rfl rfl rfl (want_y 11 rfl rfl rfl) ?_
          refine TL_q (.bool false) (fun _ _ hρ _ => r_pick_t (hρ _ _ rfl) (hρ _ _ rfl)) rfl rfl rfl (w_n rfl) ?_
          refine TL_q (.bool false) (fun _ _ hρ _ => r_move (hρ _ _ rfl)) rfl rfl rfl (w_n rfl) ?_
          refine TL_no rfl rfl (want_n 15 rfl rfl rfl) ?_
          refine TL_no rfl rfl (want_n 15 rfl rfl rfl) ?_
          refine TL_q (.bool false) (fun _ _ hρ _ => r_pick_f (hρ _ _ rfl) (hρ _ _ rfl)) rfl rfl rfl (w_n rfl) ?_
          refine TL_q (.bool false) (fun _ _ hρ _ => r_assign (hρ _ _ rfl)) rfl rfl rfl (w_n rfl) ?_
          refine TL_seq ?_
          refine T_ret' ?_
          refine ret_of rfl (.bool false) (fun tmps w hk hm => res1 rfl (res_tmp (hk 4 _ rfl))) (fun w hm => ?_)
          exact ⟨congrArg Ending.returned (bool_as (decide_eq_false (by omega)).symm), hm.ext⟩
        · skip
          refine T_seq (T_region ?_)
          refine TL_q (.int .i64 x) (fun _ _ hρ _ => r_move (hρ _ _ rfl)) rfl rfl rfl (w_n rfl) ?_
          refine TL_q (.bool true) (fun _ _ hρ _ => r_as (r_geq (hρ _ _ rfl) (hρ _ _ rfl)) (bool_as (decide_eq_true c1))) rfl rfl rfl (w_n rfl) ?_
          refine TL_q (.bool true) (fun _ _ hρ _ => r_move (hρ _ _ rfl)) rfl rfl rfl (w_n rfl) ?_
          refine TL_q (.int .i64 x) (fun _ _ hρ _ => r_move (hρ _ _ rfl)) rfl rfl rfl (want_y 7 rfl rfl rfl) ?_
          refine TL_q (.bool true) (fun _ _ hρ _ => r_as (r_lss (hρ _ _ rfl) (hρ _ _ rfl)) (bool_as (decide_eq_true c2))) rfl rfl rfl (want_y 7 rfl rfl rfl) ?_
          refine TL_q (.bool true) (fun _ _ hρ _ => r_pick_t (hρ _ _ rfl) (hρ _ _ rfl)) rfl rfl rfl (w_n rfl) ?_
          refine TL_q (.bool true) (fun _ _ hρ _ => r_move (hρ _ _ rfl)) rfl rfl rfl (w_n rfl) ?_
          refine TL_q (.int .i64 y) (fun _ _ hρ _ => r_move (hρ _ _ rfl)) rfl rfl rfl (want_y 11 rfl rfl rfl) ?_
          refine TL_q (.bool false) (fun _ _ hρ _ => r_as (r_geq (hρ _ _ rfl) (hρ _ _ rfl)) (bool_as (decide_eq_false c3))) rfl rfl rfl (want_y 11 rfl rfl rfl) ?_
          refine TL_q (.bool false) (fun _ _ hρ _ => r_pick_t (hρ _ _ rfl) (hρ _ _ rfl)) rfl rfl rfl (w_n rfl) ?_
          refine TL_q (.bool false) (fun _ _ hρ _ => r_move (hρ _ _ rfl)) rfl rfl rfl (w_n rfl) ?_
          refine TL_no rfl rfl (want_n 15 rfl rfl rfl) ?_
          refine TL_no rfl rfl (want_n 15 rfl rfl rfl) ?_
          refine TL_q (.bool false) (fun _ _ hρ _ => r_pick_f (hρ _ _ rfl) (hρ _ _ rfl)) rfl rfl rfl (w_n rfl) ?_
          refine TL_q (.bool false) (fun _ _ hρ _ => r_assign (hρ _ _ rfl)) rfl rfl rfl (w_n rfl) ?_
          refine TL_seq ?_
          refine T_ret' ?_
          refine ret_of rfl (.bool false) (fun tmps w hk hm => res1 rfl (res_tmp (hk 4 _ rfl))) (fun w hm => ?_)
          exact ⟨congrArg Ending.returned (bool_as (decide_eq_false (by omega)).symm), hm.ext⟩
    · skip
      by_cases c3 : (0 : Int) ≤ y
      · skip
        by_cases c4 : y < 8
        · skip
          refine T_seq (T_region ?_)
          refine TL_q (.int .i64 x) (fun _ _ hρ _ => r_move (hρ _ _ rfl)) rfl rfl rfl (w_n rfl) ?_
          refine TL_q (.bool true) (fun _ _ hρ _ => r_as (r_geq (hρ _ _ rfl) (hρ _ _ rfl)) (bool_as (decide_eq_true c1))) rfl rfl rfl (w_n rfl) ?_
          refine TL_q (.bool true) (fun _ _ hρ _ => r_move (hρ _ _ rfl)) rfl rfl rfl (w_n rfl) ?_
          refine TL_q (.int .i64 x) (fun _ _ hρ _ => r_move (hρ _ _ rfl)) rfl rfl rfl (want_y 7 rfl rfl rfl) ?_
          refine TL_q (.bool false) (fun _ _ hρ _ => r_as (r_lss (hρ _ _ rfl) (hρ _ _ rfl)) (bool_as (decide_eq_false c2))) rfl rfl rfl (want_y 7 rfl rfl rfl) ?_
          refine TL_q (.bool false) (fun _ _ hρ _ => r_pick_t (hρ _ _ rfl) (hρ _ _ rfl)) rfl rfl rfl (w_n rfl) ?_
          refine TL_q (.bool false) (fun _ _ hρ _ => r_move (hρ _ _ rfl)) rfl rfl rfl (w_n rfl) ?_
          refine TL_no rfl rfl (want_n 11 rfl rfl rfl) ?_
          refine TL_no rfl rfl (want_n 11 rfl rfl rfl) ?_
          refine TL_q (.bool false) (fun _ _ hρ _ => r_pick_f (hρ _ _ rfl) (hρ _ _ rfl)) rfl rfl rfl (w_n rfl) ?_
          refine TL_q (.bool false) (fun _ _ hρ _ => r_move (hρ _ _ rfl)) rfl rfl rfl (w_n rfl) ?_
          refine TL_no rfl rfl (want_n 15 rfl rfl rfl) ?_
          refine TL_no rfl rfl (want_n 15 rfl rfl rfl) ?_
          refine TL_q (.bool false) (fun _ _ hρ _ => r_pick_f (hρ _ _ rfl) (hρ _ _ rfl)) rfl rfl rfl (w_n rfl) ?_
          refine TL_q (.bool false) (fun _ _ hρ _ => r_assign (hρ _ _ rfl)) rfl rfl rfl (w_n rfl) ?_
          refine TL_seq ?_
          refine T_ret' ?_
          refine ret_of rfl (.bool false) (fun tmps w hk hm => res1 rfl (res_tmp (hk 4 _ rfl))) (fun w hm => ?_)
          exact ⟨congrArg Ending.returned (bool_as (decide_eq_false (by omega)).symm), hm.ext⟩
        · skip
          refine T_seq (T_region ?_)
          refine TL_q (.int .i64 x) (fun _ _ hρ _ => r_move (hρ _ _ rfl)) rfl rfl rfl (w_n rfl) ?_
          refine TL_q (.bool true) (fun _ _ hρ _ => r_as (r_geq (hρ _ _ rfl) (hρ _ _ rfl)) (bool_as (decide_eq_true c1))) rfl rfl rfl (w_n rfl) ?_
          refine TL_q (.bool true) (fun _ _ hρ _ => r_move (hρ _ _ rfl)) rfl rfl rfl (w_n rfl) ?_
          refine TL_q (.int .i64 x) (fun _ _ hρ _ => r_move (hρ _ _ rfl)) rfl rfl rfl (want_y 7 rfl rfl rfl) ?_
          refine TL_q (.bool false) (fun _ _ hρ _ => r_as (r_lss (hρ _ _ rfl) (hρ _ _ rfl)) (bool_as (decide_eq_false c2))) rfl rfl rfl (want_y 7 rfl rfl rfl) ?_
          refine TL_q (.bool false) (fun _ _ hρ _ => r_pick_t (hρ _ _ rfl) (hρ _ _ rfl)) rfl rfl rfl (w_n rfl) ?_
          refine TL_q (.bool false) (fun _ _ hρ _ => r_move (hρ _ _ rfl)) rfl rfl rfl (w_n rfl) ?_
          refine TL_no rfl rfl (want_n 11 rfl rfl rfl) ?_
          refine TL_no rfl rfl (want_n 11 rfl rfl rfl) ?_
          refine TL_q (.bool false) (fun _ _ hρ _ => r_pick_f (hρ _ _ rfl) (hρ _ _ rfl)) rfl rfl rfl (w_n rfl) ?_
          refine TL_q (.bool false) (fun _ _ hρ _ => r_move (hρ _ _ rfl)) rfl rfl rfl (w_n rfl) ?_
          refine TL_no rfl rfl (want_n 15 rfl rfl rfl) ?_
          refine TL_no rfl rfl (want_n 15 rfl rfl rfl) ?_
          refine TL_q (.bool false) (fun _ _ hρ _ => r_pick_f (hρ _ _ rfl) (hρ _ _ rfl)) rfl rfl rfl (w_n rfl) ?_
          refine TL_q (.bool false) (fun _ _ hρ _ => r_assign (hρ _ _ rfl)) rfl rfl rfl (w_n rfl) ?_
          refine TL_seq ?_
          refine T_ret' ?_
          refine ret_of rfl (.bool false) (fun tmps w hk hm => res1 rfl (res_tmp (hk 4 _ rfl))) (fun w hm => ?_)
          exact ⟨congrArg Ending.returned (bool_as (decide_eq_false (by omega)).symm), hm.ext⟩
      · skip
        by_cases c4 : y < 8
        · skip
          refine T_seq (T_region ?_)
          refine TL_q (.int .i64 x) (fun _ _ hρ _ => r_move (hρ _ _ rfl)) rfl rfl rfl (w_n rfl) ?_
          refine TL_q (.bool true) (fun _ _ hρ _ => r_as (r_geq (hρ _ _ rfl) (hρ _ _ rfl)) (bool_as (decide_eq_true c1))) rfl rfl rfl (w_n rfl) ?_
          refine TL_q (.bool true) (fun _ _ hρ _ => r_move (hρ _ _ rfl)) rfl rfl rfl (w_n rfl) ?_
          refine TL_q (.int .i64 x) (fun _ _ hρ _ => r_move (hρ _ _ rfl)) rfl rfl rfl (want_y 7 rfl rfl rfl) ?_
          refine TL_q (.bool false) (fun _ _ hρ _ => r_as (r_lss (hρ _ _ rfl) (hρ _ _ rfl)) (bool_as (decide_eq_false c2))) rfl rfl rfl (want_y 7 rfl rfl rfl) ?_
          refine TL_q (.bool false) (fun _ _ hρ _ => r_pick_t (hρ _ _ rfl) (hρ _ _ rfl)) rfl rfl rfl (w_n rfl) ?_
          refine TL_q (.bool false) (fun _ _ hρ _ => r_move (hρ _ _ rfl)) rfl rfl rfl (w_n rfl) ?_
          refine TL_no rfl rfl (want_n 11 rfl rfl rfl) ?_
          refine TL_no rfl rfl (want_n 11 rfl rfl rfl) ?_
          refine TL_q (.bool false) (fun _ _ hρ _ => r_pick_f (hρ _ _ rfl) (hρ _ _ rfl)) rfl rfl rfl (w_n rfl) ?_
          refine TL_q (.bool false) (fun _ _ hρ _ => r_move (hρ _ _ rfl)) rfl rfl rfl (w_n rfl) ?_
          refine TL_no rfl rfl (want_n 15 rfl rfl rfl) ?_
          refine TL_no rfl rfl (want_n 15 rfl rfl rfl) ?_
          refine TL_q (.bool false) (fun _ _ hρ _ => r_pick_f (hρ _ _ rfl) (hρ _ _ rfl)) rfl rfl rfl (w_n rfl) ?_
          refine TL_q (.bool false) (fun _ _ hρ _ => r_assign (hρ _ _ rfl)) rfl rfl rfl (w_n rfl) ?_
          refine TL_seq ?_
          refine T_ret' ?_
          refine ret_of rfl (.bool false) (fun tmps w hk hm => res1 rfl (res_tmp (hk 4 _ rfl))) (fun w hm => ?_)
          exact ⟨congrArg Ending.returned (bool_as (decide_eq_false (by omega)).symm), hm.ext⟩
        · skip
          refine T_seq (T_region ?_)
          refine TL_q (.int .i64 x) (fun _ _ hρ _ => r_move (hρ _ _ rfl)) rfl rfl rfl (w_n rfl) ?_
          refine TL_q (.bool true) (fun _ _ hρ _ => r_as (r_geq (hρ _ _ rfl) (hρ _ _ rfl)) (bool_as (decide_eq_true c1))) rfl rfl rfl (w_n rfl) ?_
          refine TL_q (.bool true) (fun _ _ hρ _ => r_move (hρ _ _ rfl)) rfl rfl rfl (w_n rfl) ?_
          refine TL_q (.int .i64 x) (fun _ _ hρ _ => r_move (hρ _ _ rfl)) rfl rfl rfl (want_y 7 rfl rfl rfl) ?_
          refine TL_q (.bool false) (fun _ _ hρ _ => r_as (r_lss (hρ _ _ rfl) (hρ _ _ rfl)) (bool_as (decide_eq_false c2))) rfl rfl rfl (want_y 7 rfl rfl rfl) ?_
          refine TL_q (.bool false) (fun _ _ hρ _ => r_pick_t (hρ _ _ rfl) (hρ _ _ rfl)) rfl rfl rfl (w_n rfl) ?_
          refine TL_q (.bool false) (fun _ _ hρ _ => r_move (hρ _ _ rfl)) rfl rfl rfl (w_n rfl) ?_
          refine TL_no rfl rfl (want_n 11 rfl rfl rfl) ?_
          refine TL_no rfl rfl (want_n 11 rfl rfl rfl) ?_
          refine TL_q (.bool false) (fun _ _ hρ _ => r_pick_f (hρ _ _ rfl) (hρ _ _ rfl)) rfl rfl rfl (w_n rfl) ?_
          refine TL_q (.bool false) (fun _ _ hρ _ => r_move (hρ _ _ rfl)) rfl rfl rfl (w_n rfl) ?_
          refine TL_no rfl rfl (want_n 15 rfl rfl rfl) ?_
          refine TL_no rfl rfl (want_n 15 rfl rfl rfl) ?_
          refine TL_q (.bool false) (fun _ _ hρ _ => r_pick_f (hρ _ _ rfl) (hρ _ _ rfl)) rfl rfl rfl (w_n rfl) ?_
          refine TL_q (.bool false) (fun _ _ hρ _ => r_assign (hρ _ _ rfl)) rfl rfl rfl (w_n rfl) ?_
          refine TL_seq ?_
          refine T_ret' ?_
          refine ret_of rfl (.bool false) (fun tmps w hk hm => res1 rfl (res_tmp (hk 4 _ rfl))) (fun w hm => ?_)
          exact ⟨congrArg Ending.returned (bool_as (decide_eq_false (by omega)).symm), hm.ext⟩
  · skip
    by_cases c2 : x < 8
    · skip
      by_cases c3 : (0 : Int) ≤ y
      · skip
        by_cases c4 : y < 8
        · skip
          refine T_seq (T_region ?_)
          refine TL_q (.int .i64 x) (fun _ _ hρ _ => r_move (hρ _ _ rfl)) rfl rfl rfl (w_n rfl) ?_
          refine TL_q (.bool false) (fun _ _ hρ _ => r_as (r_geq (hρ _ _ rfl) (hρ _ _ rfl)) (bool_as (decide_eq_false c1))) rfl rfl rfl (w_n rfl) ?_
          refine TL_q (.bool false) (fun _ _ hρ _ => r_move (hρ _ _ rfl)) rfl rfl rfl (w_n rfl) ?_
          refine TL_no rfl rfl (want_n 7 rfl rfl rfl) ?_
          refine TL_no rfl rfl (want_n 7 rfl rfl rfl) ?_
          refine TL_q (.bool false) (fun _ _ hρ _ => r_pick_f (hρ _ _ rfl) (hρ _ _ rfl)) rfl rfl rfl (w_n rfl) ?_
          refine TL_q (.bool false) (fun _ _ hρ _ => r_move (hρ _ _ rfl)) rfl rfl rfl (w_n rfl) ?_
          refine TL_no rfl rfl (want_n 11 rfl rfl rfl) ?_
          refine TL_no rfl rfl (want_n 11 rfl rfl rfl) ?_
          refine TL_q (.bool false) (fun _ _ hρ _ => r_pick_f (hρ _ _ rfl) (hρ _ _ rfl)) rfl rfl rfl (w_n rfl) ?_
          refine TL_q (.bool false) (fun _ _ hρ _ => r_move (hρ _ _ rfl)) rfl rfl rfl (w_n rfl) ?_
          refine TL_no rfl rfl (want_n 15 rfl rfl rfl) ?_
          refine TL_no rfl rfl (want_n 15 rfl rfl rfl) ?_
          refine TL_q (.bool false) (fun _ _ hρ _ => r_pick_f (hρ _ _ rfl) (hρ _ _ rfl)) rfl rfl rfl (w_n rfl) ?_
          refine TL_q (.bool false) (fun _ _ hρ _ => r_assign (hρ _ _ rfl)) rfl rfl rfl (w_n rfl) ?_
          refine TL_seq ?_
          refine T_ret' ?_
          refine ret_of rfl (.bool false) (fun tmps w hk hm => res1 rfl (res_tmp (hk 4 _ rfl))) (fun w hm => ?_)
          exact ⟨congrArg Ending.returned (bool_as (decide_eq_false (by omega)).symm), hm.ext⟩
        · skip
          refine T_seq (T_region ?_)
          refine TL_q (.int .i64 x) (fun _ _ hρ _ => r_move (hρ _ _ rfl)) rfl rfl rfl (w_n rfl) ?_
          refine TL_q (.bool false) (fun _ _ hρ _ => r_as (r_geq (hρ _ _ rfl) (hρ _ _ rfl)) (bool_as (decide_eq_false c1))) rfl rfl rfl (w_n rfl) ?_
          refine TL_q (.bool false) (fun _ _ hρ _ => r_move (hρ _ _ rfl)) rfl rfl rfl (w_n rfl) ?_
          refine TL_no rfl rfl (want_n 7 rfl rfl rfl) ?_
          refine TL_no rfl rfl (want_n 7 rfl rfl rfl) ?_
          refine TL_q (.bool false) (fun _ _ hρ _ => r_pick_f (hρ _ _ rfl) (hρ _ _ rfl)) rfl rfl rfl (w_n rfl) ?_
          refine TL_q (.bool false) (fun _ _ hρ _ => r_move (hρ _ _ rfl)) rfl rfl rfl (w_n rfl) ?_
          refine TL_no rfl rfl (want_n 11 rfl rfl rfl) ?_
          refine TL_no rfl rfl (want_n 11 rfl rfl rfl) ?_
          refine TL_q (.bool false) (fun _ _ hρ _ => r_pick_f (hρ _ _ rfl) (hρ _ _ rfl)) rfl rfl rfl (w_n rfl) ?_
          refine TL_q (.bool false) (fun _ _ hρ _ => r_move (hρ _ _ rfl)) rfl rfl rfl (w_n rfl) ?_
          refine TL_no rfl rfl (want_n 15 rfl rfl rfl) ?_
          refine TL_no rfl rfl (want_n 15 rfl rfl rfl) ?_
          refine TL_q (.bool false) (fun _ _ hρ _ => r_pick_f (hρ _ _ rfl) (hρ _ _ rfl)) rfl rfl rfl (w_n rfl) ?_
          refine TL_q (.bool false) (fun _ _ hρ _ => r_assign (hρ _ _ rfl)) rfl rfl rfl (w_n rfl) ?_
          refine TL_seq ?_
          refine T_ret' ?_
          refine ret_of rfl (.bool false) (fun tmps w hk hm => res1 rfl (res_tmp (hk 4 _ rfl))) (fun w hm => ?_)
          exact ⟨congrArg Ending.returned (bool_as (decide_eq_false (by omega)).symm), hm.ext⟩
      · skip
        by_cases c4 : y < 8
        · skip
          refine T_seq (T_region ?_)
          refine TL_q (.int .i64 x) (fun _ _ hρ _ => r_move (hρ _ _ rfl)) rfl rfl rfl (w_n rfl) ?_
          refine TL_q (.bool false) (fun _ _ hρ _ => r_as (r_geq (hρ _ _ rfl) (hρ _ _ rfl)) (bool_as (decide_eq_false c1))) rfl rfl rfl (w_n rfl) ?_
          refine TL_q (.bool false) (fun _ _ hρ _ => r_move (hρ _ _ rfl)) rfl rfl rfl (w_n rfl) ?_
          refine TL_no rfl rfl (want_n 7 rfl rfl rfl) ?_
          refine TL_no rfl rfl (want_n 7 rfl rfl rfl) ?_
          refine TL_q (.bool false) (fun _ _ hρ _ => r_pick_f (hρ _ _ rfl) (hρ _ _ rfl)) rfl rfl rfl (w_n rfl) ?_
          refine TL_q (.bool false) (fun _ _ hρ _ => r_move (hρ _ _ rfl)) rfl rfl rfl (w_n rfl) ?_
          refine TL_no rfl rfl (want_n 11 rfl rfl rfl) ?_
          refine TL_no rfl rfl (want_n 11 rfl rfl rfl) ?_
          refine TL_q (.bool false) (fun _ _ hρ _ => r_pick_f (hρ _ _ rfl) (hρ _ _ rfl)) rfl rfl rfl (w_n rfl) ?_
          refine TL_q (.bool false) (fun _ _ hρ _ => r_move (hρ _ _ rfl)) rfl rfl rfl (w_n rfl) ?_
          refine TL_no rfl rfl (want_n 15 rfl rfl rfl) ?_
          refine TL_no rfl rfl (want_n 15 rfl rfl rfl) ?_
          refine TL_q (.bool false) (fun _ _ hρ _ => r_pick_f (hρ _ _ rfl) (hρ _ _ rfl)) rfl rfl rfl (w_n rfl) ?_
          refine TL_q (.bool false) (fun _ _ hρ _ => r_assign (hρ _ _ rfl)) rfl rfl rfl (w_n rfl) ?_
          refine TL_seq ?_
          refine T_ret' ?_
          refine ret_of rfl (.bool false) (fun tmps w hk hm => res1 rfl (res_tmp (hk 4 _ rfl))) (fun w hm => ?_)
          exact ⟨congrArg Ending.returned (bool_as (decide_eq_false (by omega)).symm), hm.ext⟩
        · skip
          refine T_seq (T_region ?_)
          refine TL_q (.int .i64 x) (fun _ _ hρ _ => r_move (hρ _ _ rfl)) rfl rfl rfl (w_n rfl) ?_
          refine TL_q (.bool false) (fun _ _ hρ _ => r_as (r_geq (hρ _ _ rfl) (hρ _ _ rfl)) (bool_as (decide_eq_false c1))) rfl rfl rfl (w_n rfl) ?_
          refine TL_q (.bool false) (fun _ _ hρ _ => r_move (hρ _ _ rfl)) rfl rfl rfl (w_n rfl) ?_
          refine TL_no rfl rfl (want_n 7 rfl rfl rfl) ?_
          refine TL_no rfl rfl (want_n 7 rfl rfl rfl) ?_
          refine TL_q (.bool false) (fun _ _ hρ _ => r_pick_f (hρ _ _ rfl) (hρ _ _ rfl)) rfl rfl rfl (w_n rfl) ?_
          refine TL_q (.bool false) (fun _ _ hρ _ => r_move (hρ _ _ rfl)) rfl rfl rfl (w_n rfl) ?_
          refine TL_no rfl rfl (want_n 11 rfl rfl rfl) ?_
          refine TL_no rfl rfl (want_n 11 rfl rfl rfl) ?_
          refine TL_q (.bool false) (fun _ _ hρ _ => r_pick_f (hρ _ _ rfl) (hρ _ _ rfl)) rfl rfl rfl (w_n rfl) ?_
          refine TL_q (.bool false) (fun _ _ hρ _ => r_move (hρ _ _ rfl)) rfl rfl rfl (w_n rfl) ?_
          refine TL_no rfl rfl (want_n 15 rfl rfl rfl) ?_
          refine TL_no rfl rfl (want_n 15 rfl rfl rfl) ?_
          refine TL_q (.bool false) (fun _ _ hρ _ => r_pick_f (hρ _ _ rfl) (hρ _ _ rfl)) rfl rfl rfl (w_n rfl) ?_
          refine TL_q (.bool false) (fun _ _ hρ _ => r_assign (hρ _ _ rfl)) rfl rfl rfl (w_n rfl) ?_
          refine TL_seq ?_
          refine T_ret' ?_
          refine ret_of rfl (.bool false) (fun tmps w hk hm => res1 rfl (res_tmp (hk 4 _ rfl))) (fun w hm => ?_)
          exact ⟨congrArg Ending.returned (bool_as (decide_eq_false (by omega)).symm), hm.ext⟩
    · skip
      by_cases c3 : (0 : Int) ≤ y
      · skip
        by_cases c4 : y < 8
        · skip
          refine T_seq (T_region ?_)
          refine TL_q (.int .i64 x) (fun _ _ hρ _ => r_move (hρ _ _ rfl)) rfl rfl rfl (w_n rfl) ?_
          refine TL_q (.bool false) (fun _ _ hρ _ => r_as (r_geq (hρ _ _ rfl) (hρ _ _ rfl)) (bool_as (decide_eq_false c1))) rfl rfl rfl (w_n rfl) ?_
          refine TL_q (.bool false) (fun _ _ hρ _ => r_move (hρ _ _ rfl)) rfl rfl rfl (w_n rfl) ?_
          refine TL_no rfl rfl (want_n 7 rfl rfl rfl) ?_
          refine TL_no rfl rfl (want_n 7 rfl rfl rfl) ?_
          refine TL_q (.bool false) (fun _ _ hρ _ => r_pick_f (hρ _ _ rfl) (hρ _ _ rfl)) rfl rfl rfl (w_n rfl) ?_
          refine TL_q (.bool false) (fun _ _ hρ _ => r_move (hρ _ _ rfl)) rfl rfl rfl (w_n rfl) ?_
          refine TL_no rfl rfl (want_n 11 rfl rfl rfl) ?_
          refine TL_no rfl rfl (want_n 11 rfl rfl rfl) ?_
          refine TL_q (.bool false) (fun _ _ hρ _ => r_pick_f (hρ _ _ rfl) (hρ _ _ rfl)) rfl rfl rfl (w_n rfl) ?_
          refine TL_q (.bool false) (fun _ _ hρ _ => r_move (hρ _ _ rfl)) rfl rfl rfl (w_n rfl) ?_
          refine TL_no rfl rfl (want_n 15 rfl rfl rfl) ?_
          refine TL_no rfl rfl (want_n 15 rfl rfl rfl) ?_
          refine TL_q (.bool false) (fun _ _ hρ _ => r_pick_f (hρ _ _ rfl) (hρ _ _ rfl)) rfl rfl rfl (w_n rfl) ?_
          refine TL_q (.bool false) (fun _ _ hρ _ => r_assign (hρ _ _ rfl)) rfl rfl rfl (w_n rfl) ?_
          refine TL_seq ?_
          refine T_ret' ?_
          refine ret_of rfl (.bool false) (fun tmps w hk hm => res1 rfl (res_tmp (hk 4 _ rfl))) (fun w hm => ?_)
          exact ⟨congrArg Ending.returned (bool_as (decide_eq_false (by omega)).symm), hm.ext⟩
        · skip
          refine T_seq (T_region ?_)
          refine TL_q (.int .i64 x) (fun _ _ hρ _ => r_move (hρ _ _ rfl)) rfl rfl rfl (w_n rfl) ?_
          refine TL_q (.bool false) (fun _ _ hρ _ => r_as (r_geq (hρ _ _ rfl) (hρ _ _ rfl)) (bool_as (decide_eq_false c1))) rfl rfl rfl (w_n rfl) ?_
          refine TL_q (.bool false) (fun _ _ hρ _ => r_move (hρ _ _ rfl)) rfl rfl rfl (w_n rfl) ?_
          refine TL_no rfl rfl (want_n 7 rfl rfl rfl) ?_
          refine TL_no rfl rfl (want_n 7 rfl rfl rfl) ?_
          refine TL_q (.bool false) (fun _ _ hρ _ => r_pick_f (hρ _ _ rfl) (hρ _ _ rfl)) rfl rfl rfl (w_n rfl) ?_
          refine TL_q (.bool false) (fun _ _ hρ _ => r_move (hρ _ _ rfl)) rfl rfl rfl (w_n rfl) ?_
          refine TL_no rfl rfl (want_n 11 rfl rfl rfl) ?_
          refine TL_no rfl rfl (want_n 11 rfl rfl rfl) ?_
          refine TL_q (.bool false) (fun _ _ hρ _ => r_pick_f (hρ _ _ rfl) (hρ _ _ rfl)) rfl rfl rfl (w_n rfl) ?_
          refine TL_q (.bool false) (fun _ _ hρ _ => r_move (hρ _ _ rfl)) rfl rfl rfl (w_n rfl) ?_
          refine TL_no rfl rfl (want_n 15 rfl rfl rfl) ?_
          refine TL_no rfl rfl (want_n 15 rfl rfl rfl) ?_
          refine TL_q (.bool false) (fun _ _ hρ _ => r_pick_f (hρ _ _ rfl) (hρ _ _ rfl)) rfl rfl rfl (w_n rfl) ?_
          refine TL_q (.bool false) (fun _ _ hρ _ => r_assign (hρ _ _ rfl)) rfl rfl rfl (w_n rfl) ?_
          refine TL_seq ?_
          refine T_ret' ?_
          refine ret_of rfl (.bool false) (fun tmps w hk hm => res1 rfl (res_tmp (hk 4 _ rfl))) (fun w hm => ?_)
          exact ⟨congrArg Ending.returned (bool_as (decide_eq_false (by omega)).symm), hm.ext⟩
      · skip
        by_cases c4 : y < 8
        · skip
          refine T_seq (T_region ?_)
          refine TL_q (.int .i64 x) (fun _ _ hρ _ => r_move (hρ _ _ rfl)) rfl rfl rfl (w_n rfl) ?_
          refine TL_q (.bool false) (fun _ _ hρ _ => r_as (r_geq (hρ _ _ rfl) (hρ _ _ rfl)) (bool_as (decide_eq_false c1))) rfl rfl rfl (w_n rfl) ?_
          refine TL_q (.bool false) (fun _ _ hρ _ => r_move (hρ _ _ rfl)) rfl rfl rfl (w_n rfl) ?_
          refine TL_no rfl rfl (want_n 7 rfl rfl rfl) ?_
          refine TL_no rfl rfl (want_n 7 rfl rfl rfl) ?_
          refine TL_q (.bool false) (fun _ _ hρ _ => r_pick_f (hρ _ _ rfl) (hρ _ _ rfl)) rfl rfl rfl (w_n rfl) ?_
          refine TL_q (.bool false) (fun _ _ hρ _ => r_move (hρ _ _ rfl)) rfl rfl rfl (w_n rfl) ?_
          refine TL_no rfl rfl (want_n 11 rfl rfl rfl) ?_
          refine TL_no rfl rfl (want_n 11 rfl rfl rfl) ?_
          refine TL_q (.bool false) (fun _ _ hρ _ => r_pick_f (hρ _ _ rfl) (hρ _ _ rfl)) rfl rfl rfl (w_n rfl) ?_
          refine TL_q (.bool false) (fun _ _ hρ _ => r_move (hρ _ _ rfl)) rfl rfl rfl (w_n rfl) ?_
          refine TL_no rfl rfl (want_n 15 rfl rfl rfl) ?_
          refine TL_no rfl rfl (want_n 15 rfl rfl rfl) ?_
          refine TL_q (.bool false) (fun _ _ hρ _ => r_pick_f (hρ _ _ rfl) (hρ _ _ rfl)) rfl rfl rfl (w_n rfl) ?_
          refine TL_q (.bool false) (fun _ _ hρ _ => r_assign (hρ _ _ rfl)) rfl rfl rfl (w_n rfl) ?_
          refine TL_seq ?_
          refine T_ret' ?_
          refine ret_of rfl (.bool false) (fun tmps w hk hm => res1 rfl (res_tmp (hk 4 _ rfl))) (fun w hm => ?_)
          exact ⟨congrArg Ending.returned (bool_as (decide_eq_false (by omega)).symm), hm.ext⟩
        · skip
          refine T_seq (T_region ?_)
          refine TL_q (.int .i64 x) (fun _ _ hρ _ => r_move (hρ _ _ rfl)) rfl rfl rfl (w_n rfl) ?_
          refine TL_q (.bool false) (fun _ _ hρ _ => r_as (r_geq (hρ _ _ rfl) (hρ _ _ rfl)) (bool_as (decide_eq_false c1))) rfl rfl rfl (w_n rfl) ?_
          refine TL_q (.bool false) (fun _ _ hρ _ => r_move (hρ _ _ rfl)) rfl rfl rfl (w_n rfl) ?_
          refine TL_no rfl rfl (want_n 7 rfl rfl rfl) ?_
          refine TL_no rfl rfl (want_n 7 rfl rfl rfl) ?_
          refine TL_q (.bool false) (fun _ _ hρ _ => r_pick_f (hρ _ _ rfl) (hρ _ _ rfl)) rfl rfl rfl (w_n rfl) ?_
          refine TL_q (.bool false) (fun _ _ hρ _ => r_move (hρ _ _ rfl)) rfl rfl rfl (w_n rfl) ?_
          refine TL_no rfl rfl (want_n 11 rfl rfl rfl) ?_
          refine TL_no rfl rfl (want_n 11 rfl rfl rfl) ?_
          refine TL_q (.bool false) (fun _ _ hρ _ => r_pick_f (hρ _ _ rfl) (hρ _ _ rfl)) rfl rfl rfl (w_n rfl) ?_
          refine TL_q (.bool false) (fun _ _ hρ _ => r_move (hρ _ _ rfl)) rfl rfl rfl (w_n rfl) ?_
          refine TL_no rfl rfl (want_n 15 rfl rfl rfl) ?_
          refine TL_no rfl rfl (want_n 15 rfl rfl rfl) ?_
          refine TL_q (.bool false) (fun _ _ hρ _ => r_pick_f (hρ _ _ rfl) (hρ _ _ rfl)) rfl rfl rfl (w_n rfl) ?_
          refine TL_q (.bool false) (fun _ _ hρ _ => r_assign (hρ _ _ rfl)) rfl rfl rfl (w_n rfl) ?_
          refine TL_seq ?_
          refine T_ret' ?_
          refine ret_of rfl (.bool false) (fun tmps w hk hm => res1 rfl (res_tmp (hk 4 _ rfl))) (fun w hm => ?_)
          exact ⟨congrArg Ending.returned (bool_as (decide_eq_false (by omega)).symm), hm.ext⟩

theorem is_c (x y : Int) (w : World) : Calls Try.prog 39 #[.int .i64 x, .int .i64 y] w fun e w' => e = .returned (.bool (isP x y)) ∧ Below w.heap.size w w' := by
  refine calls_of_T (l := [.int .i64 x, .int .i64 y]) 19 Try.func39 rfl rfl rfl ?_
  show T _ _ _ [(0, .int .i64 x), (1, .int .i64 y)] []
  refine T_seq (T_region ?_)
  refine TL_q (.bool false) (fun _ _ hρ _ => r_assign (hρ _ _ rfl)) rfl rfl rfl (w_n rfl) ?_
  refine TL_seq ?_
  by_cases c1 : (0 : Int) ≤ x
  · skip
    by_cases c2 : x < 8
    · skip
      by_cases c3 : (0 : Int) ≤ y
      · skip
        by_cases c4 : y < 8
        · skip
          refine T_seq (T_region ?_)
          refine TL_q (.int .i64 x) (fun _ _ hρ _ => r_move (hρ _ _ rfl)) rfl rfl rfl (w_n rfl) ?_
          refine TL_q (.bool true) (fun _ _ hρ _ => r_as (r_geq (hρ _ _ rfl) (hρ _ _ rfl)) (bool_as (decide_eq_true c1))) rfl rfl rfl (w_n rfl) ?_
          refine TL_q (.bool true) (fun _ _ hρ _ => r_move (hρ _ _ rfl)) rfl rfl rfl (w_n rfl) ?_
          refine TL_q (.int .i64 x) (fun _ _ hρ _ => r_move (hρ _ _ rfl)) rfl rfl rfl (want_y 7 rfl rfl rfl) ?_
          refine TL_q (.bool true) (fun _ _ hρ _ => r_as (r_lss (hρ _ _ rfl) (hρ _ _ rfl)) (bool_as (decide_eq_true c2))) rfl rfl rfl (want_y 7 rfl rfl rfl) ?_
          refine TL_q (.bool true) (fun _ _ hρ _ => r_pick_t (hρ _ _ rfl) (hρ _ _ rfl)) rfl rfl rfl (w_n rfl) ?_
          refine TL_q (.bool true) (fun _ _ hρ _ => r_move (hρ _ _ rfl)) rfl rfl rfl (w_n rfl) ?_
          refine TL_q (.int .i64 y) (fun _ _ hρ _ => r_move (hρ _ _ rfl)) rfl rfl rfl (want_y 11 rfl rfl rfl) ?_
          refine TL_q (.bool true) (fun _ _ hρ _ => r_as (r_geq (hρ _ _ rfl) (hρ _ _ rfl)) (bool_as (decide_eq_true c3))) rfl rfl rfl (want_y 11 rfl rfl rfl) ?_
          refine TL_q (.bool true) (fun _ _ hρ _ => r_pick_t (hρ _ _ rfl) (hρ _ _ rfl)) rfl rfl rfl (w_n rfl) ?_
          refine TL_q (.bool true) (fun _ _ hρ _ => r_move (hρ _ _ rfl)) rfl rfl rfl (w_n rfl) ?_
          refine TL_q (.int .i64 y) (fun _ _ hρ _ => r_move (hρ _ _ rfl)) rfl rfl rfl (want_y 15 rfl rfl rfl) ?_
          refine TL_q (.bool true) (fun _ _ hρ _ => r_as (r_lss (hρ _ _ rfl) (hρ _ _ rfl)) (bool_as (decide_eq_true c4))) rfl rfl rfl (want_y 15 rfl rfl rfl) ?_
          refine TL_q (.bool true) (fun _ _ hρ _ => r_pick_t (hρ _ _ rfl) (hρ _ _ rfl)) rfl rfl rfl (w_n rfl) ?_
          refine TL_q (.bool true) (fun _ _ hρ _ => r_assign (hρ _ _ rfl)) rfl rfl rfl (w_n rfl) ?_
          refine TL_seq ?_
          refine T_ret' ?_
          refine ret_of rfl (.bool true) (fun tmps w hk hm => res1 rfl (res_tmp (hk 4 _ rfl))) (fun w hm => ?_)
          exact ⟨congrArg Ending.returned (bool_as (decide_eq_true (by omega)).symm), hm.ext⟩
        · skip
          refine T_seq (T_region ?_)
          refine TL_q (.int .i64 x) (fun _ _ hρ _ => r_move (hρ _ _ rfl)) rfl rfl rfl (w_n rfl) ?_
          refine TL_q (.bool true) (fun _ _ hρ _ => r_as (r_geq (hρ _ _ rfl) (hρ _ _ rfl)) (bool_as (decide_eq_true c1))) rfl rfl rfl (w_n rfl) ?_
          refine TL_q (.bool true) (fun _ _ hρ _ => r_move (hρ _ _ rfl)) rfl rfl rfl (w_n rfl) ?_
          refine TL_q (.int .i64 x) (fun _ _ hρ _ => r_move (hρ _ _ rfl)) rfl rfl rfl (want_y 7 rfl rfl rfl) ?_
          refine TL_q (.bool true) (fun _ _ hρ _ => r_as (r_lss (hρ _ _ rfl) (hρ _ _ rfl)) (bool_as (decide_eq_true c2))) rfl rfl rfl (want_y 7 rfl rfl rfl) ?_
          refine TL_q (.bool true) (fun _ _ hρ _ => r_pick_t (hρ _ _ rfl) (hρ _ _ rfl)) rfl rfl rfl (w_n rfl) ?_
          refine TL_q (.bool true) (fun _ _ hρ _ => r_move (hρ _ _ rfl)) rfl rfl rfl (w_n rfl) ?_
          refine TL_q (.int .i64 y) (fun _ _ hρ _ => r_move (hρ _ _ rfl)) rfl rfl rfl (want_y 11 rfl rfl rfl) ?_
          refine TL_q (.bool true) (fun _ _ hρ _ => r_as (r_geq (hρ _ _ rfl) (hρ _ _ rfl)) (bool_as (decide_eq_true c3))) rfl rfl rfl (want_y 11 rfl rfl rfl) ?_
          refine TL_q (.bool true) (fun _ _ hρ _ => r_pick_t (hρ _ _ rfl) (hρ _ _ rfl)) rfl rfl rfl (w_n rfl) ?_
          refine TL_q (.bool true) (fun _ _ hρ _ => r_move (hρ _ _ rfl)) rfl rfl rfl (w_n rfl) ?_
          refine TL_q (.int .i64 y) (fun _ _ hρ _ => r_move (hρ _ _ rfl)) rfl rfl rfl (want_y 15 rfl rfl rfl) ?_
          refine TL_q (.bool false) (fun _ _ hρ _ => r_as (r_lss (hρ _ _ rfl) (hρ _ _ rfl)) (bool_as (decide_eq_false c4))) rfl rfl rfl (want_y 15 rfl rfl rfl) ?_
          refine TL_q (.bool false) (fun _ _ hρ _ => r_pick_t (hρ _ _ rfl) (hρ _ _ rfl)) rfl rfl rfl (w_n rfl) ?_
          refine TL_q (.bool false) (fun _ _ hρ _ => r_assign (hρ _ _ rfl)) rfl rfl rfl (w_n rfl) ?_
          refine TL_seq ?_
          refine T_ret' ?_
          refine ret_of rfl (.bool false) (fun tmps w hk hm => res1 rfl (res_tmp (hk 4 _ rfl))) (fun w hm => ?_)
          exact ⟨congrArg Ending.returned (bool_as (decide_eq_false (by omega)).symm), hm.ext⟩
      · skip
        by_cases c4 : y < 8
        · skip
          refine T_seq (T_region ?_)
          refine TL_q (.int .i64 x) (fun _ _ hρ _ => r_move (hρ _ _ rfl)) rfl rfl rfl (w_n rfl) ?_
          refine TL_q (.bool true) (fun _ _ hρ _ => r_as (r_geq (hρ _ _ rfl) (hρ _ _ rfl)) (bool_as (decide_eq_true c1))) rfl rfl rfl (w_n rfl) ?_
          refine TL_q (.bool true) (fun _ _ hρ _ => r_move (hρ _ _ rfl)) rfl rfl rfl (w_n rfl) ?_
          refine TL_q (.int .i64 x) (fun _ _ hρ _ => r_move (hρ _ _ rfl)) rfl rfl rfl (want_y 7 rfl rfl rfl) ?_
          refine TL_q (.bool true) (fun _ _ hρ _ => r_as (r_lss (hρ _ _ rfl) (hρ _ _ rfl)) (bool_as (decide_eq_true c2))) rfl rfl rfl (want_y 7 rfl rfl rfl) ?_
          refine TL_q (.bool true) (fun _ _ hρ _ => r_pick_t (hρ _ _ rfl) (hρ _ _ rfl)) rfl rfl rfl (w_n rfl) ?_
          refine TL_q (.bool true) (fun _ _ hρ _ => r_move (hρ _ _ rfl)) rfl rfl rfl (w_n rfl) ?_
          refine TL_q (.int .i64 y) (fun _ _ hρ _ => r_move (hρ _ _ rfl)) rfl rfl rfl (want_y 11 rfl rfl rfl) ?_
          refine TL_q (.bool false) (fun _ _ hρ _ => r_as (r_geq (hρ _ _ rfl) (hρ _ _ rfl)) (bool_as (decide_eq_false c3))) rfl rfl rfl (want_y 11 rfl rfl rfl) ?_
          refine TL_q (.bool false) (fun _ _ hρ _ => r_pick_t (hρ _ _ rfl) (hρ _ _ rfl)) rfl rfl rfl (w_n rfl) ?_
          refine TL_q (.bool false) (fun _ _ hρ _ => r_move (hρ _ _ rfl)) rfl rfl rfl (w_n rfl) ?_
          refine TL_no rfl rfl (want_n 15 rfl rfl rfl) ?_
          refine TL_no rfl rfl (want_n 15 rfl rfl rfl) ?_
          refine TL_q (.bool false) (fun _ _ hρ _ => r_pick_f (hρ _ _ rfl) (hρ _ _ rfl)) rfl rfl rfl (w_n rfl) ?_
          refine TL_q (.bool false) (fun _ _ hρ _ => r_assign (hρ _ _ rfl)) rfl rfl rfl (w_n rfl) ?_
          refine TL_seq ?_
          refine T_ret' ?_
          refine ret_of rfl (.bool false) (fun tmps w hk hm => res1 rfl (res_tmp (hk 4 _ rfl))) (fun w hm => ?_)
          exact ⟨congrArg Ending.returned (bool_as (decide_eq_false (by omega)).symm), hm.ext⟩
        · skip
          refine T_seq (T_region ?_)
          refine TL_q (.int .i64 x) (fun _ _ hρ _ => r_move (hρ _ _ rfl)) rfl rfl rfl (w_n rfl) ?_
          refine TL_q (.bool true) (fun _ _ hρ _ => r_as (r_geq (hρ _ _ rfl) (hρ _ _ rfl)) (bool_as (decide_eq_true c1))) rfl rfl rfl (w_n rfl) ?_
          refine TL_q (.bool true) (fun _ _ hρ _ => r_move (hρ _ _ rfl)) rfl rfl rfl (w_n rfl) ?_
          refine TL_q (.int .i64 x) (fun _ _ hρ _ => r_move (hρ _ _ rfl)) rfl rfl rfl (want_y 7 rfl rfl rfl) ?_
          refine TL_q (.bool true) (fun _ _ hρ _ => r_as (r_lss (hρ _ _ rfl) (hρ _ _ rfl)) (bool_as (decide_eq_true c2))) rfl rfl rfl (want_y 7 rfl rfl rfl) ?_
          refine TL_q (.bool true) (fun _ _ hρ _ => r_pick_t (hρ _ _ rfl) (hρ _ _ rfl)) rfl rfl rfl (w_n rfl) ?_
          refine TL_q (.bool true) (fun _ _ hρ _ => r_move (hρ _ _ rfl)) rfl rfl rfl (w_n rfl) ?_
          refine TL_q (.int .i64 y) (fun _ _ hρ _ => r_move (hρ _ _ rfl)) rfl rfl rfl (want_y 11 rfl rfl rfl) ?_
          refine TL_q (.bool false) (fun _ _ hρ _ => r_as (r_geq (hρ _ _ rfl) (hρ _ _ rfl)) (bool_as (decide_eq_false c3))) rfl rfl rfl (want_y 11 rfl rfl rfl) ?_
          refine TL_q (.bool false) (fun _ _ hρ _ => r_pick_t (hρ _ _ rfl) (hρ _ _ rfl)) rfl rfl rfl (w_n rfl) ?_
          refine TL_q (.bool false) (fun _ _ hρ _ => r_move (hρ _ _ rfl)) rfl rfl rfl (w_n rfl) ?_
          refine TL_no rfl rfl (want_n 15 rfl rfl rfl) ?_
          refine TL_no rfl rfl (want_n 15 rfl rfl rfl) ?_
          refine TL_q (.bool false) (fun _ _ hρ _ => r_pick_f (hρ _ _ rfl) (hρ _ _ rfl)) rfl rfl rfl (w_n rfl) ?_
          refine TL_q (.bool false) (fun _ _ hρ _ => r_assign (hρ _ _ rfl)) rfl rfl rfl (w_n rfl) ?_
          refine TL_seq ?_
          refine T_ret' ?_
          refine ret_of rfl (.bool false) (fun tmps w hk hm => res1 rfl (res_tmp (hk 4 _ rfl))) (fun w hm => ?_)
          exact ⟨congrArg Ending.returned (bool_as (decide_eq_false (by omega)).symm), hm.ext⟩
    · skip
      by_cases c3 : (0 : Int) ≤ y
      · skip
        by_cases c4 : y < 8
        · skip
          refine T_seq (T_region ?_)
          refine TL_q (.int .i64 x) (fun _ _ hρ _ => r_move (hρ _ _ rfl)) rfl rfl rfl (w_n rfl) ?_
          refine TL_q (.bool true) (fun _ _ hρ _ => r_as (r_geq (hρ _ _ rfl) (hρ _ _ rfl)) (bool_as (decide_eq_true c1))) rfl rfl rfl (w_n rfl) ?_
          refine TL_q (.bool true) (fun _ _ hρ _ => r_move (hρ _ _ rfl)) rfl rfl rfl (w_n rfl) ?_
          refine TL_q (.int .i64 x) (fun _ _ hρ _ => r_move (hρ _ _ rfl)) rfl rfl rfl (want_y 7 rfl rfl rfl) ?_
          refine TL_q (.bool false) (fun _ _ hρ _ => r_as (r_lss (hρ _ _ rfl) (hρ _ _ rfl)) (bool_as (decide_eq_false c2))) rfl rfl rfl (want_y 7 rfl rfl rfl) ?_
          refine TL_q (.bool false) (fun _ _ hρ _ => r_pick_t (hρ _ _ rfl) (hρ _ _ rfl)) rfl rfl rfl (w_n rfl) ?_
          refine TL_q (.bool false) (fun _ _ hρ _ => r_move (hρ _ _ rfl)) rfl rfl rfl (w_n rfl) ?_
          refine TL_no rfl rfl (want_n 11 rfl rfl rfl) ?_
          refine TL_no rfl rfl (want_n 11 rfl rfl rfl) ?_
          refine TL_q (.bool false) (fun _ _ hρ _ => r_pick_f (hρ _ _ rfl) (hρ _ _ rfl)) rfl rfl rfl (w_n rfl) ?_
          refine TL_q (.bool false) (fun _ _ hρ _ => r_move (hρ _ _ rfl)) rfl rfl rfl (w_n rfl) ?_
          refine TL_no rfl rfl (want_n 15 rfl rfl rfl) ?_
          refine TL_no rfl rfl (want_n 15 rfl rfl rfl) ?_
          refine TL_q (.bool false) (fun _ _ hρ _ => r_pick_f (hρ _ _ rfl) (hρ _ _ rfl)) rfl rfl rfl (w_n rfl) ?_
          refine TL_q (.bool false) (fun _ _ hρ _ => r_assign (hρ _ _ rfl)) rfl rfl rfl (w_n rfl) ?_
          refine TL_seq ?_
          refine T_ret' ?_
          refine ret_of rfl (.bool false) (fun tmps w hk hm => res1 rfl (res_tmp (hk 4 _ rfl))) (fun w hm => ?_)
          exact ⟨congrArg Ending.returned (bool_as (decide_eq_false (by omega)).symm), hm.ext⟩
        · skip
          refine T_seq (T_region ?_)
          refine TL_q (.int .i64 x) (fun _ _ hρ _ => r_move (hρ _ _ rfl)) rfl rfl rfl (w_n rfl) ?_
          refine TL_q (.bool true) (fun _ _ hρ _ => r_as (r_geq (hρ _ _ rfl) (hρ _ _ rfl)) (bool_as (decide_eq_true c1))) rfl rfl rfl (w_n rfl) ?_
          refine TL_q (.bool true) (fun _ _ hρ _ => r_move (hρ _ _ rfl)) rfl rfl rfl (w_n rfl) ?_
          refine TL_q (.int .i64 x) (fun _ _ hρ _ => r_move (hρ _ _ rfl)) rfl rfl rfl (want_y 7 rfl rfl rfl) ?_
          refine TL_q (.bool false) (fun _ _ hρ _ => r_as (r_lss (hρ _ _ rfl) (hρ _ _ rfl)) (bool_as (decide_eq_false c2))) rfl rfl rfl (want_y 7 rfl rfl rfl) ?_
          refine TL_q (.bool false) (fun _ _ hρ _ => r_pick_t (hρ _ _ rfl) (hρ _ _ rfl)) rfl rfl rfl (w_n rfl) ?_
          refine TL_q (.bool false) (fun _ _ hρ _ => r_move (hρ _ _ rfl)) rfl rfl rfl (w_n rfl) ?_
          refine TL_no rfl rfl (want_n 11 rfl rfl rfl) ?_
          refine TL_no rfl rfl (want_n 11 rfl rfl rfl) ?_
          refine TL_q (.bool false) (fun _ _ hρ _ => r_pick_f (hρ _ _ rfl) (hρ _ _ rfl)) rfl rfl rfl (w_n rfl) ?_
          refine TL_q (.bool false) (fun _ _ hρ _ => r_move (hρ _ _ rfl)) rfl rfl rfl (w_n rfl) ?_
          refine TL_no rfl rfl (want_n 15 rfl rfl rfl) ?_
          refine TL_no rfl rfl (want_n 15 rfl rfl rfl) ?_
          refine TL_q (.bool false) (fun _ _ hρ _ => r_pick_f (hρ _ _ rfl) (hρ _ _ rfl)) rfl rfl rfl (w_n rfl) ?_
          refine TL_q (.bool false) (fun _ _ hρ _ => r_assign (hρ _ _ rfl)) rfl rfl rfl (w_n rfl) ?_
          refine TL_seq ?_
          refine T_ret' ?_
          refine ret_of rfl (.bool false) (fun tmps w hk hm => res1 rfl (res_tmp (hk 4 _ rfl))) (fun w hm => ?_)
          exact ⟨congrArg Ending.returned (bool_as (decide_eq_false (by omega)).symm), hm.ext⟩
      · skip
        by_cases c4 : y < 8
        · skip
          refine T_seq (T_region ?_)
          refine TL_q (.int .i64 x) (fun _ _ hρ _ => r_move (hρ _ _ rfl)) rfl rfl rfl (w_n rfl) ?_
          refine TL_q (.bool true) (fun _ _ hρ _ => r_as (r_geq (hρ _ _ rfl) (hρ _ _ rfl)) (bool_as (decide_eq_true c1))) rfl rfl rfl (w_n rfl) ?_
          refine TL_q (.bool true) (fun _ _ hρ _ => r_move (hρ _ _ rfl)) rfl rfl rfl (w_n rfl) ?_
          refine TL_q (.int .i64 x) (fun _ _ hρ _ => r_move (hρ _ _ rfl)) rfl rfl rfl (want_y 7 rfl rfl rfl) ?_
          refine TL_q (.bool false) (fun _ _ hρ _ => r_as (r_lss (hρ _ _ rfl) (hρ _ _ rfl)) (bool_as (decide_eq_false c2))) rfl rfl rfl (want_y 7 rfl rfl rfl) ?_
          refine TL_q (.bool false) (fun _ _ hρ _ => r_pick_t (hρ _ _ rfl) (hρ _ _ rfl)) rfl rfl rfl (w_n rfl) ?_
          refine TL_q (.bool false) (fun _ _ hρ _ => r_move (hρ _ _ rfl)) rfl rfl rfl (w_n rfl) ?_
          refine TL_no rfl rfl (want_n 11 rfl rfl rfl) ?_
          refine TL_no rfl rfl (want_n 11 rfl rfl rfl) ?_
          refine TL_q (.bool false) (fun _ _ hρ _ => r_pick_f (hρ _ _ rfl) (hρ _ _ rfl)) rfl rfl rfl (w_n rfl) ?_
          refine TL_q (.bool false) (fun _ _ hρ _ => r_move (hρ _ _ rfl)) rfl rfl rfl (w_n rfl) ?_
          refine TL_no rfl rfl (want_n 15 rfl rfl rfl) ?_
          refine TL_no rfl rfl (want_n 15 rfl rfl rfl) ?_
          refine TL_q (.bool false) (fun _ _ hρ _ => r_pick_f (hρ _ _ rfl) (hρ _ _ rfl)) rfl rfl rfl (w_n rfl) ?_
          refine TL_q (.bool false) (fun _ _ hρ _ => r_assign (hρ _ _ rfl)) rfl rfl rfl (w_n rfl) ?_
          refine TL_seq ?_
          refine T_ret' ?_
          refine ret_of rfl (.bool false) (fun tmps w hk hm => res1 rfl (res_tmp (hk 4 _ rfl))) (fun w hm => ?_)
          exact ⟨congrArg Ending.returned (bool_as (decide_eq_false (by omega)).symm), hm.ext⟩
        · skip
          refine T_seq (T_region ?_)
          refine TL_q (.int .i64 x) (fun _ _ hρ _ => r_move (hρ _ _ rfl)) rfl rfl rfl (w_n rfl) ?_
          refine TL_q (.bool true) (fun _ _ hρ _ => r_as (r_geq (hρ _ _ rfl) (hρ _ _ rfl)) (bool_as (decide_eq_true c1))) rfl rfl rfl (w_n rfl) ?_
          refine TL_q (.bool true) (fun _ _ hρ _ => r_move (hρ _ _ rfl)) rfl rfl rfl (w_n rfl) ?_
          refine TL_q (.int .i64 x) (fun _ _ hρ _ => r_move (hρ _ _ rfl)) rfl rfl rfl (want_y 7 rfl rfl rfl) ?_
          refine TL_q (.bool false) (fun _ _ hρ _ => r_as (r_lss (hρ _ _ rfl) (hρ _ _ rfl)) (bool_as (decide_eq_false c2))) rfl rfl rfl (want_y 7 rfl rfl rfl) ?_
          refine TL_q (.bool false) (fun _ _ hρ _ => r_pick_t (hρ _ _ rfl) (hρ _ _ rfl)) rfl rfl rfl (w_n rfl) ?_
          refine TL_q (.bool false) (fun _ _ hρ _ => r_move (hρ _ _ rfl)) rfl rfl rfl (w_n rfl) ?_
          refine TL_no rfl rfl (want_n 11 rfl rfl rfl) ?_
          refine TL_no rfl rfl (want_n 11 rfl rfl rfl) ?_
          refine TL_q (.bool false) (fun _ _ hρ _ => r_pick_f (hρ _ _ rfl) (hρ _ _ rfl)) rfl rfl rfl (w_n rfl) ?_
          refine TL_q (.bool false) (fun _ _ hρ _ => r_move (hρ _ _ rfl)) rfl rfl rfl (w_n rfl) ?_
          refine TL_no rfl rfl (want_n 15 rfl rfl rfl) ?_
          refine TL_no rfl rfl (want_n 15 rfl rfl rfl) ?_
          refine TL_q (.bool false) (fun _ _ hρ _ => r_pick_f (hρ _ _ rfl) (hρ _ _ rfl)) rfl rfl rfl (w_n rfl) ?_
          refine TL_q (.bool false) (fun _ _ hρ _ => r_assign (hρ _ _ rfl)) rfl rfl rfl (w_n rfl) ?_
          refine TL_seq ?_
          refine T_ret' ?_
          refine ret_of rfl (.bool false) (fun tmps w hk hm => res1 rfl (res_tmp (hk 4 _ rfl))) (fun w hm => ?_)
          exact ⟨congrArg Ending.returned (bool_as (decide_eq_false (by omega)).symm), hm.ext⟩
  · skip
    by_cases c2 : x < 8
    · skip
      by_cases c3 : (0 : Int) ≤ y
      · skip
        by_cases c4 : y < 8
        · skip
          refine T_seq (T_region ?_)
          refine TL_q (.int .i64 x) (fun _ _ hρ _ => r_move (hρ _ _ rfl)) rfl rfl rfl (w_n rfl) ?_
          refine TL_q (.bool false) (fun _ _ hρ _ => r_as (r_geq (hρ _ _ rfl) (hρ _ _ rfl)) (bool_as (decide_eq_false c1))) rfl rfl rfl (w_n rfl) ?_
          refine TL_q (.bool false) (fun _ _ hρ _ => r_move (hρ _ _ rfl)) rfl rfl rfl (w_n rfl) ?_
          refine TL_no rfl rfl (want_n 7 rfl rfl rfl) ?_
          refine TL_no rfl rfl (want_n 7 rfl rfl rfl) ?_
          refine TL_q (.bool false) (fun _ _ hρ _ => r_pick_f (hρ _ _ rfl) (hρ _ _ rfl)) rfl rfl rfl (w_n rfl) ?_
          refine TL_q (.bool false) (fun _ _ hρ _ => r_move (hρ _ _ rfl)) rfl rfl rfl (w_n rfl) ?_
          refine TL_no rfl rfl (want_n 11 rfl rfl rfl) ?_
          refine TL_no rfl rfl (want_n 11 rfl rfl rfl) ?_
          refine TL_q (.bool false) (fun _ _ hρ _ => r_pick_f (hρ _ _ rfl) (hρ _ _ rfl)) rfl rfl rfl (w_n rfl) ?_
          refine TL_q (.bool false) (fun _ _ hρ _ => r_move (hρ _ _ rfl)) rfl rfl rfl (w_n rfl) ?_
          refine TL_no rfl rfl (want_n 15 rfl rfl rfl) ?_
          refine TL_no rfl rfl (want_n 15 rfl rfl rfl) ?_
          refine TL_q (.bool false) (fun _ _ hρ _ => r_pick_f (hρ _ _ rfl) (hρ _ _ rfl)) rfl rfl rfl (w_n rfl) ?_
          refine TL_q (.bool false) (fun _ _ hρ _ => r_assign (hρ _ _ rfl)) rfl rfl rfl (w_n rfl) ?_
          refine TL_seq ?_
          refine T_ret' ?_
          refine ret_of rfl (.bool false) (fun tmps w hk hm => res1 rfl (res_tmp (hk 4 _ rfl))) (fun w hm => ?_)
          exact ⟨congrArg Ending.returned (bool_as (decide_eq_false (by omega)).symm), hm.ext⟩
        · skip
          refine T_seq (T_region ?_)
          refine TL_q (.int .i64 x) (fun _ _ hρ _ => r_move (hρ _ _ rfl)) rfl rfl rfl (w_n rfl) ?_
          refine TL_q (.bool false) (fun _ _ hρ _ => r_as (r_geq (hρ _ _ rfl) (hρ _ _ rfl)) (bool_as (decide_eq_false c1))) rfl rfl rfl (w_n rfl) ?_
          refine TL_q (.bool false) (fun _ _ hρ _ => r_move (hρ _ _ rfl)) rfl rfl rfl (w_n rfl) ?_
          refine TL_no rfl rfl (want_n 7 rfl rfl rfl) ?_
          refine TL_no rfl rfl (want_n 7 rfl rfl rfl) ?_
          refine TL_q (.bool false) (fun _ _ hρ _ => r_pick_f (hρ _ _ rfl) (hρ _ _ rfl)) rfl rfl rfl (w_n rfl) ?_
          refine TL_q (.bool false) (fun _ _ hρ _ => r_move (hρ _ _ rfl)) rfl rfl rfl (w_n rfl) ?_
          refine TL_no rfl rfl (want_n 11 rfl rfl rfl) ?_
          refine TL_no rfl rfl (want_n 11 rfl rfl rfl) ?_
          refine TL_q (.bool false) (fun _ _ hρ _ => r_pick_f (hρ _ _ rfl) (hρ _ _ rfl)) rfl rfl rfl (w_n rfl) ?_
          refine TL_q (.bool false) (fun _ _ hρ _ => r_move (hρ _ _ rfl)) rfl rfl rfl (w_n rfl) ?_
          refine TL_no rfl rfl (want_n 15 rfl rfl rfl) ?_
          refine TL_no rfl rfl (want_n 15 rfl rfl rfl) ?_
          refine TL_q (.bool false) (fun _ _ hρ _ => r_pick_f (hρ _ _ rfl) (hρ _ _ rfl)) rfl rfl rfl (w_n rfl) ?_
          refine TL_q (.bool false) (fun _ _ hρ _ => r_assign (hρ _ _ rfl)) rfl rfl rfl (w_n rfl) ?_
          refine TL_seq ?_
          refine T_ret' ?_
          refine ret_of rfl (.bool false) (fun tmps w hk hm => res1 rfl (res_tmp (hk 4 _ rfl))) (fun w hm => ?_)
          exact ⟨congrArg Ending.returned (bool_as (decide_eq_false (by omega)).symm), hm.ext⟩
      · skip
        by_cases c4 : y < 8
        · skip
          refine T_seq (T_region ?_)
          refine TL_q (.int .i64 x) (fun _ _ hρ _ => r_move (hρ _ _ rfl)) rfl rfl rfl (w_n rfl) ?_
          refine TL_q (.bool false) (fun _ _ hρ _ => r_as (r_geq (hρ _ _ rfl) (hρ _ _ rfl)) (bool_as (decide_eq_false c1))) rfl rfl rfl (w_n rfl) ?_
          refine TL_q (.bool false) (fun _ _ hρ _ => r_move (hρ _ _ rfl)) rfl rfl rfl (w_n rfl) ?_
          refine TL_no rfl rfl (want_n 7 rfl rfl rfl) ?_
          refine TL_no rfl rfl (want_n 7 rfl rfl rfl) ?_
          refine TL_q (.bool false) (fun _ _ hρ _ => r_pick_f (hρ _ _ rfl) (hρ _ _ rfl)) rfl rfl rfl (w_n rfl) ?_
          refine TL_q (.bool false) (fun _ _ hρ _ => r_move (hρ _ _ rfl)) rfl rfl rfl (w_n rfl) ?_
          refine TL_no rfl rfl (want_n 11 rfl rfl rfl) ?_
          refine TL_no rfl rfl (want_n 11 rfl rfl rfl) ?_
          refine TL_q (.bool false) (fun _ _ hρ _ => r_pick_f (hρ _ _ rfl) (hρ _ _ rfl)) rfl rfl rfl (w_n rfl) ?_
          refine TL_q (.bool false) (fun _ _ hρ _ => r_move (hρ _ _ rfl)) rfl rfl rfl (w_n rfl) ?_
          refine TL_no rfl rfl (want_n 15 rfl rfl rfl) ?_
          refine TL_no rfl rfl (want_n 15 rfl rfl rfl) ?_
          refine TL_q (.bool false) (fun _ _ hρ _ => r_pick_f (hρ _ _ rfl) (hρ _ _ rfl)) rfl rfl rfl (w_n rfl) ?_
          refine TL_q (.bool false) (fun _ _ hρ _ => r_assign (hρ _ _ rfl)) rfl rfl rfl (w_n rfl) ?_
          refine TL_seq ?_
          refine T_ret' ?_
          refine ret_of rfl (.bool false) (fun tmps w hk hm => res1 rfl (res_tmp (hk 4 _ rfl))) (fun w hm => ?_)
          exact ⟨congrArg Ending.returned (bool_as (decide_eq_false (by omega)).symm), hm.ext⟩
        · skip
          refine T_seq (T_region ?_)
          refine TL_q (.int .i64 x) (fun _ _ hρ _ => r_move (hρ _ _ rfl)) rfl rfl rfl (w_n rfl) ?_
          refine TL_q (.bool false) (fun _ _ hρ _ => r_as (r_geq (hρ _ _ rfl) (hρ _ _ rfl)) (bool_as (decide_eq_false c1))) rfl rfl rfl (w_n rfl) ?_
          refine TL_q (.bool false) (fun _ _ hρ _ => r_move (hρ _ _ rfl)) rfl rfl rfl (w_n rfl) ?_
          refine TL_no rfl rfl (want_n 7 rfl rfl rfl) ?_
          refine TL_no rfl rfl (want_n 7 rfl rfl rfl) ?_
          refine TL_q (.bool false) (fun _ _ hρ _ => r_pick_f (hρ _ _ rfl) (hρ _ _ rfl)) rfl rfl rfl (w_n rfl) ?_
          refine TL_q (.bool false) (fun _ _ hρ _ => r_move (hρ _ _ rfl)) rfl rfl rfl (w_n rfl) ?_
          refine TL_no rfl rfl (want_n 11 rfl rfl rfl) ?_
          refine TL_no rfl rfl (want_n 11 rfl rfl rfl) ?_
          refine TL_q (.bool false) (fun _ _ hρ _ => r_pick_f (hρ _ _ rfl) (hρ _ _ rfl)) rfl rfl rfl (w_n rfl) ?_
          refine TL_q (.bool false) (fun _ _ hρ _ => r_move (hρ _ _ rfl)) rfl rfl rfl (w_n rfl) ?_
          refine TL_no rfl rfl (want_n 15 rfl rfl rfl) ?_
          refine TL_no rfl rfl (want_n 15 rfl rfl rfl) ?_
          refine TL_q (.bool false) (fun _ _ hρ _ => r_pick_f (hρ _ _ rfl) (hρ _ _ rfl)) rfl rfl rfl (w_n rfl) ?_
          refine TL_q (.bool false) (fun _ _ hρ _ => r_assign (hρ _ _ rfl)) rfl rfl rfl (w_n rfl) ?_
          refine TL_seq ?_
          refine T_ret' ?_
          refine ret_of rfl (.bool false) (fun tmps w hk hm => res1 rfl (res_tmp (hk 4 _ rfl))) (fun w hm => ?_)
          exact ⟨congrArg Ending.returned (bool_as (decide_eq_false (by omega)).symm), hm.ext⟩
    · skip
      by_cases c3 : (0 : Int) ≤ y
      · skip
        by_cases c4 : y < 8
        · skip
          refine T_seq (T_region ?_)
          refine TL_q (.int .i64 x) (fun _ _ hρ _ => r_move (hρ _ _ rfl)) rfl rfl rfl (w_n rfl) ?_
          refine TL_q (.bool false) (fun _ _ hρ _ => r_as (r_geq (hρ _ _ rfl) (hρ _ _ rfl)) (bool_as (decide_eq_false c1))) rfl rfl rfl (w_n rfl) ?_
          refine TL_q (.bool false) (fun _ _ hρ _ => r_move (hρ _ _ rfl)) rfl rfl rfl (w_n rfl) ?_
          refine TL_no rfl rfl (want_n 7 rfl rfl rfl) ?_
          refine TL_no rfl rfl (want_n 7 rfl rfl rfl) ?_
          refine TL_q (.bool false) (fun _ _ hρ _ => r_pick_f (hρ _ _ rfl) (hρ _ _ rfl)) rfl rfl rfl (w_n rfl) ?_
          refine TL_q (.bool false) (fun _ _ hρ _ => r_move (hρ _ _ rfl)) rfl rfl rfl (w_n rfl) ?_
          refine TL_no rfl rfl (want_n 11 rfl rfl rfl) ?_
          refine TL_no rfl rfl (want_n 11 rfl rfl rfl) ?_
          refine TL_q (.bool false) (fun _ _ hρ _ => r_pick_f (hρ _ _ rfl) (hρ _ _ rfl)) rfl rfl rfl (w_n rfl) ?_
          refine TL_q (.bool false) (fun _ _ hρ _ => r_move (hρ _ _ rfl)) rfl rfl rfl (w_n rfl) ?_
          refine TL_no rfl rfl (want_n 15 rfl rfl rfl) ?_
          refine TL_no rfl rfl (want_n 15 rfl rfl rfl) ?_
          refine TL_q (.bool false) (fun _ _ hρ _ => r_pick_f (hρ _ _ rfl) (hρ _ _ rfl)) rfl rfl rfl (w_n rfl) ?_
          refine TL_q (.bool false) (fun _ _ hρ _ => r_assign (hρ _ _ rfl)) rfl rfl rfl (w_n rfl) ?_
          refine TL_seq ?_
          refine T_ret' ?_
          refine ret_of rfl (.bool false) (fun tmps w hk hm => res1 rfl (res_tmp (hk 4 _ rfl))) (fun w hm => ?_)
          exact ⟨congrArg Ending.returned (bool_as (decide_eq_false (by omega)).symm), hm.ext⟩
        · skip
          refine T_seq (T_region ?_)
          refine TL_q (.int .i64 x) (fun _ _ hρ _ => r_move (hρ _ _ rfl)) rfl rfl rfl (w_n rfl) ?_
          refine TL_q (.bool false) (fun _ _ hρ _ => r_as (r_geq (hρ _ _ rfl) (hρ _ _ rfl)) (bool_as (decide_eq_false c1))) rfl rfl rfl (w_n rfl) ?_
          refine TL_q (.bool false) (fun _ _ hρ _ => r_move (hρ _ _ rfl)) rfl rfl rfl (w_n rfl) ?_
          refine TL_no rfl rfl (want_n 7 rfl rfl rfl) ?_
          refine TL_no rfl rfl (want_n 7 rfl rfl rfl) ?_
          refine TL_q (.bool false) (fun _ _ hρ _ => r_pick_f (hρ _ _ rfl) (hρ _ _ rfl)) rfl rfl rfl (w_n rfl) ?_
          refine TL_q (.bool false) (fun _ _ hρ _ => r_move (hρ _ _ rfl)) rfl rfl rfl (w_n rfl) ?_
          refine TL_no rfl rfl (want_n 11 rfl rfl rfl) ?_
          refine TL_no rfl rfl (want_n 11 rfl rfl rfl) ?_
          refine TL_q (.bool false) (fun _ _ hρ _ => r_pick_f (hρ _ _ rfl) (hρ _ _ rfl)) rfl rfl rfl (w_n rfl) ?_
          refine TL_q (.bool false) (fun _ _ hρ _ => r_move (hρ _ _ rfl)) rfl rfl rfl (w_n rfl) ?_
          refine TL_no rfl rfl (want_n 15 rfl rfl rfl) ?_
          refine TL_no rfl rfl (want_n 15 rfl rfl rfl) ?_
          refine TL_q (.bool false) (fun _ _ hρ _ => r_pick_f (hρ _ _ rfl) (hρ _ _ rfl)) rfl rfl rfl (w_n rfl) ?_
          refine TL_q (.bool false) (fun _ _ hρ _ => r_assign (hρ _ _ rfl)) rfl rfl rfl (w_n rfl) ?_
          refine TL_seq ?_
          refine T_ret' ?_
          refine ret_of rfl (.bool false) (fun tmps w hk hm => res1 rfl (res_tmp (hk 4 _ rfl))) (fun w hm => ?_)
          exact ⟨congrArg Ending.returned (bool_as (decide_eq_false (by omega)).symm), hm.ext⟩
      · skip
        by_cases c4 : y < 8
        · skip
          refine T_seq (T_region ?_)
          refine TL_q (.int .i64 x) (fun _ _ hρ _ => r_move (hρ _ _ rfl)) rfl rfl rfl (w_n rfl) ?_
          refine TL_q (.bool false) (fun _ _ hρ _ => r_as (r_geq (hρ _ _ rfl) (hρ _ _ rfl)) (bool_as (decide_eq_false c1))) rfl rfl rfl (w_n rfl) ?_
          refine TL_q (.bool false) (fun _ _ hρ _ => r_move (hρ _ _ rfl)) rfl rfl rfl (w_n rfl) ?_
          refine TL_no rfl rfl (want_n 7 rfl rfl rfl) ?_
          refine TL_no rfl rfl (want_n 7 rfl rfl rfl) ?_
          refine TL_q (.bool false) (fun _ _ hρ _ => r_pick_f (hρ _ _ rfl) (hρ _ _ rfl)) rfl rfl rfl (w_n rfl) ?_
          refine TL_q (.bool false) (fun _ _ hρ _ => r_move (hρ _ _ rfl)) rfl rfl rfl (w_n rfl) ?_
          refine TL_no rfl rfl (want_n 11 rfl rfl rfl) ?_
          refine TL_no rfl rfl (want_n 11 rfl rfl rfl) ?_
          refine TL_q (.bool false) (fun _ _ hρ _ => r_pick_f (hρ _ _ rfl) (hρ _ _ rfl)) rfl rfl rfl (w_n rfl) ?_
          refine TL_q (.bool false) (fun _ _ hρ _ => r_move (hρ _ _ rfl)) rfl rfl rfl (w_n rfl) ?_
          refine TL_no rfl rfl (want_n 15 rfl rfl rfl) ?_
          refine TL_no rfl rfl (want_n 15 rfl rfl rfl) ?_
          refine TL_q (.bool false) (fun _ _ hρ _ => r_pick_f (hρ _ _ rfl) (hρ _ _ rfl)) rfl rfl rfl (w_n rfl) ?_
          refine TL_q (.bool false) (fun _ _ hρ _ => r_assign (hρ _ _ rfl)) rfl rfl rfl (w_n rfl) ?_
          refine TL_seq ?_
          refine T_ret' ?_
          refine ret_of rfl (.bool false) (fun tmps w hk hm => res1 rfl (res_tmp (hk 4 _ rfl))) (fun w hm => ?_)
          exact ⟨congrArg Ending.returned (bool_as (decide_eq_false (by omega)).symm), hm.ext⟩
        · skip
          refine T_seq (T_region ?_)
          refine TL_q (.int .i64 x) (fun _ _ hρ _ => r_move (hρ _ _ rfl)) rfl rfl rfl (w_n rfl) ?_
          refine TL_q (.bool false) (fun _ _ hρ _ => r_as (r_geq (hρ _ _ rfl) (hρ _ _ rfl)) (bool_as (decide_eq_false c1))) rfl rfl rfl (w_n rfl) ?_
          refine TL_q (.bool false) (fun _ _ hρ _ => r_move (hρ _ _ rfl)) rfl rfl rfl (w_n rfl) ?_
          refine TL_no rfl rfl (want_n 7 rfl rfl rfl) ?_
          refine TL_no rfl rfl (want_n 7 rfl rfl rfl) ?_
          refine TL_q (.bool false) (fun _ _ hρ _ => r_pick_f (hρ _ _ rfl) (hρ _ _ rfl)) rfl rfl rfl (w_n rfl) ?_
          refine TL_q (.bool false) (fun _ _ hρ _ => r_move (hρ _ _ rfl)) rfl rfl rfl (w_n rfl) ?_
          refine TL_no rfl rfl (want_n 11 rfl rfl rfl) ?_
          refine TL_no rfl rfl (want_n 11 rfl rfl rfl) ?_
          refine TL_q (.bool false) (fun _ _ hρ _ => r_pick_f (hρ _ _ rfl) (hρ _ _ rfl)) rfl rfl rfl (w_n rfl) ?_
          refine TL_q (.bool false) (fun _ _ hρ _ => r_move (hρ _ _ rfl)) rfl rfl rfl (w_n rfl) ?_
          refine TL_no rfl rfl (want_n 15 rfl rfl rfl) ?_
          refine TL_no rfl rfl (want_n 15 rfl rfl rfl) ?_
          refine TL_q (.bool false) (fun _ _ hρ _ => r_pick_f (hρ _ _ rfl) (hρ _ _ rfl)) rfl rfl rfl (w_n rfl) ?_
          refine TL_q (.bool false) (fun _ _ hρ _ => r_assign (hρ _ _ rfl)) rfl rfl rfl (w_n rfl) ?_
          refine TL_seq ?_
          refine T_ret' ?_
          refine ret_of rfl (.bool false) (fun tmps w hk hm => res1 rfl (res_tmp (hk 4 _ rfl))) (fun w hm => ?_)
          exact ⟨congrArg Ending.returned (bool_as (decide_eq_false (by omega)).symm), hm.ext⟩

theorem at_ref (l : List C4) (x y : Nat) (w : World) (hl : l.length = 64) (hx : x < 8) (hy : y < 8) : Calls Try.prog 29 #[til l, .int .i64 x, .int .i64 y] w fun e w' => e = .returned (get l (8 * y + x)).v ∧ Below w.heap.size w w' := by
  refine calls_of_T (l := [.agg (lst C4.cells l), .int .i64 ((x : Nat) : Int), .int .i64 ((y : Nat) : Int)]) 13 Try.func29 rfl rfl rfl ?_
  show T _ _ _ [(0, .agg (lst C4.cells l)), (1, .int .i64 ((x : Nat) : Int)), (2, .int .i64 ((y : Nat) : Int))] []
  refine T_seq (T_region ?_)
  refine TL_new 1 (.cells (lst C4.cells l) 25) (fun B => .pointer (some ⟨B, 0, none⟩)) (fun _ _ hρ _ => r_box (hρ _ _ rfl) rfl) rfl rfl rfl (w_n rfl) ?_
  intro B1
  refine TL_new 2 (.cells #[.int .u8 0, .int .u8 0, .int .u8 0, .int .u8 0] 23) (fun B => .pointer (some ⟨B, 0, none⟩)) (fun _ _ _ _ => r_alloc (v := .agg #[.int .u8 0, .int .u8 0, .int .u8 0, .int .u8 0]) (by kernel_rfl) rfl) rfl rfl rfl (w_n rfl) ?_
  intro B2
  refine TL_seq ?_
  refine T_seq (T_region ?_)
  refine TL_q (.int .i64 ((y : Nat) : Int)) (fun _ _ hρ _ => r_move (hρ _ _ rfl)) rfl rfl rfl (w_n rfl) ?_
  refine TL_q (.int .i64 ((8 * y : Nat) : Int)) (fun _ _ hρ _ => r_as (r_mul (hρ _ _ rfl) (hρ _ _ rfl)) (int_as ((wrap64 (by omega) (by omega)).trans (by omega)))) rfl rfl rfl (w_n rfl) ?_
  refine TL_q (.int .i64 ((x : Nat) : Int)) (fun _ _ hρ _ => r_move (hρ _ _ rfl)) rfl rfl rfl (w_n rfl) ?_
  refine TL_q (.int .i64 ((8 * y + x : Nat) : Int)) (fun _ _ hρ _ => r_as (r_add (hρ _ _ rfl) (hρ _ _ rfl)) (int_as ((wrap64 (by omega) (by omega)).trans (by omega)))) rfl rfl rfl (w_n rfl) ?_
  refine TL_q (.pointer (some ⟨B1, 0 + (8 * y + x) * 4, none⟩)) (fun _ _ hρ _ => r_indexAddrA (i := 8 * y + x) ar25 sz23 (hρ _ _ rfl) (hρ _ _ rfl) (by omega)) rfl rfl rfl (w_n rfl) ?_
  refine TL_q (.agg #[.int .u8 ((get l (8 * y + x)).r), .int .u8 ((get l (8 * y + x)).g), .int .u8 ((get l (8 * y + x)).b), .int .u8 ((get l (8 * y + x)).a)]) (fun _ _ hρ hm => r_loadRow (f := C4.cells) (u := (get l (8 * y + x))) ag23 sz23 (hρ _ _ rfl) (hm.at 1 rfl) (row_lst C4.cells_len _) (get_some hl (by omega))) rfl rfl rfl (w_n rfl) ?_
  refine TL_store 2 (.cells #[.int .u8 ((get l (8 * y + x)).r), .int .u8 ((get l (8 * y + x)).g), .int .u8 ((get l (8 * y + x)).b), .int .u8 ((get l (8 * y + x)).a)] 23) rfl (fun _ _ hρ hm => r_store sz23 (hρ _ _ rfl) (hρ _ _ rfl) (hm.at 2 rfl) rfl rfl rfl rfl) rfl rfl (w_n rfl) ?_
  refine TL_seq ?_
  refine T_ret' ?_
  refine ret_of rfl (.agg #[.int .u8 ((get l (8 * y + x)).r), .int .u8 ((get l (8 * y + x)).g), .int .u8 ((get l (8 * y + x)).b), .int .u8 ((get l (8 * y + x)).a)]) (fun tmps w hk hm => res1 rfl (res_cell (hk 6 _ rfl) (run_loadVar_agg ag23 sz23 (hm.at 2 rfl) (Nat.le_of_ble_eq_true rfl) rfl))) (fun w hm => ?_)
  exact ⟨rfl, hm.ext⟩

theorem flip_ref (l : List C4) (w : World) (hl : l.length = 64) : Calls Try.prog 22 #[til l] w fun e w' => e = .returned (til (flipL l)) ∧ Below w.heap.size w w' := by
  refine calls_of_T (l := [.agg (lst C4.cells l)]) 25 Try.func22 rfl rfl rfl ?_
  show T _ _ _ [(0, .agg (lst C4.cells l))] []
  refine T_seq (T_region ?_)
  refine TL_new 1 (.cells (lst C4.cells l) 25) (fun B => .pointer (some ⟨B, 0, none⟩)) (fun _ _ hρ _ => r_box (hρ _ _ rfl) rfl) rfl rfl rfl (w_n rfl) ?_
  intro B1
  refine TL_new 2 (.cells (lst C4.cells zero64) 25) (fun B => .pointer (some ⟨B, 0, none⟩)) (fun _ _ _ _ => r_alloc (v := .agg (lst C4.cells zero64)) (by kernel_rfl) rfl) rfl rfl rfl (w_n rfl) ?_
  intro B2
  refine TL_seq ?_
  refine T_seq (T_region ?_)
  refine TL_new 3 (.cells (lst C4.cells zero64) 25) (fun B => .pointer (some ⟨B, 0, none⟩)) (fun _ _ _ _ => r_alloc (v := .agg (lst C4.cells zero64)) (by kernel_rfl) rfl) rfl rfl rfl (w_n rfl) ?_
  intro B3
  refine TL_seq ?_
  refine T_seq ?_
  refine T_seq (T_region ?_)
  refine TL_q (.int .i64 0) (fun _ _ hρ _ => r_move (hρ _ _ rfl)) rfl rfl rfl (w_n rfl) ?_
  refine TL_seq ?_
  refine T_block ?_
  refine T_loop (ι := Nat) (fun (y : Nat) => y ≤ 8) (fun (y : Nat) => [(1, .pointer (some ⟨B1, 0, none⟩)), (2, .pointer (some ⟨B2, 0, none⟩)), (3, .pointer (some ⟨B3, 0, none⟩)), (6, .int .i64 ((y : Nat) : Int))]) (fun (y : Nat) => [(1, .blk B1 (.cells (lst C4.cells l) 25)), (2, .blk B2 (.cells (lst C4.cells zero64) 25)), (3, .blk B3 (.cells (lst C4.cells (gridN (flipG l) zero64 (8 * y))) 25))]) (fun (y : Nat) => 8 - y) 0 (Nat.zero_le _) (sub_cons rfl (sub_cons rfl (sub_cons rfl (sub_cons rfl sub_nil)))) (sub_cons rfl (sub_cons rfl (sub_cons rfl sub_nil))) ?_
  rintro y hp
  show T _ _ _ [(1, .pointer (some ⟨B1, 0, none⟩)), (2, .pointer (some ⟨B2, 0, none⟩)), (3, .pointer (some ⟨B3, 0, none⟩)), (6, .int .i64 ((y : Nat) : Int))] [(1, .blk B1 (.cells (lst C4.cells l) 25)), (2, .blk B2 (.cells (lst C4.cells zero64) 25)), (3, .blk B3 (.cells (lst C4.cells (gridN (flipG l) zero64 (8 * y))) 25))]
  refine T_seq (T_region ?_)
  refine TL_q (.bool (decide (((y : Nat) : Int) < 8))) (fun _ _ hρ _ => r_lss (hρ _ _ rfl) (hρ _ _ rfl)) rfl rfl rfl (w_n rfl) ?_
  refine TL_seq ?_
  refine T_seq ?_
  refine T_cond rfl (fun h1 => ?_) (fun h1 => ?_)
  · replace h1 := of_decide_eq_true h1
    refine T_skip' ?_
    refine p_seq ?_
    refine T_seq ?_
    refine T_block ?_
    refine T_seq (T_region ?_)
    refine TL_q (.int .i64 ((y : Nat) : Int)) (fun _ _ hρ _ => r_move (hρ _ _ rfl)) rfl rfl rfl (w_n rfl) ?_
    refine TL_q (.int .i64 ((y : Nat) : Int)) (fun _ _ hρ _ => r_assign (hρ _ _ rfl)) rfl rfl rfl (w_n rfl) ?_
    refine TL_seq ?_
    refine T_seq (T_region ?_)
    refine TL_q (.int .i64 0) (fun _ _ hρ _ => r_move (hρ _ _ rfl)) rfl rfl rfl (w_n rfl) ?_
    refine TL_seq ?_
    refine T_block ?_
    refine T_loop (ι := Nat) (fun (x : Nat) => x ≤ 8) (fun (x : Nat) => [(1, .pointer (some ⟨B1, 0, none⟩)), (2, .pointer (some ⟨B2, 0, none⟩)), (3, .pointer (some ⟨B3, 0, none⟩)), (6, .int .i64 ((y : Nat) : Int)), (7, .bool (decide (((y : Nat) : Int) < 8))), (8, .int .i64 ((y : Nat) : Int)), (4, .int .i64 ((y : Nat) : Int)), (9, .int .i64 ((x : Nat) : Int))]) (fun (x : Nat) => [(1, .blk B1 (.cells (lst C4.cells l) 25)), (2, .blk B2 (.cells (lst C4.cells zero64) 25)), (3, .blk B3 (.cells (lst C4.cells (gridN (flipG l) zero64 (8 * y + x))) 25))]) (fun (x : Nat) => 8 - x) 0 (Nat.zero_le _) (sub_cons rfl (sub_cons rfl (sub_cons rfl (sub_cons rfl (sub_cons rfl (sub_cons rfl (sub_cons rfl (sub_cons rfl sub_nil)))))))) (sub_cons rfl (sub_cons rfl (sub_cons rfl sub_nil))) ?_
    rintro x hp
    show T _ _ _ [(1, .pointer (some ⟨B1, 0, none⟩)), (2, .pointer (some ⟨B2, 0, none⟩)), (3, .pointer (some ⟨B3, 0, none⟩)), (6, .int .i64 ((y : Nat) : Int)), (7, .bool (decide (((y : Nat) : Int) < 8))), (8, .int .i64 ((y : Nat) : Int)), (4, .int .i64 ((y : Nat) : Int)), (9, .int .i64 ((x : Nat) : Int))] [(1, .blk B1 (.cells (lst C4.cells l) 25)), (2, .blk B2 (.cells (lst C4.cells zero64) 25)), (3, .blk B3 (.cells (lst C4.cells (gridN (flipG l) zero64 (8 * y + x))) 25))]
    refine T_seq (T_region ?_)
    refine TL_q (.bool (decide (((x : Nat) : Int) < 8))) (fun _ _ hρ _ => r_lss (hρ _ _ rfl) (hρ _ _ rfl)) rfl rfl rfl (w_n rfl) ?_
    refine TL_seq ?_
    refine T_seq ?_
    refine T_cond rfl (fun h2 => ?_) (fun h2 => ?_)
    · replace h2 := of_decide_eq_true h2
      refine T_skip' ?_
      refine p_seq ?_
      refine T_seq ?_
      refine T_block ?_
      refine T_seq (T_region ?_)
      refine TL_q (.int .i64 ((x : Nat) : Int)) (fun _ _ hρ _ => r_move (hρ _ _ rfl)) rfl rfl rfl (w_n rfl) ?_
      refine TL_q (.int .i64 ((x : Nat) : Int)) (fun _ _ hρ _ => r_assign (hρ _ _ rfl)) rfl rfl rfl (w_n rfl) ?_
      refine TL_seq ?_
      refine T_region ?_
      refine TL_q (.int .i64 ((y : Nat) : Int)) (fun _ _ hρ _ => r_move (hρ _ _ rfl)) rfl rfl rfl (w_n rfl) ?_
      refine TL_q (.int .i64 ((8 * y : Nat) : Int)) (fun _ _ hρ _ => r_as (r_mul (hρ _ _ rfl) (hρ _ _ rfl)) (int_as ((wrap64 (by omega) (by omega)).trans (by omega)))) rfl rfl rfl (w_n rfl) ?_
      refine TL_q (.int .i64 ((8 * y + 7 : Nat) : Int)) (fun _ _ hρ _ => r_as (r_add (hρ _ _ rfl) (hρ _ _ rfl)) (int_as ((wrap64 (by omega) (by omega)).trans (by omega)))) rfl rfl rfl (w_n rfl) ?_
      refine TL_q (.int .i64 ((x : Nat) : Int)) (fun _ _ hρ _ => r_move (hρ _ _ rfl)) rfl rfl rfl (w_n rfl) ?_
      refine TL_q (.int .i64 ((8 * y + 7 - x : Nat) : Int)) (fun _ _ hρ _ => r_as (r_sub (hρ _ _ rfl) (hρ _ _ rfl)) (int_as ((wrap64 (by omega) (by omega)).trans (by omega)))) rfl rfl rfl (w_n rfl) ?_
      refine TL_q (.agg (lst C4.cells l)) (fun _ _ hρ hm => r_loadW ag25 sz25 (hρ _ _ rfl) (hm.at 1 rfl) (tsz hl)) rfl rfl rfl (w_n rfl) ?_
      refine TL_q (.int .i64 ((x : Nat) : Int)) (fun _ _ hρ _ => r_move (hρ _ _ rfl)) rfl rfl rfl (w_n rfl) ?_
      refine TL_q (.int .i64 ((y : Nat) : Int)) (fun _ _ hρ _ => r_move (hρ _ _ rfl)) rfl rfl rfl (w_n rfl) ?_
      refine TL_call (.agg #[.int .u8 ((get l (8 * y + x)).r), .int .u8 ((get l (8 * y + x)).g), .int .u8 ((get l (8 * y + x)).b), .int .u8 ((get l (8 * y + x)).a)]) (fun _ _ hρ _ => r_call (args := [.agg (lst C4.cells l), .int .i64 ((x : Nat) : Int), .int .i64 ((y : Nat) : Int)]) (enters_of Try.func29 (by kernel_rfl) rfl) (hρ _ _ rfl) ((cons2 (hρ _ _ rfl) (cons2 (hρ _ _ rfl) (cons2 (hρ _ _ rfl) rfl)))) rfl) (fun w _ => at_ref l x y w hl (by omega) (by omega)) rfl rfl rfl (w_n rfl) ?_
      refine TL_q (.pointer (some ⟨B3, 0 + (8 * y + 7 - x) * 4, none⟩)) (fun _ _ hρ _ => r_indexAddrA (i := 8 * y + 7 - x) ar25 sz23 (hρ _ _ rfl) (hρ _ _ rfl) (by omega)) rfl rfl rfl (w_n rfl) ?_
      refine TL_store 3 (.cells (lst C4.cells ((gridN (flipG l) zero64 (8 * y + x)).set (8 * y + 7 - x) (get l (8 * y + x)))) 25) rfl (fun _ _ hρ hm => r_storeLst (u := (get l (8 * y + x))) sz23 (hρ _ _ rfl) (hρ _ _ rfl) (hm.at 3 rfl) C4.cells_len (lt64 (grid_len (flipG_len _) zero64_len _) (by omega)) rfl rfl) rfl rfl (w_n rfl) ?_
      refine TL_nil ?_
      refine p_blk_n ?_
      refine p_seq ?_
      refine T_region ?_
      refine TL_q (.int .i64 ((x + 1 : Nat) : Int)) (fun _ _ hρ _ => r_as (r_add (hρ _ _ rfl) (hρ _ _ rfl)) (int_as ((wrap64 (by omega) (by omega)).trans (by omega)))) rfl rfl rfl (w_n rfl) ?_
      refine TL_q (.int .i64 ((x + 1 : Nat) : Int)) (fun _ _ hρ _ => r_move (hρ _ _ rfl)) rfl rfl rfl (w_n rfl) ?_
      refine TL_nil ?_
      rw [show ((gridN (flipG l) zero64 (8 * y + x)).set (8 * y + 7 - x) (get l (8 * y + x))) = gridN (flipG l) zero64 (8 * y + x + 1) from grid_step (g := flipG l) (by omega)]
      exact p_at (x + 1) ⟨by omega, by omega⟩ (sub_cons rfl (sub_cons rfl (sub_cons rfl (sub_cons rfl (sub_cons rfl (sub_cons rfl (sub_cons rfl (sub_cons rfl sub_nil)))))))) (sub_cons rfl (sub_cons rfl (sub_cons rfl sub_nil)))
    · replace h2 := of_decide_eq_false h2
      refine T_exit' ?_
      refine p_then_x ?_
      refine p_then_x ?_
      refine p_blk_x ?_
      refine p_blk_n ?_
      refine p_seq ?_
      have hx8 : x = 8 := by omega
      subst hx8
      refine T_region ?_
      refine TL_q (.int .i64 ((y + 1 : Nat) : Int)) (fun _ _ hρ _ => r_as (r_add (hρ _ _ rfl) (hρ _ _ rfl)) (int_as ((wrap64 (by omega) (by omega)).trans (by omega)))) rfl rfl rfl (w_n rfl) ?_
      refine TL_q (.int .i64 ((y + 1 : Nat) : Int)) (fun _ _ hρ _ => r_move (hρ _ _ rfl)) rfl rfl rfl (w_n rfl) ?_
      refine TL_nil ?_
      exact p_at (y + 1) ⟨by omega, by omega⟩ (sub_cons rfl (sub_cons rfl (sub_cons rfl (sub_cons rfl sub_nil)))) (sub_cons rfl (sub_cons rfl (sub_cons rfl sub_nil)))
  · replace h1 := of_decide_eq_false h1
    refine T_exit' ?_
    refine p_then_x ?_
    refine p_then_x ?_
    refine p_blk_x ?_
    refine p_seq ?_
    refine T_seq (T_region ?_)
    refine TL_q (.agg (lst C4.cells (gridN (flipG l) zero64 (8 * y)))) (fun _ _ hρ hm => r_loadW ag25 sz25 (hρ _ _ rfl) (hm.at 3 rfl) (tsz (grid_len (flipG_len _) zero64_len _))) rfl rfl rfl (w_n rfl) ?_
    refine TL_store 2 (.cells (lst C4.cells (gridN (flipG l) zero64 (8 * y))) 25) rfl (fun _ _ hρ hm => r_storeAll sz25 (hρ _ _ rfl) (hρ _ _ rfl) (hm.at 2 rfl) (tsz zero64_len) (tsz (grid_len (flipG_len _) zero64_len _)) (lst_one C4.cells_all _)) rfl rfl (w_n rfl) ?_
    refine TL_seq ?_
    refine T_ret' ?_
    refine ret_of rfl (.agg (lst C4.cells (gridN (flipG l) zero64 (8 * y)))) (fun tmps w hk hm => res1 rfl (res_cell (hk 2 _ rfl) (run_loadVar_agg ag25 sz25 (hm.at 2 rfl) (le64 (grid_len (flipG_len _) zero64_len _)) (ex64 (grid_len (flipG_len _) zero64_len _))))) (fun w hm => ?_)
    have hy8 : y = 8 := by omega
    subst hy8
    exact ⟨rfl, hm.ext⟩

theorem turn_ref (l : List C4) (w : World) (hl : l.length = 64) : Calls Try.prog 44 #[til l] w fun e w' => e = .returned (til (turnL l)) ∧ Below w.heap.size w w' := by
  refine calls_of_T (l := [.agg (lst C4.cells l)]) 25 Try.func44 rfl rfl rfl ?_
  show T _ _ _ [(0, .agg (lst C4.cells l))] []
  refine T_seq (T_region ?_)
  refine TL_new 1 (.cells (lst C4.cells l) 25) (fun B => .pointer (some ⟨B, 0, none⟩)) (fun _ _ hρ _ => r_box (hρ _ _ rfl) rfl) rfl rfl rfl (w_n rfl) ?_
  intro B1
  refine TL_new 2 (.cells (lst C4.cells zero64) 25) (fun B => .pointer (some ⟨B, 0, none⟩)) (fun _ _ _ _ => r_alloc (v := .agg (lst C4.cells zero64)) (by kernel_rfl) rfl) rfl rfl rfl (w_n rfl) ?_
  intro B2
  refine TL_seq ?_
  refine T_seq (T_region ?_)
  refine TL_new 3 (.cells (lst C4.cells zero64) 25) (fun B => .pointer (some ⟨B, 0, none⟩)) (fun _ _ _ _ => r_alloc (v := .agg (lst C4.cells zero64)) (by kernel_rfl) rfl) rfl rfl rfl (w_n rfl) ?_
  intro B3
  refine TL_seq ?_
  refine T_seq ?_
  refine T_seq (T_region ?_)
  refine TL_q (.int .i64 0) (fun _ _ hρ _ => r_move (hρ _ _ rfl)) rfl rfl rfl (w_n rfl) ?_
  refine TL_seq ?_
  refine T_block ?_
  refine T_loop (ι := Nat) (fun (y : Nat) => y ≤ 8) (fun (y : Nat) => [(1, .pointer (some ⟨B1, 0, none⟩)), (2, .pointer (some ⟨B2, 0, none⟩)), (3, .pointer (some ⟨B3, 0, none⟩)), (6, .int .i64 ((y : Nat) : Int))]) (fun (y : Nat) => [(1, .blk B1 (.cells (lst C4.cells l) 25)), (2, .blk B2 (.cells (lst C4.cells zero64) 25)), (3, .blk B3 (.cells (lst C4.cells (gridN (turnG l) zero64 (8 * y))) 25))]) (fun (y : Nat) => 8 - y) 0 (Nat.zero_le _) (sub_cons rfl (sub_cons rfl (sub_cons rfl (sub_cons rfl sub_nil)))) (sub_cons rfl (sub_cons rfl (sub_cons rfl sub_nil))) ?_
  rintro y hp
  show T _ _ _ [(1, .pointer (some ⟨B1, 0, none⟩)), (2, .pointer (some ⟨B2, 0, none⟩)), (3, .pointer (some ⟨B3, 0, none⟩)), (6, .int .i64 ((y : Nat) : Int))] [(1, .blk B1 (.cells (lst C4.cells l) 25)), (2, .blk B2 (.cells (lst C4.cells zero64) 25)), (3, .blk B3 (.cells (lst C4.cells (gridN (turnG l) zero64 (8 * y))) 25))]
  refine T_seq (T_region ?_)
  refine TL_q (.bool (decide (((y : Nat) : Int) < 8))) (fun _ _ hρ _ => r_lss (hρ _ _ rfl) (hρ _ _ rfl)) rfl rfl rfl (w_n rfl) ?_
  refine TL_seq ?_
  refine T_seq ?_
  refine T_cond rfl (fun h1 => ?_) (fun h1 => ?_)
  · replace h1 := of_decide_eq_true h1
    refine T_skip' ?_
    refine p_seq ?_
    refine T_seq ?_
    refine T_block ?_
    refine T_seq (T_region ?_)
    refine TL_q (.int .i64 ((y : Nat) : Int)) (fun _ _ hρ _ => r_move (hρ _ _ rfl)) rfl rfl rfl (w_n rfl) ?_
    refine TL_q (.int .i64 ((y : Nat) : Int)) (fun _ _ hρ _ => r_assign (hρ _ _ rfl)) rfl rfl rfl (w_n rfl) ?_
    refine TL_seq ?_
    refine T_seq (T_region ?_)
    refine TL_q (.int .i64 0) (fun _ _ hρ _ => r_move (hρ _ _ rfl)) rfl rfl rfl (w_n rfl) ?_
    refine TL_seq ?_
    refine T_block ?_
    refine T_loop (ι := Nat) (fun (x : Nat) => x ≤ 8) (fun (x : Nat) => [(1, .pointer (some ⟨B1, 0, none⟩)), (2, .pointer (some ⟨B2, 0, none⟩)), (3, .pointer (some ⟨B3, 0, none⟩)), (6, .int .i64 ((y : Nat) : Int)), (7, .bool (decide (((y : Nat) : Int) < 8))), (8, .int .i64 ((y : Nat) : Int)), (4, .int .i64 ((y : Nat) : Int)), (9, .int .i64 ((x : Nat) : Int))]) (fun (x : Nat) => [(1, .blk B1 (.cells (lst C4.cells l) 25)), (2, .blk B2 (.cells (lst C4.cells zero64) 25)), (3, .blk B3 (.cells (lst C4.cells (gridN (turnG l) zero64 (8 * y + x))) 25))]) (fun (x : Nat) => 8 - x) 0 (Nat.zero_le _) (sub_cons rfl (sub_cons rfl (sub_cons rfl (sub_cons rfl (sub_cons rfl (sub_cons rfl (sub_cons rfl (sub_cons rfl sub_nil)))))))) (sub_cons rfl (sub_cons rfl (sub_cons rfl sub_nil))) ?_
    rintro x hp
    show T _ _ _ [(1, .pointer (some ⟨B1, 0, none⟩)), (2, .pointer (some ⟨B2, 0, none⟩)), (3, .pointer (some ⟨B3, 0, none⟩)), (6, .int .i64 ((y : Nat) : Int)), (7, .bool (decide (((y : Nat) : Int) < 8))), (8, .int .i64 ((y : Nat) : Int)), (4, .int .i64 ((y : Nat) : Int)), (9, .int .i64 ((x : Nat) : Int))] [(1, .blk B1 (.cells (lst C4.cells l) 25)), (2, .blk B2 (.cells (lst C4.cells zero64) 25)), (3, .blk B3 (.cells (lst C4.cells (gridN (turnG l) zero64 (8 * y + x))) 25))]
    refine T_seq (T_region ?_)
    refine TL_q (.bool (decide (((x : Nat) : Int) < 8))) (fun _ _ hρ _ => r_lss (hρ _ _ rfl) (hρ _ _ rfl)) rfl rfl rfl (w_n rfl) ?_
    refine TL_seq ?_
    refine T_seq ?_
    refine T_cond rfl (fun h2 => ?_) (fun h2 => ?_)
    · replace h2 := of_decide_eq_true h2
      refine T_skip' ?_
      refine p_seq ?_
      refine T_seq ?_
      refine T_block ?_
      refine T_seq (T_region ?_)
      refine TL_q (.int .i64 ((x : Nat) : Int)) (fun _ _ hρ _ => r_move (hρ _ _ rfl)) rfl rfl rfl (w_n rfl) ?_
      refine TL_q (.int .i64 ((x : Nat) : Int)) (fun _ _ hρ _ => r_assign (hρ _ _ rfl)) rfl rfl rfl (w_n rfl) ?_
      refine TL_seq ?_
      refine T_region ?_
      refine TL_q (.int .i64 ((x : Nat) : Int)) (fun _ _ hρ _ => r_move (hρ _ _ rfl)) rfl rfl rfl (w_n rfl) ?_
      refine TL_q (.int .i64 ((8 * x : Nat) : Int)) (fun _ _ hρ _ => r_as (r_mul (hρ _ _ rfl) (hρ _ _ rfl)) (int_as ((wrap64 (by omega) (by omega)).trans (by omega)))) rfl rfl rfl (w_n rfl) ?_
      refine TL_q (.int .i64 ((8 * x + 7 : Nat) : Int)) (fun _ _ hρ _ => r_as (r_add (hρ _ _ rfl) (hρ _ _ rfl)) (int_as ((wrap64 (by omega) (by omega)).trans (by omega)))) rfl rfl rfl (w_n rfl) ?_
      refine TL_q (.int .i64 ((y : Nat) : Int)) (fun _ _ hρ _ => r_move (hρ _ _ rfl)) rfl rfl rfl (w_n rfl) ?_
      refine TL_q (.int .i64 ((8 * x + 7 - y : Nat) : Int)) (fun _ _ hρ _ => r_as (r_sub (hρ _ _ rfl) (hρ _ _ rfl)) (int_as ((wrap64 (by omega) (by omega)).trans (by omega)))) rfl rfl rfl (w_n rfl) ?_
      refine TL_q (.agg (lst C4.cells l)) (fun _ _ hρ hm => r_loadW ag25 sz25 (hρ _ _ rfl) (hm.at 1 rfl) (tsz hl)) rfl rfl rfl (w_n rfl) ?_
      refine TL_q (.int .i64 ((x : Nat) : Int)) (fun _ _ hρ _ => r_move (hρ _ _ rfl)) rfl rfl rfl (w_n rfl) ?_
      refine TL_q (.int .i64 ((y : Nat) : Int)) (fun _ _ hρ _ => r_move (hρ _ _ rfl)) rfl rfl rfl (w_n rfl) ?_
      refine TL_call (.agg #[.int .u8 ((get l (8 * y + x)).r), .int .u8 ((get l (8 * y + x)).g), .int .u8 ((get l (8 * y + x)).b), .int .u8 ((get l (8 * y + x)).a)]) (fun _ _ hρ _ => r_call (args := [.agg (lst C4.cells l), .int .i64 ((x : Nat) : Int), .int .i64 ((y : Nat) : Int)]) (enters_of Try.func29 (by kernel_rfl) rfl) (hρ _ _ rfl) ((cons2 (hρ _ _ rfl) (cons2 (hρ _ _ rfl) (cons2 (hρ _ _ rfl) rfl)))) rfl) (fun w _ => at_ref l x y w hl (by omega) (by omega)) rfl rfl rfl (w_n rfl) ?_
      refine TL_q (.pointer (some ⟨B3, 0 + (8 * x + 7 - y) * 4, none⟩)) (fun _ _ hρ _ => r_indexAddrA (i := 8 * x + 7 - y) ar25 sz23 (hρ _ _ rfl) (hρ _ _ rfl) (by omega)) rfl rfl rfl (w_n rfl) ?_
      refine TL_store 3 (.cells (lst C4.cells ((gridN (turnG l) zero64 (8 * y + x)).set (8 * x + 7 - y) (get l (8 * y + x)))) 25) rfl (fun _ _ hρ hm => r_storeLst (u := (get l (8 * y + x))) sz23 (hρ _ _ rfl) (hρ _ _ rfl) (hm.at 3 rfl) C4.cells_len (lt64 (grid_len (turnG_len _) zero64_len _) (by omega)) rfl rfl) rfl rfl (w_n rfl) ?_
      refine TL_nil ?_
      refine p_blk_n ?_
      refine p_seq ?_
      refine T_region ?_
      refine TL_q (.int .i64 ((x + 1 : Nat) : Int)) (fun _ _ hρ _ => r_as (r_add (hρ _ _ rfl) (hρ _ _ rfl)) (int_as ((wrap64 (by omega) (by omega)).trans (by omega)))) rfl rfl rfl (w_n rfl) ?_
      refine TL_q (.int .i64 ((x + 1 : Nat) : Int)) (fun _ _ hρ _ => r_move (hρ _ _ rfl)) rfl rfl rfl (w_n rfl) ?_
      refine TL_nil ?_
      rw [show ((gridN (turnG l) zero64 (8 * y + x)).set (8 * x + 7 - y) (get l (8 * y + x))) = gridN (turnG l) zero64 (8 * y + x + 1) from grid_step (g := turnG l) (by omega)]
      exact p_at (x + 1) ⟨by omega, by omega⟩ (sub_cons rfl (sub_cons rfl (sub_cons rfl (sub_cons rfl (sub_cons rfl (sub_cons rfl (sub_cons rfl (sub_cons rfl sub_nil)))))))) (sub_cons rfl (sub_cons rfl (sub_cons rfl sub_nil)))
    · replace h2 := of_decide_eq_false h2
      refine T_exit' ?_
      refine p_then_x ?_
      refine p_then_x ?_
      refine p_blk_x ?_
      refine p_blk_n ?_
      refine p_seq ?_
      have hx8 : x = 8 := by omega
      subst hx8
      refine T_region ?_
      refine TL_q (.int .i64 ((y + 1 : Nat) : Int)) (fun _ _ hρ _ => r_as (r_add (hρ _ _ rfl) (hρ _ _ rfl)) (int_as ((wrap64 (by omega) (by omega)).trans (by omega)))) rfl rfl rfl (w_n rfl) ?_
      refine TL_q (.int .i64 ((y + 1 : Nat) : Int)) (fun _ _ hρ _ => r_move (hρ _ _ rfl)) rfl rfl rfl (w_n rfl) ?_
      refine TL_nil ?_
      exact p_at (y + 1) ⟨by omega, by omega⟩ (sub_cons rfl (sub_cons rfl (sub_cons rfl (sub_cons rfl sub_nil)))) (sub_cons rfl (sub_cons rfl (sub_cons rfl sub_nil)))
  · replace h1 := of_decide_eq_false h1
    refine T_exit' ?_
    refine p_then_x ?_
    refine p_then_x ?_
    refine p_blk_x ?_
    refine p_seq ?_
    refine T_seq (T_region ?_)
    refine TL_q (.agg (lst C4.cells (gridN (turnG l) zero64 (8 * y)))) (fun _ _ hρ hm => r_loadW ag25 sz25 (hρ _ _ rfl) (hm.at 3 rfl) (tsz (grid_len (turnG_len _) zero64_len _))) rfl rfl rfl (w_n rfl) ?_
    refine TL_store 2 (.cells (lst C4.cells (gridN (turnG l) zero64 (8 * y))) 25) rfl (fun _ _ hρ hm => r_storeAll sz25 (hρ _ _ rfl) (hρ _ _ rfl) (hm.at 2 rfl) (tsz zero64_len) (tsz (grid_len (turnG_len _) zero64_len _)) (lst_one C4.cells_all _)) rfl rfl (w_n rfl) ?_
    refine TL_seq ?_
    refine T_ret' ?_
    refine ret_of rfl (.agg (lst C4.cells (gridN (turnG l) zero64 (8 * y)))) (fun tmps w hk hm => res1 rfl (res_cell (hk 2 _ rfl) (run_loadVar_agg ag25 sz25 (hm.at 2 rfl) (le64 (grid_len (turnG_len _) zero64_len _)) (ex64 (grid_len (turnG_len _) zero64_len _))))) (fun w hm => ?_)
    have hy8 : y = 8 := by omega
    subst hy8
    exact ⟨rfl, hm.ext⟩
end Go.Proofs.Ytmlkifojbjbpcaa
