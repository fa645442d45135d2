/- canvas: the tile's functions. Printed by a program of this seat's prover. -/
import Derived.Test.YtbiapeaghbndoaaBuildT
import Derived.Test.YtbiapeaghbndoaaHeap
import Derived.Test.YtbiapeaghbndoaaCall
namespace Go.Proofs.Ytbiapeaghbndoaa
open Go Go.RowKit
set_option maxRecDepth 10000
theorem is_c (x y : Int) (w : World) : Calls Try.prog 102 #[.int .i64 x, .int .i64 y] w fun e w' => e = .returned (.bool (isP x y)) ∧ Below w.heap.size w w' := by
  refine calls_of_T (l := [.int .i64 x, .int .i64 y]) 19 Try.func102 rfl rfl rfl ?_
  show T _ _ _ [(0, .int .i64 x), (1, .int .i64 y)] []
  refine T_seq (T_region ?_)
  refine TL_q (.bool false) (fun _ _ hρ _ => r_assign (hρ _ _ rfl)) rfl rfl rfl (w_n rfl) ?_
  refine TL_seq ?_
  by_cases c1 : (0 : Int) ≤ x
  · skip
    by_cases c2 : x < 8
    · skip
      by_cases c3 : (0 : Int) ≤ y
      · skip
        by_cases c4 : y < 8
        · skip
          refine T_seq (T_region ?_)
          refine TL_q (.int .i64 x) (fun _ _ hρ _ => r_move (hρ _ _ rfl)) rfl rfl rfl (w_n rfl) ?_
          refine TL_q (.bool true) (fun _ _ hρ _ => r_as (r_geq (hρ _ _ rfl) (hρ _ _ rfl)) (bool_as (decide_eq_true c1))) rfl rfl rfl (w_n rfl) ?_
          refine TL_q (.bool true) (fun _ _ hρ _ => r_move (hρ _ _ rfl)) rfl rfl rfl (w_n rfl) ?_
          refine TL_q (.int .i64 x) (fun _ _ hρ _ => r_move (hρ _ _ rfl)) rfl rfl rfl (want_y 7 rfl rfl rfl) ?_
          refine TL_q (.bool true) (fun _ _ hρ _ => r_as (r_lss (hρ _ _ rfl) (hρ _ _ rfl)) (bool_as (decide_eq_true c2))) rfl rfl rfl (want_y 7 rfl rfl rfl) ?_
          refine TL_q (.bool true) (fun _ _ hρ _ => r_pick_t (hρ _ _ rfl) (hρ _ _ rfl)) rfl rfl rfl (w_n rfl) ?_
          refine TL_q (.bool true) (fun _ _ hρ _ => r_move (hρ _ _ rfl)) rfl rfl rfl (w_n rfl) ?_
          refine TL_q (.int .i64 y) (fun _ _ hρ _ => r_move (hρ _ _ rfl)) rfl rfl rfl (want_y 11 rfl rfl rfl) ?_
          refine TL_q (.bool true) (fun _ _ hρ _ => r_as (r_geq (hρ _ _ rfl) (hρ _ _ rfl)) (bool_as (decide_eq_true c3))) rfl rfl rfl (want_y 11 rfl rfl rfl) ?_
          refine TL_q (.bool true) (fun _ _ hρ _ => r_pick_t (hρ _ _ rfl) (hρ _ _ rfl)) rfl rfl rfl (w_n rfl) ?_
          refine TL_q (.bool true) (fun _ _ hρ _ => r_move (hρ _ _ rfl)) rfl rfl rfl (w_n rfl) ?_
          refine TL_q (.int .i64 y) (fun _ _ hρ _ => r_move (hρ _ _ rfl)) rfl rfl rfl (want_y 15 rfl rfl rfl) ?_
          refine TL_q (.bool true) (fun _ _ hρ _ => r_as (r_lss (hρ _ _ rfl) (hρ _ _ rfl)) (bool_as (decide_eq_true c4))) rfl rfl rfl (want_y 15 rfl rfl rfl) ?_
          refine TL_q (.bool true) (fun _ _ hρ _ => r_pick_t (hρ _ _ rfl) (hρ _ _ rfl)) rfl rfl rfl (w_n rfl) ?_
          refine TL_q (.bool true) (fun _ _ hρ _ => r_assign (hρ _ _ rfl)) rfl rfl rfl (w_n rfl) ?_
          refine TL_seq ?_
          refine T_ret' ?_
          refine ret_of rfl (.bool true) (fun tmps w hk hm => res1 rfl (res_tmp (hk 4 _ rfl))) (fun w hm => ?_)
          exact ⟨congrArg Ending.returned (bool_as (decide_eq_true (by omega)).symm), hm.ext⟩
        · skip
          refine T_seq (T_region ?_)
          refine TL_q (.int .i64 x) (fun _ _ hρ _ => r_move (hρ _ _ rfl)) rfl rfl rfl (w_n rfl) ?_
          refine TL_q (.bool true) (fun _ _ hρ _ => r_as (r_geq (hρ _ _ rfl) (hρ _ _ rfl)) (bool_as (decide_eq_true c1))) rfl rfl rfl (w_n rfl) ?_
          refine TL_q (.bool true) (fun _ _ hρ _ => r_move (hρ _ _ rfl)) rfl rfl rfl (w_n rfl) ?_
          refine TL_q (.int .i64 x) (fun _ _ hρ _ => r_move (hρ _ _ rfl)) rfl rfl rfl (want_y 7 rfl rfl rfl) ?_
          refine TL_q (.bool true) (fun _ _ hρ _ => r_as (r_lss (hρ _ _ rfl) (hρ _ _ rfl)) (bool_as (decide_eq_true c2))) rfl rfl rfl (want_y 7 rfl rfl rfl) ?_
          refine TL_q (.bool true) (fun _ _ hρ _ => r_pick_t (hρ _ _ rfl) (hρ _ _ rfl)) rfl rfl rfl (w_n rfl) ?_
          refine TL_q (.bool true) (fun _ _ hρ _ => r_move (hρ _ _ rfl)) rfl rfl rfl (w_n rfl) ?_
          refine TL_q (.int .i64 y) (fun _ _ hρ _ => r_move (hρ _ _ rfl)) rfl rfl rfl (want_y 11 rfl rfl rfl) ?_
          refine TL_q (.bool true) (fun _ _ hρ _ => r_as (r_geq (hρ _ _ rfl) (hρ _ _ rfl)) (bool_as (decide_eq_true c3))) rfl rfl rfl (want_y 11 rfl rfl rfl) ?_
          refine TL_q (.bool true) (fun _ _ hρ _ => r_pick_t (hρ _ _ rfl) (hρ _ _ rfl)) rfl rfl rfl (w_n rfl) ?_
          refine TL_q (.bool true) (fun _ _ hρ _ => r_move (hρ _ _ rfl)) rfl rfl rfl (w_n rfl) ?_
          refine TL_q (.int .i64 y) (fun _ _ hρ _ => r_move (hρ _ _ rfl)) rfl rfl rfl (want_y 15 rfl rfl rfl) ?_
          refine TL_q (.bool false) (fun _ _ hρ _ => r_as (r_lss (hρ _ _ rfl) (hρ _ _ rfl)) (bool_as (decide_eq_false c4))) rfl rfl rfl (want_y 15 rfl rfl rfl) ?_
          refine TL_q (.bool false) (fun _ _ hρ _ => r_pick_t (hρ _ _ rfl) (hρ _ _ rfl)) rfl rfl rfl (w_n rfl) ?_
          refine TL_q (.bool false) (fun _ _ hρ _ => r_assign (hρ _ _ rfl)) rfl rfl rfl (w_n rfl) ?_
          refine TL_seq ?_
          refine T_ret' ?_
          refine ret_of rfl (.bool false) (fun tmps w hk hm => res1 rfl (res_tmp (hk 4 _ rfl))) (fun w hm => ?_)
          exact ⟨congrArg Ending.returned (bool_as (decide_eq_false (by omega)).symm), hm.ext⟩
      · skip
        by_cases c4 : y < 8
        · skip
          refine T_seq (T_region ?_)
          refine TL_q (.int .i64 x) (fun _ _ hρ _ => r_move (hρ _ _ rfl)) rfl rfl rfl (w_n rfl) ?_
          refine TL_q (.bool true) (fun _ _ hρ _ => r_as (r_geq (hρ _ _ rfl) (hρ _ _ rfl)) (bool_as (decide_eq_true c1))) rfl rfl rfl (w_n rfl) ?_
          refine TL_q (.bool true) (fun _ _ hρ _ => r_move (hρ _ _ rfl)) rfl rfl rfl (w_n rfl) ?_
          refine TL_q (.int .i64 x) (fun _ _ hρ _ => r_move (hρ _ _ rfl)) rfl rfl rfl (want_y 7 rfl rfl rfl) ?_
          refine TL_q (.bool true) (fun _ _ hρ _ => r_as (r_lss (hρ _ _ rfl) (hρ _ _ rfl)) (bool_as (decide_eq_true c2))) rfl rfl rfl (want_y 7 rfl rfl rfl) ?_
          refine TL_q (.bool true) (fun _ _ hρ _ => r_pick_t (hρ _ _ rfl) (hρ _ _ rfl)) rfl rfl rfl (w_n rfl) ?_
          refine TL_q (.bool true) (fun _ _ hρ _ => r_move (hρ _ _ rfl)) rfl rfl rfl (w_n rfl) ?_
          refine TL_q (.int .i64 y) (fun _ _ hρ _ => r_move (hρ _ _ rfl)) rfl rfl rfl (want_y 11 rfl rfl rfl) ?_
          refine TL_q (.bool false) (fun _ _ hρ _ => r_as (r_geq (hρ _ _ rfl) (hρ _ _ rfl)) (bool_as (decide_eq_false c3))) rfl rfl rfl (want_y 11 rfl rfl rfl) ?_
          refine TL_q (.bool false) (fun _ _ hρ _ => r_pick_t (hρ _ _ rfl) (hρ _ _ rfl)) rfl rfl rfl (w_n rfl) ?_
          refine TL_q (.bool false) (fun _ _ hρ _ => r_move (hρ _ _ rfl)) rfl rfl rfl (w_n rfl) ?_
          refine TL_no rfl rfl (want_n 15 rfl rfl rfl) ?_
          refine TL_no rfl rfl (want_n 15 rfl rfl rfl) ?_
          refine TL_q (.bool false) (fun _ _ hρ _ => r_pick_f (hρ _ _ rfl) (hρ _ _ rfl)) rfl rfl rfl (w_n rfl) ?_
          refine TL_q (.bool false) (fun _ _ hρ _ => r_assign (hρ _ _ rfl)) rfl rfl rfl (w_n rfl) ?_
          refine TL_seq ?_
          refine T_ret' ?_
          refine ret_of rfl (.bool false) (fun tmps w hk hm => res1 rfl (res_tmp (hk 4 _ rfl))) (fun w hm => ?_)
          exact ⟨congrArg Ending.returned (bool_as (decide_eq_false (by omega)).symm), hm.ext⟩
        · skip
          refine T_seq (T_region ?_)
          refine TL_q (.int .i64 x) (fun _ _ hρ _ => r_move (hρ _ _ rfl)) rfl rfl rfl (w_n rfl) ?_
          refine TL_q (.bool true) (fun _ _ hρ _ => r_as (r_geq (hρ _ _ rfl) (hρ _ _ rfl)) (bool_as (decide_eq_true c1))) rfl rfl rfl (w_n rfl) ?_
          refine TL_q (.bool true) (fun _ _ hρ _ => r_move (hρ _ _ rfl)) rfl rfl rfl (w_n rfl) ?_
          refine TL_q (.int .i64 x) (fun _ _ hρ _ => r_move (hρ _ _ rfl)) rfl rfl rfl (want_y 7 rfl rfl rfl) ?_
          refine TL_q (.bool true) (fun _ _ hρ _ => r_as (r_lss (hρ _ _ rfl) (hρ _ _ rfl)) (bool_as (decide_eq_true c2))) rfl rfl rfl (want_y 7 rfl rfl rfl) ?_
          refine TL_q (.bool true) (fun _ _ hρ _ => r_pick_t (hρ _ _ rfl) (hρ _ _ rfl)) rfl rfl rfl (w_n rfl) ?_
          refine TL_q (.bool true) (fun _ _ hρ _ => r_move (hρ _ _ rfl)) rfl rfl rfl (w_n rfl) ?_
          refine TL_q (.int .i64 y) (fun _ _ hρ _ => r_move (hρ _ _ rfl)) rfl rfl rfl (want_y 11 rfl rfl rfl) ?_
          refine TL_q (.bool false) (fun _ _ hρ _ => r_as (r_geq (hρ _ _ rfl) (hρ _ _ rfl)) (bool_as (decide_eq_false c3))) rfl rfl rfl (want_y 11 rfl rfl rfl) ?_
          refine TL_q (.bool false) (fun _ _ hρ _ => r_pick_t (hρ _ _ rfl) (hρ _ _ rfl)) rfl rfl rfl (w_n rfl) ?_
          refine TL_q (.bool false) (fun _ _ hρ _ => r_move (hρ _ _ rfl)) rfl rfl rfl (w_n rfl) ?_
          refine TL_no rfl rfl (want_n 15 rfl rfl rfl) ?_
          refine TL_no rfl rfl (want_n 15 rfl rfl rfl) ?_
          refine TL_q (.bool false) (fun _ _ hρ _ => r_pick_f (hρ _ _ rfl) (hρ _ _ rfl)) rfl rfl rfl (w_n rfl) ?_
          refine TL_q (.bool false) (fun _ _ hρ _ => r_assign (hρ _ _ rfl)) rfl rfl rfl (w_n rfl) ?_
          refine TL_seq ?_
          refine T_ret' ?_
          refine ret_of rfl (.bool false) (fun tmps w hk hm => res1 rfl (res_tmp (hk 4 _ rfl))) (fun w hm => ?_)
          exact ⟨congrArg Ending.returned (bool_as (decide_eq_false (by omega)).symm), hm.ext⟩
    · skip
      by_cases c3 : (0 : Int) ≤ y
      · skip
        by_cases c4 : y < 8
        · skip
          refine T_seq (T_region ?_)
          refine TL_q (.int .i64 x) (fun _ _ hρ _ => r_move (hρ _ _ rfl)) rfl rfl rfl (w_n rfl) ?_
          refine TL_q (.bool true) (fun _ _ hρ _ => r_as (r_geq (hρ _ _ rfl) (hρ _ _ rfl)) (bool_as (decide_eq_true c1))) rfl rfl rfl (w_n rfl) ?_
          refine TL_q (.bool true) (fun _ _ hρ _ => r_move (hρ _ _ rfl)) rfl rfl rfl (w_n rfl) ?_
          refine TL_q (.int .i64 x) (fun _ _ hρ _ => r_move (hρ _ _ rfl)) rfl rfl rfl (want_y 7 rfl rfl rfl) ?_
          refine TL_q (.bool false) (fun _ _ hρ _ => r_as (r_lss (hρ _ _ rfl) (hρ _ _ rfl)) (bool_as (decide_eq_false c2))) rfl rfl rfl (want_y 7 rfl rfl rfl) ?_
          refine TL_q (.bool false) (fun _ _ hρ _ => r_pick_t (hρ _ _ rfl) (hρ _ _ rfl)) rfl rfl rfl (w_n rfl) ?_
          refine TL_q (.bool false) (fun _ _ hρ _ => r_move (hρ _ _ rfl)) rfl rfl rfl (w_n rfl) ?_
          refine TL_no rfl rfl (want_n 11 rfl rfl rfl) ?_
          refine TL_no rfl rfl (want_n 11 rfl rfl rfl) ?_
          refine TL_q (.bool false) (fun _ _ hρ _ => r_pick_f (hρ _ _ rfl) (hρ _ _ rfl)) rfl rfl rfl (w_n rfl) ?_
          refine TL_q (.bool false) (fun _ _ hρ _ => r_move (hρ _ _ rfl)) rfl rfl rfl (w_n rfl) ?_
          refine TL_no rfl rfl (want_n 15 rfl rfl rfl) ?_
          refine TL_no rfl rfl (want_n 15 rfl rfl rfl) ?_
          refine TL_q (.bool false) (fun _ _ hρ _ => r_pick_f (hρ _ _ rfl) (hρ _ _ rfl)) rfl rfl rfl (w_n rfl) ?_
          refine TL_q (.bool false) (fun _ _ hρ _ => r_assign (hρ _ _ rfl)) rfl rfl rfl (w_n rfl) ?_
          refine TL_seq ?_
          refine T_ret' ?_
          refine ret_of rfl (.bool false) (fun tmps w hk hm => res1 rfl (res_tmp (hk 4 _ rfl))) (fun w hm => ?_)
          exact ⟨congrArg Ending.returned (bool_as (decide_eq_false (by omega)).symm), hm.ext⟩
        · skip
          refine T_seq (T_region ?_)
          refine TL_q (.int .i64 x) (fun _ _ hρ _ => r_move (hρ _ _ rfl)) rfl rfl rfl (w_n rfl) ?_
          refine TL_q (.bool true) (fun _ _ hρ _ => r_as (r_geq (hρ _ _ rfl) (hρ _ _ rfl)) (bool_as (decide_eq_true c1))) rfl rfl rfl (w_n rfl) ?_
          refine TL_q (.bool true) (fun _ _ hρ _ => r_move (hρ _ _ rfl)) rfl rfl rfl (w_n rfl) ?_
          refine TL_q (.int .i64 x) (fun _ _ hρ _ => r_move (hρ _ _ rfl)) rfl rfl rfl (want_y 7 rfl rfl rfl) ?_
          refine TL_q (.bool false) (fun _ _ hρ _ => r_as (r_lss (hρ _ _ rfl) (hρ _ _ rfl)) (bool_as (decide_eq_false c2))) rfl rfl rfl (want_y 7 rfl rfl rfl) ?_
          refine TL_q (.bool false) (fun _ _ hρ _ => r_pick_t (hρ _ _ rfl) (hρ _ _ rfl)) rfl rfl rfl (w_n rfl) ?_
          refine TL_q (.bool false) (fun _ _ hρ _ => r_move (hρ _ _ rfl)) rfl rfl rfl (w_n rfl) ?_
          refine TL_no rfl rfl (want_n 11 rfl rfl rfl) ?_
          refine TL_no rfl rfl (want_n 11 rfl rfl rfl) ?_
          refine TL_q (.bool false) (fun _ _ hρ _ => r_pick_f (hρ _ _ rfl) (hρ _ _ rfl)) rfl rfl rfl (w_n rfl) ?_
          refine TL_q (.bool false) (fun _ _ hρ _ => r_move (hρ _ _ rfl)) rfl rfl rfl (w_n rfl) ?_
          refine TL_no rfl rfl (want_n 15 rfl rfl rfl) ?_
          refine TL_no rfl rfl (want_n 15 rfl rfl rfl) ?_
          refine TL_q (.bool false) (fun _ _ hρ _ => r_pick_f (hρ _ _ rfl) (hρ _ _ rfl)) rfl rfl rfl (w_n rfl) ?_
          refine TL_q (.bool false) (fun _ _ hρ _ => r_assign (hρ _ _ rfl)) rfl rfl rfl (w_n rfl) ?_
          refine TL_seq ?_
          refine T_ret' ?_
          refine ret_of rfl (.bool false) (fun tmps w hk hm => res1 rfl (res_tmp (hk 4 _ rfl))) (fun w hm => ?_)
          exact ⟨congrArg Ending.returned (bool_as (decide_eq_false (by omega)).symm), hm.ext⟩
      · skip
        by_cases c4 : y < 8
        · skip
          refine T_seq (T_region ?_)
          refine TL_q (.int .i64 x) (fun _ _ hρ _ => r_move (hρ _ _ rfl)) rfl rfl rfl (w_n rfl) ?_
          refine TL_q (.bool true) (fun _ _ hρ _ => r_as (r_geq (hρ _ _ rfl) (hρ _ _ rfl)) (bool_as (decide_eq_true c1))) rfl rfl rfl (w_n rfl) ?_
          refine TL_q (.bool true) (fun _ _ hρ _ => r_move (hρ _ _ rfl)) rfl rfl rfl (w_n rfl) ?_
          refine TL_q (.int .i64 x) (fun _ _ hρ _ => r_move (hρ _ _ rfl)) rfl rfl rfl (want_y 7 rfl rfl rfl) ?_
          refine TL_q (.bool false) (fun _ _ hρ _ => r_as (r_lss (hρ _ _ rfl) (hρ _ _ rfl)) (bool_as (decide_eq_false c2))) rfl rfl rfl (want_y 7 rfl rfl rfl) ?_
          refine TL_q (.bool false) (fun _ _ hρ _ => r_pick_t (hρ _ _ rfl) (hρ _ _ rfl)) rfl rfl rfl (w_n rfl) ?_
          refine TL_q (.bool false) (fun _ _ hρ _ => r_move (hρ _ _ rfl)) rfl rfl rfl (w_n rfl) ?_
          refine TL_no rfl rfl (want_n 11 rfl rfl rfl) ?_
          refine TL_no rfl rfl (want_n 11 rfl rfl rfl) ?_
          refine TL_q (.bool false) (fun _ _ hρ _ => r_pick_f (hρ _ _ rfl) (hρ _ _ rfl)) rfl rfl rfl (w_n rfl) ?_
          refine TL_q (.bool false) (fun _ _ hρ _ => r_move (hρ _ _ rfl)) rfl rfl rfl (w_n rfl) ?_
          refine TL_no rfl rfl (want_n 15 rfl rfl rfl) ?_
          refine TL_no rfl rfl (want_n 15 rfl rfl rfl) ?_
          refine TL_q (.bool false) (fun _ _ hρ _ => r_pick_f (hρ _ _ rfl) (hρ _ _ rfl)) rfl rfl rfl (w_n rfl) ?_
          refine TL_q (.bool false) (fun _ _ hρ _ => r_assign (hρ _ _ rfl)) rfl rfl rfl (w_n rfl) ?_
          refine TL_seq ?_
          refine T_ret' ?_
          refine ret_of rfl (.bool false) (fun tmps w hk hm => res1 rfl (res_tmp (hk 4 _ rfl))) (fun w hm => ?_)
          exact ⟨congrArg Ending.returned (bool_as (decide_eq_false (by omega)).symm), hm.ext⟩
        · skip
          refine T_seq (T_region ?_)
          refine TL_q (.int .i64 x) (fun _ _ hρ _ => r_move (hρ _ _ rfl)) rfl rfl rfl (w_n rfl) ?_
          refine TL_q (.bool true) (fun _ _ hρ _ => r_as (r_geq (hρ _ _ rfl) (hρ _ _ rfl)) (bool_as (decide_eq_true c1))) rfl rfl rfl (w_n rfl) ?_
          refine TL_q (.bool true) (fun _ _ hρ _ => r_move (hρ _ _ rfl)) rfl rfl rfl (w_n rfl) ?_
          refine TL_q (.int .i64 x) (fun _ _ hρ _ => r_move (hρ _ _ rfl)) rfl rfl rfl (want_y 7 rfl rfl rfl) ?_
          refine TL_q (.bool false) (fun _ _ hρ _ => r_as (r_lss (hρ _ _ rfl) (hρ _ _ rfl)) (bool_as (decide_eq_false c2))) rfl rfl rfl (want_y 7 rfl rfl rfl) ?_
          refine TL_q (.bool false) (fun _ _ hρ _ => r_pick_t (hρ _ _ rfl) (hρ _ _ rfl)) rfl rfl rfl (w_n rfl) ?_
          refine TL_q (.bool false) (fun _ _ hρ _ => r_move (hρ _ _ rfl)) rfl rfl rfl (w_n rfl) ?_
          refine TL_no rfl rfl (want_n 11 rfl rfl rfl) ?_
          refine TL_no rfl rfl (want_n 11 rfl rfl rfl) ?_
          refine TL_q (.bool false) (fun _ _ hρ _ => r_pick_f (hρ _ _ rfl) (hρ _ _ rfl)) rfl rfl rfl (w_n rfl) ?_
          refine TL_q (.bool false) (fun _ _ hρ _ => r_move (hρ _ _ rfl)) rfl rfl rfl (w_n rfl) ?_
          refine TL_no rfl rfl (want_n 15 rfl rfl rfl) ?_
          refine TL_no rfl rfl (want_n 15 rfl rfl rfl) ?_
          refine TL_q (.bool false) (fun _ _ hρ _ => r_pick_f (hρ _ _ rfl) (hρ _ _ rfl)) rfl rfl rfl (w_n rfl) ?_
          refine TL_q (.bool false) (fun _ _ hρ _ => r_assign (hρ _ _ rfl)) rfl rfl rfl (w_n rfl) ?_
          refine TL_seq ?_
          refine T_ret' ?_
          refine ret_of rfl (.bool false) (fun tmps w hk hm => res1 rfl (res_tmp (hk 4 _ rfl))) (fun w hm => ?_)
          exact ⟨congrArg Ending.returned (bool_as (decide_eq_false (by omega)).symm), hm.ext⟩
  · skip
    by_cases c2 : x < 8
    · skip
      by_cases c3 : (0 : Int) ≤ y
      · skip
        by_cases c4 : y < 8
        · skip
          refine T_seq (T_region ?_)
          refine TL_q (.int .i64 x) (fun _ _ hρ _ => r_move (hρ _ _ rfl)) rfl rfl rfl (w_n rfl) ?_
          refine TL_q (.bool false) (fun _ _ hρ _ => r_as (r_geq (hρ _ _ rfl) (hρ _ _ rfl)) (bool_as (decide_eq_false c1))) rfl rfl rfl (w_n rfl) ?_
          refine TL_q (.bool false) (fun _ _ hρ _ => r_move (hρ _ _ rfl)) rfl rfl rfl (w_n rfl) ?_
          refine TL_no rfl rfl (want_n 7 rfl rfl rfl) ?_
          refine TL_no rfl rfl (want_n 7 rfl rfl rfl) ?_
          refine TL_q (.bool false) (fun _ _ hρ _ => r_pick_f (hρ _ _ rfl) (hρ _ _ rfl)) rfl rfl rfl (w_n rfl) ?_
          refine TL_q (.bool false) (fun _ _ hρ _ => r_move (hρ _ _ rfl)) rfl rfl rfl (w_n rfl) ?_
          refine TL_no rfl rfl (want_n 11 rfl rfl rfl) ?_
          refine TL_no rfl rfl (want_n 11 rfl rfl rfl) ?_
          refine TL_q (.bool false) (fun _ _ hρ _ => r_pick_f (hρ _ _ rfl) (hρ _ _ rfl)) rfl rfl rfl (w_n rfl) ?_
          refine TL_q (.bool false) (fun _ _ hρ _ => r_move (hρ _ _ rfl)) rfl rfl rfl (w_n rfl) ?_
          refine TL_no rfl rfl (want_n 15 rfl rfl rfl) ?_
          refine TL_no rfl rfl (want_n 15 rfl rfl rfl) ?_
          refine TL_q (.bool false) (fun _ _ hρ _ => r_pick_f (hρ _ _ rfl) (hρ _ _ rfl)) rfl rfl rfl (w_n rfl) ?_
          refine TL_q (.bool false) (fun _ _ hρ _ => r_assign (hρ _ _ rfl)) rfl rfl rfl (w_n rfl) ?_
          refine TL_seq ?_
          refine T_ret' ?_
          refine ret_of rfl (.bool false) (fun tmps w hk hm => res1 rfl (res_tmp (hk 4 _ rfl))) (fun w hm => ?_)
          exact ⟨congrArg Ending.returned (bool_as (decide_eq_false (by omega)).symm), hm.ext⟩
        · skip
          refine T_seq (T_region ?_)
          refine TL_q (.int .i64 x) (fun _ _ hρ _ => r_move (hρ _ _ rfl)) rfl rfl rfl (w_n rfl) ?_
          refine TL_q (.bool false) (fun _ _ hρ _ => r_as (r_geq (hρ _ _ rfl) (hρ _ _ rfl)) (bool_as (decide_eq_false c1))) rfl rfl rfl (w_n rfl) ?_
          refine TL_q (.bool false) (fun _ _ hρ _ => r_move (hρ _ _ rfl)) rfl rfl rfl (w_n rfl) ?_
          refine TL_no rfl rfl (want_n 7 rfl rfl rfl) ?_
          refine TL_no rfl rfl (want_n 7 rfl rfl rfl) ?_
          refine TL_q (.bool false) (fun _ _ hρ _ => r_pick_f (hρ _ _ rfl) (hρ _ _ rfl)) rfl rfl rfl (w_n rfl) ?_
          refine TL_q (.bool false) (fun _ _ hρ _ => r_move (hρ _ _ rfl)) rfl rfl rfl (w_n rfl) ?_
          refine TL_no rfl rfl (want_n 11 rfl rfl rfl) ?_
          refine TL_no rfl rfl (want_n 11 rfl rfl rfl) ?_
          refine TL_q (.bool false) (fun _ _ hρ _ => r_pick_f (hρ _ _ rfl) (hρ _ _ rfl)) rfl rfl rfl (w_n rfl) ?_
          refine TL_q (.bool false) (fun _ _ hρ _ => r_move (hρ _ _ rfl)) rfl rfl rfl (w_n rfl) ?_
          refine TL_no rfl rfl (want_n 15 rfl rfl rfl) ?_
          refine TL_no rfl rfl (want_n 15 rfl rfl rfl) ?_
          refine TL_q (.bool false) (fun _ _ hρ _ => r_pick_f (hρ _ _ rfl) (hρ _ _ rfl)) rfl rfl rfl (w_n rfl) ?_
          refine TL_q (.bool false) (fun _ _ hρ _ => r_assign (hρ _ _ rfl)) rfl rfl rfl (w_n rfl) ?_
          refine TL_seq ?_
          refine T_ret' ?_
          refine ret_of rfl (.bool false) (fun tmps w hk hm => res1 rfl (res_tmp (hk 4 _ rfl))) (fun w hm => ?_)
          exact ⟨congrArg Ending.returned (bool_as (decide_eq_false (by omega)).symm), hm.ext⟩
      · skip
        by_cases c4 : y < 8
        · skip
          refine T_seq (T_region ?_)
          refine TL_q (.int .i64 x) (fun _ _ hρ _ => r_move (hρ _ _ rfl)) rfl rfl rfl (w_n rfl) ?_
          refine TL_q (.bool false) (fun _ _ hρ _ => r_as (r_geq (hρ _ _ rfl) (hρ _ _ rfl)) (bool_as (decide_eq_false c1))) rfl rfl rfl (w_n rfl) ?_
          refine TL_q (.bool false) (fun _ _ hρ _ => r_move (hρ _ _ rfl)) rfl rfl rfl (w_n rfl) ?_
          refine TL_no rfl rfl (want_n 7 rfl rfl rfl) ?_
          refine TL_no rfl rfl (want_n 7 rfl rfl rfl) ?_
          refine TL_q (.bool false) (fun _ _ hρ _ => r_pick_f (hρ _ _ rfl) (hρ _ _ rfl)) rfl rfl rfl (w_n rfl) ?_
          refine TL_q (.bool false) (fun _ _ hρ _ => r_move (hρ _ _ rfl)) rfl rfl rfl (w_n rfl) ?_
          refine TL_no rfl rfl (want_n 11 rfl rfl rfl) ?_
          refine TL_no rfl rfl (want_n 11 rfl rfl rfl) ?_
          refine TL_q (.bool false) (fun _ _ hρ _ => r_pick_f (hρ _ _ rfl) (hρ _ _ rfl)) rfl rfl rfl (w_n rfl) ?_
          refine TL_q (.bool false) (fun _ _ hρ _ => r_move (hρ _ _ rfl)) rfl rfl rfl (w_n rfl) ?_
          refine TL_no rfl rfl (want_n 15 rfl rfl rfl) ?_
          refine TL_no rfl rfl (want_n 15 rfl rfl rfl) ?_
          refine TL_q (.bool false) (fun _ _ hρ _ => r_pick_f (hρ _ _ rfl) (hρ _ _ rfl)) rfl rfl rfl (w_n rfl) ?_
          refine TL_q (.bool false) (fun _ _ hρ _ => r_assign (hρ _ _ rfl)) rfl rfl rfl (w_n rfl) ?_
          refine TL_seq ?_
          refine T_ret' ?_
          refine ret_of rfl (.bool false) (fun tmps w hk hm => res1 rfl (res_tmp (hk 4 _ rfl))) (fun w hm => ?_)
          exact ⟨congrArg Ending.returned (bool_as (decide_eq_false (by omega)).symm), hm.ext⟩
        · skip
          refine T_seq (T_region ?_)
          refine TL_q (.int .i64 x) (fun _ _ hρ _ => r_move (hρ _ _ rfl)) rfl rfl rfl (w_n rfl) ?_
          refine TL_q (.bool false) (fun _ _ hρ _ => r_as (r_geq (hρ _ _ rfl) (hρ _ _ rfl)) (bool_as (decide_eq_false c1))) rfl rfl rfl (w_n rfl) ?_
          refine TL_q (.bool false) (fun _ _ hρ _ => r_move (hρ _ _ rfl)) rfl rfl rfl (w_n rfl) ?_
          refine TL_no rfl rfl (want_n 7 rfl rfl rfl) ?_
          refine TL_no rfl rfl (want_n 7 rfl rfl rfl) ?_
          refine TL_q (.bool false) (fun _ _ hρ _ => r_pick_f (hρ _ _ rfl) (hρ _ _ rfl)) rfl rfl rfl (w_n rfl) ?_
          refine TL_q (.bool false) (fun _ _ hρ _ => r_move (hρ _ _ rfl)) rfl rfl rfl (w_n rfl) ?_
          refine TL_no rfl rfl (want_n 11 rfl rfl rfl) ?_
          refine TL_no rfl rfl (want_n 11 rfl rfl rfl) ?_
          refine TL_q (.bool false) (fun _ _ hρ _ => r_pick_f (hρ _ _ rfl) (hρ _ _ rfl)) rfl rfl rfl (w_n rfl) ?_
          refine TL_q (.bool false) (fun _ _ hρ _ => r_move (hρ _ _ rfl)) rfl rfl rfl (w_n rfl) ?_
          refine TL_no rfl rfl (want_n 15 rfl rfl rfl) ?_
          refine TL_no rfl rfl (want_n 15 rfl rfl rfl) ?_
          refine TL_q (.bool false) (fun _ _ hρ _ => r_pick_f (hρ _ _ rfl) (hρ _ _ rfl)) rfl rfl rfl (w_n rfl) ?_
          refine TL_q (.bool false) (fun _ _ hρ _ => r_assign (hρ _ _ rfl)) rfl rfl rfl (w_n rfl) ?_
          refine TL_seq ?_
          refine T_ret' ?_
          refine ret_of rfl (.bool false) (fun tmps w hk hm => res1 rfl (res_tmp (hk 4 _ rfl))) (fun w hm => ?_)
          exact ⟨congrArg Ending.returned (bool_as (decide_eq_false (by omega)).symm), hm.ext⟩
    · skip
      by_cases c3 : (0 : Int) ≤ y
      · skip
        by_cases c4 : y < 8
        · skip
          refine T_seq (T_region ?_)
          refine TL_q (.int .i64 x) (fun _ _ hρ _ => r_move (hρ _ _ rfl)) rfl rfl rfl (w_n rfl) ?_
          refine TL_q (.bool false) (fun _ _ hρ _ => r_as (r_geq (hρ _ _ rfl) (hρ _ _ rfl)) (bool_as (decide_eq_false c1))) rfl rfl rfl (w_n rfl) ?_
          refine TL_q (.bool false) (fun _ _ hρ _ => r_move (hρ _ _ rfl)) rfl rfl rfl (w_n rfl) ?_
          refine TL_no rfl rfl (want_n 7 rfl rfl rfl) ?_
          refine TL_no rfl rfl (want_n 7 rfl rfl rfl) ?_
          refine TL_q (.bool false) (fun _ _ hρ _ => r_pick_f (hρ _ _ rfl) (hρ _ _ rfl)) rfl rfl rfl (w_n rfl) ?_
          refine TL_q (.bool false) (fun _ _ hρ _ => r_move (hρ _ _ rfl)) rfl rfl rfl (w_n rfl) ?_
          refine TL_no rfl rfl (want_n 11 rfl rfl rfl) ?_
          refine TL_no rfl rfl (want_n 11 rfl rfl rfl) ?_
          refine TL_q (.bool false) (fun _ _ hρ _ => r_pick_f (hρ _ _ rfl) (hρ _ _ rfl)) rfl rfl rfl (w_n rfl) ?_
          refine TL_q (.bool false) (fun _ _ hρ _ => r_move (hρ _ _ rfl)) rfl rfl rfl (w_n rfl) ?_
          refine TL_no rfl rfl (want_n 15 rfl rfl rfl) ?_
          refine TL_no rfl rfl (want_n 15 rfl rfl rfl) ?_
          refine TL_q (.bool false) (fun _ _ hρ _ => r_pick_f (hρ _ _ rfl) (hρ _ _ rfl)) rfl rfl rfl (w_n rfl) ?_
          refine TL_q (.bool false) (fun _ _ hρ _ => r_assign (hρ _ _ rfl)) rfl rfl rfl (w_n rfl) ?_
          refine TL_seq ?_
          refine T_ret' ?_
          refine ret_of rfl (.bool false) (fun tmps w hk hm => res1 rfl (res_tmp (hk 4 _ rfl))) (fun w hm => ?_)
          exact ⟨congrArg Ending.returned (bool_as (decide_eq_false (by omega)).symm), hm.ext⟩
        · skip
          refine T_seq (T_region ?_)
          refine TL_q (.int .i64 x) (fun _ _ hρ _ => r_move (hρ _ _ rfl)) rfl rfl rfl (w_n rfl) ?_
          refine TL_q (.bool false) (fun _ _ hρ _ => r_as (r_geq (hρ _ _ rfl) (hρ _ _ rfl)) (bool_as (decide_eq_false c1))) rfl rfl rfl (w_n rfl) ?_
          refine TL_q (.bool false) (fun _ _ hρ _ => r_move (hρ _ _ rfl)) rfl rfl rfl (w_n rfl) ?_
          refine TL_no rfl rfl (want_n 7 rfl rfl rfl) ?_
          refine TL_no rfl rfl (want_n 7 rfl rfl rfl) ?_
          refine TL_q (.bool false) (fun _ _ hρ _ => r_pick_f (hρ _ _ rfl) (hρ _ _ rfl)) rfl rfl rfl (w_n rfl) ?_
          refine TL_q (.bool false) (fun _ _ hρ _ => r_move (hρ _ _ rfl)) rfl rfl rfl (w_n rfl) ?_
          refine TL_no rfl rfl (want_n 11 rfl rfl rfl) ?_
          refine TL_no rfl rfl (want_n 11 rfl rfl rfl) ?_
          refine TL_q (.bool false) (fun _ _ hρ _ => r_pick_f (hρ _ _ rfl) (hρ _ _ rfl)) rfl rfl rfl (w_n rfl) ?_
          refine TL_q (.bool false) (fun _ _ hρ _ => r_move (hρ _ _ rfl)) rfl rfl rfl (w_n rfl) ?_
          refine TL_no rfl rfl (want_n 15 rfl rfl rfl) ?_
          refine TL_no rfl rfl (want_n 15 rfl rfl rfl) ?_
          refine TL_q (.bool false) (fun _ _ hρ _ => r_pick_f (hρ _ _ rfl) (hρ _ _ rfl)) rfl rfl rfl (w_n rfl) ?_
          refine TL_q (.bool false) (fun _ _ hρ _ => r_assign (hρ _ _ rfl)) rfl rfl rfl (w_n rfl) ?_
          refine TL_seq ?_
          refine T_ret' ?_
          refine ret_of rfl (.bool false) (fun tmps w hk hm => res1 rfl (res_tmp (hk 4 _ rfl))) (fun w hm => ?_)
          exact ⟨congrArg Ending.returned (bool_as (decide_eq_false (by omega)).symm), hm.ext⟩
      · skip
        by_cases c4 : y < 8
        · skip
          refine T_seq (T_region ?_)
          refine TL_q (.int .i64 x) (fun _ _ hρ _ => r_move (hρ _ _ rfl)) rfl rfl rfl (w_n rfl) ?_
          refine TL_q (.bool false) (fun _ _ hρ _ => r_as (r_geq (hρ _ _ rfl) (hρ _ _ rfl)) (bool_as (decide_eq_false c1))) rfl rfl rfl (w_n rfl) ?_
          refine TL_q (.bool false) (fun _ _ hρ _ => r_move (hρ _ _ rfl)) rfl rfl rfl (w_n rfl) ?_
          refine TL_no rfl rfl (want_n 7 rfl rfl rfl) ?_
          refine TL_no rfl rfl (want_n 7 rfl rfl rfl) ?_
          refine TL_q (.bool false) (fun _ _ hρ _ => r_pick_f (hρ _ _ rfl) (hρ _ _ rfl)) rfl rfl rfl (w_n rfl) ?_
          refine TL_q (.bool false) (fun _ _ hρ _ => r_move (hρ _ _ rfl)) rfl rfl rfl (w_n rfl) ?_
          refine TL_no rfl rfl (want_n 11 rfl rfl rfl) ?_
          refine TL_no rfl rfl (want_n 11 rfl rfl rfl) ?_
          refine TL_q (.bool false) (fun _ _ hρ _ => r_pick_f (hρ _ _ rfl) (hρ _ _ rfl)) rfl rfl rfl (w_n rfl) ?_
          refine TL_q (.bool false) (fun _ _ hρ _ => r_move (hρ _ _ rfl)) rfl rfl rfl (w_n rfl) ?_
          refine TL_no rfl rfl (want_n 15 rfl rfl rfl) ?_
          refine TL_no rfl rfl (want_n 15 rfl rfl rfl) ?_
          refine TL_q (.bool false) (fun _ _ hρ _ => r_pick_f (hρ _ _ rfl) (hρ _ _ rfl)) rfl rfl rfl (w_n rfl) ?_
          refine TL_q (.bool false) (fun _ _ hρ _ => r_assign (hρ _ _ rfl)) rfl rfl rfl (w_n rfl) ?_
          refine TL_seq ?_
          refine T_ret' ?_
          refine ret_of rfl (.bool false) (fun tmps w hk hm => res1 rfl (res_tmp (hk 4 _ rfl))) (fun w hm => ?_)
          exact ⟨congrArg Ending.returned (bool_as (decide_eq_false (by omega)).symm), hm.ext⟩
        · skip
          refine T_seq (T_region ?_)
          refine TL_q (.int .i64 x) (fun _ _ hρ _ => r_move (hρ _ _ rfl)) rfl rfl rfl (w_n rfl) ?_
          refine TL_q (.bool false) (fun _ _ hρ _ => r_as (r_geq (hρ _ _ rfl) (hρ _ _ rfl)) (bool_as (decide_eq_false c1))) rfl rfl rfl (w_n rfl) ?_
          refine TL_q (.bool false) (fun _ _ hρ _ => r_move (hρ _ _ rfl)) rfl rfl rfl (w_n rfl) ?_
          refine TL_no rfl rfl (want_n 7 rfl rfl rfl) ?_
          refine TL_no rfl rfl (want_n 7 rfl rfl rfl) ?_
          refine TL_q (.bool false) (fun _ _ hρ _ => r_pick_f (hρ _ _ rfl) (hρ _ _ rfl)) rfl rfl rfl (w_n rfl) ?_
          refine TL_q (.bool false) (fun _ _ hρ _ => r_move (hρ _ _ rfl)) rfl rfl rfl (w_n rfl) ?_
          refine TL_no rfl rfl (want_n 11 rfl rfl rfl) ?_
          refine TL_no rfl rfl (want_n 11 rfl rfl rfl) ?_
          refine TL_q (.bool false) (fun _ _ hρ _ => r_pick_f (hρ _ _ rfl) (hρ _ _ rfl)) rfl rfl rfl (w_n rfl) ?_
          refine TL_q (.bool false) (fun _ _ hρ _ => r_move (hρ _ _ rfl)) rfl rfl rfl (w_n rfl) ?_
          refine TL_no rfl rfl (want_n 15 rfl rfl rfl) ?_
          refine TL_no rfl rfl (want_n 15 rfl rfl rfl) ?_
          refine TL_q (.bool false) (fun _ _ hρ _ => r_pick_f (hρ _ _ rfl) (hρ _ _ rfl)) rfl rfl rfl (w_n rfl) ?_
          refine TL_q (.bool false) (fun _ _ hρ _ => r_assign (hρ _ _ rfl)) rfl rfl rfl (w_n rfl) ?_
          refine TL_seq ?_
          refine T_ret' ?_
          refine ret_of rfl (.bool false) (fun tmps w hk hm => res1 rfl (res_tmp (hk 4 _ rfl))) (fun w hm => ?_)
          exact ⟨congrArg Ending.returned (bool_as (decide_eq_false (by omega)).symm), hm.ext⟩

theorem put_ht (w₀ : World) (L : Heap) (B : Nat) (m : List C4) (x y : Int) (c : C4) (hl : m.length = 64) (hi : lk L 900 = some (.blk B (.cells (lst C4.cells m) 148))) (hf : lk L 1001 = none) :
    ∀ w, MemOk w₀ L w → Calls Try.prog 100 #[.pointer (some ⟨B, 0, none⟩), .int .i64 x, .int .i64 y, c.v] w (HAns w₀ (fun _ : Unit => True) (fun _ => .bool (isP x y)) (fun _ => (900, .blk B (.cells (lst C4.cells (putL m x y c)) 148)) :: L)) := by
  refine ht_of_T (l := [.pointer (some ⟨B, 0, none⟩), .int .i64 x, .int .i64 y, .agg #[.int .u8 c.r, .int .u8 c.g, .int .u8 c.b, .int .u8 c.a]]) (L := L) 22 Try.func100 rfl rfl rfl ?_
  refine T_mem ((900, .blk B (.cells (lst C4.cells m) 148)) :: L) (fun _ hm => hm.of (lk_dup hi)) ?_
  show T _ _ _ [(0, .pointer (some ⟨B, 0, none⟩)), (1, .int .i64 x), (2, .int .i64 y), (3, .agg #[.int .u8 c.r, .int .u8 c.g, .int .u8 c.b, .int .u8 c.a])] ((900, .blk B (.cells (lst C4.cells m) 148)) :: L)
  refine T_seq (T_region ?_)
  refine TL_new 1001 (.cells #[.int .u8 c.r, .int .u8 c.g, .int .u8 c.b, .int .u8 c.a] 37) (fun B => .pointer (some ⟨B, 0, none⟩)) (fun _ _ hρ _ => r_box (hρ _ _ rfl) rfl) rfl rfl rfl (w_n rfl) ?_
  intro B1
  refine TL_q (.bool false) (fun _ _ hρ _ => r_assign (hρ _ _ rfl)) rfl rfl rfl (w_n rfl) ?_
  refine TL_seq ?_
  refine T_seq ?_
  refine T_seq (T_region ?_)
  refine TL_q (.int .i64 x) (fun _ _ hρ _ => r_move (hρ _ _ rfl)) rfl rfl rfl (w_n rfl) ?_
  refine TL_q (.int .i64 y) (fun _ _ hρ _ => r_move (hρ _ _ rfl)) rfl rfl rfl (w_n rfl) ?_
  refine TL_call (.bool (isP x y)) (fun _ _ hρ _ => r_call (args := [.int .i64 x, .int .i64 y]) (enters_of Try.func102 (by kernel_rfl) rfl) (hρ _ _ rfl) ((cons2 (hρ _ _ rfl) (cons2 (hρ _ _ rfl) rfl))) rfl) (fun w _ => is_c x y w) rfl rfl rfl (w_n rfl) ?_
  refine TL_q (.bool (!(isP x y))) (fun _ _ hρ _ => r_not (b := isP x y) (hρ _ _ rfl)) rfl rfl rfl (w_n rfl) ?_
  refine TL_seq ?_
  refine T_cond rfl (fun h1 => ?_) (fun h1 => ?_)
  · replace h1 := bnot_t h1
    refine T_seq (T_region ?_)
    refine TL_q (.bool false) (fun _ _ hρ _ => r_assign (hρ _ _ rfl)) rfl rfl rfl (w_n rfl) ?_
    refine TL_seq ?_
    refine T_ret' ?_
    refine p_then_r ?_
    refine ret_of rfl (.bool false) (fun tmps w hk hm => res1 rfl (res_tmp (hk 8 _ rfl))) (fun w hm => ?_)
    exact ⟨(), trivial, congrArg Ending.returned (bool_as h1.symm), by rw [putL_no h1]; exact hm.of (lk_fresh (show lk (_ :: L) 1001 = none from hf))⟩
  · replace h1 := bnot_f h1
    refine T_skip' ?_
    refine p_seq ?_
    obtain ⟨px, py, rfl, rfl, hpx, hpy⟩ := isP_nat h1
    refine T_seq (T_draw (V := [(0, .pointer (some ⟨B, 0, none⟩)), (1, .int .i64 ((py : Nat) : Int)), (2, .int .i64 ((py * 8 : Nat) : Int)), (3, .int .i64 ((px : Nat) : Int)), (4, .int .i64 ((py * 8 + px : Nat) : Int)), (5, .agg #[.int .u8 c.r, .int .u8 c.g, .int .u8 c.b, .int .u8 c.a]), (6, .pointer (some ⟨B, 0, none⟩)), (7, .pointer (some ⟨B, 0, none⟩)), (8, .pointer (some ⟨B, 0 + (py * 8 + px) * 4, none⟩))]) [0, 0, 2, 0, 14, 0, 1, 65, 255, 511] [[(0, none)], [(2, none)], [(14, some 1)], [(1, none)], [(15, some 2), (16, some 3)], [(7, none)], [(13, some 0)], [(19, some 6)], [(20, some 7), (17, some 4)], [(21, some 8), (18, some 5)]] 512 mixed (by kernel_rfl) ?_)
    refine G_step [0, 1, 2, 3, 4, 5, 6, 7, 8] 9 [] (by kernel_rfl) (allM (all_cons (q_run (.pointer (some ⟨B, 0, none⟩)) rfl rfl (wv_n rfl) rfl (fun _ _ hρ _ => r_move (hρ _ _ rfl))) (all_cons (q_run (.int .i64 ((py : Nat) : Int)) rfl rfl (wv_n rfl) rfl (fun _ _ hρ _ => r_move (hρ _ _ rfl))) (all_cons (q_run (.int .i64 ((py * 8 : Nat) : Int)) rfl rfl (wv_n rfl) rfl (fun _ _ hρ _ => r_as (r_mul (hρ _ _ rfl) (hρ _ _ rfl)) (int_as ((wrap64 (by omega) (by omega)).trans (by omega))))) (all_cons (q_run (.int .i64 ((px : Nat) : Int)) rfl rfl (wv_n rfl) rfl (fun _ _ hρ _ => r_move (hρ _ _ rfl))) (all_cons (q_run (.int .i64 ((py * 8 + px : Nat) : Int)) rfl rfl (wv_n rfl) rfl (fun _ _ hρ _ => r_as (r_add (hρ _ _ rfl) (hρ _ _ rfl)) (int_as ((wrap64 (by omega) (by omega)).trans (by omega))))) (all_cons (q_run (.agg #[.int .u8 c.r, .int .u8 c.g, .int .u8 c.b, .int .u8 c.a]) rfl rfl (wv_n rfl) rfl (fun _ _ hρ hm => r_loadA ag37 sz37 (hρ _ _ rfl) (hm.at 1001 rfl) rfl rfl)) (all_cons (q_run (.pointer (some ⟨B, 0, none⟩)) rfl rfl (wv_n rfl) rfl (fun _ _ hρ _ => r_nilCheck (hρ _ _ rfl) rfl)) (all_cons (q_run (.pointer (some ⟨B, 0, none⟩)) rfl rfl (wv_n rfl) rfl (fun _ _ hρ _ => r_fieldAddr fl148_0 sz39 (hρ _ _ rfl))) (all_cons (q_run (.pointer (some ⟨B, 0 + (py * 8 + px) * 4, none⟩)) rfl rfl (wv_n rfl) rfl (fun _ _ hρ _ => r_indexAddrA (i := py * 8 + px) ar39 sz37 (hρ _ _ rfl) (hρ _ _ rfl) (by omega))) all_nil)))))))))) (allM (all_cons ?_ all_nil))
    refine LOb_store 900 (.cells (lst C4.cells (m.set (py * 8 + px) c)) 148) [] rfl (wv_n rfl) rfl rfl rfl (fun _ _ hρ hm => r_storeLst (u := c) sz37 (hρ _ _ rfl) (hρ _ _ rfl) (hm.at 900 rfl) C4.cells_len (lt64 hl (by omega)) rfl rfl) (by kernel_rfl) ?_
    refine G_last [] [(8, .bool false)] (by kernel_rfl) (allM all_nil) (end_old rfl rfl end_nil) ?_
    refine T_seq (T_region ?_)
    refine TL_q (.bool true) (fun _ _ hρ _ => r_assign (hρ _ _ rfl)) rfl rfl rfl (w_n rfl) ?_
    refine TL_seq ?_
    refine T_ret' ?_
    refine ret_of rfl (.bool true) (fun tmps w hk hm => res1 rfl (res_tmp (hk 8 _ rfl))) (fun w hm => ?_)
    exact ⟨(), trivial, congrArg Ending.returned (bool_as h1.symm), by rw [putL_at hpx hpy]; exact hm.of (lk_put rfl hf)⟩

def atC (l : List C4) (x y : Int) : C4 := if isP x y then get l (8 * y + x).toNat else zeroC
def atE (x y : Int) : Int := if isP x y then 0 else 140
theorem at_no {l : List C4} {x y : Int} (h : isP x y = false) : atC l x y = zeroC ∧ atE x y = 140 := by unfold atC atE; rw [h]; exact ⟨rfl, rfl⟩
theorem at_yes {l : List C4} {px py : Nat} (hx : px < 8) (hy : py < 8) : atC l px py = get l (py * 8 + px) ∧ atE px py = 0 := by
  have h : isP px py = true := decide_eq_true ⟨by omega, by omega, by omega, by omega⟩
  unfold atC atE
  rw [h, if_pos rfl, if_pos rfl, show (8 * (py : Int) + px).toNat = py * 8 + px by omega]
  exact ⟨rfl, rfl⟩

/-- A point. -/
structure Pt where
  x : Int
  y : Int
abbrev Pt.cells (p : Pt) : List Value := [.int .i64 p.x, .int .i64 p.y]
theorem Pt.cells_len (p : Pt) : p.cells.length = 2 := rfl
abbrev Pt.inn (p : Pt) : Bool := isP p.x p.y
def withL (l : List C4) (c : C4) (ps : List Pt) : List C4 := ps.foldl (fun m p => putL m p.x p.y c) l
theorem withL_len {l : List C4} {c : C4} (hl : l.length = 64) : ∀ ps, (withL l c ps).length = 64 := by
  intro ps
  unfold withL
  induction ps generalizing l with
  | nil => exact hl
  | cons p ps ih => exact ih (by rw [putL_len]; exact hl)
def withR (l : List C4) (c : C4) (ps : List Pt) : Option (List C4) := if ps.all Pt.inn then some (withL l c ps) else none
theorem with_step {l : List C4} {c : C4} {ps : List Pt} {k : Nat} {u : Pt} (h : ps[k]? = some u) : withL l c (ps.take (k + 1)) = putL (withL l c (ps.take k)) u.x u.y c := by
  unfold withL
  rw [List.take_add_one, h, List.foldl_append]; rfl
theorem inn_step {ps : List Pt} {k : Nat} {u : Pt} (h : ps[k]? = some u) (hk : (ps.take k).all Pt.inn = true) (hu : isP u.x u.y = true) : (ps.take (k + 1)).all Pt.inn = true := by
  rw [List.take_add_one, h, List.all_append, hk]
  simpa using hu
theorem with_no {l : List C4} {c : C4} {ps : List Pt} {k : Nat} {u : Pt} (h : ps[k]? = some u) (hu : isP u.x u.y = false) : withR l c ps = none := by
  unfold withR
  rw [if_neg]
  intro ha
  have := List.all_eq_true.1 ha u (List.mem_of_getElem? h)
  rw [show Pt.inn u = isP u.x u.y from rfl, hu] at this; cases this
theorem with_all {l : List C4} {c : C4} {ps : List Pt} (h : ps.all Pt.inn = true) : withR l c ps = some (withL l c ps) := if_pos h
def withV (o : Option (List C4)) : Value := til (o.getD zero64)
def withE (o : Option (List C4)) : Int := if o.isSome then 0 else 140

theorem at_c (l : List C4) (x y : Int) (w : World) (hl : l.length = 64) : Calls Try.prog 72 #[til l, .int .i64 x, .int .i64 y] w fun e w' => e = .returned (.tuple #[(atC l x y).v, .int .i64 (atE x y)]) ∧ Below w.heap.size w w' := by
  refine calls_of_T (l := [.agg (lst C4.cells l), .int .i64 x, .int .i64 y]) 19 Try.func72 rfl rfl rfl ?_
  show T _ _ _ [(0, .agg (lst C4.cells l)), (1, .int .i64 x), (2, .int .i64 y)] []
  refine T_seq (T_region ?_)
  refine TL_new 1 (.cells (lst C4.cells l) 39) (fun B => .pointer (some ⟨B, 0, none⟩)) (fun _ _ hρ _ => r_box (hρ _ _ rfl) rfl) rfl rfl rfl (w_n rfl) ?_
  intro B1
  refine TL_new 2 (.cells #[.int .u8 0, .int .u8 0, .int .u8 0, .int .u8 0] 37) (fun B => .pointer (some ⟨B, 0, none⟩)) (fun _ _ _ _ => r_alloc (v := .agg #[.int .u8 0, .int .u8 0, .int .u8 0, .int .u8 0]) (by kernel_rfl) rfl) rfl rfl rfl (w_n rfl) ?_
  intro B2
  refine TL_q (.int .i64 0) (fun _ _ hρ _ => r_assign (hρ _ _ rfl)) rfl rfl rfl (w_n rfl) ?_
  refine TL_seq ?_
  refine T_seq ?_
  refine T_seq (T_region ?_)
  refine TL_q (.int .i64 x) (fun _ _ hρ _ => r_move (hρ _ _ rfl)) rfl rfl rfl (w_n rfl) ?_
  refine TL_q (.int .i64 y) (fun _ _ hρ _ => r_move (hρ _ _ rfl)) rfl rfl rfl (w_n rfl) ?_
  refine TL_call (.bool (isP x y)) (fun _ _ hρ _ => r_call (args := [.int .i64 x, .int .i64 y]) (enters_of Try.func102 (by kernel_rfl) rfl) (hρ _ _ rfl) ((cons2 (hρ _ _ rfl) (cons2 (hρ _ _ rfl) rfl))) rfl) (fun w _ => is_c x y w) rfl rfl rfl (w_n rfl) ?_
  refine TL_q (.bool (!(isP x y))) (fun _ _ hρ _ => r_not (b := isP x y) (hρ _ _ rfl)) rfl rfl rfl (w_n rfl) ?_
  refine TL_seq ?_
  refine T_cond rfl (fun h1 => ?_) (fun h1 => ?_)
  · replace h1 := bnot_t h1
    refine T_seq (T_region ?_)
    refine TL_q (.agg #[.int .u8 0, .int .u8 0, .int .u8 0, .int .u8 0]) (fun _ _ _ _ => r_build (vs := []) (by kernel_rfl) rfl) rfl rfl rfl (w_n rfl) ?_
    refine TL_store 2 (.cells #[.int .u8 0, .int .u8 0, .int .u8 0, .int .u8 0] 37) rfl (fun _ _ hρ hm => r_store sz37 (hρ _ _ rfl) (hρ _ _ rfl) (hm.at 2 rfl) rfl rfl rfl rfl) rfl rfl (w_n rfl) ?_
    refine TL_q (.int .i64 140) (fun _ _ hρ _ => r_assign (hρ _ _ rfl)) rfl rfl rfl (w_n rfl) ?_
    refine TL_seq ?_
    refine T_ret' ?_
    refine p_then_r ?_
    refine ret_of rfl (.tuple #[.agg #[.int .u8 0, .int .u8 0, .int .u8 0, .int .u8 0], .int .i64 140]) (fun tmps w hk hm => res2 rfl (res_cell (hk 6 _ rfl) (run_loadVar_agg ag37 sz37 (hm.at 2 rfl) (Nat.le_of_ble_eq_true rfl) rfl)) (res_tmp (hk 7 _ rfl))) (fun w hm => ?_)
    exact ⟨by rw [(at_no (l := l) h1).1, (at_no (l := l) h1).2], hm.ext⟩
  · replace h1 := bnot_f h1
    refine T_skip' ?_
    refine p_seq ?_
    obtain ⟨px, py, rfl, rfl, hpx, hpy⟩ := isP_nat h1
    refine T_seq (T_region ?_)
    refine TL_q (.int .i64 ((py : Nat) : Int)) (fun _ _ hρ _ => r_move (hρ _ _ rfl)) rfl rfl rfl (w_n rfl) ?_
    refine TL_q (.int .i64 ((py * 8 : Nat) : Int)) (fun _ _ hρ _ => r_as (r_mul (hρ _ _ rfl) (hρ _ _ rfl)) (int_as ((wrap64 (by omega) (by omega)).trans (by omega)))) rfl rfl rfl (w_n rfl) ?_
    refine TL_q (.int .i64 ((px : Nat) : Int)) (fun _ _ hρ _ => r_move (hρ _ _ rfl)) rfl rfl rfl (w_n rfl) ?_
    refine TL_q (.int .i64 ((py * 8 + px : Nat) : Int)) (fun _ _ hρ _ => r_as (r_add (hρ _ _ rfl) (hρ _ _ rfl)) (int_as ((wrap64 (by omega) (by omega)).trans (by omega)))) rfl rfl rfl (w_n rfl) ?_
    refine TL_q (.pointer (some ⟨B1, 0 + (py * 8 + px) * 4, none⟩)) (fun _ _ hρ _ => r_indexAddrA (i := py * 8 + px) ar39 sz37 (hρ _ _ rfl) (hρ _ _ rfl) (by omega)) rfl rfl rfl (w_n rfl) ?_
    refine TL_q (.agg #[.int .u8 ((get l (py * 8 + px)).r), .int .u8 ((get l (py * 8 + px)).g), .int .u8 ((get l (py * 8 + px)).b), .int .u8 ((get l (py * 8 + px)).a)]) (fun _ _ hρ hm => r_loadRow (f := C4.cells) (u := (get l (py * 8 + px))) ag37 sz37 (hρ _ _ rfl) (hm.at 1 rfl) (row_lst C4.cells_len _) (get_some hl (by omega))) rfl rfl rfl (w_n rfl) ?_
    refine TL_store 2 (.cells #[.int .u8 ((get l (py * 8 + px)).r), .int .u8 ((get l (py * 8 + px)).g), .int .u8 ((get l (py * 8 + px)).b), .int .u8 ((get l (py * 8 + px)).a)] 37) rfl (fun _ _ hρ hm => r_store sz37 (hρ _ _ rfl) (hρ _ _ rfl) (hm.at 2 rfl) rfl rfl rfl rfl) rfl rfl (w_n rfl) ?_
    refine TL_q (.int .i64 0) (fun _ _ hρ _ => r_assign (hρ _ _ rfl)) rfl rfl rfl (w_n rfl) ?_
    refine TL_seq ?_
    refine T_ret' ?_
    refine ret_of rfl (.tuple #[.agg #[.int .u8 ((get l (py * 8 + px)).r), .int .u8 ((get l (py * 8 + px)).g), .int .u8 ((get l (py * 8 + px)).b), .int .u8 ((get l (py * 8 + px)).a)], .int .i64 0]) (fun tmps w hk hm => res2 rfl (res_cell (hk 6 _ rfl) (run_loadVar_agg ag37 sz37 (hm.at 2 rfl) (Nat.le_of_ble_eq_true rfl) rfl)) (res_tmp (hk 7 _ rfl))) (fun w hm => ?_)
    exact ⟨by rw [(at_yes (l := l) hpx hpy).1, (at_yes (l := l) hpx hpy).2], hm.ext⟩

set_option maxHeartbeats 4000000 in
theorem with_c (l : List C4) (c : C4) (ps : List Pt) (a : Option Addr) (cap : Nat) (w : World) (hl : l.length = 64) (hv : SliceAt w a cap 2 Pt.cells ps) (hcap : cap ≤ Go.maxLen) :
    Calls Try.prog 67 #[til l, c.v, .slice a ps.length cap] w fun e w' => e = .returned (.tuple #[withV (withR l c ps), .int .i64 (withE (withR l c ps))]) ∧ Below w.heap.size w w' := by
  have hvl := hv.1
  unfold Go.maxLen at hcap
  refine calls_of_T (l := [.agg (lst C4.cells l), .agg #[.int .u8 c.r, .int .u8 c.g, .int .u8 c.b, .int .u8 c.a], .slice a ps.length cap]) 37 Try.func67 rfl rfl rfl ?_
  show T _ _ _ [(0, .agg (lst C4.cells l)), (1, .agg #[.int .u8 c.r, .int .u8 c.g, .int .u8 c.b, .int .u8 c.a]), (2, .slice a ps.length cap)] []
  refine T_seq (T_region ?_)
  refine TL_new 1 (.cells (lst C4.cells l) 39) (fun B => .pointer (some ⟨B, 0, none⟩)) (fun _ _ hρ _ => r_box (hρ _ _ rfl) rfl) rfl rfl rfl (w_n rfl) ?_
  intro B1
  refine TL_new 2 (.cells #[.int .u8 c.r, .int .u8 c.g, .int .u8 c.b, .int .u8 c.a] 37) (fun B => .pointer (some ⟨B, 0, none⟩)) (fun _ _ hρ _ => r_box (hρ _ _ rfl) rfl) rfl rfl rfl (w_n rfl) ?_
  intro B2
  refine TL_new 3 (.cells (lst C4.cells zero64) 39) (fun B => .pointer (some ⟨B, 0, none⟩)) (fun _ _ _ _ => r_alloc (v := .agg (lst C4.cells zero64)) (by kernel_rfl) rfl) rfl rfl rfl (w_n rfl) ?_
  intro B3
  refine TL_q (.int .i64 0) (fun _ _ hρ _ => r_assign (hρ _ _ rfl)) rfl rfl rfl (w_n rfl) ?_
  refine TL_seq ?_
  refine T_seq (T_region ?_)
  refine TL_q (.agg (lst C4.cells l)) (fun _ _ hρ hm => r_loadW ag39 sz39 (hρ _ _ rfl) (hm.at 1 rfl) (tsz hl)) rfl rfl rfl (w_n rfl) ?_
  refine TL_q (.agg (lst C4.cells l)) (fun _ _ hρ _ => r_build (vs := [(0, .agg (lst C4.cells l))]) (build_work (tsz hl) _) (cons2 (pair2 (hρ _ _ rfl)) rfl)) rfl rfl rfl (w_n rfl) ?_
  refine TL_new 900 (.cells (lst C4.cells l) 148) (fun B => .pointer (some ⟨B, 0, none⟩)) (fun _ _ hρ _ => r_box (hρ _ _ rfl) rfl) rfl rfl rfl (w_n rfl) ?_
  intro B4
  refine TL_q (.pointer (some ⟨B4, 0, none⟩)) (fun _ _ hρ _ => r_assign (hρ _ _ rfl)) rfl rfl rfl (w_n rfl) ?_
  refine TL_seq ?_
  refine T_seq (T_region ?_)
  refine TL_q (.pointer (some ⟨B4, 0, none⟩)) (fun _ _ hρ _ => r_move (hρ _ _ rfl)) rfl rfl rfl (w_n rfl) ?_
  refine TL_q (.func (.func 100) #[.pointer (some ⟨B4, 0, none⟩)] #[]) (fun _ _ hρ _ => r_makeFunc (map_arr (cons2 (hρ _ _ rfl) rfl)) (by simp)) rfl rfl rfl (w_n rfl) ?_
  refine TL_q (.func (.func 100) #[.pointer (some ⟨B4, 0, none⟩)] #[]) (fun _ _ hρ _ => r_assign (hρ _ _ rfl)) rfl rfl rfl (w_n rfl) ?_
  refine TL_seq ?_
  refine T_seq ?_
  refine T_seq (T_region ?_)
  refine TL_q (.slice a ps.length cap) (fun _ _ hρ _ => r_move (hρ _ _ rfl)) rfl rfl rfl (w_n rfl) ?_
  refine TL_q (.int .i64 ((ps.length : Nat) : Int)) (fun _ _ hρ _ => r_len sl44 (hρ _ _ rfl)) rfl rfl rfl (w_n rfl) ?_
  refine TL_q (.int .i64 0) (fun _ _ hρ _ => r_move (hρ _ _ rfl)) rfl rfl rfl (w_n rfl) ?_
  refine TL_seq ?_
  refine T_block ?_
  refine T_loop (ι := Nat) (fun (k : Nat) => k ≤ ps.length ∧ (ps.take k).all Pt.inn = true) (fun (k : Nat) => [(4, .pointer (some ⟨B2, 0, none⟩)), (6, .pointer (some ⟨B3, 0, none⟩)), (8, .pointer (some ⟨B4, 0, none⟩)), (9, .func (.func 100) #[.pointer (some ⟨B4, 0, none⟩)] #[]), (17, .slice a ps.length cap), (18, .int .i64 ((ps.length : Nat) : Int)), (19, .int .i64 ((k : Nat) : Int))]) (fun (k : Nat) => [(1, .blk B1 (.cells (lst C4.cells l) 39)), (2, .blk B2 (.cells #[.int .u8 c.r, .int .u8 c.g, .int .u8 c.b, .int .u8 c.a] 37)), (3, .blk B3 (.cells (lst C4.cells zero64) 39)), (900, .blk B4 (.cells (lst C4.cells (withL l c (ps.take k))) 148))]) (fun (k : Nat) => ps.length - k) 0 ⟨Nat.zero_le _, rfl⟩ (sub_cons rfl (sub_cons rfl (sub_cons rfl (sub_cons rfl (sub_cons rfl (sub_cons rfl (sub_cons rfl sub_nil))))))) (sub_cons rfl (sub_cons rfl (sub_cons rfl (sub_cons rfl sub_nil)))) ?_
  rintro k hp
  obtain ⟨hk, hin⟩ := hp
  show T _ _ _ [(4, .pointer (some ⟨B2, 0, none⟩)), (6, .pointer (some ⟨B3, 0, none⟩)), (8, .pointer (some ⟨B4, 0, none⟩)), (9, .func (.func 100) #[.pointer (some ⟨B4, 0, none⟩)] #[]), (17, .slice a ps.length cap), (18, .int .i64 ((ps.length : Nat) : Int)), (19, .int .i64 ((k : Nat) : Int))] [(1, .blk B1 (.cells (lst C4.cells l) 39)), (2, .blk B2 (.cells #[.int .u8 c.r, .int .u8 c.g, .int .u8 c.b, .int .u8 c.a] 37)), (3, .blk B3 (.cells (lst C4.cells zero64) 39)), (900, .blk B4 (.cells (lst C4.cells (withL l c (ps.take k))) 148))]
  refine T_seq (T_region ?_)
  refine TL_q (.bool (decide (((k : Nat) : Int) < ((ps.length : Nat) : Int)))) (fun _ _ hρ _ => r_lss (hρ _ _ rfl) (hρ _ _ rfl)) rfl rfl rfl (w_n rfl) ?_
  refine TL_seq ?_
  refine T_seq ?_
  refine T_cond rfl (fun h1 => ?_) (fun h1 => ?_)
  · replace h1 := of_decide_eq_true h1
    refine T_skip' ?_
    refine p_seq ?_
    refine T_seq ?_
    refine T_block ?_
    obtain ⟨u, hu⟩ : ∃ x, ps[k]? = some x := ⟨_, List.getElem?_eq_getElem (by omega)⟩
    obtain ⟨b5, of5, cs5, T5, fz5, ha5, hq5, hr5⟩ := hv.open (i := k) (by omega)
    subst ha5
    refine T_seq (T_region ?_)
    refine TL_q (.pointer (some ⟨b5, of5 + k * 2, none⟩)) (fun _ _ hρ _ => r_indexAddrS (i := k) sl44 sz47 (hρ _ _ rfl) (hρ _ _ rfl) (by omega)) rfl rfl rfl (w_n rfl) ?_
    refine TL_q (.agg #[.int .i64 u.x, .int .i64 u.y]) (fun _ _ hρ hm => r_loadRow (f := Pt.cells) (u := u) ag47 sz47 (hρ _ _ rfl) (hm.old hq5) hr5 hu) rfl rfl rfl (w_n rfl) ?_
    refine TL_new 4 (.cells #[.int .i64 0, .int .i64 0] 47) (fun B => .pointer (some ⟨B, 0, none⟩)) (fun _ _ _ _ => r_alloc (v := .agg #[.int .i64 0, .int .i64 0]) (by kernel_rfl) rfl) rfl rfl rfl (w_n rfl) ?_
    intro B6
    refine TL_store 4 (.cells #[.int .i64 u.x, .int .i64 u.y] 47) rfl (fun _ _ hρ hm => r_store sz47 (hρ _ _ rfl) (hρ _ _ rfl) (hm.at 4 rfl) rfl rfl rfl rfl) rfl rfl (w_n rfl) ?_
    refine TL_seq ?_
    refine T_seq (T_region ?_)
    refine TL_q (.func (.func 100) #[.pointer (some ⟨B4, 0, none⟩)] #[]) (fun _ _ hρ _ => r_move (hρ _ _ rfl)) rfl rfl rfl (w_n rfl) ?_
    refine TL_q (.pointer (some ⟨B6, 0, none⟩)) (fun _ _ hρ _ => r_fieldAddr fl47_0 sz3 (hρ _ _ rfl)) rfl rfl rfl (w_n rfl) ?_
    refine TL_q (.int .i64 u.x) (fun _ _ hρ hm => r_load ag3 (hρ _ _ rfl) (hm.at 4 rfl) rfl) rfl rfl rfl (w_n rfl) ?_
    refine TL_q (.pointer (some ⟨B6, 1, none⟩)) (fun _ _ hρ _ => r_fieldAddr fl47_1 sz3 (hρ _ _ rfl)) rfl rfl rfl (w_n rfl) ?_
    refine TL_q (.int .i64 u.y) (fun _ _ hρ hm => r_load ag3 (hρ _ _ rfl) (hm.at 4 rfl) rfl) rfl rfl rfl (w_n rfl) ?_
    refine TL_q (.agg #[.int .u8 c.r, .int .u8 c.g, .int .u8 c.b, .int .u8 c.a]) (fun _ _ hρ hm => r_loadA ag37 sz37 (hρ _ _ rfl) (hm.at 2 rfl) rfl rfl) rfl rfl rfl (w_n rfl) ?_
    refine TL_callH _ _ _ (fun _ _ hρ _ => r_call (args := [.int .i64 u.x, .int .i64 u.y, .agg #[.int .u8 c.r, .int .u8 c.g, .int .u8 c.b, .int .u8 c.a]]) (enters_of Try.func100 (by kernel_rfl) rfl) (hρ _ _ rfl) ((cons2 (hρ _ _ rfl) (cons2 (hρ _ _ rfl) (cons2 (hρ _ _ rfl) rfl)))) rfl) (fun w hm => put_ht _ _ B4 (withL l c (ps.take k)) u.x u.y c (withL_len hl _) rfl rfl w hm) rfl rfl rfl (w_n rfl) ?_
    intro _ _
    refine TL_q (.bool (!(isP u.x u.y))) (fun _ _ hρ _ => r_not (b := isP u.x u.y) (hρ _ _ rfl)) rfl rfl rfl (w_n rfl) ?_
    refine TL_seq ?_
    refine T_cond rfl (fun h2 => ?_) (fun h2 => ?_)
    · replace h2 := bnot_t h2
      refine T_seq (T_region ?_)
      refine TL_q (.agg (lst C4.cells zero64)) (fun _ _ _ _ => r_build (vs := []) (by kernel_rfl) rfl) rfl rfl rfl (w_n rfl) ?_
      refine TL_store 3 (.cells (lst C4.cells zero64) 39) rfl (fun _ _ hρ hm => r_storeAll sz39 (hρ _ _ rfl) (hρ _ _ rfl) (hm.at 3 rfl) (tsz zero64_len) (tsz zero64_len) (lst_one C4.cells_all _)) rfl rfl (w_n rfl) ?_
      refine TL_q (.int .i64 140) (fun _ _ hρ _ => r_assign (hρ _ _ rfl)) rfl rfl rfl (w_n rfl) ?_
      refine TL_seq ?_
      refine T_ret' ?_
      refine p_blk_r ?_
      refine p_then_r ?_
      refine p_then_r ?_
      refine p_blk_r ?_
      refine p_then_r ?_
      refine ret_of rfl (.tuple #[.agg (lst C4.cells zero64), .int .i64 140]) (fun tmps w hk hm => res2 rfl (res_cell (hk 6 _ rfl) (run_loadVar_agg ag39 sz39 (hm.at 3 rfl) (le64 zero64_len) (ex64 zero64_len))) (res_tmp (hk 7 _ rfl))) (fun w hm => ?_)
      exact ⟨by rw [with_no (l := l) (c := c) hu h2]; rfl, hm.ext⟩
    · replace h2 := bnot_f h2
      refine T_skip' ?_
      refine p_blk_n ?_
      refine p_seq ?_
      refine T_region ?_
      refine TL_q (.int .i64 (((k : Nat) : Int) + 1)) (fun _ _ hρ _ => r_as (r_add (hρ _ _ rfl) (hρ _ _ rfl)) (int_as (wrap64 (by omega) (by omega)))) rfl rfl rfl (w_n rfl) ?_
      refine TL_q (.int .i64 (((k : Nat) : Int) + 1)) (fun _ _ hρ _ => r_move (hρ _ _ rfl)) rfl rfl rfl (w_n rfl) ?_
      refine TL_nil ?_
      rw [show (putL (withL l c (ps.take k)) u.x u.y c) = withL l c (ps.take (k + 1)) from by rw [with_step hu]]
      exact p_at (k + 1) ⟨⟨by omega, inn_step hu hin h2⟩, by omega⟩ (sub_cons rfl (sub_cons rfl (sub_cons rfl (sub_cons rfl (sub_cons rfl (sub_cons rfl (sub_cons rfl sub_nil))))))) (sub_cons rfl (sub_cons rfl (sub_cons rfl (sub_cons rfl sub_nil))))
  · replace h1 := of_decide_eq_false h1
    refine T_exit' ?_
    refine p_then_x ?_
    refine p_then_x ?_
    refine p_blk_x ?_
    refine p_seq ?_
    refine T_seq (T_region ?_)
    refine TL_q (.pointer (some ⟨B4, 0, none⟩)) (fun _ _ hρ _ => r_move (hρ _ _ rfl)) rfl rfl rfl (w_n rfl) ?_
    refine TL_q (.pointer (some ⟨B4, 0, none⟩)) (fun _ _ hρ _ => r_nilCheck (hρ _ _ rfl) rfl) rfl rfl rfl (w_n rfl) ?_
    refine TL_q (.pointer (some ⟨B4, 0, none⟩)) (fun _ _ hρ _ => r_fieldAddr fl148_0 sz39 (hρ _ _ rfl)) rfl rfl rfl (w_n rfl) ?_
    refine TL_q (.agg (lst C4.cells (withL l c (ps.take k)))) (fun _ _ hρ hm => r_loadW ag39 sz39 (hρ _ _ rfl) (hm.at 900 rfl) (tsz (withL_len hl _))) rfl rfl rfl (w_n rfl) ?_
    refine TL_store 3 (.cells (lst C4.cells (withL l c (ps.take k))) 39) rfl (fun _ _ hρ hm => r_storeAll sz39 (hρ _ _ rfl) (hρ _ _ rfl) (hm.at 3 rfl) (tsz zero64_len) (tsz (withL_len hl _)) (lst_one C4.cells_all _)) rfl rfl (w_n rfl) ?_
    refine TL_q (.int .i64 0) (fun _ _ hρ _ => r_assign (hρ _ _ rfl)) rfl rfl rfl (w_n rfl) ?_
    refine TL_seq ?_
    refine T_ret' ?_
    refine ret_of rfl (.tuple #[.agg (lst C4.cells (withL l c (ps.take k))), .int .i64 0]) (fun tmps w hk hm => res2 rfl (res_cell (hk 6 _ rfl) (run_loadVar_agg ag39 sz39 (hm.at 3 rfl) (le64 (withL_len hl _)) (ex64 (withL_len hl _)))) (res_tmp (hk 7 _ rfl))) (fun w hm => ?_)
    have hkl : k = ps.length := by omega
    subst hkl
    rw [List.take_length] at hin
    exact ⟨by rw [with_all (l := l) (c := c) hin, List.take_length]; rfl, hm.ext⟩
end Go.Proofs.Ytbiapeaghbndoaa
