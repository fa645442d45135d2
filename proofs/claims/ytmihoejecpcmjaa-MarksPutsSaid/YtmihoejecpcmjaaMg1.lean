/- Texts of this seat, merged: part 1. -/
import Derived.Test.YtmihoejecpcmjaaMg0
import Derived.Laws.MakeOwn
import Derived.Laws.CopyOwn
import Derived.Laws.IdiomCopy
import Derived.Maps.RangeRun
/- canvas: the tile's functions. Printed by a program of this seat's prover. -/
namespace Go.Proofs.Ytmihoejecpcmjaa
open Go Go.RowKit
set_option maxRecDepth 10000
theorem is_c (x y : Int) (w : World) : Calls Try.prog 85 #[.int .i64 x, .int .i64 y] w fun e w' => e = .returned (.bool (isP x y)) ∧ Below w.heap.size w w' := by
  refine calls_of_T (l := [.int .i64 x, .int .i64 y]) 19 Try.func85 rfl rfl rfl ?_
  show T _ _ _ [(0, .int .i64 x), (1, .int .i64 y)] []
  refine T_seq (T_region ?_)
  refine TL_q (.bool false) (fun _ _ hρ _ => r_assign (hρ _ _ rfl)) rfl rfl rfl (w_n rfl) ?_
  refine TL_seq ?_
  by_cases c1 : (0 : Int) ≤ x
  · skip
    by_cases c2 : x < 8
    · skip
      by_cases c3 : (0 : Int) ≤ y
      · skip
        by_cases c4 : y < 8
        · skip
          refine T_seq (T_region ?_)
          refine TL_q (.int .i64 x) (fun _ _ hρ _ => r_move (hρ _ _ rfl)) rfl rfl rfl (w_n rfl) ?_
          refine TL_q (.bool true) (fun _ _ hρ _ => r_as (r_geq (hρ _ _ rfl) (hρ _ _ rfl)) (bool_as (decide_eq_true c1))) rfl rfl rfl (w_n rfl) ?_
          refine TL_q (.bool true) (fun _ _ hρ _ => r_move (hρ _ _ rfl)) rfl rfl rfl (w_n rfl) ?_
          refine TL_q (.int .i64 x) (fun _ _ hρ _ => r_move (hρ _ _ rfl)) rfl rfl rfl (want_y 7 rfl rfl rfl) ?_
          refine TL_q (.bool true) (fun _ _ hρ _ => r_as (r_lss (hρ _ _ rfl) (hρ _ _ rfl)) (bool_as (decide_eq_true c2))) rfl rfl rfl (want_y 7 rfl rfl rfl) ?_
          refine TL_q (.bool true) (fun _ _ hρ _ => r_pick_t (hρ _ _ rfl) (hρ _ _ rfl)) rfl rfl rfl (w_n rfl) ?_
          refine TL_q (.bool true) (fun _ _ hρ _ => r_move (hρ _ _ rfl)) rfl rfl rfl (w_n rfl) ?_
          refine TL_q (.int .i64 y) (fun _ _ hρ _ => r_move (hρ _ _ rfl)) rfl rfl rfl (want_y 11 rfl rfl rfl) ?_
          refine TL_q (.bool true) (fun _ _ hρ _ => r_as (r_geq (hρ _ _ rfl) (hρ _ _ rfl)) (bool_as (decide_eq_true c3))) rfl rfl rfl (want_y 11 rfl rfl rfl) ?_
          refine TL_q (.bool true) (fun _ _ hρ _ => r_pick_t (hρ _ _ rfl) (hρ _ _ rfl)) rfl rfl rfl (w_n rfl) ?_
          refine TL_q (.bool true) (fun _ _ hρ _ => r_move (hρ _ _ rfl)) rfl rfl rfl (w_n rfl) ?_
          refine TL_q (.int .i64 y) (fun _ _ hρ _ => r_move (hρ _ _ rfl)) rfl rfl rfl (want_y 15 rfl rfl rfl) ?_
          refine TL_q (.bool true) (fun _ _ hρ _ => r_as (r_lss (hρ _ _ rfl) (hρ _ _ rfl)) (bool_as (decide_eq_true c4))) rfl rfl rfl (want_y 15 rfl rfl rfl) ?_
          refine TL_q (.bool true) (fun _ _ hρ _ => r_pick_t (hρ _ _ rfl) (hρ _ _ rfl)) rfl rfl rfl (w_n rfl) ?_
          refine TL_q (.bool true) (fun _ _ hρ _ => r_assign (hρ _ _ rfl)) rfl rfl rfl (w_n rfl) ?_
          refine TL_seq ?_
          refine T_ret' ?_
          refine ret_of rfl (.bool true) (fun tmps w hk hm => res1 rfl (res_tmp (hk 4 _ rfl))) (fun w hm => ?_)
          exact ⟨congrArg Ending.returned (bool_as (decide_eq_true (by omega)).symm), hm.ext⟩
        · skip
          refine T_seq (T_region ?_)
          refine TL_q (.int .i64 x) (fun _ _ hρ _ => r_move (hρ _ _ rfl)) rfl rfl rfl (w_n rfl) ?_
          refine TL_q (.bool true) (fun _ _ hρ _ => r_as (r_geq (hρ _ _ rfl) (hρ _ _ rfl)) (bool_as (decide_eq_true c1))) rfl rfl rfl (w_n rfl) ?_
          refine TL_q (.bool true) (fun _ _ hρ _ => r_move (hρ _ _ rfl)) rfl rfl rfl (w_n rfl) ?_
          refine TL_q (.int .i64 x) (fun _ _ hρ _ => r_move (hρ _ _ rfl)) rfl rfl rfl (want_y 7 rfl rfl rfl) ?_
          refine TL_q (.bool true) (fun _ _ hρ _ => r_as (r_lss (hρ _ _ rfl) (hρ _ _ rfl)) (bool_as (decide_eq_true c2))) rfl rfl rfl (want_y 7 rfl rfl rfl) ?_
          refine TL_q (.bool true) (fun _ _ hρ _ => r_pick_t (hρ _ _ rfl) (hρ _ _ rfl)) rfl rfl rfl (w_n rfl) ?_
          refine TL_q (.bool true) (fun _ _ hρ _ => r_move (hρ _ _ rfl)) rfl rfl rfl (w_n rfl) ?_
          refine TL_q (.int .i64 y) (fun _ _ hρ _ => r_move (hρ _ _ rfl)) rfl rfl rfl (want_y 11 rfl rfl rfl) ?_
          refine TL_q (.bool true) (fun _ _ hρ _ => r_as (r_geq (hρ _ _ rfl) (hρ _ _ rfl)) (bool_as (decide_eq_true c3))) rfl rfl rfl (want_y 11 rfl rfl rfl) ?_
          refine TL_q (.bool true) (fun _ _ hρ _ => r_pick_t (hρ _ _ rfl) (hρ _ _ rfl)) rfl rfl rfl (w_n rfl) ?_
          refine TL_q (.bool true) (fun _ _ hρ _ => r_move (hρ _ _ rfl)) rfl rfl rfl (w_n rfl) ?_
          refine TL_q (.int .i64 y) (fun _ _ hρ _ => r_move (hρ _ _ rfl)) rfl rfl rfl (want_y 15 rfl rfl rfl) ?_
          refine TL_q (.bool false) (fun _ _ hρ _ => r_as (r_lss (hρ _ _ rfl) (hρ _ _ rfl)) (bool_as (decide_eq_false c4))) rfl rfl rfl (want_y 15 rfl rfl rfl) ?_
          refine TL_q (.bool false) (fun _ _ hρ _ => r_pick_t (hρ _ _ rfl) (hρ _ _ rfl)) rfl rfl rfl (w_n rfl) ?_
          refine TL_q (.bool false) (fun _ _ hρ _ => r_assign (hρ _ _ rfl)) rfl rfl rfl (w_n rfl) ?_
          refine TL_seq ?_
          refine T_ret' ?_
          refine ret_of rfl (.bool false) (fun tmps w hk hm => res1 rfl (res_tmp (hk 4 _ rfl))) (fun w hm => ?_)
          exact ⟨congrArg Ending.returned (bool_as (decide_eq_false (by omega)).symm), hm.ext⟩
      · skip
        by_cases c4 : y < 8
        · skip
          refine T_seq (T_region ?_)
          refine TL_q (.int .i64 x) (fun _ _ hρ _ => r_move (hρ _ _ rfl)) rfl rfl rfl (w_n rfl) ?_
          refine TL_q (.bool true) (fun _ _ hρ _ => r_as (r_geq (hρ _ _ rfl) (hρ _ _ rfl)) (bool_as (decide_eq_true c1))) rfl rfl rfl (w_n rfl) ?_
          refine TL_q (.bool true) (fun _ _ hρ _ => r_move (hρ _ _ rfl)) rfl rfl rfl (w_n rfl) ?_
          refine TL_q (.int .i64 x) (fun _ _ hρ _ => r_move (hρ _ _ rfl)) rfl rfl rfl (want_y 7 rfl rfl rfl) ?_
          refine TL_q (.bool true) (fun _ _ hρ _ => r_as (r_lss (hρ _ _ rfl) (hρ _ _ rfl)) (bool_as (decide_eq_true c2))) rfl rfl rfl (want_y 7 rfl rfl rfl) ?_
          refine TL_q (.bool true) (fun _ _ hρ _ => r_pick_t (hρ _ _ rfl) (hρ _ _ rfl)) rfl rfl rfl (w_n rfl) ?_
          refine TL_q (.bool true) (fun _ _ hρ _ => r_move (hρ _ _ rfl)) rfl rfl rfl (w_n rfl) ?_
          refine TL_q (.int .i64 y) (fun _ _ hρ _ => r_move (hρ _ _ rfl)) rfl rfl rfl (want_y 11 rfl rfl rfl) ?_
          refine TL_q (.bool false) (fun _ _ hρ _ => r_as (r_geq (hρ _ _ rfl) (hρ _ _ rfl)) (bool_as (decide_eq_false c3))) rfl rfl rfl (want_y 11 rfl rfl rfl) ?_
          refine TL_q (.bool false) (fun _ _ hρ _ => r_pick_t (hρ _ _ rfl) (hρ _ _ rfl)) rfl rfl rfl (w_n rfl) ?_
          refine TL_q (.bool false) (fun _ _ hρ _ => r_move (hρ _ _ rfl)) rfl rfl rfl (w_n rfl) ?_
          refine TL_no rfl rfl (want_n 15 rfl rfl rfl) ?_
          refine TL_no rfl rfl (want_n 15 rfl rfl rfl) ?_
          refine TL_q (.bool false) (fun _ _ hρ _ => r_pick_f (hρ _ _ rfl) (hρ _ _ rfl)) rfl rfl rfl (w_n rfl) ?_
          refine TL_q (.bool false) (fun _ _ hρ _ => r_assign (hρ _ _ rfl)) rfl rfl rfl (w_n rfl) ?_
          refine TL_seq ?_
          refine T_ret' ?_
          refine ret_of rfl (.bool false) (fun tmps w hk hm => res1 rfl (res_tmp (hk 4 _ rfl))) (fun w hm => ?_)
          exact ⟨congrArg Ending.returned (bool_as (decide_eq_false (by omega)).symm), hm.ext⟩
        · skip
          refine T_seq (T_region ?_)
          refine TL_q (.int .i64 x) (fun _ _ hρ _ => r_move (hρ _ _ rfl)) rfl rfl rfl (w_n rfl) ?_
          refine TL_q (.bool true) (fun _ _ hρ _ => r_as (r_geq (hρ _ _ rfl) (hρ _ _ rfl)) (bool_as (decide_eq_true c1))) rfl rfl rfl (w_n rfl) ?_
          refine TL_q (.bool true) (fun _ _ hρ _ => r_move (hρ _ _ rfl)) rfl rfl rfl (w_n rfl) ?_
          refine TL_q (.int .i64 x) (fun _ _ hρ _ => r_move (hρ _ _ rfl)) rfl rfl rfl (want_y 7 rfl rfl rfl) ?_
          refine TL_q (.bool true) (fun _ _ hρ _ => r_as (r_lss (hρ _ _ rfl) (hρ _ _ rfl)) (bool_as (decide_eq_true c2))) rfl rfl rfl (want_y 7 rfl rfl rfl) ?_
          refine TL_q (.bool true) (fun _ _ hρ _ => r_pick_t (hρ _ _ rfl) (hρ _ _ rfl)) rfl rfl rfl (w_n rfl) ?_
          refine TL_q (.bool true) (fun _ _ hρ _ => r_move (hρ _ _ rfl)) rfl rfl rfl (w_n rfl) ?_
          refine TL_q (.int .i64 y) (fun _ _ hρ _ => r_move (hρ _ _ rfl)) rfl rfl rfl (want_y 11 rfl rfl rfl) ?_
          refine TL_q (.bool false) (fun _ _ hρ _ => r_as (r_geq (hρ _ _ rfl) (hρ _ _ rfl)) (bool_as (decide_eq_false c3))) rfl rfl rfl (want_y 11 rfl rfl rfl) ?_
          refine TL_q (.bool false) (fun _ _ hρ _ => r_pick_t (hρ _ _ rfl) (hρ _ _ rfl)) rfl rfl rfl (w_n rfl) ?_
          refine TL_q (.bool false) (fun _ _ hρ _ => r_move (hρ _ _ rfl)) rfl rfl rfl (w_n rfl) ?_
          refine TL_no rfl rfl (want_n 15 rfl rfl rfl) ?_
          refine TL_no rfl rfl (want_n 15 rfl rfl rfl) ?_
          refine TL_q (.bool false) (fun _ _ hρ _ => r_pick_f (hρ _ _ rfl) (hρ _ _ rfl)) rfl rfl rfl (w_n rfl) ?_
          refine TL_q (.bool false) (fun _ _ hρ _ => r_assign (hρ _ _ rfl)) rfl rfl rfl (w_n rfl) ?_
          refine TL_seq ?_
          refine T_ret' ?_
          refine ret_of rfl (.bool false) (fun tmps w hk hm => res1 rfl (res_tmp (hk 4 _ rfl))) (fun w hm => ?_)
          exact ⟨congrArg Ending.returned (bool_as (decide_eq_false (by omega)).symm), hm.ext⟩
    · skip
      by_cases c3 : (0 : Int) ≤ y
      · skip
        by_cases c4 : y < 8
        · skip
          refine T_seq (T_region ?_)
          refine TL_q (.int .i64 x) (fun _ _ hρ _ => r_move (hρ _ _ rfl)) rfl rfl rfl (w_n rfl) ?_
          refine TL_q (.bool true) (fun _ _ hρ _ => r_as (r_geq (hρ _ _ rfl) (hρ _ _ rfl)) (bool_as (decide_eq_true c1))) rfl rfl rfl (w_n rfl) ?_
          refine TL_q (.bool true) (fun _ _ hρ _ => r_move (hρ _ _ rfl)) rfl rfl rfl (w_n rfl) ?_
          refine TL_q (.int .i64 x) (fun _ _ hρ _ => r_move (hρ _ _ rfl)) rfl rfl rfl (want_y 7 rfl rfl rfl) ?_
          refine TL_q (.bool false) (fun _ _ hρ _ => r_as (r_lss (hρ _ _ rfl) (hρ _ _ rfl)) (bool_as (decide_eq_false c2))) rfl rfl rfl (want_y 7 rfl rfl rfl) ?_
          refine TL_q (.bool false) (fun _ _ hρ _ => r_pick_t (hρ _ _ rfl) (hρ _ _ rfl)) rfl rfl rfl (w_n rfl) ?_
          refine TL_q (.bool false) (fun _ _ hρ _ => r_move (hρ _ _ rfl)) rfl rfl rfl (w_n rfl) ?_
          refine TL_no rfl rfl (want_n 11 rfl rfl rfl) ?_
          refine TL_no rfl rfl (want_n 11 rfl rfl rfl) ?_
          refine TL_q (.bool false) (fun _ _ hρ _ => r_pick_f (hρ _ _ rfl) (hρ _ _ rfl)) rfl rfl rfl (w_n rfl) ?_
          refine TL_q (.bool false) (fun _ _ hρ _ => r_move (hρ _ _ rfl)) rfl rfl rfl (w_n rfl) ?_
          refine TL_no rfl rfl (want_n 15 rfl rfl rfl) ?_
          refine TL_no rfl rfl (want_n 15 rfl rfl rfl) ?_
          refine TL_q (.bool false) (fun _ _ hρ _ => r_pick_f (hρ _ _ rfl) (hρ _ _ rfl)) rfl rfl rfl (w_n rfl) ?_
          refine TL_q (.bool false) (fun _ _ hρ _ => r_assign (hρ _ _ rfl)) rfl rfl rfl (w_n rfl) ?_
          refine TL_seq ?_
          refine T_ret' ?_
          refine ret_of rfl (.bool false) (fun tmps w hk hm => res1 rfl (res_tmp (hk 4 _ rfl))) (fun w hm => ?_)
          exact ⟨congrArg Ending.returned (bool_as (decide_eq_false (by omega)).symm), hm.ext⟩
        · skip
          refine T_seq (T_region ?_)
          refine TL_q (.int .i64 x) (fun _ _ hρ _ => r_move (hρ _ _ rfl)) rfl rfl rfl (w_n rfl) ?_
          refine TL_q (.bool true) (fun _ _ hρ _ => r_as (r_geq (hρ _ _ rfl) (hρ _ _ rfl)) (bool_as (decide_eq_true c1))) rfl rfl rfl (w_n rfl) ?_
          refine TL_q (.bool true) (fun _ _ hρ _ => r_move (hρ _ _ rfl)) rfl rfl rfl (w_n rfl) ?_
          refine TL_q (.int .i64 x) (fun _ _ hρ _ => r_move (hρ _ _ rfl)) rfl rfl rfl (want_y 7 rfl rfl rfl) ?_
          refine TL_q (.bool false) (fun _ _ hρ _ => r_as (r_lss (hρ _ _ rfl) (hρ _ _ rfl)) (bool_as (decide_eq_false c2))) rfl rfl rfl (want_y 7 rfl rfl rfl) ?_
          refine TL_q (.bool false) (fun _ _ hρ _ => r_pick_t (hρ _ _ rfl) (hρ _ _ rfl)) rfl rfl rfl (w_n rfl) ?_
          refine TL_q (.bool false) (fun _ _ hρ _ => r_move (hρ _ _ rfl)) rfl rfl rfl (w_n rfl) ?_
          refine TL_no rfl rfl (want_n 11 rfl rfl rfl) ?_
          refine TL_no rfl rfl (want_n 11 rfl rfl rfl) ?_
          refine TL_q (.bool false) (fun _ _ hρ _ => r_pick_f (hρ _ _ rfl) (hρ _ _ rfl)) rfl rfl rfl (w_n rfl) ?_
          refine TL_q (.bool false) (fun _ _ hρ _ => r_move (hρ _ _ rfl)) rfl rfl rfl (w_n rfl) ?_
          refine TL_no rfl rfl (want_n 15 rfl rfl rfl) ?_
          refine TL_no rfl rfl (want_n 15 rfl rfl rfl) ?_
          refine TL_q (.bool false) (fun _ _ hρ _ => r_pick_f (hρ _ _ rfl) (hρ _ _ rfl)) rfl rfl rfl (w_n rfl) ?_
          refine TL_q (.bool false) (fun _ _ hρ _ => r_assign (hρ _ _ rfl)) rfl rfl rfl (w_n rfl) ?_
          refine TL_seq ?_
          refine T_ret' ?_
          refine ret_of rfl (.bool false) (fun tmps w hk hm => res1 rfl (res_tmp (hk 4 _ rfl))) (fun w hm => ?_)
          exact ⟨congrArg Ending.returned (bool_as (decide_eq_false (by omega)).symm), hm.ext⟩
      · skip
        by_cases c4 : y < 8
        · skip
          refine T_seq (T_region ?_)
          refine TL_q (.int .i64 x) (fun _ _ hρ _ => r_move (hρ _ _ rfl)) rfl rfl rfl (w_n rfl) ?_
          refine TL_q (.bool true) (fun _ _ hρ _ => r_as (r_geq (hρ _ _ rfl) (hρ _ _ rfl)) (bool_as (decide_eq_true c1))) rfl rfl rfl (w_n rfl) ?_
          refine TL_q (.bool true) (fun _ _ hρ _ => r_move (hρ _ _ rfl)) rfl rfl rfl (w_n rfl) ?_
          refine TL_q (.int .i64 x) (fun _ _ hρ _ => r_move (hρ _ _ rfl)) rfl rfl rfl (want_y 7 rfl rfl rfl) ?_
          refine TL_q (.bool false) (fun _ _ hρ _ => r_as (r_lss (hρ _ _ rfl) (hρ _ _ rfl)) (bool_as (decide_eq_false c2))) rfl rfl rfl (want_y 7 rfl rfl rfl) ?_
          refine TL_q (.bool false) (fun _ _ hρ _ => r_pick_t (hρ _ _ rfl) (hρ _ _ rfl)) rfl rfl rfl (w_n rfl) ?_
          refine TL_q (.bool false) (fun _ _ hρ _ => r_move (hρ _ _ rfl)) rfl rfl rfl (w_n rfl) ?_
          refine TL_no rfl rfl (want_n 11 rfl rfl rfl) ?_
          refine TL_no rfl rfl (want_n 11 rfl rfl rfl) ?_
          refine TL_q (.bool false) (fun _ _ hρ _ => r_pick_f (hρ _ _ rfl) (hρ _ _ rfl)) rfl rfl rfl (w_n rfl) ?_
          refine TL_q (.bool false) (fun _ _ hρ _ => r_move (hρ _ _ rfl)) rfl rfl rfl (w_n rfl) ?_
          refine TL_no rfl rfl (want_n 15 rfl rfl rfl) ?_
          refine TL_no rfl rfl (want_n 15 rfl rfl rfl) ?_
          refine TL_q (.bool false) (fun _ _ hρ _ => r_pick_f (hρ _ _ rfl) (hρ _ _ rfl)) rfl rfl rfl (w_n rfl) ?_
          refine TL_q (.bool false) (fun _ _ hρ _ => r_assign (hρ _ _ rfl)) rfl rfl rfl (w_n rfl) ?_
          refine TL_seq ?_
          refine T_ret' ?_
          refine ret_of rfl (.bool false) (fun tmps w hk hm => res1 rfl (res_tmp (hk 4 _ rfl))) (fun w hm => ?_)
          exact ⟨congrArg Ending.returned (bool_as (decide_eq_false (by omega)).symm), hm.ext⟩
        · skip
          refine T_seq (T_region ?_)
          refine TL_q (.int .i64 x) (fun _ _ hρ _ => r_move (hρ _ _ rfl)) rfl rfl rfl (w_n rfl) ?_
          refine TL_q (.bool true) (fun _ _ hρ _ => r_as (r_geq (hρ _ _ rfl) (hρ _ _ rfl)) (bool_as (decide_eq_true c1))) rfl rfl rfl (w_n rfl) ?_
          refine TL_q (.bool true) (fun _ _ hρ _ => r_move (hρ _ _ rfl)) rfl rfl rfl (w_n rfl) ?_
          refine TL_q (.int .i64 x) (fun _ _ hρ _ => r_move (hρ _ _ rfl)) rfl rfl rfl (want_y 7 rfl rfl rfl) ?_
          refine TL_q (.bool false) (fun _ _ hρ _ => r_as (r_lss (hρ _ _ rfl) (hρ _ _ rfl)) (bool_as (decide_eq_false c2))) rfl rfl rfl (want_y 7 rfl rfl rfl) ?_
          refine TL_q (.bool false) (fun _ _ hρ _ => r_pick_t (hρ _ _ rfl) (hρ _ _ rfl)) rfl rfl rfl (w_n rfl) ?_
          refine TL_q (.bool false) (fun _ _ hρ _ => r_move (hρ _ _ rfl)) rfl rfl rfl (w_n rfl) ?_
          refine TL_no rfl rfl (want_n 11 rfl rfl rfl) ?_
          refine TL_no rfl rfl (want_n 11 rfl rfl rfl) ?_
          refine TL_q (.bool false) (fun _ _ hρ _ => r_pick_f (hρ _ _ rfl) (hρ _ _ rfl)) rfl rfl rfl (w_n rfl) ?_
          refine TL_q (.bool false) (fun _ _ hρ _ => r_move (hρ _ _ rfl)) rfl rfl rfl (w_n rfl) ?_
          refine TL_no rfl rfl (want_n 15 rfl rfl rfl) ?_
          refine TL_no rfl rfl (want_n 15 rfl rfl rfl) ?_
          refine TL_q (.bool false) (fun _ _ hρ _ => r_pick_f (hρ _ _ rfl) (hρ _ _ rfl)) rfl rfl rfl (w_n rfl) ?_
          refine TL_q (.bool false) (fun _ _ hρ _ => r_assign (hρ _ _ rfl)) rfl rfl rfl (w_n rfl) ?_
          refine TL_seq ?_
          refine T_ret' ?_
          refine ret_of rfl (.bool false) (fun tmps w hk hm => res1 rfl (res_tmp (hk 4 _ rfl))) (fun w hm => ?_)
          exact ⟨congrArg Ending.returned (bool_as (decide_eq_false (by omega)).symm), hm.ext⟩
  · skip
    by_cases c2 : x < 8
    · skip
      by_cases c3 : (0 : Int) ≤ y
      · skip
        by_cases c4 : y < 8
        · skip
          refine T_seq (T_region ?_)
          refine TL_q (.int .i64 x) (fun _ _ hρ _ => r_move (hρ _ _ rfl)) rfl rfl rfl (w_n rfl) ?_
          refine TL_q (.bool false) (fun _ _ hρ _ => r_as (r_geq (hρ _ _ rfl) (hρ _ _ rfl)) (bool_as (decide_eq_false c1))) rfl rfl rfl (w_n rfl) ?_
          refine TL_q (.bool false) (fun _ _ hρ _ => r_move (hρ _ _ rfl)) rfl rfl rfl (w_n rfl) ?_
          refine TL_no rfl rfl (want_n 7 rfl rfl rfl) ?_
          refine TL_no rfl rfl (want_n 7 rfl rfl rfl) ?_
          refine TL_q (.bool false) (fun _ _ hρ _ => r_pick_f (hρ _ _ rfl) (hρ _ _ rfl)) rfl rfl rfl (w_n rfl) ?_
          refine TL_q (.bool false) (fun _ _ hρ _ => r_move (hρ _ _ rfl)) rfl rfl rfl (w_n rfl) ?_
          refine TL_no rfl rfl (want_n 11 rfl rfl rfl) ?_
          refine TL_no rfl rfl (want_n 11 rfl rfl rfl) ?_
          refine TL_q (.bool false) (fun _ _ hρ _ => r_pick_f (hρ _ _ rfl) (hρ _ _ rfl)) rfl rfl rfl (w_n rfl) ?_
          refine TL_q (.bool false) (fun _ _ hρ _ => r_move (hρ _ _ rfl)) rfl rfl rfl (w_n rfl) ?_
          refine TL_no rfl rfl (want_n 15 rfl rfl rfl) ?_
          refine TL_no rfl rfl (want_n 15 rfl rfl rfl) ?_
          refine TL_q (.bool false) (fun _ _ hρ _ => r_pick_f (hρ _ _ rfl) (hρ _ _ rfl)) rfl rfl rfl (w_n rfl) ?_
          refine TL_q (.bool false) (fun _ _ hρ _ => r_assign (hρ _ _ rfl)) rfl rfl rfl (w_n rfl) ?_
          refine TL_seq ?_
          refine T_ret' ?_
          refine ret_of rfl (.bool false) (fun tmps w hk hm => res1 rfl (res_tmp (hk 4 _ rfl))) (fun w hm => ?_)
          exact ⟨congrArg Ending.returned (bool_as (decide_eq_false (by omega)).symm), hm.ext⟩
        · skip
          refine T_seq (T_region ?_)
          refine TL_q (.int .i64 x) (fun _ _ hρ _ => r_move (hρ _ _ rfl)) rfl rfl rfl (w_n rfl) ?_
          refine TL_q (.bool false) (fun _ _ hρ _ => r_as (r_geq (hρ _ _ rfl) (hρ _ _ rfl)) (bool_as (decide_eq_false c1))) rfl rfl rfl (w_n rfl) ?_
          refine TL_q (.bool false) (fun _ _ hρ _ => r_move (hρ _ _ rfl)) rfl rfl rfl (w_n rfl) ?_
          refine TL_no rfl rfl (want_n 7 rfl rfl rfl) ?_
          refine TL_no rfl rfl (want_n 7 rfl rfl rfl) ?_
          refine TL_q (.bool false) (fun _ _ hρ _ => r_pick_f (hρ _ _ rfl) (hρ _ _ rfl)) rfl rfl rfl (w_n rfl) ?_
          refine TL_q (.bool false) (fun _ _ hρ _ => r_move (hρ _ _ rfl)) rfl rfl rfl (w_n rfl) ?_
          refine TL_no rfl rfl (want_n 11 rfl rfl rfl) ?_
          refine TL_no rfl rfl (want_n 11 rfl rfl rfl) ?_
          refine TL_q (.bool false) (fun _ _ hρ _ => r_pick_f (hρ _ _ rfl) (hρ _ _ rfl)) rfl rfl rfl (w_n rfl) ?_
          refine TL_q (.bool false) (fun _ _ hρ _ => r_move (hρ _ _ rfl)) rfl rfl rfl (w_n rfl) ?_
          refine TL_no rfl rfl (want_n 15 rfl rfl rfl) ?_
          refine TL_no rfl rfl (want_n 15 rfl rfl rfl) ?_
          refine TL_q (.bool false) (fun _ _ hρ _ => r_pick_f (hρ _ _ rfl) (hρ _ _ rfl)) rfl rfl rfl (w_n rfl) ?_
          refine TL_q (.bool false) (fun _ _ hρ _ => r_assign (hρ _ _ rfl)) rfl rfl rfl (w_n rfl) ?_
          refine TL_seq ?_
          refine T_ret' ?_
          refine ret_of rfl (.bool false) (fun tmps w hk hm => res1 rfl (res_tmp (hk 4 _ rfl))) (fun w hm => ?_)
          exact ⟨congrArg Ending.returned (bool_as (decide_eq_false (by omega)).symm), hm.ext⟩
      · skip
        by_cases c4 : y < 8
        · skip
          refine T_seq (T_region ?_)
          refine TL_q (.int .i64 x) (fun _ _ hρ _ => r_move (hρ _ _ rfl)) rfl rfl rfl (w_n rfl) ?_
          refine TL_q (.bool false) (fun _ _ hρ _ => r_as (r_geq (hρ _ _ rfl) (hρ _ _ rfl)) (bool_as (decide_eq_false c1))) rfl rfl rfl (w_n rfl) ?_
          refine TL_q (.bool false) (fun _ _ hρ _ => r_move (hρ _ _ rfl)) rfl rfl rfl (w_n rfl) ?_
          refine TL_no rfl rfl (want_n 7 rfl rfl rfl) ?_
          refine TL_no rfl rfl (want_n 7 rfl rfl rfl) ?_
          refine TL_q (.bool false) (fun _ _ hρ _ => r_pick_f (hρ _ _ rfl) (hρ _ _ rfl)) rfl rfl rfl (w_n rfl) ?_
          refine TL_q (.bool false) (fun _ _ hρ _ => r_move (hρ _ _ rfl)) rfl rfl rfl (w_n rfl) ?_
          refine TL_no rfl rfl (want_n 11 rfl rfl rfl) ?_
          refine TL_no rfl rfl (want_n 11 rfl rfl rfl) ?_
          refine TL_q (.bool false) (fun _ _ hρ _ => r_pick_f (hρ _ _ rfl) (hρ _ _ rfl)) rfl rfl rfl (w_n rfl) ?_
          refine TL_q (.bool false) (fun _ _ hρ _ => r_move (hρ _ _ rfl)) rfl rfl rfl (w_n rfl) ?_
          refine TL_no rfl rfl (want_n 15 rfl rfl rfl) ?_
          refine TL_no rfl rfl (want_n 15 rfl rfl rfl) ?_
          refine TL_q (.bool false) (fun _ _ hρ _ => r_pick_f (hρ _ _ rfl) (hρ _ _ rfl)) rfl rfl rfl (w_n rfl) ?_
          refine TL_q (.bool false) (fun _ _ hρ _ => r_assign (hρ _ _ rfl)) rfl rfl rfl (w_n rfl) ?_
          refine TL_seq ?_
          refine T_ret' ?_
          refine ret_of rfl (.bool false) (fun tmps w hk hm => res1 rfl (res_tmp (hk 4 _ rfl))) (fun w hm => ?_)
          exact ⟨congrArg Ending.returned (bool_as (decide_eq_false (by omega)).symm), hm.ext⟩
        · skip
          refine T_seq (T_region ?_)
          refine TL_q (.int .i64 x) (fun _ _ hρ _ => r_move (hρ _ _ rfl)) rfl rfl rfl (w_n rfl) ?_
          refine TL_q (.bool false) (fun _ _ hρ _ => r_as (r_geq (hρ _ _ rfl) (hρ _ _ rfl)) (bool_as (decide_eq_false c1))) rfl rfl rfl (w_n rfl) ?_
          refine TL_q (.bool false) (fun _ _ hρ _ => r_move (hρ _ _ rfl)) rfl rfl rfl (w_n rfl) ?_
          refine TL_no rfl rfl (want_n 7 rfl rfl rfl) ?_
          refine TL_no rfl rfl (want_n 7 rfl rfl rfl) ?_
          refine TL_q (.bool false) (fun _ _ hρ _ => r_pick_f (hρ _ _ rfl) (hρ _ _ rfl)) rfl rfl rfl (w_n rfl) ?_
          refine TL_q (.bool false) (fun _ _ hρ _ => r_move (hρ _ _ rfl)) rfl rfl rfl (w_n rfl) ?_
          refine TL_no rfl rfl (want_n 11 rfl rfl rfl) ?_
          refine TL_no rfl rfl (want_n 11 rfl rfl rfl) ?_
          refine TL_q (.bool false) (fun _ _ hρ _ => r_pick_f (hρ _ _ rfl) (hρ _ _ rfl)) rfl rfl rfl (w_n rfl) ?_
          refine TL_q (.bool false) (fun _ _ hρ _ => r_move (hρ _ _ rfl)) rfl rfl rfl (w_n rfl) ?_
          refine TL_no rfl rfl (want_n 15 rfl rfl rfl) ?_
          refine TL_no rfl rfl (want_n 15 rfl rfl rfl) ?_
          refine TL_q (.bool false) (fun _ _ hρ _ => r_pick_f (hρ _ _ rfl) (hρ _ _ rfl)) rfl rfl rfl (w_n rfl) ?_
          refine TL_q (.bool false) (fun _ _ hρ _ => r_assign (hρ _ _ rfl)) rfl rfl rfl (w_n rfl) ?_
          refine TL_seq ?_
          refine T_ret' ?_
          refine ret_of rfl (.bool false) (fun tmps w hk hm => res1 rfl (res_tmp (hk 4 _ rfl))) (fun w hm => ?_)
          exact ⟨congrArg Ending.returned (bool_as (decide_eq_false (by omega)).symm), hm.ext⟩
    · skip
      by_cases c3 : (0 : Int) ≤ y
      · skip
        by_cases c4 : y < 8
        · skip
          refine T_seq (T_region ?_)
          refine TL_q (.int .i64 x) (fun _ _ hρ _ => r_move (hρ _ _ rfl)) rfl rfl rfl (w_n rfl) ?_
          refine TL_q (.bool false) (fun _ _ hρ _ => r_as (r_geq (hρ _ _ rfl) (hρ _ _ rfl)) (bool_as (decide_eq_false c1))) rfl rfl rfl (w_n rfl) ?_
          refine TL_q (.bool false) (fun _ _ hρ _ => r_move (hρ _ _ rfl)) rfl rfl rfl (w_n rfl) ?_
          refine TL_no rfl rfl (want_n 7 rfl rfl rfl) ?_
          refine TL_no rfl rfl (want_n 7 rfl rfl rfl) ?_
          refine TL_q (.bool false) (fun _ _ hρ _ => r_pick_f (hρ _ _ rfl) (hρ _ _ rfl)) rfl rfl rfl (w_n rfl) ?_
          refine TL_q (.bool false) (fun _ _ hρ _ => r_move (hρ _ _ rfl)) rfl rfl rfl (w_n rfl) ?_
          refine TL_no rfl rfl (want_n 11 rfl rfl rfl) ?_
          refine TL_no rfl rfl (want_n 11 rfl rfl rfl) ?_
          refine TL_q (.bool false) (fun _ _ hρ _ => r_pick_f (hρ _ _ rfl) (hρ _ _ rfl)) rfl rfl rfl (w_n rfl) ?_
          refine TL_q (.bool false) (fun _ _ hρ _ => r_move (hρ _ _ rfl)) rfl rfl rfl (w_n rfl) ?_
          refine TL_no rfl rfl (want_n 15 rfl rfl rfl) ?_
          refine TL_no rfl rfl (want_n 15 rfl rfl rfl) ?_
          refine TL_q (.bool false) (fun _ _ hρ _ => r_pick_f (hρ _ _ rfl) (hρ _ _ rfl)) rfl rfl rfl (w_n rfl) ?_
          refine TL_q (.bool false) (fun _ _ hρ _ => r_assign (hρ _ _ rfl)) rfl rfl rfl (w_n rfl) ?_
          refine TL_seq ?_
          refine T_ret' ?_
          refine ret_of rfl (.bool false) (fun tmps w hk hm => res1 rfl (res_tmp (hk 4 _ rfl))) (fun w hm => ?_)
          exact ⟨congrArg Ending.returned (bool_as (decide_eq_false (by omega)).symm), hm.ext⟩
        · skip
          refine T_seq (T_region ?_)
          refine TL_q (.int .i64 x) (fun _ _ hρ _ => r_move (hρ _ _ rfl)) rfl rfl rfl (w_n rfl) ?_
          refine TL_q (.bool false) (fun _ _ hρ _ => r_as (r_geq (hρ _ _ rfl) (hρ _ _ rfl)) (bool_as (decide_eq_false c1))) rfl rfl rfl (w_n rfl) ?_
          refine TL_q (.bool false) (fun _ _ hρ _ => r_move (hρ _ _ rfl)) rfl rfl rfl (w_n rfl) ?_
          refine TL_no rfl rfl (want_n 7 rfl rfl rfl) ?_
          refine TL_no rfl rfl (want_n 7 rfl rfl rfl) ?_
          refine TL_q (.bool false) (fun _ _ hρ _ => r_pick_f (hρ _ _ rfl) (hρ _ _ rfl)) rfl rfl rfl (w_n rfl) ?_
          refine TL_q (.bool false) (fun _ _ hρ _ => r_move (hρ _ _ rfl)) rfl rfl rfl (w_n rfl) ?_
          refine TL_no rfl rfl (want_n 11 rfl rfl rfl) ?_
          refine TL_no rfl rfl (want_n 11 rfl rfl rfl) ?_
          refine TL_q (.bool false) (fun _ _ hρ _ => r_pick_f (hρ _ _ rfl) (hρ _ _ rfl)) rfl rfl rfl (w_n rfl) ?_
          refine TL_q (.bool false) (fun _ _ hρ _ => r_move (hρ _ _ rfl)) rfl rfl rfl (w_n rfl) ?_
          refine TL_no rfl rfl (want_n 15 rfl rfl rfl) ?_
          refine TL_no rfl rfl (want_n 15 rfl rfl rfl) ?_
          refine TL_q (.bool false) (fun _ _ hρ _ => r_pick_f (hρ _ _ rfl) (hρ _ _ rfl)) rfl rfl rfl (w_n rfl) ?_
          refine TL_q (.bool false) (fun _ _ hρ _ => r_assign (hρ _ _ rfl)) rfl rfl rfl (w_n rfl) ?_
          refine TL_seq ?_
          refine T_ret' ?_
          refine ret_of rfl (.bool false) (fun tmps w hk hm => res1 rfl (res_tmp (hk 4 _ rfl))) (fun w hm => ?_)
          exact ⟨congrArg Ending.returned (bool_as (decide_eq_false (by omega)).symm), hm.ext⟩
      · skip
        by_cases c4 : y < 8
        · skip
          refine T_seq (T_region ?_)
          refine TL_q (.int .i64 x) (fun _ _ hρ _ => r_move (hρ _ _ rfl)) rfl rfl rfl (w_n rfl) ?_
          refine TL_q (.bool false) (fun _ _ hρ _ => r_as (r_geq (hρ _ _ rfl) (hρ _ _ rfl)) (bool_as (decide_eq_false c1))) rfl rfl rfl (w_n rfl) ?_
          refine TL_q (.bool false) (fun _ _ hρ _ => r_move (hρ _ _ rfl)) rfl rfl rfl (w_n rfl) ?_
          refine TL_no rfl rfl (want_n 7 rfl rfl rfl) ?_
          refine TL_no rfl rfl (want_n 7 rfl rfl rfl) ?_
          refine TL_q (.bool false) (fun _ _ hρ _ => r_pick_f (hρ _ _ rfl) (hρ _ _ rfl)) rfl rfl rfl (w_n rfl) ?_
          refine TL_q (.bool false) (fun _ _ hρ _ => r_move (hρ _ _ rfl)) rfl rfl rfl (w_n rfl) ?_
          refine TL_no rfl rfl (want_n 11 rfl rfl rfl) ?_
          refine TL_no rfl rfl (want_n 11 rfl rfl rfl) ?_
          refine TL_q (.bool false) (fun _ _ hρ _ => r_pick_f (hρ _ _ rfl) (hρ _ _ rfl)) rfl rfl rfl (w_n rfl) ?_
          refine TL_q (.bool false) (fun _ _ hρ _ => r_move (hρ _ _ rfl)) rfl rfl rfl (w_n rfl) ?_
          refine TL_no rfl rfl (want_n 15 rfl rfl rfl) ?_
          refine TL_no rfl rfl (want_n 15 rfl rfl rfl) ?_
          refine TL_q (.bool false) (fun _ _ hρ _ => r_pick_f (hρ _ _ rfl) (hρ _ _ rfl)) rfl rfl rfl (w_n rfl) ?_
          refine TL_q (.bool false) (fun _ _ hρ _ => r_assign (hρ _ _ rfl)) rfl rfl rfl (w_n rfl) ?_
          refine TL_seq ?_
          refine T_ret' ?_
          refine ret_of rfl (.bool false) (fun tmps w hk hm => res1 rfl (res_tmp (hk 4 _ rfl))) (fun w hm => ?_)
          exact ⟨congrArg Ending.returned (bool_as (decide_eq_false (by omega)).symm), hm.ext⟩
        · skip
          refine T_seq (T_region ?_)
          refine TL_q (.int .i64 x) (fun _ _ hρ _ => r_move (hρ _ _ rfl)) rfl rfl rfl (w_n rfl) ?_
          refine TL_q (.bool false) (fun _ _ hρ _ => r_as (r_geq (hρ _ _ rfl) (hρ _ _ rfl)) (bool_as (decide_eq_false c1))) rfl rfl rfl (w_n rfl) ?_
          refine TL_q (.bool false) (fun _ _ hρ _ => r_move (hρ _ _ rfl)) rfl rfl rfl (w_n rfl) ?_
          refine TL_no rfl rfl (want_n 7 rfl rfl rfl) ?_
          refine TL_no rfl rfl (want_n 7 rfl rfl rfl) ?_
          refine TL_q (.bool false) (fun _ _ hρ _ => r_pick_f (hρ _ _ rfl) (hρ _ _ rfl)) rfl rfl rfl (w_n rfl) ?_
          refine TL_q (.bool false) (fun _ _ hρ _ => r_move (hρ _ _ rfl)) rfl rfl rfl (w_n rfl) ?_
          refine TL_no rfl rfl (want_n 11 rfl rfl rfl) ?_
          refine TL_no rfl rfl (want_n 11 rfl rfl rfl) ?_
          refine TL_q (.bool false) (fun _ _ hρ _ => r_pick_f (hρ _ _ rfl) (hρ _ _ rfl)) rfl rfl rfl (w_n rfl) ?_
          refine TL_q (.bool false) (fun _ _ hρ _ => r_move (hρ _ _ rfl)) rfl rfl rfl (w_n rfl) ?_
          refine TL_no rfl rfl (want_n 15 rfl rfl rfl) ?_
          refine TL_no rfl rfl (want_n 15 rfl rfl rfl) ?_
          refine TL_q (.bool false) (fun _ _ hρ _ => r_pick_f (hρ _ _ rfl) (hρ _ _ rfl)) rfl rfl rfl (w_n rfl) ?_
          refine TL_q (.bool false) (fun _ _ hρ _ => r_assign (hρ _ _ rfl)) rfl rfl rfl (w_n rfl) ?_
          refine TL_seq ?_
          refine T_ret' ?_
          refine ret_of rfl (.bool false) (fun tmps w hk hm => res1 rfl (res_tmp (hk 4 _ rfl))) (fun w hm => ?_)
          exact ⟨congrArg Ending.returned (bool_as (decide_eq_false (by omega)).symm), hm.ext⟩

theorem put_ht (w₀ : World) (L : Heap) (B : Nat) (m : List C4) (x y : Int) (c : C4) (hl : m.length = 64) (hi : lk L 900 = some (.blk B (.cells (lst C4.cells m) 130))) (hf : lk L 1001 = none) :
    ∀ w, MemOk w₀ L w → Calls Try.prog 83 #[.pointer (some ⟨B, 0, none⟩), .int .i64 x, .int .i64 y, c.v] w (HAns w₀ (fun _ : Unit => True) (fun _ => .bool (isP x y)) (fun _ => (900, .blk B (.cells (lst C4.cells (putL m x y c)) 130)) :: L)) := by
  refine ht_of_T (l := [.pointer (some ⟨B, 0, none⟩), .int .i64 x, .int .i64 y, .agg #[.int .u8 c.r, .int .u8 c.g, .int .u8 c.b, .int .u8 c.a]]) (L := L) 22 Try.func83 rfl rfl rfl ?_
  refine T_mem ((900, .blk B (.cells (lst C4.cells m) 130)) :: L) (fun _ hm => hm.of (lk_dup hi)) ?_
  show T _ _ _ [(0, .pointer (some ⟨B, 0, none⟩)), (1, .int .i64 x), (2, .int .i64 y), (3, .agg #[.int .u8 c.r, .int .u8 c.g, .int .u8 c.b, .int .u8 c.a])] ((900, .blk B (.cells (lst C4.cells m) 130)) :: L)
  refine T_seq (T_region ?_)
  refine TL_new 1001 (.cells #[.int .u8 c.r, .int .u8 c.g, .int .u8 c.b, .int .u8 c.a] 89) (fun B => .pointer (some ⟨B, 0, none⟩)) (fun _ _ hρ _ => r_box (hρ _ _ rfl) rfl) rfl rfl rfl (w_n rfl) ?_
  intro B1
  refine TL_q (.bool false) (fun _ _ hρ _ => r_assign (hρ _ _ rfl)) rfl rfl rfl (w_n rfl) ?_
  refine TL_seq ?_
  refine T_seq ?_
  refine T_seq (T_region ?_)
  refine TL_q (.int .i64 x) (fun _ _ hρ _ => r_move (hρ _ _ rfl)) rfl rfl rfl (w_n rfl) ?_
  refine TL_q (.int .i64 y) (fun _ _ hρ _ => r_move (hρ _ _ rfl)) rfl rfl rfl (w_n rfl) ?_
  refine TL_call (.bool (isP x y)) (fun _ _ hρ _ => r_call (args := [.int .i64 x, .int .i64 y]) (enters_of Try.func85 (by kernel_rfl) rfl) (hρ _ _ rfl) ((cons2 (hρ _ _ rfl) (cons2 (hρ _ _ rfl) rfl))) rfl) (fun w _ => is_c x y w) rfl rfl rfl (w_n rfl) ?_
  refine TL_q (.bool (!(isP x y))) (fun _ _ hρ _ => r_not (b := isP x y) (hρ _ _ rfl)) rfl rfl rfl (w_n rfl) ?_
  refine TL_seq ?_
  refine T_cond rfl (fun h1 => ?_) (fun h1 => ?_)
  · replace h1 := bnot_t h1
    refine T_seq (T_region ?_)
    refine TL_q (.bool false) (fun _ _ hρ _ => r_assign (hρ _ _ rfl)) rfl rfl rfl (w_n rfl) ?_
    refine TL_seq ?_
    refine T_ret' ?_
    refine p_then_r ?_
    refine ret_of rfl (.bool false) (fun tmps w hk hm => res1 rfl (res_tmp (hk 8 _ rfl))) (fun w hm => ?_)
    exact ⟨(), trivial, congrArg Ending.returned (bool_as h1.symm), by rw [putL_no h1]; exact hm.of (lk_fresh (show lk (_ :: L) 1001 = none from hf))⟩
  · replace h1 := bnot_f h1
    refine T_skip' ?_
    refine p_seq ?_
    obtain ⟨px, py, rfl, rfl, hpx, hpy⟩ := isP_nat h1
    refine T_seq (T_draw (V := [(0, .pointer (some ⟨B, 0, none⟩)), (1, .int .i64 ((py : Nat) : Int)), (2, .int .i64 ((py * 8 : Nat) : Int)), (3, .int .i64 ((px : Nat) : Int)), (4, .int .i64 ((py * 8 + px : Nat) : Int)), (5, .agg #[.int .u8 c.r, .int .u8 c.g, .int .u8 c.b, .int .u8 c.a]), (6, .pointer (some ⟨B, 0, none⟩)), (7, .pointer (some ⟨B, 0, none⟩)), (8, .pointer (some ⟨B, 0 + (py * 8 + px) * 4, none⟩))]) [0, 0, 2, 0, 14, 0, 1, 65, 255, 511] [[(0, none)], [(2, none)], [(14, some 1)], [(1, none)], [(15, some 2), (16, some 3)], [(7, none)], [(13, some 0)], [(19, some 6)], [(20, some 7), (17, some 4)], [(21, some 8), (18, some 5)]] 512 mixed (by kernel_rfl) ?_)
    refine G_step [0, 1, 2, 3, 4, 5, 6, 7, 8] 9 [] (by kernel_rfl) (allM (all_cons (q_run (.pointer (some ⟨B, 0, none⟩)) rfl rfl (wv_n rfl) rfl (fun _ _ hρ _ => r_move (hρ _ _ rfl))) (all_cons (q_run (.int .i64 ((py : Nat) : Int)) rfl rfl (wv_n rfl) rfl (fun _ _ hρ _ => r_move (hρ _ _ rfl))) (all_cons (q_run (.int .i64 ((py * 8 : Nat) : Int)) rfl rfl (wv_n rfl) rfl (fun _ _ hρ _ => r_as (r_mul (hρ _ _ rfl) (hρ _ _ rfl)) (int_as ((wrap64 (by omega) (by omega)).trans (by omega))))) (all_cons (q_run (.int .i64 ((px : Nat) : Int)) rfl rfl (wv_n rfl) rfl (fun _ _ hρ _ => r_move (hρ _ _ rfl))) (all_cons (q_run (.int .i64 ((py * 8 + px : Nat) : Int)) rfl rfl (wv_n rfl) rfl (fun _ _ hρ _ => r_as (r_add (hρ _ _ rfl) (hρ _ _ rfl)) (int_as ((wrap64 (by omega) (by omega)).trans (by omega))))) (all_cons (q_run (.agg #[.int .u8 c.r, .int .u8 c.g, .int .u8 c.b, .int .u8 c.a]) rfl rfl (wv_n rfl) rfl (fun _ _ hρ hm => r_loadA ag89 sz89 (hρ _ _ rfl) (hm.at 1001 rfl) rfl rfl)) (all_cons (q_run (.pointer (some ⟨B, 0, none⟩)) rfl rfl (wv_n rfl) rfl (fun _ _ hρ _ => r_nilCheck (hρ _ _ rfl) rfl)) (all_cons (q_run (.pointer (some ⟨B, 0, none⟩)) rfl rfl (wv_n rfl) rfl (fun _ _ hρ _ => r_fieldAddr fl130_0 sz91 (hρ _ _ rfl))) (all_cons (q_run (.pointer (some ⟨B, 0 + (py * 8 + px) * 4, none⟩)) rfl rfl (wv_n rfl) rfl (fun _ _ hρ _ => r_indexAddrA (i := py * 8 + px) ar91 sz89 (hρ _ _ rfl) (hρ _ _ rfl) (by omega))) all_nil)))))))))) (allM (all_cons ?_ all_nil))
    refine LOb_store 900 (.cells (lst C4.cells (m.set (py * 8 + px) c)) 130) [] rfl (wv_n rfl) rfl rfl rfl (fun _ _ hρ hm => r_storeLst (u := c) sz89 (hρ _ _ rfl) (hρ _ _ rfl) (hm.at 900 rfl) C4.cells_len (lt64 hl (by omega)) rfl rfl) (by kernel_rfl) ?_
    refine G_last [] [(8, .bool false)] (by kernel_rfl) (allM all_nil) (end_old rfl rfl end_nil) ?_
    refine T_seq (T_region ?_)
    refine TL_q (.bool true) (fun _ _ hρ _ => r_assign (hρ _ _ rfl)) rfl rfl rfl (w_n rfl) ?_
    refine TL_seq ?_
    refine T_ret' ?_
    refine ret_of rfl (.bool true) (fun tmps w hk hm => res1 rfl (res_tmp (hk 8 _ rfl))) (fun w hm => ?_)
    exact ⟨(), trivial, congrArg Ending.returned (bool_as h1.symm), by rw [putL_at hpx hpy]; exact hm.of (lk_put rfl hf)⟩

/-- A point. -/
structure Pt where
  x : Int
  y : Int
abbrev Pt.cells (p : Pt) : List Value := [.int .i64 p.x, .int .i64 p.y]
theorem Pt.cells_len (p : Pt) : p.cells.length = 2 := rfl
abbrev Pt.inn (p : Pt) : Bool := isP p.x p.y
def withL (l : List C4) (c : C4) (ps : List Pt) : List C4 := ps.foldl (fun m p => putL m p.x p.y c) l
theorem withL_len {l : List C4} {c : C4} (hl : l.length = 64) : ∀ ps, (withL l c ps).length = 64 := by
  intro ps
  unfold withL
  induction ps generalizing l with
  | nil => exact hl
  | cons p ps ih => exact ih (by rw [putL_len]; exact hl)
def withR (l : List C4) (c : C4) (ps : List Pt) : Option (List C4) := if ps.all Pt.inn then some (withL l c ps) else none
theorem with_step {l : List C4} {c : C4} {ps : List Pt} {k : Nat} {u : Pt} (h : ps[k]? = some u) : withL l c (ps.take (k + 1)) = putL (withL l c (ps.take k)) u.x u.y c := by
  unfold withL
  rw [List.take_add_one, h, List.foldl_append]; rfl
theorem inn_step {ps : List Pt} {k : Nat} {u : Pt} (h : ps[k]? = some u) (hk : (ps.take k).all Pt.inn = true) (hu : isP u.x u.y = true) : (ps.take (k + 1)).all Pt.inn = true := by
  rw [List.take_add_one, h, List.all_append, hk]
  simpa using hu
theorem with_no {l : List C4} {c : C4} {ps : List Pt} {k : Nat} {u : Pt} (h : ps[k]? = some u) (hu : isP u.x u.y = false) : withR l c ps = none := by
  unfold withR
  rw [if_neg]
  intro ha
  have := List.all_eq_true.1 ha u (List.mem_of_getElem? h)
  rw [show Pt.inn u = isP u.x u.y from rfl, hu] at this; cases this
theorem with_all {l : List C4} {c : C4} {ps : List Pt} (h : ps.all Pt.inn = true) : withR l c ps = some (withL l c ps) := if_pos h
def withV (o : Option (List C4)) : Value := til (o.getD zero64)
def withE (o : Option (List C4)) : Int := if o.isSome then 0 else 140


set_option maxHeartbeats 4000000 in
theorem with_c (l : List C4) (c : C4) (ps : List Pt) (a : Option Addr) (cap : Nat) (w : World) (hl : l.length = 64) (hv : SliceAt w a cap 2 Pt.cells ps) (hcap : cap ≤ Go.maxLen) :
    Calls Try.prog 76 #[til l, c.v, .slice a ps.length cap] w fun e w' => e = .returned (.tuple #[withV (withR l c ps), .int .i64 (withE (withR l c ps))]) ∧ Below w.heap.size w w' := by
  have hvl := hv.1
  unfold Go.maxLen at hcap
  refine calls_of_T (l := [.agg (lst C4.cells l), .agg #[.int .u8 c.r, .int .u8 c.g, .int .u8 c.b, .int .u8 c.a], .slice a ps.length cap]) 37 Try.func76 rfl rfl rfl ?_
  show T _ _ _ [(0, .agg (lst C4.cells l)), (1, .agg #[.int .u8 c.r, .int .u8 c.g, .int .u8 c.b, .int .u8 c.a]), (2, .slice a ps.length cap)] []
  refine T_seq (T_region ?_)
  refine TL_new 1 (.cells (lst C4.cells l) 91) (fun B => .pointer (some ⟨B, 0, none⟩)) (fun _ _ hρ _ => r_box (hρ _ _ rfl) rfl) rfl rfl rfl (w_n rfl) ?_
  intro B1
  refine TL_new 2 (.cells #[.int .u8 c.r, .int .u8 c.g, .int .u8 c.b, .int .u8 c.a] 89) (fun B => .pointer (some ⟨B, 0, none⟩)) (fun _ _ hρ _ => r_box (hρ _ _ rfl) rfl) rfl rfl rfl (w_n rfl) ?_
  intro B2
  refine TL_new 3 (.cells (lst C4.cells zero64) 91) (fun B => .pointer (some ⟨B, 0, none⟩)) (fun _ _ _ _ => r_alloc (v := .agg (lst C4.cells zero64)) (by kernel_rfl) rfl) rfl rfl rfl (w_n rfl) ?_
  intro B3
  refine TL_q (.int .i64 0) (fun _ _ hρ _ => r_assign (hρ _ _ rfl)) rfl rfl rfl (w_n rfl) ?_
  refine TL_seq ?_
  refine T_seq (T_region ?_)
  refine TL_q (.agg (lst C4.cells l)) (fun _ _ hρ hm => r_loadW ag91 sz91 (hρ _ _ rfl) (hm.at 1 rfl) (tsz hl)) rfl rfl rfl (w_n rfl) ?_
  refine TL_q (.agg (lst C4.cells l)) (fun _ _ hρ _ => r_build (vs := [(0, .agg (lst C4.cells l))]) (build_work (tsz hl) _) (cons2 (pair2 (hρ _ _ rfl)) rfl)) rfl rfl rfl (w_n rfl) ?_
  refine TL_new 900 (.cells (lst C4.cells l) 130) (fun B => .pointer (some ⟨B, 0, none⟩)) (fun _ _ hρ _ => r_box (hρ _ _ rfl) rfl) rfl rfl rfl (w_n rfl) ?_
  intro B4
  refine TL_q (.pointer (some ⟨B4, 0, none⟩)) (fun _ _ hρ _ => r_assign (hρ _ _ rfl)) rfl rfl rfl (w_n rfl) ?_
  refine TL_seq ?_
  refine T_seq (T_region ?_)
  refine TL_q (.pointer (some ⟨B4, 0, none⟩)) (fun _ _ hρ _ => r_move (hρ _ _ rfl)) rfl rfl rfl (w_n rfl) ?_
  refine TL_q (.func (.func 83) #[.pointer (some ⟨B4, 0, none⟩)] #[]) (fun _ _ hρ _ => r_makeFunc (map_arr (cons2 (hρ _ _ rfl) rfl)) (by simp)) rfl rfl rfl (w_n rfl) ?_
  refine TL_q (.func (.func 83) #[.pointer (some ⟨B4, 0, none⟩)] #[]) (fun _ _ hρ _ => r_assign (hρ _ _ rfl)) rfl rfl rfl (w_n rfl) ?_
  refine TL_seq ?_
  refine T_seq ?_
  refine T_seq (T_region ?_)
  refine TL_q (.slice a ps.length cap) (fun _ _ hρ _ => r_move (hρ _ _ rfl)) rfl rfl rfl (w_n rfl) ?_
  refine TL_q (.int .i64 ((ps.length : Nat) : Int)) (fun _ _ hρ _ => r_len sl127 (hρ _ _ rfl)) rfl rfl rfl (w_n rfl) ?_
  refine TL_q (.int .i64 0) (fun _ _ hρ _ => r_move (hρ _ _ rfl)) rfl rfl rfl (w_n rfl) ?_
  refine TL_seq ?_
  refine T_block ?_
  refine T_loop (ι := Nat) (fun (k : Nat) => k ≤ ps.length ∧ (ps.take k).all Pt.inn = true) (fun (k : Nat) => [(4, .pointer (some ⟨B2, 0, none⟩)), (6, .pointer (some ⟨B3, 0, none⟩)), (8, .pointer (some ⟨B4, 0, none⟩)), (9, .func (.func 83) #[.pointer (some ⟨B4, 0, none⟩)] #[]), (17, .slice a ps.length cap), (18, .int .i64 ((ps.length : Nat) : Int)), (19, .int .i64 ((k : Nat) : Int))]) (fun (k : Nat) => [(1, .blk B1 (.cells (lst C4.cells l) 91)), (2, .blk B2 (.cells #[.int .u8 c.r, .int .u8 c.g, .int .u8 c.b, .int .u8 c.a] 89)), (3, .blk B3 (.cells (lst C4.cells zero64) 91)), (900, .blk B4 (.cells (lst C4.cells (withL l c (ps.take k))) 130))]) (fun (k : Nat) => ps.length - k) 0 ⟨Nat.zero_le _, rfl⟩ (sub_cons rfl (sub_cons rfl (sub_cons rfl (sub_cons rfl (sub_cons rfl (sub_cons rfl (sub_cons rfl sub_nil))))))) (sub_cons rfl (sub_cons rfl (sub_cons rfl (sub_cons rfl sub_nil)))) ?_
  rintro k hp
  obtain ⟨hk, hin⟩ := hp
  show T _ _ _ [(4, .pointer (some ⟨B2, 0, none⟩)), (6, .pointer (some ⟨B3, 0, none⟩)), (8, .pointer (some ⟨B4, 0, none⟩)), (9, .func (.func 83) #[.pointer (some ⟨B4, 0, none⟩)] #[]), (17, .slice a ps.length cap), (18, .int .i64 ((ps.length : Nat) : Int)), (19, .int .i64 ((k : Nat) : Int))] [(1, .blk B1 (.cells (lst C4.cells l) 91)), (2, .blk B2 (.cells #[.int .u8 c.r, .int .u8 c.g, .int .u8 c.b, .int .u8 c.a] 89)), (3, .blk B3 (.cells (lst C4.cells zero64) 91)), (900, .blk B4 (.cells (lst C4.cells (withL l c (ps.take k))) 130))]
  refine T_seq (T_region ?_)
  refine TL_q (.bool (decide (((k : Nat) : Int) < ((ps.length : Nat) : Int)))) (fun _ _ hρ _ => r_lss (hρ _ _ rfl) (hρ _ _ rfl)) rfl rfl rfl (w_n rfl) ?_
  refine TL_seq ?_
  refine T_seq ?_
  refine T_cond rfl (fun h1 => ?_) (fun h1 => ?_)
  · replace h1 := of_decide_eq_true h1
    refine T_skip' ?_
    refine p_seq ?_
    refine T_seq ?_
    refine T_block ?_
    obtain ⟨u, hu⟩ : ∃ x, ps[k]? = some x := ⟨_, List.getElem?_eq_getElem (by omega)⟩
    obtain ⟨b5, of5, cs5, T5, fz5, ha5, hq5, hr5⟩ := hv.open (i := k) (by omega)
    subst ha5
    refine T_seq (T_region ?_)
    refine TL_q (.pointer (some ⟨b5, of5 + k * 2, none⟩)) (fun _ _ hρ _ => r_indexAddrS (i := k) sl127 sz119 (hρ _ _ rfl) (hρ _ _ rfl) (by omega)) rfl rfl rfl (w_n rfl) ?_
    refine TL_q (.agg #[.int .i64 u.x, .int .i64 u.y]) (fun _ _ hρ hm => r_loadRow (f := Pt.cells) (u := u) ag119 sz119 (hρ _ _ rfl) (hm.old hq5) hr5 hu) rfl rfl rfl (w_n rfl) ?_
    refine TL_new 4 (.cells #[.int .i64 0, .int .i64 0] 119) (fun B => .pointer (some ⟨B, 0, none⟩)) (fun _ _ _ _ => r_alloc (v := .agg #[.int .i64 0, .int .i64 0]) (by kernel_rfl) rfl) rfl rfl rfl (w_n rfl) ?_
    intro B6
    refine TL_store 4 (.cells #[.int .i64 u.x, .int .i64 u.y] 119) rfl (fun _ _ hρ hm => r_store sz119 (hρ _ _ rfl) (hρ _ _ rfl) (hm.at 4 rfl) rfl rfl rfl rfl) rfl rfl (w_n rfl) ?_
    refine TL_seq ?_
    refine T_seq (T_region ?_)
    refine TL_q (.func (.func 83) #[.pointer (some ⟨B4, 0, none⟩)] #[]) (fun _ _ hρ _ => r_move (hρ _ _ rfl)) rfl rfl rfl (w_n rfl) ?_
    refine TL_q (.pointer (some ⟨B6, 0, none⟩)) (fun _ _ hρ _ => r_fieldAddr fl119_0 sz3 (hρ _ _ rfl)) rfl rfl rfl (w_n rfl) ?_
    refine TL_q (.int .i64 u.x) (fun _ _ hρ hm => r_load ag3 (hρ _ _ rfl) (hm.at 4 rfl) rfl) rfl rfl rfl (w_n rfl) ?_
    refine TL_q (.pointer (some ⟨B6, 1, none⟩)) (fun _ _ hρ _ => r_fieldAddr fl119_1 sz3 (hρ _ _ rfl)) rfl rfl rfl (w_n rfl) ?_
    refine TL_q (.int .i64 u.y) (fun _ _ hρ hm => r_load ag3 (hρ _ _ rfl) (hm.at 4 rfl) rfl) rfl rfl rfl (w_n rfl) ?_
    refine TL_q (.agg #[.int .u8 c.r, .int .u8 c.g, .int .u8 c.b, .int .u8 c.a]) (fun _ _ hρ hm => r_loadA ag89 sz89 (hρ _ _ rfl) (hm.at 2 rfl) rfl rfl) rfl rfl rfl (w_n rfl) ?_
    refine TL_callH _ _ _ (fun _ _ hρ _ => r_call (args := [.int .i64 u.x, .int .i64 u.y, .agg #[.int .u8 c.r, .int .u8 c.g, .int .u8 c.b, .int .u8 c.a]]) (enters_of Try.func83 (by kernel_rfl) rfl) (hρ _ _ rfl) ((cons2 (hρ _ _ rfl) (cons2 (hρ _ _ rfl) (cons2 (hρ _ _ rfl) rfl)))) rfl) (fun w hm => put_ht _ _ B4 (withL l c (ps.take k)) u.x u.y c (withL_len hl _) rfl rfl w hm) rfl rfl rfl (w_n rfl) ?_
    intro _ _
    refine TL_q (.bool (!(isP u.x u.y))) (fun _ _ hρ _ => r_not (b := isP u.x u.y) (hρ _ _ rfl)) rfl rfl rfl (w_n rfl) ?_
    refine TL_seq ?_
    refine T_cond rfl (fun h2 => ?_) (fun h2 => ?_)
    · replace h2 := bnot_t h2
      refine T_seq (T_region ?_)
      refine TL_q (.agg (lst C4.cells zero64)) (fun _ _ _ _ => r_build (vs := []) (by kernel_rfl) rfl) rfl rfl rfl (w_n rfl) ?_
      refine TL_store 3 (.cells (lst C4.cells zero64) 91) rfl (fun _ _ hρ hm => r_storeAll sz91 (hρ _ _ rfl) (hρ _ _ rfl) (hm.at 3 rfl) (tsz zero64_len) (tsz zero64_len) (lst_one C4.cells_all _)) rfl rfl (w_n rfl) ?_
      refine TL_q (.int .i64 140) (fun _ _ hρ _ => r_assign (hρ _ _ rfl)) rfl rfl rfl (w_n rfl) ?_
      refine TL_seq ?_
      refine T_ret' ?_
      refine p_blk_r ?_
      refine p_then_r ?_
      refine p_then_r ?_
      refine p_blk_r ?_
      refine p_then_r ?_
      refine ret_of rfl (.tuple #[.agg (lst C4.cells zero64), .int .i64 140]) (fun tmps w hk hm => res2 rfl (res_cell (hk 6 _ rfl) (run_loadVar_agg ag91 sz91 (hm.at 3 rfl) (le64 zero64_len) (ex64 zero64_len))) (res_tmp (hk 7 _ rfl))) (fun w hm => ?_)
      exact ⟨by rw [with_no (l := l) (c := c) hu h2]; rfl, hm.ext⟩
    · replace h2 := bnot_f h2
      refine T_skip' ?_
      refine p_blk_n ?_
      refine p_seq ?_
      refine T_region ?_
      refine TL_q (.int .i64 (((k : Nat) : Int) + 1)) (fun _ _ hρ _ => r_as (r_add (hρ _ _ rfl) (hρ _ _ rfl)) (int_as (wrap64 (by omega) (by omega)))) rfl rfl rfl (w_n rfl) ?_
      refine TL_q (.int .i64 (((k : Nat) : Int) + 1)) (fun _ _ hρ _ => r_move (hρ _ _ rfl)) rfl rfl rfl (w_n rfl) ?_
      refine TL_nil ?_
      rw [show (putL (withL l c (ps.take k)) u.x u.y c) = withL l c (ps.take (k + 1)) from by rw [with_step hu]]
      exact p_at (k + 1) ⟨⟨by omega, inn_step hu hin h2⟩, by omega⟩ (sub_cons rfl (sub_cons rfl (sub_cons rfl (sub_cons rfl (sub_cons rfl (sub_cons rfl (sub_cons rfl sub_nil))))))) (sub_cons rfl (sub_cons rfl (sub_cons rfl (sub_cons rfl sub_nil))))
  · replace h1 := of_decide_eq_false h1
    refine T_exit' ?_
    refine p_then_x ?_
    refine p_then_x ?_
    refine p_blk_x ?_
    refine p_seq ?_
    refine T_seq (T_region ?_)
    refine TL_q (.pointer (some ⟨B4, 0, none⟩)) (fun _ _ hρ _ => r_move (hρ _ _ rfl)) rfl rfl rfl (w_n rfl) ?_
    refine TL_q (.pointer (some ⟨B4, 0, none⟩)) (fun _ _ hρ _ => r_nilCheck (hρ _ _ rfl) rfl) rfl rfl rfl (w_n rfl) ?_
    refine TL_q (.pointer (some ⟨B4, 0, none⟩)) (fun _ _ hρ _ => r_fieldAddr fl130_0 sz91 (hρ _ _ rfl)) rfl rfl rfl (w_n rfl) ?_
    refine TL_q (.agg (lst C4.cells (withL l c (ps.take k)))) (fun _ _ hρ hm => r_loadW ag91 sz91 (hρ _ _ rfl) (hm.at 900 rfl) (tsz (withL_len hl _))) rfl rfl rfl (w_n rfl) ?_
    refine TL_store 3 (.cells (lst C4.cells (withL l c (ps.take k))) 91) rfl (fun _ _ hρ hm => r_storeAll sz91 (hρ _ _ rfl) (hρ _ _ rfl) (hm.at 3 rfl) (tsz zero64_len) (tsz (withL_len hl _)) (lst_one C4.cells_all _)) rfl rfl (w_n rfl) ?_
    refine TL_q (.int .i64 0) (fun _ _ hρ _ => r_assign (hρ _ _ rfl)) rfl rfl rfl (w_n rfl) ?_
    refine TL_seq ?_
    refine T_ret' ?_
    refine ret_of rfl (.tuple #[.agg (lst C4.cells (withL l c (ps.take k))), .int .i64 0]) (fun tmps w hk hm => res2 rfl (res_cell (hk 6 _ rfl) (run_loadVar_agg ag91 sz91 (hm.at 3 rfl) (le64 (withL_len hl _)) (ex64 (withL_len hl _)))) (res_tmp (hk 7 _ rfl))) (fun w hm => ?_)
    have hkl : k = ps.length := by omega
    subst hkl
    rw [List.take_length] at hin
    exact ⟨by rw [with_all (l := l) (c := c) hin, List.take_length]; rfl, hm.ext⟩
end Go.Proofs.Ytmihoejecpcmjaa
/- Rows of one's own: made, copied into, stored into. Over any program. -/
namespace Go.Proofs.Ytmihoejecpcmjaa
open Go Go.RowKit
section
variable {P : Program} {w : World}
/-- An element of a row of one's own, stored. -/
theorem run_storeX {w₀ : World} {L : Heap} (hm : MemOk w₀ L w) {t e : TypeId} {s n cap B k : Nat} {v : Value} {α : Type} {f : α → List Value} {l : List α} {u : α} (i : Nat) (hi : lk L i = some (.row (.slice (some ⟨B, 0, none⟩) n cap) e s n (l.flatMap f))) (hn : n = l.length) (hs : szOf P t = some s) (hf : ∀ x, (f x).length = s)
    (hk : k < l.length) (hv : v.cells = (f u).toArray) (ho : (f u).all isOne = true) :
    ∃ w', (storeVar t ⟨B, 0 + k * s, none⟩ v).run P w = .ok () w' ∧ MemOk w₀ ((i, .row (.slice (some ⟨B, 0, none⟩) n cap) e s n ((l.set k u).flatMap f)) :: L) w' := by
  subst hn
  have hrow := hm.row i hi
  rcases hrow.2 with ⟨h1, _⟩ | ⟨g, cap', cur, h1, hbg, hg, hnc, hcm, hcs, htk⟩
  · cases h1
  · cases h1
    obtain ⟨post, hpost⟩ : ∃ post, cur.toList = l.flatMap f ++ post := ⟨cur.toList.drop (l.length * s), by rw [← htk, List.take_append_drop]⟩
    obtain ⟨pre, xs, po, e1, e2, e3, e4⟩ := flat_set hf hk u
    have hle : k * s + s ≤ l.length * s := by
      have := Nat.mul_le_mul_right s (show k + 1 ≤ l.length from hk)
      rwa [Nat.add_mul, Nat.one_mul] at this
    have hle2 : l.length * s ≤ cap * s := Nat.mul_le_mul_right s hnc
    obtain ⟨w', hr, hu⟩ := run_storeVar (P := P) (t := t) (off := 0 + k * s) hs hg (by rw [hv, List.size_toArray, hf]) (by omega) (by rw [hv]; exact ho)
    have hcur : wrC cur (0 + k * s) v.cells.toList = ((l.set k u).flatMap f ++ post).toArray := by
      have : cur = (pre ++ xs ++ (po ++ post)).toArray := by apply Array.ext'; rw [hpost, e1]; simp
      rw [this, Nat.zero_add, ← e2, hv]
      rw [wrC_list _ _ _ _ (by rw [e3, hf]), e4]; simp
    rw [hcur] at hu
    refine ⟨w', hr, hm.grow (.inl hi) ⟨hu.os, hu.tape, hu.output, by rw [hu.size]; exact Nat.le_refl _, fun j _ hj => hu.other j (fun e => hj (by rw [e]; rfl))⟩ ⟨by rw [flat_len hf, List.length_set], .inr ⟨B, cap, _, rfl, hbg, hu.this, hnc, hcm, ?_, ?_⟩⟩ (.inl rfl)⟩
    · have hc1 : cur.size = (l.flatMap f ++ post).length := by rw [← hpost, Array.length_toList]
      rw [List.size_toArray, List.length_append, flat_len hf, List.length_set]
      rw [List.length_append, flat_len hf] at hc1
      omega
    · have hq : ((l.set k u).flatMap f).length = l.length * s := by rw [flat_len hf, List.length_set]
      rw [← hq]
      exact List.take_left
end
section
variable {C : Cx} {ops : Array Oper} {os : List Oper} {Q : Post} {K : List (Nat × Value)} {L : Heap} {dd : Option Tmp} {ty : TypeId} {ps : String} {af : Array Edge} {g : Option (Nat × Bool)}
theorem TL_storeRow {x y : Operand} {t e : TypeId} {s n cap B k : Nat} {v : Value} {α : Type} {f : α → List Value} {l : List α} {u : α} (i : Nat) (hi : lk L i = some (.row (.slice (some ⟨B, 0, none⟩) n cap) e s n (l.flatMap f))) (hn : n = l.length) (hx : ev K x = some (.pointer (some ⟨B, 0 + k * s, none⟩))) (hy : ev K y = some v) (hs : szOf C.P t = some s)
    (hf : ∀ x, (f x).length = s) (hk : k < l.length) (hv : v.cells = (f u).toArray) (ho : (f u).all isOne = true) (hw : Want ops K (mk none (.store t x y) ty ps af g) true)
    (h : TL C ops os Q K ((i, .row (.slice (some ⟨B, 0, none⟩) n cap) e s n ((l.set k u).flatMap f)) :: L)) : TL C ops (mk none (.store t x y) ty ps af g :: os) Q K L := by
  intro a w hfk hm
  unfold wpListIn
  rw [hw.is hfk, if_pos rfl]
  obtain ⟨w', hr, hm'⟩ := run_storeX (P := C.P) hm i hi hn hs hf hk hv ho
  refine step_skip (w' := w') rfl ?_ (h _ _ hfk hm')
  show (do Instr.storeAt t (a.eval x) (a.eval y); pure Next.skip : Sem Next).run C.P w = _
  rw [hfk.rd _ _ hx, hfk.rd _ _ hy, run_bind_ok (a := ()) (w' := w')]
  · rfl
  · unfold Instr.storeAt
    rw [run_bind_ok (a := ⟨B, 0 + k * s, none⟩) (w' := w) rfl]
    exact hr
end
section
variable {C : Cx} {R : Rg} {Q : Post} {K0 V : List (Nat × Value)} {lo : Nat} {L : Heap} {ty : TypeId} {ps : String} {af : Array Edge} {g : Option (Nat × Bool)}
theorem LOb_storeRow {c : Nat} {x y : Operand} {t e : TypeId} {s n cap B k : Nat} {v : Value} {α : Type} {f : α → List Value} {l : List α} {u : α} (i : Nat) (nws : List (Nat × Value)) (hi : lk L i = some (.row (.slice (some ⟨B, 0, none⟩) n cap) e s n (l.flatMap f))) (hn : n = l.length) (ho1 : R.ops[c]? = some (mk none (.store t x y) ty ps af g)) (hw : WantV V (mk none (.store t x y) ty ps af g) true)
    (hx : ev (kOf K0 V (R.S.getD c [])) x = some (.pointer (some ⟨B, 0 + k * s, none⟩))) (hy : ev (kOf K0 V (R.S.getD c [])) y = some v) (hs : szOf C.P t = some s)
    (hf : ∀ x, (f x).length = s) (hk : k < l.length) (hv : v.cells = (f u).toArray) (ho : (f u).all isOne = true) (hnew : newsOk R c nws = true)
    (h : G C R Q K0 (lo ||| 2 ^ c) (nws ++ (c, undef) :: V) ((i, .row (.slice (some ⟨B, 0, none⟩) n cap) e s n ((l.set k u).flatMap f)) :: L)) : LOb C R Q K0 lo V L c := by
  refine ⟨_, ho1, hw, fun a w next hrd hm _ hnext => ?_⟩
  obtain ⟨w', hr, hm'⟩ := run_storeX (P := C.P) hm i hi hn hs hf hk hv ho
  refine step_skip (w' := w') rfl ?_ ?_
  · show (do Instr.storeAt t (a.eval x) (a.eval y); pure Next.skip : Sem Next).run C.P w = _
    rw [hrd _ _ hx, hrd _ _ hy, run_bind_ok (a := ()) (w' := w')]
    · rfl
    · unfold Instr.storeAt
      rw [run_bind_ok (a := ⟨B, 0 + k * s, none⟩) (w' := w) rfl]
      exact hr
  · simp only [newsOk, Bool.and_eq_true, Bool.not_eq_true'] at hnew
    exact hnext _ _ _ _ (.inr rfl) (extV _ _ _ hnew.1) hm' h
end
end Go.Proofs.Ytmihoejecpcmjaa
/- Rows of one's own, many of them at once: none in another's block. Over any program. -/
namespace Go.Proofs.Ytmihoejecpcmjaa
open Go Go.RowKit
/-- A row: where it lies, its room, its elements. -/
structure RowG (α : Type) where
  a : Option Addr
  cap : Nat
  l : List α
section
variable {α : Type} {e : TypeId} {s : Nat} {f : α → List Value}
abbrev RowG.v (r : RowG α) : Value := .slice r.a r.l.length r.cap
abbrev RowG.cells (r : RowG α) : List Value := [r.v]
theorem RowG.cells_len (r : RowG α) : r.cells.length = 1 := rfl
/-- In memory as it is told. -/
abbrev RowG.ok (s : Nat) (f : α → List Value) (w : World) (r : RowG α) : Prop := SliceAt w r.a r.cap s f r.l
def apart (r q : RowG α) : Prop := ∀ b, r.v.ownBlock = some b → q.v.ownBlock ≠ some b
/-- All of them are one's own. -/
def manyH (e : TypeId) (s : Nat) (f : α → List Value) (rs : List (RowG α)) (w : World) : Prop :=
  (∀ r ∈ rs, w.ownsRow 0 e s r.v r.l.length (r.l.flatMap f)) ∧ rs.Pairwise apart
def manyF (rs : List (RowG α)) (b : Nat) : Prop := ∃ r ∈ rs, r.v.ownBlock = some b
abbrev Res.many (e : TypeId) (s : Nat) (f : α → List Value) (rs : List (RowG α)) : Res := .abs (manyF rs) (manyH e s f rs)
theorem many_keep {rs : List (RowG α)} (w1 w2 : World) (h : manyH e s f rs w1) (hb : ∀ b, manyF rs b → hp w2 b = hp w1 b) : manyH e s f rs w2 :=
  ⟨fun r hr => Res.keep (r := .row r.v e s r.l.length (r.l.flatMap f)) (h.1 r hr) fun b hf => hb b ⟨r, hr, hf⟩, h.2⟩
/-- Nothing. -/
abbrev Res.no : Res := .abs (fun _ => False) (fun _ => True)
theorem MemOk.many {w₀ w : World} {L : Heap} (h : MemOk w₀ L w) (k : Nat) {rs : List (RowG α)} (hk : lk L k = some (.many e s f rs)) : manyH e s f rs w := (h.own k _ hk).1
/-- A row of one's own goes to the others. -/
theorem MemOk.push {w₀ w : World} {L : Heap} (h : MemOk w₀ L w) (k j : Nat) {rs : List (RowG α)} {a : Option Addr} {n cap : Nat} {l : List α} (hk : lk L k = some (.many e s f rs)) (hj : lk L j = some (.row (.slice a n cap) e s n (l.flatMap f))) (hn : n = l.length) (hne : Nat.beq k j = false) :
    MemOk w₀ ((k, .many e s f (rs ++ [⟨a, cap, l⟩])) :: (j, .no) :: L) w := by
  subst hn
  have hkj : k ≠ j := fun e => by subst e; rw [Nat.beq_refl] at hne; cases hne
  have ok1 := h.own k _ hk
  have ok2 := h.own j _ hj
  have h0 : MemOk w₀ ((j, .no) :: L) w := h.set j _ h.ext ⟨trivial, (fun _ hb => hb.elim), fun _ _ _ _ => trivial⟩ (fun _ _ _ _ b _ => ⟨rfl, id⟩)
  refine h0.set k _ h0.ext ⟨⟨fun r hr => ?_, ?_⟩, ?_, many_keep⟩ (fun i r hi hne' b hb => ⟨rfl, ?_⟩)
  · rcases List.mem_append.1 hr with h1 | h1
    · exact ok1.1.1 r h1
    · rw [List.mem_singleton.1 h1]; exact Res.lift (r := .row _ _ _ _ _) ok2 (Nat.zero_le _)
  · refine List.pairwise_append.2 ⟨ok1.1.2, List.pairwise_singleton _ _, fun r hr q hq => ?_⟩
    rw [List.mem_singleton.1 hq]
    exact fun b hb hc => h.sep k j _ _ hk hj hkj b ⟨r, hr, hb⟩ hc
  · rintro b ⟨r, hr, hb⟩
    rcases List.mem_append.1 hr with h1 | h1
    · exact ok1.2.1 b ⟨r, h1, hb⟩
    · rw [List.mem_singleton.1 h1] at hb; exact Res.low ok2 hb
  · rintro ⟨q, hq, hqb⟩
    by_cases e2 : j = i
    · subst e2; rw [lk_cons_same] at hi; cases hi; exact hb
    · rw [lk_cons_other _ _ e2] at hi
      rcases List.mem_append.1 hq with h1 | h1
      · exact h.sep k i _ _ hk hi (Ne.symm hne') b ⟨q, h1, hqb⟩ hb
      · rw [List.mem_singleton.1 h1] at hqb
        exact h.sep j i _ _ hj hi e2 b hqb hb
end
end Go.Proofs.Ytmihoejecpcmjaa
/- canvas: canvases in memory. -/
namespace Go.Proofs.Ytmihoejecpcmjaa
open Go Go.RowKit
abbrev ptrc (q : Nat) : List Value := [.pointer (some ⟨q, 0, none⟩)]
theorem ptrc_len (q : Nat) : (ptrc q).length = 1 := rfl
abbrev tilO (t : T64) : Obj := .cells (lst C4.cells t.l) 91
/-- A canvas: its block, its row of tiles, their blocks, its sizes, and what the tiles show. -/
structure Cv where
  p : Nat
  a : Option Addr
  cap : Nat
  ps : List Nat
  wd : Nat
  hg : Nat
  ts : List T64
def Cv.foot (c : Cv) (b : Nat) : Prop := b = c.p ∨ (∃ x, c.a = some x ∧ x.block = b) ∨ b ∈ c.ps
structure CvAt (w : World) (c : Cv) : Prop where
  blk : hp w c.p = some (.cells #[.int .i64 (c.wd : Int), .int .i64 (c.hg : Int), .slice c.a c.ps.length c.cap] 85)
  row : SliceAt w c.a c.cap 1 ptrc c.ps
  capok : c.cap ≤ Go.maxLen
  tl : ∀ (i : Nat) (q : Nat) (t : T64), c.ps[i]? = some q → c.ts[i]? = some t → hp w q = some (tilO t)
  len : c.ps.length = c.wd * c.hg
  len2 : c.ts.length = c.ps.length
  wd4 : 1 ≤ c.wd ∧ c.wd ≤ 4
  hg4 : 1 ≤ c.hg ∧ c.hg ≤ 4
theorem size4 {m n : Nat} (hm : 1 ≤ m ∧ m ≤ 4) (hn : 1 ≤ n ∧ n ≤ 4) : 1 ≤ m * n ∧ m * n ≤ 16 := ⟨Nat.mul_le_mul hm.1 hn.1, Nat.mul_le_mul hm.2 hn.2⟩
theorem CvAt.keep {w1 w2 : World} {c : Cv} (h : CvAt w1 c) (hb : ∀ b, c.foot b → hp w2 b = hp w1 b) : CvAt w2 c := by
  refine ⟨(hb _ (.inl rfl)).trans h.blk, ⟨h.row.1, h.row.2.1, ?_⟩, h.capok, fun i q t hq ht => (hb q (.inr (.inr (List.mem_of_getElem? hq)))).trans (h.tl i q t hq ht), h.len, h.len2, h.wd4, h.hg4⟩
  rcases h.row.2.2 with h1 | ⟨b, off, cs, T, fz, e1, e2, e3⟩
  · exact .inl h1
  · exact .inr ⟨b, off, cs, T, fz, e1, (hb b (.inr (.inl ⟨_, e1, rfl⟩))).trans e2, e3⟩
theorem CvAt.low {w : World} {c : Cv} (h : CvAt w c) {b : Nat} (hb : c.foot b) : b < w.heap.size := by
  rcases hb with rfl | ⟨x, hx, rfl⟩ | hm
  · exact hp_lt h.blk
  · rcases h.row.2.2 with h1 | ⟨b, off, cs, T, fz, e1, e2, e3⟩
    · have := (size4 h.wd4 h.hg4).1
      rw [← h.len, h1] at this; cases this
    · rw [e1] at hx; cases hx; exact hp_lt e2
  · obtain ⟨i, hi⟩ := List.getElem?_of_mem hm
    have hl := (List.getElem?_eq_some_iff.1 hi).1
    exact hp_lt (h.tl i b _ hi (List.getElem?_eq_getElem (by rw [h.len2]; exact hl)))
theorem CvAt.below {w w' : World} {c : Cv} (h : CvAt w c) (hb : Below w.heap.size w w') : CvAt w' c := h.keep fun b hf => hb.block b (h.low hf)
/-- Canvases of one's own. -/
def cvsF (l : List Cv) (b : Nat) : Prop := ∃ c ∈ l, c.foot b
abbrev Res.cvs (l : List Cv) : Res := .abs (cvsF l) (fun w => ∀ c ∈ l, CvAt w c)
theorem cvs_keep {l : List Cv} (w1 w2 : World) (h : ∀ c ∈ l, CvAt w1 c) (hb : ∀ b, cvsF l b → hp w2 b = hp w1 b) : ∀ c ∈ l, CvAt w2 c := fun c hc => (h c hc).keep fun b hf => hb b ⟨c, hc, hf⟩
theorem MemOk.cv {w₀ w : World} {L : Heap} (h : MemOk w₀ L w) (k : Nat) {l : List Cv} (hk : lk L k = some (.cvs l)) {c : Cv} (hc : c ∈ l) : CvAt w c := (h.own k _ hk).1 c hc
theorem MemOk.cvs0 {w₀ w : World} {L : Heap} (h : MemOk w₀ L w) (k : Nat) : MemOk w₀ ((k, .cvs []) :: L) w :=
  h.set k _ h.ext ⟨(fun r hr => nomatch hr), (fun b hb => by obtain ⟨r, hr, _⟩ := hb; cases hr), cvs_keep⟩ (fun _ _ _ _ b _ => ⟨rfl, fun hb => by obtain ⟨r, hr, _⟩ := hb; cases hr⟩)
/-- One more, in new memory but for tiles of those that there are. -/
theorem MemOk.cvAdd {w₀ w w' : World} {L : Heap} (h : MemOk w₀ L w) (hb : Below w.heap.size w w') (k : Nat) {l : List Cv} (hk : lk L k = some (.cvs l)) {d : Cv} (hd : CvAt w' d) (hf : ∀ b, d.foot b → w.heap.size ≤ b ∨ cvsF l b) : MemOk w₀ ((k, .cvs (d :: l)) :: L) w' := by
  have hm := h.below hb
  have ok := h.own k _ hk
  have ok' := hm.own k _ hk
  refine hm.set k _ hm.ext ⟨fun c hc => ?_, ?_, cvs_keep⟩ (fun i r hi hne b hr => ⟨rfl, ?_⟩)
  · rcases List.mem_cons.1 hc with rfl | hc
    · exact hd
    · exact ok'.1 c hc
  · rintro b ⟨c, hc, hcf⟩
    rcases List.mem_cons.1 hc with rfl | hc
    · refine ⟨?_, hd.low hcf⟩
      rcases hf b hcf with h1 | h1
      · exact Nat.le_trans h.ext.size h1
      · exact (ok.2.1 b h1).1
    · exact ok'.2.1 b ⟨c, hc, hcf⟩
  · rintro ⟨c, hc, hcf⟩
    have hlt := (Res.low (h.own i r hi) hr).2
    rcases List.mem_cons.1 hc with rfl | hc
    · rcases hf b hcf with h1 | h1
      · omega
      · exact h.sep k i _ _ hk hi (Ne.symm hne) b h1 hr
    · exact h.sep k i _ _ hk hi (Ne.symm hne) b ⟨c, hc, hcf⟩ hr
/-! ### plainly -/
/-- Is a point on a canvas of these sizes? -/
def onC (wd hg : Nat) (x y : Int) : Bool := decide (0 ≤ x ∧ 0 ≤ y ∧ x < 8 * wd ∧ y < 8 * hg)
theorem onC_nat {wd hg : Nat} {x y : Int} (h : onC wd hg x y = true) : ∃ u v : Nat, x = u ∧ y = v ∧ u < 8 * wd ∧ v < 8 * hg := by
  have h := of_decide_eq_true h
  exact ⟨x.toNat, y.toNat, by omega, by omega, by omega, by omega⟩
theorem idx_lt {wd hg u v : Nat} (hu : u < 8 * wd) (hv : v < 8 * hg) : v / 8 * wd + u / 8 < wd * hg := by
  have h1 : v / 8 + 1 ≤ hg := by omega
  have h2 := Nat.mul_le_mul_right wd h1
  rw [Nat.add_mul, Nat.one_mul, Nat.mul_comm hg wd] at h2
  omega
abbrev tileAt (ts : List T64) (i : Nat) : T64 := ts.getD i zeroT
theorem tileAt_some {ts : List T64} {i : Nat} {t : T64} (h : ts[i]? = some t) : tileAt ts i = t := by
  show ts.getD i zeroT = t
  rw [List.getD_eq_getElem?_getD, h]; rfl
end Go.Proofs.Ytmihoejecpcmjaa
/- canvas: sizes, places, At. Printed by a program of this seat's prover. -/
namespace Go.Proofs.Ytmihoejecpcmjaa
open Go Go.RowKit
set_option maxRecDepth 10000
def mayI (w h : Int) : Bool := decide (1 ≤ w ∧ w ≤ 4 ∧ 1 ≤ h ∧ h ≤ 4)
theorem mayI_of {m n : Nat} (hm : 1 ≤ m ∧ m ≤ 4) (hn : 1 ≤ n ∧ n ≤ 4) : mayI m n = true := decide_eq_true (by omega)

theorem may_c (x y : Int) (w : World) : Calls Try.prog 74 #[.agg #[.int .i64 x, .int .i64 y]] w fun e w' => e = .returned (.bool (mayI x y)) ∧ Below w.heap.size w w' := by
  refine calls_of_T (l := [.agg #[.int .i64 x, .int .i64 y]]) 21 Try.func74 rfl rfl rfl ?_
  show T _ _ _ [(0, .agg #[.int .i64 x, .int .i64 y])] []
  refine T_seq (T_region ?_)
  refine TL_new 1 (.cells #[.int .i64 x, .int .i64 y] 82) (fun B => .pointer (some ⟨B, 0, none⟩)) (fun _ _ hρ _ => r_box (hρ _ _ rfl) rfl) rfl rfl rfl (w_n rfl) ?_
  intro B1
  refine TL_q (.bool false) (fun _ _ hρ _ => r_assign (hρ _ _ rfl)) rfl rfl rfl (w_n rfl) ?_
  refine TL_seq ?_
  by_cases c1 : (1 : Int) ≤ x
  · skip
    by_cases c2 : x ≤ 4
    · skip
      by_cases c3 : (1 : Int) ≤ y
      · skip
        by_cases c4 : y ≤ 4
        · skip
          refine T_seq (T_region ?_)
          refine TL_q (.pointer (some ⟨B1, 0, none⟩)) (fun _ _ hρ _ => r_fieldAddr fl82_0 sz3 (hρ _ _ rfl)) rfl rfl rfl (w_n rfl) ?_
          refine TL_q (.int .i64 x) (fun _ _ hρ hm => r_load ag3 (hρ _ _ rfl) (hm.at 1 rfl) rfl) rfl rfl rfl (w_n rfl) ?_
          refine TL_q (.bool true) (fun _ _ hρ _ => r_as (r_geq (hρ _ _ rfl) (hρ _ _ rfl)) (bool_as (decide_eq_true c1))) rfl rfl rfl (w_n rfl) ?_
          refine TL_q (.bool true) (fun _ _ hρ _ => r_move (hρ _ _ rfl)) rfl rfl rfl (w_n rfl) ?_
          refine TL_q (.pointer (some ⟨B1, 0, none⟩)) (fun _ _ hρ _ => r_fieldAddr fl82_0 sz3 (hρ _ _ rfl)) rfl rfl rfl (want_y 6 rfl rfl rfl) ?_
          refine TL_q (.int .i64 x) (fun _ _ hρ hm => r_load ag3 (hρ _ _ rfl) (hm.at 1 rfl) rfl) rfl rfl rfl (want_y 6 rfl rfl rfl) ?_
          refine TL_q (.bool true) (fun _ _ hρ _ => r_as (r_leq (hρ _ _ rfl) (hρ _ _ rfl)) (bool_as (decide_eq_true c2))) rfl rfl rfl (want_y 6 rfl rfl rfl) ?_
          refine TL_q (.bool true) (fun _ _ hρ _ => r_pick_t (hρ _ _ rfl) (hρ _ _ rfl)) rfl rfl rfl (w_n rfl) ?_
          refine TL_q (.bool true) (fun _ _ hρ _ => r_move (hρ _ _ rfl)) rfl rfl rfl (w_n rfl) ?_
          refine TL_q (.pointer (some ⟨B1, 1, none⟩)) (fun _ _ hρ _ => r_fieldAddr fl82_1 sz3 (hρ _ _ rfl)) rfl rfl rfl (want_y 11 rfl rfl rfl) ?_
          refine TL_q (.int .i64 y) (fun _ _ hρ hm => r_load ag3 (hρ _ _ rfl) (hm.at 1 rfl) rfl) rfl rfl rfl (want_y 11 rfl rfl rfl) ?_
          refine TL_q (.bool true) (fun _ _ hρ _ => r_as (r_geq (hρ _ _ rfl) (hρ _ _ rfl)) (bool_as (decide_eq_true c3))) rfl rfl rfl (want_y 11 rfl rfl rfl) ?_
          refine TL_q (.bool true) (fun _ _ hρ _ => r_pick_t (hρ _ _ rfl) (hρ _ _ rfl)) rfl rfl rfl (w_n rfl) ?_
          refine TL_q (.bool true) (fun _ _ hρ _ => r_move (hρ _ _ rfl)) rfl rfl rfl (w_n rfl) ?_
          refine TL_q (.pointer (some ⟨B1, 1, none⟩)) (fun _ _ hρ _ => r_fieldAddr fl82_1 sz3 (hρ _ _ rfl)) rfl rfl rfl (want_y 16 rfl rfl rfl) ?_
          refine TL_q (.int .i64 y) (fun _ _ hρ hm => r_load ag3 (hρ _ _ rfl) (hm.at 1 rfl) rfl) rfl rfl rfl (want_y 16 rfl rfl rfl) ?_
          refine TL_q (.bool true) (fun _ _ hρ _ => r_as (r_leq (hρ _ _ rfl) (hρ _ _ rfl)) (bool_as (decide_eq_true c4))) rfl rfl rfl (want_y 16 rfl rfl rfl) ?_
          refine TL_q (.bool true) (fun _ _ hρ _ => r_pick_t (hρ _ _ rfl) (hρ _ _ rfl)) rfl rfl rfl (w_n rfl) ?_
          refine TL_q (.bool true) (fun _ _ hρ _ => r_assign (hρ _ _ rfl)) rfl rfl rfl (w_n rfl) ?_
          refine TL_seq ?_
          refine T_ret' ?_
          refine ret_of rfl (.bool true) (fun tmps w hk hm => res1 rfl (res_tmp (hk 2 _ rfl))) (fun w hm => ?_)
          exact ⟨congrArg Ending.returned (bool_as (decide_eq_true (by omega)).symm), hm.ext⟩
        · skip
          refine T_seq (T_region ?_)
          refine TL_q (.pointer (some ⟨B1, 0, none⟩)) (fun _ _ hρ _ => r_fieldAddr fl82_0 sz3 (hρ _ _ rfl)) rfl rfl rfl (w_n rfl) ?_
          refine TL_q (.int .i64 x) (fun _ _ hρ hm => r_load ag3 (hρ _ _ rfl) (hm.at 1 rfl) rfl) rfl rfl rfl (w_n rfl) ?_
          refine TL_q (.bool true) (fun _ _ hρ _ => r_as (r_geq (hρ _ _ rfl) (hρ _ _ rfl)) (bool_as (decide_eq_true c1))) rfl rfl rfl (w_n rfl) ?_
          refine TL_q (.bool true) (fun _ _ hρ _ => r_move (hρ _ _ rfl)) rfl rfl rfl (w_n rfl) ?_
          refine TL_q (.pointer (some ⟨B1, 0, none⟩)) (fun _ _ hρ _ => r_fieldAddr fl82_0 sz3 (hρ _ _ rfl)) rfl rfl rfl (want_y 6 rfl rfl rfl) ?_
          refine TL_q (.int .i64 x) (fun _ _ hρ hm => r_load ag3 (hρ _ _ rfl) (hm.at 1 rfl) rfl) rfl rfl rfl (want_y 6 rfl rfl rfl) ?_
          refine TL_q (.bool true) (fun _ _ hρ _ => r_as (r_leq (hρ _ _ rfl) (hρ _ _ rfl)) (bool_as (decide_eq_true c2))) rfl rfl rfl (want_y 6 rfl rfl rfl) ?_
          refine TL_q (.bool true) (fun _ _ hρ _ => r_pick_t (hρ _ _ rfl) (hρ _ _ rfl)) rfl rfl rfl (w_n rfl) ?_
          refine TL_q (.bool true) (fun _ _ hρ _ => r_move (hρ _ _ rfl)) rfl rfl rfl (w_n rfl) ?_
          refine TL_q (.pointer (some ⟨B1, 1, none⟩)) (fun _ _ hρ _ => r_fieldAddr fl82_1 sz3 (hρ _ _ rfl)) rfl rfl rfl (want_y 11 rfl rfl rfl) ?_
          refine TL_q (.int .i64 y) (fun _ _ hρ hm => r_load ag3 (hρ _ _ rfl) (hm.at 1 rfl) rfl) rfl rfl rfl (want_y 11 rfl rfl rfl) ?_
          refine TL_q (.bool true) (fun _ _ hρ _ => r_as (r_geq (hρ _ _ rfl) (hρ _ _ rfl)) (bool_as (decide_eq_true c3))) rfl rfl rfl (want_y 11 rfl rfl rfl) ?_
          refine TL_q (.bool true) (fun _ _ hρ _ => r_pick_t (hρ _ _ rfl) (hρ _ _ rfl)) rfl rfl rfl (w_n rfl) ?_
          refine TL_q (.bool true) (fun _ _ hρ _ => r_move (hρ _ _ rfl)) rfl rfl rfl (w_n rfl) ?_
          refine TL_q (.pointer (some ⟨B1, 1, none⟩)) (fun _ _ hρ _ => r_fieldAddr fl82_1 sz3 (hρ _ _ rfl)) rfl rfl rfl (want_y 16 rfl rfl rfl) ?_
          refine TL_q (.int .i64 y) (fun _ _ hρ hm => r_load ag3 (hρ _ _ rfl) (hm.at 1 rfl) rfl) rfl rfl rfl (want_y 16 rfl rfl rfl) ?_
          refine TL_q (.bool false) (fun _ _ hρ _ => r_as (r_leq (hρ _ _ rfl) (hρ _ _ rfl)) (bool_as (decide_eq_false c4))) rfl rfl rfl (want_y 16 rfl rfl rfl) ?_
          refine TL_q (.bool false) (fun _ _ hρ _ => r_pick_t (hρ _ _ rfl) (hρ _ _ rfl)) rfl rfl rfl (w_n rfl) ?_
          refine TL_q (.bool false) (fun _ _ hρ _ => r_assign (hρ _ _ rfl)) rfl rfl rfl (w_n rfl) ?_
          refine TL_seq ?_
          refine T_ret' ?_
          refine ret_of rfl (.bool false) (fun tmps w hk hm => res1 rfl (res_tmp (hk 2 _ rfl))) (fun w hm => ?_)
          exact ⟨congrArg Ending.returned (bool_as (decide_eq_false (by omega)).symm), hm.ext⟩
      · skip
        by_cases c4 : y ≤ 4
        · skip
          refine T_seq (T_region ?_)
          refine TL_q (.pointer (some ⟨B1, 0, none⟩)) (fun _ _ hρ _ => r_fieldAddr fl82_0 sz3 (hρ _ _ rfl)) rfl rfl rfl (w_n rfl) ?_
          refine TL_q (.int .i64 x) (fun _ _ hρ hm => r_load ag3 (hρ _ _ rfl) (hm.at 1 rfl) rfl) rfl rfl rfl (w_n rfl) ?_
          refine TL_q (.bool true) (fun _ _ hρ _ => r_as (r_geq (hρ _ _ rfl) (hρ _ _ rfl)) (bool_as (decide_eq_true c1))) rfl rfl rfl (w_n rfl) ?_
          refine TL_q (.bool true) (fun _ _ hρ _ => r_move (hρ _ _ rfl)) rfl rfl rfl (w_n rfl) ?_
          refine TL_q (.pointer (some ⟨B1, 0, none⟩)) (fun _ _ hρ _ => r_fieldAddr fl82_0 sz3 (hρ _ _ rfl)) rfl rfl rfl (want_y 6 rfl rfl rfl) ?_
          refine TL_q (.int .i64 x) (fun _ _ hρ hm => r_load ag3 (hρ _ _ rfl) (hm.at 1 rfl) rfl) rfl rfl rfl (want_y 6 rfl rfl rfl) ?_
          refine TL_q (.bool true) (fun _ _ hρ _ => r_as (r_leq (hρ _ _ rfl) (hρ _ _ rfl)) (bool_as (decide_eq_true c2))) rfl rfl rfl (want_y 6 rfl rfl rfl) ?_
          refine TL_q (.bool true) (fun _ _ hρ _ => r_pick_t (hρ _ _ rfl) (hρ _ _ rfl)) rfl rfl rfl (w_n rfl) ?_
          refine TL_q (.bool true) (fun _ _ hρ _ => r_move (hρ _ _ rfl)) rfl rfl rfl (w_n rfl) ?_
          refine TL_q (.pointer (some ⟨B1, 1, none⟩)) (fun _ _ hρ _ => r_fieldAddr fl82_1 sz3 (hρ _ _ rfl)) rfl rfl rfl (want_y 11 rfl rfl rfl) ?_
          refine TL_q (.int .i64 y) (fun _ _ hρ hm => r_load ag3 (hρ _ _ rfl) (hm.at 1 rfl) rfl) rfl rfl rfl (want_y 11 rfl rfl rfl) ?_
          refine TL_q (.bool false) (fun _ _ hρ _ => r_as (r_geq (hρ _ _ rfl) (hρ _ _ rfl)) (bool_as (decide_eq_false c3))) rfl rfl rfl (want_y 11 rfl rfl rfl) ?_
          refine TL_q (.bool false) (fun _ _ hρ _ => r_pick_t (hρ _ _ rfl) (hρ _ _ rfl)) rfl rfl rfl (w_n rfl) ?_
          refine TL_q (.bool false) (fun _ _ hρ _ => r_move (hρ _ _ rfl)) rfl rfl rfl (w_n rfl) ?_
          refine TL_no rfl rfl (want_n 16 rfl rfl rfl) ?_
          refine TL_no rfl rfl (want_n 16 rfl rfl rfl) ?_
          refine TL_no rfl rfl (want_n 16 rfl rfl rfl) ?_
          refine TL_q (.bool false) (fun _ _ hρ _ => r_pick_f (hρ _ _ rfl) (hρ _ _ rfl)) rfl rfl rfl (w_n rfl) ?_
          refine TL_q (.bool false) (fun _ _ hρ _ => r_assign (hρ _ _ rfl)) rfl rfl rfl (w_n rfl) ?_
          refine TL_seq ?_
          refine T_ret' ?_
          refine ret_of rfl (.bool false) (fun tmps w hk hm => res1 rfl (res_tmp (hk 2 _ rfl))) (fun w hm => ?_)
          exact ⟨congrArg Ending.returned (bool_as (decide_eq_false (by omega)).symm), hm.ext⟩
        · skip
          refine T_seq (T_region ?_)
          refine TL_q (.pointer (some ⟨B1, 0, none⟩)) (fun _ _ hρ _ => r_fieldAddr fl82_0 sz3 (hρ _ _ rfl)) rfl rfl rfl (w_n rfl) ?_
          refine TL_q (.int .i64 x) (fun _ _ hρ hm => r_load ag3 (hρ _ _ rfl) (hm.at 1 rfl) rfl) rfl rfl rfl (w_n rfl) ?_
          refine TL_q (.bool true) (fun _ _ hρ _ => r_as (r_geq (hρ _ _ rfl) (hρ _ _ rfl)) (bool_as (decide_eq_true c1))) rfl rfl rfl (w_n rfl) ?_
          refine TL_q (.bool true) (fun _ _ hρ _ => r_move (hρ _ _ rfl)) rfl rfl rfl (w_n rfl) ?_
          refine TL_q (.pointer (some ⟨B1, 0, none⟩)) (fun _ _ hρ _ => r_fieldAddr fl82_0 sz3 (hρ _ _ rfl)) rfl rfl rfl (want_y 6 rfl rfl rfl) ?_
          refine TL_q (.int .i64 x) (fun _ _ hρ hm => r_load ag3 (hρ _ _ rfl) (hm.at 1 rfl) rfl) rfl rfl rfl (want_y 6 rfl rfl rfl) ?_
          refine TL_q (.bool true) (fun _ _ hρ _ => r_as (r_leq (hρ _ _ rfl) (hρ _ _ rfl)) (bool_as (decide_eq_true c2))) rfl rfl rfl (want_y 6 rfl rfl rfl) ?_
          refine TL_q (.bool true) (fun _ _ hρ _ => r_pick_t (hρ _ _ rfl) (hρ _ _ rfl)) rfl rfl rfl (w_n rfl) ?_
          refine TL_q (.bool true) (fun _ _ hρ _ => r_move (hρ _ _ rfl)) rfl rfl rfl (w_n rfl) ?_
          refine TL_q (.pointer (some ⟨B1, 1, none⟩)) (fun _ _ hρ _ => r_fieldAddr fl82_1 sz3 (hρ _ _ rfl)) rfl rfl rfl (want_y 11 rfl rfl rfl) ?_
          refine TL_q (.int .i64 y) (fun _ _ hρ hm => r_load ag3 (hρ _ _ rfl) (hm.at 1 rfl) rfl) rfl rfl rfl (want_y 11 rfl rfl rfl) ?_
          refine TL_q (.bool false) (fun _ _ hρ _ => r_as (r_geq (hρ _ _ rfl) (hρ _ _ rfl)) (bool_as (decide_eq_false c3))) rfl rfl rfl (want_y 11 rfl rfl rfl) ?_
          refine TL_q (.bool false) (fun _ _ hρ _ => r_pick_t (hρ _ _ rfl) (hρ _ _ rfl)) rfl rfl rfl (w_n rfl) ?_
          refine TL_q (.bool false) (fun _ _ hρ _ => r_move (hρ _ _ rfl)) rfl rfl rfl (w_n rfl) ?_
          refine TL_no rfl rfl (want_n 16 rfl rfl rfl) ?_
          refine TL_no rfl rfl (want_n 16 rfl rfl rfl) ?_
          refine TL_no rfl rfl (want_n 16 rfl rfl rfl) ?_
          refine TL_q (.bool false) (fun _ _ hρ _ => r_pick_f (hρ _ _ rfl) (hρ _ _ rfl)) rfl rfl rfl (w_n rfl) ?_
          refine TL_q (.bool false) (fun _ _ hρ _ => r_assign (hρ _ _ rfl)) rfl rfl rfl (w_n rfl) ?_
          refine TL_seq ?_
          refine T_ret' ?_
          refine ret_of rfl (.bool false) (fun tmps w hk hm => res1 rfl (res_tmp (hk 2 _ rfl))) (fun w hm => ?_)
          exact ⟨congrArg Ending.returned (bool_as (decide_eq_false (by omega)).symm), hm.ext⟩
    · skip
      by_cases c3 : (1 : Int) ≤ y
      · skip
        by_cases c4 : y ≤ 4
        · skip
          refine T_seq (T_region ?_)
          refine TL_q (.pointer (some ⟨B1, 0, none⟩)) (fun _ _ hρ _ => r_fieldAddr fl82_0 sz3 (hρ _ _ rfl)) rfl rfl rfl (w_n rfl) ?_
          refine TL_q (.int .i64 x) (fun _ _ hρ hm => r_load ag3 (hρ _ _ rfl) (hm.at 1 rfl) rfl) rfl rfl rfl (w_n rfl) ?_
          refine TL_q (.bool true) (fun _ _ hρ _ => r_as (r_geq (hρ _ _ rfl) (hρ _ _ rfl)) (bool_as (decide_eq_true c1))) rfl rfl rfl (w_n rfl) ?_
          refine TL_q (.bool true) (fun _ _ hρ _ => r_move (hρ _ _ rfl)) rfl rfl rfl (w_n rfl) ?_
          refine TL_q (.pointer (some ⟨B1, 0, none⟩)) (fun _ _ hρ _ => r_fieldAddr fl82_0 sz3 (hρ _ _ rfl)) rfl rfl rfl (want_y 6 rfl rfl rfl) ?_
          refine TL_q (.int .i64 x) (fun _ _ hρ hm => r_load ag3 (hρ _ _ rfl) (hm.at 1 rfl) rfl) rfl rfl rfl (want_y 6 rfl rfl rfl) ?_
          refine TL_q (.bool false) (fun _ _ hρ _ => r_as (r_leq (hρ _ _ rfl) (hρ _ _ rfl)) (bool_as (decide_eq_false c2))) rfl rfl rfl (want_y 6 rfl rfl rfl) ?_
          refine TL_q (.bool false) (fun _ _ hρ _ => r_pick_t (hρ _ _ rfl) (hρ _ _ rfl)) rfl rfl rfl (w_n rfl) ?_
          refine TL_q (.bool false) (fun _ _ hρ _ => r_move (hρ _ _ rfl)) rfl rfl rfl (w_n rfl) ?_
          refine TL_no rfl rfl (want_n 11 rfl rfl rfl) ?_
          refine TL_no rfl rfl (want_n 11 rfl rfl rfl) ?_
          refine TL_no rfl rfl (want_n 11 rfl rfl rfl) ?_
          refine TL_q (.bool false) (fun _ _ hρ _ => r_pick_f (hρ _ _ rfl) (hρ _ _ rfl)) rfl rfl rfl (w_n rfl) ?_
          refine TL_q (.bool false) (fun _ _ hρ _ => r_move (hρ _ _ rfl)) rfl rfl rfl (w_n rfl) ?_
          refine TL_no rfl rfl (want_n 16 rfl rfl rfl) ?_
          refine TL_no rfl rfl (want_n 16 rfl rfl rfl) ?_
          refine TL_no rfl rfl (want_n 16 rfl rfl rfl) ?_
          refine TL_q (.bool false) (fun _ _ hρ _ => r_pick_f (hρ _ _ rfl) (hρ _ _ rfl)) rfl rfl rfl (w_n rfl) ?_
          refine TL_q (.bool false) (fun _ _ hρ _ => r_assign (hρ _ _ rfl)) rfl rfl rfl (w_n rfl) ?_
          refine TL_seq ?_
          refine T_ret' ?_
          refine ret_of rfl (.bool false) (fun tmps w hk hm => res1 rfl (res_tmp (hk 2 _ rfl))) (fun w hm => ?_)
          exact ⟨congrArg Ending.returned (bool_as (decide_eq_false (by omega)).symm), hm.ext⟩
        · skip
          refine T_seq (T_region ?_)
          refine TL_q (.pointer (some ⟨B1, 0, none⟩)) (fun _ _ hρ _ => r_fieldAddr fl82_0 sz3 (hρ _ _ rfl)) rfl rfl rfl (w_n rfl) ?_
          refine TL_q (.int .i64 x) (fun _ _ hρ hm => r_load ag3 (hρ _ _ rfl) (hm.at 1 rfl) rfl) rfl rfl rfl (w_n rfl) ?_
          refine TL_q (.bool true) (fun _ _ hρ _ => r_as (r_geq (hρ _ _ rfl) (hρ _ _ rfl)) (bool_as (decide_eq_true c1))) rfl rfl rfl (w_n rfl) ?_
          refine TL_q (.bool true) (fun _ _ hρ _ => r_move (hρ _ _ rfl)) rfl rfl rfl (w_n rfl) ?_
          refine TL_q (.pointer (some ⟨B1, 0, none⟩)) (fun _ _ hρ _ => r_fieldAddr fl82_0 sz3 (hρ _ _ rfl)) rfl rfl rfl (want_y 6 rfl rfl rfl) ?_
          refine TL_q (.int .i64 x) (fun _ _ hρ hm => r_load ag3 (hρ _ _ rfl) (hm.at 1 rfl) rfl) rfl rfl rfl (want_y 6 rfl rfl rfl) ?_
          refine TL_q (.bool false) (fun _ _ hρ _ => r_as (r_leq (hρ _ _ rfl) (hρ _ _ rfl)) (bool_as (decide_eq_false c2))) rfl rfl rfl (want_y 6 rfl rfl rfl) ?_
          refine TL_q (.bool false) (fun _ _ hρ _ => r_pick_t (hρ _ _ rfl) (hρ _ _ rfl)) rfl rfl rfl (w_n rfl) ?_
          refine TL_q (.bool false) (fun _ _ hρ _ => r_move (hρ _ _ rfl)) rfl rfl rfl (w_n rfl) ?_
          refine TL_no rfl rfl (want_n 11 rfl rfl rfl) ?_
          refine TL_no rfl rfl (want_n 11 rfl rfl rfl) ?_
          refine TL_no rfl rfl (want_n 11 rfl rfl rfl) ?_
          refine TL_q (.bool false) (fun _ _ hρ _ => r_pick_f (hρ _ _ rfl) (hρ _ _ rfl)) rfl rfl rfl (w_n rfl) ?_
          refine TL_q (.bool false) (fun _ _ hρ _ => r_move (hρ _ _ rfl)) rfl rfl rfl (w_n rfl) ?_
          refine TL_no rfl rfl (want_n 16 rfl rfl rfl) ?_
          refine TL_no rfl rfl (want_n 16 rfl rfl rfl) ?_
          refine TL_no rfl rfl (want_n 16 rfl rfl rfl) ?_
          refine TL_q (.bool false) (fun _ _ hρ _ => r_pick_f (hρ _ _ rfl) (hρ _ _ rfl)) rfl rfl rfl (w_n rfl) ?_
          refine TL_q (.bool false) (fun _ _ hρ _ => r_assign (hρ _ _ rfl)) rfl rfl rfl (w_n rfl) ?_
          refine TL_seq ?_
          refine T_ret' ?_
          refine ret_of rfl (.bool false) (fun tmps w hk hm => res1 rfl (res_tmp (hk 2 _ rfl))) (fun w hm => ?_)
          exact ⟨congrArg Ending.returned (bool_as (decide_eq_false (by omega)).symm), hm.ext⟩
      · skip
        by_cases c4 : y ≤ 4
        · skip
          refine T_seq (T_region ?_)
          refine TL_q (.pointer (some ⟨B1, 0, none⟩)) (fun _ _ hρ _ => r_fieldAddr fl82_0 sz3 (hρ _ _ rfl)) rfl rfl rfl (w_n rfl) ?_
          refine TL_q (.int .i64 x) (fun _ _ hρ hm => r_load ag3 (hρ _ _ rfl) (hm.at 1 rfl) rfl) rfl rfl rfl (w_n rfl) ?_
          refine TL_q (.bool true) (fun _ _ hρ _ => r_as (r_geq (hρ _ _ rfl) (hρ _ _ rfl)) (bool_as (decide_eq_true c1))) rfl rfl rfl (w_n rfl) ?_
          refine TL_q (.bool true) (fun _ _ hρ _ => r_move (hρ _ _ rfl)) rfl rfl rfl (w_n rfl) ?_
          refine TL_q (.pointer (some ⟨B1, 0, none⟩)) (fun _ _ hρ _ => r_fieldAddr fl82_0 sz3 (hρ _ _ rfl)) rfl rfl rfl (want_y 6 rfl rfl rfl) ?_
          refine TL_q (.int .i64 x) (fun _ _ hρ hm => r_load ag3 (hρ _ _ rfl) (hm.at 1 rfl) rfl) rfl rfl rfl (want_y 6 rfl rfl rfl) ?_
          refine TL_q (.bool false) (fun _ _ hρ _ => r_as (r_leq (hρ _ _ rfl) (hρ _ _ rfl)) (bool_as (decide_eq_false c2))) rfl rfl rfl (want_y 6 rfl rfl rfl) ?_
          refine TL_q (.bool false) (fun _ _ hρ _ => r_pick_t (hρ _ _ rfl) (hρ _ _ rfl)) rfl rfl rfl (w_n rfl) ?_
          refine TL_q (.bool false) (fun _ _ hρ _ => r_move (hρ _ _ rfl)) rfl rfl rfl (w_n rfl) ?_
          refine TL_no rfl rfl (want_n 11 rfl rfl rfl) ?_
          refine TL_no rfl rfl (want_n 11 rfl rfl rfl) ?_
          refine TL_no rfl rfl (want_n 11 rfl rfl rfl) ?_
          refine TL_q (.bool false) (fun _ _ hρ _ => r_pick_f (hρ _ _ rfl) (hρ _ _ rfl)) rfl rfl rfl (w_n rfl) ?_
          refine TL_q (.bool false) (fun _ _ hρ _ => r_move (hρ _ _ rfl)) rfl rfl rfl (w_n rfl) ?_
          refine TL_no rfl rfl (want_n 16 rfl rfl rfl) ?_
          refine TL_no rfl rfl (want_n 16 rfl rfl rfl) ?_
          refine TL_no rfl rfl (want_n 16 rfl rfl rfl) ?_
          refine TL_q (.bool false) (fun _ _ hρ _ => r_pick_f (hρ _ _ rfl) (hρ _ _ rfl)) rfl rfl rfl (w_n rfl) ?_
          refine TL_q (.bool false) (fun _ _ hρ _ => r_assign (hρ _ _ rfl)) rfl rfl rfl (w_n rfl) ?_
          refine TL_seq ?_
          refine T_ret' ?_
          refine ret_of rfl (.bool false) (fun tmps w hk hm => res1 rfl (res_tmp (hk 2 _ rfl))) (fun w hm => ?_)
          exact ⟨congrArg Ending.returned (bool_as (decide_eq_false (by omega)).symm), hm.ext⟩
        · skip
          refine T_seq (T_region ?_)
          refine TL_q (.pointer (some ⟨B1, 0, none⟩)) (fun _ _ hρ _ => r_fieldAddr fl82_0 sz3 (hρ _ _ rfl)) rfl rfl rfl (w_n rfl) ?_
          refine TL_q (.int .i64 x) (fun _ _ hρ hm => r_load ag3 (hρ _ _ rfl) (hm.at 1 rfl) rfl) rfl rfl rfl (w_n rfl) ?_
          refine TL_q (.bool true) (fun _ _ hρ _ => r_as (r_geq (hρ _ _ rfl) (hρ _ _ rfl)) (bool_as (decide_eq_true c1))) rfl rfl rfl (w_n rfl) ?_
          refine TL_q (.bool true) (fun _ _ hρ _ => r_move (hρ _ _ rfl)) rfl rfl rfl (w_n rfl) ?_
          refine TL_q (.pointer (some ⟨B1, 0, none⟩)) (fun _ _ hρ _ => r_fieldAddr fl82_0 sz3 (hρ _ _ rfl)) rfl rfl rfl (want_y 6 rfl rfl rfl) ?_
          refine TL_q (.int .i64 x) (fun _ _ hρ hm => r_load ag3 (hρ _ _ rfl) (hm.at 1 rfl) rfl) rfl rfl rfl (want_y 6 rfl rfl rfl) ?_
          refine TL_q (.bool false) (fun _ _ hρ _ => r_as (r_leq (hρ _ _ rfl) (hρ _ _ rfl)) (bool_as (decide_eq_false c2))) rfl rfl rfl (want_y 6 rfl rfl rfl) ?_
          refine TL_q (.bool false) (fun _ _ hρ _ => r_pick_t (hρ _ _ rfl) (hρ _ _ rfl)) rfl rfl rfl (w_n rfl) ?_
          refine TL_q (.bool false) (fun _ _ hρ _ => r_move (hρ _ _ rfl)) rfl rfl rfl (w_n rfl) ?_
          refine TL_no rfl rfl (want_n 11 rfl rfl rfl) ?_
          refine TL_no rfl rfl (want_n 11 rfl rfl rfl) ?_
          refine TL_no rfl rfl (want_n 11 rfl rfl rfl) ?_
          refine TL_q (.bool false) (fun _ _ hρ _ => r_pick_f (hρ _ _ rfl) (hρ _ _ rfl)) rfl rfl rfl (w_n rfl) ?_
          refine TL_q (.bool false) (fun _ _ hρ _ => r_move (hρ _ _ rfl)) rfl rfl rfl (w_n rfl) ?_
          refine TL_no rfl rfl (want_n 16 rfl rfl rfl) ?_
          refine TL_no rfl rfl (want_n 16 rfl rfl rfl) ?_
          refine TL_no rfl rfl (want_n 16 rfl rfl rfl) ?_
          refine TL_q (.bool false) (fun _ _ hρ _ => r_pick_f (hρ _ _ rfl) (hρ _ _ rfl)) rfl rfl rfl (w_n rfl) ?_
          refine TL_q (.bool false) (fun _ _ hρ _ => r_assign (hρ _ _ rfl)) rfl rfl rfl (w_n rfl) ?_
          refine TL_seq ?_
          refine T_ret' ?_
          refine ret_of rfl (.bool false) (fun tmps w hk hm => res1 rfl (res_tmp (hk 2 _ rfl))) (fun w hm => ?_)
          exact ⟨congrArg Ending.returned (bool_as (decide_eq_false (by omega)).symm), hm.ext⟩
  · skip
    by_cases c2 : x ≤ 4
    · skip
      by_cases c3 : (1 : Int) ≤ y
      · skip
        by_cases c4 : y ≤ 4
        · skip
          refine T_seq (T_region ?_)
          refine TL_q (.pointer (some ⟨B1, 0, none⟩)) (fun _ _ hρ _ => r_fieldAddr fl82_0 sz3 (hρ _ _ rfl)) rfl rfl rfl (w_n rfl) ?_
          refine TL_q (.int .i64 x) (fun _ _ hρ hm => r_load ag3 (hρ _ _ rfl) (hm.at 1 rfl) rfl) rfl rfl rfl (w_n rfl) ?_
          refine TL_q (.bool false) (fun _ _ hρ _ => r_as (r_geq (hρ _ _ rfl) (hρ _ _ rfl)) (bool_as (decide_eq_false c1))) rfl rfl rfl (w_n rfl) ?_
          refine TL_q (.bool false) (fun _ _ hρ _ => r_move (hρ _ _ rfl)) rfl rfl rfl (w_n rfl) ?_
          refine TL_no rfl rfl (want_n 6 rfl rfl rfl) ?_
          refine TL_no rfl rfl (want_n 6 rfl rfl rfl) ?_
          refine TL_no rfl rfl (want_n 6 rfl rfl rfl) ?_
          refine TL_q (.bool false) (fun _ _ hρ _ => r_pick_f (hρ _ _ rfl) (hρ _ _ rfl)) rfl rfl rfl (w_n rfl) ?_
          refine TL_q (.bool false) (fun _ _ hρ _ => r_move (hρ _ _ rfl)) rfl rfl rfl (w_n rfl) ?_
          refine TL_no rfl rfl (want_n 11 rfl rfl rfl) ?_
          refine TL_no rfl rfl (want_n 11 rfl rfl rfl) ?_
          refine TL_no rfl rfl (want_n 11 rfl rfl rfl) ?_
          refine TL_q (.bool false) (fun _ _ hρ _ => r_pick_f (hρ _ _ rfl) (hρ _ _ rfl)) rfl rfl rfl (w_n rfl) ?_
          refine TL_q (.bool false) (fun _ _ hρ _ => r_move (hρ _ _ rfl)) rfl rfl rfl (w_n rfl) ?_
          refine TL_no rfl rfl (want_n 16 rfl rfl rfl) ?_
          refine TL_no rfl rfl (want_n 16 rfl rfl rfl) ?_
          refine TL_no rfl rfl (want_n 16 rfl rfl rfl) ?_
          refine TL_q (.bool false) (fun _ _ hρ _ => r_pick_f (hρ _ _ rfl) (hρ _ _ rfl)) rfl rfl rfl (w_n rfl) ?_
          refine TL_q (.bool false) (fun _ _ hρ _ => r_assign (hρ _ _ rfl)) rfl rfl rfl (w_n rfl) ?_
          refine TL_seq ?_
          refine T_ret' ?_
          refine ret_of rfl (.bool false) (fun tmps w hk hm => res1 rfl (res_tmp (hk 2 _ rfl))) (fun w hm => ?_)
          exact ⟨congrArg Ending.returned (bool_as (decide_eq_false (by omega)).symm), hm.ext⟩
        · skip
          refine T_seq (T_region ?_)
          refine TL_q (.pointer (some ⟨B1, 0, none⟩)) (fun _ _ hρ _ => r_fieldAddr fl82_0 sz3 (hρ _ _ rfl)) rfl rfl rfl (w_n rfl) ?_
          refine TL_q (.int .i64 x) (fun _ _ hρ hm => r_load ag3 (hρ _ _ rfl) (hm.at 1 rfl) rfl) rfl rfl rfl (w_n rfl) ?_
          refine TL_q (.bool false) (fun _ _ hρ _ => r_as (r_geq (hρ _ _ rfl) (hρ _ _ rfl)) (bool_as (decide_eq_false c1))) rfl rfl rfl (w_n rfl) ?_
          refine TL_q (.bool false) (fun _ _ hρ _ => r_move (hρ _ _ rfl)) rfl rfl rfl (w_n rfl) ?_
          refine TL_no rfl rfl (want_n 6 rfl rfl rfl) ?_
          refine TL_no rfl rfl (want_n 6 rfl rfl rfl) ?_
          refine TL_no rfl rfl (want_n 6 rfl rfl rfl) ?_
          refine TL_q (.bool false) (fun _ _ hρ _ => r_pick_f (hρ _ _ rfl) (hρ _ _ rfl)) rfl rfl rfl (w_n rfl) ?_
          refine TL_q (.bool false) (fun _ _ hρ _ => r_move (hρ _ _ rfl)) rfl rfl rfl (w_n rfl) ?_
          refine TL_no rfl rfl (want_n 11 rfl rfl rfl) ?_
          refine TL_no rfl rfl (want_n 11 rfl rfl rfl) ?_
          refine TL_no rfl rfl (want_n 11 rfl rfl rfl) ?_
          refine TL_q (.bool false) (fun _ _ hρ _ => r_pick_f (hρ _ _ rfl) (hρ _ _ rfl)) rfl rfl rfl (w_n rfl) ?_
          refine TL_q (.bool false) (fun _ _ hρ _ => r_move (hρ _ _ rfl)) rfl rfl rfl (w_n rfl) ?_
          refine TL_no rfl rfl (want_n 16 rfl rfl rfl) ?_
          refine TL_no rfl rfl (want_n 16 rfl rfl rfl) ?_
          refine TL_no rfl rfl (want_n 16 rfl rfl rfl) ?_
          refine TL_q (.bool false) (fun _ _ hρ _ => r_pick_f (hρ _ _ rfl) (hρ _ _ rfl)) rfl rfl rfl (w_n rfl) ?_
          refine TL_q (.bool false) (fun _ _ hρ _ => r_assign (hρ _ _ rfl)) rfl rfl rfl (w_n rfl) ?_
          refine TL_seq ?_
          refine T_ret' ?_
          refine ret_of rfl (.bool false) (fun tmps w hk hm => res1 rfl (res_tmp (hk 2 _ rfl))) (fun w hm => ?_)
          exact ⟨congrArg Ending.returned (bool_as (decide_eq_false (by omega)).symm), hm.ext⟩
      · skip
        by_cases c4 : y ≤ 4
        · skip
          refine T_seq (T_region ?_)
          refine TL_q (.pointer (some ⟨B1, 0, none⟩)) (fun _ _ hρ _ => r_fieldAddr fl82_0 sz3 (hρ _ _ rfl)) rfl rfl rfl (w_n rfl) ?_
          refine TL_q (.int .i64 x) (fun _ _ hρ hm => r_load ag3 (hρ _ _ rfl) (hm.at 1 rfl) rfl) rfl rfl rfl (w_n rfl) ?_
          refine TL_q (.bool false) (fun _ _ hρ _ => r_as (r_geq (hρ _ _ rfl) (hρ _ _ rfl)) (bool_as (decide_eq_false c1))) rfl rfl rfl (w_n rfl) ?_
          refine TL_q (.bool false) (fun _ _ hρ _ => r_move (hρ _ _ rfl)) rfl rfl rfl (w_n rfl) ?_
          refine TL_no rfl rfl (want_n 6 rfl rfl rfl) ?_
          refine TL_no rfl rfl (want_n 6 rfl rfl rfl) ?_
          refine TL_no rfl rfl (want_n 6 rfl rfl rfl) ?_
          refine TL_q (.bool false) (fun _ _ hρ _ => r_pick_f (hρ _ _ rfl) (hρ _ _ rfl)) rfl rfl rfl (w_n rfl) ?_
          refine TL_q (.bool false) (fun _ _ hρ _ => r_move (hρ _ _ rfl)) rfl rfl rfl (w_n rfl) ?_
          refine TL_no rfl rfl (want_n 11 rfl rfl rfl) ?_
          refine TL_no rfl rfl (want_n 11 rfl rfl rfl) ?_
          refine TL_no rfl rfl (want_n 11 rfl rfl rfl) ?_
          refine TL_q (.bool false) (fun _ _ hρ _ => r_pick_f (hρ _ _ rfl) (hρ _ _ rfl)) rfl rfl rfl (w_n rfl) ?_
          refine TL_q (.bool false) (fun _ _ hρ _ => r_move (hρ _ _ rfl)) rfl rfl rfl (w_n rfl) ?_
          refine TL_no rfl rfl (want_n 16 rfl rfl rfl) ?_
          refine TL_no rfl rfl (want_n 16 rfl rfl rfl) ?_
          refine TL_no rfl rfl (want_n 16 rfl rfl rfl) ?_
          refine TL_q (.bool false) (fun _ _ hρ _ => r_pick_f (hρ _ _ rfl) (hρ _ _ rfl)) rfl rfl rfl (w_n rfl) ?_
          refine TL_q (.bool false) (fun _ _ hρ _ => r_assign (hρ _ _ rfl)) rfl rfl rfl (w_n rfl) ?_
          refine TL_seq ?_
          refine T_ret' ?_
          refine ret_of rfl (.bool false) (fun tmps w hk hm => res1 rfl (res_tmp (hk 2 _ rfl))) (fun w hm => ?_)
          exact ⟨congrArg Ending.returned (bool_as (decide_eq_false (by omega)).symm), hm.ext⟩
        · skip
          refine T_seq (T_region ?_)
          refine TL_q (.pointer (some ⟨B1, 0, none⟩)) (fun _ _ hρ _ => r_fieldAddr fl82_0 sz3 (hρ _ _ rfl)) rfl rfl rfl (w_n rfl) ?_
          refine TL_q (.int .i64 x) (fun _ _ hρ hm => r_load ag3 (hρ _ _ rfl) (hm.at 1 rfl) rfl) rfl rfl rfl (w_n rfl) ?_
          refine TL_q (.bool false) (fun _ _ hρ _ => r_as (r_geq (hρ _ _ rfl) (hρ _ _ rfl)) (bool_as (decide_eq_false c1))) rfl rfl rfl (w_n rfl) ?_
          refine TL_q (.bool false) (fun _ _ hρ _ => r_move (hρ _ _ rfl)) rfl rfl rfl (w_n rfl) ?_
          refine TL_no rfl rfl (want_n 6 rfl rfl rfl) ?_
          refine TL_no rfl rfl (want_n 6 rfl rfl rfl) ?_
          refine TL_no rfl rfl (want_n 6 rfl rfl rfl) ?_
          refine TL_q (.bool false) (fun _ _ hρ _ => r_pick_f (hρ _ _ rfl) (hρ _ _ rfl)) rfl rfl rfl (w_n rfl) ?_
          refine TL_q (.bool false) (fun _ _ hρ _ => r_move (hρ _ _ rfl)) rfl rfl rfl (w_n rfl) ?_
          refine TL_no rfl rfl (want_n 11 rfl rfl rfl) ?_
          refine TL_no rfl rfl (want_n 11 rfl rfl rfl) ?_
          refine TL_no rfl rfl (want_n 11 rfl rfl rfl) ?_
          refine TL_q (.bool false) (fun _ _ hρ _ => r_pick_f (hρ _ _ rfl) (hρ _ _ rfl)) rfl rfl rfl (w_n rfl) ?_
          refine TL_q (.bool false) (fun _ _ hρ _ => r_move (hρ _ _ rfl)) rfl rfl rfl (w_n rfl) ?_
          refine TL_no rfl rfl (want_n 16 rfl rfl rfl) ?_
          refine TL_no rfl rfl (want_n 16 rfl rfl rfl) ?_
          refine TL_no rfl rfl (want_n 16 rfl rfl rfl) ?_
          refine TL_q (.bool false) (fun _ _ hρ _ => r_pick_f (hρ _ _ rfl) (hρ _ _ rfl)) rfl rfl rfl (w_n rfl) ?_
          refine TL_q (.bool false) (fun _ _ hρ _ => r_assign (hρ _ _ rfl)) rfl rfl rfl (w_n rfl) ?_
          refine TL_seq ?_
          refine T_ret' ?_
          refine ret_of rfl (.bool false) (fun tmps w hk hm => res1 rfl (res_tmp (hk 2 _ rfl))) (fun w hm => ?_)
          exact ⟨congrArg Ending.returned (bool_as (decide_eq_false (by omega)).symm), hm.ext⟩
    · skip
      by_cases c3 : (1 : Int) ≤ y
      · skip
        by_cases c4 : y ≤ 4
        · skip
          refine T_seq (T_region ?_)
          refine TL_q (.pointer (some ⟨B1, 0, none⟩)) (fun _ _ hρ _ => r_fieldAddr fl82_0 sz3 (hρ _ _ rfl)) rfl rfl rfl (w_n rfl) ?_
          refine TL_q (.int .i64 x) (fun _ _ hρ hm => r_load ag3 (hρ _ _ rfl) (hm.at 1 rfl) rfl) rfl rfl rfl (w_n rfl) ?_
          refine TL_q (.bool false) (fun _ _ hρ _ => r_as (r_geq (hρ _ _ rfl) (hρ _ _ rfl)) (bool_as (decide_eq_false c1))) rfl rfl rfl (w_n rfl) ?_
          refine TL_q (.bool false) (fun _ _ hρ _ => r_move (hρ _ _ rfl)) rfl rfl rfl (w_n rfl) ?_
          refine TL_no rfl rfl (want_n 6 rfl rfl rfl) ?_
          refine TL_no rfl rfl (want_n 6 rfl rfl rfl) ?_
          refine TL_no rfl rfl (want_n 6 rfl rfl rfl) ?_
          refine TL_q (.bool false) (fun _ _ hρ _ => r_pick_f (hρ _ _ rfl) (hρ _ _ rfl)) rfl rfl rfl (w_n rfl) ?_
          refine TL_q (.bool false) (fun _ _ hρ _ => r_move (hρ _ _ rfl)) rfl rfl rfl (w_n rfl) ?_
          refine TL_no rfl rfl (want_n 11 rfl rfl rfl) ?_
          refine TL_no rfl rfl (want_n 11 rfl rfl rfl) ?_
          refine TL_no rfl rfl (want_n 11 rfl rfl rfl) ?_
          refine TL_q (.bool false) (fun _ _ hρ _ => r_pick_f (hρ _ _ rfl) (hρ _ _ rfl)) rfl rfl rfl (w_n rfl) ?_
          refine TL_q (.bool false) (fun _ _ hρ _ => r_move (hρ _ _ rfl)) rfl rfl rfl (w_n rfl) ?_
          refine TL_no rfl rfl (want_n 16 rfl rfl rfl) ?_
          refine TL_no rfl rfl (want_n 16 rfl rfl rfl) ?_
          refine TL_no rfl rfl (want_n 16 rfl rfl rfl) ?_
          refine TL_q (.bool false) (fun _ _ hρ _ => r_pick_f (hρ _ _ rfl) (hρ _ _ rfl)) rfl rfl rfl (w_n rfl) ?_
          refine TL_q (.bool false) (fun _ _ hρ _ => r_assign (hρ _ _ rfl)) rfl rfl rfl (w_n rfl) ?_
          refine TL_seq ?_
          refine T_ret' ?_
          refine ret_of rfl (.bool false) (fun tmps w hk hm => res1 rfl (res_tmp (hk 2 _ rfl))) (fun w hm => ?_)
          exact ⟨congrArg Ending.returned (bool_as (decide_eq_false (by omega)).symm), hm.ext⟩
        · skip
          refine T_seq (T_region ?_)
          refine TL_q (.pointer (some ⟨B1, 0, none⟩)) (fun _ _ hρ _ => r_fieldAddr fl82_0 sz3 (hρ _ _ rfl)) rfl rfl rfl (w_n rfl) ?_
          refine TL_q (.int .i64 x) (fun _ _ hρ hm => r_load ag3 (hρ _ _ rfl) (hm.at 1 rfl) rfl) rfl rfl rfl (w_n rfl) ?_
          refine TL_q (.bool false) (fun _ _ hρ _ => r_as (r_geq (hρ _ _ rfl) (hρ _ _ rfl)) (bool_as (decide_eq_false c1))) rfl rfl rfl (w_n rfl) ?_
          refine TL_q (.bool false) (fun _ _ hρ _ => r_move (hρ _ _ rfl)) rfl rfl rfl (w_n rfl) ?_
          refine TL_no rfl rfl (want_n 6 rfl rfl rfl) ?_
          refine TL_no rfl rfl (want_n 6 rfl rfl rfl) ?_
          refine TL_no rfl rfl (want_n 6 rfl rfl rfl) ?_
          refine TL_q (.bool false) (fun _ _ hρ _ => r_pick_f (hρ _ _ rfl) (hρ _ _ rfl)) rfl rfl rfl (w_n rfl) ?_
          refine TL_q (.bool false) (fun _ _ hρ _ => r_move (hρ _ _ rfl)) rfl rfl rfl (w_n rfl) ?_
          refine TL_no rfl rfl (want_n 11 rfl rfl rfl) ?_
          refine TL_no rfl rfl (want_n 11 rfl rfl rfl) ?_
          refine TL_no rfl rfl (want_n 11 rfl rfl rfl) ?_
          refine TL_q (.bool false) (fun _ _ hρ _ => r_pick_f (hρ _ _ rfl) (hρ _ _ rfl)) rfl rfl rfl (w_n rfl) ?_
          refine TL_q (.bool false) (fun _ _ hρ _ => r_move (hρ _ _ rfl)) rfl rfl rfl (w_n rfl) ?_
          refine TL_no rfl rfl (want_n 16 rfl rfl rfl) ?_
          refine TL_no rfl rfl (want_n 16 rfl rfl rfl) ?_
          refine TL_no rfl rfl (want_n 16 rfl rfl rfl) ?_
          refine TL_q (.bool false) (fun _ _ hρ _ => r_pick_f (hρ _ _ rfl) (hρ _ _ rfl)) rfl rfl rfl (w_n rfl) ?_
          refine TL_q (.bool false) (fun _ _ hρ _ => r_assign (hρ _ _ rfl)) rfl rfl rfl (w_n rfl) ?_
          refine TL_seq ?_
          refine T_ret' ?_
          refine ret_of rfl (.bool false) (fun tmps w hk hm => res1 rfl (res_tmp (hk 2 _ rfl))) (fun w hm => ?_)
          exact ⟨congrArg Ending.returned (bool_as (decide_eq_false (by omega)).symm), hm.ext⟩
      · skip
        by_cases c4 : y ≤ 4
        · skip
          refine T_seq (T_region ?_)
          refine TL_q (.pointer (some ⟨B1, 0, none⟩)) (fun _ _ hρ _ => r_fieldAddr fl82_0 sz3 (hρ _ _ rfl)) rfl rfl rfl (w_n rfl) ?_
          refine TL_q (.int .i64 x) (fun _ _ hρ hm => r_load ag3 (hρ _ _ rfl) (hm.at 1 rfl) rfl) rfl rfl rfl (w_n rfl) ?_
          refine TL_q (.bool false) (fun _ _ hρ _ => r_as (r_geq (hρ _ _ rfl) (hρ _ _ rfl)) (bool_as (decide_eq_false c1))) rfl rfl rfl (w_n rfl) ?_
          refine TL_q (.bool false) (fun _ _ hρ _ => r_move (hρ _ _ rfl)) rfl rfl rfl (w_n rfl) ?_
          refine TL_no rfl rfl (want_n 6 rfl rfl rfl) ?_
          refine TL_no rfl rfl (want_n 6 rfl rfl rfl) ?_
          refine TL_no rfl rfl (want_n 6 rfl rfl rfl) ?_
          refine TL_q (.bool false) (fun _ _ hρ _ => r_pick_f (hρ _ _ rfl) (hρ _ _ rfl)) rfl rfl rfl (w_n rfl) ?_
          refine TL_q (.bool false) (fun _ _ hρ _ => r_move (hρ _ _ rfl)) rfl rfl rfl (w_n rfl) ?_
          refine TL_no rfl rfl (want_n 11 rfl rfl rfl) ?_
          refine TL_no rfl rfl (want_n 11 rfl rfl rfl) ?_
          refine TL_no rfl rfl (want_n 11 rfl rfl rfl) ?_
          refine TL_q (.bool false) (fun _ _ hρ _ => r_pick_f (hρ _ _ rfl) (hρ _ _ rfl)) rfl rfl rfl (w_n rfl) ?_
          refine TL_q (.bool false) (fun _ _ hρ _ => r_move (hρ _ _ rfl)) rfl rfl rfl (w_n rfl) ?_
          refine TL_no rfl rfl (want_n 16 rfl rfl rfl) ?_
          refine TL_no rfl rfl (want_n 16 rfl rfl rfl) ?_
          refine TL_no rfl rfl (want_n 16 rfl rfl rfl) ?_
          refine TL_q (.bool false) (fun _ _ hρ _ => r_pick_f (hρ _ _ rfl) (hρ _ _ rfl)) rfl rfl rfl (w_n rfl) ?_
          refine TL_q (.bool false) (fun _ _ hρ _ => r_assign (hρ _ _ rfl)) rfl rfl rfl (w_n rfl) ?_
          refine TL_seq ?_
          refine T_ret' ?_
          refine ret_of rfl (.bool false) (fun tmps w hk hm => res1 rfl (res_tmp (hk 2 _ rfl))) (fun w hm => ?_)
          exact ⟨congrArg Ending.returned (bool_as (decide_eq_false (by omega)).symm), hm.ext⟩
        · skip
          refine T_seq (T_region ?_)
          refine TL_q (.pointer (some ⟨B1, 0, none⟩)) (fun _ _ hρ _ => r_fieldAddr fl82_0 sz3 (hρ _ _ rfl)) rfl rfl rfl (w_n rfl) ?_
          refine TL_q (.int .i64 x) (fun _ _ hρ hm => r_load ag3 (hρ _ _ rfl) (hm.at 1 rfl) rfl) rfl rfl rfl (w_n rfl) ?_
          refine TL_q (.bool false) (fun _ _ hρ _ => r_as (r_geq (hρ _ _ rfl) (hρ _ _ rfl)) (bool_as (decide_eq_false c1))) rfl rfl rfl (w_n rfl) ?_
          refine TL_q (.bool false) (fun _ _ hρ _ => r_move (hρ _ _ rfl)) rfl rfl rfl (w_n rfl) ?_
          refine TL_no rfl rfl (want_n 6 rfl rfl rfl) ?_
          refine TL_no rfl rfl (want_n 6 rfl rfl rfl) ?_
          refine TL_no rfl rfl (want_n 6 rfl rfl rfl) ?_
          refine TL_q (.bool false) (fun _ _ hρ _ => r_pick_f (hρ _ _ rfl) (hρ _ _ rfl)) rfl rfl rfl (w_n rfl) ?_
          refine TL_q (.bool false) (fun _ _ hρ _ => r_move (hρ _ _ rfl)) rfl rfl rfl (w_n rfl) ?_
          refine TL_no rfl rfl (want_n 11 rfl rfl rfl) ?_
          refine TL_no rfl rfl (want_n 11 rfl rfl rfl) ?_
          refine TL_no rfl rfl (want_n 11 rfl rfl rfl) ?_
          refine TL_q (.bool false) (fun _ _ hρ _ => r_pick_f (hρ _ _ rfl) (hρ _ _ rfl)) rfl rfl rfl (w_n rfl) ?_
          refine TL_q (.bool false) (fun _ _ hρ _ => r_move (hρ _ _ rfl)) rfl rfl rfl (w_n rfl) ?_
          refine TL_no rfl rfl (want_n 16 rfl rfl rfl) ?_
          refine TL_no rfl rfl (want_n 16 rfl rfl rfl) ?_
          refine TL_no rfl rfl (want_n 16 rfl rfl rfl) ?_
          refine TL_q (.bool false) (fun _ _ hρ _ => r_pick_f (hρ _ _ rfl) (hρ _ _ rfl)) rfl rfl rfl (w_n rfl) ?_
          refine TL_q (.bool false) (fun _ _ hρ _ => r_assign (hρ _ _ rfl)) rfl rfl rfl (w_n rfl) ?_
          refine TL_seq ?_
          refine T_ret' ?_
          refine ret_of rfl (.bool false) (fun tmps w hk hm => res1 rfl (res_tmp (hk 2 _ rfl))) (fun w hm => ?_)
          exact ⟨congrArg Ending.returned (bool_as (decide_eq_false (by omega)).symm), hm.ext⟩

theorem place_in (wd hg u v : Nat) (w : World) (hwd : 1 ≤ wd ∧ wd ≤ 4) (hhg : 1 ≤ hg ∧ hg ≤ 4) (hu : u < 8 * wd) (hv : v < 8 * hg) : Calls Try.prog 75 #[.agg #[.int .i64 (wd : Int), .int .i64 (hg : Int)], .int .i64 (u : Int), .int .i64 (v : Int)] w fun e w' => e = .returned (.tuple #[.int .i64 ((v / 8 * wd + u / 8 : Nat) : Int), .agg #[.int .i64 ((u % 8 : Nat) : Int), .int .i64 ((v % 8 : Nat) : Int)], .bool true]) ∧ Below w.heap.size w w' := by
  have hix := idx_lt hu hv
  have h16 := size4 hwd hhg
  refine calls_of_T (l := [.agg #[.int .i64 ((wd : Nat) : Int), .int .i64 ((hg : Nat) : Int)], .int .i64 ((u : Nat) : Int), .int .i64 ((v : Nat) : Int)]) 46 Try.func75 rfl rfl rfl ?_
  show T _ _ _ [(0, .agg #[.int .i64 ((wd : Nat) : Int), .int .i64 ((hg : Nat) : Int)]), (1, .int .i64 ((u : Nat) : Int)), (2, .int .i64 ((v : Nat) : Int))] []
  refine T_seq (T_region ?_)
  refine TL_new 1 (.cells #[.int .i64 ((wd : Nat) : Int), .int .i64 ((hg : Nat) : Int)] 82) (fun B => .pointer (some ⟨B, 0, none⟩)) (fun _ _ hρ _ => r_box (hρ _ _ rfl) rfl) rfl rfl rfl (w_n rfl) ?_
  intro B1
  refine TL_q (.int .i64 0) (fun _ _ hρ _ => r_assign (hρ _ _ rfl)) rfl rfl rfl (w_n rfl) ?_
  refine TL_new 2 (.cells #[.int .i64 0, .int .i64 0] 119) (fun B => .pointer (some ⟨B, 0, none⟩)) (fun _ _ _ _ => r_alloc (v := .agg #[.int .i64 0, .int .i64 0]) (by kernel_rfl) rfl) rfl rfl rfl (w_n rfl) ?_
  intro B2
  refine TL_q (.bool false) (fun _ _ hρ _ => r_assign (hρ _ _ rfl)) rfl rfl rfl (w_n rfl) ?_
  refine TL_seq ?_
  have f1 : (0 : Int) ≤ ((u : Nat) : Int) := by omega
  have f2 : (0 : Int) ≤ ((v : Nat) : Int) := by omega
  have f3 : ((u : Nat) : Int) < ((8 * wd : Nat) : Int) := by omega
  have f4 : ((v : Nat) : Int) < ((8 * hg : Nat) : Int) := by omega
  refine T_seq (T_region ?_)
  refine TL_q (.int .i64 ((u : Nat) : Int)) (fun _ _ hρ _ => r_move (hρ _ _ rfl)) rfl rfl rfl (w_n rfl) ?_
  refine TL_q (.bool true) (fun _ _ hρ _ => r_as (r_geq (hρ _ _ rfl) (hρ _ _ rfl)) (bool_as (decide_eq_true f1))) rfl rfl rfl (w_n rfl) ?_
  refine TL_q (.bool true) (fun _ _ hρ _ => r_move (hρ _ _ rfl)) rfl rfl rfl (w_n rfl) ?_
  refine TL_q (.int .i64 ((v : Nat) : Int)) (fun _ _ hρ _ => r_move (hρ _ _ rfl)) rfl rfl rfl (want_y 12 rfl rfl rfl) ?_
  refine TL_q (.bool true) (fun _ _ hρ _ => r_as (r_geq (hρ _ _ rfl) (hρ _ _ rfl)) (bool_as (decide_eq_true f2))) rfl rfl rfl (want_y 12 rfl rfl rfl) ?_
  refine TL_q (.bool true) (fun _ _ hρ _ => r_pick_t (hρ _ _ rfl) (hρ _ _ rfl)) rfl rfl rfl (w_n rfl) ?_
  refine TL_q (.bool true) (fun _ _ hρ _ => r_move (hρ _ _ rfl)) rfl rfl rfl (w_n rfl) ?_
  refine TL_q (.int .i64 ((u : Nat) : Int)) (fun _ _ hρ _ => r_move (hρ _ _ rfl)) rfl rfl rfl (want_y 16 rfl rfl rfl) ?_
  refine TL_q (.pointer (some ⟨B1, 0, none⟩)) (fun _ _ hρ _ => r_fieldAddr fl82_0 sz3 (hρ _ _ rfl)) rfl rfl rfl (want_y 16 rfl rfl rfl) ?_
  refine TL_q (.int .i64 ((wd : Nat) : Int)) (fun _ _ hρ hm => r_load ag3 (hρ _ _ rfl) (hm.at 1 rfl) rfl) rfl rfl rfl (want_y 16 rfl rfl rfl) ?_
  refine TL_q (.int .i64 ((8 * wd : Nat) : Int)) (fun _ _ hρ _ => r_as (r_mul (hρ _ _ rfl) (hρ _ _ rfl)) (int_as ((wrap64 (by omega) (by omega)).trans (by omega)))) rfl rfl rfl (want_y 16 rfl rfl rfl) ?_
  refine TL_q (.bool true) (fun _ _ hρ _ => r_as (r_lss (hρ _ _ rfl) (hρ _ _ rfl)) (bool_as (decide_eq_true f3))) rfl rfl rfl (want_y 16 rfl rfl rfl) ?_
  refine TL_q (.bool true) (fun _ _ hρ _ => r_pick_t (hρ _ _ rfl) (hρ _ _ rfl)) rfl rfl rfl (w_n rfl) ?_
  refine TL_q (.bool true) (fun _ _ hρ _ => r_move (hρ _ _ rfl)) rfl rfl rfl (w_n rfl) ?_
  refine TL_q (.int .i64 ((v : Nat) : Int)) (fun _ _ hρ _ => r_move (hρ _ _ rfl)) rfl rfl rfl (want_y 23 rfl rfl rfl) ?_
  refine TL_q (.pointer (some ⟨B1, 1, none⟩)) (fun _ _ hρ _ => r_fieldAddr fl82_1 sz3 (hρ _ _ rfl)) rfl rfl rfl (want_y 23 rfl rfl rfl) ?_
  refine TL_q (.int .i64 ((hg : Nat) : Int)) (fun _ _ hρ hm => r_load ag3 (hρ _ _ rfl) (hm.at 1 rfl) rfl) rfl rfl rfl (want_y 23 rfl rfl rfl) ?_
  refine TL_q (.int .i64 ((8 * hg : Nat) : Int)) (fun _ _ hρ _ => r_as (r_mul (hρ _ _ rfl) (hρ _ _ rfl)) (int_as ((wrap64 (by omega) (by omega)).trans (by omega)))) rfl rfl rfl (want_y 23 rfl rfl rfl) ?_
  refine TL_q (.bool true) (fun _ _ hρ _ => r_as (r_lss (hρ _ _ rfl) (hρ _ _ rfl)) (bool_as (decide_eq_true f4))) rfl rfl rfl (want_y 23 rfl rfl rfl) ?_
  refine TL_q (.bool true) (fun _ _ hρ _ => r_pick_t (hρ _ _ rfl) (hρ _ _ rfl)) rfl rfl rfl (w_n rfl) ?_
  refine TL_q (.bool true) (fun _ _ hρ _ => r_assign (hρ _ _ rfl)) rfl rfl rfl (w_n rfl) ?_
  refine TL_seq ?_
  refine T_seq ?_
  refine T_seq (T_region ?_)
  refine TL_q (.bool true) (fun _ _ hρ _ => r_move (hρ _ _ rfl)) rfl rfl rfl (w_n rfl) ?_
  refine TL_q (.bool false) (fun _ _ hρ _ => r_not (b := true) (hρ _ _ rfl)) rfl rfl rfl (w_n rfl) ?_
  refine TL_seq ?_
  refine T_cond_f rfl ?_
  refine T_skip' ?_
  refine p_seq ?_
  refine T_seq (T_region ?_)
  refine TL_q (.int .i64 ((v : Nat) : Int)) (fun _ _ hρ _ => r_move (hρ _ _ rfl)) rfl rfl rfl (w_n rfl) ?_
  refine TL_q (.int .i64 ((v / 8 : Nat) : Int)) (fun _ _ hρ _ => r_as (r_quo (hρ _ _ rfl) (hρ _ _ rfl) (by omega)) (int_as ((quo_i64 (by omega) (by omega) (by omega)).trans (by omega)))) rfl rfl rfl (w_n rfl) ?_
  refine TL_q (.pointer (some ⟨B1, 0, none⟩)) (fun _ _ hρ _ => r_fieldAddr fl82_0 sz3 (hρ _ _ rfl)) rfl rfl rfl (w_n rfl) ?_
  refine TL_q (.int .i64 ((wd : Nat) : Int)) (fun _ _ hρ hm => r_load ag3 (hρ _ _ rfl) (hm.at 1 rfl) rfl) rfl rfl rfl (w_n rfl) ?_
  refine TL_q (.int .i64 (((v / 8) * wd : Nat) : Int)) (fun _ _ hρ _ => r_as (r_mul (hρ _ _ rfl) (hρ _ _ rfl)) (int_as ((wrap64 (by omega) (by omega)).trans (by omega)))) rfl rfl rfl (w_n rfl) ?_
  refine TL_q (.int .i64 ((u : Nat) : Int)) (fun _ _ hρ _ => r_move (hρ _ _ rfl)) rfl rfl rfl (w_n rfl) ?_
  refine TL_q (.int .i64 ((u / 8 : Nat) : Int)) (fun _ _ hρ _ => r_as (r_quo (hρ _ _ rfl) (hρ _ _ rfl) (by omega)) (int_as ((quo_i64 (by omega) (by omega) (by omega)).trans (by omega)))) rfl rfl rfl (w_n rfl) ?_
  refine TL_q (.int .i64 ((((v / 8) * wd) + (u / 8) : Nat) : Int)) (fun _ _ hρ _ => r_as (r_add (hρ _ _ rfl) (hρ _ _ rfl)) (int_as ((wrap64 (by omega) (by omega)).trans (by omega)))) rfl rfl rfl (w_n rfl) ?_
  refine TL_q (.int .i64 ((u : Nat) : Int)) (fun _ _ hρ _ => r_move (hρ _ _ rfl)) rfl rfl rfl (w_n rfl) ?_
  refine TL_q (.int .i64 ((u % 8 : Nat) : Int)) (fun _ _ hρ _ => r_as (r_rem (hρ _ _ rfl) (hρ _ _ rfl) (by omega)) (int_as ((Int.tmod_eq_emod_of_nonneg (by omega)).trans (by omega)))) rfl rfl rfl (w_n rfl) ?_
  refine TL_q (.int .i64 ((v : Nat) : Int)) (fun _ _ hρ _ => r_move (hρ _ _ rfl)) rfl rfl rfl (w_n rfl) ?_
  refine TL_q (.int .i64 ((v % 8 : Nat) : Int)) (fun _ _ hρ _ => r_as (r_rem (hρ _ _ rfl) (hρ _ _ rfl) (by omega)) (int_as ((Int.tmod_eq_emod_of_nonneg (by omega)).trans (by omega)))) rfl rfl rfl (w_n rfl) ?_
  refine TL_q (.agg #[.int .i64 ((u % 8 : Nat) : Int), .int .i64 ((v % 8 : Nat) : Int)]) (fun _ _ hρ _ => r_build (vs := [(0, .int .i64 ((u % 8 : Nat) : Int)), (1, .int .i64 ((v % 8 : Nat) : Int))]) (by kernel_rfl) (cons2 (pair2 (hρ _ _ rfl)) (cons2 (pair2 (hρ _ _ rfl)) rfl))) rfl rfl rfl (w_n rfl) ?_
  refine TL_q (.int .i64 ((((v / 8) * wd) + (u / 8) : Nat) : Int)) (fun _ _ hρ _ => r_assign (hρ _ _ rfl)) rfl rfl rfl (w_n rfl) ?_
  refine TL_store 2 (.cells #[.int .i64 ((u % 8 : Nat) : Int), .int .i64 ((v % 8 : Nat) : Int)] 119) rfl (fun _ _ hρ hm => r_store sz119 (hρ _ _ rfl) (hρ _ _ rfl) (hm.at 2 rfl) rfl rfl rfl rfl) rfl rfl (w_n rfl) ?_
  refine TL_q (.bool true) (fun _ _ hρ _ => r_assign (hρ _ _ rfl)) rfl rfl rfl (w_n rfl) ?_
  refine TL_seq ?_
  refine T_sub [(7, .pointer (some ⟨B2, 0, none⟩)), (6, .int .i64 ((((v / 8) * wd) + (u / 8) : Nat) : Int)), (8, .bool true)] [(1, .blk B1 (.cells #[.int .i64 ((wd : Nat) : Int), .int .i64 ((hg : Nat) : Int)] 82)), (2, .blk B2 (.cells #[.int .i64 ((u % 8 : Nat) : Int), .int .i64 ((v % 8 : Nat) : Int)] 119))] (sub_cons rfl (sub_cons rfl (sub_cons rfl sub_nil))) (sub_cons rfl (sub_cons rfl sub_nil)) ?_
  refine T_ret' ?_
  refine ret_of rfl (.tuple #[.int .i64 ((((v / 8) * wd) + (u / 8) : Nat) : Int), .agg #[.int .i64 ((u % 8 : Nat) : Int), .int .i64 ((v % 8 : Nat) : Int)], .bool true]) (fun tmps w hk hm => res3 rfl (res_tmp (hk 6 _ rfl)) (res_cell (hk 7 _ rfl) (run_loadVar_agg ag119 sz119 (hm.at 2 rfl) (Nat.le_of_ble_eq_true rfl) rfl)) (res_tmp (hk 8 _ rfl))) (fun w hm => ?_)
  exact ⟨rfl, hm.ext⟩

theorem place_out (wd hg : Nat) (x y : Int) (w : World) (hwd : 1 ≤ wd ∧ wd ≤ 4) (hhg : 1 ≤ hg ∧ hg ≤ 4) (hon : ¬ onC wd hg x y = true) : Calls Try.prog 75 #[.agg #[.int .i64 (wd : Int), .int .i64 (hg : Int)], .int .i64 x, .int .i64 y] w fun e w' => e = .returned (.tuple #[.int .i64 0, .agg #[.int .i64 0, .int .i64 0], .bool false]) ∧ Below w.heap.size w w' := by
  have hn : ¬ (0 ≤ x ∧ 0 ≤ y ∧ x < 8 * wd ∧ y < 8 * hg) := fun e => hon (decide_eq_true e)
  refine calls_of_T (l := [.agg #[.int .i64 ((wd : Nat) : Int), .int .i64 ((hg : Nat) : Int)], .int .i64 x, .int .i64 y]) 46 Try.func75 rfl rfl rfl ?_
  show T _ _ _ [(0, .agg #[.int .i64 ((wd : Nat) : Int), .int .i64 ((hg : Nat) : Int)]), (1, .int .i64 x), (2, .int .i64 y)] []
  refine T_seq (T_region ?_)
  refine TL_new 1 (.cells #[.int .i64 ((wd : Nat) : Int), .int .i64 ((hg : Nat) : Int)] 82) (fun B => .pointer (some ⟨B, 0, none⟩)) (fun _ _ hρ _ => r_box (hρ _ _ rfl) rfl) rfl rfl rfl (w_n rfl) ?_
  intro B1
  refine TL_q (.int .i64 0) (fun _ _ hρ _ => r_assign (hρ _ _ rfl)) rfl rfl rfl (w_n rfl) ?_
  refine TL_new 2 (.cells #[.int .i64 0, .int .i64 0] 119) (fun B => .pointer (some ⟨B, 0, none⟩)) (fun _ _ _ _ => r_alloc (v := .agg #[.int .i64 0, .int .i64 0]) (by kernel_rfl) rfl) rfl rfl rfl (w_n rfl) ?_
  intro B2
  refine TL_q (.bool false) (fun _ _ hρ _ => r_assign (hρ _ _ rfl)) rfl rfl rfl (w_n rfl) ?_
  refine TL_seq ?_
  by_cases c1 : (0 : Int) ≤ x
  · skip
    by_cases c2 : (0 : Int) ≤ y
    · skip
      by_cases c3 : x < ((8 * wd : Nat) : Int)
      · skip
        have c4 : ¬ y < ((8 * hg : Nat) : Int) := by omega
        refine T_seq (T_region ?_)
        refine TL_q (.int .i64 x) (fun _ _ hρ _ => r_move (hρ _ _ rfl)) rfl rfl rfl (w_n rfl) ?_
        refine TL_q (.bool true) (fun _ _ hρ _ => r_as (r_geq (hρ _ _ rfl) (hρ _ _ rfl)) (bool_as (decide_eq_true c1))) rfl rfl rfl (w_n rfl) ?_
        refine TL_q (.bool true) (fun _ _ hρ _ => r_move (hρ _ _ rfl)) rfl rfl rfl (w_n rfl) ?_
        refine TL_q (.int .i64 y) (fun _ _ hρ _ => r_move (hρ _ _ rfl)) rfl rfl rfl (want_y 12 rfl rfl rfl) ?_
        refine TL_q (.bool true) (fun _ _ hρ _ => r_as (r_geq (hρ _ _ rfl) (hρ _ _ rfl)) (bool_as (decide_eq_true c2))) rfl rfl rfl (want_y 12 rfl rfl rfl) ?_
        refine TL_q (.bool true) (fun _ _ hρ _ => r_pick_t (hρ _ _ rfl) (hρ _ _ rfl)) rfl rfl rfl (w_n rfl) ?_
        refine TL_q (.bool true) (fun _ _ hρ _ => r_move (hρ _ _ rfl)) rfl rfl rfl (w_n rfl) ?_
        refine TL_q (.int .i64 x) (fun _ _ hρ _ => r_move (hρ _ _ rfl)) rfl rfl rfl (want_y 16 rfl rfl rfl) ?_
        refine TL_q (.pointer (some ⟨B1, 0, none⟩)) (fun _ _ hρ _ => r_fieldAddr fl82_0 sz3 (hρ _ _ rfl)) rfl rfl rfl (want_y 16 rfl rfl rfl) ?_
        refine TL_q (.int .i64 ((wd : Nat) : Int)) (fun _ _ hρ hm => r_load ag3 (hρ _ _ rfl) (hm.at 1 rfl) rfl) rfl rfl rfl (want_y 16 rfl rfl rfl) ?_
        refine TL_q (.int .i64 ((8 * wd : Nat) : Int)) (fun _ _ hρ _ => r_as (r_mul (hρ _ _ rfl) (hρ _ _ rfl)) (int_as ((wrap64 (by omega) (by omega)).trans (by omega)))) rfl rfl rfl (want_y 16 rfl rfl rfl) ?_
        refine TL_q (.bool true) (fun _ _ hρ _ => r_as (r_lss (hρ _ _ rfl) (hρ _ _ rfl)) (bool_as (decide_eq_true c3))) rfl rfl rfl (want_y 16 rfl rfl rfl) ?_
        refine TL_q (.bool true) (fun _ _ hρ _ => r_pick_t (hρ _ _ rfl) (hρ _ _ rfl)) rfl rfl rfl (w_n rfl) ?_
        refine TL_q (.bool true) (fun _ _ hρ _ => r_move (hρ _ _ rfl)) rfl rfl rfl (w_n rfl) ?_
        refine TL_q (.int .i64 y) (fun _ _ hρ _ => r_move (hρ _ _ rfl)) rfl rfl rfl (want_y 23 rfl rfl rfl) ?_
        refine TL_q (.pointer (some ⟨B1, 1, none⟩)) (fun _ _ hρ _ => r_fieldAddr fl82_1 sz3 (hρ _ _ rfl)) rfl rfl rfl (want_y 23 rfl rfl rfl) ?_
        refine TL_q (.int .i64 ((hg : Nat) : Int)) (fun _ _ hρ hm => r_load ag3 (hρ _ _ rfl) (hm.at 1 rfl) rfl) rfl rfl rfl (want_y 23 rfl rfl rfl) ?_
        refine TL_q (.int .i64 ((8 * hg : Nat) : Int)) (fun _ _ hρ _ => r_as (r_mul (hρ _ _ rfl) (hρ _ _ rfl)) (int_as ((wrap64 (by omega) (by omega)).trans (by omega)))) rfl rfl rfl (want_y 23 rfl rfl rfl) ?_
        refine TL_q (.bool false) (fun _ _ hρ _ => r_as (r_lss (hρ _ _ rfl) (hρ _ _ rfl)) (bool_as (decide_eq_false c4))) rfl rfl rfl (want_y 23 rfl rfl rfl) ?_
        refine TL_q (.bool false) (fun _ _ hρ _ => r_pick_t (hρ _ _ rfl) (hρ _ _ rfl)) rfl rfl rfl (w_n rfl) ?_
        refine TL_q (.bool false) (fun _ _ hρ _ => r_assign (hρ _ _ rfl)) rfl rfl rfl (w_n rfl) ?_
        refine TL_seq ?_
        refine T_seq ?_
        refine T_seq (T_region ?_)
        refine TL_q (.bool false) (fun _ _ hρ _ => r_move (hρ _ _ rfl)) rfl rfl rfl (w_n rfl) ?_
        refine TL_q (.bool true) (fun _ _ hρ _ => r_not (b := false) (hρ _ _ rfl)) rfl rfl rfl (w_n rfl) ?_
        refine TL_seq ?_
        refine T_cond_t rfl ?_
        refine T_seq (T_region ?_)
        refine TL_q (.agg #[.int .i64 0, .int .i64 0]) (fun _ _ _ _ => r_build (vs := []) (by kernel_rfl) rfl) rfl rfl rfl (w_n rfl) ?_
        refine TL_q (.int .i64 0) (fun _ _ hρ _ => r_assign (hρ _ _ rfl)) rfl rfl rfl (w_n rfl) ?_
        refine TL_store 2 (.cells #[.int .i64 0, .int .i64 0] 119) rfl (fun _ _ hρ hm => r_store sz119 (hρ _ _ rfl) (hρ _ _ rfl) (hm.at 2 rfl) rfl rfl rfl rfl) rfl rfl (w_n rfl) ?_
        refine TL_q (.bool false) (fun _ _ hρ _ => r_assign (hρ _ _ rfl)) rfl rfl rfl (w_n rfl) ?_
        refine TL_seq ?_
        refine T_sub [(1, .int .i64 x), (2, .int .i64 y), (3, .pointer (some ⟨B1, 0, none⟩)), (7, .pointer (some ⟨B2, 0, none⟩)), (6, .int .i64 0), (8, .bool false)] [(1, .blk B1 (.cells #[.int .i64 ((wd : Nat) : Int), .int .i64 ((hg : Nat) : Int)] 82)), (2, .blk B2 (.cells #[.int .i64 0, .int .i64 0] 119))] (sub_cons rfl (sub_cons rfl (sub_cons rfl (sub_cons rfl (sub_cons rfl (sub_cons rfl sub_nil)))))) (sub_cons rfl (sub_cons rfl sub_nil)) ?_
        refine T_ret' ?_
        refine p_then_r ?_
        refine ret_of rfl (.tuple #[.int .i64 0, .agg #[.int .i64 0, .int .i64 0], .bool false]) (fun tmps w hk hm => res3 rfl (res_tmp (hk 6 _ rfl)) (res_cell (hk 7 _ rfl) (run_loadVar_agg ag119 sz119 (hm.at 2 rfl) (Nat.le_of_ble_eq_true rfl) rfl)) (res_tmp (hk 8 _ rfl))) (fun w hm => ?_)
        exact ⟨rfl, hm.ext⟩
      · skip
        refine T_seq (T_region ?_)
        refine TL_q (.int .i64 x) (fun _ _ hρ _ => r_move (hρ _ _ rfl)) rfl rfl rfl (w_n rfl) ?_
        refine TL_q (.bool true) (fun _ _ hρ _ => r_as (r_geq (hρ _ _ rfl) (hρ _ _ rfl)) (bool_as (decide_eq_true c1))) rfl rfl rfl (w_n rfl) ?_
        refine TL_q (.bool true) (fun _ _ hρ _ => r_move (hρ _ _ rfl)) rfl rfl rfl (w_n rfl) ?_
        refine TL_q (.int .i64 y) (fun _ _ hρ _ => r_move (hρ _ _ rfl)) rfl rfl rfl (want_y 12 rfl rfl rfl) ?_
        refine TL_q (.bool true) (fun _ _ hρ _ => r_as (r_geq (hρ _ _ rfl) (hρ _ _ rfl)) (bool_as (decide_eq_true c2))) rfl rfl rfl (want_y 12 rfl rfl rfl) ?_
        refine TL_q (.bool true) (fun _ _ hρ _ => r_pick_t (hρ _ _ rfl) (hρ _ _ rfl)) rfl rfl rfl (w_n rfl) ?_
        refine TL_q (.bool true) (fun _ _ hρ _ => r_move (hρ _ _ rfl)) rfl rfl rfl (w_n rfl) ?_
        refine TL_q (.int .i64 x) (fun _ _ hρ _ => r_move (hρ _ _ rfl)) rfl rfl rfl (want_y 16 rfl rfl rfl) ?_
        refine TL_q (.pointer (some ⟨B1, 0, none⟩)) (fun _ _ hρ _ => r_fieldAddr fl82_0 sz3 (hρ _ _ rfl)) rfl rfl rfl (want_y 16 rfl rfl rfl) ?_
        refine TL_q (.int .i64 ((wd : Nat) : Int)) (fun _ _ hρ hm => r_load ag3 (hρ _ _ rfl) (hm.at 1 rfl) rfl) rfl rfl rfl (want_y 16 rfl rfl rfl) ?_
        refine TL_q (.int .i64 ((8 * wd : Nat) : Int)) (fun _ _ hρ _ => r_as (r_mul (hρ _ _ rfl) (hρ _ _ rfl)) (int_as ((wrap64 (by omega) (by omega)).trans (by omega)))) rfl rfl rfl (want_y 16 rfl rfl rfl) ?_
        refine TL_q (.bool false) (fun _ _ hρ _ => r_as (r_lss (hρ _ _ rfl) (hρ _ _ rfl)) (bool_as (decide_eq_false c3))) rfl rfl rfl (want_y 16 rfl rfl rfl) ?_
        refine TL_q (.bool false) (fun _ _ hρ _ => r_pick_t (hρ _ _ rfl) (hρ _ _ rfl)) rfl rfl rfl (w_n rfl) ?_
        refine TL_q (.bool false) (fun _ _ hρ _ => r_move (hρ _ _ rfl)) rfl rfl rfl (w_n rfl) ?_
        refine TL_no rfl rfl (want_n 23 rfl rfl rfl) ?_
        refine TL_no rfl rfl (want_n 23 rfl rfl rfl) ?_
        refine TL_no rfl rfl (want_n 23 rfl rfl rfl) ?_
        refine TL_no rfl rfl (want_n 23 rfl rfl rfl) ?_
        refine TL_no rfl rfl (want_n 23 rfl rfl rfl) ?_
        refine TL_q (.bool false) (fun _ _ hρ _ => r_pick_f (hρ _ _ rfl) (hρ _ _ rfl)) rfl rfl rfl (w_n rfl) ?_
        refine TL_q (.bool false) (fun _ _ hρ _ => r_assign (hρ _ _ rfl)) rfl rfl rfl (w_n rfl) ?_
        refine TL_seq ?_
        refine T_seq ?_
        refine T_seq (T_region ?_)
        refine TL_q (.bool false) (fun _ _ hρ _ => r_move (hρ _ _ rfl)) rfl rfl rfl (w_n rfl) ?_
        refine TL_q (.bool true) (fun _ _ hρ _ => r_not (b := false) (hρ _ _ rfl)) rfl rfl rfl (w_n rfl) ?_
        refine TL_seq ?_
        refine T_cond_t rfl ?_
        refine T_seq (T_region ?_)
        refine TL_q (.agg #[.int .i64 0, .int .i64 0]) (fun _ _ _ _ => r_build (vs := []) (by kernel_rfl) rfl) rfl rfl rfl (w_n rfl) ?_
        refine TL_q (.int .i64 0) (fun _ _ hρ _ => r_assign (hρ _ _ rfl)) rfl rfl rfl (w_n rfl) ?_
        refine TL_store 2 (.cells #[.int .i64 0, .int .i64 0] 119) rfl (fun _ _ hρ hm => r_store sz119 (hρ _ _ rfl) (hρ _ _ rfl) (hm.at 2 rfl) rfl rfl rfl rfl) rfl rfl (w_n rfl) ?_
        refine TL_q (.bool false) (fun _ _ hρ _ => r_assign (hρ _ _ rfl)) rfl rfl rfl (w_n rfl) ?_
        refine TL_seq ?_
        refine T_sub [(1, .int .i64 x), (2, .int .i64 y), (3, .pointer (some ⟨B1, 0, none⟩)), (7, .pointer (some ⟨B2, 0, none⟩)), (6, .int .i64 0), (8, .bool false)] [(1, .blk B1 (.cells #[.int .i64 ((wd : Nat) : Int), .int .i64 ((hg : Nat) : Int)] 82)), (2, .blk B2 (.cells #[.int .i64 0, .int .i64 0] 119))] (sub_cons rfl (sub_cons rfl (sub_cons rfl (sub_cons rfl (sub_cons rfl (sub_cons rfl sub_nil)))))) (sub_cons rfl (sub_cons rfl sub_nil)) ?_
        refine T_ret' ?_
        refine p_then_r ?_
        refine ret_of rfl (.tuple #[.int .i64 0, .agg #[.int .i64 0, .int .i64 0], .bool false]) (fun tmps w hk hm => res3 rfl (res_tmp (hk 6 _ rfl)) (res_cell (hk 7 _ rfl) (run_loadVar_agg ag119 sz119 (hm.at 2 rfl) (Nat.le_of_ble_eq_true rfl) rfl)) (res_tmp (hk 8 _ rfl))) (fun w hm => ?_)
        exact ⟨rfl, hm.ext⟩
    · skip
      refine T_seq (T_region ?_)
      refine TL_q (.int .i64 x) (fun _ _ hρ _ => r_move (hρ _ _ rfl)) rfl rfl rfl (w_n rfl) ?_
      refine TL_q (.bool true) (fun _ _ hρ _ => r_as (r_geq (hρ _ _ rfl) (hρ _ _ rfl)) (bool_as (decide_eq_true c1))) rfl rfl rfl (w_n rfl) ?_
      refine TL_q (.bool true) (fun _ _ hρ _ => r_move (hρ _ _ rfl)) rfl rfl rfl (w_n rfl) ?_
      refine TL_q (.int .i64 y) (fun _ _ hρ _ => r_move (hρ _ _ rfl)) rfl rfl rfl (want_y 12 rfl rfl rfl) ?_
      refine TL_q (.bool false) (fun _ _ hρ _ => r_as (r_geq (hρ _ _ rfl) (hρ _ _ rfl)) (bool_as (decide_eq_false c2))) rfl rfl rfl (want_y 12 rfl rfl rfl) ?_
      refine TL_q (.bool false) (fun _ _ hρ _ => r_pick_t (hρ _ _ rfl) (hρ _ _ rfl)) rfl rfl rfl (w_n rfl) ?_
      refine TL_q (.bool false) (fun _ _ hρ _ => r_move (hρ _ _ rfl)) rfl rfl rfl (w_n rfl) ?_
      refine TL_no rfl rfl (want_n 16 rfl rfl rfl) ?_
      refine TL_no rfl rfl (want_n 16 rfl rfl rfl) ?_
      refine TL_no rfl rfl (want_n 16 rfl rfl rfl) ?_
      refine TL_no rfl rfl (want_n 16 rfl rfl rfl) ?_
      refine TL_no rfl rfl (want_n 16 rfl rfl rfl) ?_
      refine TL_q (.bool false) (fun _ _ hρ _ => r_pick_f (hρ _ _ rfl) (hρ _ _ rfl)) rfl rfl rfl (w_n rfl) ?_
      refine TL_q (.bool false) (fun _ _ hρ _ => r_move (hρ _ _ rfl)) rfl rfl rfl (w_n rfl) ?_
      refine TL_no rfl rfl (want_n 23 rfl rfl rfl) ?_
      refine TL_no rfl rfl (want_n 23 rfl rfl rfl) ?_
      refine TL_no rfl rfl (want_n 23 rfl rfl rfl) ?_
      refine TL_no rfl rfl (want_n 23 rfl rfl rfl) ?_
      refine TL_no rfl rfl (want_n 23 rfl rfl rfl) ?_
      refine TL_q (.bool false) (fun _ _ hρ _ => r_pick_f (hρ _ _ rfl) (hρ _ _ rfl)) rfl rfl rfl (w_n rfl) ?_
      refine TL_q (.bool false) (fun _ _ hρ _ => r_assign (hρ _ _ rfl)) rfl rfl rfl (w_n rfl) ?_
      refine TL_seq ?_
      refine T_seq ?_
      refine T_seq (T_region ?_)
      refine TL_q (.bool false) (fun _ _ hρ _ => r_move (hρ _ _ rfl)) rfl rfl rfl (w_n rfl) ?_
      refine TL_q (.bool true) (fun _ _ hρ _ => r_not (b := false) (hρ _ _ rfl)) rfl rfl rfl (w_n rfl) ?_
      refine TL_seq ?_
      refine T_cond_t rfl ?_
      refine T_seq (T_region ?_)
      refine TL_q (.agg #[.int .i64 0, .int .i64 0]) (fun _ _ _ _ => r_build (vs := []) (by kernel_rfl) rfl) rfl rfl rfl (w_n rfl) ?_
      refine TL_q (.int .i64 0) (fun _ _ hρ _ => r_assign (hρ _ _ rfl)) rfl rfl rfl (w_n rfl) ?_
      refine TL_store 2 (.cells #[.int .i64 0, .int .i64 0] 119) rfl (fun _ _ hρ hm => r_store sz119 (hρ _ _ rfl) (hρ _ _ rfl) (hm.at 2 rfl) rfl rfl rfl rfl) rfl rfl (w_n rfl) ?_
      refine TL_q (.bool false) (fun _ _ hρ _ => r_assign (hρ _ _ rfl)) rfl rfl rfl (w_n rfl) ?_
      refine TL_seq ?_
      refine T_sub [(1, .int .i64 x), (2, .int .i64 y), (3, .pointer (some ⟨B1, 0, none⟩)), (7, .pointer (some ⟨B2, 0, none⟩)), (6, .int .i64 0), (8, .bool false)] [(1, .blk B1 (.cells #[.int .i64 ((wd : Nat) : Int), .int .i64 ((hg : Nat) : Int)] 82)), (2, .blk B2 (.cells #[.int .i64 0, .int .i64 0] 119))] (sub_cons rfl (sub_cons rfl (sub_cons rfl (sub_cons rfl (sub_cons rfl (sub_cons rfl sub_nil)))))) (sub_cons rfl (sub_cons rfl sub_nil)) ?_
      refine T_ret' ?_
      refine p_then_r ?_
      refine ret_of rfl (.tuple #[.int .i64 0, .agg #[.int .i64 0, .int .i64 0], .bool false]) (fun tmps w hk hm => res3 rfl (res_tmp (hk 6 _ rfl)) (res_cell (hk 7 _ rfl) (run_loadVar_agg ag119 sz119 (hm.at 2 rfl) (Nat.le_of_ble_eq_true rfl) rfl)) (res_tmp (hk 8 _ rfl))) (fun w hm => ?_)
      exact ⟨rfl, hm.ext⟩
  · skip
    refine T_seq (T_region ?_)
    refine TL_q (.int .i64 x) (fun _ _ hρ _ => r_move (hρ _ _ rfl)) rfl rfl rfl (w_n rfl) ?_
    refine TL_q (.bool false) (fun _ _ hρ _ => r_as (r_geq (hρ _ _ rfl) (hρ _ _ rfl)) (bool_as (decide_eq_false c1))) rfl rfl rfl (w_n rfl) ?_
    refine TL_q (.bool false) (fun _ _ hρ _ => r_move (hρ _ _ rfl)) rfl rfl rfl (w_n rfl) ?_
    refine TL_no rfl rfl (want_n 12 rfl rfl rfl) ?_
    refine TL_no rfl rfl (want_n 12 rfl rfl rfl) ?_
    refine TL_q (.bool false) (fun _ _ hρ _ => r_pick_f (hρ _ _ rfl) (hρ _ _ rfl)) rfl rfl rfl (w_n rfl) ?_
    refine TL_q (.bool false) (fun _ _ hρ _ => r_move (hρ _ _ rfl)) rfl rfl rfl (w_n rfl) ?_
    refine TL_no rfl rfl (want_n 16 rfl rfl rfl) ?_
    refine TL_no rfl rfl (want_n 16 rfl rfl rfl) ?_
    refine TL_no rfl rfl (want_n 16 rfl rfl rfl) ?_
    refine TL_no rfl rfl (want_n 16 rfl rfl rfl) ?_
    refine TL_no rfl rfl (want_n 16 rfl rfl rfl) ?_
    refine TL_q (.bool false) (fun _ _ hρ _ => r_pick_f (hρ _ _ rfl) (hρ _ _ rfl)) rfl rfl rfl (w_n rfl) ?_
    refine TL_q (.bool false) (fun _ _ hρ _ => r_move (hρ _ _ rfl)) rfl rfl rfl (w_n rfl) ?_
    refine TL_no rfl rfl (want_n 23 rfl rfl rfl) ?_
    refine TL_no rfl rfl (want_n 23 rfl rfl rfl) ?_
    refine TL_no rfl rfl (want_n 23 rfl rfl rfl) ?_
    refine TL_no rfl rfl (want_n 23 rfl rfl rfl) ?_
    refine TL_no rfl rfl (want_n 23 rfl rfl rfl) ?_
    refine TL_q (.bool false) (fun _ _ hρ _ => r_pick_f (hρ _ _ rfl) (hρ _ _ rfl)) rfl rfl rfl (w_n rfl) ?_
    refine TL_q (.bool false) (fun _ _ hρ _ => r_assign (hρ _ _ rfl)) rfl rfl rfl (w_n rfl) ?_
    refine TL_seq ?_
    refine T_seq ?_
    refine T_seq (T_region ?_)
    refine TL_q (.bool false) (fun _ _ hρ _ => r_move (hρ _ _ rfl)) rfl rfl rfl (w_n rfl) ?_
    refine TL_q (.bool true) (fun _ _ hρ _ => r_not (b := false) (hρ _ _ rfl)) rfl rfl rfl (w_n rfl) ?_
    refine TL_seq ?_
    refine T_cond_t rfl ?_
    refine T_seq (T_region ?_)
    refine TL_q (.agg #[.int .i64 0, .int .i64 0]) (fun _ _ _ _ => r_build (vs := []) (by kernel_rfl) rfl) rfl rfl rfl (w_n rfl) ?_
    refine TL_q (.int .i64 0) (fun _ _ hρ _ => r_assign (hρ _ _ rfl)) rfl rfl rfl (w_n rfl) ?_
    refine TL_store 2 (.cells #[.int .i64 0, .int .i64 0] 119) rfl (fun _ _ hρ hm => r_store sz119 (hρ _ _ rfl) (hρ _ _ rfl) (hm.at 2 rfl) rfl rfl rfl rfl) rfl rfl (w_n rfl) ?_
    refine TL_q (.bool false) (fun _ _ hρ _ => r_assign (hρ _ _ rfl)) rfl rfl rfl (w_n rfl) ?_
    refine TL_seq ?_
    refine T_sub [(1, .int .i64 x), (2, .int .i64 y), (3, .pointer (some ⟨B1, 0, none⟩)), (7, .pointer (some ⟨B2, 0, none⟩)), (6, .int .i64 0), (8, .bool false)] [(1, .blk B1 (.cells #[.int .i64 ((wd : Nat) : Int), .int .i64 ((hg : Nat) : Int)] 82)), (2, .blk B2 (.cells #[.int .i64 0, .int .i64 0] 119))] (sub_cons rfl (sub_cons rfl (sub_cons rfl (sub_cons rfl (sub_cons rfl (sub_cons rfl sub_nil)))))) (sub_cons rfl (sub_cons rfl sub_nil)) ?_
    refine T_ret' ?_
    refine p_then_r ?_
    refine ret_of rfl (.tuple #[.int .i64 0, .agg #[.int .i64 0, .int .i64 0], .bool false]) (fun tmps w hk hm => res3 rfl (res_tmp (hk 6 _ rfl)) (res_cell (hk 7 _ rfl) (run_loadVar_agg ag119 sz119 (hm.at 2 rfl) (Nat.le_of_ble_eq_true rfl) rfl)) (res_tmp (hk 8 _ rfl))) (fun w hm => ?_)
    exact ⟨rfl, hm.ext⟩





end Go.Proofs.Ytmihoejecpcmjaa
/- A range over a map told by the list of its entries. Over any program. -/
namespace Go.Proofs.Ytmihoejecpcmjaa
open Go Go.RowKit
section
variable {κ μ : Type} {fk : κ → Value} {fv : μ → Value}
/-- An iterator over a map of n entries: which of them have come. -/
def itO (b n : Nat) (seen : List Nat) : Obj := .mapIter (some b) n seen.toArray n
theorem ents_in {l : List (κ × μ)} {e : MapEntry} {n : Nat} (he : e ∈ ents fk fv l n) : ∃ i k v, l[i]? = some (k, v) ∧ e = { key := fk k, val := fv v, born := n + i } := by
  obtain ⟨i, hi⟩ := List.getElem?_of_mem he
  rw [ents_at] at hi
  obtain ⟨⟨k, v⟩, h1, h2⟩ := Option.map_eq_some_iff.1 hi
  exact ⟨i, k, v, h1, h2.symm⟩
variable {P : Program} {w : World} {ρ : Operand → Value} {d : Option Tmp} {ty : TypeId} {ps : String} {af : Array Edge} {g : Option (Nat × Bool)} {x : Operand}
theorem r_rangeMap {t kt e : TypeId} {b : Nat} {l : List (κ × μ)} (ht : mapOf P t = some (kt, e)) (hx : ρ x = .map (some b)) (hb : hp w b = some (mapO fk fv l)) :
    (execOp ρ (mk d (.range t x) ty ps af g)).run P w = .ok (.value (.pointer (some ⟨w.heap.size, 0, none⟩))) (w.alloc (itO b l.length [])) := by
  refine run_v ?_
  rw [hx]
  exact run_range_map w t kt e b _ _ (und_map ht) hb
theorem run_nextM {b r : Nat} {l : List (κ × μ)} {seen : List Nat} (hr : hp w r = some (itO b l.length seen)) (hb : hp w b = some (mapO fk fv l)) :
    ((∀ i, i < l.length → i ∈ seen) ∧ (Instr.next (.pointer (some ⟨r, 0, none⟩)) false ty).run P w = .ok (.tuple #[.bool false]) w) ∨
    ∃ i k v w', l[i]? = some (k, v) ∧ i ∉ seen ∧ (Instr.next (.pointer (some ⟨r, 0, none⟩)) false ty).run P w = .ok (.tuple #[.bool true, fk k, fv v]) w' ∧ Upd w r (itO b l.length (seen ++ [i])) w' := by
  rcases run_next_at (P := P) w ty r b l.length l.length seen.toArray (ents fk fv l 0).toArray l.length hr hb (fun e he => by
      obtain ⟨i, k, v, h1, rfl⟩ := ents_in (by simpa using he)
      have := (List.getElem?_eq_some_iff.1 h1).1
      show 0 + i < _
      omega) (Nat.le_refl _) with ⟨h0, hrun⟩ | ⟨e, he, w1, hal, hrun⟩
  · refine .inl ⟨fun i hi => ?_, hrun⟩
    refine Classical.byContradiction fun hn => ?_
    obtain ⟨⟨k, v⟩, hx⟩ : ∃ x, l[i]? = some x := ⟨_, List.getElem?_eq_getElem hi⟩
    have hm : ({ key := fk k, val := fv v, born := 0 + i } : MapEntry) ∈ ents fk fv l 0 := List.mem_of_getElem? (by rw [ents_at, hx]; rfl)
    have h2 : ({ key := fk k, val := fv v, born := 0 + i } : MapEntry) ∈ leftOf (ents fk fv l 0).toArray seen.toArray := by
      unfold leftOf
      rw [Array.mem_filter]
      refine ⟨by simpa using hm, ?_⟩
      simp only [Nat.zero_add, List.contains_toArray, Bool.not_eq_true', List.contains_eq_mem, decide_eq_false_iff_not]
      exact hn
    have : 0 < (leftOf (ents fk fv l 0).toArray seen.toArray).size := Array.size_pos_of_mem h2
    omega
  · obtain ⟨h1, h2⟩ := mem_left he
    obtain ⟨i, k, v, h3, rfl⟩ := ents_in (by simpa using h1)
    refine .inr ⟨i, k, v, _, h3, ?_, hrun, ?_⟩
    · intro hn
      simp [hn] at h2
    · have hr1 : w1.heap[r]? = some (itO b l.length seen) := by rcases hal with rfl | rfl <;> exact hr
      have e1 : ChangeMaps.setBlock w1 r (.mapIter (some b) l.length (seen.toArray.push (0 + i)) l.length) = w1.putObj r (itO b l.length (seen ++ [i])) := by
        unfold itO
        rw [Nat.zero_add, List.push_toArray]; rfl
      show Upd w r _ (ChangeMaps.setBlock w1 r (.mapIter (some b) l.length (seen.toArray.push (0 + i)) l.length))
      rw [e1]
      have hu := upd_put (o' := itO b l.length (seen ++ [i])) (show hp w1 r = some (itO b l.length seen) from hr1)
      rcases hal with rfl | rfl
      · exact hu
      · exact ⟨hu.os, hu.tape, hu.output, hu.size, hu.this, hu.other⟩
end
section
variable {C : Cx} {ops : Array Oper} {os : List Oper} {Q : Post} {K : List (Nat × Value)} {L : Heap} {κ μ : Type} {fk : κ → Value} {fv : μ → Value} {l : List (κ × μ)} {seen : List Nat} {b r : Nat} {x : Operand} {ty : TypeId} {ps : String} {af : Array Edge} {g : Option (Nat × Bool)}
/-- What comes next: nothing, for all have come; or one that has not come, whichever. -/
theorem TL_next {dd : Nat} (i m : Nat) (hi : lk L i = some (.blk r (itO b l.length seen))) (hb : lk L m = some (.blk b (mapO fk fv l))) (hx : ev K x = some (.pointer (some ⟨r, 0, none⟩))) (hN : Nat.blt dd C.N = true)
    (hw : Want ops K (mk (some dd) (.next x false) ty ps af g) true) (hDone : (∀ j, j < l.length → j ∈ seen) → TL C ops os Q ((dd, .tuple #[.bool false]) :: K) L)
    (hMore : ∀ j k v, l[j]? = some (k, v) → j ∉ seen → TL C ops os Q ((dd, .tuple #[.bool true, fk k, fv v]) :: K) ((i, .blk r (itO b l.length (seen ++ [j]))) :: L)) :
    TL C ops (mk (some dd) (.next x false) ty ps af g :: os) Q K L := by
  intro a w hf hm
  unfold wpListIn
  rw [hw.is hf, if_pos rfl]
  rcases run_nextM (P := C.P) (ty := ty) (hm.at i hi) (hm.at m hb) with ⟨h1, h2⟩ | ⟨j, k, v, w', h1, h2, h3, h4⟩
  · refine step_val (v := .tuple #[.bool false]) (w' := w) rfl (run_v ?_) (hDone h1 _ _ (hf.put _ hN) hm)
    rw [hf.rd _ _ hx]; exact h2
  · refine step_val (v := .tuple #[.bool true, fk k, fv v]) (w' := w') rfl (run_v ?_) (hMore j k v h1 h2 _ _ (hf.put _ hN) (hm.upd hi h4))
    rw [hf.rd _ _ hx]; exact h3
end
end Go.Proofs.Ytmihoejecpcmjaa
/- Operations told by what is known of memory before and behind. Over any program. -/
namespace Go.Proofs.Ytmihoejecpcmjaa
open Go Go.RowKit
section
variable {C : Cx} {ops : Array Oper} {os : List Oper} {Q : Post} {K : List (Nat × Value)} {L : Heap} {o : Oper}
theorem TL_op {ι : Type} {d : Nat} (v : ι → Value) (LN : ι → Heap) (hr : ∀ ρ w, Rd K ρ → MemOk C.w₀ L w → ∃ x w', (execOp ρ o).run C.P w = .ok (.value (v x)) w' ∧ MemOk C.w₀ (LN x) w') (hd : o.dst = some d) (hN : Nat.blt d C.N = true) (hn : isDefer o.op = false) (hw : Want ops K o true)
    (h : ∀ x, TL C ops os Q ((d, v x) :: K) (LN x)) : TL C ops (o :: os) Q K L := by
  intro a w hf hm
  unfold wpListIn
  rw [hw.is hf, if_pos rfl]
  obtain ⟨x, w', h1, h2⟩ := hr _ _ hf.rd hm
  refine step_val hn h1 ?_
  rw [hd]
  exact h x _ _ (hf.put _ hN) h2
theorem TL_op1 {d : Nat} (v : Value) (L' : Heap) (hr : ∀ ρ w, Rd K ρ → MemOk C.w₀ L w → ∃ w', (execOp ρ o).run C.P w = .ok (.value v) w' ∧ MemOk C.w₀ L' w') (hd : o.dst = some d) (hN : Nat.blt d C.N = true) (hn : isDefer o.op = false) (hw : Want ops K o true)
    (h : TL C ops os Q ((d, v) :: K) L') : TL C ops (o :: os) Q K L := TL_op (ι := Unit) (fun _ => v) (fun _ => L') (fun ρ w hρ hm => ⟨(), hr ρ w hρ hm⟩) hd hN hn hw (fun _ => h)
end
section
variable {C : Cx} {R : Rg} {Q : Post} {K0 V : List (Nat × Value)} {lo : Nat} {L : Heap}
theorem LOb_op {ι : Type} {c d : Nat} {o : Oper} (v : ι → Value) (LN : ι → Heap) (news : ι → List (Nat × Value)) (ho : R.ops[c]? = some o) (hw : WantV V o true) (hd : o.dst = some d) (hn : isDefer o.op = false)
    (hr : ∀ ρ w, Rd (kOf K0 V (R.S.getD c [])) ρ → MemOk C.w₀ L w → ∃ x w', (execOp ρ o).run C.P w = .ok (.value (v x)) w' ∧ MemOk C.w₀ (LN x) w') (hnew : ∀ x, newsOk R c (news x) = true)
    (h : ∀ x, G C R Q K0 (lo ||| 2 ^ c) (news x ++ (c, v x) :: V) (LN x)) : LOb C R Q K0 lo V L c := by
  refine ⟨o, ho, hw, fun a w next hrd hm _ hnext => ?_⟩
  obtain ⟨x, w', h1, h2⟩ := hr _ _ hrd hm
  refine step_val hn h1 ?_
  have hnw := hnew x
  simp only [newsOk, Bool.and_eq_true, Bool.not_eq_true'] at hnw
  exact hnext _ _ _ _ (.inl (lk_app _ _ _ hnw.2)) (extV _ _ _ hnw.1) h2 (h x)
theorem LOb_op1 {c d : Nat} {o : Oper} (v : Value) (L' : Heap) (news : List (Nat × Value)) (ho : R.ops[c]? = some o) (hw : WantV V o true) (hd : o.dst = some d) (hn : isDefer o.op = false)
    (hr : ∀ ρ w, Rd (kOf K0 V (R.S.getD c [])) ρ → MemOk C.w₀ L w → ∃ w', (execOp ρ o).run C.P w = .ok (.value v) w' ∧ MemOk C.w₀ L' w') (hnew : newsOk R c news = true)
    (h : G C R Q K0 (lo ||| 2 ^ c) (news ++ (c, v) :: V) L') : LOb C R Q K0 lo V L c :=
  LOb_op (ι := Unit) (fun _ => v) (fun _ => L') (fun _ => news) ho hw hd hn (fun ρ w hρ hm => ⟨(), hr ρ w hρ hm⟩) (fun _ => hnew) (fun _ => h)
theorem LOb_opS {c : Nat} {o : Oper} (L' : Heap) (news : List (Nat × Value)) (ho : R.ops[c]? = some o) (hw : WantV V o true) (hd : o.dst = none) (hn : isDefer o.op = false)
    (hr : ∀ ρ w, Rd (kOf K0 V (R.S.getD c [])) ρ → MemOk C.w₀ L w → ∃ w', (execOp ρ o).run C.P w = .ok .skip w' ∧ MemOk C.w₀ L' w') (hnew : newsOk R c news = true)
    (h : G C R Q K0 (lo ||| 2 ^ c) (news ++ (c, undef) :: V) L') : LOb C R Q K0 lo V L c := by
  refine ⟨o, ho, hw, fun a w next hrd hm _ hnext => ?_⟩
  obtain ⟨w', h1, h2⟩ := hr _ _ hrd hm
  refine step_skip hn h1 ?_
  simp only [newsOk, Bool.and_eq_true, Bool.not_eq_true'] at hnew
  exact hnext _ _ _ _ (.inr hd) (extV _ _ _ hnew.1) h2 h
end
section
variable {C : Cx} {Q : Post} {K : List (Nat × Value)} {L : Heap}
/-- Ways meet again at a code's end. -/
theorem T_joinE {ι : Type} (p : ι → Prop) (KJ : ι → List (Nat × Value)) (LJ : ι → Heap) {x : Code} (h : T C x (Exit.then (At C p KJ LJ) Q) K L) (hy : ∀ i, p i → POk C Q .normal (KJ i) (LJ i)) : T C x Q K L := by
  intro a w hf hm
  refine wpIn_mono (h a w hf hm) ?_
  intro e a' w' hq
  cases e with
  | normal => obtain ⟨i, hp, h1, h2⟩ := hq; exact hy i hp a' w' h1 h2
  | exit id => exact hq
  | goto l => exact hq
  | ret => exact hq
  | panic ch => exact hq
  | outgrown => exact hq
theorem p_mem {e : Exit} (L' : Heap) (hL : ∀ w, MemOk C.w₀ L w → MemOk C.w₀ L' w) (h : POk C Q e K L') : POk C Q e K L := fun a w hf hm => h a w hf (hL w hm)
end
theorem row_cap {w : World} {base n s cap : Nat} {e : TypeId} {a : Option Addr} {xs : List Value} (h : w.ownsRow base e s (.slice a n cap) n xs) : cap ≤ Go.maxLen := by
  rcases h.2 with ⟨h1, _⟩ | ⟨g, cap', cur, h1, _, _, _, h5, _⟩
  · cases h1; decide
  · cases h1; exact h5
/-! ### rows of elements of any size: made, copied into, stored into -/
section
variable {P : Program} {w₀ w : World} {L : Heap} {ρ : Operand → Value} {d : Option Tmp} {ty : TypeId} {ps : String} {af : Array Edge} {g : Option (Nat × Bool)}
theorem made_toList {z : Array Value} {s : Nat} (hz : z.size = s) (hs : 0 < s) : ∀ n, (madeCells z (n * s)).toList = (List.replicate n z.toList).flatten
  | 0 => by simp [madeCells]
  | n + 1 => by
    apply List.ext_getElem?
    intro i
    rw [List.replicate_succ, List.flatten_cons]
    by_cases h : i < s
    · rw [List.getElem?_append_left (by rw [Array.length_toList, hz]; exact h)]
      unfold madeCells
      have h2 : i < (n + 1) * s := by rw [Nat.add_mul, Nat.one_mul]; omega
      simp [h2, hz, Nat.mod_eq_of_lt h, h]
    · rw [List.getElem?_append_right (by rw [Array.length_toList, hz]; omega), Array.length_toList, hz, ← made_toList hz hs n]
      unfold madeCells
      by_cases h2 : i < (n + 1) * s
      · have h3 : i - s < n * s := by rw [Nat.add_mul, Nat.one_mul] at h2; omega
        have h4 : i % s = (i - s) % s := by rw [← Nat.mod_eq_sub_mod (by omega)]
        simp [h2, h3, hz, h4]
      · have h3 : ¬ i - s < n * s := by rw [Nat.add_mul, Nat.one_mul] at h2; omega
        simp [h2, h3]
theorem flat_repl {α : Type} {f : α → List Value} {u : α} {xs : List Value} (hf : f u = xs) (n : Nat) : (List.replicate n u).flatMap f = (List.replicate n xs).flatten := by
  rw [List.flatMap_def, List.map_replicate, hf]
theorem o_make {x y : Operand} {t e : TypeId} {n cap by' s : Nat} {z : Value} {α : Type} {f : α → List Value} {u : α} (i : Nat) (hfr : lk L i = none) (hx : ρ x = .int .i64 (n : Nat)) (hy : ρ y = .int .i64 (cap : Nat)) (ht : sliOf P t = some e) (hby : byOf P e = some by') (hs : szOf P e = some s) (hs0 : Nat.blt 0 s = true)
    (hz : zeroOf P e = some z) (hzc : z.cells.toList = f u) (hfl : ∀ x, (f x).length = s) (hnc : n ≤ cap) (h63 : cap ≤ 4611686018427387904) (hb : by' * cap ≤ 140737488355328) (hm : MemOk w₀ L w) :
    ∃ B w', (execOp ρ (mk d (.makeSlice t x y) ty ps af g)).run P w = .ok (.value (.slice (some ⟨B, 0, none⟩) n cap)) w' ∧ MemOk w₀ ((i, .row (.slice (some ⟨B, 0, none⟩) n cap) e s n ((List.replicate n u).flatMap f)) :: L) w' := by
  obtain ⟨ti, hi, hsz⟩ := Option.map_eq_some_iff.1 hs
  obtain ⟨ti', hi', hbz⟩ := Option.map_eq_some_iff.1 hby
  rw [hi] at hi'; cases hi'
  have hzz : ti.zero = some z := by simpa [zeroOf, hi] using hz
  have hs1 : 0 < s := by rw [Nat.blt_eq] at hs0; exact hs0
  have hb' : (ti.bytes : Int) * (cap : Int) ≤ 281474976710656 := by
    have h : ((ti.bytes * cap : Nat) : Int) ≤ 281474976710656 := by rw [hbz]; omega
    rwa [Int.natCast_mul] at h
  have hr := run_make (P := P) w t e ti z (und_sli ht) hi hzz .i64 .i64 n cap (by omega) (by omega) hb' (by omega)
  simp only [Int.toNat_natCast] at hr
  refine ⟨w.heap.size, _, run_v (by rw [hx, hy]; exact hr), ?_⟩
  have hzs : z.cells.size = s := by rw [← Array.length_toList, hzc, hfl]
  refine hm.grow (n := 0) (xs := []) (.inr ⟨hfr, (rfl : (Value.slice none 0 0).ownBlock = none)⟩) (World.grownBy_alloc w _ none) ⟨?_, .inr ⟨w.heap.size, cap, _, rfl, hm.ext.size, Go.heap_alloc_new w _, hnc, by unfold Go.maxLen; omega, ?_, ?_⟩⟩ (.inr rfl)
  · rw [flat_len hfl, List.length_replicate]
  · rw [hsz]; simp [madeCells]
  · rw [hsz, made_toList hzs hs1, hzc, ← flat_repl rfl]
    have : ((List.replicate cap u).flatMap f).take (n * s) = ((List.replicate cap u).take n).flatMap f := by
      have h1 : List.replicate cap u = List.replicate n u ++ List.replicate (cap - n) u := by rw [List.replicate_append_replicate]; congr 1; omega
      rw [h1, List.flatMap_append, List.take_left' (by rw [flat_len hfl, List.length_replicate]), List.take_left' (by rw [List.length_replicate])]
    rw [this, List.take_replicate, Nat.min_eq_left hnc]
theorem o_copy {x y : Operand} {t t2 e : TypeId} {ats : Array TypeId} {n cap B s : Nat} {v2 : Value} {xs news : List Value} (i : Nat) (hi : lk L i = some (.row (.slice (some ⟨B, 0, none⟩) n cap) e s n xs)) (hx : ρ x = .slice (some ⟨B, 0, none⟩) n cap) (hy : ρ y = v2) (hat : ats = #[t, t2])
    (ht : sliOf P t = some e) (hs : szOf P e = some s) (hsrc : Src w v2 s n news) (hone : ∀ u ∈ news, u.oneCell' = true) (hm : MemOk w₀ L w) :
    ∃ w', (execOp ρ (mk d (.call { callee := .builtin .copy, args := #[x, y], argTypes := ats }) ty ps af g)).run P w = .ok (.value (.int .i64 (n : Nat))) w' ∧ MemOk w₀ ((i, .row (.slice (some ⟨B, 0, none⟩) n cap) e s n news) :: L) w' := by
  subst hat
  have hrow := hm.row i hi
  obtain ⟨ti, hti, hsz⟩ := Option.map_eq_some_iff.1 hs
  suffices hg : ∃ w', (Builtin.copy_ #[t, t2] ty #[.slice (some ⟨B, 0, none⟩) n cap, v2]).run P w = .ok (.int .i64 (n : Nat)) w' ∧ MemOk w₀ ((i, .row (.slice (some ⟨B, 0, none⟩) n cap) e s n news) :: L) w' by
    obtain ⟨w', h1, h2⟩ := hg
    refine ⟨w', ?_, h2⟩
    rw [run_builtin]
    simp only [List.map_toArray, List.map_cons, List.map_nil, hx, hy]
    exact run_v h1
  have same : n = 0 → news = [] → MemOk w₀ ((i, .row (.slice (some ⟨B, 0, none⟩) n cap) e s n news) :: L) w := by
    intro h0 hn
    have hx : xs = [] := List.eq_nil_of_length_eq_zero (by rw [hrow.1, h0, Nat.zero_mul])
    subst hn hx
    exact hm.of (lk_dup hi)
  have hl0 : ∀ (x : Addr), (loadCells x 0).run P w = .ok #[] w := fun x => by simpa using run_loadCells_list (P := P) w x [] (by simp)
  rcases hsrc with ⟨rfl, h0, hn⟩ | ⟨x, c, rfl, h0, hn⟩ | ⟨b, off, c, rfl, hl, hcell⟩
  · refine ⟨w, ?_, same h0 hn⟩
    subst h0
    simp [Builtin.copy_, run_underlying (und_sli ht), Builtin.lenOf, Builtin.firstCells, sizeOf, typeInfo, hti, storeCells, goInt]
  · refine ⟨w, ?_, same h0 hn⟩
    subst h0
    simp [Builtin.copy_, run_underlying (und_sli ht), Builtin.lenOf, Builtin.firstCells, sizeOf, typeInfo, hti, storeCells, goInt, hl0]
  · rcases hrow.2 with ⟨h1, _⟩ | ⟨g, cap', cur, h1, hbg, hg, hnc, hcm, hcs, htk⟩
    · cases h1
    · cases h1
      have hle := Nat.mul_le_mul_right s hnc
      have hld := run_loadCells_list (P := P) w ⟨b, off, none⟩ news (fun j u hu => by rw [addr_add]; exact hcell j u hu)
      have hst := run_storeCells_at P B 0 e news 0 cur w hg (by omega) hone
      have hr : (Builtin.copy_ #[t, t2] ty #[.slice (some ⟨B, 0, none⟩) n cap, .slice (some ⟨b, off, none⟩) n c]).run P w = .ok (.int .i64 (n : Nat)) (w.setRow B (cur.toList.take 0 ++ news ++ cur.toList.drop (0 + news.length)).toArray) := by
        simp only [Nat.add_zero] at hst
        simp [Builtin.copy_, run_underlying (und_sli ht), Builtin.lenOf, Builtin.firstCells, sizeOf, typeInfo, hti, hsz, goInt, ← hl, hld]
        simp at hst
        rw [hst]
        rfl
      refine ⟨_, hr, ?_⟩
      refine hm.grow (.inl hi) ⟨rfl, rfl, rfl, by simp, fun k _ hk => setRow_other w B k _ (fun e => hk (by simp [Value.ownBlock, e]))⟩ ⟨hl, .inr ⟨B, cap, _, rfl, hbg, setRow_heap w B cur _ e _ hg, hnc, hcm, ?_, ?_⟩⟩ (.inl rfl)
      · simp only [List.size_toArray, List.length_append, List.length_take, List.length_drop, Array.length_toList]
        omega
      · rw [List.take_zero, List.nil_append, ← hl]
        exact List.take_left
/-- A store into a thing told otherwise. -/
theorem o_storeAbs {x y : Operand} {t : TypeId} {q n : Nat} {v : Value} {cs cs' : Array Value} {T : TypeId} (i : Nat) {F : Nat → Prop} {H H' : World → Prop} (hi : lk L i = some (.abs F H)) (hx : ρ x = .pointer (some ⟨q, 0, none⟩)) (hy : ρ y = v) (hs : szOf P t = some n) (hF : F q) (hb : hp w q = some (.cells cs T (0, 0)))
    (hc : cs.size = n) (hv : v.cells = cs') (hc' : cs'.size = n) (ho : cs'.toList.all isOne = true) (hH : ∀ w', H w → Upd w q (.cells cs' T (0, 0)) w' → H' w') (hk : ∀ w1 w2, H' w1 → (∀ b, F b → hp w2 b = hp w1 b) → H' w2) (hm : MemOk w₀ L w) :
    ∃ w', (execOp ρ (mk none (.store t x y) ty ps af g)).run P w = .ok .skip w' ∧ MemOk w₀ ((i, .abs F H') :: L) w' := by
  obtain ⟨w', hr, hu⟩ := run_storeVar (P := P) (t := t) (off := 0) hs hb (v := v) (by rw [hv]; exact hc') (by omega) (by rw [hv]; exact ho)
  have e : wrC cs 0 v.cells.toList = cs' := by
    have := wrC_list cs'.toList cs.toList [] [] (by simp [hc, hc'])
    rw [hv]; simpa using this
  rw [e] at hu
  have ok := hm.own i _ hi
  refine ⟨w', ?_, ?_⟩
  · show (do Instr.storeAt t (ρ x) (ρ y); pure Next.skip : Sem Next).run P w = _
    rw [hx, hy, run_bind_ok (a := ()) (w' := w')]
    · rfl
    · unfold Instr.storeAt
      rw [run_bind_ok (a := ⟨q, 0, none⟩) (w' := w) rfl]
      exact hr
  · have hlo := ok.2.1 q hF
    refine hm.set i _ ⟨hu.os.trans hm.ext.os, hu.tape.trans hm.ext.tape, hu.output.trans hm.ext.output, by rw [hu.size]; exact hm.ext.size, fun k hk => (hu.other k (by omega)).trans (hm.ext.block k hk)⟩ ⟨hH w' ok.1 hu, fun b hb => ?_, hk⟩ (fun j r hl hne b hr2 => ⟨hu.other b (fun e => ?_), fun hFb => hm.sep i j _ _ hi hl (Ne.symm hne) b hFb hr2⟩)
    · rw [hu.size]; exact ok.2.1 b hb
    · subst e
      exact hm.sep i j _ _ hi hl (Ne.symm hne) b hF hr2
end
/-! ### maps: an entry laid, an entry that has come -/
section
variable {κ μ : Type} {fk : κ → Value} {fv : μ → Value} [DecidableEq κ] {P : Program} {w : World} {kt : TypeId} {ρ : Operand → Value} {d : Option Tmp} {ty : TypeId} {ps : String} {af : Array Edge} {g : Option (Nat × Bool)} {x y v : Operand} {t e : TypeId}
theorem put_none (u : μ) (c : κ) : ∀ (l : List (κ × μ)) (i : Nat), fndM c l i = none → putM c u l = l ++ [(c, u)]
  | [], _, _ => rfl
  | (k, v) :: l, i, h => by
    unfold fndM at h
    unfold putM
    by_cases hc : c = k
    · rw [if_pos hc] at h; cases h
    · rw [if_neg hc] at h ⊢
      rw [put_none u c l (i + 1) h]; rfl
theorem r_mapUpdate {b : Nat} {c : κ} {z u : μ} {l : List (κ × μ)} (K : KeyOk P kt fk) (ht : mapOf P t = some (kt, e)) (hx : ρ x = .map (some b)) (hy : ρ y = fk c) (hv : ρ v = fv u) (hb : hp w b = some (mapO fk fv l)) :
    ∃ w', (execOp ρ (mk d (.mapUpdate t x y v) ty ps af g)).run P w = .ok .skip w' ∧ Upd w b (mapO fk fv (putM c u l)) w' := by
  refine ⟨w.putObj b (mapO fk fv (putM c u l)), ?_, upd_put hb⟩
  show (do Instr.mapUpdate t (ρ x) (ρ y) (ρ v); pure Next.skip : Sem Next).run P w = _
  rw [hx, hy, hv, run_bind_ok (a := ()) (w' := w.putObj b (mapO fk fv (putM c u l)))]
  · rfl
  · unfold Instr.mapUpdate
    rw [run_underlying (und_map ht)]
    dsimp only
    rw [run_bind_ok (run_getMap hb)]
    unfold mapO
    dsimp only
    rw [run_bind_ok (K.chk _ c w), run_bind_ok (run_findKey K c l)]
    obtain ⟨h1, h2, h3, h4⟩ := fnd_get z c l 0
    cases h : fndM c l 0 with
    | none =>
      simp only [Option.map_none]
      rw [put_none u c l 0 h]
      have : (ents fk fv l 0).toArray.push ({ key := fk c, val := fv u, born := l.length } : MapEntry) = (ents fk fv (l ++ [(c, u)]) 0).toArray := by
        rw [ents_app, List.push_toArray]
        show _ = (_ ++ [({ key := fk c, val := fv u, born := 0 + l.length } : MapEntry)]).toArray
        rw [Nat.zero_add]
      rw [this, List.length_append, List.length_singleton]
      exact run_setMap _ hb
    | some q =>
      obtain ⟨i, u'⟩ := q
      obtain ⟨h5, h6, h7, h8⟩ := h3 i u' h
      rw [Nat.zero_add] at h5
      subst h5
      simp only [Option.map_some]
      have hk : (Instr.keyThatStays ((((ents fk fv l 0).toArray[idxM c l]?).map (·.key)).getD (fk c)) (fk c)).run P w = .ok (fk c) w := by
        rw [List.getElem?_toArray, ents_at, h8]
        unfold Instr.keyThatStays
        show (if Instr.sameBits 10000 (fk c) (fk c) = true then pure (fk c) else _ : Sem Value).run P w = _
        rw [if_pos (K.same c)]; rfl
      rw [run_bind_ok hk]
      have e1 : setM (idxM c l) u l = putM c u l := by
        have := set_ent z u c l
        rwa [h7] at this
      have e2 : (ents fk fv l 0).toArray.modify (idxM c l) (fun e => { e with key := fk c, val := fv u }) = (ents fk fv (putM c u l) 0).toArray := by
        apply Array.ext_getElem?
        intro j
        rw [← e1, Array.getElem?_modify, List.getElem?_toArray, List.getElem?_toArray, ents_set]
        by_cases hj : idxM c l = j
        · subst hj
          rw [if_pos rfl, if_pos rfl, ents_at, h8]; rfl
        · rw [if_neg hj, if_neg hj]
      rw [e2, ← e1, setM_len]
      exact run_setMap _ hb
omit [DecidableEq κ] in
omit [DecidableEq κ] in
theorem r_entry {b r j : Nat} {k : κ} {u : μ} {l : List (κ × μ)} {seen : List Nat} (hx : ρ x = .pointer (some ⟨r, 0, none⟩)) (hr : hp w r = some (itO b l.length (seen ++ [j]))) (hb : hp w b = some (mapO fk fv l)) (hj : l[j]? = some (k, u)) :
    (execOp ρ (mk d (.entry x) ty ps af g)).run P w = .ok (.value (.tuple #[fk k, fv u])) w := by
  refine run_v ?_
  rw [hx]
  have hm : ({ key := fk k, val := fv u, born := j } : MapEntry) ∈ (ents fk fv l 0) := List.mem_of_getElem? (i := j) (by rw [ents_at, hj]; simp)
  have hn : ((ents fk fv l 0).map (·.born)).Nodup := by
    have : ∀ (l : List (κ × μ)) (n : Nat), (ents fk fv l n).map (·.born) = List.range' n l.length := by
      intro l
      induction l with
      | nil => intro n; rfl
      | cons z l ih => intro n; obtain ⟨a, b⟩ := z; unfold ents; rw [List.map_cons, ih, List.length_cons, List.range'_succ]
    rw [this]
    exact List.nodup_range'
  have hr' : w.heap[r]? = some (.mapIter (some b) l.length (seen.toArray.push j) l.length) := by
    have : hp w r = some (itO b l.length (seen ++ [j])) := hr
    unfold itO at this
    rw [List.push_toArray]; exact this
  exact run_entry_at (P := P) w r b l.length seen.toArray (ents fk fv l 0).toArray l.length _ hr' hb (by simpa using hm) (by simpa using hn)
end
end Go.Proofs.Ytmihoejecpcmjaa
/- canvas: tiles in memory, many of them; what is new. -/
namespace Go.Proofs.Ytmihoejecpcmjaa
open Go Go.RowKit
section
variable {α : Type} {f : α → Nat × T64}
/-- Tiles, each in a block. -/
def tlsF (f : α → Nat × T64) (l : List α) (b : Nat) : Prop := ∃ x ∈ l, (f x).1 = b
def tlsH (f : α → Nat × T64) (l : List α) (w : World) : Prop := (∀ x ∈ l, hp w (f x).1 = some (tilO (f x).2)) ∧ l.Pairwise fun x y => (f x).1 ≠ (f y).1
abbrev Res.tls (f : α → Nat × T64) (l : List α) : Res := .abs (tlsF f l) (tlsH f l)
theorem tls_keep {l : List α} (w1 w2 : World) (h : tlsH f l w1) (hb : ∀ b, tlsF f l b → hp w2 b = hp w1 b) : tlsH f l w2 := ⟨fun x hx => (hb _ ⟨x, hx, rfl⟩).trans (h.1 x hx), h.2⟩
theorem MemOk.tls0 {w₀ w : World} {L : Heap} (h : MemOk w₀ L w) (k : Nat) (f : α → Nat × T64) : MemOk w₀ ((k, .tls f []) :: L) w :=
  h.set k _ h.ext ⟨⟨(fun x hx => nomatch hx), List.Pairwise.nil⟩, (fun b hb => by obtain ⟨r, hr, _⟩ := hb; cases hr), tls_keep⟩ (fun _ _ _ _ b _ => ⟨rfl, fun hb => by obtain ⟨r, hr, _⟩ := hb; cases hr⟩)
theorem MemOk.tl {w₀ w : World} {L : Heap} (h : MemOk w₀ L w) (k : Nat) {l : List α} (hk : lk L k = some (.tls f l)) {x : α} (hx : x ∈ l) : hp w (f x).1 = some (tilO (f x).2) := (h.own k _ hk).1.1 x hx
theorem MemOk.tlPush {w₀ w : World} {L : Heap} (h : MemOk w₀ L w) (k j : Nat) {l : List α} {q : Nat} {o : Obj} (x : α) (hk : lk L k = some (.tls f l)) (hj : lk L j = some (.blk q o)) (hq : (f x).1 = q) (ho : tilO (f x).2 = o) (hne : Nat.beq k j = false) :
    MemOk w₀ ((k, .tls f (l ++ [x])) :: (j, .no) :: L) w := by
  have hkj : k ≠ j := fun e => by subst e; rw [Nat.beq_refl] at hne; cases hne
  have ok1 := h.own k _ hk
  have ok2 := h.own j _ hj
  have h0 : MemOk w₀ ((j, .no) :: L) w := h.set j _ h.ext ⟨trivial, (fun _ hb => hb.elim), fun _ _ _ _ => trivial⟩ (fun _ _ _ _ b _ => ⟨rfl, id⟩)
  subst hq ho
  refine h0.set k _ h0.ext ⟨⟨fun y hy => ?_, ?_⟩, ?_, tls_keep⟩ (fun i r hi hne' b hb => ⟨rfl, ?_⟩)
  · rcases List.mem_append.1 hy with h1 | h1
    · exact ok1.1.1 y h1
    · rw [List.mem_singleton.1 h1]; exact ok2.2
  · refine List.pairwise_append.2 ⟨ok1.1.2, List.pairwise_singleton _ _, fun y hy z hz => ?_⟩
    rw [List.mem_singleton.1 hz]
    exact fun e => h.sep k j _ _ hk hj hkj (f x).1 ⟨y, hy, e⟩ rfl
  · rintro b ⟨y, hy, hb⟩
    rcases List.mem_append.1 hy with h1 | h1
    · exact ok1.2.1 b ⟨y, h1, hb⟩
    · rw [List.mem_singleton.1 h1] at hb; subst hb; exact ⟨ok2.1, hp_lt ok2.2⟩
  · rintro ⟨y, hy, hyb⟩
    by_cases e2 : j = i
    · subst e2; rw [lk_cons_same] at hi; cases hi; exact hb
    · rw [lk_cons_other _ _ e2] at hi
      rcases List.mem_append.1 hy with h1 | h1
      · exact h.sep k i _ _ hk hi (Ne.symm hne') b ⟨y, h1, hyb⟩ hb
      · rw [List.mem_singleton.1 h1] at hyb
        subst hyb
        exact h.sep j i _ _ hj hi e2 (f x).1 rfl hb
end
/-- A tile and its block; a row of their addresses. -/
abbrev BT := Nat × T64
abbrev BT.ptr (x : BT) : List Value := [.pointer (some ⟨x.1, 0, none⟩)]
abbrev optc (q : Option Nat) : List Value := [.pointer (q.map fun b => ⟨b, 0, none⟩)]
theorem optc_len (q : Option Nat) : (optc q).length = 1 := rfl
theorem ptr_flat : ∀ l : List Nat, (l.map some).flatMap optc = l.flatMap ptrc
  | [] => rfl
  | x :: l => by rw [List.map_cons, List.flatMap_cons, List.flatMap_cons, ptr_flat l]; rfl
theorem ptrc_one1 : ∀ {l : List Nat}, ∀ u ∈ l.flatMap ptrc, u.oneCell' = true := by
  intro l u hu
  obtain ⟨x, _, hx⟩ := List.mem_flatMap.1 hu
  rw [List.mem_singleton.1 hx]; rfl
/-- A canvas that is new, but for what it shares with others. -/
structure CvNew (w w' : World) (l : List Cv) (d : Cv) : Prop where
  below : Below w.heap.size w w'
  at' : CvAt w' d
  foot : ∀ b, d.foot b → w.heap.size ≤ b ∨ cvsF l b
theorem MemOk.cvGet {w₀ w w' : World} {L : Heap} (h : MemOk w₀ L w) (k : Nat) {l m : List Cv} (hk : lk L k = some (.cvs l)) {d : Cv} (hd : CvNew w w' m d) (hml : ∀ c ∈ m, c ∈ l) : MemOk w₀ ((k, .cvs (d :: l)) :: L) w' :=
  h.cvAdd hd.below k hk hd.at' fun b hb => (hd.foot b hb).imp id fun ⟨c, hc, hcf⟩ => ⟨c, hml c hc, hcf⟩
end Go.Proofs.Ytmihoejecpcmjaa
/- canvas: New. Printed by a program of this seat's prover. -/
namespace Go.Proofs.Ytmihoejecpcmjaa
open Go Go.RowKit
set_option maxRecDepth 10000
theorem rep_set {n k : Nat} {x : Option Nat} (hk : k < n) : (List.replicate k x ++ List.replicate (n - k) none).set k x = List.replicate (k + 1) x ++ List.replicate (n - (k + 1)) none := by
  rw [List.set_append_right _ _ (by simp), List.length_replicate, Nat.sub_self, show n - k = (n - (k + 1)) + 1 by omega, List.replicate_succ, List.set_cons_zero, List.replicate_succ', List.append_assoc]; rfl

theorem new_c (m n : Nat) (w : World) (hm4 : 1 ≤ m ∧ m ≤ 4) (hn4 : 1 ≤ n ∧ n ≤ 4) : Calls Try.prog 57 #[.int .i64 (m : Int), .int .i64 (n : Int)] w fun e w' => ∃ c : Cv, e = .returned (.tuple #[.pointer (some ⟨c.p, 0, none⟩), .int .i64 0]) ∧ CvNew w w' [] c ∧ c.wd = m ∧ c.hg = n ∧ c.ts = List.replicate (m * n) zeroT := by
  have h16 := size4 hm4 hn4
  refine calls_of_T (l := [.int .i64 ((m : Nat) : Int), .int .i64 ((n : Nat) : Int)]) 42 Try.func57 rfl rfl rfl ?_
  show T _ _ _ [(0, .int .i64 ((m : Nat) : Int)), (1, .int .i64 ((n : Nat) : Int))] []
  refine T_seq (T_region ?_)
  refine TL_q (.pointer none) (fun _ _ hρ _ => r_assign (hρ _ _ rfl)) rfl rfl rfl (w_n rfl) ?_
  refine TL_q (.int .i64 0) (fun _ _ hρ _ => r_assign (hρ _ _ rfl)) rfl rfl rfl (w_n rfl) ?_
  refine TL_seq ?_
  refine T_seq (T_region ?_)
  refine TL_q (.int .i64 ((m : Nat) : Int)) (fun _ _ hρ _ => r_move (hρ _ _ rfl)) rfl rfl rfl (w_n rfl) ?_
  refine TL_q (.int .i64 ((n : Nat) : Int)) (fun _ _ hρ _ => r_move (hρ _ _ rfl)) rfl rfl rfl (w_n rfl) ?_
  refine TL_q (.agg #[.int .i64 ((m : Nat) : Int), .int .i64 ((n : Nat) : Int)]) (fun _ _ hρ _ => r_build (vs := [(0, .int .i64 ((m : Nat) : Int)), (1, .int .i64 ((n : Nat) : Int))]) (by kernel_rfl) (cons2 (pair2 (hρ _ _ rfl)) (cons2 (pair2 (hρ _ _ rfl)) rfl))) rfl rfl rfl (w_n rfl) ?_
  refine TL_new 1 (.cells #[.int .i64 0, .int .i64 0] 82) (fun B => .pointer (some ⟨B, 0, none⟩)) (fun _ _ _ _ => r_alloc (v := .agg #[.int .i64 0, .int .i64 0]) (by kernel_rfl) rfl) rfl rfl rfl (w_n rfl) ?_
  intro B1
  refine TL_store 1 (.cells #[.int .i64 ((m : Nat) : Int), .int .i64 ((n : Nat) : Int)] 82) rfl (fun _ _ hρ hm => r_store sz82 (hρ _ _ rfl) (hρ _ _ rfl) (hm.at 1 rfl) rfl rfl rfl rfl) rfl rfl (w_n rfl) ?_
  refine TL_seq ?_
  refine T_seq ?_
  refine T_seq (T_region ?_)
  refine TL_q (.agg #[.int .i64 ((m : Nat) : Int), .int .i64 ((n : Nat) : Int)]) (fun _ _ hρ hm => r_loadA ag82 sz82 (hρ _ _ rfl) (hm.at 1 rfl) rfl rfl) rfl rfl rfl (w_n rfl) ?_
  refine TL_call (.bool true) (fun _ _ hρ _ => r_call (args := [.agg #[.int .i64 ((m : Nat) : Int), .int .i64 ((n : Nat) : Int)]]) (enters_of Try.func74 (by kernel_rfl) rfl) (hρ _ _ rfl) ((cons2 (hρ _ _ rfl) rfl)) rfl) (fun w _ => (may_c ((m : Nat) : Int) ((n : Nat) : Int) w).mono fun _ _ h => ⟨h.1.trans (congrArg Ending.returned (bool_as (mayI_of hm4 hn4))), h.2⟩) rfl rfl rfl (w_n rfl) ?_
  refine TL_q (.bool false) (fun _ _ hρ _ => r_not (b := true) (hρ _ _ rfl)) rfl rfl rfl (w_n rfl) ?_
  refine TL_seq ?_
  refine T_cond_f rfl ?_
  refine T_skip' ?_
  refine p_seq ?_
  refine T_seq (T_draw (V := [(0, .agg #[.int .i64 ((m : Nat) : Int), .int .i64 ((n : Nat) : Int)]), (1, .int .i64 ((m : Nat) : Int)), (2, .int .i64 ((n : Nat) : Int)), (3, .int .i64 ((m * n : Nat) : Int))]) [0, 0, 0, 6, 14, 31, 63, 127] [[(6, none)], [(0, none)], [(1, none)], [(17, some 1), (18, some 2)], [(19, some 3)], [(16, some 0), (20, some 4)], [(21, some 5)], [(22, some 6)]] 80 mixed (by kernel_rfl) ?_)
  refine G_step [0, 1, 2, 3] 4 [] (by kernel_rfl) (allM (all_cons (q_run (.agg #[.int .i64 ((m : Nat) : Int), .int .i64 ((n : Nat) : Int)]) rfl rfl (wv_n rfl) rfl (fun _ _ hρ hm => r_loadA ag82 sz82 (hρ _ _ rfl) (hm.at 1 rfl) rfl rfl)) (all_cons (q_run (.int .i64 ((m : Nat) : Int)) rfl rfl (wv_n rfl) rfl (fun _ _ hρ _ => r_move (hρ _ _ rfl))) (all_cons (q_run (.int .i64 ((n : Nat) : Int)) rfl rfl (wv_n rfl) rfl (fun _ _ hρ _ => r_move (hρ _ _ rfl))) (all_cons (q_run (.int .i64 ((m * n : Nat) : Int)) rfl rfl (wv_n rfl) rfl (fun _ _ hρ _ => r_as (r_mul (hρ _ _ rfl) (hρ _ _ rfl)) (int_as ((wrap64 (by omega) (by omega)).trans (by omega))))) all_nil))))) (allM (all_cons ?_ all_nil))
  refine LOb_op (ι := Nat) (fun B => .slice (some ⟨B, 0, none⟩) (m * n) (m * n)) _ (fun B => [(5, .agg #[.int .i64 ((m : Nat) : Int), .int .i64 ((n : Nat) : Int), .slice (some ⟨B, 0, none⟩) (m * n) (m * n)])]) rfl (wv_n rfl) rfl rfl (fun _ _ hρ hm => o_make (n := m * n) (cap := m * n) (z := .pointer none) (f := optc) (u := none) 901 rfl (hρ _ _ rfl) (hρ _ _ rfl) sl83 by87 sz87 rfl (by kernel_rfl) rfl optc_len (by omega) (by omega) (by omega) hm) (fun B => by kernel_rfl) ?_
  intro B2
  refine G_step [0, 5] 6 [] (by kernel_rfl) (allM (all_cons (q_run (.agg #[.int .i64 ((m : Nat) : Int), .int .i64 ((n : Nat) : Int)]) rfl rfl (wv_n rfl) rfl (fun _ _ hρ hm => r_loadA ag82 sz82 (hρ _ _ rfl) (hm.at 1 rfl) rfl rfl)) (all_cons (q_run (.agg #[.int .i64 ((m : Nat) : Int), .int .i64 ((n : Nat) : Int), .slice (some ⟨B2, 0, none⟩) (m * n) (m * n)]) rfl rfl (wv_n rfl) rfl (fun _ _ hρ _ => r_build (vs := [(0, .agg #[.int .i64 ((m : Nat) : Int), .int .i64 ((n : Nat) : Int)]), (1, .slice (some ⟨B2, 0, none⟩) (m * n) (m * n))]) (by kernel_rfl) (cons2 (pair2 (hρ _ _ rfl)) (cons2 (pair2 (hρ _ _ rfl)) rfl)))) all_nil))) (allM (all_cons ?_ all_nil))
  refine LOb_new 902 (.cells #[.int .i64 ((m : Nat) : Int), .int .i64 ((n : Nat) : Int), .slice (some ⟨B2, 0, none⟩) (m * n) (m * n)] 85) (fun B => .pointer (some ⟨B, 0, none⟩)) (fun B => [(7, .pointer (some ⟨B, 0, none⟩))]) rfl (wv_n rfl) rfl rfl (fun _ _ hρ _ => r_box (hρ _ _ rfl) rfl) (fun B => by kernel_rfl) ?_
  intro B3
  refine G_last [7] [(4, .pointer none), (5, .int .i64 0), (7, .pointer (some ⟨B3, 0, none⟩))] (by kernel_rfl) (allM (all_cons (q_run (.pointer (some ⟨B3, 0, none⟩)) rfl rfl (wv_n rfl) rfl (fun _ _ hρ _ => r_assign (hρ _ _ rfl))) all_nil)) (end_old rfl rfl (end_old rfl rfl (end_new 7 rfl rfl end_nil))) ?_
  refine T_seq (T_region ?_)
  refine TL_q (.agg (lst C4.cells zero64)) (fun _ _ _ _ => r_build (vs := []) (by kernel_rfl) rfl) rfl rfl rfl (w_n rfl) ?_
  refine TL_new 903 (.cells (lst C4.cells zero64) 91) (fun B => .pointer (some ⟨B, 0, none⟩)) (fun _ _ hρ _ => r_box (hρ _ _ rfl) rfl) rfl rfl rfl (w_n rfl) ?_
  intro B4
  refine TL_q (.pointer (some ⟨B4, 0, none⟩)) (fun _ _ hρ _ => r_assign (hρ _ _ rfl)) rfl rfl rfl (w_n rfl) ?_
  refine TL_seq ?_
  refine T_seq ?_
  refine T_seq (T_region ?_)
  refine TL_q (.pointer (some ⟨B3, 0, none⟩)) (fun _ _ hρ _ => r_move (hρ _ _ rfl)) rfl rfl rfl (w_n rfl) ?_
  refine TL_q (.pointer (some ⟨B3, 0, none⟩)) (fun _ _ hρ _ => r_nilCheck (hρ _ _ rfl) rfl) rfl rfl rfl (w_n rfl) ?_
  refine TL_q (.pointer (some ⟨B3, 2, none⟩)) (fun _ _ hρ _ => r_fieldAddr fl85_1 sz83 (hρ _ _ rfl)) rfl rfl rfl (w_n rfl) ?_
  refine TL_q (.slice (some ⟨B2, 0, none⟩) (m * n) (m * n)) (fun _ _ hρ hm => r_load ag83 (hρ _ _ rfl) (hm.at 902 rfl) rfl) rfl rfl rfl (w_n rfl) ?_
  refine TL_q (.int .i64 ((m * n : Nat) : Int)) (fun _ _ hρ _ => r_len sl83 (hρ _ _ rfl)) rfl rfl rfl (w_n rfl) ?_
  refine TL_q (.int .i64 0) (fun _ _ hρ _ => r_move (hρ _ _ rfl)) rfl rfl rfl (w_n rfl) ?_
  refine TL_seq ?_
  refine T_block ?_
  refine T_loop (ι := Nat) (fun (k : Nat) => k ≤ m * n) (fun (k : Nat) => [(4, .pointer none), (5, .int .i64 0), (7, .pointer (some ⟨B3, 0, none⟩)), (8, .pointer (some ⟨B4, 0, none⟩)), (29, .int .i64 ((m * n : Nat) : Int)), (30, .int .i64 ((k : Nat) : Int))]) (fun (k : Nat) => [(1, .blk B1 (.cells #[.int .i64 ((m : Nat) : Int), .int .i64 ((n : Nat) : Int)] 82)), (902, .blk B3 (.cells #[.int .i64 ((m : Nat) : Int), .int .i64 ((n : Nat) : Int), .slice (some ⟨B2, 0, none⟩) (m * n) (m * n)] 85)), (903, .blk B4 (.cells (lst C4.cells zero64) 91)), (901, .row (.slice (some ⟨B2, 0, none⟩) (m * n) (m * n)) 87 1 (m * n) ((List.replicate k (some B4) ++ List.replicate (m * n - k) none).flatMap optc))]) (fun (k : Nat) => m * n - k) 0 (Nat.zero_le _) (sub_cons rfl (sub_cons rfl (sub_cons rfl (sub_cons rfl (sub_cons rfl (sub_cons rfl sub_nil)))))) (sub_cons rfl (sub_cons rfl (sub_cons rfl (sub_cons rfl sub_nil)))) ?_
  rintro k hp
  show T _ _ _ [(4, .pointer none), (5, .int .i64 0), (7, .pointer (some ⟨B3, 0, none⟩)), (8, .pointer (some ⟨B4, 0, none⟩)), (29, .int .i64 ((m * n : Nat) : Int)), (30, .int .i64 ((k : Nat) : Int))] [(1, .blk B1 (.cells #[.int .i64 ((m : Nat) : Int), .int .i64 ((n : Nat) : Int)] 82)), (902, .blk B3 (.cells #[.int .i64 ((m : Nat) : Int), .int .i64 ((n : Nat) : Int), .slice (some ⟨B2, 0, none⟩) (m * n) (m * n)] 85)), (903, .blk B4 (.cells (lst C4.cells zero64) 91)), (901, .row (.slice (some ⟨B2, 0, none⟩) (m * n) (m * n)) 87 1 (m * n) ((List.replicate k (some B4) ++ List.replicate (m * n - k) none).flatMap optc))]
  refine T_seq (T_region ?_)
  refine TL_q (.bool (decide (((k : Nat) : Int) < ((m * n : Nat) : Int)))) (fun _ _ hρ _ => r_lss (hρ _ _ rfl) (hρ _ _ rfl)) rfl rfl rfl (w_n rfl) ?_
  refine TL_seq ?_
  refine T_seq ?_
  refine T_cond rfl (fun h1 => ?_) (fun h1 => ?_)
  · replace h1 := of_decide_eq_true h1
    refine T_skip' ?_
    refine p_seq ?_
    refine T_seq ?_
    refine T_block ?_
    refine T_seq (T_region ?_)
    refine TL_q (.int .i64 ((k : Nat) : Int)) (fun _ _ hρ _ => r_move (hρ _ _ rfl)) rfl rfl rfl (w_n rfl) ?_
    refine TL_q (.int .i64 ((k : Nat) : Int)) (fun _ _ hρ _ => r_assign (hρ _ _ rfl)) rfl rfl rfl (w_n rfl) ?_
    refine TL_seq ?_
    refine T_region ?_
    refine TL_q (.pointer (some ⟨B3, 0, none⟩)) (fun _ _ hρ _ => r_move (hρ _ _ rfl)) rfl rfl rfl (w_n rfl) ?_
    refine TL_q (.pointer (some ⟨B3, 0, none⟩)) (fun _ _ hρ _ => r_nilCheck (hρ _ _ rfl) rfl) rfl rfl rfl (w_n rfl) ?_
    refine TL_q (.pointer (some ⟨B3, 2, none⟩)) (fun _ _ hρ _ => r_fieldAddr fl85_1 sz83 (hρ _ _ rfl)) rfl rfl rfl (w_n rfl) ?_
    refine TL_q (.slice (some ⟨B2, 0, none⟩) (m * n) (m * n)) (fun _ _ hρ hm => r_load ag83 (hρ _ _ rfl) (hm.at 902 rfl) rfl) rfl rfl rfl (w_n rfl) ?_
    refine TL_q (.int .i64 ((k : Nat) : Int)) (fun _ _ hρ _ => r_move (hρ _ _ rfl)) rfl rfl rfl (w_n rfl) ?_
    refine TL_q (.pointer (some ⟨B4, 0, none⟩)) (fun _ _ hρ _ => r_move (hρ _ _ rfl)) rfl rfl rfl (w_n rfl) ?_
    refine TL_q (.pointer (some ⟨B2, 0 + k * 1, none⟩)) (fun _ _ hρ _ => r_indexAddrS (i := k) sl83 sz87 (hρ _ _ rfl) (hρ _ _ rfl) (by omega)) rfl rfl rfl (w_n rfl) ?_
    refine TL_storeRow (f := optc) (l := (List.replicate k (some B4) ++ List.replicate (m * n - k) none)) (u := (some B4)) 901 rfl (by simp; omega) rfl rfl sz87 optc_len (by simp; omega) rfl rfl (w_n rfl) ?_
    refine TL_nil ?_
    refine p_blk_n ?_
    refine p_seq ?_
    refine T_region ?_
    refine TL_q (.int .i64 ((k + 1 : Nat) : Int)) (fun _ _ hρ _ => r_as (r_add (hρ _ _ rfl) (hρ _ _ rfl)) (int_as ((wrap64 (by omega) (by omega)).trans (by omega)))) rfl rfl rfl (w_n rfl) ?_
    refine TL_q (.int .i64 ((k + 1 : Nat) : Int)) (fun _ _ hρ _ => r_move (hρ _ _ rfl)) rfl rfl rfl (w_n rfl) ?_
    refine TL_nil ?_
    rw [rep_set (n := m * n) (k := k) (x := some B4) (by omega)]
    exact p_at (k + 1) ⟨by omega, by omega⟩ (sub_cons rfl (sub_cons rfl (sub_cons rfl (sub_cons rfl (sub_cons rfl (sub_cons rfl sub_nil)))))) (sub_cons rfl (sub_cons rfl (sub_cons rfl (sub_cons rfl sub_nil))))
  · replace h1 := of_decide_eq_false h1
    refine T_exit' ?_
    refine p_then_x ?_
    refine p_then_x ?_
    refine p_blk_x ?_
    refine p_seq ?_
    refine T_seq (T_region ?_)
    refine TL_q (.pointer (some ⟨B3, 0, none⟩)) (fun _ _ hρ _ => r_move (hρ _ _ rfl)) rfl rfl rfl (w_n rfl) ?_
    refine TL_q (.pointer (some ⟨B3, 0, none⟩)) (fun _ _ hρ _ => r_assign (hρ _ _ rfl)) rfl rfl rfl (w_n rfl) ?_
    refine TL_q (.int .i64 0) (fun _ _ hρ _ => r_assign (hρ _ _ rfl)) rfl rfl rfl (w_n rfl) ?_
    refine TL_seq ?_
    refine T_ret' ?_
    refine ret_of rfl (.tuple #[.pointer (some ⟨B3, 0, none⟩), .int .i64 0]) (fun tmps w hk hm => res2 rfl (res_tmp (hk 4 _ rfl)) (res_tmp (hk 5 _ rfl))) (fun w hm => ?_)
    have hk : k = m * n := by omega
    subst hk
    have hrow := hm.row 901 rfl
    rw [Nat.sub_self, List.replicate_zero, List.append_nil, show List.replicate (m * n) (some B4) = (List.replicate (m * n) B4).map some from (List.map_replicate).symm, ptr_flat] at hrow
    have h16 := size4 hm4 hn4
    refine ⟨⟨B3, some ⟨B2, 0, none⟩, m * n, List.replicate (m * n) B4, m, n, List.replicate (m * n) zeroT⟩, rfl, ⟨hm.ext, ⟨?_, ?_, ?_, ?_, ?_, ?_, hm4, hn4⟩, ?_⟩, rfl, rfl, rfl⟩
    · have := hm.at 902 rfl; simpa using this
    · exact SliceAt.own ptrc_len hrow (by simp) rfl
    · show m * n ≤ Go.maxLen; unfold Go.maxLen; omega
    · intro i x t hx ht
      have h1 := List.mem_of_getElem? hx; have h2 := List.mem_of_getElem? ht
      have h1 := (List.mem_replicate.1 h1).2; have h2 := (List.mem_replicate.1 h2).2
      rw [h1, h2]
      exact hm.at 903 rfl
    · simp
    · simp
    · rintro b (rfl | ⟨x, hx, rfl⟩ | hb)
      · exact .inl (hm.own 902 _ rfl).1
      · cases hx; exact .inl (Res.low (hm.own 901 _ rfl) (rfl : (Value.slice (some ⟨B2, 0, none⟩) (m * n) (m * n)).ownBlock = some B2)).1
      · rw [(List.mem_replicate.1 hb).2]; exact .inl (hm.own 903 _ rfl).1

end Go.Proofs.Ytmihoejecpcmjaa
/- canvas: Of, Check. Printed by a program of this seat's prover. -/
namespace Go.Proofs.Ytmihoejecpcmjaa
open Go Go.RowKit
set_option maxRecDepth 10000


theorem own_foot {w : World} {base n cap s : Nat} {e : TypeId} {x : Addr} {xs : List Value} (h : w.ownsRow base e s (.slice (some x) n cap) n xs) (hn : 0 < n) : (Value.slice (some x) n cap).ownBlock = some x.block := by
  rcases h.2 with ⟨h1, _⟩ | ⟨g, cap', cur, h1, _⟩
  · cases h1
  · cases h1; rfl


end Go.Proofs.Ytmihoejecpcmjaa
/- canvas: Show, Same, Shared. Printed by a program of this seat's prover. -/
namespace Go.Proofs.Ytmihoejecpcmjaa
open Go Go.RowKit
set_option maxRecDepth 10000




theorem cells_inj : ∀ {l m : List C4}, l.flatMap C4.cells = m.flatMap C4.cells → l = m
  | [], [], _ => rfl
  | [], x :: m, h => by cases h
  | x :: l, [], h => by cases h
  | x :: l, y :: m, h => by
    rw [List.flatMap_cons, List.flatMap_cons] at h
    obtain ⟨h1, h2⟩ := List.append_inj h rfl
    have e : x = y := by
      injection h1 with e1 h1; injection h1 with e2 h1; injection h1 with e3 h1; injection h1 with e4 _
      injection e1 with _ e1; injection e2 with _ e2; injection e3 with _ e3; injection e4 with _ e4
      exact c4_ext e1 e2 e3 e4
    rw [e, cells_inj h2]
theorem tilO_inj {t u : T64} (h : tilO t = tilO u) : t = u := by
  injection h with h _ _
  exact t64_ext (cells_inj (by have := congrArg Array.toList h; simpa [lst] using this))

theorem same1_c (q r : Nat) (t u : T64) (w : World) (hq : hp w q = some (tilO t)) (hr : hp w r = some (tilO u)) : Calls Try.prog 56 #[.pointer (some ⟨q, 0, none⟩), .pointer (some ⟨r, 0, none⟩)] w fun e w' => e = .returned (.bool (decide (t = u))) ∧ Below w.heap.size w w' := by
  refine calls_of_T (l := [.pointer (some ⟨q, 0, none⟩), .pointer (some ⟨r, 0, none⟩)]) 17 Try.func56 rfl rfl rfl ?_
  show T _ _ _ [(0, .pointer (some ⟨q, 0, none⟩)), (1, .pointer (some ⟨r, 0, none⟩))] []
  refine T_seq (T_region ?_)
  refine TL_q (.bool false) (fun _ _ hρ _ => r_assign (hρ _ _ rfl)) rfl rfl rfl (w_n rfl) ?_
  refine TL_seq ?_
  by_cases hqr : q = r
  · skip
    refine T_seq (T_draw (V := [(0, .pointer (some ⟨q, 0, none⟩)), (1, .pointer (some ⟨r, 0, none⟩)), (2, .bool true), (3, .bool true), (4, undef), (5, undef), (6, undef), (7, undef), (8, undef), (9, undef), (10, undef), (11, .bool true), (12, .bool true)]) [0, 0, 3, 7, 15, 31, 63, 15, 143, 399, 1023, 2047, 4095] [[(0, none)], [(1, none)], [(5, some 0), (6, some 1)], [(7, some 2)], [(0, none)], [(9, some 4)], [(10, some 5)], [(1, none)], [(12, some 7)], [(13, some 8)], [(11, some 6), (14, some 9)], [(15, some 10), (8, some 3)], [(16, some 11)]] 0 mixed (by kernel_rfl) ?_)
    refine G_last [0, 1, 2, 3, 4, 5, 6, 7, 8, 9, 10, 11, 12] [(4, .bool true)] (by kernel_rfl) (allM (all_cons (q_run (.pointer (some ⟨q, 0, none⟩)) rfl rfl (wv_n rfl) rfl (fun _ _ hρ _ => r_move (hρ _ _ rfl))) (all_cons (q_run (.pointer (some ⟨r, 0, none⟩)) rfl rfl (wv_n rfl) rfl (fun _ _ hρ _ => r_move (hρ _ _ rfl))) (all_cons (q_run (.bool true) rfl rfl (wv_n rfl) rfl (fun _ _ hρ hm => r_as (r_eqlP po87 sz91 (by decide) (hρ _ _ rfl) (hρ _ _ rfl) (hm.old hq) (hm.old hr)) (bool_as (decide_eq_true hqr)))) (all_cons (q_run (.bool true) rfl rfl (wv_n rfl) rfl (fun _ _ hρ _ => r_move (hρ _ _ rfl))) (all_cons (q_no rfl rfl (wv_no rfl rfl)) (all_cons (q_no rfl rfl (wv_no rfl rfl)) (all_cons (q_no rfl rfl (wv_no rfl rfl)) (all_cons (q_no rfl rfl (wv_no rfl rfl)) (all_cons (q_no rfl rfl (wv_no rfl rfl)) (all_cons (q_no rfl rfl (wv_no rfl rfl)) (all_cons (q_no rfl rfl (wv_no rfl rfl)) (all_cons (q_run (.bool true) rfl rfl (wv_n rfl) rfl (fun _ _ hρ _ => r_pick_t (hρ _ _ rfl) (hρ _ _ rfl))) (all_cons (q_run (.bool true) rfl rfl (wv_n rfl) rfl (fun _ _ hρ _ => r_assign (hρ _ _ rfl))) all_nil)))))))))))))) (end_new 12 rfl rfl end_nil) ?_
    refine T_ret' ?_
    refine ret_of rfl (.bool true) (fun tmps w hk hm => res1 rfl (res_tmp (hk 4 _ rfl))) (fun w hm => ?_)
    exact ⟨congrArg Ending.returned (bool_as (decide_eq_true (tilO_inj (by rw [hqr, hr] at hq; exact (Option.some.inj hq).symm))).symm), hm.ext⟩
  · skip
    refine T_seq (T_draw (V := [(0, .pointer (some ⟨q, 0, none⟩)), (1, .pointer (some ⟨r, 0, none⟩)), (2, .bool false), (3, .bool false), (4, .pointer (some ⟨q, 0, none⟩)), (5, .pointer (some ⟨q, 0, none⟩)), (6, .agg (lst C4.cells t.l)), (7, .pointer (some ⟨r, 0, none⟩)), (8, .pointer (some ⟨r, 0, none⟩)), (9, .agg (lst C4.cells u.l)), (10, .bool (decide (t = u))), (11, .bool (decide (t = u))), (12, .bool (decide (t = u)))]) [0, 0, 3, 7, 15, 31, 63, 15, 143, 399, 1023, 2047, 4095] [[(0, none)], [(1, none)], [(5, some 0), (6, some 1)], [(7, some 2)], [(0, none)], [(9, some 4)], [(10, some 5)], [(1, none)], [(12, some 7)], [(13, some 8)], [(11, some 6), (14, some 9)], [(15, some 10), (8, some 3)], [(16, some 11)]] 0 mixed (by kernel_rfl) ?_)
    refine G_last [0, 1, 2, 3, 4, 5, 6, 7, 8, 9, 10, 11, 12] [(4, .bool (decide (t = u)))] (by kernel_rfl) (allM (all_cons (q_run (.pointer (some ⟨q, 0, none⟩)) rfl rfl (wv_n rfl) rfl (fun _ _ hρ _ => r_move (hρ _ _ rfl))) (all_cons (q_run (.pointer (some ⟨r, 0, none⟩)) rfl rfl (wv_n rfl) rfl (fun _ _ hρ _ => r_move (hρ _ _ rfl))) (all_cons (q_run (.bool false) rfl rfl (wv_n rfl) rfl (fun _ _ hρ hm => r_as (r_eqlP po87 sz91 (by decide) (hρ _ _ rfl) (hρ _ _ rfl) (hm.old hq) (hm.old hr)) (bool_as (decide_eq_false hqr)))) (all_cons (q_run (.bool false) rfl rfl (wv_n rfl) rfl (fun _ _ hρ _ => r_move (hρ _ _ rfl))) (all_cons (q_run (.pointer (some ⟨q, 0, none⟩)) rfl rfl (wv_y rfl rfl) rfl (fun _ _ hρ _ => r_move (hρ _ _ rfl))) (all_cons (q_run (.pointer (some ⟨q, 0, none⟩)) rfl rfl (wv_y rfl rfl) rfl (fun _ _ hρ _ => r_nilCheck (hρ _ _ rfl) rfl)) (all_cons (q_run (.agg (lst C4.cells t.l)) rfl rfl (wv_y rfl rfl) rfl (fun _ _ hρ hm => r_loadW ag91 sz91 (hρ _ _ rfl) (hm.old hq) (tsz t.h))) (all_cons (q_run (.pointer (some ⟨r, 0, none⟩)) rfl rfl (wv_y rfl rfl) rfl (fun _ _ hρ _ => r_move (hρ _ _ rfl))) (all_cons (q_run (.pointer (some ⟨r, 0, none⟩)) rfl rfl (wv_y rfl rfl) rfl (fun _ _ hρ _ => r_nilCheck (hρ _ _ rfl) rfl)) (all_cons (q_run (.agg (lst C4.cells u.l)) rfl rfl (wv_y rfl rfl) rfl (fun _ _ hρ hm => r_loadW ag91 sz91 (hρ _ _ rfl) (hm.old hr) (tsz u.h))) (all_cons (q_run (.bool (decide (t = u))) rfl rfl (wv_y rfl rfl) rfl (fun _ w hρ _ => r_as (r_eqlA (by kernel_rfl) (hρ _ _ rfl) (hρ _ _ rfl) (eq_t64 t u w)) (by rfl))) (all_cons (q_run (.bool (decide (t = u))) rfl rfl (wv_n rfl) rfl (fun _ _ hρ _ => r_pick_f (hρ _ _ rfl) (hρ _ _ rfl))) (all_cons (q_run (.bool (decide (t = u))) rfl rfl (wv_n rfl) rfl (fun _ _ hρ _ => r_assign (hρ _ _ rfl))) all_nil)))))))))))))) (end_new 12 rfl rfl end_nil) ?_
    refine T_ret' ?_
    refine ret_of rfl (.bool (decide (t = u))) (fun tmps w hk hm => res1 rfl (res_tmp (hk 4 _ rfl))) (fun w hm => ?_)
    exact ⟨rfl, hm.ext⟩

set_option maxHeartbeats 1000000 in
theorem eqf_c (c d : Cv) (w : World) (hc : CvAt w c) (hd : CvAt w d) (hlen2 : c.ps.length = d.ps.length) : Calls Try.prog 55 #[.slice c.a c.ps.length c.cap, .slice d.a d.ps.length d.cap, .func (.func 56) #[] #[]] w fun e w' => e = .returned (.bool (decide (c.ts = d.ts))) ∧ Below w.heap.size w w' := by
  obtain ⟨p, a, cap, ps, wd, hg, ts⟩ := c
  have hblk : hp w p = some (.cells #[.int .i64 (wd : Int), .int .i64 (hg : Int), .slice a ps.length cap] 85) := hc.blk
  have hrow : SliceAt w a cap 1 ptrc ps := hc.row
  have hcap : cap ≤ Go.maxLen := hc.capok
  unfold Go.maxLen at hcap
  have htl : ∀ (i q : Nat) (t : T64), ps[i]? = some q → ts[i]? = some t → hp w q = some (tilO t) := hc.tl
  have hlen : ps.length = wd * hg := hc.len
  have hlt : ts.length = ps.length := hc.len2
  have hwd : 1 ≤ wd ∧ wd ≤ 4 := hc.wd4
  have hhg : 1 ≤ hg ∧ hg ≤ 4 := hc.hg4
  have h16 := size4 hwd hhg
  have hrl := hrow.1
  obtain ⟨b, of, cs, TY, fz, ha, hcr, hrr⟩ := hrow.open (i := 0) (by omega)
  subst ha
  obtain ⟨pd, ad, capd, psd, wdd, hgd, tsd⟩ := d
  have hblkd : hp w pd = some (.cells #[.int .i64 (wdd : Int), .int .i64 (hgd : Int), .slice ad psd.length capd] 85) := hd.blk
  have hrowd : SliceAt w ad capd 1 ptrc psd := hd.row
  have hcapd : capd ≤ Go.maxLen := hd.capok
  unfold Go.maxLen at hcapd
  have htld : ∀ (i q : Nat) (t : T64), psd[i]? = some q → tsd[i]? = some t → hp w q = some (tilO t) := hd.tl
  have hlend : psd.length = wdd * hgd := hd.len
  have hltd : tsd.length = psd.length := hd.len2
  have hwdd : 1 ≤ wdd ∧ wdd ≤ 4 := hd.wd4
  have hhgd : 1 ≤ hgd ∧ hgd ≤ 4 := hd.hg4
  have h16d := size4 hwdd hhgd
  have hrld := hrowd.1
  obtain ⟨bd, ofd, csd, TYd, fzd, had, hcrd, hrrd⟩ := hrowd.open (i := 0) (by omega)
  subst had
  dsimp only at hlen2
  refine calls_of_T (l := [.slice (some ⟨b, of, none⟩) ps.length cap, .slice (some ⟨bd, ofd, none⟩) psd.length capd, .func (.func 56) #[] #[]]) 32 Try.func55 rfl rfl rfl ?_
  show T _ _ _ [(0, .slice (some ⟨b, of, none⟩) ps.length cap), (1, .slice (some ⟨bd, ofd, none⟩) psd.length capd), (2, .func (.func 56) #[] #[])] []
  refine T_seq (T_region ?_)
  refine TL_q (.bool false) (fun _ _ hρ _ => r_assign (hρ _ _ rfl)) rfl rfl rfl (w_n rfl) ?_
  refine TL_seq ?_
  refine T_seq ?_
  have hl2 : ((ps.length : Nat) : Int) = ((psd.length : Nat) : Int) := by omega
  refine T_seq (T_region ?_)
  refine TL_q (.slice (some ⟨b, of, none⟩) ps.length cap) (fun _ _ hρ _ => r_move (hρ _ _ rfl)) rfl rfl rfl (w_n rfl) ?_
  refine TL_q (.int .i64 ((ps.length : Nat) : Int)) (fun _ _ hρ _ => r_len sl83 (hρ _ _ rfl)) rfl rfl rfl (w_n rfl) ?_
  refine TL_q (.slice (some ⟨bd, ofd, none⟩) psd.length capd) (fun _ _ hρ _ => r_move (hρ _ _ rfl)) rfl rfl rfl (w_n rfl) ?_
  refine TL_q (.int .i64 ((psd.length : Nat) : Int)) (fun _ _ hρ _ => r_len sl83 (hρ _ _ rfl)) rfl rfl rfl (w_n rfl) ?_
  refine TL_q (.bool false) (fun _ _ hρ _ => r_as (r_neq (hρ _ _ rfl) (hρ _ _ rfl)) (bool_as (by rw [decide_eq_true hl2]; rfl))) rfl rfl rfl (w_n rfl) ?_
  refine TL_seq ?_
  refine T_cond_f rfl ?_
  refine T_skip' ?_
  refine p_seq ?_
  refine T_seq ?_
  refine T_seq (T_region ?_)
  refine TL_q (.slice (some ⟨b, of, none⟩) ps.length cap) (fun _ _ hρ _ => r_move (hρ _ _ rfl)) rfl rfl rfl (w_n rfl) ?_
  refine TL_q (.int .i64 ((ps.length : Nat) : Int)) (fun _ _ hρ _ => r_len sl83 (hρ _ _ rfl)) rfl rfl rfl (w_n rfl) ?_
  refine TL_q (.int .i64 0) (fun _ _ hρ _ => r_move (hρ _ _ rfl)) rfl rfl rfl (w_n rfl) ?_
  refine TL_seq ?_
  refine T_block ?_
  refine T_loop (ι := Nat) (fun (k : Nat) => k ≤ ts.length ∧ ts.take k = tsd.take k) (fun (k : Nat) => [(1, .slice (some ⟨bd, ofd, none⟩) psd.length capd), (2, .func (.func 56) #[] #[]), (15, .slice (some ⟨b, of, none⟩) ps.length cap), (16, .int .i64 ((ps.length : Nat) : Int)), (17, .int .i64 ((k : Nat) : Int))]) (fun (k : Nat) => []) (fun (k : Nat) => ts.length - k) 0 ⟨Nat.zero_le _, by simp⟩ (sub_cons rfl (sub_cons rfl (sub_cons rfl (sub_cons rfl (sub_cons rfl sub_nil))))) sub_nil ?_
  rintro k hp
  obtain ⟨hk1, hk2⟩ := hp
  show T _ _ _ [(1, .slice (some ⟨bd, ofd, none⟩) psd.length capd), (2, .func (.func 56) #[] #[]), (15, .slice (some ⟨b, of, none⟩) ps.length cap), (16, .int .i64 ((ps.length : Nat) : Int)), (17, .int .i64 ((k : Nat) : Int))] []
  refine T_seq (T_region ?_)
  refine TL_q (.bool (decide (((k : Nat) : Int) < ((ps.length : Nat) : Int)))) (fun _ _ hρ _ => r_lss (hρ _ _ rfl) (hρ _ _ rfl)) rfl rfl rfl (w_n rfl) ?_
  refine TL_seq ?_
  refine T_seq ?_
  refine T_cond rfl (fun h1 => ?_) (fun h1 => ?_)
  · replace h1 := of_decide_eq_true h1
    refine T_skip' ?_
    refine p_seq ?_
    refine T_seq ?_
    refine T_block ?_
    obtain ⟨q, hqq⟩ : ∃ x, ps[k]? = some x := ⟨_, List.getElem?_eq_getElem (by omega)⟩
    obtain ⟨t, hqt⟩ : ∃ x, ts[k]? = some x := ⟨_, List.getElem?_eq_getElem (by omega)⟩
    have hbq := htl _ _ _ hqq hqt
    obtain ⟨r, hqr⟩ : ∃ x, psd[k]? = some x := ⟨_, List.getElem?_eq_getElem (by omega)⟩
    obtain ⟨u, hqu⟩ : ∃ x, tsd[k]? = some x := ⟨_, List.getElem?_eq_getElem (by omega)⟩
    have hbr := htld _ _ _ hqr hqu
    refine T_seq (T_region ?_)
    refine TL_q (.int .i64 ((k : Nat) : Int)) (fun _ _ hρ _ => r_move (hρ _ _ rfl)) rfl rfl rfl (w_n rfl) ?_
    refine TL_q (.pointer (some ⟨b, of + k * 1, none⟩)) (fun _ _ hρ _ => r_indexAddrS (i := k) sl83 sz87 (hρ _ _ rfl) (hρ _ _ rfl) (by omega)) rfl rfl rfl (w_n rfl) ?_
    refine TL_q (.pointer (some ⟨q, 0, none⟩)) (fun _ _ hρ hm => r_loadRow1 (f := ptrc) (u := q) ag87 (hρ _ _ rfl) (hm.old hcr) hrr hqq rfl) rfl rfl rfl (w_n rfl) ?_
    refine TL_q (.int .i64 ((k : Nat) : Int)) (fun _ _ hρ _ => r_assign (hρ _ _ rfl)) rfl rfl rfl (w_n rfl) ?_
    refine TL_q (.pointer (some ⟨q, 0, none⟩)) (fun _ _ hρ _ => r_assign (hρ _ _ rfl)) rfl rfl rfl (w_n rfl) ?_
    refine TL_seq ?_
    refine T_seq (T_region ?_)
    refine TL_q (.slice (some ⟨bd, ofd, none⟩) psd.length capd) (fun _ _ hρ _ => r_move (hρ _ _ rfl)) rfl rfl rfl (w_n rfl) ?_
    refine TL_q (.int .i64 ((k : Nat) : Int)) (fun _ _ hρ _ => r_move (hρ _ _ rfl)) rfl rfl rfl (w_n rfl) ?_
    refine TL_q (.pointer (some ⟨bd, ofd + k * 1, none⟩)) (fun _ _ hρ _ => r_indexAddrS (i := k) sl83 sz87 (hρ _ _ rfl) (hρ _ _ rfl) (by omega)) rfl rfl rfl (w_n rfl) ?_
    refine TL_q (.pointer (some ⟨r, 0, none⟩)) (fun _ _ hρ hm => r_loadRow1 (f := ptrc) (u := r) ag87 (hρ _ _ rfl) (hm.old hcrd) hrrd hqr rfl) rfl rfl rfl (w_n rfl) ?_
    refine TL_q (.pointer (some ⟨r, 0, none⟩)) (fun _ _ hρ _ => r_assign (hρ _ _ rfl)) rfl rfl rfl (w_n rfl) ?_
    refine TL_seq ?_
    refine T_seq (T_region ?_)
    refine TL_q (.func (.func 56) #[] #[]) (fun _ _ hρ _ => r_move (hρ _ _ rfl)) rfl rfl rfl (w_n rfl) ?_
    refine TL_q (.pointer (some ⟨q, 0, none⟩)) (fun _ _ hρ _ => r_move (hρ _ _ rfl)) rfl rfl rfl (w_n rfl) ?_
    refine TL_q (.pointer (some ⟨r, 0, none⟩)) (fun _ _ hρ _ => r_move (hρ _ _ rfl)) rfl rfl rfl (w_n rfl) ?_
    refine TL_call (.bool (decide (t = u))) (fun _ _ hρ _ => r_call (args := [.pointer (some ⟨q, 0, none⟩), .pointer (some ⟨r, 0, none⟩)]) (enters_of Try.func56 (by kernel_rfl) rfl) (hρ _ _ rfl) ((cons2 (hρ _ _ rfl) (cons2 (hρ _ _ rfl) rfl))) rfl) (fun w hm => same1_c q r t u w (hm.old hbq) (hm.old hbr)) rfl rfl rfl (w_n rfl) ?_
    refine TL_q (.bool (!(decide (t = u)))) (fun _ _ hρ _ => r_not (b := decide (t = u)) (hρ _ _ rfl)) rfl rfl rfl (w_n rfl) ?_
    refine TL_seq ?_
    refine T_cond rfl (fun h2 => ?_) (fun h2 => ?_)
    · replace h2 := of_decide_eq_false (bnot_t h2)
      refine T_seq (T_region ?_)
      refine TL_q (.bool false) (fun _ _ hρ _ => r_assign (hρ _ _ rfl)) rfl rfl rfl (w_n rfl) ?_
      refine TL_seq ?_
      refine T_ret' ?_
      refine p_blk_r ?_
      refine p_then_r ?_
      refine p_then_r ?_
      refine p_blk_r ?_
      refine p_then_r ?_
      refine ret_of rfl (.bool false) (fun tmps w hk hm => res1 rfl (res_tmp (hk 6 _ rfl))) (fun w hm => ?_)
      exact ⟨congrArg Ending.returned (bool_as (decide_eq_false (fun e => h2 (by subst e; rw [hqt] at hqu; exact Option.some.inj hqu))).symm), hm.ext⟩
    · replace h2 := of_decide_eq_true (bnot_f h2)
      refine T_skip' ?_
      refine p_blk_n ?_
      refine p_seq ?_
      refine T_region ?_
      refine TL_q (.int .i64 ((k + 1 : Nat) : Int)) (fun _ _ hρ _ => r_as (r_add (hρ _ _ rfl) (hρ _ _ rfl)) (int_as ((wrap64 (by omega) (by omega)).trans (by omega)))) rfl rfl rfl (w_n rfl) ?_
      refine TL_q (.int .i64 ((k + 1 : Nat) : Int)) (fun _ _ hρ _ => r_move (hρ _ _ rfl)) rfl rfl rfl (w_n rfl) ?_
      refine TL_nil ?_
      exact p_at (k + 1) ⟨⟨by omega, by rw [List.take_add_one, List.take_add_one, hqt, hqu, hk2, h2]⟩, by omega⟩ (sub_cons rfl (sub_cons rfl (sub_cons rfl (sub_cons rfl (sub_cons rfl sub_nil))))) sub_nil
  · replace h1 := of_decide_eq_false h1
    refine T_exit' ?_
    refine p_then_x ?_
    refine p_then_x ?_
    refine p_blk_x ?_
    refine p_seq ?_
    refine T_seq (T_region ?_)
    refine TL_q (.bool true) (fun _ _ hρ _ => r_assign (hρ _ _ rfl)) rfl rfl rfl (w_n rfl) ?_
    refine TL_seq ?_
    refine T_ret' ?_
    refine ret_of rfl (.bool true) (fun tmps w hk hm => res1 rfl (res_tmp (hk 6 _ rfl))) (fun w hm => ?_)
    have hk : k = ts.length := by omega
    subst hk
    exact ⟨congrArg Ending.returned (bool_as (decide_eq_true (by rw [← List.take_length (l := ts), ← List.take_length (l := tsd), show tsd.length = ts.length by omega]; exact hk2)).symm), hm.ext⟩

theorem eqSz (a b c d : Nat) : (decide ((a : Int) = (c : Int)) && (decide ((b : Int) = (d : Int)) && true)) = decide ((a, b) = (c, d)) := by
  by_cases h : (a, b) = (c, d)
  · injection h with h1 h2; subst h1 h2; simp
  · rw [decide_eq_false h]
    refine Bool.eq_false_iff.2 fun e => h ?_
    simp only [Bool.and_true, Bool.and_eq_true, decide_eq_true_eq] at e
    rw [show a = c by omega, show b = d by omega]
set_option maxHeartbeats 1000000 in
theorem same_eq (c d : Cv) (w : World) (hc : CvAt w c) (hd : CvAt w d) (hwe : c.wd = d.wd) (hhe : c.hg = d.hg) : Calls Try.prog 23 #[.pointer (some ⟨c.p, 0, none⟩), .pointer (some ⟨d.p, 0, none⟩)] w fun e w' => e = .returned (.bool (decide (c.ts = d.ts))) ∧ Below w.heap.size w w' := by
  obtain ⟨p, a, cap, ps, wd, hg, ts⟩ := c
  have hblk : hp w p = some (.cells #[.int .i64 (wd : Int), .int .i64 (hg : Int), .slice a ps.length cap] 85) := hc.blk
  have hrow : SliceAt w a cap 1 ptrc ps := hc.row
  have hcap : cap ≤ Go.maxLen := hc.capok
  unfold Go.maxLen at hcap
  have htl : ∀ (i q : Nat) (t : T64), ps[i]? = some q → ts[i]? = some t → hp w q = some (tilO t) := hc.tl
  have hlen : ps.length = wd * hg := hc.len
  have hlt : ts.length = ps.length := hc.len2
  have hwd : 1 ≤ wd ∧ wd ≤ 4 := hc.wd4
  have hhg : 1 ≤ hg ∧ hg ≤ 4 := hc.hg4
  have h16 := size4 hwd hhg
  have hrl := hrow.1
  obtain ⟨b, of, cs, TY, fz, ha, hcr, hrr⟩ := hrow.open (i := 0) (by omega)
  subst ha
  obtain ⟨pd, ad, capd, psd, wdd, hgd, tsd⟩ := d
  have hblkd : hp w pd = some (.cells #[.int .i64 (wdd : Int), .int .i64 (hgd : Int), .slice ad psd.length capd] 85) := hd.blk
  have hrowd : SliceAt w ad capd 1 ptrc psd := hd.row
  have hcapd : capd ≤ Go.maxLen := hd.capok
  unfold Go.maxLen at hcapd
  have htld : ∀ (i q : Nat) (t : T64), psd[i]? = some q → tsd[i]? = some t → hp w q = some (tilO t) := hd.tl
  have hlend : psd.length = wdd * hgd := hd.len
  have hltd : tsd.length = psd.length := hd.len2
  have hwdd : 1 ≤ wdd ∧ wdd ≤ 4 := hd.wd4
  have hhgd : 1 ≤ hgd ∧ hgd ≤ 4 := hd.hg4
  have h16d := size4 hwdd hhgd
  have hrld := hrowd.1
  obtain ⟨bd, ofd, csd, TYd, fzd, had, hcrd, hrrd⟩ := hrowd.open (i := 0) (by omega)
  subst had
  have hwe : wd = wdd := hwe
  have hhe : hg = hgd := hhe
  have hlen2 : ps.length = psd.length := by rw [hlen, hlend, hwe, hhe]
  refine calls_of_T (l := [.pointer (some ⟨p, 0, none⟩), .pointer (some ⟨pd, 0, none⟩)]) 34 Try.func23 rfl rfl rfl ?_
  show T _ _ _ [(0, .pointer (some ⟨p, 0, none⟩)), (1, .pointer (some ⟨pd, 0, none⟩))] []
  refine T_seq (T_region ?_)
  refine TL_q (.bool false) (fun _ _ hρ _ => r_assign (hρ _ _ rfl)) rfl rfl rfl (w_n rfl) ?_
  refine TL_seq ?_
  refine T_seq ?_
  have hse : (wd, hg) = (wdd, hgd) := by rw [hwe, hhe]
  refine T_seq (T_region ?_)
  refine TL_q (.pointer (some ⟨p, 0, none⟩)) (fun _ _ hρ _ => r_move (hρ _ _ rfl)) rfl rfl rfl (w_n rfl) ?_
  refine TL_q (.bool false) (fun _ _ hρ _ => r_as (r_eqlPn po34 (hρ _ _ rfl) (hρ _ _ rfl)) (by rfl)) rfl rfl rfl (w_n rfl) ?_
  refine TL_q (.bool false) (fun _ _ hρ _ => r_move (hρ _ _ rfl)) rfl rfl rfl (w_n rfl) ?_
  refine TL_q (.pointer (some ⟨pd, 0, none⟩)) (fun _ _ hρ _ => r_move (hρ _ _ rfl)) rfl rfl rfl (want_y 7 rfl rfl rfl) ?_
  refine TL_q (.bool false) (fun _ _ hρ _ => r_as (r_eqlPn po34 (hρ _ _ rfl) (hρ _ _ rfl)) (by rfl)) rfl rfl rfl (want_y 7 rfl rfl rfl) ?_
  refine TL_q (.bool false) (fun _ _ hρ _ => r_pick_f (hρ _ _ rfl) (hρ _ _ rfl)) rfl rfl rfl (w_n rfl) ?_
  refine TL_seq ?_
  refine T_cond_f rfl ?_
  refine T_skip' ?_
  refine p_seq ?_
  have hse : (wd, hg) = (wdd, hgd) := by rw [hwe, hhe]
  refine T_seq (T_draw (V := [(0, .pointer (some ⟨p, 0, none⟩)), (1, .pointer (some ⟨p, 0, none⟩)), (2, .pointer (some ⟨p, 0, none⟩)), (3, .agg #[.int .i64 ((wd : Nat) : Int), .int .i64 ((hg : Nat) : Int)]), (4, .pointer (some ⟨pd, 0, none⟩)), (5, .pointer (some ⟨pd, 0, none⟩)), (6, .pointer (some ⟨pd, 0, none⟩)), (7, .agg #[.int .i64 ((wdd : Nat) : Int), .int .i64 ((hgd : Nat) : Int)]), (8, .bool true), (9, .bool true), (10, .pointer (some ⟨p, 0, none⟩)), (11, .pointer (some ⟨p, 0, none⟩)), (12, .pointer (some ⟨p, 2, none⟩)), (13, .slice (some ⟨b, of, none⟩) ps.length cap), (14, .pointer (some ⟨pd, 0, none⟩)), (15, .pointer (some ⟨pd, 0, none⟩)), (16, .pointer (some ⟨pd, 2, none⟩)), (17, .slice (some ⟨bd, ofd, none⟩) psd.length capd)]) [0, 1, 3, 7, 0, 16, 48, 112, 255, 511, 1023, 2047, 4095, 8191, 1023, 17407, 50175, 115711, 262143, 524287, 1048575] [[(0, none)], [(14, some 0)], [(15, some 1)], [(16, some 2)], [(1, none)], [(18, some 4)], [(19, some 5)], [(20, some 6)], [(17, some 3), (21, some 7)], [(22, some 8)], [(0, none)], [(24, some 10)], [(25, some 11)], [(26, some 12)], [(1, none)], [(28, some 14)], [(29, some 15)], [(30, some 16)], [(27, some 13), (31, some 17)], [(32, some 18), (23, some 9)], [(33, some 19)]] 262144 mixed (by kernel_rfl) ?_)
  refine G_step [0, 1, 2, 3, 4, 5, 6, 7, 8, 9, 10, 11, 12, 13, 14, 15, 16, 17] 18 [] (by kernel_rfl) (allM (all_cons (q_run (.pointer (some ⟨p, 0, none⟩)) rfl rfl (wv_n rfl) rfl (fun _ _ hρ _ => r_move (hρ _ _ rfl))) (all_cons (q_run (.pointer (some ⟨p, 0, none⟩)) rfl rfl (wv_n rfl) rfl (fun _ _ hρ _ => r_nilCheck (hρ _ _ rfl) rfl)) (all_cons (q_run (.pointer (some ⟨p, 0, none⟩)) rfl rfl (wv_n rfl) rfl (fun _ _ hρ _ => r_fieldAddr fl85_0 sz82 (hρ _ _ rfl))) (all_cons (q_run (.agg #[.int .i64 ((wd : Nat) : Int), .int .i64 ((hg : Nat) : Int)]) rfl rfl (wv_n rfl) rfl (fun _ _ hρ hm => r_loadA ag82 sz82 (hρ _ _ rfl) (hm.old hblk) rfl rfl)) (all_cons (q_run (.pointer (some ⟨pd, 0, none⟩)) rfl rfl (wv_n rfl) rfl (fun _ _ hρ _ => r_move (hρ _ _ rfl))) (all_cons (q_run (.pointer (some ⟨pd, 0, none⟩)) rfl rfl (wv_n rfl) rfl (fun _ _ hρ _ => r_nilCheck (hρ _ _ rfl) rfl)) (all_cons (q_run (.pointer (some ⟨pd, 0, none⟩)) rfl rfl (wv_n rfl) rfl (fun _ _ hρ _ => r_fieldAddr fl85_0 sz82 (hρ _ _ rfl))) (all_cons (q_run (.agg #[.int .i64 ((wdd : Nat) : Int), .int .i64 ((hgd : Nat) : Int)]) rfl rfl (wv_n rfl) rfl (fun _ _ hρ hm => r_loadA ag82 sz82 (hρ _ _ rfl) (hm.old hblkd) rfl rfl)) (all_cons (q_run (.bool true) rfl rfl (wv_n rfl) rfl (fun _ _ hρ _ => r_as (r_as (r_eqlA (by kernel_rfl) (hρ _ _ rfl) (hρ _ _ rfl) (run_equalI (l := [(0, .i64), (1, .i64)]) (by kernel_rfl) rfl rfl)) (bool_as (eqSz wd hg wdd hgd))) (bool_as (decide_eq_true hse)))) (all_cons (q_run (.bool true) rfl rfl (wv_n rfl) rfl (fun _ _ hρ _ => r_move (hρ _ _ rfl))) (all_cons (q_run (.pointer (some ⟨p, 0, none⟩)) rfl rfl (wv_y rfl rfl) rfl (fun _ _ hρ _ => r_move (hρ _ _ rfl))) (all_cons (q_run (.pointer (some ⟨p, 0, none⟩)) rfl rfl (wv_y rfl rfl) rfl (fun _ _ hρ _ => r_nilCheck (hρ _ _ rfl) rfl)) (all_cons (q_run (.pointer (some ⟨p, 2, none⟩)) rfl rfl (wv_y rfl rfl) rfl (fun _ _ hρ _ => r_fieldAddr fl85_1 sz83 (hρ _ _ rfl))) (all_cons (q_run (.slice (some ⟨b, of, none⟩) ps.length cap) rfl rfl (wv_y rfl rfl) rfl (fun _ _ hρ hm => r_load ag83 (hρ _ _ rfl) (hm.old hblk) rfl)) (all_cons (q_run (.pointer (some ⟨pd, 0, none⟩)) rfl rfl (wv_y rfl rfl) rfl (fun _ _ hρ _ => r_move (hρ _ _ rfl))) (all_cons (q_run (.pointer (some ⟨pd, 0, none⟩)) rfl rfl (wv_y rfl rfl) rfl (fun _ _ hρ _ => r_nilCheck (hρ _ _ rfl) rfl)) (all_cons (q_run (.pointer (some ⟨pd, 2, none⟩)) rfl rfl (wv_y rfl rfl) rfl (fun _ _ hρ _ => r_fieldAddr fl85_1 sz83 (hρ _ _ rfl))) (all_cons (q_run (.slice (some ⟨bd, ofd, none⟩) psd.length capd) rfl rfl (wv_y rfl rfl) rfl (fun _ _ hρ hm => r_load ag83 (hρ _ _ rfl) (hm.old hblkd) rfl)) all_nil))))))))))))))))))) (allM (all_cons ?_ all_nil))
  refine LOb_call (.bool (decide (ts = tsd))) [(19, .bool (decide (ts = tsd))), (20, .bool (decide (ts = tsd)))] rfl (wv_y rfl rfl) rfl rfl (fun _ _ hρ _ => r_call (args := [.slice (some ⟨b, of, none⟩) ps.length cap, .slice (some ⟨bd, ofd, none⟩) psd.length capd, .func (.func 56) #[] #[]]) (enters_of Try.func55 (by kernel_rfl) rfl) (hρ _ _ rfl) ((cons2 (hρ _ _ rfl) (cons2 (hρ _ _ rfl) (cons2 (hρ _ _ rfl) rfl)))) rfl) (fun w hm => eqf_c _ _ w (hc.below hm.ext) (hd.below hm.ext) hlen2) (by kernel_rfl) ?_
  refine G_last [19, 20] [(4, .bool (decide (ts = tsd)))] (by kernel_rfl) (allM (all_cons (q_run (.bool (decide (ts = tsd))) rfl rfl (wv_n rfl) rfl (fun _ _ hρ _ => r_pick_t (hρ _ _ rfl) (hρ _ _ rfl))) (all_cons (q_run (.bool (decide (ts = tsd))) rfl rfl (wv_n rfl) rfl (fun _ _ hρ _ => r_assign (hρ _ _ rfl))) all_nil))) (end_new 20 rfl rfl end_nil) ?_
  refine T_ret' ?_
  refine ret_of rfl (.bool (decide (ts = tsd))) (fun tmps w hk hm => res1 rfl (res_tmp (hk 4 _ rfl))) (fun w hm => ?_)
  exact ⟨rfl, hm.ext⟩

end Go.Proofs.Ytmihoejecpcmjaa
/- canvas: what With does, plainly. -/
namespace Go.Proofs.Ytmihoejecpcmjaa
open Go Go.RowKit
/-- A dot. -/
structure Dt where
  x : Int
  y : Int
  c : C4
abbrev Dt.cells (d : Dt) : List Value := [.int .i64 d.x, .int .i64 d.y, .int .u8 d.c.r, .int .u8 d.c.g, .int .u8 d.c.b, .int .u8 d.c.a]
theorem Dt.cells_len (d : Dt) : d.cells.length = 6 := rfl
theorem Dt.cells_one (d : Dt) : ∀ u ∈ d.cells, u.oneCell' = true := by simp [Dt.cells, Value.oneCell']
theorem dt_ext {d e : Dt} (h1 : d.x = e.x) (h2 : d.y = e.y) (h3 : d.c = e.c) : d = e := by cases d; cases e; simp_all
instance : DecidableEq Dt := fun d e => decidable_of_iff (d.x = e.x ∧ d.y = e.y ∧ d.c = e.c) ⟨fun ⟨h1, h2, h3⟩ => dt_ext h1 h2 h3, fun e => by subst e; exact ⟨rfl, rfl, rfl⟩⟩
/-- The tile of a point; where it is there. -/
def tix (wd : Nat) (x y : Int) : Nat := y.toNat / 8 * wd + x.toNat / 8
def tpos (x y : Int) : Nat := y.toNat % 8 * 8 + x.toNat % 8
theorem tix_lt {wd hg : Nat} {x y : Int} (h : onC wd hg x y = true) : tix wd x y < wd * hg := by
  obtain ⟨u, v, rfl, rfl, hu, hv⟩ := onC_nat h
  exact idx_lt hu hv
/-- With a dot; with dots. -/
def putD (wd hg : Nat) (ts : List T64) (d : Dt) : List T64 := if onC wd hg d.x d.y then ts.set (tix wd d.x d.y) ((tileAt ts (tix wd d.x d.y)).set (tpos d.x d.y) d.c) else ts
def putDs (wd hg : Nat) (ts : List T64) (ds : List Dt) : List T64 := ds.foldl (putD wd hg) ts
theorem putD_len (wd hg : Nat) (ts : List T64) (d : Dt) : (putD wd hg ts d).length = ts.length := by
  unfold putD; split
  · exact List.length_set
  · rfl
theorem putDs_len (wd hg : Nat) (ts : List T64) (ds : List Dt) : (putDs wd hg ts ds).length = ts.length := by
  unfold putDs
  induction ds generalizing ts with
  | nil => rfl
  | cons d ds ih => rw [List.foldl_cons, ih, putD_len]
theorem putDs_step {wd hg : Nat} {ts : List T64} {ds : List Dt} {k : Nat} {u : Dt} (h : ds[k]? = some u) : putDs wd hg ts (ds.take (k + 1)) = putD wd hg (putDs wd hg ts (ds.take k)) u := by
  unfold putDs
  rw [List.take_add_one, h, List.foldl_append]; rfl
theorem putD_no {wd hg : Nat} {ts : List T64} {d : Dt} (h : ¬ onC wd hg d.x d.y = true) : putD wd hg ts d = ts := if_neg h
/-- What was copied: which tile, its block, what it shows. -/
abbrev OwE := Nat × Nat × T64
abbrev OwE.ent (e : OwE) : Nat × Option Nat := (e.1, some e.2.1)
abbrev OwE.bt (e : OwE) : Nat × T64 := e.2
abbrev natK (n : Nat) : Value := .int .i64 (n : Int)
abbrev optV (q : Option Nat) : Value := .pointer (q.map fun b => ⟨b, 0, none⟩)
structure OwnOk (ts : List T64) (own : List OwE) (cur : List T64) : Prop where
  one : own.Pairwise fun a b => a.1 ≠ b.1
  len : cur.length = ts.length
  lt : ∀ e ∈ own, e.1 < ts.length
  cur' : ∀ i t, cur[i]? = some t → (∃ q, (i, q, t) ∈ own) ∨ ((∀ e ∈ own, e.1 ≠ i) ∧ ts[i]? = some t)
theorem pw_one {own : List OwE} (h : own.Pairwise fun a b => a.1 ≠ b.1) {e f : OwE} (he : e ∈ own) (hf : f ∈ own) (h1 : e.1 = f.1) : e = f := by
  induction own with
  | nil => cases he
  | cons x l ih =>
    obtain ⟨h2, h3⟩ := List.pairwise_cons.1 h
    rcases List.mem_cons.1 he with rfl | he'
    · rcases List.mem_cons.1 hf with rfl | hf'
      · rfl
      · exact absurd h1 (h2 f hf')
    · rcases List.mem_cons.1 hf with rfl | hf'
      · exact absurd h1.symm (h2 e he')
      · exact ih h3 he' hf'
theorem own_in {own : List OwE} (h : own.Pairwise fun a b => a.1 ≠ b.1) {n q : Nat} {t : T64} (hin : (n, q, t) ∈ own) : getM none n (own.map OwE.ent) = some q := by
  induction own with
  | nil => cases hin
  | cons x l ih =>
    obtain ⟨h2, h3⟩ := List.pairwise_cons.1 h
    show (if n = x.1 then some x.2.1 else getM none n (l.map OwE.ent)) = some q
    rcases List.mem_cons.1 hin with rfl | hin'
    · rw [if_pos rfl]
    · rw [if_neg (fun e => h2 _ hin' e.symm), ih h3 hin']
theorem own_out {own : List OwE} {n : Nat} (h : ¬ ∃ e ∈ own, e.1 = n) : getM none n (own.map OwE.ent) = none := by
  induction own with
  | nil => rfl
  | cons x l ih =>
    show (if n = x.1 then some x.2.1 else getM none n (l.map OwE.ent)) = none
    rw [if_neg (fun e => h ⟨x, List.mem_cons_self, e.symm⟩), ih (fun ⟨e, he, h1⟩ => h ⟨e, List.mem_cons_of_mem _ he, h1⟩)]
theorem put_out {own : List OwE} {n q : Nat} (t : T64) (h : ¬ ∃ e ∈ own, e.1 = n) : putM n (some q) (own.map OwE.ent) = (own ++ [(n, q, t)]).map OwE.ent := by
  induction own with
  | nil => rfl
  | cons x l ih =>
    show (if n = x.1 then (x.1, some q) :: l.map OwE.ent else (x.1, some x.2.1) :: putM n (some q) (l.map OwE.ent)) = _
    rw [if_neg (fun e => h ⟨x, List.mem_cons_self, e.symm⟩), ih (fun ⟨e, he, h1⟩ => h ⟨e, List.mem_cons_of_mem _ he, h1⟩)]
    rfl
def updO (own : List OwE) (n : Nat) (t : T64) : List OwE := own.map fun e => if e.1 = n then (e.1, e.2.1, t) else e
theorem upd_ent (own : List OwE) (n : Nat) (t : T64) : (updO own n t).map OwE.ent = own.map OwE.ent := by
  unfold updO
  rw [List.map_map]
  refine List.map_congr_left fun e _ => ?_
  show OwE.ent (if e.1 = n then (e.1, e.2.1, t) else e) = _
  split <;> rfl
theorem own_push {ts cur : List T64} {own : List OwE} (h : OwnOk ts own cur) {n q : Nat} {t : T64} (hno : ¬ ∃ e ∈ own, e.1 = n) (ht : ts[n]? = some t) : OwnOk ts (own ++ [(n, q, t)]) cur := by
  refine ⟨List.pairwise_append.2 ⟨h.one, List.pairwise_singleton _ _, fun a ha b hb => ?_⟩, h.len, fun e he => ?_, fun i u hu => ?_⟩
  · rw [List.mem_singleton.1 hb]; exact fun e => hno ⟨a, ha, e⟩
  · rcases List.mem_append.1 he with h1 | h1
    · exact h.lt e h1
    · rw [List.mem_singleton.1 h1]; exact (List.getElem?_eq_some_iff.1 ht).1
  · rcases h.cur' i u hu with ⟨r, hr⟩ | ⟨h1, h2⟩
    · exact .inl ⟨r, List.mem_append_left _ hr⟩
    · by_cases e : i = n
      · subst e
        rw [ht] at h2; cases h2
        exact .inl ⟨q, List.mem_append_right _ (List.mem_singleton.2 rfl)⟩
      · refine .inr ⟨fun f hf => ?_, h2⟩
        rcases List.mem_append.1 hf with h3 | h3
        · exact h1 f h3
        · rw [List.mem_singleton.1 h3]; exact fun e2 => e e2.symm
theorem own_cur {ts cur : List T64} {own : List OwE} (h : OwnOk ts own cur) {n q : Nat} {t : T64} (hin : (n, q, t) ∈ own) (hn : n < ts.length) : cur[n]? = some t := by
  obtain ⟨u, hu⟩ : ∃ u, cur[n]? = some u := ⟨_, List.getElem?_eq_getElem (by rw [h.len]; exact hn)⟩
  rcases h.cur' n u hu with ⟨r, hr⟩ | ⟨h1, _⟩
  · have := pw_one h.one hin hr rfl
    cases this; exact hu
  · exact absurd rfl (h1 _ hin)
theorem own_step {wd hg : Nat} {ts cur : List T64} {own : List OwE} (h : OwnOk ts own cur) {u : Dt} {q : Nat} {t : T64} (hon : onC wd hg u.x u.y = true) (hl : ts.length = wd * hg) (hin : (tix wd u.x u.y, q, t) ∈ own) :
    OwnOk ts (updO own (tix wd u.x u.y) (t.set (tpos u.x u.y) u.c)) (putD wd hg cur u) := by
  have hn : tix wd u.x u.y < ts.length := by rw [hl]; exact tix_lt hon
  have hc := own_cur h hin hn
  have hp : putD wd hg cur u = cur.set (tix wd u.x u.y) (t.set (tpos u.x u.y) u.c) := by
    unfold putD
    rw [if_pos hon, tileAt_some hc]
  rw [hp]
  refine ⟨?_, by rw [List.length_set, h.len], fun e he => ?_, fun i v hv => ?_⟩
  · unfold updO
    refine List.pairwise_map.2 (h.one.imp fun {a b} hab => ?_)
    show (if a.1 = _ then (a.1, a.2.1, _) else a).1 ≠ (if b.1 = _ then (b.1, b.2.1, _) else b).1
    split <;> split <;> exact hab
  · obtain ⟨g, hg', rfl⟩ := List.mem_map.1 he
    show (if g.1 = _ then (g.1, g.2.1, _) else g).1 < _
    split <;> exact h.lt g hg'
  · by_cases e : i = tix wd u.x u.y
    · subst e
      rw [List.getElem?_set_self (by rw [h.len]; exact hn)] at hv
      cases hv
      refine .inl ⟨q, List.mem_map.2 ⟨_, hin, ?_⟩⟩
      exact if_pos rfl
    · rw [List.getElem?_set_ne (Ne.symm e)] at hv
      rcases h.cur' i v hv with ⟨r, hr⟩ | ⟨h1, h2⟩
      · exact .inl ⟨r, List.mem_map.2 ⟨_, hr, if_neg e⟩⟩
      · refine .inr ⟨fun f hf => ?_, h2⟩
        obtain ⟨g, hg', rfl⟩ := List.mem_map.1 hf
        show (if g.1 = _ then (g.1, g.2.1, _) else g).1 ≠ i
        split <;> exact h1 g hg'
/-- Blocks that differ, told of two entries. -/
theorem bt_ne {own : List OwE} (h : own.Pairwise fun a b => (OwE.bt a).1 ≠ (OwE.bt b).1) {e f : OwE} (he : e ∈ own) (hf : f ∈ own) (h1 : e.2.1 = f.2.1) : e = f := by
  induction own with
  | nil => cases he
  | cons x l ih =>
    obtain ⟨h2, h3⟩ := List.pairwise_cons.1 h
    rcases List.mem_cons.1 he with rfl | he'
    · rcases List.mem_cons.1 hf with rfl | hf'
      · rfl
      · exact absurd h1 (h2 f hf')
    · rcases List.mem_cons.1 hf with rfl | hf'
      · exact absurd h1.symm (h2 e he')
      · exact ih h3 he' hf'
theorem tls_upd {own : List OwE} {n q : Nat} {t t1 : T64} {w w' : World} (hin : (n, q, t) ∈ own) (h1 : own.Pairwise fun a b => a.1 ≠ b.1) (h : tlsH OwE.bt own w) (hu : Upd w q (tilO t1) w') : tlsH OwE.bt (updO own n t1) w' := by
  refine ⟨fun e he => ?_, ?_⟩
  · obtain ⟨f, hf, rfl⟩ := List.mem_map.1 he
    by_cases e1 : f.1 = n
    · have : f = (n, q, t) := pw_one h1 hf hin e1
      subst this
      show hp w' (if n = n then (n, q, t1) else (n, q, t)).2.1 = some (tilO (if n = n then (n, q, t1) else (n, q, t)).2.2)
      rw [if_pos rfl]; exact hu.this
    · show hp w' (if f.1 = n then (f.1, f.2.1, t1) else f).2.1 = some (tilO (if f.1 = n then (f.1, f.2.1, t1) else f).2.2)
      rw [if_neg e1, hu.other _ (fun e2 => e1 (by have := bt_ne h.2 hf hin e2; rw [this]))]
      exact h.1 f hf
  · unfold updO
    refine List.pairwise_map.2 (h.2.imp fun {a b} hab => ?_)
    show (if a.1 = n then (a.1, a.2.1, t1) else a).2.1 ≠ (if b.1 = n then (b.1, b.2.1, t1) else b).2.1
    split <;> split <;> exact hab
theorem tlsF_upd (own : List OwE) (n : Nat) (t : T64) : tlsF OwE.bt (updO own n t) = tlsF OwE.bt own := by
  funext b
  refine propext ⟨?_, ?_⟩
  · rintro ⟨e, he, rfl⟩
    obtain ⟨f, hf, rfl⟩ := List.mem_map.1 he
    refine ⟨f, hf, ?_⟩
    show f.2.1 = (if f.1 = n then (f.1, f.2.1, t) else f).2.1
    split <;> rfl
  · rintro ⟨f, hf, rfl⟩
    refine ⟨_, List.mem_map.2 ⟨f, hf, rfl⟩, ?_⟩
    show (if f.1 = n then (f.1, f.2.1, t) else f).2.1 = f.2.1
    split <;> rfl
section
variable {P : Program} {w₀ w : World} {L : Heap} {ρ : Operand → Value} {ty : TypeId} {ps : String} {af : Array Edge} {g : Option (Nat × Bool)}
theorem o_storeTl {x y : Operand} {ty' : TypeId} {own : List OwE} {n q : Nat} {t t1 : T64} (i : Nat) (hi : lk L i = some (.tls OwE.bt own)) (hin : (n, q, t) ∈ own) (h1 : own.Pairwise fun a b => a.1 ≠ b.1) (hx : ρ x = .pointer (some ⟨q, 0, none⟩)) (hy : ρ y = til t1.l) (hs : szOf P ty' = some 256) (hm : MemOk w₀ L w) :
    ∃ w', (execOp ρ (mk none (.store ty' x y) ty ps af g)).run P w = .ok .skip w' ∧ MemOk w₀ ((i, .tls OwE.bt (updO own n t1)) :: L) w' := by
  have := o_storeAbs (P := P) (ty := ty) (ps := ps) (af := af) (g := g) (cs' := lst C4.cells t1.l) (H' := tlsH OwE.bt (updO own n t1)) i hi hx hy hs ⟨_, hin, rfl⟩ (hm.tl i hi hin) (tsz t.h) rfl (tsz t1.h) (lst_one C4.cells_all _) (fun w' hw hu => tls_upd hin h1 hw hu)
    (fun w1 w2 hw hb => tls_keep w1 w2 hw (fun b hF => hb b (by rw [tlsF_upd] at hF; exact hF))) hm
  unfold Res.tls
  rw [tlsF_upd]
  exact this
end
/-! ### what is taken over -/
structure RowOk (ts : List T64) (own : List OwE) (ps : List Nat) (seen : List Nat) (rs : List Nat) : Prop where
  len : rs.length = ps.length
  nd : seen.Nodup
  lt : ∀ j ∈ seen, j < own.length
  yes : ∀ i q t t0, (∃ j ∈ seen, own[j]? = some (i, q, t)) → ts[i]? = some t0 → t ≠ t0 → rs[i]? = some q
  no : ∀ i, (∀ q t t0, (∃ j ∈ seen, own[j]? = some (i, q, t)) → ts[i]? = some t0 → t = t0) → rs[i]? = ps[i]?
theorem row_zero (ts : List T64) (own : List OwE) (ps : List Nat) : RowOk ts own ps [] ps :=
  ⟨rfl, List.nodup_nil, (fun _ h => nomatch h), (fun _ _ _ _ ⟨_, h, _⟩ => nomatch h), fun _ _ => rfl⟩
theorem nodup_le : ∀ (n : Nat) (l : List Nat), l.Nodup → (∀ x ∈ l, x < n) → l.length ≤ n
  | 0, l, _, h => by
    cases l with
    | nil => exact Nat.le_refl _
    | cons x l => exact absurd (h x List.mem_cons_self) (Nat.not_lt_zero _)
  | n + 1, l, hd, h => by
    by_cases hn : n ∈ l
    · have := nodup_le n (l.erase n) (hd.erase n) (fun x hx => by
        have h1 := (hd.mem_erase_iff).1 hx
        have := h x h1.2
        have := h1.1
        omega)
      rw [List.length_erase_of_mem hn] at this
      omega
    · have := nodup_le n l hd (fun x hx => by
        have := h x hx
        have : x ≠ n := fun e => hn (e ▸ hx)
        omega)
      omega
theorem nodup_push {seen : List Nat} {j : Nat} (h : seen.Nodup) (hj : j ∉ seen) : (seen ++ [j]).Nodup :=
  List.nodup_append.2 ⟨h, List.nodup_cons.2 ⟨(fun h => nomatch h), List.nodup_nil⟩, fun a ha b hb => by rw [List.mem_singleton.1 hb]; exact fun e => hj (e ▸ ha)⟩
theorem row_lt {ts : List T64} {own : List OwE} {ps seen rs : List Nat} (h : RowOk ts own ps seen rs) {j : Nat} (hj : j ∉ seen) (hl : j < own.length) : seen.length < own.length := by
  have := nodup_le own.length (seen ++ [j]) (nodup_push h.nd hj) (fun x hx => by
    rcases List.mem_append.1 hx with h1 | h1
    · exact h.lt x h1
    · rw [List.mem_singleton.1 h1]; exact hl)
  rw [List.length_append, List.length_singleton] at this
  omega
section
variable {ts : List T64} {own : List OwE} {ps seen rs : List Nat} {i j q : Nat} {t t0 : T64}
theorem row_put (h : RowOk ts own ps seen rs) (hp : own.Pairwise fun a b => a.1 ≠ b.1) (hj : j ∉ seen) (ho : own[j]? = some (i, q, t)) (ht : ts[i]? = some t0) (hne : ¬ t = t0) (hi : i < ps.length) : RowOk ts own ps (seen ++ [j]) (rs.set i q) := by
  have hm := List.mem_of_getElem? ho
  refine ⟨by rw [List.length_set, h.len], nodup_push h.nd hj, fun x hx => ?_, fun i' q' t' t0' ⟨j', hj', ho'⟩ ht' hne' => ?_, fun i' hno => ?_⟩
  · rcases List.mem_append.1 hx with h1 | h1
    · exact h.lt x h1
    · rw [List.mem_singleton.1 h1]; exact (List.getElem?_eq_some_iff.1 ho).1
  · by_cases e : i' = i
    · subst e
      have := pw_one hp (List.mem_of_getElem? ho') hm rfl
      cases this
      exact List.getElem?_set_self (by rw [h.len]; exact hi)
    · rw [List.getElem?_set_ne (Ne.symm e)]
      rcases List.mem_append.1 hj' with h1 | h1
      · exact h.yes i' q' t' t0' ⟨j', h1, ho'⟩ ht' hne'
      · rw [List.mem_singleton.1 h1, ho] at ho'; cases ho'; exact absurd rfl e
  · by_cases e : i' = i
    · subst e
      exact absurd (hno q t t0 ⟨j, List.mem_append_right _ (List.mem_singleton.2 rfl), ho⟩ ht) hne
    · rw [List.getElem?_set_ne (Ne.symm e)]
      exact h.no i' fun q' t' t0' ⟨j', hj', ho'⟩ ht' => hno q' t' t0' ⟨j', List.mem_append_left _ hj', ho'⟩ ht'
theorem row_same (h : RowOk ts own ps seen rs) (hp : own.Pairwise fun a b => a.1 ≠ b.1) (hj : j ∉ seen) (ho : own[j]? = some (i, q, t)) (ht : ts[i]? = some t0) (he : t = t0) : RowOk ts own ps (seen ++ [j]) rs := by
  have hm := List.mem_of_getElem? ho
  refine ⟨h.len, nodup_push h.nd hj, fun x hx => ?_, fun i' q' t' t0' ⟨j', hj', ho'⟩ ht' hne' => ?_, fun i' hno => ?_⟩
  · rcases List.mem_append.1 hx with h1 | h1
    · exact h.lt x h1
    · rw [List.mem_singleton.1 h1]; exact (List.getElem?_eq_some_iff.1 ho).1
  · rcases List.mem_append.1 hj' with h1 | h1
    · exact h.yes i' q' t' t0' ⟨j', h1, ho'⟩ ht' hne'
    · rw [List.mem_singleton.1 h1, ho] at ho'; cases ho'
      rw [ht] at ht'; cases ht'
      exact absurd he hne'
  · exact h.no i' fun q' t' t0' ⟨j', hj', ho'⟩ ht' => hno q' t' t0' ⟨j', List.mem_append_left _ hj', ho'⟩ ht'
end
/-- Which tiles a version shares with the one that it was made of. -/
def Shares (n : Nat) (c d : Cv) : Prop := ∀ (i q : Nat), c.ps[i]? = some q → ∃ r, d.ps[i]? = some r ∧ (r = q ↔ c.ts[i]? = d.ts[i]?) ∧ (r = q ∨ n ≤ r)
/-- What each tile is at the end, and where. -/
theorem row_done {ts cur : List T64} {own : List OwE} {ps seen rs : List Nat} (h : RowOk ts own ps seen rs) (ho : OwnOk ts own cur) (hall : ∀ j, j < own.length → j ∈ seen) (hl : ts.length = ps.length) {i q : Nat} (hq : ps[i]? = some q) :
    ∃ r t t0, rs[i]? = some r ∧ cur[i]? = some t ∧ ts[i]? = some t0 ∧ ((t = t0 ∧ r = q) ∨ (t ≠ t0 ∧ (i, r, t) ∈ own)) := by
  have hi := (List.getElem?_eq_some_iff.1 hq).1
  obtain ⟨t0, ht0⟩ : ∃ t, ts[i]? = some t := ⟨_, List.getElem?_eq_getElem (by omega)⟩
  obtain ⟨t, ht⟩ : ∃ t, cur[i]? = some t := ⟨_, List.getElem?_eq_getElem (by rw [ho.len]; omega)⟩
  have mem : ∀ {r u}, (i, r, u) ∈ own → ∃ j ∈ seen, own[j]? = some (i, r, u) := fun hm => by
    obtain ⟨j, hj⟩ := List.getElem?_of_mem hm
    exact ⟨j, hall j (List.getElem?_eq_some_iff.1 hj).1, hj⟩
  rcases ho.cur' i t ht with ⟨r, hr⟩ | ⟨h1, h2⟩
  · by_cases e : t = t0
    · refine ⟨q, t, t0, ?_, ht, ht0, .inl ⟨e, rfl⟩⟩
      rw [h.no i (fun q' t' t0' ⟨j', hj', ho'⟩ ht' => ?_), hq]
      have := pw_one ho.one (List.mem_of_getElem? ho') hr rfl
      cases this
      rw [ht0] at ht'; cases ht'; exact e
    · exact ⟨r, t, t0, h.yes i r t t0 (mem hr) ht0 e, ht, ht0, .inr ⟨e, hr⟩⟩
  · rw [ht0] at h2; cases h2
    refine ⟨q, _, _, ?_, ht, ht0, .inl ⟨rfl, rfl⟩⟩
    rw [h.no i (fun q' t' t0' ⟨j', hj', ho'⟩ ht' => absurd rfl (h1 _ (List.mem_of_getElem? ho'))), hq]
end Go.Proofs.Ytmihoejecpcmjaa
/- canvas: maps by whole numbers. -/
namespace Go.Proofs.Ytmihoejecpcmjaa
open Go Go.RowKit
set_option maxRecDepth 10000
theorem nat_dec (x y : Nat) : decide ((x : Int) = (y : Int)) = decide (x = y) := by
  by_cases h : x = y
  · subst h; simp
  · rw [decide_eq_false h, decide_eq_false (by omega)]
theorem keyN : KeyOk Try.prog 3 natK where
  und := ⟨_, rfl, .inr fun x y => congrArg some (nat_dec x y)⟩
  eq x y w := by
    refine Eq.trans ?_ (congrArg (fun b => Result.ok b w) (nat_dec x y))
    kernel_rfl
  chk b x w := by kernel_rfl
  same x := by show Instr.sameBits 10000 (.int .i64 (x : Int)) (.int .i64 (x : Int)) = true; simp [Instr.sameBits]
theorem with_one {t : T64} {c : C4} {px py : Nat} (hx : px < 8) (hy : py < 8) : withR t.l c [⟨(px : Int), (py : Int)⟩] = some (t.set (py * 8 + px) c).l := by
  have h : isP (px : Int) (py : Int) = true := decide_eq_true ⟨by omega, by omega, by omega, by omega⟩
  unfold withR
  rw [if_pos (by simp [Pt.inn, h])]
  show some (putL t.l (px : Int) (py : Int) c) = _
  rw [putL_at hx hy]; rfl
end Go.Proofs.Ytmihoejecpcmjaa
