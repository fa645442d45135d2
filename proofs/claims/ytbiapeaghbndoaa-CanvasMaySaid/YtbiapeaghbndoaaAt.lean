/- canvas: sizes, places, At. Printed by a program of this seat's prover. -/
import Derived.Test.YtbiapeaghbndoaaCv
namespace Go.Proofs.Ytbiapeaghbndoaa
open Go Go.RowKit
set_option maxRecDepth 10000
def mayI (w h : Int) : Bool := decide (1 ≤ w ∧ w ≤ 4 ∧ 1 ≤ h ∧ h ≤ 4)
theorem mayI_nat {w h : Int} (e : mayI w h = true) : ∃ m n : Nat, w = m ∧ h = n ∧ (1 ≤ m ∧ m ≤ 4) ∧ 1 ≤ n ∧ n ≤ 4 := by
  have e := of_decide_eq_true e
  exact ⟨w.toNat, h.toNat, by omega, by omega, by omega, by omega⟩
theorem mayI_of {m n : Nat} (hm : 1 ≤ m ∧ m ≤ 4) (hn : 1 ≤ n ∧ n ≤ 4) : mayI m n = true := decide_eq_true (by omega)

theorem may_c (x y : Int) (w : World) : Calls Try.prog 77 #[.agg #[.int .i64 x, .int .i64 y]] w fun e w' => e = .returned (.bool (mayI x y)) ∧ Below w.heap.size w w' := by
  refine calls_of_T (l := [.agg #[.int .i64 x, .int .i64 y]]) 21 Try.func77 rfl rfl rfl ?_
  show T _ _ _ [(0, .agg #[.int .i64 x, .int .i64 y])] []
  refine T_seq (T_region ?_)
  refine TL_new 1 (.cells #[.int .i64 x, .int .i64 y] 109) (fun B => .pointer (some ⟨B, 0, none⟩)) (fun _ _ hρ _ => r_box (hρ _ _ rfl) rfl) rfl rfl rfl (w_n rfl) ?_
  intro B1
  refine TL_q (.bool false) (fun _ _ hρ _ => r_assign (hρ _ _ rfl)) rfl rfl rfl (w_n rfl) ?_
  refine TL_seq ?_
  by_cases c1 : (1 : Int) ≤ x
  · skip
    by_cases c2 : x ≤ 4
    · skip
      by_cases c3 : (1 : Int) ≤ y
      · skip
        by_cases c4 : y ≤ 4
        · skip
          refine T_seq (T_region ?_)
          refine TL_q (.pointer (some ⟨B1, 0, none⟩)) (fun _ _ hρ _ => r_fieldAddr fl109_0 sz3 (hρ _ _ rfl)) rfl rfl rfl (w_n rfl) ?_
          refine TL_q (.int .i64 x) (fun _ _ hρ hm => r_load ag3 (hρ _ _ rfl) (hm.at 1 rfl) rfl) rfl rfl rfl (w_n rfl) ?_
          refine TL_q (.bool true) (fun _ _ hρ _ => r_as (r_geq (hρ _ _ rfl) (hρ _ _ rfl)) (bool_as (decide_eq_true c1))) rfl rfl rfl (w_n rfl) ?_
          refine TL_q (.bool true) (fun _ _ hρ _ => r_move (hρ _ _ rfl)) rfl rfl rfl (w_n rfl) ?_
          refine TL_q (.pointer (some ⟨B1, 0, none⟩)) (fun _ _ hρ _ => r_fieldAddr fl109_0 sz3 (hρ _ _ rfl)) rfl rfl rfl (want_y 6 rfl rfl rfl) ?_
          refine TL_q (.int .i64 x) (fun _ _ hρ hm => r_load ag3 (hρ _ _ rfl) (hm.at 1 rfl) rfl) rfl rfl rfl (want_y 6 rfl rfl rfl) ?_
          refine TL_q (.bool true) (fun _ _ hρ _ => r_as (r_leq (hρ _ _ rfl) (hρ _ _ rfl)) (bool_as (decide_eq_true c2))) rfl rfl rfl (want_y 6 rfl rfl rfl) ?_
          refine TL_q (.bool true) (fun _ _ hρ _ => r_pick_t (hρ _ _ rfl) (hρ _ _ rfl)) rfl rfl rfl (w_n rfl) ?_
          refine TL_q (.bool true) (fun _ _ hρ _ => r_move (hρ _ _ rfl)) rfl rfl rfl (w_n rfl) ?_
          refine TL_q (.pointer (some ⟨B1, 1, none⟩)) (fun _ _ hρ _ => r_fieldAddr fl109_1 sz3 (hρ _ _ rfl)) rfl rfl rfl (want_y 11 rfl rfl rfl) ?_
          refine TL_q (.int .i64 y) (fun _ _ hρ hm => r_load ag3 (hρ _ _ rfl) (hm.at 1 rfl) rfl) rfl rfl rfl (want_y 11 rfl rfl rfl) ?_
          refine TL_q (.bool true) (fun _ _ hρ _ => r_as (r_geq (hρ _ _ rfl) (hρ _ _ rfl)) (bool_as (decide_eq_true c3))) rfl rfl rfl (want_y 11 rfl rfl rfl) ?_
          refine TL_q (.bool true) (fun _ _ hρ _ => r_pick_t (hρ _ _ rfl) (hρ _ _ rfl)) rfl rfl rfl (w_n rfl) ?_
          refine TL_q (.bool true) (fun _ _ hρ _ => r_move (hρ _ _ rfl)) rfl rfl rfl (w_n rfl) ?_
          refine TL_q (.pointer (some ⟨B1, 1, none⟩)) (fun _ _ hρ _ => r_fieldAddr fl109_1 sz3 (hρ _ _ rfl)) rfl rfl rfl (want_y 16 rfl rfl rfl) ?_
          refine TL_q (.int .i64 y) (fun _ _ hρ hm => r_load ag3 (hρ _ _ rfl) (hm.at 1 rfl) rfl) rfl rfl rfl (want_y 16 rfl rfl rfl) ?_
          refine TL_q (.bool true) (fun _ _ hρ _ => r_as (r_leq (hρ _ _ rfl) (hρ _ _ rfl)) (bool_as (decide_eq_true c4))) rfl rfl rfl (want_y 16 rfl rfl rfl) ?_
          refine TL_q (.bool true) (fun _ _ hρ _ => r_pick_t (hρ _ _ rfl) (hρ _ _ rfl)) rfl rfl rfl (w_n rfl) ?_
          refine TL_q (.bool true) (fun _ _ hρ _ => r_assign (hρ _ _ rfl)) rfl rfl rfl (w_n rfl) ?_
          refine TL_seq ?_
          refine T_ret' ?_
          refine ret_of rfl (.bool true) (fun tmps w hk hm => res1 rfl (res_tmp (hk 2 _ rfl))) (fun w hm => ?_)
          exact ⟨congrArg Ending.returned (bool_as (decide_eq_true (by omega)).symm), hm.ext⟩
        · skip
          refine T_seq (T_region ?_)
          refine TL_q (.pointer (some ⟨B1, 0, none⟩)) (fun _ _ hρ _ => r_fieldAddr fl109_0 sz3 (hρ _ _ rfl)) rfl rfl rfl (w_n rfl) ?_
          refine TL_q (.int .i64 x) (fun _ _ hρ hm => r_load ag3 (hρ _ _ rfl) (hm.at 1 rfl) rfl) rfl rfl rfl (w_n rfl) ?_
          refine TL_q (.bool true) (fun _ _ hρ _ => r_as (r_geq (hρ _ _ rfl) (hρ _ _ rfl)) (bool_as (decide_eq_true c1))) rfl rfl rfl (w_n rfl) ?_
          refine TL_q (.bool true) (fun _ _ hρ _ => r_move (hρ _ _ rfl)) rfl rfl rfl (w_n rfl) ?_
          refine TL_q (.pointer (some ⟨B1, 0, none⟩)) (fun _ _ hρ _ => r_fieldAddr fl109_0 sz3 (hρ _ _ rfl)) rfl rfl rfl (want_y 6 rfl rfl rfl) ?_
          refine TL_q (.int .i64 x) (fun _ _ hρ hm => r_load ag3 (hρ _ _ rfl) (hm.at 1 rfl) rfl) rfl rfl rfl (want_y 6 rfl rfl rfl) ?_
          refine TL_q (.bool true) (fun _ _ hρ _ => r_as (r_leq (hρ _ _ rfl) (hρ _ _ rfl)) (bool_as (decide_eq_true c2))) rfl rfl rfl (want_y 6 rfl rfl rfl) ?_
          refine TL_q (.bool true) (fun _ _ hρ _ => r_pick_t (hρ _ _ rfl) (hρ _ _ rfl)) rfl rfl rfl (w_n rfl) ?_
          refine TL_q (.bool true) (fun _ _ hρ _ => r_move (hρ _ _ rfl)) rfl rfl rfl (w_n rfl) ?_
          refine TL_q (.pointer (some ⟨B1, 1, none⟩)) (fun _ _ hρ _ => r_fieldAddr fl109_1 sz3 (hρ _ _ rfl)) rfl rfl rfl (want_y 11 rfl rfl rfl) ?_
          refine TL_q (.int .i64 y) (fun _ _ hρ hm => r_load ag3 (hρ _ _ rfl) (hm.at 1 rfl) rfl) rfl rfl rfl (want_y 11 rfl rfl rfl) ?_
          refine TL_q (.bool true) (fun _ _ hρ _ => r_as (r_geq (hρ _ _ rfl) (hρ _ _ rfl)) (bool_as (decide_eq_true c3))) rfl rfl rfl (want_y 11 rfl rfl rfl) ?_
          refine TL_q (.bool true) (fun _ _ hρ _ => r_pick_t (hρ _ _ rfl) (hρ _ _ rfl)) rfl rfl rfl (w_n rfl) ?_
          refine TL_q (.bool true) (fun _ _ hρ _ => r_move (hρ _ _ rfl)) rfl rfl rfl (w_n rfl) ?_
          refine TL_q (.pointer (some ⟨B1, 1, none⟩)) (fun _ _ hρ _ => r_fieldAddr fl109_1 sz3 (hρ _ _ rfl)) rfl rfl rfl (want_y 16 rfl rfl rfl) ?_
          refine TL_q (.int .i64 y) (fun _ _ hρ hm => r_load ag3 (hρ _ _ rfl) (hm.at 1 rfl) rfl) rfl rfl rfl (want_y 16 rfl rfl rfl) ?_
          refine TL_q (.bool false) (fun _ _ hρ _ => r_as (r_leq (hρ _ _ rfl) (hρ _ _ rfl)) (bool_as (decide_eq_false c4))) rfl rfl rfl (want_y 16 rfl rfl rfl) ?_
          refine TL_q (.bool false) (fun _ _ hρ _ => r_pick_t (hρ _ _ rfl) (hρ _ _ rfl)) rfl rfl rfl (w_n rfl) ?_
          refine TL_q (.bool false) (fun _ _ hρ _ => r_assign (hρ _ _ rfl)) rfl rfl rfl (w_n rfl) ?_
          refine TL_seq ?_
          refine T_ret' ?_
          refine ret_of rfl (.bool false) (fun tmps w hk hm => res1 rfl (res_tmp (hk 2 _ rfl))) (fun w hm => ?_)
          exact ⟨congrArg Ending.returned (bool_as (decide_eq_false (by omega)).symm), hm.ext⟩
      · skip
        by_cases c4 : y ≤ 4
        · skip
          refine T_seq (T_region ?_)
          refine TL_q (.pointer (some ⟨B1, 0, none⟩)) (fun _ _ hρ _ => r_fieldAddr fl109_0 sz3 (hρ _ _ rfl)) rfl rfl rfl (w_n rfl) ?_
          refine TL_q (.int .i64 x) (fun _ _ hρ hm => r_load ag3 (hρ _ _ rfl) (hm.at 1 rfl) rfl) rfl rfl rfl (w_n rfl) ?_
          refine TL_q (.bool true) (fun _ _ hρ _ => r_as (r_geq (hρ _ _ rfl) (hρ _ _ rfl)) (bool_as (decide_eq_true c1))) rfl rfl rfl (w_n rfl) ?_
          refine TL_q (.bool true) (fun _ _ hρ _ => r_move (hρ _ _ rfl)) rfl rfl rfl (w_n rfl) ?_
          refine TL_q (.pointer (some ⟨B1, 0, none⟩)) (fun _ _ hρ _ => r_fieldAddr fl109_0 sz3 (hρ _ _ rfl)) rfl rfl rfl (want_y 6 rfl rfl rfl) ?_
          refine TL_q (.int .i64 x) (fun _ _ hρ hm => r_load ag3 (hρ _ _ rfl) (hm.at 1 rfl) rfl) rfl rfl rfl (want_y 6 rfl rfl rfl) ?_
          refine TL_q (.bool true) (fun _ _ hρ _ => r_as (r_leq (hρ _ _ rfl) (hρ _ _ rfl)) (bool_as (decide_eq_true c2))) rfl rfl rfl (want_y 6 rfl rfl rfl) ?_
          refine TL_q (.bool true) (fun _ _ hρ _ => r_pick_t (hρ _ _ rfl) (hρ _ _ rfl)) rfl rfl rfl (w_n rfl) ?_
          refine TL_q (.bool true) (fun _ _ hρ _ => r_move (hρ _ _ rfl)) rfl rfl rfl (w_n rfl) ?_
          refine TL_q (.pointer (some ⟨B1, 1, none⟩)) (fun _ _ hρ _ => r_fieldAddr fl109_1 sz3 (hρ _ _ rfl)) rfl rfl rfl (want_y 11 rfl rfl rfl) ?_
          refine TL_q (.int .i64 y) (fun _ _ hρ hm => r_load ag3 (hρ _ _ rfl) (hm.at 1 rfl) rfl) rfl rfl rfl (want_y 11 rfl rfl rfl) ?_
          refine TL_q (.bool false) (fun _ _ hρ _ => r_as (r_geq (hρ _ _ rfl) (hρ _ _ rfl)) (bool_as (decide_eq_false c3))) rfl rfl rfl (want_y 11 rfl rfl rfl) ?_
          refine TL_q (.bool false) (fun _ _ hρ _ => r_pick_t (hρ _ _ rfl) (hρ _ _ rfl)) rfl rfl rfl (w_n rfl) ?_
          refine TL_q (.bool false) (fun _ _ hρ _ => r_move (hρ _ _ rfl)) rfl rfl rfl (w_n rfl) ?_
          refine TL_no rfl rfl (want_n 16 rfl rfl rfl) ?_
          refine TL_no rfl rfl (want_n 16 rfl rfl rfl) ?_
          refine TL_no rfl rfl (want_n 16 rfl rfl rfl) ?_
          refine TL_q (.bool false) (fun _ _ hρ _ => r_pick_f (hρ _ _ rfl) (hρ _ _ rfl)) rfl rfl rfl (w_n rfl) ?_
          refine TL_q (.bool false) (fun _ _ hρ _ => r_assign (hρ _ _ rfl)) rfl rfl rfl (w_n rfl) ?_
          refine TL_seq ?_
          refine T_ret' ?_
          refine ret_of rfl (.bool false) (fun tmps w hk hm => res1 rfl (res_tmp (hk 2 _ rfl))) (fun w hm => ?_)
          exact ⟨congrArg Ending.returned (bool_as (decide_eq_false (by omega)).symm), hm.ext⟩
        · skip
          refine T_seq (T_region ?_)
          refine TL_q (.pointer (some ⟨B1, 0, none⟩)) (fun _ _ hρ _ => r_fieldAddr fl109_0 sz3 (hρ _ _ rfl)) rfl rfl rfl (w_n rfl) ?_
          refine TL_q (.int .i64 x) (fun _ _ hρ hm => r_load ag3 (hρ _ _ rfl) (hm.at 1 rfl) rfl) rfl rfl rfl (w_n rfl) ?_
          refine TL_q (.bool true) (fun _ _ hρ _ => r_as (r_geq (hρ _ _ rfl) (hρ _ _ rfl)) (bool_as (decide_eq_true c1))) rfl rfl rfl (w_n rfl) ?_
          refine TL_q (.bool true) (fun _ _ hρ _ => r_move (hρ _ _ rfl)) rfl rfl rfl (w_n rfl) ?_
          refine TL_q (.pointer (some ⟨B1, 0, none⟩)) (fun _ _ hρ _ => r_fieldAddr fl109_0 sz3 (hρ _ _ rfl)) rfl rfl rfl (want_y 6 rfl rfl rfl) ?_
          refine TL_q (.int .i64 x) (fun _ _ hρ hm => r_load ag3 (hρ _ _ rfl) (hm.at 1 rfl) rfl) rfl rfl rfl (want_y 6 rfl rfl rfl) ?_
          refine TL_q (.bool true) (fun _ _ hρ _ => r_as (r_leq (hρ _ _ rfl) (hρ _ _ rfl)) (bool_as (decide_eq_true c2))) rfl rfl rfl (want_y 6 rfl rfl rfl) ?_
          refine TL_q (.bool true) (fun _ _ hρ _ => r_pick_t (hρ _ _ rfl) (hρ _ _ rfl)) rfl rfl rfl (w_n rfl) ?_
          refine TL_q (.bool true) (fun _ _ hρ _ => r_move (hρ _ _ rfl)) rfl rfl rfl (w_n rfl) ?_
          refine TL_q (.pointer (some ⟨B1, 1, none⟩)) (fun _ _ hρ _ => r_fieldAddr fl109_1 sz3 (hρ _ _ rfl)) rfl rfl rfl (want_y 11 rfl rfl rfl) ?_
          refine TL_q (.int .i64 y) (fun _ _ hρ hm => r_load ag3 (hρ _ _ rfl) (hm.at 1 rfl) rfl) rfl rfl rfl (want_y 11 rfl rfl rfl) ?_
          refine TL_q (.bool false) (fun _ _ hρ _ => r_as (r_geq (hρ _ _ rfl) (hρ _ _ rfl)) (bool_as (decide_eq_false c3))) rfl rfl rfl (want_y 11 rfl rfl rfl) ?_
          refine TL_q (.bool false) (fun _ _ hρ _ => r_pick_t (hρ _ _ rfl) (hρ _ _ rfl)) rfl rfl rfl (w_n rfl) ?_
          refine TL_q (.bool false) (fun _ _ hρ _ => r_move (hρ _ _ rfl)) rfl rfl rfl (w_n rfl) ?_
          refine TL_no rfl rfl (want_n 16 rfl rfl rfl) ?_
          refine TL_no rfl rfl (want_n 16 rfl rfl rfl) ?_
          refine TL_no rfl rfl (want_n 16 rfl rfl rfl) ?_
          refine TL_q (.bool false) (fun _ _ hρ _ => r_pick_f (hρ _ _ rfl) (hρ _ _ rfl)) rfl rfl rfl (w_n rfl) ?_
          refine TL_q (.bool false) (fun _ _ hρ _ => r_assign (hρ _ _ rfl)) rfl rfl rfl (w_n rfl) ?_
          refine TL_seq ?_
          refine T_ret' ?_
          refine ret_of rfl (.bool false) (fun tmps w hk hm => res1 rfl (res_tmp (hk 2 _ rfl))) (fun w hm => ?_)
          exact ⟨congrArg Ending.returned (bool_as (decide_eq_false (by omega)).symm), hm.ext⟩
    · skip
      by_cases c3 : (1 : Int) ≤ y
      · skip
        by_cases c4 : y ≤ 4
        · skip
          refine T_seq (T_region ?_)
          refine TL_q (.pointer (some ⟨B1, 0, none⟩)) (fun _ _ hρ _ => r_fieldAddr fl109_0 sz3 (hρ _ _ rfl)) rfl rfl rfl (w_n rfl) ?_
          refine TL_q (.int .i64 x) (fun _ _ hρ hm => r_load ag3 (hρ _ _ rfl) (hm.at 1 rfl) rfl) rfl rfl rfl (w_n rfl) ?_
          refine TL_q (.bool true) (fun _ _ hρ _ => r_as (r_geq (hρ _ _ rfl) (hρ _ _ rfl)) (bool_as (decide_eq_true c1))) rfl rfl rfl (w_n rfl) ?_
          refine TL_q (.bool true) (fun _ _ hρ _ => r_move (hρ _ _ rfl)) rfl rfl rfl (w_n rfl) ?_
          refine TL_q (.pointer (some ⟨B1, 0, none⟩)) (fun _ _ hρ _ => r_fieldAddr fl109_0 sz3 (hρ _ _ rfl)) rfl rfl rfl (want_y 6 rfl rfl rfl) ?_
          refine TL_q (.int .i64 x) (fun _ _ hρ hm => r_load ag3 (hρ _ _ rfl) (hm.at 1 rfl) rfl) rfl rfl rfl (want_y 6 rfl rfl rfl) ?_
          refine TL_q (.bool false) (fun _ _ hρ _ => r_as (r_leq (hρ _ _ rfl) (hρ _ _ rfl)) (bool_as (decide_eq_false c2))) rfl rfl rfl (want_y 6 rfl rfl rfl) ?_
          refine TL_q (.bool false) (fun _ _ hρ _ => r_pick_t (hρ _ _ rfl) (hρ _ _ rfl)) rfl rfl rfl (w_n rfl) ?_
          refine TL_q (.bool false) (fun _ _ hρ _ => r_move (hρ _ _ rfl)) rfl rfl rfl (w_n rfl) ?_
          refine TL_no rfl rfl (want_n 11 rfl rfl rfl) ?_
          refine TL_no rfl rfl (want_n 11 rfl rfl rfl) ?_
          refine TL_no rfl rfl (want_n 11 rfl rfl rfl) ?_
          refine TL_q (.bool false) (fun _ _ hρ _ => r_pick_f (hρ _ _ rfl) (hρ _ _ rfl)) rfl rfl rfl (w_n rfl) ?_
          refine TL_q (.bool false) (fun _ _ hρ _ => r_move (hρ _ _ rfl)) rfl rfl rfl (w_n rfl) ?_
          refine TL_no rfl rfl (want_n 16 rfl rfl rfl) ?_
          refine TL_no rfl rfl (want_n 16 rfl rfl rfl) ?_
          refine TL_no rfl rfl (want_n 16 rfl rfl rfl) ?_
          refine TL_q (.bool false) (fun _ _ hρ _ => r_pick_f (hρ _ _ rfl) (hρ _ _ rfl)) rfl rfl rfl (w_n rfl) ?_
          refine TL_q (.bool false) (fun _ _ hρ _ => r_assign (hρ _ _ rfl)) rfl rfl rfl (w_n rfl) ?_
          refine TL_seq ?_
          refine T_ret' ?_
          refine ret_of rfl (.bool false) (fun tmps w hk hm => res1 rfl (res_tmp (hk 2 _ rfl))) (fun w hm => ?_)
          exact ⟨congrArg Ending.returned (bool_as (decide_eq_false (by omega)).symm), hm.ext⟩
        · skip
          refine T_seq (T_region ?_)
          refine TL_q (.pointer (some ⟨B1, 0, none⟩)) (fun _ _ hρ _ => r_fieldAddr fl109_0 sz3 (hρ _ _ rfl)) rfl rfl rfl (w_n rfl) ?_
          refine TL_q (.int .i64 x) (fun _ _ hρ hm => r_load ag3 (hρ _ _ rfl) (hm.at 1 rfl) rfl) rfl rfl rfl (w_n rfl) ?_
          refine TL_q (.bool true) (fun _ _ hρ _ => r_as (r_geq (hρ _ _ rfl) (hρ _ _ rfl)) (bool_as (decide_eq_true c1))) rfl rfl rfl (w_n rfl) ?_
          refine TL_q (.bool true) (fun _ _ hρ _ => r_move (hρ _ _ rfl)) rfl rfl rfl (w_n rfl) ?_
          refine TL_q (.pointer (some ⟨B1, 0, none⟩)) (fun _ _ hρ _ => r_fieldAddr fl109_0 sz3 (hρ _ _ rfl)) rfl rfl rfl (want_y 6 rfl rfl rfl) ?_
          refine TL_q (.int .i64 x) (fun _ _ hρ hm => r_load ag3 (hρ _ _ rfl) (hm.at 1 rfl) rfl) rfl rfl rfl (want_y 6 rfl rfl rfl) ?_
          refine TL_q (.bool false) (fun _ _ hρ _ => r_as (r_leq (hρ _ _ rfl) (hρ _ _ rfl)) (bool_as (decide_eq_false c2))) rfl rfl rfl (want_y 6 rfl rfl rfl) ?_
          refine TL_q (.bool false) (fun _ _ hρ _ => r_pick_t (hρ _ _ rfl) (hρ _ _ rfl)) rfl rfl rfl (w_n rfl) ?_
          refine TL_q (.bool false) (fun _ _ hρ _ => r_move (hρ _ _ rfl)) rfl rfl rfl (w_n rfl) ?_
          refine TL_no rfl rfl (want_n 11 rfl rfl rfl) ?_
          refine TL_no rfl rfl (want_n 11 rfl rfl rfl) ?_
          refine TL_no rfl rfl (want_n 11 rfl rfl rfl) ?_
          refine TL_q (.bool false) (fun _ _ hρ _ => r_pick_f (hρ _ _ rfl) (hρ _ _ rfl)) rfl rfl rfl (w_n rfl) ?_
          refine TL_q (.bool false) (fun _ _ hρ _ => r_move (hρ _ _ rfl)) rfl rfl rfl (w_n rfl) ?_
          refine TL_no rfl rfl (want_n 16 rfl rfl rfl) ?_
          refine TL_no rfl rfl (want_n 16 rfl rfl rfl) ?_
          refine TL_no rfl rfl (want_n 16 rfl rfl rfl) ?_
          refine TL_q (.bool false) (fun _ _ hρ _ => r_pick_f (hρ _ _ rfl) (hρ _ _ rfl)) rfl rfl rfl (w_n rfl) ?_
          refine TL_q (.bool false) (fun _ _ hρ _ => r_assign (hρ _ _ rfl)) rfl rfl rfl (w_n rfl) ?_
          refine TL_seq ?_
          refine T_ret' ?_
          refine ret_of rfl (.bool false) (fun tmps w hk hm => res1 rfl (res_tmp (hk 2 _ rfl))) (fun w hm => ?_)
          exact ⟨congrArg Ending.returned (bool_as (decide_eq_false (by omega)).symm), hm.ext⟩
      · skip
        by_cases c4 : y ≤ 4
        · skip
          refine T_seq (T_region ?_)
          refine TL_q (.pointer (some ⟨B1, 0, none⟩)) (fun _ _ hρ _ => r_fieldAddr fl109_0 sz3 (hρ _ _ rfl)) rfl rfl rfl (w_n rfl) ?_
          refine TL_q (.int .i64 x) (fun _ _ hρ hm => r_load ag3 (hρ _ _ rfl) (hm.at 1 rfl) rfl) rfl rfl rfl (w_n rfl) ?_
          refine TL_q (.bool true) (fun _ _ hρ _ => r_as (r_geq (hρ _ _ rfl) (hρ _ _ rfl)) (bool_as (decide_eq_true c1))) rfl rfl rfl (w_n rfl) ?_
          refine TL_q (.bool true) (fun _ _ hρ _ => r_move (hρ _ _ rfl)) rfl rfl rfl (w_n rfl) ?_
          refine TL_q (.pointer (some ⟨B1, 0, none⟩)) (fun _ _ hρ _ => r_fieldAddr fl109_0 sz3 (hρ _ _ rfl)) rfl rfl rfl (want_y 6 rfl rfl rfl) ?_
          refine TL_q (.int .i64 x) (fun _ _ hρ hm => r_load ag3 (hρ _ _ rfl) (hm.at 1 rfl) rfl) rfl rfl rfl (want_y 6 rfl rfl rfl) ?_
          refine TL_q (.bool false) (fun _ _ hρ _ => r_as (r_leq (hρ _ _ rfl) (hρ _ _ rfl)) (bool_as (decide_eq_false c2))) rfl rfl rfl (want_y 6 rfl rfl rfl) ?_
          refine TL_q (.bool false) (fun _ _ hρ _ => r_pick_t (hρ _ _ rfl) (hρ _ _ rfl)) rfl rfl rfl (w_n rfl) ?_
          refine TL_q (.bool false) (fun _ _ hρ _ => r_move (hρ _ _ rfl)) rfl rfl rfl (w_n rfl) ?_
          refine TL_no rfl rfl (want_n 11 rfl rfl rfl) ?_
          refine TL_no rfl rfl (want_n 11 rfl rfl rfl) ?_
          refine TL_no rfl rfl (want_n 11 rfl rfl rfl) ?_
          refine TL_q (.bool false) (fun _ _ hρ _ => r_pick_f (hρ _ _ rfl) (hρ _ _ rfl)) rfl rfl rfl (w_n rfl) ?_
          refine TL_q (.bool false) (fun _ _ hρ _ => r_move (hρ _ _ rfl)) rfl rfl rfl (w_n rfl) ?_
          refine TL_no rfl rfl (want_n 16 rfl rfl rfl) ?_
          refine TL_no rfl rfl (want_n 16 rfl rfl rfl) ?_
          refine TL_no rfl rfl (want_n 16 rfl rfl rfl) ?_
          refine TL_q (.bool false) (fun _ _ hρ _ => r_pick_f (hρ _ _ rfl) (hρ _ _ rfl)) rfl rfl rfl (w_n rfl) ?_
          refine TL_q (.bool false) (fun _ _ hρ _ => r_assign (hρ _ _ rfl)) rfl rfl rfl (w_n rfl) ?_
          refine TL_seq ?_
          refine T_ret' ?_
          refine ret_of rfl (.bool false) (fun tmps w hk hm => res1 rfl (res_tmp (hk 2 _ rfl))) (fun w hm => ?_)
          exact ⟨congrArg Ending.returned (bool_as (decide_eq_false (by omega)).symm), hm.ext⟩
        · skip
          refine T_seq (T_region ?_)
          refine TL_q (.pointer (some ⟨B1, 0, none⟩)) (fun _ _ hρ _ => r_fieldAddr fl109_0 sz3 (hρ _ _ rfl)) rfl rfl rfl (w_n rfl) ?_
          refine TL_q (.int .i64 x) (fun _ _ hρ hm => r_load ag3 (hρ _ _ rfl) (hm.at 1 rfl) rfl) rfl rfl rfl (w_n rfl) ?_
          refine TL_q (.bool true) (fun _ _ hρ _ => r_as (r_geq (hρ _ _ rfl) (hρ _ _ rfl)) (bool_as (decide_eq_true c1))) rfl rfl rfl (w_n rfl) ?_
          refine TL_q (.bool true) (fun _ _ hρ _ => r_move (hρ _ _ rfl)) rfl rfl rfl (w_n rfl) ?_
          refine TL_q (.pointer (some ⟨B1, 0, none⟩)) (fun _ _ hρ _ => r_fieldAddr fl109_0 sz3 (hρ _ _ rfl)) rfl rfl rfl (want_y 6 rfl rfl rfl) ?_
          refine TL_q (.int .i64 x) (fun _ _ hρ hm => r_load ag3 (hρ _ _ rfl) (hm.at 1 rfl) rfl) rfl rfl rfl (want_y 6 rfl rfl rfl) ?_
          refine TL_q (.bool false) (fun _ _ hρ _ => r_as (r_leq (hρ _ _ rfl) (hρ _ _ rfl)) (bool_as (decide_eq_false c2))) rfl rfl rfl (want_y 6 rfl rfl rfl) ?_
          refine TL_q (.bool false) (fun _ _ hρ _ => r_pick_t (hρ _ _ rfl) (hρ _ _ rfl)) rfl rfl rfl (w_n rfl) ?_
          refine TL_q (.bool false) (fun _ _ hρ _ => r_move (hρ _ _ rfl)) rfl rfl rfl (w_n rfl) ?_
          refine TL_no rfl rfl (want_n 11 rfl rfl rfl) ?_
          refine TL_no rfl rfl (want_n 11 rfl rfl rfl) ?_
          refine TL_no rfl rfl (want_n 11 rfl rfl rfl) ?_
          refine TL_q (.bool false) (fun _ _ hρ _ => r_pick_f (hρ _ _ rfl) (hρ _ _ rfl)) rfl rfl rfl (w_n rfl) ?_
          refine TL_q (.bool false) (fun _ _ hρ _ => r_move (hρ _ _ rfl)) rfl rfl rfl (w_n rfl) ?_
          refine TL_no rfl rfl (want_n 16 rfl rfl rfl) ?_
          refine TL_no rfl rfl (want_n 16 rfl rfl rfl) ?_
          refine TL_no rfl rfl (want_n 16 rfl rfl rfl) ?_
          refine TL_q (.bool false) (fun _ _ hρ _ => r_pick_f (hρ _ _ rfl) (hρ _ _ rfl)) rfl rfl rfl (w_n rfl) ?_
          refine TL_q (.bool false) (fun _ _ hρ _ => r_assign (hρ _ _ rfl)) rfl rfl rfl (w_n rfl) ?_
          refine TL_seq ?_
          refine T_ret' ?_
          refine ret_of rfl (.bool false) (fun tmps w hk hm => res1 rfl (res_tmp (hk 2 _ rfl))) (fun w hm => ?_)
          exact ⟨congrArg Ending.returned (bool_as (decide_eq_false (by omega)).symm), hm.ext⟩
  · skip
    by_cases c2 : x ≤ 4
    · skip
      by_cases c3 : (1 : Int) ≤ y
      · skip
        by_cases c4 : y ≤ 4
        · skip
          refine T_seq (T_region ?_)
          refine TL_q (.pointer (some ⟨B1, 0, none⟩)) (fun _ _ hρ _ => r_fieldAddr fl109_0 sz3 (hρ _ _ rfl)) rfl rfl rfl (w_n rfl) ?_
          refine TL_q (.int .i64 x) (fun _ _ hρ hm => r_load ag3 (hρ _ _ rfl) (hm.at 1 rfl) rfl) rfl rfl rfl (w_n rfl) ?_
          refine TL_q (.bool false) (fun _ _ hρ _ => r_as (r_geq (hρ _ _ rfl) (hρ _ _ rfl)) (bool_as (decide_eq_false c1))) rfl rfl rfl (w_n rfl) ?_
          refine TL_q (.bool false) (fun _ _ hρ _ => r_move (hρ _ _ rfl)) rfl rfl rfl (w_n rfl) ?_
          refine TL_no rfl rfl (want_n 6 rfl rfl rfl) ?_
          refine TL_no rfl rfl (want_n 6 rfl rfl rfl) ?_
          refine TL_no rfl rfl (want_n 6 rfl rfl rfl) ?_
          refine TL_q (.bool false) (fun _ _ hρ _ => r_pick_f (hρ _ _ rfl) (hρ _ _ rfl)) rfl rfl rfl (w_n rfl) ?_
          refine TL_q (.bool false) (fun _ _ hρ _ => r_move (hρ _ _ rfl)) rfl rfl rfl (w_n rfl) ?_
          refine TL_no rfl rfl (want_n 11 rfl rfl rfl) ?_
          refine TL_no rfl rfl (want_n 11 rfl rfl rfl) ?_
          refine TL_no rfl rfl (want_n 11 rfl rfl rfl) ?_
          refine TL_q (.bool false) (fun _ _ hρ _ => r_pick_f (hρ _ _ rfl) (hρ _ _ rfl)) rfl rfl rfl (w_n rfl) ?_
          refine TL_q (.bool false) (fun _ _ hρ _ => r_move (hρ _ _ rfl)) rfl rfl rfl (w_n rfl) ?_
          refine TL_no rfl rfl (want_n 16 rfl rfl rfl) ?_
          refine TL_no rfl rfl (want_n 16 rfl rfl rfl) ?_
          refine TL_no rfl rfl (want_n 16 rfl rfl rfl) ?_
          refine TL_q (.bool false) (fun _ _ hρ _ => r_pick_f (hρ _ _ rfl) (hρ _ _ rfl)) rfl rfl rfl (w_n rfl) ?_
          refine TL_q (.bool false) (fun _ _ hρ _ => r_assign (hρ _ _ rfl)) rfl rfl rfl (w_n rfl) ?_
          refine TL_seq ?_
          refine T_ret' ?_
          refine ret_of rfl (.bool false) (fun tmps w hk hm => res1 rfl (res_tmp (hk 2 _ rfl))) (fun w hm => ?_)
          exact ⟨congrArg Ending.returned (bool_as (decide_eq_false (by omega)).symm), hm.ext⟩
        · skip
          refine T_seq (T_region ?_)
          refine TL_q (.pointer (some ⟨B1, 0, none⟩)) (fun _ _ hρ _ => r_fieldAddr fl109_0 sz3 (hρ _ _ rfl)) rfl rfl rfl (w_n rfl) ?_
          refine TL_q (.int .i64 x) (fun _ _ hρ hm => r_load ag3 (hρ _ _ rfl) (hm.at 1 rfl) rfl) rfl rfl rfl (w_n rfl) ?_
          refine TL_q (.bool false) (fun _ _ hρ _ => r_as (r_geq (hρ _ _ rfl) (hρ _ _ rfl)) (bool_as (decide_eq_false c1))) rfl rfl rfl (w_n rfl) ?_
          refine TL_q (.bool false) (fun _ _ hρ _ => r_move (hρ _ _ rfl)) rfl rfl rfl (w_n rfl) ?_
          refine TL_no rfl rfl (want_n 6 rfl rfl rfl) ?_
          refine TL_no rfl rfl (want_n 6 rfl rfl rfl) ?_
          refine TL_no rfl rfl (want_n 6 rfl rfl rfl) ?_
          refine TL_q (.bool false) (fun _ _ hρ _ => r_pick_f (hρ _ _ rfl) (hρ _ _ rfl)) rfl rfl rfl (w_n rfl) ?_
          refine TL_q (.bool false) (fun _ _ hρ _ => r_move (hρ _ _ rfl)) rfl rfl rfl (w_n rfl) ?_
          refine TL_no rfl rfl (want_n 11 rfl rfl rfl) ?_
          refine TL_no rfl rfl (want_n 11 rfl rfl rfl) ?_
          refine TL_no rfl rfl (want_n 11 rfl rfl rfl) ?_
          refine TL_q (.bool false) (fun _ _ hρ _ => r_pick_f (hρ _ _ rfl) (hρ _ _ rfl)) rfl rfl rfl (w_n rfl) ?_
          refine TL_q (.bool false) (fun _ _ hρ _ => r_move (hρ _ _ rfl)) rfl rfl rfl (w_n rfl) ?_
          refine TL_no rfl rfl (want_n 16 rfl rfl rfl) ?_
          refine TL_no rfl rfl (want_n 16 rfl rfl rfl) ?_
          refine TL_no rfl rfl (want_n 16 rfl rfl rfl) ?_
          refine TL_q (.bool false) (fun _ _ hρ _ => r_pick_f (hρ _ _ rfl) (hρ _ _ rfl)) rfl rfl rfl (w_n rfl) ?_
          refine TL_q (.bool false) (fun _ _ hρ _ => r_assign (hρ _ _ rfl)) rfl rfl rfl (w_n rfl) ?_
          refine TL_seq ?_
          refine T_ret' ?_
          refine ret_of rfl (.bool false) (fun tmps w hk hm => res1 rfl (res_tmp (hk 2 _ rfl))) (fun w hm => ?_)
          exact ⟨congrArg Ending.returned (bool_as (decide_eq_false (by omega)).symm), hm.ext⟩
      · skip
        by_cases c4 : y ≤ 4
        · skip
          refine T_seq (T_region ?_)
          refine TL_q (.pointer (some ⟨B1, 0, none⟩)) (fun _ _ hρ _ => r_fieldAddr fl109_0 sz3 (hρ _ _ rfl)) rfl rfl rfl (w_n rfl) ?_
          refine TL_q (.int .i64 x) (fun _ _ hρ hm => r_load ag3 (hρ _ _ rfl) (hm.at 1 rfl) rfl) rfl rfl rfl (w_n rfl) ?_
          refine TL_q (.bool false) (fun _ _ hρ _ => r_as (r_geq (hρ _ _ rfl) (hρ _ _ rfl)) (bool_as (decide_eq_false c1))) rfl rfl rfl (w_n rfl) ?_
          refine TL_q (.bool false) (fun _ _ hρ _ => r_move (hρ _ _ rfl)) rfl rfl rfl (w_n rfl) ?_
          refine TL_no rfl rfl (want_n 6 rfl rfl rfl) ?_
          refine TL_no rfl rfl (want_n 6 rfl rfl rfl) ?_
          refine TL_no rfl rfl (want_n 6 rfl rfl rfl) ?_
          refine TL_q (.bool false) (fun _ _ hρ _ => r_pick_f (hρ _ _ rfl) (hρ _ _ rfl)) rfl rfl rfl (w_n rfl) ?_
          refine TL_q (.bool false) (fun _ _ hρ _ => r_move (hρ _ _ rfl)) rfl rfl rfl (w_n rfl) ?_
          refine TL_no rfl rfl (want_n 11 rfl rfl rfl) ?_
          refine TL_no rfl rfl (want_n 11 rfl rfl rfl) ?_
          refine TL_no rfl rfl (want_n 11 rfl rfl rfl) ?_
          refine TL_q (.bool false) (fun _ _ hρ _ => r_pick_f (hρ _ _ rfl) (hρ _ _ rfl)) rfl rfl rfl (w_n rfl) ?_
          refine TL_q (.bool false) (fun _ _ hρ _ => r_move (hρ _ _ rfl)) rfl rfl rfl (w_n rfl) ?_
          refine TL_no rfl rfl (want_n 16 rfl rfl rfl) ?_
          refine TL_no rfl rfl (want_n 16 rfl rfl rfl) ?_
          refine TL_no rfl rfl (want_n 16 rfl rfl rfl) ?_
          refine TL_q (.bool false) (fun _ _ hρ _ => r_pick_f (hρ _ _ rfl) (hρ _ _ rfl)) rfl rfl rfl (w_n rfl) ?_
          refine TL_q (.bool false) (fun _ _ hρ _ => r_assign (hρ _ _ rfl)) rfl rfl rfl (w_n rfl) ?_
          refine TL_seq ?_
          refine T_ret' ?_
          refine ret_of rfl (.bool false) (fun tmps w hk hm => res1 rfl (res_tmp (hk 2 _ rfl))) (fun w hm => ?_)
          exact ⟨congrArg Ending.returned (bool_as (decide_eq_false (by omega)).symm), hm.ext⟩
        · skip
          refine T_seq (T_region ?_)
          refine TL_q (.pointer (some ⟨B1, 0, none⟩)) (fun _ _ hρ _ => r_fieldAddr fl109_0 sz3 (hρ _ _ rfl)) rfl rfl rfl (w_n rfl) ?_
          refine TL_q (.int .i64 x) (fun _ _ hρ hm => r_load ag3 (hρ _ _ rfl) (hm.at 1 rfl) rfl) rfl rfl rfl (w_n rfl) ?_
          refine TL_q (.bool false) (fun _ _ hρ _ => r_as (r_geq (hρ _ _ rfl) (hρ _ _ rfl)) (bool_as (decide_eq_false c1))) rfl rfl rfl (w_n rfl) ?_
          refine TL_q (.bool false) (fun _ _ hρ _ => r_move (hρ _ _ rfl)) rfl rfl rfl (w_n rfl) ?_
          refine TL_no rfl rfl (want_n 6 rfl rfl rfl) ?_
          refine TL_no rfl rfl (want_n 6 rfl rfl rfl) ?_
          refine TL_no rfl rfl (want_n 6 rfl rfl rfl) ?_
          refine TL_q (.bool false) (fun _ _ hρ _ => r_pick_f (hρ _ _ rfl) (hρ _ _ rfl)) rfl rfl rfl (w_n rfl) ?_
          refine TL_q (.bool false) (fun _ _ hρ _ => r_move (hρ _ _ rfl)) rfl rfl rfl (w_n rfl) ?_
          refine TL_no rfl rfl (want_n 11 rfl rfl rfl) ?_
          refine TL_no rfl rfl (want_n 11 rfl rfl rfl) ?_
          refine TL_no rfl rfl (want_n 11 rfl rfl rfl) ?_
          refine TL_q (.bool false) (fun _ _ hρ _ => r_pick_f (hρ _ _ rfl) (hρ _ _ rfl)) rfl rfl rfl (w_n rfl) ?_
          refine TL_q (.bool false) (fun _ _ hρ _ => r_move (hρ _ _ rfl)) rfl rfl rfl (w_n rfl) ?_
          refine TL_no rfl rfl (want_n 16 rfl rfl rfl) ?_
          refine TL_no rfl rfl (want_n 16 rfl rfl rfl) ?_
          refine TL_no rfl rfl (want_n 16 rfl rfl rfl) ?_
          refine TL_q (.bool false) (fun _ _ hρ _ => r_pick_f (hρ _ _ rfl) (hρ _ _ rfl)) rfl rfl rfl (w_n rfl) ?_
          refine TL_q (.bool false) (fun _ _ hρ _ => r_assign (hρ _ _ rfl)) rfl rfl rfl (w_n rfl) ?_
          refine TL_seq ?_
          refine T_ret' ?_
          refine ret_of rfl (.bool false) (fun tmps w hk hm => res1 rfl (res_tmp (hk 2 _ rfl))) (fun w hm => ?_)
          exact ⟨congrArg Ending.returned (bool_as (decide_eq_false (by omega)).symm), hm.ext⟩
    · skip
      by_cases c3 : (1 : Int) ≤ y
      · skip
        by_cases c4 : y ≤ 4
        · skip
          refine T_seq (T_region ?_)
          refine TL_q (.pointer (some ⟨B1, 0, none⟩)) (fun _ _ hρ _ => r_fieldAddr fl109_0 sz3 (hρ _ _ rfl)) rfl rfl rfl (w_n rfl) ?_
          refine TL_q (.int .i64 x) (fun _ _ hρ hm => r_load ag3 (hρ _ _ rfl) (hm.at 1 rfl) rfl) rfl rfl rfl (w_n rfl) ?_
          refine TL_q (.bool false) (fun _ _ hρ _ => r_as (r_geq (hρ _ _ rfl) (hρ _ _ rfl)) (bool_as (decide_eq_false c1))) rfl rfl rfl (w_n rfl) ?_
          refine TL_q (.bool false) (fun _ _ hρ _ => r_move (hρ _ _ rfl)) rfl rfl rfl (w_n rfl) ?_
          refine TL_no rfl rfl (want_n 6 rfl rfl rfl) ?_
          refine TL_no rfl rfl (want_n 6 rfl rfl rfl) ?_
          refine TL_no rfl rfl (want_n 6 rfl rfl rfl) ?_
          refine TL_q (.bool false) (fun _ _ hρ _ => r_pick_f (hρ _ _ rfl) (hρ _ _ rfl)) rfl rfl rfl (w_n rfl) ?_
          refine TL_q (.bool false) (fun _ _ hρ _ => r_move (hρ _ _ rfl)) rfl rfl rfl (w_n rfl) ?_
          refine TL_no rfl rfl (want_n 11 rfl rfl rfl) ?_
          refine TL_no rfl rfl (want_n 11 rfl rfl rfl) ?_
          refine TL_no rfl rfl (want_n 11 rfl rfl rfl) ?_
          refine TL_q (.bool false) (fun _ _ hρ _ => r_pick_f (hρ _ _ rfl) (hρ _ _ rfl)) rfl rfl rfl (w_n rfl) ?_
          refine TL_q (.bool false) (fun _ _ hρ _ => r_move (hρ _ _ rfl)) rfl rfl rfl (w_n rfl) ?_
          refine TL_no rfl rfl (want_n 16 rfl rfl rfl) ?_
          refine TL_no rfl rfl (want_n 16 rfl rfl rfl) ?_
          refine TL_no rfl rfl (want_n 16 rfl rfl rfl) ?_
          refine TL_q (.bool false) (fun _ _ hρ _ => r_pick_f (hρ _ _ rfl) (hρ _ _ rfl)) rfl rfl rfl (w_n rfl) ?_
          refine TL_q (.bool false) (fun _ _ hρ _ => r_assign (hρ _ _ rfl)) rfl rfl rfl (w_n rfl) ?_
          refine TL_seq ?_
          refine T_ret' ?_
          refine ret_of rfl (.bool false) (fun tmps w hk hm => res1 rfl (res_tmp (hk 2 _ rfl))) (fun w hm => ?_)
          exact ⟨congrArg Ending.returned (bool_as (decide_eq_false (by omega)).symm), hm.ext⟩
        · skip
          refine T_seq (T_region ?_)
          refine TL_q (.pointer (some ⟨B1, 0, none⟩)) (fun _ _ hρ _ => r_fieldAddr fl109_0 sz3 (hρ _ _ rfl)) rfl rfl rfl (w_n rfl) ?_
          refine TL_q (.int .i64 x) (fun _ _ hρ hm => r_load ag3 (hρ _ _ rfl) (hm.at 1 rfl) rfl) rfl rfl rfl (w_n rfl) ?_
          refine TL_q (.bool false) (fun _ _ hρ _ => r_as (r_geq (hρ _ _ rfl) (hρ _ _ rfl)) (bool_as (decide_eq_false c1))) rfl rfl rfl (w_n rfl) ?_
          refine TL_q (.bool false) (fun _ _ hρ _ => r_move (hρ _ _ rfl)) rfl rfl rfl (w_n rfl) ?_
          refine TL_no rfl rfl (want_n 6 rfl rfl rfl) ?_
          refine TL_no rfl rfl (want_n 6 rfl rfl rfl) ?_
          refine TL_no rfl rfl (want_n 6 rfl rfl rfl) ?_
          refine TL_q (.bool false) (fun _ _ hρ _ => r_pick_f (hρ _ _ rfl) (hρ _ _ rfl)) rfl rfl rfl (w_n rfl) ?_
          refine TL_q (.bool false) (fun _ _ hρ _ => r_move (hρ _ _ rfl)) rfl rfl rfl (w_n rfl) ?_
          refine TL_no rfl rfl (want_n 11 rfl rfl rfl) ?_
          refine TL_no rfl rfl (want_n 11 rfl rfl rfl) ?_
          refine TL_no rfl rfl (want_n 11 rfl rfl rfl) ?_
          refine TL_q (.bool false) (fun _ _ hρ _ => r_pick_f (hρ _ _ rfl) (hρ _ _ rfl)) rfl rfl rfl (w_n rfl) ?_
          refine TL_q (.bool false) (fun _ _ hρ _ => r_move (hρ _ _ rfl)) rfl rfl rfl (w_n rfl) ?_
          refine TL_no rfl rfl (want_n 16 rfl rfl rfl) ?_
          refine TL_no rfl rfl (want_n 16 rfl rfl rfl) ?_
          refine TL_no rfl rfl (want_n 16 rfl rfl rfl) ?_
          refine TL_q (.bool false) (fun _ _ hρ _ => r_pick_f (hρ _ _ rfl) (hρ _ _ rfl)) rfl rfl rfl (w_n rfl) ?_
          refine TL_q (.bool false) (fun _ _ hρ _ => r_assign (hρ _ _ rfl)) rfl rfl rfl (w_n rfl) ?_
          refine TL_seq ?_
          refine T_ret' ?_
          refine ret_of rfl (.bool false) (fun tmps w hk hm => res1 rfl (res_tmp (hk 2 _ rfl))) (fun w hm => ?_)
          exact ⟨congrArg Ending.returned (bool_as (decide_eq_false (by omega)).symm), hm.ext⟩
      · skip
        by_cases c4 : y ≤ 4
        · skip
          refine T_seq (T_region ?_)
          refine TL_q (.pointer (some ⟨B1, 0, none⟩)) (fun _ _ hρ _ => r_fieldAddr fl109_0 sz3 (hρ _ _ rfl)) rfl rfl rfl (w_n rfl) ?_
          refine TL_q (.int .i64 x) (fun _ _ hρ hm => r_load ag3 (hρ _ _ rfl) (hm.at 1 rfl) rfl) rfl rfl rfl (w_n rfl) ?_
          refine TL_q (.bool false) (fun _ _ hρ _ => r_as (r_geq (hρ _ _ rfl) (hρ _ _ rfl)) (bool_as (decide_eq_false c1))) rfl rfl rfl (w_n rfl) ?_
          refine TL_q (.bool false) (fun _ _ hρ _ => r_move (hρ _ _ rfl)) rfl rfl rfl (w_n rfl) ?_
          refine TL_no rfl rfl (want_n 6 rfl rfl rfl) ?_
          refine TL_no rfl rfl (want_n 6 rfl rfl rfl) ?_
          refine TL_no rfl rfl (want_n 6 rfl rfl rfl) ?_
          refine TL_q (.bool false) (fun _ _ hρ _ => r_pick_f (hρ _ _ rfl) (hρ _ _ rfl)) rfl rfl rfl (w_n rfl) ?_
          refine TL_q (.bool false) (fun _ _ hρ _ => r_move (hρ _ _ rfl)) rfl rfl rfl (w_n rfl) ?_
          refine TL_no rfl rfl (want_n 11 rfl rfl rfl) ?_
          refine TL_no rfl rfl (want_n 11 rfl rfl rfl) ?_
          refine TL_no rfl rfl (want_n 11 rfl rfl rfl) ?_
          refine TL_q (.bool false) (fun _ _ hρ _ => r_pick_f (hρ _ _ rfl) (hρ _ _ rfl)) rfl rfl rfl (w_n rfl) ?_
          refine TL_q (.bool false) (fun _ _ hρ _ => r_move (hρ _ _ rfl)) rfl rfl rfl (w_n rfl) ?_
          refine TL_no rfl rfl (want_n 16 rfl rfl rfl) ?_
          refine TL_no rfl rfl (want_n 16 rfl rfl rfl) ?_
          refine TL_no rfl rfl (want_n 16 rfl rfl rfl) ?_
          refine TL_q (.bool false) (fun _ _ hρ _ => r_pick_f (hρ _ _ rfl) (hρ _ _ rfl)) rfl rfl rfl (w_n rfl) ?_
          refine TL_q (.bool false) (fun _ _ hρ _ => r_assign (hρ _ _ rfl)) rfl rfl rfl (w_n rfl) ?_
          refine TL_seq ?_
          refine T_ret' ?_
          refine ret_of rfl (.bool false) (fun tmps w hk hm => res1 rfl (res_tmp (hk 2 _ rfl))) (fun w hm => ?_)
          exact ⟨congrArg Ending.returned (bool_as (decide_eq_false (by omega)).symm), hm.ext⟩
        · skip
          refine T_seq (T_region ?_)
          refine TL_q (.pointer (some ⟨B1, 0, none⟩)) (fun _ _ hρ _ => r_fieldAddr fl109_0 sz3 (hρ _ _ rfl)) rfl rfl rfl (w_n rfl) ?_
          refine TL_q (.int .i64 x) (fun _ _ hρ hm => r_load ag3 (hρ _ _ rfl) (hm.at 1 rfl) rfl) rfl rfl rfl (w_n rfl) ?_
          refine TL_q (.bool false) (fun _ _ hρ _ => r_as (r_geq (hρ _ _ rfl) (hρ _ _ rfl)) (bool_as (decide_eq_false c1))) rfl rfl rfl (w_n rfl) ?_
          refine TL_q (.bool false) (fun _ _ hρ _ => r_move (hρ _ _ rfl)) rfl rfl rfl (w_n rfl) ?_
          refine TL_no rfl rfl (want_n 6 rfl rfl rfl) ?_
          refine TL_no rfl rfl (want_n 6 rfl rfl rfl) ?_
          refine TL_no rfl rfl (want_n 6 rfl rfl rfl) ?_
          refine TL_q (.bool false) (fun _ _ hρ _ => r_pick_f (hρ _ _ rfl) (hρ _ _ rfl)) rfl rfl rfl (w_n rfl) ?_
          refine TL_q (.bool false) (fun _ _ hρ _ => r_move (hρ _ _ rfl)) rfl rfl rfl (w_n rfl) ?_
          refine TL_no rfl rfl (want_n 11 rfl rfl rfl) ?_
          refine TL_no rfl rfl (want_n 11 rfl rfl rfl) ?_
          refine TL_no rfl rfl (want_n 11 rfl rfl rfl) ?_
          refine TL_q (.bool false) (fun _ _ hρ _ => r_pick_f (hρ _ _ rfl) (hρ _ _ rfl)) rfl rfl rfl (w_n rfl) ?_
          refine TL_q (.bool false) (fun _ _ hρ _ => r_move (hρ _ _ rfl)) rfl rfl rfl (w_n rfl) ?_
          refine TL_no rfl rfl (want_n 16 rfl rfl rfl) ?_
          refine TL_no rfl rfl (want_n 16 rfl rfl rfl) ?_
          refine TL_no rfl rfl (want_n 16 rfl rfl rfl) ?_
          refine TL_q (.bool false) (fun _ _ hρ _ => r_pick_f (hρ _ _ rfl) (hρ _ _ rfl)) rfl rfl rfl (w_n rfl) ?_
          refine TL_q (.bool false) (fun _ _ hρ _ => r_assign (hρ _ _ rfl)) rfl rfl rfl (w_n rfl) ?_
          refine TL_seq ?_
          refine T_ret' ?_
          refine ret_of rfl (.bool false) (fun tmps w hk hm => res1 rfl (res_tmp (hk 2 _ rfl))) (fun w hm => ?_)
          exact ⟨congrArg Ending.returned (bool_as (decide_eq_false (by omega)).symm), hm.ext⟩

theorem place_in (wd hg u v : Nat) (w : World) (hwd : 1 ≤ wd ∧ wd ≤ 4) (hhg : 1 ≤ hg ∧ hg ≤ 4) (hu : u < 8 * wd) (hv : v < 8 * hg) : Calls Try.prog 66 #[.agg #[.int .i64 (wd : Int), .int .i64 (hg : Int)], .int .i64 (u : Int), .int .i64 (v : Int)] w fun e w' => e = .returned (.tuple #[.int .i64 ((v / 8 * wd + u / 8 : Nat) : Int), .agg #[.int .i64 ((u % 8 : Nat) : Int), .int .i64 ((v % 8 : Nat) : Int)], .bool true]) ∧ Below w.heap.size w w' := by
  have hix := idx_lt hu hv
  have h16 := size4 hwd hhg
  refine calls_of_T (l := [.agg #[.int .i64 ((wd : Nat) : Int), .int .i64 ((hg : Nat) : Int)], .int .i64 ((u : Nat) : Int), .int .i64 ((v : Nat) : Int)]) 46 Try.func66 rfl rfl rfl ?_
  show T _ _ _ [(0, .agg #[.int .i64 ((wd : Nat) : Int), .int .i64 ((hg : Nat) : Int)]), (1, .int .i64 ((u : Nat) : Int)), (2, .int .i64 ((v : Nat) : Int))] []
  refine T_seq (T_region ?_)
  refine TL_new 1 (.cells #[.int .i64 ((wd : Nat) : Int), .int .i64 ((hg : Nat) : Int)] 109) (fun B => .pointer (some ⟨B, 0, none⟩)) (fun _ _ hρ _ => r_box (hρ _ _ rfl) rfl) rfl rfl rfl (w_n rfl) ?_
  intro B1
  refine TL_q (.int .i64 0) (fun _ _ hρ _ => r_assign (hρ _ _ rfl)) rfl rfl rfl (w_n rfl) ?_
  refine TL_new 2 (.cells #[.int .i64 0, .int .i64 0] 47) (fun B => .pointer (some ⟨B, 0, none⟩)) (fun _ _ _ _ => r_alloc (v := .agg #[.int .i64 0, .int .i64 0]) (by kernel_rfl) rfl) rfl rfl rfl (w_n rfl) ?_
  intro B2
  refine TL_q (.bool false) (fun _ _ hρ _ => r_assign (hρ _ _ rfl)) rfl rfl rfl (w_n rfl) ?_
  refine TL_seq ?_
  have f1 : (0 : Int) ≤ ((u : Nat) : Int) := by omega
  have f2 : (0 : Int) ≤ ((v : Nat) : Int) := by omega
  have f3 : ((u : Nat) : Int) < ((8 * wd : Nat) : Int) := by omega
  have f4 : ((v : Nat) : Int) < ((8 * hg : Nat) : Int) := by omega
  refine T_seq (T_region ?_)
  refine TL_q (.int .i64 ((u : Nat) : Int)) (fun _ _ hρ _ => r_move (hρ _ _ rfl)) rfl rfl rfl (w_n rfl) ?_
  refine TL_q (.bool true) (fun _ _ hρ _ => r_as (r_geq (hρ _ _ rfl) (hρ _ _ rfl)) (bool_as (decide_eq_true f1))) rfl rfl rfl (w_n rfl) ?_
  refine TL_q (.bool true) (fun _ _ hρ _ => r_move (hρ _ _ rfl)) rfl rfl rfl (w_n rfl) ?_
  refine TL_q (.int .i64 ((v : Nat) : Int)) (fun _ _ hρ _ => r_move (hρ _ _ rfl)) rfl rfl rfl (want_y 12 rfl rfl rfl) ?_
  refine TL_q (.bool true) (fun _ _ hρ _ => r_as (r_geq (hρ _ _ rfl) (hρ _ _ rfl)) (bool_as (decide_eq_true f2))) rfl rfl rfl (want_y 12 rfl rfl rfl) ?_
  refine TL_q (.bool true) (fun _ _ hρ _ => r_pick_t (hρ _ _ rfl) (hρ _ _ rfl)) rfl rfl rfl (w_n rfl) ?_
  refine TL_q (.bool true) (fun _ _ hρ _ => r_move (hρ _ _ rfl)) rfl rfl rfl (w_n rfl) ?_
  refine TL_q (.int .i64 ((u : Nat) : Int)) (fun _ _ hρ _ => r_move (hρ _ _ rfl)) rfl rfl rfl (want_y 16 rfl rfl rfl) ?_
  refine TL_q (.pointer (some ⟨B1, 0, none⟩)) (fun _ _ hρ _ => r_fieldAddr fl109_0 sz3 (hρ _ _ rfl)) rfl rfl rfl (want_y 16 rfl rfl rfl) ?_
  refine TL_q (.int .i64 ((wd : Nat) : Int)) (fun _ _ hρ hm => r_load ag3 (hρ _ _ rfl) (hm.at 1 rfl) rfl) rfl rfl rfl (want_y 16 rfl rfl rfl) ?_
  refine TL_q (.int .i64 ((8 * wd : Nat) : Int)) (fun _ _ hρ _ => r_as (r_mul (hρ _ _ rfl) (hρ _ _ rfl)) (int_as ((wrap64 (by omega) (by omega)).trans (by omega)))) rfl rfl rfl (want_y 16 rfl rfl rfl) ?_
  refine TL_q (.bool true) (fun _ _ hρ _ => r_as (r_lss (hρ _ _ rfl) (hρ _ _ rfl)) (bool_as (decide_eq_true f3))) rfl rfl rfl (want_y 16 rfl rfl rfl) ?_
  refine TL_q (.bool true) (fun _ _ hρ _ => r_pick_t (hρ _ _ rfl) (hρ _ _ rfl)) rfl rfl rfl (w_n rfl) ?_
  refine TL_q (.bool true) (fun _ _ hρ _ => r_move (hρ _ _ rfl)) rfl rfl rfl (w_n rfl) ?_
  refine TL_q (.int .i64 ((v : Nat) : Int)) (fun _ _ hρ _ => r_move (hρ _ _ rfl)) rfl rfl rfl (want_y 23 rfl rfl rfl) ?_
  refine TL_q (.pointer (some ⟨B1, 1, none⟩)) (fun _ _ hρ _ => r_fieldAddr fl109_1 sz3 (hρ _ _ rfl)) rfl rfl rfl (want_y 23 rfl rfl rfl) ?_
  refine TL_q (.int .i64 ((hg : Nat) : Int)) (fun _ _ hρ hm => r_load ag3 (hρ _ _ rfl) (hm.at 1 rfl) rfl) rfl rfl rfl (want_y 23 rfl rfl rfl) ?_
  refine TL_q (.int .i64 ((8 * hg : Nat) : Int)) (fun _ _ hρ _ => r_as (r_mul (hρ _ _ rfl) (hρ _ _ rfl)) (int_as ((wrap64 (by omega) (by omega)).trans (by omega)))) rfl rfl rfl (want_y 23 rfl rfl rfl) ?_
  refine TL_q (.bool true) (fun _ _ hρ _ => r_as (r_lss (hρ _ _ rfl) (hρ _ _ rfl)) (bool_as (decide_eq_true f4))) rfl rfl rfl (want_y 23 rfl rfl rfl) ?_
  refine TL_q (.bool true) (fun _ _ hρ _ => r_pick_t (hρ _ _ rfl) (hρ _ _ rfl)) rfl rfl rfl (w_n rfl) ?_
  refine TL_q (.bool true) (fun _ _ hρ _ => r_assign (hρ _ _ rfl)) rfl rfl rfl (w_n rfl) ?_
  refine TL_seq ?_
  refine T_seq ?_
  refine T_seq (T_region ?_)
  refine TL_q (.bool true) (fun _ _ hρ _ => r_move (hρ _ _ rfl)) rfl rfl rfl (w_n rfl) ?_
  refine TL_q (.bool false) (fun _ _ hρ _ => r_not (b := true) (hρ _ _ rfl)) rfl rfl rfl (w_n rfl) ?_
  refine TL_seq ?_
  refine T_cond_f rfl ?_
  refine T_skip' ?_
  refine p_seq ?_
  refine T_seq (T_region ?_)
  refine TL_q (.int .i64 ((v : Nat) : Int)) (fun _ _ hρ _ => r_move (hρ _ _ rfl)) rfl rfl rfl (w_n rfl) ?_
  refine TL_q (.int .i64 ((v / 8 : Nat) : Int)) (fun _ _ hρ _ => r_as (r_quo (hρ _ _ rfl) (hρ _ _ rfl) (by omega)) (int_as ((quo_i64 (by omega) (by omega) (by omega)).trans (by omega)))) rfl rfl rfl (w_n rfl) ?_
  refine TL_q (.pointer (some ⟨B1, 0, none⟩)) (fun _ _ hρ _ => r_fieldAddr fl109_0 sz3 (hρ _ _ rfl)) rfl rfl rfl (w_n rfl) ?_
  refine TL_q (.int .i64 ((wd : Nat) : Int)) (fun _ _ hρ hm => r_load ag3 (hρ _ _ rfl) (hm.at 1 rfl) rfl) rfl rfl rfl (w_n rfl) ?_
  refine TL_q (.int .i64 (((v / 8) * wd : Nat) : Int)) (fun _ _ hρ _ => r_as (r_mul (hρ _ _ rfl) (hρ _ _ rfl)) (int_as ((wrap64 (by omega) (by omega)).trans (by omega)))) rfl rfl rfl (w_n rfl) ?_
  refine TL_q (.int .i64 ((u : Nat) : Int)) (fun _ _ hρ _ => r_move (hρ _ _ rfl)) rfl rfl rfl (w_n rfl) ?_
  refine TL_q (.int .i64 ((u / 8 : Nat) : Int)) (fun _ _ hρ _ => r_as (r_quo (hρ _ _ rfl) (hρ _ _ rfl) (by omega)) (int_as ((quo_i64 (by omega) (by omega) (by omega)).trans (by omega)))) rfl rfl rfl (w_n rfl) ?_
  refine TL_q (.int .i64 ((((v / 8) * wd) + (u / 8) : Nat) : Int)) (fun _ _ hρ _ => r_as (r_add (hρ _ _ rfl) (hρ _ _ rfl)) (int_as ((wrap64 (by omega) (by omega)).trans (by omega)))) rfl rfl rfl (w_n rfl) ?_
  refine TL_q (.int .i64 ((u : Nat) : Int)) (fun _ _ hρ _ => r_move (hρ _ _ rfl)) rfl rfl rfl (w_n rfl) ?_
  refine TL_q (.int .i64 ((u % 8 : Nat) : Int)) (fun _ _ hρ _ => r_as (r_rem (hρ _ _ rfl) (hρ _ _ rfl) (by omega)) (int_as ((Int.tmod_eq_emod_of_nonneg (by omega)).trans (by omega)))) rfl rfl rfl (w_n rfl) ?_
  refine TL_q (.int .i64 ((v : Nat) : Int)) (fun _ _ hρ _ => r_move (hρ _ _ rfl)) rfl rfl rfl (w_n rfl) ?_
  refine TL_q (.int .i64 ((v % 8 : Nat) : Int)) (fun _ _ hρ _ => r_as (r_rem (hρ _ _ rfl) (hρ _ _ rfl) (by omega)) (int_as ((Int.tmod_eq_emod_of_nonneg (by omega)).trans (by omega)))) rfl rfl rfl (w_n rfl) ?_
  refine TL_q (.agg #[.int .i64 ((u % 8 : Nat) : Int), .int .i64 ((v % 8 : Nat) : Int)]) (fun _ _ hρ _ => r_build (vs := [(0, .int .i64 ((u % 8 : Nat) : Int)), (1, .int .i64 ((v % 8 : Nat) : Int))]) (by kernel_rfl) (cons2 (pair2 (hρ _ _ rfl)) (cons2 (pair2 (hρ _ _ rfl)) rfl))) rfl rfl rfl (w_n rfl) ?_
  refine TL_q (.int .i64 ((((v / 8) * wd) + (u / 8) : Nat) : Int)) (fun _ _ hρ _ => r_assign (hρ _ _ rfl)) rfl rfl rfl (w_n rfl) ?_
  refine TL_store 2 (.cells #[.int .i64 ((u % 8 : Nat) : Int), .int .i64 ((v % 8 : Nat) : Int)] 47) rfl (fun _ _ hρ hm => r_store sz47 (hρ _ _ rfl) (hρ _ _ rfl) (hm.at 2 rfl) rfl rfl rfl rfl) rfl rfl (w_n rfl) ?_
  refine TL_q (.bool true) (fun _ _ hρ _ => r_assign (hρ _ _ rfl)) rfl rfl rfl (w_n rfl) ?_
  refine TL_seq ?_
  refine T_sub [(7, .pointer (some ⟨B2, 0, none⟩)), (6, .int .i64 ((((v / 8) * wd) + (u / 8) : Nat) : Int)), (8, .bool true)] [(1, .blk B1 (.cells #[.int .i64 ((wd : Nat) : Int), .int .i64 ((hg : Nat) : Int)] 109)), (2, .blk B2 (.cells #[.int .i64 ((u % 8 : Nat) : Int), .int .i64 ((v % 8 : Nat) : Int)] 47))] (sub_cons rfl (sub_cons rfl (sub_cons rfl sub_nil))) (sub_cons rfl (sub_cons rfl sub_nil)) ?_
  refine T_ret' ?_
  refine ret_of rfl (.tuple #[.int .i64 ((((v / 8) * wd) + (u / 8) : Nat) : Int), .agg #[.int .i64 ((u % 8 : Nat) : Int), .int .i64 ((v % 8 : Nat) : Int)], .bool true]) (fun tmps w hk hm => res3 rfl (res_tmp (hk 6 _ rfl)) (res_cell (hk 7 _ rfl) (run_loadVar_agg ag47 sz47 (hm.at 2 rfl) (Nat.le_of_ble_eq_true rfl) rfl)) (res_tmp (hk 8 _ rfl))) (fun w hm => ?_)
  exact ⟨rfl, hm.ext⟩

theorem place_out (wd hg : Nat) (x y : Int) (w : World) (hwd : 1 ≤ wd ∧ wd ≤ 4) (hhg : 1 ≤ hg ∧ hg ≤ 4) (hon : ¬ onC wd hg x y = true) : Calls Try.prog 66 #[.agg #[.int .i64 (wd : Int), .int .i64 (hg : Int)], .int .i64 x, .int .i64 y] w fun e w' => e = .returned (.tuple #[.int .i64 0, .agg #[.int .i64 0, .int .i64 0], .bool false]) ∧ Below w.heap.size w w' := by
  have hn : ¬ (0 ≤ x ∧ 0 ≤ y ∧ x < 8 * wd ∧ y < 8 * hg) := fun e => hon (decide_eq_true e)
  refine calls_of_T (l := [.agg #[.int .i64 ((wd : Nat) : Int), .int .i64 ((hg : Nat) : Int)], .int .i64 x, .int .i64 y]) 46 Try.func66 rfl rfl rfl ?_
  show T _ _ _ [(0, .agg #[.int .i64 ((wd : Nat) : Int), .int .i64 ((hg : Nat) : Int)]), (1, .int .i64 x), (2, .int .i64 y)] []
  refine T_seq (T_region ?_)
  refine TL_new 1 (.cells #[.int .i64 ((wd : Nat) : Int), .int .i64 ((hg : Nat) : Int)] 109) (fun B => .pointer (some ⟨B, 0, none⟩)) (fun _ _ hρ _ => r_box (hρ _ _ rfl) rfl) rfl rfl rfl (w_n rfl) ?_
  intro B1
  refine TL_q (.int .i64 0) (fun _ _ hρ _ => r_assign (hρ _ _ rfl)) rfl rfl rfl (w_n rfl) ?_
  refine TL_new 2 (.cells #[.int .i64 0, .int .i64 0] 47) (fun B => .pointer (some ⟨B, 0, none⟩)) (fun _ _ _ _ => r_alloc (v := .agg #[.int .i64 0, .int .i64 0]) (by kernel_rfl) rfl) rfl rfl rfl (w_n rfl) ?_
  intro B2
  refine TL_q (.bool false) (fun _ _ hρ _ => r_assign (hρ _ _ rfl)) rfl rfl rfl (w_n rfl) ?_
  refine TL_seq ?_
  by_cases c1 : (0 : Int) ≤ x
  · skip
    by_cases c2 : (0 : Int) ≤ y
    · skip
      by_cases c3 : x < ((8 * wd : Nat) : Int)
      · skip
        have c4 : ¬ y < ((8 * hg : Nat) : Int) := by omega
        refine T_seq (T_region ?_)
        refine TL_q (.int .i64 x) (fun _ _ hρ _ => r_move (hρ _ _ rfl)) rfl rfl rfl (w_n rfl) ?_
        refine TL_q (.bool true) (fun _ _ hρ _ => r_as (r_geq (hρ _ _ rfl) (hρ _ _ rfl)) (bool_as (decide_eq_true c1))) rfl rfl rfl (w_n rfl) ?_
        refine TL_q (.bool true) (fun _ _ hρ _ => r_move (hρ _ _ rfl)) rfl rfl rfl (w_n rfl) ?_
        refine TL_q (.int .i64 y) (fun _ _ hρ _ => r_move (hρ _ _ rfl)) rfl rfl rfl (want_y 12 rfl rfl rfl) ?_
        refine TL_q (.bool true) (fun _ _ hρ _ => r_as (r_geq (hρ _ _ rfl) (hρ _ _ rfl)) (bool_as (decide_eq_true c2))) rfl rfl rfl (want_y 12 rfl rfl rfl) ?_
        refine TL_q (.bool true) (fun _ _ hρ _ => r_pick_t (hρ _ _ rfl) (hρ _ _ rfl)) rfl rfl rfl (w_n rfl) ?_
        refine TL_q (.bool true) (fun _ _ hρ _ => r_move (hρ _ _ rfl)) rfl rfl rfl (w_n rfl) ?_
        refine TL_q (.int .i64 x) (fun _ _ hρ _ => r_move (hρ _ _ rfl)) rfl rfl rfl (want_y 16 rfl rfl rfl) ?_
        refine TL_q (.pointer (some ⟨B1, 0, none⟩)) (fun _ _ hρ _ => r_fieldAddr fl109_0 sz3 (hρ _ _ rfl)) rfl rfl rfl (want_y 16 rfl rfl rfl) ?_
        refine TL_q (.int .i64 ((wd : Nat) : Int)) (fun _ _ hρ hm => r_load ag3 (hρ _ _ rfl) (hm.at 1 rfl) rfl) rfl rfl rfl (want_y 16 rfl rfl rfl) ?_
        refine TL_q (.int .i64 ((8 * wd : Nat) : Int)) (fun _ _ hρ _ => r_as (r_mul (hρ _ _ rfl) (hρ _ _ rfl)) (int_as ((wrap64 (by omega) (by omega)).trans (by omega)))) rfl rfl rfl (want_y 16 rfl rfl rfl) ?_
        refine TL_q (.bool true) (fun _ _ hρ _ => r_as (r_lss (hρ _ _ rfl) (hρ _ _ rfl)) (bool_as (decide_eq_true c3))) rfl rfl rfl (want_y 16 rfl rfl rfl) ?_
        refine TL_q (.bool true) (fun _ _ hρ _ => r_pick_t (hρ _ _ rfl) (hρ _ _ rfl)) rfl rfl rfl (w_n rfl) ?_
        refine TL_q (.bool true) (fun _ _ hρ _ => r_move (hρ _ _ rfl)) rfl rfl rfl (w_n rfl) ?_
        refine TL_q (.int .i64 y) (fun _ _ hρ _ => r_move (hρ _ _ rfl)) rfl rfl rfl (want_y 23 rfl rfl rfl) ?_
        refine TL_q (.pointer (some ⟨B1, 1, none⟩)) (fun _ _ hρ _ => r_fieldAddr fl109_1 sz3 (hρ _ _ rfl)) rfl rfl rfl (want_y 23 rfl rfl rfl) ?_
        refine TL_q (.int .i64 ((hg : Nat) : Int)) (fun _ _ hρ hm => r_load ag3 (hρ _ _ rfl) (hm.at 1 rfl) rfl) rfl rfl rfl (want_y 23 rfl rfl rfl) ?_
        refine TL_q (.int .i64 ((8 * hg : Nat) : Int)) (fun _ _ hρ _ => r_as (r_mul (hρ _ _ rfl) (hρ _ _ rfl)) (int_as ((wrap64 (by omega) (by omega)).trans (by omega)))) rfl rfl rfl (want_y 23 rfl rfl rfl) ?_
        refine TL_q (.bool false) (fun _ _ hρ _ => r_as (r_lss (hρ _ _ rfl) (hρ _ _ rfl)) (bool_as (decide_eq_false c4))) rfl rfl rfl (want_y 23 rfl rfl rfl) ?_
        refine TL_q (.bool false) (fun _ _ hρ _ => r_pick_t (hρ _ _ rfl) (hρ _ _ rfl)) rfl rfl rfl (w_n rfl) ?_
        refine TL_q (.bool false) (fun _ _ hρ _ => r_assign (hρ _ _ rfl)) rfl rfl rfl (w_n rfl) ?_
        refine TL_seq ?_
        refine T_seq ?_
        refine T_seq (T_region ?_)
        refine TL_q (.bool false) (fun _ _ hρ _ => r_move (hρ _ _ rfl)) rfl rfl rfl (w_n rfl) ?_
        refine TL_q (.bool true) (fun _ _ hρ _ => r_not (b := false) (hρ _ _ rfl)) rfl rfl rfl (w_n rfl) ?_
        refine TL_seq ?_
        refine T_cond_t rfl ?_
        refine T_seq (T_region ?_)
        refine TL_q (.agg #[.int .i64 0, .int .i64 0]) (fun _ _ _ _ => r_build (vs := []) (by kernel_rfl) rfl) rfl rfl rfl (w_n rfl) ?_
        refine TL_q (.int .i64 0) (fun _ _ hρ _ => r_assign (hρ _ _ rfl)) rfl rfl rfl (w_n rfl) ?_
        refine TL_store 2 (.cells #[.int .i64 0, .int .i64 0] 47) rfl (fun _ _ hρ hm => r_store sz47 (hρ _ _ rfl) (hρ _ _ rfl) (hm.at 2 rfl) rfl rfl rfl rfl) rfl rfl (w_n rfl) ?_
        refine TL_q (.bool false) (fun _ _ hρ _ => r_assign (hρ _ _ rfl)) rfl rfl rfl (w_n rfl) ?_
        refine TL_seq ?_
        refine T_sub [(1, .int .i64 x), (2, .int .i64 y), (3, .pointer (some ⟨B1, 0, none⟩)), (7, .pointer (some ⟨B2, 0, none⟩)), (6, .int .i64 0), (8, .bool false)] [(1, .blk B1 (.cells #[.int .i64 ((wd : Nat) : Int), .int .i64 ((hg : Nat) : Int)] 109)), (2, .blk B2 (.cells #[.int .i64 0, .int .i64 0] 47))] (sub_cons rfl (sub_cons rfl (sub_cons rfl (sub_cons rfl (sub_cons rfl (sub_cons rfl sub_nil)))))) (sub_cons rfl (sub_cons rfl sub_nil)) ?_
        refine T_ret' ?_
        refine p_then_r ?_
        refine ret_of rfl (.tuple #[.int .i64 0, .agg #[.int .i64 0, .int .i64 0], .bool false]) (fun tmps w hk hm => res3 rfl (res_tmp (hk 6 _ rfl)) (res_cell (hk 7 _ rfl) (run_loadVar_agg ag47 sz47 (hm.at 2 rfl) (Nat.le_of_ble_eq_true rfl) rfl)) (res_tmp (hk 8 _ rfl))) (fun w hm => ?_)
        exact ⟨rfl, hm.ext⟩
      · skip
        refine T_seq (T_region ?_)
        refine TL_q (.int .i64 x) (fun _ _ hρ _ => r_move (hρ _ _ rfl)) rfl rfl rfl (w_n rfl) ?_
        refine TL_q (.bool true) (fun _ _ hρ _ => r_as (r_geq (hρ _ _ rfl) (hρ _ _ rfl)) (bool_as (decide_eq_true c1))) rfl rfl rfl (w_n rfl) ?_
        refine TL_q (.bool true) (fun _ _ hρ _ => r_move (hρ _ _ rfl)) rfl rfl rfl (w_n rfl) ?_
        refine TL_q (.int .i64 y) (fun _ _ hρ _ => r_move (hρ _ _ rfl)) rfl rfl rfl (want_y 12 rfl rfl rfl) ?_
        refine TL_q (.bool true) (fun _ _ hρ _ => r_as (r_geq (hρ _ _ rfl) (hρ _ _ rfl)) (bool_as (decide_eq_true c2))) rfl rfl rfl (want_y 12 rfl rfl rfl) ?_
        refine TL_q (.bool true) (fun _ _ hρ _ => r_pick_t (hρ _ _ rfl) (hρ _ _ rfl)) rfl rfl rfl (w_n rfl) ?_
        refine TL_q (.bool true) (fun _ _ hρ _ => r_move (hρ _ _ rfl)) rfl rfl rfl (w_n rfl) ?_
        refine TL_q (.int .i64 x) (fun _ _ hρ _ => r_move (hρ _ _ rfl)) rfl rfl rfl (want_y 16 rfl rfl rfl) ?_
        refine TL_q (.pointer (some ⟨B1, 0, none⟩)) (fun _ _ hρ _ => r_fieldAddr fl109_0 sz3 (hρ _ _ rfl)) rfl rfl rfl (want_y 16 rfl rfl rfl) ?_
        refine TL_q (.int .i64 ((wd : Nat) : Int)) (fun _ _ hρ hm => r_load ag3 (hρ _ _ rfl) (hm.at 1 rfl) rfl) rfl rfl rfl (want_y 16 rfl rfl rfl) ?_
        refine TL_q (.int .i64 ((8 * wd : Nat) : Int)) (fun _ _ hρ _ => r_as (r_mul (hρ _ _ rfl) (hρ _ _ rfl)) (int_as ((wrap64 (by omega) (by omega)).trans (by omega)))) rfl rfl rfl (want_y 16 rfl rfl rfl) ?_
        refine TL_q (.bool false) (fun _ _ hρ _ => r_as (r_lss (hρ _ _ rfl) (hρ _ _ rfl)) (bool_as (decide_eq_false c3))) rfl rfl rfl (want_y 16 rfl rfl rfl) ?_
        refine TL_q (.bool false) (fun _ _ hρ _ => r_pick_t (hρ _ _ rfl) (hρ _ _ rfl)) rfl rfl rfl (w_n rfl) ?_
        refine TL_q (.bool false) (fun _ _ hρ _ => r_move (hρ _ _ rfl)) rfl rfl rfl (w_n rfl) ?_
        refine TL_no rfl rfl (want_n 23 rfl rfl rfl) ?_
        refine TL_no rfl rfl (want_n 23 rfl rfl rfl) ?_
        refine TL_no rfl rfl (want_n 23 rfl rfl rfl) ?_
        refine TL_no rfl rfl (want_n 23 rfl rfl rfl) ?_
        refine TL_no rfl rfl (want_n 23 rfl rfl rfl) ?_
        refine TL_q (.bool false) (fun _ _ hρ _ => r_pick_f (hρ _ _ rfl) (hρ _ _ rfl)) rfl rfl rfl (w_n rfl) ?_
        refine TL_q (.bool false) (fun _ _ hρ _ => r_assign (hρ _ _ rfl)) rfl rfl rfl (w_n rfl) ?_
        refine TL_seq ?_
        refine T_seq ?_
        refine T_seq (T_region ?_)
        refine TL_q (.bool false) (fun _ _ hρ _ => r_move (hρ _ _ rfl)) rfl rfl rfl (w_n rfl) ?_
        refine TL_q (.bool true) (fun _ _ hρ _ => r_not (b := false) (hρ _ _ rfl)) rfl rfl rfl (w_n rfl) ?_
        refine TL_seq ?_
        refine T_cond_t rfl ?_
        refine T_seq (T_region ?_)
        refine TL_q (.agg #[.int .i64 0, .int .i64 0]) (fun _ _ _ _ => r_build (vs := []) (by kernel_rfl) rfl) rfl rfl rfl (w_n rfl) ?_
        refine TL_q (.int .i64 0) (fun _ _ hρ _ => r_assign (hρ _ _ rfl)) rfl rfl rfl (w_n rfl) ?_
        refine TL_store 2 (.cells #[.int .i64 0, .int .i64 0] 47) rfl (fun _ _ hρ hm => r_store sz47 (hρ _ _ rfl) (hρ _ _ rfl) (hm.at 2 rfl) rfl rfl rfl rfl) rfl rfl (w_n rfl) ?_
        refine TL_q (.bool false) (fun _ _ hρ _ => r_assign (hρ _ _ rfl)) rfl rfl rfl (w_n rfl) ?_
        refine TL_seq ?_
        refine T_sub [(1, .int .i64 x), (2, .int .i64 y), (3, .pointer (some ⟨B1, 0, none⟩)), (7, .pointer (some ⟨B2, 0, none⟩)), (6, .int .i64 0), (8, .bool false)] [(1, .blk B1 (.cells #[.int .i64 ((wd : Nat) : Int), .int .i64 ((hg : Nat) : Int)] 109)), (2, .blk B2 (.cells #[.int .i64 0, .int .i64 0] 47))] (sub_cons rfl (sub_cons rfl (sub_cons rfl (sub_cons rfl (sub_cons rfl (sub_cons rfl sub_nil)))))) (sub_cons rfl (sub_cons rfl sub_nil)) ?_
        refine T_ret' ?_
        refine p_then_r ?_
        refine ret_of rfl (.tuple #[.int .i64 0, .agg #[.int .i64 0, .int .i64 0], .bool false]) (fun tmps w hk hm => res3 rfl (res_tmp (hk 6 _ rfl)) (res_cell (hk 7 _ rfl) (run_loadVar_agg ag47 sz47 (hm.at 2 rfl) (Nat.le_of_ble_eq_true rfl) rfl)) (res_tmp (hk 8 _ rfl))) (fun w hm => ?_)
        exact ⟨rfl, hm.ext⟩
    · skip
      refine T_seq (T_region ?_)
      refine TL_q (.int .i64 x) (fun _ _ hρ _ => r_move (hρ _ _ rfl)) rfl rfl rfl (w_n rfl) ?_
      refine TL_q (.bool true) (fun _ _ hρ _ => r_as (r_geq (hρ _ _ rfl) (hρ _ _ rfl)) (bool_as (decide_eq_true c1))) rfl rfl rfl (w_n rfl) ?_
      refine TL_q (.bool true) (fun _ _ hρ _ => r_move (hρ _ _ rfl)) rfl rfl rfl (w_n rfl) ?_
      refine TL_q (.int .i64 y) (fun _ _ hρ _ => r_move (hρ _ _ rfl)) rfl rfl rfl (want_y 12 rfl rfl rfl) ?_
      refine TL_q (.bool false) (fun _ _ hρ _ => r_as (r_geq (hρ _ _ rfl) (hρ _ _ rfl)) (bool_as (decide_eq_false c2))) rfl rfl rfl (want_y 12 rfl rfl rfl) ?_
      refine TL_q (.bool false) (fun _ _ hρ _ => r_pick_t (hρ _ _ rfl) (hρ _ _ rfl)) rfl rfl rfl (w_n rfl) ?_
      refine TL_q (.bool false) (fun _ _ hρ _ => r_move (hρ _ _ rfl)) rfl rfl rfl (w_n rfl) ?_
      refine TL_no rfl rfl (want_n 16 rfl rfl rfl) ?_
      refine TL_no rfl rfl (want_n 16 rfl rfl rfl) ?_
      refine TL_no rfl rfl (want_n 16 rfl rfl rfl) ?_
      refine TL_no rfl rfl (want_n 16 rfl rfl rfl) ?_
      refine TL_no rfl rfl (want_n 16 rfl rfl rfl) ?_
      refine TL_q (.bool false) (fun _ _ hρ _ => r_pick_f (hρ _ _ rfl) (hρ _ _ rfl)) rfl rfl rfl (w_n rfl) ?_
      refine TL_q (.bool false) (fun _ _ hρ _ => r_move (hρ _ _ rfl)) rfl rfl rfl (w_n rfl) ?_
      refine TL_no rfl rfl (want_n 23 rfl rfl rfl) ?_
      refine TL_no rfl rfl (want_n 23 rfl rfl rfl) ?_
      refine TL_no rfl rfl (want_n 23 rfl rfl rfl) ?_
      refine TL_no rfl rfl (want_n 23 rfl rfl rfl) ?_
      refine TL_no rfl rfl (want_n 23 rfl rfl rfl) ?_
      refine TL_q (.bool false) (fun _ _ hρ _ => r_pick_f (hρ _ _ rfl) (hρ _ _ rfl)) rfl rfl rfl (w_n rfl) ?_
      refine TL_q (.bool false) (fun _ _ hρ _ => r_assign (hρ _ _ rfl)) rfl rfl rfl (w_n rfl) ?_
      refine TL_seq ?_
      refine T_seq ?_
      refine T_seq (T_region ?_)
      refine TL_q (.bool false) (fun _ _ hρ _ => r_move (hρ _ _ rfl)) rfl rfl rfl (w_n rfl) ?_
      refine TL_q (.bool true) (fun _ _ hρ _ => r_not (b := false) (hρ _ _ rfl)) rfl rfl rfl (w_n rfl) ?_
      refine TL_seq ?_
      refine T_cond_t rfl ?_
      refine T_seq (T_region ?_)
      refine TL_q (.agg #[.int .i64 0, .int .i64 0]) (fun _ _ _ _ => r_build (vs := []) (by kernel_rfl) rfl) rfl rfl rfl (w_n rfl) ?_
      refine TL_q (.int .i64 0) (fun _ _ hρ _ => r_assign (hρ _ _ rfl)) rfl rfl rfl (w_n rfl) ?_
      refine TL_store 2 (.cells #[.int .i64 0, .int .i64 0] 47) rfl (fun _ _ hρ hm => r_store sz47 (hρ _ _ rfl) (hρ _ _ rfl) (hm.at 2 rfl) rfl rfl rfl rfl) rfl rfl (w_n rfl) ?_
      refine TL_q (.bool false) (fun _ _ hρ _ => r_assign (hρ _ _ rfl)) rfl rfl rfl (w_n rfl) ?_
      refine TL_seq ?_
      refine T_sub [(1, .int .i64 x), (2, .int .i64 y), (3, .pointer (some ⟨B1, 0, none⟩)), (7, .pointer (some ⟨B2, 0, none⟩)), (6, .int .i64 0), (8, .bool false)] [(1, .blk B1 (.cells #[.int .i64 ((wd : Nat) : Int), .int .i64 ((hg : Nat) : Int)] 109)), (2, .blk B2 (.cells #[.int .i64 0, .int .i64 0] 47))] (sub_cons rfl (sub_cons rfl (sub_cons rfl (sub_cons rfl (sub_cons rfl (sub_cons rfl sub_nil)))))) (sub_cons rfl (sub_cons rfl sub_nil)) ?_
      refine T_ret' ?_
      refine p_then_r ?_
      refine ret_of rfl (.tuple #[.int .i64 0, .agg #[.int .i64 0, .int .i64 0], .bool false]) (fun tmps w hk hm => res3 rfl (res_tmp (hk 6 _ rfl)) (res_cell (hk 7 _ rfl) (run_loadVar_agg ag47 sz47 (hm.at 2 rfl) (Nat.le_of_ble_eq_true rfl) rfl)) (res_tmp (hk 8 _ rfl))) (fun w hm => ?_)
      exact ⟨rfl, hm.ext⟩
  · skip
    refine T_seq (T_region ?_)
    refine TL_q (.int .i64 x) (fun _ _ hρ _ => r_move (hρ _ _ rfl)) rfl rfl rfl (w_n rfl) ?_
    refine TL_q (.bool false) (fun _ _ hρ _ => r_as (r_geq (hρ _ _ rfl) (hρ _ _ rfl)) (bool_as (decide_eq_false c1))) rfl rfl rfl (w_n rfl) ?_
    refine TL_q (.bool false) (fun _ _ hρ _ => r_move (hρ _ _ rfl)) rfl rfl rfl (w_n rfl) ?_
    refine TL_no rfl rfl (want_n 12 rfl rfl rfl) ?_
    refine TL_no rfl rfl (want_n 12 rfl rfl rfl) ?_
    refine TL_q (.bool false) (fun _ _ hρ _ => r_pick_f (hρ _ _ rfl) (hρ _ _ rfl)) rfl rfl rfl (w_n rfl) ?_
    refine TL_q (.bool false) (fun _ _ hρ _ => r_move (hρ _ _ rfl)) rfl rfl rfl (w_n rfl) ?_
    refine TL_no rfl rfl (want_n 16 rfl rfl rfl) ?_
    refine TL_no rfl rfl (want_n 16 rfl rfl rfl) ?_
    refine TL_no rfl rfl (want_n 16 rfl rfl rfl) ?_
    refine TL_no rfl rfl (want_n 16 rfl rfl rfl) ?_
    refine TL_no rfl rfl (want_n 16 rfl rfl rfl) ?_
    refine TL_q (.bool false) (fun _ _ hρ _ => r_pick_f (hρ _ _ rfl) (hρ _ _ rfl)) rfl rfl rfl (w_n rfl) ?_
    refine TL_q (.bool false) (fun _ _ hρ _ => r_move (hρ _ _ rfl)) rfl rfl rfl (w_n rfl) ?_
    refine TL_no rfl rfl (want_n 23 rfl rfl rfl) ?_
    refine TL_no rfl rfl (want_n 23 rfl rfl rfl) ?_
    refine TL_no rfl rfl (want_n 23 rfl rfl rfl) ?_
    refine TL_no rfl rfl (want_n 23 rfl rfl rfl) ?_
    refine TL_no rfl rfl (want_n 23 rfl rfl rfl) ?_
    refine TL_q (.bool false) (fun _ _ hρ _ => r_pick_f (hρ _ _ rfl) (hρ _ _ rfl)) rfl rfl rfl (w_n rfl) ?_
    refine TL_q (.bool false) (fun _ _ hρ _ => r_assign (hρ _ _ rfl)) rfl rfl rfl (w_n rfl) ?_
    refine TL_seq ?_
    refine T_seq ?_
    refine T_seq (T_region ?_)
    refine TL_q (.bool false) (fun _ _ hρ _ => r_move (hρ _ _ rfl)) rfl rfl rfl (w_n rfl) ?_
    refine TL_q (.bool true) (fun _ _ hρ _ => r_not (b := false) (hρ _ _ rfl)) rfl rfl rfl (w_n rfl) ?_
    refine TL_seq ?_
    refine T_cond_t rfl ?_
    refine T_seq (T_region ?_)
    refine TL_q (.agg #[.int .i64 0, .int .i64 0]) (fun _ _ _ _ => r_build (vs := []) (by kernel_rfl) rfl) rfl rfl rfl (w_n rfl) ?_
    refine TL_q (.int .i64 0) (fun _ _ hρ _ => r_assign (hρ _ _ rfl)) rfl rfl rfl (w_n rfl) ?_
    refine TL_store 2 (.cells #[.int .i64 0, .int .i64 0] 47) rfl (fun _ _ hρ hm => r_store sz47 (hρ _ _ rfl) (hρ _ _ rfl) (hm.at 2 rfl) rfl rfl rfl rfl) rfl rfl (w_n rfl) ?_
    refine TL_q (.bool false) (fun _ _ hρ _ => r_assign (hρ _ _ rfl)) rfl rfl rfl (w_n rfl) ?_
    refine TL_seq ?_
    refine T_sub [(1, .int .i64 x), (2, .int .i64 y), (3, .pointer (some ⟨B1, 0, none⟩)), (7, .pointer (some ⟨B2, 0, none⟩)), (6, .int .i64 0), (8, .bool false)] [(1, .blk B1 (.cells #[.int .i64 ((wd : Nat) : Int), .int .i64 ((hg : Nat) : Int)] 109)), (2, .blk B2 (.cells #[.int .i64 0, .int .i64 0] 47))] (sub_cons rfl (sub_cons rfl (sub_cons rfl (sub_cons rfl (sub_cons rfl (sub_cons rfl sub_nil)))))) (sub_cons rfl (sub_cons rfl sub_nil)) ?_
    refine T_ret' ?_
    refine p_then_r ?_
    refine ret_of rfl (.tuple #[.int .i64 0, .agg #[.int .i64 0, .int .i64 0], .bool false]) (fun tmps w hk hm => res3 rfl (res_tmp (hk 6 _ rfl)) (res_cell (hk 7 _ rfl) (run_loadVar_agg ag47 sz47 (hm.at 2 rfl) (Nat.le_of_ble_eq_true rfl) rfl)) (res_tmp (hk 8 _ rfl))) (fun w hm => ?_)
    exact ⟨rfl, hm.ext⟩

theorem size_c (c : Cv) (w : World) (hc : CvAt w c) : Calls Try.prog 32 #[.pointer (some ⟨c.p, 0, none⟩)] w fun e w' => e = .returned (.tuple #[.int .i64 ((8 * c.wd : Nat) : Int), .int .i64 ((8 * c.hg : Nat) : Int)]) ∧ Below w.heap.size w w' := by
  obtain ⟨p, a, cap, ps, wd, hg, ts⟩ := c
  have hblk : hp w p = some (.cells #[.int .i64 (wd : Int), .int .i64 (hg : Int), .slice a ps.length cap] 111) := hc.blk
  have hrow : SliceAt w a cap 1 ptrc ps := hc.row
  have hcap : cap ≤ Go.maxLen := hc.capok
  unfold Go.maxLen at hcap
  have htl : ∀ (i q : Nat) (t : T64), ps[i]? = some q → ts[i]? = some t → hp w q = some (tilO t) := hc.tl
  have hlen : ps.length = wd * hg := hc.len
  have hlt : ts.length = ps.length := hc.len2
  have hwd : 1 ≤ wd ∧ wd ≤ 4 := hc.wd4
  have hhg : 1 ≤ hg ∧ hg ≤ 4 := hc.hg4
  have h16 := size4 hwd hhg
  have hrl := hrow.1
  obtain ⟨b, of, cs, TY, fz, ha, hcr, hrr⟩ := hrow.open (i := 0) (by omega)
  subst ha
  refine calls_of_T (l := [.pointer (some ⟨p, 0, none⟩)]) 18 Try.func32 rfl rfl rfl ?_
  show T _ _ _ [(0, .pointer (some ⟨p, 0, none⟩))] []
  refine T_seq (T_region ?_)
  refine TL_q (.int .i64 0) (fun _ _ hρ _ => r_assign (hρ _ _ rfl)) rfl rfl rfl (w_n rfl) ?_
  refine TL_q (.int .i64 0) (fun _ _ hρ _ => r_assign (hρ _ _ rfl)) rfl rfl rfl (w_n rfl) ?_
  refine TL_seq ?_
  refine T_seq ?_
  refine T_seq (T_region ?_)
  refine TL_q (.pointer (some ⟨p, 0, none⟩)) (fun _ _ hρ _ => r_move (hρ _ _ rfl)) rfl rfl rfl (w_n rfl) ?_
  refine TL_q (.bool false) (fun _ _ hρ _ => r_as (r_eqlPn po28 (hρ _ _ rfl) (hρ _ _ rfl)) (by rfl)) rfl rfl rfl (w_n rfl) ?_
  refine TL_seq ?_
  refine T_cond_f rfl ?_
  refine T_skip' ?_
  refine p_seq ?_
  refine T_seq (T_draw (V := [(0, .pointer (some ⟨p, 0, none⟩)), (1, .pointer (some ⟨p, 0, none⟩)), (2, .pointer (some ⟨p, 0, none⟩)), (3, .pointer (some ⟨p, 0, none⟩)), (4, .int .i64 ((wd : Nat) : Int)), (5, .int .i64 ((8 * wd : Nat) : Int)), (6, .pointer (some ⟨p, 0, none⟩)), (7, .pointer (some ⟨p, 0, none⟩)), (8, .pointer (some ⟨p, 0, none⟩)), (9, .pointer (some ⟨p, 1, none⟩)), (10, .int .i64 ((hg : Nat) : Int)), (11, .int .i64 ((8 * hg : Nat) : Int)), (12, .int .i64 ((8 * wd : Nat) : Int)), (13, .int .i64 ((8 * hg : Nat) : Int))]) [0, 1, 3, 7, 15, 31, 0, 64, 192, 448, 960, 1984, 63, 8191] [[(0, none)], [(6, some 0)], [(7, some 1)], [(8, some 2)], [(9, some 3)], [(10, some 4)], [(0, none)], [(12, some 6)], [(13, some 7)], [(14, some 8)], [(15, some 9)], [(16, some 10)], [(11, some 5)], [(17, some 11)]] 0 mixed (by kernel_rfl) ?_)
  refine G_last [0, 1, 2, 3, 4, 5, 6, 7, 8, 9, 10, 11, 12, 13] [(2, .int .i64 ((8 * wd : Nat) : Int)), (3, .int .i64 ((8 * hg : Nat) : Int))] (by kernel_rfl) (allM (all_cons (q_run (.pointer (some ⟨p, 0, none⟩)) rfl rfl (wv_n rfl) rfl (fun _ _ hρ _ => r_move (hρ _ _ rfl))) (all_cons (q_run (.pointer (some ⟨p, 0, none⟩)) rfl rfl (wv_n rfl) rfl (fun _ _ hρ _ => r_nilCheck (hρ _ _ rfl) rfl)) (all_cons (q_run (.pointer (some ⟨p, 0, none⟩)) rfl rfl (wv_n rfl) rfl (fun _ _ hρ _ => r_fieldAddr fl111_0 sz109 (hρ _ _ rfl))) (all_cons (q_run (.pointer (some ⟨p, 0, none⟩)) rfl rfl (wv_n rfl) rfl (fun _ _ hρ _ => r_fieldAddr fl109_0 sz3 (hρ _ _ rfl))) (all_cons (q_run (.int .i64 ((wd : Nat) : Int)) rfl rfl (wv_n rfl) rfl (fun _ _ hρ hm => r_load ag3 (hρ _ _ rfl) (hm.old hblk) rfl)) (all_cons (q_run (.int .i64 ((8 * wd : Nat) : Int)) rfl rfl (wv_n rfl) rfl (fun _ _ hρ _ => r_as (r_mul (hρ _ _ rfl) (hρ _ _ rfl)) (int_as ((wrap64 (by omega) (by omega)).trans (by omega))))) (all_cons (q_run (.pointer (some ⟨p, 0, none⟩)) rfl rfl (wv_n rfl) rfl (fun _ _ hρ _ => r_move (hρ _ _ rfl))) (all_cons (q_run (.pointer (some ⟨p, 0, none⟩)) rfl rfl (wv_n rfl) rfl (fun _ _ hρ _ => r_nilCheck (hρ _ _ rfl) rfl)) (all_cons (q_run (.pointer (some ⟨p, 0, none⟩)) rfl rfl (wv_n rfl) rfl (fun _ _ hρ _ => r_fieldAddr fl111_0 sz109 (hρ _ _ rfl))) (all_cons (q_run (.pointer (some ⟨p, 1, none⟩)) rfl rfl (wv_n rfl) rfl (fun _ _ hρ _ => r_fieldAddr fl109_1 sz3 (hρ _ _ rfl))) (all_cons (q_run (.int .i64 ((hg : Nat) : Int)) rfl rfl (wv_n rfl) rfl (fun _ _ hρ hm => r_load ag3 (hρ _ _ rfl) (hm.old hblk) rfl)) (all_cons (q_run (.int .i64 ((8 * hg : Nat) : Int)) rfl rfl (wv_n rfl) rfl (fun _ _ hρ _ => r_as (r_mul (hρ _ _ rfl) (hρ _ _ rfl)) (int_as ((wrap64 (by omega) (by omega)).trans (by omega))))) (all_cons (q_run (.int .i64 ((8 * wd : Nat) : Int)) rfl rfl (wv_n rfl) rfl (fun _ _ hρ _ => r_assign (hρ _ _ rfl))) (all_cons (q_run (.int .i64 ((8 * hg : Nat) : Int)) rfl rfl (wv_n rfl) rfl (fun _ _ hρ _ => r_assign (hρ _ _ rfl))) all_nil))))))))))))))) (end_new 12 rfl rfl (end_new 13 rfl rfl end_nil)) ?_
  refine T_ret' ?_
  refine ret_of rfl (.tuple #[.int .i64 ((8 * wd : Nat) : Int), .int .i64 ((8 * hg : Nat) : Int)]) (fun tmps w hk hm => res2 rfl (res_tmp (hk 2 _ rfl)) (res_tmp (hk 3 _ rfl))) (fun w hm => ?_)
  exact ⟨rfl, hm.ext⟩

theorem size_nil (w : World) : Calls Try.prog 32 #[.pointer none] w fun e w' => e = .returned (.tuple #[.int .i64 0, .int .i64 0]) ∧ Below w.heap.size w w' := by
  refine calls_of_T (l := [.pointer none]) 18 Try.func32 rfl rfl rfl ?_
  show T _ _ _ [(0, .pointer none)] []
  refine T_seq (T_region ?_)
  refine TL_q (.int .i64 0) (fun _ _ hρ _ => r_assign (hρ _ _ rfl)) rfl rfl rfl (w_n rfl) ?_
  refine TL_q (.int .i64 0) (fun _ _ hρ _ => r_assign (hρ _ _ rfl)) rfl rfl rfl (w_n rfl) ?_
  refine TL_seq ?_
  refine T_seq ?_
  refine T_seq (T_region ?_)
  refine TL_q (.pointer none) (fun _ _ hρ _ => r_move (hρ _ _ rfl)) rfl rfl rfl (w_n rfl) ?_
  refine TL_q (.bool true) (fun _ _ hρ _ => r_as (r_eqlPn po28 (hρ _ _ rfl) (hρ _ _ rfl)) (by rfl)) rfl rfl rfl (w_n rfl) ?_
  refine TL_seq ?_
  refine T_cond_t rfl ?_
  refine T_seq (T_region ?_)
  refine TL_q (.int .i64 0) (fun _ _ hρ _ => r_assign (hρ _ _ rfl)) rfl rfl rfl (w_n rfl) ?_
  refine TL_q (.int .i64 0) (fun _ _ hρ _ => r_assign (hρ _ _ rfl)) rfl rfl rfl (w_n rfl) ?_
  refine TL_seq ?_
  refine T_ret' ?_
  refine p_then_r ?_
  refine ret_of rfl (.tuple #[.int .i64 0, .int .i64 0]) (fun tmps w hk hm => res2 rfl (res_tmp (hk 2 _ rfl)) (res_tmp (hk 3 _ rfl))) (fun w hm => ?_)
  exact ⟨rfl, hm.ext⟩

theorem cat_in (c : Cv) (u v : Nat) (w : World) (hc : CvAt w c) (hu : u < 8 * c.wd) (hv : v < 8 * c.hg) : Calls Try.prog 23 #[.pointer (some ⟨c.p, 0, none⟩), .int .i64 (u : Int), .int .i64 (v : Int)] w fun e w' => e = .returned (.tuple #[(colAt c.wd c.ts u v).v, .bool true]) ∧ Below w.heap.size w w' := by
  obtain ⟨p, a, cap, ps, wd, hg, ts⟩ := c
  have hblk : hp w p = some (.cells #[.int .i64 (wd : Int), .int .i64 (hg : Int), .slice a ps.length cap] 111) := hc.blk
  have hrow : SliceAt w a cap 1 ptrc ps := hc.row
  have hcap : cap ≤ Go.maxLen := hc.capok
  unfold Go.maxLen at hcap
  have htl : ∀ (i q : Nat) (t : T64), ps[i]? = some q → ts[i]? = some t → hp w q = some (tilO t) := hc.tl
  have hlen : ps.length = wd * hg := hc.len
  have hlt : ts.length = ps.length := hc.len2
  have hwd : 1 ≤ wd ∧ wd ≤ 4 := hc.wd4
  have hhg : 1 ≤ hg ∧ hg ≤ 4 := hc.hg4
  have h16 := size4 hwd hhg
  have hrl := hrow.1
  obtain ⟨b, of, cs, TY, fz, ha, hcr, hrr⟩ := hrow.open (i := 0) (by omega)
  subst ha
  have hu : u < 8 * wd := hu
  have hv : v < 8 * hg := hv
  have hix := idx_lt hu hv
  refine calls_of_T (l := [.pointer (some ⟨p, 0, none⟩), .int .i64 ((u : Nat) : Int), .int .i64 ((v : Nat) : Int)]) 50 Try.func23 rfl rfl rfl ?_
  show T _ _ _ [(0, .pointer (some ⟨p, 0, none⟩)), (1, .int .i64 ((u : Nat) : Int)), (2, .int .i64 ((v : Nat) : Int))] []
  refine T_seq (T_region ?_)
  refine TL_new 1 (.cells #[.int .u8 0, .int .u8 0, .int .u8 0, .int .u8 0] 37) (fun B => .pointer (some ⟨B, 0, none⟩)) (fun _ _ _ _ => r_alloc (v := .agg #[.int .u8 0, .int .u8 0, .int .u8 0, .int .u8 0]) (by kernel_rfl) rfl) rfl rfl rfl (w_n rfl) ?_
  intro B1
  refine TL_q (.bool false) (fun _ _ hρ _ => r_assign (hρ _ _ rfl)) rfl rfl rfl (w_n rfl) ?_
  refine TL_seq ?_
  refine T_seq ?_
  refine T_seq (T_region ?_)
  refine TL_q (.pointer (some ⟨p, 0, none⟩)) (fun _ _ hρ _ => r_move (hρ _ _ rfl)) rfl rfl rfl (w_n rfl) ?_
  refine TL_q (.bool false) (fun _ _ hρ _ => r_as (r_eqlPn po28 (hρ _ _ rfl) (hρ _ _ rfl)) (by rfl)) rfl rfl rfl (w_n rfl) ?_
  refine TL_seq ?_
  refine T_cond_f rfl ?_
  refine T_skip' ?_
  refine p_seq ?_
  refine T_seq (T_region ?_)
  refine TL_q (.pointer (some ⟨p, 0, none⟩)) (fun _ _ hρ _ => r_move (hρ _ _ rfl)) rfl rfl rfl (w_n rfl) ?_
  refine TL_q (.pointer (some ⟨p, 0, none⟩)) (fun _ _ hρ _ => r_nilCheck (hρ _ _ rfl) rfl) rfl rfl rfl (w_n rfl) ?_
  refine TL_q (.pointer (some ⟨p, 0, none⟩)) (fun _ _ hρ _ => r_fieldAddr fl111_0 sz109 (hρ _ _ rfl)) rfl rfl rfl (w_n rfl) ?_
  refine TL_q (.agg #[.int .i64 ((wd : Nat) : Int), .int .i64 ((hg : Nat) : Int)]) (fun _ _ hρ hm => r_loadA ag109 sz109 (hρ _ _ rfl) (hm.old hblk) rfl rfl) rfl rfl rfl (w_n rfl) ?_
  refine TL_q (.int .i64 ((u : Nat) : Int)) (fun _ _ hρ _ => r_move (hρ _ _ rfl)) rfl rfl rfl (w_n rfl) ?_
  refine TL_q (.int .i64 ((v : Nat) : Int)) (fun _ _ hρ _ => r_move (hρ _ _ rfl)) rfl rfl rfl (w_n rfl) ?_
  refine TL_call (.tuple #[.int .i64 ((v / 8 * wd + u / 8 : Nat) : Int), .agg #[.int .i64 ((u % 8 : Nat) : Int), .int .i64 ((v % 8 : Nat) : Int)], .bool true]) (fun _ _ hρ _ => r_call (args := [.agg #[.int .i64 ((wd : Nat) : Int), .int .i64 ((hg : Nat) : Int)], .int .i64 ((u : Nat) : Int), .int .i64 ((v : Nat) : Int)]) (enters_of Try.func66 (by kernel_rfl) rfl) (hρ _ _ rfl) ((cons2 (hρ _ _ rfl) (cons2 (hρ _ _ rfl) (cons2 (hρ _ _ rfl) rfl)))) rfl) (fun w _ => place_in wd hg u v w hwd hhg hu hv) rfl rfl rfl (w_n rfl) ?_
  refine TL_q (.tuple #[.int .i64 ((v / 8 * wd + u / 8 : Nat) : Int), .agg #[.int .i64 ((u % 8 : Nat) : Int), .int .i64 ((v % 8 : Nat) : Int)], .bool true]) (fun _ _ hρ _ => r_move (hρ _ _ rfl)) rfl rfl rfl (w_n rfl) ?_
  refine TL_q (.int .i64 ((v / 8 * wd + u / 8 : Nat) : Int)) (fun _ _ hρ _ => r_extract (hρ _ _ rfl) rfl) rfl rfl rfl (w_n rfl) ?_
  refine TL_q (.agg #[.int .i64 ((u % 8 : Nat) : Int), .int .i64 ((v % 8 : Nat) : Int)]) (fun _ _ hρ _ => r_extract (hρ _ _ rfl) rfl) rfl rfl rfl (w_n rfl) ?_
  refine TL_q (.bool true) (fun _ _ hρ _ => r_extract (hρ _ _ rfl) rfl) rfl rfl rfl (w_n rfl) ?_
  refine TL_new 2 (.cells #[.int .i64 0, .int .i64 0] 47) (fun B => .pointer (some ⟨B, 0, none⟩)) (fun _ _ _ _ => r_alloc (v := .agg #[.int .i64 0, .int .i64 0]) (by kernel_rfl) rfl) rfl rfl rfl (w_n rfl) ?_
  intro B2
  refine TL_q (.int .i64 ((v / 8 * wd + u / 8 : Nat) : Int)) (fun _ _ hρ _ => r_assign (hρ _ _ rfl)) rfl rfl rfl (w_n rfl) ?_
  refine TL_store 2 (.cells #[.int .i64 ((u % 8 : Nat) : Int), .int .i64 ((v % 8 : Nat) : Int)] 47) rfl (fun _ _ hρ hm => r_store sz47 (hρ _ _ rfl) (hρ _ _ rfl) (hm.at 2 rfl) rfl rfl rfl rfl) rfl rfl (w_n rfl) ?_
  refine TL_q (.bool true) (fun _ _ hρ _ => r_assign (hρ _ _ rfl)) rfl rfl rfl (w_n rfl) ?_
  refine TL_seq ?_
  refine T_seq ?_
  refine T_seq (T_region ?_)
  refine TL_q (.bool true) (fun _ _ hρ _ => r_move (hρ _ _ rfl)) rfl rfl rfl (w_n rfl) ?_
  refine TL_q (.bool false) (fun _ _ hρ _ => r_not (b := true) (hρ _ _ rfl)) rfl rfl rfl (w_n rfl) ?_
  refine TL_seq ?_
  refine T_cond_f rfl ?_
  refine T_skip' ?_
  refine p_seq ?_
  obtain ⟨q, hqq⟩ : ∃ x, ps[(v / 8 * wd + u / 8)]? = some x := ⟨_, List.getElem?_eq_getElem (by omega)⟩
  obtain ⟨t, hqt⟩ : ∃ x, ts[(v / 8 * wd + u / 8)]? = some x := ⟨_, List.getElem?_eq_getElem (by omega)⟩
  have hbq := htl _ _ _ hqq hqt
  refine T_join (ι := Nat) (fun _ => True) (fun (Bx17 : Nat) => [(6, .pointer (some ⟨B1, 0, none⟩)), (7, .bool false), (11, .pointer (some ⟨Bx17, 0, none⟩)), (12, .int .i64 0)]) (fun (Bx17 : Nat) => [(1, .blk B1 (.cells #[.int .u8 0, .int .u8 0, .int .u8 0, .int .u8 0] 37)), (2, .blk B2 (.cells #[.int .i64 ((u % 8 : Nat) : Int), .int .i64 ((v % 8 : Nat) : Int)] 47)), (3, .blk Bx17 (.cells #[.int .u8 ((get t.l (8 * (v % 8) + u % 8)).r), .int .u8 ((get t.l (8 * (v % 8) + u % 8)).g), .int .u8 ((get t.l (8 * (v % 8) + u % 8)).b), .int .u8 ((get t.l (8 * (v % 8) + u % 8)).a)] 37))]) (T_draw (V := [(0, .pointer (some ⟨p, 0, none⟩)), (1, .pointer (some ⟨p, 0, none⟩)), (2, .pointer (some ⟨p, 2, none⟩)), (3, .slice (some ⟨b, of, none⟩) ps.length cap), (4, .int .i64 ((v / 8 * wd + u / 8 : Nat) : Int)), (5, .pointer (some ⟨b, of + (v / 8 * wd + u / 8) * 1, none⟩)), (6, .pointer (some ⟨q, 0, none⟩)), (7, .pointer (some ⟨q, 0, none⟩)), (8, .agg (lst C4.cells t.l)), (9, .pointer (some ⟨B2, 0, none⟩)), (10, .int .i64 ((u % 8 : Nat) : Int)), (11, .pointer (some ⟨B2, 1, none⟩)), (12, .int .i64 ((v % 8 : Nat) : Int))]) [0, 1, 3, 7, 0, 31, 63, 127, 255, 0, 512, 0, 2048, 8191, 16383, 32767, 32767, 0, 196607, 524287] [[(0, none)], [(31, some 0)], [(32, some 1)], [(33, some 2)], [(8, none)], [(34, some 3), (35, some 4)], [(36, some 5)], [(37, some 6)], [(38, some 7)], [(9, none)], [(40, some 9)], [(9, none)], [(42, some 11)], [(39, some 8), (41, some 10), (43, some 12)], [(44, some 13)], [(30, some 14)], [(30, some 14)], [], [(11, some 17), (45, some 15)], [(46, some 16)]] 401408 mixed (by kernel_rfl) ?_) (fun z hz => ?_)
  · skip
    refine G_step [0, 1, 2, 3, 4, 5, 6, 7, 8, 9, 10, 11, 12] 13 [17] (by kernel_rfl) (allM (all_cons (q_run (.pointer (some ⟨p, 0, none⟩)) rfl rfl (wv_n rfl) rfl (fun _ _ hρ _ => r_move (hρ _ _ rfl))) (all_cons (q_run (.pointer (some ⟨p, 0, none⟩)) rfl rfl (wv_n rfl) rfl (fun _ _ hρ _ => r_nilCheck (hρ _ _ rfl) rfl)) (all_cons (q_run (.pointer (some ⟨p, 2, none⟩)) rfl rfl (wv_n rfl) rfl (fun _ _ hρ _ => r_fieldAddr fl111_1 sz104 (hρ _ _ rfl))) (all_cons (q_run (.slice (some ⟨b, of, none⟩) ps.length cap) rfl rfl (wv_n rfl) rfl (fun _ _ hρ hm => r_load ag104 (hρ _ _ rfl) (hm.old hblk) rfl)) (all_cons (q_run (.int .i64 ((v / 8 * wd + u / 8 : Nat) : Int)) rfl rfl (wv_n rfl) rfl (fun _ _ hρ _ => r_move (hρ _ _ rfl))) (all_cons (q_run (.pointer (some ⟨b, of + (v / 8 * wd + u / 8) * 1, none⟩)) rfl rfl (wv_n rfl) rfl (fun _ _ hρ _ => r_indexAddrS (i := v / 8 * wd + u / 8) sl104 sz106 (hρ _ _ rfl) (hρ _ _ rfl) (by omega))) (all_cons (q_run (.pointer (some ⟨q, 0, none⟩)) rfl rfl (wv_n rfl) rfl (fun _ _ hρ hm => r_loadRow1 (f := ptrc) (u := q) ag106 (hρ _ _ rfl) (hm.old hcr) hrr hqq rfl)) (all_cons (q_run (.pointer (some ⟨q, 0, none⟩)) rfl rfl (wv_n rfl) rfl (fun _ _ hρ _ => r_nilCheck (hρ _ _ rfl) rfl)) (all_cons (q_run (.agg (lst C4.cells t.l)) rfl rfl (wv_n rfl) rfl (fun _ _ hρ hm => r_loadW ag39 sz39 (hρ _ _ rfl) (hm.old hbq) (tsz t.h))) (all_cons (q_run (.pointer (some ⟨B2, 0, none⟩)) rfl rfl (wv_n rfl) rfl (fun _ _ hρ _ => r_fieldAddr fl47_0 sz3 (hρ _ _ rfl))) (all_cons (q_run (.int .i64 ((u % 8 : Nat) : Int)) rfl rfl (wv_n rfl) rfl (fun _ _ hρ hm => r_load ag3 (hρ _ _ rfl) (hm.at 2 rfl) rfl)) (all_cons (q_run (.pointer (some ⟨B2, 1, none⟩)) rfl rfl (wv_n rfl) rfl (fun _ _ hρ _ => r_fieldAddr fl47_1 sz3 (hρ _ _ rfl))) (all_cons (q_run (.int .i64 ((v % 8 : Nat) : Int)) rfl rfl (wv_n rfl) rfl (fun _ _ hρ hm => r_load ag3 (hρ _ _ rfl) (hm.at 2 rfl) rfl)) all_nil)))))))))))))) (allM (all_cons ?_ (all_cons ?_ all_nil)))
    · skip
      refine LOb_call (.tuple #[.agg #[.int .u8 ((get t.l (8 * (v % 8) + u % 8)).r), .int .u8 ((get t.l (8 * (v % 8) + u % 8)).g), .int .u8 ((get t.l (8 * (v % 8) + u % 8)).b), .int .u8 ((get t.l (8 * (v % 8) + u % 8)).a)], .int .i64 0]) [(14, .tuple #[.agg #[.int .u8 ((get t.l (8 * (v % 8) + u % 8)).r), .int .u8 ((get t.l (8 * (v % 8) + u % 8)).g), .int .u8 ((get t.l (8 * (v % 8) + u % 8)).b), .int .u8 ((get t.l (8 * (v % 8) + u % 8)).a)], .int .i64 0]), (15, .agg #[.int .u8 ((get t.l (8 * (v % 8) + u % 8)).r), .int .u8 ((get t.l (8 * (v % 8) + u % 8)).g), .int .u8 ((get t.l (8 * (v % 8) + u % 8)).b), .int .u8 ((get t.l (8 * (v % 8) + u % 8)).a)]), (16, .int .i64 0)] rfl (wv_n rfl) rfl rfl (fun _ _ hρ _ => r_call (args := [.agg (lst C4.cells t.l), .int .i64 ((u % 8 : Nat) : Int), .int .i64 ((v % 8 : Nat) : Int)]) (enters_of Try.func72 (by kernel_rfl) rfl) (hρ _ _ rfl) ((cons2 (hρ _ _ rfl) (cons2 (hρ _ _ rfl) (cons2 (hρ _ _ rfl) rfl)))) rfl) (fun w _ => (at_c t.l _ _ w t.h).mono fun _ _ h => ⟨h.1.trans (congrArg Ending.returned (by rw [(at_yes (l := t.l) (px := u % 8) (py := v % 8) (by omega) (by omega)).1, (at_yes (l := t.l) (px := u % 8) (py := v % 8) (by omega) (by omega)).2, Nat.mul_comm])), h.2⟩) (by kernel_rfl) ?_
      refine G_step [14, 15, 16] 17 [] (by kernel_rfl) (allM (all_cons (q_run (.tuple #[.agg #[.int .u8 ((get t.l (8 * (v % 8) + u % 8)).r), .int .u8 ((get t.l (8 * (v % 8) + u % 8)).g), .int .u8 ((get t.l (8 * (v % 8) + u % 8)).b), .int .u8 ((get t.l (8 * (v % 8) + u % 8)).a)], .int .i64 0]) rfl rfl (wv_n rfl) rfl (fun _ _ hρ _ => r_move (hρ _ _ rfl))) (all_cons (q_run (.agg #[.int .u8 ((get t.l (8 * (v % 8) + u % 8)).r), .int .u8 ((get t.l (8 * (v % 8) + u % 8)).g), .int .u8 ((get t.l (8 * (v % 8) + u % 8)).b), .int .u8 ((get t.l (8 * (v % 8) + u % 8)).a)]) rfl rfl (wv_n rfl) rfl (fun _ _ hρ _ => r_extract (hρ _ _ rfl) rfl)) (all_cons (q_run (.int .i64 0) rfl rfl (wv_n rfl) rfl (fun _ _ hρ _ => r_extract (hρ _ _ rfl) rfl)) all_nil)))) (allM (all_cons ?_ all_nil))
      refine LOb_new 3 (.cells #[.int .u8 0, .int .u8 0, .int .u8 0, .int .u8 0] 37) (fun B => .pointer (some ⟨B, 0, none⟩)) (fun B => []) rfl (wv_n rfl) rfl rfl (fun _ _ _ _ => r_alloc (v := .agg #[.int .u8 0, .int .u8 0, .int .u8 0, .int .u8 0]) (by kernel_rfl) rfl) (fun B => by kernel_rfl) ?_
      intro B3
      refine G_step [14, 15, 16] 18 [] (by kernel_rfl) (allM (all_cons (q_run (.tuple #[.agg #[.int .u8 ((get t.l (8 * (v % 8) + u % 8)).r), .int .u8 ((get t.l (8 * (v % 8) + u % 8)).g), .int .u8 ((get t.l (8 * (v % 8) + u % 8)).b), .int .u8 ((get t.l (8 * (v % 8) + u % 8)).a)], .int .i64 0]) rfl rfl (wv_n rfl) rfl (fun _ _ hρ _ => r_move (hρ _ _ rfl))) (all_cons (q_run (.agg #[.int .u8 ((get t.l (8 * (v % 8) + u % 8)).r), .int .u8 ((get t.l (8 * (v % 8) + u % 8)).g), .int .u8 ((get t.l (8 * (v % 8) + u % 8)).b), .int .u8 ((get t.l (8 * (v % 8) + u % 8)).a)]) rfl rfl (wv_n rfl) rfl (fun _ _ hρ _ => r_extract (hρ _ _ rfl) rfl)) (all_cons (q_run (.int .i64 0) rfl rfl (wv_n rfl) rfl (fun _ _ hρ _ => r_extract (hρ _ _ rfl) rfl)) all_nil)))) (allM (all_cons ?_ all_nil))
      refine LOb_store 3 (.cells #[.int .u8 ((get t.l (8 * (v % 8) + u % 8)).r), .int .u8 ((get t.l (8 * (v % 8) + u % 8)).g), .int .u8 ((get t.l (8 * (v % 8) + u % 8)).b), .int .u8 ((get t.l (8 * (v % 8) + u % 8)).a)] 37) [(19, .int .i64 0)] rfl (wv_n rfl) rfl rfl rfl (fun _ _ hρ hm => r_store sz37 (hρ _ _ rfl) (hρ _ _ rfl) (hm.at 3 rfl) rfl rfl rfl rfl) (by kernel_rfl) ?_
      exact G_lastQ [16, 19] [(6, .pointer (some ⟨B1, 0, none⟩)), (7, .bool false), (11, .pointer (some ⟨B3, 0, none⟩)), (12, .int .i64 0)] (by kernel_rfl) (allM (all_cons (q_run (.int .i64 0) rfl rfl (wv_n rfl) rfl (fun _ _ hρ _ => r_extract (hρ _ _ rfl) rfl)) (all_cons (q_run (.int .i64 0) rfl rfl (wv_n rfl) rfl (fun _ _ hρ _ => r_assign (hρ _ _ rfl))) all_nil))) (end_old rfl rfl (end_old rfl rfl (end_new 17 rfl rfl (end_new 19 rfl rfl end_nil)))) (fun a w hf hm => At_intro B3 trivial hf hm (sub_cons rfl (sub_cons rfl (sub_cons rfl (sub_cons rfl sub_nil)))) (sub_cons rfl (sub_cons rfl (sub_cons rfl sub_nil))))
    · skip
      refine LOb_new 3 (.cells #[.int .u8 0, .int .u8 0, .int .u8 0, .int .u8 0] 37) (fun B => .pointer (some ⟨B, 0, none⟩)) (fun B => []) rfl (wv_n rfl) rfl rfl (fun _ _ _ _ => r_alloc (v := .agg #[.int .u8 0, .int .u8 0, .int .u8 0, .int .u8 0]) (by kernel_rfl) rfl) (fun B => by kernel_rfl) ?_
      intro B4
      refine G_step [0, 1, 2, 3, 4, 5, 6, 7, 8, 9, 10, 11, 12] 13 [] (by kernel_rfl) (allM (all_cons (q_run (.pointer (some ⟨p, 0, none⟩)) rfl rfl (wv_n rfl) rfl (fun _ _ hρ _ => r_move (hρ _ _ rfl))) (all_cons (q_run (.pointer (some ⟨p, 0, none⟩)) rfl rfl (wv_n rfl) rfl (fun _ _ hρ _ => r_nilCheck (hρ _ _ rfl) rfl)) (all_cons (q_run (.pointer (some ⟨p, 2, none⟩)) rfl rfl (wv_n rfl) rfl (fun _ _ hρ _ => r_fieldAddr fl111_1 sz104 (hρ _ _ rfl))) (all_cons (q_run (.slice (some ⟨b, of, none⟩) ps.length cap) rfl rfl (wv_n rfl) rfl (fun _ _ hρ hm => r_load ag104 (hρ _ _ rfl) (hm.old hblk) rfl)) (all_cons (q_run (.int .i64 ((v / 8 * wd + u / 8 : Nat) : Int)) rfl rfl (wv_n rfl) rfl (fun _ _ hρ _ => r_move (hρ _ _ rfl))) (all_cons (q_run (.pointer (some ⟨b, of + (v / 8 * wd + u / 8) * 1, none⟩)) rfl rfl (wv_n rfl) rfl (fun _ _ hρ _ => r_indexAddrS (i := v / 8 * wd + u / 8) sl104 sz106 (hρ _ _ rfl) (hρ _ _ rfl) (by omega))) (all_cons (q_run (.pointer (some ⟨q, 0, none⟩)) rfl rfl (wv_n rfl) rfl (fun _ _ hρ hm => r_loadRow1 (f := ptrc) (u := q) ag106 (hρ _ _ rfl) (hm.old hcr) hrr hqq rfl)) (all_cons (q_run (.pointer (some ⟨q, 0, none⟩)) rfl rfl (wv_n rfl) rfl (fun _ _ hρ _ => r_nilCheck (hρ _ _ rfl) rfl)) (all_cons (q_run (.agg (lst C4.cells t.l)) rfl rfl (wv_n rfl) rfl (fun _ _ hρ hm => r_loadW ag39 sz39 (hρ _ _ rfl) (hm.old hbq) (tsz t.h))) (all_cons (q_run (.pointer (some ⟨B2, 0, none⟩)) rfl rfl (wv_n rfl) rfl (fun _ _ hρ _ => r_fieldAddr fl47_0 sz3 (hρ _ _ rfl))) (all_cons (q_run (.int .i64 ((u % 8 : Nat) : Int)) rfl rfl (wv_n rfl) rfl (fun _ _ hρ hm => r_load ag3 (hρ _ _ rfl) (hm.at 2 rfl) rfl)) (all_cons (q_run (.pointer (some ⟨B2, 1, none⟩)) rfl rfl (wv_n rfl) rfl (fun _ _ hρ _ => r_fieldAddr fl47_1 sz3 (hρ _ _ rfl))) (all_cons (q_run (.int .i64 ((v % 8 : Nat) : Int)) rfl rfl (wv_n rfl) rfl (fun _ _ hρ hm => r_load ag3 (hρ _ _ rfl) (hm.at 2 rfl) rfl)) all_nil)))))))))))))) (allM (all_cons ?_ all_nil))
      refine LOb_call (.tuple #[.agg #[.int .u8 ((get t.l (8 * (v % 8) + u % 8)).r), .int .u8 ((get t.l (8 * (v % 8) + u % 8)).g), .int .u8 ((get t.l (8 * (v % 8) + u % 8)).b), .int .u8 ((get t.l (8 * (v % 8) + u % 8)).a)], .int .i64 0]) [(14, .tuple #[.agg #[.int .u8 ((get t.l (8 * (v % 8) + u % 8)).r), .int .u8 ((get t.l (8 * (v % 8) + u % 8)).g), .int .u8 ((get t.l (8 * (v % 8) + u % 8)).b), .int .u8 ((get t.l (8 * (v % 8) + u % 8)).a)], .int .i64 0]), (15, .agg #[.int .u8 ((get t.l (8 * (v % 8) + u % 8)).r), .int .u8 ((get t.l (8 * (v % 8) + u % 8)).g), .int .u8 ((get t.l (8 * (v % 8) + u % 8)).b), .int .u8 ((get t.l (8 * (v % 8) + u % 8)).a)]), (16, .int .i64 0)] rfl (wv_n rfl) rfl rfl (fun _ _ hρ _ => r_call (args := [.agg (lst C4.cells t.l), .int .i64 ((u % 8 : Nat) : Int), .int .i64 ((v % 8 : Nat) : Int)]) (enters_of Try.func72 (by kernel_rfl) rfl) (hρ _ _ rfl) ((cons2 (hρ _ _ rfl) (cons2 (hρ _ _ rfl) (cons2 (hρ _ _ rfl) rfl)))) rfl) (fun w _ => (at_c t.l _ _ w t.h).mono fun _ _ h => ⟨h.1.trans (congrArg Ending.returned (by rw [(at_yes (l := t.l) (px := u % 8) (py := v % 8) (by omega) (by omega)).1, (at_yes (l := t.l) (px := u % 8) (py := v % 8) (by omega) (by omega)).2, Nat.mul_comm])), h.2⟩) (by kernel_rfl) ?_
      refine G_step [14, 15, 16] 18 [] (by kernel_rfl) (allM (all_cons (q_run (.tuple #[.agg #[.int .u8 ((get t.l (8 * (v % 8) + u % 8)).r), .int .u8 ((get t.l (8 * (v % 8) + u % 8)).g), .int .u8 ((get t.l (8 * (v % 8) + u % 8)).b), .int .u8 ((get t.l (8 * (v % 8) + u % 8)).a)], .int .i64 0]) rfl rfl (wv_n rfl) rfl (fun _ _ hρ _ => r_move (hρ _ _ rfl))) (all_cons (q_run (.agg #[.int .u8 ((get t.l (8 * (v % 8) + u % 8)).r), .int .u8 ((get t.l (8 * (v % 8) + u % 8)).g), .int .u8 ((get t.l (8 * (v % 8) + u % 8)).b), .int .u8 ((get t.l (8 * (v % 8) + u % 8)).a)]) rfl rfl (wv_n rfl) rfl (fun _ _ hρ _ => r_extract (hρ _ _ rfl) rfl)) (all_cons (q_run (.int .i64 0) rfl rfl (wv_n rfl) rfl (fun _ _ hρ _ => r_extract (hρ _ _ rfl) rfl)) all_nil)))) (allM (all_cons ?_ all_nil))
      refine LOb_store 3 (.cells #[.int .u8 ((get t.l (8 * (v % 8) + u % 8)).r), .int .u8 ((get t.l (8 * (v % 8) + u % 8)).g), .int .u8 ((get t.l (8 * (v % 8) + u % 8)).b), .int .u8 ((get t.l (8 * (v % 8) + u % 8)).a)] 37) [(19, .int .i64 0)] rfl (wv_n rfl) rfl rfl rfl (fun _ _ hρ hm => r_store sz37 (hρ _ _ rfl) (hρ _ _ rfl) (hm.at 3 rfl) rfl rfl rfl rfl) (by kernel_rfl) ?_
      exact G_lastQ [16, 19] [(6, .pointer (some ⟨B1, 0, none⟩)), (7, .bool false), (11, .pointer (some ⟨B4, 0, none⟩)), (12, .int .i64 0)] (by kernel_rfl) (allM (all_cons (q_run (.int .i64 0) rfl rfl (wv_n rfl) rfl (fun _ _ hρ _ => r_extract (hρ _ _ rfl) rfl)) (all_cons (q_run (.int .i64 0) rfl rfl (wv_n rfl) rfl (fun _ _ hρ _ => r_assign (hρ _ _ rfl))) all_nil))) (end_old rfl rfl (end_old rfl rfl (end_new 17 rfl rfl (end_new 19 rfl rfl end_nil)))) (fun a w hf hm => At_intro B4 trivial hf hm (sub_cons rfl (sub_cons rfl (sub_cons rfl (sub_cons rfl sub_nil)))) (sub_cons rfl (sub_cons rfl (sub_cons rfl sub_nil))))
  · skip
    obtain ⟨Bx17, hzz⟩ : ∃ b, b = z := ⟨_, rfl⟩; subst hzz
    show T _ _ _ [(6, .pointer (some ⟨B1, 0, none⟩)), (7, .bool false), (11, .pointer (some ⟨Bx17, 0, none⟩)), (12, .int .i64 0)] [(1, .blk B1 (.cells #[.int .u8 0, .int .u8 0, .int .u8 0, .int .u8 0] 37)), (2, .blk B2 (.cells #[.int .i64 ((u % 8 : Nat) : Int), .int .i64 ((v % 8 : Nat) : Int)] 47)), (3, .blk Bx17 (.cells #[.int .u8 ((get t.l (8 * (v % 8) + u % 8)).r), .int .u8 ((get t.l (8 * (v % 8) + u % 8)).g), .int .u8 ((get t.l (8 * (v % 8) + u % 8)).b), .int .u8 ((get t.l (8 * (v % 8) + u % 8)).a)] 37))]
    refine T_seq (T_region ?_)
    refine TL_q (.agg #[.int .u8 ((get t.l (8 * (v % 8) + u % 8)).r), .int .u8 ((get t.l (8 * (v % 8) + u % 8)).g), .int .u8 ((get t.l (8 * (v % 8) + u % 8)).b), .int .u8 ((get t.l (8 * (v % 8) + u % 8)).a)]) (fun _ _ hρ hm => r_loadA ag37 sz37 (hρ _ _ rfl) (hm.at 3 rfl) rfl rfl) rfl rfl rfl (w_n rfl) ?_
    refine TL_q (.int .i64 0) (fun _ _ hρ _ => r_move (hρ _ _ rfl)) rfl rfl rfl (w_n rfl) ?_
    refine TL_q (.bool true) (fun _ _ hρ _ => r_as (r_eql (hρ _ _ rfl) (hρ _ _ rfl)) (by rfl)) rfl rfl rfl (w_n rfl) ?_
    refine TL_store 1 (.cells #[.int .u8 ((get t.l (8 * (v % 8) + u % 8)).r), .int .u8 ((get t.l (8 * (v % 8) + u % 8)).g), .int .u8 ((get t.l (8 * (v % 8) + u % 8)).b), .int .u8 ((get t.l (8 * (v % 8) + u % 8)).a)] 37) rfl (fun _ _ hρ hm => r_store sz37 (hρ _ _ rfl) (hρ _ _ rfl) (hm.at 1 rfl) rfl rfl rfl rfl) rfl rfl (w_n rfl) ?_
    refine TL_q (.bool true) (fun _ _ hρ _ => r_assign (hρ _ _ rfl)) rfl rfl rfl (w_n rfl) ?_
    refine TL_seq ?_
    refine T_ret' ?_
    refine ret_of rfl (.tuple #[.agg #[.int .u8 ((get t.l (8 * (v % 8) + u % 8)).r), .int .u8 ((get t.l (8 * (v % 8) + u % 8)).g), .int .u8 ((get t.l (8 * (v % 8) + u % 8)).b), .int .u8 ((get t.l (8 * (v % 8) + u % 8)).a)], .bool true]) (fun tmps w hk hm => res2 rfl (res_cell (hk 6 _ rfl) (run_loadVar_agg ag37 sz37 (hm.at 1 rfl) (Nat.le_of_ble_eq_true rfl) rfl)) (res_tmp (hk 7 _ rfl))) (fun w hm => ?_)
    exact ⟨congrArg (fun z : C4 => Ending.returned (.tuple #[z.v, .bool true])) (show get t.l (8 * (v % 8) + u % 8) = colAt wd ts u v from by unfold colAt; rw [tileAt_some hqt]), hm.ext⟩

theorem cat_out (c : Cv) (x y : Int) (w : World) (hc : CvAt w c) (hon : ¬ onC c.wd c.hg x y = true) : Calls Try.prog 23 #[.pointer (some ⟨c.p, 0, none⟩), .int .i64 x, .int .i64 y] w fun e w' => e = .returned (.tuple #[zeroC.v, .bool false]) ∧ Below w.heap.size w w' := by
  obtain ⟨p, a, cap, ps, wd, hg, ts⟩ := c
  have hblk : hp w p = some (.cells #[.int .i64 (wd : Int), .int .i64 (hg : Int), .slice a ps.length cap] 111) := hc.blk
  have hrow : SliceAt w a cap 1 ptrc ps := hc.row
  have hcap : cap ≤ Go.maxLen := hc.capok
  unfold Go.maxLen at hcap
  have htl : ∀ (i q : Nat) (t : T64), ps[i]? = some q → ts[i]? = some t → hp w q = some (tilO t) := hc.tl
  have hlen : ps.length = wd * hg := hc.len
  have hlt : ts.length = ps.length := hc.len2
  have hwd : 1 ≤ wd ∧ wd ≤ 4 := hc.wd4
  have hhg : 1 ≤ hg ∧ hg ≤ 4 := hc.hg4
  have h16 := size4 hwd hhg
  have hrl := hrow.1
  obtain ⟨b, of, cs, TY, fz, ha, hcr, hrr⟩ := hrow.open (i := 0) (by omega)
  subst ha
  refine calls_of_T (l := [.pointer (some ⟨p, 0, none⟩), .int .i64 x, .int .i64 y]) 50 Try.func23 rfl rfl rfl ?_
  show T _ _ _ [(0, .pointer (some ⟨p, 0, none⟩)), (1, .int .i64 x), (2, .int .i64 y)] []
  refine T_seq (T_region ?_)
  refine TL_new 1 (.cells #[.int .u8 0, .int .u8 0, .int .u8 0, .int .u8 0] 37) (fun B => .pointer (some ⟨B, 0, none⟩)) (fun _ _ _ _ => r_alloc (v := .agg #[.int .u8 0, .int .u8 0, .int .u8 0, .int .u8 0]) (by kernel_rfl) rfl) rfl rfl rfl (w_n rfl) ?_
  intro B1
  refine TL_q (.bool false) (fun _ _ hρ _ => r_assign (hρ _ _ rfl)) rfl rfl rfl (w_n rfl) ?_
  refine TL_seq ?_
  refine T_seq ?_
  refine T_seq (T_region ?_)
  refine TL_q (.pointer (some ⟨p, 0, none⟩)) (fun _ _ hρ _ => r_move (hρ _ _ rfl)) rfl rfl rfl (w_n rfl) ?_
  refine TL_q (.bool false) (fun _ _ hρ _ => r_as (r_eqlPn po28 (hρ _ _ rfl) (hρ _ _ rfl)) (by rfl)) rfl rfl rfl (w_n rfl) ?_
  refine TL_seq ?_
  refine T_cond_f rfl ?_
  refine T_skip' ?_
  refine p_seq ?_
  refine T_seq (T_region ?_)
  refine TL_q (.pointer (some ⟨p, 0, none⟩)) (fun _ _ hρ _ => r_move (hρ _ _ rfl)) rfl rfl rfl (w_n rfl) ?_
  refine TL_q (.pointer (some ⟨p, 0, none⟩)) (fun _ _ hρ _ => r_nilCheck (hρ _ _ rfl) rfl) rfl rfl rfl (w_n rfl) ?_
  refine TL_q (.pointer (some ⟨p, 0, none⟩)) (fun _ _ hρ _ => r_fieldAddr fl111_0 sz109 (hρ _ _ rfl)) rfl rfl rfl (w_n rfl) ?_
  refine TL_q (.agg #[.int .i64 ((wd : Nat) : Int), .int .i64 ((hg : Nat) : Int)]) (fun _ _ hρ hm => r_loadA ag109 sz109 (hρ _ _ rfl) (hm.old hblk) rfl rfl) rfl rfl rfl (w_n rfl) ?_
  refine TL_q (.int .i64 x) (fun _ _ hρ _ => r_move (hρ _ _ rfl)) rfl rfl rfl (w_n rfl) ?_
  refine TL_q (.int .i64 y) (fun _ _ hρ _ => r_move (hρ _ _ rfl)) rfl rfl rfl (w_n rfl) ?_
  refine TL_call (.tuple #[.int .i64 0, .agg #[.int .i64 0, .int .i64 0], .bool false]) (fun _ _ hρ _ => r_call (args := [.agg #[.int .i64 ((wd : Nat) : Int), .int .i64 ((hg : Nat) : Int)], .int .i64 x, .int .i64 y]) (enters_of Try.func66 (by kernel_rfl) rfl) (hρ _ _ rfl) ((cons2 (hρ _ _ rfl) (cons2 (hρ _ _ rfl) (cons2 (hρ _ _ rfl) rfl)))) rfl) (fun w _ => place_out wd hg x y w hwd hhg hon) rfl rfl rfl (w_n rfl) ?_
  refine TL_q (.tuple #[.int .i64 0, .agg #[.int .i64 0, .int .i64 0], .bool false]) (fun _ _ hρ _ => r_move (hρ _ _ rfl)) rfl rfl rfl (w_n rfl) ?_
  refine TL_q (.int .i64 0) (fun _ _ hρ _ => r_extract (hρ _ _ rfl) rfl) rfl rfl rfl (w_n rfl) ?_
  refine TL_q (.agg #[.int .i64 0, .int .i64 0]) (fun _ _ hρ _ => r_extract (hρ _ _ rfl) rfl) rfl rfl rfl (w_n rfl) ?_
  refine TL_q (.bool false) (fun _ _ hρ _ => r_extract (hρ _ _ rfl) rfl) rfl rfl rfl (w_n rfl) ?_
  refine TL_new 2 (.cells #[.int .i64 0, .int .i64 0] 47) (fun B => .pointer (some ⟨B, 0, none⟩)) (fun _ _ _ _ => r_alloc (v := .agg #[.int .i64 0, .int .i64 0]) (by kernel_rfl) rfl) rfl rfl rfl (w_n rfl) ?_
  intro B2
  refine TL_q (.int .i64 0) (fun _ _ hρ _ => r_assign (hρ _ _ rfl)) rfl rfl rfl (w_n rfl) ?_
  refine TL_store 2 (.cells #[.int .i64 0, .int .i64 0] 47) rfl (fun _ _ hρ hm => r_store sz47 (hρ _ _ rfl) (hρ _ _ rfl) (hm.at 2 rfl) rfl rfl rfl rfl) rfl rfl (w_n rfl) ?_
  refine TL_q (.bool false) (fun _ _ hρ _ => r_assign (hρ _ _ rfl)) rfl rfl rfl (w_n rfl) ?_
  refine TL_seq ?_
  refine T_seq ?_
  refine T_seq (T_region ?_)
  refine TL_q (.bool false) (fun _ _ hρ _ => r_move (hρ _ _ rfl)) rfl rfl rfl (w_n rfl) ?_
  refine TL_q (.bool true) (fun _ _ hρ _ => r_not (b := false) (hρ _ _ rfl)) rfl rfl rfl (w_n rfl) ?_
  refine TL_seq ?_
  refine T_cond_t rfl ?_
  refine T_seq (T_region ?_)
  refine TL_q (.agg #[.int .u8 0, .int .u8 0, .int .u8 0, .int .u8 0]) (fun _ _ _ _ => r_build (vs := []) (by kernel_rfl) rfl) rfl rfl rfl (w_n rfl) ?_
  refine TL_store 1 (.cells #[.int .u8 0, .int .u8 0, .int .u8 0, .int .u8 0] 37) rfl (fun _ _ hρ hm => r_store sz37 (hρ _ _ rfl) (hρ _ _ rfl) (hm.at 1 rfl) rfl rfl rfl rfl) rfl rfl (w_n rfl) ?_
  refine TL_q (.bool false) (fun _ _ hρ _ => r_assign (hρ _ _ rfl)) rfl rfl rfl (w_n rfl) ?_
  refine TL_seq ?_
  refine T_ret' ?_
  refine p_then_r ?_
  refine ret_of rfl (.tuple #[.agg #[.int .u8 0, .int .u8 0, .int .u8 0, .int .u8 0], .bool false]) (fun tmps w hk hm => res2 rfl (res_cell (hk 6 _ rfl) (run_loadVar_agg ag37 sz37 (hm.at 1 rfl) (Nat.le_of_ble_eq_true rfl) rfl)) (res_tmp (hk 7 _ rfl))) (fun w hm => ?_)
  exact ⟨rfl, hm.ext⟩

theorem cat_nil (x y : Int) (w : World) : Calls Try.prog 23 #[.pointer none, .int .i64 x, .int .i64 y] w fun e w' => e = .returned (.tuple #[zeroC.v, .bool false]) ∧ Below w.heap.size w w' := by
  refine calls_of_T (l := [.pointer none, .int .i64 x, .int .i64 y]) 50 Try.func23 rfl rfl rfl ?_
  show T _ _ _ [(0, .pointer none), (1, .int .i64 x), (2, .int .i64 y)] []
  refine T_seq (T_region ?_)
  refine TL_new 1 (.cells #[.int .u8 0, .int .u8 0, .int .u8 0, .int .u8 0] 37) (fun B => .pointer (some ⟨B, 0, none⟩)) (fun _ _ _ _ => r_alloc (v := .agg #[.int .u8 0, .int .u8 0, .int .u8 0, .int .u8 0]) (by kernel_rfl) rfl) rfl rfl rfl (w_n rfl) ?_
  intro B1
  refine TL_q (.bool false) (fun _ _ hρ _ => r_assign (hρ _ _ rfl)) rfl rfl rfl (w_n rfl) ?_
  refine TL_seq ?_
  refine T_seq ?_
  refine T_seq (T_region ?_)
  refine TL_q (.pointer none) (fun _ _ hρ _ => r_move (hρ _ _ rfl)) rfl rfl rfl (w_n rfl) ?_
  refine TL_q (.bool true) (fun _ _ hρ _ => r_as (r_eqlPn po28 (hρ _ _ rfl) (hρ _ _ rfl)) (by rfl)) rfl rfl rfl (w_n rfl) ?_
  refine TL_seq ?_
  refine T_cond_t rfl ?_
  refine T_seq (T_region ?_)
  refine TL_q (.agg #[.int .u8 0, .int .u8 0, .int .u8 0, .int .u8 0]) (fun _ _ _ _ => r_build (vs := []) (by kernel_rfl) rfl) rfl rfl rfl (w_n rfl) ?_
  refine TL_store 1 (.cells #[.int .u8 0, .int .u8 0, .int .u8 0, .int .u8 0] 37) rfl (fun _ _ hρ hm => r_store sz37 (hρ _ _ rfl) (hρ _ _ rfl) (hm.at 1 rfl) rfl rfl rfl rfl) rfl rfl (w_n rfl) ?_
  refine TL_q (.bool false) (fun _ _ hρ _ => r_assign (hρ _ _ rfl)) rfl rfl rfl (w_n rfl) ?_
  refine TL_seq ?_
  refine T_ret' ?_
  refine p_then_r ?_
  refine ret_of rfl (.tuple #[.agg #[.int .u8 0, .int .u8 0, .int .u8 0, .int .u8 0], .bool false]) (fun tmps w hk hm => res2 rfl (res_cell (hk 6 _ rfl) (run_loadVar_agg ag37 sz37 (hm.at 1 rfl) (Nat.le_of_ble_eq_true rfl) rfl)) (res_tmp (hk 7 _ rfl))) (fun w hm => ?_)
  exact ⟨rfl, hm.ext⟩
end Go.Proofs.Ytbiapeaghbndoaa
