/- Texts of this seat, merged: part 5. -/
import Derived.Test.YtbiapeaghbndoaaMg4
/- canvas: the reference of Lay, a pixel; Of. Printed by a program of this seat's prover. -/
namespace Go.Proofs.Ytbiapeaghbndoaa
open Go Go.RowKit
set_option maxRecDepth 10000
theorem sof_x (x : Int) (a : Option Addr) (n cap : Nat) (w : World) (hno : sideI x = false) : Calls Try.prog 44 #[.int .i64 x, .slice a n cap] w fun e w' => e = .returned (.tuple #[.agg #[.int .i64 0, .int .i64 0, .slice none 0 0], .int .i64 2]) ∧ Below w.heap.size w w' := by
  refine calls_of_T (l := [.int .i64 x, .slice a n cap]) 44 Try.func44 rfl rfl rfl ?_
  show T _ _ _ [(0, .int .i64 x), (1, .slice a n cap)] []
  refine T_seq (T_region ?_)
  refine TL_new 1 (.cells #[.int .i64 0, .int .i64 0, .slice none 0 0] 75) (fun B => .pointer (some ⟨B, 0, none⟩)) (fun _ _ _ _ => r_alloc (v := .agg #[.int .i64 0, .int .i64 0, .slice none 0 0]) (by kernel_rfl) rfl) rfl rfl rfl (w_n rfl) ?_
  intro B1
  refine TL_q (.int .i64 0) (fun _ _ hρ _ => r_assign (hρ _ _ rfl)) rfl rfl rfl (w_n rfl) ?_
  refine TL_seq ?_
  refine T_seq ?_
  refine T_seq (T_region ?_)
  refine TL_q (.int .i64 x) (fun _ _ hρ _ => r_move (hρ _ _ rfl)) rfl rfl rfl (w_n rfl) ?_
  refine TL_call (.bool false) (fun _ _ hρ _ => r_call (args := [.int .i64 x]) (enters_of Try.func81 (by kernel_rfl) rfl) (hρ _ _ rfl) ((cons2 (hρ _ _ rfl) rfl)) rfl) (fun w _ => (side_c x w).mono fun _ _ h => ⟨h.1.trans (congrArg Ending.returned (bool_as hno)), h.2⟩) rfl rfl rfl (w_n rfl) ?_
  refine TL_q (.bool true) (fun _ _ hρ _ => r_not (b := false) (hρ _ _ rfl)) rfl rfl rfl (w_n rfl) ?_
  refine TL_q (.bool true) (fun _ _ hρ _ => r_move (hρ _ _ rfl)) rfl rfl rfl (w_n rfl) ?_
  refine TL_no rfl rfl (want_n 10 rfl rfl rfl) ?_
  refine TL_no rfl rfl (want_n 10 rfl rfl rfl) ?_
  refine TL_no rfl rfl (want_n 10 rfl rfl rfl) ?_
  refine TL_no rfl rfl (want_n 10 rfl rfl rfl) ?_
  refine TL_no rfl rfl (want_n 10 rfl rfl rfl) ?_
  refine TL_q (.bool true) (fun _ _ hρ _ => r_pick_t (hρ _ _ rfl) (hρ _ _ rfl)) rfl rfl rfl (w_n rfl) ?_
  refine TL_q (.bool true) (fun _ _ hρ _ => r_move (hρ _ _ rfl)) rfl rfl rfl (w_n rfl) ?_
  refine TL_no rfl rfl (want_n 17 rfl rfl rfl) ?_
  refine TL_no rfl rfl (want_n 17 rfl rfl rfl) ?_
  refine TL_no rfl rfl (want_n 17 rfl rfl rfl) ?_
  refine TL_no rfl rfl (want_n 17 rfl rfl rfl) ?_
  refine TL_no rfl rfl (want_n 17 rfl rfl rfl) ?_
  refine TL_no rfl rfl (want_n 17 rfl rfl rfl) ?_
  refine TL_q (.bool true) (fun _ _ hρ _ => r_pick_t (hρ _ _ rfl) (hρ _ _ rfl)) rfl rfl rfl (w_n rfl) ?_
  refine TL_seq ?_
  refine T_cond_t rfl ?_
  refine T_seq (T_region ?_)
  refine TL_q (.agg #[.int .i64 0, .int .i64 0, .slice none 0 0]) (fun _ _ _ _ => r_build (vs := []) (by kernel_rfl) rfl) rfl rfl rfl (w_n rfl) ?_
  refine TL_store 1 (.cells #[.int .i64 0, .int .i64 0, .slice none 0 0] 75) rfl (fun _ _ hρ hm => r_store sz75 (hρ _ _ rfl) (hρ _ _ rfl) (hm.at 1 rfl) rfl rfl rfl rfl) rfl rfl (w_n rfl) ?_
  refine TL_q (.int .i64 2) (fun _ _ hρ _ => r_assign (hρ _ _ rfl)) rfl rfl rfl (w_n rfl) ?_
  refine TL_seq ?_
  refine T_ret' ?_
  refine p_then_r ?_
  refine ret_of rfl (.tuple #[.agg #[.int .i64 0, .int .i64 0, .slice none 0 0], .int .i64 2]) (fun tmps w hk hm => res2 rfl (res_cell (hk 4 _ rfl) (run_loadVar_agg ag75 sz75 (hm.at 1 rfl) (Nat.le_of_ble_eq_true rfl) rfl)) (res_tmp (hk 5 _ rfl))) (fun w hm => ?_)
  exact ⟨rfl, hm.ext⟩

theorem sof_r (p : Nat) (a : Option Addr) (n cap : Nat) (w : World) (hp : 1 ≤ p ∧ p ≤ 8) (hno : ¬ ((n : Nat) : Int) % ((p : Nat) : Int) = 0) : Calls Try.prog 44 #[.int .i64 (p : Int), .slice a n cap] w fun e w' => e = .returned (.tuple #[.agg #[.int .i64 0, .int .i64 0, .slice none 0 0], .int .i64 2]) ∧ Below w.heap.size w w' := by
  refine calls_of_T (l := [.int .i64 ((p : Nat) : Int), .slice a n cap]) 44 Try.func44 rfl rfl rfl ?_
  show T _ _ _ [(0, .int .i64 ((p : Nat) : Int)), (1, .slice a n cap)] []
  refine T_seq (T_region ?_)
  refine TL_new 1 (.cells #[.int .i64 0, .int .i64 0, .slice none 0 0] 75) (fun B => .pointer (some ⟨B, 0, none⟩)) (fun _ _ _ _ => r_alloc (v := .agg #[.int .i64 0, .int .i64 0, .slice none 0 0]) (by kernel_rfl) rfl) rfl rfl rfl (w_n rfl) ?_
  intro B1
  refine TL_q (.int .i64 0) (fun _ _ hρ _ => r_assign (hρ _ _ rfl)) rfl rfl rfl (w_n rfl) ?_
  refine TL_seq ?_
  refine T_seq ?_
  refine T_seq (T_region ?_)
  refine TL_q (.int .i64 ((p : Nat) : Int)) (fun _ _ hρ _ => r_move (hρ _ _ rfl)) rfl rfl rfl (w_n rfl) ?_
  refine TL_call (.bool true) (fun _ _ hρ _ => r_call (args := [.int .i64 ((p : Nat) : Int)]) (enters_of Try.func81 (by kernel_rfl) rfl) (hρ _ _ rfl) ((cons2 (hρ _ _ rfl) rfl)) rfl) (fun w _ => (side_c ((p : Nat) : Int) w).mono fun _ _ h => ⟨h.1.trans (congrArg Ending.returned (bool_as (sideI_of hp))), h.2⟩) rfl rfl rfl (w_n rfl) ?_
  refine TL_q (.bool false) (fun _ _ hρ _ => r_not (b := true) (hρ _ _ rfl)) rfl rfl rfl (w_n rfl) ?_
  refine TL_q (.bool false) (fun _ _ hρ _ => r_move (hρ _ _ rfl)) rfl rfl rfl (w_n rfl) ?_
  refine TL_q (.slice a n cap) (fun _ _ hρ _ => r_move (hρ _ _ rfl)) rfl rfl rfl (want_y 10 rfl rfl rfl) ?_
  refine TL_q (.int .i64 ((n : Nat) : Int)) (fun _ _ hρ _ => r_len sl71 (hρ _ _ rfl)) rfl rfl rfl (want_y 10 rfl rfl rfl) ?_
  refine TL_q (.int .i64 ((p : Nat) : Int)) (fun _ _ hρ _ => r_move (hρ _ _ rfl)) rfl rfl rfl (want_y 10 rfl rfl rfl) ?_
  refine TL_q (.int .i64 (((n : Nat) : Int) % ((p : Nat) : Int))) (fun _ _ hρ _ => r_as (r_rem (hρ _ _ rfl) (hρ _ _ rfl) (by omega)) (int_as (Int.tmod_eq_emod_of_nonneg (by omega)))) rfl rfl rfl (want_y 10 rfl rfl rfl) ?_
  refine TL_q (.bool true) (fun _ _ hρ _ => r_as (r_neq (hρ _ _ rfl) (hρ _ _ rfl)) (bool_as (by rw [decide_eq_false hno]; rfl))) rfl rfl rfl (want_y 10 rfl rfl rfl) ?_
  refine TL_q (.bool true) (fun _ _ hρ _ => r_pick_f (hρ _ _ rfl) (hρ _ _ rfl)) rfl rfl rfl (w_n rfl) ?_
  refine TL_q (.bool true) (fun _ _ hρ _ => r_move (hρ _ _ rfl)) rfl rfl rfl (w_n rfl) ?_
  refine TL_no rfl rfl (want_n 17 rfl rfl rfl) ?_
  refine TL_no rfl rfl (want_n 17 rfl rfl rfl) ?_
  refine TL_no rfl rfl (want_n 17 rfl rfl rfl) ?_
  refine TL_no rfl rfl (want_n 17 rfl rfl rfl) ?_
  refine TL_no rfl rfl (want_n 17 rfl rfl rfl) ?_
  refine TL_no rfl rfl (want_n 17 rfl rfl rfl) ?_
  refine TL_q (.bool true) (fun _ _ hρ _ => r_pick_t (hρ _ _ rfl) (hρ _ _ rfl)) rfl rfl rfl (w_n rfl) ?_
  refine TL_seq ?_
  refine T_cond_t rfl ?_
  refine T_seq (T_region ?_)
  refine TL_q (.agg #[.int .i64 0, .int .i64 0, .slice none 0 0]) (fun _ _ _ _ => r_build (vs := []) (by kernel_rfl) rfl) rfl rfl rfl (w_n rfl) ?_
  refine TL_store 1 (.cells #[.int .i64 0, .int .i64 0, .slice none 0 0] 75) rfl (fun _ _ hρ hm => r_store sz75 (hρ _ _ rfl) (hρ _ _ rfl) (hm.at 1 rfl) rfl rfl rfl rfl) rfl rfl (w_n rfl) ?_
  refine TL_q (.int .i64 2) (fun _ _ hρ _ => r_assign (hρ _ _ rfl)) rfl rfl rfl (w_n rfl) ?_
  refine TL_seq ?_
  refine T_ret' ?_
  refine p_then_r ?_
  refine ret_of rfl (.tuple #[.agg #[.int .i64 0, .int .i64 0, .slice none 0 0], .int .i64 2]) (fun tmps w hk hm => res2 rfl (res_cell (hk 4 _ rfl) (run_loadVar_agg ag75 sz75 (hm.at 1 rfl) (Nat.le_of_ble_eq_true rfl) rfl)) (res_tmp (hk 5 _ rfl))) (fun w hm => ?_)
  exact ⟨rfl, hm.ext⟩

theorem sof_q (p q : Nat) (a : Option Addr) (n cap : Nat) (w : World) (hp : 1 ≤ p ∧ p ≤ 8) (hrem : ((n : Nat) : Int) % ((p : Nat) : Int) = 0) (hquo : IntKind.i64.wrap (Int.tdiv ((n : Nat) : Int) ((p : Nat) : Int)) = ((q : Nat) : Int)) (hno : sideI q = false) : Calls Try.prog 44 #[.int .i64 (p : Int), .slice a n cap] w fun e w' => e = .returned (.tuple #[.agg #[.int .i64 0, .int .i64 0, .slice none 0 0], .int .i64 2]) ∧ Below w.heap.size w w' := by
  refine calls_of_T (l := [.int .i64 ((p : Nat) : Int), .slice a n cap]) 44 Try.func44 rfl rfl rfl ?_
  show T _ _ _ [(0, .int .i64 ((p : Nat) : Int)), (1, .slice a n cap)] []
  refine T_seq (T_region ?_)
  refine TL_new 1 (.cells #[.int .i64 0, .int .i64 0, .slice none 0 0] 75) (fun B => .pointer (some ⟨B, 0, none⟩)) (fun _ _ _ _ => r_alloc (v := .agg #[.int .i64 0, .int .i64 0, .slice none 0 0]) (by kernel_rfl) rfl) rfl rfl rfl (w_n rfl) ?_
  intro B1
  refine TL_q (.int .i64 0) (fun _ _ hρ _ => r_assign (hρ _ _ rfl)) rfl rfl rfl (w_n rfl) ?_
  refine TL_seq ?_
  refine T_seq ?_
  refine T_seq (T_region ?_)
  refine TL_q (.int .i64 ((p : Nat) : Int)) (fun _ _ hρ _ => r_move (hρ _ _ rfl)) rfl rfl rfl (w_n rfl) ?_
  refine TL_call (.bool true) (fun _ _ hρ _ => r_call (args := [.int .i64 ((p : Nat) : Int)]) (enters_of Try.func81 (by kernel_rfl) rfl) (hρ _ _ rfl) ((cons2 (hρ _ _ rfl) rfl)) rfl) (fun w _ => (side_c ((p : Nat) : Int) w).mono fun _ _ h => ⟨h.1.trans (congrArg Ending.returned (bool_as (sideI_of hp))), h.2⟩) rfl rfl rfl (w_n rfl) ?_
  refine TL_q (.bool false) (fun _ _ hρ _ => r_not (b := true) (hρ _ _ rfl)) rfl rfl rfl (w_n rfl) ?_
  refine TL_q (.bool false) (fun _ _ hρ _ => r_move (hρ _ _ rfl)) rfl rfl rfl (w_n rfl) ?_
  refine TL_q (.slice a n cap) (fun _ _ hρ _ => r_move (hρ _ _ rfl)) rfl rfl rfl (want_y 10 rfl rfl rfl) ?_
  refine TL_q (.int .i64 ((n : Nat) : Int)) (fun _ _ hρ _ => r_len sl71 (hρ _ _ rfl)) rfl rfl rfl (want_y 10 rfl rfl rfl) ?_
  refine TL_q (.int .i64 ((p : Nat) : Int)) (fun _ _ hρ _ => r_move (hρ _ _ rfl)) rfl rfl rfl (want_y 10 rfl rfl rfl) ?_
  refine TL_q (.int .i64 (((n : Nat) : Int) % ((p : Nat) : Int))) (fun _ _ hρ _ => r_as (r_rem (hρ _ _ rfl) (hρ _ _ rfl) (by omega)) (int_as (Int.tmod_eq_emod_of_nonneg (by omega)))) rfl rfl rfl (want_y 10 rfl rfl rfl) ?_
  refine TL_q (.bool false) (fun _ _ hρ _ => r_as (r_neq (hρ _ _ rfl) (hρ _ _ rfl)) (bool_as (by rw [decide_eq_true hrem]; rfl))) rfl rfl rfl (want_y 10 rfl rfl rfl) ?_
  refine TL_q (.bool false) (fun _ _ hρ _ => r_pick_f (hρ _ _ rfl) (hρ _ _ rfl)) rfl rfl rfl (w_n rfl) ?_
  refine TL_q (.bool false) (fun _ _ hρ _ => r_move (hρ _ _ rfl)) rfl rfl rfl (w_n rfl) ?_
  refine TL_q (.slice a n cap) (fun _ _ hρ _ => r_move (hρ _ _ rfl)) rfl rfl rfl (want_y 17 rfl rfl rfl) ?_
  refine TL_q (.int .i64 ((n : Nat) : Int)) (fun _ _ hρ _ => r_len sl71 (hρ _ _ rfl)) rfl rfl rfl (want_y 17 rfl rfl rfl) ?_
  refine TL_q (.int .i64 ((p : Nat) : Int)) (fun _ _ hρ _ => r_move (hρ _ _ rfl)) rfl rfl rfl (want_y 17 rfl rfl rfl) ?_
  refine TL_q (.int .i64 ((q : Nat) : Int)) (fun _ _ hρ _ => r_as (r_quo (hρ _ _ rfl) (hρ _ _ rfl) (by omega)) (int_as hquo)) rfl rfl rfl (want_y 17 rfl rfl rfl) ?_
  refine TL_call (.bool false) (fun _ _ hρ _ => r_call (args := [.int .i64 ((q : Nat) : Int)]) (enters_of Try.func81 (by kernel_rfl) rfl) (hρ _ _ rfl) ((cons2 (hρ _ _ rfl) rfl)) rfl) (fun w _ => (side_c ((q : Nat) : Int) w).mono fun _ _ h => ⟨h.1.trans (congrArg Ending.returned (bool_as hno)), h.2⟩) rfl rfl rfl (want_y 17 rfl rfl rfl) ?_
  refine TL_q (.bool true) (fun _ _ hρ _ => r_not (b := false) (hρ _ _ rfl)) rfl rfl rfl (want_y 17 rfl rfl rfl) ?_
  refine TL_q (.bool true) (fun _ _ hρ _ => r_pick_f (hρ _ _ rfl) (hρ _ _ rfl)) rfl rfl rfl (w_n rfl) ?_
  refine TL_seq ?_
  refine T_cond_t rfl ?_
  refine T_seq (T_region ?_)
  refine TL_q (.agg #[.int .i64 0, .int .i64 0, .slice none 0 0]) (fun _ _ _ _ => r_build (vs := []) (by kernel_rfl) rfl) rfl rfl rfl (w_n rfl) ?_
  refine TL_store 1 (.cells #[.int .i64 0, .int .i64 0, .slice none 0 0] 75) rfl (fun _ _ hρ hm => r_store sz75 (hρ _ _ rfl) (hρ _ _ rfl) (hm.at 1 rfl) rfl rfl rfl rfl) rfl rfl (w_n rfl) ?_
  refine TL_q (.int .i64 2) (fun _ _ hρ _ => r_assign (hρ _ _ rfl)) rfl rfl rfl (w_n rfl) ?_
  refine TL_seq ?_
  refine T_ret' ?_
  refine p_then_r ?_
  refine ret_of rfl (.tuple #[.agg #[.int .i64 0, .int .i64 0, .slice none 0 0], .int .i64 2]) (fun tmps w hk hm => res2 rfl (res_cell (hk 4 _ rfl) (run_loadVar_agg ag75 sz75 (hm.at 1 rfl) (Nat.le_of_ble_eq_true rfl) rfl)) (res_tmp (hk 5 _ rfl))) (fun w hm => ?_)
  exact ⟨rfl, hm.ext⟩
end Go.Proofs.Ytbiapeaghbndoaa
/- stamp: turned four times, flipped twice. -/
namespace Go.Proofs.Ytbiapeaghbndoaa
open Go Go.RowKit
section
variable {p q : Nat} {px : List C4}
theorem turn_one (p q : Nat) (px : List C4) : turnS (q4 1) p q px = turnS 1 p q px := by
  rw [show q4 1 = 1 from by decide]
end
end Go.Proofs.Ytbiapeaghbndoaa
/- canvas: wakes. Printed by a program of this seat's prover. -/
namespace Go.Proofs.Ytbiapeaghbndoaa
open Go Go.RowKit
set_option maxRecDepth 10000
abbrev wkPx : List C4 := [(⟨1, 0, 0, 255⟩ : C4), (⟨0, 1, 0, 255⟩ : C4), (⟨0, 0, 1, 255⟩ : C4), (⟨0, 0, 0, 255⟩ : C4)]
theorem wkPx_ok : ∀ c ∈ wkPx, c.ok := by unfold C4.ok ok8; decide
theorem zeroTs_ok (n : Nat) : TsOk (List.replicate n zeroT) := fun t ht c hc => by
  rw [List.eq_of_mem_replicate ht] at hc
  rw [List.eq_of_mem_replicate (show c ∈ List.replicate 64 zeroC from hc)]; exact zeroC_ok
def wkT : List T64 := layN 1 1 2 2 wkPx (List.replicate (1 * 1) zeroT) [(⟨7, 0⟩ : Pt)]
theorem swk1 : cutL 1 wkT 7 0 1 2 = [(⟨1, 0, 0, 255⟩ : C4), (⟨0, 0, 1, 255⟩ : C4)] := by decide +kernel
theorem swk2 : (difC 1 1 (List.replicate (1 * 1) zeroT) wkT).length = 2 := by decide +kernel
theorem swk3 : quarL 2 2 wkPx = [(⟨0, 0, 1, 255⟩ : C4), (⟨1, 0, 0, 255⟩ : C4), (⟨0, 0, 0, 255⟩ : C4), (⟨0, 1, 0, 255⟩ : C4)] := by decide +kernel
theorem swk4 : flpL 2 2 wkPx = [(⟨0, 1, 0, 255⟩ : C4), (⟨1, 0, 0, 255⟩ : C4), (⟨0, 0, 0, 255⟩ : C4), (⟨0, 0, 1, 255⟩ : C4)] := by decide +kernel
theorem swk5 : wearN wkPx 4 = 4 := by decide +kernel
theorem turn_q (p q : Nat) (px : List C4) (a : Option Addr) (cap : Nat) (w : World) (hv : SliceAt w a cap 4 C4.cells px) (hcap : cap ≤ Go.maxLen) (hp : 1 ≤ p ∧ p ≤ 8) (hq : 1 ≤ q ∧ q ≤ 8) (hlen : px.length = p * q) : Calls Try.prog 48 #[.agg #[.int .i64 (p : Int), .int .i64 (q : Int), .slice a px.length cap], .int .i64 1] w fun e w' => ∃ a' cap', e = .returned (.tuple #[.agg #[.int .i64 (q : Int), .int .i64 (p : Int), .slice a' (quarL p q px).length cap'], .int .i64 0]) ∧ Below w.heap.size w w' ∧ w'.ownsRow w.heap.size 37 4 (.slice a' (quarL p q px).length cap') (quarL p q px).length ((quarL p q px).flatMap C4.cells) := by
  have h := turn_ok p q 1 px a cap w hv hcap hp hq hlen
  rw [turn_one] at h
  exact h

set_option maxHeartbeats 2000000 in
theorem swakes_c (w : World) : Calls Try.prog 39 #[] w fun e w' => e = .returned (.bool true) ∧ Below w.heap.size w w' := by
  refine calls_of_T (l := []) 130 Try.func39 rfl rfl rfl ?_
  show T _ _ _ [] []
  refine T_seq (T_region ?_)
  refine TL_q (.bool false) (fun _ _ hρ _ => r_assign (hρ _ _ rfl)) rfl rfl rfl (w_n rfl) ?_
  refine TL_seq ?_
  refine T_mem (_ :: _) (fun _ hm => hm.cvs0 960) ?_
  refine T_seq (T_region ?_)
  refine TL_q (.agg #[.int .u8 1, .int .u8 0, .int .u8 0, .int .u8 255]) (fun _ _ hρ _ => r_build (vs := [(0, .int .u8 1), (3, .int .u8 255)]) (by kernel_rfl) (cons2 (pair2 (hρ _ _ rfl)) (cons2 (pair2 (hρ _ _ rfl)) rfl))) rfl rfl rfl (w_n rfl) ?_
  refine TL_q (.agg #[.int .u8 0, .int .u8 1, .int .u8 0, .int .u8 255]) (fun _ _ hρ _ => r_build (vs := [(1, .int .u8 1), (3, .int .u8 255)]) (by kernel_rfl) (cons2 (pair2 (hρ _ _ rfl)) (cons2 (pair2 (hρ _ _ rfl)) rfl))) rfl rfl rfl (w_n rfl) ?_
  refine TL_q (.agg #[.int .u8 0, .int .u8 0, .int .u8 1, .int .u8 255]) (fun _ _ hρ _ => r_build (vs := [(2, .int .u8 1), (3, .int .u8 255)]) (by kernel_rfl) (cons2 (pair2 (hρ _ _ rfl)) (cons2 (pair2 (hρ _ _ rfl)) rfl))) rfl rfl rfl (w_n rfl) ?_
  refine TL_q (.agg #[.int .u8 0, .int .u8 0, .int .u8 0, .int .u8 255]) (fun _ _ hρ _ => r_build (vs := [(3, .int .u8 255)]) (by kernel_rfl) (cons2 (pair2 (hρ _ _ rfl)) rfl)) rfl rfl rfl (w_n rfl) ?_
  refine TL_new 1 (.cells #[.int .u8 0, .int .u8 0, .int .u8 0, .int .u8 0] 37) (fun B => .pointer (some ⟨B, 0, none⟩)) (fun _ _ _ _ => r_alloc (v := .agg #[.int .u8 0, .int .u8 0, .int .u8 0, .int .u8 0]) (by kernel_rfl) rfl) rfl rfl rfl (w_n rfl) ?_
  intro B1
  refine TL_new 2 (.cells #[.int .u8 0, .int .u8 0, .int .u8 0, .int .u8 0] 37) (fun B => .pointer (some ⟨B, 0, none⟩)) (fun _ _ _ _ => r_alloc (v := .agg #[.int .u8 0, .int .u8 0, .int .u8 0, .int .u8 0]) (by kernel_rfl) rfl) rfl rfl rfl (w_n rfl) ?_
  intro B2
  refine TL_new 3 (.cells #[.int .u8 0, .int .u8 0, .int .u8 0, .int .u8 0] 37) (fun B => .pointer (some ⟨B, 0, none⟩)) (fun _ _ _ _ => r_alloc (v := .agg #[.int .u8 0, .int .u8 0, .int .u8 0, .int .u8 0]) (by kernel_rfl) rfl) rfl rfl rfl (w_n rfl) ?_
  intro B3
  refine TL_new 4 (.cells #[.int .u8 0, .int .u8 0, .int .u8 0, .int .u8 0] 37) (fun B => .pointer (some ⟨B, 0, none⟩)) (fun _ _ _ _ => r_alloc (v := .agg #[.int .u8 0, .int .u8 0, .int .u8 0, .int .u8 0]) (by kernel_rfl) rfl) rfl rfl rfl (w_n rfl) ?_
  intro B4
  refine TL_store 1 (.cells #[.int .u8 1, .int .u8 0, .int .u8 0, .int .u8 255] 37) rfl (fun _ _ hρ hm => r_store sz37 (hρ _ _ rfl) (hρ _ _ rfl) (hm.at 1 rfl) rfl rfl rfl rfl) rfl rfl (w_n rfl) ?_
  refine TL_store 2 (.cells #[.int .u8 0, .int .u8 1, .int .u8 0, .int .u8 255] 37) rfl (fun _ _ hρ hm => r_store sz37 (hρ _ _ rfl) (hρ _ _ rfl) (hm.at 2 rfl) rfl rfl rfl rfl) rfl rfl (w_n rfl) ?_
  refine TL_store 3 (.cells #[.int .u8 0, .int .u8 0, .int .u8 1, .int .u8 255] 37) rfl (fun _ _ hρ hm => r_store sz37 (hρ _ _ rfl) (hρ _ _ rfl) (hm.at 3 rfl) rfl rfl rfl rfl) rfl rfl (w_n rfl) ?_
  refine TL_store 4 (.cells #[.int .u8 0, .int .u8 0, .int .u8 0, .int .u8 255] 37) rfl (fun _ _ hρ hm => r_store sz37 (hρ _ _ rfl) (hρ _ _ rfl) (hm.at 4 rfl) rfl rfl rfl rfl) rfl rfl (w_n rfl) ?_
  refine TL_seq ?_
  refine T_seq (T_region ?_)
  refine TL_q (.agg #[.int .u8 1, .int .u8 0, .int .u8 0, .int .u8 255]) (fun _ _ hρ hm => r_loadA ag37 sz37 (hρ _ _ rfl) (hm.at 1 rfl) rfl rfl) rfl rfl rfl (w_n rfl) ?_
  refine TL_q (.agg #[.int .u8 0, .int .u8 1, .int .u8 0, .int .u8 255]) (fun _ _ hρ hm => r_loadA ag37 sz37 (hρ _ _ rfl) (hm.at 2 rfl) rfl rfl) rfl rfl rfl (w_n rfl) ?_
  refine TL_q (.agg #[.int .u8 0, .int .u8 0, .int .u8 1, .int .u8 255]) (fun _ _ hρ hm => r_loadA ag37 sz37 (hρ _ _ rfl) (hm.at 3 rfl) rfl rfl) rfl rfl rfl (w_n rfl) ?_
  refine TL_q (.agg #[.int .u8 0, .int .u8 0, .int .u8 0, .int .u8 255]) (fun _ _ hρ hm => r_loadA ag37 sz37 (hρ _ _ rfl) (hm.at 4 rfl) rfl rfl) rfl rfl rfl (w_n rfl) ?_
  refine TL_new 5 (.cells #[.int .u8 1, .int .u8 0, .int .u8 0, .int .u8 255, .int .u8 0, .int .u8 1, .int .u8 0, .int .u8 255, .int .u8 0, .int .u8 0, .int .u8 1, .int .u8 255, .int .u8 0, .int .u8 0, .int .u8 0, .int .u8 255] 37) (fun B => .slice (some ⟨B, 0, none⟩) 4 4) (fun _ _ hρ _ => r_buildSlice (vs := [(0, .agg #[.int .u8 1, .int .u8 0, .int .u8 0, .int .u8 255]), (1, .agg #[.int .u8 0, .int .u8 1, .int .u8 0, .int .u8 255]), (2, .agg #[.int .u8 0, .int .u8 0, .int .u8 1, .int .u8 255]), (3, .agg #[.int .u8 0, .int .u8 0, .int .u8 0, .int .u8 255])]) (by kernel_rfl) (cons2 (pair2 (hρ _ _ rfl)) (cons2 (pair2 (hρ _ _ rfl)) (cons2 (pair2 (hρ _ _ rfl)) (cons2 (pair2 (hρ _ _ rfl)) rfl))))) rfl rfl rfl (w_n rfl) ?_
  intro B5
  refine TL_callN (fun (_ : Option Addr × Nat) => True) (fun (ar6, cr6) => .tuple #[.agg #[.int .i64 2, .int .i64 2, .slice ar6 (([(⟨1, 0, 0, 255⟩ : C4), (⟨0, 1, 0, 255⟩ : C4), (⟨0, 0, 1, 255⟩ : C4), (⟨0, 0, 0, 255⟩ : C4)]).length) cr6], .int .i64 0]) (fun (ar6, cr6) => [(6, .row (.slice ar6 (([(⟨1, 0, 0, 255⟩ : C4), (⟨0, 1, 0, 255⟩ : C4), (⟨0, 0, 1, 255⟩ : C4), (⟨0, 0, 0, 255⟩ : C4)]).length) cr6) 37 4 (([(⟨1, 0, 0, 255⟩ : C4), (⟨0, 1, 0, 255⟩ : C4), (⟨0, 0, 1, 255⟩ : C4), (⟨0, 0, 0, 255⟩ : C4)]).length) (([(⟨1, 0, 0, 255⟩ : C4), (⟨0, 1, 0, 255⟩ : C4), (⟨0, 0, 1, 255⟩ : C4), (⟨0, 0, 0, 255⟩ : C4)]).flatMap C4.cells))]) (fun _ _ hρ _ => r_call (args := [.int .i64 2, .slice (some ⟨B5, 0, none⟩) 4 4]) (enters_of Try.func44 (by kernel_rfl) rfl) (hρ _ _ rfl) ((cons2 (hρ _ _ rfl) (cons2 (hρ _ _ rfl) rfl))) rfl) (fun w hm => (sof_ok 2 2 [(⟨1, 0, 0, 255⟩ : C4), (⟨0, 1, 0, 255⟩ : C4), (⟨0, 0, 1, 255⟩ : C4), (⟨0, 0, 0, 255⟩ : C4)] (some ⟨B5, 0, none⟩) 4 w ⟨Nat.le_of_ble_eq_true rfl, (fun e => by cases e), .inr ⟨_, 0, _, _, _, rfl, (hm.at 5 rfl), row_of_take (fun _ => rfl) rfl⟩⟩ (Nat.le_of_ble_eq_true rfl) (by decide) (by decide) (by decide)).mono fun e w' ⟨a', cap', he, hb, hr⟩ => ⟨(a', cap'), trivial, he, hb, newOk1 6 hr⟩) rfl rfl rfl (w_n rfl) ?_
  rintro ⟨ar6, cr6⟩ -
  refine TL_q (.tuple #[.agg #[.int .i64 2, .int .i64 2, .slice ar6 (([(⟨1, 0, 0, 255⟩ : C4), (⟨0, 1, 0, 255⟩ : C4), (⟨0, 0, 1, 255⟩ : C4), (⟨0, 0, 0, 255⟩ : C4)]).length) cr6], .int .i64 0]) (fun _ _ hρ _ => r_move (hρ _ _ rfl)) rfl rfl rfl (w_n rfl) ?_
  refine TL_q (.agg #[.int .i64 2, .int .i64 2, .slice ar6 (([(⟨1, 0, 0, 255⟩ : C4), (⟨0, 1, 0, 255⟩ : C4), (⟨0, 0, 1, 255⟩ : C4), (⟨0, 0, 0, 255⟩ : C4)]).length) cr6]) (fun _ _ hρ _ => r_extract (hρ _ _ rfl) rfl) rfl rfl rfl (w_n rfl) ?_
  refine TL_q (.int .i64 0) (fun _ _ hρ _ => r_extract (hρ _ _ rfl) rfl) rfl rfl rfl (w_n rfl) ?_
  refine TL_new 7 (.cells #[.int .i64 0, .int .i64 0, .slice none 0 0] 75) (fun B => .pointer (some ⟨B, 0, none⟩)) (fun _ _ _ _ => r_alloc (v := .agg #[.int .i64 0, .int .i64 0, .slice none 0 0]) (by kernel_rfl) rfl) rfl rfl rfl (w_n rfl) ?_
  intro B7
  refine TL_store 7 (.cells #[.int .i64 2, .int .i64 2, .slice ar6 (([(⟨1, 0, 0, 255⟩ : C4), (⟨0, 1, 0, 255⟩ : C4), (⟨0, 0, 1, 255⟩ : C4), (⟨0, 0, 0, 255⟩ : C4)]).length) cr6] 75) rfl (fun _ _ hρ hm => r_store sz75 (hρ _ _ rfl) (hρ _ _ rfl) (hm.at 7 rfl) rfl rfl rfl rfl) rfl rfl (w_n rfl) ?_
  refine TL_q (.int .i64 0) (fun _ _ hρ _ => r_assign (hρ _ _ rfl)) rfl rfl rfl (w_n rfl) ?_
  refine TL_seq ?_
  refine T_seq (T_region ?_)
  refine TL_q (.agg #[.int .i64 2, .int .i64 2, .slice ar6 (([(⟨1, 0, 0, 255⟩ : C4), (⟨0, 1, 0, 255⟩ : C4), (⟨0, 0, 1, 255⟩ : C4), (⟨0, 0, 0, 255⟩ : C4)]).length) cr6]) (fun _ _ hρ hm => r_loadA ag75 sz75 (hρ _ _ rfl) (hm.at 7 rfl) rfl rfl) rfl rfl rfl (w_n rfl) ?_
  refine TL_callN (fun (_ : Option Addr × Nat) => True) (fun (ar8, cr8) => .tuple #[.agg #[.int .i64 2, .int .i64 2, .slice ar8 ((quarL 2 2 [(⟨1, 0, 0, 255⟩ : C4), (⟨0, 1, 0, 255⟩ : C4), (⟨0, 0, 1, 255⟩ : C4), (⟨0, 0, 0, 255⟩ : C4)]).length) cr8], .int .i64 0]) (fun (ar8, cr8) => [(8, .row (.slice ar8 ((quarL 2 2 [(⟨1, 0, 0, 255⟩ : C4), (⟨0, 1, 0, 255⟩ : C4), (⟨0, 0, 1, 255⟩ : C4), (⟨0, 0, 0, 255⟩ : C4)]).length) cr8) 37 4 ((quarL 2 2 [(⟨1, 0, 0, 255⟩ : C4), (⟨0, 1, 0, 255⟩ : C4), (⟨0, 0, 1, 255⟩ : C4), (⟨0, 0, 0, 255⟩ : C4)]).length) ((quarL 2 2 [(⟨1, 0, 0, 255⟩ : C4), (⟨0, 1, 0, 255⟩ : C4), (⟨0, 0, 1, 255⟩ : C4), (⟨0, 0, 0, 255⟩ : C4)]).flatMap C4.cells))]) (fun _ _ hρ _ => r_call (args := [.agg #[.int .i64 2, .int .i64 2, .slice ar6 (([(⟨1, 0, 0, 255⟩ : C4), (⟨0, 1, 0, 255⟩ : C4), (⟨0, 0, 1, 255⟩ : C4), (⟨0, 0, 0, 255⟩ : C4)]).length) cr6], .int .i64 1]) (enters_of Try.func48 (by kernel_rfl) rfl) (hρ _ _ rfl) ((cons2 (hρ _ _ rfl) (cons2 (hρ _ _ rfl) rfl))) rfl) (fun w hm => (turn_q 2 2 [(⟨1, 0, 0, 255⟩ : C4), (⟨0, 1, 0, 255⟩ : C4), (⟨0, 0, 1, 255⟩ : C4), (⟨0, 0, 0, 255⟩ : C4)] ar6 cr6 w (SliceAt.own C4.cells_len (hm.row 6 rfl) rfl rfl) (row_cap (hm.row 6 rfl)) (by decide) (by decide) (by decide)).mono fun e w' ⟨a', cap', he, hb, hr⟩ => ⟨(a', cap'), trivial, he, hb, newOk1 8 hr⟩) rfl rfl rfl (w_n rfl) ?_
  rintro ⟨ar8, cr8⟩ -
  refine TL_q (.tuple #[.agg #[.int .i64 2, .int .i64 2, .slice ar8 ((quarL 2 2 [(⟨1, 0, 0, 255⟩ : C4), (⟨0, 1, 0, 255⟩ : C4), (⟨0, 0, 1, 255⟩ : C4), (⟨0, 0, 0, 255⟩ : C4)]).length) cr8], .int .i64 0]) (fun _ _ hρ _ => r_move (hρ _ _ rfl)) rfl rfl rfl (w_n rfl) ?_
  refine TL_q (.agg #[.int .i64 2, .int .i64 2, .slice ar8 ((quarL 2 2 [(⟨1, 0, 0, 255⟩ : C4), (⟨0, 1, 0, 255⟩ : C4), (⟨0, 0, 1, 255⟩ : C4), (⟨0, 0, 0, 255⟩ : C4)]).length) cr8]) (fun _ _ hρ _ => r_extract (hρ _ _ rfl) rfl) rfl rfl rfl (w_n rfl) ?_
  refine TL_q (.int .i64 0) (fun _ _ hρ _ => r_extract (hρ _ _ rfl) rfl) rfl rfl rfl (w_n rfl) ?_
  refine TL_new 9 (.cells #[.int .i64 0, .int .i64 0, .slice none 0 0] 75) (fun B => .pointer (some ⟨B, 0, none⟩)) (fun _ _ _ _ => r_alloc (v := .agg #[.int .i64 0, .int .i64 0, .slice none 0 0]) (by kernel_rfl) rfl) rfl rfl rfl (w_n rfl) ?_
  intro B9
  refine TL_store 9 (.cells #[.int .i64 2, .int .i64 2, .slice ar8 ((quarL 2 2 [(⟨1, 0, 0, 255⟩ : C4), (⟨0, 1, 0, 255⟩ : C4), (⟨0, 0, 1, 255⟩ : C4), (⟨0, 0, 0, 255⟩ : C4)]).length) cr8] 75) rfl (fun _ _ hρ hm => r_store sz75 (hρ _ _ rfl) (hρ _ _ rfl) (hm.at 9 rfl) rfl rfl rfl rfl) rfl rfl (w_n rfl) ?_
  refine TL_q (.int .i64 0) (fun _ _ hρ _ => r_assign (hρ _ _ rfl)) rfl rfl rfl (w_n rfl) ?_
  refine TL_seq ?_
  refine T_seq (T_region ?_)
  refine TL_q (.agg #[.int .i64 2, .int .i64 2, .slice ar6 (([(⟨1, 0, 0, 255⟩ : C4), (⟨0, 1, 0, 255⟩ : C4), (⟨0, 0, 1, 255⟩ : C4), (⟨0, 0, 0, 255⟩ : C4)]).length) cr6]) (fun _ _ hρ hm => r_loadA ag75 sz75 (hρ _ _ rfl) (hm.at 7 rfl) rfl rfl) rfl rfl rfl (w_n rfl) ?_
  refine TL_callN (fun (_ : Option Addr × Nat) => True) (fun (ar10, cr10) => .tuple #[.agg #[.int .i64 2, .int .i64 2, .slice ar10 ((flpL 2 2 [(⟨1, 0, 0, 255⟩ : C4), (⟨0, 1, 0, 255⟩ : C4), (⟨0, 0, 1, 255⟩ : C4), (⟨0, 0, 0, 255⟩ : C4)]).length) cr10], .int .i64 0]) (fun (ar10, cr10) => [(10, .row (.slice ar10 ((flpL 2 2 [(⟨1, 0, 0, 255⟩ : C4), (⟨0, 1, 0, 255⟩ : C4), (⟨0, 0, 1, 255⟩ : C4), (⟨0, 0, 0, 255⟩ : C4)]).length) cr10) 37 4 ((flpL 2 2 [(⟨1, 0, 0, 255⟩ : C4), (⟨0, 1, 0, 255⟩ : C4), (⟨0, 0, 1, 255⟩ : C4), (⟨0, 0, 0, 255⟩ : C4)]).length) ((flpL 2 2 [(⟨1, 0, 0, 255⟩ : C4), (⟨0, 1, 0, 255⟩ : C4), (⟨0, 0, 1, 255⟩ : C4), (⟨0, 0, 0, 255⟩ : C4)]).flatMap C4.cells))]) (fun _ _ hρ _ => r_call (args := [.agg #[.int .i64 2, .int .i64 2, .slice ar6 (([(⟨1, 0, 0, 255⟩ : C4), (⟨0, 1, 0, 255⟩ : C4), (⟨0, 0, 1, 255⟩ : C4), (⟨0, 0, 0, 255⟩ : C4)]).length) cr6]]) (enters_of Try.func50 (by kernel_rfl) rfl) (hρ _ _ rfl) ((cons2 (hρ _ _ rfl) rfl)) rfl) (fun w hm => (flip_ok 2 2 [(⟨1, 0, 0, 255⟩ : C4), (⟨0, 1, 0, 255⟩ : C4), (⟨0, 0, 1, 255⟩ : C4), (⟨0, 0, 0, 255⟩ : C4)] ar6 cr6 w (SliceAt.own C4.cells_len (hm.row 6 rfl) rfl rfl) (row_cap (hm.row 6 rfl)) (by decide) (by decide) (by decide)).mono fun e w' ⟨a', cap', he, hb, hr⟩ => ⟨(a', cap'), trivial, he, hb, newOk1 10 hr⟩) rfl rfl rfl (w_n rfl) ?_
  rintro ⟨ar10, cr10⟩ -
  refine TL_q (.tuple #[.agg #[.int .i64 2, .int .i64 2, .slice ar10 ((flpL 2 2 [(⟨1, 0, 0, 255⟩ : C4), (⟨0, 1, 0, 255⟩ : C4), (⟨0, 0, 1, 255⟩ : C4), (⟨0, 0, 0, 255⟩ : C4)]).length) cr10], .int .i64 0]) (fun _ _ hρ _ => r_move (hρ _ _ rfl)) rfl rfl rfl (w_n rfl) ?_
  refine TL_q (.agg #[.int .i64 2, .int .i64 2, .slice ar10 ((flpL 2 2 [(⟨1, 0, 0, 255⟩ : C4), (⟨0, 1, 0, 255⟩ : C4), (⟨0, 0, 1, 255⟩ : C4), (⟨0, 0, 0, 255⟩ : C4)]).length) cr10]) (fun _ _ hρ _ => r_extract (hρ _ _ rfl) rfl) rfl rfl rfl (w_n rfl) ?_
  refine TL_q (.int .i64 0) (fun _ _ hρ _ => r_extract (hρ _ _ rfl) rfl) rfl rfl rfl (w_n rfl) ?_
  refine TL_new 11 (.cells #[.int .i64 0, .int .i64 0, .slice none 0 0] 75) (fun B => .pointer (some ⟨B, 0, none⟩)) (fun _ _ _ _ => r_alloc (v := .agg #[.int .i64 0, .int .i64 0, .slice none 0 0]) (by kernel_rfl) rfl) rfl rfl rfl (w_n rfl) ?_
  intro B11
  refine TL_store 11 (.cells #[.int .i64 2, .int .i64 2, .slice ar10 ((flpL 2 2 [(⟨1, 0, 0, 255⟩ : C4), (⟨0, 1, 0, 255⟩ : C4), (⟨0, 0, 1, 255⟩ : C4), (⟨0, 0, 0, 255⟩ : C4)]).length) cr10] 75) rfl (fun _ _ hρ hm => r_store sz75 (hρ _ _ rfl) (hρ _ _ rfl) (hm.at 11 rfl) rfl rfl rfl rfl) rfl rfl (w_n rfl) ?_
  refine TL_q (.int .i64 0) (fun _ _ hρ _ => r_assign (hρ _ _ rfl)) rfl rfl rfl (w_n rfl) ?_
  refine TL_seq ?_
  refine T_sub [(0, .bool false), (1, .pointer (some ⟨B1, 0, none⟩)), (2, .pointer (some ⟨B2, 0, none⟩)), (3, .pointer (some ⟨B3, 0, none⟩)), (4, .pointer (some ⟨B4, 0, none⟩)), (5, .pointer (some ⟨B7, 0, none⟩)), (6, .int .i64 0), (7, .pointer (some ⟨B9, 0, none⟩)), (8, .int .i64 0), (9, .pointer (some ⟨B11, 0, none⟩)), (10, .int .i64 0)] [(10, .row (.slice ar10 ((flpL 2 2 [(⟨1, 0, 0, 255⟩ : C4), (⟨0, 1, 0, 255⟩ : C4), (⟨0, 0, 1, 255⟩ : C4), (⟨0, 0, 0, 255⟩ : C4)]).length) cr10) 37 4 ((flpL 2 2 [(⟨1, 0, 0, 255⟩ : C4), (⟨0, 1, 0, 255⟩ : C4), (⟨0, 0, 1, 255⟩ : C4), (⟨0, 0, 0, 255⟩ : C4)]).length) ((flpL 2 2 [(⟨1, 0, 0, 255⟩ : C4), (⟨0, 1, 0, 255⟩ : C4), (⟨0, 0, 1, 255⟩ : C4), (⟨0, 0, 0, 255⟩ : C4)]).flatMap C4.cells)), (8, .row (.slice ar8 ((quarL 2 2 [(⟨1, 0, 0, 255⟩ : C4), (⟨0, 1, 0, 255⟩ : C4), (⟨0, 0, 1, 255⟩ : C4), (⟨0, 0, 0, 255⟩ : C4)]).length) cr8) 37 4 ((quarL 2 2 [(⟨1, 0, 0, 255⟩ : C4), (⟨0, 1, 0, 255⟩ : C4), (⟨0, 0, 1, 255⟩ : C4), (⟨0, 0, 0, 255⟩ : C4)]).length) ((quarL 2 2 [(⟨1, 0, 0, 255⟩ : C4), (⟨0, 1, 0, 255⟩ : C4), (⟨0, 0, 1, 255⟩ : C4), (⟨0, 0, 0, 255⟩ : C4)]).flatMap C4.cells)), (6, .row (.slice ar6 (([(⟨1, 0, 0, 255⟩ : C4), (⟨0, 1, 0, 255⟩ : C4), (⟨0, 0, 1, 255⟩ : C4), (⟨0, 0, 0, 255⟩ : C4)]).length) cr6) 37 4 (([(⟨1, 0, 0, 255⟩ : C4), (⟨0, 1, 0, 255⟩ : C4), (⟨0, 0, 1, 255⟩ : C4), (⟨0, 0, 0, 255⟩ : C4)]).length) (([(⟨1, 0, 0, 255⟩ : C4), (⟨0, 1, 0, 255⟩ : C4), (⟨0, 0, 1, 255⟩ : C4), (⟨0, 0, 0, 255⟩ : C4)]).flatMap C4.cells)), (960, .cvs []), (1, .blk B1 (.cells #[.int .u8 1, .int .u8 0, .int .u8 0, .int .u8 255] 37)), (2, .blk B2 (.cells #[.int .u8 0, .int .u8 1, .int .u8 0, .int .u8 255] 37)), (3, .blk B3 (.cells #[.int .u8 0, .int .u8 0, .int .u8 1, .int .u8 255] 37)), (4, .blk B4 (.cells #[.int .u8 0, .int .u8 0, .int .u8 0, .int .u8 255] 37)), (5, .blk B5 (.cells #[.int .u8 1, .int .u8 0, .int .u8 0, .int .u8 255, .int .u8 0, .int .u8 1, .int .u8 0, .int .u8 255, .int .u8 0, .int .u8 0, .int .u8 1, .int .u8 255, .int .u8 0, .int .u8 0, .int .u8 0, .int .u8 255] 37)), (7, .blk B7 (.cells #[.int .i64 2, .int .i64 2, .slice ar6 (([(⟨1, 0, 0, 255⟩ : C4), (⟨0, 1, 0, 255⟩ : C4), (⟨0, 0, 1, 255⟩ : C4), (⟨0, 0, 0, 255⟩ : C4)]).length) cr6] 75)), (9, .blk B9 (.cells #[.int .i64 2, .int .i64 2, .slice ar8 ((quarL 2 2 [(⟨1, 0, 0, 255⟩ : C4), (⟨0, 1, 0, 255⟩ : C4), (⟨0, 0, 1, 255⟩ : C4), (⟨0, 0, 0, 255⟩ : C4)]).length) cr8] 75)), (11, .blk B11 (.cells #[.int .i64 2, .int .i64 2, .slice ar10 ((flpL 2 2 [(⟨1, 0, 0, 255⟩ : C4), (⟨0, 1, 0, 255⟩ : C4), (⟨0, 0, 1, 255⟩ : C4), (⟨0, 0, 0, 255⟩ : C4)]).length) cr10] 75))] (sub_cons rfl (sub_cons rfl (sub_cons rfl (sub_cons rfl (sub_cons rfl (sub_cons rfl (sub_cons rfl (sub_cons rfl (sub_cons rfl (sub_cons rfl (sub_cons rfl sub_nil))))))))))) (sub_cons rfl (sub_cons rfl (sub_cons rfl (sub_cons rfl (sub_cons rfl (sub_cons rfl (sub_cons rfl (sub_cons rfl (sub_cons rfl (sub_cons rfl (sub_cons rfl (sub_cons rfl sub_nil)))))))))))) ?_
  refine T_seq (T_region ?_)
  refine TL_callX (ι := Cv) (fun (c1 : Cv) e w w' => e = .returned (.tuple #[.pointer (some ⟨c1.p, 0, none⟩), .int .i64 0]) ∧ CvNew w w' [] c1 ∧ (∀ x ∈ ([] : List Cv), ∀ q ∈ x.ps, q < w.heap.size) ∧ c1.wd = 1 ∧ c1.hg = 1 ∧ c1.ts = List.replicate (1 * 1) zeroT) (fun c1 => .tuple #[.pointer (some ⟨c1.p, 0, none⟩), .int .i64 0]) _ (fun _ _ hρ _ => r_call (args := [.int .i64 1, .int .i64 1]) (enters_of Try.func29 (by kernel_rfl) rfl) (hρ _ _ rfl) ((cons2 (hρ _ _ rfl) (cons2 (hρ _ _ rfl) rfl))) rfl) (fun w hm => (new_c 1 1 w (by decide) (by decide)).mono fun e w' ⟨d, he, hn, hf⟩ => ⟨d, he, hn, hm.cvUnder 960 rfl, hf⟩) (fun _ e w w' hm h => ⟨h.1, hm.cvGet 960 rfl h.2.1 (fun _ hx => nomatch hx)⟩) rfl rfl rfl (w_n rfl) ?_
  rintro c1 ⟨_, w1_c1, w2_c1, _, hn_c1, hu_c1, hwd_c1, hhg_c1, hts_c1⟩
  refine TL_q (.tuple #[.pointer (some ⟨c1.p, 0, none⟩), .int .i64 0]) (fun _ _ hρ _ => r_move (hρ _ _ rfl)) rfl rfl rfl (w_n rfl) ?_
  refine TL_q (.pointer (some ⟨c1.p, 0, none⟩)) (fun _ _ hρ _ => r_extract (hρ _ _ rfl) rfl) rfl rfl rfl (w_n rfl) ?_
  refine TL_q (.int .i64 0) (fun _ _ hρ _ => r_extract (hρ _ _ rfl) rfl) rfl rfl rfl (w_n rfl) ?_
  refine TL_q (.pointer (some ⟨c1.p, 0, none⟩)) (fun _ _ hρ _ => r_assign (hρ _ _ rfl)) rfl rfl rfl (w_n rfl) ?_
  refine TL_q (.int .i64 0) (fun _ _ hρ _ => r_assign (hρ _ _ rfl)) rfl rfl rfl (w_n rfl) ?_
  refine TL_seq ?_
  refine T_seq (T_region ?_)
  refine TL_q (.pointer (some ⟨c1.p, 0, none⟩)) (fun _ _ hρ _ => r_move (hρ _ _ rfl)) rfl rfl rfl (w_n rfl) ?_
  refine TL_q (.agg #[.int .i64 2, .int .i64 2, .slice ar6 (([(⟨1, 0, 0, 255⟩ : C4), (⟨0, 1, 0, 255⟩ : C4), (⟨0, 0, 1, 255⟩ : C4), (⟨0, 0, 0, 255⟩ : C4)]).length) cr6]) (fun _ _ hρ hm => r_loadA ag75 sz75 (hρ _ _ rfl) (hm.at 7 rfl) rfl rfl) rfl rfl rfl (w_n rfl) ?_
  refine TL_q (.agg #[.int .i64 7, .int .i64 0]) (fun _ _ hρ _ => r_build (vs := [(0, .int .i64 7)]) (by kernel_rfl) (cons2 (pair2 (hρ _ _ rfl)) rfl)) rfl rfl rfl (w_n rfl) ?_
  refine TL_new 12 (.cells #[.int .i64 7, .int .i64 0] 47) (fun B => .slice (some ⟨B, 0, none⟩) 1 1) (fun _ _ hρ _ => r_buildSlice (vs := [(0, .agg #[.int .i64 7, .int .i64 0])]) (by kernel_rfl) (cons2 (pair2 (hρ _ _ rfl)) rfl)) rfl rfl rfl (w_n rfl) ?_
  intro B12
  refine TL_callX (ι := Cv) (fun (c2 : Cv) e w w' => e = .returned (.tuple #[.pointer (some ⟨c2.p, 0, none⟩), .int .i64 0]) ∧ CvNew w w' [c1] c2 ∧ (∀ x ∈ [c1], ∀ q ∈ x.ps, q < w.heap.size) ∧ c2.wd = c1.wd ∧ c2.hg = c1.hg ∧ c2.ts = layN c1.wd c1.hg 2 2 [(⟨1, 0, 0, 255⟩ : C4), (⟨0, 1, 0, 255⟩ : C4), (⟨0, 0, 1, 255⟩ : C4), (⟨0, 0, 0, 255⟩ : C4)] c1.ts [(⟨7, 0⟩ : Pt)]) (fun c2 => .tuple #[.pointer (some ⟨c2.p, 0, none⟩), .int .i64 0]) _ (fun _ _ hρ _ => r_call (args := [.pointer (some ⟨c1.p, 0, none⟩), .agg #[.int .i64 2, .int .i64 2, .slice ar6 (([(⟨1, 0, 0, 255⟩ : C4), (⟨0, 1, 0, 255⟩ : C4), (⟨0, 0, 1, 255⟩ : C4), (⟨0, 0, 0, 255⟩ : C4)]).length) cr6], .slice (some ⟨B12, 0, none⟩) 1 1]) (enters_of Try.func60 (by kernel_rfl) rfl) (hρ _ _ rfl) ((cons2 (hρ _ _ rfl) (cons2 (hρ _ _ rfl) (cons2 (hρ _ _ rfl) rfl)))) rfl) (fun w hm => (lay_ok c1 2 2 [(⟨1, 0, 0, 255⟩ : C4), (⟨0, 1, 0, 255⟩ : C4), (⟨0, 0, 1, 255⟩ : C4), (⟨0, 0, 0, 255⟩ : C4)] ar6 cr6 [(⟨7, 0⟩ : Pt)] (some ⟨B12, 0, none⟩) 1 w (hm.cv 960 rfl (List.Mem.head _)) (SliceAt.own C4.cells_len (hm.row 6 rfl) rfl rfl) (row_cap (hm.row 6 rfl)) ⟨Nat.le_of_ble_eq_true rfl, (fun e => by cases e), .inr ⟨_, 0, _, _, _, rfl, (hm.at 12 rfl), row_of_take (fun _ => rfl) rfl⟩⟩ (Nat.le_of_ble_eq_true rfl) (by decide) (by decide) (by decide) wkPx_ok (by rw [hts_c1]; exact zeroTs_ok _)).mono fun e w' ⟨d, he, hn, hf⟩ => ⟨d, he, hn, hm.cvUnder 960 rfl, hf⟩) (fun _ e w w' hm h => ⟨h.1, hm.cvGet 960 rfl h.2.1 (fun x hx => by rw [List.mem_singleton.1 hx]; exact (List.Mem.head _))⟩) rfl rfl rfl (w_n rfl) ?_
  rintro c2 ⟨_, w1_c2, w2_c2, _, hn_c2, hu_c2, hwd_c2, hhg_c2, hts_c2⟩
  refine TL_q (.tuple #[.pointer (some ⟨c2.p, 0, none⟩), .int .i64 0]) (fun _ _ hρ _ => r_move (hρ _ _ rfl)) rfl rfl rfl (w_n rfl) ?_
  refine TL_q (.pointer (some ⟨c2.p, 0, none⟩)) (fun _ _ hρ _ => r_extract (hρ _ _ rfl) rfl) rfl rfl rfl (w_n rfl) ?_
  refine TL_q (.int .i64 0) (fun _ _ hρ _ => r_extract (hρ _ _ rfl) rfl) rfl rfl rfl (w_n rfl) ?_
  refine TL_q (.pointer (some ⟨c2.p, 0, none⟩)) (fun _ _ hρ _ => r_assign (hρ _ _ rfl)) rfl rfl rfl (w_n rfl) ?_
  refine TL_q (.int .i64 0) (fun _ _ hρ _ => r_assign (hρ _ _ rfl)) rfl rfl rfl (w_n rfl) ?_
  refine TL_seq ?_
  refine T_seq (T_region ?_)
  refine TL_q (.pointer (some ⟨c2.p, 0, none⟩)) (fun _ _ hρ _ => r_move (hρ _ _ rfl)) rfl rfl rfl (w_n rfl) ?_
  refine TL_callN (fun (_ : Option Addr × Nat) => True) (fun (ar13, cr13) => .tuple #[.agg #[.int .i64 1, .int .i64 2, .slice ar13 ((cutL c2.wd c2.ts 7 0 1 2).length) cr13], .int .i64 0]) (fun (ar13, cr13) => [(13, .row (.slice ar13 ((cutL c2.wd c2.ts 7 0 1 2).length) cr13) 37 4 ((cutL c2.wd c2.ts 7 0 1 2).length) ((cutL c2.wd c2.ts 7 0 1 2).flatMap C4.cells))]) (fun _ _ hρ _ => r_call (args := [.pointer (some ⟨c2.p, 0, none⟩), .int .i64 7, .int .i64 0, .int .i64 1, .int .i64 2]) (enters_of Try.func59 (by kernel_rfl) rfl) (hρ _ _ rfl) ((cons2 (hρ _ _ rfl) (cons2 (hρ _ _ rfl) (cons2 (hρ _ _ rfl) (cons2 (hρ _ _ rfl) (cons2 (hρ _ _ rfl) rfl)))))) rfl) (fun w hm => (cut_ok c2 7 0 1 2 w (hm.cv 960 rfl (List.Mem.head _)) (by decide) (by decide) (by rw [hwd_c2, hwd_c1]; decide) (by rw [hhg_c2, hhg_c1]; decide)).mono fun e w' ⟨a', cap', he, hb, hr⟩ => ⟨(a', cap'), trivial, he, hb, newOk1 13 hr⟩) rfl rfl rfl (w_n rfl) ?_
  rintro ⟨ar13, cr13⟩ -
  refine TL_q (.tuple #[.agg #[.int .i64 1, .int .i64 2, .slice ar13 ((cutL c2.wd c2.ts 7 0 1 2).length) cr13], .int .i64 0]) (fun _ _ hρ _ => r_move (hρ _ _ rfl)) rfl rfl rfl (w_n rfl) ?_
  refine TL_q (.agg #[.int .i64 1, .int .i64 2, .slice ar13 ((cutL c2.wd c2.ts 7 0 1 2).length) cr13]) (fun _ _ hρ _ => r_extract (hρ _ _ rfl) rfl) rfl rfl rfl (w_n rfl) ?_
  refine TL_q (.int .i64 0) (fun _ _ hρ _ => r_extract (hρ _ _ rfl) rfl) rfl rfl rfl (w_n rfl) ?_
  refine TL_new 14 (.cells #[.int .i64 0, .int .i64 0, .slice none 0 0] 75) (fun B => .pointer (some ⟨B, 0, none⟩)) (fun _ _ _ _ => r_alloc (v := .agg #[.int .i64 0, .int .i64 0, .slice none 0 0]) (by kernel_rfl) rfl) rfl rfl rfl (w_n rfl) ?_
  intro B14
  refine TL_store 14 (.cells #[.int .i64 1, .int .i64 2, .slice ar13 ((cutL c2.wd c2.ts 7 0 1 2).length) cr13] 75) rfl (fun _ _ hρ hm => r_store sz75 (hρ _ _ rfl) (hρ _ _ rfl) (hm.at 14 rfl) rfl rfl rfl rfl) rfl rfl (w_n rfl) ?_
  refine TL_q (.int .i64 0) (fun _ _ hρ _ => r_assign (hρ _ _ rfl)) rfl rfl rfl (w_n rfl) ?_
  refine TL_seq ?_
  refine T_seq (T_region ?_)
  refine TL_q (.pointer (some ⟨c2.p, 0, none⟩)) (fun _ _ hρ _ => r_move (hρ _ _ rfl)) rfl rfl rfl (w_n rfl) ?_
  refine TL_call (.tuple #[.agg #[.int .i64 0, .int .i64 0, .slice none 0 0], .int .i64 2]) (fun _ _ hρ _ => r_call (args := [.pointer (some ⟨c2.p, 0, none⟩), .int .i64 7, .int .i64 0, .int .i64 2, .int .i64 1]) (enters_of Try.func59 (by kernel_rfl) rfl) (hρ _ _ rfl) ((cons2 (hρ _ _ rfl) (cons2 (hρ _ _ rfl) (cons2 (hρ _ _ rfl) (cons2 (hρ _ _ rfl) (cons2 (hρ _ _ rfl) rfl)))))) rfl) (fun w hm => cut_no c2 7 0 2 1 w (hm.cv 960 rfl (List.Mem.head _)) (by rw [hwd_c2, hhg_c2, hwd_c1, hhg_c1]; decide)) rfl rfl rfl (w_n rfl) ?_
  refine TL_q (.tuple #[.agg #[.int .i64 0, .int .i64 0, .slice none 0 0], .int .i64 2]) (fun _ _ hρ _ => r_move (hρ _ _ rfl)) rfl rfl rfl (w_n rfl) ?_
  refine TL_q (.agg #[.int .i64 0, .int .i64 0, .slice none 0 0]) (fun _ _ hρ _ => r_extract (hρ _ _ rfl) rfl) rfl rfl rfl (w_n rfl) ?_
  refine TL_q (.int .i64 2) (fun _ _ hρ _ => r_extract (hρ _ _ rfl) rfl) rfl rfl rfl (w_n rfl) ?_
  refine TL_new 15 (.cells #[.int .i64 0, .int .i64 0, .slice none 0 0] 75) (fun B => .pointer (some ⟨B, 0, none⟩)) (fun _ _ _ _ => r_alloc (v := .agg #[.int .i64 0, .int .i64 0, .slice none 0 0]) (by kernel_rfl) rfl) rfl rfl rfl (w_n rfl) ?_
  intro B15
  refine TL_store 15 (.cells #[.int .i64 0, .int .i64 0, .slice none 0 0] 75) rfl (fun _ _ hρ hm => r_store sz75 (hρ _ _ rfl) (hρ _ _ rfl) (hm.at 15 rfl) rfl rfl rfl rfl) rfl rfl (w_n rfl) ?_
  refine TL_q (.int .i64 2) (fun _ _ hρ _ => r_assign (hρ _ _ rfl)) rfl rfl rfl (w_n rfl) ?_
  refine TL_seq ?_
  refine T_sub [(0, .bool false), (1, .pointer (some ⟨B1, 0, none⟩)), (2, .pointer (some ⟨B2, 0, none⟩)), (3, .pointer (some ⟨B3, 0, none⟩)), (4, .pointer (some ⟨B4, 0, none⟩)), (5, .pointer (some ⟨B7, 0, none⟩)), (6, .int .i64 0), (7, .pointer (some ⟨B9, 0, none⟩)), (8, .int .i64 0), (9, .pointer (some ⟨B11, 0, none⟩)), (10, .int .i64 0), (11, .pointer (some ⟨c1.p, 0, none⟩)), (12, .int .i64 0), (13, .pointer (some ⟨c2.p, 0, none⟩)), (14, .int .i64 0), (15, .pointer (some ⟨B14, 0, none⟩)), (16, .int .i64 0), (18, .int .i64 2)] [(13, .row (.slice ar13 ((cutL c2.wd c2.ts 7 0 1 2).length) cr13) 37 4 ((cutL c2.wd c2.ts 7 0 1 2).length) ((cutL c2.wd c2.ts 7 0 1 2).flatMap C4.cells)), (960, .cvs [c2, c1]), (10, .row (.slice ar10 ((flpL 2 2 [(⟨1, 0, 0, 255⟩ : C4), (⟨0, 1, 0, 255⟩ : C4), (⟨0, 0, 1, 255⟩ : C4), (⟨0, 0, 0, 255⟩ : C4)]).length) cr10) 37 4 ((flpL 2 2 [(⟨1, 0, 0, 255⟩ : C4), (⟨0, 1, 0, 255⟩ : C4), (⟨0, 0, 1, 255⟩ : C4), (⟨0, 0, 0, 255⟩ : C4)]).length) ((flpL 2 2 [(⟨1, 0, 0, 255⟩ : C4), (⟨0, 1, 0, 255⟩ : C4), (⟨0, 0, 1, 255⟩ : C4), (⟨0, 0, 0, 255⟩ : C4)]).flatMap C4.cells)), (8, .row (.slice ar8 ((quarL 2 2 [(⟨1, 0, 0, 255⟩ : C4), (⟨0, 1, 0, 255⟩ : C4), (⟨0, 0, 1, 255⟩ : C4), (⟨0, 0, 0, 255⟩ : C4)]).length) cr8) 37 4 ((quarL 2 2 [(⟨1, 0, 0, 255⟩ : C4), (⟨0, 1, 0, 255⟩ : C4), (⟨0, 0, 1, 255⟩ : C4), (⟨0, 0, 0, 255⟩ : C4)]).length) ((quarL 2 2 [(⟨1, 0, 0, 255⟩ : C4), (⟨0, 1, 0, 255⟩ : C4), (⟨0, 0, 1, 255⟩ : C4), (⟨0, 0, 0, 255⟩ : C4)]).flatMap C4.cells)), (6, .row (.slice ar6 (([(⟨1, 0, 0, 255⟩ : C4), (⟨0, 1, 0, 255⟩ : C4), (⟨0, 0, 1, 255⟩ : C4), (⟨0, 0, 0, 255⟩ : C4)]).length) cr6) 37 4 (([(⟨1, 0, 0, 255⟩ : C4), (⟨0, 1, 0, 255⟩ : C4), (⟨0, 0, 1, 255⟩ : C4), (⟨0, 0, 0, 255⟩ : C4)]).length) (([(⟨1, 0, 0, 255⟩ : C4), (⟨0, 1, 0, 255⟩ : C4), (⟨0, 0, 1, 255⟩ : C4), (⟨0, 0, 0, 255⟩ : C4)]).flatMap C4.cells)), (1, .blk B1 (.cells #[.int .u8 1, .int .u8 0, .int .u8 0, .int .u8 255] 37)), (2, .blk B2 (.cells #[.int .u8 0, .int .u8 1, .int .u8 0, .int .u8 255] 37)), (3, .blk B3 (.cells #[.int .u8 0, .int .u8 0, .int .u8 1, .int .u8 255] 37)), (4, .blk B4 (.cells #[.int .u8 0, .int .u8 0, .int .u8 0, .int .u8 255] 37)), (5, .blk B5 (.cells #[.int .u8 1, .int .u8 0, .int .u8 0, .int .u8 255, .int .u8 0, .int .u8 1, .int .u8 0, .int .u8 255, .int .u8 0, .int .u8 0, .int .u8 1, .int .u8 255, .int .u8 0, .int .u8 0, .int .u8 0, .int .u8 255] 37)), (7, .blk B7 (.cells #[.int .i64 2, .int .i64 2, .slice ar6 (([(⟨1, 0, 0, 255⟩ : C4), (⟨0, 1, 0, 255⟩ : C4), (⟨0, 0, 1, 255⟩ : C4), (⟨0, 0, 0, 255⟩ : C4)]).length) cr6] 75)), (9, .blk B9 (.cells #[.int .i64 2, .int .i64 2, .slice ar8 ((quarL 2 2 [(⟨1, 0, 0, 255⟩ : C4), (⟨0, 1, 0, 255⟩ : C4), (⟨0, 0, 1, 255⟩ : C4), (⟨0, 0, 0, 255⟩ : C4)]).length) cr8] 75)), (11, .blk B11 (.cells #[.int .i64 2, .int .i64 2, .slice ar10 ((flpL 2 2 [(⟨1, 0, 0, 255⟩ : C4), (⟨0, 1, 0, 255⟩ : C4), (⟨0, 0, 1, 255⟩ : C4), (⟨0, 0, 0, 255⟩ : C4)]).length) cr10] 75)), (12, .blk B12 (.cells #[.int .i64 7, .int .i64 0] 47)), (14, .blk B14 (.cells #[.int .i64 1, .int .i64 2, .slice ar13 ((cutL c2.wd c2.ts 7 0 1 2).length) cr13] 75)), (15, .blk B15 (.cells #[.int .i64 0, .int .i64 0, .slice none 0 0] 75))] (sub_cons rfl (sub_cons rfl (sub_cons rfl (sub_cons rfl (sub_cons rfl (sub_cons rfl (sub_cons rfl (sub_cons rfl (sub_cons rfl (sub_cons rfl (sub_cons rfl (sub_cons rfl (sub_cons rfl (sub_cons rfl (sub_cons rfl (sub_cons rfl (sub_cons rfl (sub_cons rfl sub_nil)))))))))))))))))) (sub_cons rfl (sub_cons rfl (sub_cons rfl (sub_cons rfl (sub_cons rfl (sub_cons rfl (sub_cons rfl (sub_cons rfl (sub_cons rfl (sub_cons rfl (sub_cons rfl (sub_cons rfl (sub_cons rfl (sub_cons rfl (sub_cons rfl (sub_cons rfl sub_nil)))))))))))))))) ?_
  have f1 : c2.ts = wkT := by rw [hts_c2, hwd_c1, hhg_c1, hts_c1]; rfl
  have f2 : quarL 2 2 [(⟨1, 0, 0, 255⟩ : C4), (⟨0, 1, 0, 255⟩ : C4), (⟨0, 0, 1, 255⟩ : C4), (⟨0, 0, 0, 255⟩ : C4)] = [(⟨0, 0, 1, 255⟩ : C4), (⟨1, 0, 0, 255⟩ : C4), (⟨0, 0, 0, 255⟩ : C4), (⟨0, 1, 0, 255⟩ : C4)] := swk3
  have f3 : flpL 2 2 [(⟨1, 0, 0, 255⟩ : C4), (⟨0, 1, 0, 255⟩ : C4), (⟨0, 0, 1, 255⟩ : C4), (⟨0, 0, 0, 255⟩ : C4)] = [(⟨0, 1, 0, 255⟩ : C4), (⟨1, 0, 0, 255⟩ : C4), (⟨0, 0, 0, 255⟩ : C4), (⟨0, 0, 1, 255⟩ : C4)] := swk4
  have f4 : cutL c2.wd c2.ts 7 0 1 2 = [(⟨1, 0, 0, 255⟩ : C4), (⟨0, 0, 1, 255⟩ : C4)] := by rw [hwd_c2, hwd_c1, f1]; exact swk1
  have f5 : (difC c1.wd c1.hg c1.ts c2.ts).length = 2 := by rw [hwd_c1, hhg_c1, hts_c1, f1]; exact swk2
  have f6 : (((difC c1.wd c1.hg c1.ts c2.ts).length : Nat) : Int) = 2 := by rw [f5]; rfl
  have f7 : ((wearN [(⟨1, 0, 0, 255⟩ : C4), (⟨0, 1, 0, 255⟩ : C4), (⟨0, 0, 1, 255⟩ : C4), (⟨0, 0, 0, 255⟩ : C4)] [(⟨1, 0, 0, 255⟩ : C4), (⟨0, 1, 0, 255⟩ : C4), (⟨0, 0, 1, 255⟩ : C4), (⟨0, 0, 0, 255⟩ : C4)].length : Nat) : Int) = 4 := congrArg Int.ofNat swk5
  refine T_seq (T_region ?_)
  refine TL_q (.int .i64 0) (fun _ _ hρ _ => r_move (hρ _ _ rfl)) rfl rfl rfl (w_n rfl) ?_
  refine TL_q (.bool true) (fun _ _ hρ _ => r_as (r_eql (hρ _ _ rfl) (hρ _ _ rfl)) (by rfl)) rfl rfl rfl (w_n rfl) ?_
  refine TL_q (.bool true) (fun _ _ hρ _ => r_move (hρ _ _ rfl)) rfl rfl rfl (w_n rfl) ?_
  refine TL_q (.int .i64 0) (fun _ _ hρ _ => r_move (hρ _ _ rfl)) rfl rfl rfl (want_y 66 rfl rfl rfl) ?_
  refine TL_q (.bool true) (fun _ _ hρ _ => r_as (r_eql (hρ _ _ rfl) (hρ _ _ rfl)) (by rfl)) rfl rfl rfl (want_y 66 rfl rfl rfl) ?_
  refine TL_q (.bool true) (fun _ _ hρ _ => r_pick_t (hρ _ _ rfl) (hρ _ _ rfl)) rfl rfl rfl (w_n rfl) ?_
  refine TL_q (.bool true) (fun _ _ hρ _ => r_move (hρ _ _ rfl)) rfl rfl rfl (w_n rfl) ?_
  refine TL_q (.int .i64 0) (fun _ _ hρ _ => r_move (hρ _ _ rfl)) rfl rfl rfl (want_y 70 rfl rfl rfl) ?_
  refine TL_q (.bool true) (fun _ _ hρ _ => r_as (r_eql (hρ _ _ rfl) (hρ _ _ rfl)) (by rfl)) rfl rfl rfl (want_y 70 rfl rfl rfl) ?_
  refine TL_q (.bool true) (fun _ _ hρ _ => r_pick_t (hρ _ _ rfl) (hρ _ _ rfl)) rfl rfl rfl (w_n rfl) ?_
  refine TL_q (.bool true) (fun _ _ hρ _ => r_move (hρ _ _ rfl)) rfl rfl rfl (w_n rfl) ?_
  refine TL_q (.int .i64 0) (fun _ _ hρ _ => r_move (hρ _ _ rfl)) rfl rfl rfl (want_y 74 rfl rfl rfl) ?_
  refine TL_q (.bool true) (fun _ _ hρ _ => r_as (r_eql (hρ _ _ rfl) (hρ _ _ rfl)) (by rfl)) rfl rfl rfl (want_y 74 rfl rfl rfl) ?_
  refine TL_q (.bool true) (fun _ _ hρ _ => r_pick_t (hρ _ _ rfl) (hρ _ _ rfl)) rfl rfl rfl (w_n rfl) ?_
  refine TL_q (.bool true) (fun _ _ hρ _ => r_move (hρ _ _ rfl)) rfl rfl rfl (w_n rfl) ?_
  refine TL_q (.int .i64 0) (fun _ _ hρ _ => r_move (hρ _ _ rfl)) rfl rfl rfl (want_y 78 rfl rfl rfl) ?_
  refine TL_q (.bool true) (fun _ _ hρ _ => r_as (r_eql (hρ _ _ rfl) (hρ _ _ rfl)) (by rfl)) rfl rfl rfl (want_y 78 rfl rfl rfl) ?_
  refine TL_q (.bool true) (fun _ _ hρ _ => r_pick_t (hρ _ _ rfl) (hρ _ _ rfl)) rfl rfl rfl (w_n rfl) ?_
  refine TL_q (.bool true) (fun _ _ hρ _ => r_move (hρ _ _ rfl)) rfl rfl rfl (w_n rfl) ?_
  refine TL_q (.int .i64 0) (fun _ _ hρ _ => r_move (hρ _ _ rfl)) rfl rfl rfl (want_y 82 rfl rfl rfl) ?_
  refine TL_q (.bool true) (fun _ _ hρ _ => r_as (r_eql (hρ _ _ rfl) (hρ _ _ rfl)) (by rfl)) rfl rfl rfl (want_y 82 rfl rfl rfl) ?_
  refine TL_q (.bool true) (fun _ _ hρ _ => r_pick_t (hρ _ _ rfl) (hρ _ _ rfl)) rfl rfl rfl (w_n rfl) ?_
  refine TL_q (.bool true) (fun _ _ hρ _ => r_move (hρ _ _ rfl)) rfl rfl rfl (w_n rfl) ?_
  refine TL_q (.int .i64 2) (fun _ _ hρ _ => r_move (hρ _ _ rfl)) rfl rfl rfl (want_y 86 rfl rfl rfl) ?_
  refine TL_q (.bool true) (fun _ _ hρ _ => r_as (r_eql (hρ _ _ rfl) (hρ _ _ rfl)) (by rfl)) rfl rfl rfl (want_y 86 rfl rfl rfl) ?_
  refine TL_q (.bool true) (fun _ _ hρ _ => r_pick_t (hρ _ _ rfl) (hρ _ _ rfl)) rfl rfl rfl (w_n rfl) ?_
  refine TL_q (.bool true) (fun _ _ hρ _ => r_move (hρ _ _ rfl)) rfl rfl rfl (w_n rfl) ?_
  refine TL_q (.pointer (some ⟨B9, 2, none⟩)) (fun _ _ hρ _ => r_fieldAddr fl75_2 sz71 (hρ _ _ rfl)) rfl rfl rfl (want_y 90 rfl rfl rfl) ?_
  refine TL_q (.slice ar8 ((quarL 2 2 [(⟨1, 0, 0, 255⟩ : C4), (⟨0, 1, 0, 255⟩ : C4), (⟨0, 0, 1, 255⟩ : C4), (⟨0, 0, 0, 255⟩ : C4)]).length) cr8) (fun _ _ hρ hm => r_load ag71 (hρ _ _ rfl) (hm.at 9 rfl) rfl) rfl rfl rfl (want_y 90 rfl rfl rfl) ?_
  refine TL_q (.agg #[.int .u8 0, .int .u8 0, .int .u8 1, .int .u8 255]) (fun _ _ hρ hm => r_loadA ag37 sz37 (hρ _ _ rfl) (hm.at 3 rfl) rfl rfl) rfl rfl rfl (want_y 90 rfl rfl rfl) ?_
  refine TL_q (.agg #[.int .u8 1, .int .u8 0, .int .u8 0, .int .u8 255]) (fun _ _ hρ hm => r_loadA ag37 sz37 (hρ _ _ rfl) (hm.at 1 rfl) rfl rfl) rfl rfl rfl (want_y 90 rfl rfl rfl) ?_
  refine TL_q (.agg #[.int .u8 0, .int .u8 0, .int .u8 0, .int .u8 255]) (fun _ _ hρ hm => r_loadA ag37 sz37 (hρ _ _ rfl) (hm.at 4 rfl) rfl rfl) rfl rfl rfl (want_y 90 rfl rfl rfl) ?_
  refine TL_q (.agg #[.int .u8 0, .int .u8 1, .int .u8 0, .int .u8 255]) (fun _ _ hρ hm => r_loadA ag37 sz37 (hρ _ _ rfl) (hm.at 2 rfl) rfl rfl) rfl rfl rfl (want_y 90 rfl rfl rfl) ?_
  refine TL_new 16 (.cells #[.int .u8 0, .int .u8 0, .int .u8 1, .int .u8 255, .int .u8 1, .int .u8 0, .int .u8 0, .int .u8 255, .int .u8 0, .int .u8 0, .int .u8 0, .int .u8 255, .int .u8 0, .int .u8 1, .int .u8 0, .int .u8 255] 37) (fun B => .slice (some ⟨B, 0, none⟩) 4 4) (fun _ _ hρ _ => r_buildSlice (vs := [(0, .agg #[.int .u8 0, .int .u8 0, .int .u8 1, .int .u8 255]), (1, .agg #[.int .u8 1, .int .u8 0, .int .u8 0, .int .u8 255]), (2, .agg #[.int .u8 0, .int .u8 0, .int .u8 0, .int .u8 255]), (3, .agg #[.int .u8 0, .int .u8 1, .int .u8 0, .int .u8 255])]) (by kernel_rfl) (cons2 (pair2 (hρ _ _ rfl)) (cons2 (pair2 (hρ _ _ rfl)) (cons2 (pair2 (hρ _ _ rfl)) (cons2 (pair2 (hρ _ _ rfl)) rfl))))) rfl rfl rfl (want_y 90 rfl rfl rfl) ?_
  intro B16
  refine TL_call (.bool true) (fun _ _ hρ _ => r_call (args := [.slice ar8 ((quarL 2 2 [(⟨1, 0, 0, 255⟩ : C4), (⟨0, 1, 0, 255⟩ : C4), (⟨0, 0, 1, 255⟩ : C4), (⟨0, 0, 0, 255⟩ : C4)]).length) cr8, .slice (some ⟨B16, 0, none⟩) 4 4]) (enters_of Try.func46 (by kernel_rfl) rfl) (hρ _ _ rfl) ((cons2 (hρ _ _ rfl) (cons2 (hρ _ _ rfl) rfl))) rfl) (fun w hm => (equal_c4 (quarL 2 2 [(⟨1, 0, 0, 255⟩ : C4), (⟨0, 1, 0, 255⟩ : C4), (⟨0, 0, 1, 255⟩ : C4), (⟨0, 0, 0, 255⟩ : C4)]) [(⟨0, 0, 1, 255⟩ : C4), (⟨1, 0, 0, 255⟩ : C4), (⟨0, 0, 0, 255⟩ : C4), (⟨0, 1, 0, 255⟩ : C4)] ar8 (some ⟨B16, 0, none⟩) cr8 4 w (SliceAt.own C4.cells_len (hm.row 8 rfl) rfl rfl) ⟨Nat.le_of_ble_eq_true rfl, (fun e => by cases e), .inr ⟨_, 0, _, _, _, rfl, (hm.at 16 rfl), row_of_take (fun _ => rfl) rfl⟩⟩ (by first | omega | exact Nat.le_of_ble_eq_true rfl) (Nat.le_of_ble_eq_true rfl)).mono fun _ _ h => ⟨h.1.trans (congrArg Ending.returned (bool_as (decide_eq_true f2))), h.2⟩) rfl rfl rfl (want_y 90 rfl rfl rfl) ?_
  refine TL_q (.bool true) (fun _ _ hρ _ => r_pick_t (hρ _ _ rfl) (hρ _ _ rfl)) rfl rfl rfl (w_n rfl) ?_
  refine TL_q (.bool true) (fun _ _ hρ _ => r_move (hρ _ _ rfl)) rfl rfl rfl (w_n rfl) ?_
  refine TL_q (.pointer (some ⟨B11, 2, none⟩)) (fun _ _ hρ _ => r_fieldAddr fl75_2 sz71 (hρ _ _ rfl)) rfl rfl rfl (want_y 100 rfl rfl rfl) ?_
  refine TL_q (.slice ar10 ((flpL 2 2 [(⟨1, 0, 0, 255⟩ : C4), (⟨0, 1, 0, 255⟩ : C4), (⟨0, 0, 1, 255⟩ : C4), (⟨0, 0, 0, 255⟩ : C4)]).length) cr10) (fun _ _ hρ hm => r_load ag71 (hρ _ _ rfl) (hm.at 11 rfl) rfl) rfl rfl rfl (want_y 100 rfl rfl rfl) ?_
  refine TL_q (.agg #[.int .u8 0, .int .u8 1, .int .u8 0, .int .u8 255]) (fun _ _ hρ hm => r_loadA ag37 sz37 (hρ _ _ rfl) (hm.at 2 rfl) rfl rfl) rfl rfl rfl (want_y 100 rfl rfl rfl) ?_
  refine TL_q (.agg #[.int .u8 1, .int .u8 0, .int .u8 0, .int .u8 255]) (fun _ _ hρ hm => r_loadA ag37 sz37 (hρ _ _ rfl) (hm.at 1 rfl) rfl rfl) rfl rfl rfl (want_y 100 rfl rfl rfl) ?_
  refine TL_q (.agg #[.int .u8 0, .int .u8 0, .int .u8 0, .int .u8 255]) (fun _ _ hρ hm => r_loadA ag37 sz37 (hρ _ _ rfl) (hm.at 4 rfl) rfl rfl) rfl rfl rfl (want_y 100 rfl rfl rfl) ?_
  refine TL_q (.agg #[.int .u8 0, .int .u8 0, .int .u8 1, .int .u8 255]) (fun _ _ hρ hm => r_loadA ag37 sz37 (hρ _ _ rfl) (hm.at 3 rfl) rfl rfl) rfl rfl rfl (want_y 100 rfl rfl rfl) ?_
  refine TL_new 17 (.cells #[.int .u8 0, .int .u8 1, .int .u8 0, .int .u8 255, .int .u8 1, .int .u8 0, .int .u8 0, .int .u8 255, .int .u8 0, .int .u8 0, .int .u8 0, .int .u8 255, .int .u8 0, .int .u8 0, .int .u8 1, .int .u8 255] 37) (fun B => .slice (some ⟨B, 0, none⟩) 4 4) (fun _ _ hρ _ => r_buildSlice (vs := [(0, .agg #[.int .u8 0, .int .u8 1, .int .u8 0, .int .u8 255]), (1, .agg #[.int .u8 1, .int .u8 0, .int .u8 0, .int .u8 255]), (2, .agg #[.int .u8 0, .int .u8 0, .int .u8 0, .int .u8 255]), (3, .agg #[.int .u8 0, .int .u8 0, .int .u8 1, .int .u8 255])]) (by kernel_rfl) (cons2 (pair2 (hρ _ _ rfl)) (cons2 (pair2 (hρ _ _ rfl)) (cons2 (pair2 (hρ _ _ rfl)) (cons2 (pair2 (hρ _ _ rfl)) rfl))))) rfl rfl rfl (want_y 100 rfl rfl rfl) ?_
  intro B17
  refine TL_call (.bool true) (fun _ _ hρ _ => r_call (args := [.slice ar10 ((flpL 2 2 [(⟨1, 0, 0, 255⟩ : C4), (⟨0, 1, 0, 255⟩ : C4), (⟨0, 0, 1, 255⟩ : C4), (⟨0, 0, 0, 255⟩ : C4)]).length) cr10, .slice (some ⟨B17, 0, none⟩) 4 4]) (enters_of Try.func46 (by kernel_rfl) rfl) (hρ _ _ rfl) ((cons2 (hρ _ _ rfl) (cons2 (hρ _ _ rfl) rfl))) rfl) (fun w hm => (equal_c4 (flpL 2 2 [(⟨1, 0, 0, 255⟩ : C4), (⟨0, 1, 0, 255⟩ : C4), (⟨0, 0, 1, 255⟩ : C4), (⟨0, 0, 0, 255⟩ : C4)]) [(⟨0, 1, 0, 255⟩ : C4), (⟨1, 0, 0, 255⟩ : C4), (⟨0, 0, 0, 255⟩ : C4), (⟨0, 0, 1, 255⟩ : C4)] ar10 (some ⟨B17, 0, none⟩) cr10 4 w (SliceAt.own C4.cells_len (hm.row 10 rfl) rfl rfl) ⟨Nat.le_of_ble_eq_true rfl, (fun e => by cases e), .inr ⟨_, 0, _, _, _, rfl, (hm.at 17 rfl), row_of_take (fun _ => rfl) rfl⟩⟩ (by first | omega | exact Nat.le_of_ble_eq_true rfl) (Nat.le_of_ble_eq_true rfl)).mono fun _ _ h => ⟨h.1.trans (congrArg Ending.returned (bool_as (decide_eq_true f3))), h.2⟩) rfl rfl rfl (want_y 100 rfl rfl rfl) ?_
  refine TL_q (.bool true) (fun _ _ hρ _ => r_pick_t (hρ _ _ rfl) (hρ _ _ rfl)) rfl rfl rfl (w_n rfl) ?_
  refine TL_q (.bool true) (fun _ _ hρ _ => r_move (hρ _ _ rfl)) rfl rfl rfl (w_n rfl) ?_
  refine TL_q (.pointer (some ⟨B14, 2, none⟩)) (fun _ _ hρ _ => r_fieldAddr fl75_2 sz71 (hρ _ _ rfl)) rfl rfl rfl (want_y 110 rfl rfl rfl) ?_
  refine TL_q (.slice ar13 ((cutL c2.wd c2.ts 7 0 1 2).length) cr13) (fun _ _ hρ hm => r_load ag71 (hρ _ _ rfl) (hm.at 14 rfl) rfl) rfl rfl rfl (want_y 110 rfl rfl rfl) ?_
  refine TL_q (.agg #[.int .u8 1, .int .u8 0, .int .u8 0, .int .u8 255]) (fun _ _ hρ hm => r_loadA ag37 sz37 (hρ _ _ rfl) (hm.at 1 rfl) rfl rfl) rfl rfl rfl (want_y 110 rfl rfl rfl) ?_
  refine TL_q (.agg #[.int .u8 0, .int .u8 0, .int .u8 1, .int .u8 255]) (fun _ _ hρ hm => r_loadA ag37 sz37 (hρ _ _ rfl) (hm.at 3 rfl) rfl rfl) rfl rfl rfl (want_y 110 rfl rfl rfl) ?_
  refine TL_new 18 (.cells #[.int .u8 1, .int .u8 0, .int .u8 0, .int .u8 255, .int .u8 0, .int .u8 0, .int .u8 1, .int .u8 255] 37) (fun B => .slice (some ⟨B, 0, none⟩) 2 2) (fun _ _ hρ _ => r_buildSlice (vs := [(0, .agg #[.int .u8 1, .int .u8 0, .int .u8 0, .int .u8 255]), (1, .agg #[.int .u8 0, .int .u8 0, .int .u8 1, .int .u8 255])]) (by kernel_rfl) (cons2 (pair2 (hρ _ _ rfl)) (cons2 (pair2 (hρ _ _ rfl)) rfl))) rfl rfl rfl (want_y 110 rfl rfl rfl) ?_
  intro B18
  refine TL_call (.bool true) (fun _ _ hρ _ => r_call (args := [.slice ar13 ((cutL c2.wd c2.ts 7 0 1 2).length) cr13, .slice (some ⟨B18, 0, none⟩) 2 2]) (enters_of Try.func46 (by kernel_rfl) rfl) (hρ _ _ rfl) ((cons2 (hρ _ _ rfl) (cons2 (hρ _ _ rfl) rfl))) rfl) (fun w hm => (equal_c4 (cutL c2.wd c2.ts 7 0 1 2) [(⟨1, 0, 0, 255⟩ : C4), (⟨0, 0, 1, 255⟩ : C4)] ar13 (some ⟨B18, 0, none⟩) cr13 2 w (SliceAt.own C4.cells_len (hm.row 13 rfl) rfl rfl) ⟨Nat.le_of_ble_eq_true rfl, (fun e => by cases e), .inr ⟨_, 0, _, _, _, rfl, (hm.at 18 rfl), row_of_take (fun _ => rfl) rfl⟩⟩ (by first | omega | exact Nat.le_of_ble_eq_true rfl) (Nat.le_of_ble_eq_true rfl)).mono fun _ _ h => ⟨h.1.trans (congrArg Ending.returned (bool_as (decide_eq_true f4))), h.2⟩) rfl rfl rfl (want_y 110 rfl rfl rfl) ?_
  refine TL_q (.bool true) (fun _ _ hρ _ => r_pick_t (hρ _ _ rfl) (hρ _ _ rfl)) rfl rfl rfl (w_n rfl) ?_
  refine TL_q (.bool true) (fun _ _ hρ _ => r_move (hρ _ _ rfl)) rfl rfl rfl (w_n rfl) ?_
  refine TL_q (.pointer (some ⟨c1.p, 0, none⟩)) (fun _ _ hρ _ => r_move (hρ _ _ rfl)) rfl rfl rfl (want_y 118 rfl rfl rfl) ?_
  refine TL_q (.pointer (some ⟨c2.p, 0, none⟩)) (fun _ _ hρ _ => r_move (hρ _ _ rfl)) rfl rfl rfl (want_y 118 rfl rfl rfl) ?_
  refine TL_callN (fun (_ : Option Addr × Nat) => True) (fun (ar19, cr19) => .slice ar19 ((difC c1.wd c1.hg c1.ts c2.ts).length) cr19) (fun (ar19, cr19) => [(19, .row (.slice ar19 ((difC c1.wd c1.hg c1.ts c2.ts).length) cr19) 47 2 ((difC c1.wd c1.hg c1.ts c2.ts).length) ((difC c1.wd c1.hg c1.ts c2.ts).flatMap ptn))]) (fun _ _ hρ _ => r_call (args := [.pointer (some ⟨c1.p, 0, none⟩), .pointer (some ⟨c2.p, 0, none⟩)]) (enters_of Try.func22 (by kernel_rfl) rfl) (hρ _ _ rfl) ((cons2 (hρ _ _ rfl) (cons2 (hρ _ _ rfl) rfl))) rfl) (fun w hm => (differ_eq c1 c2 w (hm.cv 960 rfl (List.Mem.tail _ (List.Mem.head _))) (hm.cv 960 rfl (List.Mem.head _)) hwd_c2.symm hhg_c2.symm).mono fun e w' ⟨a', cap', he, hb, hr⟩ => ⟨(a', cap'), trivial, he, hb, newOk1 19 hr⟩) rfl rfl rfl (want_y 118 rfl rfl rfl) ?_
  rintro ⟨ar19, cr19⟩ -
  refine TL_q (.int .i64 (((difC c1.wd c1.hg c1.ts c2.ts).length : Nat) : Int)) (fun _ _ hρ _ => r_len sl44 (hρ _ _ rfl)) rfl rfl rfl (want_y 118 rfl rfl rfl) ?_
  refine TL_q (.bool true) (fun _ _ hρ _ => r_as (r_eql (hρ _ _ rfl) (hρ _ _ rfl)) (bool_as (decide_eq_true f6))) rfl rfl rfl (want_y 118 rfl rfl rfl) ?_
  refine TL_q (.bool true) (fun _ _ hρ _ => r_pick_t (hρ _ _ rfl) (hρ _ _ rfl)) rfl rfl rfl (w_n rfl) ?_
  refine TL_q (.bool true) (fun _ _ hρ _ => r_move (hρ _ _ rfl)) rfl rfl rfl (w_n rfl) ?_
  refine TL_q (.agg #[.int .i64 2, .int .i64 2, .slice ar6 (([(⟨1, 0, 0, 255⟩ : C4), (⟨0, 1, 0, 255⟩ : C4), (⟨0, 0, 1, 255⟩ : C4), (⟨0, 0, 0, 255⟩ : C4)]).length) cr6]) (fun _ _ hρ hm => r_loadA ag75 sz75 (hρ _ _ rfl) (hm.at 7 rfl) rfl rfl) rfl rfl rfl (want_y 125 rfl rfl rfl) ?_
  refine TL_call (.int .i64 ((wearN [(⟨1, 0, 0, 255⟩ : C4), (⟨0, 1, 0, 255⟩ : C4), (⟨0, 0, 1, 255⟩ : C4), (⟨0, 0, 0, 255⟩ : C4)] [(⟨1, 0, 0, 255⟩ : C4), (⟨0, 1, 0, 255⟩ : C4), (⟨0, 0, 1, 255⟩ : C4), (⟨0, 0, 0, 255⟩ : C4)].length : Nat) : Int)) (fun _ _ hρ _ => r_call (args := [.agg #[.int .i64 2, .int .i64 2, .slice ar6 (([(⟨1, 0, 0, 255⟩ : C4), (⟨0, 1, 0, 255⟩ : C4), (⟨0, 0, 1, 255⟩ : C4), (⟨0, 0, 0, 255⟩ : C4)]).length) cr6]]) (enters_of Try.func52 (by kernel_rfl) rfl) (hρ _ _ rfl) ((cons2 (hρ _ _ rfl) rfl)) rfl) (fun w hm => wears_ok 2 2 [(⟨1, 0, 0, 255⟩ : C4), (⟨0, 1, 0, 255⟩ : C4), (⟨0, 0, 1, 255⟩ : C4), (⟨0, 0, 0, 255⟩ : C4)] ar6 cr6 w (SliceAt.own C4.cells_len (hm.row 6 rfl) rfl rfl) (row_cap (hm.row 6 rfl)) (by decide) (by decide) (by decide) (fun c hc => (wkPx_ok c hc).2.2.2.1)) rfl rfl rfl (want_y 125 rfl rfl rfl) ?_
  refine TL_q (.bool true) (fun _ _ hρ _ => r_as (r_eql (hρ _ _ rfl) (hρ _ _ rfl)) (bool_as (decide_eq_true f7))) rfl rfl rfl (want_y 125 rfl rfl rfl) ?_
  refine TL_q (.bool true) (fun _ _ hρ _ => r_pick_t (hρ _ _ rfl) (hρ _ _ rfl)) rfl rfl rfl (w_n rfl) ?_
  refine TL_q (.bool true) (fun _ _ hρ _ => r_assign (hρ _ _ rfl)) rfl rfl rfl (w_n rfl) ?_
  refine TL_seq ?_
  refine T_sub [(0, .bool true)] [(19, .row (.slice ar19 ((difC c1.wd c1.hg c1.ts c2.ts).length) cr19) 47 2 ((difC c1.wd c1.hg c1.ts c2.ts).length) ((difC c1.wd c1.hg c1.ts c2.ts).flatMap ptn)), (13, .row (.slice ar13 ((cutL c2.wd c2.ts 7 0 1 2).length) cr13) 37 4 ((cutL c2.wd c2.ts 7 0 1 2).length) ((cutL c2.wd c2.ts 7 0 1 2).flatMap C4.cells)), (960, .cvs [c2, c1]), (10, .row (.slice ar10 ((flpL 2 2 [(⟨1, 0, 0, 255⟩ : C4), (⟨0, 1, 0, 255⟩ : C4), (⟨0, 0, 1, 255⟩ : C4), (⟨0, 0, 0, 255⟩ : C4)]).length) cr10) 37 4 ((flpL 2 2 [(⟨1, 0, 0, 255⟩ : C4), (⟨0, 1, 0, 255⟩ : C4), (⟨0, 0, 1, 255⟩ : C4), (⟨0, 0, 0, 255⟩ : C4)]).length) ((flpL 2 2 [(⟨1, 0, 0, 255⟩ : C4), (⟨0, 1, 0, 255⟩ : C4), (⟨0, 0, 1, 255⟩ : C4), (⟨0, 0, 0, 255⟩ : C4)]).flatMap C4.cells)), (8, .row (.slice ar8 ((quarL 2 2 [(⟨1, 0, 0, 255⟩ : C4), (⟨0, 1, 0, 255⟩ : C4), (⟨0, 0, 1, 255⟩ : C4), (⟨0, 0, 0, 255⟩ : C4)]).length) cr8) 37 4 ((quarL 2 2 [(⟨1, 0, 0, 255⟩ : C4), (⟨0, 1, 0, 255⟩ : C4), (⟨0, 0, 1, 255⟩ : C4), (⟨0, 0, 0, 255⟩ : C4)]).length) ((quarL 2 2 [(⟨1, 0, 0, 255⟩ : C4), (⟨0, 1, 0, 255⟩ : C4), (⟨0, 0, 1, 255⟩ : C4), (⟨0, 0, 0, 255⟩ : C4)]).flatMap C4.cells)), (6, .row (.slice ar6 (([(⟨1, 0, 0, 255⟩ : C4), (⟨0, 1, 0, 255⟩ : C4), (⟨0, 0, 1, 255⟩ : C4), (⟨0, 0, 0, 255⟩ : C4)]).length) cr6) 37 4 (([(⟨1, 0, 0, 255⟩ : C4), (⟨0, 1, 0, 255⟩ : C4), (⟨0, 0, 1, 255⟩ : C4), (⟨0, 0, 0, 255⟩ : C4)]).length) (([(⟨1, 0, 0, 255⟩ : C4), (⟨0, 1, 0, 255⟩ : C4), (⟨0, 0, 1, 255⟩ : C4), (⟨0, 0, 0, 255⟩ : C4)]).flatMap C4.cells)), (1, .blk B1 (.cells #[.int .u8 1, .int .u8 0, .int .u8 0, .int .u8 255] 37)), (2, .blk B2 (.cells #[.int .u8 0, .int .u8 1, .int .u8 0, .int .u8 255] 37)), (3, .blk B3 (.cells #[.int .u8 0, .int .u8 0, .int .u8 1, .int .u8 255] 37)), (4, .blk B4 (.cells #[.int .u8 0, .int .u8 0, .int .u8 0, .int .u8 255] 37)), (5, .blk B5 (.cells #[.int .u8 1, .int .u8 0, .int .u8 0, .int .u8 255, .int .u8 0, .int .u8 1, .int .u8 0, .int .u8 255, .int .u8 0, .int .u8 0, .int .u8 1, .int .u8 255, .int .u8 0, .int .u8 0, .int .u8 0, .int .u8 255] 37)), (7, .blk B7 (.cells #[.int .i64 2, .int .i64 2, .slice ar6 (([(⟨1, 0, 0, 255⟩ : C4), (⟨0, 1, 0, 255⟩ : C4), (⟨0, 0, 1, 255⟩ : C4), (⟨0, 0, 0, 255⟩ : C4)]).length) cr6] 75)), (9, .blk B9 (.cells #[.int .i64 2, .int .i64 2, .slice ar8 ((quarL 2 2 [(⟨1, 0, 0, 255⟩ : C4), (⟨0, 1, 0, 255⟩ : C4), (⟨0, 0, 1, 255⟩ : C4), (⟨0, 0, 0, 255⟩ : C4)]).length) cr8] 75)), (11, .blk B11 (.cells #[.int .i64 2, .int .i64 2, .slice ar10 ((flpL 2 2 [(⟨1, 0, 0, 255⟩ : C4), (⟨0, 1, 0, 255⟩ : C4), (⟨0, 0, 1, 255⟩ : C4), (⟨0, 0, 0, 255⟩ : C4)]).length) cr10] 75)), (12, .blk B12 (.cells #[.int .i64 7, .int .i64 0] 47)), (14, .blk B14 (.cells #[.int .i64 1, .int .i64 2, .slice ar13 ((cutL c2.wd c2.ts 7 0 1 2).length) cr13] 75)), (15, .blk B15 (.cells #[.int .i64 0, .int .i64 0, .slice none 0 0] 75)), (16, .blk B16 (.cells #[.int .u8 0, .int .u8 0, .int .u8 1, .int .u8 255, .int .u8 1, .int .u8 0, .int .u8 0, .int .u8 255, .int .u8 0, .int .u8 0, .int .u8 0, .int .u8 255, .int .u8 0, .int .u8 1, .int .u8 0, .int .u8 255] 37)), (17, .blk B17 (.cells #[.int .u8 0, .int .u8 1, .int .u8 0, .int .u8 255, .int .u8 1, .int .u8 0, .int .u8 0, .int .u8 255, .int .u8 0, .int .u8 0, .int .u8 0, .int .u8 255, .int .u8 0, .int .u8 0, .int .u8 1, .int .u8 255] 37)), (18, .blk B18 (.cells #[.int .u8 1, .int .u8 0, .int .u8 0, .int .u8 255, .int .u8 0, .int .u8 0, .int .u8 1, .int .u8 255] 37))] (sub_cons rfl sub_nil) (sub_cons rfl (sub_cons rfl (sub_cons rfl (sub_cons rfl (sub_cons rfl (sub_cons rfl (sub_cons rfl (sub_cons rfl (sub_cons rfl (sub_cons rfl (sub_cons rfl (sub_cons rfl (sub_cons rfl (sub_cons rfl (sub_cons rfl (sub_cons rfl (sub_cons rfl (sub_cons rfl (sub_cons rfl (sub_cons rfl sub_nil)))))))))))))))))))) ?_
  refine T_ret' ?_
  refine ret_of rfl (.bool true) (fun tmps w hk hm => res1 rfl (res_tmp (hk 0 _ rfl))) (fun w hm => ?_)
  exact ⟨rfl, hm.ext⟩
end Go.Proofs.Ytbiapeaghbndoaa
/- stamp: what the laws need, plainly: parts of pixels written over; sizes of rows. -/
namespace Go.Proofs.Ytbiapeaghbndoaa
open Go Go.RowKit
theorem quo_nat {n p : Nat} (hp : 1 ≤ p) (hn : n ≤ 4611686018427387904) : IntKind.i64.wrap (Int.tdiv ((n : Nat) : Int) ((p : Nat) : Int)) = ((n / p : Nat) : Int) := by
  have h1 : n / p ≤ n := Nat.div_le_self _ _
  rw [Int.tdiv_eq_ediv_of_nonneg (by omega), ← Int.natCast_ediv]
  generalize n / p = m at *
  exact wrap64 (by omega) (by omega)
theorem of_len {n p : Nat} (h : ((n : Nat) : Int) % ((p : Nat) : Int) = 0) : n = p * (n / p) := by
  have h2 : n % p = 0 := by exact_mod_cast h
  have := Nat.div_add_mod n p
  omega
theorem right_rem {n p : Nat} (hno : ¬ ((n : Nat) : Int) % ((p : Nat) : Int) = 0) : ¬ rightS p (n / p : Nat) n = true := fun e => by
  obtain ⟨p', q', h1, h2, _, _, h3⟩ := rightS_nat e
  have e1 : p' = p := by omega
  have e2 : q' = n / p := by omega
  subst e1 e2
  refine hno ?_
  have : n % p' = 0 := by rw [h3]; exact Nat.mul_mod_right _ _
  exact_mod_cast this
theorem right_x {x y : Int} {n : Nat} (h : sideI x = false) : ¬ rightS x y n = true := by
  unfold rightS; rw [h]; simp
theorem right_y {x y : Int} {n : Nat} (h : sideI y = false) : ¬ rightS x y n = true := by
  unfold rightS; rw [h]; simp
theorem repG_set {α : Type} (z u : α) {k n : Nat} (h : k < n) : (repG z u k n).set k u = repG z u (k + 1) n := by
  apply List.ext_getElem?
  intro i
  rw [List.getElem?_set]
  unfold repG
  simp only [List.getElem?_append, List.getElem?_replicate, List.length_append, List.length_replicate]
  by_cases e : k = i
  · subst e
    rw [if_pos rfl, if_pos (by omega), if_pos (by omega), if_pos (by omega)]
  · rw [if_neg e]
    by_cases e2 : i < k
    · rw [if_pos e2, if_pos e2, if_pos (by omega), if_pos (by omega)]
    · rw [if_neg e2, if_neg (by omega : ¬ i < k + 1)]
      by_cases e3 : i < n
      · rw [if_pos (by omega), if_pos (by omega)]
      · rw [if_neg (by omega), if_neg (by omega)]
theorem rep_lenG {α : Type} (z u : α) {k n : Nat} (h : k ≤ n) : (repG z u k n).length = n := by
  unfold repG
  rw [List.length_append, List.length_replicate, List.length_replicate]; omega
theorem take_take_len {α : Type} {l m : List α} {k : Nat} (h : l = m.take k) : m.take l.length = l := by
  subst h
  rw [List.length_take, Nat.min_comm, take_min]
/-- A part of a pixel written over. -/
theorem wr_col {l : List C4} {k q : Nat} {c c' : C4} {pre mid suf vs : List Value} (hc : l[k]? = some c) (h1 : c.cells = pre ++ mid ++ suf) (h2 : c'.cells = pre ++ vs ++ suf) (hl : mid.length = vs.length) (hq : q = pre.length) (post : List Value) : wrC (l.flatMap C4.cells ++ post).toArray (0 + k * 4 + q) vs = ((l.set k c').flatMap C4.cells ++ post).toArray := by
  subst hq
  rw [Nat.zero_add]
  exact wr_part C4.cells_len hc h1 h2 hl _ rfl post
end Go.Proofs.Ytbiapeaghbndoaa
