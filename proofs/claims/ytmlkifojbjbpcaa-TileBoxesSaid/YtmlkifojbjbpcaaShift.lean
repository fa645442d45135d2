/- tile: Shift, and its reference. Printed by a program of this seat's prover. -/
import Derived.Test.YtmlkifojbjbpcaaTurn
namespace Go.Proofs.Ytmlkifojbjbpcaa
open Go Go.RowKit
set_option maxRecDepth 10000
def clamp (x : Int) : Int := if 8 < (if x < -8 then -8 else x) then 8 else (if x < -8 then -8 else x)
theorem clamp_bd (x : Int) : -8 ≤ clamp x ∧ clamp x ≤ 8 := by
  unfold clamp; split <;> split <;> omega
theorem clamp_in {x : Int} (h : -8 ≤ x) (h' : x ≤ 8) : clamp x = x := by
  unfold clamp; rw [if_neg (show ¬ x < -8 by omega), if_neg (by omega)]
def shiftF (dx dy : Int) (x y : Int) : Int × Int := (x + dx, y + dy)
def shiftL (l : List C4) (c : C4) (dx dy : Int) : List C4 := movedL (shiftF (clamp dx) (clamp dy)) l c
theorem shiftL_len (l : List C4) (c : C4) (dx dy : Int) : (shiftL l c dx dy).length = 64 := movedL_len _ _ _
theorem clamp_hi {x : Int} (h : 8 < x) : clamp x = 8 := by unfold clamp; rw [if_neg (show ¬ x < -8 by omega), if_pos h]
theorem clamp_lo {x : Int} (h : x < -8) : clamp x = -8 := by unfold clamp; rw [if_pos h, if_neg (by omega)]
theorem grid_id {z : List C4} {g : List C4 → Nat → Nat → List C4} (h : ∀ m x y, x < 8 → y < 8 → g m x y = m) : ∀ k, k ≤ 64 → gridN g z k = z
  | 0, _ => rfl
  | k + 1, hk => by
    show g (gridN g z k) (k % 8) (k / 8) = z
    rw [h _ _ _ (by omega) (by omega), grid_id h k (by omega)]
theorem isP_no {x y : Int} (h : x < 0 ∨ 8 ≤ x ∨ y < 0 ∨ 8 ≤ y) : isP x y = false := decide_eq_false (by omega)
theorem shift_far (l : List C4) (c : C4) (dx dy : Int) (h : dx < -8 ∨ 8 < dx ∨ dy < -8 ∨ 8 < dy) : shiftL l c dx dy = newL c := by
  show gridN (movedG (shiftF (clamp dx) (clamp dy)) l) (newL c) 64 = newL c
  refine grid_id (fun m x y hx hy => ?_) 64 (Nat.le_refl _)
  refine putL_no (isP_no ?_)
  unfold shiftF
  dsimp only
  rcases h with h | h | h | h
  · rw [clamp_lo h]; omega
  · rw [clamp_hi h]; omega
  · rw [clamp_lo h]; omega
  · rw [clamp_hi h]; omega
theorem shift_step {l z : List C4} {dx dy : Int} {x y : Nat} (hx : x < 8) : putL (gridN (movedG (shiftF dx dy) l) z (8 * y + x)) (x + dx) (y + dy) (get l (8 * y + x)) = gridN (movedG (shiftF dx dy) l) z (8 * y + x + 1) := by
  rw [← grid_step hx]; rfl

theorem shift1_c (px py : Nat) (dx dy : Int) (Bx By : Nat) (w : World) (hx : px < 8) (hy : py < 8) (h1 : -8 ≤ dx ∧ dx ≤ 8) (h2 : -8 ≤ dy ∧ dy ≤ 8) (hdx : hp w Bx = some (.cells #[.int .i64 dx] 3)) (hdy : hp w By = some (.cells #[.int .i64 dy] 3)) :
    Calls Try.prog 45 (#[] ++ [.int .i64 px, .int .i64 py].toArray ++ #[.pointer (some ⟨Bx, 0, none⟩), .pointer (some ⟨By, 0, none⟩)]) w fun e w' => e = .returned (.tuple #[.int .i64 (shiftF dx dy px py).1, .int .i64 (shiftF dx dy px py).2]) ∧ Below w.heap.size w w' := by
  refine calls_of_T (l := [.int .i64 ((px : Nat) : Int), .int .i64 ((py : Nat) : Int), .pointer (some ⟨Bx, 0, none⟩), .pointer (some ⟨By, 0, none⟩)]) 14 Try.func45 rfl rfl rfl ?_
  show T _ _ _ [(0, .int .i64 ((px : Nat) : Int)), (1, .int .i64 ((py : Nat) : Int)), (2, .pointer (some ⟨Bx, 0, none⟩)), (3, .pointer (some ⟨By, 0, none⟩))] []
  refine T_seq (T_region ?_)
  refine TL_q (.int .i64 0) (fun _ _ hρ _ => r_assign (hρ _ _ rfl)) rfl rfl rfl (w_n rfl) ?_
  refine TL_q (.int .i64 0) (fun _ _ hρ _ => r_assign (hρ _ _ rfl)) rfl rfl rfl (w_n rfl) ?_
  refine TL_seq ?_
  refine T_seq (T_draw (V := [(0, .int .i64 ((px : Nat) : Int)), (1, .int .i64 dx), (2, .int .i64 (((px : Nat) : Int) + dx)), (3, .int .i64 ((py : Nat) : Int)), (4, .int .i64 dy), (5, .int .i64 (((py : Nat) : Int) + dy)), (6, .int .i64 (((px : Nat) : Int) + dx)), (7, .int .i64 (((py : Nat) : Int) + dy))]) [0, 0, 3, 0, 0, 24, 7, 127] [[(0, none)], [(2, none)], [(8, some 0), (9, some 1)], [(1, none)], [(3, none)], [(11, some 3), (12, some 4)], [(10, some 2)], [(13, some 5)]] 0 mixed (by kernel_rfl) ?_)
  refine G_last [0, 1, 2, 3, 4, 5, 6, 7] [(6, .int .i64 (((px : Nat) : Int) + dx)), (7, .int .i64 (((py : Nat) : Int) + dy))] (by kernel_rfl) (allM (all_cons (q_run (.int .i64 ((px : Nat) : Int)) rfl rfl (wv_n rfl) rfl (fun _ _ hρ _ => r_move (hρ _ _ rfl))) (all_cons (q_run (.int .i64 dx) rfl rfl (wv_n rfl) rfl (fun _ _ hρ hm => r_load ag3 (hρ _ _ rfl) (hm.old hdx) rfl)) (all_cons (q_run (.int .i64 (((px : Nat) : Int) + dx)) rfl rfl (wv_n rfl) rfl (fun _ _ hρ _ => r_as (r_add (hρ _ _ rfl) (hρ _ _ rfl)) (int_as (wrap64 (by omega) (by omega))))) (all_cons (q_run (.int .i64 ((py : Nat) : Int)) rfl rfl (wv_n rfl) rfl (fun _ _ hρ _ => r_move (hρ _ _ rfl))) (all_cons (q_run (.int .i64 dy) rfl rfl (wv_n rfl) rfl (fun _ _ hρ hm => r_load ag3 (hρ _ _ rfl) (hm.old hdy) rfl)) (all_cons (q_run (.int .i64 (((py : Nat) : Int) + dy)) rfl rfl (wv_n rfl) rfl (fun _ _ hρ _ => r_as (r_add (hρ _ _ rfl) (hρ _ _ rfl)) (int_as (wrap64 (by omega) (by omega))))) (all_cons (q_run (.int .i64 (((px : Nat) : Int) + dx)) rfl rfl (wv_n rfl) rfl (fun _ _ hρ _ => r_assign (hρ _ _ rfl))) (all_cons (q_run (.int .i64 (((py : Nat) : Int) + dy)) rfl rfl (wv_n rfl) rfl (fun _ _ hρ _ => r_assign (hρ _ _ rfl))) all_nil))))))))) (end_new 6 rfl rfl (end_new 7 rfl rfl end_nil)) ?_
  refine T_ret' ?_
  refine ret_of rfl (.tuple #[.int .i64 (((px : Nat) : Int) + dx), .int .i64 (((py : Nat) : Int) + dy)]) (fun tmps w hk hm => res2 rfl (res_tmp (hk 6 _ rfl)) (res_tmp (hk 7 _ rfl))) (fun w hm => ?_)
  exact ⟨rfl, hm.ext⟩

theorem shift_c (l : List C4) (dx dy : Int) (c : C4) (w : World) (hl : l.length = 64) : Calls Try.prog 25 #[til l, .int .i64 dx, .int .i64 dy, c.v] w fun e w' => e = .returned (til (shiftL l c dx dy)) ∧ Below w.heap.size w w' := by
  refine calls_of_T (l := [.agg (lst C4.cells l), .int .i64 dx, .int .i64 dy, .agg #[.int .u8 c.r, .int .u8 c.g, .int .u8 c.b, .int .u8 c.a]]) 19 Try.func25 rfl rfl rfl ?_
  show T _ _ _ [(0, .agg (lst C4.cells l)), (1, .int .i64 dx), (2, .int .i64 dy), (3, .agg #[.int .u8 c.r, .int .u8 c.g, .int .u8 c.b, .int .u8 c.a])] []
  refine T_seq (T_region ?_)
  refine TL_new 1 (.cells (lst C4.cells l) 25) (fun B => .pointer (some ⟨B, 0, none⟩)) (fun _ _ hρ _ => r_box (hρ _ _ rfl) rfl) rfl rfl rfl (w_n rfl) ?_
  intro B1
  refine TL_new 2 (.cells #[.int .i64 dx] 3) (fun B => .pointer (some ⟨B, 0, none⟩)) (fun _ _ hρ _ => r_box (hρ _ _ rfl) rfl) rfl rfl rfl (w_n rfl) ?_
  intro B2
  refine TL_new 3 (.cells #[.int .i64 dy] 3) (fun B => .pointer (some ⟨B, 0, none⟩)) (fun _ _ hρ _ => r_box (hρ _ _ rfl) rfl) rfl rfl rfl (w_n rfl) ?_
  intro B3
  refine TL_new 4 (.cells #[.int .u8 c.r, .int .u8 c.g, .int .u8 c.b, .int .u8 c.a] 23) (fun B => .pointer (some ⟨B, 0, none⟩)) (fun _ _ hρ _ => r_box (hρ _ _ rfl) rfl) rfl rfl rfl (w_n rfl) ?_
  intro B4
  refine TL_new 5 (.cells (lst C4.cells zero64) 25) (fun B => .pointer (some ⟨B, 0, none⟩)) (fun _ _ _ _ => r_alloc (v := .agg (lst C4.cells zero64)) (by kernel_rfl) rfl) rfl rfl rfl (w_n rfl) ?_
  intro B5
  refine TL_seq ?_
  refine T_seq (T_draw (V := [(0, .int .i64 dx), (1, .int .i64 (if dx < -8 then -8 else dx)), (2, .int .i64 (clamp dx)), (3, .int .i64 dy), (4, .int .i64 (if dy < -8 then -8 else dy)), (5, .int .i64 (clamp dy))]) [0, 1, 3, 0, 8, 24, 7, 127] [[(5, none)], [(9, some 0)], [(10, some 1)], [(6, none)], [(12, some 3)], [(13, some 4)], [(5, none), (11, some 2)], [(6, none), (14, some 5)]] 192 mixed (by kernel_rfl) ?_)
  refine G_step [0, 1, 2, 3, 4, 5] 6 [] (by kernel_rfl) (allM (all_cons (q_run (.int .i64 dx) rfl rfl (wv_n rfl) rfl (fun _ _ hρ hm => r_load ag3 (hρ _ _ rfl) (hm.at 2 rfl) rfl)) (all_cons (q_run (.int .i64 (if dx < -8 then -8 else dx)) rfl rfl (wv_n rfl) rfl (fun _ _ hρ _ => r_max (hρ _ _ rfl) (hρ _ _ rfl))) (all_cons (q_run (.int .i64 (clamp dx)) rfl rfl (wv_n rfl) rfl (fun _ _ hρ _ => r_as (r_min (hρ _ _ rfl) (hρ _ _ rfl)) rfl)) (all_cons (q_run (.int .i64 dy) rfl rfl (wv_n rfl) rfl (fun _ _ hρ hm => r_load ag3 (hρ _ _ rfl) (hm.at 3 rfl) rfl)) (all_cons (q_run (.int .i64 (if dy < -8 then -8 else dy)) rfl rfl (wv_n rfl) rfl (fun _ _ hρ _ => r_max (hρ _ _ rfl) (hρ _ _ rfl))) (all_cons (q_run (.int .i64 (clamp dy)) rfl rfl (wv_n rfl) rfl (fun _ _ hρ _ => r_as (r_min (hρ _ _ rfl) (hρ _ _ rfl)) rfl)) all_nil))))))) (allM (all_cons ?_ all_nil))
  refine LOb_store 2 (.cells #[.int .i64 (clamp dx)] 3) [] rfl (wv_n rfl) rfl rfl rfl (fun _ _ hρ hm => r_store sz3 (hρ _ _ rfl) (hρ _ _ rfl) (hm.at 2 rfl) rfl rfl rfl rfl) (by kernel_rfl) ?_
  refine G_step [3, 4, 5] 7 [] (by kernel_rfl) (allM (all_cons (q_run (.int .i64 dy) rfl rfl (wv_n rfl) rfl (fun _ _ hρ hm => r_load ag3 (hρ _ _ rfl) (hm.at 3 rfl) rfl)) (all_cons (q_run (.int .i64 (if dy < -8 then -8 else dy)) rfl rfl (wv_n rfl) rfl (fun _ _ hρ _ => r_max (hρ _ _ rfl) (hρ _ _ rfl))) (all_cons (q_run (.int .i64 (clamp dy)) rfl rfl (wv_n rfl) rfl (fun _ _ hρ _ => r_as (r_min (hρ _ _ rfl) (hρ _ _ rfl)) rfl)) all_nil)))) (allM (all_cons ?_ all_nil))
  refine LOb_store 3 (.cells #[.int .i64 (clamp dy)] 3) [] rfl (wv_n rfl) rfl rfl rfl (fun _ _ hρ hm => r_store sz3 (hρ _ _ rfl) (hρ _ _ rfl) (hm.at 3 rfl) rfl rfl rfl rfl) (by kernel_rfl) ?_
  refine G_last [] [(4, .pointer (some ⟨B1, 0, none⟩)), (5, .pointer (some ⟨B2, 0, none⟩)), (6, .pointer (some ⟨B3, 0, none⟩)), (7, .pointer (some ⟨B4, 0, none⟩)), (8, .pointer (some ⟨B5, 0, none⟩))] (by kernel_rfl) (allM all_nil) (end_old rfl rfl (end_old rfl rfl (end_old rfl rfl (end_old rfl rfl (end_old rfl rfl end_nil))))) ?_
  refine T_seq (T_region ?_)
  refine TL_q (.agg (lst C4.cells l)) (fun _ _ hρ hm => r_loadW ag25 sz25 (hρ _ _ rfl) (hm.at 1 rfl) (tsz hl)) rfl rfl rfl (w_n rfl) ?_
  refine TL_q (.agg #[.int .u8 c.r, .int .u8 c.g, .int .u8 c.b, .int .u8 c.a]) (fun _ _ hρ hm => r_loadA ag23 sz23 (hρ _ _ rfl) (hm.at 4 rfl) rfl rfl) rfl rfl rfl (w_n rfl) ?_
  refine TL_q (.func (.func 45) #[] #[.pointer (some ⟨B2, 0, none⟩), .pointer (some ⟨B3, 0, none⟩)]) (fun _ _ hρ _ => r_makeFunc (by simp) (map_arr (cons2 (hρ _ _ rfl) (cons2 (hρ _ _ rfl) rfl)))) rfl rfl rfl (w_n rfl) ?_
  refine TL_call (.agg (lst C4.cells (movedL (shiftF (clamp dx) (clamp dy)) l c))) (fun _ _ hρ _ => r_call (args := [.agg (lst C4.cells l), .agg #[.int .u8 c.r, .int .u8 c.g, .int .u8 c.b, .int .u8 c.a], .func (.func 45) #[] #[.pointer (some ⟨B2, 0, none⟩), .pointer (some ⟨B3, 0, none⟩)]]) (enters_of Try.func41 (by kernel_rfl) rfl) (hρ _ _ rfl) ((cons2 (hρ _ _ rfl) (cons2 (hρ _ _ rfl) (cons2 (hρ _ _ rfl) rfl)))) rfl) (fun w hm => moved_c l c 45 #[.pointer (some ⟨B2, 0, none⟩), .pointer (some ⟨B3, 0, none⟩)] (shiftF (clamp dx) (clamp dy)) w hl (enters_of Try.func45 (by kernel_rfl) rfl) (fun w' hb px py hx hy => shift1_c px py (clamp dx) (clamp dy) B2 B3 w' hx hy (clamp_bd dx) (clamp_bd dy) ((hm.below hb).at 2 rfl) ((hm.below hb).at 3 rfl))) rfl rfl rfl (w_n rfl) ?_
  refine TL_store 5 (.cells (lst C4.cells (movedL (shiftF (clamp dx) (clamp dy)) l c)) 25) rfl (fun _ _ hρ hm => r_storeAll sz25 (hρ _ _ rfl) (hρ _ _ rfl) (hm.at 5 rfl) (tsz zero64_len) (tsz (movedL_len _ _ _)) (lst_one C4.cells_all _)) rfl rfl (w_n rfl) ?_
  refine TL_seq ?_
  refine T_ret' ?_
  refine ret_of rfl (.agg (lst C4.cells (movedL (shiftF (clamp dx) (clamp dy)) l c))) (fun tmps w hk hm => res1 rfl (res_cell (hk 8 _ rfl) (run_loadVar_agg ag25 sz25 (hm.at 5 rfl) (le64 (movedL_len _ _ _)) (ex64 (movedL_len _ _ _))))) (fun w hm => ?_)
  exact ⟨rfl, hm.ext⟩

set_option maxHeartbeats 4000000 in
theorem shift_ref (l : List C4) (dx dy : Int) (c : C4) (w : World) (hl : l.length = 64) : Calls Try.prog 26 #[til l, .int .i64 dx, .int .i64 dy, c.v] w fun e w' => e = .returned (til (shiftL l c dx dy)) ∧ Below w.heap.size w w' := by
  refine calls_of_T (l := [.agg (lst C4.cells l), .int .i64 dx, .int .i64 dy, .agg #[.int .u8 c.r, .int .u8 c.g, .int .u8 c.b, .int .u8 c.a]]) 58 Try.func26 rfl rfl rfl ?_
  show T _ _ _ [(0, .agg (lst C4.cells l)), (1, .int .i64 dx), (2, .int .i64 dy), (3, .agg #[.int .u8 c.r, .int .u8 c.g, .int .u8 c.b, .int .u8 c.a])] []
  refine T_seq (T_region ?_)
  refine TL_new 1 (.cells (lst C4.cells l) 25) (fun B => .pointer (some ⟨B, 0, none⟩)) (fun _ _ hρ _ => r_box (hρ _ _ rfl) rfl) rfl rfl rfl (w_n rfl) ?_
  intro B1
  refine TL_new 2 (.cells #[.int .u8 c.r, .int .u8 c.g, .int .u8 c.b, .int .u8 c.a] 23) (fun B => .pointer (some ⟨B, 0, none⟩)) (fun _ _ hρ _ => r_box (hρ _ _ rfl) rfl) rfl rfl rfl (w_n rfl) ?_
  intro B2
  refine TL_new 3 (.cells (lst C4.cells zero64) 25) (fun B => .pointer (some ⟨B, 0, none⟩)) (fun _ _ _ _ => r_alloc (v := .agg (lst C4.cells zero64)) (by kernel_rfl) rfl) rfl rfl rfl (w_n rfl) ?_
  intro B3
  refine TL_seq ?_
  refine T_seq (T_region ?_)
  refine TL_q (.agg #[.int .u8 c.r, .int .u8 c.g, .int .u8 c.b, .int .u8 c.a]) (fun _ _ hρ hm => r_loadA ag23 sz23 (hρ _ _ rfl) (hm.at 2 rfl) rfl rfl) rfl rfl rfl (w_n rfl) ?_
  refine TL_call (.agg (lst C4.cells (newL c))) (fun _ _ hρ _ => r_call (args := [.agg #[.int .u8 c.r, .int .u8 c.g, .int .u8 c.b, .int .u8 c.a]]) (enters_of Try.func32 (by kernel_rfl) rfl) (hρ _ _ rfl) ((cons2 (hρ _ _ rfl) rfl)) rfl) (fun w _ => new_ref c w) rfl rfl rfl (w_n rfl) ?_
  refine TL_new 4 (.cells (lst C4.cells zero64) 25) (fun B => .pointer (some ⟨B, 0, none⟩)) (fun _ _ _ _ => r_alloc (v := .agg (lst C4.cells zero64)) (by kernel_rfl) rfl) rfl rfl rfl (w_n rfl) ?_
  intro B4
  refine TL_store 4 (.cells (lst C4.cells (newL c)) 25) rfl (fun _ _ hρ hm => r_storeAll sz25 (hρ _ _ rfl) (hρ _ _ rfl) (hm.at 4 rfl) (tsz zero64_len) (tsz (newL_len _)) (lst_one C4.cells_all _)) rfl rfl (w_n rfl) ?_
  refine TL_seq ?_
  refine T_seq ?_
  by_cases c1 : dx < -8
  · skip
    by_cases c2 : (8 : Int) < dx
    · skip
      by_cases c3 : dy < -8
      · skip
        by_cases c4 : (8 : Int) < dy
        · skip
          refine T_seq (T_region ?_)
          refine TL_q (.int .i64 dx) (fun _ _ hρ _ => r_move (hρ _ _ rfl)) rfl rfl rfl (w_n rfl) ?_
          refine TL_q (.bool true) (fun _ _ hρ _ => r_as (r_lss (hρ _ _ rfl) (hρ _ _ rfl)) (bool_as (decide_eq_true c1))) rfl rfl rfl (w_n rfl) ?_
          refine TL_q (.bool true) (fun _ _ hρ _ => r_move (hρ _ _ rfl)) rfl rfl rfl (w_n rfl) ?_
          refine TL_no rfl rfl (want_n 16 rfl rfl rfl) ?_
          refine TL_no rfl rfl (want_n 16 rfl rfl rfl) ?_
          refine TL_q (.bool true) (fun _ _ hρ _ => r_pick_t (hρ _ _ rfl) (hρ _ _ rfl)) rfl rfl rfl (w_n rfl) ?_
          refine TL_q (.bool true) (fun _ _ hρ _ => r_move (hρ _ _ rfl)) rfl rfl rfl (w_n rfl) ?_
          refine TL_no rfl rfl (want_n 20 rfl rfl rfl) ?_
          refine TL_no rfl rfl (want_n 20 rfl rfl rfl) ?_
          refine TL_q (.bool true) (fun _ _ hρ _ => r_pick_t (hρ _ _ rfl) (hρ _ _ rfl)) rfl rfl rfl (w_n rfl) ?_
          refine TL_q (.bool true) (fun _ _ hρ _ => r_move (hρ _ _ rfl)) rfl rfl rfl (w_n rfl) ?_
          refine TL_no rfl rfl (want_n 24 rfl rfl rfl) ?_
          refine TL_no rfl rfl (want_n 24 rfl rfl rfl) ?_
          refine TL_q (.bool true) (fun _ _ hρ _ => r_pick_t (hρ _ _ rfl) (hρ _ _ rfl)) rfl rfl rfl (w_n rfl) ?_
          refine TL_seq ?_
          refine T_cond_t rfl ?_
          refine T_seq (T_region ?_)
          refine TL_q (.agg (lst C4.cells (newL c))) (fun _ _ hρ hm => r_loadW ag25 sz25 (hρ _ _ rfl) (hm.at 4 rfl) (tsz (newL_len _))) rfl rfl rfl (w_n rfl) ?_
          refine TL_store 3 (.cells (lst C4.cells (newL c)) 25) rfl (fun _ _ hρ hm => r_storeAll sz25 (hρ _ _ rfl) (hρ _ _ rfl) (hm.at 3 rfl) (tsz zero64_len) (tsz (newL_len _)) (lst_one C4.cells_all _)) rfl rfl (w_n rfl) ?_
          refine TL_seq ?_
          refine T_ret' ?_
          refine p_then_r ?_
          refine ret_of rfl (.agg (lst C4.cells (newL c))) (fun tmps w hk hm => res1 rfl (res_cell (hk 8 _ rfl) (run_loadVar_agg ag25 sz25 (hm.at 3 rfl) (le64 (newL_len _)) (ex64 (newL_len _))))) (fun w hm => ?_)
          exact ⟨by rw [shift_far l c dx dy (by omega)], hm.ext⟩
        · skip
          refine T_seq (T_region ?_)
          refine TL_q (.int .i64 dx) (fun _ _ hρ _ => r_move (hρ _ _ rfl)) rfl rfl rfl (w_n rfl) ?_
          refine TL_q (.bool true) (fun _ _ hρ _ => r_as (r_lss (hρ _ _ rfl) (hρ _ _ rfl)) (bool_as (decide_eq_true c1))) rfl rfl rfl (w_n rfl) ?_
          refine TL_q (.bool true) (fun _ _ hρ _ => r_move (hρ _ _ rfl)) rfl rfl rfl (w_n rfl) ?_
          refine TL_no rfl rfl (want_n 16 rfl rfl rfl) ?_
          refine TL_no rfl rfl (want_n 16 rfl rfl rfl) ?_
          refine TL_q (.bool true) (fun _ _ hρ _ => r_pick_t (hρ _ _ rfl) (hρ _ _ rfl)) rfl rfl rfl (w_n rfl) ?_
          refine TL_q (.bool true) (fun _ _ hρ _ => r_move (hρ _ _ rfl)) rfl rfl rfl (w_n rfl) ?_
          refine TL_no rfl rfl (want_n 20 rfl rfl rfl) ?_
          refine TL_no rfl rfl (want_n 20 rfl rfl rfl) ?_
          refine TL_q (.bool true) (fun _ _ hρ _ => r_pick_t (hρ _ _ rfl) (hρ _ _ rfl)) rfl rfl rfl (w_n rfl) ?_
          refine TL_q (.bool true) (fun _ _ hρ _ => r_move (hρ _ _ rfl)) rfl rfl rfl (w_n rfl) ?_
          refine TL_no rfl rfl (want_n 24 rfl rfl rfl) ?_
          refine TL_no rfl rfl (want_n 24 rfl rfl rfl) ?_
          refine TL_q (.bool true) (fun _ _ hρ _ => r_pick_t (hρ _ _ rfl) (hρ _ _ rfl)) rfl rfl rfl (w_n rfl) ?_
          refine TL_seq ?_
          refine T_cond_t rfl ?_
          refine T_seq (T_region ?_)
          refine TL_q (.agg (lst C4.cells (newL c))) (fun _ _ hρ hm => r_loadW ag25 sz25 (hρ _ _ rfl) (hm.at 4 rfl) (tsz (newL_len _))) rfl rfl rfl (w_n rfl) ?_
          refine TL_store 3 (.cells (lst C4.cells (newL c)) 25) rfl (fun _ _ hρ hm => r_storeAll sz25 (hρ _ _ rfl) (hρ _ _ rfl) (hm.at 3 rfl) (tsz zero64_len) (tsz (newL_len _)) (lst_one C4.cells_all _)) rfl rfl (w_n rfl) ?_
          refine TL_seq ?_
          refine T_ret' ?_
          refine p_then_r ?_
          refine ret_of rfl (.agg (lst C4.cells (newL c))) (fun tmps w hk hm => res1 rfl (res_cell (hk 8 _ rfl) (run_loadVar_agg ag25 sz25 (hm.at 3 rfl) (le64 (newL_len _)) (ex64 (newL_len _))))) (fun w hm => ?_)
          exact ⟨by rw [shift_far l c dx dy (by omega)], hm.ext⟩
      · skip
        by_cases c4 : (8 : Int) < dy
        · skip
          refine T_seq (T_region ?_)
          refine TL_q (.int .i64 dx) (fun _ _ hρ _ => r_move (hρ _ _ rfl)) rfl rfl rfl (w_n rfl) ?_
          refine TL_q (.bool true) (fun _ _ hρ _ => r_as (r_lss (hρ _ _ rfl) (hρ _ _ rfl)) (bool_as (decide_eq_true c1))) rfl rfl rfl (w_n rfl) ?_
          refine TL_q (.bool true) (fun _ _ hρ _ => r_move (hρ _ _ rfl)) rfl rfl rfl (w_n rfl) ?_
          refine TL_no rfl rfl (want_n 16 rfl rfl rfl) ?_
          refine TL_no rfl rfl (want_n 16 rfl rfl rfl) ?_
          refine TL_q (.bool true) (fun _ _ hρ _ => r_pick_t (hρ _ _ rfl) (hρ _ _ rfl)) rfl rfl rfl (w_n rfl) ?_
          refine TL_q (.bool true) (fun _ _ hρ _ => r_move (hρ _ _ rfl)) rfl rfl rfl (w_n rfl) ?_
          refine TL_no rfl rfl (want_n 20 rfl rfl rfl) ?_
          refine TL_no rfl rfl (want_n 20 rfl rfl rfl) ?_
          refine TL_q (.bool true) (fun _ _ hρ _ => r_pick_t (hρ _ _ rfl) (hρ _ _ rfl)) rfl rfl rfl (w_n rfl) ?_
          refine TL_q (.bool true) (fun _ _ hρ _ => r_move (hρ _ _ rfl)) rfl rfl rfl (w_n rfl) ?_
          refine TL_no rfl rfl (want_n 24 rfl rfl rfl) ?_
          refine TL_no rfl rfl (want_n 24 rfl rfl rfl) ?_
          refine TL_q (.bool true) (fun _ _ hρ _ => r_pick_t (hρ _ _ rfl) (hρ _ _ rfl)) rfl rfl rfl (w_n rfl) ?_
          refine TL_seq ?_
          refine T_cond_t rfl ?_
          refine T_seq (T_region ?_)
          refine TL_q (.agg (lst C4.cells (newL c))) (fun _ _ hρ hm => r_loadW ag25 sz25 (hρ _ _ rfl) (hm.at 4 rfl) (tsz (newL_len _))) rfl rfl rfl (w_n rfl) ?_
          refine TL_store 3 (.cells (lst C4.cells (newL c)) 25) rfl (fun _ _ hρ hm => r_storeAll sz25 (hρ _ _ rfl) (hρ _ _ rfl) (hm.at 3 rfl) (tsz zero64_len) (tsz (newL_len _)) (lst_one C4.cells_all _)) rfl rfl (w_n rfl) ?_
          refine TL_seq ?_
          refine T_ret' ?_
          refine p_then_r ?_
          refine ret_of rfl (.agg (lst C4.cells (newL c))) (fun tmps w hk hm => res1 rfl (res_cell (hk 8 _ rfl) (run_loadVar_agg ag25 sz25 (hm.at 3 rfl) (le64 (newL_len _)) (ex64 (newL_len _))))) (fun w hm => ?_)
          exact ⟨by rw [shift_far l c dx dy (by omega)], hm.ext⟩
        · skip
          refine T_seq (T_region ?_)
          refine TL_q (.int .i64 dx) (fun _ _ hρ _ => r_move (hρ _ _ rfl)) rfl rfl rfl (w_n rfl) ?_
          refine TL_q (.bool true) (fun _ _ hρ _ => r_as (r_lss (hρ _ _ rfl) (hρ _ _ rfl)) (bool_as (decide_eq_true c1))) rfl rfl rfl (w_n rfl) ?_
          refine TL_q (.bool true) (fun _ _ hρ _ => r_move (hρ _ _ rfl)) rfl rfl rfl (w_n rfl) ?_
          refine TL_no rfl rfl (want_n 16 rfl rfl rfl) ?_
          refine TL_no rfl rfl (want_n 16 rfl rfl rfl) ?_
          refine TL_q (.bool true) (fun _ _ hρ _ => r_pick_t (hρ _ _ rfl) (hρ _ _ rfl)) rfl rfl rfl (w_n rfl) ?_
          refine TL_q (.bool true) (fun _ _ hρ _ => r_move (hρ _ _ rfl)) rfl rfl rfl (w_n rfl) ?_
          refine TL_no rfl rfl (want_n 20 rfl rfl rfl) ?_
          refine TL_no rfl rfl (want_n 20 rfl rfl rfl) ?_
          refine TL_q (.bool true) (fun _ _ hρ _ => r_pick_t (hρ _ _ rfl) (hρ _ _ rfl)) rfl rfl rfl (w_n rfl) ?_
          refine TL_q (.bool true) (fun _ _ hρ _ => r_move (hρ _ _ rfl)) rfl rfl rfl (w_n rfl) ?_
          refine TL_no rfl rfl (want_n 24 rfl rfl rfl) ?_
          refine TL_no rfl rfl (want_n 24 rfl rfl rfl) ?_
          refine TL_q (.bool true) (fun _ _ hρ _ => r_pick_t (hρ _ _ rfl) (hρ _ _ rfl)) rfl rfl rfl (w_n rfl) ?_
          refine TL_seq ?_
          refine T_cond_t rfl ?_
          refine T_seq (T_region ?_)
          refine TL_q (.agg (lst C4.cells (newL c))) (fun _ _ hρ hm => r_loadW ag25 sz25 (hρ _ _ rfl) (hm.at 4 rfl) (tsz (newL_len _))) rfl rfl rfl (w_n rfl) ?_
          refine TL_store 3 (.cells (lst C4.cells (newL c)) 25) rfl (fun _ _ hρ hm => r_storeAll sz25 (hρ _ _ rfl) (hρ _ _ rfl) (hm.at 3 rfl) (tsz zero64_len) (tsz (newL_len _)) (lst_one C4.cells_all _)) rfl rfl (w_n rfl) ?_
          refine TL_seq ?_
          refine T_ret' ?_
          refine p_then_r ?_
          refine ret_of rfl (.agg (lst C4.cells (newL c))) (fun tmps w hk hm => res1 rfl (res_cell (hk 8 _ rfl) (run_loadVar_agg ag25 sz25 (hm.at 3 rfl) (le64 (newL_len _)) (ex64 (newL_len _))))) (fun w hm => ?_)
          exact ⟨by rw [shift_far l c dx dy (by omega)], hm.ext⟩
    · skip
      by_cases c3 : dy < -8
      · skip
        by_cases c4 : (8 : Int) < dy
        · skip
          refine T_seq (T_region ?_)
          refine TL_q (.int .i64 dx) (fun _ _ hρ _ => r_move (hρ _ _ rfl)) rfl rfl rfl (w_n rfl) ?_
          refine TL_q (.bool true) (fun _ _ hρ _ => r_as (r_lss (hρ _ _ rfl) (hρ _ _ rfl)) (bool_as (decide_eq_true c1))) rfl rfl rfl (w_n rfl) ?_
          refine TL_q (.bool true) (fun _ _ hρ _ => r_move (hρ _ _ rfl)) rfl rfl rfl (w_n rfl) ?_
          refine TL_no rfl rfl (want_n 16 rfl rfl rfl) ?_
          refine TL_no rfl rfl (want_n 16 rfl rfl rfl) ?_
          refine TL_q (.bool true) (fun _ _ hρ _ => r_pick_t (hρ _ _ rfl) (hρ _ _ rfl)) rfl rfl rfl (w_n rfl) ?_
          refine TL_q (.bool true) (fun _ _ hρ _ => r_move (hρ _ _ rfl)) rfl rfl rfl (w_n rfl) ?_
          refine TL_no rfl rfl (want_n 20 rfl rfl rfl) ?_
          refine TL_no rfl rfl (want_n 20 rfl rfl rfl) ?_
          refine TL_q (.bool true) (fun _ _ hρ _ => r_pick_t (hρ _ _ rfl) (hρ _ _ rfl)) rfl rfl rfl (w_n rfl) ?_
          refine TL_q (.bool true) (fun _ _ hρ _ => r_move (hρ _ _ rfl)) rfl rfl rfl (w_n rfl) ?_
          refine TL_no rfl rfl (want_n 24 rfl rfl rfl) ?_
          refine TL_no rfl rfl (want_n 24 rfl rfl rfl) ?_
          refine TL_q (.bool true) (fun _ _ hρ _ => r_pick_t (hρ _ _ rfl) (hρ _ _ rfl)) rfl rfl rfl (w_n rfl) ?_
          refine TL_seq ?_
          refine T_cond_t rfl ?_
          refine T_seq (T_region ?_)
          refine TL_q (.agg (lst C4.cells (newL c))) (fun _ _ hρ hm => r_loadW ag25 sz25 (hρ _ _ rfl) (hm.at 4 rfl) (tsz (newL_len _))) rfl rfl rfl (w_n rfl) ?_
          refine TL_store 3 (.cells (lst C4.cells (newL c)) 25) rfl (fun _ _ hρ hm => r_storeAll sz25 (hρ _ _ rfl) (hρ _ _ rfl) (hm.at 3 rfl) (tsz zero64_len) (tsz (newL_len _)) (lst_one C4.cells_all _)) rfl rfl (w_n rfl) ?_
          refine TL_seq ?_
          refine T_ret' ?_
          refine p_then_r ?_
          refine ret_of rfl (.agg (lst C4.cells (newL c))) (fun tmps w hk hm => res1 rfl (res_cell (hk 8 _ rfl) (run_loadVar_agg ag25 sz25 (hm.at 3 rfl) (le64 (newL_len _)) (ex64 (newL_len _))))) (fun w hm => ?_)
          exact ⟨by rw [shift_far l c dx dy (by omega)], hm.ext⟩
        · skip
          refine T_seq (T_region ?_)
          refine TL_q (.int .i64 dx) (fun _ _ hρ _ => r_move (hρ _ _ rfl)) rfl rfl rfl (w_n rfl) ?_
          refine TL_q (.bool true) (fun _ _ hρ _ => r_as (r_lss (hρ _ _ rfl) (hρ _ _ rfl)) (bool_as (decide_eq_true c1))) rfl rfl rfl (w_n rfl) ?_
          refine TL_q (.bool true) (fun _ _ hρ _ => r_move (hρ _ _ rfl)) rfl rfl rfl (w_n rfl) ?_
          refine TL_no rfl rfl (want_n 16 rfl rfl rfl) ?_
          refine TL_no rfl rfl (want_n 16 rfl rfl rfl) ?_
          refine TL_q (.bool true) (fun _ _ hρ _ => r_pick_t (hρ _ _ rfl) (hρ _ _ rfl)) rfl rfl rfl (w_n rfl) ?_
          refine TL_q (.bool true) (fun _ _ hρ _ => r_move (hρ _ _ rfl)) rfl rfl rfl (w_n rfl) ?_
          refine TL_no rfl rfl (want_n 20 rfl rfl rfl) ?_
          refine TL_no rfl rfl (want_n 20 rfl rfl rfl) ?_
          refine TL_q (.bool true) (fun _ _ hρ _ => r_pick_t (hρ _ _ rfl) (hρ _ _ rfl)) rfl rfl rfl (w_n rfl) ?_
          refine TL_q (.bool true) (fun _ _ hρ _ => r_move (hρ _ _ rfl)) rfl rfl rfl (w_n rfl) ?_
          refine TL_no rfl rfl (want_n 24 rfl rfl rfl) ?_
          refine TL_no rfl rfl (want_n 24 rfl rfl rfl) ?_
          refine TL_q (.bool true) (fun _ _ hρ _ => r_pick_t (hρ _ _ rfl) (hρ _ _ rfl)) rfl rfl rfl (w_n rfl) ?_
          refine TL_seq ?_
          refine T_cond_t rfl ?_
          refine T_seq (T_region ?_)
          refine TL_q (.agg (lst C4.cells (newL c))) (fun _ _ hρ hm => r_loadW ag25 sz25 (hρ _ _ rfl) (hm.at 4 rfl) (tsz (newL_len _))) rfl rfl rfl (w_n rfl) ?_
          refine TL_store 3 (.cells (lst C4.cells (newL c)) 25) rfl (fun _ _ hρ hm => r_storeAll sz25 (hρ _ _ rfl) (hρ _ _ rfl) (hm.at 3 rfl) (tsz zero64_len) (tsz (newL_len _)) (lst_one C4.cells_all _)) rfl rfl (w_n rfl) ?_
          refine TL_seq ?_
          refine T_ret' ?_
          refine p_then_r ?_
          refine ret_of rfl (.agg (lst C4.cells (newL c))) (fun tmps w hk hm => res1 rfl (res_cell (hk 8 _ rfl) (run_loadVar_agg ag25 sz25 (hm.at 3 rfl) (le64 (newL_len _)) (ex64 (newL_len _))))) (fun w hm => ?_)
          exact ⟨by rw [shift_far l c dx dy (by omega)], hm.ext⟩
      · skip
        by_cases c4 : (8 : Int) < dy
        · skip
          refine T_seq (T_region ?_)
          refine TL_q (.int .i64 dx) (fun _ _ hρ _ => r_move (hρ _ _ rfl)) rfl rfl rfl (w_n rfl) ?_
          refine TL_q (.bool true) (fun _ _ hρ _ => r_as (r_lss (hρ _ _ rfl) (hρ _ _ rfl)) (bool_as (decide_eq_true c1))) rfl rfl rfl (w_n rfl) ?_
          refine TL_q (.bool true) (fun _ _ hρ _ => r_move (hρ _ _ rfl)) rfl rfl rfl (w_n rfl) ?_
          refine TL_no rfl rfl (want_n 16 rfl rfl rfl) ?_
          refine TL_no rfl rfl (want_n 16 rfl rfl rfl) ?_
          refine TL_q (.bool true) (fun _ _ hρ _ => r_pick_t (hρ _ _ rfl) (hρ _ _ rfl)) rfl rfl rfl (w_n rfl) ?_
          refine TL_q (.bool true) (fun _ _ hρ _ => r_move (hρ _ _ rfl)) rfl rfl rfl (w_n rfl) ?_
          refine TL_no rfl rfl (want_n 20 rfl rfl rfl) ?_
          refine TL_no rfl rfl (want_n 20 rfl rfl rfl) ?_
          refine TL_q (.bool true) (fun _ _ hρ _ => r_pick_t (hρ _ _ rfl) (hρ _ _ rfl)) rfl rfl rfl (w_n rfl) ?_
          refine TL_q (.bool true) (fun _ _ hρ _ => r_move (hρ _ _ rfl)) rfl rfl rfl (w_n rfl) ?_
          refine TL_no rfl rfl (want_n 24 rfl rfl rfl) ?_
          refine TL_no rfl rfl (want_n 24 rfl rfl rfl) ?_
          refine TL_q (.bool true) (fun _ _ hρ _ => r_pick_t (hρ _ _ rfl) (hρ _ _ rfl)) rfl rfl rfl (w_n rfl) ?_
          refine TL_seq ?_
          refine T_cond_t rfl ?_
          refine T_seq (T_region ?_)
          refine TL_q (.agg (lst C4.cells (newL c))) (fun _ _ hρ hm => r_loadW ag25 sz25 (hρ _ _ rfl) (hm.at 4 rfl) (tsz (newL_len _))) rfl rfl rfl (w_n rfl) ?_
          refine TL_store 3 (.cells (lst C4.cells (newL c)) 25) rfl (fun _ _ hρ hm => r_storeAll sz25 (hρ _ _ rfl) (hρ _ _ rfl) (hm.at 3 rfl) (tsz zero64_len) (tsz (newL_len _)) (lst_one C4.cells_all _)) rfl rfl (w_n rfl) ?_
          refine TL_seq ?_
          refine T_ret' ?_
          refine p_then_r ?_
          refine ret_of rfl (.agg (lst C4.cells (newL c))) (fun tmps w hk hm => res1 rfl (res_cell (hk 8 _ rfl) (run_loadVar_agg ag25 sz25 (hm.at 3 rfl) (le64 (newL_len _)) (ex64 (newL_len _))))) (fun w hm => ?_)
          exact ⟨by rw [shift_far l c dx dy (by omega)], hm.ext⟩
        · skip
          refine T_seq (T_region ?_)
          refine TL_q (.int .i64 dx) (fun _ _ hρ _ => r_move (hρ _ _ rfl)) rfl rfl rfl (w_n rfl) ?_
          refine TL_q (.bool true) (fun _ _ hρ _ => r_as (r_lss (hρ _ _ rfl) (hρ _ _ rfl)) (bool_as (decide_eq_true c1))) rfl rfl rfl (w_n rfl) ?_
          refine TL_q (.bool true) (fun _ _ hρ _ => r_move (hρ _ _ rfl)) rfl rfl rfl (w_n rfl) ?_
          refine TL_no rfl rfl (want_n 16 rfl rfl rfl) ?_
          refine TL_no rfl rfl (want_n 16 rfl rfl rfl) ?_
          refine TL_q (.bool true) (fun _ _ hρ _ => r_pick_t (hρ _ _ rfl) (hρ _ _ rfl)) rfl rfl rfl (w_n rfl) ?_
          refine TL_q (.bool true) (fun _ _ hρ _ => r_move (hρ _ _ rfl)) rfl rfl rfl (w_n rfl) ?_
          refine TL_no rfl rfl (want_n 20 rfl rfl rfl) ?_
          refine TL_no rfl rfl (want_n 20 rfl rfl rfl) ?_
          refine TL_q (.bool true) (fun _ _ hρ _ => r_pick_t (hρ _ _ rfl) (hρ _ _ rfl)) rfl rfl rfl (w_n rfl) ?_
          refine TL_q (.bool true) (fun _ _ hρ _ => r_move (hρ _ _ rfl)) rfl rfl rfl (w_n rfl) ?_
          refine TL_no rfl rfl (want_n 24 rfl rfl rfl) ?_
          refine TL_no rfl rfl (want_n 24 rfl rfl rfl) ?_
          refine TL_q (.bool true) (fun _ _ hρ _ => r_pick_t (hρ _ _ rfl) (hρ _ _ rfl)) rfl rfl rfl (w_n rfl) ?_
          refine TL_seq ?_
          refine T_cond_t rfl ?_
          refine T_seq (T_region ?_)
          refine TL_q (.agg (lst C4.cells (newL c))) (fun _ _ hρ hm => r_loadW ag25 sz25 (hρ _ _ rfl) (hm.at 4 rfl) (tsz (newL_len _))) rfl rfl rfl (w_n rfl) ?_
          refine TL_store 3 (.cells (lst C4.cells (newL c)) 25) rfl (fun _ _ hρ hm => r_storeAll sz25 (hρ _ _ rfl) (hρ _ _ rfl) (hm.at 3 rfl) (tsz zero64_len) (tsz (newL_len _)) (lst_one C4.cells_all _)) rfl rfl (w_n rfl) ?_
          refine TL_seq ?_
          refine T_ret' ?_
          refine p_then_r ?_
          refine ret_of rfl (.agg (lst C4.cells (newL c))) (fun tmps w hk hm => res1 rfl (res_cell (hk 8 _ rfl) (run_loadVar_agg ag25 sz25 (hm.at 3 rfl) (le64 (newL_len _)) (ex64 (newL_len _))))) (fun w hm => ?_)
          exact ⟨by rw [shift_far l c dx dy (by omega)], hm.ext⟩
  · skip
    by_cases c2 : (8 : Int) < dx
    · skip
      by_cases c3 : dy < -8
      · skip
        by_cases c4 : (8 : Int) < dy
        · skip
          refine T_seq (T_region ?_)
          refine TL_q (.int .i64 dx) (fun _ _ hρ _ => r_move (hρ _ _ rfl)) rfl rfl rfl (w_n rfl) ?_
          refine TL_q (.bool false) (fun _ _ hρ _ => r_as (r_lss (hρ _ _ rfl) (hρ _ _ rfl)) (bool_as (decide_eq_false c1))) rfl rfl rfl (w_n rfl) ?_
          refine TL_q (.bool false) (fun _ _ hρ _ => r_move (hρ _ _ rfl)) rfl rfl rfl (w_n rfl) ?_
          refine TL_q (.int .i64 dx) (fun _ _ hρ _ => r_move (hρ _ _ rfl)) rfl rfl rfl (want_y 16 rfl rfl rfl) ?_
          refine TL_q (.bool true) (fun _ _ hρ _ => r_as (r_gtr (hρ _ _ rfl) (hρ _ _ rfl)) (bool_as (decide_eq_true c2))) rfl rfl rfl (want_y 16 rfl rfl rfl) ?_
          refine TL_q (.bool true) (fun _ _ hρ _ => r_pick_f (hρ _ _ rfl) (hρ _ _ rfl)) rfl rfl rfl (w_n rfl) ?_
          refine TL_q (.bool true) (fun _ _ hρ _ => r_move (hρ _ _ rfl)) rfl rfl rfl (w_n rfl) ?_
          refine TL_no rfl rfl (want_n 20 rfl rfl rfl) ?_
          refine TL_no rfl rfl (want_n 20 rfl rfl rfl) ?_
          refine TL_q (.bool true) (fun _ _ hρ _ => r_pick_t (hρ _ _ rfl) (hρ _ _ rfl)) rfl rfl rfl (w_n rfl) ?_
          refine TL_q (.bool true) (fun _ _ hρ _ => r_move (hρ _ _ rfl)) rfl rfl rfl (w_n rfl) ?_
          refine TL_no rfl rfl (want_n 24 rfl rfl rfl) ?_
          refine TL_no rfl rfl (want_n 24 rfl rfl rfl) ?_
          refine TL_q (.bool true) (fun _ _ hρ _ => r_pick_t (hρ _ _ rfl) (hρ _ _ rfl)) rfl rfl rfl (w_n rfl) ?_
          refine TL_seq ?_
          refine T_cond_t rfl ?_
          refine T_seq (T_region ?_)
          refine TL_q (.agg (lst C4.cells (newL c))) (fun _ _ hρ hm => r_loadW ag25 sz25 (hρ _ _ rfl) (hm.at 4 rfl) (tsz (newL_len _))) rfl rfl rfl (w_n rfl) ?_
          refine TL_store 3 (.cells (lst C4.cells (newL c)) 25) rfl (fun _ _ hρ hm => r_storeAll sz25 (hρ _ _ rfl) (hρ _ _ rfl) (hm.at 3 rfl) (tsz zero64_len) (tsz (newL_len _)) (lst_one C4.cells_all _)) rfl rfl (w_n rfl) ?_
          refine TL_seq ?_
          refine T_ret' ?_
          refine p_then_r ?_
          refine ret_of rfl (.agg (lst C4.cells (newL c))) (fun tmps w hk hm => res1 rfl (res_cell (hk 8 _ rfl) (run_loadVar_agg ag25 sz25 (hm.at 3 rfl) (le64 (newL_len _)) (ex64 (newL_len _))))) (fun w hm => ?_)
          exact ⟨by rw [shift_far l c dx dy (by omega)], hm.ext⟩
        · skip
          refine T_seq (T_region ?_)
          refine TL_q (.int .i64 dx) (fun _ _ hρ _ => r_move (hρ _ _ rfl)) rfl rfl rfl (w_n rfl) ?_
          refine TL_q (.bool false) (fun _ _ hρ _ => r_as (r_lss (hρ _ _ rfl) (hρ _ _ rfl)) (bool_as (decide_eq_false c1))) rfl rfl rfl (w_n rfl) ?_
          refine TL_q (.bool false) (fun _ _ hρ _ => r_move (hρ _ _ rfl)) rfl rfl rfl (w_n rfl) ?_
          refine TL_q (.int .i64 dx) (fun _ _ hρ _ => r_move (hρ _ _ rfl)) rfl rfl rfl (want_y 16 rfl rfl rfl) ?_
          refine TL_q (.bool true) (fun _ _ hρ _ => r_as (r_gtr (hρ _ _ rfl) (hρ _ _ rfl)) (bool_as (decide_eq_true c2))) rfl rfl rfl (want_y 16 rfl rfl rfl) ?_
          refine TL_q (.bool true) (fun _ _ hρ _ => r_pick_f (hρ _ _ rfl) (hρ _ _ rfl)) rfl rfl rfl (w_n rfl) ?_
          refine TL_q (.bool true) (fun _ _ hρ _ => r_move (hρ _ _ rfl)) rfl rfl rfl (w_n rfl) ?_
          refine TL_no rfl rfl (want_n 20 rfl rfl rfl) ?_
          refine TL_no rfl rfl (want_n 20 rfl rfl rfl) ?_
          refine TL_q (.bool true) (fun _ _ hρ _ => r_pick_t (hρ _ _ rfl) (hρ _ _ rfl)) rfl rfl rfl (w_n rfl) ?_
          refine TL_q (.bool true) (fun _ _ hρ _ => r_move (hρ _ _ rfl)) rfl rfl rfl (w_n rfl) ?_
          refine TL_no rfl rfl (want_n 24 rfl rfl rfl) ?_
          refine TL_no rfl rfl (want_n 24 rfl rfl rfl) ?_
          refine TL_q (.bool true) (fun _ _ hρ _ => r_pick_t (hρ _ _ rfl) (hρ _ _ rfl)) rfl rfl rfl (w_n rfl) ?_
          refine TL_seq ?_
          refine T_cond_t rfl ?_
          refine T_seq (T_region ?_)
          refine TL_q (.agg (lst C4.cells (newL c))) (fun _ _ hρ hm => r_loadW ag25 sz25 (hρ _ _ rfl) (hm.at 4 rfl) (tsz (newL_len _))) rfl rfl rfl (w_n rfl) ?_
          refine TL_store 3 (.cells (lst C4.cells (newL c)) 25) rfl (fun _ _ hρ hm => r_storeAll sz25 (hρ _ _ rfl) (hρ _ _ rfl) (hm.at 3 rfl) (tsz zero64_len) (tsz (newL_len _)) (lst_one C4.cells_all _)) rfl rfl (w_n rfl) ?_
          refine TL_seq ?_
          refine T_ret' ?_
          refine p_then_r ?_
          refine ret_of rfl (.agg (lst C4.cells (newL c))) (fun tmps w hk hm => res1 rfl (res_cell (hk 8 _ rfl) (run_loadVar_agg ag25 sz25 (hm.at 3 rfl) (le64 (newL_len _)) (ex64 (newL_len _))))) (fun w hm => ?_)
          exact ⟨by rw [shift_far l c dx dy (by omega)], hm.ext⟩
      · skip
        by_cases c4 : (8 : Int) < dy
        · skip
          refine T_seq (T_region ?_)
          refine TL_q (.int .i64 dx) (fun _ _ hρ _ => r_move (hρ _ _ rfl)) rfl rfl rfl (w_n rfl) ?_
          refine TL_q (.bool false) (fun _ _ hρ _ => r_as (r_lss (hρ _ _ rfl) (hρ _ _ rfl)) (bool_as (decide_eq_false c1))) rfl rfl rfl (w_n rfl) ?_
          refine TL_q (.bool false) (fun _ _ hρ _ => r_move (hρ _ _ rfl)) rfl rfl rfl (w_n rfl) ?_
          refine TL_q (.int .i64 dx) (fun _ _ hρ _ => r_move (hρ _ _ rfl)) rfl rfl rfl (want_y 16 rfl rfl rfl) ?_
          refine TL_q (.bool true) (fun _ _ hρ _ => r_as (r_gtr (hρ _ _ rfl) (hρ _ _ rfl)) (bool_as (decide_eq_true c2))) rfl rfl rfl (want_y 16 rfl rfl rfl) ?_
          refine TL_q (.bool true) (fun _ _ hρ _ => r_pick_f (hρ _ _ rfl) (hρ _ _ rfl)) rfl rfl rfl (w_n rfl) ?_
          refine TL_q (.bool true) (fun _ _ hρ _ => r_move (hρ _ _ rfl)) rfl rfl rfl (w_n rfl) ?_
          refine TL_no rfl rfl (want_n 20 rfl rfl rfl) ?_
          refine TL_no rfl rfl (want_n 20 rfl rfl rfl) ?_
          refine TL_q (.bool true) (fun _ _ hρ _ => r_pick_t (hρ _ _ rfl) (hρ _ _ rfl)) rfl rfl rfl (w_n rfl) ?_
          refine TL_q (.bool true) (fun _ _ hρ _ => r_move (hρ _ _ rfl)) rfl rfl rfl (w_n rfl) ?_
          refine TL_no rfl rfl (want_n 24 rfl rfl rfl) ?_
          refine TL_no rfl rfl (want_n 24 rfl rfl rfl) ?_
          refine TL_q (.bool true) (fun _ _ hρ _ => r_pick_t (hρ _ _ rfl) (hρ _ _ rfl)) rfl rfl rfl (w_n rfl) ?_
          refine TL_seq ?_
          refine T_cond_t rfl ?_
          refine T_seq (T_region ?_)
          refine TL_q (.agg (lst C4.cells (newL c))) (fun _ _ hρ hm => r_loadW ag25 sz25 (hρ _ _ rfl) (hm.at 4 rfl) (tsz (newL_len _))) rfl rfl rfl (w_n rfl) ?_
          refine TL_store 3 (.cells (lst C4.cells (newL c)) 25) rfl (fun _ _ hρ hm => r_storeAll sz25 (hρ _ _ rfl) (hρ _ _ rfl) (hm.at 3 rfl) (tsz zero64_len) (tsz (newL_len _)) (lst_one C4.cells_all _)) rfl rfl (w_n rfl) ?_
          refine TL_seq ?_
          refine T_ret' ?_
          refine p_then_r ?_
          refine ret_of rfl (.agg (lst C4.cells (newL c))) (fun tmps w hk hm => res1 rfl (res_cell (hk 8 _ rfl) (run_loadVar_agg ag25 sz25 (hm.at 3 rfl) (le64 (newL_len _)) (ex64 (newL_len _))))) (fun w hm => ?_)
          exact ⟨by rw [shift_far l c dx dy (by omega)], hm.ext⟩
        · skip
          refine T_seq (T_region ?_)
          refine TL_q (.int .i64 dx) (fun _ _ hρ _ => r_move (hρ _ _ rfl)) rfl rfl rfl (w_n rfl) ?_
          refine TL_q (.bool false) (fun _ _ hρ _ => r_as (r_lss (hρ _ _ rfl) (hρ _ _ rfl)) (bool_as (decide_eq_false c1))) rfl rfl rfl (w_n rfl) ?_
          refine TL_q (.bool false) (fun _ _ hρ _ => r_move (hρ _ _ rfl)) rfl rfl rfl (w_n rfl) ?_
          refine TL_q (.int .i64 dx) (fun _ _ hρ _ => r_move (hρ _ _ rfl)) rfl rfl rfl (want_y 16 rfl rfl rfl) ?_
          refine TL_q (.bool true) (fun _ _ hρ _ => r_as (r_gtr (hρ _ _ rfl) (hρ _ _ rfl)) (bool_as (decide_eq_true c2))) rfl rfl rfl (want_y 16 rfl rfl rfl) ?_
          refine TL_q (.bool true) (fun _ _ hρ _ => r_pick_f (hρ _ _ rfl) (hρ _ _ rfl)) rfl rfl rfl (w_n rfl) ?_
          refine TL_q (.bool true) (fun _ _ hρ _ => r_move (hρ _ _ rfl)) rfl rfl rfl (w_n rfl) ?_
          refine TL_no rfl rfl (want_n 20 rfl rfl rfl) ?_
          refine TL_no rfl rfl (want_n 20 rfl rfl rfl) ?_
          refine TL_q (.bool true) (fun _ _ hρ _ => r_pick_t (hρ _ _ rfl) (hρ _ _ rfl)) rfl rfl rfl (w_n rfl) ?_
          refine TL_q (.bool true) (fun _ _ hρ _ => r_move (hρ _ _ rfl)) rfl rfl rfl (w_n rfl) ?_
          refine TL_no rfl rfl (want_n 24 rfl rfl rfl) ?_
          refine TL_no rfl rfl (want_n 24 rfl rfl rfl) ?_
          refine TL_q (.bool true) (fun _ _ hρ _ => r_pick_t (hρ _ _ rfl) (hρ _ _ rfl)) rfl rfl rfl (w_n rfl) ?_
          refine TL_seq ?_
          refine T_cond_t rfl ?_
          refine T_seq (T_region ?_)
          refine TL_q (.agg (lst C4.cells (newL c))) (fun _ _ hρ hm => r_loadW ag25 sz25 (hρ _ _ rfl) (hm.at 4 rfl) (tsz (newL_len _))) rfl rfl rfl (w_n rfl) ?_
          refine TL_store 3 (.cells (lst C4.cells (newL c)) 25) rfl (fun _ _ hρ hm => r_storeAll sz25 (hρ _ _ rfl) (hρ _ _ rfl) (hm.at 3 rfl) (tsz zero64_len) (tsz (newL_len _)) (lst_one C4.cells_all _)) rfl rfl (w_n rfl) ?_
          refine TL_seq ?_
          refine T_ret' ?_
          refine p_then_r ?_
          refine ret_of rfl (.agg (lst C4.cells (newL c))) (fun tmps w hk hm => res1 rfl (res_cell (hk 8 _ rfl) (run_loadVar_agg ag25 sz25 (hm.at 3 rfl) (le64 (newL_len _)) (ex64 (newL_len _))))) (fun w hm => ?_)
          exact ⟨by rw [shift_far l c dx dy (by omega)], hm.ext⟩
    · skip
      by_cases c3 : dy < -8
      · skip
        by_cases c4 : (8 : Int) < dy
        · skip
          refine T_seq (T_region ?_)
          refine TL_q (.int .i64 dx) (fun _ _ hρ _ => r_move (hρ _ _ rfl)) rfl rfl rfl (w_n rfl) ?_
          refine TL_q (.bool false) (fun _ _ hρ _ => r_as (r_lss (hρ _ _ rfl) (hρ _ _ rfl)) (bool_as (decide_eq_false c1))) rfl rfl rfl (w_n rfl) ?_
          refine TL_q (.bool false) (fun _ _ hρ _ => r_move (hρ _ _ rfl)) rfl rfl rfl (w_n rfl) ?_
          refine TL_q (.int .i64 dx) (fun _ _ hρ _ => r_move (hρ _ _ rfl)) rfl rfl rfl (want_y 16 rfl rfl rfl) ?_
          refine TL_q (.bool false) (fun _ _ hρ _ => r_as (r_gtr (hρ _ _ rfl) (hρ _ _ rfl)) (bool_as (decide_eq_false c2))) rfl rfl rfl (want_y 16 rfl rfl rfl) ?_
          refine TL_q (.bool false) (fun _ _ hρ _ => r_pick_f (hρ _ _ rfl) (hρ _ _ rfl)) rfl rfl rfl (w_n rfl) ?_
          refine TL_q (.bool false) (fun _ _ hρ _ => r_move (hρ _ _ rfl)) rfl rfl rfl (w_n rfl) ?_
          refine TL_q (.int .i64 dy) (fun _ _ hρ _ => r_move (hρ _ _ rfl)) rfl rfl rfl (want_y 20 rfl rfl rfl) ?_
          refine TL_q (.bool true) (fun _ _ hρ _ => r_as (r_lss (hρ _ _ rfl) (hρ _ _ rfl)) (bool_as (decide_eq_true c3))) rfl rfl rfl (want_y 20 rfl rfl rfl) ?_
          refine TL_q (.bool true) (fun _ _ hρ _ => r_pick_f (hρ _ _ rfl) (hρ _ _ rfl)) rfl rfl rfl (w_n rfl) ?_
          refine TL_q (.bool true) (fun _ _ hρ _ => r_move (hρ _ _ rfl)) rfl rfl rfl (w_n rfl) ?_
          refine TL_no rfl rfl (want_n 24 rfl rfl rfl) ?_
          refine TL_no rfl rfl (want_n 24 rfl rfl rfl) ?_
          refine TL_q (.bool true) (fun _ _ hρ _ => r_pick_t (hρ _ _ rfl) (hρ _ _ rfl)) rfl rfl rfl (w_n rfl) ?_
          refine TL_seq ?_
          refine T_cond_t rfl ?_
          refine T_seq (T_region ?_)
          refine TL_q (.agg (lst C4.cells (newL c))) (fun _ _ hρ hm => r_loadW ag25 sz25 (hρ _ _ rfl) (hm.at 4 rfl) (tsz (newL_len _))) rfl rfl rfl (w_n rfl) ?_
          refine TL_store 3 (.cells (lst C4.cells (newL c)) 25) rfl (fun _ _ hρ hm => r_storeAll sz25 (hρ _ _ rfl) (hρ _ _ rfl) (hm.at 3 rfl) (tsz zero64_len) (tsz (newL_len _)) (lst_one C4.cells_all _)) rfl rfl (w_n rfl) ?_
          refine TL_seq ?_
          refine T_ret' ?_
          refine p_then_r ?_
          refine ret_of rfl (.agg (lst C4.cells (newL c))) (fun tmps w hk hm => res1 rfl (res_cell (hk 8 _ rfl) (run_loadVar_agg ag25 sz25 (hm.at 3 rfl) (le64 (newL_len _)) (ex64 (newL_len _))))) (fun w hm => ?_)
          exact ⟨by rw [shift_far l c dx dy (by omega)], hm.ext⟩
        · skip
          refine T_seq (T_region ?_)
          refine TL_q (.int .i64 dx) (fun _ _ hρ _ => r_move (hρ _ _ rfl)) rfl rfl rfl (w_n rfl) ?_
          refine TL_q (.bool false) (fun _ _ hρ _ => r_as (r_lss (hρ _ _ rfl) (hρ _ _ rfl)) (bool_as (decide_eq_false c1))) rfl rfl rfl (w_n rfl) ?_
          refine TL_q (.bool false) (fun _ _ hρ _ => r_move (hρ _ _ rfl)) rfl rfl rfl (w_n rfl) ?_
          refine TL_q (.int .i64 dx) (fun _ _ hρ _ => r_move (hρ _ _ rfl)) rfl rfl rfl (want_y 16 rfl rfl rfl) ?_
          refine TL_q (.bool false) (fun _ _ hρ _ => r_as (r_gtr (hρ _ _ rfl) (hρ _ _ rfl)) (bool_as (decide_eq_false c2))) rfl rfl rfl (want_y 16 rfl rfl rfl) ?_
          refine TL_q (.bool false) (fun _ _ hρ _ => r_pick_f (hρ _ _ rfl) (hρ _ _ rfl)) rfl rfl rfl (w_n rfl) ?_
          refine TL_q (.bool false) (fun _ _ hρ _ => r_move (hρ _ _ rfl)) rfl rfl rfl (w_n rfl) ?_
          refine TL_q (.int .i64 dy) (fun _ _ hρ _ => r_move (hρ _ _ rfl)) rfl rfl rfl (want_y 20 rfl rfl rfl) ?_
          refine TL_q (.bool true) (fun _ _ hρ _ => r_as (r_lss (hρ _ _ rfl) (hρ _ _ rfl)) (bool_as (decide_eq_true c3))) rfl rfl rfl (want_y 20 rfl rfl rfl) ?_
          refine TL_q (.bool true) (fun _ _ hρ _ => r_pick_f (hρ _ _ rfl) (hρ _ _ rfl)) rfl rfl rfl (w_n rfl) ?_
          refine TL_q (.bool true) (fun _ _ hρ _ => r_move (hρ _ _ rfl)) rfl rfl rfl (w_n rfl) ?_
          refine TL_no rfl rfl (want_n 24 rfl rfl rfl) ?_
          refine TL_no rfl rfl (want_n 24 rfl rfl rfl) ?_
          refine TL_q (.bool true) (fun _ _ hρ _ => r_pick_t (hρ _ _ rfl) (hρ _ _ rfl)) rfl rfl rfl (w_n rfl) ?_
          refine TL_seq ?_
          refine T_cond_t rfl ?_
          refine T_seq (T_region ?_)
          refine TL_q (.agg (lst C4.cells (newL c))) (fun _ _ hρ hm => r_loadW ag25 sz25 (hρ _ _ rfl) (hm.at 4 rfl) (tsz (newL_len _))) rfl rfl rfl (w_n rfl) ?_
          refine TL_store 3 (.cells (lst C4.cells (newL c)) 25) rfl (fun _ _ hρ hm => r_storeAll sz25 (hρ _ _ rfl) (hρ _ _ rfl) (hm.at 3 rfl) (tsz zero64_len) (tsz (newL_len _)) (lst_one C4.cells_all _)) rfl rfl (w_n rfl) ?_
          refine TL_seq ?_
          refine T_ret' ?_
          refine p_then_r ?_
          refine ret_of rfl (.agg (lst C4.cells (newL c))) (fun tmps w hk hm => res1 rfl (res_cell (hk 8 _ rfl) (run_loadVar_agg ag25 sz25 (hm.at 3 rfl) (le64 (newL_len _)) (ex64 (newL_len _))))) (fun w hm => ?_)
          exact ⟨by rw [shift_far l c dx dy (by omega)], hm.ext⟩
      · skip
        by_cases c4 : (8 : Int) < dy
        · skip
          refine T_seq (T_region ?_)
          refine TL_q (.int .i64 dx) (fun _ _ hρ _ => r_move (hρ _ _ rfl)) rfl rfl rfl (w_n rfl) ?_
          refine TL_q (.bool false) (fun _ _ hρ _ => r_as (r_lss (hρ _ _ rfl) (hρ _ _ rfl)) (bool_as (decide_eq_false c1))) rfl rfl rfl (w_n rfl) ?_
          refine TL_q (.bool false) (fun _ _ hρ _ => r_move (hρ _ _ rfl)) rfl rfl rfl (w_n rfl) ?_
          refine TL_q (.int .i64 dx) (fun _ _ hρ _ => r_move (hρ _ _ rfl)) rfl rfl rfl (want_y 16 rfl rfl rfl) ?_
          refine TL_q (.bool false) (fun _ _ hρ _ => r_as (r_gtr (hρ _ _ rfl) (hρ _ _ rfl)) (bool_as (decide_eq_false c2))) rfl rfl rfl (want_y 16 rfl rfl rfl) ?_
          refine TL_q (.bool false) (fun _ _ hρ _ => r_pick_f (hρ _ _ rfl) (hρ _ _ rfl)) rfl rfl rfl (w_n rfl) ?_
          refine TL_q (.bool false) (fun _ _ hρ _ => r_move (hρ _ _ rfl)) rfl rfl rfl (w_n rfl) ?_
          refine TL_q (.int .i64 dy) (fun _ _ hρ _ => r_move (hρ _ _ rfl)) rfl rfl rfl (want_y 20 rfl rfl rfl) ?_
          refine TL_q (.bool false) (fun _ _ hρ _ => r_as (r_lss (hρ _ _ rfl) (hρ _ _ rfl)) (bool_as (decide_eq_false c3))) rfl rfl rfl (want_y 20 rfl rfl rfl) ?_
          refine TL_q (.bool false) (fun _ _ hρ _ => r_pick_f (hρ _ _ rfl) (hρ _ _ rfl)) rfl rfl rfl (w_n rfl) ?_
          refine TL_q (.bool false) (fun _ _ hρ _ => r_move (hρ _ _ rfl)) rfl rfl rfl (w_n rfl) ?_
          refine TL_q (.int .i64 dy) (fun _ _ hρ _ => r_move (hρ _ _ rfl)) rfl rfl rfl (want_y 24 rfl rfl rfl) ?_
          refine TL_q (.bool true) (fun _ _ hρ _ => r_as (r_gtr (hρ _ _ rfl) (hρ _ _ rfl)) (bool_as (decide_eq_true c4))) rfl rfl rfl (want_y 24 rfl rfl rfl) ?_
          refine TL_q (.bool true) (fun _ _ hρ _ => r_pick_f (hρ _ _ rfl) (hρ _ _ rfl)) rfl rfl rfl (w_n rfl) ?_
          refine TL_seq ?_
          refine T_cond_t rfl ?_
          refine T_seq (T_region ?_)
          refine TL_q (.agg (lst C4.cells (newL c))) (fun _ _ hρ hm => r_loadW ag25 sz25 (hρ _ _ rfl) (hm.at 4 rfl) (tsz (newL_len _))) rfl rfl rfl (w_n rfl) ?_
          refine TL_store 3 (.cells (lst C4.cells (newL c)) 25) rfl (fun _ _ hρ hm => r_storeAll sz25 (hρ _ _ rfl) (hρ _ _ rfl) (hm.at 3 rfl) (tsz zero64_len) (tsz (newL_len _)) (lst_one C4.cells_all _)) rfl rfl (w_n rfl) ?_
          refine TL_seq ?_
          refine T_ret' ?_
          refine p_then_r ?_
          refine ret_of rfl (.agg (lst C4.cells (newL c))) (fun tmps w hk hm => res1 rfl (res_cell (hk 8 _ rfl) (run_loadVar_agg ag25 sz25 (hm.at 3 rfl) (le64 (newL_len _)) (ex64 (newL_len _))))) (fun w hm => ?_)
          exact ⟨by rw [shift_far l c dx dy (by omega)], hm.ext⟩
        · skip
          refine T_seq (T_region ?_)
          refine TL_q (.int .i64 dx) (fun _ _ hρ _ => r_move (hρ _ _ rfl)) rfl rfl rfl (w_n rfl) ?_
          refine TL_q (.bool false) (fun _ _ hρ _ => r_as (r_lss (hρ _ _ rfl) (hρ _ _ rfl)) (bool_as (decide_eq_false c1))) rfl rfl rfl (w_n rfl) ?_
          refine TL_q (.bool false) (fun _ _ hρ _ => r_move (hρ _ _ rfl)) rfl rfl rfl (w_n rfl) ?_
          refine TL_q (.int .i64 dx) (fun _ _ hρ _ => r_move (hρ _ _ rfl)) rfl rfl rfl (want_y 16 rfl rfl rfl) ?_
          refine TL_q (.bool false) (fun _ _ hρ _ => r_as (r_gtr (hρ _ _ rfl) (hρ _ _ rfl)) (bool_as (decide_eq_false c2))) rfl rfl rfl (want_y 16 rfl rfl rfl) ?_
          refine TL_q (.bool false) (fun _ _ hρ _ => r_pick_f (hρ _ _ rfl) (hρ _ _ rfl)) rfl rfl rfl (w_n rfl) ?_
          refine TL_q (.bool false) (fun _ _ hρ _ => r_move (hρ _ _ rfl)) rfl rfl rfl (w_n rfl) ?_
          refine TL_q (.int .i64 dy) (fun _ _ hρ _ => r_move (hρ _ _ rfl)) rfl rfl rfl (want_y 20 rfl rfl rfl) ?_
          refine TL_q (.bool false) (fun _ _ hρ _ => r_as (r_lss (hρ _ _ rfl) (hρ _ _ rfl)) (bool_as (decide_eq_false c3))) rfl rfl rfl (want_y 20 rfl rfl rfl) ?_
          refine TL_q (.bool false) (fun _ _ hρ _ => r_pick_f (hρ _ _ rfl) (hρ _ _ rfl)) rfl rfl rfl (w_n rfl) ?_
          refine TL_q (.bool false) (fun _ _ hρ _ => r_move (hρ _ _ rfl)) rfl rfl rfl (w_n rfl) ?_
          refine TL_q (.int .i64 dy) (fun _ _ hρ _ => r_move (hρ _ _ rfl)) rfl rfl rfl (want_y 24 rfl rfl rfl) ?_
          refine TL_q (.bool false) (fun _ _ hρ _ => r_as (r_gtr (hρ _ _ rfl) (hρ _ _ rfl)) (bool_as (decide_eq_false c4))) rfl rfl rfl (want_y 24 rfl rfl rfl) ?_
          refine TL_q (.bool false) (fun _ _ hρ _ => r_pick_f (hρ _ _ rfl) (hρ _ _ rfl)) rfl rfl rfl (w_n rfl) ?_
          refine TL_seq ?_
          refine T_cond_f rfl ?_
          refine T_skip' ?_
          refine p_seq ?_
          refine T_seq ?_
          refine T_seq (T_region ?_)
          refine TL_q (.int .i64 0) (fun _ _ hρ _ => r_move (hρ _ _ rfl)) rfl rfl rfl (w_n rfl) ?_
          refine TL_seq ?_
          refine T_block ?_
          refine T_loop (ι := Nat) (fun (y : Nat) => y ≤ 8) (fun (y : Nat) => [(1, .int .i64 dx), (2, .int .i64 dy), (4, .pointer (some ⟨B1, 0, none⟩)), (8, .pointer (some ⟨B3, 0, none⟩)), (9, .pointer (some ⟨B4, 0, none⟩)), (29, .int .i64 ((y : Nat) : Int))]) (fun (y : Nat) => [(1, .blk B1 (.cells (lst C4.cells l) 25)), (2, .blk B2 (.cells #[.int .u8 c.r, .int .u8 c.g, .int .u8 c.b, .int .u8 c.a] 23)), (3, .blk B3 (.cells (lst C4.cells zero64) 25)), (4, .blk B4 (.cells (lst C4.cells (gridN (movedG (shiftF dx dy) l) (newL c) (8 * y))) 25))]) (fun (y : Nat) => 8 - y) 0 (Nat.zero_le _) (sub_cons rfl (sub_cons rfl (sub_cons rfl (sub_cons rfl (sub_cons rfl (sub_cons rfl sub_nil)))))) (sub_cons rfl (sub_cons rfl (sub_cons rfl (sub_cons rfl sub_nil)))) ?_
          rintro y hp
          show T _ _ _ [(1, .int .i64 dx), (2, .int .i64 dy), (4, .pointer (some ⟨B1, 0, none⟩)), (8, .pointer (some ⟨B3, 0, none⟩)), (9, .pointer (some ⟨B4, 0, none⟩)), (29, .int .i64 ((y : Nat) : Int))] [(1, .blk B1 (.cells (lst C4.cells l) 25)), (2, .blk B2 (.cells #[.int .u8 c.r, .int .u8 c.g, .int .u8 c.b, .int .u8 c.a] 23)), (3, .blk B3 (.cells (lst C4.cells zero64) 25)), (4, .blk B4 (.cells (lst C4.cells (gridN (movedG (shiftF dx dy) l) (newL c) (8 * y))) 25))]
          refine T_seq (T_region ?_)
          refine TL_q (.bool (decide (((y : Nat) : Int) < 8))) (fun _ _ hρ _ => r_lss (hρ _ _ rfl) (hρ _ _ rfl)) rfl rfl rfl (w_n rfl) ?_
          refine TL_seq ?_
          refine T_seq ?_
          refine T_cond rfl (fun h1 => ?_) (fun h1 => ?_)
          · replace h1 := of_decide_eq_true h1
            refine T_skip' ?_
            refine p_seq ?_
            refine T_seq ?_
            refine T_block ?_
            refine T_seq (T_region ?_)
            refine TL_q (.int .i64 ((y : Nat) : Int)) (fun _ _ hρ _ => r_move (hρ _ _ rfl)) rfl rfl rfl (w_n rfl) ?_
            refine TL_q (.int .i64 ((y : Nat) : Int)) (fun _ _ hρ _ => r_assign (hρ _ _ rfl)) rfl rfl rfl (w_n rfl) ?_
            refine TL_seq ?_
            refine T_seq (T_region ?_)
            refine TL_q (.int .i64 0) (fun _ _ hρ _ => r_move (hρ _ _ rfl)) rfl rfl rfl (w_n rfl) ?_
            refine TL_seq ?_
            refine T_block ?_
            refine T_loop (ι := Nat) (fun (x : Nat) => x ≤ 8) (fun (x : Nat) => [(1, .int .i64 dx), (2, .int .i64 dy), (4, .pointer (some ⟨B1, 0, none⟩)), (8, .pointer (some ⟨B3, 0, none⟩)), (9, .pointer (some ⟨B4, 0, none⟩)), (29, .int .i64 ((y : Nat) : Int)), (30, .bool (decide (((y : Nat) : Int) < 8))), (31, .int .i64 ((y : Nat) : Int)), (10, .int .i64 ((y : Nat) : Int)), (32, .int .i64 ((x : Nat) : Int))]) (fun (x : Nat) => [(1, .blk B1 (.cells (lst C4.cells l) 25)), (2, .blk B2 (.cells #[.int .u8 c.r, .int .u8 c.g, .int .u8 c.b, .int .u8 c.a] 23)), (3, .blk B3 (.cells (lst C4.cells zero64) 25)), (4, .blk B4 (.cells (lst C4.cells (gridN (movedG (shiftF dx dy) l) (newL c) (8 * y + x))) 25))]) (fun (x : Nat) => 8 - x) 0 (Nat.zero_le _) (sub_cons rfl (sub_cons rfl (sub_cons rfl (sub_cons rfl (sub_cons rfl (sub_cons rfl (sub_cons rfl (sub_cons rfl (sub_cons rfl (sub_cons rfl sub_nil)))))))))) (sub_cons rfl (sub_cons rfl (sub_cons rfl (sub_cons rfl sub_nil)))) ?_
            rintro x hp
            show T _ _ _ [(1, .int .i64 dx), (2, .int .i64 dy), (4, .pointer (some ⟨B1, 0, none⟩)), (8, .pointer (some ⟨B3, 0, none⟩)), (9, .pointer (some ⟨B4, 0, none⟩)), (29, .int .i64 ((y : Nat) : Int)), (30, .bool (decide (((y : Nat) : Int) < 8))), (31, .int .i64 ((y : Nat) : Int)), (10, .int .i64 ((y : Nat) : Int)), (32, .int .i64 ((x : Nat) : Int))] [(1, .blk B1 (.cells (lst C4.cells l) 25)), (2, .blk B2 (.cells #[.int .u8 c.r, .int .u8 c.g, .int .u8 c.b, .int .u8 c.a] 23)), (3, .blk B3 (.cells (lst C4.cells zero64) 25)), (4, .blk B4 (.cells (lst C4.cells (gridN (movedG (shiftF dx dy) l) (newL c) (8 * y + x))) 25))]
            refine T_seq (T_region ?_)
            refine TL_q (.bool (decide (((x : Nat) : Int) < 8))) (fun _ _ hρ _ => r_lss (hρ _ _ rfl) (hρ _ _ rfl)) rfl rfl rfl (w_n rfl) ?_
            refine TL_seq ?_
            refine T_seq ?_
            refine T_cond rfl (fun h2 => ?_) (fun h2 => ?_)
            · replace h2 := of_decide_eq_true h2
              refine T_skip' ?_
              refine p_seq ?_
              refine T_seq ?_
              refine T_block ?_
              refine T_seq (T_region ?_)
              refine TL_q (.int .i64 ((x : Nat) : Int)) (fun _ _ hρ _ => r_move (hρ _ _ rfl)) rfl rfl rfl (w_n rfl) ?_
              refine TL_q (.int .i64 ((x : Nat) : Int)) (fun _ _ hρ _ => r_assign (hρ _ _ rfl)) rfl rfl rfl (w_n rfl) ?_
              refine TL_seq ?_
              refine T_seq (T_region ?_)
              refine TL_q (.int .i64 ((x : Nat) : Int)) (fun _ _ hρ _ => r_move (hρ _ _ rfl)) rfl rfl rfl (w_n rfl) ?_
              refine TL_q (.int .i64 dx) (fun _ _ hρ _ => r_move (hρ _ _ rfl)) rfl rfl rfl (w_n rfl) ?_
              refine TL_q (.int .i64 (((x : Nat) : Int) + dx)) (fun _ _ hρ _ => r_as (r_add (hρ _ _ rfl) (hρ _ _ rfl)) (int_as (wrap64 (by omega) (by omega)))) rfl rfl rfl (w_n rfl) ?_
              refine TL_q (.int .i64 ((y : Nat) : Int)) (fun _ _ hρ _ => r_move (hρ _ _ rfl)) rfl rfl rfl (w_n rfl) ?_
              refine TL_q (.int .i64 dy) (fun _ _ hρ _ => r_move (hρ _ _ rfl)) rfl rfl rfl (w_n rfl) ?_
              refine TL_q (.int .i64 (((y : Nat) : Int) + dy)) (fun _ _ hρ _ => r_as (r_add (hρ _ _ rfl) (hρ _ _ rfl)) (int_as (wrap64 (by omega) (by omega)))) rfl rfl rfl (w_n rfl) ?_
              refine TL_call (.bool (isP (((x : Nat) : Int) + dx) (((y : Nat) : Int) + dy))) (fun _ _ hρ _ => r_call (args := [.int .i64 (((x : Nat) : Int) + dx), .int .i64 (((y : Nat) : Int) + dy)]) (enters_of Try.func28 (by kernel_rfl) rfl) (hρ _ _ rfl) ((cons2 (hρ _ _ rfl) (cons2 (hρ _ _ rfl) rfl))) rfl) (fun w _ => is_ref (((x : Nat) : Int) + dx) (((y : Nat) : Int) + dy) w) rfl rfl rfl (w_n rfl) ?_
              refine TL_seq ?_
              refine T_cond rfl (fun h3 => ?_) (fun h3 => ?_)
              · skip
                obtain ⟨qx, qy, eqx, eqy, hqx, hqy⟩ := isP_nat h3
                refine T_region ?_
                refine TL_q (.int .i64 ((y : Nat) : Int)) (fun _ _ hρ _ => r_move (hρ _ _ rfl)) rfl rfl rfl (w_n rfl) ?_
                refine TL_q (.int .i64 dy) (fun _ _ hρ _ => r_move (hρ _ _ rfl)) rfl rfl rfl (w_n rfl) ?_
                refine TL_q (.int .i64 ((qy : Nat) : Int)) (fun _ _ hρ _ => r_as (r_add (hρ _ _ rfl) (hρ _ _ rfl)) (int_as ((wrap64 (by omega) (by omega)).trans (by omega)))) rfl rfl rfl (w_n rfl) ?_
                refine TL_q (.int .i64 ((8 * qy : Nat) : Int)) (fun _ _ hρ _ => r_as (r_mul (hρ _ _ rfl) (hρ _ _ rfl)) (int_as ((wrap64 (by omega) (by omega)).trans (by omega)))) rfl rfl rfl (w_n rfl) ?_
                refine TL_q (.int .i64 ((x : Nat) : Int)) (fun _ _ hρ _ => r_move (hρ _ _ rfl)) rfl rfl rfl (w_n rfl) ?_
                refine TL_q (.int .i64 ((8 * qy + x : Nat) : Int)) (fun _ _ hρ _ => r_as (r_add (hρ _ _ rfl) (hρ _ _ rfl)) (int_as ((wrap64 (by omega) (by omega)).trans (by omega)))) rfl rfl rfl (w_n rfl) ?_
                refine TL_q (.int .i64 dx) (fun _ _ hρ _ => r_move (hρ _ _ rfl)) rfl rfl rfl (w_n rfl) ?_
                refine TL_q (.int .i64 ((8 * qy + qx : Nat) : Int)) (fun _ _ hρ _ => r_as (r_add (hρ _ _ rfl) (hρ _ _ rfl)) (int_as ((wrap64 (by omega) (by omega)).trans (by omega)))) rfl rfl rfl (w_n rfl) ?_
                refine TL_q (.agg (lst C4.cells l)) (fun _ _ hρ hm => r_loadW ag25 sz25 (hρ _ _ rfl) (hm.at 1 rfl) (tsz hl)) rfl rfl rfl (w_n rfl) ?_
                refine TL_q (.int .i64 ((x : Nat) : Int)) (fun _ _ hρ _ => r_move (hρ _ _ rfl)) rfl rfl rfl (w_n rfl) ?_
                refine TL_q (.int .i64 ((y : Nat) : Int)) (fun _ _ hρ _ => r_move (hρ _ _ rfl)) rfl rfl rfl (w_n rfl) ?_
                refine TL_call (.agg #[.int .u8 ((get l (8 * y + x)).r), .int .u8 ((get l (8 * y + x)).g), .int .u8 ((get l (8 * y + x)).b), .int .u8 ((get l (8 * y + x)).a)]) (fun _ _ hρ _ => r_call (args := [.agg (lst C4.cells l), .int .i64 ((x : Nat) : Int), .int .i64 ((y : Nat) : Int)]) (enters_of Try.func29 (by kernel_rfl) rfl) (hρ _ _ rfl) ((cons2 (hρ _ _ rfl) (cons2 (hρ _ _ rfl) (cons2 (hρ _ _ rfl) rfl)))) rfl) (fun w _ => at_ref l x y w hl (by omega) (by omega)) rfl rfl rfl (w_n rfl) ?_
                refine TL_q (.pointer (some ⟨B4, 0 + (8 * qy + qx) * 4, none⟩)) (fun _ _ hρ _ => r_indexAddrA (i := 8 * qy + qx) ar25 sz23 (hρ _ _ rfl) (hρ _ _ rfl) (by omega)) rfl rfl rfl (w_n rfl) ?_
                refine TL_store 4 (.cells (lst C4.cells ((gridN (movedG (shiftF dx dy) l) (newL c) (8 * y + x)).set (8 * qy + qx) (get l (8 * y + x)))) 25) rfl (fun _ _ hρ hm => r_storeLst (u := (get l (8 * y + x))) sz23 (hρ _ _ rfl) (hρ _ _ rfl) (hm.at 4 rfl) C4.cells_len (lt64 (grid_len (movedG_len _ _) (newL_len _) _) (by omega)) rfl rfl) rfl rfl (w_n rfl) ?_
                refine TL_nil ?_
                refine p_blk_n ?_
                refine p_seq ?_
                refine T_region ?_
                refine TL_q (.int .i64 (((x : Nat) : Int) + 1)) (fun _ _ hρ _ => r_as (r_add (hρ _ _ rfl) (hρ _ _ rfl)) (int_as (wrap64 (by omega) (by omega)))) rfl rfl rfl (w_n rfl) ?_
                refine TL_q (.int .i64 (((x : Nat) : Int) + 1)) (fun _ _ hρ _ => r_move (hρ _ _ rfl)) rfl rfl rfl (w_n rfl) ?_
                refine TL_nil ?_
                rw [show ((gridN (movedG (shiftF dx dy) l) (newL c) (8 * y + x)).set (8 * qy + qx) (get l (8 * y + x))) = gridN (movedG (shiftF dx dy) l) (newL c) (8 * y + x + 1) from (by rw [← shift_step (by omega)]; exact (putL_nat (by omega) (by omega) (by omega)).symm)]
                exact p_at (x + 1) ⟨by omega, by omega⟩ (sub_cons rfl (sub_cons rfl (sub_cons rfl (sub_cons rfl (sub_cons rfl (sub_cons rfl (sub_cons rfl (sub_cons rfl (sub_cons rfl (sub_cons rfl sub_nil)))))))))) (sub_cons rfl (sub_cons rfl (sub_cons rfl (sub_cons rfl sub_nil))))
              · skip
                refine T_skip' ?_
                refine p_blk_n ?_
                refine p_seq ?_
                refine T_region ?_
                refine TL_q (.int .i64 (((x : Nat) : Int) + 1)) (fun _ _ hρ _ => r_as (r_add (hρ _ _ rfl) (hρ _ _ rfl)) (int_as (wrap64 (by omega) (by omega)))) rfl rfl rfl (w_n rfl) ?_
                refine TL_q (.int .i64 (((x : Nat) : Int) + 1)) (fun _ _ hρ _ => r_move (hρ _ _ rfl)) rfl rfl rfl (w_n rfl) ?_
                refine TL_nil ?_
                have hst : gridN (movedG (shiftF dx dy) l) (newL c) (8 * y + x) = gridN (movedG (shiftF dx dy) l) (newL c) (8 * y + x + 1) := by rw [← shift_step (by omega)]; exact (putL_no h3).symm
                rw [hst]
                exact p_at (x + 1) ⟨by omega, by omega⟩ (sub_cons rfl (sub_cons rfl (sub_cons rfl (sub_cons rfl (sub_cons rfl (sub_cons rfl (sub_cons rfl (sub_cons rfl (sub_cons rfl (sub_cons rfl sub_nil)))))))))) (sub_cons rfl (sub_cons rfl (sub_cons rfl (sub_cons rfl sub_nil))))
            · replace h2 := of_decide_eq_false h2
              refine T_exit' ?_
              refine p_then_x ?_
              refine p_then_x ?_
              refine p_blk_x ?_
              refine p_blk_n ?_
              refine p_seq ?_
              have hx8 : x = 8 := by omega
              subst hx8
              refine T_region ?_
              refine TL_q (.int .i64 (((y : Nat) : Int) + 1)) (fun _ _ hρ _ => r_as (r_add (hρ _ _ rfl) (hρ _ _ rfl)) (int_as (wrap64 (by omega) (by omega)))) rfl rfl rfl (w_n rfl) ?_
              refine TL_q (.int .i64 (((y : Nat) : Int) + 1)) (fun _ _ hρ _ => r_move (hρ _ _ rfl)) rfl rfl rfl (w_n rfl) ?_
              refine TL_nil ?_
              exact p_at (y + 1) ⟨by omega, by omega⟩ (sub_cons rfl (sub_cons rfl (sub_cons rfl (sub_cons rfl (sub_cons rfl (sub_cons rfl sub_nil)))))) (sub_cons rfl (sub_cons rfl (sub_cons rfl (sub_cons rfl sub_nil))))
          · replace h1 := of_decide_eq_false h1
            refine T_exit' ?_
            refine p_then_x ?_
            refine p_then_x ?_
            refine p_blk_x ?_
            refine p_seq ?_
            refine T_seq (T_region ?_)
            refine TL_q (.agg (lst C4.cells (gridN (movedG (shiftF dx dy) l) (newL c) (8 * y)))) (fun _ _ hρ hm => r_loadW ag25 sz25 (hρ _ _ rfl) (hm.at 4 rfl) (tsz (grid_len (movedG_len _ _) (newL_len _) _))) rfl rfl rfl (w_n rfl) ?_
            refine TL_store 3 (.cells (lst C4.cells (gridN (movedG (shiftF dx dy) l) (newL c) (8 * y))) 25) rfl (fun _ _ hρ hm => r_storeAll sz25 (hρ _ _ rfl) (hρ _ _ rfl) (hm.at 3 rfl) (tsz zero64_len) (tsz (grid_len (movedG_len _ _) (newL_len _) _)) (lst_one C4.cells_all _)) rfl rfl (w_n rfl) ?_
            refine TL_seq ?_
            refine T_ret' ?_
            refine ret_of rfl (.agg (lst C4.cells (gridN (movedG (shiftF dx dy) l) (newL c) (8 * y)))) (fun tmps w hk hm => res1 rfl (res_cell (hk 8 _ rfl) (run_loadVar_agg ag25 sz25 (hm.at 3 rfl) (le64 (grid_len (movedG_len _ _) (newL_len _) _)) (ex64 (grid_len (movedG_len _ _) (newL_len _) _))))) (fun w hm => ?_)
            have hy8 : y = 8 := by omega
            subst hy8
            exact ⟨by rw [show shiftL l c dx dy = gridN (movedG (shiftF dx dy) l) (newL c) 64 from by unfold shiftL; rw [clamp_in (by omega) (by omega), clamp_in (by omega) (by omega)]; rfl], hm.ext⟩
end Go.Proofs.Ytmlkifojbjbpcaa
