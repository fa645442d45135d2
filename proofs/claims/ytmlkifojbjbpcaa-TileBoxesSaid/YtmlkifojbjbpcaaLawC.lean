/- tile: the walks of TileBack, TileSums, TileBoxes. Printed by a program of this seat's prover. -/
import Derived.Test.YtmlkifojbjbpcaaLawA
import Derived.Test.YtmlkifojbjbpcaaPerm
import Derived.Test.YtmlkifojbjbpcaaMisc
namespace Go.Proofs.Ytmlkifojbjbpcaa
open Go Go.RowKit
set_option maxRecDepth 10000
theorem sum_step {l cs : List C4} {k : Nat} {x : C4} (h : cs[k]? = some x) : sumN l cs (k + 1) = sumN l cs k + cntN l x 64 := by
  have : get cs k = x := by unfold get; rw [List.getD_eq_getElem?_getD, h]; rfl
  rw [← this]; rfl
theorem sum_le (l cs : List C4) : ∀ k, sumN l cs k ≤ 64 * k
  | 0 => Nat.le_refl _
  | k + 1 => by
    have h1 := sum_le l cs k
    have h2 := cnt_le l (get cs k) 64
    show sumN l cs k + cntN l (get cs k) 64 ≤ _
    omega
theorem isP_in {x y : Nat} (hx : x < 8) (hy : y < 8) : isP x y = true := decide_eq_true ⟨by omega, by omega, by omega, by omega⟩
theorem box_put_t {a b : List C4} {z : BoxV} {x y : Nat} (hx : x < 8) (hy : y < 8) (h : inB z x y = true) : withL (gridN (putG z b) a (8 * y + x)) (atC b x y) [(⟨x, y⟩ : Pt)] = gridN (putG z b) a (8 * y + x + 1) := by
  rw [← grid_step hx]
  show putL _ _ _ _ = putG z b _ x y
  unfold putG putL atC
  rw [if_pos h, if_pos (isP_in hx hy), if_pos (isP_in hx hy), show (8 * (y : Int) + x).toNat = 8 * y + x by omega]
theorem box_put_f {a b : List C4} {z : BoxV} {x y : Nat} (hx : x < 8) (h : ¬ inB z x y = true) : gridN (putG z b) a (8 * y + x) = gridN (putG z b) a (8 * y + x + 1) := by
  rw [← grid_step hx]
  unfold putG
  rw [if_neg h]
theorem atC_nat (l : List C4) {x y : Nat} (hx : x < 8) (hy : y < 8) : atC l x y = get l (8 * y + x) := by
  unfold atC
  rw [if_pos (isP_in hx hy), show (8 * (y : Int) + x).toNat = 8 * y + x by omega]

set_option maxHeartbeats 4000000 in
theorem back_any (l : List C4) (k0 : Int) (w : World) (hl : l.length = 64) : Calls Try.prog 6 #[til l, .int .i64 k0] w fun e w' => e = .returned (.bool true) ∧ Below w.heap.size w w' := by
  have hcl := cols_le l 64
  have hcu := cols_le (turnN l (times (k0.tmod 1000))) 64
  obtain ⟨q, hq⟩ : ∃ q, q = k0.tmod 1000 := ⟨_, rfl⟩
  have hqb := tmod_bd k0 (n := 1000) (by decide)
  rw [← hq] at hqb hcu
  have hlen : (((colsN (turnN l (times q)) 64).length : Nat) : Int) = (((colsN l 64).length : Nat) : Int) := by rw [cols_len_eq (fun c => cnt_turnN l c _)]
  refine calls_of_T (l := [.agg (lst C4.cells l), .int .i64 k0]) 80 Try.func6 rfl rfl rfl ?_
  show T _ _ _ [(0, .agg (lst C4.cells l)), (1, .int .i64 k0)] []
  refine T_seq (T_region ?_)
  refine TL_new 1 (.cells (lst C4.cells l) 25) (fun B => .pointer (some ⟨B, 0, none⟩)) (fun _ _ hρ _ => r_box (hρ _ _ rfl) rfl) rfl rfl rfl (w_n rfl) ?_
  intro B1
  refine TL_q (.bool false) (fun _ _ hρ _ => r_assign (hρ _ _ rfl)) rfl rfl rfl (w_n rfl) ?_
  refine TL_seq ?_
  refine T_seq ?_
  refine T_seq (T_region ?_)
  refine TL_call (.bool true) (fun _ _ hρ _ => r_call (args := []) (enters_of Try.func9 (by kernel_rfl) rfl) (hρ _ _ rfl) (by rfl) rfl) (fun w _ => wakes_any w) rfl rfl rfl (w_n rfl) ?_
  refine TL_q (.bool false) (fun _ _ hρ _ => r_not (b := true) (hρ _ _ rfl)) rfl rfl rfl (w_n rfl) ?_
  refine TL_seq ?_
  refine T_cond_f rfl ?_
  refine T_skip' ?_
  refine p_seq ?_
  refine T_seq (T_region ?_)
  refine TL_q (.int .i64 k0) (fun _ _ hρ _ => r_move (hρ _ _ rfl)) rfl rfl rfl (w_n rfl) ?_
  refine TL_q (.int .i64 q) (fun _ _ hρ _ => r_as (r_rem (hρ _ _ rfl) (hρ _ _ rfl) (by decide)) (int_as hq.symm)) rfl rfl rfl (w_n rfl) ?_
  refine TL_q (.int .i64 q) (fun _ _ hρ _ => r_assign (hρ _ _ rfl)) rfl rfl rfl (w_n rfl) ?_
  refine TL_seq ?_
  refine T_seq (T_region ?_)
  refine TL_q (.agg (lst C4.cells l)) (fun _ _ hρ hm => r_loadW ag25 sz25 (hρ _ _ rfl) (hm.at 1 rfl) (tsz hl)) rfl rfl rfl (w_n rfl) ?_
  refine TL_q (.int .i64 q) (fun _ _ hρ _ => r_move (hρ _ _ rfl)) rfl rfl rfl (w_n rfl) ?_
  refine TL_call (.agg (lst C4.cells (turnN l (times q)))) (fun _ _ hρ _ => r_call (args := [.agg (lst C4.cells l), .int .i64 q]) (enters_of Try.func23 (by kernel_rfl) rfl) (hρ _ _ rfl) ((cons2 (hρ _ _ rfl) (cons2 (hρ _ _ rfl) rfl))) rfl) (fun w _ => turn_c l q w hl) rfl rfl rfl (w_n rfl) ?_
  refine TL_new 2 (.cells (lst C4.cells zero64) 25) (fun B => .pointer (some ⟨B, 0, none⟩)) (fun _ _ _ _ => r_alloc (v := .agg (lst C4.cells zero64)) (by kernel_rfl) rfl) rfl rfl rfl (w_n rfl) ?_
  intro B2
  refine TL_store 2 (.cells (lst C4.cells (turnN l (times q))) 25) rfl (fun _ _ hρ hm => r_storeAll sz25 (hρ _ _ rfl) (hρ _ _ rfl) (hm.at 2 rfl) (tsz zero64_len) (tsz (turnN_len hl _)) (lst_one C4.cells_all _)) rfl rfl (w_n rfl) ?_
  refine TL_seq ?_
  refine T_seq ?_
  refine T_seq (T_draw (V := [(0, .agg (lst C4.cells l)), (3, .agg (lst C4.cells l))]) [0, 1, 3, 0, 15, 31, 63, 63, 191, 511, 63, 2047, 4095, 8191, 16383, 32767, 16383, 131071, 262143, 524287, 1048575, 2097151, 1048575, 8388607, 1048575, 17825791, 67108863, 134217727, 268435455] [[(2, none)], [(16, some 0)], [(17, some 1)], [(2, none)], [(18, some 2), (19, some 3)], [(20, some 4)], [(5, none)], [(1, none)], [(23, some 7)], [(22, some 6), (24, some 8)], [(2, none)], [(25, some 9), (26, some 10)], [(27, some 11), (21, some 5)], [(28, some 12)], [(5, none)], [(30, some 14)], [(5, none)], [(31, some 15), (32, some 16)], [(33, some 17), (29, some 13)], [(34, some 18)], [(5, none)], [(36, some 20)], [(2, none)], [(38, some 22)], [(1, none)], [(40, some 24)], [(39, some 23), (41, some 25)], [(37, some 21), (42, some 26)], [(43, some 27), (35, some 19)]] 77627910 mixed (by kernel_rfl) ?_)
  refine G_step [0, 3] 1 [] (by kernel_rfl) (allM (all_cons (q_run (.agg (lst C4.cells l)) rfl rfl (wv_n rfl) rfl (fun _ _ hρ hm => r_loadW ag25 sz25 (hρ _ _ rfl) (hm.at 1 rfl) (tsz hl))) (all_cons (q_run (.agg (lst C4.cells l)) rfl rfl (wv_n rfl) rfl (fun _ _ hρ hm => r_loadW ag25 sz25 (hρ _ _ rfl) (hm.at 1 rfl) (tsz hl))) all_nil))) (allM (all_cons ?_ all_nil))
  refine LOb_call (.agg (lst C4.cells (flipL l))) [] rfl (wv_n rfl) rfl rfl (fun _ _ hρ _ => r_call (args := [.agg (lst C4.cells l)]) (enters_of Try.func21 (by kernel_rfl) rfl) (hρ _ _ rfl) ((cons2 (hρ _ _ rfl) rfl)) rfl) (fun w _ => flip_c l w hl) (by kernel_rfl) ?_
  refine G_step [3] 2 [] (by kernel_rfl) (allM (all_cons (q_run (.agg (lst C4.cells l)) rfl rfl (wv_n rfl) rfl (fun _ _ hρ hm => r_loadW ag25 sz25 (hρ _ _ rfl) (hm.at 1 rfl) (tsz hl))) all_nil)) (allM (all_cons ?_ all_nil))
  refine LOb_call (.agg (lst C4.cells (flipL (flipL l)))) [(4, .bool false), (5, .bool false), (6, .agg (lst C4.cells (turnN l (times q)))), (7, .int .i64 q), (8, .int .i64 (-q)), (10, .agg (lst C4.cells l))] rfl (wv_n rfl) rfl rfl (fun _ _ hρ _ => r_call (args := [.agg (lst C4.cells (flipL l))]) (enters_of Try.func21 (by kernel_rfl) rfl) (hρ _ _ rfl) ((cons2 (hρ _ _ rfl) rfl)) rfl) (fun w _ => flip_c (flipL l) w (flipL_len _)) (by kernel_rfl) ?_
  refine G_step [3, 4, 5, 6, 7, 8, 10] 9 [] (by kernel_rfl) (allM (all_cons (q_run (.agg (lst C4.cells l)) rfl rfl (wv_n rfl) rfl (fun _ _ hρ hm => r_loadW ag25 sz25 (hρ _ _ rfl) (hm.at 1 rfl) (tsz hl))) (all_cons (q_run (.bool false) rfl rfl (wv_n rfl) rfl (fun _ w hρ _ => r_as (r_neqA (by kernel_rfl) (hρ _ _ rfl) (hρ _ _ rfl) (eq_til (flipL_len _) hl w)) (bool_as (by rw [decide_eq_true (show (flipL (flipL l)) = l from flip_flip hl)]; rfl)))) (all_cons (q_run (.bool false) rfl rfl (wv_n rfl) rfl (fun _ _ hρ _ => r_move (hρ _ _ rfl))) (all_cons (q_run (.agg (lst C4.cells (turnN l (times q)))) rfl rfl (wv_y rfl rfl) rfl (fun _ _ hρ hm => r_loadW ag25 sz25 (hρ _ _ rfl) (hm.at 2 rfl) (tsz (turnN_len hl _)))) (all_cons (q_run (.int .i64 q) rfl rfl (wv_y rfl rfl) rfl (fun _ _ hρ _ => r_move (hρ _ _ rfl))) (all_cons (q_run (.int .i64 (-q)) rfl rfl (wv_y rfl rfl) rfl (fun _ _ hρ _ => r_as (r_neg (hρ _ _ rfl)) (int_as ((wrap64 (by omega) (by omega)).trans (by omega))))) (all_cons (q_run (.agg (lst C4.cells l)) rfl rfl (wv_y rfl rfl) rfl (fun _ _ hρ hm => r_loadW ag25 sz25 (hρ _ _ rfl) (hm.at 1 rfl) (tsz hl))) all_nil)))))))) (allM (all_cons ?_ all_nil))
  refine LOb_call (.agg (lst C4.cells (turnN (turnN l (times q)) (times (-q))))) [(11, .bool false), (12, .bool false), (13, .bool false), (14, .agg (lst C4.cells (turnN l (times q)))), (16, .agg (lst C4.cells (turnN l (times q))))] rfl (wv_y rfl rfl) rfl rfl (fun _ _ hρ _ => r_call (args := [.agg (lst C4.cells (turnN l (times q))), .int .i64 (-q)]) (enters_of Try.func23 (by kernel_rfl) rfl) (hρ _ _ rfl) ((cons2 (hρ _ _ rfl) (cons2 (hρ _ _ rfl) rfl))) rfl) (fun w _ => turn_c (turnN l (times q)) (-q) w (turnN_len hl _)) (by kernel_rfl) ?_
  refine G_step [10, 11, 12, 13, 14, 16] 15 [] (by kernel_rfl) (allM (all_cons (q_run (.agg (lst C4.cells l)) rfl rfl (wv_y rfl rfl) rfl (fun _ _ hρ hm => r_loadW ag25 sz25 (hρ _ _ rfl) (hm.at 1 rfl) (tsz hl))) (all_cons (q_run (.bool false) rfl rfl (wv_y rfl rfl) rfl (fun _ w hρ _ => r_as (r_neqA (by kernel_rfl) (hρ _ _ rfl) (hρ _ _ rfl) (eq_til (turnN_len (turnN_len hl _) _) hl w)) (bool_as (by rw [decide_eq_true (show (turnN (turnN l (times q)) (times (-q))) = l from turn_back hl q)]; rfl)))) (all_cons (q_run (.bool false) rfl rfl (wv_n rfl) rfl (fun _ _ hρ _ => r_pick_f (hρ _ _ rfl) (hρ _ _ rfl))) (all_cons (q_run (.bool false) rfl rfl (wv_n rfl) rfl (fun _ _ hρ _ => r_move (hρ _ _ rfl))) (all_cons (q_run (.agg (lst C4.cells (turnN l (times q)))) rfl rfl (wv_y rfl rfl) rfl (fun _ _ hρ hm => r_loadW ag25 sz25 (hρ _ _ rfl) (hm.at 2 rfl) (tsz (turnN_len hl _)))) (all_cons (q_run (.agg (lst C4.cells (turnN l (times q)))) rfl rfl (wv_y rfl rfl) rfl (fun _ _ hρ hm => r_loadW ag25 sz25 (hρ _ _ rfl) (hm.at 2 rfl) (tsz (turnN_len hl _)))) all_nil))))))) (allM (all_cons ?_ all_nil))
  refine LOb_call (.agg (lst C4.cells (turnN (turnN l (times q)) (times 4)))) [(17, .bool false), (18, .bool false), (19, .bool false), (20, .agg (lst C4.cells (turnN l (times q)))), (22, .agg (lst C4.cells l)), (24, .int .i64 q), (25, .int .i64 (-q))] rfl (wv_y rfl rfl) rfl rfl (fun _ _ hρ _ => r_call (args := [.agg (lst C4.cells (turnN l (times q))), .int .i64 4]) (enters_of Try.func23 (by kernel_rfl) rfl) (hρ _ _ rfl) ((cons2 (hρ _ _ rfl) (cons2 (hρ _ _ rfl) rfl))) rfl) (fun w _ => turn_c (turnN l (times q)) 4 w (turnN_len hl _)) (by kernel_rfl) ?_
  refine G_step [16, 17, 18, 19, 20, 22, 24, 25] 21 [] (by kernel_rfl) (allM (all_cons (q_run (.agg (lst C4.cells (turnN l (times q)))) rfl rfl (wv_y rfl rfl) rfl (fun _ _ hρ hm => r_loadW ag25 sz25 (hρ _ _ rfl) (hm.at 2 rfl) (tsz (turnN_len hl _)))) (all_cons (q_run (.bool false) rfl rfl (wv_y rfl rfl) rfl (fun _ w hρ _ => r_as (r_neqA (by kernel_rfl) (hρ _ _ rfl) (hρ _ _ rfl) (eq_til (turnN_len (turnN_len hl _) _) (turnN_len hl _) w)) (bool_as (by rw [decide_eq_true (show (turnN (turnN l (times q)) (times 4)) = (turnN l (times q)) from rfl)]; rfl)))) (all_cons (q_run (.bool false) rfl rfl (wv_n rfl) rfl (fun _ _ hρ _ => r_pick_f (hρ _ _ rfl) (hρ _ _ rfl))) (all_cons (q_run (.bool false) rfl rfl (wv_n rfl) rfl (fun _ _ hρ _ => r_move (hρ _ _ rfl))) (all_cons (q_run (.agg (lst C4.cells (turnN l (times q)))) rfl rfl (wv_y rfl rfl) rfl (fun _ _ hρ hm => r_loadW ag25 sz25 (hρ _ _ rfl) (hm.at 2 rfl) (tsz (turnN_len hl _)))) (all_cons (q_run (.agg (lst C4.cells l)) rfl rfl (wv_y rfl rfl) rfl (fun _ _ hρ hm => r_loadW ag25 sz25 (hρ _ _ rfl) (hm.at 1 rfl) (tsz hl))) (all_cons (q_run (.int .i64 q) rfl rfl (wv_y rfl rfl) rfl (fun _ _ hρ _ => r_move (hρ _ _ rfl))) (all_cons (q_run (.int .i64 (-q)) rfl rfl (wv_y rfl rfl) rfl (fun _ _ hρ _ => r_as (r_neg (hρ _ _ rfl)) (int_as ((wrap64 (by omega) (by omega)).trans (by omega))))) all_nil))))))))) (allM (all_cons ?_ all_nil))
  refine LOb_call (.agg (lst C4.cells (flipL (turnN l (times q))))) [] rfl (wv_y rfl rfl) rfl rfl (fun _ _ hρ _ => r_call (args := [.agg (lst C4.cells (turnN l (times q)))]) (enters_of Try.func21 (by kernel_rfl) rfl) (hρ _ _ rfl) ((cons2 (hρ _ _ rfl) rfl)) rfl) (fun w _ => flip_c (turnN l (times q)) w (turnN_len hl _)) (by kernel_rfl) ?_
  refine G_step [22, 24, 25] 23 [] (by kernel_rfl) (allM (all_cons (q_run (.agg (lst C4.cells l)) rfl rfl (wv_y rfl rfl) rfl (fun _ _ hρ hm => r_loadW ag25 sz25 (hρ _ _ rfl) (hm.at 1 rfl) (tsz hl))) (all_cons (q_run (.int .i64 q) rfl rfl (wv_y rfl rfl) rfl (fun _ _ hρ _ => r_move (hρ _ _ rfl))) (all_cons (q_run (.int .i64 (-q)) rfl rfl (wv_y rfl rfl) rfl (fun _ _ hρ _ => r_as (r_neg (hρ _ _ rfl)) (int_as ((wrap64 (by omega) (by omega)).trans (by omega))))) all_nil)))) (allM (all_cons ?_ all_nil))
  refine LOb_call (.agg (lst C4.cells (flipL l))) [] rfl (wv_y rfl rfl) rfl rfl (fun _ _ hρ _ => r_call (args := [.agg (lst C4.cells l)]) (enters_of Try.func21 (by kernel_rfl) rfl) (hρ _ _ rfl) ((cons2 (hρ _ _ rfl) rfl)) rfl) (fun w _ => flip_c l w hl) (by kernel_rfl) ?_
  refine G_step [24, 25] 26 [] (by kernel_rfl) (allM (all_cons (q_run (.int .i64 q) rfl rfl (wv_y rfl rfl) rfl (fun _ _ hρ _ => r_move (hρ _ _ rfl))) (all_cons (q_run (.int .i64 (-q)) rfl rfl (wv_y rfl rfl) rfl (fun _ _ hρ _ => r_as (r_neg (hρ _ _ rfl)) (int_as ((wrap64 (by omega) (by omega)).trans (by omega))))) all_nil))) (allM (all_cons ?_ all_nil))
  refine LOb_call (.agg (lst C4.cells (turnN (flipL l) (times (-q))))) [(27, .bool false), (28, .bool false)] rfl (wv_y rfl rfl) rfl rfl (fun _ _ hρ _ => r_call (args := [.agg (lst C4.cells (flipL l)), .int .i64 (-q)]) (enters_of Try.func23 (by kernel_rfl) rfl) (hρ _ _ rfl) ((cons2 (hρ _ _ rfl) (cons2 (hρ _ _ rfl) rfl))) rfl) (fun w _ => turn_c (flipL l) (-q) w (flipL_len _)) (by kernel_rfl) ?_
  refine G_last [27, 28] [(2, .pointer (some ⟨B1, 0, none⟩)), (4, .bool false), (5, .pointer (some ⟨B2, 0, none⟩)), (44, .bool false)] (by kernel_rfl) (allM (all_cons (q_run (.bool false) rfl rfl (wv_y rfl rfl) rfl (fun _ w hρ _ => r_as (r_neqA (by kernel_rfl) (hρ _ _ rfl) (hρ _ _ rfl) (eq_til (flipL_len _) (turnN_len (flipL_len _) _) w)) (bool_as (by rw [decide_eq_true (show (flipL (turnN l (times q))) = (turnN (flipL l) (times (-q))) from flip_turn q)]; rfl)))) (all_cons (q_run (.bool false) rfl rfl (wv_n rfl) rfl (fun _ _ hρ _ => r_pick_f (hρ _ _ rfl) (hρ _ _ rfl))) all_nil))) (end_old rfl rfl (end_old rfl rfl (end_old rfl rfl (end_new 28 rfl rfl end_nil)))) ?_
  refine T_cond_f rfl ?_
  refine T_skip' ?_
  refine p_seq ?_
  refine T_seq ?_
  refine T_seq (T_region ?_)
  refine TL_q (.agg (lst C4.cells l)) (fun _ _ hρ hm => r_loadW ag25 sz25 (hρ _ _ rfl) (hm.at 1 rfl) (tsz hl)) rfl rfl rfl (w_n rfl) ?_
  refine TL_callN (fun (_ : Option Addr × Nat) => True) (fun (a3, cap3) => .slice a3 ((colsN l 64).length) cap3) (fun (a3, cap3) => [(3, .row (.slice a3 ((colsN l 64).length) cap3) 23 4 ((colsN l 64).length) ((colsN l 64).flatMap C4.cells))]) (fun _ _ hρ _ => r_call (args := [.agg (lst C4.cells l)]) (enters_of Try.func11 (by kernel_rfl) rfl) (hρ _ _ rfl) ((cons2 (hρ _ _ rfl) rfl)) rfl) (fun w _ => (colors_c l w hl).mono fun e w' ⟨a', cap', he, hb, hr⟩ => ⟨(a', cap'), trivial, he, hb, newOk1 3 hr⟩) rfl rfl rfl (w_n rfl) ?_
  rintro ⟨a3, cap3⟩ -
  refine TL_q (.int .i64 (((colsN l 64).length : Nat) : Int)) (fun _ _ hρ _ => r_len sl26 (hρ _ _ rfl)) rfl rfl rfl (w_n rfl) ?_
  refine TL_q (.int .i64 0) (fun _ _ hρ _ => r_move (hρ _ _ rfl)) rfl rfl rfl (w_n rfl) ?_
  refine TL_seq ?_
  refine T_block ?_
  refine T_loop (ι := Nat) (fun (k : Nat) => k ≤ (colsN l 64).length) (fun (k : Nat) => [(2, .pointer (some ⟨B1, 0, none⟩)), (5, .pointer (some ⟨B2, 0, none⟩)), (46, .slice a3 ((colsN l 64).length) cap3), (47, .int .i64 (((colsN l 64).length : Nat) : Int)), (48, .int .i64 ((k : Nat) : Int))]) (fun (k : Nat) => [(3, .row (.slice a3 ((colsN l 64).length) cap3) 23 4 ((colsN l 64).length) ((colsN l 64).flatMap C4.cells)), (1, .blk B1 (.cells (lst C4.cells l) 25)), (2, .blk B2 (.cells (lst C4.cells (turnN l (times q))) 25))]) (fun (k : Nat) => (colsN l 64).length - k) 0 (Nat.zero_le _) (sub_cons rfl (sub_cons rfl (sub_cons rfl (sub_cons rfl (sub_cons rfl sub_nil))))) (sub_cons rfl (sub_cons rfl (sub_cons rfl sub_nil))) ?_
  rintro k hp
  show T _ _ _ [(2, .pointer (some ⟨B1, 0, none⟩)), (5, .pointer (some ⟨B2, 0, none⟩)), (46, .slice a3 ((colsN l 64).length) cap3), (47, .int .i64 (((colsN l 64).length : Nat) : Int)), (48, .int .i64 ((k : Nat) : Int))] [(3, .row (.slice a3 ((colsN l 64).length) cap3) 23 4 ((colsN l 64).length) ((colsN l 64).flatMap C4.cells)), (1, .blk B1 (.cells (lst C4.cells l) 25)), (2, .blk B2 (.cells (lst C4.cells (turnN l (times q))) 25))]
  refine T_seq (T_region ?_)
  refine TL_q (.bool (decide (((k : Nat) : Int) < (((colsN l 64).length : Nat) : Int)))) (fun _ _ hρ _ => r_lss (hρ _ _ rfl) (hρ _ _ rfl)) rfl rfl rfl (w_n rfl) ?_
  refine TL_seq ?_
  refine T_seq ?_
  refine T_cond rfl (fun h1 => ?_) (fun h1 => ?_)
  · replace h1 := of_decide_eq_true h1
    refine T_skip' ?_
    refine p_seq ?_
    refine T_seq ?_
    refine T_block ?_
    obtain ⟨x, hx⟩ : ∃ x, (colsN l 64)[k]? = some x := ⟨_, List.getElem?_eq_getElem (by omega)⟩
    refine T_row 3 rfl (by omega) (fun g4 ha4 => ?_)
    subst ha4
    refine T_rowcap 3 rfl (fun hrc4 => ?_)
    refine T_seq (T_region ?_)
    refine TL_q (.pointer (some ⟨g4, 0 + k * 4, none⟩)) (fun _ _ hρ _ => r_indexAddrS (i := k) sl26 sz23 (hρ _ _ rfl) (hρ _ _ rfl) (by omega)) rfl rfl rfl (w_n rfl) ?_
    refine TL_q (.agg #[.int .u8 x.r, .int .u8 x.g, .int .u8 x.b, .int .u8 x.a]) (fun _ _ hρ hm => r_loadOwn (f := C4.cells) (u := x) (l := (colsN l 64)) ag23 sz23 (hρ _ _ rfl) (hm.row 3 rfl) rfl rfl C4.cells_len hx) rfl rfl rfl (w_n rfl) ?_
    refine TL_new 4 (.cells #[.int .u8 0, .int .u8 0, .int .u8 0, .int .u8 0] 23) (fun B => .pointer (some ⟨B, 0, none⟩)) (fun _ _ _ _ => r_alloc (v := .agg #[.int .u8 0, .int .u8 0, .int .u8 0, .int .u8 0]) (by kernel_rfl) rfl) rfl rfl rfl (w_n rfl) ?_
    intro B5
    refine TL_store 4 (.cells #[.int .u8 x.r, .int .u8 x.g, .int .u8 x.b, .int .u8 x.a] 23) rfl (fun _ _ hρ hm => r_store sz23 (hρ _ _ rfl) (hρ _ _ rfl) (hm.at 4 rfl) rfl rfl rfl rfl) rfl rfl (w_n rfl) ?_
    refine TL_seq ?_
    refine T_seq (T_region ?_)
    refine TL_q (.agg (lst C4.cells l)) (fun _ _ hρ hm => r_loadW ag25 sz25 (hρ _ _ rfl) (hm.at 1 rfl) (tsz hl)) rfl rfl rfl (w_n rfl) ?_
    refine TL_q (.agg #[.int .u8 x.r, .int .u8 x.g, .int .u8 x.b, .int .u8 x.a]) (fun _ _ hρ hm => r_loadA ag23 sz23 (hρ _ _ rfl) (hm.at 4 rfl) rfl rfl) rfl rfl rfl (w_n rfl) ?_
    refine TL_call (.int .i64 ((cntN l x 64 : Nat) : Int)) (fun _ _ hρ _ => r_call (args := [.agg (lst C4.cells l), .agg #[.int .u8 x.r, .int .u8 x.g, .int .u8 x.b, .int .u8 x.a]]) (enters_of Try.func15 (by kernel_rfl) rfl) (hρ _ _ rfl) ((cons2 (hρ _ _ rfl) (cons2 (hρ _ _ rfl) rfl))) rfl) (fun w _ => count_c l x w hl) rfl rfl rfl (w_n rfl) ?_
    refine TL_q (.int .i64 ((cntN l x 64 : Nat) : Int)) (fun _ _ hρ _ => r_assign (hρ _ _ rfl)) rfl rfl rfl (w_n rfl) ?_
    refine TL_seq ?_
    have hx1 : ¬ ((cntN l x 64 : Nat) : Int) < 1 := by have := (mem_cols l x 64).1 (List.mem_of_getElem? hx); omega
    refine T_seq (T_draw (V := [(0, .agg (lst C4.cells (turnN l (times q)))), (1, .agg #[.int .u8 x.r, .int .u8 x.g, .int .u8 x.b, .int .u8 x.a]), (3, .int .i64 ((cntN l x 64 : Nat) : Int))]) [0, 0, 3, 0, 15, 31, 63, 127, 63, 511, 63, 2047, 4095, 8191, 16383, 32767, 65535] [[(5, none)], [(7, none)], [(55, some 0), (56, some 1)], [(8, none)], [(57, some 2), (58, some 3)], [(59, some 4)], [(2, none)], [(61, some 6)], [(7, none)], [(62, some 7), (63, some 8)], [(8, none)], [(64, some 9), (65, some 10)], [(66, some 11), (60, some 5)], [(67, some 12)], [(8, none)], [(69, some 14)], [(70, some 15), (68, some 13)]] 644 mixed (by kernel_rfl) ?_)
    refine G_step [0, 1, 3] 2 [] (by kernel_rfl) (allM (all_cons (q_run (.agg (lst C4.cells (turnN l (times q)))) rfl rfl (wv_n rfl) rfl (fun _ _ hρ hm => r_loadW ag25 sz25 (hρ _ _ rfl) (hm.at 2 rfl) (tsz (turnN_len hl _)))) (all_cons (q_run (.agg #[.int .u8 x.r, .int .u8 x.g, .int .u8 x.b, .int .u8 x.a]) rfl rfl (wv_n rfl) rfl (fun _ _ hρ hm => r_loadA ag23 sz23 (hρ _ _ rfl) (hm.at 4 rfl) rfl rfl)) (all_cons (q_run (.int .i64 ((cntN l x 64 : Nat) : Int)) rfl rfl (wv_n rfl) rfl (fun _ _ hρ _ => r_move (hρ _ _ rfl))) all_nil)))) (allM (all_cons ?_ all_nil))
    refine LOb_call (.int .i64 ((cntN l x 64 : Nat) : Int)) [(4, .bool false), (5, .bool false), (6, .agg (lst C4.cells l)), (8, .agg #[.int .u8 x.r, .int .u8 x.g, .int .u8 x.b, .int .u8 x.a]), (10, .int .i64 ((cntN l x 64 : Nat) : Int))] rfl (wv_n rfl) rfl rfl (fun _ _ hρ _ => r_call (args := [.agg (lst C4.cells (turnN l (times q))), .agg #[.int .u8 x.r, .int .u8 x.g, .int .u8 x.b, .int .u8 x.a]]) (enters_of Try.func15 (by kernel_rfl) rfl) (hρ _ _ rfl) ((cons2 (hρ _ _ rfl) (cons2 (hρ _ _ rfl) rfl))) rfl) (fun w _ => (count_c (turnN l (times q)) x w (turnN_len hl _)).mono fun _ _ h => ⟨h.1.trans (congrArg Ending.returned (congrArg (fun z : Nat => Value.int .i64 z) (cnt_turnN l x _))), h.2⟩) (by kernel_rfl) ?_
    refine G_step [3, 4, 5, 6, 8, 10] 7 [] (by kernel_rfl) (allM (all_cons (q_run (.int .i64 ((cntN l x 64 : Nat) : Int)) rfl rfl (wv_n rfl) rfl (fun _ _ hρ _ => r_move (hρ _ _ rfl))) (all_cons (q_run (.bool false) rfl rfl (wv_n rfl) rfl (fun _ _ hρ _ => r_as (r_neq (hρ _ _ rfl) (hρ _ _ rfl)) (bool_as (by simp)))) (all_cons (q_run (.bool false) rfl rfl (wv_n rfl) rfl (fun _ _ hρ _ => r_move (hρ _ _ rfl))) (all_cons (q_run (.agg (lst C4.cells l)) rfl rfl (wv_y rfl rfl) rfl (fun _ _ hρ hm => r_loadW ag25 sz25 (hρ _ _ rfl) (hm.at 1 rfl) (tsz hl))) (all_cons (q_run (.agg #[.int .u8 x.r, .int .u8 x.g, .int .u8 x.b, .int .u8 x.a]) rfl rfl (wv_y rfl rfl) rfl (fun _ _ hρ hm => r_loadA ag23 sz23 (hρ _ _ rfl) (hm.at 4 rfl) rfl rfl)) (all_cons (q_run (.int .i64 ((cntN l x 64 : Nat) : Int)) rfl rfl (wv_y rfl rfl) rfl (fun _ _ hρ _ => r_move (hρ _ _ rfl))) all_nil))))))) (allM (all_cons ?_ all_nil))
    refine LOb_call (.agg (lst C4.cells (flipL l))) [] rfl (wv_y rfl rfl) rfl rfl (fun _ _ hρ _ => r_call (args := [.agg (lst C4.cells l)]) (enters_of Try.func21 (by kernel_rfl) rfl) (hρ _ _ rfl) ((cons2 (hρ _ _ rfl) rfl)) rfl) (fun w _ => flip_c l w hl) (by kernel_rfl) ?_
    refine G_step [8, 10] 9 [] (by kernel_rfl) (allM (all_cons (q_run (.agg #[.int .u8 x.r, .int .u8 x.g, .int .u8 x.b, .int .u8 x.a]) rfl rfl (wv_y rfl rfl) rfl (fun _ _ hρ hm => r_loadA ag23 sz23 (hρ _ _ rfl) (hm.at 4 rfl) rfl rfl)) (all_cons (q_run (.int .i64 ((cntN l x 64 : Nat) : Int)) rfl rfl (wv_y rfl rfl) rfl (fun _ _ hρ _ => r_move (hρ _ _ rfl))) all_nil))) (allM (all_cons ?_ all_nil))
    refine LOb_call (.int .i64 ((cntN l x 64 : Nat) : Int)) [(11, .bool false), (12, .bool false), (13, .bool false), (14, .int .i64 ((cntN l x 64 : Nat) : Int)), (15, .bool false), (16, .bool false)] rfl (wv_y rfl rfl) rfl rfl (fun _ _ hρ _ => r_call (args := [.agg (lst C4.cells (flipL l)), .agg #[.int .u8 x.r, .int .u8 x.g, .int .u8 x.b, .int .u8 x.a]]) (enters_of Try.func15 (by kernel_rfl) rfl) (hρ _ _ rfl) ((cons2 (hρ _ _ rfl) (cons2 (hρ _ _ rfl) rfl))) rfl) (fun w _ => (count_c (flipL l) x w (flipL_len _)).mono fun _ _ h => ⟨h.1.trans (congrArg Ending.returned (congrArg (fun z : Nat => Value.int .i64 z) (cnt_flip l x))), h.2⟩) (by kernel_rfl) ?_
    refine G_last [10, 11, 12, 13, 14, 15, 16] [(2, .pointer (some ⟨B1, 0, none⟩)), (5, .pointer (some ⟨B2, 0, none⟩)), (46, .slice (some ⟨g4, 0, none⟩) ((colsN l 64).length) cap3), (47, .int .i64 (((colsN l 64).length : Nat) : Int)), (48, .int .i64 ((k : Nat) : Int)), (49, .bool (decide (((k : Nat) : Int) < (((colsN l 64).length : Nat) : Int)))), (50, .pointer (some ⟨g4, 0 + k * 4, none⟩)), (51, .agg #[.int .u8 x.r, .int .u8 x.g, .int .u8 x.b, .int .u8 x.a]), (7, .pointer (some ⟨B5, 0, none⟩)), (52, .agg (lst C4.cells l)), (53, .agg #[.int .u8 x.r, .int .u8 x.g, .int .u8 x.b, .int .u8 x.a]), (54, .int .i64 ((cntN l x 64 : Nat) : Int)), (8, .int .i64 ((cntN l x 64 : Nat) : Int)), (55, .agg (lst C4.cells (turnN l (times q)))), (56, .agg #[.int .u8 x.r, .int .u8 x.g, .int .u8 x.b, .int .u8 x.a]), (57, .int .i64 ((cntN l x 64 : Nat) : Int)), (58, .int .i64 ((cntN l x 64 : Nat) : Int)), (59, .bool false), (60, .bool false), (61, .agg (lst C4.cells l)), (62, .agg (lst C4.cells (flipL l))), (63, .agg #[.int .u8 x.r, .int .u8 x.g, .int .u8 x.b, .int .u8 x.a]), (64, .int .i64 ((cntN l x 64 : Nat) : Int)), (65, .int .i64 ((cntN l x 64 : Nat) : Int)), (66, .bool false), (67, .bool false), (68, .bool false), (69, .int .i64 ((cntN l x 64 : Nat) : Int)), (70, .bool false), (71, .bool false)] (by kernel_rfl) (allM (all_cons (q_run (.int .i64 ((cntN l x 64 : Nat) : Int)) rfl rfl (wv_y rfl rfl) rfl (fun _ _ hρ _ => r_move (hρ _ _ rfl))) (all_cons (q_run (.bool false) rfl rfl (wv_y rfl rfl) rfl (fun _ _ hρ _ => r_as (r_neq (hρ _ _ rfl) (hρ _ _ rfl)) (bool_as (by simp)))) (all_cons (q_run (.bool false) rfl rfl (wv_n rfl) rfl (fun _ _ hρ _ => r_pick_f (hρ _ _ rfl) (hρ _ _ rfl))) (all_cons (q_run (.bool false) rfl rfl (wv_n rfl) rfl (fun _ _ hρ _ => r_move (hρ _ _ rfl))) (all_cons (q_run (.int .i64 ((cntN l x 64 : Nat) : Int)) rfl rfl (wv_y rfl rfl) rfl (fun _ _ hρ _ => r_move (hρ _ _ rfl))) (all_cons (q_run (.bool false) rfl rfl (wv_y rfl rfl) rfl (fun _ _ hρ _ => r_as (r_lss (hρ _ _ rfl) (hρ _ _ rfl)) (bool_as (decide_eq_false hx1)))) (all_cons (q_run (.bool false) rfl rfl (wv_n rfl) rfl (fun _ _ hρ _ => r_pick_f (hρ _ _ rfl) (hρ _ _ rfl))) all_nil)))))))) (end_old rfl rfl (end_old rfl rfl (end_old rfl rfl (end_old rfl rfl (end_old rfl rfl (end_old rfl rfl (end_old rfl rfl (end_old rfl rfl (end_old rfl rfl (end_old rfl rfl (end_old rfl rfl (end_old rfl rfl (end_old rfl rfl (end_new 0 rfl rfl (end_new 1 rfl rfl (end_new 2 rfl rfl (end_new 3 rfl rfl (end_new 4 rfl rfl (end_new 5 rfl rfl (end_new 6 rfl rfl (end_new 7 rfl rfl (end_new 8 rfl rfl (end_new 9 rfl rfl (end_new 10 rfl rfl (end_new 11 rfl rfl (end_new 12 rfl rfl (end_new 13 rfl rfl (end_new 14 rfl rfl (end_new 15 rfl rfl (end_new 16 rfl rfl end_nil)))))))))))))))))))))))))))))) ?_
    refine T_cond_f rfl ?_
    refine T_skip' ?_
    refine p_blk_n ?_
    refine p_seq ?_
    refine T_region ?_
    refine TL_q (.int .i64 ((k + 1 : Nat) : Int)) (fun _ _ hρ _ => r_as (r_add (hρ _ _ rfl) (hρ _ _ rfl)) (int_as ((wrap64 (by omega) (by omega)).trans (by omega)))) rfl rfl rfl (w_n rfl) ?_
    refine TL_q (.int .i64 ((k + 1 : Nat) : Int)) (fun _ _ hρ _ => r_move (hρ _ _ rfl)) rfl rfl rfl (w_n rfl) ?_
    refine TL_nil ?_
    exact p_at (k + 1) ⟨by omega, by omega⟩ (sub_cons rfl (sub_cons rfl (sub_cons rfl (sub_cons rfl (sub_cons rfl sub_nil))))) (sub_cons rfl (sub_cons rfl (sub_cons rfl sub_nil)))
  · replace h1 := of_decide_eq_false h1
    refine T_exit' ?_
    refine p_then_x ?_
    refine p_then_x ?_
    refine p_blk_x ?_
    refine p_seq ?_
    refine T_seq (T_draw (V := [(0, .agg (lst C4.cells (turnN l (times q)))), (3, .agg (lst C4.cells l))]) [0, 1, 3, 0, 11, 27, 63, 127] [[(5, none)], [(73, some 0)], [(74, some 1)], [(2, none)], [(76, some 3)], [(77, some 4)], [(75, some 2), (78, some 5)], [(79, some 6)]] 18 mixed (by kernel_rfl) ?_)
    refine G_step [0, 3] 1 [] (by kernel_rfl) (allM (all_cons (q_run (.agg (lst C4.cells (turnN l (times q)))) rfl rfl (wv_n rfl) rfl (fun _ _ hρ hm => r_loadW ag25 sz25 (hρ _ _ rfl) (hm.at 2 rfl) (tsz (turnN_len hl _)))) (all_cons (q_run (.agg (lst C4.cells l)) rfl rfl (wv_n rfl) rfl (fun _ _ hρ hm => r_loadW ag25 sz25 (hρ _ _ rfl) (hm.at 1 rfl) (tsz hl))) all_nil))) (allM (all_cons ?_ all_nil))
    refine LOb_callN (fun (_ : Option Addr × Nat) => True) (fun (a8, cap8) => .slice a8 ((colsN (turnN l (times q)) 64).length) cap8) (fun (a8, cap8) => [(5, .row (.slice a8 ((colsN (turnN l (times q)) 64).length) cap8) 23 4 ((colsN (turnN l (times q)) 64).length) ((colsN (turnN l (times q)) 64).flatMap C4.cells))]) (fun (a8, cap8) => [(2, .int .i64 (((colsN (turnN l (times q)) 64).length : Nat) : Int))]) rfl (wv_n rfl) rfl rfl (fun _ _ hρ _ => r_call (args := [.agg (lst C4.cells (turnN l (times q)))]) (enters_of Try.func11 (by kernel_rfl) rfl) (hρ _ _ rfl) ((cons2 (hρ _ _ rfl) rfl)) rfl) (fun w _ => (colors_c (turnN l (times q)) w (turnN_len hl _)).mono fun e w' ⟨a', cap', he, hb, hr⟩ => ⟨(a', cap'), trivial, he, hb, newOk1 5 hr⟩) (fun (a8, cap8) => by kernel_rfl) ?_
    rintro ⟨a8, cap8⟩ -
    refine G_step [2, 3] 4 [] (by kernel_rfl) (allM (all_cons (q_run (.int .i64 (((colsN (turnN l (times q)) 64).length : Nat) : Int)) rfl rfl (wv_n rfl) rfl (fun _ _ hρ _ => r_len sl26 (hρ _ _ rfl))) (all_cons (q_run (.agg (lst C4.cells l)) rfl rfl (wv_n rfl) rfl (fun _ _ hρ hm => r_loadW ag25 sz25 (hρ _ _ rfl) (hm.at 1 rfl) (tsz hl))) all_nil))) (allM (all_cons ?_ all_nil))
    refine LOb_callN (fun (_ : Option Addr × Nat) => True) (fun (a9, cap9) => .slice a9 ((colsN l 64).length) cap9) (fun (a9, cap9) => [(6, .row (.slice a9 ((colsN l 64).length) cap9) 23 4 ((colsN l 64).length) ((colsN l 64).flatMap C4.cells))]) (fun (a9, cap9) => [(5, .int .i64 (((colsN l 64).length : Nat) : Int)), (6, .bool true), (7, .bool true)]) rfl (wv_n rfl) rfl rfl (fun _ _ hρ _ => r_call (args := [.agg (lst C4.cells l)]) (enters_of Try.func11 (by kernel_rfl) rfl) (hρ _ _ rfl) ((cons2 (hρ _ _ rfl) rfl)) rfl) (fun w _ => (colors_c l w hl).mono fun e w' ⟨a', cap', he, hb, hr⟩ => ⟨(a', cap'), trivial, he, hb, newOk1 6 hr⟩) (fun (a9, cap9) => by kernel_rfl) ?_
    rintro ⟨a9, cap9⟩ -
    refine G_last [2, 5, 6, 7] [(4, .bool true)] (by kernel_rfl) (allM (all_cons (q_run (.int .i64 (((colsN (turnN l (times q)) 64).length : Nat) : Int)) rfl rfl (wv_n rfl) rfl (fun _ _ hρ _ => r_len sl26 (hρ _ _ rfl))) (all_cons (q_run (.int .i64 (((colsN l 64).length : Nat) : Int)) rfl rfl (wv_n rfl) rfl (fun _ _ hρ _ => r_len sl26 (hρ _ _ rfl))) (all_cons (q_run (.bool true) rfl rfl (wv_n rfl) rfl (fun _ _ hρ _ => r_as (r_eql (hρ _ _ rfl) (hρ _ _ rfl)) (bool_as (decide_eq_true hlen)))) (all_cons (q_run (.bool true) rfl rfl (wv_n rfl) rfl (fun _ _ hρ _ => r_assign (hρ _ _ rfl))) all_nil))))) (end_new 7 rfl rfl end_nil) ?_
    refine T_ret' ?_
    refine ret_of rfl (.bool true) (fun tmps w hk hm => res1 rfl (res_tmp (hk 4 _ rfl))) (fun w hm => ?_)
    exact ⟨rfl, hm.ext⟩

set_option maxHeartbeats 4000000 in
theorem sums_any (l : List C4) (x0 y0 : Int) (w : World) (hl : l.length = 64) : Calls Try.prog 8 #[til l, .int .i64 x0, .int .i64 y0] w fun e w' => e = .returned (.bool true) ∧ Below w.heap.size w w' := by
  have hcl := cols_le l 64
  obtain ⟨dx, hdxe⟩ : ∃ q, q = x0.tmod 9 := ⟨_, rfl⟩
  obtain ⟨dy, hdye⟩ : ∃ q, q = y0.tmod 9 := ⟨_, rfl⟩
  have hdx0 := tmod_bd x0 (n := 9) (by decide)
  have hdy0 := tmod_bd y0 (n := 9) (by decide)
  rw [← hdxe] at hdx0
  rw [← hdye] at hdy0
  have hdx : -8 ≤ dx ∧ dx ≤ 8 := by omega
  have hdy : -8 ≤ dy ∧ dy ≤ 8 := by omega
  have hrc : ¬ ((runN l 63 : Nat) : Int) < (((colsN l 64).length : Nat) : Int) := by have h : (colsN l 64).length ≤ runN l 63 := run_cols l 63; omega
  refine calls_of_T (l := [.agg (lst C4.cells l), .int .i64 x0, .int .i64 y0]) 141 Try.func8 rfl rfl rfl ?_
  show T _ _ _ [(0, .agg (lst C4.cells l)), (1, .int .i64 x0), (2, .int .i64 y0)] []
  refine T_seq (T_region ?_)
  refine TL_new 1 (.cells (lst C4.cells l) 25) (fun B => .pointer (some ⟨B, 0, none⟩)) (fun _ _ hρ _ => r_box (hρ _ _ rfl) rfl) rfl rfl rfl (w_n rfl) ?_
  intro B1
  refine TL_q (.bool false) (fun _ _ hρ _ => r_assign (hρ _ _ rfl)) rfl rfl rfl (w_n rfl) ?_
  refine TL_seq ?_
  refine T_seq ?_
  refine T_seq (T_region ?_)
  refine TL_call (.bool true) (fun _ _ hρ _ => r_call (args := []) (enters_of Try.func9 (by kernel_rfl) rfl) (hρ _ _ rfl) (by rfl) rfl) (fun w _ => wakes_any w) rfl rfl rfl (w_n rfl) ?_
  refine TL_q (.bool false) (fun _ _ hρ _ => r_not (b := true) (hρ _ _ rfl)) rfl rfl rfl (w_n rfl) ?_
  refine TL_seq ?_
  refine T_cond_f rfl ?_
  refine T_skip' ?_
  refine p_seq ?_
  refine T_seq (T_region ?_)
  refine TL_q (.agg (lst C4.cells l)) (fun _ _ hρ hm => r_loadW ag25 sz25 (hρ _ _ rfl) (hm.at 1 rfl) (tsz hl)) rfl rfl rfl (w_n rfl) ?_
  refine TL_callN (fun (_ : Option Addr × Nat) => True) (fun (a2, cap2) => .slice a2 ((colsN l 64).length) cap2) (fun (a2, cap2) => [(2, .row (.slice a2 ((colsN l 64).length) cap2) 23 4 ((colsN l 64).length) ((colsN l 64).flatMap C4.cells))]) (fun _ _ hρ _ => r_call (args := [.agg (lst C4.cells l)]) (enters_of Try.func11 (by kernel_rfl) rfl) (hρ _ _ rfl) ((cons2 (hρ _ _ rfl) rfl)) rfl) (fun w _ => (colors_c l w hl).mono fun e w' ⟨a', cap', he, hb, hr⟩ => ⟨(a', cap'), trivial, he, hb, newOk1 2 hr⟩) rfl rfl rfl (w_n rfl) ?_
  rintro ⟨a2, cap2⟩ -
  refine TL_q (.slice a2 ((colsN l 64).length) cap2) (fun _ _ hρ _ => r_assign (hρ _ _ rfl)) rfl rfl rfl (w_n rfl) ?_
  refine TL_seq ?_
  refine T_seq (T_region ?_)
  refine TL_q (.int .i64 0) (fun _ _ hρ _ => r_assign (hρ _ _ rfl)) rfl rfl rfl (w_n rfl) ?_
  refine TL_seq ?_
  refine T_seq ?_
  refine T_seq (T_region ?_)
  refine TL_q (.slice a2 ((colsN l 64).length) cap2) (fun _ _ hρ _ => r_move (hρ _ _ rfl)) rfl rfl rfl (w_n rfl) ?_
  refine TL_q (.int .i64 (((colsN l 64).length : Nat) : Int)) (fun _ _ hρ _ => r_len sl26 (hρ _ _ rfl)) rfl rfl rfl (w_n rfl) ?_
  refine TL_q (.int .i64 0) (fun _ _ hρ _ => r_move (hρ _ _ rfl)) rfl rfl rfl (w_n rfl) ?_
  refine TL_seq ?_
  refine T_block ?_
  refine T_loop (ι := Nat) (fun (k : Nat) => k ≤ (colsN l 64).length) (fun (k : Nat) => [(1, .int .i64 x0), (2, .int .i64 y0), (3, .pointer (some ⟨B1, 0, none⟩)), (7, .slice a2 ((colsN l 64).length) cap2), (23, .slice a2 ((colsN l 64).length) cap2), (24, .int .i64 (((colsN l 64).length : Nat) : Int)), (25, .int .i64 ((k : Nat) : Int)), (8, .int .i64 ((sumN l (colsN l 64) k : Nat) : Int))]) (fun (k : Nat) => [(2, .row (.slice a2 ((colsN l 64).length) cap2) 23 4 ((colsN l 64).length) ((colsN l 64).flatMap C4.cells)), (1, .blk B1 (.cells (lst C4.cells l) 25))]) (fun (k : Nat) => (colsN l 64).length - k) 0 (Nat.zero_le _) (sub_cons rfl (sub_cons rfl (sub_cons rfl (sub_cons rfl (sub_cons rfl (sub_cons rfl (sub_cons rfl (sub_cons rfl sub_nil)))))))) (sub_cons rfl (sub_cons rfl sub_nil)) ?_
  rintro k hp
  show T _ _ _ [(1, .int .i64 x0), (2, .int .i64 y0), (3, .pointer (some ⟨B1, 0, none⟩)), (7, .slice a2 ((colsN l 64).length) cap2), (23, .slice a2 ((colsN l 64).length) cap2), (24, .int .i64 (((colsN l 64).length : Nat) : Int)), (25, .int .i64 ((k : Nat) : Int)), (8, .int .i64 ((sumN l (colsN l 64) k : Nat) : Int))] [(2, .row (.slice a2 ((colsN l 64).length) cap2) 23 4 ((colsN l 64).length) ((colsN l 64).flatMap C4.cells)), (1, .blk B1 (.cells (lst C4.cells l) 25))]
  refine T_seq (T_region ?_)
  refine TL_q (.bool (decide (((k : Nat) : Int) < (((colsN l 64).length : Nat) : Int)))) (fun _ _ hρ _ => r_lss (hρ _ _ rfl) (hρ _ _ rfl)) rfl rfl rfl (w_n rfl) ?_
  refine TL_seq ?_
  refine T_seq ?_
  refine T_cond rfl (fun h1 => ?_) (fun h1 => ?_)
  · replace h1 := of_decide_eq_true h1
    refine T_skip' ?_
    refine p_seq ?_
    refine T_seq ?_
    refine T_block ?_
    obtain ⟨x, hx⟩ : ∃ x, (colsN l 64)[k]? = some x := ⟨_, List.getElem?_eq_getElem (by omega)⟩
    refine T_row 2 rfl (by omega) (fun g3 ha3 => ?_)
    subst ha3
    refine T_rowcap 2 rfl (fun hrc3 => ?_)
    refine T_seq (T_region ?_)
    refine TL_q (.int .i64 ((k : Nat) : Int)) (fun _ _ hρ _ => r_move (hρ _ _ rfl)) rfl rfl rfl (w_n rfl) ?_
    refine TL_q (.pointer (some ⟨g3, 0 + k * 4, none⟩)) (fun _ _ hρ _ => r_indexAddrS (i := k) sl26 sz23 (hρ _ _ rfl) (hρ _ _ rfl) (by omega)) rfl rfl rfl (w_n rfl) ?_
    refine TL_q (.agg #[.int .u8 x.r, .int .u8 x.g, .int .u8 x.b, .int .u8 x.a]) (fun _ _ hρ hm => r_loadOwn (f := C4.cells) (u := x) (l := (colsN l 64)) ag23 sz23 (hρ _ _ rfl) (hm.row 2 rfl) rfl rfl C4.cells_len hx) rfl rfl rfl (w_n rfl) ?_
    refine TL_new 3 (.cells #[.int .u8 0, .int .u8 0, .int .u8 0, .int .u8 0] 23) (fun B => .pointer (some ⟨B, 0, none⟩)) (fun _ _ _ _ => r_alloc (v := .agg #[.int .u8 0, .int .u8 0, .int .u8 0, .int .u8 0]) (by kernel_rfl) rfl) rfl rfl rfl (w_n rfl) ?_
    intro B4
    refine TL_q (.int .i64 ((k : Nat) : Int)) (fun _ _ hρ _ => r_assign (hρ _ _ rfl)) rfl rfl rfl (w_n rfl) ?_
    refine TL_store 3 (.cells #[.int .u8 x.r, .int .u8 x.g, .int .u8 x.b, .int .u8 x.a] 23) rfl (fun _ _ hρ hm => r_store sz23 (hρ _ _ rfl) (hρ _ _ rfl) (hm.at 3 rfl) rfl rfl rfl rfl) rfl rfl (w_n rfl) ?_
    refine TL_seq ?_
    have hsb := sum_le l (colsN l 64) k
    have hxb := cnt_le l x 64
    refine T_seq (T_region ?_)
    refine TL_q (.int .i64 ((sumN l (colsN l 64) k : Nat) : Int)) (fun _ _ hρ _ => r_move (hρ _ _ rfl)) rfl rfl rfl (w_n rfl) ?_
    refine TL_q (.agg (lst C4.cells l)) (fun _ _ hρ hm => r_loadW ag25 sz25 (hρ _ _ rfl) (hm.at 1 rfl) (tsz hl)) rfl rfl rfl (w_n rfl) ?_
    refine TL_q (.agg #[.int .u8 x.r, .int .u8 x.g, .int .u8 x.b, .int .u8 x.a]) (fun _ _ hρ hm => r_loadA ag23 sz23 (hρ _ _ rfl) (hm.at 3 rfl) rfl rfl) rfl rfl rfl (w_n rfl) ?_
    refine TL_call (.int .i64 ((cntN l x 64 : Nat) : Int)) (fun _ _ hρ _ => r_call (args := [.agg (lst C4.cells l), .agg #[.int .u8 x.r, .int .u8 x.g, .int .u8 x.b, .int .u8 x.a]]) (enters_of Try.func15 (by kernel_rfl) rfl) (hρ _ _ rfl) ((cons2 (hρ _ _ rfl) (cons2 (hρ _ _ rfl) rfl))) rfl) (fun w _ => count_c l x w hl) rfl rfl rfl (w_n rfl) ?_
    refine TL_q (.int .i64 (((sumN l (colsN l 64) k) + cntN l x 64 : Nat) : Int)) (fun _ _ hρ _ => r_as (r_add (hρ _ _ rfl) (hρ _ _ rfl)) (int_as ((wrap64 (by omega) (by omega)).trans (by omega)))) rfl rfl rfl (w_n rfl) ?_
    refine TL_q (.int .i64 (((sumN l (colsN l 64) k) + cntN l x 64 : Nat) : Int)) (fun _ _ hρ _ => r_assign (hρ _ _ rfl)) rfl rfl rfl (w_n rfl) ?_
    refine TL_seq ?_
    obtain ⟨l5, hl5, hn5⟩ : ∃ lz, lz = (colsN l 64).take k ∧ lz.length = k := ⟨_, rfl, by rw [List.length_take]; omega⟩
    refine T_seq (T_draw (V := [(0, .slice (some ⟨g3, 0, none⟩) ((colsN l 64).length) cap2), (1, .int .i64 ((k : Nat) : Int)), (2, .slice (some ⟨g3, 0, none⟩) l5.length cap2), (3, .agg #[.int .u8 x.r, .int .u8 x.g, .int .u8 x.b, .int .u8 x.a])]) [0, 0, 3, 0, 15] [[(7, none)], [(9, none)], [(35, some 0), (36, some 1)], [(10, none)], [(37, some 2), (38, some 3)]] 16 mixed (by kernel_rfl) ?_)
    refine G_step [0, 1, 2, 3] 4 [] (by kernel_rfl) (allM (all_cons (q_run (.slice (some ⟨g3, 0, none⟩) ((colsN l 64).length) cap2) rfl rfl (wv_n rfl) rfl (fun _ _ hρ _ => r_move (hρ _ _ rfl))) (all_cons (q_run (.int .i64 ((k : Nat) : Int)) rfl rfl (wv_n rfl) rfl (fun _ _ hρ _ => r_move (hρ _ _ rfl))) (all_cons (q_run (.slice (some ⟨g3, 0, none⟩) l5.length cap2) rfl rfl (wv_n rfl) rfl (fun ρ _ hρ _ => r_as (r_sliceO sl26 sz23 (hρ _ _ rfl) (bd_none ρ _) (bd_some (n := k) (hρ _ _ rfl)) (bd_none ρ _) (by simp) (by omega) (by omega) (by omega)) (by rw [hn5]; exact slo_zero _ _ _ _))) (all_cons (q_run (.agg #[.int .u8 x.r, .int .u8 x.g, .int .u8 x.b, .int .u8 x.a]) rfl rfl (wv_n rfl) rfl (fun _ _ hρ hm => r_loadA ag23 sz23 (hρ _ _ rfl) (hm.at 3 rfl) rfl rfl)) all_nil))))) (allM (all_cons ?_ all_nil))
    refine LOb_call (.bool false) [] rfl (wv_n rfl) rfl rfl (fun _ _ hρ _ => r_call (args := [.slice (some ⟨g3, 0, none⟩) l5.length cap2, .agg #[.int .u8 x.r, .int .u8 x.g, .int .u8 x.b, .int .u8 x.a]]) (enters_of Try.func34 (by kernel_rfl) rfl) (hρ _ _ rfl) ((cons2 (hρ _ _ rfl) (cons2 (hρ _ _ rfl) rfl))) rfl) (fun w hm => (contains_col l5 x (some ⟨g3, 0, none⟩) cap2 w ((by have hs := SliceAt.front (l := (colsN l 64)) (SliceAt.own C4.cells_len (hm.row 2 rfl) rfl rfl) (n := k) (m := cap2) (by omega) (by omega) (by omega); rw [← hl5] at hs; exact hs)) (by omega)).mono fun _ _ h => ⟨h.1.trans (congrArg Ending.returned (bool_as (decide_eq_false (by rw [hl5]; exact cols_not hx)))), h.2⟩) (by kernel_rfl) ?_
    refine G_last [] [(1, .int .i64 x0), (2, .int .i64 y0), (3, .pointer (some ⟨B1, 0, none⟩)), (7, .slice (some ⟨g3, 0, none⟩) ((colsN l 64).length) cap2), (23, .slice (some ⟨g3, 0, none⟩) ((colsN l 64).length) cap2), (24, .int .i64 (((colsN l 64).length : Nat) : Int)), (25, .int .i64 ((k : Nat) : Int)), (26, .bool (decide (((k : Nat) : Int) < (((colsN l 64).length : Nat) : Int)))), (27, .int .i64 ((k : Nat) : Int)), (28, .pointer (some ⟨g3, 0 + k * 4, none⟩)), (29, .agg #[.int .u8 x.r, .int .u8 x.g, .int .u8 x.b, .int .u8 x.a]), (10, .pointer (some ⟨B4, 0, none⟩)), (9, .int .i64 ((k : Nat) : Int)), (30, .int .i64 ((sumN l (colsN l 64) k : Nat) : Int)), (31, .agg (lst C4.cells l)), (32, .agg #[.int .u8 x.r, .int .u8 x.g, .int .u8 x.b, .int .u8 x.a]), (33, .int .i64 ((cntN l x 64 : Nat) : Int)), (34, .int .i64 (((sumN l (colsN l 64) k) + cntN l x 64 : Nat) : Int)), (8, .int .i64 (((sumN l (colsN l 64) k) + cntN l x 64 : Nat) : Int)), (35, .slice (some ⟨g3, 0, none⟩) ((colsN l 64).length) cap2), (36, .int .i64 ((k : Nat) : Int)), (37, .slice (some ⟨g3, 0, none⟩) l5.length cap2), (38, .agg #[.int .u8 x.r, .int .u8 x.g, .int .u8 x.b, .int .u8 x.a]), (39, .bool false)] (by kernel_rfl) (allM all_nil) (end_old rfl rfl (end_old rfl rfl (end_old rfl rfl (end_old rfl rfl (end_old rfl rfl (end_old rfl rfl (end_old rfl rfl (end_old rfl rfl (end_old rfl rfl (end_old rfl rfl (end_old rfl rfl (end_old rfl rfl (end_old rfl rfl (end_old rfl rfl (end_old rfl rfl (end_old rfl rfl (end_old rfl rfl (end_old rfl rfl (end_old rfl rfl (end_new 0 rfl rfl (end_new 1 rfl rfl (end_new 2 rfl rfl (end_new 3 rfl rfl (end_new 4 rfl rfl end_nil)))))))))))))))))))))))) ?_
    refine T_cond_f rfl ?_
    refine T_skip' ?_
    refine p_blk_n ?_
    refine p_seq ?_
    refine T_region ?_
    refine TL_q (.int .i64 ((k + 1 : Nat) : Int)) (fun _ _ hρ _ => r_as (r_add (hρ _ _ rfl) (hρ _ _ rfl)) (int_as ((wrap64 (by omega) (by omega)).trans (by omega)))) rfl rfl rfl (w_n rfl) ?_
    refine TL_q (.int .i64 ((k + 1 : Nat) : Int)) (fun _ _ hρ _ => r_move (hρ _ _ rfl)) rfl rfl rfl (w_n rfl) ?_
    refine TL_nil ?_
    exact p_at (k + 1) ⟨by omega, by omega⟩ (sub_cons rfl (sub_cons rfl (sub_cons rfl (sub_cons rfl (sub_cons rfl (sub_cons rfl (sub_cons rfl (sub_cons (congrArg (fun z : Nat => some (Value.int .i64 z)) (sum_step hx).symm) sub_nil)))))))) (sub_cons rfl (sub_cons rfl sub_nil))
  · replace h1 := of_decide_eq_false h1
    refine T_exit' ?_
    refine p_then_x ?_
    refine p_then_x ?_
    refine p_blk_x ?_
    refine p_seq ?_
    refine T_seq ?_
    have hsum : ((sumN l (colsN l 64) k : Nat) : Int) = 64 := by have hk : k = (colsN l 64).length := (by omega); rw [hk, sum_all]; rfl
    refine T_seq (T_region ?_)
    refine TL_q (.int .i64 ((sumN l (colsN l 64) k : Nat) : Int)) (fun _ _ hρ _ => r_move (hρ _ _ rfl)) rfl rfl rfl (w_n rfl) ?_
    refine TL_q (.bool false) (fun _ _ hρ _ => r_as (r_neq (hρ _ _ rfl) (hρ _ _ rfl)) (bool_as (by rw [decide_eq_true hsum]; rfl))) rfl rfl rfl (w_n rfl) ?_
    refine TL_q (.bool false) (fun _ _ hρ _ => r_move (hρ _ _ rfl)) rfl rfl rfl (w_n rfl) ?_
    refine TL_q (.agg (lst C4.cells l)) (fun _ _ hρ hm => r_loadW ag25 sz25 (hρ _ _ rfl) (hm.at 1 rfl) (tsz hl)) rfl rfl rfl (want_y 43 rfl rfl rfl) ?_
    refine TL_call (.int .i64 ((runN l 63 : Nat) : Int)) (fun _ _ hρ _ => r_call (args := [.agg (lst C4.cells l)]) (enters_of Try.func13 (by kernel_rfl) rfl) (hρ _ _ rfl) ((cons2 (hρ _ _ rfl) rfl)) rfl) (fun w _ => runs_c l w hl) rfl rfl rfl (want_y 43 rfl rfl rfl) ?_
    refine TL_q (.slice a2 ((colsN l 64).length) cap2) (fun _ _ hρ _ => r_move (hρ _ _ rfl)) rfl rfl rfl (want_y 43 rfl rfl rfl) ?_
    refine TL_q (.int .i64 (((colsN l 64).length : Nat) : Int)) (fun _ _ hρ _ => r_len sl26 (hρ _ _ rfl)) rfl rfl rfl (want_y 43 rfl rfl rfl) ?_
    refine TL_q (.bool false) (fun _ _ hρ _ => r_as (r_lss (hρ _ _ rfl) (hρ _ _ rfl)) (bool_as (decide_eq_false hrc))) rfl rfl rfl (want_y 43 rfl rfl rfl) ?_
    refine TL_q (.bool false) (fun _ _ hρ _ => r_pick_f (hρ _ _ rfl) (hρ _ _ rfl)) rfl rfl rfl (w_n rfl) ?_
    refine TL_q (.bool false) (fun _ _ hρ _ => r_move (hρ _ _ rfl)) rfl rfl rfl (w_n rfl) ?_
    refine TL_q (.agg (lst C4.cells l)) (fun _ _ hρ hm => r_loadW ag25 sz25 (hρ _ _ rfl) (hm.at 1 rfl) (tsz hl)) rfl rfl rfl (want_y 50 rfl rfl rfl) ?_
    refine TL_call (.int .i64 ((runN l 63 : Nat) : Int)) (fun _ _ hρ _ => r_call (args := [.agg (lst C4.cells l)]) (enters_of Try.func13 (by kernel_rfl) rfl) (hρ _ _ rfl) ((cons2 (hρ _ _ rfl) rfl)) rfl) (fun w _ => runs_c l w hl) rfl rfl rfl (want_y 50 rfl rfl rfl) ?_
    refine TL_q (.bool (decide (((runN l 63 : Nat) : Int) = 1))) (fun _ _ hρ _ => r_eql (hρ _ _ rfl) (hρ _ _ rfl)) rfl rfl rfl (want_y 50 rfl rfl rfl) ?_
    refine TL_q (.slice a2 ((colsN l 64).length) cap2) (fun _ _ hρ _ => r_move (hρ _ _ rfl)) rfl rfl rfl (want_y 50 rfl rfl rfl) ?_
    refine TL_q (.int .i64 (((colsN l 64).length : Nat) : Int)) (fun _ _ hρ _ => r_len sl26 (hρ _ _ rfl)) rfl rfl rfl (want_y 50 rfl rfl rfl) ?_
    refine TL_q (.bool (decide ((((colsN l 64).length : Nat) : Int) = 1))) (fun _ _ hρ _ => r_eql (hρ _ _ rfl) (hρ _ _ rfl)) rfl rfl rfl (want_y 50 rfl rfl rfl) ?_
    refine TL_q (.bool false) (fun _ _ hρ _ => r_as (r_neqB (by kernel_rfl) (hρ _ _ rfl) (hρ _ _ rfl)) (bool_as (by rw [one_run]; simp))) rfl rfl rfl (want_y 50 rfl rfl rfl) ?_
    refine TL_q (.bool false) (fun _ _ hρ _ => r_pick_f (hρ _ _ rfl) (hρ _ _ rfl)) rfl rfl rfl (w_n rfl) ?_
    refine TL_seq ?_
    refine T_cond_f rfl ?_
    refine T_skip' ?_
    refine p_seq ?_
    refine T_seq (T_region ?_)
    refine TL_q (.int .i64 x0) (fun _ _ hρ _ => r_move (hρ _ _ rfl)) rfl rfl rfl (w_n rfl) ?_
    refine TL_q (.int .i64 dx) (fun _ _ hρ _ => r_as (r_rem (hρ _ _ rfl) (hρ _ _ rfl) (by decide)) (int_as hdxe.symm)) rfl rfl rfl (w_n rfl) ?_
    refine TL_q (.int .i64 y0) (fun _ _ hρ _ => r_move (hρ _ _ rfl)) rfl rfl rfl (w_n rfl) ?_
    refine TL_q (.int .i64 dy) (fun _ _ hρ _ => r_as (r_rem (hρ _ _ rfl) (hρ _ _ rfl) (by decide)) (int_as hdye.symm)) rfl rfl rfl (w_n rfl) ?_
    refine TL_q (.int .i64 dx) (fun _ _ hρ _ => r_assign (hρ _ _ rfl)) rfl rfl rfl (w_n rfl) ?_
    refine TL_q (.int .i64 dy) (fun _ _ hρ _ => r_assign (hρ _ _ rfl)) rfl rfl rfl (w_n rfl) ?_
    refine TL_seq ?_
    refine T_seq (T_region ?_)
    refine TL_q (.agg (lst C4.cells l)) (fun _ _ hρ hm => r_loadW ag25 sz25 (hρ _ _ rfl) (hm.at 1 rfl) (tsz hl)) rfl rfl rfl (w_n rfl) ?_
    refine TL_q (.int .i64 dx) (fun _ _ hρ _ => r_move (hρ _ _ rfl)) rfl rfl rfl (w_n rfl) ?_
    refine TL_q (.int .i64 dy) (fun _ _ hρ _ => r_move (hρ _ _ rfl)) rfl rfl rfl (w_n rfl) ?_
    refine TL_q (.agg #[.int .u8 0, .int .u8 0, .int .u8 0, .int .u8 0]) (fun _ _ _ _ => r_build (vs := []) (by kernel_rfl) rfl) rfl rfl rfl (w_n rfl) ?_
    refine TL_call (.agg (lst C4.cells (shiftL l zeroC dx dy))) (fun _ _ hρ _ => r_call (args := [.agg (lst C4.cells l), .int .i64 dx, .int .i64 dy, .agg #[.int .u8 0, .int .u8 0, .int .u8 0, .int .u8 0]]) (enters_of Try.func25 (by kernel_rfl) rfl) (hρ _ _ rfl) ((cons2 (hρ _ _ rfl) (cons2 (hρ _ _ rfl) (cons2 (hρ _ _ rfl) (cons2 (hρ _ _ rfl) rfl))))) rfl) (fun w _ => shift_c l dx dy zeroC w hl) rfl rfl rfl (w_n rfl) ?_
    refine TL_q (.int .i64 dx) (fun _ _ hρ _ => r_move (hρ _ _ rfl)) rfl rfl rfl (w_n rfl) ?_
    refine TL_q (.int .i64 (-dx)) (fun _ _ hρ _ => r_as (r_neg (hρ _ _ rfl)) (int_as ((wrap64 (by omega) (by omega)).trans (by omega)))) rfl rfl rfl (w_n rfl) ?_
    refine TL_q (.int .i64 dy) (fun _ _ hρ _ => r_move (hρ _ _ rfl)) rfl rfl rfl (w_n rfl) ?_
    refine TL_q (.int .i64 (-dy)) (fun _ _ hρ _ => r_as (r_neg (hρ _ _ rfl)) (int_as ((wrap64 (by omega) (by omega)).trans (by omega)))) rfl rfl rfl (w_n rfl) ?_
    refine TL_q (.agg #[.int .u8 0, .int .u8 0, .int .u8 0, .int .u8 0]) (fun _ _ _ _ => r_build (vs := []) (by kernel_rfl) rfl) rfl rfl rfl (w_n rfl) ?_
    refine TL_call (.agg (lst C4.cells (shiftL (shiftL l zeroC dx dy) zeroC (-dx) (-dy)))) (fun _ _ hρ _ => r_call (args := [.agg (lst C4.cells (shiftL l zeroC dx dy)), .int .i64 (-dx), .int .i64 (-dy), .agg #[.int .u8 0, .int .u8 0, .int .u8 0, .int .u8 0]]) (enters_of Try.func25 (by kernel_rfl) rfl) (hρ _ _ rfl) ((cons2 (hρ _ _ rfl) (cons2 (hρ _ _ rfl) (cons2 (hρ _ _ rfl) (cons2 (hρ _ _ rfl) rfl))))) rfl) (fun w _ => shift_c (shiftL l zeroC dx dy) (-dx) (-dy) zeroC w (movedL_len _ _ _)) rfl rfl rfl (w_n rfl) ?_
    refine TL_new 4 (.cells (lst C4.cells zero64) 25) (fun B => .pointer (some ⟨B, 0, none⟩)) (fun _ _ _ _ => r_alloc (v := .agg (lst C4.cells zero64)) (by kernel_rfl) rfl) rfl rfl rfl (w_n rfl) ?_
    intro B6
    refine TL_store 4 (.cells (lst C4.cells (shiftL (shiftL l zeroC dx dy) zeroC (-dx) (-dy))) 25) rfl (fun _ _ hρ hm => r_storeAll sz25 (hρ _ _ rfl) (hρ _ _ rfl) (hm.at 4 rfl) (tsz zero64_len) (tsz (movedL_len _ _ _)) (lst_one C4.cells_all _)) rfl rfl (w_n rfl) ?_
    refine TL_seq ?_
    refine T_sub [(3, .pointer (some ⟨B1, 0, none⟩)), (1, .int .i64 dx), (2, .int .i64 dy), (11, .pointer (some ⟨B6, 0, none⟩))] [(2, .row (.slice a2 ((colsN l 64).length) cap2) 23 4 ((colsN l 64).length) ((colsN l 64).flatMap C4.cells)), (1, .blk B1 (.cells (lst C4.cells l) 25)), (4, .blk B6 (.cells (lst C4.cells (shiftL (shiftL l zeroC dx dy) zeroC (-dx) (-dy))) 25))] (sub_cons rfl (sub_cons rfl (sub_cons rfl (sub_cons rfl sub_nil)))) (sub_cons rfl (sub_cons rfl (sub_cons rfl sub_nil))) ?_
    refine T_seq ?_
    refine T_seq (T_region ?_)
    refine TL_q (.int .i64 0) (fun _ _ hρ _ => r_move (hρ _ _ rfl)) rfl rfl rfl (w_n rfl) ?_
    refine TL_seq ?_
    refine T_block ?_
    refine T_loop (ι := Nat) (fun (v : Nat) => v ≤ 8) (fun (v : Nat) => [(3, .pointer (some ⟨B1, 0, none⟩)), (1, .int .i64 dx), (2, .int .i64 dy), (11, .pointer (some ⟨B6, 0, none⟩)), (74, .int .i64 ((v : Nat) : Int))]) (fun (v : Nat) => [(2, .row (.slice a2 ((colsN l 64).length) cap2) 23 4 ((colsN l 64).length) ((colsN l 64).flatMap C4.cells)), (1, .blk B1 (.cells (lst C4.cells l) 25)), (4, .blk B6 (.cells (lst C4.cells (shiftL (shiftL l zeroC dx dy) zeroC (-dx) (-dy))) 25))]) (fun (v : Nat) => 8 - v) 0 (Nat.zero_le _) (sub_cons rfl (sub_cons rfl (sub_cons rfl (sub_cons rfl (sub_cons rfl sub_nil))))) (sub_cons rfl (sub_cons rfl (sub_cons rfl sub_nil))) ?_
    rintro v hp
    show T _ _ _ [(3, .pointer (some ⟨B1, 0, none⟩)), (1, .int .i64 dx), (2, .int .i64 dy), (11, .pointer (some ⟨B6, 0, none⟩)), (74, .int .i64 ((v : Nat) : Int))] [(2, .row (.slice a2 ((colsN l 64).length) cap2) 23 4 ((colsN l 64).length) ((colsN l 64).flatMap C4.cells)), (1, .blk B1 (.cells (lst C4.cells l) 25)), (4, .blk B6 (.cells (lst C4.cells (shiftL (shiftL l zeroC dx dy) zeroC (-dx) (-dy))) 25))]
    refine T_seq (T_region ?_)
    refine TL_q (.bool (decide (((v : Nat) : Int) < 8))) (fun _ _ hρ _ => r_lss (hρ _ _ rfl) (hρ _ _ rfl)) rfl rfl rfl (w_n rfl) ?_
    refine TL_seq ?_
    refine T_seq ?_
    refine T_cond rfl (fun h2 => ?_) (fun h2 => ?_)
    · replace h2 := of_decide_eq_true h2
      refine T_skip' ?_
      refine p_seq ?_
      refine T_seq ?_
      refine T_block ?_
      refine T_seq (T_region ?_)
      refine TL_q (.int .i64 ((v : Nat) : Int)) (fun _ _ hρ _ => r_move (hρ _ _ rfl)) rfl rfl rfl (w_n rfl) ?_
      refine TL_q (.int .i64 ((v : Nat) : Int)) (fun _ _ hρ _ => r_assign (hρ _ _ rfl)) rfl rfl rfl (w_n rfl) ?_
      refine TL_seq ?_
      refine T_seq (T_region ?_)
      refine TL_q (.int .i64 0) (fun _ _ hρ _ => r_move (hρ _ _ rfl)) rfl rfl rfl (w_n rfl) ?_
      refine TL_seq ?_
      refine T_block ?_
      refine T_loop (ι := Nat) (fun (u : Nat) => u ≤ 8) (fun (u : Nat) => [(3, .pointer (some ⟨B1, 0, none⟩)), (1, .int .i64 dx), (2, .int .i64 dy), (11, .pointer (some ⟨B6, 0, none⟩)), (74, .int .i64 ((v : Nat) : Int)), (75, .bool (decide (((v : Nat) : Int) < 8))), (76, .int .i64 ((v : Nat) : Int)), (12, .int .i64 ((v : Nat) : Int)), (77, .int .i64 ((u : Nat) : Int))]) (fun (u : Nat) => [(2, .row (.slice a2 ((colsN l 64).length) cap2) 23 4 ((colsN l 64).length) ((colsN l 64).flatMap C4.cells)), (1, .blk B1 (.cells (lst C4.cells l) 25)), (4, .blk B6 (.cells (lst C4.cells (shiftL (shiftL l zeroC dx dy) zeroC (-dx) (-dy))) 25))]) (fun (u : Nat) => 8 - u) 0 (Nat.zero_le _) (sub_cons rfl (sub_cons rfl (sub_cons rfl (sub_cons rfl (sub_cons rfl (sub_cons rfl (sub_cons rfl (sub_cons rfl (sub_cons rfl sub_nil))))))))) (sub_cons rfl (sub_cons rfl (sub_cons rfl sub_nil))) ?_
      rintro u hp
      show T _ _ _ [(3, .pointer (some ⟨B1, 0, none⟩)), (1, .int .i64 dx), (2, .int .i64 dy), (11, .pointer (some ⟨B6, 0, none⟩)), (74, .int .i64 ((v : Nat) : Int)), (75, .bool (decide (((v : Nat) : Int) < 8))), (76, .int .i64 ((v : Nat) : Int)), (12, .int .i64 ((v : Nat) : Int)), (77, .int .i64 ((u : Nat) : Int))] [(2, .row (.slice a2 ((colsN l 64).length) cap2) 23 4 ((colsN l 64).length) ((colsN l 64).flatMap C4.cells)), (1, .blk B1 (.cells (lst C4.cells l) 25)), (4, .blk B6 (.cells (lst C4.cells (shiftL (shiftL l zeroC dx dy) zeroC (-dx) (-dy))) 25))]
      refine T_seq (T_region ?_)
      refine TL_q (.bool (decide (((u : Nat) : Int) < 8))) (fun _ _ hρ _ => r_lss (hρ _ _ rfl) (hρ _ _ rfl)) rfl rfl rfl (w_n rfl) ?_
      refine TL_seq ?_
      refine T_seq ?_
      refine T_cond rfl (fun h3 => ?_) (fun h3 => ?_)
      · replace h3 := of_decide_eq_true h3
        refine T_skip' ?_
        refine p_seq ?_
        refine T_seq ?_
        refine T_block ?_
        refine T_seq (T_region ?_)
        refine TL_q (.int .i64 ((u : Nat) : Int)) (fun _ _ hρ _ => r_move (hρ _ _ rfl)) rfl rfl rfl (w_n rfl) ?_
        refine TL_q (.int .i64 ((u : Nat) : Int)) (fun _ _ hρ _ => r_assign (hρ _ _ rfl)) rfl rfl rfl (w_n rfl) ?_
        refine TL_seq ?_
        by_cases hb1 : (0 : Int) ≤ ((u : Nat) : Int) + dx
        · skip
          by_cases hb2 : ((u : Nat) : Int) + dx < 8
          · skip
            by_cases hb3 : (0 : Int) ≤ ((v : Nat) : Int) + dy
            · skip
              by_cases hb4 : ((v : Nat) : Int) + dy < 8
              · skip
                refine T_seq (T_region ?_)
                refine TL_q (.int .i64 ((u : Nat) : Int)) (fun _ _ hρ _ => r_move (hρ _ _ rfl)) rfl rfl rfl (w_n rfl) ?_
                refine TL_q (.int .i64 dx) (fun _ _ hρ _ => r_move (hρ _ _ rfl)) rfl rfl rfl (w_n rfl) ?_
                refine TL_q (.int .i64 (((u : Nat) : Int) + dx)) (fun _ _ hρ _ => r_as (r_add (hρ _ _ rfl) (hρ _ _ rfl)) (int_as (wrap64 (by omega) (by omega)))) rfl rfl rfl (w_n rfl) ?_
                refine TL_q (.bool true) (fun _ _ hρ _ => r_as (r_geq (hρ _ _ rfl) (hρ _ _ rfl)) (bool_as (decide_eq_true hb1))) rfl rfl rfl (w_n rfl) ?_
                refine TL_q (.bool true) (fun _ _ hρ _ => r_move (hρ _ _ rfl)) rfl rfl rfl (w_n rfl) ?_
                refine TL_q (.int .i64 ((u : Nat) : Int)) (fun _ _ hρ _ => r_move (hρ _ _ rfl)) rfl rfl rfl (want_y 84 rfl rfl rfl) ?_
                refine TL_q (.int .i64 dx) (fun _ _ hρ _ => r_move (hρ _ _ rfl)) rfl rfl rfl (want_y 84 rfl rfl rfl) ?_
                refine TL_q (.int .i64 (((u : Nat) : Int) + dx)) (fun _ _ hρ _ => r_as (r_add (hρ _ _ rfl) (hρ _ _ rfl)) (int_as (wrap64 (by omega) (by omega)))) rfl rfl rfl (want_y 84 rfl rfl rfl) ?_
                refine TL_q (.bool true) (fun _ _ hρ _ => r_as (r_lss (hρ _ _ rfl) (hρ _ _ rfl)) (bool_as (decide_eq_true hb2))) rfl rfl rfl (want_y 84 rfl rfl rfl) ?_
                refine TL_q (.bool true) (fun _ _ hρ _ => r_pick_t (hρ _ _ rfl) (hρ _ _ rfl)) rfl rfl rfl (w_n rfl) ?_
                refine TL_q (.bool true) (fun _ _ hρ _ => r_move (hρ _ _ rfl)) rfl rfl rfl (w_n rfl) ?_
                refine TL_q (.int .i64 ((v : Nat) : Int)) (fun _ _ hρ _ => r_move (hρ _ _ rfl)) rfl rfl rfl (want_y 90 rfl rfl rfl) ?_
                refine TL_q (.int .i64 dy) (fun _ _ hρ _ => r_move (hρ _ _ rfl)) rfl rfl rfl (want_y 90 rfl rfl rfl) ?_
                refine TL_q (.int .i64 (((v : Nat) : Int) + dy)) (fun _ _ hρ _ => r_as (r_add (hρ _ _ rfl) (hρ _ _ rfl)) (int_as (wrap64 (by omega) (by omega)))) rfl rfl rfl (want_y 90 rfl rfl rfl) ?_
                refine TL_q (.bool true) (fun _ _ hρ _ => r_as (r_geq (hρ _ _ rfl) (hρ _ _ rfl)) (bool_as (decide_eq_true hb3))) rfl rfl rfl (want_y 90 rfl rfl rfl) ?_
                refine TL_q (.bool true) (fun _ _ hρ _ => r_pick_t (hρ _ _ rfl) (hρ _ _ rfl)) rfl rfl rfl (w_n rfl) ?_
                refine TL_q (.bool true) (fun _ _ hρ _ => r_move (hρ _ _ rfl)) rfl rfl rfl (w_n rfl) ?_
                refine TL_q (.int .i64 ((v : Nat) : Int)) (fun _ _ hρ _ => r_move (hρ _ _ rfl)) rfl rfl rfl (want_y 96 rfl rfl rfl) ?_
                refine TL_q (.int .i64 dy) (fun _ _ hρ _ => r_move (hρ _ _ rfl)) rfl rfl rfl (want_y 96 rfl rfl rfl) ?_
                refine TL_q (.int .i64 (((v : Nat) : Int) + dy)) (fun _ _ hρ _ => r_as (r_add (hρ _ _ rfl) (hρ _ _ rfl)) (int_as (wrap64 (by omega) (by omega)))) rfl rfl rfl (want_y 96 rfl rfl rfl) ?_
                refine TL_q (.bool true) (fun _ _ hρ _ => r_as (r_lss (hρ _ _ rfl) (hρ _ _ rfl)) (bool_as (decide_eq_true hb4))) rfl rfl rfl (want_y 96 rfl rfl rfl) ?_
                refine TL_q (.bool true) (fun _ _ hρ _ => r_pick_t (hρ _ _ rfl) (hρ _ _ rfl)) rfl rfl rfl (w_n rfl) ?_
                refine TL_q (.bool true) (fun _ _ hρ _ => r_assign (hρ _ _ rfl)) rfl rfl rfl (w_n rfl) ?_
                refine TL_seq ?_
                refine T_seq (T_region ?_)
                refine TL_q (.agg (lst C4.cells l)) (fun _ _ hρ hm => r_loadW ag25 sz25 (hρ _ _ rfl) (hm.at 1 rfl) (tsz hl)) rfl rfl rfl (w_n rfl) ?_
                refine TL_q (.int .i64 ((u : Nat) : Int)) (fun _ _ hρ _ => r_move (hρ _ _ rfl)) rfl rfl rfl (w_n rfl) ?_
                refine TL_q (.int .i64 ((v : Nat) : Int)) (fun _ _ hρ _ => r_move (hρ _ _ rfl)) rfl rfl rfl (w_n rfl) ?_
                refine TL_call (.tuple #[.agg #[.int .u8 ((atC l ((u : Nat) : Int) ((v : Nat) : Int)).r), .int .u8 ((atC l ((u : Nat) : Int) ((v : Nat) : Int)).g), .int .u8 ((atC l ((u : Nat) : Int) ((v : Nat) : Int)).b), .int .u8 ((atC l ((u : Nat) : Int) ((v : Nat) : Int)).a)], .int .i64 0]) (fun _ _ hρ _ => r_call (args := [.agg (lst C4.cells l), .int .i64 ((u : Nat) : Int), .int .i64 ((v : Nat) : Int)]) (enters_of Try.func19 (by kernel_rfl) rfl) (hρ _ _ rfl) ((cons2 (hρ _ _ rfl) (cons2 (hρ _ _ rfl) (cons2 (hρ _ _ rfl) rfl)))) rfl) (fun w _ => (at_c l ((u : Nat) : Int) ((v : Nat) : Int) w hl).mono fun _ _ h => ⟨h.1.trans (congrArg Ending.returned (by rw [atE_in (isP_in (by omega) (by omega))])), h.2⟩) rfl rfl rfl (w_n rfl) ?_
                refine TL_q (.tuple #[.agg #[.int .u8 ((atC l ((u : Nat) : Int) ((v : Nat) : Int)).r), .int .u8 ((atC l ((u : Nat) : Int) ((v : Nat) : Int)).g), .int .u8 ((atC l ((u : Nat) : Int) ((v : Nat) : Int)).b), .int .u8 ((atC l ((u : Nat) : Int) ((v : Nat) : Int)).a)], .int .i64 0]) (fun _ _ hρ _ => r_move (hρ _ _ rfl)) rfl rfl rfl (w_n rfl) ?_
                refine TL_q (.agg #[.int .u8 ((atC l ((u : Nat) : Int) ((v : Nat) : Int)).r), .int .u8 ((atC l ((u : Nat) : Int) ((v : Nat) : Int)).g), .int .u8 ((atC l ((u : Nat) : Int) ((v : Nat) : Int)).b), .int .u8 ((atC l ((u : Nat) : Int) ((v : Nat) : Int)).a)]) (fun _ _ hρ _ => r_extract (hρ _ _ rfl) rfl) rfl rfl rfl (w_n rfl) ?_
                refine TL_q (.int .i64 0) (fun _ _ hρ _ => r_extract (hρ _ _ rfl) rfl) rfl rfl rfl (w_n rfl) ?_
                refine TL_new 5 (.cells #[.int .u8 0, .int .u8 0, .int .u8 0, .int .u8 0] 23) (fun B => .pointer (some ⟨B, 0, none⟩)) (fun _ _ _ _ => r_alloc (v := .agg #[.int .u8 0, .int .u8 0, .int .u8 0, .int .u8 0]) (by kernel_rfl) rfl) rfl rfl rfl (w_n rfl) ?_
                intro B7
                refine TL_store 5 (.cells #[.int .u8 ((atC l ((u : Nat) : Int) ((v : Nat) : Int)).r), .int .u8 ((atC l ((u : Nat) : Int) ((v : Nat) : Int)).g), .int .u8 ((atC l ((u : Nat) : Int) ((v : Nat) : Int)).b), .int .u8 ((atC l ((u : Nat) : Int) ((v : Nat) : Int)).a)] 23) rfl (fun _ _ hρ hm => r_store sz23 (hρ _ _ rfl) (hρ _ _ rfl) (hm.at 5 rfl) rfl rfl rfl rfl) rfl rfl (w_n rfl) ?_
                refine TL_q (.int .i64 0) (fun _ _ hρ _ => r_assign (hρ _ _ rfl)) rfl rfl rfl (w_n rfl) ?_
                refine TL_seq ?_
                refine T_sub [(3, .pointer (some ⟨B1, 0, none⟩)), (1, .int .i64 dx), (2, .int .i64 dy), (11, .pointer (some ⟨B6, 0, none⟩)), (74, .int .i64 ((v : Nat) : Int)), (75, .bool (decide (((v : Nat) : Int) < 8))), (76, .int .i64 ((v : Nat) : Int)), (12, .int .i64 ((v : Nat) : Int)), (77, .int .i64 ((u : Nat) : Int)), (78, .bool (decide (((u : Nat) : Int) < 8))), (79, .int .i64 ((u : Nat) : Int)), (13, .int .i64 ((u : Nat) : Int)), (80, .int .i64 ((u : Nat) : Int)), (81, .int .i64 dx), (82, .int .i64 (((u : Nat) : Int) + dx)), (83, .bool true), (84, .bool true), (85, .int .i64 ((u : Nat) : Int)), (86, .int .i64 dx), (87, .int .i64 (((u : Nat) : Int) + dx)), (88, .bool true), (89, .bool true), (90, .bool true), (91, .int .i64 ((v : Nat) : Int)), (92, .int .i64 dy), (93, .int .i64 (((v : Nat) : Int) + dy)), (94, .bool true), (95, .bool true), (96, .bool true), (97, .int .i64 ((v : Nat) : Int)), (98, .int .i64 dy), (99, .int .i64 (((v : Nat) : Int) + dy)), (100, .bool true), (101, .bool true), (14, .bool true), (103, .agg (lst C4.cells l)), (104, .int .i64 ((u : Nat) : Int)), (105, .int .i64 ((v : Nat) : Int)), (106, .tuple #[.agg #[.int .u8 ((atC l ((u : Nat) : Int) ((v : Nat) : Int)).r), .int .u8 ((atC l ((u : Nat) : Int) ((v : Nat) : Int)).g), .int .u8 ((atC l ((u : Nat) : Int) ((v : Nat) : Int)).b), .int .u8 ((atC l ((u : Nat) : Int) ((v : Nat) : Int)).a)], .int .i64 0]), (102, .tuple #[.agg #[.int .u8 ((atC l ((u : Nat) : Int) ((v : Nat) : Int)).r), .int .u8 ((atC l ((u : Nat) : Int) ((v : Nat) : Int)).g), .int .u8 ((atC l ((u : Nat) : Int) ((v : Nat) : Int)).b), .int .u8 ((atC l ((u : Nat) : Int) ((v : Nat) : Int)).a)], .int .i64 0]), (107, .agg #[.int .u8 ((atC l ((u : Nat) : Int) ((v : Nat) : Int)).r), .int .u8 ((atC l ((u : Nat) : Int) ((v : Nat) : Int)).g), .int .u8 ((atC l ((u : Nat) : Int) ((v : Nat) : Int)).b), .int .u8 ((atC l ((u : Nat) : Int) ((v : Nat) : Int)).a)]), (108, .int .i64 0), (15, .pointer (some ⟨B7, 0, none⟩)), (16, .int .i64 0)] [(2, .row (.slice a2 ((colsN l 64).length) cap2) 23 4 ((colsN l 64).length) ((colsN l 64).flatMap C4.cells)), (1, .blk B1 (.cells (lst C4.cells l) 25)), (4, .blk B6 (.cells (lst C4.cells (shiftL (shiftL l zeroC dx dy) zeroC (-dx) (-dy))) 25)), (5, .blk B7 (.cells #[.int .u8 ((atC l ((u : Nat) : Int) ((v : Nat) : Int)).r), .int .u8 ((atC l ((u : Nat) : Int) ((v : Nat) : Int)).g), .int .u8 ((atC l ((u : Nat) : Int) ((v : Nat) : Int)).b), .int .u8 ((atC l ((u : Nat) : Int) ((v : Nat) : Int)).a)] 23))] (sub_cons rfl (sub_cons rfl (sub_cons rfl (sub_cons rfl (sub_cons rfl (sub_cons rfl (sub_cons rfl (sub_cons rfl (sub_cons rfl (sub_cons rfl (sub_cons rfl (sub_cons rfl (sub_cons rfl (sub_cons rfl (sub_cons rfl (sub_cons rfl (sub_cons rfl (sub_cons rfl (sub_cons rfl (sub_cons rfl (sub_cons rfl (sub_cons rfl (sub_cons rfl (sub_cons rfl (sub_cons rfl (sub_cons rfl (sub_cons rfl (sub_cons rfl (sub_cons rfl (sub_cons rfl (sub_cons rfl (sub_cons rfl (sub_cons rfl (sub_cons rfl (sub_cons rfl (sub_cons rfl (sub_cons rfl (sub_cons rfl (sub_cons rfl (sub_cons rfl (sub_cons rfl (sub_cons rfl (sub_cons rfl (sub_cons rfl sub_nil)))))))))))))))))))))))))))))))))))))))))))) (sub_cons rfl (sub_cons rfl (sub_cons rfl (sub_cons rfl sub_nil)))) ?_
                refine T_seq (T_region ?_)
                refine TL_q (.agg (lst C4.cells (shiftL (shiftL l zeroC dx dy) zeroC (-dx) (-dy)))) (fun _ _ hρ hm => r_loadW ag25 sz25 (hρ _ _ rfl) (hm.at 4 rfl) (tsz (movedL_len _ _ _))) rfl rfl rfl (w_n rfl) ?_
                refine TL_q (.int .i64 ((u : Nat) : Int)) (fun _ _ hρ _ => r_move (hρ _ _ rfl)) rfl rfl rfl (w_n rfl) ?_
                refine TL_q (.int .i64 ((v : Nat) : Int)) (fun _ _ hρ _ => r_move (hρ _ _ rfl)) rfl rfl rfl (w_n rfl) ?_
                refine TL_call (.tuple #[.agg #[.int .u8 ((atC l ((u : Nat) : Int) ((v : Nat) : Int)).r), .int .u8 ((atC l ((u : Nat) : Int) ((v : Nat) : Int)).g), .int .u8 ((atC l ((u : Nat) : Int) ((v : Nat) : Int)).b), .int .u8 ((atC l ((u : Nat) : Int) ((v : Nat) : Int)).a)], .int .i64 0]) (fun _ _ hρ _ => r_call (args := [.agg (lst C4.cells (shiftL (shiftL l zeroC dx dy) zeroC (-dx) (-dy))), .int .i64 ((u : Nat) : Int), .int .i64 ((v : Nat) : Int)]) (enters_of Try.func19 (by kernel_rfl) rfl) (hρ _ _ rfl) ((cons2 (hρ _ _ rfl) (cons2 (hρ _ _ rfl) (cons2 (hρ _ _ rfl) rfl)))) rfl) (fun w _ => (at_c (shiftL (shiftL l zeroC dx dy) zeroC (-dx) (-dy)) ((u : Nat) : Int) ((v : Nat) : Int) w (movedL_len _ _ _)).mono fun _ _ h => ⟨h.1.trans (congrArg Ending.returned (by rw [atE_in (isP_in (by omega) (by omega)), shift_back hdx hdy (by omega) (by omega), if_pos (show isP _ _ = true from decide_eq_true ⟨hb1, hb2, hb3, hb4⟩)])), h.2⟩) rfl rfl rfl (w_n rfl) ?_
                refine TL_q (.tuple #[.agg #[.int .u8 ((atC l ((u : Nat) : Int) ((v : Nat) : Int)).r), .int .u8 ((atC l ((u : Nat) : Int) ((v : Nat) : Int)).g), .int .u8 ((atC l ((u : Nat) : Int) ((v : Nat) : Int)).b), .int .u8 ((atC l ((u : Nat) : Int) ((v : Nat) : Int)).a)], .int .i64 0]) (fun _ _ hρ _ => r_move (hρ _ _ rfl)) rfl rfl rfl (w_n rfl) ?_
                refine TL_q (.agg #[.int .u8 ((atC l ((u : Nat) : Int) ((v : Nat) : Int)).r), .int .u8 ((atC l ((u : Nat) : Int) ((v : Nat) : Int)).g), .int .u8 ((atC l ((u : Nat) : Int) ((v : Nat) : Int)).b), .int .u8 ((atC l ((u : Nat) : Int) ((v : Nat) : Int)).a)]) (fun _ _ hρ _ => r_extract (hρ _ _ rfl) rfl) rfl rfl rfl (w_n rfl) ?_
                refine TL_q (.int .i64 0) (fun _ _ hρ _ => r_extract (hρ _ _ rfl) rfl) rfl rfl rfl (w_n rfl) ?_
                refine TL_new 6 (.cells #[.int .u8 0, .int .u8 0, .int .u8 0, .int .u8 0] 23) (fun B => .pointer (some ⟨B, 0, none⟩)) (fun _ _ _ _ => r_alloc (v := .agg #[.int .u8 0, .int .u8 0, .int .u8 0, .int .u8 0]) (by kernel_rfl) rfl) rfl rfl rfl (w_n rfl) ?_
                intro B8
                refine TL_store 6 (.cells #[.int .u8 ((atC l ((u : Nat) : Int) ((v : Nat) : Int)).r), .int .u8 ((atC l ((u : Nat) : Int) ((v : Nat) : Int)).g), .int .u8 ((atC l ((u : Nat) : Int) ((v : Nat) : Int)).b), .int .u8 ((atC l ((u : Nat) : Int) ((v : Nat) : Int)).a)] 23) rfl (fun _ _ hρ hm => r_store sz23 (hρ _ _ rfl) (hρ _ _ rfl) (hm.at 6 rfl) rfl rfl rfl rfl) rfl rfl (w_n rfl) ?_
                refine TL_q (.int .i64 0) (fun _ _ hρ _ => r_assign (hρ _ _ rfl)) rfl rfl rfl (w_n rfl) ?_
                refine TL_seq ?_
                refine T_seq (T_region ?_)
                refine TL_q (.int .i64 0) (fun _ _ hρ _ => r_move (hρ _ _ rfl)) rfl rfl rfl (w_n rfl) ?_
                refine TL_q (.bool false) (fun _ _ hρ _ => r_as (r_neq (hρ _ _ rfl) (hρ _ _ rfl)) (by rfl)) rfl rfl rfl (w_n rfl) ?_
                refine TL_q (.bool false) (fun _ _ hρ _ => r_move (hρ _ _ rfl)) rfl rfl rfl (w_n rfl) ?_
                refine TL_q (.int .i64 0) (fun _ _ hρ _ => r_move (hρ _ _ rfl)) rfl rfl rfl (want_y 118 rfl rfl rfl) ?_
                refine TL_q (.bool false) (fun _ _ hρ _ => r_as (r_neq (hρ _ _ rfl) (hρ _ _ rfl)) (by rfl)) rfl rfl rfl (want_y 118 rfl rfl rfl) ?_
                refine TL_q (.bool false) (fun _ _ hρ _ => r_pick_f (hρ _ _ rfl) (hρ _ _ rfl)) rfl rfl rfl (w_n rfl) ?_
                refine TL_q (.bool false) (fun _ _ hρ _ => r_move (hρ _ _ rfl)) rfl rfl rfl (w_n rfl) ?_
                refine TL_q (.bool true) (fun _ _ hρ _ => r_move (hρ _ _ rfl)) rfl rfl rfl (want_y 122 rfl rfl rfl) ?_
                refine TL_q (.bool true) (fun _ _ hρ _ => r_move (hρ _ _ rfl)) rfl rfl rfl (want_y 122 rfl rfl rfl) ?_
                refine TL_q (.agg #[.int .u8 ((atC l ((u : Nat) : Int) ((v : Nat) : Int)).r), .int .u8 ((atC l ((u : Nat) : Int) ((v : Nat) : Int)).g), .int .u8 ((atC l ((u : Nat) : Int) ((v : Nat) : Int)).b), .int .u8 ((atC l ((u : Nat) : Int) ((v : Nat) : Int)).a)]) (fun _ _ hρ hm => r_loadA ag23 sz23 (hρ _ _ rfl) (hm.at 6 rfl) rfl rfl) rfl rfl rfl (want_y 124 rfl rfl rfl) ?_
                refine TL_q (.agg #[.int .u8 ((atC l ((u : Nat) : Int) ((v : Nat) : Int)).r), .int .u8 ((atC l ((u : Nat) : Int) ((v : Nat) : Int)).g), .int .u8 ((atC l ((u : Nat) : Int) ((v : Nat) : Int)).b), .int .u8 ((atC l ((u : Nat) : Int) ((v : Nat) : Int)).a)]) (fun _ _ hρ hm => r_loadA ag23 sz23 (hρ _ _ rfl) (hm.at 5 rfl) rfl rfl) rfl rfl rfl (want_y 124 rfl rfl rfl) ?_
                refine TL_q (.bool false) (fun _ _ hρ _ => r_as (r_neqA (by kernel_rfl) (hρ _ _ rfl) (hρ _ _ rfl) (run_equalI (l := [(0, .u8), (1, .u8), (2, .u8), (3, .u8)]) (by kernel_rfl) rfl rfl)) (bool_as (by simp only [eqI_self]; try rfl))) rfl rfl rfl (want_y 124 rfl rfl rfl) ?_
                refine TL_q (.bool false) (fun _ _ hρ _ => r_pick_t (hρ _ _ rfl) (hρ _ _ rfl)) rfl rfl rfl (want_y 122 rfl rfl rfl) ?_
                refine TL_q (.bool false) (fun _ _ hρ _ => r_pick_f (hρ _ _ rfl) (hρ _ _ rfl)) rfl rfl rfl (w_n rfl) ?_
                refine TL_q (.bool false) (fun _ _ hρ _ => r_move (hρ _ _ rfl)) rfl rfl rfl (w_n rfl) ?_
                refine TL_q (.bool true) (fun _ _ hρ _ => r_move (hρ _ _ rfl)) rfl rfl rfl (want_y 130 rfl rfl rfl) ?_
                refine TL_q (.bool false) (fun _ _ hρ _ => r_not (b := true) (hρ _ _ rfl)) rfl rfl rfl (want_y 130 rfl rfl rfl) ?_
                refine TL_q (.bool false) (fun _ _ hρ _ => r_move (hρ _ _ rfl)) rfl rfl rfl (want_y 130 rfl rfl rfl) ?_
                refine TL_no rfl rfl (want_n 133 rfl rfl rfl) ?_
                refine TL_no rfl rfl (want_n 133 rfl rfl rfl) ?_
                refine TL_no rfl rfl (want_n 133 rfl rfl rfl) ?_
                refine TL_q (.bool false) (fun _ _ hρ _ => r_pick_f (hρ _ _ rfl) (hρ _ _ rfl)) rfl rfl rfl (want_y 130 rfl rfl rfl) ?_
                refine TL_q (.bool false) (fun _ _ hρ _ => r_pick_f (hρ _ _ rfl) (hρ _ _ rfl)) rfl rfl rfl (w_n rfl) ?_
                refine TL_seq ?_
                refine T_sub [(3, .pointer (some ⟨B1, 0, none⟩)), (1, .int .i64 dx), (2, .int .i64 dy), (11, .pointer (some ⟨B6, 0, none⟩)), (74, .int .i64 ((v : Nat) : Int)), (75, .bool (decide (((v : Nat) : Int) < 8))), (76, .int .i64 ((v : Nat) : Int)), (12, .int .i64 ((v : Nat) : Int)), (77, .int .i64 ((u : Nat) : Int)), (78, .bool (decide (((u : Nat) : Int) < 8))), (79, .int .i64 ((u : Nat) : Int)), (13, .int .i64 ((u : Nat) : Int)), (80, .int .i64 ((u : Nat) : Int)), (81, .int .i64 dx), (82, .int .i64 (((u : Nat) : Int) + dx)), (83, .bool true), (84, .bool true), (85, .int .i64 ((u : Nat) : Int)), (86, .int .i64 dx), (87, .int .i64 (((u : Nat) : Int) + dx)), (88, .bool true), (89, .bool true), (90, .bool true), (91, .int .i64 ((v : Nat) : Int)), (92, .int .i64 dy), (93, .int .i64 (((v : Nat) : Int) + dy)), (94, .bool true), (95, .bool true), (96, .bool true), (97, .int .i64 ((v : Nat) : Int)), (98, .int .i64 dy), (99, .int .i64 (((v : Nat) : Int) + dy)), (100, .bool true), (101, .bool true), (14, .bool true), (103, .agg (lst C4.cells l)), (104, .int .i64 ((u : Nat) : Int)), (105, .int .i64 ((v : Nat) : Int)), (106, .tuple #[.agg #[.int .u8 ((atC l ((u : Nat) : Int) ((v : Nat) : Int)).r), .int .u8 ((atC l ((u : Nat) : Int) ((v : Nat) : Int)).g), .int .u8 ((atC l ((u : Nat) : Int) ((v : Nat) : Int)).b), .int .u8 ((atC l ((u : Nat) : Int) ((v : Nat) : Int)).a)], .int .i64 0]), (102, .tuple #[.agg #[.int .u8 ((atC l ((u : Nat) : Int) ((v : Nat) : Int)).r), .int .u8 ((atC l ((u : Nat) : Int) ((v : Nat) : Int)).g), .int .u8 ((atC l ((u : Nat) : Int) ((v : Nat) : Int)).b), .int .u8 ((atC l ((u : Nat) : Int) ((v : Nat) : Int)).a)], .int .i64 0]), (107, .agg #[.int .u8 ((atC l ((u : Nat) : Int) ((v : Nat) : Int)).r), .int .u8 ((atC l ((u : Nat) : Int) ((v : Nat) : Int)).g), .int .u8 ((atC l ((u : Nat) : Int) ((v : Nat) : Int)).b), .int .u8 ((atC l ((u : Nat) : Int) ((v : Nat) : Int)).a)]), (108, .int .i64 0), (15, .pointer (some ⟨B7, 0, none⟩)), (16, .int .i64 0), (110, .agg (lst C4.cells (shiftL (shiftL l zeroC dx dy) zeroC (-dx) (-dy)))), (111, .int .i64 ((u : Nat) : Int)), (112, .int .i64 ((v : Nat) : Int)), (113, .tuple #[.agg #[.int .u8 ((atC l ((u : Nat) : Int) ((v : Nat) : Int)).r), .int .u8 ((atC l ((u : Nat) : Int) ((v : Nat) : Int)).g), .int .u8 ((atC l ((u : Nat) : Int) ((v : Nat) : Int)).b), .int .u8 ((atC l ((u : Nat) : Int) ((v : Nat) : Int)).a)], .int .i64 0]), (109, .tuple #[.agg #[.int .u8 ((atC l ((u : Nat) : Int) ((v : Nat) : Int)).r), .int .u8 ((atC l ((u : Nat) : Int) ((v : Nat) : Int)).g), .int .u8 ((atC l ((u : Nat) : Int) ((v : Nat) : Int)).b), .int .u8 ((atC l ((u : Nat) : Int) ((v : Nat) : Int)).a)], .int .i64 0]), (114, .agg #[.int .u8 ((atC l ((u : Nat) : Int) ((v : Nat) : Int)).r), .int .u8 ((atC l ((u : Nat) : Int) ((v : Nat) : Int)).g), .int .u8 ((atC l ((u : Nat) : Int) ((v : Nat) : Int)).b), .int .u8 ((atC l ((u : Nat) : Int) ((v : Nat) : Int)).a)]), (115, .int .i64 0), (17, .pointer (some ⟨B8, 0, none⟩)), (18, .int .i64 0), (116, .int .i64 0), (117, .bool false), (118, .bool false), (119, .int .i64 0), (120, .bool false), (121, .bool false), (122, .bool false), (123, .bool true), (124, .bool true), (125, .agg #[.int .u8 ((atC l ((u : Nat) : Int) ((v : Nat) : Int)).r), .int .u8 ((atC l ((u : Nat) : Int) ((v : Nat) : Int)).g), .int .u8 ((atC l ((u : Nat) : Int) ((v : Nat) : Int)).b), .int .u8 ((atC l ((u : Nat) : Int) ((v : Nat) : Int)).a)]), (126, .agg #[.int .u8 ((atC l ((u : Nat) : Int) ((v : Nat) : Int)).r), .int .u8 ((atC l ((u : Nat) : Int) ((v : Nat) : Int)).g), .int .u8 ((atC l ((u : Nat) : Int) ((v : Nat) : Int)).b), .int .u8 ((atC l ((u : Nat) : Int) ((v : Nat) : Int)).a)]), (127, .bool false), (128, .bool false), (129, .bool false), (130, .bool false), (131, .bool true), (132, .bool false), (133, .bool false), (134, undef), (135, undef), (136, undef), (137, .bool false), (138, .bool false)] [(2, .row (.slice a2 ((colsN l 64).length) cap2) 23 4 ((colsN l 64).length) ((colsN l 64).flatMap C4.cells)), (1, .blk B1 (.cells (lst C4.cells l) 25)), (4, .blk B6 (.cells (lst C4.cells (shiftL (shiftL l zeroC dx dy) zeroC (-dx) (-dy))) 25)), (5, .blk B7 (.cells #[.int .u8 ((atC l ((u : Nat) : Int) ((v : Nat) : Int)).r), .int .u8 ((atC l ((u : Nat) : Int) ((v : Nat) : Int)).g), .int .u8 ((atC l ((u : Nat) : Int) ((v : Nat) : Int)).b), .int .u8 ((atC l ((u : Nat) : Int) ((v : Nat) : Int)).a)] 23)), (6, .blk B8 (.cells #[.int .u8 ((atC l ((u : Nat) : Int) ((v : Nat) : Int)).r), .int .u8 ((atC l ((u : Nat) : Int) ((v : Nat) : Int)).g), .int .u8 ((atC l ((u : Nat) : Int) ((v : Nat) : Int)).b), .int .u8 ((atC l ((u : Nat) : Int) ((v : Nat) : Int)).a)] 23))] (sub_cons rfl (sub_cons rfl (sub_cons rfl (sub_cons rfl (sub_cons rfl (sub_cons rfl (sub_cons rfl (sub_cons rfl (sub_cons rfl (sub_cons rfl (sub_cons rfl (sub_cons rfl (sub_cons rfl (sub_cons rfl (sub_cons rfl (sub_cons rfl (sub_cons rfl (sub_cons rfl (sub_cons rfl (sub_cons rfl (sub_cons rfl (sub_cons rfl (sub_cons rfl (sub_cons rfl (sub_cons rfl (sub_cons rfl (sub_cons rfl (sub_cons rfl (sub_cons rfl (sub_cons rfl (sub_cons rfl (sub_cons rfl (sub_cons rfl (sub_cons rfl (sub_cons rfl (sub_cons rfl (sub_cons rfl (sub_cons rfl (sub_cons rfl (sub_cons rfl (sub_cons rfl (sub_cons rfl (sub_cons rfl (sub_cons rfl (sub_cons rfl (sub_cons rfl (sub_cons rfl (sub_cons rfl (sub_cons rfl (sub_cons rfl (sub_cons rfl (sub_cons rfl (sub_cons rfl (sub_cons rfl (sub_cons rfl (sub_cons rfl (sub_cons rfl (sub_cons rfl (sub_cons rfl (sub_cons rfl (sub_cons rfl (sub_cons rfl (sub_cons rfl (sub_cons rfl (sub_cons rfl (sub_cons rfl (sub_cons rfl (sub_cons rfl (sub_cons rfl (sub_cons rfl (sub_cons rfl (sub_cons rfl (sub_cons rfl (sub_cons rfl (sub_cons rfl (sub_cons rfl sub_nil)))))))))))))))))))))))))))))))))))))))))))))))))))))))))))))))))))))))))))) (sub_cons rfl (sub_cons rfl (sub_cons rfl (sub_cons rfl (sub_cons rfl sub_nil))))) ?_
                refine T_cond_f rfl ?_
                refine T_skip' ?_
                refine p_blk_n ?_
                refine p_seq ?_
                refine T_region ?_
                refine TL_q (.int .i64 ((u + 1 : Nat) : Int)) (fun _ _ hρ _ => r_as (r_add (hρ _ _ rfl) (hρ _ _ rfl)) (int_as ((wrap64 (by omega) (by omega)).trans (by omega)))) rfl rfl rfl (w_n rfl) ?_
                refine TL_q (.int .i64 ((u + 1 : Nat) : Int)) (fun _ _ hρ _ => r_move (hρ _ _ rfl)) rfl rfl rfl (w_n rfl) ?_
                refine TL_nil ?_
                exact p_at (u + 1) ⟨by omega, by omega⟩ (sub_cons rfl (sub_cons rfl (sub_cons rfl (sub_cons rfl (sub_cons rfl (sub_cons rfl (sub_cons rfl (sub_cons rfl (sub_cons rfl sub_nil))))))))) (sub_cons rfl (sub_cons rfl (sub_cons rfl sub_nil)))
              · skip
                refine T_seq (T_region ?_)
                refine TL_q (.int .i64 ((u : Nat) : Int)) (fun _ _ hρ _ => r_move (hρ _ _ rfl)) rfl rfl rfl (w_n rfl) ?_
                refine TL_q (.int .i64 dx) (fun _ _ hρ _ => r_move (hρ _ _ rfl)) rfl rfl rfl (w_n rfl) ?_
                refine TL_q (.int .i64 (((u : Nat) : Int) + dx)) (fun _ _ hρ _ => r_as (r_add (hρ _ _ rfl) (hρ _ _ rfl)) (int_as (wrap64 (by omega) (by omega)))) rfl rfl rfl (w_n rfl) ?_
                refine TL_q (.bool true) (fun _ _ hρ _ => r_as (r_geq (hρ _ _ rfl) (hρ _ _ rfl)) (bool_as (decide_eq_true hb1))) rfl rfl rfl (w_n rfl) ?_
                refine TL_q (.bool true) (fun _ _ hρ _ => r_move (hρ _ _ rfl)) rfl rfl rfl (w_n rfl) ?_
                refine TL_q (.int .i64 ((u : Nat) : Int)) (fun _ _ hρ _ => r_move (hρ _ _ rfl)) rfl rfl rfl (want_y 84 rfl rfl rfl) ?_
                refine TL_q (.int .i64 dx) (fun _ _ hρ _ => r_move (hρ _ _ rfl)) rfl rfl rfl (want_y 84 rfl rfl rfl) ?_
                refine TL_q (.int .i64 (((u : Nat) : Int) + dx)) (fun _ _ hρ _ => r_as (r_add (hρ _ _ rfl) (hρ _ _ rfl)) (int_as (wrap64 (by omega) (by omega)))) rfl rfl rfl (want_y 84 rfl rfl rfl) ?_
                refine TL_q (.bool true) (fun _ _ hρ _ => r_as (r_lss (hρ _ _ rfl) (hρ _ _ rfl)) (bool_as (decide_eq_true hb2))) rfl rfl rfl (want_y 84 rfl rfl rfl) ?_
                refine TL_q (.bool true) (fun _ _ hρ _ => r_pick_t (hρ _ _ rfl) (hρ _ _ rfl)) rfl rfl rfl (w_n rfl) ?_
                refine TL_q (.bool true) (fun _ _ hρ _ => r_move (hρ _ _ rfl)) rfl rfl rfl (w_n rfl) ?_
                refine TL_q (.int .i64 ((v : Nat) : Int)) (fun _ _ hρ _ => r_move (hρ _ _ rfl)) rfl rfl rfl (want_y 90 rfl rfl rfl) ?_
                refine TL_q (.int .i64 dy) (fun _ _ hρ _ => r_move (hρ _ _ rfl)) rfl rfl rfl (want_y 90 rfl rfl rfl) ?_
                refine TL_q (.int .i64 (((v : Nat) : Int) + dy)) (fun _ _ hρ _ => r_as (r_add (hρ _ _ rfl) (hρ _ _ rfl)) (int_as (wrap64 (by omega) (by omega)))) rfl rfl rfl (want_y 90 rfl rfl rfl) ?_
                refine TL_q (.bool true) (fun _ _ hρ _ => r_as (r_geq (hρ _ _ rfl) (hρ _ _ rfl)) (bool_as (decide_eq_true hb3))) rfl rfl rfl (want_y 90 rfl rfl rfl) ?_
                refine TL_q (.bool true) (fun _ _ hρ _ => r_pick_t (hρ _ _ rfl) (hρ _ _ rfl)) rfl rfl rfl (w_n rfl) ?_
                refine TL_q (.bool true) (fun _ _ hρ _ => r_move (hρ _ _ rfl)) rfl rfl rfl (w_n rfl) ?_
                refine TL_q (.int .i64 ((v : Nat) : Int)) (fun _ _ hρ _ => r_move (hρ _ _ rfl)) rfl rfl rfl (want_y 96 rfl rfl rfl) ?_
                refine TL_q (.int .i64 dy) (fun _ _ hρ _ => r_move (hρ _ _ rfl)) rfl rfl rfl (want_y 96 rfl rfl rfl) ?_
                refine TL_q (.int .i64 (((v : Nat) : Int) + dy)) (fun _ _ hρ _ => r_as (r_add (hρ _ _ rfl) (hρ _ _ rfl)) (int_as (wrap64 (by omega) (by omega)))) rfl rfl rfl (want_y 96 rfl rfl rfl) ?_
                refine TL_q (.bool false) (fun _ _ hρ _ => r_as (r_lss (hρ _ _ rfl) (hρ _ _ rfl)) (bool_as (decide_eq_false hb4))) rfl rfl rfl (want_y 96 rfl rfl rfl) ?_
                refine TL_q (.bool false) (fun _ _ hρ _ => r_pick_t (hρ _ _ rfl) (hρ _ _ rfl)) rfl rfl rfl (w_n rfl) ?_
                refine TL_q (.bool false) (fun _ _ hρ _ => r_assign (hρ _ _ rfl)) rfl rfl rfl (w_n rfl) ?_
                refine TL_seq ?_
                refine T_seq (T_region ?_)
                refine TL_q (.agg (lst C4.cells l)) (fun _ _ hρ hm => r_loadW ag25 sz25 (hρ _ _ rfl) (hm.at 1 rfl) (tsz hl)) rfl rfl rfl (w_n rfl) ?_
                refine TL_q (.int .i64 ((u : Nat) : Int)) (fun _ _ hρ _ => r_move (hρ _ _ rfl)) rfl rfl rfl (w_n rfl) ?_
                refine TL_q (.int .i64 ((v : Nat) : Int)) (fun _ _ hρ _ => r_move (hρ _ _ rfl)) rfl rfl rfl (w_n rfl) ?_
                refine TL_call (.tuple #[.agg #[.int .u8 ((atC l ((u : Nat) : Int) ((v : Nat) : Int)).r), .int .u8 ((atC l ((u : Nat) : Int) ((v : Nat) : Int)).g), .int .u8 ((atC l ((u : Nat) : Int) ((v : Nat) : Int)).b), .int .u8 ((atC l ((u : Nat) : Int) ((v : Nat) : Int)).a)], .int .i64 0]) (fun _ _ hρ _ => r_call (args := [.agg (lst C4.cells l), .int .i64 ((u : Nat) : Int), .int .i64 ((v : Nat) : Int)]) (enters_of Try.func19 (by kernel_rfl) rfl) (hρ _ _ rfl) ((cons2 (hρ _ _ rfl) (cons2 (hρ _ _ rfl) (cons2 (hρ _ _ rfl) rfl)))) rfl) (fun w _ => (at_c l ((u : Nat) : Int) ((v : Nat) : Int) w hl).mono fun _ _ h => ⟨h.1.trans (congrArg Ending.returned (by rw [atE_in (isP_in (by omega) (by omega))])), h.2⟩) rfl rfl rfl (w_n rfl) ?_
                refine TL_q (.tuple #[.agg #[.int .u8 ((atC l ((u : Nat) : Int) ((v : Nat) : Int)).r), .int .u8 ((atC l ((u : Nat) : Int) ((v : Nat) : Int)).g), .int .u8 ((atC l ((u : Nat) : Int) ((v : Nat) : Int)).b), .int .u8 ((atC l ((u : Nat) : Int) ((v : Nat) : Int)).a)], .int .i64 0]) (fun _ _ hρ _ => r_move (hρ _ _ rfl)) rfl rfl rfl (w_n rfl) ?_
                refine TL_q (.agg #[.int .u8 ((atC l ((u : Nat) : Int) ((v : Nat) : Int)).r), .int .u8 ((atC l ((u : Nat) : Int) ((v : Nat) : Int)).g), .int .u8 ((atC l ((u : Nat) : Int) ((v : Nat) : Int)).b), .int .u8 ((atC l ((u : Nat) : Int) ((v : Nat) : Int)).a)]) (fun _ _ hρ _ => r_extract (hρ _ _ rfl) rfl) rfl rfl rfl (w_n rfl) ?_
                refine TL_q (.int .i64 0) (fun _ _ hρ _ => r_extract (hρ _ _ rfl) rfl) rfl rfl rfl (w_n rfl) ?_
                refine TL_new 7 (.cells #[.int .u8 0, .int .u8 0, .int .u8 0, .int .u8 0] 23) (fun B => .pointer (some ⟨B, 0, none⟩)) (fun _ _ _ _ => r_alloc (v := .agg #[.int .u8 0, .int .u8 0, .int .u8 0, .int .u8 0]) (by kernel_rfl) rfl) rfl rfl rfl (w_n rfl) ?_
                intro B9
                refine TL_store 7 (.cells #[.int .u8 ((atC l ((u : Nat) : Int) ((v : Nat) : Int)).r), .int .u8 ((atC l ((u : Nat) : Int) ((v : Nat) : Int)).g), .int .u8 ((atC l ((u : Nat) : Int) ((v : Nat) : Int)).b), .int .u8 ((atC l ((u : Nat) : Int) ((v : Nat) : Int)).a)] 23) rfl (fun _ _ hρ hm => r_store sz23 (hρ _ _ rfl) (hρ _ _ rfl) (hm.at 7 rfl) rfl rfl rfl rfl) rfl rfl (w_n rfl) ?_
                refine TL_q (.int .i64 0) (fun _ _ hρ _ => r_assign (hρ _ _ rfl)) rfl rfl rfl (w_n rfl) ?_
                refine TL_seq ?_
                refine T_sub [(3, .pointer (some ⟨B1, 0, none⟩)), (1, .int .i64 dx), (2, .int .i64 dy), (11, .pointer (some ⟨B6, 0, none⟩)), (74, .int .i64 ((v : Nat) : Int)), (75, .bool (decide (((v : Nat) : Int) < 8))), (76, .int .i64 ((v : Nat) : Int)), (12, .int .i64 ((v : Nat) : Int)), (77, .int .i64 ((u : Nat) : Int)), (78, .bool (decide (((u : Nat) : Int) < 8))), (79, .int .i64 ((u : Nat) : Int)), (13, .int .i64 ((u : Nat) : Int)), (80, .int .i64 ((u : Nat) : Int)), (81, .int .i64 dx), (82, .int .i64 (((u : Nat) : Int) + dx)), (83, .bool true), (84, .bool true), (85, .int .i64 ((u : Nat) : Int)), (86, .int .i64 dx), (87, .int .i64 (((u : Nat) : Int) + dx)), (88, .bool true), (89, .bool true), (90, .bool true), (91, .int .i64 ((v : Nat) : Int)), (92, .int .i64 dy), (93, .int .i64 (((v : Nat) : Int) + dy)), (94, .bool true), (95, .bool true), (96, .bool true), (97, .int .i64 ((v : Nat) : Int)), (98, .int .i64 dy), (99, .int .i64 (((v : Nat) : Int) + dy)), (100, .bool false), (101, .bool false), (14, .bool false), (103, .agg (lst C4.cells l)), (104, .int .i64 ((u : Nat) : Int)), (105, .int .i64 ((v : Nat) : Int)), (106, .tuple #[.agg #[.int .u8 ((atC l ((u : Nat) : Int) ((v : Nat) : Int)).r), .int .u8 ((atC l ((u : Nat) : Int) ((v : Nat) : Int)).g), .int .u8 ((atC l ((u : Nat) : Int) ((v : Nat) : Int)).b), .int .u8 ((atC l ((u : Nat) : Int) ((v : Nat) : Int)).a)], .int .i64 0]), (102, .tuple #[.agg #[.int .u8 ((atC l ((u : Nat) : Int) ((v : Nat) : Int)).r), .int .u8 ((atC l ((u : Nat) : Int) ((v : Nat) : Int)).g), .int .u8 ((atC l ((u : Nat) : Int) ((v : Nat) : Int)).b), .int .u8 ((atC l ((u : Nat) : Int) ((v : Nat) : Int)).a)], .int .i64 0]), (107, .agg #[.int .u8 ((atC l ((u : Nat) : Int) ((v : Nat) : Int)).r), .int .u8 ((atC l ((u : Nat) : Int) ((v : Nat) : Int)).g), .int .u8 ((atC l ((u : Nat) : Int) ((v : Nat) : Int)).b), .int .u8 ((atC l ((u : Nat) : Int) ((v : Nat) : Int)).a)]), (108, .int .i64 0), (15, .pointer (some ⟨B9, 0, none⟩)), (16, .int .i64 0)] [(2, .row (.slice a2 ((colsN l 64).length) cap2) 23 4 ((colsN l 64).length) ((colsN l 64).flatMap C4.cells)), (1, .blk B1 (.cells (lst C4.cells l) 25)), (4, .blk B6 (.cells (lst C4.cells (shiftL (shiftL l zeroC dx dy) zeroC (-dx) (-dy))) 25)), (7, .blk B9 (.cells #[.int .u8 ((atC l ((u : Nat) : Int) ((v : Nat) : Int)).r), .int .u8 ((atC l ((u : Nat) : Int) ((v : Nat) : Int)).g), .int .u8 ((atC l ((u : Nat) : Int) ((v : Nat) : Int)).b), .int .u8 ((atC l ((u : Nat) : Int) ((v : Nat) : Int)).a)] 23))] (sub_cons rfl (sub_cons rfl (sub_cons rfl (sub_cons rfl (sub_cons rfl (sub_cons rfl (sub_cons rfl (sub_cons rfl (sub_cons rfl (sub_cons rfl (sub_cons rfl (sub_cons rfl (sub_cons rfl (sub_cons rfl (sub_cons rfl (sub_cons rfl (sub_cons rfl (sub_cons rfl (sub_cons rfl (sub_cons rfl (sub_cons rfl (sub_cons rfl (sub_cons rfl (sub_cons rfl (sub_cons rfl (sub_cons rfl (sub_cons rfl (sub_cons rfl (sub_cons rfl (sub_cons rfl (sub_cons rfl (sub_cons rfl (sub_cons rfl (sub_cons rfl (sub_cons rfl (sub_cons rfl (sub_cons rfl (sub_cons rfl (sub_cons rfl (sub_cons rfl (sub_cons rfl (sub_cons rfl (sub_cons rfl (sub_cons rfl sub_nil)))))))))))))))))))))))))))))))))))))))))))) (sub_cons rfl (sub_cons rfl (sub_cons rfl (sub_cons rfl sub_nil)))) ?_
                refine T_seq (T_region ?_)
                refine TL_q (.agg (lst C4.cells (shiftL (shiftL l zeroC dx dy) zeroC (-dx) (-dy)))) (fun _ _ hρ hm => r_loadW ag25 sz25 (hρ _ _ rfl) (hm.at 4 rfl) (tsz (movedL_len _ _ _))) rfl rfl rfl (w_n rfl) ?_
                refine TL_q (.int .i64 ((u : Nat) : Int)) (fun _ _ hρ _ => r_move (hρ _ _ rfl)) rfl rfl rfl (w_n rfl) ?_
                refine TL_q (.int .i64 ((v : Nat) : Int)) (fun _ _ hρ _ => r_move (hρ _ _ rfl)) rfl rfl rfl (w_n rfl) ?_
                refine TL_call (.tuple #[.agg #[.int .u8 0, .int .u8 0, .int .u8 0, .int .u8 0], .int .i64 0]) (fun _ _ hρ _ => r_call (args := [.agg (lst C4.cells (shiftL (shiftL l zeroC dx dy) zeroC (-dx) (-dy))), .int .i64 ((u : Nat) : Int), .int .i64 ((v : Nat) : Int)]) (enters_of Try.func19 (by kernel_rfl) rfl) (hρ _ _ rfl) ((cons2 (hρ _ _ rfl) (cons2 (hρ _ _ rfl) (cons2 (hρ _ _ rfl) rfl)))) rfl) (fun w _ => (at_c (shiftL (shiftL l zeroC dx dy) zeroC (-dx) (-dy)) ((u : Nat) : Int) ((v : Nat) : Int) w (movedL_len _ _ _)).mono fun _ _ h => ⟨h.1.trans (congrArg Ending.returned (by rw [atE_in (isP_in (by omega) (by omega)), shift_back hdx hdy (by omega) (by omega), if_neg (fun h => by have := of_decide_eq_true h; omega)])), h.2⟩) rfl rfl rfl (w_n rfl) ?_
                refine TL_q (.tuple #[.agg #[.int .u8 0, .int .u8 0, .int .u8 0, .int .u8 0], .int .i64 0]) (fun _ _ hρ _ => r_move (hρ _ _ rfl)) rfl rfl rfl (w_n rfl) ?_
                refine TL_q (.agg #[.int .u8 0, .int .u8 0, .int .u8 0, .int .u8 0]) (fun _ _ hρ _ => r_extract (hρ _ _ rfl) rfl) rfl rfl rfl (w_n rfl) ?_
                refine TL_q (.int .i64 0) (fun _ _ hρ _ => r_extract (hρ _ _ rfl) rfl) rfl rfl rfl (w_n rfl) ?_
                refine TL_new 8 (.cells #[.int .u8 0, .int .u8 0, .int .u8 0, .int .u8 0] 23) (fun B => .pointer (some ⟨B, 0, none⟩)) (fun _ _ _ _ => r_alloc (v := .agg #[.int .u8 0, .int .u8 0, .int .u8 0, .int .u8 0]) (by kernel_rfl) rfl) rfl rfl rfl (w_n rfl) ?_
                intro B10
                refine TL_store 8 (.cells #[.int .u8 0, .int .u8 0, .int .u8 0, .int .u8 0] 23) rfl (fun _ _ hρ hm => r_store sz23 (hρ _ _ rfl) (hρ _ _ rfl) (hm.at 8 rfl) rfl rfl rfl rfl) rfl rfl (w_n rfl) ?_
                refine TL_q (.int .i64 0) (fun _ _ hρ _ => r_assign (hρ _ _ rfl)) rfl rfl rfl (w_n rfl) ?_
                refine TL_seq ?_
                refine T_seq (T_region ?_)
                refine TL_q (.int .i64 0) (fun _ _ hρ _ => r_move (hρ _ _ rfl)) rfl rfl rfl (w_n rfl) ?_
                refine TL_q (.bool false) (fun _ _ hρ _ => r_as (r_neq (hρ _ _ rfl) (hρ _ _ rfl)) (by rfl)) rfl rfl rfl (w_n rfl) ?_
                refine TL_q (.bool false) (fun _ _ hρ _ => r_move (hρ _ _ rfl)) rfl rfl rfl (w_n rfl) ?_
                refine TL_q (.int .i64 0) (fun _ _ hρ _ => r_move (hρ _ _ rfl)) rfl rfl rfl (want_y 118 rfl rfl rfl) ?_
                refine TL_q (.bool false) (fun _ _ hρ _ => r_as (r_neq (hρ _ _ rfl) (hρ _ _ rfl)) (by rfl)) rfl rfl rfl (want_y 118 rfl rfl rfl) ?_
                refine TL_q (.bool false) (fun _ _ hρ _ => r_pick_f (hρ _ _ rfl) (hρ _ _ rfl)) rfl rfl rfl (w_n rfl) ?_
                refine TL_q (.bool false) (fun _ _ hρ _ => r_move (hρ _ _ rfl)) rfl rfl rfl (w_n rfl) ?_
                refine TL_q (.bool false) (fun _ _ hρ _ => r_move (hρ _ _ rfl)) rfl rfl rfl (want_y 122 rfl rfl rfl) ?_
                refine TL_q (.bool false) (fun _ _ hρ _ => r_move (hρ _ _ rfl)) rfl rfl rfl (want_y 122 rfl rfl rfl) ?_
                refine TL_no rfl rfl (want_n 124 rfl rfl rfl) ?_
                refine TL_no rfl rfl (want_n 124 rfl rfl rfl) ?_
                refine TL_no rfl rfl (want_n 124 rfl rfl rfl) ?_
                refine TL_q (.bool false) (fun _ _ hρ _ => r_pick_f (hρ _ _ rfl) (hρ _ _ rfl)) rfl rfl rfl (want_y 122 rfl rfl rfl) ?_
                refine TL_q (.bool false) (fun _ _ hρ _ => r_pick_f (hρ _ _ rfl) (hρ _ _ rfl)) rfl rfl rfl (w_n rfl) ?_
                refine TL_q (.bool false) (fun _ _ hρ _ => r_move (hρ _ _ rfl)) rfl rfl rfl (w_n rfl) ?_
                refine TL_q (.bool false) (fun _ _ hρ _ => r_move (hρ _ _ rfl)) rfl rfl rfl (want_y 130 rfl rfl rfl) ?_
                refine TL_q (.bool true) (fun _ _ hρ _ => r_not (b := false) (hρ _ _ rfl)) rfl rfl rfl (want_y 130 rfl rfl rfl) ?_
                refine TL_q (.bool true) (fun _ _ hρ _ => r_move (hρ _ _ rfl)) rfl rfl rfl (want_y 130 rfl rfl rfl) ?_
                refine TL_q (.agg #[.int .u8 0, .int .u8 0, .int .u8 0, .int .u8 0]) (fun _ _ hρ hm => r_loadA ag23 sz23 (hρ _ _ rfl) (hm.at 8 rfl) rfl rfl) rfl rfl rfl (want_y 133 rfl rfl rfl) ?_
                refine TL_q (.agg #[.int .u8 0, .int .u8 0, .int .u8 0, .int .u8 0]) (fun _ _ _ _ => r_build (vs := []) (by kernel_rfl) rfl) rfl rfl rfl (want_y 133 rfl rfl rfl) ?_
                refine TL_q (.bool false) (fun _ _ hρ _ => r_as (r_neqA (by kernel_rfl) (hρ _ _ rfl) (hρ _ _ rfl) (run_equalI (l := [(0, .u8), (1, .u8), (2, .u8), (3, .u8)]) (by kernel_rfl) rfl rfl)) (bool_as (by simp only [eqI_self]; try rfl))) rfl rfl rfl (want_y 133 rfl rfl rfl) ?_
                refine TL_q (.bool false) (fun _ _ hρ _ => r_pick_t (hρ _ _ rfl) (hρ _ _ rfl)) rfl rfl rfl (want_y 130 rfl rfl rfl) ?_
                refine TL_q (.bool false) (fun _ _ hρ _ => r_pick_f (hρ _ _ rfl) (hρ _ _ rfl)) rfl rfl rfl (w_n rfl) ?_
                refine TL_seq ?_
                refine T_sub [(3, .pointer (some ⟨B1, 0, none⟩)), (1, .int .i64 dx), (2, .int .i64 dy), (11, .pointer (some ⟨B6, 0, none⟩)), (74, .int .i64 ((v : Nat) : Int)), (75, .bool (decide (((v : Nat) : Int) < 8))), (76, .int .i64 ((v : Nat) : Int)), (12, .int .i64 ((v : Nat) : Int)), (77, .int .i64 ((u : Nat) : Int)), (78, .bool (decide (((u : Nat) : Int) < 8))), (79, .int .i64 ((u : Nat) : Int)), (13, .int .i64 ((u : Nat) : Int)), (80, .int .i64 ((u : Nat) : Int)), (81, .int .i64 dx), (82, .int .i64 (((u : Nat) : Int) + dx)), (83, .bool true), (84, .bool true), (85, .int .i64 ((u : Nat) : Int)), (86, .int .i64 dx), (87, .int .i64 (((u : Nat) : Int) + dx)), (88, .bool true), (89, .bool true), (90, .bool true), (91, .int .i64 ((v : Nat) : Int)), (92, .int .i64 dy), (93, .int .i64 (((v : Nat) : Int) + dy)), (94, .bool true), (95, .bool true), (96, .bool true), (97, .int .i64 ((v : Nat) : Int)), (98, .int .i64 dy), (99, .int .i64 (((v : Nat) : Int) + dy)), (100, .bool false), (101, .bool false), (14, .bool false), (103, .agg (lst C4.cells l)), (104, .int .i64 ((u : Nat) : Int)), (105, .int .i64 ((v : Nat) : Int)), (106, .tuple #[.agg #[.int .u8 ((atC l ((u : Nat) : Int) ((v : Nat) : Int)).r), .int .u8 ((atC l ((u : Nat) : Int) ((v : Nat) : Int)).g), .int .u8 ((atC l ((u : Nat) : Int) ((v : Nat) : Int)).b), .int .u8 ((atC l ((u : Nat) : Int) ((v : Nat) : Int)).a)], .int .i64 0]), (102, .tuple #[.agg #[.int .u8 ((atC l ((u : Nat) : Int) ((v : Nat) : Int)).r), .int .u8 ((atC l ((u : Nat) : Int) ((v : Nat) : Int)).g), .int .u8 ((atC l ((u : Nat) : Int) ((v : Nat) : Int)).b), .int .u8 ((atC l ((u : Nat) : Int) ((v : Nat) : Int)).a)], .int .i64 0]), (107, .agg #[.int .u8 ((atC l ((u : Nat) : Int) ((v : Nat) : Int)).r), .int .u8 ((atC l ((u : Nat) : Int) ((v : Nat) : Int)).g), .int .u8 ((atC l ((u : Nat) : Int) ((v : Nat) : Int)).b), .int .u8 ((atC l ((u : Nat) : Int) ((v : Nat) : Int)).a)]), (108, .int .i64 0), (15, .pointer (some ⟨B9, 0, none⟩)), (16, .int .i64 0), (110, .agg (lst C4.cells (shiftL (shiftL l zeroC dx dy) zeroC (-dx) (-dy)))), (111, .int .i64 ((u : Nat) : Int)), (112, .int .i64 ((v : Nat) : Int)), (113, .tuple #[.agg #[.int .u8 0, .int .u8 0, .int .u8 0, .int .u8 0], .int .i64 0]), (109, .tuple #[.agg #[.int .u8 0, .int .u8 0, .int .u8 0, .int .u8 0], .int .i64 0]), (114, .agg #[.int .u8 0, .int .u8 0, .int .u8 0, .int .u8 0]), (115, .int .i64 0), (17, .pointer (some ⟨B10, 0, none⟩)), (18, .int .i64 0), (116, .int .i64 0), (117, .bool false), (118, .bool false), (119, .int .i64 0), (120, .bool false), (121, .bool false), (122, .bool false), (123, .bool false), (124, .bool false), (125, undef), (126, undef), (127, undef), (128, .bool false), (129, .bool false), (130, .bool false), (131, .bool false), (132, .bool true), (133, .bool true), (134, .agg #[.int .u8 0, .int .u8 0, .int .u8 0, .int .u8 0]), (135, .agg #[.int .u8 0, .int .u8 0, .int .u8 0, .int .u8 0]), (136, .bool false), (137, .bool false), (138, .bool false)] [(2, .row (.slice a2 ((colsN l 64).length) cap2) 23 4 ((colsN l 64).length) ((colsN l 64).flatMap C4.cells)), (1, .blk B1 (.cells (lst C4.cells l) 25)), (4, .blk B6 (.cells (lst C4.cells (shiftL (shiftL l zeroC dx dy) zeroC (-dx) (-dy))) 25)), (7, .blk B9 (.cells #[.int .u8 ((atC l ((u : Nat) : Int) ((v : Nat) : Int)).r), .int .u8 ((atC l ((u : Nat) : Int) ((v : Nat) : Int)).g), .int .u8 ((atC l ((u : Nat) : Int) ((v : Nat) : Int)).b), .int .u8 ((atC l ((u : Nat) : Int) ((v : Nat) : Int)).a)] 23)), (8, .blk B10 (.cells #[.int .u8 0, .int .u8 0, .int .u8 0, .int .u8 0] 23))] (sub_cons rfl (sub_cons rfl (sub_cons rfl (sub_cons rfl (sub_cons rfl (sub_cons rfl (sub_cons rfl (sub_cons rfl (sub_cons rfl (sub_cons rfl (sub_cons rfl (sub_cons rfl (sub_cons rfl (sub_cons rfl (sub_cons rfl (sub_cons rfl (sub_cons rfl (sub_cons rfl (sub_cons rfl (sub_cons rfl (sub_cons rfl (sub_cons rfl (sub_cons rfl (sub_cons rfl (sub_cons rfl (sub_cons rfl (sub_cons rfl (sub_cons rfl (sub_cons rfl (sub_cons rfl (sub_cons rfl (sub_cons rfl (sub_cons rfl (sub_cons rfl (sub_cons rfl (sub_cons rfl (sub_cons rfl (sub_cons rfl (sub_cons rfl (sub_cons rfl (sub_cons rfl (sub_cons rfl (sub_cons rfl (sub_cons rfl (sub_cons rfl (sub_cons rfl (sub_cons rfl (sub_cons rfl (sub_cons rfl (sub_cons rfl (sub_cons rfl (sub_cons rfl (sub_cons rfl (sub_cons rfl (sub_cons rfl (sub_cons rfl (sub_cons rfl (sub_cons rfl (sub_cons rfl (sub_cons rfl (sub_cons rfl (sub_cons rfl (sub_cons rfl (sub_cons rfl (sub_cons rfl (sub_cons rfl (sub_cons rfl (sub_cons rfl (sub_cons rfl (sub_cons rfl (sub_cons rfl (sub_cons rfl (sub_cons rfl (sub_cons rfl (sub_cons rfl (sub_cons rfl sub_nil)))))))))))))))))))))))))))))))))))))))))))))))))))))))))))))))))))))))))))) (sub_cons rfl (sub_cons rfl (sub_cons rfl (sub_cons rfl (sub_cons rfl sub_nil))))) ?_
                refine T_cond_f rfl ?_
                refine T_skip' ?_
                refine p_blk_n ?_
                refine p_seq ?_
                refine T_region ?_
                refine TL_q (.int .i64 ((u + 1 : Nat) : Int)) (fun _ _ hρ _ => r_as (r_add (hρ _ _ rfl) (hρ _ _ rfl)) (int_as ((wrap64 (by omega) (by omega)).trans (by omega)))) rfl rfl rfl (w_n rfl) ?_
                refine TL_q (.int .i64 ((u + 1 : Nat) : Int)) (fun _ _ hρ _ => r_move (hρ _ _ rfl)) rfl rfl rfl (w_n rfl) ?_
                refine TL_nil ?_
                exact p_at (u + 1) ⟨by omega, by omega⟩ (sub_cons rfl (sub_cons rfl (sub_cons rfl (sub_cons rfl (sub_cons rfl (sub_cons rfl (sub_cons rfl (sub_cons rfl (sub_cons rfl sub_nil))))))))) (sub_cons rfl (sub_cons rfl (sub_cons rfl sub_nil)))
            · skip
              refine T_seq (T_region ?_)
              refine TL_q (.int .i64 ((u : Nat) : Int)) (fun _ _ hρ _ => r_move (hρ _ _ rfl)) rfl rfl rfl (w_n rfl) ?_
              refine TL_q (.int .i64 dx) (fun _ _ hρ _ => r_move (hρ _ _ rfl)) rfl rfl rfl (w_n rfl) ?_
              refine TL_q (.int .i64 (((u : Nat) : Int) + dx)) (fun _ _ hρ _ => r_as (r_add (hρ _ _ rfl) (hρ _ _ rfl)) (int_as (wrap64 (by omega) (by omega)))) rfl rfl rfl (w_n rfl) ?_
              refine TL_q (.bool true) (fun _ _ hρ _ => r_as (r_geq (hρ _ _ rfl) (hρ _ _ rfl)) (bool_as (decide_eq_true hb1))) rfl rfl rfl (w_n rfl) ?_
              refine TL_q (.bool true) (fun _ _ hρ _ => r_move (hρ _ _ rfl)) rfl rfl rfl (w_n rfl) ?_
              refine TL_q (.int .i64 ((u : Nat) : Int)) (fun _ _ hρ _ => r_move (hρ _ _ rfl)) rfl rfl rfl (want_y 84 rfl rfl rfl) ?_
              refine TL_q (.int .i64 dx) (fun _ _ hρ _ => r_move (hρ _ _ rfl)) rfl rfl rfl (want_y 84 rfl rfl rfl) ?_
              refine TL_q (.int .i64 (((u : Nat) : Int) + dx)) (fun _ _ hρ _ => r_as (r_add (hρ _ _ rfl) (hρ _ _ rfl)) (int_as (wrap64 (by omega) (by omega)))) rfl rfl rfl (want_y 84 rfl rfl rfl) ?_
              refine TL_q (.bool true) (fun _ _ hρ _ => r_as (r_lss (hρ _ _ rfl) (hρ _ _ rfl)) (bool_as (decide_eq_true hb2))) rfl rfl rfl (want_y 84 rfl rfl rfl) ?_
              refine TL_q (.bool true) (fun _ _ hρ _ => r_pick_t (hρ _ _ rfl) (hρ _ _ rfl)) rfl rfl rfl (w_n rfl) ?_
              refine TL_q (.bool true) (fun _ _ hρ _ => r_move (hρ _ _ rfl)) rfl rfl rfl (w_n rfl) ?_
              refine TL_q (.int .i64 ((v : Nat) : Int)) (fun _ _ hρ _ => r_move (hρ _ _ rfl)) rfl rfl rfl (want_y 90 rfl rfl rfl) ?_
              refine TL_q (.int .i64 dy) (fun _ _ hρ _ => r_move (hρ _ _ rfl)) rfl rfl rfl (want_y 90 rfl rfl rfl) ?_
              refine TL_q (.int .i64 (((v : Nat) : Int) + dy)) (fun _ _ hρ _ => r_as (r_add (hρ _ _ rfl) (hρ _ _ rfl)) (int_as (wrap64 (by omega) (by omega)))) rfl rfl rfl (want_y 90 rfl rfl rfl) ?_
              refine TL_q (.bool false) (fun _ _ hρ _ => r_as (r_geq (hρ _ _ rfl) (hρ _ _ rfl)) (bool_as (decide_eq_false hb3))) rfl rfl rfl (want_y 90 rfl rfl rfl) ?_
              refine TL_q (.bool false) (fun _ _ hρ _ => r_pick_t (hρ _ _ rfl) (hρ _ _ rfl)) rfl rfl rfl (w_n rfl) ?_
              refine TL_q (.bool false) (fun _ _ hρ _ => r_move (hρ _ _ rfl)) rfl rfl rfl (w_n rfl) ?_
              refine TL_no rfl rfl (want_n 96 rfl rfl rfl) ?_
              refine TL_no rfl rfl (want_n 96 rfl rfl rfl) ?_
              refine TL_no rfl rfl (want_n 96 rfl rfl rfl) ?_
              refine TL_no rfl rfl (want_n 96 rfl rfl rfl) ?_
              refine TL_q (.bool false) (fun _ _ hρ _ => r_pick_f (hρ _ _ rfl) (hρ _ _ rfl)) rfl rfl rfl (w_n rfl) ?_
              refine TL_q (.bool false) (fun _ _ hρ _ => r_assign (hρ _ _ rfl)) rfl rfl rfl (w_n rfl) ?_
              refine TL_seq ?_
              refine T_seq (T_region ?_)
              refine TL_q (.agg (lst C4.cells l)) (fun _ _ hρ hm => r_loadW ag25 sz25 (hρ _ _ rfl) (hm.at 1 rfl) (tsz hl)) rfl rfl rfl (w_n rfl) ?_
              refine TL_q (.int .i64 ((u : Nat) : Int)) (fun _ _ hρ _ => r_move (hρ _ _ rfl)) rfl rfl rfl (w_n rfl) ?_
              refine TL_q (.int .i64 ((v : Nat) : Int)) (fun _ _ hρ _ => r_move (hρ _ _ rfl)) rfl rfl rfl (w_n rfl) ?_
              refine TL_call (.tuple #[.agg #[.int .u8 ((atC l ((u : Nat) : Int) ((v : Nat) : Int)).r), .int .u8 ((atC l ((u : Nat) : Int) ((v : Nat) : Int)).g), .int .u8 ((atC l ((u : Nat) : Int) ((v : Nat) : Int)).b), .int .u8 ((atC l ((u : Nat) : Int) ((v : Nat) : Int)).a)], .int .i64 0]) (fun _ _ hρ _ => r_call (args := [.agg (lst C4.cells l), .int .i64 ((u : Nat) : Int), .int .i64 ((v : Nat) : Int)]) (enters_of Try.func19 (by kernel_rfl) rfl) (hρ _ _ rfl) ((cons2 (hρ _ _ rfl) (cons2 (hρ _ _ rfl) (cons2 (hρ _ _ rfl) rfl)))) rfl) (fun w _ => (at_c l ((u : Nat) : Int) ((v : Nat) : Int) w hl).mono fun _ _ h => ⟨h.1.trans (congrArg Ending.returned (by rw [atE_in (isP_in (by omega) (by omega))])), h.2⟩) rfl rfl rfl (w_n rfl) ?_
              refine TL_q (.tuple #[.agg #[.int .u8 ((atC l ((u : Nat) : Int) ((v : Nat) : Int)).r), .int .u8 ((atC l ((u : Nat) : Int) ((v : Nat) : Int)).g), .int .u8 ((atC l ((u : Nat) : Int) ((v : Nat) : Int)).b), .int .u8 ((atC l ((u : Nat) : Int) ((v : Nat) : Int)).a)], .int .i64 0]) (fun _ _ hρ _ => r_move (hρ _ _ rfl)) rfl rfl rfl (w_n rfl) ?_
              refine TL_q (.agg #[.int .u8 ((atC l ((u : Nat) : Int) ((v : Nat) : Int)).r), .int .u8 ((atC l ((u : Nat) : Int) ((v : Nat) : Int)).g), .int .u8 ((atC l ((u : Nat) : Int) ((v : Nat) : Int)).b), .int .u8 ((atC l ((u : Nat) : Int) ((v : Nat) : Int)).a)]) (fun _ _ hρ _ => r_extract (hρ _ _ rfl) rfl) rfl rfl rfl (w_n rfl) ?_
              refine TL_q (.int .i64 0) (fun _ _ hρ _ => r_extract (hρ _ _ rfl) rfl) rfl rfl rfl (w_n rfl) ?_
              refine TL_new 9 (.cells #[.int .u8 0, .int .u8 0, .int .u8 0, .int .u8 0] 23) (fun B => .pointer (some ⟨B, 0, none⟩)) (fun _ _ _ _ => r_alloc (v := .agg #[.int .u8 0, .int .u8 0, .int .u8 0, .int .u8 0]) (by kernel_rfl) rfl) rfl rfl rfl (w_n rfl) ?_
              intro B11
              refine TL_store 9 (.cells #[.int .u8 ((atC l ((u : Nat) : Int) ((v : Nat) : Int)).r), .int .u8 ((atC l ((u : Nat) : Int) ((v : Nat) : Int)).g), .int .u8 ((atC l ((u : Nat) : Int) ((v : Nat) : Int)).b), .int .u8 ((atC l ((u : Nat) : Int) ((v : Nat) : Int)).a)] 23) rfl (fun _ _ hρ hm => r_store sz23 (hρ _ _ rfl) (hρ _ _ rfl) (hm.at 9 rfl) rfl rfl rfl rfl) rfl rfl (w_n rfl) ?_
              refine TL_q (.int .i64 0) (fun _ _ hρ _ => r_assign (hρ _ _ rfl)) rfl rfl rfl (w_n rfl) ?_
              refine TL_seq ?_
              refine T_sub [(3, .pointer (some ⟨B1, 0, none⟩)), (1, .int .i64 dx), (2, .int .i64 dy), (11, .pointer (some ⟨B6, 0, none⟩)), (74, .int .i64 ((v : Nat) : Int)), (75, .bool (decide (((v : Nat) : Int) < 8))), (76, .int .i64 ((v : Nat) : Int)), (12, .int .i64 ((v : Nat) : Int)), (77, .int .i64 ((u : Nat) : Int)), (78, .bool (decide (((u : Nat) : Int) < 8))), (79, .int .i64 ((u : Nat) : Int)), (13, .int .i64 ((u : Nat) : Int)), (80, .int .i64 ((u : Nat) : Int)), (81, .int .i64 dx), (82, .int .i64 (((u : Nat) : Int) + dx)), (83, .bool true), (84, .bool true), (85, .int .i64 ((u : Nat) : Int)), (86, .int .i64 dx), (87, .int .i64 (((u : Nat) : Int) + dx)), (88, .bool true), (89, .bool true), (90, .bool true), (91, .int .i64 ((v : Nat) : Int)), (92, .int .i64 dy), (93, .int .i64 (((v : Nat) : Int) + dy)), (94, .bool false), (95, .bool false), (96, .bool false), (97, undef), (98, undef), (99, undef), (100, undef), (101, .bool false), (14, .bool false), (103, .agg (lst C4.cells l)), (104, .int .i64 ((u : Nat) : Int)), (105, .int .i64 ((v : Nat) : Int)), (106, .tuple #[.agg #[.int .u8 ((atC l ((u : Nat) : Int) ((v : Nat) : Int)).r), .int .u8 ((atC l ((u : Nat) : Int) ((v : Nat) : Int)).g), .int .u8 ((atC l ((u : Nat) : Int) ((v : Nat) : Int)).b), .int .u8 ((atC l ((u : Nat) : Int) ((v : Nat) : Int)).a)], .int .i64 0]), (102, .tuple #[.agg #[.int .u8 ((atC l ((u : Nat) : Int) ((v : Nat) : Int)).r), .int .u8 ((atC l ((u : Nat) : Int) ((v : Nat) : Int)).g), .int .u8 ((atC l ((u : Nat) : Int) ((v : Nat) : Int)).b), .int .u8 ((atC l ((u : Nat) : Int) ((v : Nat) : Int)).a)], .int .i64 0]), (107, .agg #[.int .u8 ((atC l ((u : Nat) : Int) ((v : Nat) : Int)).r), .int .u8 ((atC l ((u : Nat) : Int) ((v : Nat) : Int)).g), .int .u8 ((atC l ((u : Nat) : Int) ((v : Nat) : Int)).b), .int .u8 ((atC l ((u : Nat) : Int) ((v : Nat) : Int)).a)]), (108, .int .i64 0), (15, .pointer (some ⟨B11, 0, none⟩)), (16, .int .i64 0)] [(2, .row (.slice a2 ((colsN l 64).length) cap2) 23 4 ((colsN l 64).length) ((colsN l 64).flatMap C4.cells)), (1, .blk B1 (.cells (lst C4.cells l) 25)), (4, .blk B6 (.cells (lst C4.cells (shiftL (shiftL l zeroC dx dy) zeroC (-dx) (-dy))) 25)), (9, .blk B11 (.cells #[.int .u8 ((atC l ((u : Nat) : Int) ((v : Nat) : Int)).r), .int .u8 ((atC l ((u : Nat) : Int) ((v : Nat) : Int)).g), .int .u8 ((atC l ((u : Nat) : Int) ((v : Nat) : Int)).b), .int .u8 ((atC l ((u : Nat) : Int) ((v : Nat) : Int)).a)] 23))] (sub_cons rfl (sub_cons rfl (sub_cons rfl (sub_cons rfl (sub_cons rfl (sub_cons rfl (sub_cons rfl (sub_cons rfl (sub_cons rfl (sub_cons rfl (sub_cons rfl (sub_cons rfl (sub_cons rfl (sub_cons rfl (sub_cons rfl (sub_cons rfl (sub_cons rfl (sub_cons rfl (sub_cons rfl (sub_cons rfl (sub_cons rfl (sub_cons rfl (sub_cons rfl (sub_cons rfl (sub_cons rfl (sub_cons rfl (sub_cons rfl (sub_cons rfl (sub_cons rfl (sub_cons rfl (sub_cons rfl (sub_cons rfl (sub_cons rfl (sub_cons rfl (sub_cons rfl (sub_cons rfl (sub_cons rfl (sub_cons rfl (sub_cons rfl (sub_cons rfl (sub_cons rfl (sub_cons rfl (sub_cons rfl (sub_cons rfl sub_nil)))))))))))))))))))))))))))))))))))))))))))) (sub_cons rfl (sub_cons rfl (sub_cons rfl (sub_cons rfl sub_nil)))) ?_
              refine T_seq (T_region ?_)
              refine TL_q (.agg (lst C4.cells (shiftL (shiftL l zeroC dx dy) zeroC (-dx) (-dy)))) (fun _ _ hρ hm => r_loadW ag25 sz25 (hρ _ _ rfl) (hm.at 4 rfl) (tsz (movedL_len _ _ _))) rfl rfl rfl (w_n rfl) ?_
              refine TL_q (.int .i64 ((u : Nat) : Int)) (fun _ _ hρ _ => r_move (hρ _ _ rfl)) rfl rfl rfl (w_n rfl) ?_
              refine TL_q (.int .i64 ((v : Nat) : Int)) (fun _ _ hρ _ => r_move (hρ _ _ rfl)) rfl rfl rfl (w_n rfl) ?_
              refine TL_call (.tuple #[.agg #[.int .u8 0, .int .u8 0, .int .u8 0, .int .u8 0], .int .i64 0]) (fun _ _ hρ _ => r_call (args := [.agg (lst C4.cells (shiftL (shiftL l zeroC dx dy) zeroC (-dx) (-dy))), .int .i64 ((u : Nat) : Int), .int .i64 ((v : Nat) : Int)]) (enters_of Try.func19 (by kernel_rfl) rfl) (hρ _ _ rfl) ((cons2 (hρ _ _ rfl) (cons2 (hρ _ _ rfl) (cons2 (hρ _ _ rfl) rfl)))) rfl) (fun w _ => (at_c (shiftL (shiftL l zeroC dx dy) zeroC (-dx) (-dy)) ((u : Nat) : Int) ((v : Nat) : Int) w (movedL_len _ _ _)).mono fun _ _ h => ⟨h.1.trans (congrArg Ending.returned (by rw [atE_in (isP_in (by omega) (by omega)), shift_back hdx hdy (by omega) (by omega), if_neg (fun h => by have := of_decide_eq_true h; omega)])), h.2⟩) rfl rfl rfl (w_n rfl) ?_
              refine TL_q (.tuple #[.agg #[.int .u8 0, .int .u8 0, .int .u8 0, .int .u8 0], .int .i64 0]) (fun _ _ hρ _ => r_move (hρ _ _ rfl)) rfl rfl rfl (w_n rfl) ?_
              refine TL_q (.agg #[.int .u8 0, .int .u8 0, .int .u8 0, .int .u8 0]) (fun _ _ hρ _ => r_extract (hρ _ _ rfl) rfl) rfl rfl rfl (w_n rfl) ?_
              refine TL_q (.int .i64 0) (fun _ _ hρ _ => r_extract (hρ _ _ rfl) rfl) rfl rfl rfl (w_n rfl) ?_
              refine TL_new 10 (.cells #[.int .u8 0, .int .u8 0, .int .u8 0, .int .u8 0] 23) (fun B => .pointer (some ⟨B, 0, none⟩)) (fun _ _ _ _ => r_alloc (v := .agg #[.int .u8 0, .int .u8 0, .int .u8 0, .int .u8 0]) (by kernel_rfl) rfl) rfl rfl rfl (w_n rfl) ?_
              intro B12
              refine TL_store 10 (.cells #[.int .u8 0, .int .u8 0, .int .u8 0, .int .u8 0] 23) rfl (fun _ _ hρ hm => r_store sz23 (hρ _ _ rfl) (hρ _ _ rfl) (hm.at 10 rfl) rfl rfl rfl rfl) rfl rfl (w_n rfl) ?_
              refine TL_q (.int .i64 0) (fun _ _ hρ _ => r_assign (hρ _ _ rfl)) rfl rfl rfl (w_n rfl) ?_
              refine TL_seq ?_
              refine T_seq (T_region ?_)
              refine TL_q (.int .i64 0) (fun _ _ hρ _ => r_move (hρ _ _ rfl)) rfl rfl rfl (w_n rfl) ?_
              refine TL_q (.bool false) (fun _ _ hρ _ => r_as (r_neq (hρ _ _ rfl) (hρ _ _ rfl)) (by rfl)) rfl rfl rfl (w_n rfl) ?_
              refine TL_q (.bool false) (fun _ _ hρ _ => r_move (hρ _ _ rfl)) rfl rfl rfl (w_n rfl) ?_
              refine TL_q (.int .i64 0) (fun _ _ hρ _ => r_move (hρ _ _ rfl)) rfl rfl rfl (want_y 118 rfl rfl rfl) ?_
              refine TL_q (.bool false) (fun _ _ hρ _ => r_as (r_neq (hρ _ _ rfl) (hρ _ _ rfl)) (by rfl)) rfl rfl rfl (want_y 118 rfl rfl rfl) ?_
              refine TL_q (.bool false) (fun _ _ hρ _ => r_pick_f (hρ _ _ rfl) (hρ _ _ rfl)) rfl rfl rfl (w_n rfl) ?_
              refine TL_q (.bool false) (fun _ _ hρ _ => r_move (hρ _ _ rfl)) rfl rfl rfl (w_n rfl) ?_
              refine TL_q (.bool false) (fun _ _ hρ _ => r_move (hρ _ _ rfl)) rfl rfl rfl (want_y 122 rfl rfl rfl) ?_
              refine TL_q (.bool false) (fun _ _ hρ _ => r_move (hρ _ _ rfl)) rfl rfl rfl (want_y 122 rfl rfl rfl) ?_
              refine TL_no rfl rfl (want_n 124 rfl rfl rfl) ?_
              refine TL_no rfl rfl (want_n 124 rfl rfl rfl) ?_
              refine TL_no rfl rfl (want_n 124 rfl rfl rfl) ?_
              refine TL_q (.bool false) (fun _ _ hρ _ => r_pick_f (hρ _ _ rfl) (hρ _ _ rfl)) rfl rfl rfl (want_y 122 rfl rfl rfl) ?_
              refine TL_q (.bool false) (fun _ _ hρ _ => r_pick_f (hρ _ _ rfl) (hρ _ _ rfl)) rfl rfl rfl (w_n rfl) ?_
              refine TL_q (.bool false) (fun _ _ hρ _ => r_move (hρ _ _ rfl)) rfl rfl rfl (w_n rfl) ?_
              refine TL_q (.bool false) (fun _ _ hρ _ => r_move (hρ _ _ rfl)) rfl rfl rfl (want_y 130 rfl rfl rfl) ?_
              refine TL_q (.bool true) (fun _ _ hρ _ => r_not (b := false) (hρ _ _ rfl)) rfl rfl rfl (want_y 130 rfl rfl rfl) ?_
              refine TL_q (.bool true) (fun _ _ hρ _ => r_move (hρ _ _ rfl)) rfl rfl rfl (want_y 130 rfl rfl rfl) ?_
              refine TL_q (.agg #[.int .u8 0, .int .u8 0, .int .u8 0, .int .u8 0]) (fun _ _ hρ hm => r_loadA ag23 sz23 (hρ _ _ rfl) (hm.at 10 rfl) rfl rfl) rfl rfl rfl (want_y 133 rfl rfl rfl) ?_
              refine TL_q (.agg #[.int .u8 0, .int .u8 0, .int .u8 0, .int .u8 0]) (fun _ _ _ _ => r_build (vs := []) (by kernel_rfl) rfl) rfl rfl rfl (want_y 133 rfl rfl rfl) ?_
              refine TL_q (.bool false) (fun _ _ hρ _ => r_as (r_neqA (by kernel_rfl) (hρ _ _ rfl) (hρ _ _ rfl) (run_equalI (l := [(0, .u8), (1, .u8), (2, .u8), (3, .u8)]) (by kernel_rfl) rfl rfl)) (bool_as (by simp only [eqI_self]; try rfl))) rfl rfl rfl (want_y 133 rfl rfl rfl) ?_
              refine TL_q (.bool false) (fun _ _ hρ _ => r_pick_t (hρ _ _ rfl) (hρ _ _ rfl)) rfl rfl rfl (want_y 130 rfl rfl rfl) ?_
              refine TL_q (.bool false) (fun _ _ hρ _ => r_pick_f (hρ _ _ rfl) (hρ _ _ rfl)) rfl rfl rfl (w_n rfl) ?_
              refine TL_seq ?_
              refine T_sub [(3, .pointer (some ⟨B1, 0, none⟩)), (1, .int .i64 dx), (2, .int .i64 dy), (11, .pointer (some ⟨B6, 0, none⟩)), (74, .int .i64 ((v : Nat) : Int)), (75, .bool (decide (((v : Nat) : Int) < 8))), (76, .int .i64 ((v : Nat) : Int)), (12, .int .i64 ((v : Nat) : Int)), (77, .int .i64 ((u : Nat) : Int)), (78, .bool (decide (((u : Nat) : Int) < 8))), (79, .int .i64 ((u : Nat) : Int)), (13, .int .i64 ((u : Nat) : Int)), (80, .int .i64 ((u : Nat) : Int)), (81, .int .i64 dx), (82, .int .i64 (((u : Nat) : Int) + dx)), (83, .bool true), (84, .bool true), (85, .int .i64 ((u : Nat) : Int)), (86, .int .i64 dx), (87, .int .i64 (((u : Nat) : Int) + dx)), (88, .bool true), (89, .bool true), (90, .bool true), (91, .int .i64 ((v : Nat) : Int)), (92, .int .i64 dy), (93, .int .i64 (((v : Nat) : Int) + dy)), (94, .bool false), (95, .bool false), (96, .bool false), (97, undef), (98, undef), (99, undef), (100, undef), (101, .bool false), (14, .bool false), (103, .agg (lst C4.cells l)), (104, .int .i64 ((u : Nat) : Int)), (105, .int .i64 ((v : Nat) : Int)), (106, .tuple #[.agg #[.int .u8 ((atC l ((u : Nat) : Int) ((v : Nat) : Int)).r), .int .u8 ((atC l ((u : Nat) : Int) ((v : Nat) : Int)).g), .int .u8 ((atC l ((u : Nat) : Int) ((v : Nat) : Int)).b), .int .u8 ((atC l ((u : Nat) : Int) ((v : Nat) : Int)).a)], .int .i64 0]), (102, .tuple #[.agg #[.int .u8 ((atC l ((u : Nat) : Int) ((v : Nat) : Int)).r), .int .u8 ((atC l ((u : Nat) : Int) ((v : Nat) : Int)).g), .int .u8 ((atC l ((u : Nat) : Int) ((v : Nat) : Int)).b), .int .u8 ((atC l ((u : Nat) : Int) ((v : Nat) : Int)).a)], .int .i64 0]), (107, .agg #[.int .u8 ((atC l ((u : Nat) : Int) ((v : Nat) : Int)).r), .int .u8 ((atC l ((u : Nat) : Int) ((v : Nat) : Int)).g), .int .u8 ((atC l ((u : Nat) : Int) ((v : Nat) : Int)).b), .int .u8 ((atC l ((u : Nat) : Int) ((v : Nat) : Int)).a)]), (108, .int .i64 0), (15, .pointer (some ⟨B11, 0, none⟩)), (16, .int .i64 0), (110, .agg (lst C4.cells (shiftL (shiftL l zeroC dx dy) zeroC (-dx) (-dy)))), (111, .int .i64 ((u : Nat) : Int)), (112, .int .i64 ((v : Nat) : Int)), (113, .tuple #[.agg #[.int .u8 0, .int .u8 0, .int .u8 0, .int .u8 0], .int .i64 0]), (109, .tuple #[.agg #[.int .u8 0, .int .u8 0, .int .u8 0, .int .u8 0], .int .i64 0]), (114, .agg #[.int .u8 0, .int .u8 0, .int .u8 0, .int .u8 0]), (115, .int .i64 0), (17, .pointer (some ⟨B12, 0, none⟩)), (18, .int .i64 0), (116, .int .i64 0), (117, .bool false), (118, .bool false), (119, .int .i64 0), (120, .bool false), (121, .bool false), (122, .bool false), (123, .bool false), (124, .bool false), (125, undef), (126, undef), (127, undef), (128, .bool false), (129, .bool false), (130, .bool false), (131, .bool false), (132, .bool true), (133, .bool true), (134, .agg #[.int .u8 0, .int .u8 0, .int .u8 0, .int .u8 0]), (135, .agg #[.int .u8 0, .int .u8 0, .int .u8 0, .int .u8 0]), (136, .bool false), (137, .bool false), (138, .bool false)] [(2, .row (.slice a2 ((colsN l 64).length) cap2) 23 4 ((colsN l 64).length) ((colsN l 64).flatMap C4.cells)), (1, .blk B1 (.cells (lst C4.cells l) 25)), (4, .blk B6 (.cells (lst C4.cells (shiftL (shiftL l zeroC dx dy) zeroC (-dx) (-dy))) 25)), (9, .blk B11 (.cells #[.int .u8 ((atC l ((u : Nat) : Int) ((v : Nat) : Int)).r), .int .u8 ((atC l ((u : Nat) : Int) ((v : Nat) : Int)).g), .int .u8 ((atC l ((u : Nat) : Int) ((v : Nat) : Int)).b), .int .u8 ((atC l ((u : Nat) : Int) ((v : Nat) : Int)).a)] 23)), (10, .blk B12 (.cells #[.int .u8 0, .int .u8 0, .int .u8 0, .int .u8 0] 23))] (sub_cons rfl (sub_cons rfl (sub_cons rfl (sub_cons rfl (sub_cons rfl (sub_cons rfl (sub_cons rfl (sub_cons rfl (sub_cons rfl (sub_cons rfl (sub_cons rfl (sub_cons rfl (sub_cons rfl (sub_cons rfl (sub_cons rfl (sub_cons rfl (sub_cons rfl (sub_cons rfl (sub_cons rfl (sub_cons rfl (sub_cons rfl (sub_cons rfl (sub_cons rfl (sub_cons rfl (sub_cons rfl (sub_cons rfl (sub_cons rfl (sub_cons rfl (sub_cons rfl (sub_cons rfl (sub_cons rfl (sub_cons rfl (sub_cons rfl (sub_cons rfl (sub_cons rfl (sub_cons rfl (sub_cons rfl (sub_cons rfl (sub_cons rfl (sub_cons rfl (sub_cons rfl (sub_cons rfl (sub_cons rfl (sub_cons rfl (sub_cons rfl (sub_cons rfl (sub_cons rfl (sub_cons rfl (sub_cons rfl (sub_cons rfl (sub_cons rfl (sub_cons rfl (sub_cons rfl (sub_cons rfl (sub_cons rfl (sub_cons rfl (sub_cons rfl (sub_cons rfl (sub_cons rfl (sub_cons rfl (sub_cons rfl (sub_cons rfl (sub_cons rfl (sub_cons rfl (sub_cons rfl (sub_cons rfl (sub_cons rfl (sub_cons rfl (sub_cons rfl (sub_cons rfl (sub_cons rfl (sub_cons rfl (sub_cons rfl (sub_cons rfl (sub_cons rfl (sub_cons rfl sub_nil)))))))))))))))))))))))))))))))))))))))))))))))))))))))))))))))))))))))))))) (sub_cons rfl (sub_cons rfl (sub_cons rfl (sub_cons rfl (sub_cons rfl sub_nil))))) ?_
              refine T_cond_f rfl ?_
              refine T_skip' ?_
              refine p_blk_n ?_
              refine p_seq ?_
              refine T_region ?_
              refine TL_q (.int .i64 ((u + 1 : Nat) : Int)) (fun _ _ hρ _ => r_as (r_add (hρ _ _ rfl) (hρ _ _ rfl)) (int_as ((wrap64 (by omega) (by omega)).trans (by omega)))) rfl rfl rfl (w_n rfl) ?_
              refine TL_q (.int .i64 ((u + 1 : Nat) : Int)) (fun _ _ hρ _ => r_move (hρ _ _ rfl)) rfl rfl rfl (w_n rfl) ?_
              refine TL_nil ?_
              exact p_at (u + 1) ⟨by omega, by omega⟩ (sub_cons rfl (sub_cons rfl (sub_cons rfl (sub_cons rfl (sub_cons rfl (sub_cons rfl (sub_cons rfl (sub_cons rfl (sub_cons rfl sub_nil))))))))) (sub_cons rfl (sub_cons rfl (sub_cons rfl sub_nil)))
          · skip
            refine T_seq (T_region ?_)
            refine TL_q (.int .i64 ((u : Nat) : Int)) (fun _ _ hρ _ => r_move (hρ _ _ rfl)) rfl rfl rfl (w_n rfl) ?_
            refine TL_q (.int .i64 dx) (fun _ _ hρ _ => r_move (hρ _ _ rfl)) rfl rfl rfl (w_n rfl) ?_
            refine TL_q (.int .i64 (((u : Nat) : Int) + dx)) (fun _ _ hρ _ => r_as (r_add (hρ _ _ rfl) (hρ _ _ rfl)) (int_as (wrap64 (by omega) (by omega)))) rfl rfl rfl (w_n rfl) ?_
            refine TL_q (.bool true) (fun _ _ hρ _ => r_as (r_geq (hρ _ _ rfl) (hρ _ _ rfl)) (bool_as (decide_eq_true hb1))) rfl rfl rfl (w_n rfl) ?_
            refine TL_q (.bool true) (fun _ _ hρ _ => r_move (hρ _ _ rfl)) rfl rfl rfl (w_n rfl) ?_
            refine TL_q (.int .i64 ((u : Nat) : Int)) (fun _ _ hρ _ => r_move (hρ _ _ rfl)) rfl rfl rfl (want_y 84 rfl rfl rfl) ?_
            refine TL_q (.int .i64 dx) (fun _ _ hρ _ => r_move (hρ _ _ rfl)) rfl rfl rfl (want_y 84 rfl rfl rfl) ?_
            refine TL_q (.int .i64 (((u : Nat) : Int) + dx)) (fun _ _ hρ _ => r_as (r_add (hρ _ _ rfl) (hρ _ _ rfl)) (int_as (wrap64 (by omega) (by omega)))) rfl rfl rfl (want_y 84 rfl rfl rfl) ?_
            refine TL_q (.bool false) (fun _ _ hρ _ => r_as (r_lss (hρ _ _ rfl) (hρ _ _ rfl)) (bool_as (decide_eq_false hb2))) rfl rfl rfl (want_y 84 rfl rfl rfl) ?_
            refine TL_q (.bool false) (fun _ _ hρ _ => r_pick_t (hρ _ _ rfl) (hρ _ _ rfl)) rfl rfl rfl (w_n rfl) ?_
            refine TL_q (.bool false) (fun _ _ hρ _ => r_move (hρ _ _ rfl)) rfl rfl rfl (w_n rfl) ?_
            refine TL_no rfl rfl (want_n 90 rfl rfl rfl) ?_
            refine TL_no rfl rfl (want_n 90 rfl rfl rfl) ?_
            refine TL_no rfl rfl (want_n 90 rfl rfl rfl) ?_
            refine TL_no rfl rfl (want_n 90 rfl rfl rfl) ?_
            refine TL_q (.bool false) (fun _ _ hρ _ => r_pick_f (hρ _ _ rfl) (hρ _ _ rfl)) rfl rfl rfl (w_n rfl) ?_
            refine TL_q (.bool false) (fun _ _ hρ _ => r_move (hρ _ _ rfl)) rfl rfl rfl (w_n rfl) ?_
            refine TL_no rfl rfl (want_n 96 rfl rfl rfl) ?_
            refine TL_no rfl rfl (want_n 96 rfl rfl rfl) ?_
            refine TL_no rfl rfl (want_n 96 rfl rfl rfl) ?_
            refine TL_no rfl rfl (want_n 96 rfl rfl rfl) ?_
            refine TL_q (.bool false) (fun _ _ hρ _ => r_pick_f (hρ _ _ rfl) (hρ _ _ rfl)) rfl rfl rfl (w_n rfl) ?_
            refine TL_q (.bool false) (fun _ _ hρ _ => r_assign (hρ _ _ rfl)) rfl rfl rfl (w_n rfl) ?_
            refine TL_seq ?_
            refine T_seq (T_region ?_)
            refine TL_q (.agg (lst C4.cells l)) (fun _ _ hρ hm => r_loadW ag25 sz25 (hρ _ _ rfl) (hm.at 1 rfl) (tsz hl)) rfl rfl rfl (w_n rfl) ?_
            refine TL_q (.int .i64 ((u : Nat) : Int)) (fun _ _ hρ _ => r_move (hρ _ _ rfl)) rfl rfl rfl (w_n rfl) ?_
            refine TL_q (.int .i64 ((v : Nat) : Int)) (fun _ _ hρ _ => r_move (hρ _ _ rfl)) rfl rfl rfl (w_n rfl) ?_
            refine TL_call (.tuple #[.agg #[.int .u8 ((atC l ((u : Nat) : Int) ((v : Nat) : Int)).r), .int .u8 ((atC l ((u : Nat) : Int) ((v : Nat) : Int)).g), .int .u8 ((atC l ((u : Nat) : Int) ((v : Nat) : Int)).b), .int .u8 ((atC l ((u : Nat) : Int) ((v : Nat) : Int)).a)], .int .i64 0]) (fun _ _ hρ _ => r_call (args := [.agg (lst C4.cells l), .int .i64 ((u : Nat) : Int), .int .i64 ((v : Nat) : Int)]) (enters_of Try.func19 (by kernel_rfl) rfl) (hρ _ _ rfl) ((cons2 (hρ _ _ rfl) (cons2 (hρ _ _ rfl) (cons2 (hρ _ _ rfl) rfl)))) rfl) (fun w _ => (at_c l ((u : Nat) : Int) ((v : Nat) : Int) w hl).mono fun _ _ h => ⟨h.1.trans (congrArg Ending.returned (by rw [atE_in (isP_in (by omega) (by omega))])), h.2⟩) rfl rfl rfl (w_n rfl) ?_
            refine TL_q (.tuple #[.agg #[.int .u8 ((atC l ((u : Nat) : Int) ((v : Nat) : Int)).r), .int .u8 ((atC l ((u : Nat) : Int) ((v : Nat) : Int)).g), .int .u8 ((atC l ((u : Nat) : Int) ((v : Nat) : Int)).b), .int .u8 ((atC l ((u : Nat) : Int) ((v : Nat) : Int)).a)], .int .i64 0]) (fun _ _ hρ _ => r_move (hρ _ _ rfl)) rfl rfl rfl (w_n rfl) ?_
            refine TL_q (.agg #[.int .u8 ((atC l ((u : Nat) : Int) ((v : Nat) : Int)).r), .int .u8 ((atC l ((u : Nat) : Int) ((v : Nat) : Int)).g), .int .u8 ((atC l ((u : Nat) : Int) ((v : Nat) : Int)).b), .int .u8 ((atC l ((u : Nat) : Int) ((v : Nat) : Int)).a)]) (fun _ _ hρ _ => r_extract (hρ _ _ rfl) rfl) rfl rfl rfl (w_n rfl) ?_
            refine TL_q (.int .i64 0) (fun _ _ hρ _ => r_extract (hρ _ _ rfl) rfl) rfl rfl rfl (w_n rfl) ?_
            refine TL_new 11 (.cells #[.int .u8 0, .int .u8 0, .int .u8 0, .int .u8 0] 23) (fun B => .pointer (some ⟨B, 0, none⟩)) (fun _ _ _ _ => r_alloc (v := .agg #[.int .u8 0, .int .u8 0, .int .u8 0, .int .u8 0]) (by kernel_rfl) rfl) rfl rfl rfl (w_n rfl) ?_
            intro B13
            refine TL_store 11 (.cells #[.int .u8 ((atC l ((u : Nat) : Int) ((v : Nat) : Int)).r), .int .u8 ((atC l ((u : Nat) : Int) ((v : Nat) : Int)).g), .int .u8 ((atC l ((u : Nat) : Int) ((v : Nat) : Int)).b), .int .u8 ((atC l ((u : Nat) : Int) ((v : Nat) : Int)).a)] 23) rfl (fun _ _ hρ hm => r_store sz23 (hρ _ _ rfl) (hρ _ _ rfl) (hm.at 11 rfl) rfl rfl rfl rfl) rfl rfl (w_n rfl) ?_
            refine TL_q (.int .i64 0) (fun _ _ hρ _ => r_assign (hρ _ _ rfl)) rfl rfl rfl (w_n rfl) ?_
            refine TL_seq ?_
            refine T_sub [(3, .pointer (some ⟨B1, 0, none⟩)), (1, .int .i64 dx), (2, .int .i64 dy), (11, .pointer (some ⟨B6, 0, none⟩)), (74, .int .i64 ((v : Nat) : Int)), (75, .bool (decide (((v : Nat) : Int) < 8))), (76, .int .i64 ((v : Nat) : Int)), (12, .int .i64 ((v : Nat) : Int)), (77, .int .i64 ((u : Nat) : Int)), (78, .bool (decide (((u : Nat) : Int) < 8))), (79, .int .i64 ((u : Nat) : Int)), (13, .int .i64 ((u : Nat) : Int)), (80, .int .i64 ((u : Nat) : Int)), (81, .int .i64 dx), (82, .int .i64 (((u : Nat) : Int) + dx)), (83, .bool true), (84, .bool true), (85, .int .i64 ((u : Nat) : Int)), (86, .int .i64 dx), (87, .int .i64 (((u : Nat) : Int) + dx)), (88, .bool false), (89, .bool false), (90, .bool false), (91, undef), (92, undef), (93, undef), (94, undef), (95, .bool false), (96, .bool false), (97, undef), (98, undef), (99, undef), (100, undef), (101, .bool false), (14, .bool false), (103, .agg (lst C4.cells l)), (104, .int .i64 ((u : Nat) : Int)), (105, .int .i64 ((v : Nat) : Int)), (106, .tuple #[.agg #[.int .u8 ((atC l ((u : Nat) : Int) ((v : Nat) : Int)).r), .int .u8 ((atC l ((u : Nat) : Int) ((v : Nat) : Int)).g), .int .u8 ((atC l ((u : Nat) : Int) ((v : Nat) : Int)).b), .int .u8 ((atC l ((u : Nat) : Int) ((v : Nat) : Int)).a)], .int .i64 0]), (102, .tuple #[.agg #[.int .u8 ((atC l ((u : Nat) : Int) ((v : Nat) : Int)).r), .int .u8 ((atC l ((u : Nat) : Int) ((v : Nat) : Int)).g), .int .u8 ((atC l ((u : Nat) : Int) ((v : Nat) : Int)).b), .int .u8 ((atC l ((u : Nat) : Int) ((v : Nat) : Int)).a)], .int .i64 0]), (107, .agg #[.int .u8 ((atC l ((u : Nat) : Int) ((v : Nat) : Int)).r), .int .u8 ((atC l ((u : Nat) : Int) ((v : Nat) : Int)).g), .int .u8 ((atC l ((u : Nat) : Int) ((v : Nat) : Int)).b), .int .u8 ((atC l ((u : Nat) : Int) ((v : Nat) : Int)).a)]), (108, .int .i64 0), (15, .pointer (some ⟨B13, 0, none⟩)), (16, .int .i64 0)] [(2, .row (.slice a2 ((colsN l 64).length) cap2) 23 4 ((colsN l 64).length) ((colsN l 64).flatMap C4.cells)), (1, .blk B1 (.cells (lst C4.cells l) 25)), (4, .blk B6 (.cells (lst C4.cells (shiftL (shiftL l zeroC dx dy) zeroC (-dx) (-dy))) 25)), (11, .blk B13 (.cells #[.int .u8 ((atC l ((u : Nat) : Int) ((v : Nat) : Int)).r), .int .u8 ((atC l ((u : Nat) : Int) ((v : Nat) : Int)).g), .int .u8 ((atC l ((u : Nat) : Int) ((v : Nat) : Int)).b), .int .u8 ((atC l ((u : Nat) : Int) ((v : Nat) : Int)).a)] 23))] (sub_cons rfl (sub_cons rfl (sub_cons rfl (sub_cons rfl (sub_cons rfl (sub_cons rfl (sub_cons rfl (sub_cons rfl (sub_cons rfl (sub_cons rfl (sub_cons rfl (sub_cons rfl (sub_cons rfl (sub_cons rfl (sub_cons rfl (sub_cons rfl (sub_cons rfl (sub_cons rfl (sub_cons rfl (sub_cons rfl (sub_cons rfl (sub_cons rfl (sub_cons rfl (sub_cons rfl (sub_cons rfl (sub_cons rfl (sub_cons rfl (sub_cons rfl (sub_cons rfl (sub_cons rfl (sub_cons rfl (sub_cons rfl (sub_cons rfl (sub_cons rfl (sub_cons rfl (sub_cons rfl (sub_cons rfl (sub_cons rfl (sub_cons rfl (sub_cons rfl (sub_cons rfl (sub_cons rfl (sub_cons rfl (sub_cons rfl sub_nil)))))))))))))))))))))))))))))))))))))))))))) (sub_cons rfl (sub_cons rfl (sub_cons rfl (sub_cons rfl sub_nil)))) ?_
            refine T_seq (T_region ?_)
            refine TL_q (.agg (lst C4.cells (shiftL (shiftL l zeroC dx dy) zeroC (-dx) (-dy)))) (fun _ _ hρ hm => r_loadW ag25 sz25 (hρ _ _ rfl) (hm.at 4 rfl) (tsz (movedL_len _ _ _))) rfl rfl rfl (w_n rfl) ?_
            refine TL_q (.int .i64 ((u : Nat) : Int)) (fun _ _ hρ _ => r_move (hρ _ _ rfl)) rfl rfl rfl (w_n rfl) ?_
            refine TL_q (.int .i64 ((v : Nat) : Int)) (fun _ _ hρ _ => r_move (hρ _ _ rfl)) rfl rfl rfl (w_n rfl) ?_
            refine TL_call (.tuple #[.agg #[.int .u8 0, .int .u8 0, .int .u8 0, .int .u8 0], .int .i64 0]) (fun _ _ hρ _ => r_call (args := [.agg (lst C4.cells (shiftL (shiftL l zeroC dx dy) zeroC (-dx) (-dy))), .int .i64 ((u : Nat) : Int), .int .i64 ((v : Nat) : Int)]) (enters_of Try.func19 (by kernel_rfl) rfl) (hρ _ _ rfl) ((cons2 (hρ _ _ rfl) (cons2 (hρ _ _ rfl) (cons2 (hρ _ _ rfl) rfl)))) rfl) (fun w _ => (at_c (shiftL (shiftL l zeroC dx dy) zeroC (-dx) (-dy)) ((u : Nat) : Int) ((v : Nat) : Int) w (movedL_len _ _ _)).mono fun _ _ h => ⟨h.1.trans (congrArg Ending.returned (by rw [atE_in (isP_in (by omega) (by omega)), shift_back hdx hdy (by omega) (by omega), if_neg (fun h => by have := of_decide_eq_true h; omega)])), h.2⟩) rfl rfl rfl (w_n rfl) ?_
            refine TL_q (.tuple #[.agg #[.int .u8 0, .int .u8 0, .int .u8 0, .int .u8 0], .int .i64 0]) (fun _ _ hρ _ => r_move (hρ _ _ rfl)) rfl rfl rfl (w_n rfl) ?_
            refine TL_q (.agg #[.int .u8 0, .int .u8 0, .int .u8 0, .int .u8 0]) (fun _ _ hρ _ => r_extract (hρ _ _ rfl) rfl) rfl rfl rfl (w_n rfl) ?_
            refine TL_q (.int .i64 0) (fun _ _ hρ _ => r_extract (hρ _ _ rfl) rfl) rfl rfl rfl (w_n rfl) ?_
            refine TL_new 12 (.cells #[.int .u8 0, .int .u8 0, .int .u8 0, .int .u8 0] 23) (fun B => .pointer (some ⟨B, 0, none⟩)) (fun _ _ _ _ => r_alloc (v := .agg #[.int .u8 0, .int .u8 0, .int .u8 0, .int .u8 0]) (by kernel_rfl) rfl) rfl rfl rfl (w_n rfl) ?_
            intro B14
            refine TL_store 12 (.cells #[.int .u8 0, .int .u8 0, .int .u8 0, .int .u8 0] 23) rfl (fun _ _ hρ hm => r_store sz23 (hρ _ _ rfl) (hρ _ _ rfl) (hm.at 12 rfl) rfl rfl rfl rfl) rfl rfl (w_n rfl) ?_
            refine TL_q (.int .i64 0) (fun _ _ hρ _ => r_assign (hρ _ _ rfl)) rfl rfl rfl (w_n rfl) ?_
            refine TL_seq ?_
            refine T_seq (T_region ?_)
            refine TL_q (.int .i64 0) (fun _ _ hρ _ => r_move (hρ _ _ rfl)) rfl rfl rfl (w_n rfl) ?_
            refine TL_q (.bool false) (fun _ _ hρ _ => r_as (r_neq (hρ _ _ rfl) (hρ _ _ rfl)) (by rfl)) rfl rfl rfl (w_n rfl) ?_
            refine TL_q (.bool false) (fun _ _ hρ _ => r_move (hρ _ _ rfl)) rfl rfl rfl (w_n rfl) ?_
            refine TL_q (.int .i64 0) (fun _ _ hρ _ => r_move (hρ _ _ rfl)) rfl rfl rfl (want_y 118 rfl rfl rfl) ?_
            refine TL_q (.bool false) (fun _ _ hρ _ => r_as (r_neq (hρ _ _ rfl) (hρ _ _ rfl)) (by rfl)) rfl rfl rfl (want_y 118 rfl rfl rfl) ?_
            refine TL_q (.bool false) (fun _ _ hρ _ => r_pick_f (hρ _ _ rfl) (hρ _ _ rfl)) rfl rfl rfl (w_n rfl) ?_
            refine TL_q (.bool false) (fun _ _ hρ _ => r_move (hρ _ _ rfl)) rfl rfl rfl (w_n rfl) ?_
            refine TL_q (.bool false) (fun _ _ hρ _ => r_move (hρ _ _ rfl)) rfl rfl rfl (want_y 122 rfl rfl rfl) ?_
            refine TL_q (.bool false) (fun _ _ hρ _ => r_move (hρ _ _ rfl)) rfl rfl rfl (want_y 122 rfl rfl rfl) ?_
            refine TL_no rfl rfl (want_n 124 rfl rfl rfl) ?_
            refine TL_no rfl rfl (want_n 124 rfl rfl rfl) ?_
            refine TL_no rfl rfl (want_n 124 rfl rfl rfl) ?_
            refine TL_q (.bool false) (fun _ _ hρ _ => r_pick_f (hρ _ _ rfl) (hρ _ _ rfl)) rfl rfl rfl (want_y 122 rfl rfl rfl) ?_
            refine TL_q (.bool false) (fun _ _ hρ _ => r_pick_f (hρ _ _ rfl) (hρ _ _ rfl)) rfl rfl rfl (w_n rfl) ?_
            refine TL_q (.bool false) (fun _ _ hρ _ => r_move (hρ _ _ rfl)) rfl rfl rfl (w_n rfl) ?_
            refine TL_q (.bool false) (fun _ _ hρ _ => r_move (hρ _ _ rfl)) rfl rfl rfl (want_y 130 rfl rfl rfl) ?_
            refine TL_q (.bool true) (fun _ _ hρ _ => r_not (b := false) (hρ _ _ rfl)) rfl rfl rfl (want_y 130 rfl rfl rfl) ?_
            refine TL_q (.bool true) (fun _ _ hρ _ => r_move (hρ _ _ rfl)) rfl rfl rfl (want_y 130 rfl rfl rfl) ?_
            refine TL_q (.agg #[.int .u8 0, .int .u8 0, .int .u8 0, .int .u8 0]) (fun _ _ hρ hm => r_loadA ag23 sz23 (hρ _ _ rfl) (hm.at 12 rfl) rfl rfl) rfl rfl rfl (want_y 133 rfl rfl rfl) ?_
            refine TL_q (.agg #[.int .u8 0, .int .u8 0, .int .u8 0, .int .u8 0]) (fun _ _ _ _ => r_build (vs := []) (by kernel_rfl) rfl) rfl rfl rfl (want_y 133 rfl rfl rfl) ?_
            refine TL_q (.bool false) (fun _ _ hρ _ => r_as (r_neqA (by kernel_rfl) (hρ _ _ rfl) (hρ _ _ rfl) (run_equalI (l := [(0, .u8), (1, .u8), (2, .u8), (3, .u8)]) (by kernel_rfl) rfl rfl)) (bool_as (by simp only [eqI_self]; try rfl))) rfl rfl rfl (want_y 133 rfl rfl rfl) ?_
            refine TL_q (.bool false) (fun _ _ hρ _ => r_pick_t (hρ _ _ rfl) (hρ _ _ rfl)) rfl rfl rfl (want_y 130 rfl rfl rfl) ?_
            refine TL_q (.bool false) (fun _ _ hρ _ => r_pick_f (hρ _ _ rfl) (hρ _ _ rfl)) rfl rfl rfl (w_n rfl) ?_
            refine TL_seq ?_
            refine T_sub [(3, .pointer (some ⟨B1, 0, none⟩)), (1, .int .i64 dx), (2, .int .i64 dy), (11, .pointer (some ⟨B6, 0, none⟩)), (74, .int .i64 ((v : Nat) : Int)), (75, .bool (decide (((v : Nat) : Int) < 8))), (76, .int .i64 ((v : Nat) : Int)), (12, .int .i64 ((v : Nat) : Int)), (77, .int .i64 ((u : Nat) : Int)), (78, .bool (decide (((u : Nat) : Int) < 8))), (79, .int .i64 ((u : Nat) : Int)), (13, .int .i64 ((u : Nat) : Int)), (80, .int .i64 ((u : Nat) : Int)), (81, .int .i64 dx), (82, .int .i64 (((u : Nat) : Int) + dx)), (83, .bool true), (84, .bool true), (85, .int .i64 ((u : Nat) : Int)), (86, .int .i64 dx), (87, .int .i64 (((u : Nat) : Int) + dx)), (88, .bool false), (89, .bool false), (90, .bool false), (91, undef), (92, undef), (93, undef), (94, undef), (95, .bool false), (96, .bool false), (97, undef), (98, undef), (99, undef), (100, undef), (101, .bool false), (14, .bool false), (103, .agg (lst C4.cells l)), (104, .int .i64 ((u : Nat) : Int)), (105, .int .i64 ((v : Nat) : Int)), (106, .tuple #[.agg #[.int .u8 ((atC l ((u : Nat) : Int) ((v : Nat) : Int)).r), .int .u8 ((atC l ((u : Nat) : Int) ((v : Nat) : Int)).g), .int .u8 ((atC l ((u : Nat) : Int) ((v : Nat) : Int)).b), .int .u8 ((atC l ((u : Nat) : Int) ((v : Nat) : Int)).a)], .int .i64 0]), (102, .tuple #[.agg #[.int .u8 ((atC l ((u : Nat) : Int) ((v : Nat) : Int)).r), .int .u8 ((atC l ((u : Nat) : Int) ((v : Nat) : Int)).g), .int .u8 ((atC l ((u : Nat) : Int) ((v : Nat) : Int)).b), .int .u8 ((atC l ((u : Nat) : Int) ((v : Nat) : Int)).a)], .int .i64 0]), (107, .agg #[.int .u8 ((atC l ((u : Nat) : Int) ((v : Nat) : Int)).r), .int .u8 ((atC l ((u : Nat) : Int) ((v : Nat) : Int)).g), .int .u8 ((atC l ((u : Nat) : Int) ((v : Nat) : Int)).b), .int .u8 ((atC l ((u : Nat) : Int) ((v : Nat) : Int)).a)]), (108, .int .i64 0), (15, .pointer (some ⟨B13, 0, none⟩)), (16, .int .i64 0), (110, .agg (lst C4.cells (shiftL (shiftL l zeroC dx dy) zeroC (-dx) (-dy)))), (111, .int .i64 ((u : Nat) : Int)), (112, .int .i64 ((v : Nat) : Int)), (113, .tuple #[.agg #[.int .u8 0, .int .u8 0, .int .u8 0, .int .u8 0], .int .i64 0]), (109, .tuple #[.agg #[.int .u8 0, .int .u8 0, .int .u8 0, .int .u8 0], .int .i64 0]), (114, .agg #[.int .u8 0, .int .u8 0, .int .u8 0, .int .u8 0]), (115, .int .i64 0), (17, .pointer (some ⟨B14, 0, none⟩)), (18, .int .i64 0), (116, .int .i64 0), (117, .bool false), (118, .bool false), (119, .int .i64 0), (120, .bool false), (121, .bool false), (122, .bool false), (123, .bool false), (124, .bool false), (125, undef), (126, undef), (127, undef), (128, .bool false), (129, .bool false), (130, .bool false), (131, .bool false), (132, .bool true), (133, .bool true), (134, .agg #[.int .u8 0, .int .u8 0, .int .u8 0, .int .u8 0]), (135, .agg #[.int .u8 0, .int .u8 0, .int .u8 0, .int .u8 0]), (136, .bool false), (137, .bool false), (138, .bool false)] [(2, .row (.slice a2 ((colsN l 64).length) cap2) 23 4 ((colsN l 64).length) ((colsN l 64).flatMap C4.cells)), (1, .blk B1 (.cells (lst C4.cells l) 25)), (4, .blk B6 (.cells (lst C4.cells (shiftL (shiftL l zeroC dx dy) zeroC (-dx) (-dy))) 25)), (11, .blk B13 (.cells #[.int .u8 ((atC l ((u : Nat) : Int) ((v : Nat) : Int)).r), .int .u8 ((atC l ((u : Nat) : Int) ((v : Nat) : Int)).g), .int .u8 ((atC l ((u : Nat) : Int) ((v : Nat) : Int)).b), .int .u8 ((atC l ((u : Nat) : Int) ((v : Nat) : Int)).a)] 23)), (12, .blk B14 (.cells #[.int .u8 0, .int .u8 0, .int .u8 0, .int .u8 0] 23))] (sub_cons rfl (sub_cons rfl (sub_cons rfl (sub_cons rfl (sub_cons rfl (sub_cons rfl (sub_cons rfl (sub_cons rfl (sub_cons rfl (sub_cons rfl (sub_cons rfl (sub_cons rfl (sub_cons rfl (sub_cons rfl (sub_cons rfl (sub_cons rfl (sub_cons rfl (sub_cons rfl (sub_cons rfl (sub_cons rfl (sub_cons rfl (sub_cons rfl (sub_cons rfl (sub_cons rfl (sub_cons rfl (sub_cons rfl (sub_cons rfl (sub_cons rfl (sub_cons rfl (sub_cons rfl (sub_cons rfl (sub_cons rfl (sub_cons rfl (sub_cons rfl (sub_cons rfl (sub_cons rfl (sub_cons rfl (sub_cons rfl (sub_cons rfl (sub_cons rfl (sub_cons rfl (sub_cons rfl (sub_cons rfl (sub_cons rfl (sub_cons rfl (sub_cons rfl (sub_cons rfl (sub_cons rfl (sub_cons rfl (sub_cons rfl (sub_cons rfl (sub_cons rfl (sub_cons rfl (sub_cons rfl (sub_cons rfl (sub_cons rfl (sub_cons rfl (sub_cons rfl (sub_cons rfl (sub_cons rfl (sub_cons rfl (sub_cons rfl (sub_cons rfl (sub_cons rfl (sub_cons rfl (sub_cons rfl (sub_cons rfl (sub_cons rfl (sub_cons rfl (sub_cons rfl (sub_cons rfl (sub_cons rfl (sub_cons rfl (sub_cons rfl (sub_cons rfl (sub_cons rfl sub_nil)))))))))))))))))))))))))))))))))))))))))))))))))))))))))))))))))))))))))))) (sub_cons rfl (sub_cons rfl (sub_cons rfl (sub_cons rfl (sub_cons rfl sub_nil))))) ?_
            refine T_cond_f rfl ?_
            refine T_skip' ?_
            refine p_blk_n ?_
            refine p_seq ?_
            refine T_region ?_
            refine TL_q (.int .i64 ((u + 1 : Nat) : Int)) (fun _ _ hρ _ => r_as (r_add (hρ _ _ rfl) (hρ _ _ rfl)) (int_as ((wrap64 (by omega) (by omega)).trans (by omega)))) rfl rfl rfl (w_n rfl) ?_
            refine TL_q (.int .i64 ((u + 1 : Nat) : Int)) (fun _ _ hρ _ => r_move (hρ _ _ rfl)) rfl rfl rfl (w_n rfl) ?_
            refine TL_nil ?_
            exact p_at (u + 1) ⟨by omega, by omega⟩ (sub_cons rfl (sub_cons rfl (sub_cons rfl (sub_cons rfl (sub_cons rfl (sub_cons rfl (sub_cons rfl (sub_cons rfl (sub_cons rfl sub_nil))))))))) (sub_cons rfl (sub_cons rfl (sub_cons rfl sub_nil)))
        · skip
          refine T_seq (T_region ?_)
          refine TL_q (.int .i64 ((u : Nat) : Int)) (fun _ _ hρ _ => r_move (hρ _ _ rfl)) rfl rfl rfl (w_n rfl) ?_
          refine TL_q (.int .i64 dx) (fun _ _ hρ _ => r_move (hρ _ _ rfl)) rfl rfl rfl (w_n rfl) ?_
          refine TL_q (.int .i64 (((u : Nat) : Int) + dx)) (fun _ _ hρ _ => r_as (r_add (hρ _ _ rfl) (hρ _ _ rfl)) (int_as (wrap64 (by omega) (by omega)))) rfl rfl rfl (w_n rfl) ?_
          refine TL_q (.bool false) (fun _ _ hρ _ => r_as (r_geq (hρ _ _ rfl) (hρ _ _ rfl)) (bool_as (decide_eq_false hb1))) rfl rfl rfl (w_n rfl) ?_
          refine TL_q (.bool false) (fun _ _ hρ _ => r_move (hρ _ _ rfl)) rfl rfl rfl (w_n rfl) ?_
          refine TL_no rfl rfl (want_n 84 rfl rfl rfl) ?_
          refine TL_no rfl rfl (want_n 84 rfl rfl rfl) ?_
          refine TL_no rfl rfl (want_n 84 rfl rfl rfl) ?_
          refine TL_no rfl rfl (want_n 84 rfl rfl rfl) ?_
          refine TL_q (.bool false) (fun _ _ hρ _ => r_pick_f (hρ _ _ rfl) (hρ _ _ rfl)) rfl rfl rfl (w_n rfl) ?_
          refine TL_q (.bool false) (fun _ _ hρ _ => r_move (hρ _ _ rfl)) rfl rfl rfl (w_n rfl) ?_
          refine TL_no rfl rfl (want_n 90 rfl rfl rfl) ?_
          refine TL_no rfl rfl (want_n 90 rfl rfl rfl) ?_
          refine TL_no rfl rfl (want_n 90 rfl rfl rfl) ?_
          refine TL_no rfl rfl (want_n 90 rfl rfl rfl) ?_
          refine TL_q (.bool false) (fun _ _ hρ _ => r_pick_f (hρ _ _ rfl) (hρ _ _ rfl)) rfl rfl rfl (w_n rfl) ?_
          refine TL_q (.bool false) (fun _ _ hρ _ => r_move (hρ _ _ rfl)) rfl rfl rfl (w_n rfl) ?_
          refine TL_no rfl rfl (want_n 96 rfl rfl rfl) ?_
          refine TL_no rfl rfl (want_n 96 rfl rfl rfl) ?_
          refine TL_no rfl rfl (want_n 96 rfl rfl rfl) ?_
          refine TL_no rfl rfl (want_n 96 rfl rfl rfl) ?_
          refine TL_q (.bool false) (fun _ _ hρ _ => r_pick_f (hρ _ _ rfl) (hρ _ _ rfl)) rfl rfl rfl (w_n rfl) ?_
          refine TL_q (.bool false) (fun _ _ hρ _ => r_assign (hρ _ _ rfl)) rfl rfl rfl (w_n rfl) ?_
          refine TL_seq ?_
          refine T_seq (T_region ?_)
          refine TL_q (.agg (lst C4.cells l)) (fun _ _ hρ hm => r_loadW ag25 sz25 (hρ _ _ rfl) (hm.at 1 rfl) (tsz hl)) rfl rfl rfl (w_n rfl) ?_
          refine TL_q (.int .i64 ((u : Nat) : Int)) (fun _ _ hρ _ => r_move (hρ _ _ rfl)) rfl rfl rfl (w_n rfl) ?_
          refine TL_q (.int .i64 ((v : Nat) : Int)) (fun _ _ hρ _ => r_move (hρ _ _ rfl)) rfl rfl rfl (w_n rfl) ?_
          refine TL_call (.tuple #[.agg #[.int .u8 ((atC l ((u : Nat) : Int) ((v : Nat) : Int)).r), .int .u8 ((atC l ((u : Nat) : Int) ((v : Nat) : Int)).g), .int .u8 ((atC l ((u : Nat) : Int) ((v : Nat) : Int)).b), .int .u8 ((atC l ((u : Nat) : Int) ((v : Nat) : Int)).a)], .int .i64 0]) (fun _ _ hρ _ => r_call (args := [.agg (lst C4.cells l), .int .i64 ((u : Nat) : Int), .int .i64 ((v : Nat) : Int)]) (enters_of Try.func19 (by kernel_rfl) rfl) (hρ _ _ rfl) ((cons2 (hρ _ _ rfl) (cons2 (hρ _ _ rfl) (cons2 (hρ _ _ rfl) rfl)))) rfl) (fun w _ => (at_c l ((u : Nat) : Int) ((v : Nat) : Int) w hl).mono fun _ _ h => ⟨h.1.trans (congrArg Ending.returned (by rw [atE_in (isP_in (by omega) (by omega))])), h.2⟩) rfl rfl rfl (w_n rfl) ?_
          refine TL_q (.tuple #[.agg #[.int .u8 ((atC l ((u : Nat) : Int) ((v : Nat) : Int)).r), .int .u8 ((atC l ((u : Nat) : Int) ((v : Nat) : Int)).g), .int .u8 ((atC l ((u : Nat) : Int) ((v : Nat) : Int)).b), .int .u8 ((atC l ((u : Nat) : Int) ((v : Nat) : Int)).a)], .int .i64 0]) (fun _ _ hρ _ => r_move (hρ _ _ rfl)) rfl rfl rfl (w_n rfl) ?_
          refine TL_q (.agg #[.int .u8 ((atC l ((u : Nat) : Int) ((v : Nat) : Int)).r), .int .u8 ((atC l ((u : Nat) : Int) ((v : Nat) : Int)).g), .int .u8 ((atC l ((u : Nat) : Int) ((v : Nat) : Int)).b), .int .u8 ((atC l ((u : Nat) : Int) ((v : Nat) : Int)).a)]) (fun _ _ hρ _ => r_extract (hρ _ _ rfl) rfl) rfl rfl rfl (w_n rfl) ?_
          refine TL_q (.int .i64 0) (fun _ _ hρ _ => r_extract (hρ _ _ rfl) rfl) rfl rfl rfl (w_n rfl) ?_
          refine TL_new 13 (.cells #[.int .u8 0, .int .u8 0, .int .u8 0, .int .u8 0] 23) (fun B => .pointer (some ⟨B, 0, none⟩)) (fun _ _ _ _ => r_alloc (v := .agg #[.int .u8 0, .int .u8 0, .int .u8 0, .int .u8 0]) (by kernel_rfl) rfl) rfl rfl rfl (w_n rfl) ?_
          intro B15
          refine TL_store 13 (.cells #[.int .u8 ((atC l ((u : Nat) : Int) ((v : Nat) : Int)).r), .int .u8 ((atC l ((u : Nat) : Int) ((v : Nat) : Int)).g), .int .u8 ((atC l ((u : Nat) : Int) ((v : Nat) : Int)).b), .int .u8 ((atC l ((u : Nat) : Int) ((v : Nat) : Int)).a)] 23) rfl (fun _ _ hρ hm => r_store sz23 (hρ _ _ rfl) (hρ _ _ rfl) (hm.at 13 rfl) rfl rfl rfl rfl) rfl rfl (w_n rfl) ?_
          refine TL_q (.int .i64 0) (fun _ _ hρ _ => r_assign (hρ _ _ rfl)) rfl rfl rfl (w_n rfl) ?_
          refine TL_seq ?_
          refine T_sub [(3, .pointer (some ⟨B1, 0, none⟩)), (1, .int .i64 dx), (2, .int .i64 dy), (11, .pointer (some ⟨B6, 0, none⟩)), (74, .int .i64 ((v : Nat) : Int)), (75, .bool (decide (((v : Nat) : Int) < 8))), (76, .int .i64 ((v : Nat) : Int)), (12, .int .i64 ((v : Nat) : Int)), (77, .int .i64 ((u : Nat) : Int)), (78, .bool (decide (((u : Nat) : Int) < 8))), (79, .int .i64 ((u : Nat) : Int)), (13, .int .i64 ((u : Nat) : Int)), (80, .int .i64 ((u : Nat) : Int)), (81, .int .i64 dx), (82, .int .i64 (((u : Nat) : Int) + dx)), (83, .bool false), (84, .bool false), (85, undef), (86, undef), (87, undef), (88, undef), (89, .bool false), (90, .bool false), (91, undef), (92, undef), (93, undef), (94, undef), (95, .bool false), (96, .bool false), (97, undef), (98, undef), (99, undef), (100, undef), (101, .bool false), (14, .bool false), (103, .agg (lst C4.cells l)), (104, .int .i64 ((u : Nat) : Int)), (105, .int .i64 ((v : Nat) : Int)), (106, .tuple #[.agg #[.int .u8 ((atC l ((u : Nat) : Int) ((v : Nat) : Int)).r), .int .u8 ((atC l ((u : Nat) : Int) ((v : Nat) : Int)).g), .int .u8 ((atC l ((u : Nat) : Int) ((v : Nat) : Int)).b), .int .u8 ((atC l ((u : Nat) : Int) ((v : Nat) : Int)).a)], .int .i64 0]), (102, .tuple #[.agg #[.int .u8 ((atC l ((u : Nat) : Int) ((v : Nat) : Int)).r), .int .u8 ((atC l ((u : Nat) : Int) ((v : Nat) : Int)).g), .int .u8 ((atC l ((u : Nat) : Int) ((v : Nat) : Int)).b), .int .u8 ((atC l ((u : Nat) : Int) ((v : Nat) : Int)).a)], .int .i64 0]), (107, .agg #[.int .u8 ((atC l ((u : Nat) : Int) ((v : Nat) : Int)).r), .int .u8 ((atC l ((u : Nat) : Int) ((v : Nat) : Int)).g), .int .u8 ((atC l ((u : Nat) : Int) ((v : Nat) : Int)).b), .int .u8 ((atC l ((u : Nat) : Int) ((v : Nat) : Int)).a)]), (108, .int .i64 0), (15, .pointer (some ⟨B15, 0, none⟩)), (16, .int .i64 0)] [(2, .row (.slice a2 ((colsN l 64).length) cap2) 23 4 ((colsN l 64).length) ((colsN l 64).flatMap C4.cells)), (1, .blk B1 (.cells (lst C4.cells l) 25)), (4, .blk B6 (.cells (lst C4.cells (shiftL (shiftL l zeroC dx dy) zeroC (-dx) (-dy))) 25)), (13, .blk B15 (.cells #[.int .u8 ((atC l ((u : Nat) : Int) ((v : Nat) : Int)).r), .int .u8 ((atC l ((u : Nat) : Int) ((v : Nat) : Int)).g), .int .u8 ((atC l ((u : Nat) : Int) ((v : Nat) : Int)).b), .int .u8 ((atC l ((u : Nat) : Int) ((v : Nat) : Int)).a)] 23))] (sub_cons rfl (sub_cons rfl (sub_cons rfl (sub_cons rfl (sub_cons rfl (sub_cons rfl (sub_cons rfl (sub_cons rfl (sub_cons rfl (sub_cons rfl (sub_cons rfl (sub_cons rfl (sub_cons rfl (sub_cons rfl (sub_cons rfl (sub_cons rfl (sub_cons rfl (sub_cons rfl (sub_cons rfl (sub_cons rfl (sub_cons rfl (sub_cons rfl (sub_cons rfl (sub_cons rfl (sub_cons rfl (sub_cons rfl (sub_cons rfl (sub_cons rfl (sub_cons rfl (sub_cons rfl (sub_cons rfl (sub_cons rfl (sub_cons rfl (sub_cons rfl (sub_cons rfl (sub_cons rfl (sub_cons rfl (sub_cons rfl (sub_cons rfl (sub_cons rfl (sub_cons rfl (sub_cons rfl (sub_cons rfl (sub_cons rfl sub_nil)))))))))))))))))))))))))))))))))))))))))))) (sub_cons rfl (sub_cons rfl (sub_cons rfl (sub_cons rfl sub_nil)))) ?_
          refine T_seq (T_region ?_)
          refine TL_q (.agg (lst C4.cells (shiftL (shiftL l zeroC dx dy) zeroC (-dx) (-dy)))) (fun _ _ hρ hm => r_loadW ag25 sz25 (hρ _ _ rfl) (hm.at 4 rfl) (tsz (movedL_len _ _ _))) rfl rfl rfl (w_n rfl) ?_
          refine TL_q (.int .i64 ((u : Nat) : Int)) (fun _ _ hρ _ => r_move (hρ _ _ rfl)) rfl rfl rfl (w_n rfl) ?_
          refine TL_q (.int .i64 ((v : Nat) : Int)) (fun _ _ hρ _ => r_move (hρ _ _ rfl)) rfl rfl rfl (w_n rfl) ?_
          refine TL_call (.tuple #[.agg #[.int .u8 0, .int .u8 0, .int .u8 0, .int .u8 0], .int .i64 0]) (fun _ _ hρ _ => r_call (args := [.agg (lst C4.cells (shiftL (shiftL l zeroC dx dy) zeroC (-dx) (-dy))), .int .i64 ((u : Nat) : Int), .int .i64 ((v : Nat) : Int)]) (enters_of Try.func19 (by kernel_rfl) rfl) (hρ _ _ rfl) ((cons2 (hρ _ _ rfl) (cons2 (hρ _ _ rfl) (cons2 (hρ _ _ rfl) rfl)))) rfl) (fun w _ => (at_c (shiftL (shiftL l zeroC dx dy) zeroC (-dx) (-dy)) ((u : Nat) : Int) ((v : Nat) : Int) w (movedL_len _ _ _)).mono fun _ _ h => ⟨h.1.trans (congrArg Ending.returned (by rw [atE_in (isP_in (by omega) (by omega)), shift_back hdx hdy (by omega) (by omega), if_neg (fun h => by have := of_decide_eq_true h; omega)])), h.2⟩) rfl rfl rfl (w_n rfl) ?_
          refine TL_q (.tuple #[.agg #[.int .u8 0, .int .u8 0, .int .u8 0, .int .u8 0], .int .i64 0]) (fun _ _ hρ _ => r_move (hρ _ _ rfl)) rfl rfl rfl (w_n rfl) ?_
          refine TL_q (.agg #[.int .u8 0, .int .u8 0, .int .u8 0, .int .u8 0]) (fun _ _ hρ _ => r_extract (hρ _ _ rfl) rfl) rfl rfl rfl (w_n rfl) ?_
          refine TL_q (.int .i64 0) (fun _ _ hρ _ => r_extract (hρ _ _ rfl) rfl) rfl rfl rfl (w_n rfl) ?_
          refine TL_new 14 (.cells #[.int .u8 0, .int .u8 0, .int .u8 0, .int .u8 0] 23) (fun B => .pointer (some ⟨B, 0, none⟩)) (fun _ _ _ _ => r_alloc (v := .agg #[.int .u8 0, .int .u8 0, .int .u8 0, .int .u8 0]) (by kernel_rfl) rfl) rfl rfl rfl (w_n rfl) ?_
          intro B16
          refine TL_store 14 (.cells #[.int .u8 0, .int .u8 0, .int .u8 0, .int .u8 0] 23) rfl (fun _ _ hρ hm => r_store sz23 (hρ _ _ rfl) (hρ _ _ rfl) (hm.at 14 rfl) rfl rfl rfl rfl) rfl rfl (w_n rfl) ?_
          refine TL_q (.int .i64 0) (fun _ _ hρ _ => r_assign (hρ _ _ rfl)) rfl rfl rfl (w_n rfl) ?_
          refine TL_seq ?_
          refine T_seq (T_region ?_)
          refine TL_q (.int .i64 0) (fun _ _ hρ _ => r_move (hρ _ _ rfl)) rfl rfl rfl (w_n rfl) ?_
          refine TL_q (.bool false) (fun _ _ hρ _ => r_as (r_neq (hρ _ _ rfl) (hρ _ _ rfl)) (by rfl)) rfl rfl rfl (w_n rfl) ?_
          refine TL_q (.bool false) (fun _ _ hρ _ => r_move (hρ _ _ rfl)) rfl rfl rfl (w_n rfl) ?_
          refine TL_q (.int .i64 0) (fun _ _ hρ _ => r_move (hρ _ _ rfl)) rfl rfl rfl (want_y 118 rfl rfl rfl) ?_
          refine TL_q (.bool false) (fun _ _ hρ _ => r_as (r_neq (hρ _ _ rfl) (hρ _ _ rfl)) (by rfl)) rfl rfl rfl (want_y 118 rfl rfl rfl) ?_
          refine TL_q (.bool false) (fun _ _ hρ _ => r_pick_f (hρ _ _ rfl) (hρ _ _ rfl)) rfl rfl rfl (w_n rfl) ?_
          refine TL_q (.bool false) (fun _ _ hρ _ => r_move (hρ _ _ rfl)) rfl rfl rfl (w_n rfl) ?_
          refine TL_q (.bool false) (fun _ _ hρ _ => r_move (hρ _ _ rfl)) rfl rfl rfl (want_y 122 rfl rfl rfl) ?_
          refine TL_q (.bool false) (fun _ _ hρ _ => r_move (hρ _ _ rfl)) rfl rfl rfl (want_y 122 rfl rfl rfl) ?_
          refine TL_no rfl rfl (want_n 124 rfl rfl rfl) ?_
          refine TL_no rfl rfl (want_n 124 rfl rfl rfl) ?_
          refine TL_no rfl rfl (want_n 124 rfl rfl rfl) ?_
          refine TL_q (.bool false) (fun _ _ hρ _ => r_pick_f (hρ _ _ rfl) (hρ _ _ rfl)) rfl rfl rfl (want_y 122 rfl rfl rfl) ?_
          refine TL_q (.bool false) (fun _ _ hρ _ => r_pick_f (hρ _ _ rfl) (hρ _ _ rfl)) rfl rfl rfl (w_n rfl) ?_
          refine TL_q (.bool false) (fun _ _ hρ _ => r_move (hρ _ _ rfl)) rfl rfl rfl (w_n rfl) ?_
          refine TL_q (.bool false) (fun _ _ hρ _ => r_move (hρ _ _ rfl)) rfl rfl rfl (want_y 130 rfl rfl rfl) ?_
          refine TL_q (.bool true) (fun _ _ hρ _ => r_not (b := false) (hρ _ _ rfl)) rfl rfl rfl (want_y 130 rfl rfl rfl) ?_
          refine TL_q (.bool true) (fun _ _ hρ _ => r_move (hρ _ _ rfl)) rfl rfl rfl (want_y 130 rfl rfl rfl) ?_
          refine TL_q (.agg #[.int .u8 0, .int .u8 0, .int .u8 0, .int .u8 0]) (fun _ _ hρ hm => r_loadA ag23 sz23 (hρ _ _ rfl) (hm.at 14 rfl) rfl rfl) rfl rfl rfl (want_y 133 rfl rfl rfl) ?_
          refine TL_q (.agg #[.int .u8 0, .int .u8 0, .int .u8 0, .int .u8 0]) (fun _ _ _ _ => r_build (vs := []) (by kernel_rfl) rfl) rfl rfl rfl (want_y 133 rfl rfl rfl) ?_
          refine TL_q (.bool false) (fun _ _ hρ _ => r_as (r_neqA (by kernel_rfl) (hρ _ _ rfl) (hρ _ _ rfl) (run_equalI (l := [(0, .u8), (1, .u8), (2, .u8), (3, .u8)]) (by kernel_rfl) rfl rfl)) (bool_as (by simp only [eqI_self]; try rfl))) rfl rfl rfl (want_y 133 rfl rfl rfl) ?_
          refine TL_q (.bool false) (fun _ _ hρ _ => r_pick_t (hρ _ _ rfl) (hρ _ _ rfl)) rfl rfl rfl (want_y 130 rfl rfl rfl) ?_
          refine TL_q (.bool false) (fun _ _ hρ _ => r_pick_f (hρ _ _ rfl) (hρ _ _ rfl)) rfl rfl rfl (w_n rfl) ?_
          refine TL_seq ?_
          refine T_sub [(3, .pointer (some ⟨B1, 0, none⟩)), (1, .int .i64 dx), (2, .int .i64 dy), (11, .pointer (some ⟨B6, 0, none⟩)), (74, .int .i64 ((v : Nat) : Int)), (75, .bool (decide (((v : Nat) : Int) < 8))), (76, .int .i64 ((v : Nat) : Int)), (12, .int .i64 ((v : Nat) : Int)), (77, .int .i64 ((u : Nat) : Int)), (78, .bool (decide (((u : Nat) : Int) < 8))), (79, .int .i64 ((u : Nat) : Int)), (13, .int .i64 ((u : Nat) : Int)), (80, .int .i64 ((u : Nat) : Int)), (81, .int .i64 dx), (82, .int .i64 (((u : Nat) : Int) + dx)), (83, .bool false), (84, .bool false), (85, undef), (86, undef), (87, undef), (88, undef), (89, .bool false), (90, .bool false), (91, undef), (92, undef), (93, undef), (94, undef), (95, .bool false), (96, .bool false), (97, undef), (98, undef), (99, undef), (100, undef), (101, .bool false), (14, .bool false), (103, .agg (lst C4.cells l)), (104, .int .i64 ((u : Nat) : Int)), (105, .int .i64 ((v : Nat) : Int)), (106, .tuple #[.agg #[.int .u8 ((atC l ((u : Nat) : Int) ((v : Nat) : Int)).r), .int .u8 ((atC l ((u : Nat) : Int) ((v : Nat) : Int)).g), .int .u8 ((atC l ((u : Nat) : Int) ((v : Nat) : Int)).b), .int .u8 ((atC l ((u : Nat) : Int) ((v : Nat) : Int)).a)], .int .i64 0]), (102, .tuple #[.agg #[.int .u8 ((atC l ((u : Nat) : Int) ((v : Nat) : Int)).r), .int .u8 ((atC l ((u : Nat) : Int) ((v : Nat) : Int)).g), .int .u8 ((atC l ((u : Nat) : Int) ((v : Nat) : Int)).b), .int .u8 ((atC l ((u : Nat) : Int) ((v : Nat) : Int)).a)], .int .i64 0]), (107, .agg #[.int .u8 ((atC l ((u : Nat) : Int) ((v : Nat) : Int)).r), .int .u8 ((atC l ((u : Nat) : Int) ((v : Nat) : Int)).g), .int .u8 ((atC l ((u : Nat) : Int) ((v : Nat) : Int)).b), .int .u8 ((atC l ((u : Nat) : Int) ((v : Nat) : Int)).a)]), (108, .int .i64 0), (15, .pointer (some ⟨B15, 0, none⟩)), (16, .int .i64 0), (110, .agg (lst C4.cells (shiftL (shiftL l zeroC dx dy) zeroC (-dx) (-dy)))), (111, .int .i64 ((u : Nat) : Int)), (112, .int .i64 ((v : Nat) : Int)), (113, .tuple #[.agg #[.int .u8 0, .int .u8 0, .int .u8 0, .int .u8 0], .int .i64 0]), (109, .tuple #[.agg #[.int .u8 0, .int .u8 0, .int .u8 0, .int .u8 0], .int .i64 0]), (114, .agg #[.int .u8 0, .int .u8 0, .int .u8 0, .int .u8 0]), (115, .int .i64 0), (17, .pointer (some ⟨B16, 0, none⟩)), (18, .int .i64 0), (116, .int .i64 0), (117, .bool false), (118, .bool false), (119, .int .i64 0), (120, .bool false), (121, .bool false), (122, .bool false), (123, .bool false), (124, .bool false), (125, undef), (126, undef), (127, undef), (128, .bool false), (129, .bool false), (130, .bool false), (131, .bool false), (132, .bool true), (133, .bool true), (134, .agg #[.int .u8 0, .int .u8 0, .int .u8 0, .int .u8 0]), (135, .agg #[.int .u8 0, .int .u8 0, .int .u8 0, .int .u8 0]), (136, .bool false), (137, .bool false), (138, .bool false)] [(2, .row (.slice a2 ((colsN l 64).length) cap2) 23 4 ((colsN l 64).length) ((colsN l 64).flatMap C4.cells)), (1, .blk B1 (.cells (lst C4.cells l) 25)), (4, .blk B6 (.cells (lst C4.cells (shiftL (shiftL l zeroC dx dy) zeroC (-dx) (-dy))) 25)), (13, .blk B15 (.cells #[.int .u8 ((atC l ((u : Nat) : Int) ((v : Nat) : Int)).r), .int .u8 ((atC l ((u : Nat) : Int) ((v : Nat) : Int)).g), .int .u8 ((atC l ((u : Nat) : Int) ((v : Nat) : Int)).b), .int .u8 ((atC l ((u : Nat) : Int) ((v : Nat) : Int)).a)] 23)), (14, .blk B16 (.cells #[.int .u8 0, .int .u8 0, .int .u8 0, .int .u8 0] 23))] (sub_cons rfl (sub_cons rfl (sub_cons rfl (sub_cons rfl (sub_cons rfl (sub_cons rfl (sub_cons rfl (sub_cons rfl (sub_cons rfl (sub_cons rfl (sub_cons rfl (sub_cons rfl (sub_cons rfl (sub_cons rfl (sub_cons rfl (sub_cons rfl (sub_cons rfl (sub_cons rfl (sub_cons rfl (sub_cons rfl (sub_cons rfl (sub_cons rfl (sub_cons rfl (sub_cons rfl (sub_cons rfl (sub_cons rfl (sub_cons rfl (sub_cons rfl (sub_cons rfl (sub_cons rfl (sub_cons rfl (sub_cons rfl (sub_cons rfl (sub_cons rfl (sub_cons rfl (sub_cons rfl (sub_cons rfl (sub_cons rfl (sub_cons rfl (sub_cons rfl (sub_cons rfl (sub_cons rfl (sub_cons rfl (sub_cons rfl (sub_cons rfl (sub_cons rfl (sub_cons rfl (sub_cons rfl (sub_cons rfl (sub_cons rfl (sub_cons rfl (sub_cons rfl (sub_cons rfl (sub_cons rfl (sub_cons rfl (sub_cons rfl (sub_cons rfl (sub_cons rfl (sub_cons rfl (sub_cons rfl (sub_cons rfl (sub_cons rfl (sub_cons rfl (sub_cons rfl (sub_cons rfl (sub_cons rfl (sub_cons rfl (sub_cons rfl (sub_cons rfl (sub_cons rfl (sub_cons rfl (sub_cons rfl (sub_cons rfl (sub_cons rfl (sub_cons rfl (sub_cons rfl sub_nil)))))))))))))))))))))))))))))))))))))))))))))))))))))))))))))))))))))))))))) (sub_cons rfl (sub_cons rfl (sub_cons rfl (sub_cons rfl (sub_cons rfl sub_nil))))) ?_
          refine T_cond_f rfl ?_
          refine T_skip' ?_
          refine p_blk_n ?_
          refine p_seq ?_
          refine T_region ?_
          refine TL_q (.int .i64 ((u + 1 : Nat) : Int)) (fun _ _ hρ _ => r_as (r_add (hρ _ _ rfl) (hρ _ _ rfl)) (int_as ((wrap64 (by omega) (by omega)).trans (by omega)))) rfl rfl rfl (w_n rfl) ?_
          refine TL_q (.int .i64 ((u + 1 : Nat) : Int)) (fun _ _ hρ _ => r_move (hρ _ _ rfl)) rfl rfl rfl (w_n rfl) ?_
          refine TL_nil ?_
          exact p_at (u + 1) ⟨by omega, by omega⟩ (sub_cons rfl (sub_cons rfl (sub_cons rfl (sub_cons rfl (sub_cons rfl (sub_cons rfl (sub_cons rfl (sub_cons rfl (sub_cons rfl sub_nil))))))))) (sub_cons rfl (sub_cons rfl (sub_cons rfl sub_nil)))
      · replace h3 := of_decide_eq_false h3
        refine T_exit' ?_
        refine p_then_x ?_
        refine p_then_x ?_
        refine p_blk_x ?_
        refine p_blk_n ?_
        refine p_seq ?_
        refine T_region ?_
        refine TL_q (.int .i64 ((v + 1 : Nat) : Int)) (fun _ _ hρ _ => r_as (r_add (hρ _ _ rfl) (hρ _ _ rfl)) (int_as ((wrap64 (by omega) (by omega)).trans (by omega)))) rfl rfl rfl (w_n rfl) ?_
        refine TL_q (.int .i64 ((v + 1 : Nat) : Int)) (fun _ _ hρ _ => r_move (hρ _ _ rfl)) rfl rfl rfl (w_n rfl) ?_
        refine TL_nil ?_
        exact p_at (v + 1) ⟨by omega, by omega⟩ (sub_cons rfl (sub_cons rfl (sub_cons rfl (sub_cons rfl (sub_cons rfl sub_nil))))) (sub_cons rfl (sub_cons rfl (sub_cons rfl sub_nil)))
    · replace h2 := of_decide_eq_false h2
      refine T_exit' ?_
      refine p_then_x ?_
      refine p_then_x ?_
      refine p_blk_x ?_
      refine p_seq ?_
      refine T_seq (T_region ?_)
      refine TL_q (.bool true) (fun _ _ hρ _ => r_assign (hρ _ _ rfl)) rfl rfl rfl (w_n rfl) ?_
      refine TL_seq ?_
      refine T_ret' ?_
      refine ret_of rfl (.bool true) (fun tmps w hk hm => res1 rfl (res_tmp (hk 6 _ rfl))) (fun w hm => ?_)
      exact ⟨rfl, hm.ext⟩

set_option maxHeartbeats 4000000 in
theorem boxes_any (a b : List C4) (w : World) (ha : a.length = 64) (hb : b.length = 64) : Calls Try.prog 4 #[til a, til b] w fun e w' => e = .returned (.bool true) ∧ Below w.heap.size w w' := by
  refine calls_of_T (l := [.agg (lst C4.cells a), .agg (lst C4.cells b)]) 130 Try.func4 rfl rfl rfl ?_
  show T _ _ _ [(0, .agg (lst C4.cells a)), (1, .agg (lst C4.cells b))] []
  refine T_seq (T_region ?_)
  refine TL_new 1 (.cells (lst C4.cells a) 25) (fun B => .pointer (some ⟨B, 0, none⟩)) (fun _ _ hρ _ => r_box (hρ _ _ rfl) rfl) rfl rfl rfl (w_n rfl) ?_
  intro B1
  refine TL_new 2 (.cells (lst C4.cells b) 25) (fun B => .pointer (some ⟨B, 0, none⟩)) (fun _ _ hρ _ => r_box (hρ _ _ rfl) rfl) rfl rfl rfl (w_n rfl) ?_
  intro B2
  refine TL_q (.bool false) (fun _ _ hρ _ => r_assign (hρ _ _ rfl)) rfl rfl rfl (w_n rfl) ?_
  refine TL_seq ?_
  refine T_seq ?_
  refine T_seq (T_region ?_)
  refine TL_call (.bool true) (fun _ _ hρ _ => r_call (args := []) (enters_of Try.func9 (by kernel_rfl) rfl) (hρ _ _ rfl) (by rfl) rfl) (fun w _ => wakes_any w) rfl rfl rfl (w_n rfl) ?_
  refine TL_q (.bool false) (fun _ _ hρ _ => r_not (b := true) (hρ _ _ rfl)) rfl rfl rfl (w_n rfl) ?_
  refine TL_seq ?_
  refine T_cond_f rfl ?_
  refine T_skip' ?_
  refine p_seq ?_
  by_cases hAB : a = b
  · skip
    refine T_seq (T_region ?_)
    refine TL_q (.agg (lst C4.cells a)) (fun _ _ hρ hm => r_loadW ag25 sz25 (hρ _ _ rfl) (hm.at 1 rfl) (tsz ha)) rfl rfl rfl (w_n rfl) ?_
    refine TL_q (.agg (lst C4.cells b)) (fun _ _ hρ hm => r_loadW ag25 sz25 (hρ _ _ rfl) (hm.at 2 rfl) (tsz hb)) rfl rfl rfl (w_n rfl) ?_
    refine TL_call (.tuple #[.agg #[.int .i64 0, .int .i64 0, .int .i64 0, .int .i64 0], .bool false]) (fun _ _ hρ _ => r_call (args := [.agg (lst C4.cells a), .agg (lst C4.cells b)]) (enters_of Try.func17 (by kernel_rfl) rfl) (hρ _ _ rfl) ((cons2 (hρ _ _ rfl) (cons2 (hρ _ _ rfl) rfl))) rfl) (fun w _ => (box_c a b w ha hb).mono fun _ _ h => ⟨h.1.trans (congrArg Ending.returned (by rw [show boxE a b = zeroB from if_pos hAB, decide_eq_true hAB]; rfl)), h.2⟩) rfl rfl rfl (w_n rfl) ?_
    refine TL_q (.tuple #[.agg #[.int .i64 0, .int .i64 0, .int .i64 0, .int .i64 0], .bool false]) (fun _ _ hρ _ => r_move (hρ _ _ rfl)) rfl rfl rfl (w_n rfl) ?_
    refine TL_q (.agg #[.int .i64 0, .int .i64 0, .int .i64 0, .int .i64 0]) (fun _ _ hρ _ => r_extract (hρ _ _ rfl) rfl) rfl rfl rfl (w_n rfl) ?_
    refine TL_q (.bool false) (fun _ _ hρ _ => r_extract (hρ _ _ rfl) rfl) rfl rfl rfl (w_n rfl) ?_
    refine TL_new 3 (.cells #[.int .i64 0, .int .i64 0, .int .i64 0, .int .i64 0] 33) (fun B => .pointer (some ⟨B, 0, none⟩)) (fun _ _ _ _ => r_alloc (v := .agg #[.int .i64 0, .int .i64 0, .int .i64 0, .int .i64 0]) (by kernel_rfl) rfl) rfl rfl rfl (w_n rfl) ?_
    intro B3
    refine TL_store 3 (.cells #[.int .i64 0, .int .i64 0, .int .i64 0, .int .i64 0] 33) rfl (fun _ _ hρ hm => r_store sz33 (hρ _ _ rfl) (hρ _ _ rfl) (hm.at 3 rfl) rfl rfl rfl rfl) rfl rfl (w_n rfl) ?_
    refine TL_q (.bool false) (fun _ _ hρ _ => r_assign (hρ _ _ rfl)) rfl rfl rfl (w_n rfl) ?_
    refine TL_seq ?_
    refine T_seq ?_
    refine T_seq (T_region ?_)
    refine TL_q (.bool false) (fun _ _ hρ _ => r_move (hρ _ _ rfl)) rfl rfl rfl (w_n rfl) ?_
    refine TL_q (.bool true) (fun _ _ hρ _ => r_not (b := false) (hρ _ _ rfl)) rfl rfl rfl (w_n rfl) ?_
    refine TL_seq ?_
    refine T_cond_t rfl ?_
    refine T_seq (T_region ?_)
    refine TL_q (.agg (lst C4.cells a)) (fun _ _ hρ hm => r_loadW ag25 sz25 (hρ _ _ rfl) (hm.at 1 rfl) (tsz ha)) rfl rfl rfl (w_n rfl) ?_
    refine TL_q (.agg (lst C4.cells b)) (fun _ _ hρ hm => r_loadW ag25 sz25 (hρ _ _ rfl) (hm.at 2 rfl) (tsz hb)) rfl rfl rfl (w_n rfl) ?_
    refine TL_q (.bool true) (fun _ w hρ _ => r_as (r_as (r_eqlA (by kernel_rfl) (hρ _ _ rfl) (hρ _ _ rfl) (eq_til ha hb w)) (by rfl)) (bool_as (decide_eq_true hAB))) rfl rfl rfl (w_n rfl) ?_
    refine TL_q (.bool true) (fun _ _ hρ _ => r_move (hρ _ _ rfl)) rfl rfl rfl (w_n rfl) ?_
    refine TL_q (.agg #[.int .i64 0, .int .i64 0, .int .i64 0, .int .i64 0]) (fun _ _ hρ hm => r_loadA ag33 sz33 (hρ _ _ rfl) (hm.at 3 rfl) rfl rfl) rfl rfl rfl (want_y 31 rfl rfl rfl) ?_
    refine TL_q (.agg #[.int .i64 0, .int .i64 0, .int .i64 0, .int .i64 0]) (fun _ _ _ _ => r_build (vs := []) (by kernel_rfl) rfl) rfl rfl rfl (want_y 31 rfl rfl rfl) ?_
    refine TL_q (.bool true) (fun _ _ hρ _ => r_as (r_eqlA (by kernel_rfl) (hρ _ _ rfl) (hρ _ _ rfl) (run_equalI (l := [(0, .i64), (1, .i64), (2, .i64), (3, .i64)]) (by kernel_rfl) rfl rfl)) (bool_as (by simp only [eqI_self]; try rfl))) rfl rfl rfl (want_y 31 rfl rfl rfl) ?_
    refine TL_q (.bool true) (fun _ _ hρ _ => r_pick_t (hρ _ _ rfl) (hρ _ _ rfl)) rfl rfl rfl (w_n rfl) ?_
    refine TL_q (.bool true) (fun _ _ hρ _ => r_assign (hρ _ _ rfl)) rfl rfl rfl (w_n rfl) ?_
    refine TL_seq ?_
    refine T_ret' ?_
    refine p_then_r ?_
    refine ret_of rfl (.bool true) (fun tmps w hk hm => res1 rfl (res_tmp (hk 4 _ rfl))) (fun w hm => ?_)
    exact ⟨rfl, hm.ext⟩
  · skip
    refine T_seq (T_region ?_)
    refine TL_q (.agg (lst C4.cells a)) (fun _ _ hρ hm => r_loadW ag25 sz25 (hρ _ _ rfl) (hm.at 1 rfl) (tsz ha)) rfl rfl rfl (w_n rfl) ?_
    refine TL_q (.agg (lst C4.cells b)) (fun _ _ hρ hm => r_loadW ag25 sz25 (hρ _ _ rfl) (hm.at 2 rfl) (tsz hb)) rfl rfl rfl (w_n rfl) ?_
    refine TL_call (.tuple #[.agg #[.int .i64 ((boxN a b 64).x), .int .i64 ((boxN a b 64).y), .int .i64 ((boxN a b 64).x2), .int .i64 ((boxN a b 64).y2)], .bool true]) (fun _ _ hρ _ => r_call (args := [.agg (lst C4.cells a), .agg (lst C4.cells b)]) (enters_of Try.func17 (by kernel_rfl) rfl) (hρ _ _ rfl) ((cons2 (hρ _ _ rfl) (cons2 (hρ _ _ rfl) rfl))) rfl) (fun w _ => (box_c a b w ha hb).mono fun _ _ h => ⟨h.1.trans (congrArg Ending.returned (by rw [show boxE a b = boxN a b 64 from if_neg hAB, decide_eq_false hAB]; rfl)), h.2⟩) rfl rfl rfl (w_n rfl) ?_
    refine TL_q (.tuple #[.agg #[.int .i64 ((boxN a b 64).x), .int .i64 ((boxN a b 64).y), .int .i64 ((boxN a b 64).x2), .int .i64 ((boxN a b 64).y2)], .bool true]) (fun _ _ hρ _ => r_move (hρ _ _ rfl)) rfl rfl rfl (w_n rfl) ?_
    refine TL_q (.agg #[.int .i64 ((boxN a b 64).x), .int .i64 ((boxN a b 64).y), .int .i64 ((boxN a b 64).x2), .int .i64 ((boxN a b 64).y2)]) (fun _ _ hρ _ => r_extract (hρ _ _ rfl) rfl) rfl rfl rfl (w_n rfl) ?_
    refine TL_q (.bool true) (fun _ _ hρ _ => r_extract (hρ _ _ rfl) rfl) rfl rfl rfl (w_n rfl) ?_
    refine TL_new 4 (.cells #[.int .i64 0, .int .i64 0, .int .i64 0, .int .i64 0] 33) (fun B => .pointer (some ⟨B, 0, none⟩)) (fun _ _ _ _ => r_alloc (v := .agg #[.int .i64 0, .int .i64 0, .int .i64 0, .int .i64 0]) (by kernel_rfl) rfl) rfl rfl rfl (w_n rfl) ?_
    intro B4
    refine TL_store 4 (.cells #[.int .i64 ((boxN a b 64).x), .int .i64 ((boxN a b 64).y), .int .i64 ((boxN a b 64).x2), .int .i64 ((boxN a b 64).y2)] 33) rfl (fun _ _ hρ hm => r_store sz33 (hρ _ _ rfl) (hρ _ _ rfl) (hm.at 4 rfl) rfl rfl rfl rfl) rfl rfl (w_n rfl) ?_
    refine TL_q (.bool true) (fun _ _ hρ _ => r_assign (hρ _ _ rfl)) rfl rfl rfl (w_n rfl) ?_
    refine TL_seq ?_
    refine T_seq ?_
    refine T_seq (T_region ?_)
    refine TL_q (.bool true) (fun _ _ hρ _ => r_move (hρ _ _ rfl)) rfl rfl rfl (w_n rfl) ?_
    refine TL_q (.bool false) (fun _ _ hρ _ => r_not (b := true) (hρ _ _ rfl)) rfl rfl rfl (w_n rfl) ?_
    refine TL_seq ?_
    refine T_cond_f rfl ?_
    refine T_skip' ?_
    refine p_seq ?_
    refine T_seq (T_region ?_)
    refine TL_q (.agg (lst C4.cells a)) (fun _ _ hρ hm => r_loadW ag25 sz25 (hρ _ _ rfl) (hm.at 1 rfl) (tsz ha)) rfl rfl rfl (w_n rfl) ?_
    refine TL_new 5 (.cells (lst C4.cells zero64) 25) (fun B => .pointer (some ⟨B, 0, none⟩)) (fun _ _ _ _ => r_alloc (v := .agg (lst C4.cells zero64)) (by kernel_rfl) rfl) rfl rfl rfl (w_n rfl) ?_
    intro B5
    refine TL_store 5 (.cells (lst C4.cells a) 25) rfl (fun _ _ hρ hm => r_storeAll sz25 (hρ _ _ rfl) (hρ _ _ rfl) (hm.at 5 rfl) (tsz zero64_len) (tsz ha) (lst_one C4.cells_all _)) rfl rfl (w_n rfl) ?_
    refine TL_q (.int .i64 0) (fun _ _ hρ _ => r_assign (hρ _ _ rfl)) rfl rfl rfl (w_n rfl) ?_
    refine TL_seq ?_
    refine T_seq ?_
    refine T_seq (T_region ?_)
    refine TL_q (.int .i64 0) (fun _ _ hρ _ => r_move (hρ _ _ rfl)) rfl rfl rfl (w_n rfl) ?_
    refine TL_seq ?_
    refine T_block ?_
    refine T_loop (ι := Nat) (fun (y : Nat) => y ≤ 8) (fun (y : Nat) => [(2, .pointer (some ⟨B1, 0, none⟩)), (3, .pointer (some ⟨B2, 0, none⟩)), (5, .pointer (some ⟨B4, 0, none⟩)), (7, .pointer (some ⟨B5, 0, none⟩)), (37, .int .i64 ((y : Nat) : Int)), (8, .int .i64 0)]) (fun (y : Nat) => [(1, .blk B1 (.cells (lst C4.cells a) 25)), (2, .blk B2 (.cells (lst C4.cells b) 25)), (4, .blk B4 (.cells #[.int .i64 ((boxN a b 64).x), .int .i64 ((boxN a b 64).y), .int .i64 ((boxN a b 64).x2), .int .i64 ((boxN a b 64).y2)] 33)), (5, .blk B5 (.cells (lst C4.cells (gridN (putG (boxN a b 64) b) a (8 * y))) 25))]) (fun (y : Nat) => 8 - y) 0 (Nat.zero_le _) (sub_cons rfl (sub_cons rfl (sub_cons rfl (sub_cons rfl (sub_cons rfl (sub_cons rfl sub_nil)))))) (sub_cons rfl (sub_cons rfl (sub_cons rfl (sub_cons rfl sub_nil)))) ?_
    rintro y hp
    show T _ _ _ [(2, .pointer (some ⟨B1, 0, none⟩)), (3, .pointer (some ⟨B2, 0, none⟩)), (5, .pointer (some ⟨B4, 0, none⟩)), (7, .pointer (some ⟨B5, 0, none⟩)), (37, .int .i64 ((y : Nat) : Int)), (8, .int .i64 0)] [(1, .blk B1 (.cells (lst C4.cells a) 25)), (2, .blk B2 (.cells (lst C4.cells b) 25)), (4, .blk B4 (.cells #[.int .i64 ((boxN a b 64).x), .int .i64 ((boxN a b 64).y), .int .i64 ((boxN a b 64).x2), .int .i64 ((boxN a b 64).y2)] 33)), (5, .blk B5 (.cells (lst C4.cells (gridN (putG (boxN a b 64) b) a (8 * y))) 25))]
    refine T_seq (T_region ?_)
    refine TL_q (.bool (decide (((y : Nat) : Int) < 8))) (fun _ _ hρ _ => r_lss (hρ _ _ rfl) (hρ _ _ rfl)) rfl rfl rfl (w_n rfl) ?_
    refine TL_seq ?_
    refine T_seq ?_
    refine T_cond rfl (fun h1 => ?_) (fun h1 => ?_)
    · replace h1 := of_decide_eq_true h1
      refine T_skip' ?_
      refine p_seq ?_
      refine T_seq ?_
      refine T_block ?_
      refine T_seq (T_region ?_)
      refine TL_q (.int .i64 ((y : Nat) : Int)) (fun _ _ hρ _ => r_move (hρ _ _ rfl)) rfl rfl rfl (w_n rfl) ?_
      refine TL_q (.int .i64 ((y : Nat) : Int)) (fun _ _ hρ _ => r_assign (hρ _ _ rfl)) rfl rfl rfl (w_n rfl) ?_
      refine TL_seq ?_
      refine T_seq (T_region ?_)
      refine TL_q (.int .i64 0) (fun _ _ hρ _ => r_move (hρ _ _ rfl)) rfl rfl rfl (w_n rfl) ?_
      refine TL_seq ?_
      refine T_block ?_
      refine T_loop (ι := Nat) (fun (x : Nat) => x ≤ 8) (fun (x : Nat) => [(2, .pointer (some ⟨B1, 0, none⟩)), (3, .pointer (some ⟨B2, 0, none⟩)), (5, .pointer (some ⟨B4, 0, none⟩)), (7, .pointer (some ⟨B5, 0, none⟩)), (37, .int .i64 ((y : Nat) : Int)), (38, .bool (decide (((y : Nat) : Int) < 8))), (39, .int .i64 ((y : Nat) : Int)), (9, .int .i64 ((y : Nat) : Int)), (40, .int .i64 ((x : Nat) : Int)), (8, .int .i64 0)]) (fun (x : Nat) => [(1, .blk B1 (.cells (lst C4.cells a) 25)), (2, .blk B2 (.cells (lst C4.cells b) 25)), (4, .blk B4 (.cells #[.int .i64 ((boxN a b 64).x), .int .i64 ((boxN a b 64).y), .int .i64 ((boxN a b 64).x2), .int .i64 ((boxN a b 64).y2)] 33)), (5, .blk B5 (.cells (lst C4.cells (gridN (putG (boxN a b 64) b) a (8 * y + x))) 25))]) (fun (x : Nat) => 8 - x) 0 (Nat.zero_le _) (sub_cons rfl (sub_cons rfl (sub_cons rfl (sub_cons rfl (sub_cons rfl (sub_cons rfl (sub_cons rfl (sub_cons rfl (sub_cons rfl (sub_cons rfl sub_nil)))))))))) (sub_cons rfl (sub_cons rfl (sub_cons rfl (sub_cons rfl sub_nil)))) ?_
      rintro x hp
      show T _ _ _ [(2, .pointer (some ⟨B1, 0, none⟩)), (3, .pointer (some ⟨B2, 0, none⟩)), (5, .pointer (some ⟨B4, 0, none⟩)), (7, .pointer (some ⟨B5, 0, none⟩)), (37, .int .i64 ((y : Nat) : Int)), (38, .bool (decide (((y : Nat) : Int) < 8))), (39, .int .i64 ((y : Nat) : Int)), (9, .int .i64 ((y : Nat) : Int)), (40, .int .i64 ((x : Nat) : Int)), (8, .int .i64 0)] [(1, .blk B1 (.cells (lst C4.cells a) 25)), (2, .blk B2 (.cells (lst C4.cells b) 25)), (4, .blk B4 (.cells #[.int .i64 ((boxN a b 64).x), .int .i64 ((boxN a b 64).y), .int .i64 ((boxN a b 64).x2), .int .i64 ((boxN a b 64).y2)] 33)), (5, .blk B5 (.cells (lst C4.cells (gridN (putG (boxN a b 64) b) a (8 * y + x))) 25))]
      refine T_seq (T_region ?_)
      refine TL_q (.bool (decide (((x : Nat) : Int) < 8))) (fun _ _ hρ _ => r_lss (hρ _ _ rfl) (hρ _ _ rfl)) rfl rfl rfl (w_n rfl) ?_
      refine TL_seq ?_
      refine T_seq ?_
      refine T_cond rfl (fun h2 => ?_) (fun h2 => ?_)
      · replace h2 := of_decide_eq_true h2
        refine T_skip' ?_
        refine p_seq ?_
        refine T_seq ?_
        refine T_block ?_
        refine T_seq (T_region ?_)
        refine TL_q (.int .i64 ((x : Nat) : Int)) (fun _ _ hρ _ => r_move (hρ _ _ rfl)) rfl rfl rfl (w_n rfl) ?_
        refine TL_q (.int .i64 ((x : Nat) : Int)) (fun _ _ hρ _ => r_assign (hρ _ _ rfl)) rfl rfl rfl (w_n rfl) ?_
        refine TL_seq ?_
        refine T_seq (T_region ?_)
        refine TL_q (.agg (lst C4.cells b)) (fun _ _ hρ hm => r_loadW ag25 sz25 (hρ _ _ rfl) (hm.at 2 rfl) (tsz hb)) rfl rfl rfl (w_n rfl) ?_
        refine TL_q (.int .i64 ((x : Nat) : Int)) (fun _ _ hρ _ => r_move (hρ _ _ rfl)) rfl rfl rfl (w_n rfl) ?_
        refine TL_q (.int .i64 ((y : Nat) : Int)) (fun _ _ hρ _ => r_move (hρ _ _ rfl)) rfl rfl rfl (w_n rfl) ?_
        refine TL_call (.tuple #[.agg #[.int .u8 ((atC b ((x : Nat) : Int) ((y : Nat) : Int)).r), .int .u8 ((atC b ((x : Nat) : Int) ((y : Nat) : Int)).g), .int .u8 ((atC b ((x : Nat) : Int) ((y : Nat) : Int)).b), .int .u8 ((atC b ((x : Nat) : Int) ((y : Nat) : Int)).a)], .int .i64 0]) (fun _ _ hρ _ => r_call (args := [.agg (lst C4.cells b), .int .i64 ((x : Nat) : Int), .int .i64 ((y : Nat) : Int)]) (enters_of Try.func19 (by kernel_rfl) rfl) (hρ _ _ rfl) ((cons2 (hρ _ _ rfl) (cons2 (hρ _ _ rfl) (cons2 (hρ _ _ rfl) rfl)))) rfl) (fun w _ => (at_c b ((x : Nat) : Int) ((y : Nat) : Int) w hb).mono fun _ _ h => ⟨h.1.trans (congrArg Ending.returned (by rw [atE_in (isP_in (by omega) (by omega))])), h.2⟩) rfl rfl rfl (w_n rfl) ?_
        refine TL_q (.tuple #[.agg #[.int .u8 ((atC b ((x : Nat) : Int) ((y : Nat) : Int)).r), .int .u8 ((atC b ((x : Nat) : Int) ((y : Nat) : Int)).g), .int .u8 ((atC b ((x : Nat) : Int) ((y : Nat) : Int)).b), .int .u8 ((atC b ((x : Nat) : Int) ((y : Nat) : Int)).a)], .int .i64 0]) (fun _ _ hρ _ => r_move (hρ _ _ rfl)) rfl rfl rfl (w_n rfl) ?_
        refine TL_q (.agg #[.int .u8 ((atC b ((x : Nat) : Int) ((y : Nat) : Int)).r), .int .u8 ((atC b ((x : Nat) : Int) ((y : Nat) : Int)).g), .int .u8 ((atC b ((x : Nat) : Int) ((y : Nat) : Int)).b), .int .u8 ((atC b ((x : Nat) : Int) ((y : Nat) : Int)).a)]) (fun _ _ hρ _ => r_extract (hρ _ _ rfl) rfl) rfl rfl rfl (w_n rfl) ?_
        refine TL_q (.int .i64 0) (fun _ _ hρ _ => r_extract (hρ _ _ rfl) rfl) rfl rfl rfl (w_n rfl) ?_
        refine TL_new 6 (.cells #[.int .u8 0, .int .u8 0, .int .u8 0, .int .u8 0] 23) (fun B => .pointer (some ⟨B, 0, none⟩)) (fun _ _ _ _ => r_alloc (v := .agg #[.int .u8 0, .int .u8 0, .int .u8 0, .int .u8 0]) (by kernel_rfl) rfl) rfl rfl rfl (w_n rfl) ?_
        intro B6
        refine TL_store 6 (.cells #[.int .u8 ((atC b ((x : Nat) : Int) ((y : Nat) : Int)).r), .int .u8 ((atC b ((x : Nat) : Int) ((y : Nat) : Int)).g), .int .u8 ((atC b ((x : Nat) : Int) ((y : Nat) : Int)).b), .int .u8 ((atC b ((x : Nat) : Int) ((y : Nat) : Int)).a)] 23) rfl (fun _ _ hρ hm => r_store sz23 (hρ _ _ rfl) (hρ _ _ rfl) (hm.at 6 rfl) rfl rfl rfl rfl) rfl rfl (w_n rfl) ?_
        refine TL_q (.int .i64 0) (fun _ _ hρ _ => r_assign (hρ _ _ rfl)) rfl rfl rfl (w_n rfl) ?_
        refine TL_seq ?_
        refine T_seq (T_region ?_)
        refine TL_q (.agg (lst C4.cells a)) (fun _ _ hρ hm => r_loadW ag25 sz25 (hρ _ _ rfl) (hm.at 1 rfl) (tsz ha)) rfl rfl rfl (w_n rfl) ?_
        refine TL_q (.int .i64 ((x : Nat) : Int)) (fun _ _ hρ _ => r_move (hρ _ _ rfl)) rfl rfl rfl (w_n rfl) ?_
        refine TL_q (.int .i64 ((y : Nat) : Int)) (fun _ _ hρ _ => r_move (hρ _ _ rfl)) rfl rfl rfl (w_n rfl) ?_
        refine TL_call (.tuple #[.agg #[.int .u8 ((atC a ((x : Nat) : Int) ((y : Nat) : Int)).r), .int .u8 ((atC a ((x : Nat) : Int) ((y : Nat) : Int)).g), .int .u8 ((atC a ((x : Nat) : Int) ((y : Nat) : Int)).b), .int .u8 ((atC a ((x : Nat) : Int) ((y : Nat) : Int)).a)], .int .i64 0]) (fun _ _ hρ _ => r_call (args := [.agg (lst C4.cells a), .int .i64 ((x : Nat) : Int), .int .i64 ((y : Nat) : Int)]) (enters_of Try.func19 (by kernel_rfl) rfl) (hρ _ _ rfl) ((cons2 (hρ _ _ rfl) (cons2 (hρ _ _ rfl) (cons2 (hρ _ _ rfl) rfl)))) rfl) (fun w _ => (at_c a ((x : Nat) : Int) ((y : Nat) : Int) w ha).mono fun _ _ h => ⟨h.1.trans (congrArg Ending.returned (by rw [atE_in (isP_in (by omega) (by omega))])), h.2⟩) rfl rfl rfl (w_n rfl) ?_
        refine TL_q (.tuple #[.agg #[.int .u8 ((atC a ((x : Nat) : Int) ((y : Nat) : Int)).r), .int .u8 ((atC a ((x : Nat) : Int) ((y : Nat) : Int)).g), .int .u8 ((atC a ((x : Nat) : Int) ((y : Nat) : Int)).b), .int .u8 ((atC a ((x : Nat) : Int) ((y : Nat) : Int)).a)], .int .i64 0]) (fun _ _ hρ _ => r_move (hρ _ _ rfl)) rfl rfl rfl (w_n rfl) ?_
        refine TL_q (.agg #[.int .u8 ((atC a ((x : Nat) : Int) ((y : Nat) : Int)).r), .int .u8 ((atC a ((x : Nat) : Int) ((y : Nat) : Int)).g), .int .u8 ((atC a ((x : Nat) : Int) ((y : Nat) : Int)).b), .int .u8 ((atC a ((x : Nat) : Int) ((y : Nat) : Int)).a)]) (fun _ _ hρ _ => r_extract (hρ _ _ rfl) rfl) rfl rfl rfl (w_n rfl) ?_
        refine TL_q (.int .i64 0) (fun _ _ hρ _ => r_extract (hρ _ _ rfl) rfl) rfl rfl rfl (w_n rfl) ?_
        refine TL_new 7 (.cells #[.int .u8 0, .int .u8 0, .int .u8 0, .int .u8 0] 23) (fun B => .pointer (some ⟨B, 0, none⟩)) (fun _ _ _ _ => r_alloc (v := .agg #[.int .u8 0, .int .u8 0, .int .u8 0, .int .u8 0]) (by kernel_rfl) rfl) rfl rfl rfl (w_n rfl) ?_
        intro B7
        refine TL_store 7 (.cells #[.int .u8 ((atC a ((x : Nat) : Int) ((y : Nat) : Int)).r), .int .u8 ((atC a ((x : Nat) : Int) ((y : Nat) : Int)).g), .int .u8 ((atC a ((x : Nat) : Int) ((y : Nat) : Int)).b), .int .u8 ((atC a ((x : Nat) : Int) ((y : Nat) : Int)).a)] 23) rfl (fun _ _ hρ hm => r_store sz23 (hρ _ _ rfl) (hρ _ _ rfl) (hm.at 7 rfl) rfl rfl rfl rfl) rfl rfl (w_n rfl) ?_
        refine TL_q (.int .i64 0) (fun _ _ hρ _ => r_assign (hρ _ _ rfl)) rfl rfl rfl (w_n rfl) ?_
        refine TL_seq ?_
        by_cases hb1 : (boxN a b 64).x ≤ ((x : Nat) : Int)
        · skip
          by_cases hb2 : ((x : Nat) : Int) ≤ (boxN a b 64).x2
          · skip
            by_cases hb3 : (boxN a b 64).y ≤ ((y : Nat) : Int)
            · skip
              by_cases hb4 : ((y : Nat) : Int) ≤ (boxN a b 64).y2
              · skip
                refine T_seq (T_region ?_)
                refine TL_q (.int .i64 ((x : Nat) : Int)) (fun _ _ hρ _ => r_move (hρ _ _ rfl)) rfl rfl rfl (w_n rfl) ?_
                refine TL_q (.pointer (some ⟨B4, 0, none⟩)) (fun _ _ hρ _ => r_fieldAddr fl33_0 sz3 (hρ _ _ rfl)) rfl rfl rfl (w_n rfl) ?_
                refine TL_q (.int .i64 ((boxN a b 64).x)) (fun _ _ hρ hm => r_load ag3 (hρ _ _ rfl) (hm.at 4 rfl) rfl) rfl rfl rfl (w_n rfl) ?_
                refine TL_q (.bool true) (fun _ _ hρ _ => r_as (r_geq (hρ _ _ rfl) (hρ _ _ rfl)) (bool_as (decide_eq_true hb1))) rfl rfl rfl (w_n rfl) ?_
                refine TL_q (.bool true) (fun _ _ hρ _ => r_move (hρ _ _ rfl)) rfl rfl rfl (w_n rfl) ?_
                refine TL_q (.int .i64 ((x : Nat) : Int)) (fun _ _ hρ _ => r_move (hρ _ _ rfl)) rfl rfl rfl (want_y 61 rfl rfl rfl) ?_
                refine TL_q (.pointer (some ⟨B4, 2, none⟩)) (fun _ _ hρ _ => r_fieldAddr fl33_2 sz3 (hρ _ _ rfl)) rfl rfl rfl (want_y 61 rfl rfl rfl) ?_
                refine TL_q (.int .i64 ((boxN a b 64).x2)) (fun _ _ hρ hm => r_load ag3 (hρ _ _ rfl) (hm.at 4 rfl) rfl) rfl rfl rfl (want_y 61 rfl rfl rfl) ?_
                refine TL_q (.bool true) (fun _ _ hρ _ => r_as (r_leq (hρ _ _ rfl) (hρ _ _ rfl)) (bool_as (decide_eq_true hb2))) rfl rfl rfl (want_y 61 rfl rfl rfl) ?_
                refine TL_q (.bool true) (fun _ _ hρ _ => r_pick_t (hρ _ _ rfl) (hρ _ _ rfl)) rfl rfl rfl (w_n rfl) ?_
                refine TL_q (.bool true) (fun _ _ hρ _ => r_move (hρ _ _ rfl)) rfl rfl rfl (w_n rfl) ?_
                refine TL_q (.int .i64 ((y : Nat) : Int)) (fun _ _ hρ _ => r_move (hρ _ _ rfl)) rfl rfl rfl (want_y 67 rfl rfl rfl) ?_
                refine TL_q (.pointer (some ⟨B4, 1, none⟩)) (fun _ _ hρ _ => r_fieldAddr fl33_1 sz3 (hρ _ _ rfl)) rfl rfl rfl (want_y 67 rfl rfl rfl) ?_
                refine TL_q (.int .i64 ((boxN a b 64).y)) (fun _ _ hρ hm => r_load ag3 (hρ _ _ rfl) (hm.at 4 rfl) rfl) rfl rfl rfl (want_y 67 rfl rfl rfl) ?_
                refine TL_q (.bool true) (fun _ _ hρ _ => r_as (r_geq (hρ _ _ rfl) (hρ _ _ rfl)) (bool_as (decide_eq_true hb3))) rfl rfl rfl (want_y 67 rfl rfl rfl) ?_
                refine TL_q (.bool true) (fun _ _ hρ _ => r_pick_t (hρ _ _ rfl) (hρ _ _ rfl)) rfl rfl rfl (w_n rfl) ?_
                refine TL_q (.bool true) (fun _ _ hρ _ => r_move (hρ _ _ rfl)) rfl rfl rfl (w_n rfl) ?_
                refine TL_q (.int .i64 ((y : Nat) : Int)) (fun _ _ hρ _ => r_move (hρ _ _ rfl)) rfl rfl rfl (want_y 73 rfl rfl rfl) ?_
                refine TL_q (.pointer (some ⟨B4, 3, none⟩)) (fun _ _ hρ _ => r_fieldAddr fl33_3 sz3 (hρ _ _ rfl)) rfl rfl rfl (want_y 73 rfl rfl rfl) ?_
                refine TL_q (.int .i64 ((boxN a b 64).y2)) (fun _ _ hρ hm => r_load ag3 (hρ _ _ rfl) (hm.at 4 rfl) rfl) rfl rfl rfl (want_y 73 rfl rfl rfl) ?_
                refine TL_q (.bool true) (fun _ _ hρ _ => r_as (r_leq (hρ _ _ rfl) (hρ _ _ rfl)) (bool_as (decide_eq_true hb4))) rfl rfl rfl (want_y 73 rfl rfl rfl) ?_
                refine TL_q (.bool true) (fun _ _ hρ _ => r_pick_t (hρ _ _ rfl) (hρ _ _ rfl)) rfl rfl rfl (w_n rfl) ?_
                refine TL_q (.bool true) (fun _ _ hρ _ => r_assign (hρ _ _ rfl)) rfl rfl rfl (w_n rfl) ?_
                refine TL_seq ?_
                refine T_sub [(2, .pointer (some ⟨B1, 0, none⟩)), (3, .pointer (some ⟨B2, 0, none⟩)), (5, .pointer (some ⟨B4, 0, none⟩)), (7, .pointer (some ⟨B5, 0, none⟩)), (37, .int .i64 ((y : Nat) : Int)), (38, .bool (decide (((y : Nat) : Int) < 8))), (39, .int .i64 ((y : Nat) : Int)), (9, .int .i64 ((y : Nat) : Int)), (40, .int .i64 ((x : Nat) : Int)), (8, .int .i64 0), (41, .bool (decide (((x : Nat) : Int) < 8))), (42, .int .i64 ((x : Nat) : Int)), (10, .int .i64 ((x : Nat) : Int)), (44, .agg (lst C4.cells b)), (45, .int .i64 ((x : Nat) : Int)), (46, .int .i64 ((y : Nat) : Int)), (47, .tuple #[.agg #[.int .u8 ((atC b ((x : Nat) : Int) ((y : Nat) : Int)).r), .int .u8 ((atC b ((x : Nat) : Int) ((y : Nat) : Int)).g), .int .u8 ((atC b ((x : Nat) : Int) ((y : Nat) : Int)).b), .int .u8 ((atC b ((x : Nat) : Int) ((y : Nat) : Int)).a)], .int .i64 0]), (43, .tuple #[.agg #[.int .u8 ((atC b ((x : Nat) : Int) ((y : Nat) : Int)).r), .int .u8 ((atC b ((x : Nat) : Int) ((y : Nat) : Int)).g), .int .u8 ((atC b ((x : Nat) : Int) ((y : Nat) : Int)).b), .int .u8 ((atC b ((x : Nat) : Int) ((y : Nat) : Int)).a)], .int .i64 0]), (48, .agg #[.int .u8 ((atC b ((x : Nat) : Int) ((y : Nat) : Int)).r), .int .u8 ((atC b ((x : Nat) : Int) ((y : Nat) : Int)).g), .int .u8 ((atC b ((x : Nat) : Int) ((y : Nat) : Int)).b), .int .u8 ((atC b ((x : Nat) : Int) ((y : Nat) : Int)).a)]), (49, .int .i64 0), (11, .pointer (some ⟨B6, 0, none⟩)), (12, .int .i64 0), (51, .agg (lst C4.cells a)), (52, .int .i64 ((x : Nat) : Int)), (53, .int .i64 ((y : Nat) : Int)), (54, .tuple #[.agg #[.int .u8 ((atC a ((x : Nat) : Int) ((y : Nat) : Int)).r), .int .u8 ((atC a ((x : Nat) : Int) ((y : Nat) : Int)).g), .int .u8 ((atC a ((x : Nat) : Int) ((y : Nat) : Int)).b), .int .u8 ((atC a ((x : Nat) : Int) ((y : Nat) : Int)).a)], .int .i64 0]), (50, .tuple #[.agg #[.int .u8 ((atC a ((x : Nat) : Int) ((y : Nat) : Int)).r), .int .u8 ((atC a ((x : Nat) : Int) ((y : Nat) : Int)).g), .int .u8 ((atC a ((x : Nat) : Int) ((y : Nat) : Int)).b), .int .u8 ((atC a ((x : Nat) : Int) ((y : Nat) : Int)).a)], .int .i64 0]), (55, .agg #[.int .u8 ((atC a ((x : Nat) : Int) ((y : Nat) : Int)).r), .int .u8 ((atC a ((x : Nat) : Int) ((y : Nat) : Int)).g), .int .u8 ((atC a ((x : Nat) : Int) ((y : Nat) : Int)).b), .int .u8 ((atC a ((x : Nat) : Int) ((y : Nat) : Int)).a)]), (56, .int .i64 0), (13, .pointer (some ⟨B7, 0, none⟩)), (14, .int .i64 0), (57, .int .i64 ((x : Nat) : Int)), (58, .pointer (some ⟨B4, 0, none⟩)), (59, .int .i64 ((boxN a b 64).x)), (60, .bool true), (61, .bool true), (62, .int .i64 ((x : Nat) : Int)), (63, .pointer (some ⟨B4, 2, none⟩)), (64, .int .i64 ((boxN a b 64).x2)), (65, .bool true), (66, .bool true), (67, .bool true), (68, .int .i64 ((y : Nat) : Int)), (69, .pointer (some ⟨B4, 1, none⟩)), (70, .int .i64 ((boxN a b 64).y)), (71, .bool true), (72, .bool true), (73, .bool true), (74, .int .i64 ((y : Nat) : Int)), (75, .pointer (some ⟨B4, 3, none⟩)), (76, .int .i64 ((boxN a b 64).y2)), (77, .bool true), (78, .bool true), (15, .bool true)] [(1, .blk B1 (.cells (lst C4.cells a) 25)), (2, .blk B2 (.cells (lst C4.cells b) 25)), (4, .blk B4 (.cells #[.int .i64 ((boxN a b 64).x), .int .i64 ((boxN a b 64).y), .int .i64 ((boxN a b 64).x2), .int .i64 ((boxN a b 64).y2)] 33)), (5, .blk B5 (.cells (lst C4.cells (gridN (putG (boxN a b 64) b) a (8 * y + x))) 25)), (6, .blk B6 (.cells #[.int .u8 ((atC b ((x : Nat) : Int) ((y : Nat) : Int)).r), .int .u8 ((atC b ((x : Nat) : Int) ((y : Nat) : Int)).g), .int .u8 ((atC b ((x : Nat) : Int) ((y : Nat) : Int)).b), .int .u8 ((atC b ((x : Nat) : Int) ((y : Nat) : Int)).a)] 23)), (7, .blk B7 (.cells #[.int .u8 ((atC a ((x : Nat) : Int) ((y : Nat) : Int)).r), .int .u8 ((atC a ((x : Nat) : Int) ((y : Nat) : Int)).g), .int .u8 ((atC a ((x : Nat) : Int) ((y : Nat) : Int)).b), .int .u8 ((atC a ((x : Nat) : Int) ((y : Nat) : Int)).a)] 23))] (sub_cons rfl (sub_cons rfl (sub_cons rfl (sub_cons rfl (sub_cons rfl (sub_cons rfl (sub_cons rfl (sub_cons rfl (sub_cons rfl (sub_cons rfl (sub_cons rfl (sub_cons rfl (sub_cons rfl (sub_cons rfl (sub_cons rfl (sub_cons rfl (sub_cons rfl (sub_cons rfl (sub_cons rfl (sub_cons rfl (sub_cons rfl (sub_cons rfl (sub_cons rfl (sub_cons rfl (sub_cons rfl (sub_cons rfl (sub_cons rfl (sub_cons rfl (sub_cons rfl (sub_cons rfl (sub_cons rfl (sub_cons rfl (sub_cons rfl (sub_cons rfl (sub_cons rfl (sub_cons rfl (sub_cons rfl (sub_cons rfl (sub_cons rfl (sub_cons rfl (sub_cons rfl (sub_cons rfl (sub_cons rfl (sub_cons rfl (sub_cons rfl (sub_cons rfl (sub_cons rfl (sub_cons rfl (sub_cons rfl (sub_cons rfl (sub_cons rfl (sub_cons rfl (sub_cons rfl (sub_cons rfl sub_nil)))))))))))))))))))))))))))))))))))))))))))))))))))))) (sub_cons rfl (sub_cons rfl (sub_cons rfl (sub_cons rfl (sub_cons rfl (sub_cons rfl sub_nil)))))) ?_
                refine T_seq ?_
                refine T_seq (T_region ?_)
                refine TL_q (.int .i64 0) (fun _ _ hρ _ => r_move (hρ _ _ rfl)) rfl rfl rfl (w_n rfl) ?_
                refine TL_q (.bool false) (fun _ _ hρ _ => r_as (r_neq (hρ _ _ rfl) (hρ _ _ rfl)) (by rfl)) rfl rfl rfl (w_n rfl) ?_
                refine TL_q (.bool false) (fun _ _ hρ _ => r_move (hρ _ _ rfl)) rfl rfl rfl (w_n rfl) ?_
                refine TL_q (.int .i64 0) (fun _ _ hρ _ => r_move (hρ _ _ rfl)) rfl rfl rfl (want_y 81 rfl rfl rfl) ?_
                refine TL_q (.bool false) (fun _ _ hρ _ => r_as (r_neq (hρ _ _ rfl) (hρ _ _ rfl)) (by rfl)) rfl rfl rfl (want_y 81 rfl rfl rfl) ?_
                refine TL_q (.bool false) (fun _ _ hρ _ => r_pick_f (hρ _ _ rfl) (hρ _ _ rfl)) rfl rfl rfl (w_n rfl) ?_
                refine TL_seq ?_
                refine T_cond_f rfl ?_
                refine T_skip' ?_
                refine p_seq ?_
                refine T_seq ?_
                refine T_seq (T_region ?_)
                refine TL_q (.bool true) (fun _ _ hρ _ => r_move (hρ _ _ rfl)) rfl rfl rfl (w_n rfl) ?_
                refine TL_q (.bool false) (fun _ _ hρ _ => r_not (b := true) (hρ _ _ rfl)) rfl rfl rfl (w_n rfl) ?_
                refine TL_q (.bool false) (fun _ _ hρ _ => r_move (hρ _ _ rfl)) rfl rfl rfl (w_n rfl) ?_
                refine TL_no rfl rfl (want_n 87 rfl rfl rfl) ?_
                refine TL_no rfl rfl (want_n 87 rfl rfl rfl) ?_
                refine TL_no rfl rfl (want_n 87 rfl rfl rfl) ?_
                refine TL_q (.bool false) (fun _ _ hρ _ => r_pick_f (hρ _ _ rfl) (hρ _ _ rfl)) rfl rfl rfl (w_n rfl) ?_
                refine TL_seq ?_
                refine T_cond_f rfl ?_
                refine T_skip' ?_
                refine p_seq ?_
                refine T_seq (T_region ?_)
                refine TL_q (.bool true) (fun _ _ hρ _ => r_move (hρ _ _ rfl)) rfl rfl rfl (w_n rfl) ?_
                refine TL_seq ?_
                refine T_cond_t rfl ?_
                have hA : [(⟨((x : Nat) : Int), ((y : Nat) : Int)⟩ : Pt)].all Pt.inn = true := by simp only [List.all_cons, List.all_nil, Bool.and_true]; exact isP_in (by omega) (by omega)
                refine T_seq (T_region ?_)
                refine TL_q (.agg (lst C4.cells (gridN (putG (boxN a b 64) b) a (8 * y + x)))) (fun _ _ hρ hm => r_loadW ag25 sz25 (hρ _ _ rfl) (hm.at 5 rfl) (tsz (grid_len (putG_len _ _) ha _))) rfl rfl rfl (w_n rfl) ?_
                refine TL_q (.agg #[.int .u8 ((atC b ((x : Nat) : Int) ((y : Nat) : Int)).r), .int .u8 ((atC b ((x : Nat) : Int) ((y : Nat) : Int)).g), .int .u8 ((atC b ((x : Nat) : Int) ((y : Nat) : Int)).b), .int .u8 ((atC b ((x : Nat) : Int) ((y : Nat) : Int)).a)]) (fun _ _ hρ hm => r_loadA ag23 sz23 (hρ _ _ rfl) (hm.at 6 rfl) rfl rfl) rfl rfl rfl (w_n rfl) ?_
                refine TL_q (.int .i64 ((x : Nat) : Int)) (fun _ _ hρ _ => r_move (hρ _ _ rfl)) rfl rfl rfl (w_n rfl) ?_
                refine TL_q (.int .i64 ((y : Nat) : Int)) (fun _ _ hρ _ => r_move (hρ _ _ rfl)) rfl rfl rfl (w_n rfl) ?_
                refine TL_q (.agg #[.int .i64 ((x : Nat) : Int), .int .i64 ((y : Nat) : Int)]) (fun _ _ hρ _ => r_build (vs := [(0, .int .i64 ((x : Nat) : Int)), (1, .int .i64 ((y : Nat) : Int))]) (by kernel_rfl) (cons2 (pair2 (hρ _ _ rfl)) (cons2 (pair2 (hρ _ _ rfl)) rfl))) rfl rfl rfl (w_n rfl) ?_
                refine TL_new 8 (.cells #[.int .i64 ((x : Nat) : Int), .int .i64 ((y : Nat) : Int)] 43) (fun B => .slice (some ⟨B, 0, none⟩) 1 1) (fun _ _ hρ _ => r_buildSlice (vs := [(0, .agg #[.int .i64 ((x : Nat) : Int), .int .i64 ((y : Nat) : Int)])]) (by kernel_rfl) (cons2 (pair2 (hρ _ _ rfl)) rfl)) rfl rfl rfl (w_n rfl) ?_
                intro B8
                refine TL_call (.tuple #[.agg (lst C4.cells (withL (gridN (putG (boxN a b 64) b) a (8 * y + x)) (atC b ((x : Nat) : Int) ((y : Nat) : Int)) [(⟨((x : Nat) : Int), ((y : Nat) : Int)⟩ : Pt)])), .int .i64 0]) (fun _ _ hρ _ => r_call (args := [.agg (lst C4.cells (gridN (putG (boxN a b 64) b) a (8 * y + x))), .agg #[.int .u8 ((atC b ((x : Nat) : Int) ((y : Nat) : Int)).r), .int .u8 ((atC b ((x : Nat) : Int) ((y : Nat) : Int)).g), .int .u8 ((atC b ((x : Nat) : Int) ((y : Nat) : Int)).b), .int .u8 ((atC b ((x : Nat) : Int) ((y : Nat) : Int)).a)], .slice (some ⟨B8, 0, none⟩) 1 1]) (enters_of Try.func20 (by kernel_rfl) rfl) (hρ _ _ rfl) ((cons2 (hρ _ _ rfl) (cons2 (hρ _ _ rfl) (cons2 (hρ _ _ rfl) rfl)))) rfl) (fun w hm => (with_c (gridN (putG (boxN a b 64) b) a (8 * y + x)) (atC b ((x : Nat) : Int) ((y : Nat) : Int)) [(⟨((x : Nat) : Int), ((y : Nat) : Int)⟩ : Pt)] (some ⟨B8, 0, none⟩) 1 w (grid_len (putG_len _ _) ha _) (⟨by simp, (fun e => by cases e), .inr ⟨_, 0, _, _, _, rfl, (hm.at 8 rfl), row_of_take (fun _ => rfl) rfl⟩⟩) (by decide)).mono fun _ _ h => ⟨h.1.trans (congrArg Ending.returned (by rw [with_all hA]; rfl)), h.2⟩) rfl rfl rfl (w_n rfl) ?_
                refine TL_q (.tuple #[.agg (lst C4.cells (withL (gridN (putG (boxN a b 64) b) a (8 * y + x)) (atC b ((x : Nat) : Int) ((y : Nat) : Int)) [(⟨((x : Nat) : Int), ((y : Nat) : Int)⟩ : Pt)])), .int .i64 0]) (fun _ _ hρ _ => r_move (hρ _ _ rfl)) rfl rfl rfl (w_n rfl) ?_
                refine TL_q (.agg (lst C4.cells (withL (gridN (putG (boxN a b 64) b) a (8 * y + x)) (atC b ((x : Nat) : Int) ((y : Nat) : Int)) [(⟨((x : Nat) : Int), ((y : Nat) : Int)⟩ : Pt)]))) (fun _ _ hρ _ => r_extract (hρ _ _ rfl) rfl) rfl rfl rfl (w_n rfl) ?_
                refine TL_q (.int .i64 0) (fun _ _ hρ _ => r_extract (hρ _ _ rfl) rfl) rfl rfl rfl (w_n rfl) ?_
                refine TL_store 5 (.cells (lst C4.cells (withL (gridN (putG (boxN a b 64) b) a (8 * y + x)) (atC b ((x : Nat) : Int) ((y : Nat) : Int)) [(⟨((x : Nat) : Int), ((y : Nat) : Int)⟩ : Pt)])) 25) rfl (fun _ _ hρ hm => r_storeAll sz25 (hρ _ _ rfl) (hρ _ _ rfl) (hm.at 5 rfl) (tsz (grid_len (putG_len _ _) ha _)) (tsz (withL_len (grid_len (putG_len _ _) ha _) _)) (lst_one C4.cells_all _)) rfl rfl (w_n rfl) ?_
                refine TL_q (.int .i64 0) (fun _ _ hρ _ => r_assign (hρ _ _ rfl)) rfl rfl rfl (w_n rfl) ?_
                refine TL_seq ?_
                refine T_seq (T_region ?_)
                refine TL_q (.int .i64 0) (fun _ _ hρ _ => r_move (hρ _ _ rfl)) rfl rfl rfl (w_n rfl) ?_
                refine TL_q (.bool false) (fun _ _ hρ _ => r_as (r_neq (hρ _ _ rfl) (hρ _ _ rfl)) (by rfl)) rfl rfl rfl (w_n rfl) ?_
                refine TL_seq ?_
                refine T_cond_f rfl ?_
                refine T_skip' ?_
                refine p_blk_n ?_
                refine p_seq ?_
                refine T_region ?_
                refine TL_q (.int .i64 ((x + 1 : Nat) : Int)) (fun _ _ hρ _ => r_as (r_add (hρ _ _ rfl) (hρ _ _ rfl)) (int_as ((wrap64 (by omega) (by omega)).trans (by omega)))) rfl rfl rfl (w_n rfl) ?_
                refine TL_q (.int .i64 ((x + 1 : Nat) : Int)) (fun _ _ hρ _ => r_move (hρ _ _ rfl)) rfl rfl rfl (w_n rfl) ?_
                refine TL_nil ?_
                rw [show withL (gridN (putG (boxN a b 64) b) a (8 * y + x)) (atC b ((x : Nat) : Int) ((y : Nat) : Int)) [(⟨((x : Nat) : Int), ((y : Nat) : Int)⟩ : Pt)] = gridN (putG (boxN a b 64) b) a (8 * y + x + 1) from box_put_t (by omega) (by omega) (decide_eq_true ⟨hb1, hb2, hb3, hb4⟩)]
                exact p_at (x + 1) ⟨by omega, by omega⟩ (sub_cons rfl (sub_cons rfl (sub_cons rfl (sub_cons rfl (sub_cons rfl (sub_cons rfl (sub_cons rfl (sub_cons rfl (sub_cons rfl (sub_cons rfl sub_nil)))))))))) (sub_cons rfl (sub_cons rfl (sub_cons rfl (sub_cons rfl sub_nil))))
              · skip
                refine T_seq (T_region ?_)
                refine TL_q (.int .i64 ((x : Nat) : Int)) (fun _ _ hρ _ => r_move (hρ _ _ rfl)) rfl rfl rfl (w_n rfl) ?_
                refine TL_q (.pointer (some ⟨B4, 0, none⟩)) (fun _ _ hρ _ => r_fieldAddr fl33_0 sz3 (hρ _ _ rfl)) rfl rfl rfl (w_n rfl) ?_
                refine TL_q (.int .i64 ((boxN a b 64).x)) (fun _ _ hρ hm => r_load ag3 (hρ _ _ rfl) (hm.at 4 rfl) rfl) rfl rfl rfl (w_n rfl) ?_
                refine TL_q (.bool true) (fun _ _ hρ _ => r_as (r_geq (hρ _ _ rfl) (hρ _ _ rfl)) (bool_as (decide_eq_true hb1))) rfl rfl rfl (w_n rfl) ?_
                refine TL_q (.bool true) (fun _ _ hρ _ => r_move (hρ _ _ rfl)) rfl rfl rfl (w_n rfl) ?_
                refine TL_q (.int .i64 ((x : Nat) : Int)) (fun _ _ hρ _ => r_move (hρ _ _ rfl)) rfl rfl rfl (want_y 61 rfl rfl rfl) ?_
                refine TL_q (.pointer (some ⟨B4, 2, none⟩)) (fun _ _ hρ _ => r_fieldAddr fl33_2 sz3 (hρ _ _ rfl)) rfl rfl rfl (want_y 61 rfl rfl rfl) ?_
                refine TL_q (.int .i64 ((boxN a b 64).x2)) (fun _ _ hρ hm => r_load ag3 (hρ _ _ rfl) (hm.at 4 rfl) rfl) rfl rfl rfl (want_y 61 rfl rfl rfl) ?_
                refine TL_q (.bool true) (fun _ _ hρ _ => r_as (r_leq (hρ _ _ rfl) (hρ _ _ rfl)) (bool_as (decide_eq_true hb2))) rfl rfl rfl (want_y 61 rfl rfl rfl) ?_
                refine TL_q (.bool true) (fun _ _ hρ _ => r_pick_t (hρ _ _ rfl) (hρ _ _ rfl)) rfl rfl rfl (w_n rfl) ?_
                refine TL_q (.bool true) (fun _ _ hρ _ => r_move (hρ _ _ rfl)) rfl rfl rfl (w_n rfl) ?_
                refine TL_q (.int .i64 ((y : Nat) : Int)) (fun _ _ hρ _ => r_move (hρ _ _ rfl)) rfl rfl rfl (want_y 67 rfl rfl rfl) ?_
                refine TL_q (.pointer (some ⟨B4, 1, none⟩)) (fun _ _ hρ _ => r_fieldAddr fl33_1 sz3 (hρ _ _ rfl)) rfl rfl rfl (want_y 67 rfl rfl rfl) ?_
                refine TL_q (.int .i64 ((boxN a b 64).y)) (fun _ _ hρ hm => r_load ag3 (hρ _ _ rfl) (hm.at 4 rfl) rfl) rfl rfl rfl (want_y 67 rfl rfl rfl) ?_
                refine TL_q (.bool true) (fun _ _ hρ _ => r_as (r_geq (hρ _ _ rfl) (hρ _ _ rfl)) (bool_as (decide_eq_true hb3))) rfl rfl rfl (want_y 67 rfl rfl rfl) ?_
                refine TL_q (.bool true) (fun _ _ hρ _ => r_pick_t (hρ _ _ rfl) (hρ _ _ rfl)) rfl rfl rfl (w_n rfl) ?_
                refine TL_q (.bool true) (fun _ _ hρ _ => r_move (hρ _ _ rfl)) rfl rfl rfl (w_n rfl) ?_
                refine TL_q (.int .i64 ((y : Nat) : Int)) (fun _ _ hρ _ => r_move (hρ _ _ rfl)) rfl rfl rfl (want_y 73 rfl rfl rfl) ?_
                refine TL_q (.pointer (some ⟨B4, 3, none⟩)) (fun _ _ hρ _ => r_fieldAddr fl33_3 sz3 (hρ _ _ rfl)) rfl rfl rfl (want_y 73 rfl rfl rfl) ?_
                refine TL_q (.int .i64 ((boxN a b 64).y2)) (fun _ _ hρ hm => r_load ag3 (hρ _ _ rfl) (hm.at 4 rfl) rfl) rfl rfl rfl (want_y 73 rfl rfl rfl) ?_
                refine TL_q (.bool false) (fun _ _ hρ _ => r_as (r_leq (hρ _ _ rfl) (hρ _ _ rfl)) (bool_as (decide_eq_false hb4))) rfl rfl rfl (want_y 73 rfl rfl rfl) ?_
                refine TL_q (.bool false) (fun _ _ hρ _ => r_pick_t (hρ _ _ rfl) (hρ _ _ rfl)) rfl rfl rfl (w_n rfl) ?_
                refine TL_q (.bool false) (fun _ _ hρ _ => r_assign (hρ _ _ rfl)) rfl rfl rfl (w_n rfl) ?_
                refine TL_seq ?_
                refine T_sub [(2, .pointer (some ⟨B1, 0, none⟩)), (3, .pointer (some ⟨B2, 0, none⟩)), (5, .pointer (some ⟨B4, 0, none⟩)), (7, .pointer (some ⟨B5, 0, none⟩)), (37, .int .i64 ((y : Nat) : Int)), (38, .bool (decide (((y : Nat) : Int) < 8))), (39, .int .i64 ((y : Nat) : Int)), (9, .int .i64 ((y : Nat) : Int)), (40, .int .i64 ((x : Nat) : Int)), (8, .int .i64 0), (41, .bool (decide (((x : Nat) : Int) < 8))), (42, .int .i64 ((x : Nat) : Int)), (10, .int .i64 ((x : Nat) : Int)), (44, .agg (lst C4.cells b)), (45, .int .i64 ((x : Nat) : Int)), (46, .int .i64 ((y : Nat) : Int)), (47, .tuple #[.agg #[.int .u8 ((atC b ((x : Nat) : Int) ((y : Nat) : Int)).r), .int .u8 ((atC b ((x : Nat) : Int) ((y : Nat) : Int)).g), .int .u8 ((atC b ((x : Nat) : Int) ((y : Nat) : Int)).b), .int .u8 ((atC b ((x : Nat) : Int) ((y : Nat) : Int)).a)], .int .i64 0]), (43, .tuple #[.agg #[.int .u8 ((atC b ((x : Nat) : Int) ((y : Nat) : Int)).r), .int .u8 ((atC b ((x : Nat) : Int) ((y : Nat) : Int)).g), .int .u8 ((atC b ((x : Nat) : Int) ((y : Nat) : Int)).b), .int .u8 ((atC b ((x : Nat) : Int) ((y : Nat) : Int)).a)], .int .i64 0]), (48, .agg #[.int .u8 ((atC b ((x : Nat) : Int) ((y : Nat) : Int)).r), .int .u8 ((atC b ((x : Nat) : Int) ((y : Nat) : Int)).g), .int .u8 ((atC b ((x : Nat) : Int) ((y : Nat) : Int)).b), .int .u8 ((atC b ((x : Nat) : Int) ((y : Nat) : Int)).a)]), (49, .int .i64 0), (11, .pointer (some ⟨B6, 0, none⟩)), (12, .int .i64 0), (51, .agg (lst C4.cells a)), (52, .int .i64 ((x : Nat) : Int)), (53, .int .i64 ((y : Nat) : Int)), (54, .tuple #[.agg #[.int .u8 ((atC a ((x : Nat) : Int) ((y : Nat) : Int)).r), .int .u8 ((atC a ((x : Nat) : Int) ((y : Nat) : Int)).g), .int .u8 ((atC a ((x : Nat) : Int) ((y : Nat) : Int)).b), .int .u8 ((atC a ((x : Nat) : Int) ((y : Nat) : Int)).a)], .int .i64 0]), (50, .tuple #[.agg #[.int .u8 ((atC a ((x : Nat) : Int) ((y : Nat) : Int)).r), .int .u8 ((atC a ((x : Nat) : Int) ((y : Nat) : Int)).g), .int .u8 ((atC a ((x : Nat) : Int) ((y : Nat) : Int)).b), .int .u8 ((atC a ((x : Nat) : Int) ((y : Nat) : Int)).a)], .int .i64 0]), (55, .agg #[.int .u8 ((atC a ((x : Nat) : Int) ((y : Nat) : Int)).r), .int .u8 ((atC a ((x : Nat) : Int) ((y : Nat) : Int)).g), .int .u8 ((atC a ((x : Nat) : Int) ((y : Nat) : Int)).b), .int .u8 ((atC a ((x : Nat) : Int) ((y : Nat) : Int)).a)]), (56, .int .i64 0), (13, .pointer (some ⟨B7, 0, none⟩)), (14, .int .i64 0), (57, .int .i64 ((x : Nat) : Int)), (58, .pointer (some ⟨B4, 0, none⟩)), (59, .int .i64 ((boxN a b 64).x)), (60, .bool true), (61, .bool true), (62, .int .i64 ((x : Nat) : Int)), (63, .pointer (some ⟨B4, 2, none⟩)), (64, .int .i64 ((boxN a b 64).x2)), (65, .bool true), (66, .bool true), (67, .bool true), (68, .int .i64 ((y : Nat) : Int)), (69, .pointer (some ⟨B4, 1, none⟩)), (70, .int .i64 ((boxN a b 64).y)), (71, .bool true), (72, .bool true), (73, .bool true), (74, .int .i64 ((y : Nat) : Int)), (75, .pointer (some ⟨B4, 3, none⟩)), (76, .int .i64 ((boxN a b 64).y2)), (77, .bool false), (78, .bool false), (15, .bool false)] [(1, .blk B1 (.cells (lst C4.cells a) 25)), (2, .blk B2 (.cells (lst C4.cells b) 25)), (4, .blk B4 (.cells #[.int .i64 ((boxN a b 64).x), .int .i64 ((boxN a b 64).y), .int .i64 ((boxN a b 64).x2), .int .i64 ((boxN a b 64).y2)] 33)), (5, .blk B5 (.cells (lst C4.cells (gridN (putG (boxN a b 64) b) a (8 * y + x))) 25)), (6, .blk B6 (.cells #[.int .u8 ((atC b ((x : Nat) : Int) ((y : Nat) : Int)).r), .int .u8 ((atC b ((x : Nat) : Int) ((y : Nat) : Int)).g), .int .u8 ((atC b ((x : Nat) : Int) ((y : Nat) : Int)).b), .int .u8 ((atC b ((x : Nat) : Int) ((y : Nat) : Int)).a)] 23)), (7, .blk B7 (.cells #[.int .u8 ((atC a ((x : Nat) : Int) ((y : Nat) : Int)).r), .int .u8 ((atC a ((x : Nat) : Int) ((y : Nat) : Int)).g), .int .u8 ((atC a ((x : Nat) : Int) ((y : Nat) : Int)).b), .int .u8 ((atC a ((x : Nat) : Int) ((y : Nat) : Int)).a)] 23))] (sub_cons rfl (sub_cons rfl (sub_cons rfl (sub_cons rfl (sub_cons rfl (sub_cons rfl (sub_cons rfl (sub_cons rfl (sub_cons rfl (sub_cons rfl (sub_cons rfl (sub_cons rfl (sub_cons rfl (sub_cons rfl (sub_cons rfl (sub_cons rfl (sub_cons rfl (sub_cons rfl (sub_cons rfl (sub_cons rfl (sub_cons rfl (sub_cons rfl (sub_cons rfl (sub_cons rfl (sub_cons rfl (sub_cons rfl (sub_cons rfl (sub_cons rfl (sub_cons rfl (sub_cons rfl (sub_cons rfl (sub_cons rfl (sub_cons rfl (sub_cons rfl (sub_cons rfl (sub_cons rfl (sub_cons rfl (sub_cons rfl (sub_cons rfl (sub_cons rfl (sub_cons rfl (sub_cons rfl (sub_cons rfl (sub_cons rfl (sub_cons rfl (sub_cons rfl (sub_cons rfl (sub_cons rfl (sub_cons rfl (sub_cons rfl (sub_cons rfl (sub_cons rfl (sub_cons rfl (sub_cons rfl sub_nil)))))))))))))))))))))))))))))))))))))))))))))))))))))) (sub_cons rfl (sub_cons rfl (sub_cons rfl (sub_cons rfl (sub_cons rfl (sub_cons rfl sub_nil)))))) ?_
                refine T_seq ?_
                refine T_seq (T_region ?_)
                refine TL_q (.int .i64 0) (fun _ _ hρ _ => r_move (hρ _ _ rfl)) rfl rfl rfl (w_n rfl) ?_
                refine TL_q (.bool false) (fun _ _ hρ _ => r_as (r_neq (hρ _ _ rfl) (hρ _ _ rfl)) (by rfl)) rfl rfl rfl (w_n rfl) ?_
                refine TL_q (.bool false) (fun _ _ hρ _ => r_move (hρ _ _ rfl)) rfl rfl rfl (w_n rfl) ?_
                refine TL_q (.int .i64 0) (fun _ _ hρ _ => r_move (hρ _ _ rfl)) rfl rfl rfl (want_y 81 rfl rfl rfl) ?_
                refine TL_q (.bool false) (fun _ _ hρ _ => r_as (r_neq (hρ _ _ rfl) (hρ _ _ rfl)) (by rfl)) rfl rfl rfl (want_y 81 rfl rfl rfl) ?_
                refine TL_q (.bool false) (fun _ _ hρ _ => r_pick_f (hρ _ _ rfl) (hρ _ _ rfl)) rfl rfl rfl (w_n rfl) ?_
                refine TL_seq ?_
                refine T_cond_f rfl ?_
                refine T_skip' ?_
                refine p_seq ?_
                refine T_seq ?_
                have hout : ¬ inB (boxN a b 64) x y = true := fun h => by have := of_decide_eq_true h; omega
                have hsame : (atC b ((x : Nat) : Int) ((y : Nat) : Int)) = (atC a ((x : Nat) : Int) ((y : Nat) : Int)) := by rw [atC_nat _ (by omega) (by omega), atC_nat _ (by omega) (by omega)]; exact out_same (by omega) (by omega) hout
                refine T_seq (T_region ?_)
                refine TL_q (.bool false) (fun _ _ hρ _ => r_move (hρ _ _ rfl)) rfl rfl rfl (w_n rfl) ?_
                refine TL_q (.bool true) (fun _ _ hρ _ => r_not (b := false) (hρ _ _ rfl)) rfl rfl rfl (w_n rfl) ?_
                refine TL_q (.bool true) (fun _ _ hρ _ => r_move (hρ _ _ rfl)) rfl rfl rfl (w_n rfl) ?_
                refine TL_q (.agg #[.int .u8 ((atC b ((x : Nat) : Int) ((y : Nat) : Int)).r), .int .u8 ((atC b ((x : Nat) : Int) ((y : Nat) : Int)).g), .int .u8 ((atC b ((x : Nat) : Int) ((y : Nat) : Int)).b), .int .u8 ((atC b ((x : Nat) : Int) ((y : Nat) : Int)).a)]) (fun _ _ hρ hm => r_loadA ag23 sz23 (hρ _ _ rfl) (hm.at 6 rfl) rfl rfl) rfl rfl rfl (want_y 87 rfl rfl rfl) ?_
                refine TL_q (.agg #[.int .u8 ((atC a ((x : Nat) : Int) ((y : Nat) : Int)).r), .int .u8 ((atC a ((x : Nat) : Int) ((y : Nat) : Int)).g), .int .u8 ((atC a ((x : Nat) : Int) ((y : Nat) : Int)).b), .int .u8 ((atC a ((x : Nat) : Int) ((y : Nat) : Int)).a)]) (fun _ _ hρ hm => r_loadA ag23 sz23 (hρ _ _ rfl) (hm.at 7 rfl) rfl rfl) rfl rfl rfl (want_y 87 rfl rfl rfl) ?_
                refine TL_q (.bool false) (fun _ _ hρ _ => r_as (r_as (r_neqA (by kernel_rfl) (hρ _ _ rfl) (hρ _ _ rfl) (run_equalI (l := [(0, .u8), (1, .u8), (2, .u8), (3, .u8)]) (by kernel_rfl) rfl rfl)) (bool_as (congrArg (fun b => !b) (eqC (atC b ((x : Nat) : Int) ((y : Nat) : Int)) (atC a ((x : Nat) : Int) ((y : Nat) : Int)))))) (bool_as (by rw [decide_eq_true hsame]; rfl))) rfl rfl rfl (want_y 87 rfl rfl rfl) ?_
                refine TL_q (.bool false) (fun _ _ hρ _ => r_pick_t (hρ _ _ rfl) (hρ _ _ rfl)) rfl rfl rfl (w_n rfl) ?_
                refine TL_seq ?_
                refine T_cond_f rfl ?_
                refine T_skip' ?_
                refine p_seq ?_
                refine T_seq (T_region ?_)
                refine TL_q (.bool false) (fun _ _ hρ _ => r_move (hρ _ _ rfl)) rfl rfl rfl (w_n rfl) ?_
                refine TL_seq ?_
                refine T_cond_f rfl ?_
                refine T_skip' ?_
                refine p_blk_n ?_
                refine p_seq ?_
                refine T_region ?_
                refine TL_q (.int .i64 ((x + 1 : Nat) : Int)) (fun _ _ hρ _ => r_as (r_add (hρ _ _ rfl) (hρ _ _ rfl)) (int_as ((wrap64 (by omega) (by omega)).trans (by omega)))) rfl rfl rfl (w_n rfl) ?_
                refine TL_q (.int .i64 ((x + 1 : Nat) : Int)) (fun _ _ hρ _ => r_move (hρ _ _ rfl)) rfl rfl rfl (w_n rfl) ?_
                refine TL_nil ?_
                rw [show gridN (putG (boxN a b 64) b) a (8 * y + x) = gridN (putG (boxN a b 64) b) a (8 * y + x + 1) from box_put_f (by omega) hout]
                exact p_at (x + 1) ⟨by omega, by omega⟩ (sub_cons rfl (sub_cons rfl (sub_cons rfl (sub_cons rfl (sub_cons rfl (sub_cons rfl (sub_cons rfl (sub_cons rfl (sub_cons rfl (sub_cons rfl sub_nil)))))))))) (sub_cons rfl (sub_cons rfl (sub_cons rfl (sub_cons rfl sub_nil))))
            · skip
              refine T_seq (T_region ?_)
              refine TL_q (.int .i64 ((x : Nat) : Int)) (fun _ _ hρ _ => r_move (hρ _ _ rfl)) rfl rfl rfl (w_n rfl) ?_
              refine TL_q (.pointer (some ⟨B4, 0, none⟩)) (fun _ _ hρ _ => r_fieldAddr fl33_0 sz3 (hρ _ _ rfl)) rfl rfl rfl (w_n rfl) ?_
              refine TL_q (.int .i64 ((boxN a b 64).x)) (fun _ _ hρ hm => r_load ag3 (hρ _ _ rfl) (hm.at 4 rfl) rfl) rfl rfl rfl (w_n rfl) ?_
              refine TL_q (.bool true) (fun _ _ hρ _ => r_as (r_geq (hρ _ _ rfl) (hρ _ _ rfl)) (bool_as (decide_eq_true hb1))) rfl rfl rfl (w_n rfl) ?_
              refine TL_q (.bool true) (fun _ _ hρ _ => r_move (hρ _ _ rfl)) rfl rfl rfl (w_n rfl) ?_
              refine TL_q (.int .i64 ((x : Nat) : Int)) (fun _ _ hρ _ => r_move (hρ _ _ rfl)) rfl rfl rfl (want_y 61 rfl rfl rfl) ?_
              refine TL_q (.pointer (some ⟨B4, 2, none⟩)) (fun _ _ hρ _ => r_fieldAddr fl33_2 sz3 (hρ _ _ rfl)) rfl rfl rfl (want_y 61 rfl rfl rfl) ?_
              refine TL_q (.int .i64 ((boxN a b 64).x2)) (fun _ _ hρ hm => r_load ag3 (hρ _ _ rfl) (hm.at 4 rfl) rfl) rfl rfl rfl (want_y 61 rfl rfl rfl) ?_
              refine TL_q (.bool true) (fun _ _ hρ _ => r_as (r_leq (hρ _ _ rfl) (hρ _ _ rfl)) (bool_as (decide_eq_true hb2))) rfl rfl rfl (want_y 61 rfl rfl rfl) ?_
              refine TL_q (.bool true) (fun _ _ hρ _ => r_pick_t (hρ _ _ rfl) (hρ _ _ rfl)) rfl rfl rfl (w_n rfl) ?_
              refine TL_q (.bool true) (fun _ _ hρ _ => r_move (hρ _ _ rfl)) rfl rfl rfl (w_n rfl) ?_
              refine TL_q (.int .i64 ((y : Nat) : Int)) (fun _ _ hρ _ => r_move (hρ _ _ rfl)) rfl rfl rfl (want_y 67 rfl rfl rfl) ?_
              refine TL_q (.pointer (some ⟨B4, 1, none⟩)) (fun _ _ hρ _ => r_fieldAddr fl33_1 sz3 (hρ _ _ rfl)) rfl rfl rfl (want_y 67 rfl rfl rfl) ?_
              refine TL_q (.int .i64 ((boxN a b 64).y)) (fun _ _ hρ hm => r_load ag3 (hρ _ _ rfl) (hm.at 4 rfl) rfl) rfl rfl rfl (want_y 67 rfl rfl rfl) ?_
              refine TL_q (.bool false) (fun _ _ hρ _ => r_as (r_geq (hρ _ _ rfl) (hρ _ _ rfl)) (bool_as (decide_eq_false hb3))) rfl rfl rfl (want_y 67 rfl rfl rfl) ?_
              refine TL_q (.bool false) (fun _ _ hρ _ => r_pick_t (hρ _ _ rfl) (hρ _ _ rfl)) rfl rfl rfl (w_n rfl) ?_
              refine TL_q (.bool false) (fun _ _ hρ _ => r_move (hρ _ _ rfl)) rfl rfl rfl (w_n rfl) ?_
              refine TL_no rfl rfl (want_n 73 rfl rfl rfl) ?_
              refine TL_no rfl rfl (want_n 73 rfl rfl rfl) ?_
              refine TL_no rfl rfl (want_n 73 rfl rfl rfl) ?_
              refine TL_no rfl rfl (want_n 73 rfl rfl rfl) ?_
              refine TL_q (.bool false) (fun _ _ hρ _ => r_pick_f (hρ _ _ rfl) (hρ _ _ rfl)) rfl rfl rfl (w_n rfl) ?_
              refine TL_q (.bool false) (fun _ _ hρ _ => r_assign (hρ _ _ rfl)) rfl rfl rfl (w_n rfl) ?_
              refine TL_seq ?_
              refine T_sub [(2, .pointer (some ⟨B1, 0, none⟩)), (3, .pointer (some ⟨B2, 0, none⟩)), (5, .pointer (some ⟨B4, 0, none⟩)), (7, .pointer (some ⟨B5, 0, none⟩)), (37, .int .i64 ((y : Nat) : Int)), (38, .bool (decide (((y : Nat) : Int) < 8))), (39, .int .i64 ((y : Nat) : Int)), (9, .int .i64 ((y : Nat) : Int)), (40, .int .i64 ((x : Nat) : Int)), (8, .int .i64 0), (41, .bool (decide (((x : Nat) : Int) < 8))), (42, .int .i64 ((x : Nat) : Int)), (10, .int .i64 ((x : Nat) : Int)), (44, .agg (lst C4.cells b)), (45, .int .i64 ((x : Nat) : Int)), (46, .int .i64 ((y : Nat) : Int)), (47, .tuple #[.agg #[.int .u8 ((atC b ((x : Nat) : Int) ((y : Nat) : Int)).r), .int .u8 ((atC b ((x : Nat) : Int) ((y : Nat) : Int)).g), .int .u8 ((atC b ((x : Nat) : Int) ((y : Nat) : Int)).b), .int .u8 ((atC b ((x : Nat) : Int) ((y : Nat) : Int)).a)], .int .i64 0]), (43, .tuple #[.agg #[.int .u8 ((atC b ((x : Nat) : Int) ((y : Nat) : Int)).r), .int .u8 ((atC b ((x : Nat) : Int) ((y : Nat) : Int)).g), .int .u8 ((atC b ((x : Nat) : Int) ((y : Nat) : Int)).b), .int .u8 ((atC b ((x : Nat) : Int) ((y : Nat) : Int)).a)], .int .i64 0]), (48, .agg #[.int .u8 ((atC b ((x : Nat) : Int) ((y : Nat) : Int)).r), .int .u8 ((atC b ((x : Nat) : Int) ((y : Nat) : Int)).g), .int .u8 ((atC b ((x : Nat) : Int) ((y : Nat) : Int)).b), .int .u8 ((atC b ((x : Nat) : Int) ((y : Nat) : Int)).a)]), (49, .int .i64 0), (11, .pointer (some ⟨B6, 0, none⟩)), (12, .int .i64 0), (51, .agg (lst C4.cells a)), (52, .int .i64 ((x : Nat) : Int)), (53, .int .i64 ((y : Nat) : Int)), (54, .tuple #[.agg #[.int .u8 ((atC a ((x : Nat) : Int) ((y : Nat) : Int)).r), .int .u8 ((atC a ((x : Nat) : Int) ((y : Nat) : Int)).g), .int .u8 ((atC a ((x : Nat) : Int) ((y : Nat) : Int)).b), .int .u8 ((atC a ((x : Nat) : Int) ((y : Nat) : Int)).a)], .int .i64 0]), (50, .tuple #[.agg #[.int .u8 ((atC a ((x : Nat) : Int) ((y : Nat) : Int)).r), .int .u8 ((atC a ((x : Nat) : Int) ((y : Nat) : Int)).g), .int .u8 ((atC a ((x : Nat) : Int) ((y : Nat) : Int)).b), .int .u8 ((atC a ((x : Nat) : Int) ((y : Nat) : Int)).a)], .int .i64 0]), (55, .agg #[.int .u8 ((atC a ((x : Nat) : Int) ((y : Nat) : Int)).r), .int .u8 ((atC a ((x : Nat) : Int) ((y : Nat) : Int)).g), .int .u8 ((atC a ((x : Nat) : Int) ((y : Nat) : Int)).b), .int .u8 ((atC a ((x : Nat) : Int) ((y : Nat) : Int)).a)]), (56, .int .i64 0), (13, .pointer (some ⟨B7, 0, none⟩)), (14, .int .i64 0), (57, .int .i64 ((x : Nat) : Int)), (58, .pointer (some ⟨B4, 0, none⟩)), (59, .int .i64 ((boxN a b 64).x)), (60, .bool true), (61, .bool true), (62, .int .i64 ((x : Nat) : Int)), (63, .pointer (some ⟨B4, 2, none⟩)), (64, .int .i64 ((boxN a b 64).x2)), (65, .bool true), (66, .bool true), (67, .bool true), (68, .int .i64 ((y : Nat) : Int)), (69, .pointer (some ⟨B4, 1, none⟩)), (70, .int .i64 ((boxN a b 64).y)), (71, .bool false), (72, .bool false), (73, .bool false), (74, undef), (75, undef), (76, undef), (77, undef), (78, .bool false), (15, .bool false)] [(1, .blk B1 (.cells (lst C4.cells a) 25)), (2, .blk B2 (.cells (lst C4.cells b) 25)), (4, .blk B4 (.cells #[.int .i64 ((boxN a b 64).x), .int .i64 ((boxN a b 64).y), .int .i64 ((boxN a b 64).x2), .int .i64 ((boxN a b 64).y2)] 33)), (5, .blk B5 (.cells (lst C4.cells (gridN (putG (boxN a b 64) b) a (8 * y + x))) 25)), (6, .blk B6 (.cells #[.int .u8 ((atC b ((x : Nat) : Int) ((y : Nat) : Int)).r), .int .u8 ((atC b ((x : Nat) : Int) ((y : Nat) : Int)).g), .int .u8 ((atC b ((x : Nat) : Int) ((y : Nat) : Int)).b), .int .u8 ((atC b ((x : Nat) : Int) ((y : Nat) : Int)).a)] 23)), (7, .blk B7 (.cells #[.int .u8 ((atC a ((x : Nat) : Int) ((y : Nat) : Int)).r), .int .u8 ((atC a ((x : Nat) : Int) ((y : Nat) : Int)).g), .int .u8 ((atC a ((x : Nat) : Int) ((y : Nat) : Int)).b), .int .u8 ((atC a ((x : Nat) : Int) ((y : Nat) : Int)).a)] 23))] (sub_cons rfl (sub_cons rfl (sub_cons rfl (sub_cons rfl (sub_cons rfl (sub_cons rfl (sub_cons rfl (sub_cons rfl (sub_cons rfl (sub_cons rfl (sub_cons rfl (sub_cons rfl (sub_cons rfl (sub_cons rfl (sub_cons rfl (sub_cons rfl (sub_cons rfl (sub_cons rfl (sub_cons rfl (sub_cons rfl (sub_cons rfl (sub_cons rfl (sub_cons rfl (sub_cons rfl (sub_cons rfl (sub_cons rfl (sub_cons rfl (sub_cons rfl (sub_cons rfl (sub_cons rfl (sub_cons rfl (sub_cons rfl (sub_cons rfl (sub_cons rfl (sub_cons rfl (sub_cons rfl (sub_cons rfl (sub_cons rfl (sub_cons rfl (sub_cons rfl (sub_cons rfl (sub_cons rfl (sub_cons rfl (sub_cons rfl (sub_cons rfl (sub_cons rfl (sub_cons rfl (sub_cons rfl (sub_cons rfl (sub_cons rfl (sub_cons rfl (sub_cons rfl (sub_cons rfl (sub_cons rfl sub_nil)))))))))))))))))))))))))))))))))))))))))))))))))))))) (sub_cons rfl (sub_cons rfl (sub_cons rfl (sub_cons rfl (sub_cons rfl (sub_cons rfl sub_nil)))))) ?_
              refine T_seq ?_
              refine T_seq (T_region ?_)
              refine TL_q (.int .i64 0) (fun _ _ hρ _ => r_move (hρ _ _ rfl)) rfl rfl rfl (w_n rfl) ?_
              refine TL_q (.bool false) (fun _ _ hρ _ => r_as (r_neq (hρ _ _ rfl) (hρ _ _ rfl)) (by rfl)) rfl rfl rfl (w_n rfl) ?_
              refine TL_q (.bool false) (fun _ _ hρ _ => r_move (hρ _ _ rfl)) rfl rfl rfl (w_n rfl) ?_
              refine TL_q (.int .i64 0) (fun _ _ hρ _ => r_move (hρ _ _ rfl)) rfl rfl rfl (want_y 81 rfl rfl rfl) ?_
              refine TL_q (.bool false) (fun _ _ hρ _ => r_as (r_neq (hρ _ _ rfl) (hρ _ _ rfl)) (by rfl)) rfl rfl rfl (want_y 81 rfl rfl rfl) ?_
              refine TL_q (.bool false) (fun _ _ hρ _ => r_pick_f (hρ _ _ rfl) (hρ _ _ rfl)) rfl rfl rfl (w_n rfl) ?_
              refine TL_seq ?_
              refine T_cond_f rfl ?_
              refine T_skip' ?_
              refine p_seq ?_
              refine T_seq ?_
              have hout : ¬ inB (boxN a b 64) x y = true := fun h => by have := of_decide_eq_true h; omega
              have hsame : (atC b ((x : Nat) : Int) ((y : Nat) : Int)) = (atC a ((x : Nat) : Int) ((y : Nat) : Int)) := by rw [atC_nat _ (by omega) (by omega), atC_nat _ (by omega) (by omega)]; exact out_same (by omega) (by omega) hout
              refine T_seq (T_region ?_)
              refine TL_q (.bool false) (fun _ _ hρ _ => r_move (hρ _ _ rfl)) rfl rfl rfl (w_n rfl) ?_
              refine TL_q (.bool true) (fun _ _ hρ _ => r_not (b := false) (hρ _ _ rfl)) rfl rfl rfl (w_n rfl) ?_
              refine TL_q (.bool true) (fun _ _ hρ _ => r_move (hρ _ _ rfl)) rfl rfl rfl (w_n rfl) ?_
              refine TL_q (.agg #[.int .u8 ((atC b ((x : Nat) : Int) ((y : Nat) : Int)).r), .int .u8 ((atC b ((x : Nat) : Int) ((y : Nat) : Int)).g), .int .u8 ((atC b ((x : Nat) : Int) ((y : Nat) : Int)).b), .int .u8 ((atC b ((x : Nat) : Int) ((y : Nat) : Int)).a)]) (fun _ _ hρ hm => r_loadA ag23 sz23 (hρ _ _ rfl) (hm.at 6 rfl) rfl rfl) rfl rfl rfl (want_y 87 rfl rfl rfl) ?_
              refine TL_q (.agg #[.int .u8 ((atC a ((x : Nat) : Int) ((y : Nat) : Int)).r), .int .u8 ((atC a ((x : Nat) : Int) ((y : Nat) : Int)).g), .int .u8 ((atC a ((x : Nat) : Int) ((y : Nat) : Int)).b), .int .u8 ((atC a ((x : Nat) : Int) ((y : Nat) : Int)).a)]) (fun _ _ hρ hm => r_loadA ag23 sz23 (hρ _ _ rfl) (hm.at 7 rfl) rfl rfl) rfl rfl rfl (want_y 87 rfl rfl rfl) ?_
              refine TL_q (.bool false) (fun _ _ hρ _ => r_as (r_as (r_neqA (by kernel_rfl) (hρ _ _ rfl) (hρ _ _ rfl) (run_equalI (l := [(0, .u8), (1, .u8), (2, .u8), (3, .u8)]) (by kernel_rfl) rfl rfl)) (bool_as (congrArg (fun b => !b) (eqC (atC b ((x : Nat) : Int) ((y : Nat) : Int)) (atC a ((x : Nat) : Int) ((y : Nat) : Int)))))) (bool_as (by rw [decide_eq_true hsame]; rfl))) rfl rfl rfl (want_y 87 rfl rfl rfl) ?_
              refine TL_q (.bool false) (fun _ _ hρ _ => r_pick_t (hρ _ _ rfl) (hρ _ _ rfl)) rfl rfl rfl (w_n rfl) ?_
              refine TL_seq ?_
              refine T_cond_f rfl ?_
              refine T_skip' ?_
              refine p_seq ?_
              refine T_seq (T_region ?_)
              refine TL_q (.bool false) (fun _ _ hρ _ => r_move (hρ _ _ rfl)) rfl rfl rfl (w_n rfl) ?_
              refine TL_seq ?_
              refine T_cond_f rfl ?_
              refine T_skip' ?_
              refine p_blk_n ?_
              refine p_seq ?_
              refine T_region ?_
              refine TL_q (.int .i64 ((x + 1 : Nat) : Int)) (fun _ _ hρ _ => r_as (r_add (hρ _ _ rfl) (hρ _ _ rfl)) (int_as ((wrap64 (by omega) (by omega)).trans (by omega)))) rfl rfl rfl (w_n rfl) ?_
              refine TL_q (.int .i64 ((x + 1 : Nat) : Int)) (fun _ _ hρ _ => r_move (hρ _ _ rfl)) rfl rfl rfl (w_n rfl) ?_
              refine TL_nil ?_
              rw [show gridN (putG (boxN a b 64) b) a (8 * y + x) = gridN (putG (boxN a b 64) b) a (8 * y + x + 1) from box_put_f (by omega) hout]
              exact p_at (x + 1) ⟨by omega, by omega⟩ (sub_cons rfl (sub_cons rfl (sub_cons rfl (sub_cons rfl (sub_cons rfl (sub_cons rfl (sub_cons rfl (sub_cons rfl (sub_cons rfl (sub_cons rfl sub_nil)))))))))) (sub_cons rfl (sub_cons rfl (sub_cons rfl (sub_cons rfl sub_nil))))
          · skip
            refine T_seq (T_region ?_)
            refine TL_q (.int .i64 ((x : Nat) : Int)) (fun _ _ hρ _ => r_move (hρ _ _ rfl)) rfl rfl rfl (w_n rfl) ?_
            refine TL_q (.pointer (some ⟨B4, 0, none⟩)) (fun _ _ hρ _ => r_fieldAddr fl33_0 sz3 (hρ _ _ rfl)) rfl rfl rfl (w_n rfl) ?_
            refine TL_q (.int .i64 ((boxN a b 64).x)) (fun _ _ hρ hm => r_load ag3 (hρ _ _ rfl) (hm.at 4 rfl) rfl) rfl rfl rfl (w_n rfl) ?_
            refine TL_q (.bool true) (fun _ _ hρ _ => r_as (r_geq (hρ _ _ rfl) (hρ _ _ rfl)) (bool_as (decide_eq_true hb1))) rfl rfl rfl (w_n rfl) ?_
            refine TL_q (.bool true) (fun _ _ hρ _ => r_move (hρ _ _ rfl)) rfl rfl rfl (w_n rfl) ?_
            refine TL_q (.int .i64 ((x : Nat) : Int)) (fun _ _ hρ _ => r_move (hρ _ _ rfl)) rfl rfl rfl (want_y 61 rfl rfl rfl) ?_
            refine TL_q (.pointer (some ⟨B4, 2, none⟩)) (fun _ _ hρ _ => r_fieldAddr fl33_2 sz3 (hρ _ _ rfl)) rfl rfl rfl (want_y 61 rfl rfl rfl) ?_
            refine TL_q (.int .i64 ((boxN a b 64).x2)) (fun _ _ hρ hm => r_load ag3 (hρ _ _ rfl) (hm.at 4 rfl) rfl) rfl rfl rfl (want_y 61 rfl rfl rfl) ?_
            refine TL_q (.bool false) (fun _ _ hρ _ => r_as (r_leq (hρ _ _ rfl) (hρ _ _ rfl)) (bool_as (decide_eq_false hb2))) rfl rfl rfl (want_y 61 rfl rfl rfl) ?_
            refine TL_q (.bool false) (fun _ _ hρ _ => r_pick_t (hρ _ _ rfl) (hρ _ _ rfl)) rfl rfl rfl (w_n rfl) ?_
            refine TL_q (.bool false) (fun _ _ hρ _ => r_move (hρ _ _ rfl)) rfl rfl rfl (w_n rfl) ?_
            refine TL_no rfl rfl (want_n 67 rfl rfl rfl) ?_
            refine TL_no rfl rfl (want_n 67 rfl rfl rfl) ?_
            refine TL_no rfl rfl (want_n 67 rfl rfl rfl) ?_
            refine TL_no rfl rfl (want_n 67 rfl rfl rfl) ?_
            refine TL_q (.bool false) (fun _ _ hρ _ => r_pick_f (hρ _ _ rfl) (hρ _ _ rfl)) rfl rfl rfl (w_n rfl) ?_
            refine TL_q (.bool false) (fun _ _ hρ _ => r_move (hρ _ _ rfl)) rfl rfl rfl (w_n rfl) ?_
            refine TL_no rfl rfl (want_n 73 rfl rfl rfl) ?_
            refine TL_no rfl rfl (want_n 73 rfl rfl rfl) ?_
            refine TL_no rfl rfl (want_n 73 rfl rfl rfl) ?_
            refine TL_no rfl rfl (want_n 73 rfl rfl rfl) ?_
            refine TL_q (.bool false) (fun _ _ hρ _ => r_pick_f (hρ _ _ rfl) (hρ _ _ rfl)) rfl rfl rfl (w_n rfl) ?_
            refine TL_q (.bool false) (fun _ _ hρ _ => r_assign (hρ _ _ rfl)) rfl rfl rfl (w_n rfl) ?_
            refine TL_seq ?_
            refine T_sub [(2, .pointer (some ⟨B1, 0, none⟩)), (3, .pointer (some ⟨B2, 0, none⟩)), (5, .pointer (some ⟨B4, 0, none⟩)), (7, .pointer (some ⟨B5, 0, none⟩)), (37, .int .i64 ((y : Nat) : Int)), (38, .bool (decide (((y : Nat) : Int) < 8))), (39, .int .i64 ((y : Nat) : Int)), (9, .int .i64 ((y : Nat) : Int)), (40, .int .i64 ((x : Nat) : Int)), (8, .int .i64 0), (41, .bool (decide (((x : Nat) : Int) < 8))), (42, .int .i64 ((x : Nat) : Int)), (10, .int .i64 ((x : Nat) : Int)), (44, .agg (lst C4.cells b)), (45, .int .i64 ((x : Nat) : Int)), (46, .int .i64 ((y : Nat) : Int)), (47, .tuple #[.agg #[.int .u8 ((atC b ((x : Nat) : Int) ((y : Nat) : Int)).r), .int .u8 ((atC b ((x : Nat) : Int) ((y : Nat) : Int)).g), .int .u8 ((atC b ((x : Nat) : Int) ((y : Nat) : Int)).b), .int .u8 ((atC b ((x : Nat) : Int) ((y : Nat) : Int)).a)], .int .i64 0]), (43, .tuple #[.agg #[.int .u8 ((atC b ((x : Nat) : Int) ((y : Nat) : Int)).r), .int .u8 ((atC b ((x : Nat) : Int) ((y : Nat) : Int)).g), .int .u8 ((atC b ((x : Nat) : Int) ((y : Nat) : Int)).b), .int .u8 ((atC b ((x : Nat) : Int) ((y : Nat) : Int)).a)], .int .i64 0]), (48, .agg #[.int .u8 ((atC b ((x : Nat) : Int) ((y : Nat) : Int)).r), .int .u8 ((atC b ((x : Nat) : Int) ((y : Nat) : Int)).g), .int .u8 ((atC b ((x : Nat) : Int) ((y : Nat) : Int)).b), .int .u8 ((atC b ((x : Nat) : Int) ((y : Nat) : Int)).a)]), (49, .int .i64 0), (11, .pointer (some ⟨B6, 0, none⟩)), (12, .int .i64 0), (51, .agg (lst C4.cells a)), (52, .int .i64 ((x : Nat) : Int)), (53, .int .i64 ((y : Nat) : Int)), (54, .tuple #[.agg #[.int .u8 ((atC a ((x : Nat) : Int) ((y : Nat) : Int)).r), .int .u8 ((atC a ((x : Nat) : Int) ((y : Nat) : Int)).g), .int .u8 ((atC a ((x : Nat) : Int) ((y : Nat) : Int)).b), .int .u8 ((atC a ((x : Nat) : Int) ((y : Nat) : Int)).a)], .int .i64 0]), (50, .tuple #[.agg #[.int .u8 ((atC a ((x : Nat) : Int) ((y : Nat) : Int)).r), .int .u8 ((atC a ((x : Nat) : Int) ((y : Nat) : Int)).g), .int .u8 ((atC a ((x : Nat) : Int) ((y : Nat) : Int)).b), .int .u8 ((atC a ((x : Nat) : Int) ((y : Nat) : Int)).a)], .int .i64 0]), (55, .agg #[.int .u8 ((atC a ((x : Nat) : Int) ((y : Nat) : Int)).r), .int .u8 ((atC a ((x : Nat) : Int) ((y : Nat) : Int)).g), .int .u8 ((atC a ((x : Nat) : Int) ((y : Nat) : Int)).b), .int .u8 ((atC a ((x : Nat) : Int) ((y : Nat) : Int)).a)]), (56, .int .i64 0), (13, .pointer (some ⟨B7, 0, none⟩)), (14, .int .i64 0), (57, .int .i64 ((x : Nat) : Int)), (58, .pointer (some ⟨B4, 0, none⟩)), (59, .int .i64 ((boxN a b 64).x)), (60, .bool true), (61, .bool true), (62, .int .i64 ((x : Nat) : Int)), (63, .pointer (some ⟨B4, 2, none⟩)), (64, .int .i64 ((boxN a b 64).x2)), (65, .bool false), (66, .bool false), (67, .bool false), (68, undef), (69, undef), (70, undef), (71, undef), (72, .bool false), (73, .bool false), (74, undef), (75, undef), (76, undef), (77, undef), (78, .bool false), (15, .bool false)] [(1, .blk B1 (.cells (lst C4.cells a) 25)), (2, .blk B2 (.cells (lst C4.cells b) 25)), (4, .blk B4 (.cells #[.int .i64 ((boxN a b 64).x), .int .i64 ((boxN a b 64).y), .int .i64 ((boxN a b 64).x2), .int .i64 ((boxN a b 64).y2)] 33)), (5, .blk B5 (.cells (lst C4.cells (gridN (putG (boxN a b 64) b) a (8 * y + x))) 25)), (6, .blk B6 (.cells #[.int .u8 ((atC b ((x : Nat) : Int) ((y : Nat) : Int)).r), .int .u8 ((atC b ((x : Nat) : Int) ((y : Nat) : Int)).g), .int .u8 ((atC b ((x : Nat) : Int) ((y : Nat) : Int)).b), .int .u8 ((atC b ((x : Nat) : Int) ((y : Nat) : Int)).a)] 23)), (7, .blk B7 (.cells #[.int .u8 ((atC a ((x : Nat) : Int) ((y : Nat) : Int)).r), .int .u8 ((atC a ((x : Nat) : Int) ((y : Nat) : Int)).g), .int .u8 ((atC a ((x : Nat) : Int) ((y : Nat) : Int)).b), .int .u8 ((atC a ((x : Nat) : Int) ((y : Nat) : Int)).a)] 23))] (sub_cons rfl (sub_cons rfl (sub_cons rfl (sub_cons rfl (sub_cons rfl (sub_cons rfl (sub_cons rfl (sub_cons rfl (sub_cons rfl (sub_cons rfl (sub_cons rfl (sub_cons rfl (sub_cons rfl (sub_cons rfl (sub_cons rfl (sub_cons rfl (sub_cons rfl (sub_cons rfl (sub_cons rfl (sub_cons rfl (sub_cons rfl (sub_cons rfl (sub_cons rfl (sub_cons rfl (sub_cons rfl (sub_cons rfl (sub_cons rfl (sub_cons rfl (sub_cons rfl (sub_cons rfl (sub_cons rfl (sub_cons rfl (sub_cons rfl (sub_cons rfl (sub_cons rfl (sub_cons rfl (sub_cons rfl (sub_cons rfl (sub_cons rfl (sub_cons rfl (sub_cons rfl (sub_cons rfl (sub_cons rfl (sub_cons rfl (sub_cons rfl (sub_cons rfl (sub_cons rfl (sub_cons rfl (sub_cons rfl (sub_cons rfl (sub_cons rfl (sub_cons rfl (sub_cons rfl (sub_cons rfl sub_nil)))))))))))))))))))))))))))))))))))))))))))))))))))))) (sub_cons rfl (sub_cons rfl (sub_cons rfl (sub_cons rfl (sub_cons rfl (sub_cons rfl sub_nil)))))) ?_
            refine T_seq ?_
            refine T_seq (T_region ?_)
            refine TL_q (.int .i64 0) (fun _ _ hρ _ => r_move (hρ _ _ rfl)) rfl rfl rfl (w_n rfl) ?_
            refine TL_q (.bool false) (fun _ _ hρ _ => r_as (r_neq (hρ _ _ rfl) (hρ _ _ rfl)) (by rfl)) rfl rfl rfl (w_n rfl) ?_
            refine TL_q (.bool false) (fun _ _ hρ _ => r_move (hρ _ _ rfl)) rfl rfl rfl (w_n rfl) ?_
            refine TL_q (.int .i64 0) (fun _ _ hρ _ => r_move (hρ _ _ rfl)) rfl rfl rfl (want_y 81 rfl rfl rfl) ?_
            refine TL_q (.bool false) (fun _ _ hρ _ => r_as (r_neq (hρ _ _ rfl) (hρ _ _ rfl)) (by rfl)) rfl rfl rfl (want_y 81 rfl rfl rfl) ?_
            refine TL_q (.bool false) (fun _ _ hρ _ => r_pick_f (hρ _ _ rfl) (hρ _ _ rfl)) rfl rfl rfl (w_n rfl) ?_
            refine TL_seq ?_
            refine T_cond_f rfl ?_
            refine T_skip' ?_
            refine p_seq ?_
            refine T_seq ?_
            have hout : ¬ inB (boxN a b 64) x y = true := fun h => by have := of_decide_eq_true h; omega
            have hsame : (atC b ((x : Nat) : Int) ((y : Nat) : Int)) = (atC a ((x : Nat) : Int) ((y : Nat) : Int)) := by rw [atC_nat _ (by omega) (by omega), atC_nat _ (by omega) (by omega)]; exact out_same (by omega) (by omega) hout
            refine T_seq (T_region ?_)
            refine TL_q (.bool false) (fun _ _ hρ _ => r_move (hρ _ _ rfl)) rfl rfl rfl (w_n rfl) ?_
            refine TL_q (.bool true) (fun _ _ hρ _ => r_not (b := false) (hρ _ _ rfl)) rfl rfl rfl (w_n rfl) ?_
            refine TL_q (.bool true) (fun _ _ hρ _ => r_move (hρ _ _ rfl)) rfl rfl rfl (w_n rfl) ?_
            refine TL_q (.agg #[.int .u8 ((atC b ((x : Nat) : Int) ((y : Nat) : Int)).r), .int .u8 ((atC b ((x : Nat) : Int) ((y : Nat) : Int)).g), .int .u8 ((atC b ((x : Nat) : Int) ((y : Nat) : Int)).b), .int .u8 ((atC b ((x : Nat) : Int) ((y : Nat) : Int)).a)]) (fun _ _ hρ hm => r_loadA ag23 sz23 (hρ _ _ rfl) (hm.at 6 rfl) rfl rfl) rfl rfl rfl (want_y 87 rfl rfl rfl) ?_
            refine TL_q (.agg #[.int .u8 ((atC a ((x : Nat) : Int) ((y : Nat) : Int)).r), .int .u8 ((atC a ((x : Nat) : Int) ((y : Nat) : Int)).g), .int .u8 ((atC a ((x : Nat) : Int) ((y : Nat) : Int)).b), .int .u8 ((atC a ((x : Nat) : Int) ((y : Nat) : Int)).a)]) (fun _ _ hρ hm => r_loadA ag23 sz23 (hρ _ _ rfl) (hm.at 7 rfl) rfl rfl) rfl rfl rfl (want_y 87 rfl rfl rfl) ?_
            refine TL_q (.bool false) (fun _ _ hρ _ => r_as (r_as (r_neqA (by kernel_rfl) (hρ _ _ rfl) (hρ _ _ rfl) (run_equalI (l := [(0, .u8), (1, .u8), (2, .u8), (3, .u8)]) (by kernel_rfl) rfl rfl)) (bool_as (congrArg (fun b => !b) (eqC (atC b ((x : Nat) : Int) ((y : Nat) : Int)) (atC a ((x : Nat) : Int) ((y : Nat) : Int)))))) (bool_as (by rw [decide_eq_true hsame]; rfl))) rfl rfl rfl (want_y 87 rfl rfl rfl) ?_
            refine TL_q (.bool false) (fun _ _ hρ _ => r_pick_t (hρ _ _ rfl) (hρ _ _ rfl)) rfl rfl rfl (w_n rfl) ?_
            refine TL_seq ?_
            refine T_cond_f rfl ?_
            refine T_skip' ?_
            refine p_seq ?_
            refine T_seq (T_region ?_)
            refine TL_q (.bool false) (fun _ _ hρ _ => r_move (hρ _ _ rfl)) rfl rfl rfl (w_n rfl) ?_
            refine TL_seq ?_
            refine T_cond_f rfl ?_
            refine T_skip' ?_
            refine p_blk_n ?_
            refine p_seq ?_
            refine T_region ?_
            refine TL_q (.int .i64 ((x + 1 : Nat) : Int)) (fun _ _ hρ _ => r_as (r_add (hρ _ _ rfl) (hρ _ _ rfl)) (int_as ((wrap64 (by omega) (by omega)).trans (by omega)))) rfl rfl rfl (w_n rfl) ?_
            refine TL_q (.int .i64 ((x + 1 : Nat) : Int)) (fun _ _ hρ _ => r_move (hρ _ _ rfl)) rfl rfl rfl (w_n rfl) ?_
            refine TL_nil ?_
            rw [show gridN (putG (boxN a b 64) b) a (8 * y + x) = gridN (putG (boxN a b 64) b) a (8 * y + x + 1) from box_put_f (by omega) hout]
            exact p_at (x + 1) ⟨by omega, by omega⟩ (sub_cons rfl (sub_cons rfl (sub_cons rfl (sub_cons rfl (sub_cons rfl (sub_cons rfl (sub_cons rfl (sub_cons rfl (sub_cons rfl (sub_cons rfl sub_nil)))))))))) (sub_cons rfl (sub_cons rfl (sub_cons rfl (sub_cons rfl sub_nil))))
        · skip
          refine T_seq (T_region ?_)
          refine TL_q (.int .i64 ((x : Nat) : Int)) (fun _ _ hρ _ => r_move (hρ _ _ rfl)) rfl rfl rfl (w_n rfl) ?_
          refine TL_q (.pointer (some ⟨B4, 0, none⟩)) (fun _ _ hρ _ => r_fieldAddr fl33_0 sz3 (hρ _ _ rfl)) rfl rfl rfl (w_n rfl) ?_
          refine TL_q (.int .i64 ((boxN a b 64).x)) (fun _ _ hρ hm => r_load ag3 (hρ _ _ rfl) (hm.at 4 rfl) rfl) rfl rfl rfl (w_n rfl) ?_
          refine TL_q (.bool false) (fun _ _ hρ _ => r_as (r_geq (hρ _ _ rfl) (hρ _ _ rfl)) (bool_as (decide_eq_false hb1))) rfl rfl rfl (w_n rfl) ?_
          refine TL_q (.bool false) (fun _ _ hρ _ => r_move (hρ _ _ rfl)) rfl rfl rfl (w_n rfl) ?_
          refine TL_no rfl rfl (want_n 61 rfl rfl rfl) ?_
          refine TL_no rfl rfl (want_n 61 rfl rfl rfl) ?_
          refine TL_no rfl rfl (want_n 61 rfl rfl rfl) ?_
          refine TL_no rfl rfl (want_n 61 rfl rfl rfl) ?_
          refine TL_q (.bool false) (fun _ _ hρ _ => r_pick_f (hρ _ _ rfl) (hρ _ _ rfl)) rfl rfl rfl (w_n rfl) ?_
          refine TL_q (.bool false) (fun _ _ hρ _ => r_move (hρ _ _ rfl)) rfl rfl rfl (w_n rfl) ?_
          refine TL_no rfl rfl (want_n 67 rfl rfl rfl) ?_
          refine TL_no rfl rfl (want_n 67 rfl rfl rfl) ?_
          refine TL_no rfl rfl (want_n 67 rfl rfl rfl) ?_
          refine TL_no rfl rfl (want_n 67 rfl rfl rfl) ?_
          refine TL_q (.bool false) (fun _ _ hρ _ => r_pick_f (hρ _ _ rfl) (hρ _ _ rfl)) rfl rfl rfl (w_n rfl) ?_
          refine TL_q (.bool false) (fun _ _ hρ _ => r_move (hρ _ _ rfl)) rfl rfl rfl (w_n rfl) ?_
          refine TL_no rfl rfl (want_n 73 rfl rfl rfl) ?_
          refine TL_no rfl rfl (want_n 73 rfl rfl rfl) ?_
          refine TL_no rfl rfl (want_n 73 rfl rfl rfl) ?_
          refine TL_no rfl rfl (want_n 73 rfl rfl rfl) ?_
          refine TL_q (.bool false) (fun _ _ hρ _ => r_pick_f (hρ _ _ rfl) (hρ _ _ rfl)) rfl rfl rfl (w_n rfl) ?_
          refine TL_q (.bool false) (fun _ _ hρ _ => r_assign (hρ _ _ rfl)) rfl rfl rfl (w_n rfl) ?_
          refine TL_seq ?_
          refine T_sub [(2, .pointer (some ⟨B1, 0, none⟩)), (3, .pointer (some ⟨B2, 0, none⟩)), (5, .pointer (some ⟨B4, 0, none⟩)), (7, .pointer (some ⟨B5, 0, none⟩)), (37, .int .i64 ((y : Nat) : Int)), (38, .bool (decide (((y : Nat) : Int) < 8))), (39, .int .i64 ((y : Nat) : Int)), (9, .int .i64 ((y : Nat) : Int)), (40, .int .i64 ((x : Nat) : Int)), (8, .int .i64 0), (41, .bool (decide (((x : Nat) : Int) < 8))), (42, .int .i64 ((x : Nat) : Int)), (10, .int .i64 ((x : Nat) : Int)), (44, .agg (lst C4.cells b)), (45, .int .i64 ((x : Nat) : Int)), (46, .int .i64 ((y : Nat) : Int)), (47, .tuple #[.agg #[.int .u8 ((atC b ((x : Nat) : Int) ((y : Nat) : Int)).r), .int .u8 ((atC b ((x : Nat) : Int) ((y : Nat) : Int)).g), .int .u8 ((atC b ((x : Nat) : Int) ((y : Nat) : Int)).b), .int .u8 ((atC b ((x : Nat) : Int) ((y : Nat) : Int)).a)], .int .i64 0]), (43, .tuple #[.agg #[.int .u8 ((atC b ((x : Nat) : Int) ((y : Nat) : Int)).r), .int .u8 ((atC b ((x : Nat) : Int) ((y : Nat) : Int)).g), .int .u8 ((atC b ((x : Nat) : Int) ((y : Nat) : Int)).b), .int .u8 ((atC b ((x : Nat) : Int) ((y : Nat) : Int)).a)], .int .i64 0]), (48, .agg #[.int .u8 ((atC b ((x : Nat) : Int) ((y : Nat) : Int)).r), .int .u8 ((atC b ((x : Nat) : Int) ((y : Nat) : Int)).g), .int .u8 ((atC b ((x : Nat) : Int) ((y : Nat) : Int)).b), .int .u8 ((atC b ((x : Nat) : Int) ((y : Nat) : Int)).a)]), (49, .int .i64 0), (11, .pointer (some ⟨B6, 0, none⟩)), (12, .int .i64 0), (51, .agg (lst C4.cells a)), (52, .int .i64 ((x : Nat) : Int)), (53, .int .i64 ((y : Nat) : Int)), (54, .tuple #[.agg #[.int .u8 ((atC a ((x : Nat) : Int) ((y : Nat) : Int)).r), .int .u8 ((atC a ((x : Nat) : Int) ((y : Nat) : Int)).g), .int .u8 ((atC a ((x : Nat) : Int) ((y : Nat) : Int)).b), .int .u8 ((atC a ((x : Nat) : Int) ((y : Nat) : Int)).a)], .int .i64 0]), (50, .tuple #[.agg #[.int .u8 ((atC a ((x : Nat) : Int) ((y : Nat) : Int)).r), .int .u8 ((atC a ((x : Nat) : Int) ((y : Nat) : Int)).g), .int .u8 ((atC a ((x : Nat) : Int) ((y : Nat) : Int)).b), .int .u8 ((atC a ((x : Nat) : Int) ((y : Nat) : Int)).a)], .int .i64 0]), (55, .agg #[.int .u8 ((atC a ((x : Nat) : Int) ((y : Nat) : Int)).r), .int .u8 ((atC a ((x : Nat) : Int) ((y : Nat) : Int)).g), .int .u8 ((atC a ((x : Nat) : Int) ((y : Nat) : Int)).b), .int .u8 ((atC a ((x : Nat) : Int) ((y : Nat) : Int)).a)]), (56, .int .i64 0), (13, .pointer (some ⟨B7, 0, none⟩)), (14, .int .i64 0), (57, .int .i64 ((x : Nat) : Int)), (58, .pointer (some ⟨B4, 0, none⟩)), (59, .int .i64 ((boxN a b 64).x)), (60, .bool false), (61, .bool false), (62, undef), (63, undef), (64, undef), (65, undef), (66, .bool false), (67, .bool false), (68, undef), (69, undef), (70, undef), (71, undef), (72, .bool false), (73, .bool false), (74, undef), (75, undef), (76, undef), (77, undef), (78, .bool false), (15, .bool false)] [(1, .blk B1 (.cells (lst C4.cells a) 25)), (2, .blk B2 (.cells (lst C4.cells b) 25)), (4, .blk B4 (.cells #[.int .i64 ((boxN a b 64).x), .int .i64 ((boxN a b 64).y), .int .i64 ((boxN a b 64).x2), .int .i64 ((boxN a b 64).y2)] 33)), (5, .blk B5 (.cells (lst C4.cells (gridN (putG (boxN a b 64) b) a (8 * y + x))) 25)), (6, .blk B6 (.cells #[.int .u8 ((atC b ((x : Nat) : Int) ((y : Nat) : Int)).r), .int .u8 ((atC b ((x : Nat) : Int) ((y : Nat) : Int)).g), .int .u8 ((atC b ((x : Nat) : Int) ((y : Nat) : Int)).b), .int .u8 ((atC b ((x : Nat) : Int) ((y : Nat) : Int)).a)] 23)), (7, .blk B7 (.cells #[.int .u8 ((atC a ((x : Nat) : Int) ((y : Nat) : Int)).r), .int .u8 ((atC a ((x : Nat) : Int) ((y : Nat) : Int)).g), .int .u8 ((atC a ((x : Nat) : Int) ((y : Nat) : Int)).b), .int .u8 ((atC a ((x : Nat) : Int) ((y : Nat) : Int)).a)] 23))] (sub_cons rfl (sub_cons rfl (sub_cons rfl (sub_cons rfl (sub_cons rfl (sub_cons rfl (sub_cons rfl (sub_cons rfl (sub_cons rfl (sub_cons rfl (sub_cons rfl (sub_cons rfl (sub_cons rfl (sub_cons rfl (sub_cons rfl (sub_cons rfl (sub_cons rfl (sub_cons rfl (sub_cons rfl (sub_cons rfl (sub_cons rfl (sub_cons rfl (sub_cons rfl (sub_cons rfl (sub_cons rfl (sub_cons rfl (sub_cons rfl (sub_cons rfl (sub_cons rfl (sub_cons rfl (sub_cons rfl (sub_cons rfl (sub_cons rfl (sub_cons rfl (sub_cons rfl (sub_cons rfl (sub_cons rfl (sub_cons rfl (sub_cons rfl (sub_cons rfl (sub_cons rfl (sub_cons rfl (sub_cons rfl (sub_cons rfl (sub_cons rfl (sub_cons rfl (sub_cons rfl (sub_cons rfl (sub_cons rfl (sub_cons rfl (sub_cons rfl (sub_cons rfl (sub_cons rfl (sub_cons rfl sub_nil)))))))))))))))))))))))))))))))))))))))))))))))))))))) (sub_cons rfl (sub_cons rfl (sub_cons rfl (sub_cons rfl (sub_cons rfl (sub_cons rfl sub_nil)))))) ?_
          refine T_seq ?_
          refine T_seq (T_region ?_)
          refine TL_q (.int .i64 0) (fun _ _ hρ _ => r_move (hρ _ _ rfl)) rfl rfl rfl (w_n rfl) ?_
          refine TL_q (.bool false) (fun _ _ hρ _ => r_as (r_neq (hρ _ _ rfl) (hρ _ _ rfl)) (by rfl)) rfl rfl rfl (w_n rfl) ?_
          refine TL_q (.bool false) (fun _ _ hρ _ => r_move (hρ _ _ rfl)) rfl rfl rfl (w_n rfl) ?_
          refine TL_q (.int .i64 0) (fun _ _ hρ _ => r_move (hρ _ _ rfl)) rfl rfl rfl (want_y 81 rfl rfl rfl) ?_
          refine TL_q (.bool false) (fun _ _ hρ _ => r_as (r_neq (hρ _ _ rfl) (hρ _ _ rfl)) (by rfl)) rfl rfl rfl (want_y 81 rfl rfl rfl) ?_
          refine TL_q (.bool false) (fun _ _ hρ _ => r_pick_f (hρ _ _ rfl) (hρ _ _ rfl)) rfl rfl rfl (w_n rfl) ?_
          refine TL_seq ?_
          refine T_cond_f rfl ?_
          refine T_skip' ?_
          refine p_seq ?_
          refine T_seq ?_
          have hout : ¬ inB (boxN a b 64) x y = true := fun h => by have := of_decide_eq_true h; omega
          have hsame : (atC b ((x : Nat) : Int) ((y : Nat) : Int)) = (atC a ((x : Nat) : Int) ((y : Nat) : Int)) := by rw [atC_nat _ (by omega) (by omega), atC_nat _ (by omega) (by omega)]; exact out_same (by omega) (by omega) hout
          refine T_seq (T_region ?_)
          refine TL_q (.bool false) (fun _ _ hρ _ => r_move (hρ _ _ rfl)) rfl rfl rfl (w_n rfl) ?_
          refine TL_q (.bool true) (fun _ _ hρ _ => r_not (b := false) (hρ _ _ rfl)) rfl rfl rfl (w_n rfl) ?_
          refine TL_q (.bool true) (fun _ _ hρ _ => r_move (hρ _ _ rfl)) rfl rfl rfl (w_n rfl) ?_
          refine TL_q (.agg #[.int .u8 ((atC b ((x : Nat) : Int) ((y : Nat) : Int)).r), .int .u8 ((atC b ((x : Nat) : Int) ((y : Nat) : Int)).g), .int .u8 ((atC b ((x : Nat) : Int) ((y : Nat) : Int)).b), .int .u8 ((atC b ((x : Nat) : Int) ((y : Nat) : Int)).a)]) (fun _ _ hρ hm => r_loadA ag23 sz23 (hρ _ _ rfl) (hm.at 6 rfl) rfl rfl) rfl rfl rfl (want_y 87 rfl rfl rfl) ?_
          refine TL_q (.agg #[.int .u8 ((atC a ((x : Nat) : Int) ((y : Nat) : Int)).r), .int .u8 ((atC a ((x : Nat) : Int) ((y : Nat) : Int)).g), .int .u8 ((atC a ((x : Nat) : Int) ((y : Nat) : Int)).b), .int .u8 ((atC a ((x : Nat) : Int) ((y : Nat) : Int)).a)]) (fun _ _ hρ hm => r_loadA ag23 sz23 (hρ _ _ rfl) (hm.at 7 rfl) rfl rfl) rfl rfl rfl (want_y 87 rfl rfl rfl) ?_
          refine TL_q (.bool false) (fun _ _ hρ _ => r_as (r_as (r_neqA (by kernel_rfl) (hρ _ _ rfl) (hρ _ _ rfl) (run_equalI (l := [(0, .u8), (1, .u8), (2, .u8), (3, .u8)]) (by kernel_rfl) rfl rfl)) (bool_as (congrArg (fun b => !b) (eqC (atC b ((x : Nat) : Int) ((y : Nat) : Int)) (atC a ((x : Nat) : Int) ((y : Nat) : Int)))))) (bool_as (by rw [decide_eq_true hsame]; rfl))) rfl rfl rfl (want_y 87 rfl rfl rfl) ?_
          refine TL_q (.bool false) (fun _ _ hρ _ => r_pick_t (hρ _ _ rfl) (hρ _ _ rfl)) rfl rfl rfl (w_n rfl) ?_
          refine TL_seq ?_
          refine T_cond_f rfl ?_
          refine T_skip' ?_
          refine p_seq ?_
          refine T_seq (T_region ?_)
          refine TL_q (.bool false) (fun _ _ hρ _ => r_move (hρ _ _ rfl)) rfl rfl rfl (w_n rfl) ?_
          refine TL_seq ?_
          refine T_cond_f rfl ?_
          refine T_skip' ?_
          refine p_blk_n ?_
          refine p_seq ?_
          refine T_region ?_
          refine TL_q (.int .i64 ((x + 1 : Nat) : Int)) (fun _ _ hρ _ => r_as (r_add (hρ _ _ rfl) (hρ _ _ rfl)) (int_as ((wrap64 (by omega) (by omega)).trans (by omega)))) rfl rfl rfl (w_n rfl) ?_
          refine TL_q (.int .i64 ((x + 1 : Nat) : Int)) (fun _ _ hρ _ => r_move (hρ _ _ rfl)) rfl rfl rfl (w_n rfl) ?_
          refine TL_nil ?_
          rw [show gridN (putG (boxN a b 64) b) a (8 * y + x) = gridN (putG (boxN a b 64) b) a (8 * y + x + 1) from box_put_f (by omega) hout]
          exact p_at (x + 1) ⟨by omega, by omega⟩ (sub_cons rfl (sub_cons rfl (sub_cons rfl (sub_cons rfl (sub_cons rfl (sub_cons rfl (sub_cons rfl (sub_cons rfl (sub_cons rfl (sub_cons rfl sub_nil)))))))))) (sub_cons rfl (sub_cons rfl (sub_cons rfl (sub_cons rfl sub_nil))))
      · replace h2 := of_decide_eq_false h2
        refine T_exit' ?_
        refine p_then_x ?_
        refine p_then_x ?_
        refine p_blk_x ?_
        refine p_blk_n ?_
        refine p_seq ?_
        have hx8 : x = 8 := by omega
        subst hx8
        refine T_region ?_
        refine TL_q (.int .i64 ((y + 1 : Nat) : Int)) (fun _ _ hρ _ => r_as (r_add (hρ _ _ rfl) (hρ _ _ rfl)) (int_as ((wrap64 (by omega) (by omega)).trans (by omega)))) rfl rfl rfl (w_n rfl) ?_
        refine TL_q (.int .i64 ((y + 1 : Nat) : Int)) (fun _ _ hρ _ => r_move (hρ _ _ rfl)) rfl rfl rfl (w_n rfl) ?_
        refine TL_nil ?_
        exact p_at (y + 1) ⟨by omega, by omega⟩ (sub_cons rfl (sub_cons rfl (sub_cons rfl (sub_cons rfl (sub_cons rfl (sub_cons rfl sub_nil)))))) (sub_cons rfl (sub_cons rfl (sub_cons rfl (sub_cons rfl sub_nil))))
    · replace h1 := of_decide_eq_false h1
      refine T_exit' ?_
      refine p_then_x ?_
      refine p_then_x ?_
      refine p_blk_x ?_
      refine p_seq ?_
      have hy8 : y = 8 := by omega
      rw [show gridN (putG (boxN a b 64) b) a (8 * y) = b from by subst hy8; exact put_all ha hb]
      refine T_seq (T_region ?_)
      refine TL_q (.agg (lst C4.cells b)) (fun _ _ hρ hm => r_loadW ag25 sz25 (hρ _ _ rfl) (hm.at 2 rfl) (tsz hb)) rfl rfl rfl (w_n rfl) ?_
      refine TL_q (.agg (lst C4.cells a)) (fun _ _ hρ hm => r_loadW ag25 sz25 (hρ _ _ rfl) (hm.at 1 rfl) (tsz ha)) rfl rfl rfl (w_n rfl) ?_
      refine TL_call (.tuple #[.agg #[.int .i64 ((boxN a b 64).x), .int .i64 ((boxN a b 64).y), .int .i64 ((boxN a b 64).x2), .int .i64 ((boxN a b 64).y2)], .bool true]) (fun _ _ hρ _ => r_call (args := [.agg (lst C4.cells b), .agg (lst C4.cells a)]) (enters_of Try.func17 (by kernel_rfl) rfl) (hρ _ _ rfl) ((cons2 (hρ _ _ rfl) (cons2 (hρ _ _ rfl) rfl))) rfl) (fun w _ => (box_c b a w hb ha).mono fun _ _ h => ⟨h.1.trans (congrArg Ending.returned (by rw [show boxE b a = boxN a b 64 from (if_neg (fun e => hAB e.symm)).trans (box_sym b a 64), decide_eq_false (fun e => hAB e.symm)]; rfl)), h.2⟩) rfl rfl rfl (w_n rfl) ?_
      refine TL_q (.tuple #[.agg #[.int .i64 ((boxN a b 64).x), .int .i64 ((boxN a b 64).y), .int .i64 ((boxN a b 64).x2), .int .i64 ((boxN a b 64).y2)], .bool true]) (fun _ _ hρ _ => r_move (hρ _ _ rfl)) rfl rfl rfl (w_n rfl) ?_
      refine TL_q (.agg #[.int .i64 ((boxN a b 64).x), .int .i64 ((boxN a b 64).y), .int .i64 ((boxN a b 64).x2), .int .i64 ((boxN a b 64).y2)]) (fun _ _ hρ _ => r_extract (hρ _ _ rfl) rfl) rfl rfl rfl (w_n rfl) ?_
      refine TL_q (.bool true) (fun _ _ hρ _ => r_extract (hρ _ _ rfl) rfl) rfl rfl rfl (w_n rfl) ?_
      refine TL_new 9 (.cells #[.int .i64 0, .int .i64 0, .int .i64 0, .int .i64 0] 33) (fun B => .pointer (some ⟨B, 0, none⟩)) (fun _ _ _ _ => r_alloc (v := .agg #[.int .i64 0, .int .i64 0, .int .i64 0, .int .i64 0]) (by kernel_rfl) rfl) rfl rfl rfl (w_n rfl) ?_
      intro B9
      refine TL_store 9 (.cells #[.int .i64 ((boxN a b 64).x), .int .i64 ((boxN a b 64).y), .int .i64 ((boxN a b 64).x2), .int .i64 ((boxN a b 64).y2)] 33) rfl (fun _ _ hρ hm => r_store sz33 (hρ _ _ rfl) (hρ _ _ rfl) (hm.at 9 rfl) rfl rfl rfl rfl) rfl rfl (w_n rfl) ?_
      refine TL_q (.bool true) (fun _ _ hρ _ => r_assign (hρ _ _ rfl)) rfl rfl rfl (w_n rfl) ?_
      refine TL_seq ?_
      refine T_seq (T_region ?_)
      refine TL_q (.int .i64 0) (fun _ _ hρ _ => r_move (hρ _ _ rfl)) rfl rfl rfl (w_n rfl) ?_
      refine TL_q (.bool true) (fun _ _ hρ _ => r_as (r_eql (hρ _ _ rfl) (hρ _ _ rfl)) (by rfl)) rfl rfl rfl (w_n rfl) ?_
      refine TL_q (.bool true) (fun _ _ hρ _ => r_move (hρ _ _ rfl)) rfl rfl rfl (w_n rfl) ?_
      refine TL_q (.agg (lst C4.cells b)) (fun _ _ hρ hm => r_loadW ag25 sz25 (hρ _ _ rfl) (hm.at 5 rfl) (tsz hb)) rfl rfl rfl (want_y 117 rfl rfl rfl) ?_
      refine TL_q (.agg (lst C4.cells b)) (fun _ _ hρ hm => r_loadW ag25 sz25 (hρ _ _ rfl) (hm.at 2 rfl) (tsz hb)) rfl rfl rfl (want_y 117 rfl rfl rfl) ?_
      refine TL_q (.bool true) (fun _ w hρ _ => r_as (r_eqlA (by kernel_rfl) (hρ _ _ rfl) (hρ _ _ rfl) (eq_til hb hb w)) (bool_as (by rw [decide_eq_true rfl]))) rfl rfl rfl (want_y 117 rfl rfl rfl) ?_
      refine TL_q (.bool true) (fun _ _ hρ _ => r_pick_t (hρ _ _ rfl) (hρ _ _ rfl)) rfl rfl rfl (w_n rfl) ?_
      refine TL_q (.bool true) (fun _ _ hρ _ => r_move (hρ _ _ rfl)) rfl rfl rfl (w_n rfl) ?_
      refine TL_q (.bool true) (fun _ _ hρ _ => r_move (hρ _ _ rfl)) rfl rfl rfl (want_y 122 rfl rfl rfl) ?_
      refine TL_q (.bool true) (fun _ _ hρ _ => r_pick_t (hρ _ _ rfl) (hρ _ _ rfl)) rfl rfl rfl (w_n rfl) ?_
      refine TL_q (.bool true) (fun _ _ hρ _ => r_move (hρ _ _ rfl)) rfl rfl rfl (w_n rfl) ?_
      refine TL_q (.agg #[.int .i64 ((boxN a b 64).x), .int .i64 ((boxN a b 64).y), .int .i64 ((boxN a b 64).x2), .int .i64 ((boxN a b 64).y2)]) (fun _ _ hρ hm => r_loadA ag33 sz33 (hρ _ _ rfl) (hm.at 9 rfl) rfl rfl) rfl rfl rfl (want_y 125 rfl rfl rfl) ?_
      refine TL_q (.agg #[.int .i64 ((boxN a b 64).x), .int .i64 ((boxN a b 64).y), .int .i64 ((boxN a b 64).x2), .int .i64 ((boxN a b 64).y2)]) (fun _ _ hρ hm => r_loadA ag33 sz33 (hρ _ _ rfl) (hm.at 4 rfl) rfl rfl) rfl rfl rfl (want_y 125 rfl rfl rfl) ?_
      refine TL_q (.bool true) (fun _ _ hρ _ => r_as (r_eqlA (by kernel_rfl) (hρ _ _ rfl) (hρ _ _ rfl) (run_equalI (l := [(0, .i64), (1, .i64), (2, .i64), (3, .i64)]) (by kernel_rfl) rfl rfl)) (bool_as (by simp only [eqI_self]; try rfl))) rfl rfl rfl (want_y 125 rfl rfl rfl) ?_
      refine TL_q (.bool true) (fun _ _ hρ _ => r_pick_t (hρ _ _ rfl) (hρ _ _ rfl)) rfl rfl rfl (w_n rfl) ?_
      refine TL_q (.bool true) (fun _ _ hρ _ => r_assign (hρ _ _ rfl)) rfl rfl rfl (w_n rfl) ?_
      refine TL_seq ?_
      refine T_ret' ?_
      refine ret_of rfl (.bool true) (fun tmps w hk hm => res1 rfl (res_tmp (hk 4 _ rfl))) (fun w hm => ?_)
      exact ⟨rfl, hm.ext⟩
end Go.Proofs.Ytmlkifojbjbpcaa
