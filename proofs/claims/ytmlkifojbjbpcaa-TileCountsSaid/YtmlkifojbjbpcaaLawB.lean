/- tile: the walk of TileCounts. Printed by a program of this seat's prover. -/
import Derived.Test.YtmlkifojbjbpcaaLawA
import Derived.Test.YtmlkifojbjbpcaaApp
namespace Go.Proofs.Ytmlkifojbjbpcaa
open Go Go.RowKit
set_option maxRecDepth 10000
set_option maxHeartbeats 4000000 in
theorem counts_any (l m : List C4) (cs : List C4) (a : Option Addr) (cap : Nat) (w : World) (hl : l.length = 64) (hm1 : m.length = 64) (hv : SliceAt w a cap 4 C4.cells cs) (hcap : cap ≤ Go.maxLen) :
    Calls Try.prog 3 #[til l, til m, .slice a cs.length cap] w fun e w' => e = .returned (.bool true) ∧ Below w.heap.size w w' := by
  have hcl := cols_le l 64
  have hvl := hv.1
  unfold Go.maxLen at hcap
  refine calls_of_T (l := [.agg (lst C4.cells l), .agg (lst C4.cells m), .slice a cs.length cap]) 75 Try.func3 rfl rfl rfl ?_
  show T _ _ _ [(0, .agg (lst C4.cells l)), (1, .agg (lst C4.cells m)), (2, .slice a cs.length cap)] []
  refine T_seq (T_region ?_)
  refine TL_new 1 (.cells (lst C4.cells l) 25) (fun B => .pointer (some ⟨B, 0, none⟩)) (fun _ _ hρ _ => r_box (hρ _ _ rfl) rfl) rfl rfl rfl (w_n rfl) ?_
  intro B1
  refine TL_new 2 (.cells (lst C4.cells m) 25) (fun B => .pointer (some ⟨B, 0, none⟩)) (fun _ _ hρ _ => r_box (hρ _ _ rfl) rfl) rfl rfl rfl (w_n rfl) ?_
  intro B2
  refine TL_q (.bool false) (fun _ _ hρ _ => r_assign (hρ _ _ rfl)) rfl rfl rfl (w_n rfl) ?_
  refine TL_seq ?_
  refine T_seq ?_
  refine T_seq (T_region ?_)
  refine TL_call (.bool true) (fun _ _ hρ _ => r_call (args := []) (enters_of Try.func9 (by kernel_rfl) rfl) (hρ _ _ rfl) (by rfl) rfl) (fun w _ => wakes_any w) rfl rfl rfl (w_n rfl) ?_
  refine TL_q (.bool false) (fun _ _ hρ _ => r_not (b := true) (hρ _ _ rfl)) rfl rfl rfl (w_n rfl) ?_
  refine TL_seq ?_
  refine T_cond_f rfl ?_
  refine T_skip' ?_
  refine p_seq ?_
  refine T_seq ?_
  refine T_seq (T_draw (V := [(0, .agg (lst C4.cells l)), (2, .agg (lst C4.cells l))]) [0, 1, 0, 7, 15, 31, 63, 127, 255, 127, 1023, 2047, 4095] [[(3, none)], [(15, some 0)], [(3, none)], [(17, some 2)], [(16, some 1), (18, some 3)], [(19, some 4)], [(20, some 5)], [(3, none)], [(22, some 7)], [(3, none)], [(24, some 9)], [(23, some 8), (25, some 10)], [(26, some 11), (21, some 6)]] 1306 mixed (by kernel_rfl) ?_)
  refine G_step [0, 2] 1 [] (by kernel_rfl) (allM (all_cons (q_run (.agg (lst C4.cells l)) rfl rfl (wv_n rfl) rfl (fun _ _ hρ hm => r_loadW ag25 sz25 (hρ _ _ rfl) (hm.at 1 rfl) (tsz hl))) (all_cons (q_run (.agg (lst C4.cells l)) rfl rfl (wv_n rfl) rfl (fun _ _ hρ hm => r_loadW ag25 sz25 (hρ _ _ rfl) (hm.at 1 rfl) (tsz hl))) all_nil))) (allM (all_cons ?_ all_nil))
  refine LOb_callN (fun (_ : Option Addr × Nat) => True) (fun (a5, cap5) => .slice a5 ((colsN l 64).length) cap5) (fun (a5, cap5) => [(3, .row (.slice a5 ((colsN l 64).length) cap5) 23 4 ((colsN l 64).length) ((colsN l 64).flatMap C4.cells))]) (fun (a5, cap5) => []) rfl (wv_n rfl) rfl rfl (fun _ _ hρ _ => r_call (args := [.agg (lst C4.cells l)]) (enters_of Try.func11 (by kernel_rfl) rfl) (hρ _ _ rfl) ((cons2 (hρ _ _ rfl) rfl)) rfl) (fun w _ => (colors_c l w hl).mono fun e w' ⟨a', cap', he, hb, hr⟩ => ⟨(a', cap'), trivial, he, hb, newOk1 3 hr⟩) (fun (a5, cap5) => by kernel_rfl) ?_
  rintro ⟨a5, cap5⟩ -
  refine G_step [2] 3 [] (by kernel_rfl) (allM (all_cons (q_run (.agg (lst C4.cells l)) rfl rfl (wv_n rfl) rfl (fun _ _ hρ hm => r_loadW ag25 sz25 (hρ _ _ rfl) (hm.at 1 rfl) (tsz hl))) all_nil)) (allM (all_cons ?_ all_nil))
  refine LOb_callN (fun (_ : Option Addr × Nat) => True) (fun (a6, cap6) => .slice a6 ((colsN l 64).length) cap6) (fun (a6, cap6) => [(4, .row (.slice a6 ((colsN l 64).length) cap6) 23 4 ((colsN l 64).length) ((colsN l 64).flatMap C4.cells))]) (fun (a6, cap6) => []) rfl (wv_n rfl) rfl rfl (fun _ _ hρ _ => r_call (args := [.agg (lst C4.cells l)]) (enters_of Try.func12 (by kernel_rfl) rfl) (hρ _ _ rfl) ((cons2 (hρ _ _ rfl) rfl)) rfl) (fun w _ => (colors_ref l w hl).mono fun e w' ⟨a', cap', he, hb, hr⟩ => ⟨(a', cap'), trivial, he, hb, newOk1 4 hr⟩) (fun (a6, cap6) => by kernel_rfl) ?_
  rintro ⟨a6, cap6⟩ -
  refine G_step [] 4 [] (by kernel_rfl) (allM all_nil) (allM (all_cons ?_ all_nil))
  refine LOb_call (.bool true) [(5, .bool false), (6, .bool false), (7, .agg (lst C4.cells l)), (9, .agg (lst C4.cells l))] rfl (wv_n rfl) rfl rfl (fun _ _ hρ _ => r_call (args := [.slice a5 ((colsN l 64).length) cap5, .slice a6 ((colsN l 64).length) cap6]) (enters_of Try.func10 (by kernel_rfl) rfl) (hρ _ _ rfl) ((cons2 (hρ _ _ rfl) (cons2 (hρ _ _ rfl) rfl))) rfl) (fun w hm => (equal_col (colsN l 64) (colsN l 64) a5 a6 cap5 cap6 w ((SliceAt.own C4.cells_len (hm.row 3 rfl) rfl rfl)) ((SliceAt.own C4.cells_len (hm.row 4 rfl) rfl rfl)) (by omega) (by omega)).mono fun _ _ h => ⟨h.1.trans (congrArg Ending.returned (bool_as (decide_eq_true (rfl)))), h.2⟩) (by kernel_rfl) ?_
  refine G_step [5, 6, 7, 9] 8 [] (by kernel_rfl) (allM (all_cons (q_run (.bool false) rfl rfl (wv_n rfl) rfl (fun _ _ hρ _ => r_not (b := true) (hρ _ _ rfl))) (all_cons (q_run (.bool false) rfl rfl (wv_n rfl) rfl (fun _ _ hρ _ => r_move (hρ _ _ rfl))) (all_cons (q_run (.agg (lst C4.cells l)) rfl rfl (wv_y rfl rfl) rfl (fun _ _ hρ hm => r_loadW ag25 sz25 (hρ _ _ rfl) (hm.at 1 rfl) (tsz hl))) (all_cons (q_run (.agg (lst C4.cells l)) rfl rfl (wv_y rfl rfl) rfl (fun _ _ hρ hm => r_loadW ag25 sz25 (hρ _ _ rfl) (hm.at 1 rfl) (tsz hl))) all_nil))))) (allM (all_cons ?_ all_nil))
  refine LOb_call (.int .i64 ((runN l 63 : Nat) : Int)) [] rfl (wv_y rfl rfl) rfl rfl (fun _ _ hρ _ => r_call (args := [.agg (lst C4.cells l)]) (enters_of Try.func13 (by kernel_rfl) rfl) (hρ _ _ rfl) ((cons2 (hρ _ _ rfl) rfl)) rfl) (fun w _ => runs_c l w hl) (by kernel_rfl) ?_
  refine G_step [9] 10 [] (by kernel_rfl) (allM (all_cons (q_run (.agg (lst C4.cells l)) rfl rfl (wv_y rfl rfl) rfl (fun _ _ hρ hm => r_loadW ag25 sz25 (hρ _ _ rfl) (hm.at 1 rfl) (tsz hl))) all_nil)) (allM (all_cons ?_ all_nil))
  refine LOb_call (.int .i64 ((runN l 63 : Nat) : Int)) [(11, .bool false), (12, .bool false)] rfl (wv_y rfl rfl) rfl rfl (fun _ _ hρ _ => r_call (args := [.agg (lst C4.cells l)]) (enters_of Try.func14 (by kernel_rfl) rfl) (hρ _ _ rfl) ((cons2 (hρ _ _ rfl) rfl)) rfl) (fun w _ => runs_ref l w hl) (by kernel_rfl) ?_
  refine G_last [11, 12] [(2, .slice a cs.length cap), (3, .pointer (some ⟨B1, 0, none⟩)), (4, .pointer (some ⟨B2, 0, none⟩)), (6, .bool false), (27, .bool false)] (by kernel_rfl) (allM (all_cons (q_run (.bool false) rfl rfl (wv_y rfl rfl) rfl (fun _ _ hρ _ => r_as (r_neq (hρ _ _ rfl) (hρ _ _ rfl)) (bool_as (by simp)))) (all_cons (q_run (.bool false) rfl rfl (wv_n rfl) rfl (fun _ _ hρ _ => r_pick_f (hρ _ _ rfl) (hρ _ _ rfl))) all_nil))) (end_old rfl rfl (end_old rfl rfl (end_old rfl rfl (end_old rfl rfl (end_new 12 rfl rfl end_nil))))) ?_
  refine T_cond_f rfl ?_
  refine T_skip' ?_
  refine p_seq ?_
  refine T_seq ?_
  obtain ⟨l7, hl7, hn7⟩ : ∃ l, l = cs.take (min cs.length 6) ∧ l.length = min cs.length 6 := ⟨_, rfl, by rw [List.length_take]; omega⟩
  have hs7 := SliceAt.front hv (n := min cs.length 6) (m := min cs.length 6) (by omega) (by omega) (by omega)
  rw [← hl7] at hs7
  refine T_seq (T_draw (V := [(0, .slice a cs.length cap), (1, .slice a cs.length cap), (2, .int .i64 ((cs.length : Nat) : Int)), (3, .int .i64 ((min cs.length 6 : Nat) : Int)), (4, .slice a cs.length cap), (5, .int .i64 ((cs.length : Nat) : Int)), (6, .int .i64 ((min cs.length 6 : Nat) : Int)), (7, .slice a l7.length (min cs.length 6)), (8, .pointer (some ⟨B1, 0, none⟩)), (9, .agg #[.int .u8 ((get l 0).r), .int .u8 ((get l 0).g), .int .u8 ((get l 0).b), .int .u8 ((get l 0).a)]), (10, .pointer (some ⟨B2, 36, none⟩)), (11, .agg #[.int .u8 ((get m 9).r), .int .u8 ((get m 9).g), .int .u8 ((get m 9).b), .int .u8 ((get m 9).a)]), (15, .int .i64 0)]) [0, 0, 2, 6, 0, 16, 48, 127, 0, 256, 0, 1024, 3840, 8191, 16383, 0] [[(2, none)], [(2, none)], [(29, some 1)], [(30, some 2)], [(2, none)], [(32, some 4)], [(33, some 5)], [(28, some 0), (31, some 3), (34, some 6)], [(3, none)], [(36, some 8)], [(4, none)], [(38, some 10)], [(37, some 9), (39, some 11)], [(35, some 7), (40, some 12)], [(41, some 13)], []] 12288 mixed (by kernel_rfl) ?_)
  refine G_step [0, 1, 2, 3, 4, 5, 6, 7, 8, 9, 10, 11, 15] 12 [] (by kernel_rfl) (allM (all_cons (q_run (.slice a cs.length cap) rfl rfl (wv_n rfl) rfl (fun _ _ hρ _ => r_move (hρ _ _ rfl))) (all_cons (q_run (.slice a cs.length cap) rfl rfl (wv_n rfl) rfl (fun _ _ hρ _ => r_move (hρ _ _ rfl))) (all_cons (q_run (.int .i64 ((cs.length : Nat) : Int)) rfl rfl (wv_n rfl) rfl (fun _ _ hρ _ => r_len sl26 (hρ _ _ rfl))) (all_cons (q_run (.int .i64 ((min cs.length 6 : Nat) : Int)) rfl rfl (wv_n rfl) rfl (fun _ _ hρ _ => r_as (r_min (hρ _ _ rfl) (hρ _ _ rfl)) (int_as (minI _ 6)))) (all_cons (q_run (.slice a cs.length cap) rfl rfl (wv_n rfl) rfl (fun _ _ hρ _ => r_move (hρ _ _ rfl))) (all_cons (q_run (.int .i64 ((cs.length : Nat) : Int)) rfl rfl (wv_n rfl) rfl (fun _ _ hρ _ => r_len sl26 (hρ _ _ rfl))) (all_cons (q_run (.int .i64 ((min cs.length 6 : Nat) : Int)) rfl rfl (wv_n rfl) rfl (fun _ _ hρ _ => r_as (r_min (hρ _ _ rfl) (hρ _ _ rfl)) (int_as (minI _ 6)))) (all_cons (q_run (.slice a l7.length (min cs.length 6)) rfl rfl (wv_n rfl) rfl (fun ρ _ hρ _ => r_as (r_sliceO sl26 sz23 (hρ _ _ rfl) (bd_some (n := min cs.length 6) (hρ _ _ rfl)) (bd_some (n := min cs.length 6) (hρ _ _ rfl)) (bd_none ρ _) (by simp) (by omega) (by omega) (by omega)) (by rw [hn7]; exact slo_zero _ _ _ _))) (all_cons (q_run (.pointer (some ⟨B1, 0, none⟩)) rfl rfl (wv_n rfl) rfl (fun _ _ hρ _ => r_indexAddrA (i := 0) ar25 sz23 (hρ _ _ rfl) (hρ _ _ rfl) (by decide))) (all_cons (q_run (.agg #[.int .u8 ((get l 0).r), .int .u8 ((get l 0).g), .int .u8 ((get l 0).b), .int .u8 ((get l 0).a)]) rfl rfl (wv_n rfl) rfl (fun _ _ hρ hm => r_loadRow (f := C4.cells) (u := (get l 0)) (off := 0) (i := 0) ag23 sz23 (hρ _ _ rfl) (hm.at 1 rfl) (row_lst C4.cells_len _) (get_some hl (by omega)))) (all_cons (q_run (.pointer (some ⟨B2, 36, none⟩)) rfl rfl (wv_n rfl) rfl (fun _ _ hρ _ => r_indexAddrA (i := 9) ar25 sz23 (hρ _ _ rfl) (hρ _ _ rfl) (by decide))) (all_cons (q_run (.agg #[.int .u8 ((get m 9).r), .int .u8 ((get m 9).g), .int .u8 ((get m 9).b), .int .u8 ((get m 9).a)]) rfl rfl (wv_n rfl) rfl (fun _ _ hρ hm => r_loadRow (f := C4.cells) (u := (get m 9)) (off := 0) (i := 9) ag23 sz23 (hρ _ _ rfl) (hm.at 2 rfl) (row_lst C4.cells_len _) (get_some hm1 (by omega)))) (all_cons (q_run (.int .i64 0) rfl rfl (wv_n rfl) rfl (fun _ _ hρ _ => r_move (hρ _ _ rfl))) all_nil)))))))))))))) (allM (all_cons ?_ all_nil))
  refine LOb_new 5 (.cells #[.int .u8 ((get l 0).r), .int .u8 ((get l 0).g), .int .u8 ((get l 0).b), .int .u8 ((get l 0).a), .int .u8 ((get m 9).r), .int .u8 ((get m 9).g), .int .u8 ((get m 9).b), .int .u8 ((get m 9).a)] 23) (fun B => .slice (some ⟨B, 0, none⟩) 2 2) (fun B => []) rfl (wv_n rfl) rfl rfl (fun _ _ hρ _ => r_buildSlice (vs := [(0, .agg #[.int .u8 ((get l 0).r), .int .u8 ((get l 0).g), .int .u8 ((get l 0).b), .int .u8 ((get l 0).a)]), (1, .agg #[.int .u8 ((get m 9).r), .int .u8 ((get m 9).g), .int .u8 ((get m 9).b), .int .u8 ((get m 9).a)])]) (by kernel_rfl) (cons2 (pair2 (hρ _ _ rfl)) (cons2 (pair2 (hρ _ _ rfl)) rfl))) (fun B => by kernel_rfl) ?_
  intro B8
  refine G_step [0, 1, 2, 3, 4, 5, 6, 7, 15] 13 [] (by kernel_rfl) (allM (all_cons (q_run (.slice a cs.length cap) rfl rfl (wv_n rfl) rfl (fun _ _ hρ _ => r_move (hρ _ _ rfl))) (all_cons (q_run (.slice a cs.length cap) rfl rfl (wv_n rfl) rfl (fun _ _ hρ _ => r_move (hρ _ _ rfl))) (all_cons (q_run (.int .i64 ((cs.length : Nat) : Int)) rfl rfl (wv_n rfl) rfl (fun _ _ hρ _ => r_len sl26 (hρ _ _ rfl))) (all_cons (q_run (.int .i64 ((min cs.length 6 : Nat) : Int)) rfl rfl (wv_n rfl) rfl (fun _ _ hρ _ => r_as (r_min (hρ _ _ rfl) (hρ _ _ rfl)) (int_as (minI _ 6)))) (all_cons (q_run (.slice a cs.length cap) rfl rfl (wv_n rfl) rfl (fun _ _ hρ _ => r_move (hρ _ _ rfl))) (all_cons (q_run (.int .i64 ((cs.length : Nat) : Int)) rfl rfl (wv_n rfl) rfl (fun _ _ hρ _ => r_len sl26 (hρ _ _ rfl))) (all_cons (q_run (.int .i64 ((min cs.length 6 : Nat) : Int)) rfl rfl (wv_n rfl) rfl (fun _ _ hρ _ => r_as (r_min (hρ _ _ rfl) (hρ _ _ rfl)) (int_as (minI _ 6)))) (all_cons (q_run (.slice a l7.length (min cs.length 6)) rfl rfl (wv_n rfl) rfl (fun ρ _ hρ _ => r_as (r_sliceO sl26 sz23 (hρ _ _ rfl) (bd_some (n := min cs.length 6) (hρ _ _ rfl)) (bd_some (n := min cs.length 6) (hρ _ _ rfl)) (bd_none ρ _) (by simp) (by omega) (by omega) (by omega)) (by rw [hn7]; exact slo_zero _ _ _ _))) (all_cons (q_run (.int .i64 0) rfl rfl (wv_n rfl) rfl (fun _ _ hρ _ => r_move (hρ _ _ rfl))) all_nil)))))))))) (allM (all_cons ?_ all_nil))
  refine LOb_appendF (n := l7.length) (m := 2) (xs := (l7.flatMap C4.cells)) (news := [.int .u8 ((get l 0).r), .int .u8 ((get l 0).g), .int .u8 ((get l 0).b), .int .u8 ((get l 0).a), .int .u8 ((get m 9).r), .int .u8 ((get m 9).g), .int .u8 ((get m 9).b), .int .u8 ((get m 9).a)]) (z := .agg #[.int .u8 0, .int .u8 0, .int .u8 0, .int .u8 0]) 6 (fun a cap => [(14, .int .i64 (((l7.length + 2) : Nat) : Int))]) rfl rfl (wv_n rfl) rfl rfl rfl sl26 sz23 by23 (by kernel_rfl) rfl (by omega) (by first | decide | omega) (fun _ hm => by have := src_of C4.cells_len (hs7.keep hm.ext); simpa using this) (fun _ hm => src_blk (news := [.int .u8 ((get l 0).r), .int .u8 ((get l 0).g), .int .u8 ((get l 0).b), .int .u8 ((get l 0).a), .int .u8 ((get m 9).r), .int .u8 ((get m 9).g), .int .u8 ((get m 9).b), .int .u8 ((get m 9).a)]) (hm.at 5 rfl) rfl) (by omega) (by omega) (fun a cap => by kernel_rfl) ?_
  intro a9 cap9
  refine G_last [14, 15] [(3, .pointer (some ⟨B1, 0, none⟩)), (4, .pointer (some ⟨B2, 0, none⟩)), (6, .bool false), (41, .slice a9 (l7.length + 2) cap9), (42, .int .i64 (((l7.length + 2) : Nat) : Int)), (43, .int .i64 0)] (by kernel_rfl) (allM (all_cons (q_run (.int .i64 (((l7.length + 2) : Nat) : Int)) rfl rfl (wv_n rfl) rfl (fun _ _ hρ _ => r_len sl26 (hρ _ _ rfl))) (all_cons (q_run (.int .i64 0) rfl rfl (wv_n rfl) rfl (fun _ _ hρ _ => r_move (hρ _ _ rfl))) all_nil))) (end_old rfl rfl (end_old rfl rfl (end_old rfl rfl (end_new 13 rfl rfl (end_new 14 rfl rfl (end_new 15 rfl rfl end_nil)))))) ?_
  refine T_block ?_
  have hnA : (l7.length + 2) = (l7 ++ [get l 0, get m 9]).length := by simp
  have hxA : ((l7.flatMap C4.cells) ++ [.int .u8 ((get l 0).r), .int .u8 ((get l 0).g), .int .u8 ((get l 0).b), .int .u8 ((get l 0).a), .int .u8 ((get m 9).r), .int .u8 ((get m 9).g), .int .u8 ((get m 9).b), .int .u8 ((get m 9).a)]) = (l7 ++ [get l 0, get m 9]).flatMap C4.cells := by simp [C4.cells]
  rw [hxA, hnA]
  refine T_loop (ι := Nat) (fun (k : Nat) => k ≤ (l7 ++ [get l 0, get m 9]).length) (fun (k : Nat) => [(3, .pointer (some ⟨B1, 0, none⟩)), (4, .pointer (some ⟨B2, 0, none⟩)), (41, .slice a9 ((l7 ++ [get l 0, get m 9]).length) cap9), (42, .int .i64 (((l7 ++ [get l 0, get m 9]).length : Nat) : Int)), (43, .int .i64 ((k : Nat) : Int))]) (fun (k : Nat) => [(6, .row (.slice a9 ((l7 ++ [get l 0, get m 9]).length) cap9) 23 4 ((l7 ++ [get l 0, get m 9]).length) ((l7 ++ [get l 0, get m 9]).flatMap C4.cells)), (4, .row (.slice a6 ((colsN l 64).length) cap6) 23 4 ((colsN l 64).length) ((colsN l 64).flatMap C4.cells)), (3, .row (.slice a5 ((colsN l 64).length) cap5) 23 4 ((colsN l 64).length) ((colsN l 64).flatMap C4.cells)), (1, .blk B1 (.cells (lst C4.cells l) 25)), (2, .blk B2 (.cells (lst C4.cells m) 25)), (5, .blk B8 (.cells #[.int .u8 ((get l 0).r), .int .u8 ((get l 0).g), .int .u8 ((get l 0).b), .int .u8 ((get l 0).a), .int .u8 ((get m 9).r), .int .u8 ((get m 9).g), .int .u8 ((get m 9).b), .int .u8 ((get m 9).a)] 23))]) (fun (k : Nat) => (l7 ++ [get l 0, get m 9]).length - k) 0 (Nat.zero_le _) (sub_cons rfl (sub_cons rfl (sub_cons rfl (sub_cons rfl (sub_cons rfl sub_nil))))) (sub_cons rfl (sub_cons rfl (sub_cons rfl (sub_cons rfl (sub_cons rfl (sub_cons rfl sub_nil)))))) ?_
  rintro k hp
  show T _ _ _ [(3, .pointer (some ⟨B1, 0, none⟩)), (4, .pointer (some ⟨B2, 0, none⟩)), (41, .slice a9 ((l7 ++ [get l 0, get m 9]).length) cap9), (42, .int .i64 (((l7 ++ [get l 0, get m 9]).length : Nat) : Int)), (43, .int .i64 ((k : Nat) : Int))] [(6, .row (.slice a9 ((l7 ++ [get l 0, get m 9]).length) cap9) 23 4 ((l7 ++ [get l 0, get m 9]).length) ((l7 ++ [get l 0, get m 9]).flatMap C4.cells)), (4, .row (.slice a6 ((colsN l 64).length) cap6) 23 4 ((colsN l 64).length) ((colsN l 64).flatMap C4.cells)), (3, .row (.slice a5 ((colsN l 64).length) cap5) 23 4 ((colsN l 64).length) ((colsN l 64).flatMap C4.cells)), (1, .blk B1 (.cells (lst C4.cells l) 25)), (2, .blk B2 (.cells (lst C4.cells m) 25)), (5, .blk B8 (.cells #[.int .u8 ((get l 0).r), .int .u8 ((get l 0).g), .int .u8 ((get l 0).b), .int .u8 ((get l 0).a), .int .u8 ((get m 9).r), .int .u8 ((get m 9).g), .int .u8 ((get m 9).b), .int .u8 ((get m 9).a)] 23))]
  refine T_seq (T_region ?_)
  refine TL_q (.bool (decide (((k : Nat) : Int) < (((l7 ++ [get l 0, get m 9]).length : Nat) : Int)))) (fun _ _ hρ _ => r_lss (hρ _ _ rfl) (hρ _ _ rfl)) rfl rfl rfl (w_n rfl) ?_
  refine TL_seq ?_
  refine T_seq ?_
  refine T_cond rfl (fun h1 => ?_) (fun h1 => ?_)
  · replace h1 := of_decide_eq_true h1
    refine T_skip' ?_
    refine p_seq ?_
    refine T_seq ?_
    refine T_block ?_
    obtain ⟨x, hx⟩ : ∃ x, (l7 ++ [get l 0, get m 9])[k]? = some x := ⟨_, List.getElem?_eq_getElem (by omega)⟩
    refine T_row 6 rfl (by omega) (fun g10 ha10 => ?_)
    subst ha10
    refine T_seq (T_region ?_)
    refine TL_q (.pointer (some ⟨g10, 0 + k * 4, none⟩)) (fun _ _ hρ _ => r_indexAddrS (i := k) sl26 sz23 (hρ _ _ rfl) (hρ _ _ rfl) (by omega)) rfl rfl rfl (w_n rfl) ?_
    refine TL_q (.agg #[.int .u8 x.r, .int .u8 x.g, .int .u8 x.b, .int .u8 x.a]) (fun _ _ hρ hm => r_loadOwn (f := C4.cells) (u := x) (l := (l7 ++ [get l 0, get m 9])) ag23 sz23 (hρ _ _ rfl) (hm.row 6 rfl) rfl rfl C4.cells_len hx) rfl rfl rfl (w_n rfl) ?_
    refine TL_new 7 (.cells #[.int .u8 0, .int .u8 0, .int .u8 0, .int .u8 0] 23) (fun B => .pointer (some ⟨B, 0, none⟩)) (fun _ _ _ _ => r_alloc (v := .agg #[.int .u8 0, .int .u8 0, .int .u8 0, .int .u8 0]) (by kernel_rfl) rfl) rfl rfl rfl (w_n rfl) ?_
    intro B11
    refine TL_store 7 (.cells #[.int .u8 x.r, .int .u8 x.g, .int .u8 x.b, .int .u8 x.a] 23) rfl (fun _ _ hρ hm => r_store sz23 (hρ _ _ rfl) (hρ _ _ rfl) (hm.at 7 rfl) rfl rfl rfl rfl) rfl rfl (w_n rfl) ?_
    refine TL_seq ?_
    refine T_seq (T_draw (V := [(0, .agg (lst C4.cells l)), (1, .agg #[.int .u8 x.r, .int .u8 x.g, .int .u8 x.b, .int .u8 x.a]), (3, .agg (lst C4.cells l)), (4, .agg #[.int .u8 x.r, .int .u8 x.g, .int .u8 x.b, .int .u8 x.a])]) [0, 0, 3, 0, 0, 31, 63] [[(3, none)], [(8, none)], [(47, some 0), (48, some 1)], [(3, none)], [(8, none)], [(50, some 3), (51, some 4)], [(49, some 2), (52, some 5)]] 36 mixed (by kernel_rfl) ?_)
    refine G_step [0, 1, 3, 4] 2 [] (by kernel_rfl) (allM (all_cons (q_run (.agg (lst C4.cells l)) rfl rfl (wv_n rfl) rfl (fun _ _ hρ hm => r_loadW ag25 sz25 (hρ _ _ rfl) (hm.at 1 rfl) (tsz hl))) (all_cons (q_run (.agg #[.int .u8 x.r, .int .u8 x.g, .int .u8 x.b, .int .u8 x.a]) rfl rfl (wv_n rfl) rfl (fun _ _ hρ hm => r_loadA ag23 sz23 (hρ _ _ rfl) (hm.at 7 rfl) rfl rfl)) (all_cons (q_run (.agg (lst C4.cells l)) rfl rfl (wv_n rfl) rfl (fun _ _ hρ hm => r_loadW ag25 sz25 (hρ _ _ rfl) (hm.at 1 rfl) (tsz hl))) (all_cons (q_run (.agg #[.int .u8 x.r, .int .u8 x.g, .int .u8 x.b, .int .u8 x.a]) rfl rfl (wv_n rfl) rfl (fun _ _ hρ hm => r_loadA ag23 sz23 (hρ _ _ rfl) (hm.at 7 rfl) rfl rfl)) all_nil))))) (allM (all_cons ?_ all_nil))
    refine LOb_call (.int .i64 ((cntN l x 64 : Nat) : Int)) [] rfl (wv_n rfl) rfl rfl (fun _ _ hρ _ => r_call (args := [.agg (lst C4.cells l), .agg #[.int .u8 x.r, .int .u8 x.g, .int .u8 x.b, .int .u8 x.a]]) (enters_of Try.func15 (by kernel_rfl) rfl) (hρ _ _ rfl) ((cons2 (hρ _ _ rfl) (cons2 (hρ _ _ rfl) rfl))) rfl) (fun w _ => count_c l x w hl) (by kernel_rfl) ?_
    refine G_step [3, 4] 5 [] (by kernel_rfl) (allM (all_cons (q_run (.agg (lst C4.cells l)) rfl rfl (wv_n rfl) rfl (fun _ _ hρ hm => r_loadW ag25 sz25 (hρ _ _ rfl) (hm.at 1 rfl) (tsz hl))) (all_cons (q_run (.agg #[.int .u8 x.r, .int .u8 x.g, .int .u8 x.b, .int .u8 x.a]) rfl rfl (wv_n rfl) rfl (fun _ _ hρ hm => r_loadA ag23 sz23 (hρ _ _ rfl) (hm.at 7 rfl) rfl rfl)) all_nil))) (allM (all_cons ?_ all_nil))
    refine LOb_call (.int .i64 ((cntN l x 64 : Nat) : Int)) [(6, .bool false)] rfl (wv_n rfl) rfl rfl (fun _ _ hρ _ => r_call (args := [.agg (lst C4.cells l), .agg #[.int .u8 x.r, .int .u8 x.g, .int .u8 x.b, .int .u8 x.a]]) (enters_of Try.func16 (by kernel_rfl) rfl) (hρ _ _ rfl) ((cons2 (hρ _ _ rfl) (cons2 (hρ _ _ rfl) rfl))) rfl) (fun w _ => count_ref l x w hl) (by kernel_rfl) ?_
    refine G_last [6] [(3, .pointer (some ⟨B1, 0, none⟩)), (4, .pointer (some ⟨B2, 0, none⟩)), (41, .slice (some ⟨g10, 0, none⟩) ((l7 ++ [get l 0, get m 9]).length) cap9), (42, .int .i64 (((l7 ++ [get l 0, get m 9]).length : Nat) : Int)), (43, .int .i64 ((k : Nat) : Int)), (44, .bool (decide (((k : Nat) : Int) < (((l7 ++ [get l 0, get m 9]).length : Nat) : Int)))), (45, .pointer (some ⟨g10, 0 + k * 4, none⟩)), (46, .agg #[.int .u8 x.r, .int .u8 x.g, .int .u8 x.b, .int .u8 x.a]), (8, .pointer (some ⟨B11, 0, none⟩)), (47, .agg (lst C4.cells l)), (48, .agg #[.int .u8 x.r, .int .u8 x.g, .int .u8 x.b, .int .u8 x.a]), (49, .int .i64 ((cntN l x 64 : Nat) : Int)), (50, .agg (lst C4.cells l)), (51, .agg #[.int .u8 x.r, .int .u8 x.g, .int .u8 x.b, .int .u8 x.a]), (52, .int .i64 ((cntN l x 64 : Nat) : Int)), (53, .bool false)] (by kernel_rfl) (allM (all_cons (q_run (.bool false) rfl rfl (wv_n rfl) rfl (fun _ _ hρ _ => r_as (r_neq (hρ _ _ rfl) (hρ _ _ rfl)) (bool_as (by simp)))) all_nil)) (end_old rfl rfl (end_old rfl rfl (end_old rfl rfl (end_old rfl rfl (end_old rfl rfl (end_old rfl rfl (end_old rfl rfl (end_old rfl rfl (end_old rfl rfl (end_new 0 rfl rfl (end_new 1 rfl rfl (end_new 2 rfl rfl (end_new 3 rfl rfl (end_new 4 rfl rfl (end_new 5 rfl rfl (end_new 6 rfl rfl end_nil)))))))))))))))) ?_
    refine T_cond_f rfl ?_
    refine T_skip' ?_
    refine p_blk_n ?_
    refine p_seq ?_
    refine T_region ?_
    refine TL_q (.int .i64 ((k + 1 : Nat) : Int)) (fun _ _ hρ _ => r_as (r_add (hρ _ _ rfl) (hρ _ _ rfl)) (int_as ((wrap64 (by omega) (by omega)).trans (by omega)))) rfl rfl rfl (w_n rfl) ?_
    refine TL_q (.int .i64 ((k + 1 : Nat) : Int)) (fun _ _ hρ _ => r_move (hρ _ _ rfl)) rfl rfl rfl (w_n rfl) ?_
    refine TL_nil ?_
    exact p_at (k + 1) ⟨by omega, by omega⟩ (sub_cons rfl (sub_cons rfl (sub_cons rfl (sub_cons rfl (sub_cons rfl sub_nil))))) (sub_cons rfl (sub_cons rfl (sub_cons rfl (sub_cons rfl (sub_cons rfl (sub_cons rfl sub_nil))))))
  · replace h1 := of_decide_eq_false h1
    refine T_exit' ?_
    refine p_then_x ?_
    refine p_then_x ?_
    refine p_blk_x ?_
    refine p_seq ?_
    refine T_seq (T_region ?_)
    refine TL_q (.agg (lst C4.cells l)) (fun _ _ hρ hm => r_loadW ag25 sz25 (hρ _ _ rfl) (hm.at 1 rfl) (tsz hl)) rfl rfl rfl (w_n rfl) ?_
    refine TL_q (.agg (lst C4.cells m)) (fun _ _ hρ hm => r_loadW ag25 sz25 (hρ _ _ rfl) (hm.at 2 rfl) (tsz hm1)) rfl rfl rfl (w_n rfl) ?_
    refine TL_call (.tuple #[.agg #[.int .i64 ((rbN l m 64).x), .int .i64 ((rbN l m 64).y), .int .i64 ((rbN l m 64).x2), .int .i64 ((rbN l m 64).y2)], .bool (rsN l m 64)]) (fun _ _ hρ _ => r_call (args := [.agg (lst C4.cells l), .agg (lst C4.cells m)]) (enters_of Try.func17 (by kernel_rfl) rfl) (hρ _ _ rfl) ((cons2 (hρ _ _ rfl) (cons2 (hρ _ _ rfl) rfl))) rfl) (fun w _ => (box_c l m w hl hm1).mono fun _ _ h => ⟨h.1.trans (congrArg Ending.returned (by rw [(box_out hl hm1).1, ← (box_out hl hm1).2])), h.2⟩) rfl rfl rfl (w_n rfl) ?_
    refine TL_q (.tuple #[.agg #[.int .i64 ((rbN l m 64).x), .int .i64 ((rbN l m 64).y), .int .i64 ((rbN l m 64).x2), .int .i64 ((rbN l m 64).y2)], .bool (rsN l m 64)]) (fun _ _ hρ _ => r_move (hρ _ _ rfl)) rfl rfl rfl (w_n rfl) ?_
    refine TL_q (.agg #[.int .i64 ((rbN l m 64).x), .int .i64 ((rbN l m 64).y), .int .i64 ((rbN l m 64).x2), .int .i64 ((rbN l m 64).y2)]) (fun _ _ hρ _ => r_extract (hρ _ _ rfl) rfl) rfl rfl rfl (w_n rfl) ?_
    refine TL_q (.bool (rsN l m 64)) (fun _ _ hρ _ => r_extract (hρ _ _ rfl) rfl) rfl rfl rfl (w_n rfl) ?_
    refine TL_new 8 (.cells #[.int .i64 0, .int .i64 0, .int .i64 0, .int .i64 0] 33) (fun B => .pointer (some ⟨B, 0, none⟩)) (fun _ _ _ _ => r_alloc (v := .agg #[.int .i64 0, .int .i64 0, .int .i64 0, .int .i64 0]) (by kernel_rfl) rfl) rfl rfl rfl (w_n rfl) ?_
    intro B12
    refine TL_store 8 (.cells #[.int .i64 ((rbN l m 64).x), .int .i64 ((rbN l m 64).y), .int .i64 ((rbN l m 64).x2), .int .i64 ((rbN l m 64).y2)] 33) rfl (fun _ _ hρ hm => r_store sz33 (hρ _ _ rfl) (hρ _ _ rfl) (hm.at 8 rfl) rfl rfl rfl rfl) rfl rfl (w_n rfl) ?_
    refine TL_q (.bool (rsN l m 64)) (fun _ _ hρ _ => r_assign (hρ _ _ rfl)) rfl rfl rfl (w_n rfl) ?_
    refine TL_seq ?_
    refine T_seq (T_region ?_)
    refine TL_q (.agg (lst C4.cells l)) (fun _ _ hρ hm => r_loadW ag25 sz25 (hρ _ _ rfl) (hm.at 1 rfl) (tsz hl)) rfl rfl rfl (w_n rfl) ?_
    refine TL_q (.agg (lst C4.cells m)) (fun _ _ hρ hm => r_loadW ag25 sz25 (hρ _ _ rfl) (hm.at 2 rfl) (tsz hm1)) rfl rfl rfl (w_n rfl) ?_
    refine TL_call (.tuple #[.agg #[.int .i64 ((rbN l m 64).x), .int .i64 ((rbN l m 64).y), .int .i64 ((rbN l m 64).x2), .int .i64 ((rbN l m 64).y2)], .bool (rsN l m 64)]) (fun _ _ hρ _ => r_call (args := [.agg (lst C4.cells l), .agg (lst C4.cells m)]) (enters_of Try.func18 (by kernel_rfl) rfl) (hρ _ _ rfl) ((cons2 (hρ _ _ rfl) (cons2 (hρ _ _ rfl) rfl))) rfl) (fun w _ => box_ref l m w hl hm1) rfl rfl rfl (w_n rfl) ?_
    refine TL_q (.tuple #[.agg #[.int .i64 ((rbN l m 64).x), .int .i64 ((rbN l m 64).y), .int .i64 ((rbN l m 64).x2), .int .i64 ((rbN l m 64).y2)], .bool (rsN l m 64)]) (fun _ _ hρ _ => r_move (hρ _ _ rfl)) rfl rfl rfl (w_n rfl) ?_
    refine TL_q (.agg #[.int .i64 ((rbN l m 64).x), .int .i64 ((rbN l m 64).y), .int .i64 ((rbN l m 64).x2), .int .i64 ((rbN l m 64).y2)]) (fun _ _ hρ _ => r_extract (hρ _ _ rfl) rfl) rfl rfl rfl (w_n rfl) ?_
    refine TL_q (.bool (rsN l m 64)) (fun _ _ hρ _ => r_extract (hρ _ _ rfl) rfl) rfl rfl rfl (w_n rfl) ?_
    refine TL_new 9 (.cells #[.int .i64 0, .int .i64 0, .int .i64 0, .int .i64 0] 33) (fun B => .pointer (some ⟨B, 0, none⟩)) (fun _ _ _ _ => r_alloc (v := .agg #[.int .i64 0, .int .i64 0, .int .i64 0, .int .i64 0]) (by kernel_rfl) rfl) rfl rfl rfl (w_n rfl) ?_
    intro B13
    refine TL_store 9 (.cells #[.int .i64 ((rbN l m 64).x), .int .i64 ((rbN l m 64).y), .int .i64 ((rbN l m 64).x2), .int .i64 ((rbN l m 64).y2)] 33) rfl (fun _ _ hρ hm => r_store sz33 (hρ _ _ rfl) (hρ _ _ rfl) (hm.at 9 rfl) rfl rfl rfl rfl) rfl rfl (w_n rfl) ?_
    refine TL_q (.bool (rsN l m 64)) (fun _ _ hρ _ => r_assign (hρ _ _ rfl)) rfl rfl rfl (w_n rfl) ?_
    refine TL_seq ?_
    refine T_seq (T_region ?_)
    refine TL_q (.agg #[.int .i64 ((rbN l m 64).x), .int .i64 ((rbN l m 64).y), .int .i64 ((rbN l m 64).x2), .int .i64 ((rbN l m 64).y2)]) (fun _ _ hρ hm => r_loadA ag33 sz33 (hρ _ _ rfl) (hm.at 8 rfl) rfl rfl) rfl rfl rfl (w_n rfl) ?_
    refine TL_q (.agg #[.int .i64 ((rbN l m 64).x), .int .i64 ((rbN l m 64).y), .int .i64 ((rbN l m 64).x2), .int .i64 ((rbN l m 64).y2)]) (fun _ _ hρ hm => r_loadA ag33 sz33 (hρ _ _ rfl) (hm.at 9 rfl) rfl rfl) rfl rfl rfl (w_n rfl) ?_
    refine TL_q (.bool true) (fun _ _ hρ _ => r_as (r_eqlA (by kernel_rfl) (hρ _ _ rfl) (hρ _ _ rfl) (run_equalI (l := [(0, .i64), (1, .i64), (2, .i64), (3, .i64)]) (by kernel_rfl) rfl rfl)) (bool_as (by simp only [eqI_self]; try rfl))) rfl rfl rfl (w_n rfl) ?_
    refine TL_q (.bool true) (fun _ _ hρ _ => r_move (hρ _ _ rfl)) rfl rfl rfl (w_n rfl) ?_
    refine TL_q (.bool (rsN l m 64)) (fun _ _ hρ _ => r_move (hρ _ _ rfl)) rfl rfl rfl (want_y 70 rfl rfl rfl) ?_
    refine TL_q (.bool (rsN l m 64)) (fun _ _ hρ _ => r_move (hρ _ _ rfl)) rfl rfl rfl (want_y 70 rfl rfl rfl) ?_
    refine TL_q (.bool true) (fun _ _ hρ _ => r_as (r_eqlB (by kernel_rfl) (hρ _ _ rfl) (hρ _ _ rfl)) (bool_as (by simp))) rfl rfl rfl (want_y 70 rfl rfl rfl) ?_
    refine TL_q (.bool true) (fun _ _ hρ _ => r_pick_t (hρ _ _ rfl) (hρ _ _ rfl)) rfl rfl rfl (w_n rfl) ?_
    refine TL_q (.bool true) (fun _ _ hρ _ => r_assign (hρ _ _ rfl)) rfl rfl rfl (w_n rfl) ?_
    refine TL_seq ?_
    refine T_ret' ?_
    refine ret_of rfl (.bool true) (fun tmps w hk hm => res1 rfl (res_tmp (hk 6 _ rfl))) (fun w hm => ?_)
    exact ⟨rfl, hm.ext⟩
end Go.Proofs.Ytmlkifojbjbpcaa
