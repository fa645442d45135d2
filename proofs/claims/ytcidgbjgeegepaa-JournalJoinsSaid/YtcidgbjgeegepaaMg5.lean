/- Texts of this seat, merged: part 5. -/
import Derived.Test.YtcidgbjgeegepaaMg4
/- net and journal: wakes. Printed by a program of this seat's prover. -/
namespace Go.Proofs.Ytcidgbjgeegepaa
open Go Go.RowKit
set_option maxRecDepth 10000
abbrev WJ : List (List By) := [[5#8], [6#8, 7#8]]
theorem wk_h : ∀ r ∈ WJ, r.length ≤ 65536 := by decide
theorem wk_len : (joinP WJ).length = 19 := by
  show joinL WJ = 19
  rw [joinL_cons, joinL_cons]; rfl
theorem wk_1 : joinL [[5#8]] = 9 := by rw [joinL_cons]; rfl
theorem wk_many : manyJ WJ 18 = 1 := by decide
theorem wk_torn : heldsV ((joinP WJ).take 18) = [[5#8]] ∧ sizeV ((joinP WJ).take 18) = 9 ∧ whyE ((joinP WJ).take 18) ≠ 0 := by
  obtain ⟨h1, h2, h3, h4⟩ := torn (c := 18) wk_h (by show 18 ≤ (joinP WJ).length; rw [wk_len]; decide)
  rw [wk_many] at h1 h2 h3
  refine ⟨h1, h2.trans wk_1, fun e => ?_⟩
  have := h3.1 e
  rw [show WJ.take 1 = [[5#8]] from rfl, wk_1] at this
  cases this
theorem wk_more : sizeV (joinP WJ ++ [0#8]) = 19 ∧ whyE (joinP WJ ++ [0#8]) = 110 := by
  obtain ⟨_, h2, _⟩ := scan_join WJ 0 [0#8] wk_h (by decide)
  have hl : joinL WJ = 19 := wk_len
  rw [Nat.zero_add, hl] at h2
  refine ⟨h2, ?_⟩
  have h3 : sizeV (joinP WJ ++ [0#8]) = 19 := h2
  unfold whyE
  rw [h3, if_neg (by rw [List.length_append, wk_len]; decide), show (19 : Nat) = (joinP WJ).length from wk_len.symm, List.drop_append_of_le_length (Nat.le_refl _), List.drop_of_length_le (Nat.le_refl _)]
  rfl
theorem wk_f1 : firstE [0#8, 0#8, 0#8] = 110 := by decide
theorem wk_f2 : firstE [0#8, 1#8, 0#8, 1#8] = 3 := by decide +kernel
theorem wk_f3 : firstE [0#8, 0#8, 0#8, 0#8, 1#8, 1#8, 1#8, 1#8] = 120 := by decide +kernel

set_option maxHeartbeats 1000000 in
theorem jwakes_c (w : World) : Calls Try.prog 35 #[] w fun e w' => e = .returned (.bool true) ∧ Below w.heap.size w w' := by
  have hwl := wk_len
  have hrl := recP_len [5#8, 6#8]
  replace hrl : (recP [5#8, 6#8]).length = 10 := hrl
  refine calls_of_T (l := []) 124 Try.func35 rfl rfl rfl ?_
  show T _ _ _ [] []
  refine T_seq (T_region ?_)
  refine TL_q (.bool false) (fun _ _ hρ _ => r_assign (hρ _ _ rfl)) rfl rfl rfl (w_n rfl) ?_
  refine TL_seq ?_
  refine T_seq (T_region ?_)
  refine TL_new 1 (.cells #[.int .u8 5, .int .u8 6] 5) (fun B => .slice (some ⟨B, 0, none⟩) 2 2) (fun _ _ hρ _ => r_buildSlice (vs := [(0, .int .u8 5), (1, .int .u8 6)]) (by kernel_rfl) (cons2 (pair2 (hρ _ _ rfl)) (cons2 (pair2 (hρ _ _ rfl)) rfl))) rfl rfl rfl (w_n rfl) ?_
  intro B1
  refine TL_callN (fun (_ : Option Addr × Nat) => True) (fun (ar2, cr2) => .tuple #[.slice ar2 ((recP [5#8, 6#8]).length) cr2, .int .i64 0]) (fun (ar2, cr2) => [(2, .row (.slice ar2 ((recP [5#8, 6#8]).length) cr2) 5 1 ((recP [5#8, 6#8]).length) ((recP [5#8, 6#8]).flatMap byc))]) (fun _ _ hρ _ => r_call (args := [.slice (some ⟨B1, 0, none⟩) 2 2]) (enters_of Try.func40 (by kernel_rfl) rfl) (hρ _ _ rfl) ((cons2 (hρ _ _ rfl) rfl)) rfl) (fun w hm => (jrec_ok [5#8, 6#8] (some ⟨B1, 0, none⟩) 2 w ⟨Nat.le_of_ble_eq_true rfl, (fun e => by cases e), .inr ⟨_, 0, _, _, _, rfl, (hm.at 1 rfl), row_of_take (fun _ => rfl) rfl⟩⟩ (Nat.le_of_ble_eq_true rfl) (by decide)).mono fun e w' ⟨a', cap', he, hb, hr⟩ => ⟨(a', cap'), trivial, he, hb, newOk1 2 hr⟩) rfl rfl rfl (w_n rfl) ?_
  rintro ⟨ar2, cr2⟩ -
  refine TL_q (.tuple #[.slice ar2 ((recP [5#8, 6#8]).length) cr2, .int .i64 0]) (fun _ _ hρ _ => r_move (hρ _ _ rfl)) rfl rfl rfl (w_n rfl) ?_
  refine TL_q (.slice ar2 ((recP [5#8, 6#8]).length) cr2) (fun _ _ hρ _ => r_extract (hρ _ _ rfl) rfl) rfl rfl rfl (w_n rfl) ?_
  refine TL_q (.int .i64 0) (fun _ _ hρ _ => r_extract (hρ _ _ rfl) rfl) rfl rfl rfl (w_n rfl) ?_
  refine TL_q (.slice ar2 ((recP [5#8, 6#8]).length) cr2) (fun _ _ hρ _ => r_assign (hρ _ _ rfl)) rfl rfl rfl (w_n rfl) ?_
  refine TL_q (.int .i64 0) (fun _ _ hρ _ => r_assign (hρ _ _ rfl)) rfl rfl rfl (w_n rfl) ?_
  refine TL_seq ?_
  refine T_seq (T_region ?_)
  refine TL_new 3 (.cells #[.int .u8 5] 5) (fun B => .slice (some ⟨B, 0, none⟩) 1 1) (fun _ _ hρ _ => r_buildSlice (vs := [(0, .int .u8 5)]) (by kernel_rfl) (cons2 (pair2 (hρ _ _ rfl)) rfl)) rfl rfl rfl (w_n rfl) ?_
  intro B3
  refine TL_new 4 (.cells #[.int .u8 6, .int .u8 7] 5) (fun B => .slice (some ⟨B, 0, none⟩) 2 2) (fun _ _ hρ _ => r_buildSlice (vs := [(0, .int .u8 6), (1, .int .u8 7)]) (by kernel_rfl) (cons2 (pair2 (hρ _ _ rfl)) (cons2 (pair2 (hρ _ _ rfl)) rfl))) rfl rfl rfl (w_n rfl) ?_
  intro B4
  refine TL_new 5 (.cells #[.slice (some ⟨B3, 0, none⟩) 1 1, .slice (some ⟨B4, 0, none⟩) 2 2] 34) (fun B => .slice (some ⟨B, 0, none⟩) 2 2) (fun _ _ hρ _ => r_buildSlice (vs := [(0, .slice (some ⟨B3, 0, none⟩) 1 1), (1, .slice (some ⟨B4, 0, none⟩) 2 2)]) (by kernel_rfl) (cons2 (pair2 (hρ _ _ rfl)) (cons2 (pair2 (hρ _ _ rfl)) rfl))) rfl rfl rfl (w_n rfl) ?_
  intro B5
  refine TL_callN (fun (_ : Option Addr × Nat) => True) (fun (ar6, cr6) => .tuple #[.slice ar6 ((joinP WJ).length) cr6, .int .i64 0]) (fun (ar6, cr6) => [(6, .row (.slice ar6 ((joinP WJ).length) cr6) 5 1 ((joinP WJ).length) ((joinP WJ).flatMap byc))]) (fun _ _ hρ _ => r_call (args := [.slice (some ⟨B5, 0, none⟩) 2 2]) (enters_of Try.func38 (by kernel_rfl) rfl) (hρ _ _ rfl) ((cons2 (hρ _ _ rfl) rfl)) rfl) (fun w hm => (join_ok [(⟨(some ⟨B3, 0, none⟩), 1, [5#8]⟩ : RowG By), (⟨(some ⟨B4, 0, none⟩), 2, [6#8, 7#8]⟩ : RowG By)] (some ⟨B5, 0, none⟩) 2 w ⟨Nat.le_of_ble_eq_true rfl, (fun e => by cases e), .inr ⟨_, 0, _, _, _, rfl, (hm.at 5 rfl), row_of_take (fun _ => rfl) rfl⟩⟩ (Nat.le_of_ble_eq_true rfl) (List.forall_mem_cons.2 ⟨⟨⟨Nat.le_of_ble_eq_true rfl, (fun e => by cases e), .inr ⟨_, 0, _, _, _, rfl, (hm.at 3 rfl), row_of_take (fun _ => rfl) rfl⟩⟩, (Nat.le_of_ble_eq_true rfl)⟩, (List.forall_mem_cons.2 ⟨⟨⟨Nat.le_of_ble_eq_true rfl, (fun e => by cases e), .inr ⟨_, 0, _, _, _, rfl, (hm.at 4 rfl), row_of_take (fun _ => rfl) rfl⟩⟩, (Nat.le_of_ble_eq_true rfl)⟩, (fun _ h => nomatch h)⟩)⟩) (Nat.le_of_ble_eq_true rfl) (show ∀ r ∈ [(⟨(some ⟨B3, 0, none⟩), 1, [5#8]⟩ : RowG By), (⟨(some ⟨B4, 0, none⟩), 2, [6#8, 7#8]⟩ : RowG By)], r.l.length ≤ 65536 from List.forall_mem_cons.2 ⟨(show 1 ≤ 65536 by decide), List.forall_mem_cons.2 ⟨(show 2 ≤ 65536 by decide), fun _ h => nomatch h⟩⟩)).mono fun e w' ⟨a', cap', he, hb, hr⟩ => ⟨(a', cap'), trivial, he, hb, newOk1 6 hr⟩) rfl rfl rfl (w_n rfl) ?_
  rintro ⟨ar6, cr6⟩ -
  refine TL_q (.tuple #[.slice ar6 ((joinP WJ).length) cr6, .int .i64 0]) (fun _ _ hρ _ => r_move (hρ _ _ rfl)) rfl rfl rfl (w_n rfl) ?_
  refine TL_q (.slice ar6 ((joinP WJ).length) cr6) (fun _ _ hρ _ => r_extract (hρ _ _ rfl) rfl) rfl rfl rfl (w_n rfl) ?_
  refine TL_q (.int .i64 0) (fun _ _ hρ _ => r_extract (hρ _ _ rfl) rfl) rfl rfl rfl (w_n rfl) ?_
  refine TL_q (.slice ar6 ((joinP WJ).length) cr6) (fun _ _ hρ _ => r_assign (hρ _ _ rfl)) rfl rfl rfl (w_n rfl) ?_
  refine TL_q (.int .i64 0) (fun _ _ hρ _ => r_assign (hρ _ _ rfl)) rfl rfl rfl (w_n rfl) ?_
  refine TL_seq ?_
  refine T_seq ?_
  refine T_seq (T_region ?_)
  refine TL_q (.int .i64 0) (fun _ _ hρ _ => r_move (hρ _ _ rfl)) rfl rfl rfl (w_n rfl) ?_
  refine TL_q (.bool false) (fun _ _ hρ _ => r_as (r_neq (hρ _ _ rfl) (hρ _ _ rfl)) (by rfl)) rfl rfl rfl (w_n rfl) ?_
  refine TL_q (.bool false) (fun _ _ hρ _ => r_move (hρ _ _ rfl)) rfl rfl rfl (w_n rfl) ?_
  refine TL_q (.int .i64 0) (fun _ _ hρ _ => r_move (hρ _ _ rfl)) rfl rfl rfl (want_y 34 rfl rfl rfl) ?_
  refine TL_q (.bool false) (fun _ _ hρ _ => r_as (r_neq (hρ _ _ rfl) (hρ _ _ rfl)) (by rfl)) rfl rfl rfl (want_y 34 rfl rfl rfl) ?_
  refine TL_q (.bool false) (fun _ _ hρ _ => r_pick_f (hρ _ _ rfl) (hρ _ _ rfl)) rfl rfl rfl (w_n rfl) ?_
  refine TL_q (.bool false) (fun _ _ hρ _ => r_move (hρ _ _ rfl)) rfl rfl rfl (w_n rfl) ?_
  refine TL_q (.slice ar2 ((recP [5#8, 6#8]).length) cr2) (fun _ _ hρ _ => r_move (hρ _ _ rfl)) rfl rfl rfl (want_y 38 rfl rfl rfl) ?_
  refine TL_q (.int .i64 (((recP [5#8, 6#8]).length : Nat) : Int)) (fun _ _ hρ _ => r_len sl34 (hρ _ _ rfl)) rfl rfl rfl (want_y 38 rfl rfl rfl) ?_
  refine TL_q (.bool false) (fun _ _ hρ _ => r_as (r_neq (hρ _ _ rfl) (hρ _ _ rfl)) (bool_as (by rw [decide_eq_true (by omega)]; rfl))) rfl rfl rfl (want_y 38 rfl rfl rfl) ?_
  refine TL_q (.bool false) (fun _ _ hρ _ => r_pick_f (hρ _ _ rfl) (hρ _ _ rfl)) rfl rfl rfl (w_n rfl) ?_
  refine TL_q (.bool false) (fun _ _ hρ _ => r_move (hρ _ _ rfl)) rfl rfl rfl (w_n rfl) ?_
  refine TL_q (.slice ar6 ((joinP WJ).length) cr6) (fun _ _ hρ _ => r_move (hρ _ _ rfl)) rfl rfl rfl (want_y 43 rfl rfl rfl) ?_
  refine TL_q (.int .i64 (((joinP WJ).length : Nat) : Int)) (fun _ _ hρ _ => r_len sl34 (hρ _ _ rfl)) rfl rfl rfl (want_y 43 rfl rfl rfl) ?_
  refine TL_q (.bool false) (fun _ _ hρ _ => r_as (r_neq (hρ _ _ rfl) (hρ _ _ rfl)) (bool_as (by rw [decide_eq_true (by omega)]; rfl))) rfl rfl rfl (want_y 43 rfl rfl rfl) ?_
  refine TL_q (.bool false) (fun _ _ hρ _ => r_pick_f (hρ _ _ rfl) (hρ _ _ rfl)) rfl rfl rfl (w_n rfl) ?_
  refine TL_seq ?_
  refine T_sub [(0, .bool false), (3, .slice ar6 ((joinP WJ).length) cr6), (47, .bool false)] [(6, .row (.slice ar6 ((joinP WJ).length) cr6) 5 1 ((joinP WJ).length) ((joinP WJ).flatMap byc)), (2, .row (.slice ar2 ((recP [5#8, 6#8]).length) cr2) 5 1 ((recP [5#8, 6#8]).length) ((recP [5#8, 6#8]).flatMap byc)), (1, .blk B1 (.cells #[.int .u8 5, .int .u8 6] 5)), (3, .blk B3 (.cells #[.int .u8 5] 5)), (4, .blk B4 (.cells #[.int .u8 6, .int .u8 7] 5)), (5, .blk B5 (.cells #[.slice (some ⟨B3, 0, none⟩) 1 1, .slice (some ⟨B4, 0, none⟩) 2 2] 34))] (sub_cons rfl (sub_cons rfl (sub_cons rfl sub_nil))) (sub_cons rfl (sub_cons rfl (sub_cons rfl (sub_cons rfl (sub_cons rfl (sub_cons rfl sub_nil)))))) ?_
  refine T_cond_f rfl ?_
  refine T_skip' ?_
  refine p_seq ?_
  refine T_rowcap 6 rfl (fun hrc5 => ?_)
  refine T_seq (T_region ?_)
  refine TL_q (.slice ar6 ((joinP WJ).length) cr6) (fun _ _ hρ _ => r_move (hρ _ _ rfl)) rfl rfl rfl (w_n rfl) ?_
  obtain ⟨l7, hl7, hn7⟩ : ∃ lz, lz = (joinP WJ).take 18 ∧ lz.length = 18 := ⟨_, rfl, by rw [List.length_take]; omega⟩
  refine TL_q (.slice ar6 l7.length cr6) (fun ρ _ hρ _ => r_as (r_sliceO sl34 sz5 (hρ _ _ rfl) (bd_none ρ _) (bd_some (n := 18) (hρ _ _ rfl)) (bd_none ρ _) (by simp) (by omega) (by omega) (by omega)) (by rw [hn7]; exact slo_zero _ _ _ _)) rfl rfl rfl (w_n rfl) ?_
  refine TL_callN (fun ((na8, nc8, nl8) : Option Addr × Nat × List (RowG By)) => rls nl8 = heldsV l7) (fun (na8, nc8, nl8) => .tuple #[.slice na8 nl8.length nc8, .int .i64 ((sizeV l7 : Nat) : Int)]) (fun (na8, nc8, nl8) => [(7, .row (.slice na8 nl8.length nc8) 34 1 nl8.length (nl8.flatMap RowG.cells)), (8, .pool 5 1 byc nl8)]) (fun _ _ hρ _ => r_call (args := [.slice ar6 l7.length cr6]) (enters_of Try.func46 (by kernel_rfl) rfl) (hρ _ _ rfl) ((cons2 (hρ _ _ rfl) rfl)) rfl) (fun w hm => (scan_c l7 ar6 cr6 w (by have hs := SliceAt.front (l := (joinP WJ)) (SliceAt.own byc_len (hm.row 6 rfl) rfl rfl) (n := 18) (m := cr6) (by omega) (by omega) (by omega); rw [← hl7] at hs; exact hs) (row_cap (hm.row 6 rfl)) (by omega)).mono fun e w' ⟨n, hf, he, hb, r1, r2, hs⟩ => ⟨(n.a, n.cap, n.l), hf, he, hb, newOk2 7 8 r1 r2 hs⟩) rfl rfl rfl (w_n rfl) ?_
  rintro ⟨na8, nc8, nl8⟩ hsc8
  refine TL_q (.tuple #[.slice na8 nl8.length nc8, .int .i64 ((sizeV l7 : Nat) : Int)]) (fun _ _ hρ _ => r_move (hρ _ _ rfl)) rfl rfl rfl (w_n rfl) ?_
  refine TL_q (.slice na8 nl8.length nc8) (fun _ _ hρ _ => r_extract (hρ _ _ rfl) rfl) rfl rfl rfl (w_n rfl) ?_
  refine TL_q (.int .i64 ((sizeV l7 : Nat) : Int)) (fun _ _ hρ _ => r_extract (hρ _ _ rfl) rfl) rfl rfl rfl (w_n rfl) ?_
  refine TL_q (.slice na8 nl8.length nc8) (fun _ _ hρ _ => r_assign (hρ _ _ rfl)) rfl rfl rfl (w_n rfl) ?_
  refine TL_q (.int .i64 ((sizeV l7 : Nat) : Int)) (fun _ _ hρ _ => r_assign (hρ _ _ rfl)) rfl rfl rfl (w_n rfl) ?_
  refine TL_seq ?_
  refine T_seq (T_region ?_)
  refine TL_new 9 (.cells #[.int .u8 0, .int .u8 0, .int .u8 0] 5) (fun B => .slice (some ⟨B, 0, none⟩) 3 3) (fun _ _ hρ _ => r_buildSlice (vs := [(0, .int .u8 0), (1, .int .u8 0), (2, .int .u8 0)]) (by kernel_rfl) (cons2 (pair2 (hρ _ _ rfl)) (cons2 (pair2 (hρ _ _ rfl)) (cons2 (pair2 (hρ _ _ rfl)) rfl)))) rfl rfl rfl (w_n rfl) ?_
  intro B9
  refine TL_callN (fun (_ : Option Addr × Nat) => True) (fun (ar10, cr10) => .tuple #[.slice ar10 (([] : List By).length) cr10, .int .i64 0, .int .i64 110]) (fun (ar10, cr10) => [(10, .row (.slice ar10 (([] : List By).length) cr10) 5 1 (([] : List By).length) (([] : List By).flatMap byc))]) (fun _ _ hρ _ => r_call (args := [.slice (some ⟨B9, 0, none⟩) 3 3]) (enters_of Try.func52 (by kernel_rfl) rfl) (hρ _ _ rfl) ((cons2 (hρ _ _ rfl) rfl)) rfl) (fun w hm => (jfirst_p [0#8, 0#8, 0#8] (some ⟨B9, 0, none⟩) 3 w ⟨Nat.le_of_ble_eq_true rfl, (fun e => by cases e), .inr ⟨_, 0, _, _, _, rfl, (hm.at 9 rfl), row_of_take (fun _ => rfl) rfl⟩⟩ (Nat.le_of_ble_eq_true rfl) (by rw [wk_f1]; decide)).mono fun e w' ⟨a', cap', he, hb, hr⟩ => ⟨(a', cap'), trivial, he.trans (by rw [wk_f1]), hb, newOk1 10 hr⟩) rfl rfl rfl (w_n rfl) ?_
  rintro ⟨ar10, cr10⟩ -
  refine TL_q (.tuple #[.slice ar10 (([] : List By).length) cr10, .int .i64 0, .int .i64 110]) (fun _ _ hρ _ => r_move (hρ _ _ rfl)) rfl rfl rfl (w_n rfl) ?_
  refine TL_q (.slice ar10 (([] : List By).length) cr10) (fun _ _ hρ _ => r_extract (hρ _ _ rfl) rfl) rfl rfl rfl (w_n rfl) ?_
  refine TL_q (.int .i64 0) (fun _ _ hρ _ => r_extract (hρ _ _ rfl) rfl) rfl rfl rfl (w_n rfl) ?_
  refine TL_q (.int .i64 110) (fun _ _ hρ _ => r_extract (hρ _ _ rfl) rfl) rfl rfl rfl (w_n rfl) ?_
  refine TL_q (.slice ar10 (([] : List By).length) cr10) (fun _ _ hρ _ => r_assign (hρ _ _ rfl)) rfl rfl rfl (w_n rfl) ?_
  refine TL_q (.int .i64 0) (fun _ _ hρ _ => r_assign (hρ _ _ rfl)) rfl rfl rfl (w_n rfl) ?_
  refine TL_q (.int .i64 110) (fun _ _ hρ _ => r_assign (hρ _ _ rfl)) rfl rfl rfl (w_n rfl) ?_
  refine TL_seq ?_
  refine T_seq (T_region ?_)
  refine TL_new 11 (.cells #[.int .u8 0, .int .u8 1, .int .u8 0, .int .u8 1] 5) (fun B => .slice (some ⟨B, 0, none⟩) 4 4) (fun _ _ hρ _ => r_buildSlice (vs := [(0, .int .u8 0), (1, .int .u8 1), (2, .int .u8 0), (3, .int .u8 1)]) (by kernel_rfl) (cons2 (pair2 (hρ _ _ rfl)) (cons2 (pair2 (hρ _ _ rfl)) (cons2 (pair2 (hρ _ _ rfl)) (cons2 (pair2 (hρ _ _ rfl)) rfl))))) rfl rfl rfl (w_n rfl) ?_
  intro B11
  refine TL_callN (fun (_ : Option Addr × Nat) => True) (fun (ar12, cr12) => .tuple #[.slice ar12 (([] : List By).length) cr12, .int .i64 0, .int .i64 3]) (fun (ar12, cr12) => [(12, .row (.slice ar12 (([] : List By).length) cr12) 5 1 (([] : List By).length) (([] : List By).flatMap byc))]) (fun _ _ hρ _ => r_call (args := [.slice (some ⟨B11, 0, none⟩) 4 4]) (enters_of Try.func52 (by kernel_rfl) rfl) (hρ _ _ rfl) ((cons2 (hρ _ _ rfl) rfl)) rfl) (fun w hm => (jfirst_p [0#8, 1#8, 0#8, 1#8] (some ⟨B11, 0, none⟩) 4 w ⟨Nat.le_of_ble_eq_true rfl, (fun e => by cases e), .inr ⟨_, 0, _, _, _, rfl, (hm.at 11 rfl), row_of_take (fun _ => rfl) rfl⟩⟩ (Nat.le_of_ble_eq_true rfl) (by rw [wk_f2]; decide)).mono fun e w' ⟨a', cap', he, hb, hr⟩ => ⟨(a', cap'), trivial, he.trans (by rw [wk_f2]), hb, newOk1 12 hr⟩) rfl rfl rfl (w_n rfl) ?_
  rintro ⟨ar12, cr12⟩ -
  refine TL_q (.tuple #[.slice ar12 (([] : List By).length) cr12, .int .i64 0, .int .i64 3]) (fun _ _ hρ _ => r_move (hρ _ _ rfl)) rfl rfl rfl (w_n rfl) ?_
  refine TL_q (.slice ar12 (([] : List By).length) cr12) (fun _ _ hρ _ => r_extract (hρ _ _ rfl) rfl) rfl rfl rfl (w_n rfl) ?_
  refine TL_q (.int .i64 0) (fun _ _ hρ _ => r_extract (hρ _ _ rfl) rfl) rfl rfl rfl (w_n rfl) ?_
  refine TL_q (.int .i64 3) (fun _ _ hρ _ => r_extract (hρ _ _ rfl) rfl) rfl rfl rfl (w_n rfl) ?_
  refine TL_q (.slice ar12 (([] : List By).length) cr12) (fun _ _ hρ _ => r_assign (hρ _ _ rfl)) rfl rfl rfl (w_n rfl) ?_
  refine TL_q (.int .i64 0) (fun _ _ hρ _ => r_assign (hρ _ _ rfl)) rfl rfl rfl (w_n rfl) ?_
  refine TL_q (.int .i64 3) (fun _ _ hρ _ => r_assign (hρ _ _ rfl)) rfl rfl rfl (w_n rfl) ?_
  refine TL_seq ?_
  refine T_seq (T_region ?_)
  refine TL_new 13 (.cells #[.int .u8 0, .int .u8 0, .int .u8 0, .int .u8 0, .int .u8 1, .int .u8 1, .int .u8 1, .int .u8 1] 5) (fun B => .slice (some ⟨B, 0, none⟩) 8 8) (fun _ _ hρ _ => r_buildSlice (vs := [(0, .int .u8 0), (1, .int .u8 0), (2, .int .u8 0), (3, .int .u8 0), (4, .int .u8 1), (5, .int .u8 1), (6, .int .u8 1), (7, .int .u8 1)]) (by kernel_rfl) (cons2 (pair2 (hρ _ _ rfl)) (cons2 (pair2 (hρ _ _ rfl)) (cons2 (pair2 (hρ _ _ rfl)) (cons2 (pair2 (hρ _ _ rfl)) (cons2 (pair2 (hρ _ _ rfl)) (cons2 (pair2 (hρ _ _ rfl)) (cons2 (pair2 (hρ _ _ rfl)) (cons2 (pair2 (hρ _ _ rfl)) rfl))))))))) rfl rfl rfl (w_n rfl) ?_
  intro B13
  refine TL_callN (fun (_ : Option Addr × Nat) => True) (fun (ar14, cr14) => .tuple #[.slice ar14 (([] : List By).length) cr14, .int .i64 0, .int .i64 120]) (fun (ar14, cr14) => [(14, .row (.slice ar14 (([] : List By).length) cr14) 5 1 (([] : List By).length) (([] : List By).flatMap byc))]) (fun _ _ hρ _ => r_call (args := [.slice (some ⟨B13, 0, none⟩) 8 8]) (enters_of Try.func52 (by kernel_rfl) rfl) (hρ _ _ rfl) ((cons2 (hρ _ _ rfl) rfl)) rfl) (fun w hm => (jfirst_p [0#8, 0#8, 0#8, 0#8, 1#8, 1#8, 1#8, 1#8] (some ⟨B13, 0, none⟩) 8 w ⟨Nat.le_of_ble_eq_true rfl, (fun e => by cases e), .inr ⟨_, 0, _, _, _, rfl, (hm.at 13 rfl), row_of_take (fun _ => rfl) rfl⟩⟩ (Nat.le_of_ble_eq_true rfl) (by rw [wk_f3]; decide)).mono fun e w' ⟨a', cap', he, hb, hr⟩ => ⟨(a', cap'), trivial, he.trans (by rw [wk_f3]), hb, newOk1 14 hr⟩) rfl rfl rfl (w_n rfl) ?_
  rintro ⟨ar14, cr14⟩ -
  refine TL_q (.tuple #[.slice ar14 (([] : List By).length) cr14, .int .i64 0, .int .i64 120]) (fun _ _ hρ _ => r_move (hρ _ _ rfl)) rfl rfl rfl (w_n rfl) ?_
  refine TL_q (.slice ar14 (([] : List By).length) cr14) (fun _ _ hρ _ => r_extract (hρ _ _ rfl) rfl) rfl rfl rfl (w_n rfl) ?_
  refine TL_q (.int .i64 0) (fun _ _ hρ _ => r_extract (hρ _ _ rfl) rfl) rfl rfl rfl (w_n rfl) ?_
  refine TL_q (.int .i64 120) (fun _ _ hρ _ => r_extract (hρ _ _ rfl) rfl) rfl rfl rfl (w_n rfl) ?_
  refine TL_q (.slice ar14 (([] : List By).length) cr14) (fun _ _ hρ _ => r_assign (hρ _ _ rfl)) rfl rfl rfl (w_n rfl) ?_
  refine TL_q (.int .i64 0) (fun _ _ hρ _ => r_assign (hρ _ _ rfl)) rfl rfl rfl (w_n rfl) ?_
  refine TL_q (.int .i64 120) (fun _ _ hρ _ => r_assign (hρ _ _ rfl)) rfl rfl rfl (w_n rfl) ?_
  refine TL_seq ?_
  refine T_sub [(0, .bool false), (3, .slice ar6 ((joinP WJ).length) cr6), (5, .slice na8 nl8.length nc8), (6, .int .i64 ((sizeV l7 : Nat) : Int)), (9, .int .i64 110), (12, .int .i64 3), (15, .int .i64 120)] [(14, .row (.slice ar14 (([] : List By).length) cr14) 5 1 (([] : List By).length) (([] : List By).flatMap byc)), (12, .row (.slice ar12 (([] : List By).length) cr12) 5 1 (([] : List By).length) (([] : List By).flatMap byc)), (10, .row (.slice ar10 (([] : List By).length) cr10) 5 1 (([] : List By).length) (([] : List By).flatMap byc)), (7, .row (.slice na8 nl8.length nc8) 34 1 nl8.length (nl8.flatMap RowG.cells)), (8, .pool 5 1 byc nl8), (6, .row (.slice ar6 ((joinP WJ).length) cr6) 5 1 ((joinP WJ).length) ((joinP WJ).flatMap byc)), (2, .row (.slice ar2 ((recP [5#8, 6#8]).length) cr2) 5 1 ((recP [5#8, 6#8]).length) ((recP [5#8, 6#8]).flatMap byc)), (1, .blk B1 (.cells #[.int .u8 5, .int .u8 6] 5)), (3, .blk B3 (.cells #[.int .u8 5] 5)), (4, .blk B4 (.cells #[.int .u8 6, .int .u8 7] 5)), (5, .blk B5 (.cells #[.slice (some ⟨B3, 0, none⟩) 1 1, .slice (some ⟨B4, 0, none⟩) 2 2] 34)), (9, .blk B9 (.cells #[.int .u8 0, .int .u8 0, .int .u8 0] 5)), (11, .blk B11 (.cells #[.int .u8 0, .int .u8 1, .int .u8 0, .int .u8 1] 5)), (13, .blk B13 (.cells #[.int .u8 0, .int .u8 0, .int .u8 0, .int .u8 0, .int .u8 1, .int .u8 1, .int .u8 1, .int .u8 1] 5))] (sub_cons rfl (sub_cons rfl (sub_cons rfl (sub_cons rfl (sub_cons rfl (sub_cons rfl (sub_cons rfl sub_nil))))))) (sub_cons rfl (sub_cons rfl (sub_cons rfl (sub_cons rfl (sub_cons rfl (sub_cons rfl (sub_cons rfl (sub_cons rfl (sub_cons rfl (sub_cons rfl (sub_cons rfl (sub_cons rfl (sub_cons rfl (sub_cons rfl sub_nil)))))))))))))) ?_
  refine T_seq (T_region ?_)
  refine TL_q (.slice ar6 ((joinP WJ).length) cr6) (fun _ _ hρ _ => r_move (hρ _ _ rfl)) rfl rfl rfl (w_n rfl) ?_
  refine TL_callN (fun (_ : Option Addr × Nat) => True) (fun (ar15, cr15) => .slice ar15 ((joinP WJ).length) cr15) (fun (ar15, cr15) => [(15, .row (.slice ar15 ((joinP WJ).length) cr15) 5 1 ((joinP WJ).length) ((joinP WJ).flatMap byc))]) (fun _ _ hρ _ => r_call (args := [.slice ar6 ((joinP WJ).length) cr6]) (enters_of Try.func37 (by kernel_rfl) rfl) (hρ _ _ rfl) ((cons2 (hρ _ _ rfl) rfl)) rfl) (fun w hm => (clone_b byc byc_len byc_one (joinP WJ) ar6 cr6 w (SliceAt.own byc_len (hm.row 6 rfl) rfl rfl) (by omega)).mono fun e w' ⟨a', cap', he, hb, hr⟩ => ⟨(a', cap'), trivial, he, hb, newOk1 15 hr⟩) rfl rfl rfl (w_n rfl) ?_
  rintro ⟨ar15, cr15⟩ -
  refine TL_new 16 (.cells #[.int .u8 0] 5) (fun B => .slice (some ⟨B, 0, none⟩) 1 1) (fun _ _ hρ _ => r_buildSlice (vs := [(0, .int .u8 0)]) (by kernel_rfl) (cons2 (pair2 (hρ _ _ rfl)) rfl)) rfl rfl rfl (w_n rfl) ?_
  intro B16
  refine TL_append (n := (joinP WJ).length) (m := 1) (xs := ((joinP WJ).flatMap byc)) (news := [.int .u8 0]) (z := .int .u8 0) 15 rfl rfl rfl sl34 sz5 by5 (by kernel_rfl) rfl rfl (.inl rfl) (fun _ hm => src_blk (news := [.int .u8 0]) (hm.at 16 rfl) rfl) (by simp [Value.oneCell']) (by omega) (by omega) rfl (w_n rfl) ?_
  intro a17 cap17
  have hn18 : ((joinP WJ).length + 1) = (joinP WJ ++ [0#8]).length := by rw [List.length_append]; rfl
  have hx18 : (((joinP WJ).flatMap byc) ++ [.int .u8 0]) = (joinP WJ ++ [0#8]).flatMap byc := by rw [List.flatMap_append]; rfl
  rw [hx18, hn18]
  refine TL_call (.tuple #[.int .i64 19, .int .i64 110]) (fun _ _ hρ _ => r_call (args := [.slice a17 ((joinP WJ ++ [0#8]).length) cap17]) (enters_of Try.func47 (by kernel_rfl) rfl) (hρ _ _ rfl) ((cons2 (hρ _ _ rfl) rfl)) rfl) (fun w hm => (why_c (joinP WJ ++ [0#8]) a17 cap17 w (SliceAt.own byc_len (hm.row 15 rfl) rfl rfl) (row_cap (hm.row 15 rfl)) (by rw [List.length_append, wk_len]; decide)).mono fun _ _ h => ⟨h.1.trans (by rw [show sizeV (joinP WJ ++ [0#8]) = 19 from wk_more.1, show whyE (joinP WJ ++ [0#8]) = 110 from wk_more.2]; rfl), h.2⟩) rfl rfl rfl (w_n rfl) ?_
  refine TL_q (.tuple #[.int .i64 19, .int .i64 110]) (fun _ _ hρ _ => r_move (hρ _ _ rfl)) rfl rfl rfl (w_n rfl) ?_
  refine TL_q (.int .i64 19) (fun _ _ hρ _ => r_extract (hρ _ _ rfl) rfl) rfl rfl rfl (w_n rfl) ?_
  refine TL_q (.int .i64 110) (fun _ _ hρ _ => r_extract (hρ _ _ rfl) rfl) rfl rfl rfl (w_n rfl) ?_
  refine TL_q (.int .i64 19) (fun _ _ hρ _ => r_assign (hρ _ _ rfl)) rfl rfl rfl (w_n rfl) ?_
  refine TL_q (.int .i64 110) (fun _ _ hρ _ => r_assign (hρ _ _ rfl)) rfl rfl rfl (w_n rfl) ?_
  refine TL_seq ?_
  refine T_seq (T_region ?_)
  refine TL_q (.slice ar6 ((joinP WJ).length) cr6) (fun _ _ hρ _ => r_move (hρ _ _ rfl)) rfl rfl rfl (w_n rfl) ?_
  obtain ⟨l19, hl19, hn19⟩ : ∃ lz, lz = (joinP WJ).take 18 ∧ lz.length = 18 := ⟨_, rfl, by rw [List.length_take]; omega⟩
  refine TL_q (.slice ar6 l19.length cr6) (fun ρ _ hρ _ => r_as (r_sliceO sl34 sz5 (hρ _ _ rfl) (bd_none ρ _) (bd_some (n := 18) (hρ _ _ rfl)) (bd_none ρ _) (by simp) (by omega) (by omega) (by omega)) (by rw [hn19]; exact slo_zero _ _ _ _)) rfl rfl rfl (w_n rfl) ?_
  refine TL_call (.tuple #[.slice none 0 0, .int .i64 2]) (fun _ _ hρ _ => r_call (args := [.slice ar6 l19.length cr6, .slice none 0 0]) (enters_of Try.func43 (by kernel_rfl) rfl) (hρ _ _ rfl) ((cons2 (hρ _ _ rfl) (cons2 (hρ _ _ rfl) rfl))) rfl) (fun w hm => app_arg l19 ar6 cr6 w (by have hs := SliceAt.front (l := (joinP WJ)) (SliceAt.own byc_len (hm.row 6 rfl) rfl rfl) (n := 18) (m := cr6) (by omega) (by omega) (by omega); rw [← hl19] at hs; exact hs) (row_cap (hm.row 6 rfl)) [] none 0 (sliceNil w) (by decide) (fun _ h => nomatch h) (by omega) (by decide) (by rw [hl19]; exact wk_torn.2.2)) rfl rfl rfl (w_n rfl) ?_
  refine TL_q (.tuple #[.slice none 0 0, .int .i64 2]) (fun _ _ hρ _ => r_move (hρ _ _ rfl)) rfl rfl rfl (w_n rfl) ?_
  refine TL_q (.slice none 0 0) (fun _ _ hρ _ => r_extract (hρ _ _ rfl) rfl) rfl rfl rfl (w_n rfl) ?_
  refine TL_q (.int .i64 2) (fun _ _ hρ _ => r_extract (hρ _ _ rfl) rfl) rfl rfl rfl (w_n rfl) ?_
  refine TL_q (.slice none 0 0) (fun _ _ hρ _ => r_assign (hρ _ _ rfl)) rfl rfl rfl (w_n rfl) ?_
  refine TL_q (.int .i64 2) (fun _ _ hρ _ => r_assign (hρ _ _ rfl)) rfl rfl rfl (w_n rfl) ?_
  refine TL_seq ?_
  have hs1 : rls nl8 = [[5#8]] := by rw [hsc8, hl7]; exact wk_torn.1
  have hs2 : sizeV l7 = 9 := by rw [hl7]; exact wk_torn.2.1
  have hs3 : nl8.length = 1 := by have := congrArg List.length hs1; rw [rls_len] at this; exact this
  obtain ⟨p, hp⟩ : ∃ x, nl8[0]? = some x := ⟨_, List.getElem?_eq_getElem (by omega)⟩
  have hpl : p.l = [5#8] := by have := congrArg (fun z => z[0]?) hs1; simp only [List.getElem?_map, hp] at this; exact Option.some.inj this
  have hpm := List.mem_of_getElem? hp
  have hpb : p.l.length ≤ 10 := by rw [hpl]; decide
  refine T_row 7 rfl (by omega) (fun g20 ha20 => ?_)
  subst ha20
  refine T_rowcap 7 rfl (fun hrc20 => ?_)
  refine T_seq (T_region ?_)
  refine TL_q (.slice (some ⟨g20, 0, none⟩) nl8.length nc8) (fun _ _ hρ _ => r_move (hρ _ _ rfl)) rfl rfl rfl (w_n rfl) ?_
  refine TL_q (.int .i64 ((nl8.length : Nat) : Int)) (fun _ _ hρ _ => r_len sl63 (hρ _ _ rfl)) rfl rfl rfl (w_n rfl) ?_
  refine TL_q (.bool true) (fun _ _ hρ _ => r_as (r_eql (hρ _ _ rfl) (hρ _ _ rfl)) (bool_as (decide_eq_true (by omega)))) rfl rfl rfl (w_n rfl) ?_
  refine TL_q (.bool true) (fun _ _ hρ _ => r_move (hρ _ _ rfl)) rfl rfl rfl (w_n rfl) ?_
  refine TL_q (.slice (some ⟨g20, 0, none⟩) nl8.length nc8) (fun _ _ hρ _ => r_move (hρ _ _ rfl)) rfl rfl rfl (want_y 89 rfl rfl rfl) ?_
  refine TL_q (.pointer (some ⟨g20, 0, none⟩)) (fun _ _ hρ _ => r_indexAddrS (i := 0) sl63 sz34 (hρ _ _ rfl) (hρ _ _ rfl) (by omega)) rfl rfl rfl (want_y 89 rfl rfl rfl) ?_
  refine TL_q (.slice p.a p.l.length p.cap) (fun _ _ hρ hm => r_loadOwn1 (f := RowG.cells) (u := p) (l := nl8) (i := 0) (s := 1) ag34 (hρ _ _ rfl) (hm.row 7 rfl) rfl rfl RowG.cells_len hp rfl) rfl rfl rfl (want_y 89 rfl rfl rfl) ?_
  refine TL_new 17 (.cells #[.int .u8 5] 5) (fun B => .slice (some ⟨B, 0, none⟩) 1 1) (fun _ _ hρ _ => r_buildSlice (vs := [(0, .int .u8 5)]) (by kernel_rfl) (cons2 (pair2 (hρ _ _ rfl)) rfl)) rfl rfl rfl (want_y 89 rfl rfl rfl) ?_
  intro B21
  refine TL_call (.bool true) (fun _ _ hρ _ => r_call (args := [.slice p.a p.l.length p.cap, .slice (some ⟨B21, 0, none⟩) 1 1]) (enters_of Try.func16 (by kernel_rfl) rfl) (hρ _ _ rfl) ((cons2 (hρ _ _ rfl) (cons2 (hρ _ _ rfl) rfl))) rfl) (fun w hm => (equal_b p.l [5#8] p.a (some ⟨B21, 0, none⟩) p.cap 1 w (poolAt byc_len (hm.pool 8 rfl) hpm) ⟨Nat.le_of_ble_eq_true rfl, (fun e => by cases e), .inr ⟨_, 0, _, _, _, rfl, (hm.at 17 rfl), row_of_take (fun _ => rfl) rfl⟩⟩ (by omega) (Nat.le_of_ble_eq_true rfl)).mono fun _ _ h => ⟨h.1.trans (congrArg Ending.returned (bool_as (decide_eq_true hpl))), h.2⟩) rfl rfl rfl (want_y 89 rfl rfl rfl) ?_
  refine TL_q (.bool true) (fun _ _ hρ _ => r_pick_t (hρ _ _ rfl) (hρ _ _ rfl)) rfl rfl rfl (w_n rfl) ?_
  refine TL_q (.bool true) (fun _ _ hρ _ => r_move (hρ _ _ rfl)) rfl rfl rfl (w_n rfl) ?_
  refine TL_q (.int .i64 ((sizeV l7 : Nat) : Int)) (fun _ _ hρ _ => r_move (hρ _ _ rfl)) rfl rfl rfl (want_y 96 rfl rfl rfl) ?_
  refine TL_q (.bool true) (fun _ _ hρ _ => r_as (r_eql (hρ _ _ rfl) (hρ _ _ rfl)) (bool_as (decide_eq_true (by omega)))) rfl rfl rfl (want_y 96 rfl rfl rfl) ?_
  refine TL_q (.bool true) (fun _ _ hρ _ => r_pick_t (hρ _ _ rfl) (hρ _ _ rfl)) rfl rfl rfl (w_n rfl) ?_
  refine TL_q (.bool true) (fun _ _ hρ _ => r_move (hρ _ _ rfl)) rfl rfl rfl (w_n rfl) ?_
  refine TL_q (.int .i64 110) (fun _ _ hρ _ => r_move (hρ _ _ rfl)) rfl rfl rfl (want_y 100 rfl rfl rfl) ?_
  refine TL_q (.bool true) (fun _ _ hρ _ => r_as (r_eql (hρ _ _ rfl) (hρ _ _ rfl)) (by rfl)) rfl rfl rfl (want_y 100 rfl rfl rfl) ?_
  refine TL_q (.bool true) (fun _ _ hρ _ => r_pick_t (hρ _ _ rfl) (hρ _ _ rfl)) rfl rfl rfl (w_n rfl) ?_
  refine TL_q (.bool true) (fun _ _ hρ _ => r_move (hρ _ _ rfl)) rfl rfl rfl (w_n rfl) ?_
  refine TL_q (.int .i64 3) (fun _ _ hρ _ => r_move (hρ _ _ rfl)) rfl rfl rfl (want_y 104 rfl rfl rfl) ?_
  refine TL_q (.bool true) (fun _ _ hρ _ => r_as (r_eql (hρ _ _ rfl) (hρ _ _ rfl)) (by rfl)) rfl rfl rfl (want_y 104 rfl rfl rfl) ?_
  refine TL_q (.bool true) (fun _ _ hρ _ => r_pick_t (hρ _ _ rfl) (hρ _ _ rfl)) rfl rfl rfl (w_n rfl) ?_
  refine TL_q (.bool true) (fun _ _ hρ _ => r_move (hρ _ _ rfl)) rfl rfl rfl (w_n rfl) ?_
  refine TL_q (.int .i64 120) (fun _ _ hρ _ => r_move (hρ _ _ rfl)) rfl rfl rfl (want_y 108 rfl rfl rfl) ?_
  refine TL_q (.bool true) (fun _ _ hρ _ => r_as (r_eql (hρ _ _ rfl) (hρ _ _ rfl)) (by rfl)) rfl rfl rfl (want_y 108 rfl rfl rfl) ?_
  refine TL_q (.bool true) (fun _ _ hρ _ => r_pick_t (hρ _ _ rfl) (hρ _ _ rfl)) rfl rfl rfl (w_n rfl) ?_
  refine TL_q (.bool true) (fun _ _ hρ _ => r_move (hρ _ _ rfl)) rfl rfl rfl (w_n rfl) ?_
  refine TL_q (.int .i64 19) (fun _ _ hρ _ => r_move (hρ _ _ rfl)) rfl rfl rfl (want_y 112 rfl rfl rfl) ?_
  refine TL_q (.bool true) (fun _ _ hρ _ => r_as (r_eql (hρ _ _ rfl) (hρ _ _ rfl)) (by rfl)) rfl rfl rfl (want_y 112 rfl rfl rfl) ?_
  refine TL_q (.bool true) (fun _ _ hρ _ => r_pick_t (hρ _ _ rfl) (hρ _ _ rfl)) rfl rfl rfl (w_n rfl) ?_
  refine TL_q (.bool true) (fun _ _ hρ _ => r_move (hρ _ _ rfl)) rfl rfl rfl (w_n rfl) ?_
  refine TL_q (.int .i64 110) (fun _ _ hρ _ => r_move (hρ _ _ rfl)) rfl rfl rfl (want_y 116 rfl rfl rfl) ?_
  refine TL_q (.bool true) (fun _ _ hρ _ => r_as (r_eql (hρ _ _ rfl) (hρ _ _ rfl)) (by rfl)) rfl rfl rfl (want_y 116 rfl rfl rfl) ?_
  refine TL_q (.bool true) (fun _ _ hρ _ => r_pick_t (hρ _ _ rfl) (hρ _ _ rfl)) rfl rfl rfl (w_n rfl) ?_
  refine TL_q (.bool true) (fun _ _ hρ _ => r_move (hρ _ _ rfl)) rfl rfl rfl (w_n rfl) ?_
  refine TL_q (.int .i64 2) (fun _ _ hρ _ => r_move (hρ _ _ rfl)) rfl rfl rfl (want_y 120 rfl rfl rfl) ?_
  refine TL_q (.bool true) (fun _ _ hρ _ => r_as (r_eql (hρ _ _ rfl) (hρ _ _ rfl)) (by rfl)) rfl rfl rfl (want_y 120 rfl rfl rfl) ?_
  refine TL_q (.bool true) (fun _ _ hρ _ => r_pick_t (hρ _ _ rfl) (hρ _ _ rfl)) rfl rfl rfl (w_n rfl) ?_
  refine TL_q (.bool true) (fun _ _ hρ _ => r_assign (hρ _ _ rfl)) rfl rfl rfl (w_n rfl) ?_
  refine TL_seq ?_
  refine T_sub [(0, .bool true)] [(15, .row (.slice a17 ((joinP WJ ++ [0#8]).length) cap17) 5 1 ((joinP WJ ++ [0#8]).length) ((joinP WJ ++ [0#8]).flatMap byc)), (14, .row (.slice ar14 (([] : List By).length) cr14) 5 1 (([] : List By).length) (([] : List By).flatMap byc)), (12, .row (.slice ar12 (([] : List By).length) cr12) 5 1 (([] : List By).length) (([] : List By).flatMap byc)), (10, .row (.slice ar10 (([] : List By).length) cr10) 5 1 (([] : List By).length) (([] : List By).flatMap byc)), (7, .row (.slice (some ⟨g20, 0, none⟩) nl8.length nc8) 34 1 nl8.length (nl8.flatMap RowG.cells)), (8, .pool 5 1 byc nl8), (6, .row (.slice ar6 ((joinP WJ).length) cr6) 5 1 ((joinP WJ).length) ((joinP WJ).flatMap byc)), (2, .row (.slice ar2 ((recP [5#8, 6#8]).length) cr2) 5 1 ((recP [5#8, 6#8]).length) ((recP [5#8, 6#8]).flatMap byc)), (1, .blk B1 (.cells #[.int .u8 5, .int .u8 6] 5)), (3, .blk B3 (.cells #[.int .u8 5] 5)), (4, .blk B4 (.cells #[.int .u8 6, .int .u8 7] 5)), (5, .blk B5 (.cells #[.slice (some ⟨B3, 0, none⟩) 1 1, .slice (some ⟨B4, 0, none⟩) 2 2] 34)), (9, .blk B9 (.cells #[.int .u8 0, .int .u8 0, .int .u8 0] 5)), (11, .blk B11 (.cells #[.int .u8 0, .int .u8 1, .int .u8 0, .int .u8 1] 5)), (13, .blk B13 (.cells #[.int .u8 0, .int .u8 0, .int .u8 0, .int .u8 0, .int .u8 1, .int .u8 1, .int .u8 1, .int .u8 1] 5)), (16, .blk B16 (.cells #[.int .u8 0] 5)), (17, .blk B21 (.cells #[.int .u8 5] 5))] (sub_cons rfl sub_nil) (sub_cons rfl (sub_cons rfl (sub_cons rfl (sub_cons rfl (sub_cons rfl (sub_cons rfl (sub_cons rfl (sub_cons rfl (sub_cons rfl (sub_cons rfl (sub_cons rfl (sub_cons rfl (sub_cons rfl (sub_cons rfl (sub_cons rfl (sub_cons rfl (sub_cons rfl sub_nil))))))))))))))))) ?_
  refine T_ret' ?_
  refine ret_of rfl (.bool true) (fun tmps w hk hm => res1 rfl (res_tmp (hk 0 _ rfl))) (fun w hm => ?_)
  exact ⟨rfl, hm.ext⟩
end Go.Proofs.Ytcidgbjgeegepaa
/- Things of one's own taken together. Over any program. -/
namespace Go.Proofs.Ytcidgbjgeegepaa
open Go Go.RowKit
section
variable {α : Type} (K : ShK α)
end
section
variable {α : Type} {K : ShK α} {w₀ w w' : World} {L : Heap} {l : List α} {d : α}
end
/-- What is new in memory, told of two things. -/
theorem ShNew.same {α : Type} {K : ShK α} {w w' : World} {l : List α} {d : α} (hb : Below w.heap.size w w') (hd : K.At w d) (hl : d ∈ l) : ShNew K w w' l d := ⟨hb, K.below hd hb, fun b h => .inr ⟨d, hl, h⟩⟩
end Go.Proofs.Ytcidgbjgeegepaa
/- journal: rows that are written over; what is compared in the laws (plainly). -/
namespace Go.Proofs.Ytcidgbjgeegepaa
open Go Go.RowKit
def isB (v : Value) : Prop := ∃ b : By, v = .int .u8 (b.toNat : Int)
theorem isB_byc : ∀ x, ∀ v ∈ byc x, isB v := fun x v hv => ⟨x, List.mem_singleton.1 hv⟩
theorem o_loadB {P : Program} {w₀ w : World} {L : Heap} {ρ : Operand → Value} {ty : TypeId} {ps : String} {af : Array Edge} {g : Option (Nat × Bool)} {d : Option Tmp} {x : Operand} {t e : TypeId} {B i : Nat} {rs : List (RowG By)} (k : Nat) (hk : lk L k = some (.scr e 1 isB rs)) {r : RowG By} (hr : r ∈ rs) (ha : aggOf P t = some false) (hB : r.a = some ⟨B, 0, none⟩) (hi : i < r.l.length * 1) (hx : ρ x = .pointer (some ⟨B, i, none⟩)) (hm : MemOk w₀ L w) :
    ∃ (b : By) (w' : World), (execOp ρ (mk d (.load t x) ty ps af g)).run P w = .ok (.value (.int .u8 (b.toNat : Int))) w' ∧ MemOk w₀ L w' := by
  obtain ⟨v, ⟨b, rfl⟩, h⟩ := o_loadScr (P := P) (ty := ty) (ps := ps) (af := af) (g := g) (d := d) k hk hr ha hB hi hx hm
  exact ⟨b, w, h, hm⟩
theorem MemOk.rowScr {w₀ w : World} {L : Heap} (h : MemOk w₀ L w) (k j : Nat) {a : Option Addr} {n cap : Nat} {l : List By} (hj : lk L j = some (.row (.slice a n cap) 5 1 n (l.flatMap byc))) (hn : n = l.length) (hne : Nat.beq k j = false) :
    MemOk w₀ ((k, .scr 5 1 isB [(⟨a, cap, l⟩ : RowG By)]) :: (k, .pool 5 1 byc [(⟨a, cap, l⟩ : RowG By)]) :: (j, .no) :: (k, .pool 5 1 byc []) :: L) w := by
  have hkj : k ≠ j := fun e => by subst e; rw [Nat.beq_refl] at hne; cases hne
  have h1 := h.pool0 k 5 1 byc
  have h2 := h1.poolPush k j (lk_cons_same _ _ _) (by rw [lk_cons_other _ _ hkj]; exact hj) hn hne
  exact h2.poolScr k byc_len (lk_cons_same _ _ _) isB_byc
end Go.Proofs.Ytcidgbjgeegepaa
/- Arguments that are slices of what lies in memory (slices of slices ..), read. Over any program. -/
namespace Go.Proofs.Ytcidgbjgeegepaa
open Go Go.RowKit Go.ChangeShapes Go.WideShapes Go.Deep
/-- Cells that are read at this type, in this memory, are those of some x. -/
def RdsAt (P : Program) (w : World) (t : TypeId) {α : Type} (f : α → List Value) (ok : α → Prop) : Prop :=
  ∀ (H : Type) (enc : TypeId × Value → H) (base : Nat) (spare : Nat → Bool) (held : Bool) (fuel : Nat) (cs : List Value) (x : DataW H × List MemPlace), DataW.trod enc P w base spare held fuel t cs = some x → ∃ a, cs = f a ∧ ok a
theorem Rds.at {P : Program} {t : TypeId} {α : Type} {f : α → List Value} {ok : α → Prop} (h : Rds P t f ok) (w : World) : RdsAt P w t f ok := fun H enc base spare held fuel cs x hx => h H enc w base spare held fuel cs x hx
theorem RdsAt.mapIf {P : Program} {w : World} {t : TypeId} {α β : Type} {f : α → List Value} {ok : α → Prop} (h : RdsAt P w t f ok) (g : α → β) {f' : β → List Value} {ok' : β → Prop} (hf : ∀ a, ok a → f a = f' (g a)) (ho : ∀ a, ok a → ok' (g a)) : RdsAt P w t f' ok' := by
  intro H enc base spare held fuel cs x hx
  obtain ⟨a, h1, h2⟩ := h H enc base spare held fuel cs x hx
  exact ⟨g a, by rw [h1, hf a h2], ho a h2⟩
/-- A slice that came in. -/
theorem read_sliceW {P : Program} {t e : TypeId} {s : Nat} {α : Type} {f : α → List Value} {ok : α → Prop} (ht : sliOf P t = some e) (hs : szOf P e = some s) (hf : ∀ x, (f x).length = s) (hsp : 0 < s) {w : World} (h : RdsAt P w e f ok)
    {H : Type} {enc : TypeId × Value → H} {base : Nat} {spare : Nat → Bool} {held : Bool} {fuel : Nat} {cs : List Value} {x : DataW H × List MemPlace} (hx : DataW.trod enc P w base spare held fuel t cs = some x) :
    ∃ (l : List α) (a : Option Addr) (cap : Nat), cs = [.slice a l.length cap] ∧ SliceAt w a cap s f l ∧ (∀ x ∈ l, ok x) ∧ cap ≤ Go.maxLen := by
  rcases open_slice (und_sli ht) hx with ⟨rfl, _⟩ | ⟨a, len, cap, m, n, D, Pl, rfl, hb, hl, hm, hmm, _, hi⟩
  · exact ⟨[], none, 0, rfl, sliceNil w, (fun x hx => by cases hx), by unfold Go.maxLen; omega⟩
  · have hlm : len ≤ m := by rw [hmm]; split <;> omega
    rw [cellsOf_sz hs] at hi
    by_cases h0 : len = 0
    · subst h0
      exact ⟨[], some a, cap, rfl, ⟨by simp, (fun e => by cases e), .inl rfl⟩, (fun x hx => by cases hx), hm⟩
    · obtain ⟨l, h1, h2⟩ := list_of (p := fun i y => (∀ j, j < s → w.cell? ((a.add (i * s)).add j) = (f y)[j]?) ∧ ok y) len (fun i hil => by
        obtain ⟨cs', hc, ht'⟩ := hi i (by omega)
        obtain ⟨y, hy, oy⟩ := h _ enc base spare held n _ _ ht'
        obtain ⟨_, _, hcell⟩ := World.cells?_some hc
        exact ⟨y, fun j hj => by rw [hcell j hj, hy], oy⟩)
      have hl0 : l[0]? = some (l[0]'(by omega)) := List.getElem?_eq_getElem (by omega)
      have hc0 := (h2 0 _ hl0).1 0 hsp
      rw [List.getElem?_eq_getElem (by rw [hf]; exact hsp)] at hc0
      simp only [Nat.zero_mul, Addr.add, if_true] at hc0
      obtain ⟨b, off, sp⟩ := a
      unfold World.cell? at hc0
      split at hc0
      · rename_i c T fz hheap
        split at hc0
        · cases hc0
        · rename_i hspot
          have hsp0 : sp = none := by simpa using hspot
          subst hsp0
          subst h1
          refine ⟨l, some ⟨b, off, none⟩, cap, rfl, ⟨hl, (fun e => by cases e), .inr ⟨b, off, c, T, fz, rfl, hheap, ?_⟩⟩, fun x hx => by obtain ⟨i, hi⟩ := List.getElem?_of_mem hx; exact (h2 i x hi).2, hm⟩
          intro i y hy
          have hcells : ∀ j, j < s → c[off + i * s + j]? = (f y)[j]? := fun j hj => by
            have := (h2 i y hy).1 j hj
            rw [addr_add, addr_add] at this
            simpa [World.cell?, hheap] using this
          have hsz : off + i * s + s ≤ c.size := by
            have := hcells (s - 1) (by omega)
            rw [List.getElem?_eq_getElem (by rw [hf]; omega)] at this
            have := (Array.getElem?_eq_some_iff.1 this).1
            omega
          refine ⟨hsz, ?_⟩
          apply Array.ext_getElem?
          intro j
          rw [Array.getElem?_extract]
          by_cases hj : j < s
          · rw [if_pos (by omega), hcells j hj]; simp
          · rw [if_neg (by omega)]
            rw [Array.getElem?_eq_none]
            simp [hf]; omega
      · cases hc0
theorem rds_slice {P : Program} {w : World} {t e : TypeId} {s : Nat} {α : Type} {f : α → List Value} {ok : α → Prop} (ht : sliOf P t = some e) (hs : szOf P e = some s) (hf : ∀ x, (f x).length = s) (hsp : 0 < s) (h : RdsAt P w e f ok) :
    RdsAt P w t (RowG.cells (α := α)) (fun r => r.ok s f w ∧ (∀ x ∈ r.l, ok x) ∧ r.cap ≤ Go.maxLen) := by
  intro H enc base spare held fuel cs x hx
  obtain ⟨l, a, cap, h1, h2, h3, h4⟩ := read_sliceW ht hs hf hsp h hx
  exact ⟨⟨a, cap, l⟩, h1, h2, h3, h4⟩
section
variable {P : Program} {w : World} {r : Reach} {b0 : Nat} {t : TypeId} {v : Value} {H : Type} {enc : TypeId × Value → H} {base : Nat} {spare : Nat → Bool} {held : Bool} {d : DataW H} {ps : List MemPlace}
theorem param_sliceW {e : TypeId} {s : Nat} {α : Type} {f : α → List Value} {ok : α → Prop} (ht : sliOf P t = some e) (hs : szOf P e = some s) (hf : ∀ x, (f x).length = s) (hsp : 0 < s) (hr : RdsAt P w e f ok) (hv : Value.okWide P w r b0 t v) (h : DataW.Trod enc P w base spare held t v d ps) :
    ∃ (l : List α) (a : Option Addr) (cap : Nat), v = .slice a l.length cap ∧ SliceAt w a cap s f l ∧ (∀ x ∈ l, ok x) ∧ cap ≤ Go.maxLen := by
  obtain ⟨fuel, hf'⟩ := h
  obtain ⟨l, a, cap, h1, h2, h3, h4⟩ := read_sliceW ht hs hf hsp hr hf'
  refine ⟨l, a, cap, ?_, h2, h3, h4⟩
  unfold Value.okWide at hv
  rw [und_sli ht] at hv
  cases v with
  | agg cs => simp [Cell.okWide, und_sli ht, Cell.ok] at hv
  | _ => simp [Value.cells] at h1 <;> simp [h1]
end
end Go.Proofs.Ytcidgbjgeegepaa
/- journal: arguments of the laws, read. -/
namespace Go.Proofs.Ytcidgbjgeegepaa
open Go Go.RowKit Go.ChangeShapes Go.WideShapes
set_option maxRecDepth 10000
theorem Rds.mapIf {P : Program} {t : TypeId} {α β : Type} {f : α → List Value} {ok : α → Prop} (h : Rds P t f ok) (g : α → β) {f' : β → List Value} (hf : ∀ a, ok a → f a = f' (g a)) : Rds P t f' (fun _ => True) := by
  intro H enc w base spare held fuel cs x hx
  obtain ⟨a, h1, h2⟩ := h H enc w base spare held fuel cs x hx
  exact ⟨g a, by rw [h1, hf a h2], trivial⟩
theorem byte_back {n : Int} (h : (Lit.int .u8 n).wf = true) : ((BitVec.ofNat 8 n.toNat).toNat : Int) = n := by
  have := wf_u8 h
  rw [BitVec.toNat_ofNat]; omega
theorem rds_byte : Rds Try.prog 5 byc (fun _ => True) := (rds_int io5).mapIf (fun n => BitVec.ofNat 8 n.toNat) (fun n h => by show [Value.int .u8 n] = [Value.int .u8 _]; rw [byte_back h])
theorem rds_row (w : World) : RdsAt Try.prog w 34 RowG.cells (fun r : RowG By => SliceAt w r.a r.cap 1 byc r.l ∧ r.cap ≤ Go.maxLen) :=
  RdsAt.mapIf (rds_slice sl34 sz5 byc_len (by decide) (rds_byte.at w)) (fun p => p) (fun _ _ => rfl) (fun _ h => ⟨h.1, h.2.2⟩)
end Go.Proofs.Ytcidgbjgeegepaa
/- net and journal: JournalTorn. Printed by a program of this seat's prover. -/
namespace Go.Proofs.Ytcidgbjgeegepaa
open Go Go.RowKit
set_option maxRecDepth 10000
theorem rls_all {n : List (RowG By)} {m : Nat} (h : ∀ r ∈ n, r.l.length ≤ m) : ∀ q ∈ rls n, q.length ≤ m := fun q hq => by
  obtain ⟨r, hr, rfl⟩ := List.mem_map.1 hq
  exact h r hr

end Go.Proofs.Ytcidgbjgeegepaa
