/- Texts of this seat, merged: part 6. -/
import Derived.Test.YtcidgbjgeegepaaMg5
/- net and journal: JournalJoins. Printed by a program of this seat's prover. -/
namespace Go.Proofs.Ytcidgbjgeegepaa
open Go Go.RowKit
set_option maxRecDepth 10000
set_option maxHeartbeats 4000000 in
theorem jjoins_c (xs : List (RowG By)) (a : Option Addr) (cap : Nat) (y : List By) (b : Option Addr) (capb : Nat) (w : World) (hv : SliceAt w a cap 1 RowG.cells xs) (hcap : cap ≤ Go.maxLen) (hx : RowsIn w xs) (hu : SliceAt w b capb 1 byc y) (hcapb : capb ≤ Go.maxLen) : Calls Try.prog 6 #[.slice a xs.length cap, .slice b y.length capb] w fun e w' => e = .returned (.bool true) ∧ Below w.heap.size w w' := by
  have hvl := hv.1
  have hcp := hcap
  have hul := hu.1
  have hcp2 := hcapb
  unfold Go.maxLen at hcp hcp2
  refine calls_of_T (l := [.slice a xs.length cap, .slice b y.length capb]) 161 Try.func6 rfl rfl rfl ?_
  show T _ _ _ [(0, .slice a xs.length cap), (1, .slice b y.length capb)] []
  refine T_seq (T_region ?_)
  refine TL_q (.bool false) (fun _ _ hρ _ => r_assign (hρ _ _ rfl)) rfl rfl rfl (w_n rfl) ?_
  refine TL_seq ?_
  refine T_seq ?_
  refine T_seq (T_region ?_)
  refine TL_call (.bool true) (fun _ _ hρ _ => r_call (args := []) (enters_of Try.func35 (by kernel_rfl) rfl) (hρ _ _ rfl) (by rfl) rfl) (fun w _ => jwakes_c w) rfl rfl rfl (w_n rfl) ?_
  refine TL_q (.bool false) (fun _ _ hρ _ => r_not (b := true) (hρ _ _ rfl)) rfl rfl rfl (w_n rfl) ?_
  refine TL_seq ?_
  refine T_cond_f rfl ?_
  refine T_skip' ?_
  refine p_seq ?_
  obtain ⟨l2, hl2, hn2⟩ : ∃ lz, lz = y.take (min y.length 400) ∧ lz.length = min y.length 400 := ⟨_, rfl, by rw [List.length_take]; omega⟩
  have hs2 := SliceAt.front hu (n := min y.length 400) (m := capb) (by omega) (by omega) (by omega)
  rw [← hl2] at hs2
  refine T_seq (T_draw (V := [(0, .slice a xs.length cap), (2, .slice b y.length capb), (3, .slice b y.length capb), (4, .int .i64 ((y.length : Nat) : Int)), (5, .int .i64 ((min y.length 400 : Nat) : Int)), (6, .slice b l2.length capb)]) [0, 1, 0, 0, 8, 24, 60, 127, 255, 511] [[(0, none)], [(27, some 0)], [(1, none)], [(1, none)], [(30, some 3)], [(31, some 4)], [(29, some 2), (32, some 5)], [(33, some 6)], [(28, some 1)], [(34, some 7)]] 130 mixed (by kernel_rfl) ?_)
  refine G_step [0, 2, 3, 4, 5, 6] 1 [] (by kernel_rfl) (allM (all_cons (q_run (.slice a xs.length cap) rfl rfl (wv_n rfl) rfl (fun _ _ hρ _ => r_move (hρ _ _ rfl))) (all_cons (q_run (.slice b y.length capb) rfl rfl (wv_n rfl) rfl (fun _ _ hρ _ => r_move (hρ _ _ rfl))) (all_cons (q_run (.slice b y.length capb) rfl rfl (wv_n rfl) rfl (fun _ _ hρ _ => r_move (hρ _ _ rfl))) (all_cons (q_run (.int .i64 ((y.length : Nat) : Int)) rfl rfl (wv_n rfl) rfl (fun _ _ hρ _ => r_len sl34 (hρ _ _ rfl))) (all_cons (q_run (.int .i64 ((min y.length 400 : Nat) : Int)) rfl rfl (wv_n rfl) rfl (fun _ _ hρ _ => r_as (r_min (hρ _ _ rfl) (hρ _ _ rfl)) (int_as (minI _ 400)))) (all_cons (q_run (.slice b l2.length capb) rfl rfl (wv_n rfl) rfl (fun ρ _ hρ _ => r_as (r_sliceO sl34 sz5 (hρ _ _ rfl) (bd_none ρ _) (bd_some (n := min y.length 400) (hρ _ _ rfl)) (bd_none ρ _) (by simp) (by omega) (by omega) (by omega)) (by rw [hn2]; exact slo_zero _ _ _ _))) all_nil))))))) (allM (all_cons ?_ all_nil))
  refine LOb_callN (fun ((fa4, fc4, fl4) : Option Addr × Nat × List (RowG By)) => rls fl4 = fewR (rls xs)) (fun (fa4, fc4, fl4) => .slice fa4 fl4.length fc4) (fun (fa4, fc4, fl4) => [(1, .row (.slice fa4 fl4.length fc4) 34 1 fl4.length (fl4.flatMap RowG.cells)), (2, .pool 5 1 byc fl4)]) (fun (fa4, fc4, fl4) => []) rfl (wv_n rfl) rfl rfl (fun _ _ hρ _ => r_call (args := [.slice a xs.length cap]) (enters_of Try.func36 (by kernel_rfl) rfl) (hρ _ _ rfl) ((cons2 (hρ _ _ rfl) rfl)) rfl) (fun w hm => (fewr_c xs a cap w (hv.keep hm.ext) hcap (hx.keep hm.ext)).mono fun e w' ⟨n, hf, he, hb, r1, r2, hs⟩ => ⟨(n.a, n.cap, n.l), hf, he, hb, newOk2 1 2 r1 r2 hs⟩) (fun (fa4, fc4, fl4) => by kernel_rfl) ?_
  rintro ⟨fa4, fc4, fl4⟩ hfw4
  refine G_step [2, 3, 4, 5, 6] 7 [] (by kernel_rfl) (allM (all_cons (q_run (.slice b y.length capb) rfl rfl (wv_n rfl) rfl (fun _ _ hρ _ => r_move (hρ _ _ rfl))) (all_cons (q_run (.slice b y.length capb) rfl rfl (wv_n rfl) rfl (fun _ _ hρ _ => r_move (hρ _ _ rfl))) (all_cons (q_run (.int .i64 ((y.length : Nat) : Int)) rfl rfl (wv_n rfl) rfl (fun _ _ hρ _ => r_len sl34 (hρ _ _ rfl))) (all_cons (q_run (.int .i64 ((min y.length 400 : Nat) : Int)) rfl rfl (wv_n rfl) rfl (fun _ _ hρ _ => r_as (r_min (hρ _ _ rfl) (hρ _ _ rfl)) (int_as (minI _ 400)))) (all_cons (q_run (.slice b l2.length capb) rfl rfl (wv_n rfl) rfl (fun ρ _ hρ _ => r_as (r_sliceO sl34 sz5 (hρ _ _ rfl) (bd_none ρ _) (bd_some (n := min y.length 400) (hρ _ _ rfl)) (bd_none ρ _) (by simp) (by omega) (by omega) (by omega)) (by rw [hn2]; exact slo_zero _ _ _ _))) all_nil)))))) (allM (all_cons ?_ all_nil))
  refine LOb_callN (fun (_ : Option Addr × Nat) => True) (fun (ar5, cr5) => .slice ar5 ((l2).length) cr5) (fun (ar5, cr5) => [(3, .row (.slice ar5 ((l2).length) cr5) 5 1 ((l2).length) ((l2).flatMap byc))]) (fun (ar5, cr5) => [(8, .slice fa4 fl4.length fc4), (9, .slice ar5 ((l2).length) cr5)]) rfl (wv_n rfl) rfl rfl (fun _ _ hρ _ => r_call (args := [.slice b l2.length capb]) (enters_of Try.func37 (by kernel_rfl) rfl) (hρ _ _ rfl) ((cons2 (hρ _ _ rfl) rfl)) rfl) (fun w hm => (clone_b byc byc_len byc_one l2 b capb w (hs2.keep hm.ext) (by omega)).mono fun e w' ⟨a', cap', he, hb, hr⟩ => ⟨(a', cap'), trivial, he, hb, newOk1 3 hr⟩) (fun (ar5, cr5) => by kernel_rfl) ?_
  rintro ⟨ar5, cr5⟩ -
  refine G_last [8, 9] [(0, .slice a xs.length cap), (1, .slice b y.length capb), (4, .bool false), (5, .slice fa4 fl4.length fc4), (6, .slice ar5 ((l2).length) cr5)] (by kernel_rfl) (allM (all_cons (q_run (.slice fa4 fl4.length fc4) rfl rfl (wv_n rfl) rfl (fun _ _ hρ _ => r_assign (hρ _ _ rfl))) (all_cons (q_run (.slice ar5 ((l2).length) cr5) rfl rfl (wv_n rfl) rfl (fun _ _ hρ _ => r_assign (hρ _ _ rfl))) all_nil))) (end_old rfl rfl (end_old rfl rfl (end_old rfl rfl (end_new 8 rfl rfl (end_new 9 rfl rfl end_nil))))) ?_
  have hnl6 : fl4.length ≤ 6 := by have := fewR_len (rls xs); rw [← hfw4, rls_len] at this; exact this
  have hnb : ∀ r ∈ fl4, r.l.length ≤ 65537 := rls_le hfw4 (fewR_le _)
  refine T_rowcap 3 rfl (fun hrcb => ?_)
  by_cases h65 : ∀ r ∈ fl4, r.l.length ≤ 65536
  · skip
    refine T_seq (T_region ?_)
    refine TL_q (.slice fa4 fl4.length fc4) (fun _ _ hρ _ => r_move (hρ _ _ rfl)) rfl rfl rfl (w_n rfl) ?_
    refine TL_callN (fun (_ : Option Addr × Nat) => True) (fun (ar6, cr6) => .tuple #[.slice ar6 ((joinP (rls fl4)).length) cr6, .int .i64 0]) (fun (ar6, cr6) => [(4, .row (.slice ar6 ((joinP (rls fl4)).length) cr6) 5 1 ((joinP (rls fl4)).length) ((joinP (rls fl4)).flatMap byc))]) (fun _ _ hρ _ => r_call (args := [.slice fa4 fl4.length fc4]) (enters_of Try.func38 (by kernel_rfl) rfl) (hρ _ _ rfl) ((cons2 (hρ _ _ rfl) rfl)) rfl) (fun w hm => (join_ok fl4 fa4 fc4 w (SliceAt.own RowG.cells_len (hm.row 1 rfl) rfl rfl) (row_cap (hm.row 1 rfl)) (fun r hr => ⟨poolAt byc_len (hm.pool 2 rfl) hr, poolCap (hm.pool 2 rfl) hr⟩) (by omega) h65).mono fun e w' ⟨a', cap', he, hb, hr⟩ => ⟨(a', cap'), trivial, he, hb, newOk1 4 hr⟩) rfl rfl rfl (w_n rfl) ?_
    rintro ⟨ar6, cr6⟩ -
    refine TL_q (.tuple #[.slice ar6 ((joinP (rls fl4)).length) cr6, .int .i64 0]) (fun _ _ hρ _ => r_move (hρ _ _ rfl)) rfl rfl rfl (w_n rfl) ?_
    refine TL_q (.slice ar6 ((joinP (rls fl4)).length) cr6) (fun _ _ hρ _ => r_extract (hρ _ _ rfl) rfl) rfl rfl rfl (w_n rfl) ?_
    refine TL_q (.int .i64 0) (fun _ _ hρ _ => r_extract (hρ _ _ rfl) rfl) rfl rfl rfl (w_n rfl) ?_
    refine TL_q (.slice ar6 ((joinP (rls fl4)).length) cr6) (fun _ _ hρ _ => r_assign (hρ _ _ rfl)) rfl rfl rfl (w_n rfl) ?_
    refine TL_q (.int .i64 0) (fun _ _ hρ _ => r_assign (hρ _ _ rfl)) rfl rfl rfl (w_n rfl) ?_
    refine TL_seq ?_
    refine T_seq (T_region ?_)
    refine TL_q (.slice fa4 fl4.length fc4) (fun _ _ hρ _ => r_move (hρ _ _ rfl)) rfl rfl rfl (w_n rfl) ?_
    refine TL_callN (fun (_ : Option Addr × Nat) => True) (fun (ar7, cr7) => .tuple #[.slice ar7 ((joinP (rls fl4)).length) cr7, .bool true]) (fun (ar7, cr7) => [(5, .row (.slice ar7 ((joinP (rls fl4)).length) cr7) 5 1 ((joinP (rls fl4)).length) ((joinP (rls fl4)).flatMap byc))]) (fun _ _ hρ _ => r_call (args := [.slice fa4 fl4.length fc4]) (enters_of Try.func39 (by kernel_rfl) rfl) (hρ _ _ rfl) ((cons2 (hρ _ _ rfl) rfl)) rfl) (fun w hm => (rjoin_ok fl4 fa4 fc4 w (SliceAt.own RowG.cells_len (hm.row 1 rfl) rfl rfl) (row_cap (hm.row 1 rfl)) (fun r hr => ⟨poolAt byc_len (hm.pool 2 rfl) hr, poolCap (hm.pool 2 rfl) hr⟩) (by omega) h65).mono fun e w' ⟨a', cap', he, hb, hr⟩ => ⟨(a', cap'), trivial, he, hb, newOk1 5 hr⟩) rfl rfl rfl (w_n rfl) ?_
    rintro ⟨ar7, cr7⟩ -
    refine TL_q (.tuple #[.slice ar7 ((joinP (rls fl4)).length) cr7, .bool true]) (fun _ _ hρ _ => r_move (hρ _ _ rfl)) rfl rfl rfl (w_n rfl) ?_
    refine TL_q (.slice ar7 ((joinP (rls fl4)).length) cr7) (fun _ _ hρ _ => r_extract (hρ _ _ rfl) rfl) rfl rfl rfl (w_n rfl) ?_
    refine TL_q (.bool true) (fun _ _ hρ _ => r_extract (hρ _ _ rfl) rfl) rfl rfl rfl (w_n rfl) ?_
    refine TL_q (.slice ar7 ((joinP (rls fl4)).length) cr7) (fun _ _ hρ _ => r_assign (hρ _ _ rfl)) rfl rfl rfl (w_n rfl) ?_
    refine TL_q (.bool true) (fun _ _ hρ _ => r_assign (hρ _ _ rfl)) rfl rfl rfl (w_n rfl) ?_
    refine TL_seq ?_
    refine T_seq ?_
    have h65r : ∀ q ∈ rls fl4, q.length ≤ 65536 := rls_all h65
    have hJ := joined h65r
    have hjl : (joinP (rls fl4)).length ≤ 400000 := by have := join_bound (rs := fl4) (k := fl4.length) (by rw [List.take_length]; exact h65); rw [List.take_length, show (rls fl4).take fl4.length = rls fl4 by rw [← List.map_take, List.take_length]] at this; omega
    refine T_rowcap 5 rfl (fun hrcj => ?_)
    have hJw : whyE (joinP (rls fl4)) = 0 := whyE_ok.2 hJ.2.1
    refine T_seq (T_region ?_)
    refine TL_q (.int .i64 0) (fun _ _ hρ _ => r_move (hρ _ _ rfl)) rfl rfl rfl (w_n rfl) ?_
    refine TL_q (.bool true) (fun _ _ hρ _ => r_as (r_eql (hρ _ _ rfl) (hρ _ _ rfl)) (by rfl)) rfl rfl rfl (w_n rfl) ?_
    refine TL_q (.bool true) (fun _ _ hρ _ => r_move (hρ _ _ rfl)) rfl rfl rfl (w_n rfl) ?_
    refine TL_q (.bool false) (fun _ _ hρ _ => r_as (r_neqB (by kernel_rfl) (hρ _ _ rfl) (hρ _ _ rfl)) (by rfl)) rfl rfl rfl (w_n rfl) ?_
    refine TL_q (.bool false) (fun _ _ hρ _ => r_move (hρ _ _ rfl)) rfl rfl rfl (w_n rfl) ?_
    refine TL_q (.bool true) (fun _ _ hρ _ => r_move (hρ _ _ rfl)) rfl rfl rfl (want_y 49 rfl rfl rfl) ?_
    refine TL_q (.bool false) (fun _ _ hρ _ => r_not (b := true) (hρ _ _ rfl)) rfl rfl rfl (want_y 49 rfl rfl rfl) ?_
    refine TL_q (.bool false) (fun _ _ hρ _ => r_move (hρ _ _ rfl)) rfl rfl rfl (want_y 49 rfl rfl rfl) ?_
    refine TL_no rfl rfl (want_n 52 rfl rfl rfl) ?_
    refine TL_no rfl rfl (want_n 52 rfl rfl rfl) ?_
    refine TL_q (.bool false) (fun _ _ hρ _ => r_pick_f (hρ _ _ rfl) (hρ _ _ rfl)) rfl rfl rfl (want_y 49 rfl rfl rfl) ?_
    refine TL_q (.bool false) (fun _ _ hρ _ => r_pick_f (hρ _ _ rfl) (hρ _ _ rfl)) rfl rfl rfl (w_n rfl) ?_
    refine TL_q (.bool false) (fun _ _ hρ _ => r_move (hρ _ _ rfl)) rfl rfl rfl (w_n rfl) ?_
    refine TL_q (.slice ar6 ((joinP (rls fl4)).length) cr6) (fun _ _ hρ _ => r_move (hρ _ _ rfl)) rfl rfl rfl (want_y 57 rfl rfl rfl) ?_
    refine TL_q (.slice ar7 ((joinP (rls fl4)).length) cr7) (fun _ _ hρ _ => r_move (hρ _ _ rfl)) rfl rfl rfl (want_y 57 rfl rfl rfl) ?_
    refine TL_call (.bool true) (fun _ _ hρ _ => r_call (args := [.slice ar6 ((joinP (rls fl4)).length) cr6, .slice ar7 ((joinP (rls fl4)).length) cr7]) (enters_of Try.func16 (by kernel_rfl) rfl) (hρ _ _ rfl) ((cons2 (hρ _ _ rfl) (cons2 (hρ _ _ rfl) rfl))) rfl) (fun w hm => (equal_b (joinP (rls fl4)) (joinP (rls fl4)) ar6 ar7 cr6 cr7 w (SliceAt.own byc_len (hm.row 4 rfl) rfl rfl) (SliceAt.own byc_len (hm.row 5 rfl) rfl rfl) (by first | omega | (rw [List.length_append]; omega)) (by first | omega | (rw [List.length_append]; omega))).mono fun _ _ h => ⟨h.1.trans (congrArg Ending.returned (bool_as (decide_eq_true rfl))), h.2⟩) rfl rfl rfl (want_y 57 rfl rfl rfl) ?_
    refine TL_q (.bool false) (fun _ _ hρ _ => r_not (b := true) (hρ _ _ rfl)) rfl rfl rfl (want_y 57 rfl rfl rfl) ?_
    refine TL_q (.bool false) (fun _ _ hρ _ => r_pick_f (hρ _ _ rfl) (hρ _ _ rfl)) rfl rfl rfl (w_n rfl) ?_
    refine TL_seq ?_
    refine T_sub [(0, .slice a xs.length cap), (1, .slice b y.length capb), (4, .bool false), (5, .slice fa4 fl4.length fc4), (6, .slice ar5 ((l2).length) cr5), (7, .slice ar6 ((joinP (rls fl4)).length) cr6), (9, .slice ar7 ((joinP (rls fl4)).length) cr7), (10, .bool true), (62, .bool false)] [(5, .row (.slice ar7 ((joinP (rls fl4)).length) cr7) 5 1 ((joinP (rls fl4)).length) ((joinP (rls fl4)).flatMap byc)), (4, .row (.slice ar6 ((joinP (rls fl4)).length) cr6) 5 1 ((joinP (rls fl4)).length) ((joinP (rls fl4)).flatMap byc)), (3, .row (.slice ar5 ((l2).length) cr5) 5 1 ((l2).length) ((l2).flatMap byc)), (1, .row (.slice fa4 fl4.length fc4) 34 1 fl4.length (fl4.flatMap RowG.cells)), (2, .pool 5 1 byc fl4)] (sub_cons rfl (sub_cons rfl (sub_cons rfl (sub_cons rfl (sub_cons rfl (sub_cons rfl (sub_cons rfl (sub_cons rfl (sub_cons rfl sub_nil))))))))) (sub_cons rfl (sub_cons rfl (sub_cons rfl (sub_cons rfl (sub_cons rfl sub_nil))))) ?_
    refine T_cond_f rfl ?_
    refine T_skip' ?_
    refine p_seq ?_
    refine T_seq ?_
    refine T_seq (T_region ?_)
    refine TL_q (.slice fa4 fl4.length fc4) (fun _ _ hρ _ => r_move (hρ _ _ rfl)) rfl rfl rfl (w_n rfl) ?_
    refine TL_q (.int .i64 ((fl4.length : Nat) : Int)) (fun _ _ hρ _ => r_len sl63 (hρ _ _ rfl)) rfl rfl rfl (w_n rfl) ?_
    refine TL_q (.int .i64 0) (fun _ _ hρ _ => r_move (hρ _ _ rfl)) rfl rfl rfl (w_n rfl) ?_
    refine TL_seq ?_
    refine T_block ?_
    refine T_loop (ι := Nat) (fun (k : Nat) => k ≤ fl4.length) (fun (k : Nat) => [(0, .slice a xs.length cap), (1, .slice b y.length capb), (5, .slice fa4 fl4.length fc4), (6, .slice ar5 ((l2).length) cr5), (7, .slice ar6 ((joinP (rls fl4)).length) cr6), (9, .slice ar7 ((joinP (rls fl4)).length) cr7), (10, .bool true), (63, .slice fa4 fl4.length fc4), (64, .int .i64 ((fl4.length : Nat) : Int)), (65, .int .i64 ((k : Nat) : Int))]) (fun (k : Nat) => [(5, .row (.slice ar7 ((joinP (rls fl4)).length) cr7) 5 1 ((joinP (rls fl4)).length) ((joinP (rls fl4)).flatMap byc)), (4, .row (.slice ar6 ((joinP (rls fl4)).length) cr6) 5 1 ((joinP (rls fl4)).length) ((joinP (rls fl4)).flatMap byc)), (3, .row (.slice ar5 ((l2).length) cr5) 5 1 ((l2).length) ((l2).flatMap byc)), (1, .row (.slice fa4 fl4.length fc4) 34 1 fl4.length (fl4.flatMap RowG.cells)), (2, .pool 5 1 byc fl4)]) (fun (k : Nat) => fl4.length - k) 0 (Nat.zero_le _) (sub_cons rfl (sub_cons rfl (sub_cons rfl (sub_cons rfl (sub_cons rfl (sub_cons rfl (sub_cons rfl (sub_cons rfl (sub_cons rfl (sub_cons rfl sub_nil)))))))))) (sub_cons rfl (sub_cons rfl (sub_cons rfl (sub_cons rfl (sub_cons rfl sub_nil))))) ?_
    rintro k hp
    have hk := hp
    show T _ _ _ [(0, .slice a xs.length cap), (1, .slice b y.length capb), (5, .slice fa4 fl4.length fc4), (6, .slice ar5 ((l2).length) cr5), (7, .slice ar6 ((joinP (rls fl4)).length) cr6), (9, .slice ar7 ((joinP (rls fl4)).length) cr7), (10, .bool true), (63, .slice fa4 fl4.length fc4), (64, .int .i64 ((fl4.length : Nat) : Int)), (65, .int .i64 ((k : Nat) : Int))] [(5, .row (.slice ar7 ((joinP (rls fl4)).length) cr7) 5 1 ((joinP (rls fl4)).length) ((joinP (rls fl4)).flatMap byc)), (4, .row (.slice ar6 ((joinP (rls fl4)).length) cr6) 5 1 ((joinP (rls fl4)).length) ((joinP (rls fl4)).flatMap byc)), (3, .row (.slice ar5 ((l2).length) cr5) 5 1 ((l2).length) ((l2).flatMap byc)), (1, .row (.slice fa4 fl4.length fc4) 34 1 fl4.length (fl4.flatMap RowG.cells)), (2, .pool 5 1 byc fl4)]
    refine T_seq (T_region ?_)
    refine TL_q (.bool (decide (((k : Nat) : Int) < ((fl4.length : Nat) : Int)))) (fun _ _ hρ _ => r_lss (hρ _ _ rfl) (hρ _ _ rfl)) rfl rfl rfl (w_n rfl) ?_
    refine TL_seq ?_
    refine T_seq ?_
    refine T_cond rfl (fun h1 => ?_) (fun h1 => ?_)
    · replace h1 := of_decide_eq_true h1
      refine T_skip' ?_
      refine p_seq ?_
      refine T_seq ?_
      refine T_block ?_
      obtain ⟨p, hp9⟩ : ∃ x, fl4[k]? = some x := ⟨_, List.getElem?_eq_getElem (by omega)⟩
      have hpm := List.mem_of_getElem? hp9
      have hpb := hnb p hpm
      have hrp := recP_len p.l
      refine T_row 1 rfl (by omega) (fun g8 ha8 => ?_)
      subst ha8
      refine T_rowcap 1 rfl (fun hrc8 => ?_)
      refine T_seq (T_region ?_)
      refine TL_q (.pointer (some ⟨g8, 0 + k * 1, none⟩)) (fun _ _ hρ _ => r_indexAddrS (i := k) sl63 sz34 (hρ _ _ rfl) (hρ _ _ rfl) (by omega)) rfl rfl rfl (w_n rfl) ?_
      refine TL_q (.slice p.a p.l.length p.cap) (fun _ _ hρ hm => r_loadOwn1 (f := RowG.cells) (u := p) (l := fl4) ag34 (hρ _ _ rfl) (hm.row 1 rfl) rfl rfl RowG.cells_len hp9 rfl) rfl rfl rfl (w_n rfl) ?_
      refine TL_q (.slice p.a p.l.length p.cap) (fun _ _ hρ _ => r_assign (hρ _ _ rfl)) rfl rfl rfl (w_n rfl) ?_
      refine TL_seq ?_
      by_cases hp6 : p.l.length ≤ 65536
      · skip
        refine T_seq (T_region ?_)
        refine TL_q (.slice p.a p.l.length p.cap) (fun _ _ hρ _ => r_move (hρ _ _ rfl)) rfl rfl rfl (w_n rfl) ?_
        refine TL_callN (fun (_ : Option Addr × Nat) => True) (fun (ar9, cr9) => .tuple #[.slice ar9 ((recP p.l).length) cr9, .int .i64 0]) (fun (ar9, cr9) => [(6, .row (.slice ar9 ((recP p.l).length) cr9) 5 1 ((recP p.l).length) ((recP p.l).flatMap byc))]) (fun _ _ hρ _ => r_call (args := [.slice p.a p.l.length p.cap]) (enters_of Try.func40 (by kernel_rfl) rfl) (hρ _ _ rfl) ((cons2 (hρ _ _ rfl) rfl)) rfl) (fun w hm => (jrec_ok p.l p.a p.cap w (poolAt byc_len (hm.pool 2 rfl) hpm) (poolCap (hm.pool 2 rfl) hpm) hp6).mono fun e w' ⟨a', cap', he, hb, hr⟩ => ⟨(a', cap'), trivial, he, hb, newOk1 6 hr⟩) rfl rfl rfl (w_n rfl) ?_
        rintro ⟨ar9, cr9⟩ -
        refine TL_q (.tuple #[.slice ar9 ((recP p.l).length) cr9, .int .i64 0]) (fun _ _ hρ _ => r_move (hρ _ _ rfl)) rfl rfl rfl (w_n rfl) ?_
        refine TL_q (.slice ar9 ((recP p.l).length) cr9) (fun _ _ hρ _ => r_extract (hρ _ _ rfl) rfl) rfl rfl rfl (w_n rfl) ?_
        refine TL_q (.int .i64 0) (fun _ _ hρ _ => r_extract (hρ _ _ rfl) rfl) rfl rfl rfl (w_n rfl) ?_
        refine TL_q (.slice ar9 ((recP p.l).length) cr9) (fun _ _ hρ _ => r_assign (hρ _ _ rfl)) rfl rfl rfl (w_n rfl) ?_
        refine TL_q (.int .i64 0) (fun _ _ hρ _ => r_assign (hρ _ _ rfl)) rfl rfl rfl (w_n rfl) ?_
        refine TL_seq ?_
        refine T_seq (T_region ?_)
        refine TL_q (.slice p.a p.l.length p.cap) (fun _ _ hρ _ => r_move (hρ _ _ rfl)) rfl rfl rfl (w_n rfl) ?_
        refine TL_q (.int .i64 ((p.l.length : Nat) : Int)) (fun _ _ hρ _ => r_len sl34 (hρ _ _ rfl)) rfl rfl rfl (w_n rfl) ?_
        refine TL_q (.bool false) (fun _ _ hρ _ => r_as (r_gtr (hρ _ _ rfl) (hρ _ _ rfl)) (bool_as (decide_eq_false (by omega)))) rfl rfl rfl (w_n rfl) ?_
        refine TL_seq ?_
        refine T_cond_f rfl ?_
        refine T_seq (T_region ?_)
        refine TL_q (.int .i64 0) (fun _ _ hρ _ => r_move (hρ _ _ rfl)) rfl rfl rfl (w_n rfl) ?_
        refine TL_q (.bool false) (fun _ _ hρ _ => r_as (r_neq (hρ _ _ rfl) (hρ _ _ rfl)) (by rfl)) rfl rfl rfl (w_n rfl) ?_
        refine TL_q (.bool false) (fun _ _ hρ _ => r_move (hρ _ _ rfl)) rfl rfl rfl (w_n rfl) ?_
        refine TL_q (.slice ar9 ((recP p.l).length) cr9) (fun _ _ hρ _ => r_move (hρ _ _ rfl)) rfl rfl rfl (want_y 86 rfl rfl rfl) ?_
        refine TL_q (.slice p.a p.l.length p.cap) (fun _ _ hρ _ => r_move (hρ _ _ rfl)) rfl rfl rfl (want_y 86 rfl rfl rfl) ?_
        refine TL_callN (fun (_ : Option Addr × Nat) => True) (fun (ar10, cr10) => .slice ar10 ((recP p.l).length) cr10) (fun (ar10, cr10) => [(7, .row (.slice ar10 ((recP p.l).length) cr10) 5 1 ((recP p.l).length) ((recP p.l).flatMap byc))]) (fun _ _ hρ _ => r_call (args := [.slice p.a p.l.length p.cap]) (enters_of Try.func41 (by kernel_rfl) rfl) (hρ _ _ rfl) ((cons2 (hρ _ _ rfl) rfl)) rfl) (fun w hm => (rrec_c p.l p.a p.cap w (poolAt byc_len (hm.pool 2 rfl) hpm) (poolCap (hm.pool 2 rfl) hpm) hp6).mono fun e w' ⟨a', cap', he, hb, hr⟩ => ⟨(a', cap'), trivial, he, hb, newOk1 7 hr⟩) rfl rfl rfl (want_y 86 rfl rfl rfl) ?_
        rintro ⟨ar10, cr10⟩ -
        refine TL_call (.bool true) (fun _ _ hρ _ => r_call (args := [.slice ar9 ((recP p.l).length) cr9, .slice ar10 ((recP p.l).length) cr10]) (enters_of Try.func16 (by kernel_rfl) rfl) (hρ _ _ rfl) ((cons2 (hρ _ _ rfl) (cons2 (hρ _ _ rfl) rfl))) rfl) (fun w hm => (equal_b (recP p.l) (recP p.l) ar9 ar10 cr9 cr10 w (SliceAt.own byc_len (hm.row 6 rfl) rfl rfl) (SliceAt.own byc_len (hm.row 7 rfl) rfl rfl) (by first | omega | (rw [List.length_append]; omega)) (by first | omega | (rw [List.length_append]; omega))).mono fun _ _ h => ⟨h.1.trans (congrArg Ending.returned (bool_as (decide_eq_true rfl))), h.2⟩) rfl rfl rfl (want_y 86 rfl rfl rfl) ?_
        refine TL_q (.bool false) (fun _ _ hρ _ => r_not (b := true) (hρ _ _ rfl)) rfl rfl rfl (want_y 86 rfl rfl rfl) ?_
        refine TL_q (.bool false) (fun _ _ hρ _ => r_pick_f (hρ _ _ rfl) (hρ _ _ rfl)) rfl rfl rfl (w_n rfl) ?_
        refine TL_seq ?_
        refine T_cond_f rfl ?_
        refine T_skip' ?_
        refine p_blk_n ?_
        refine p_seq ?_
        refine T_region ?_
        refine TL_q (.int .i64 ((k + 1 : Nat) : Int)) (fun _ _ hρ _ => r_as (r_add (hρ _ _ rfl) (hρ _ _ rfl)) (int_as ((wrap64 (by omega) (by omega)).trans (by omega)))) rfl rfl rfl (w_n rfl) ?_
        refine TL_q (.int .i64 ((k + 1 : Nat) : Int)) (fun _ _ hρ _ => r_move (hρ _ _ rfl)) rfl rfl rfl (w_n rfl) ?_
        refine TL_nil ?_
        exact p_at (k + 1) ⟨by omega, by omega⟩ (sub_cons rfl (sub_cons rfl (sub_cons rfl (sub_cons rfl (sub_cons rfl (sub_cons rfl (sub_cons rfl (sub_cons rfl (sub_cons rfl (sub_cons rfl sub_nil)))))))))) (sub_cons rfl (sub_cons rfl (sub_cons rfl (sub_cons rfl (sub_cons rfl sub_nil)))))
      · skip
        refine T_seq (T_region ?_)
        refine TL_q (.slice p.a p.l.length p.cap) (fun _ _ hρ _ => r_move (hρ _ _ rfl)) rfl rfl rfl (w_n rfl) ?_
        refine TL_call (.tuple #[.slice none 0 0, .int .i64 3]) (fun _ _ hρ _ => r_call (args := [.slice p.a p.l.length p.cap]) (enters_of Try.func40 (by kernel_rfl) rfl) (hρ _ _ rfl) ((cons2 (hρ _ _ rfl) rfl)) rfl) (fun w hm => jrec_no p.l p.a p.cap w (poolAt byc_len (hm.pool 2 rfl) hpm) (poolCap (hm.pool 2 rfl) hpm) hp6) rfl rfl rfl (w_n rfl) ?_
        refine TL_q (.tuple #[.slice none 0 0, .int .i64 3]) (fun _ _ hρ _ => r_move (hρ _ _ rfl)) rfl rfl rfl (w_n rfl) ?_
        refine TL_q (.slice none 0 0) (fun _ _ hρ _ => r_extract (hρ _ _ rfl) rfl) rfl rfl rfl (w_n rfl) ?_
        refine TL_q (.int .i64 3) (fun _ _ hρ _ => r_extract (hρ _ _ rfl) rfl) rfl rfl rfl (w_n rfl) ?_
        refine TL_q (.slice none 0 0) (fun _ _ hρ _ => r_assign (hρ _ _ rfl)) rfl rfl rfl (w_n rfl) ?_
        refine TL_q (.int .i64 3) (fun _ _ hρ _ => r_assign (hρ _ _ rfl)) rfl rfl rfl (w_n rfl) ?_
        refine TL_seq ?_
        refine T_seq (T_region ?_)
        refine TL_q (.slice p.a p.l.length p.cap) (fun _ _ hρ _ => r_move (hρ _ _ rfl)) rfl rfl rfl (w_n rfl) ?_
        refine TL_q (.int .i64 ((p.l.length : Nat) : Int)) (fun _ _ hρ _ => r_len sl34 (hρ _ _ rfl)) rfl rfl rfl (w_n rfl) ?_
        refine TL_q (.bool true) (fun _ _ hρ _ => r_as (r_gtr (hρ _ _ rfl) (hρ _ _ rfl)) (bool_as (decide_eq_true (by omega)))) rfl rfl rfl (w_n rfl) ?_
        refine TL_seq ?_
        refine T_cond_t rfl ?_
        refine T_seq (T_region ?_)
        refine TL_q (.int .i64 3) (fun _ _ hρ _ => r_move (hρ _ _ rfl)) rfl rfl rfl (w_n rfl) ?_
        refine TL_q (.bool false) (fun _ _ hρ _ => r_as (r_neq (hρ _ _ rfl) (hρ _ _ rfl)) (by rfl)) rfl rfl rfl (w_n rfl) ?_
        refine TL_q (.bool false) (fun _ _ hρ _ => r_move (hρ _ _ rfl)) rfl rfl rfl (w_n rfl) ?_
        refine TL_q (.slice none 0 0) (fun _ _ hρ _ => r_move (hρ _ _ rfl)) rfl rfl rfl (want_y 79 rfl rfl rfl) ?_
        refine TL_q (.int .i64 0) (fun _ _ hρ _ => r_len sl34 (hρ _ _ rfl)) rfl rfl rfl (want_y 79 rfl rfl rfl) ?_
        refine TL_q (.bool false) (fun _ _ hρ _ => r_as (r_gtr (hρ _ _ rfl) (hρ _ _ rfl)) (by rfl)) rfl rfl rfl (want_y 79 rfl rfl rfl) ?_
        refine TL_q (.bool false) (fun _ _ hρ _ => r_pick_f (hρ _ _ rfl) (hρ _ _ rfl)) rfl rfl rfl (w_n rfl) ?_
        refine TL_seq ?_
        refine T_cond_f rfl ?_
        refine T_skip' ?_
        refine p_blk_n ?_
        refine p_seq ?_
        refine T_region ?_
        refine TL_q (.int .i64 ((k + 1 : Nat) : Int)) (fun _ _ hρ _ => r_as (r_add (hρ _ _ rfl) (hρ _ _ rfl)) (int_as ((wrap64 (by omega) (by omega)).trans (by omega)))) rfl rfl rfl (w_n rfl) ?_
        refine TL_q (.int .i64 ((k + 1 : Nat) : Int)) (fun _ _ hρ _ => r_move (hρ _ _ rfl)) rfl rfl rfl (w_n rfl) ?_
        refine TL_nil ?_
        exact p_at (k + 1) ⟨by omega, by omega⟩ (sub_cons rfl (sub_cons rfl (sub_cons rfl (sub_cons rfl (sub_cons rfl (sub_cons rfl (sub_cons rfl (sub_cons rfl (sub_cons rfl (sub_cons rfl sub_nil)))))))))) (sub_cons rfl (sub_cons rfl (sub_cons rfl (sub_cons rfl (sub_cons rfl sub_nil)))))
    · replace h1 := of_decide_eq_false h1
      refine T_exit' ?_
      refine p_then_x ?_
      refine p_then_x ?_
      refine p_blk_x ?_
      refine p_seq ?_
      refine T_seq ?_
      refine T_seq (T_region ?_)
      refine TL_q (.slice ar5 ((l2).length) cr5) (fun _ _ hρ _ => r_move (hρ _ _ rfl)) rfl rfl rfl (w_n rfl) ?_
      refine TL_q (.slice ar6 ((joinP (rls fl4)).length) cr6) (fun _ _ hρ _ => r_move (hρ _ _ rfl)) rfl rfl rfl (w_n rfl) ?_
      refine TL_new 8 (.cells #[.slice ar5 ((l2).length) cr5, .slice ar6 ((joinP (rls fl4)).length) cr6] 34) (fun B => .slice (some ⟨B, 0, none⟩) 2 2) (fun _ _ hρ _ => r_buildSlice (vs := [(0, .slice ar5 ((l2).length) cr5), (1, .slice ar6 ((joinP (rls fl4)).length) cr6)]) (by kernel_rfl) (cons2 (pair2 (hρ _ _ rfl)) (cons2 (pair2 (hρ _ _ rfl)) rfl))) rfl rfl rfl (w_n rfl) ?_
      intro B11
      refine TL_q (.int .i64 2) (fun _ _ hρ _ => r_len sl63 (hρ _ _ rfl)) rfl rfl rfl (w_n rfl) ?_
      refine TL_q (.int .i64 0) (fun _ _ hρ _ => r_move (hρ _ _ rfl)) rfl rfl rfl (w_n rfl) ?_
      refine TL_seq ?_
      refine T_block ?_
      refine T_rounds 3 ?_
      refine TR_succ ?_
      refine T_seq (T_region ?_)
      refine TL_q (.bool true) (fun _ _ hρ _ => r_as (r_lss (hρ _ _ rfl) (hρ _ _ rfl)) (by rfl)) rfl rfl rfl (w_n rfl) ?_
      refine TL_seq ?_
      refine T_seq ?_
      refine T_cond_t rfl ?_
      refine T_skip' ?_
      refine p_seq ?_
      refine T_seq ?_
      refine T_block ?_
      refine T_seq (T_region ?_)
      refine TL_q (.pointer (some ⟨B11, 0, none⟩)) (fun _ _ hρ _ => r_indexAddrS (i := 0) sl63 sz34 (hρ _ _ rfl) (hρ _ _ rfl) (by decide)) rfl rfl rfl (w_n rfl) ?_
      refine TL_q (.slice ar5 ((l2).length) cr5) (fun _ _ hρ hm => r_load ag34 (hρ _ _ rfl) (hm.at 8 rfl) rfl) rfl rfl rfl (w_n rfl) ?_
      refine TL_q (.slice ar5 ((l2).length) cr5) (fun _ _ hρ _ => r_assign (hρ _ _ rfl)) rfl rfl rfl (w_n rfl) ?_
      refine TL_seq ?_
      refine T_seq (T_region ?_)
      refine TL_q (.slice ar5 ((l2).length) cr5) (fun _ _ hρ _ => r_move (hρ _ _ rfl)) rfl rfl rfl (w_n rfl) ?_
      refine TL_callN (fun ((va12, vc12, vl12, ma12, mc12, ml12) : Option Addr × Nat × List (RowG By) × Option Addr × Nat × List Nat) => rls vl12 = heldsV l2 ∧ ml12 = placesV l2) (fun (va12, vc12, vl12, ma12, mc12, ml12) => .tuple #[.slice va12 vl12.length vc12, .slice ma12 ml12.length mc12, .int .i64 ((sizeV l2 : Nat) : Int)]) (fun (va12, vc12, vl12, ma12, mc12, ml12) => [(963, .row (.slice va12 vl12.length vc12) 34 1 vl12.length (vl12.flatMap RowG.cells)), (964, .rows vl12), (965, .row (.slice ma12 ml12.length mc12) 3 1 ml12.length (ml12.flatMap nic))]) (fun _ _ hρ _ => r_call (args := [.slice ar5 ((l2).length) cr5]) (enters_of Try.func42 (by kernel_rfl) rfl) (hρ _ _ rfl) ((cons2 (hρ _ _ rfl) rfl)) rfl) (fun w hm => (rscan_c l2 ar5 cr5 w (SliceAt.own byc_len (hm.row 3 rfl) rfl rfl) (row_cap (hm.row 3 rfl)) (by omega)).mono fun e w' ⟨n, m, hf, hg, he, hb, hn⟩ => ⟨(n.a, n.cap, n.l, m.a, m.cap, m.l), ⟨hf, hg⟩, he, hb, hn⟩) rfl rfl rfl (w_n rfl) ?_
      rintro ⟨va12, vc12, vl12, ma12, mc12, ml12⟩ hrs12
      refine TL_q (.tuple #[.slice va12 vl12.length vc12, .slice ma12 ml12.length mc12, .int .i64 ((sizeV l2 : Nat) : Int)]) (fun _ _ hρ _ => r_move (hρ _ _ rfl)) rfl rfl rfl (w_n rfl) ?_
      refine TL_q (.slice va12 vl12.length vc12) (fun _ _ hρ _ => r_extract (hρ _ _ rfl) rfl) rfl rfl rfl (w_n rfl) ?_
      refine TL_q (.slice ma12 ml12.length mc12) (fun _ _ hρ _ => r_extract (hρ _ _ rfl) rfl) rfl rfl rfl (w_n rfl) ?_
      refine TL_q (.int .i64 ((sizeV l2 : Nat) : Int)) (fun _ _ hρ _ => r_extract (hρ _ _ rfl) rfl) rfl rfl rfl (w_n rfl) ?_
      refine TL_q (.slice va12 vl12.length vc12) (fun _ _ hρ _ => r_assign (hρ _ _ rfl)) rfl rfl rfl (w_n rfl) ?_
      refine TL_q (.slice ma12 ml12.length mc12) (fun _ _ hρ _ => r_assign (hρ _ _ rfl)) rfl rfl rfl (w_n rfl) ?_
      refine TL_q (.int .i64 ((sizeV l2 : Nat) : Int)) (fun _ _ hρ _ => r_assign (hρ _ _ rfl)) rfl rfl rfl (w_n rfl) ?_
      refine TL_seq ?_
      by_cases hwy : whyE l2 = 0
      · skip
        refine T_seq (T_region ?_)
        refine TL_q (.slice ar5 ((l2).length) cr5) (fun _ _ hρ _ => r_move (hρ _ _ rfl)) rfl rfl rfl (w_n rfl) ?_
        refine TL_q (.slice fa4 fl4.length fc4) (fun _ _ hρ _ => r_move (hρ _ _ rfl)) rfl rfl rfl (w_n rfl) ?_
        refine TL_callN (fun (_ : Option Addr × Nat) => True) (fun (ar13, cr13) => .tuple #[.slice ar13 ((l2 ++ joinP (rls fl4)).length) cr13, .int .i64 0]) (fun (ar13, cr13) => [(9, .row (.slice ar13 ((l2 ++ joinP (rls fl4)).length) cr13) 5 1 ((l2 ++ joinP (rls fl4)).length) ((l2 ++ joinP (rls fl4)).flatMap byc))]) (fun _ _ hρ _ => r_call (args := [.slice ar5 ((l2).length) cr5, .slice fa4 fl4.length fc4]) (enters_of Try.func43 (by kernel_rfl) rfl) (hρ _ _ rfl) ((cons2 (hρ _ _ rfl) (cons2 (hρ _ _ rfl) rfl))) rfl) (fun w hm => (app_ok l2 ar5 cr5 w (SliceAt.own byc_len (hm.row 3 rfl) rfl rfl) (row_cap (hm.row 3 rfl)) fl4 fa4 fc4 (SliceAt.own RowG.cells_len (hm.row 1 rfl) rfl rfl) (row_cap (hm.row 1 rfl)) (fun r hr => ⟨poolAt byc_len (hm.pool 2 rfl) hr, poolCap (hm.pool 2 rfl) hr⟩) (by omega) (by omega) hwy h65).mono fun e w' ⟨a', cap', he, hb, hr⟩ => ⟨(a', cap'), trivial, he, hb, newOk1 9 hr⟩) rfl rfl rfl (w_n rfl) ?_
        rintro ⟨ar13, cr13⟩ -
        refine TL_q (.tuple #[.slice ar13 ((l2 ++ joinP (rls fl4)).length) cr13, .int .i64 0]) (fun _ _ hρ _ => r_move (hρ _ _ rfl)) rfl rfl rfl (w_n rfl) ?_
        refine TL_q (.slice ar13 ((l2 ++ joinP (rls fl4)).length) cr13) (fun _ _ hρ _ => r_extract (hρ _ _ rfl) rfl) rfl rfl rfl (w_n rfl) ?_
        refine TL_q (.int .i64 0) (fun _ _ hρ _ => r_extract (hρ _ _ rfl) rfl) rfl rfl rfl (w_n rfl) ?_
        refine TL_q (.slice ar13 ((l2 ++ joinP (rls fl4)).length) cr13) (fun _ _ hρ _ => r_assign (hρ _ _ rfl)) rfl rfl rfl (w_n rfl) ?_
        refine TL_q (.int .i64 0) (fun _ _ hρ _ => r_assign (hρ _ _ rfl)) rfl rfl rfl (w_n rfl) ?_
        refine TL_seq ?_
        refine T_seq (T_region ?_)
        refine TL_q (.int .i64 0) (fun _ _ hρ _ => r_assign (hρ _ _ rfl)) rfl rfl rfl (w_n rfl) ?_
        refine TL_seq ?_
        refine T_seq ?_
        refine T_block ?_
        refine T_seq (T_region ?_)
        refine TL_q (.int .i64 ((sizeV l2 : Nat) : Int)) (fun _ _ hρ _ => r_move (hρ _ _ rfl)) rfl rfl rfl (w_n rfl) ?_
        refine TL_q (.slice ar5 ((l2).length) cr5) (fun _ _ hρ _ => r_move (hρ _ _ rfl)) rfl rfl rfl (w_n rfl) ?_
        refine TL_q (.int .i64 (((l2).length : Nat) : Int)) (fun _ _ hρ _ => r_len sl34 (hρ _ _ rfl)) rfl rfl rfl (w_n rfl) ?_
        refine TL_q (.bool false) (fun _ _ hρ _ => r_as (r_neq (hρ _ _ rfl) (hρ _ _ rfl)) (bool_as (by rw [decide_eq_true (congrArg (fun n : Nat => (n : Int)) (whyE_ok.1 hwy))]; rfl))) rfl rfl rfl (w_n rfl) ?_
        refine TL_q (.bool false) (fun _ _ hρ _ => r_assign (hρ _ _ rfl)) rfl rfl rfl (w_n rfl) ?_
        refine TL_seq ?_
        refine T_sub [(0, .slice a xs.length cap), (1, .slice b y.length capb), (5, .slice fa4 fl4.length fc4), (6, .slice ar5 ((l2).length) cr5), (9, .slice ar7 ((joinP (rls fl4)).length) cr7), (10, .bool true), (96, .slice (some ⟨B11, 0, none⟩) 2 2), (97, .int .i64 2), (98, .int .i64 0), (99, .bool true), (100, .pointer (some ⟨B11, 0, none⟩)), (101, .slice ar5 ((l2).length) cr5), (16, .slice ar5 ((l2).length) cr5), (103, .slice ar5 ((l2).length) cr5), (104, .tuple #[.slice va12 vl12.length vc12, .slice ma12 ml12.length mc12, .int .i64 ((sizeV l2 : Nat) : Int)]), (102, .tuple #[.slice va12 vl12.length vc12, .slice ma12 ml12.length mc12, .int .i64 ((sizeV l2 : Nat) : Int)]), (105, .slice va12 vl12.length vc12), (106, .slice ma12 ml12.length mc12), (107, .int .i64 ((sizeV l2 : Nat) : Int)), (19, .int .i64 ((sizeV l2 : Nat) : Int)), (109, .slice ar5 ((l2).length) cr5), (110, .slice fa4 fl4.length fc4), (111, .tuple #[.slice ar13 ((l2 ++ joinP (rls fl4)).length) cr13, .int .i64 0]), (108, .tuple #[.slice ar13 ((l2 ++ joinP (rls fl4)).length) cr13, .int .i64 0]), (112, .slice ar13 ((l2 ++ joinP (rls fl4)).length) cr13), (113, .int .i64 0), (20, .slice ar13 ((l2 ++ joinP (rls fl4)).length) cr13), (21, .int .i64 0), (22, .int .i64 0), (115, .int .i64 ((sizeV l2 : Nat) : Int)), (116, .slice ar5 ((l2).length) cr5), (117, .int .i64 (((l2).length : Nat) : Int)), (118, .bool false), (114, .bool false)] [(9, .row (.slice ar13 ((l2 ++ joinP (rls fl4)).length) cr13) 5 1 ((l2 ++ joinP (rls fl4)).length) ((l2 ++ joinP (rls fl4)).flatMap byc)), (963, .row (.slice va12 vl12.length vc12) 34 1 vl12.length (vl12.flatMap RowG.cells)), (964, .rows vl12), (965, .row (.slice ma12 ml12.length mc12) 3 1 ml12.length (ml12.flatMap nic)), (5, .row (.slice ar7 ((joinP (rls fl4)).length) cr7) 5 1 ((joinP (rls fl4)).length) ((joinP (rls fl4)).flatMap byc)), (4, .row (.slice ar6 ((joinP (rls fl4)).length) cr6) 5 1 ((joinP (rls fl4)).length) ((joinP (rls fl4)).flatMap byc)), (3, .row (.slice ar5 ((l2).length) cr5) 5 1 ((l2).length) ((l2).flatMap byc)), (1, .row (.slice fa4 fl4.length fc4) 34 1 fl4.length (fl4.flatMap RowG.cells)), (2, .pool 5 1 byc fl4), (8, .blk B11 (.cells #[.slice ar5 ((l2).length) cr5, .slice ar6 ((joinP (rls fl4)).length) cr6] 34))] (sub_cons rfl (sub_cons rfl (sub_cons rfl (sub_cons rfl (sub_cons rfl (sub_cons rfl (sub_cons rfl (sub_cons rfl (sub_cons rfl (sub_cons rfl (sub_cons rfl (sub_cons rfl (sub_cons rfl (sub_cons rfl (sub_cons rfl (sub_cons rfl (sub_cons rfl (sub_cons rfl (sub_cons rfl (sub_cons rfl (sub_cons rfl (sub_cons rfl (sub_cons rfl (sub_cons rfl (sub_cons rfl (sub_cons rfl (sub_cons rfl (sub_cons rfl (sub_cons rfl (sub_cons rfl (sub_cons rfl (sub_cons rfl (sub_cons rfl (sub_cons rfl sub_nil)))))))))))))))))))))))))))))))))) (sub_cons rfl (sub_cons rfl (sub_cons rfl (sub_cons rfl (sub_cons rfl (sub_cons rfl (sub_cons rfl (sub_cons rfl (sub_cons rfl (sub_cons rfl sub_nil)))))))))) ?_
        refine T_cond_f rfl ?_
        refine T_seq (T_region ?_)
        refine TL_q (.bool true) (fun _ _ hρ _ => r_move (hρ _ _ rfl)) rfl rfl rfl (w_n rfl) ?_
        refine TL_q (.bool false) (fun _ _ hρ _ => r_not (b := true) (hρ _ _ rfl)) rfl rfl rfl (w_n rfl) ?_
        refine TL_q (.bool false) (fun _ _ hρ _ => r_assign (hρ _ _ rfl)) rfl rfl rfl (w_n rfl) ?_
        refine TL_seq ?_
        refine T_cond_f rfl ?_
        refine T_skip' ?_
        refine p_blk_n ?_
        refine p_seq ?_
        refine T_seq (T_region ?_)
        refine TL_q (.slice none 0 0) (fun _ _ hρ _ => r_assign (hρ _ _ rfl)) rfl rfl rfl (w_n rfl) ?_
        refine TL_seq ?_
        refine T_seq ?_
        refine T_seq (T_region ?_)
        refine TL_q (.int .i64 0) (fun _ _ hρ _ => r_move (hρ _ _ rfl)) rfl rfl rfl (w_n rfl) ?_
        refine TL_q (.bool true) (fun _ _ hρ _ => r_as (r_eql (hρ _ _ rfl) (hρ _ _ rfl)) (by rfl)) rfl rfl rfl (w_n rfl) ?_
        refine TL_seq ?_
        refine T_cond_t rfl ?_
        refine T_region ?_
        refine TL_q (.slice ar5 ((l2).length) cr5) (fun _ _ hρ _ => r_move (hρ _ _ rfl)) rfl rfl rfl (w_n rfl) ?_
        refine TL_q (.slice ar7 ((joinP (rls fl4)).length) cr7) (fun _ _ hρ _ => r_move (hρ _ _ rfl)) rfl rfl rfl (w_n rfl) ?_
        refine TL_callN (fun (_ : Option Addr × Nat) => True) (fun (ar14, cr14) => .slice ar14 ((l2 ++ (joinP (rls fl4))).length) cr14) (fun (ar14, cr14) => [(10, .row (.slice ar14 ((l2 ++ (joinP (rls fl4))).length) cr14) 5 1 ((l2 ++ (joinP (rls fl4))).length) ((l2 ++ (joinP (rls fl4))).flatMap byc))]) (fun _ _ hρ _ => r_call (args := [.slice ar5 ((l2).length) cr5, .slice ar7 ((joinP (rls fl4)).length) cr7]) (enters_of Try.func44 (by kernel_rfl) rfl) (hρ _ _ rfl) ((cons2 (hρ _ _ rfl) (cons2 (hρ _ _ rfl) rfl))) rfl) (fun w hm => (rbeh_c l2 ar5 cr5 w (SliceAt.own byc_len (hm.row 3 rfl) rfl rfl) (row_cap (hm.row 3 rfl)) (joinP (rls fl4)) ar7 cr7 (SliceAt.own byc_len (hm.row 5 rfl) rfl rfl) (row_cap (hm.row 5 rfl)) (by omega) (by omega)).mono fun e w' ⟨a', cap', he, hb, hr⟩ => ⟨(a', cap'), trivial, he, hb, newOk1 10 hr⟩) rfl rfl rfl (w_n rfl) ?_
        rintro ⟨ar14, cr14⟩ -
        refine TL_q (.slice ar14 ((l2 ++ (joinP (rls fl4))).length) cr14) (fun _ _ hρ _ => r_assign (hρ _ _ rfl)) rfl rfl rfl (w_n rfl) ?_
        refine TL_nil ?_
        refine p_seq ?_
        refine T_seq ?_
        refine T_seq (T_region ?_)
        refine TL_q (.int .i64 0) (fun _ _ hρ _ => r_move (hρ _ _ rfl)) rfl rfl rfl (w_n rfl) ?_
        refine TL_q (.int .i64 0) (fun _ _ hρ _ => r_move (hρ _ _ rfl)) rfl rfl rfl (w_n rfl) ?_
        refine TL_q (.bool false) (fun _ _ hρ _ => r_as (r_neq (hρ _ _ rfl) (hρ _ _ rfl)) (by rfl)) rfl rfl rfl (w_n rfl) ?_
        refine TL_q (.bool false) (fun _ _ hρ _ => r_move (hρ _ _ rfl)) rfl rfl rfl (w_n rfl) ?_
        refine TL_q (.slice ar13 ((l2 ++ joinP (rls fl4)).length) cr13) (fun _ _ hρ _ => r_move (hρ _ _ rfl)) rfl rfl rfl (want_y 130 rfl rfl rfl) ?_
        refine TL_q (.slice ar14 ((l2 ++ (joinP (rls fl4))).length) cr14) (fun _ _ hρ _ => r_move (hρ _ _ rfl)) rfl rfl rfl (want_y 130 rfl rfl rfl) ?_
        refine TL_call (.bool true) (fun _ _ hρ _ => r_call (args := [.slice ar13 ((l2 ++ joinP (rls fl4)).length) cr13, .slice ar14 ((l2 ++ (joinP (rls fl4))).length) cr14]) (enters_of Try.func16 (by kernel_rfl) rfl) (hρ _ _ rfl) ((cons2 (hρ _ _ rfl) (cons2 (hρ _ _ rfl) rfl))) rfl) (fun w hm => (equal_b (l2 ++ joinP (rls fl4)) (l2 ++ (joinP (rls fl4))) ar13 ar14 cr13 cr14 w (SliceAt.own byc_len (hm.row 9 rfl) rfl rfl) (SliceAt.own byc_len (hm.row 10 rfl) rfl rfl) (by first | omega | (rw [List.length_append]; omega)) (by first | omega | (rw [List.length_append]; omega))).mono fun _ _ h => ⟨h.1.trans (congrArg Ending.returned (bool_as (decide_eq_true rfl))), h.2⟩) rfl rfl rfl (want_y 130 rfl rfl rfl) ?_
        refine TL_q (.bool false) (fun _ _ hρ _ => r_not (b := true) (hρ _ _ rfl)) rfl rfl rfl (want_y 130 rfl rfl rfl) ?_
        refine TL_q (.bool false) (fun _ _ hρ _ => r_pick_f (hρ _ _ rfl) (hρ _ _ rfl)) rfl rfl rfl (w_n rfl) ?_
        refine TL_seq ?_
        refine T_cond_f rfl ?_
        refine T_skip' ?_
        refine p_seq ?_
        refine T_mem (_ :: _ :: _ :: _ :: _) (fun _ hm => hm.rowScr 971 9 rfl rfl rfl) ?_
        refine T_seq (T_region ?_)
        refine TL_q (.slice ar13 ((l2 ++ joinP (rls fl4)).length) cr13) (fun _ _ hρ _ => r_move (hρ _ _ rfl)) rfl rfl rfl (w_n rfl) ?_
        refine TL_q (.int .i64 (((l2 ++ joinP (rls fl4)).length : Nat) : Int)) (fun _ _ hρ _ => r_len sl34 (hρ _ _ rfl)) rfl rfl rfl (w_n rfl) ?_
        refine TL_q (.int .i64 0) (fun _ _ hρ _ => r_move (hρ _ _ rfl)) rfl rfl rfl (w_n rfl) ?_
        refine TL_seq ?_
        refine T_block ?_
        have hal : (l2 ++ joinP (rls fl4)).length ≤ 1000000 := by rw [List.length_append]; omega
        refine T_loop (ι := Nat) (fun (m : Nat) => m ≤ (l2 ++ joinP (rls fl4)).length) (fun (m : Nat) => [(0, .slice a xs.length cap), (1, .slice b y.length capb), (5, .slice fa4 fl4.length fc4), (6, .slice ar5 ((l2).length) cr5), (9, .slice ar7 ((joinP (rls fl4)).length) cr7), (10, .bool true), (96, .slice (some ⟨B11, 0, none⟩) 2 2), (97, .int .i64 2), (98, .int .i64 0), (99, .bool true), (100, .pointer (some ⟨B11, 0, none⟩)), (101, .slice ar5 ((l2).length) cr5), (16, .slice ar5 ((l2).length) cr5), (103, .slice ar5 ((l2).length) cr5), (104, .tuple #[.slice va12 vl12.length vc12, .slice ma12 ml12.length mc12, .int .i64 ((sizeV l2 : Nat) : Int)]), (102, .tuple #[.slice va12 vl12.length vc12, .slice ma12 ml12.length mc12, .int .i64 ((sizeV l2 : Nat) : Int)]), (105, .slice va12 vl12.length vc12), (106, .slice ma12 ml12.length mc12), (107, .int .i64 ((sizeV l2 : Nat) : Int)), (19, .int .i64 ((sizeV l2 : Nat) : Int)), (109, .slice ar5 ((l2).length) cr5), (110, .slice fa4 fl4.length fc4), (111, .tuple #[.slice ar13 ((l2 ++ joinP (rls fl4)).length) cr13, .int .i64 0]), (108, .tuple #[.slice ar13 ((l2 ++ joinP (rls fl4)).length) cr13, .int .i64 0]), (112, .slice ar13 ((l2 ++ joinP (rls fl4)).length) cr13), (113, .int .i64 0), (20, .slice ar13 ((l2 ++ joinP (rls fl4)).length) cr13), (21, .int .i64 0), (22, .int .i64 0), (115, .int .i64 ((sizeV l2 : Nat) : Int)), (116, .slice ar5 ((l2).length) cr5), (117, .int .i64 (((l2).length : Nat) : Int)), (118, .bool false), (114, .bool false), (120, .bool true), (121, .bool false), (119, .bool false), (122, .int .i64 0), (123, .bool true), (124, .slice ar5 ((l2).length) cr5), (125, .slice ar7 ((joinP (rls fl4)).length) cr7), (126, .slice ar14 ((l2 ++ (joinP (rls fl4))).length) cr14), (23, .slice ar14 ((l2 ++ (joinP (rls fl4))).length) cr14), (127, .int .i64 0), (128, .int .i64 0), (129, .bool false), (130, .bool false), (131, .slice ar13 ((l2 ++ joinP (rls fl4)).length) cr13), (132, .slice ar14 ((l2 ++ (joinP (rls fl4))).length) cr14), (133, .bool true), (134, .bool false), (135, .bool false), (136, .slice ar13 ((l2 ++ joinP (rls fl4)).length) cr13), (137, .int .i64 (((l2 ++ joinP (rls fl4)).length : Nat) : Int)), (138, .int .i64 ((m : Nat) : Int))]) (fun (m : Nat) => [(971, .scr 5 1 isB [(⟨ar13, cr13, l2 ++ joinP (rls fl4)⟩ : RowG By)]), (9, .no), (10, .row (.slice ar14 ((l2 ++ (joinP (rls fl4))).length) cr14) 5 1 ((l2 ++ (joinP (rls fl4))).length) ((l2 ++ (joinP (rls fl4))).flatMap byc)), (963, .row (.slice va12 vl12.length vc12) 34 1 vl12.length (vl12.flatMap RowG.cells)), (964, .rows vl12), (965, .row (.slice ma12 ml12.length mc12) 3 1 ml12.length (ml12.flatMap nic)), (5, .row (.slice ar7 ((joinP (rls fl4)).length) cr7) 5 1 ((joinP (rls fl4)).length) ((joinP (rls fl4)).flatMap byc)), (4, .row (.slice ar6 ((joinP (rls fl4)).length) cr6) 5 1 ((joinP (rls fl4)).length) ((joinP (rls fl4)).flatMap byc)), (3, .row (.slice ar5 ((l2).length) cr5) 5 1 ((l2).length) ((l2).flatMap byc)), (1, .row (.slice fa4 fl4.length fc4) 34 1 fl4.length (fl4.flatMap RowG.cells)), (2, .pool 5 1 byc fl4), (8, .blk B11 (.cells #[.slice ar5 ((l2).length) cr5, .slice ar6 ((joinP (rls fl4)).length) cr6] 34))]) (fun (m : Nat) => (l2 ++ joinP (rls fl4)).length - m) 0 (Nat.zero_le _) (sub_cons rfl (sub_cons rfl (sub_cons rfl (sub_cons rfl (sub_cons rfl (sub_cons rfl (sub_cons rfl (sub_cons rfl (sub_cons rfl (sub_cons rfl (sub_cons rfl (sub_cons rfl (sub_cons rfl (sub_cons rfl (sub_cons rfl (sub_cons rfl (sub_cons rfl (sub_cons rfl (sub_cons rfl (sub_cons rfl (sub_cons rfl (sub_cons rfl (sub_cons rfl (sub_cons rfl (sub_cons rfl (sub_cons rfl (sub_cons rfl (sub_cons rfl (sub_cons rfl (sub_cons rfl (sub_cons rfl (sub_cons rfl (sub_cons rfl (sub_cons rfl (sub_cons rfl (sub_cons rfl (sub_cons rfl (sub_cons rfl (sub_cons rfl (sub_cons rfl (sub_cons rfl (sub_cons rfl (sub_cons rfl (sub_cons rfl (sub_cons rfl (sub_cons rfl (sub_cons rfl (sub_cons rfl (sub_cons rfl (sub_cons rfl (sub_cons rfl (sub_cons rfl (sub_cons rfl (sub_cons rfl (sub_cons rfl sub_nil))))))))))))))))))))))))))))))))))))))))))))))))))))))) (sub_cons rfl (sub_cons rfl (sub_cons rfl (sub_cons rfl (sub_cons rfl (sub_cons rfl (sub_cons rfl (sub_cons rfl (sub_cons rfl (sub_cons rfl (sub_cons rfl (sub_cons rfl sub_nil)))))))))))) ?_
        rintro m hp
        have hmk := hp
        show T _ _ _ [(0, .slice a xs.length cap), (1, .slice b y.length capb), (5, .slice fa4 fl4.length fc4), (6, .slice ar5 ((l2).length) cr5), (9, .slice ar7 ((joinP (rls fl4)).length) cr7), (10, .bool true), (96, .slice (some ⟨B11, 0, none⟩) 2 2), (97, .int .i64 2), (98, .int .i64 0), (99, .bool true), (100, .pointer (some ⟨B11, 0, none⟩)), (101, .slice ar5 ((l2).length) cr5), (16, .slice ar5 ((l2).length) cr5), (103, .slice ar5 ((l2).length) cr5), (104, .tuple #[.slice va12 vl12.length vc12, .slice ma12 ml12.length mc12, .int .i64 ((sizeV l2 : Nat) : Int)]), (102, .tuple #[.slice va12 vl12.length vc12, .slice ma12 ml12.length mc12, .int .i64 ((sizeV l2 : Nat) : Int)]), (105, .slice va12 vl12.length vc12), (106, .slice ma12 ml12.length mc12), (107, .int .i64 ((sizeV l2 : Nat) : Int)), (19, .int .i64 ((sizeV l2 : Nat) : Int)), (109, .slice ar5 ((l2).length) cr5), (110, .slice fa4 fl4.length fc4), (111, .tuple #[.slice ar13 ((l2 ++ joinP (rls fl4)).length) cr13, .int .i64 0]), (108, .tuple #[.slice ar13 ((l2 ++ joinP (rls fl4)).length) cr13, .int .i64 0]), (112, .slice ar13 ((l2 ++ joinP (rls fl4)).length) cr13), (113, .int .i64 0), (20, .slice ar13 ((l2 ++ joinP (rls fl4)).length) cr13), (21, .int .i64 0), (22, .int .i64 0), (115, .int .i64 ((sizeV l2 : Nat) : Int)), (116, .slice ar5 ((l2).length) cr5), (117, .int .i64 (((l2).length : Nat) : Int)), (118, .bool false), (114, .bool false), (120, .bool true), (121, .bool false), (119, .bool false), (122, .int .i64 0), (123, .bool true), (124, .slice ar5 ((l2).length) cr5), (125, .slice ar7 ((joinP (rls fl4)).length) cr7), (126, .slice ar14 ((l2 ++ (joinP (rls fl4))).length) cr14), (23, .slice ar14 ((l2 ++ (joinP (rls fl4))).length) cr14), (127, .int .i64 0), (128, .int .i64 0), (129, .bool false), (130, .bool false), (131, .slice ar13 ((l2 ++ joinP (rls fl4)).length) cr13), (132, .slice ar14 ((l2 ++ (joinP (rls fl4))).length) cr14), (133, .bool true), (134, .bool false), (135, .bool false), (136, .slice ar13 ((l2 ++ joinP (rls fl4)).length) cr13), (137, .int .i64 (((l2 ++ joinP (rls fl4)).length : Nat) : Int)), (138, .int .i64 ((m : Nat) : Int))] [(971, .scr 5 1 isB [(⟨ar13, cr13, l2 ++ joinP (rls fl4)⟩ : RowG By)]), (9, .no), (10, .row (.slice ar14 ((l2 ++ (joinP (rls fl4))).length) cr14) 5 1 ((l2 ++ (joinP (rls fl4))).length) ((l2 ++ (joinP (rls fl4))).flatMap byc)), (963, .row (.slice va12 vl12.length vc12) 34 1 vl12.length (vl12.flatMap RowG.cells)), (964, .rows vl12), (965, .row (.slice ma12 ml12.length mc12) 3 1 ml12.length (ml12.flatMap nic)), (5, .row (.slice ar7 ((joinP (rls fl4)).length) cr7) 5 1 ((joinP (rls fl4)).length) ((joinP (rls fl4)).flatMap byc)), (4, .row (.slice ar6 ((joinP (rls fl4)).length) cr6) 5 1 ((joinP (rls fl4)).length) ((joinP (rls fl4)).flatMap byc)), (3, .row (.slice ar5 ((l2).length) cr5) 5 1 ((l2).length) ((l2).flatMap byc)), (1, .row (.slice fa4 fl4.length fc4) 34 1 fl4.length (fl4.flatMap RowG.cells)), (2, .pool 5 1 byc fl4), (8, .blk B11 (.cells #[.slice ar5 ((l2).length) cr5, .slice ar6 ((joinP (rls fl4)).length) cr6] 34))]
        refine T_seq (T_region ?_)
        refine TL_q (.bool (decide (((m : Nat) : Int) < (((l2 ++ joinP (rls fl4)).length : Nat) : Int)))) (fun _ _ hρ _ => r_lss (hρ _ _ rfl) (hρ _ _ rfl)) rfl rfl rfl (w_n rfl) ?_
        refine TL_seq ?_
        refine T_seq ?_
        refine T_cond rfl (fun h2 => ?_) (fun h2 => ?_)
        · replace h2 := of_decide_eq_true h2
          refine T_skip' ?_
          refine p_seq ?_
          refine T_seq ?_
          refine T_block ?_
          refine T_seq (T_region ?_)
          refine TL_q (.int .i64 ((m : Nat) : Int)) (fun _ _ hρ _ => r_move (hρ _ _ rfl)) rfl rfl rfl (w_n rfl) ?_
          refine TL_q (.int .i64 ((m : Nat) : Int)) (fun _ _ hρ _ => r_assign (hρ _ _ rfl)) rfl rfl rfl (w_n rfl) ?_
          refine TL_seq ?_
          refine T_scr (r := (⟨ar13, cr13, l2 ++ joinP (rls fl4)⟩ : RowG By)) 971 rfl (List.mem_singleton.2 rfl) (fun e => by have := congrArg List.length (show l2 ++ joinP (rls fl4) = [] from e); simp only [List.length_nil] at this; omega) (fun B9 hB9 => ?_)
          replace hB9 : ar13 = some ⟨B9, 0, none⟩ := hB9
          rw [hB9]
          refine T_region ?_
          refine TL_q (.slice (some ⟨B9, 0, none⟩) ((l2 ++ joinP (rls fl4)).length) cr13) (fun _ _ hρ _ => r_move (hρ _ _ rfl)) rfl rfl rfl (w_n rfl) ?_
          refine TL_q (.int .i64 ((m : Nat) : Int)) (fun _ _ hρ _ => r_move (hρ _ _ rfl)) rfl rfl rfl (w_n rfl) ?_
          refine TL_q (.pointer (some ⟨B9, 0 + m * 1, none⟩)) (fun _ _ hρ _ => r_indexAddrS (i := m) sl34 sz5 (hρ _ _ rfl) (hρ _ _ rfl) (by omega)) rfl rfl rfl (w_n rfl) ?_
          refine TL_op (ι := By) (fun B => .int .u8 ((B).toNat : Int)) _ (fun _ _ hρ hm => o_loadB (r := (⟨some ⟨B9, 0, none⟩, cr13, l2 ++ joinP (rls fl4)⟩ : RowG By)) (i := 0 + m * 1) 971 rfl (List.mem_singleton.2 rfl) ag5 rfl (show 0 + m * 1 < (l2 ++ joinP (rls fl4)).length * 1 by omega) (hρ _ _ rfl) hm) rfl rfl rfl (w_n rfl) ?_
          intro B15
          refine TL_q (.int .u8 ((B15 + (1#8)).toNat : Int)) (fun _ _ hρ _ => r_addB (k := .u8) (a := B15) (b := (1#8)) rfl (hρ _ _ rfl) (hρ _ _ rfl)) rfl rfl rfl (w_n rfl) ?_
          refine TL_q (.pointer (some ⟨B9, 0 + m * 1, none⟩)) (fun _ _ hρ _ => r_indexAddrS (i := m) sl34 sz5 (hρ _ _ rfl) (hρ _ _ rfl) (by omega)) rfl rfl rfl (w_n rfl) ?_
          refine TL_opS _ (fun _ _ hρ hm => o_storeScr (r := (⟨some ⟨B9, 0, none⟩, cr13, l2 ++ joinP (rls fl4)⟩ : RowG By)) (i := 0 + m * 1) (v := .int .u8 ((B15 + (1#8)).toNat : Int)) 971 rfl (List.mem_singleton.2 rfl) rfl (show 0 + m * 1 < (l2 ++ joinP (rls fl4)).length * 1 by omega) (hρ _ _ rfl) (hρ _ _ rfl) sz5 rfl rfl ⟨_, rfl⟩ hm) rfl rfl (w_n rfl) ?_
          refine TL_nil ?_
          refine p_blk_n ?_
          refine p_seq ?_
          rw [← hB9]
          refine T_region ?_
          refine TL_q (.int .i64 ((m + 1 : Nat) : Int)) (fun _ _ hρ _ => r_as (r_add (hρ _ _ rfl) (hρ _ _ rfl)) (int_as ((wrap64 (by omega) (by omega)).trans (by omega)))) rfl rfl rfl (w_n rfl) ?_
          refine TL_q (.int .i64 ((m + 1 : Nat) : Int)) (fun _ _ hρ _ => r_move (hρ _ _ rfl)) rfl rfl rfl (w_n rfl) ?_
          refine TL_nil ?_
          exact p_at (m + 1) ⟨by omega, by omega⟩ (sub_cons rfl (sub_cons rfl (sub_cons rfl (sub_cons rfl (sub_cons rfl (sub_cons rfl (sub_cons rfl (sub_cons rfl (sub_cons rfl (sub_cons rfl (sub_cons rfl (sub_cons rfl (sub_cons rfl (sub_cons rfl (sub_cons rfl (sub_cons rfl (sub_cons rfl (sub_cons rfl (sub_cons rfl (sub_cons rfl (sub_cons rfl (sub_cons rfl (sub_cons rfl (sub_cons rfl (sub_cons rfl (sub_cons rfl (sub_cons rfl (sub_cons rfl (sub_cons rfl (sub_cons rfl (sub_cons rfl (sub_cons rfl (sub_cons rfl (sub_cons rfl (sub_cons rfl (sub_cons rfl (sub_cons rfl (sub_cons rfl (sub_cons rfl (sub_cons rfl (sub_cons rfl (sub_cons rfl (sub_cons rfl (sub_cons rfl (sub_cons rfl (sub_cons rfl (sub_cons rfl (sub_cons rfl (sub_cons rfl (sub_cons rfl (sub_cons rfl (sub_cons rfl (sub_cons rfl (sub_cons rfl (sub_cons rfl sub_nil))))))))))))))))))))))))))))))))))))))))))))))))))))))) (sub_cons rfl (sub_cons rfl (sub_cons rfl (sub_cons rfl (sub_cons rfl (sub_cons rfl (sub_cons rfl (sub_cons rfl (sub_cons rfl (sub_cons rfl (sub_cons rfl (sub_cons rfl sub_nil))))))))))))
        · replace h2 := of_decide_eq_false h2
          refine T_exit' ?_
          refine p_then_x ?_
          refine p_then_x ?_
          refine p_blk_x ?_
          refine p_blk_n ?_
          refine p_seq ?_
          refine T_region ?_
          refine TL_q (.int .i64 1) (fun _ _ hρ _ => r_as (r_add (hρ _ _ rfl) (hρ _ _ rfl)) (by rfl)) rfl rfl rfl (w_n rfl) ?_
          refine TL_q (.int .i64 1) (fun _ _ hρ _ => r_move (hρ _ _ rfl)) rfl rfl rfl (w_n rfl) ?_
          refine TL_nil ?_
          refine p_round ?_
          refine TR_succ ?_
          refine T_seq (T_region ?_)
          refine TL_q (.bool true) (fun _ _ hρ _ => r_as (r_lss (hρ _ _ rfl) (hρ _ _ rfl)) (by rfl)) rfl rfl rfl (w_n rfl) ?_
          refine TL_seq ?_
          refine T_seq ?_
          refine T_cond_t rfl ?_
          refine T_skip' ?_
          refine p_seq ?_
          refine T_seq ?_
          refine T_block ?_
          refine T_seq (T_region ?_)
          refine TL_q (.pointer (some ⟨B11, 1, none⟩)) (fun _ _ hρ _ => r_indexAddrS (i := 1) sl63 sz34 (hρ _ _ rfl) (hρ _ _ rfl) (by decide)) rfl rfl rfl (w_n rfl) ?_
          refine TL_q (.slice ar6 ((joinP (rls fl4)).length) cr6) (fun _ _ hρ hm => r_load ag34 (hρ _ _ rfl) (hm.at 8 rfl) rfl) rfl rfl rfl (w_n rfl) ?_
          refine TL_q (.slice ar6 ((joinP (rls fl4)).length) cr6) (fun _ _ hρ _ => r_assign (hρ _ _ rfl)) rfl rfl rfl (w_n rfl) ?_
          refine TL_seq ?_
          refine T_seq (T_region ?_)
          refine TL_q (.slice ar6 ((joinP (rls fl4)).length) cr6) (fun _ _ hρ _ => r_move (hρ _ _ rfl)) rfl rfl rfl (w_n rfl) ?_
          refine TL_callN (fun ((va16, vc16, vl16, ma16, mc16, ml16) : Option Addr × Nat × List (RowG By) × Option Addr × Nat × List Nat) => rls vl16 = heldsV (joinP (rls fl4)) ∧ ml16 = placesV (joinP (rls fl4))) (fun (va16, vc16, vl16, ma16, mc16, ml16) => .tuple #[.slice va16 vl16.length vc16, .slice ma16 ml16.length mc16, .int .i64 ((sizeV (joinP (rls fl4)) : Nat) : Int)]) (fun (va16, vc16, vl16, ma16, mc16, ml16) => [(963, .row (.slice va16 vl16.length vc16) 34 1 vl16.length (vl16.flatMap RowG.cells)), (964, .rows vl16), (965, .row (.slice ma16 ml16.length mc16) 3 1 ml16.length (ml16.flatMap nic))]) (fun _ _ hρ _ => r_call (args := [.slice ar6 ((joinP (rls fl4)).length) cr6]) (enters_of Try.func42 (by kernel_rfl) rfl) (hρ _ _ rfl) ((cons2 (hρ _ _ rfl) rfl)) rfl) (fun w hm => (rscan_c (joinP (rls fl4)) ar6 cr6 w (SliceAt.own byc_len (hm.row 4 rfl) rfl rfl) (row_cap (hm.row 4 rfl)) (by omega)).mono fun e w' ⟨n, m, hf, hg, he, hb, hn⟩ => ⟨(n.a, n.cap, n.l, m.a, m.cap, m.l), ⟨hf, hg⟩, he, hb, hn⟩) rfl rfl rfl (w_n rfl) ?_
          rintro ⟨va16, vc16, vl16, ma16, mc16, ml16⟩ hrs16
          refine TL_q (.tuple #[.slice va16 vl16.length vc16, .slice ma16 ml16.length mc16, .int .i64 ((sizeV (joinP (rls fl4)) : Nat) : Int)]) (fun _ _ hρ _ => r_move (hρ _ _ rfl)) rfl rfl rfl (w_n rfl) ?_
          refine TL_q (.slice va16 vl16.length vc16) (fun _ _ hρ _ => r_extract (hρ _ _ rfl) rfl) rfl rfl rfl (w_n rfl) ?_
          refine TL_q (.slice ma16 ml16.length mc16) (fun _ _ hρ _ => r_extract (hρ _ _ rfl) rfl) rfl rfl rfl (w_n rfl) ?_
          refine TL_q (.int .i64 ((sizeV (joinP (rls fl4)) : Nat) : Int)) (fun _ _ hρ _ => r_extract (hρ _ _ rfl) rfl) rfl rfl rfl (w_n rfl) ?_
          refine TL_q (.slice va16 vl16.length vc16) (fun _ _ hρ _ => r_assign (hρ _ _ rfl)) rfl rfl rfl (w_n rfl) ?_
          refine TL_q (.slice ma16 ml16.length mc16) (fun _ _ hρ _ => r_assign (hρ _ _ rfl)) rfl rfl rfl (w_n rfl) ?_
          refine TL_q (.int .i64 ((sizeV (joinP (rls fl4)) : Nat) : Int)) (fun _ _ hρ _ => r_assign (hρ _ _ rfl)) rfl rfl rfl (w_n rfl) ?_
          refine TL_seq ?_
          refine T_seq (T_region ?_)
          refine TL_q (.slice ar6 ((joinP (rls fl4)).length) cr6) (fun _ _ hρ _ => r_move (hρ _ _ rfl)) rfl rfl rfl (w_n rfl) ?_
          refine TL_q (.slice fa4 fl4.length fc4) (fun _ _ hρ _ => r_move (hρ _ _ rfl)) rfl rfl rfl (w_n rfl) ?_
          refine TL_callN (fun (_ : Option Addr × Nat) => True) (fun (ar17, cr17) => .tuple #[.slice ar17 (((joinP (rls fl4)) ++ joinP (rls fl4)).length) cr17, .int .i64 0]) (fun (ar17, cr17) => [(11, .row (.slice ar17 (((joinP (rls fl4)) ++ joinP (rls fl4)).length) cr17) 5 1 (((joinP (rls fl4)) ++ joinP (rls fl4)).length) (((joinP (rls fl4)) ++ joinP (rls fl4)).flatMap byc))]) (fun _ _ hρ _ => r_call (args := [.slice ar6 ((joinP (rls fl4)).length) cr6, .slice fa4 fl4.length fc4]) (enters_of Try.func43 (by kernel_rfl) rfl) (hρ _ _ rfl) ((cons2 (hρ _ _ rfl) (cons2 (hρ _ _ rfl) rfl))) rfl) (fun w hm => (app_ok (joinP (rls fl4)) ar6 cr6 w (SliceAt.own byc_len (hm.row 4 rfl) rfl rfl) (row_cap (hm.row 4 rfl)) fl4 fa4 fc4 (SliceAt.own RowG.cells_len (hm.row 1 rfl) rfl rfl) (row_cap (hm.row 1 rfl)) (fun r hr => ⟨poolAt byc_len (hm.pool 2 rfl) hr, poolCap (hm.pool 2 rfl) hr⟩) (by omega) (by omega) hJw h65).mono fun e w' ⟨a', cap', he, hb, hr⟩ => ⟨(a', cap'), trivial, he, hb, newOk1 11 hr⟩) rfl rfl rfl (w_n rfl) ?_
          rintro ⟨ar17, cr17⟩ -
          refine TL_q (.tuple #[.slice ar17 (((joinP (rls fl4)) ++ joinP (rls fl4)).length) cr17, .int .i64 0]) (fun _ _ hρ _ => r_move (hρ _ _ rfl)) rfl rfl rfl (w_n rfl) ?_
          refine TL_q (.slice ar17 (((joinP (rls fl4)) ++ joinP (rls fl4)).length) cr17) (fun _ _ hρ _ => r_extract (hρ _ _ rfl) rfl) rfl rfl rfl (w_n rfl) ?_
          refine TL_q (.int .i64 0) (fun _ _ hρ _ => r_extract (hρ _ _ rfl) rfl) rfl rfl rfl (w_n rfl) ?_
          refine TL_q (.slice ar17 (((joinP (rls fl4)) ++ joinP (rls fl4)).length) cr17) (fun _ _ hρ _ => r_assign (hρ _ _ rfl)) rfl rfl rfl (w_n rfl) ?_
          refine TL_q (.int .i64 0) (fun _ _ hρ _ => r_assign (hρ _ _ rfl)) rfl rfl rfl (w_n rfl) ?_
          refine TL_seq ?_
          refine T_seq (T_region ?_)
          refine TL_q (.int .i64 0) (fun _ _ hρ _ => r_assign (hρ _ _ rfl)) rfl rfl rfl (w_n rfl) ?_
          refine TL_seq ?_
          refine T_seq ?_
          refine T_block ?_
          refine T_seq (T_region ?_)
          refine TL_q (.int .i64 ((sizeV (joinP (rls fl4)) : Nat) : Int)) (fun _ _ hρ _ => r_move (hρ _ _ rfl)) rfl rfl rfl (w_n rfl) ?_
          refine TL_q (.slice ar6 ((joinP (rls fl4)).length) cr6) (fun _ _ hρ _ => r_move (hρ _ _ rfl)) rfl rfl rfl (w_n rfl) ?_
          refine TL_q (.int .i64 (((joinP (rls fl4)).length : Nat) : Int)) (fun _ _ hρ _ => r_len sl34 (hρ _ _ rfl)) rfl rfl rfl (w_n rfl) ?_
          refine TL_q (.bool false) (fun _ _ hρ _ => r_as (r_neq (hρ _ _ rfl) (hρ _ _ rfl)) (bool_as (by rw [decide_eq_true (congrArg (fun n : Nat => (n : Int)) (whyE_ok.1 hJw))]; rfl))) rfl rfl rfl (w_n rfl) ?_
          refine TL_q (.bool false) (fun _ _ hρ _ => r_assign (hρ _ _ rfl)) rfl rfl rfl (w_n rfl) ?_
          refine TL_seq ?_
          refine T_sub [(0, .slice a xs.length cap), (1, .slice b y.length capb), (5, .slice fa4 fl4.length fc4), (6, .slice ar5 ((l2).length) cr5), (9, .slice ar7 ((joinP (rls fl4)).length) cr7), (10, .bool true), (96, .slice (some ⟨B11, 0, none⟩) 2 2), (97, .int .i64 2), (120, .bool true), (121, .bool false), (119, .bool false), (122, .int .i64 0), (123, .bool true), (124, .slice ar5 ((l2).length) cr5), (125, .slice ar7 ((joinP (rls fl4)).length) cr7), (126, .slice ar14 ((l2 ++ (joinP (rls fl4))).length) cr14), (23, .slice ar14 ((l2 ++ (joinP (rls fl4))).length) cr14), (127, .int .i64 0), (128, .int .i64 0), (129, .bool false), (130, .bool false), (131, .slice ar13 ((l2 ++ joinP (rls fl4)).length) cr13), (132, .slice ar14 ((l2 ++ (joinP (rls fl4))).length) cr14), (133, .bool true), (134, .bool false), (135, .bool false), (136, .slice ar13 ((l2 ++ joinP (rls fl4)).length) cr13), (137, .int .i64 (((l2 ++ joinP (rls fl4)).length : Nat) : Int)), (138, .int .i64 ((m : Nat) : Int)), (139, .bool (decide (((m : Nat) : Int) < (((l2 ++ joinP (rls fl4)).length : Nat) : Int)))), (148, .int .i64 1), (98, .int .i64 1), (99, .bool true), (100, .pointer (some ⟨B11, 1, none⟩)), (101, .slice ar6 ((joinP (rls fl4)).length) cr6), (16, .slice ar6 ((joinP (rls fl4)).length) cr6), (103, .slice ar6 ((joinP (rls fl4)).length) cr6), (104, .tuple #[.slice va16 vl16.length vc16, .slice ma16 ml16.length mc16, .int .i64 ((sizeV (joinP (rls fl4)) : Nat) : Int)]), (102, .tuple #[.slice va16 vl16.length vc16, .slice ma16 ml16.length mc16, .int .i64 ((sizeV (joinP (rls fl4)) : Nat) : Int)]), (105, .slice va16 vl16.length vc16), (106, .slice ma16 ml16.length mc16), (107, .int .i64 ((sizeV (joinP (rls fl4)) : Nat) : Int)), (19, .int .i64 ((sizeV (joinP (rls fl4)) : Nat) : Int)), (109, .slice ar6 ((joinP (rls fl4)).length) cr6), (110, .slice fa4 fl4.length fc4), (111, .tuple #[.slice ar17 (((joinP (rls fl4)) ++ joinP (rls fl4)).length) cr17, .int .i64 0]), (108, .tuple #[.slice ar17 (((joinP (rls fl4)) ++ joinP (rls fl4)).length) cr17, .int .i64 0]), (112, .slice ar17 (((joinP (rls fl4)) ++ joinP (rls fl4)).length) cr17), (113, .int .i64 0), (20, .slice ar17 (((joinP (rls fl4)) ++ joinP (rls fl4)).length) cr17), (21, .int .i64 0), (22, .int .i64 0), (115, .int .i64 ((sizeV (joinP (rls fl4)) : Nat) : Int)), (116, .slice ar6 ((joinP (rls fl4)).length) cr6), (117, .int .i64 (((joinP (rls fl4)).length : Nat) : Int)), (118, .bool false), (114, .bool false)] [(11, .row (.slice ar17 (((joinP (rls fl4)) ++ joinP (rls fl4)).length) cr17) 5 1 (((joinP (rls fl4)) ++ joinP (rls fl4)).length) (((joinP (rls fl4)) ++ joinP (rls fl4)).flatMap byc)), (963, .row (.slice va16 vl16.length vc16) 34 1 vl16.length (vl16.flatMap RowG.cells)), (964, .rows vl16), (965, .row (.slice ma16 ml16.length mc16) 3 1 ml16.length (ml16.flatMap nic)), (971, .scr 5 1 isB [(⟨ar13, cr13, l2 ++ joinP (rls fl4)⟩ : RowG By)]), (9, .no), (10, .row (.slice ar14 ((l2 ++ (joinP (rls fl4))).length) cr14) 5 1 ((l2 ++ (joinP (rls fl4))).length) ((l2 ++ (joinP (rls fl4))).flatMap byc)), (5, .row (.slice ar7 ((joinP (rls fl4)).length) cr7) 5 1 ((joinP (rls fl4)).length) ((joinP (rls fl4)).flatMap byc)), (4, .row (.slice ar6 ((joinP (rls fl4)).length) cr6) 5 1 ((joinP (rls fl4)).length) ((joinP (rls fl4)).flatMap byc)), (3, .row (.slice ar5 ((l2).length) cr5) 5 1 ((l2).length) ((l2).flatMap byc)), (1, .row (.slice fa4 fl4.length fc4) 34 1 fl4.length (fl4.flatMap RowG.cells)), (2, .pool 5 1 byc fl4), (8, .blk B11 (.cells #[.slice ar5 ((l2).length) cr5, .slice ar6 ((joinP (rls fl4)).length) cr6] 34))] (sub_cons rfl (sub_cons rfl (sub_cons rfl (sub_cons rfl (sub_cons rfl (sub_cons rfl (sub_cons rfl (sub_cons rfl (sub_cons rfl (sub_cons rfl (sub_cons rfl (sub_cons rfl (sub_cons rfl (sub_cons rfl (sub_cons rfl (sub_cons rfl (sub_cons rfl (sub_cons rfl (sub_cons rfl (sub_cons rfl (sub_cons rfl (sub_cons rfl (sub_cons rfl (sub_cons rfl (sub_cons rfl (sub_cons rfl (sub_cons rfl (sub_cons rfl (sub_cons rfl (sub_cons rfl (sub_cons rfl (sub_cons rfl (sub_cons rfl (sub_cons rfl (sub_cons rfl (sub_cons rfl (sub_cons rfl (sub_cons rfl (sub_cons rfl (sub_cons rfl (sub_cons rfl (sub_cons rfl (sub_cons rfl (sub_cons rfl (sub_cons rfl (sub_cons rfl (sub_cons rfl (sub_cons rfl (sub_cons rfl (sub_cons rfl (sub_cons rfl (sub_cons rfl (sub_cons rfl (sub_cons rfl (sub_cons rfl (sub_cons rfl (sub_cons rfl sub_nil))))))))))))))))))))))))))))))))))))))))))))))))))))))))) (sub_cons rfl (sub_cons rfl (sub_cons rfl (sub_cons rfl (sub_cons rfl (sub_cons rfl (sub_cons rfl (sub_cons rfl (sub_cons rfl (sub_cons rfl (sub_cons rfl (sub_cons rfl (sub_cons rfl sub_nil))))))))))))) ?_
          refine T_cond_f rfl ?_
          refine T_seq (T_region ?_)
          refine TL_q (.bool true) (fun _ _ hρ _ => r_move (hρ _ _ rfl)) rfl rfl rfl (w_n rfl) ?_
          refine TL_q (.bool false) (fun _ _ hρ _ => r_not (b := true) (hρ _ _ rfl)) rfl rfl rfl (w_n rfl) ?_
          refine TL_q (.bool false) (fun _ _ hρ _ => r_assign (hρ _ _ rfl)) rfl rfl rfl (w_n rfl) ?_
          refine TL_seq ?_
          refine T_cond_f rfl ?_
          refine T_skip' ?_
          refine p_blk_n ?_
          refine p_seq ?_
          refine T_seq (T_region ?_)
          refine TL_q (.slice none 0 0) (fun _ _ hρ _ => r_assign (hρ _ _ rfl)) rfl rfl rfl (w_n rfl) ?_
          refine TL_seq ?_
          refine T_seq ?_
          refine T_seq (T_region ?_)
          refine TL_q (.int .i64 0) (fun _ _ hρ _ => r_move (hρ _ _ rfl)) rfl rfl rfl (w_n rfl) ?_
          refine TL_q (.bool true) (fun _ _ hρ _ => r_as (r_eql (hρ _ _ rfl) (hρ _ _ rfl)) (by rfl)) rfl rfl rfl (w_n rfl) ?_
          refine TL_seq ?_
          refine T_cond_t rfl ?_
          refine T_region ?_
          refine TL_q (.slice ar6 ((joinP (rls fl4)).length) cr6) (fun _ _ hρ _ => r_move (hρ _ _ rfl)) rfl rfl rfl (w_n rfl) ?_
          refine TL_q (.slice ar7 ((joinP (rls fl4)).length) cr7) (fun _ _ hρ _ => r_move (hρ _ _ rfl)) rfl rfl rfl (w_n rfl) ?_
          refine TL_callN (fun (_ : Option Addr × Nat) => True) (fun (ar18, cr18) => .slice ar18 (((joinP (rls fl4)) ++ (joinP (rls fl4))).length) cr18) (fun (ar18, cr18) => [(12, .row (.slice ar18 (((joinP (rls fl4)) ++ (joinP (rls fl4))).length) cr18) 5 1 (((joinP (rls fl4)) ++ (joinP (rls fl4))).length) (((joinP (rls fl4)) ++ (joinP (rls fl4))).flatMap byc))]) (fun _ _ hρ _ => r_call (args := [.slice ar6 ((joinP (rls fl4)).length) cr6, .slice ar7 ((joinP (rls fl4)).length) cr7]) (enters_of Try.func44 (by kernel_rfl) rfl) (hρ _ _ rfl) ((cons2 (hρ _ _ rfl) (cons2 (hρ _ _ rfl) rfl))) rfl) (fun w hm => (rbeh_c (joinP (rls fl4)) ar6 cr6 w (SliceAt.own byc_len (hm.row 4 rfl) rfl rfl) (row_cap (hm.row 4 rfl)) (joinP (rls fl4)) ar7 cr7 (SliceAt.own byc_len (hm.row 5 rfl) rfl rfl) (row_cap (hm.row 5 rfl)) (by omega) (by omega)).mono fun e w' ⟨a', cap', he, hb, hr⟩ => ⟨(a', cap'), trivial, he, hb, newOk1 12 hr⟩) rfl rfl rfl (w_n rfl) ?_
          rintro ⟨ar18, cr18⟩ -
          refine TL_q (.slice ar18 (((joinP (rls fl4)) ++ (joinP (rls fl4))).length) cr18) (fun _ _ hρ _ => r_assign (hρ _ _ rfl)) rfl rfl rfl (w_n rfl) ?_
          refine TL_nil ?_
          refine p_seq ?_
          refine T_seq ?_
          refine T_seq (T_region ?_)
          refine TL_q (.int .i64 0) (fun _ _ hρ _ => r_move (hρ _ _ rfl)) rfl rfl rfl (w_n rfl) ?_
          refine TL_q (.int .i64 0) (fun _ _ hρ _ => r_move (hρ _ _ rfl)) rfl rfl rfl (w_n rfl) ?_
          refine TL_q (.bool false) (fun _ _ hρ _ => r_as (r_neq (hρ _ _ rfl) (hρ _ _ rfl)) (by rfl)) rfl rfl rfl (w_n rfl) ?_
          refine TL_q (.bool false) (fun _ _ hρ _ => r_move (hρ _ _ rfl)) rfl rfl rfl (w_n rfl) ?_
          refine TL_q (.slice ar17 (((joinP (rls fl4)) ++ joinP (rls fl4)).length) cr17) (fun _ _ hρ _ => r_move (hρ _ _ rfl)) rfl rfl rfl (want_y 130 rfl rfl rfl) ?_
          refine TL_q (.slice ar18 (((joinP (rls fl4)) ++ (joinP (rls fl4))).length) cr18) (fun _ _ hρ _ => r_move (hρ _ _ rfl)) rfl rfl rfl (want_y 130 rfl rfl rfl) ?_
          refine TL_call (.bool true) (fun _ _ hρ _ => r_call (args := [.slice ar17 (((joinP (rls fl4)) ++ joinP (rls fl4)).length) cr17, .slice ar18 (((joinP (rls fl4)) ++ (joinP (rls fl4))).length) cr18]) (enters_of Try.func16 (by kernel_rfl) rfl) (hρ _ _ rfl) ((cons2 (hρ _ _ rfl) (cons2 (hρ _ _ rfl) rfl))) rfl) (fun w hm => (equal_b ((joinP (rls fl4)) ++ joinP (rls fl4)) ((joinP (rls fl4)) ++ (joinP (rls fl4))) ar17 ar18 cr17 cr18 w (SliceAt.own byc_len (hm.row 11 rfl) rfl rfl) (SliceAt.own byc_len (hm.row 12 rfl) rfl rfl) (by first | omega | (rw [List.length_append]; omega)) (by first | omega | (rw [List.length_append]; omega))).mono fun _ _ h => ⟨h.1.trans (congrArg Ending.returned (bool_as (decide_eq_true rfl))), h.2⟩) rfl rfl rfl (want_y 130 rfl rfl rfl) ?_
          refine TL_q (.bool false) (fun _ _ hρ _ => r_not (b := true) (hρ _ _ rfl)) rfl rfl rfl (want_y 130 rfl rfl rfl) ?_
          refine TL_q (.bool false) (fun _ _ hρ _ => r_pick_f (hρ _ _ rfl) (hρ _ _ rfl)) rfl rfl rfl (w_n rfl) ?_
          refine TL_seq ?_
          refine T_cond_f rfl ?_
          refine T_skip' ?_
          refine p_seq ?_
          refine T_mem (_ :: _ :: _ :: _ :: _) (fun _ hm => hm.rowScr 972 11 rfl rfl rfl) ?_
          refine T_seq (T_region ?_)
          refine TL_q (.slice ar17 (((joinP (rls fl4)) ++ joinP (rls fl4)).length) cr17) (fun _ _ hρ _ => r_move (hρ _ _ rfl)) rfl rfl rfl (w_n rfl) ?_
          refine TL_q (.int .i64 ((((joinP (rls fl4)) ++ joinP (rls fl4)).length : Nat) : Int)) (fun _ _ hρ _ => r_len sl34 (hρ _ _ rfl)) rfl rfl rfl (w_n rfl) ?_
          refine TL_q (.int .i64 0) (fun _ _ hρ _ => r_move (hρ _ _ rfl)) rfl rfl rfl (w_n rfl) ?_
          refine TL_seq ?_
          refine T_block ?_
          have hal : ((joinP (rls fl4)) ++ joinP (rls fl4)).length ≤ 1000000 := by rw [List.length_append]; omega
          refine T_loop (ι := Nat) (fun (m : Nat) => m ≤ ((joinP (rls fl4)) ++ joinP (rls fl4)).length) (fun (m : Nat) => [(0, .slice a xs.length cap), (1, .slice b y.length capb), (5, .slice fa4 fl4.length fc4), (6, .slice ar5 ((l2).length) cr5), (9, .slice ar7 ((joinP (rls fl4)).length) cr7), (10, .bool true), (96, .slice (some ⟨B11, 0, none⟩) 2 2), (97, .int .i64 2), (148, .int .i64 1), (98, .int .i64 1), (99, .bool true), (100, .pointer (some ⟨B11, 1, none⟩)), (101, .slice ar6 ((joinP (rls fl4)).length) cr6), (16, .slice ar6 ((joinP (rls fl4)).length) cr6), (103, .slice ar6 ((joinP (rls fl4)).length) cr6), (104, .tuple #[.slice va16 vl16.length vc16, .slice ma16 ml16.length mc16, .int .i64 ((sizeV (joinP (rls fl4)) : Nat) : Int)]), (102, .tuple #[.slice va16 vl16.length vc16, .slice ma16 ml16.length mc16, .int .i64 ((sizeV (joinP (rls fl4)) : Nat) : Int)]), (105, .slice va16 vl16.length vc16), (106, .slice ma16 ml16.length mc16), (107, .int .i64 ((sizeV (joinP (rls fl4)) : Nat) : Int)), (19, .int .i64 ((sizeV (joinP (rls fl4)) : Nat) : Int)), (109, .slice ar6 ((joinP (rls fl4)).length) cr6), (110, .slice fa4 fl4.length fc4), (111, .tuple #[.slice ar17 (((joinP (rls fl4)) ++ joinP (rls fl4)).length) cr17, .int .i64 0]), (108, .tuple #[.slice ar17 (((joinP (rls fl4)) ++ joinP (rls fl4)).length) cr17, .int .i64 0]), (112, .slice ar17 (((joinP (rls fl4)) ++ joinP (rls fl4)).length) cr17), (113, .int .i64 0), (20, .slice ar17 (((joinP (rls fl4)) ++ joinP (rls fl4)).length) cr17), (21, .int .i64 0), (22, .int .i64 0), (115, .int .i64 ((sizeV (joinP (rls fl4)) : Nat) : Int)), (116, .slice ar6 ((joinP (rls fl4)).length) cr6), (117, .int .i64 (((joinP (rls fl4)).length : Nat) : Int)), (118, .bool false), (114, .bool false), (120, .bool true), (121, .bool false), (119, .bool false), (122, .int .i64 0), (123, .bool true), (124, .slice ar6 ((joinP (rls fl4)).length) cr6), (125, .slice ar7 ((joinP (rls fl4)).length) cr7), (126, .slice ar18 (((joinP (rls fl4)) ++ (joinP (rls fl4))).length) cr18), (23, .slice ar18 (((joinP (rls fl4)) ++ (joinP (rls fl4))).length) cr18), (127, .int .i64 0), (128, .int .i64 0), (129, .bool false), (130, .bool false), (131, .slice ar17 (((joinP (rls fl4)) ++ joinP (rls fl4)).length) cr17), (132, .slice ar18 (((joinP (rls fl4)) ++ (joinP (rls fl4))).length) cr18), (133, .bool true), (134, .bool false), (135, .bool false), (136, .slice ar17 (((joinP (rls fl4)) ++ joinP (rls fl4)).length) cr17), (137, .int .i64 ((((joinP (rls fl4)) ++ joinP (rls fl4)).length : Nat) : Int)), (138, .int .i64 ((m : Nat) : Int))]) (fun (m : Nat) => [(972, .scr 5 1 isB [(⟨ar17, cr17, (joinP (rls fl4)) ++ joinP (rls fl4)⟩ : RowG By)]), (11, .no), (12, .row (.slice ar18 (((joinP (rls fl4)) ++ (joinP (rls fl4))).length) cr18) 5 1 (((joinP (rls fl4)) ++ (joinP (rls fl4))).length) (((joinP (rls fl4)) ++ (joinP (rls fl4))).flatMap byc)), (963, .row (.slice va16 vl16.length vc16) 34 1 vl16.length (vl16.flatMap RowG.cells)), (964, .rows vl16), (965, .row (.slice ma16 ml16.length mc16) 3 1 ml16.length (ml16.flatMap nic)), (971, .scr 5 1 isB [(⟨ar13, cr13, l2 ++ joinP (rls fl4)⟩ : RowG By)]), (9, .no), (10, .row (.slice ar14 ((l2 ++ (joinP (rls fl4))).length) cr14) 5 1 ((l2 ++ (joinP (rls fl4))).length) ((l2 ++ (joinP (rls fl4))).flatMap byc)), (5, .row (.slice ar7 ((joinP (rls fl4)).length) cr7) 5 1 ((joinP (rls fl4)).length) ((joinP (rls fl4)).flatMap byc)), (4, .row (.slice ar6 ((joinP (rls fl4)).length) cr6) 5 1 ((joinP (rls fl4)).length) ((joinP (rls fl4)).flatMap byc)), (3, .row (.slice ar5 ((l2).length) cr5) 5 1 ((l2).length) ((l2).flatMap byc)), (1, .row (.slice fa4 fl4.length fc4) 34 1 fl4.length (fl4.flatMap RowG.cells)), (2, .pool 5 1 byc fl4), (8, .blk B11 (.cells #[.slice ar5 ((l2).length) cr5, .slice ar6 ((joinP (rls fl4)).length) cr6] 34))]) (fun (m : Nat) => ((joinP (rls fl4)) ++ joinP (rls fl4)).length - m) 0 (Nat.zero_le _) (sub_cons rfl (sub_cons rfl (sub_cons rfl (sub_cons rfl (sub_cons rfl (sub_cons rfl (sub_cons rfl (sub_cons rfl (sub_cons rfl (sub_cons rfl (sub_cons rfl (sub_cons rfl (sub_cons rfl (sub_cons rfl (sub_cons rfl (sub_cons rfl (sub_cons rfl (sub_cons rfl (sub_cons rfl (sub_cons rfl (sub_cons rfl (sub_cons rfl (sub_cons rfl (sub_cons rfl (sub_cons rfl (sub_cons rfl (sub_cons rfl (sub_cons rfl (sub_cons rfl (sub_cons rfl (sub_cons rfl (sub_cons rfl (sub_cons rfl (sub_cons rfl (sub_cons rfl (sub_cons rfl (sub_cons rfl (sub_cons rfl (sub_cons rfl (sub_cons rfl (sub_cons rfl (sub_cons rfl (sub_cons rfl (sub_cons rfl (sub_cons rfl (sub_cons rfl (sub_cons rfl (sub_cons rfl (sub_cons rfl (sub_cons rfl (sub_cons rfl (sub_cons rfl (sub_cons rfl (sub_cons rfl (sub_cons rfl (sub_cons rfl sub_nil)))))))))))))))))))))))))))))))))))))))))))))))))))))))) (sub_cons rfl (sub_cons rfl (sub_cons rfl (sub_cons rfl (sub_cons rfl (sub_cons rfl (sub_cons rfl (sub_cons rfl (sub_cons rfl (sub_cons rfl (sub_cons rfl (sub_cons rfl (sub_cons rfl (sub_cons rfl (sub_cons rfl sub_nil))))))))))))))) ?_
          rintro m hp
          have hmk := hp
          show T _ _ _ [(0, .slice a xs.length cap), (1, .slice b y.length capb), (5, .slice fa4 fl4.length fc4), (6, .slice ar5 ((l2).length) cr5), (9, .slice ar7 ((joinP (rls fl4)).length) cr7), (10, .bool true), (96, .slice (some ⟨B11, 0, none⟩) 2 2), (97, .int .i64 2), (148, .int .i64 1), (98, .int .i64 1), (99, .bool true), (100, .pointer (some ⟨B11, 1, none⟩)), (101, .slice ar6 ((joinP (rls fl4)).length) cr6), (16, .slice ar6 ((joinP (rls fl4)).length) cr6), (103, .slice ar6 ((joinP (rls fl4)).length) cr6), (104, .tuple #[.slice va16 vl16.length vc16, .slice ma16 ml16.length mc16, .int .i64 ((sizeV (joinP (rls fl4)) : Nat) : Int)]), (102, .tuple #[.slice va16 vl16.length vc16, .slice ma16 ml16.length mc16, .int .i64 ((sizeV (joinP (rls fl4)) : Nat) : Int)]), (105, .slice va16 vl16.length vc16), (106, .slice ma16 ml16.length mc16), (107, .int .i64 ((sizeV (joinP (rls fl4)) : Nat) : Int)), (19, .int .i64 ((sizeV (joinP (rls fl4)) : Nat) : Int)), (109, .slice ar6 ((joinP (rls fl4)).length) cr6), (110, .slice fa4 fl4.length fc4), (111, .tuple #[.slice ar17 (((joinP (rls fl4)) ++ joinP (rls fl4)).length) cr17, .int .i64 0]), (108, .tuple #[.slice ar17 (((joinP (rls fl4)) ++ joinP (rls fl4)).length) cr17, .int .i64 0]), (112, .slice ar17 (((joinP (rls fl4)) ++ joinP (rls fl4)).length) cr17), (113, .int .i64 0), (20, .slice ar17 (((joinP (rls fl4)) ++ joinP (rls fl4)).length) cr17), (21, .int .i64 0), (22, .int .i64 0), (115, .int .i64 ((sizeV (joinP (rls fl4)) : Nat) : Int)), (116, .slice ar6 ((joinP (rls fl4)).length) cr6), (117, .int .i64 (((joinP (rls fl4)).length : Nat) : Int)), (118, .bool false), (114, .bool false), (120, .bool true), (121, .bool false), (119, .bool false), (122, .int .i64 0), (123, .bool true), (124, .slice ar6 ((joinP (rls fl4)).length) cr6), (125, .slice ar7 ((joinP (rls fl4)).length) cr7), (126, .slice ar18 (((joinP (rls fl4)) ++ (joinP (rls fl4))).length) cr18), (23, .slice ar18 (((joinP (rls fl4)) ++ (joinP (rls fl4))).length) cr18), (127, .int .i64 0), (128, .int .i64 0), (129, .bool false), (130, .bool false), (131, .slice ar17 (((joinP (rls fl4)) ++ joinP (rls fl4)).length) cr17), (132, .slice ar18 (((joinP (rls fl4)) ++ (joinP (rls fl4))).length) cr18), (133, .bool true), (134, .bool false), (135, .bool false), (136, .slice ar17 (((joinP (rls fl4)) ++ joinP (rls fl4)).length) cr17), (137, .int .i64 ((((joinP (rls fl4)) ++ joinP (rls fl4)).length : Nat) : Int)), (138, .int .i64 ((m : Nat) : Int))] [(972, .scr 5 1 isB [(⟨ar17, cr17, (joinP (rls fl4)) ++ joinP (rls fl4)⟩ : RowG By)]), (11, .no), (12, .row (.slice ar18 (((joinP (rls fl4)) ++ (joinP (rls fl4))).length) cr18) 5 1 (((joinP (rls fl4)) ++ (joinP (rls fl4))).length) (((joinP (rls fl4)) ++ (joinP (rls fl4))).flatMap byc)), (963, .row (.slice va16 vl16.length vc16) 34 1 vl16.length (vl16.flatMap RowG.cells)), (964, .rows vl16), (965, .row (.slice ma16 ml16.length mc16) 3 1 ml16.length (ml16.flatMap nic)), (971, .scr 5 1 isB [(⟨ar13, cr13, l2 ++ joinP (rls fl4)⟩ : RowG By)]), (9, .no), (10, .row (.slice ar14 ((l2 ++ (joinP (rls fl4))).length) cr14) 5 1 ((l2 ++ (joinP (rls fl4))).length) ((l2 ++ (joinP (rls fl4))).flatMap byc)), (5, .row (.slice ar7 ((joinP (rls fl4)).length) cr7) 5 1 ((joinP (rls fl4)).length) ((joinP (rls fl4)).flatMap byc)), (4, .row (.slice ar6 ((joinP (rls fl4)).length) cr6) 5 1 ((joinP (rls fl4)).length) ((joinP (rls fl4)).flatMap byc)), (3, .row (.slice ar5 ((l2).length) cr5) 5 1 ((l2).length) ((l2).flatMap byc)), (1, .row (.slice fa4 fl4.length fc4) 34 1 fl4.length (fl4.flatMap RowG.cells)), (2, .pool 5 1 byc fl4), (8, .blk B11 (.cells #[.slice ar5 ((l2).length) cr5, .slice ar6 ((joinP (rls fl4)).length) cr6] 34))]
          refine T_seq (T_region ?_)
          refine TL_q (.bool (decide (((m : Nat) : Int) < ((((joinP (rls fl4)) ++ joinP (rls fl4)).length : Nat) : Int)))) (fun _ _ hρ _ => r_lss (hρ _ _ rfl) (hρ _ _ rfl)) rfl rfl rfl (w_n rfl) ?_
          refine TL_seq ?_
          refine T_seq ?_
          refine T_cond rfl (fun h3 => ?_) (fun h3 => ?_)
          · replace h3 := of_decide_eq_true h3
            refine T_skip' ?_
            refine p_seq ?_
            refine T_seq ?_
            refine T_block ?_
            refine T_seq (T_region ?_)
            refine TL_q (.int .i64 ((m : Nat) : Int)) (fun _ _ hρ _ => r_move (hρ _ _ rfl)) rfl rfl rfl (w_n rfl) ?_
            refine TL_q (.int .i64 ((m : Nat) : Int)) (fun _ _ hρ _ => r_assign (hρ _ _ rfl)) rfl rfl rfl (w_n rfl) ?_
            refine TL_seq ?_
            refine T_scr (r := (⟨ar17, cr17, (joinP (rls fl4)) ++ joinP (rls fl4)⟩ : RowG By)) 972 rfl (List.mem_singleton.2 rfl) (fun e => by have := congrArg List.length (show (joinP (rls fl4)) ++ joinP (rls fl4) = [] from e); simp only [List.length_nil] at this; omega) (fun B9 hB9 => ?_)
            replace hB9 : ar17 = some ⟨B9, 0, none⟩ := hB9
            rw [hB9]
            refine T_region ?_
            refine TL_q (.slice (some ⟨B9, 0, none⟩) (((joinP (rls fl4)) ++ joinP (rls fl4)).length) cr17) (fun _ _ hρ _ => r_move (hρ _ _ rfl)) rfl rfl rfl (w_n rfl) ?_
            refine TL_q (.int .i64 ((m : Nat) : Int)) (fun _ _ hρ _ => r_move (hρ _ _ rfl)) rfl rfl rfl (w_n rfl) ?_
            refine TL_q (.pointer (some ⟨B9, 0 + m * 1, none⟩)) (fun _ _ hρ _ => r_indexAddrS (i := m) sl34 sz5 (hρ _ _ rfl) (hρ _ _ rfl) (by omega)) rfl rfl rfl (w_n rfl) ?_
            refine TL_op (ι := By) (fun B => .int .u8 ((B).toNat : Int)) _ (fun _ _ hρ hm => o_loadB (r := (⟨some ⟨B9, 0, none⟩, cr17, (joinP (rls fl4)) ++ joinP (rls fl4)⟩ : RowG By)) (i := 0 + m * 1) 972 rfl (List.mem_singleton.2 rfl) ag5 rfl (show 0 + m * 1 < ((joinP (rls fl4)) ++ joinP (rls fl4)).length * 1 by omega) (hρ _ _ rfl) hm) rfl rfl rfl (w_n rfl) ?_
            intro B19
            refine TL_q (.int .u8 ((B19 + (1#8)).toNat : Int)) (fun _ _ hρ _ => r_addB (k := .u8) (a := B19) (b := (1#8)) rfl (hρ _ _ rfl) (hρ _ _ rfl)) rfl rfl rfl (w_n rfl) ?_
            refine TL_q (.pointer (some ⟨B9, 0 + m * 1, none⟩)) (fun _ _ hρ _ => r_indexAddrS (i := m) sl34 sz5 (hρ _ _ rfl) (hρ _ _ rfl) (by omega)) rfl rfl rfl (w_n rfl) ?_
            refine TL_opS _ (fun _ _ hρ hm => o_storeScr (r := (⟨some ⟨B9, 0, none⟩, cr17, (joinP (rls fl4)) ++ joinP (rls fl4)⟩ : RowG By)) (i := 0 + m * 1) (v := .int .u8 ((B19 + (1#8)).toNat : Int)) 972 rfl (List.mem_singleton.2 rfl) rfl (show 0 + m * 1 < ((joinP (rls fl4)) ++ joinP (rls fl4)).length * 1 by omega) (hρ _ _ rfl) (hρ _ _ rfl) sz5 rfl rfl ⟨_, rfl⟩ hm) rfl rfl (w_n rfl) ?_
            refine TL_nil ?_
            refine p_blk_n ?_
            refine p_seq ?_
            rw [← hB9]
            refine T_region ?_
            refine TL_q (.int .i64 ((m + 1 : Nat) : Int)) (fun _ _ hρ _ => r_as (r_add (hρ _ _ rfl) (hρ _ _ rfl)) (int_as ((wrap64 (by omega) (by omega)).trans (by omega)))) rfl rfl rfl (w_n rfl) ?_
            refine TL_q (.int .i64 ((m + 1 : Nat) : Int)) (fun _ _ hρ _ => r_move (hρ _ _ rfl)) rfl rfl rfl (w_n rfl) ?_
            refine TL_nil ?_
            exact p_at (m + 1) ⟨by omega, by omega⟩ (sub_cons rfl (sub_cons rfl (sub_cons rfl (sub_cons rfl (sub_cons rfl (sub_cons rfl (sub_cons rfl (sub_cons rfl (sub_cons rfl (sub_cons rfl (sub_cons rfl (sub_cons rfl (sub_cons rfl (sub_cons rfl (sub_cons rfl (sub_cons rfl (sub_cons rfl (sub_cons rfl (sub_cons rfl (sub_cons rfl (sub_cons rfl (sub_cons rfl (sub_cons rfl (sub_cons rfl (sub_cons rfl (sub_cons rfl (sub_cons rfl (sub_cons rfl (sub_cons rfl (sub_cons rfl (sub_cons rfl (sub_cons rfl (sub_cons rfl (sub_cons rfl (sub_cons rfl (sub_cons rfl (sub_cons rfl (sub_cons rfl (sub_cons rfl (sub_cons rfl (sub_cons rfl (sub_cons rfl (sub_cons rfl (sub_cons rfl (sub_cons rfl (sub_cons rfl (sub_cons rfl (sub_cons rfl (sub_cons rfl (sub_cons rfl (sub_cons rfl (sub_cons rfl (sub_cons rfl (sub_cons rfl (sub_cons rfl (sub_cons rfl sub_nil)))))))))))))))))))))))))))))))))))))))))))))))))))))))) (sub_cons rfl (sub_cons rfl (sub_cons rfl (sub_cons rfl (sub_cons rfl (sub_cons rfl (sub_cons rfl (sub_cons rfl (sub_cons rfl (sub_cons rfl (sub_cons rfl (sub_cons rfl (sub_cons rfl (sub_cons rfl (sub_cons rfl sub_nil)))))))))))))))
          · replace h3 := of_decide_eq_false h3
            refine T_exit' ?_
            refine p_then_x ?_
            refine p_then_x ?_
            refine p_blk_x ?_
            refine p_blk_n ?_
            refine p_seq ?_
            refine T_region ?_
            refine TL_q (.int .i64 2) (fun _ _ hρ _ => r_as (r_add (hρ _ _ rfl) (hρ _ _ rfl)) (by rfl)) rfl rfl rfl (w_n rfl) ?_
            refine TL_q (.int .i64 2) (fun _ _ hρ _ => r_move (hρ _ _ rfl)) rfl rfl rfl (w_n rfl) ?_
            refine TL_nil ?_
            refine p_round ?_
            refine TR_succ ?_
            refine T_seq (T_region ?_)
            refine TL_q (.bool false) (fun _ _ hρ _ => r_as (r_lss (hρ _ _ rfl) (hρ _ _ rfl)) (by rfl)) rfl rfl rfl (w_n rfl) ?_
            refine TL_seq ?_
            refine T_seq ?_
            refine T_cond_f rfl ?_
            refine T_exit' ?_
            refine p_then_x ?_
            refine p_then_x ?_
            refine p_blk_x ?_
            refine p_seq ?_
            refine T_seq (T_region ?_)
            refine TL_q (.slice fa4 fl4.length fc4) (fun _ _ hρ _ => r_move (hρ _ _ rfl)) rfl rfl rfl (w_n rfl) ?_
            refine TL_q (.slice a xs.length cap) (fun _ _ hρ _ => r_move (hρ _ _ rfl)) rfl rfl rfl (w_n rfl) ?_
            refine TL_callN (fun ((fa20, fc20, fl20) : Option Addr × Nat × List (RowG By)) => rls fl20 = fewR (rls xs)) (fun (fa20, fc20, fl20) => .slice fa20 fl20.length fc20) (fun (fa20, fc20, fl20) => [(13, .row (.slice fa20 fl20.length fc20) 34 1 fl20.length (fl20.flatMap RowG.cells)), (14, .pool 5 1 byc fl20)]) (fun _ _ hρ _ => r_call (args := [.slice a xs.length cap]) (enters_of Try.func36 (by kernel_rfl) rfl) (hρ _ _ rfl) ((cons2 (hρ _ _ rfl) rfl)) rfl) (fun w hm => (fewr_c xs a cap w (hv.keep hm.ext) hcap (hx.keep hm.ext)).mono fun e w' ⟨n, hf, he, hb, r1, r2, hs⟩ => ⟨(n.a, n.cap, n.l), hf, he, hb, newOk2 13 14 r1 r2 hs⟩) rfl rfl rfl (w_n rfl) ?_
            rintro ⟨fa20, fc20, fl20⟩ hfw20
            refine TL_call (.bool true) (fun _ _ hρ _ => r_call (args := [.slice fa4 fl4.length fc4, .slice fa20 fl20.length fc20]) (enters_of Try.func45 (by kernel_rfl) rfl) (hρ _ _ rfl) ((cons2 (hρ _ _ rfl) (cons2 (hρ _ _ rfl) rfl))) rfl) (fun w hm => (same_c fl4 fa4 fc4 fl20 fa20 fc20 w (SliceAt.own RowG.cells_len (hm.row 1 rfl) rfl rfl) (row_cap (hm.row 1 rfl)) (fun r hr => ⟨poolAt byc_len (hm.pool 2 rfl) hr, poolCap (hm.pool 2 rfl) hr⟩) (fun r hr => Nat.le_trans (rls_le hfw4 (fewR_le _) r hr) (by decide)) (SliceAt.own RowG.cells_len (hm.row 13 rfl) rfl rfl) (row_cap (hm.row 13 rfl)) (fun r hr => ⟨poolAt byc_len (hm.pool 14 rfl) hr, poolCap (hm.pool 14 rfl) hr⟩) (fun r hr => Nat.le_trans (rls_le hfw20 (fewR_le _) r hr) (by decide))).mono fun _ _ h => ⟨h.1.trans (congrArg Ending.returned (bool_as (decide_eq_true (hfw4.trans hfw20.symm)))), h.2⟩) rfl rfl rfl (w_n rfl) ?_
            refine TL_q (.bool true) (fun _ _ hρ _ => r_move (hρ _ _ rfl)) rfl rfl rfl (w_n rfl) ?_
            refine TL_q (.slice ar5 ((l2).length) cr5) (fun _ _ hρ _ => r_move (hρ _ _ rfl)) rfl rfl rfl (want_y 153 rfl rfl rfl) ?_
            refine TL_q (.slice b y.length capb) (fun _ _ hρ _ => r_move (hρ _ _ rfl)) rfl rfl rfl (want_y 153 rfl rfl rfl) ?_
            refine TL_q (.slice ar5 ((l2).length) cr5) (fun _ _ hρ _ => r_move (hρ _ _ rfl)) rfl rfl rfl (want_y 153 rfl rfl rfl) ?_
            refine TL_q (.int .i64 (((l2).length : Nat) : Int)) (fun _ _ hρ _ => r_len sl34 (hρ _ _ rfl)) rfl rfl rfl (want_y 153 rfl rfl rfl) ?_
            obtain ⟨l21, hl21, hn21⟩ : ∃ lz, lz = y.take ((l2).length) ∧ lz.length = (l2).length := ⟨_, rfl, by rw [List.length_take]; omega⟩
            have hs21 := SliceAt.front hu (n := (l2).length) (m := capb) (by omega) (by omega) (by omega)
            rw [← hl21] at hs21
            refine TL_q (.slice b l21.length capb) (fun ρ _ hρ _ => r_as (r_sliceO sl34 sz5 (hρ _ _ rfl) (bd_none ρ _) (bd_some (n := (l2).length) (hρ _ _ rfl)) (bd_none ρ _) (by simp) (by omega) (by omega) (by omega)) (by rw [hn21]; exact slo_zero _ _ _ _)) rfl rfl rfl (want_y 153 rfl rfl rfl) ?_
            refine TL_call (.bool true) (fun _ _ hρ _ => r_call (args := [.slice ar5 ((l2).length) cr5, .slice b l21.length capb]) (enters_of Try.func16 (by kernel_rfl) rfl) (hρ _ _ rfl) ((cons2 (hρ _ _ rfl) (cons2 (hρ _ _ rfl) rfl))) rfl) (fun w hm => (equal_b l2 l21 ar5 b cr5 capb w (SliceAt.own byc_len (hm.row 3 rfl) rfl rfl) (hs21.keep hm.ext) (by first | omega | (rw [List.length_append]; omega)) (by first | omega | (rw [List.length_append]; omega))).mono fun _ _ h => ⟨h.1.trans (congrArg Ending.returned (bool_as (decide_eq_true (by rw [hl21, hn2, hl2])))), h.2⟩) rfl rfl rfl (want_y 153 rfl rfl rfl) ?_
            refine TL_q (.bool true) (fun _ _ hρ _ => r_pick_t (hρ _ _ rfl) (hρ _ _ rfl)) rfl rfl rfl (w_n rfl) ?_
            refine TL_q (.bool true) (fun _ _ hρ _ => r_assign (hρ _ _ rfl)) rfl rfl rfl (w_n rfl) ?_
            refine TL_seq ?_
            refine T_ret' ?_
            refine ret_of rfl (.bool true) (fun tmps w hk hm => res1 rfl (res_tmp (hk 4 _ rfl))) (fun w hm => ?_)
            exact ⟨rfl, hm.ext⟩
      · skip
        refine T_seq (T_region ?_)
        refine TL_q (.slice ar5 ((l2).length) cr5) (fun _ _ hρ _ => r_move (hρ _ _ rfl)) rfl rfl rfl (w_n rfl) ?_
        refine TL_q (.slice fa4 fl4.length fc4) (fun _ _ hρ _ => r_move (hρ _ _ rfl)) rfl rfl rfl (w_n rfl) ?_
        refine TL_call (.tuple #[.slice none 0 0, .int .i64 2]) (fun _ _ hρ _ => r_call (args := [.slice ar5 ((l2).length) cr5, .slice fa4 fl4.length fc4]) (enters_of Try.func43 (by kernel_rfl) rfl) (hρ _ _ rfl) ((cons2 (hρ _ _ rfl) (cons2 (hρ _ _ rfl) rfl))) rfl) (fun w hm => app_arg l2 ar5 cr5 w (SliceAt.own byc_len (hm.row 3 rfl) rfl rfl) (row_cap (hm.row 3 rfl)) fl4 fa4 fc4 (SliceAt.own RowG.cells_len (hm.row 1 rfl) rfl rfl) (row_cap (hm.row 1 rfl)) (fun r hr => ⟨poolAt byc_len (hm.pool 2 rfl) hr, poolCap (hm.pool 2 rfl) hr⟩) (by omega) (by omega) hwy) rfl rfl rfl (w_n rfl) ?_
        refine TL_q (.tuple #[.slice none 0 0, .int .i64 2]) (fun _ _ hρ _ => r_move (hρ _ _ rfl)) rfl rfl rfl (w_n rfl) ?_
        refine TL_q (.slice none 0 0) (fun _ _ hρ _ => r_extract (hρ _ _ rfl) rfl) rfl rfl rfl (w_n rfl) ?_
        refine TL_q (.int .i64 2) (fun _ _ hρ _ => r_extract (hρ _ _ rfl) rfl) rfl rfl rfl (w_n rfl) ?_
        refine TL_q (.slice none 0 0) (fun _ _ hρ _ => r_assign (hρ _ _ rfl)) rfl rfl rfl (w_n rfl) ?_
        refine TL_q (.int .i64 2) (fun _ _ hρ _ => r_assign (hρ _ _ rfl)) rfl rfl rfl (w_n rfl) ?_
        refine TL_seq ?_
        refine T_seq (T_region ?_)
        refine TL_q (.int .i64 0) (fun _ _ hρ _ => r_assign (hρ _ _ rfl)) rfl rfl rfl (w_n rfl) ?_
        refine TL_seq ?_
        refine T_seq ?_
        refine T_block ?_
        refine T_seq (T_region ?_)
        refine TL_q (.int .i64 ((sizeV l2 : Nat) : Int)) (fun _ _ hρ _ => r_move (hρ _ _ rfl)) rfl rfl rfl (w_n rfl) ?_
        refine TL_q (.slice ar5 ((l2).length) cr5) (fun _ _ hρ _ => r_move (hρ _ _ rfl)) rfl rfl rfl (w_n rfl) ?_
        refine TL_q (.int .i64 (((l2).length : Nat) : Int)) (fun _ _ hρ _ => r_len sl34 (hρ _ _ rfl)) rfl rfl rfl (w_n rfl) ?_
        refine TL_q (.bool true) (fun _ _ hρ _ => r_as (r_neq (hρ _ _ rfl) (hρ _ _ rfl)) (bool_as (by rw [decide_eq_false (fun e => hwy (whyE_ok.2 (by omega)))]; rfl))) rfl rfl rfl (w_n rfl) ?_
        refine TL_q (.bool true) (fun _ _ hρ _ => r_assign (hρ _ _ rfl)) rfl rfl rfl (w_n rfl) ?_
        refine TL_seq ?_
        refine T_sub [(0, .slice a xs.length cap), (1, .slice b y.length capb), (5, .slice fa4 fl4.length fc4), (6, .slice ar5 ((l2).length) cr5), (9, .slice ar7 ((joinP (rls fl4)).length) cr7), (10, .bool true), (96, .slice (some ⟨B11, 0, none⟩) 2 2), (97, .int .i64 2), (98, .int .i64 0), (99, .bool true), (100, .pointer (some ⟨B11, 0, none⟩)), (101, .slice ar5 ((l2).length) cr5), (16, .slice ar5 ((l2).length) cr5), (103, .slice ar5 ((l2).length) cr5), (104, .tuple #[.slice va12 vl12.length vc12, .slice ma12 ml12.length mc12, .int .i64 ((sizeV l2 : Nat) : Int)]), (102, .tuple #[.slice va12 vl12.length vc12, .slice ma12 ml12.length mc12, .int .i64 ((sizeV l2 : Nat) : Int)]), (105, .slice va12 vl12.length vc12), (106, .slice ma12 ml12.length mc12), (107, .int .i64 ((sizeV l2 : Nat) : Int)), (19, .int .i64 ((sizeV l2 : Nat) : Int)), (109, .slice ar5 ((l2).length) cr5), (110, .slice fa4 fl4.length fc4), (111, .tuple #[.slice none 0 0, .int .i64 2]), (108, .tuple #[.slice none 0 0, .int .i64 2]), (112, .slice none 0 0), (113, .int .i64 2), (20, .slice none 0 0), (21, .int .i64 2), (22, .int .i64 0), (115, .int .i64 ((sizeV l2 : Nat) : Int)), (116, .slice ar5 ((l2).length) cr5), (117, .int .i64 (((l2).length : Nat) : Int)), (118, .bool true), (114, .bool true)] [(963, .row (.slice va12 vl12.length vc12) 34 1 vl12.length (vl12.flatMap RowG.cells)), (964, .rows vl12), (965, .row (.slice ma12 ml12.length mc12) 3 1 ml12.length (ml12.flatMap nic)), (5, .row (.slice ar7 ((joinP (rls fl4)).length) cr7) 5 1 ((joinP (rls fl4)).length) ((joinP (rls fl4)).flatMap byc)), (4, .row (.slice ar6 ((joinP (rls fl4)).length) cr6) 5 1 ((joinP (rls fl4)).length) ((joinP (rls fl4)).flatMap byc)), (3, .row (.slice ar5 ((l2).length) cr5) 5 1 ((l2).length) ((l2).flatMap byc)), (1, .row (.slice fa4 fl4.length fc4) 34 1 fl4.length (fl4.flatMap RowG.cells)), (2, .pool 5 1 byc fl4), (8, .blk B11 (.cells #[.slice ar5 ((l2).length) cr5, .slice ar6 ((joinP (rls fl4)).length) cr6] 34))] (sub_cons rfl (sub_cons rfl (sub_cons rfl (sub_cons rfl (sub_cons rfl (sub_cons rfl (sub_cons rfl (sub_cons rfl (sub_cons rfl (sub_cons rfl (sub_cons rfl (sub_cons rfl (sub_cons rfl (sub_cons rfl (sub_cons rfl (sub_cons rfl (sub_cons rfl (sub_cons rfl (sub_cons rfl (sub_cons rfl (sub_cons rfl (sub_cons rfl (sub_cons rfl (sub_cons rfl (sub_cons rfl (sub_cons rfl (sub_cons rfl (sub_cons rfl (sub_cons rfl (sub_cons rfl (sub_cons rfl (sub_cons rfl (sub_cons rfl (sub_cons rfl sub_nil)))))))))))))))))))))))))))))))))) (sub_cons rfl (sub_cons rfl (sub_cons rfl (sub_cons rfl (sub_cons rfl (sub_cons rfl (sub_cons rfl (sub_cons rfl (sub_cons rfl sub_nil))))))))) ?_
        refine T_cond_t rfl ?_
        refine T_region ?_
        refine TL_q (.int .i64 2) (fun _ _ hρ _ => r_assign (hρ _ _ rfl)) rfl rfl rfl (w_n rfl) ?_
        refine TL_nil ?_
        refine p_blk_n ?_
        refine p_seq ?_
        refine T_seq (T_region ?_)
        refine TL_q (.slice none 0 0) (fun _ _ hρ _ => r_assign (hρ _ _ rfl)) rfl rfl rfl (w_n rfl) ?_
        refine TL_seq ?_
        refine T_seq ?_
        refine T_seq (T_region ?_)
        refine TL_q (.int .i64 2) (fun _ _ hρ _ => r_move (hρ _ _ rfl)) rfl rfl rfl (w_n rfl) ?_
        refine TL_q (.bool false) (fun _ _ hρ _ => r_as (r_eql (hρ _ _ rfl) (hρ _ _ rfl)) (by rfl)) rfl rfl rfl (w_n rfl) ?_
        refine TL_seq ?_
        refine T_cond_f rfl ?_
        refine T_skip' ?_
        refine p_seq ?_
        refine T_seq ?_
        refine T_seq (T_region ?_)
        refine TL_q (.int .i64 2) (fun _ _ hρ _ => r_move (hρ _ _ rfl)) rfl rfl rfl (w_n rfl) ?_
        refine TL_q (.int .i64 2) (fun _ _ hρ _ => r_move (hρ _ _ rfl)) rfl rfl rfl (w_n rfl) ?_
        refine TL_q (.bool false) (fun _ _ hρ _ => r_as (r_neq (hρ _ _ rfl) (hρ _ _ rfl)) (by rfl)) rfl rfl rfl (w_n rfl) ?_
        refine TL_q (.bool false) (fun _ _ hρ _ => r_move (hρ _ _ rfl)) rfl rfl rfl (w_n rfl) ?_
        refine TL_q (.slice none 0 0) (fun _ _ hρ _ => r_move (hρ _ _ rfl)) rfl rfl rfl (want_y 130 rfl rfl rfl) ?_
        refine TL_q (.slice none 0 0) (fun _ _ hρ _ => r_move (hρ _ _ rfl)) rfl rfl rfl (want_y 130 rfl rfl rfl) ?_
        refine TL_call (.bool true) (fun _ _ hρ _ => r_call (args := [.slice none 0 0, .slice none 0 0]) (enters_of Try.func16 (by kernel_rfl) rfl) (hρ _ _ rfl) ((cons2 (hρ _ _ rfl) (cons2 (hρ _ _ rfl) rfl))) rfl) (fun w _ => (equal_b [] [] none none 0 0 w (sliceNil w) (sliceNil w) (Nat.le_of_ble_eq_true rfl) (Nat.le_of_ble_eq_true rfl)).mono fun _ _ h => ⟨h.1.trans (congrArg Ending.returned (bool_as (decide_eq_true rfl))), h.2⟩) rfl rfl rfl (want_y 130 rfl rfl rfl) ?_
        refine TL_q (.bool false) (fun _ _ hρ _ => r_not (b := true) (hρ _ _ rfl)) rfl rfl rfl (want_y 130 rfl rfl rfl) ?_
        refine TL_q (.bool false) (fun _ _ hρ _ => r_pick_f (hρ _ _ rfl) (hρ _ _ rfl)) rfl rfl rfl (w_n rfl) ?_
        refine TL_seq ?_
        refine T_cond_f rfl ?_
        refine T_skip' ?_
        refine p_seq ?_
        refine T_seq (T_region ?_)
        refine TL_q (.slice none 0 0) (fun _ _ hρ _ => r_move (hρ _ _ rfl)) rfl rfl rfl (w_n rfl) ?_
        refine TL_q (.int .i64 0) (fun _ _ hρ _ => r_len sl34 (hρ _ _ rfl)) rfl rfl rfl (w_n rfl) ?_
        refine TL_q (.int .i64 0) (fun _ _ hρ _ => r_move (hρ _ _ rfl)) rfl rfl rfl (w_n rfl) ?_
        refine TL_seq ?_
        refine T_block ?_
        refine T_rounds 1 ?_
        refine TR_succ ?_
        refine T_seq (T_region ?_)
        refine TL_q (.bool false) (fun _ _ hρ _ => r_as (r_lss (hρ _ _ rfl) (hρ _ _ rfl)) (by rfl)) rfl rfl rfl (w_n rfl) ?_
        refine TL_seq ?_
        refine T_seq ?_
        refine T_cond_f rfl ?_
        refine T_exit' ?_
        refine p_then_x ?_
        refine p_then_x ?_
        refine p_blk_x ?_
        refine p_blk_n ?_
        refine p_seq ?_
        refine T_region ?_
        refine TL_q (.int .i64 1) (fun _ _ hρ _ => r_as (r_add (hρ _ _ rfl) (hρ _ _ rfl)) (by rfl)) rfl rfl rfl (w_n rfl) ?_
        refine TL_q (.int .i64 1) (fun _ _ hρ _ => r_move (hρ _ _ rfl)) rfl rfl rfl (w_n rfl) ?_
        refine TL_nil ?_
        refine p_round ?_
        refine TR_succ ?_
        refine T_seq (T_region ?_)
        refine TL_q (.bool true) (fun _ _ hρ _ => r_as (r_lss (hρ _ _ rfl) (hρ _ _ rfl)) (by rfl)) rfl rfl rfl (w_n rfl) ?_
        refine TL_seq ?_
        refine T_seq ?_
        refine T_cond_t rfl ?_
        refine T_skip' ?_
        refine p_seq ?_
        refine T_seq ?_
        refine T_block ?_
        refine T_seq (T_region ?_)
        refine TL_q (.pointer (some ⟨B11, 1, none⟩)) (fun _ _ hρ _ => r_indexAddrS (i := 1) sl63 sz34 (hρ _ _ rfl) (hρ _ _ rfl) (by decide)) rfl rfl rfl (w_n rfl) ?_
        refine TL_q (.slice ar6 ((joinP (rls fl4)).length) cr6) (fun _ _ hρ hm => r_load ag34 (hρ _ _ rfl) (hm.at 8 rfl) rfl) rfl rfl rfl (w_n rfl) ?_
        refine TL_q (.slice ar6 ((joinP (rls fl4)).length) cr6) (fun _ _ hρ _ => r_assign (hρ _ _ rfl)) rfl rfl rfl (w_n rfl) ?_
        refine TL_seq ?_
        refine T_seq (T_region ?_)
        refine TL_q (.slice ar6 ((joinP (rls fl4)).length) cr6) (fun _ _ hρ _ => r_move (hρ _ _ rfl)) rfl rfl rfl (w_n rfl) ?_
        refine TL_callN (fun ((va22, vc22, vl22, ma22, mc22, ml22) : Option Addr × Nat × List (RowG By) × Option Addr × Nat × List Nat) => rls vl22 = heldsV (joinP (rls fl4)) ∧ ml22 = placesV (joinP (rls fl4))) (fun (va22, vc22, vl22, ma22, mc22, ml22) => .tuple #[.slice va22 vl22.length vc22, .slice ma22 ml22.length mc22, .int .i64 ((sizeV (joinP (rls fl4)) : Nat) : Int)]) (fun (va22, vc22, vl22, ma22, mc22, ml22) => [(963, .row (.slice va22 vl22.length vc22) 34 1 vl22.length (vl22.flatMap RowG.cells)), (964, .rows vl22), (965, .row (.slice ma22 ml22.length mc22) 3 1 ml22.length (ml22.flatMap nic))]) (fun _ _ hρ _ => r_call (args := [.slice ar6 ((joinP (rls fl4)).length) cr6]) (enters_of Try.func42 (by kernel_rfl) rfl) (hρ _ _ rfl) ((cons2 (hρ _ _ rfl) rfl)) rfl) (fun w hm => (rscan_c (joinP (rls fl4)) ar6 cr6 w (SliceAt.own byc_len (hm.row 4 rfl) rfl rfl) (row_cap (hm.row 4 rfl)) (by omega)).mono fun e w' ⟨n, m, hf, hg, he, hb, hn⟩ => ⟨(n.a, n.cap, n.l, m.a, m.cap, m.l), ⟨hf, hg⟩, he, hb, hn⟩) rfl rfl rfl (w_n rfl) ?_
        rintro ⟨va22, vc22, vl22, ma22, mc22, ml22⟩ hrs22
        refine TL_q (.tuple #[.slice va22 vl22.length vc22, .slice ma22 ml22.length mc22, .int .i64 ((sizeV (joinP (rls fl4)) : Nat) : Int)]) (fun _ _ hρ _ => r_move (hρ _ _ rfl)) rfl rfl rfl (w_n rfl) ?_
        refine TL_q (.slice va22 vl22.length vc22) (fun _ _ hρ _ => r_extract (hρ _ _ rfl) rfl) rfl rfl rfl (w_n rfl) ?_
        refine TL_q (.slice ma22 ml22.length mc22) (fun _ _ hρ _ => r_extract (hρ _ _ rfl) rfl) rfl rfl rfl (w_n rfl) ?_
        refine TL_q (.int .i64 ((sizeV (joinP (rls fl4)) : Nat) : Int)) (fun _ _ hρ _ => r_extract (hρ _ _ rfl) rfl) rfl rfl rfl (w_n rfl) ?_
        refine TL_q (.slice va22 vl22.length vc22) (fun _ _ hρ _ => r_assign (hρ _ _ rfl)) rfl rfl rfl (w_n rfl) ?_
        refine TL_q (.slice ma22 ml22.length mc22) (fun _ _ hρ _ => r_assign (hρ _ _ rfl)) rfl rfl rfl (w_n rfl) ?_
        refine TL_q (.int .i64 ((sizeV (joinP (rls fl4)) : Nat) : Int)) (fun _ _ hρ _ => r_assign (hρ _ _ rfl)) rfl rfl rfl (w_n rfl) ?_
        refine TL_seq ?_
        refine T_sub [(0, .slice a xs.length cap), (1, .slice b y.length capb), (5, .slice fa4 fl4.length fc4), (6, .slice ar5 ((l2).length) cr5), (9, .slice ar7 ((joinP (rls fl4)).length) cr7), (10, .bool true), (96, .slice (some ⟨B11, 0, none⟩) 2 2), (97, .int .i64 2), (109, .slice ar5 ((l2).length) cr5), (110, .slice fa4 fl4.length fc4), (111, .tuple #[.slice none 0 0, .int .i64 2]), (108, .tuple #[.slice none 0 0, .int .i64 2]), (112, .slice none 0 0), (113, .int .i64 2), (20, .slice none 0 0), (21, .int .i64 2), (115, .int .i64 ((sizeV l2 : Nat) : Int)), (116, .slice ar5 ((l2).length) cr5), (117, .int .i64 (((l2).length : Nat) : Int)), (118, .bool true), (114, .bool true), (22, .int .i64 2), (23, .slice none 0 0), (122, .int .i64 2), (123, .bool false), (127, .int .i64 2), (128, .int .i64 2), (129, .bool false), (130, .bool false), (131, .slice none 0 0), (132, .slice none 0 0), (133, .bool true), (134, .bool false), (135, .bool false), (136, .slice none 0 0), (137, .int .i64 0), (138, .int .i64 0), (139, .bool false), (148, .int .i64 1), (98, .int .i64 1), (99, .bool true), (100, .pointer (some ⟨B11, 1, none⟩)), (101, .slice ar6 ((joinP (rls fl4)).length) cr6), (16, .slice ar6 ((joinP (rls fl4)).length) cr6), (103, .slice ar6 ((joinP (rls fl4)).length) cr6), (104, .tuple #[.slice va22 vl22.length vc22, .slice ma22 ml22.length mc22, .int .i64 ((sizeV (joinP (rls fl4)) : Nat) : Int)]), (102, .tuple #[.slice va22 vl22.length vc22, .slice ma22 ml22.length mc22, .int .i64 ((sizeV (joinP (rls fl4)) : Nat) : Int)]), (105, .slice va22 vl22.length vc22), (106, .slice ma22 ml22.length mc22), (107, .int .i64 ((sizeV (joinP (rls fl4)) : Nat) : Int)), (19, .int .i64 ((sizeV (joinP (rls fl4)) : Nat) : Int))] [(963, .row (.slice va22 vl22.length vc22) 34 1 vl22.length (vl22.flatMap RowG.cells)), (964, .rows vl22), (965, .row (.slice ma22 ml22.length mc22) 3 1 ml22.length (ml22.flatMap nic)), (5, .row (.slice ar7 ((joinP (rls fl4)).length) cr7) 5 1 ((joinP (rls fl4)).length) ((joinP (rls fl4)).flatMap byc)), (4, .row (.slice ar6 ((joinP (rls fl4)).length) cr6) 5 1 ((joinP (rls fl4)).length) ((joinP (rls fl4)).flatMap byc)), (3, .row (.slice ar5 ((l2).length) cr5) 5 1 ((l2).length) ((l2).flatMap byc)), (1, .row (.slice fa4 fl4.length fc4) 34 1 fl4.length (fl4.flatMap RowG.cells)), (2, .pool 5 1 byc fl4), (8, .blk B11 (.cells #[.slice ar5 ((l2).length) cr5, .slice ar6 ((joinP (rls fl4)).length) cr6] 34))] (sub_cons rfl (sub_cons rfl (sub_cons rfl (sub_cons rfl (sub_cons rfl (sub_cons rfl (sub_cons rfl (sub_cons rfl (sub_cons rfl (sub_cons rfl (sub_cons rfl (sub_cons rfl (sub_cons rfl (sub_cons rfl (sub_cons rfl (sub_cons rfl (sub_cons rfl (sub_cons rfl (sub_cons rfl (sub_cons rfl (sub_cons rfl (sub_cons rfl (sub_cons rfl (sub_cons rfl (sub_cons rfl (sub_cons rfl (sub_cons rfl (sub_cons rfl (sub_cons rfl (sub_cons rfl (sub_cons rfl (sub_cons rfl (sub_cons rfl (sub_cons rfl (sub_cons rfl (sub_cons rfl (sub_cons rfl (sub_cons rfl (sub_cons rfl (sub_cons rfl (sub_cons rfl (sub_cons rfl (sub_cons rfl (sub_cons rfl (sub_cons rfl (sub_cons rfl (sub_cons rfl (sub_cons rfl (sub_cons rfl (sub_cons rfl (sub_cons rfl sub_nil))))))))))))))))))))))))))))))))))))))))))))))))))) (sub_cons rfl (sub_cons rfl (sub_cons rfl (sub_cons rfl (sub_cons rfl (sub_cons rfl (sub_cons rfl (sub_cons rfl (sub_cons rfl sub_nil))))))))) ?_
        refine T_seq (T_region ?_)
        refine TL_q (.slice ar6 ((joinP (rls fl4)).length) cr6) (fun _ _ hρ _ => r_move (hρ _ _ rfl)) rfl rfl rfl (w_n rfl) ?_
        refine TL_q (.slice fa4 fl4.length fc4) (fun _ _ hρ _ => r_move (hρ _ _ rfl)) rfl rfl rfl (w_n rfl) ?_
        refine TL_callN (fun (_ : Option Addr × Nat) => True) (fun (ar23, cr23) => .tuple #[.slice ar23 (((joinP (rls fl4)) ++ joinP (rls fl4)).length) cr23, .int .i64 0]) (fun (ar23, cr23) => [(15, .row (.slice ar23 (((joinP (rls fl4)) ++ joinP (rls fl4)).length) cr23) 5 1 (((joinP (rls fl4)) ++ joinP (rls fl4)).length) (((joinP (rls fl4)) ++ joinP (rls fl4)).flatMap byc))]) (fun _ _ hρ _ => r_call (args := [.slice ar6 ((joinP (rls fl4)).length) cr6, .slice fa4 fl4.length fc4]) (enters_of Try.func43 (by kernel_rfl) rfl) (hρ _ _ rfl) ((cons2 (hρ _ _ rfl) (cons2 (hρ _ _ rfl) rfl))) rfl) (fun w hm => (app_ok (joinP (rls fl4)) ar6 cr6 w (SliceAt.own byc_len (hm.row 4 rfl) rfl rfl) (row_cap (hm.row 4 rfl)) fl4 fa4 fc4 (SliceAt.own RowG.cells_len (hm.row 1 rfl) rfl rfl) (row_cap (hm.row 1 rfl)) (fun r hr => ⟨poolAt byc_len (hm.pool 2 rfl) hr, poolCap (hm.pool 2 rfl) hr⟩) (by omega) (by omega) hJw h65).mono fun e w' ⟨a', cap', he, hb, hr⟩ => ⟨(a', cap'), trivial, he, hb, newOk1 15 hr⟩) rfl rfl rfl (w_n rfl) ?_
        rintro ⟨ar23, cr23⟩ -
        refine TL_q (.tuple #[.slice ar23 (((joinP (rls fl4)) ++ joinP (rls fl4)).length) cr23, .int .i64 0]) (fun _ _ hρ _ => r_move (hρ _ _ rfl)) rfl rfl rfl (w_n rfl) ?_
        refine TL_q (.slice ar23 (((joinP (rls fl4)) ++ joinP (rls fl4)).length) cr23) (fun _ _ hρ _ => r_extract (hρ _ _ rfl) rfl) rfl rfl rfl (w_n rfl) ?_
        refine TL_q (.int .i64 0) (fun _ _ hρ _ => r_extract (hρ _ _ rfl) rfl) rfl rfl rfl (w_n rfl) ?_
        refine TL_q (.slice ar23 (((joinP (rls fl4)) ++ joinP (rls fl4)).length) cr23) (fun _ _ hρ _ => r_assign (hρ _ _ rfl)) rfl rfl rfl (w_n rfl) ?_
        refine TL_q (.int .i64 0) (fun _ _ hρ _ => r_assign (hρ _ _ rfl)) rfl rfl rfl (w_n rfl) ?_
        refine TL_seq ?_
        refine T_seq (T_region ?_)
        refine TL_q (.int .i64 0) (fun _ _ hρ _ => r_assign (hρ _ _ rfl)) rfl rfl rfl (w_n rfl) ?_
        refine TL_seq ?_
        refine T_seq ?_
        refine T_block ?_
        refine T_seq (T_region ?_)
        refine TL_q (.int .i64 ((sizeV (joinP (rls fl4)) : Nat) : Int)) (fun _ _ hρ _ => r_move (hρ _ _ rfl)) rfl rfl rfl (w_n rfl) ?_
        refine TL_q (.slice ar6 ((joinP (rls fl4)).length) cr6) (fun _ _ hρ _ => r_move (hρ _ _ rfl)) rfl rfl rfl (w_n rfl) ?_
        refine TL_q (.int .i64 (((joinP (rls fl4)).length : Nat) : Int)) (fun _ _ hρ _ => r_len sl34 (hρ _ _ rfl)) rfl rfl rfl (w_n rfl) ?_
        refine TL_q (.bool false) (fun _ _ hρ _ => r_as (r_neq (hρ _ _ rfl) (hρ _ _ rfl)) (bool_as (by rw [decide_eq_true (congrArg (fun n : Nat => (n : Int)) (whyE_ok.1 hJw))]; rfl))) rfl rfl rfl (w_n rfl) ?_
        refine TL_q (.bool false) (fun _ _ hρ _ => r_assign (hρ _ _ rfl)) rfl rfl rfl (w_n rfl) ?_
        refine TL_seq ?_
        refine T_cond_f rfl ?_
        refine T_seq (T_region ?_)
        refine TL_q (.bool true) (fun _ _ hρ _ => r_move (hρ _ _ rfl)) rfl rfl rfl (w_n rfl) ?_
        refine TL_q (.bool false) (fun _ _ hρ _ => r_not (b := true) (hρ _ _ rfl)) rfl rfl rfl (w_n rfl) ?_
        refine TL_q (.bool false) (fun _ _ hρ _ => r_assign (hρ _ _ rfl)) rfl rfl rfl (w_n rfl) ?_
        refine TL_seq ?_
        refine T_cond_f rfl ?_
        refine T_skip' ?_
        refine p_blk_n ?_
        refine p_seq ?_
        refine T_seq (T_region ?_)
        refine TL_q (.slice none 0 0) (fun _ _ hρ _ => r_assign (hρ _ _ rfl)) rfl rfl rfl (w_n rfl) ?_
        refine TL_seq ?_
        refine T_seq ?_
        refine T_seq (T_region ?_)
        refine TL_q (.int .i64 0) (fun _ _ hρ _ => r_move (hρ _ _ rfl)) rfl rfl rfl (w_n rfl) ?_
        refine TL_q (.bool true) (fun _ _ hρ _ => r_as (r_eql (hρ _ _ rfl) (hρ _ _ rfl)) (by rfl)) rfl rfl rfl (w_n rfl) ?_
        refine TL_seq ?_
        refine T_cond_t rfl ?_
        refine T_region ?_
        refine TL_q (.slice ar6 ((joinP (rls fl4)).length) cr6) (fun _ _ hρ _ => r_move (hρ _ _ rfl)) rfl rfl rfl (w_n rfl) ?_
        refine TL_q (.slice ar7 ((joinP (rls fl4)).length) cr7) (fun _ _ hρ _ => r_move (hρ _ _ rfl)) rfl rfl rfl (w_n rfl) ?_
        refine TL_callN (fun (_ : Option Addr × Nat) => True) (fun (ar24, cr24) => .slice ar24 (((joinP (rls fl4)) ++ (joinP (rls fl4))).length) cr24) (fun (ar24, cr24) => [(16, .row (.slice ar24 (((joinP (rls fl4)) ++ (joinP (rls fl4))).length) cr24) 5 1 (((joinP (rls fl4)) ++ (joinP (rls fl4))).length) (((joinP (rls fl4)) ++ (joinP (rls fl4))).flatMap byc))]) (fun _ _ hρ _ => r_call (args := [.slice ar6 ((joinP (rls fl4)).length) cr6, .slice ar7 ((joinP (rls fl4)).length) cr7]) (enters_of Try.func44 (by kernel_rfl) rfl) (hρ _ _ rfl) ((cons2 (hρ _ _ rfl) (cons2 (hρ _ _ rfl) rfl))) rfl) (fun w hm => (rbeh_c (joinP (rls fl4)) ar6 cr6 w (SliceAt.own byc_len (hm.row 4 rfl) rfl rfl) (row_cap (hm.row 4 rfl)) (joinP (rls fl4)) ar7 cr7 (SliceAt.own byc_len (hm.row 5 rfl) rfl rfl) (row_cap (hm.row 5 rfl)) (by omega) (by omega)).mono fun e w' ⟨a', cap', he, hb, hr⟩ => ⟨(a', cap'), trivial, he, hb, newOk1 16 hr⟩) rfl rfl rfl (w_n rfl) ?_
        rintro ⟨ar24, cr24⟩ -
        refine TL_q (.slice ar24 (((joinP (rls fl4)) ++ (joinP (rls fl4))).length) cr24) (fun _ _ hρ _ => r_assign (hρ _ _ rfl)) rfl rfl rfl (w_n rfl) ?_
        refine TL_nil ?_
        refine p_seq ?_
        refine T_seq ?_
        refine T_seq (T_region ?_)
        refine TL_q (.int .i64 0) (fun _ _ hρ _ => r_move (hρ _ _ rfl)) rfl rfl rfl (w_n rfl) ?_
        refine TL_q (.int .i64 0) (fun _ _ hρ _ => r_move (hρ _ _ rfl)) rfl rfl rfl (w_n rfl) ?_
        refine TL_q (.bool false) (fun _ _ hρ _ => r_as (r_neq (hρ _ _ rfl) (hρ _ _ rfl)) (by rfl)) rfl rfl rfl (w_n rfl) ?_
        refine TL_q (.bool false) (fun _ _ hρ _ => r_move (hρ _ _ rfl)) rfl rfl rfl (w_n rfl) ?_
        refine TL_q (.slice ar23 (((joinP (rls fl4)) ++ joinP (rls fl4)).length) cr23) (fun _ _ hρ _ => r_move (hρ _ _ rfl)) rfl rfl rfl (want_y 130 rfl rfl rfl) ?_
        refine TL_q (.slice ar24 (((joinP (rls fl4)) ++ (joinP (rls fl4))).length) cr24) (fun _ _ hρ _ => r_move (hρ _ _ rfl)) rfl rfl rfl (want_y 130 rfl rfl rfl) ?_
        refine TL_call (.bool true) (fun _ _ hρ _ => r_call (args := [.slice ar23 (((joinP (rls fl4)) ++ joinP (rls fl4)).length) cr23, .slice ar24 (((joinP (rls fl4)) ++ (joinP (rls fl4))).length) cr24]) (enters_of Try.func16 (by kernel_rfl) rfl) (hρ _ _ rfl) ((cons2 (hρ _ _ rfl) (cons2 (hρ _ _ rfl) rfl))) rfl) (fun w hm => (equal_b ((joinP (rls fl4)) ++ joinP (rls fl4)) ((joinP (rls fl4)) ++ (joinP (rls fl4))) ar23 ar24 cr23 cr24 w (SliceAt.own byc_len (hm.row 15 rfl) rfl rfl) (SliceAt.own byc_len (hm.row 16 rfl) rfl rfl) (by first | omega | (rw [List.length_append]; omega)) (by first | omega | (rw [List.length_append]; omega))).mono fun _ _ h => ⟨h.1.trans (congrArg Ending.returned (bool_as (decide_eq_true rfl))), h.2⟩) rfl rfl rfl (want_y 130 rfl rfl rfl) ?_
        refine TL_q (.bool false) (fun _ _ hρ _ => r_not (b := true) (hρ _ _ rfl)) rfl rfl rfl (want_y 130 rfl rfl rfl) ?_
        refine TL_q (.bool false) (fun _ _ hρ _ => r_pick_f (hρ _ _ rfl) (hρ _ _ rfl)) rfl rfl rfl (w_n rfl) ?_
        refine TL_seq ?_
        refine T_sub [(0, .slice a xs.length cap), (1, .slice b y.length capb), (5, .slice fa4 fl4.length fc4), (6, .slice ar5 ((l2).length) cr5), (9, .slice ar7 ((joinP (rls fl4)).length) cr7), (10, .bool true), (96, .slice (some ⟨B11, 0, none⟩) 2 2), (97, .int .i64 2), (136, .slice none 0 0), (137, .int .i64 0), (138, .int .i64 0), (139, .bool false), (148, .int .i64 1), (98, .int .i64 1), (99, .bool true), (100, .pointer (some ⟨B11, 1, none⟩)), (101, .slice ar6 ((joinP (rls fl4)).length) cr6), (16, .slice ar6 ((joinP (rls fl4)).length) cr6), (103, .slice ar6 ((joinP (rls fl4)).length) cr6), (104, .tuple #[.slice va22 vl22.length vc22, .slice ma22 ml22.length mc22, .int .i64 ((sizeV (joinP (rls fl4)) : Nat) : Int)]), (102, .tuple #[.slice va22 vl22.length vc22, .slice ma22 ml22.length mc22, .int .i64 ((sizeV (joinP (rls fl4)) : Nat) : Int)]), (105, .slice va22 vl22.length vc22), (106, .slice ma22 ml22.length mc22), (107, .int .i64 ((sizeV (joinP (rls fl4)) : Nat) : Int)), (19, .int .i64 ((sizeV (joinP (rls fl4)) : Nat) : Int)), (109, .slice ar6 ((joinP (rls fl4)).length) cr6), (110, .slice fa4 fl4.length fc4), (111, .tuple #[.slice ar23 (((joinP (rls fl4)) ++ joinP (rls fl4)).length) cr23, .int .i64 0]), (108, .tuple #[.slice ar23 (((joinP (rls fl4)) ++ joinP (rls fl4)).length) cr23, .int .i64 0]), (112, .slice ar23 (((joinP (rls fl4)) ++ joinP (rls fl4)).length) cr23), (113, .int .i64 0), (20, .slice ar23 (((joinP (rls fl4)) ++ joinP (rls fl4)).length) cr23), (21, .int .i64 0), (22, .int .i64 0), (115, .int .i64 ((sizeV (joinP (rls fl4)) : Nat) : Int)), (116, .slice ar6 ((joinP (rls fl4)).length) cr6), (117, .int .i64 (((joinP (rls fl4)).length : Nat) : Int)), (118, .bool false), (114, .bool false), (120, .bool true), (121, .bool false), (119, .bool false), (122, .int .i64 0), (123, .bool true), (124, .slice ar6 ((joinP (rls fl4)).length) cr6), (125, .slice ar7 ((joinP (rls fl4)).length) cr7), (126, .slice ar24 (((joinP (rls fl4)) ++ (joinP (rls fl4))).length) cr24), (23, .slice ar24 (((joinP (rls fl4)) ++ (joinP (rls fl4))).length) cr24), (127, .int .i64 0), (128, .int .i64 0), (129, .bool false), (130, .bool false), (131, .slice ar23 (((joinP (rls fl4)) ++ joinP (rls fl4)).length) cr23), (132, .slice ar24 (((joinP (rls fl4)) ++ (joinP (rls fl4))).length) cr24), (133, .bool true), (134, .bool false), (135, .bool false)] [(16, .row (.slice ar24 (((joinP (rls fl4)) ++ (joinP (rls fl4))).length) cr24) 5 1 (((joinP (rls fl4)) ++ (joinP (rls fl4))).length) (((joinP (rls fl4)) ++ (joinP (rls fl4))).flatMap byc)), (15, .row (.slice ar23 (((joinP (rls fl4)) ++ joinP (rls fl4)).length) cr23) 5 1 (((joinP (rls fl4)) ++ joinP (rls fl4)).length) (((joinP (rls fl4)) ++ joinP (rls fl4)).flatMap byc)), (963, .row (.slice va22 vl22.length vc22) 34 1 vl22.length (vl22.flatMap RowG.cells)), (964, .rows vl22), (965, .row (.slice ma22 ml22.length mc22) 3 1 ml22.length (ml22.flatMap nic)), (5, .row (.slice ar7 ((joinP (rls fl4)).length) cr7) 5 1 ((joinP (rls fl4)).length) ((joinP (rls fl4)).flatMap byc)), (4, .row (.slice ar6 ((joinP (rls fl4)).length) cr6) 5 1 ((joinP (rls fl4)).length) ((joinP (rls fl4)).flatMap byc)), (3, .row (.slice ar5 ((l2).length) cr5) 5 1 ((l2).length) ((l2).flatMap byc)), (1, .row (.slice fa4 fl4.length fc4) 34 1 fl4.length (fl4.flatMap RowG.cells)), (2, .pool 5 1 byc fl4), (8, .blk B11 (.cells #[.slice ar5 ((l2).length) cr5, .slice ar6 ((joinP (rls fl4)).length) cr6] 34))] (sub_cons rfl (sub_cons rfl (sub_cons rfl (sub_cons rfl (sub_cons rfl (sub_cons rfl (sub_cons rfl (sub_cons rfl (sub_cons rfl (sub_cons rfl (sub_cons rfl (sub_cons rfl (sub_cons rfl (sub_cons rfl (sub_cons rfl (sub_cons rfl (sub_cons rfl (sub_cons rfl (sub_cons rfl (sub_cons rfl (sub_cons rfl (sub_cons rfl (sub_cons rfl (sub_cons rfl (sub_cons rfl (sub_cons rfl (sub_cons rfl (sub_cons rfl (sub_cons rfl (sub_cons rfl (sub_cons rfl (sub_cons rfl (sub_cons rfl (sub_cons rfl (sub_cons rfl (sub_cons rfl (sub_cons rfl (sub_cons rfl (sub_cons rfl (sub_cons rfl (sub_cons rfl (sub_cons rfl (sub_cons rfl (sub_cons rfl (sub_cons rfl (sub_cons rfl (sub_cons rfl (sub_cons rfl (sub_cons rfl (sub_cons rfl (sub_cons rfl (sub_cons rfl (sub_cons rfl (sub_cons rfl (sub_cons rfl (sub_cons rfl (sub_cons rfl sub_nil))))))))))))))))))))))))))))))))))))))))))))))))))))))))) (sub_cons rfl (sub_cons rfl (sub_cons rfl (sub_cons rfl (sub_cons rfl (sub_cons rfl (sub_cons rfl (sub_cons rfl (sub_cons rfl (sub_cons rfl (sub_cons rfl sub_nil))))))))))) ?_
        refine T_cond_f rfl ?_
        refine T_skip' ?_
        refine p_seq ?_
        refine T_mem (_ :: _ :: _ :: _ :: _) (fun _ hm => hm.rowScr 973 15 rfl rfl rfl) ?_
        refine T_seq (T_region ?_)
        refine TL_q (.slice ar23 (((joinP (rls fl4)) ++ joinP (rls fl4)).length) cr23) (fun _ _ hρ _ => r_move (hρ _ _ rfl)) rfl rfl rfl (w_n rfl) ?_
        refine TL_q (.int .i64 ((((joinP (rls fl4)) ++ joinP (rls fl4)).length : Nat) : Int)) (fun _ _ hρ _ => r_len sl34 (hρ _ _ rfl)) rfl rfl rfl (w_n rfl) ?_
        refine TL_q (.int .i64 0) (fun _ _ hρ _ => r_move (hρ _ _ rfl)) rfl rfl rfl (w_n rfl) ?_
        refine TL_seq ?_
        refine T_block ?_
        have hal : ((joinP (rls fl4)) ++ joinP (rls fl4)).length ≤ 1000000 := by rw [List.length_append]; omega
        refine T_loop (ι := Nat) (fun (m : Nat) => m ≤ ((joinP (rls fl4)) ++ joinP (rls fl4)).length) (fun (m : Nat) => [(0, .slice a xs.length cap), (1, .slice b y.length capb), (5, .slice fa4 fl4.length fc4), (6, .slice ar5 ((l2).length) cr5), (9, .slice ar7 ((joinP (rls fl4)).length) cr7), (10, .bool true), (96, .slice (some ⟨B11, 0, none⟩) 2 2), (97, .int .i64 2), (148, .int .i64 1), (98, .int .i64 1), (99, .bool true), (100, .pointer (some ⟨B11, 1, none⟩)), (101, .slice ar6 ((joinP (rls fl4)).length) cr6), (16, .slice ar6 ((joinP (rls fl4)).length) cr6), (103, .slice ar6 ((joinP (rls fl4)).length) cr6), (104, .tuple #[.slice va22 vl22.length vc22, .slice ma22 ml22.length mc22, .int .i64 ((sizeV (joinP (rls fl4)) : Nat) : Int)]), (102, .tuple #[.slice va22 vl22.length vc22, .slice ma22 ml22.length mc22, .int .i64 ((sizeV (joinP (rls fl4)) : Nat) : Int)]), (105, .slice va22 vl22.length vc22), (106, .slice ma22 ml22.length mc22), (107, .int .i64 ((sizeV (joinP (rls fl4)) : Nat) : Int)), (19, .int .i64 ((sizeV (joinP (rls fl4)) : Nat) : Int)), (109, .slice ar6 ((joinP (rls fl4)).length) cr6), (110, .slice fa4 fl4.length fc4), (111, .tuple #[.slice ar23 (((joinP (rls fl4)) ++ joinP (rls fl4)).length) cr23, .int .i64 0]), (108, .tuple #[.slice ar23 (((joinP (rls fl4)) ++ joinP (rls fl4)).length) cr23, .int .i64 0]), (112, .slice ar23 (((joinP (rls fl4)) ++ joinP (rls fl4)).length) cr23), (113, .int .i64 0), (20, .slice ar23 (((joinP (rls fl4)) ++ joinP (rls fl4)).length) cr23), (21, .int .i64 0), (22, .int .i64 0), (115, .int .i64 ((sizeV (joinP (rls fl4)) : Nat) : Int)), (116, .slice ar6 ((joinP (rls fl4)).length) cr6), (117, .int .i64 (((joinP (rls fl4)).length : Nat) : Int)), (118, .bool false), (114, .bool false), (120, .bool true), (121, .bool false), (119, .bool false), (122, .int .i64 0), (123, .bool true), (124, .slice ar6 ((joinP (rls fl4)).length) cr6), (125, .slice ar7 ((joinP (rls fl4)).length) cr7), (126, .slice ar24 (((joinP (rls fl4)) ++ (joinP (rls fl4))).length) cr24), (23, .slice ar24 (((joinP (rls fl4)) ++ (joinP (rls fl4))).length) cr24), (127, .int .i64 0), (128, .int .i64 0), (129, .bool false), (130, .bool false), (131, .slice ar23 (((joinP (rls fl4)) ++ joinP (rls fl4)).length) cr23), (132, .slice ar24 (((joinP (rls fl4)) ++ (joinP (rls fl4))).length) cr24), (133, .bool true), (134, .bool false), (135, .bool false), (136, .slice ar23 (((joinP (rls fl4)) ++ joinP (rls fl4)).length) cr23), (137, .int .i64 ((((joinP (rls fl4)) ++ joinP (rls fl4)).length : Nat) : Int)), (138, .int .i64 ((m : Nat) : Int))]) (fun (m : Nat) => [(973, .scr 5 1 isB [(⟨ar23, cr23, (joinP (rls fl4)) ++ joinP (rls fl4)⟩ : RowG By)]), (15, .no), (16, .row (.slice ar24 (((joinP (rls fl4)) ++ (joinP (rls fl4))).length) cr24) 5 1 (((joinP (rls fl4)) ++ (joinP (rls fl4))).length) (((joinP (rls fl4)) ++ (joinP (rls fl4))).flatMap byc)), (963, .row (.slice va22 vl22.length vc22) 34 1 vl22.length (vl22.flatMap RowG.cells)), (964, .rows vl22), (965, .row (.slice ma22 ml22.length mc22) 3 1 ml22.length (ml22.flatMap nic)), (5, .row (.slice ar7 ((joinP (rls fl4)).length) cr7) 5 1 ((joinP (rls fl4)).length) ((joinP (rls fl4)).flatMap byc)), (4, .row (.slice ar6 ((joinP (rls fl4)).length) cr6) 5 1 ((joinP (rls fl4)).length) ((joinP (rls fl4)).flatMap byc)), (3, .row (.slice ar5 ((l2).length) cr5) 5 1 ((l2).length) ((l2).flatMap byc)), (1, .row (.slice fa4 fl4.length fc4) 34 1 fl4.length (fl4.flatMap RowG.cells)), (2, .pool 5 1 byc fl4), (8, .blk B11 (.cells #[.slice ar5 ((l2).length) cr5, .slice ar6 ((joinP (rls fl4)).length) cr6] 34))]) (fun (m : Nat) => ((joinP (rls fl4)) ++ joinP (rls fl4)).length - m) 0 (Nat.zero_le _) (sub_cons rfl (sub_cons rfl (sub_cons rfl (sub_cons rfl (sub_cons rfl (sub_cons rfl (sub_cons rfl (sub_cons rfl (sub_cons rfl (sub_cons rfl (sub_cons rfl (sub_cons rfl (sub_cons rfl (sub_cons rfl (sub_cons rfl (sub_cons rfl (sub_cons rfl (sub_cons rfl (sub_cons rfl (sub_cons rfl (sub_cons rfl (sub_cons rfl (sub_cons rfl (sub_cons rfl (sub_cons rfl (sub_cons rfl (sub_cons rfl (sub_cons rfl (sub_cons rfl (sub_cons rfl (sub_cons rfl (sub_cons rfl (sub_cons rfl (sub_cons rfl (sub_cons rfl (sub_cons rfl (sub_cons rfl (sub_cons rfl (sub_cons rfl (sub_cons rfl (sub_cons rfl (sub_cons rfl (sub_cons rfl (sub_cons rfl (sub_cons rfl (sub_cons rfl (sub_cons rfl (sub_cons rfl (sub_cons rfl (sub_cons rfl (sub_cons rfl (sub_cons rfl (sub_cons rfl (sub_cons rfl (sub_cons rfl (sub_cons rfl sub_nil)))))))))))))))))))))))))))))))))))))))))))))))))))))))) (sub_cons rfl (sub_cons rfl (sub_cons rfl (sub_cons rfl (sub_cons rfl (sub_cons rfl (sub_cons rfl (sub_cons rfl (sub_cons rfl (sub_cons rfl (sub_cons rfl (sub_cons rfl sub_nil)))))))))))) ?_
        rintro m hp
        have hmk := hp
        show T _ _ _ [(0, .slice a xs.length cap), (1, .slice b y.length capb), (5, .slice fa4 fl4.length fc4), (6, .slice ar5 ((l2).length) cr5), (9, .slice ar7 ((joinP (rls fl4)).length) cr7), (10, .bool true), (96, .slice (some ⟨B11, 0, none⟩) 2 2), (97, .int .i64 2), (148, .int .i64 1), (98, .int .i64 1), (99, .bool true), (100, .pointer (some ⟨B11, 1, none⟩)), (101, .slice ar6 ((joinP (rls fl4)).length) cr6), (16, .slice ar6 ((joinP (rls fl4)).length) cr6), (103, .slice ar6 ((joinP (rls fl4)).length) cr6), (104, .tuple #[.slice va22 vl22.length vc22, .slice ma22 ml22.length mc22, .int .i64 ((sizeV (joinP (rls fl4)) : Nat) : Int)]), (102, .tuple #[.slice va22 vl22.length vc22, .slice ma22 ml22.length mc22, .int .i64 ((sizeV (joinP (rls fl4)) : Nat) : Int)]), (105, .slice va22 vl22.length vc22), (106, .slice ma22 ml22.length mc22), (107, .int .i64 ((sizeV (joinP (rls fl4)) : Nat) : Int)), (19, .int .i64 ((sizeV (joinP (rls fl4)) : Nat) : Int)), (109, .slice ar6 ((joinP (rls fl4)).length) cr6), (110, .slice fa4 fl4.length fc4), (111, .tuple #[.slice ar23 (((joinP (rls fl4)) ++ joinP (rls fl4)).length) cr23, .int .i64 0]), (108, .tuple #[.slice ar23 (((joinP (rls fl4)) ++ joinP (rls fl4)).length) cr23, .int .i64 0]), (112, .slice ar23 (((joinP (rls fl4)) ++ joinP (rls fl4)).length) cr23), (113, .int .i64 0), (20, .slice ar23 (((joinP (rls fl4)) ++ joinP (rls fl4)).length) cr23), (21, .int .i64 0), (22, .int .i64 0), (115, .int .i64 ((sizeV (joinP (rls fl4)) : Nat) : Int)), (116, .slice ar6 ((joinP (rls fl4)).length) cr6), (117, .int .i64 (((joinP (rls fl4)).length : Nat) : Int)), (118, .bool false), (114, .bool false), (120, .bool true), (121, .bool false), (119, .bool false), (122, .int .i64 0), (123, .bool true), (124, .slice ar6 ((joinP (rls fl4)).length) cr6), (125, .slice ar7 ((joinP (rls fl4)).length) cr7), (126, .slice ar24 (((joinP (rls fl4)) ++ (joinP (rls fl4))).length) cr24), (23, .slice ar24 (((joinP (rls fl4)) ++ (joinP (rls fl4))).length) cr24), (127, .int .i64 0), (128, .int .i64 0), (129, .bool false), (130, .bool false), (131, .slice ar23 (((joinP (rls fl4)) ++ joinP (rls fl4)).length) cr23), (132, .slice ar24 (((joinP (rls fl4)) ++ (joinP (rls fl4))).length) cr24), (133, .bool true), (134, .bool false), (135, .bool false), (136, .slice ar23 (((joinP (rls fl4)) ++ joinP (rls fl4)).length) cr23), (137, .int .i64 ((((joinP (rls fl4)) ++ joinP (rls fl4)).length : Nat) : Int)), (138, .int .i64 ((m : Nat) : Int))] [(973, .scr 5 1 isB [(⟨ar23, cr23, (joinP (rls fl4)) ++ joinP (rls fl4)⟩ : RowG By)]), (15, .no), (16, .row (.slice ar24 (((joinP (rls fl4)) ++ (joinP (rls fl4))).length) cr24) 5 1 (((joinP (rls fl4)) ++ (joinP (rls fl4))).length) (((joinP (rls fl4)) ++ (joinP (rls fl4))).flatMap byc)), (963, .row (.slice va22 vl22.length vc22) 34 1 vl22.length (vl22.flatMap RowG.cells)), (964, .rows vl22), (965, .row (.slice ma22 ml22.length mc22) 3 1 ml22.length (ml22.flatMap nic)), (5, .row (.slice ar7 ((joinP (rls fl4)).length) cr7) 5 1 ((joinP (rls fl4)).length) ((joinP (rls fl4)).flatMap byc)), (4, .row (.slice ar6 ((joinP (rls fl4)).length) cr6) 5 1 ((joinP (rls fl4)).length) ((joinP (rls fl4)).flatMap byc)), (3, .row (.slice ar5 ((l2).length) cr5) 5 1 ((l2).length) ((l2).flatMap byc)), (1, .row (.slice fa4 fl4.length fc4) 34 1 fl4.length (fl4.flatMap RowG.cells)), (2, .pool 5 1 byc fl4), (8, .blk B11 (.cells #[.slice ar5 ((l2).length) cr5, .slice ar6 ((joinP (rls fl4)).length) cr6] 34))]
        refine T_seq (T_region ?_)
        refine TL_q (.bool (decide (((m : Nat) : Int) < ((((joinP (rls fl4)) ++ joinP (rls fl4)).length : Nat) : Int)))) (fun _ _ hρ _ => r_lss (hρ _ _ rfl) (hρ _ _ rfl)) rfl rfl rfl (w_n rfl) ?_
        refine TL_seq ?_
        refine T_seq ?_
        refine T_cond rfl (fun h4 => ?_) (fun h4 => ?_)
        · replace h4 := of_decide_eq_true h4
          refine T_skip' ?_
          refine p_seq ?_
          refine T_seq ?_
          refine T_block ?_
          refine T_seq (T_region ?_)
          refine TL_q (.int .i64 ((m : Nat) : Int)) (fun _ _ hρ _ => r_move (hρ _ _ rfl)) rfl rfl rfl (w_n rfl) ?_
          refine TL_q (.int .i64 ((m : Nat) : Int)) (fun _ _ hρ _ => r_assign (hρ _ _ rfl)) rfl rfl rfl (w_n rfl) ?_
          refine TL_seq ?_
          refine T_scr (r := (⟨ar23, cr23, (joinP (rls fl4)) ++ joinP (rls fl4)⟩ : RowG By)) 973 rfl (List.mem_singleton.2 rfl) (fun e => by have := congrArg List.length (show (joinP (rls fl4)) ++ joinP (rls fl4) = [] from e); simp only [List.length_nil] at this; omega) (fun B9 hB9 => ?_)
          replace hB9 : ar23 = some ⟨B9, 0, none⟩ := hB9
          rw [hB9]
          refine T_region ?_
          refine TL_q (.slice (some ⟨B9, 0, none⟩) (((joinP (rls fl4)) ++ joinP (rls fl4)).length) cr23) (fun _ _ hρ _ => r_move (hρ _ _ rfl)) rfl rfl rfl (w_n rfl) ?_
          refine TL_q (.int .i64 ((m : Nat) : Int)) (fun _ _ hρ _ => r_move (hρ _ _ rfl)) rfl rfl rfl (w_n rfl) ?_
          refine TL_q (.pointer (some ⟨B9, 0 + m * 1, none⟩)) (fun _ _ hρ _ => r_indexAddrS (i := m) sl34 sz5 (hρ _ _ rfl) (hρ _ _ rfl) (by omega)) rfl rfl rfl (w_n rfl) ?_
          refine TL_op (ι := By) (fun B => .int .u8 ((B).toNat : Int)) _ (fun _ _ hρ hm => o_loadB (r := (⟨some ⟨B9, 0, none⟩, cr23, (joinP (rls fl4)) ++ joinP (rls fl4)⟩ : RowG By)) (i := 0 + m * 1) 973 rfl (List.mem_singleton.2 rfl) ag5 rfl (show 0 + m * 1 < ((joinP (rls fl4)) ++ joinP (rls fl4)).length * 1 by omega) (hρ _ _ rfl) hm) rfl rfl rfl (w_n rfl) ?_
          intro B25
          refine TL_q (.int .u8 ((B25 + (1#8)).toNat : Int)) (fun _ _ hρ _ => r_addB (k := .u8) (a := B25) (b := (1#8)) rfl (hρ _ _ rfl) (hρ _ _ rfl)) rfl rfl rfl (w_n rfl) ?_
          refine TL_q (.pointer (some ⟨B9, 0 + m * 1, none⟩)) (fun _ _ hρ _ => r_indexAddrS (i := m) sl34 sz5 (hρ _ _ rfl) (hρ _ _ rfl) (by omega)) rfl rfl rfl (w_n rfl) ?_
          refine TL_opS _ (fun _ _ hρ hm => o_storeScr (r := (⟨some ⟨B9, 0, none⟩, cr23, (joinP (rls fl4)) ++ joinP (rls fl4)⟩ : RowG By)) (i := 0 + m * 1) (v := .int .u8 ((B25 + (1#8)).toNat : Int)) 973 rfl (List.mem_singleton.2 rfl) rfl (show 0 + m * 1 < ((joinP (rls fl4)) ++ joinP (rls fl4)).length * 1 by omega) (hρ _ _ rfl) (hρ _ _ rfl) sz5 rfl rfl ⟨_, rfl⟩ hm) rfl rfl (w_n rfl) ?_
          refine TL_nil ?_
          refine p_blk_n ?_
          refine p_seq ?_
          rw [← hB9]
          refine T_region ?_
          refine TL_q (.int .i64 ((m + 1 : Nat) : Int)) (fun _ _ hρ _ => r_as (r_add (hρ _ _ rfl) (hρ _ _ rfl)) (int_as ((wrap64 (by omega) (by omega)).trans (by omega)))) rfl rfl rfl (w_n rfl) ?_
          refine TL_q (.int .i64 ((m + 1 : Nat) : Int)) (fun _ _ hρ _ => r_move (hρ _ _ rfl)) rfl rfl rfl (w_n rfl) ?_
          refine TL_nil ?_
          exact p_at (m + 1) ⟨by omega, by omega⟩ (sub_cons rfl (sub_cons rfl (sub_cons rfl (sub_cons rfl (sub_cons rfl (sub_cons rfl (sub_cons rfl (sub_cons rfl (sub_cons rfl (sub_cons rfl (sub_cons rfl (sub_cons rfl (sub_cons rfl (sub_cons rfl (sub_cons rfl (sub_cons rfl (sub_cons rfl (sub_cons rfl (sub_cons rfl (sub_cons rfl (sub_cons rfl (sub_cons rfl (sub_cons rfl (sub_cons rfl (sub_cons rfl (sub_cons rfl (sub_cons rfl (sub_cons rfl (sub_cons rfl (sub_cons rfl (sub_cons rfl (sub_cons rfl (sub_cons rfl (sub_cons rfl (sub_cons rfl (sub_cons rfl (sub_cons rfl (sub_cons rfl (sub_cons rfl (sub_cons rfl (sub_cons rfl (sub_cons rfl (sub_cons rfl (sub_cons rfl (sub_cons rfl (sub_cons rfl (sub_cons rfl (sub_cons rfl (sub_cons rfl (sub_cons rfl (sub_cons rfl (sub_cons rfl (sub_cons rfl (sub_cons rfl (sub_cons rfl (sub_cons rfl sub_nil)))))))))))))))))))))))))))))))))))))))))))))))))))))))) (sub_cons rfl (sub_cons rfl (sub_cons rfl (sub_cons rfl (sub_cons rfl (sub_cons rfl (sub_cons rfl (sub_cons rfl (sub_cons rfl (sub_cons rfl (sub_cons rfl (sub_cons rfl sub_nil))))))))))))
        · replace h4 := of_decide_eq_false h4
          refine T_exit' ?_
          refine p_then_x ?_
          refine p_then_x ?_
          refine p_blk_x ?_
          refine p_blk_n ?_
          refine p_seq ?_
          refine T_region ?_
          refine TL_q (.int .i64 2) (fun _ _ hρ _ => r_as (r_add (hρ _ _ rfl) (hρ _ _ rfl)) (by rfl)) rfl rfl rfl (w_n rfl) ?_
          refine TL_q (.int .i64 2) (fun _ _ hρ _ => r_move (hρ _ _ rfl)) rfl rfl rfl (w_n rfl) ?_
          refine TL_nil ?_
          refine p_round ?_
          refine TR_succ ?_
          refine T_seq (T_region ?_)
          refine TL_q (.bool false) (fun _ _ hρ _ => r_as (r_lss (hρ _ _ rfl) (hρ _ _ rfl)) (by rfl)) rfl rfl rfl (w_n rfl) ?_
          refine TL_seq ?_
          refine T_seq ?_
          refine T_cond_f rfl ?_
          refine T_exit' ?_
          refine p_then_x ?_
          refine p_then_x ?_
          refine p_blk_x ?_
          refine p_seq ?_
          refine T_seq (T_region ?_)
          refine TL_q (.slice fa4 fl4.length fc4) (fun _ _ hρ _ => r_move (hρ _ _ rfl)) rfl rfl rfl (w_n rfl) ?_
          refine TL_q (.slice a xs.length cap) (fun _ _ hρ _ => r_move (hρ _ _ rfl)) rfl rfl rfl (w_n rfl) ?_
          refine TL_callN (fun ((fa26, fc26, fl26) : Option Addr × Nat × List (RowG By)) => rls fl26 = fewR (rls xs)) (fun (fa26, fc26, fl26) => .slice fa26 fl26.length fc26) (fun (fa26, fc26, fl26) => [(17, .row (.slice fa26 fl26.length fc26) 34 1 fl26.length (fl26.flatMap RowG.cells)), (18, .pool 5 1 byc fl26)]) (fun _ _ hρ _ => r_call (args := [.slice a xs.length cap]) (enters_of Try.func36 (by kernel_rfl) rfl) (hρ _ _ rfl) ((cons2 (hρ _ _ rfl) rfl)) rfl) (fun w hm => (fewr_c xs a cap w (hv.keep hm.ext) hcap (hx.keep hm.ext)).mono fun e w' ⟨n, hf, he, hb, r1, r2, hs⟩ => ⟨(n.a, n.cap, n.l), hf, he, hb, newOk2 17 18 r1 r2 hs⟩) rfl rfl rfl (w_n rfl) ?_
          rintro ⟨fa26, fc26, fl26⟩ hfw26
          refine TL_call (.bool true) (fun _ _ hρ _ => r_call (args := [.slice fa4 fl4.length fc4, .slice fa26 fl26.length fc26]) (enters_of Try.func45 (by kernel_rfl) rfl) (hρ _ _ rfl) ((cons2 (hρ _ _ rfl) (cons2 (hρ _ _ rfl) rfl))) rfl) (fun w hm => (same_c fl4 fa4 fc4 fl26 fa26 fc26 w (SliceAt.own RowG.cells_len (hm.row 1 rfl) rfl rfl) (row_cap (hm.row 1 rfl)) (fun r hr => ⟨poolAt byc_len (hm.pool 2 rfl) hr, poolCap (hm.pool 2 rfl) hr⟩) (fun r hr => Nat.le_trans (rls_le hfw4 (fewR_le _) r hr) (by decide)) (SliceAt.own RowG.cells_len (hm.row 17 rfl) rfl rfl) (row_cap (hm.row 17 rfl)) (fun r hr => ⟨poolAt byc_len (hm.pool 18 rfl) hr, poolCap (hm.pool 18 rfl) hr⟩) (fun r hr => Nat.le_trans (rls_le hfw26 (fewR_le _) r hr) (by decide))).mono fun _ _ h => ⟨h.1.trans (congrArg Ending.returned (bool_as (decide_eq_true (hfw4.trans hfw26.symm)))), h.2⟩) rfl rfl rfl (w_n rfl) ?_
          refine TL_q (.bool true) (fun _ _ hρ _ => r_move (hρ _ _ rfl)) rfl rfl rfl (w_n rfl) ?_
          refine TL_q (.slice ar5 ((l2).length) cr5) (fun _ _ hρ _ => r_move (hρ _ _ rfl)) rfl rfl rfl (want_y 153 rfl rfl rfl) ?_
          refine TL_q (.slice b y.length capb) (fun _ _ hρ _ => r_move (hρ _ _ rfl)) rfl rfl rfl (want_y 153 rfl rfl rfl) ?_
          refine TL_q (.slice ar5 ((l2).length) cr5) (fun _ _ hρ _ => r_move (hρ _ _ rfl)) rfl rfl rfl (want_y 153 rfl rfl rfl) ?_
          refine TL_q (.int .i64 (((l2).length : Nat) : Int)) (fun _ _ hρ _ => r_len sl34 (hρ _ _ rfl)) rfl rfl rfl (want_y 153 rfl rfl rfl) ?_
          obtain ⟨l27, hl27, hn27⟩ : ∃ lz, lz = y.take ((l2).length) ∧ lz.length = (l2).length := ⟨_, rfl, by rw [List.length_take]; omega⟩
          have hs27 := SliceAt.front hu (n := (l2).length) (m := capb) (by omega) (by omega) (by omega)
          rw [← hl27] at hs27
          refine TL_q (.slice b l27.length capb) (fun ρ _ hρ _ => r_as (r_sliceO sl34 sz5 (hρ _ _ rfl) (bd_none ρ _) (bd_some (n := (l2).length) (hρ _ _ rfl)) (bd_none ρ _) (by simp) (by omega) (by omega) (by omega)) (by rw [hn27]; exact slo_zero _ _ _ _)) rfl rfl rfl (want_y 153 rfl rfl rfl) ?_
          refine TL_call (.bool true) (fun _ _ hρ _ => r_call (args := [.slice ar5 ((l2).length) cr5, .slice b l27.length capb]) (enters_of Try.func16 (by kernel_rfl) rfl) (hρ _ _ rfl) ((cons2 (hρ _ _ rfl) (cons2 (hρ _ _ rfl) rfl))) rfl) (fun w hm => (equal_b l2 l27 ar5 b cr5 capb w (SliceAt.own byc_len (hm.row 3 rfl) rfl rfl) (hs27.keep hm.ext) (by first | omega | (rw [List.length_append]; omega)) (by first | omega | (rw [List.length_append]; omega))).mono fun _ _ h => ⟨h.1.trans (congrArg Ending.returned (bool_as (decide_eq_true (by rw [hl27, hn2, hl2])))), h.2⟩) rfl rfl rfl (want_y 153 rfl rfl rfl) ?_
          refine TL_q (.bool true) (fun _ _ hρ _ => r_pick_t (hρ _ _ rfl) (hρ _ _ rfl)) rfl rfl rfl (w_n rfl) ?_
          refine TL_q (.bool true) (fun _ _ hρ _ => r_assign (hρ _ _ rfl)) rfl rfl rfl (w_n rfl) ?_
          refine TL_seq ?_
          refine T_ret' ?_
          refine ret_of rfl (.bool true) (fun tmps w hk hm => res1 rfl (res_tmp (hk 4 _ rfl))) (fun w hm => ?_)
          exact ⟨rfl, hm.ext⟩
  · skip
    refine T_seq (T_region ?_)
    refine TL_q (.slice fa4 fl4.length fc4) (fun _ _ hρ _ => r_move (hρ _ _ rfl)) rfl rfl rfl (w_n rfl) ?_
    refine TL_call (.tuple #[.slice none 0 0, .int .i64 3]) (fun _ _ hρ _ => r_call (args := [.slice fa4 fl4.length fc4]) (enters_of Try.func38 (by kernel_rfl) rfl) (hρ _ _ rfl) ((cons2 (hρ _ _ rfl) rfl)) rfl) (fun w hm => join_no fl4 fa4 fc4 w (SliceAt.own RowG.cells_len (hm.row 1 rfl) rfl rfl) (row_cap (hm.row 1 rfl)) (fun r hr => ⟨poolAt byc_len (hm.pool 2 rfl) hr, poolCap (hm.pool 2 rfl) hr⟩) (by omega) h65) rfl rfl rfl (w_n rfl) ?_
    refine TL_q (.tuple #[.slice none 0 0, .int .i64 3]) (fun _ _ hρ _ => r_move (hρ _ _ rfl)) rfl rfl rfl (w_n rfl) ?_
    refine TL_q (.slice none 0 0) (fun _ _ hρ _ => r_extract (hρ _ _ rfl) rfl) rfl rfl rfl (w_n rfl) ?_
    refine TL_q (.int .i64 3) (fun _ _ hρ _ => r_extract (hρ _ _ rfl) rfl) rfl rfl rfl (w_n rfl) ?_
    refine TL_q (.slice none 0 0) (fun _ _ hρ _ => r_assign (hρ _ _ rfl)) rfl rfl rfl (w_n rfl) ?_
    refine TL_q (.int .i64 3) (fun _ _ hρ _ => r_assign (hρ _ _ rfl)) rfl rfl rfl (w_n rfl) ?_
    refine TL_seq ?_
    refine T_seq (T_region ?_)
    refine TL_q (.slice fa4 fl4.length fc4) (fun _ _ hρ _ => r_move (hρ _ _ rfl)) rfl rfl rfl (w_n rfl) ?_
    refine TL_call (.tuple #[.slice none 0 0, .bool false]) (fun _ _ hρ _ => r_call (args := [.slice fa4 fl4.length fc4]) (enters_of Try.func39 (by kernel_rfl) rfl) (hρ _ _ rfl) ((cons2 (hρ _ _ rfl) rfl)) rfl) (fun w hm => rjoin_no fl4 fa4 fc4 w (SliceAt.own RowG.cells_len (hm.row 1 rfl) rfl rfl) (row_cap (hm.row 1 rfl)) (fun r hr => ⟨poolAt byc_len (hm.pool 2 rfl) hr, poolCap (hm.pool 2 rfl) hr⟩) (by omega) h65) rfl rfl rfl (w_n rfl) ?_
    refine TL_q (.tuple #[.slice none 0 0, .bool false]) (fun _ _ hρ _ => r_move (hρ _ _ rfl)) rfl rfl rfl (w_n rfl) ?_
    refine TL_q (.slice none 0 0) (fun _ _ hρ _ => r_extract (hρ _ _ rfl) rfl) rfl rfl rfl (w_n rfl) ?_
    refine TL_q (.bool false) (fun _ _ hρ _ => r_extract (hρ _ _ rfl) rfl) rfl rfl rfl (w_n rfl) ?_
    refine TL_q (.slice none 0 0) (fun _ _ hρ _ => r_assign (hρ _ _ rfl)) rfl rfl rfl (w_n rfl) ?_
    refine TL_q (.bool false) (fun _ _ hρ _ => r_assign (hρ _ _ rfl)) rfl rfl rfl (w_n rfl) ?_
    refine TL_seq ?_
    refine T_seq ?_
    have hJw : whyE [] = 0 := by decide
    refine T_seq (T_region ?_)
    refine TL_q (.int .i64 3) (fun _ _ hρ _ => r_move (hρ _ _ rfl)) rfl rfl rfl (w_n rfl) ?_
    refine TL_q (.bool false) (fun _ _ hρ _ => r_as (r_eql (hρ _ _ rfl) (hρ _ _ rfl)) (by rfl)) rfl rfl rfl (w_n rfl) ?_
    refine TL_q (.bool false) (fun _ _ hρ _ => r_move (hρ _ _ rfl)) rfl rfl rfl (w_n rfl) ?_
    refine TL_q (.bool false) (fun _ _ hρ _ => r_as (r_neqB (by kernel_rfl) (hρ _ _ rfl) (hρ _ _ rfl)) (by rfl)) rfl rfl rfl (w_n rfl) ?_
    refine TL_q (.bool false) (fun _ _ hρ _ => r_move (hρ _ _ rfl)) rfl rfl rfl (w_n rfl) ?_
    refine TL_q (.bool false) (fun _ _ hρ _ => r_move (hρ _ _ rfl)) rfl rfl rfl (want_y 49 rfl rfl rfl) ?_
    refine TL_q (.bool true) (fun _ _ hρ _ => r_not (b := false) (hρ _ _ rfl)) rfl rfl rfl (want_y 49 rfl rfl rfl) ?_
    refine TL_q (.bool true) (fun _ _ hρ _ => r_move (hρ _ _ rfl)) rfl rfl rfl (want_y 49 rfl rfl rfl) ?_
    refine TL_q (.int .i64 3) (fun _ _ hρ _ => r_move (hρ _ _ rfl)) rfl rfl rfl (want_y 52 rfl rfl rfl) ?_
    refine TL_q (.bool false) (fun _ _ hρ _ => r_as (r_neq (hρ _ _ rfl) (hρ _ _ rfl)) (by rfl)) rfl rfl rfl (want_y 52 rfl rfl rfl) ?_
    refine TL_q (.bool false) (fun _ _ hρ _ => r_pick_t (hρ _ _ rfl) (hρ _ _ rfl)) rfl rfl rfl (want_y 49 rfl rfl rfl) ?_
    refine TL_q (.bool false) (fun _ _ hρ _ => r_pick_f (hρ _ _ rfl) (hρ _ _ rfl)) rfl rfl rfl (w_n rfl) ?_
    refine TL_q (.bool false) (fun _ _ hρ _ => r_move (hρ _ _ rfl)) rfl rfl rfl (w_n rfl) ?_
    refine TL_q (.slice none 0 0) (fun _ _ hρ _ => r_move (hρ _ _ rfl)) rfl rfl rfl (want_y 57 rfl rfl rfl) ?_
    refine TL_q (.slice none 0 0) (fun _ _ hρ _ => r_move (hρ _ _ rfl)) rfl rfl rfl (want_y 57 rfl rfl rfl) ?_
    refine TL_call (.bool true) (fun _ _ hρ _ => r_call (args := [.slice none 0 0, .slice none 0 0]) (enters_of Try.func16 (by kernel_rfl) rfl) (hρ _ _ rfl) ((cons2 (hρ _ _ rfl) (cons2 (hρ _ _ rfl) rfl))) rfl) (fun w _ => (equal_b [] [] none none 0 0 w (sliceNil w) (sliceNil w) (Nat.le_of_ble_eq_true rfl) (Nat.le_of_ble_eq_true rfl)).mono fun _ _ h => ⟨h.1.trans (congrArg Ending.returned (bool_as (decide_eq_true rfl))), h.2⟩) rfl rfl rfl (want_y 57 rfl rfl rfl) ?_
    refine TL_q (.bool false) (fun _ _ hρ _ => r_not (b := true) (hρ _ _ rfl)) rfl rfl rfl (want_y 57 rfl rfl rfl) ?_
    refine TL_q (.bool false) (fun _ _ hρ _ => r_pick_f (hρ _ _ rfl) (hρ _ _ rfl)) rfl rfl rfl (w_n rfl) ?_
    refine TL_seq ?_
    refine T_sub [(0, .slice a xs.length cap), (1, .slice b y.length capb), (4, .bool false), (5, .slice fa4 fl4.length fc4), (6, .slice ar5 ((l2).length) cr5), (7, .slice none 0 0), (9, .slice none 0 0), (10, .bool false), (62, .bool false)] [(3, .row (.slice ar5 ((l2).length) cr5) 5 1 ((l2).length) ((l2).flatMap byc)), (1, .row (.slice fa4 fl4.length fc4) 34 1 fl4.length (fl4.flatMap RowG.cells)), (2, .pool 5 1 byc fl4)] (sub_cons rfl (sub_cons rfl (sub_cons rfl (sub_cons rfl (sub_cons rfl (sub_cons rfl (sub_cons rfl (sub_cons rfl (sub_cons rfl sub_nil))))))))) (sub_cons rfl (sub_cons rfl (sub_cons rfl sub_nil))) ?_
    refine T_cond_f rfl ?_
    refine T_skip' ?_
    refine p_seq ?_
    refine T_seq ?_
    refine T_seq (T_region ?_)
    refine TL_q (.slice fa4 fl4.length fc4) (fun _ _ hρ _ => r_move (hρ _ _ rfl)) rfl rfl rfl (w_n rfl) ?_
    refine TL_q (.int .i64 ((fl4.length : Nat) : Int)) (fun _ _ hρ _ => r_len sl63 (hρ _ _ rfl)) rfl rfl rfl (w_n rfl) ?_
    refine TL_q (.int .i64 0) (fun _ _ hρ _ => r_move (hρ _ _ rfl)) rfl rfl rfl (w_n rfl) ?_
    refine TL_seq ?_
    refine T_block ?_
    refine T_loop (ι := Nat) (fun (k : Nat) => k ≤ fl4.length) (fun (k : Nat) => [(0, .slice a xs.length cap), (1, .slice b y.length capb), (5, .slice fa4 fl4.length fc4), (6, .slice ar5 ((l2).length) cr5), (7, .slice none 0 0), (9, .slice none 0 0), (10, .bool false), (63, .slice fa4 fl4.length fc4), (64, .int .i64 ((fl4.length : Nat) : Int)), (65, .int .i64 ((k : Nat) : Int))]) (fun (k : Nat) => [(3, .row (.slice ar5 ((l2).length) cr5) 5 1 ((l2).length) ((l2).flatMap byc)), (1, .row (.slice fa4 fl4.length fc4) 34 1 fl4.length (fl4.flatMap RowG.cells)), (2, .pool 5 1 byc fl4)]) (fun (k : Nat) => fl4.length - k) 0 (Nat.zero_le _) (sub_cons rfl (sub_cons rfl (sub_cons rfl (sub_cons rfl (sub_cons rfl (sub_cons rfl (sub_cons rfl (sub_cons rfl (sub_cons rfl (sub_cons rfl sub_nil)))))))))) (sub_cons rfl (sub_cons rfl (sub_cons rfl sub_nil))) ?_
    rintro k hp
    have hk := hp
    show T _ _ _ [(0, .slice a xs.length cap), (1, .slice b y.length capb), (5, .slice fa4 fl4.length fc4), (6, .slice ar5 ((l2).length) cr5), (7, .slice none 0 0), (9, .slice none 0 0), (10, .bool false), (63, .slice fa4 fl4.length fc4), (64, .int .i64 ((fl4.length : Nat) : Int)), (65, .int .i64 ((k : Nat) : Int))] [(3, .row (.slice ar5 ((l2).length) cr5) 5 1 ((l2).length) ((l2).flatMap byc)), (1, .row (.slice fa4 fl4.length fc4) 34 1 fl4.length (fl4.flatMap RowG.cells)), (2, .pool 5 1 byc fl4)]
    refine T_seq (T_region ?_)
    refine TL_q (.bool (decide (((k : Nat) : Int) < ((fl4.length : Nat) : Int)))) (fun _ _ hρ _ => r_lss (hρ _ _ rfl) (hρ _ _ rfl)) rfl rfl rfl (w_n rfl) ?_
    refine TL_seq ?_
    refine T_seq ?_
    refine T_cond rfl (fun h5 => ?_) (fun h5 => ?_)
    · replace h5 := of_decide_eq_true h5
      refine T_skip' ?_
      refine p_seq ?_
      refine T_seq ?_
      refine T_block ?_
      obtain ⟨p, hp9⟩ : ∃ x, fl4[k]? = some x := ⟨_, List.getElem?_eq_getElem (by omega)⟩
      have hpm := List.mem_of_getElem? hp9
      have hpb := hnb p hpm
      have hrp := recP_len p.l
      refine T_row 1 rfl (by omega) (fun g28 ha28 => ?_)
      subst ha28
      refine T_rowcap 1 rfl (fun hrc28 => ?_)
      refine T_seq (T_region ?_)
      refine TL_q (.pointer (some ⟨g28, 0 + k * 1, none⟩)) (fun _ _ hρ _ => r_indexAddrS (i := k) sl63 sz34 (hρ _ _ rfl) (hρ _ _ rfl) (by omega)) rfl rfl rfl (w_n rfl) ?_
      refine TL_q (.slice p.a p.l.length p.cap) (fun _ _ hρ hm => r_loadOwn1 (f := RowG.cells) (u := p) (l := fl4) ag34 (hρ _ _ rfl) (hm.row 1 rfl) rfl rfl RowG.cells_len hp9 rfl) rfl rfl rfl (w_n rfl) ?_
      refine TL_q (.slice p.a p.l.length p.cap) (fun _ _ hρ _ => r_assign (hρ _ _ rfl)) rfl rfl rfl (w_n rfl) ?_
      refine TL_seq ?_
      by_cases hp6 : p.l.length ≤ 65536
      · skip
        refine T_seq (T_region ?_)
        refine TL_q (.slice p.a p.l.length p.cap) (fun _ _ hρ _ => r_move (hρ _ _ rfl)) rfl rfl rfl (w_n rfl) ?_
        refine TL_callN (fun (_ : Option Addr × Nat) => True) (fun (ar29, cr29) => .tuple #[.slice ar29 ((recP p.l).length) cr29, .int .i64 0]) (fun (ar29, cr29) => [(19, .row (.slice ar29 ((recP p.l).length) cr29) 5 1 ((recP p.l).length) ((recP p.l).flatMap byc))]) (fun _ _ hρ _ => r_call (args := [.slice p.a p.l.length p.cap]) (enters_of Try.func40 (by kernel_rfl) rfl) (hρ _ _ rfl) ((cons2 (hρ _ _ rfl) rfl)) rfl) (fun w hm => (jrec_ok p.l p.a p.cap w (poolAt byc_len (hm.pool 2 rfl) hpm) (poolCap (hm.pool 2 rfl) hpm) hp6).mono fun e w' ⟨a', cap', he, hb, hr⟩ => ⟨(a', cap'), trivial, he, hb, newOk1 19 hr⟩) rfl rfl rfl (w_n rfl) ?_
        rintro ⟨ar29, cr29⟩ -
        refine TL_q (.tuple #[.slice ar29 ((recP p.l).length) cr29, .int .i64 0]) (fun _ _ hρ _ => r_move (hρ _ _ rfl)) rfl rfl rfl (w_n rfl) ?_
        refine TL_q (.slice ar29 ((recP p.l).length) cr29) (fun _ _ hρ _ => r_extract (hρ _ _ rfl) rfl) rfl rfl rfl (w_n rfl) ?_
        refine TL_q (.int .i64 0) (fun _ _ hρ _ => r_extract (hρ _ _ rfl) rfl) rfl rfl rfl (w_n rfl) ?_
        refine TL_q (.slice ar29 ((recP p.l).length) cr29) (fun _ _ hρ _ => r_assign (hρ _ _ rfl)) rfl rfl rfl (w_n rfl) ?_
        refine TL_q (.int .i64 0) (fun _ _ hρ _ => r_assign (hρ _ _ rfl)) rfl rfl rfl (w_n rfl) ?_
        refine TL_seq ?_
        refine T_seq (T_region ?_)
        refine TL_q (.slice p.a p.l.length p.cap) (fun _ _ hρ _ => r_move (hρ _ _ rfl)) rfl rfl rfl (w_n rfl) ?_
        refine TL_q (.int .i64 ((p.l.length : Nat) : Int)) (fun _ _ hρ _ => r_len sl34 (hρ _ _ rfl)) rfl rfl rfl (w_n rfl) ?_
        refine TL_q (.bool false) (fun _ _ hρ _ => r_as (r_gtr (hρ _ _ rfl) (hρ _ _ rfl)) (bool_as (decide_eq_false (by omega)))) rfl rfl rfl (w_n rfl) ?_
        refine TL_seq ?_
        refine T_cond_f rfl ?_
        refine T_seq (T_region ?_)
        refine TL_q (.int .i64 0) (fun _ _ hρ _ => r_move (hρ _ _ rfl)) rfl rfl rfl (w_n rfl) ?_
        refine TL_q (.bool false) (fun _ _ hρ _ => r_as (r_neq (hρ _ _ rfl) (hρ _ _ rfl)) (by rfl)) rfl rfl rfl (w_n rfl) ?_
        refine TL_q (.bool false) (fun _ _ hρ _ => r_move (hρ _ _ rfl)) rfl rfl rfl (w_n rfl) ?_
        refine TL_q (.slice ar29 ((recP p.l).length) cr29) (fun _ _ hρ _ => r_move (hρ _ _ rfl)) rfl rfl rfl (want_y 86 rfl rfl rfl) ?_
        refine TL_q (.slice p.a p.l.length p.cap) (fun _ _ hρ _ => r_move (hρ _ _ rfl)) rfl rfl rfl (want_y 86 rfl rfl rfl) ?_
        refine TL_callN (fun (_ : Option Addr × Nat) => True) (fun (ar30, cr30) => .slice ar30 ((recP p.l).length) cr30) (fun (ar30, cr30) => [(20, .row (.slice ar30 ((recP p.l).length) cr30) 5 1 ((recP p.l).length) ((recP p.l).flatMap byc))]) (fun _ _ hρ _ => r_call (args := [.slice p.a p.l.length p.cap]) (enters_of Try.func41 (by kernel_rfl) rfl) (hρ _ _ rfl) ((cons2 (hρ _ _ rfl) rfl)) rfl) (fun w hm => (rrec_c p.l p.a p.cap w (poolAt byc_len (hm.pool 2 rfl) hpm) (poolCap (hm.pool 2 rfl) hpm) hp6).mono fun e w' ⟨a', cap', he, hb, hr⟩ => ⟨(a', cap'), trivial, he, hb, newOk1 20 hr⟩) rfl rfl rfl (want_y 86 rfl rfl rfl) ?_
        rintro ⟨ar30, cr30⟩ -
        refine TL_call (.bool true) (fun _ _ hρ _ => r_call (args := [.slice ar29 ((recP p.l).length) cr29, .slice ar30 ((recP p.l).length) cr30]) (enters_of Try.func16 (by kernel_rfl) rfl) (hρ _ _ rfl) ((cons2 (hρ _ _ rfl) (cons2 (hρ _ _ rfl) rfl))) rfl) (fun w hm => (equal_b (recP p.l) (recP p.l) ar29 ar30 cr29 cr30 w (SliceAt.own byc_len (hm.row 19 rfl) rfl rfl) (SliceAt.own byc_len (hm.row 20 rfl) rfl rfl) (by first | omega | (rw [List.length_append]; omega)) (by first | omega | (rw [List.length_append]; omega))).mono fun _ _ h => ⟨h.1.trans (congrArg Ending.returned (bool_as (decide_eq_true rfl))), h.2⟩) rfl rfl rfl (want_y 86 rfl rfl rfl) ?_
        refine TL_q (.bool false) (fun _ _ hρ _ => r_not (b := true) (hρ _ _ rfl)) rfl rfl rfl (want_y 86 rfl rfl rfl) ?_
        refine TL_q (.bool false) (fun _ _ hρ _ => r_pick_f (hρ _ _ rfl) (hρ _ _ rfl)) rfl rfl rfl (w_n rfl) ?_
        refine TL_seq ?_
        refine T_cond_f rfl ?_
        refine T_skip' ?_
        refine p_blk_n ?_
        refine p_seq ?_
        refine T_region ?_
        refine TL_q (.int .i64 ((k + 1 : Nat) : Int)) (fun _ _ hρ _ => r_as (r_add (hρ _ _ rfl) (hρ _ _ rfl)) (int_as ((wrap64 (by omega) (by omega)).trans (by omega)))) rfl rfl rfl (w_n rfl) ?_
        refine TL_q (.int .i64 ((k + 1 : Nat) : Int)) (fun _ _ hρ _ => r_move (hρ _ _ rfl)) rfl rfl rfl (w_n rfl) ?_
        refine TL_nil ?_
        exact p_at (k + 1) ⟨by omega, by omega⟩ (sub_cons rfl (sub_cons rfl (sub_cons rfl (sub_cons rfl (sub_cons rfl (sub_cons rfl (sub_cons rfl (sub_cons rfl (sub_cons rfl (sub_cons rfl sub_nil)))))))))) (sub_cons rfl (sub_cons rfl (sub_cons rfl sub_nil)))
      · skip
        refine T_seq (T_region ?_)
        refine TL_q (.slice p.a p.l.length p.cap) (fun _ _ hρ _ => r_move (hρ _ _ rfl)) rfl rfl rfl (w_n rfl) ?_
        refine TL_call (.tuple #[.slice none 0 0, .int .i64 3]) (fun _ _ hρ _ => r_call (args := [.slice p.a p.l.length p.cap]) (enters_of Try.func40 (by kernel_rfl) rfl) (hρ _ _ rfl) ((cons2 (hρ _ _ rfl) rfl)) rfl) (fun w hm => jrec_no p.l p.a p.cap w (poolAt byc_len (hm.pool 2 rfl) hpm) (poolCap (hm.pool 2 rfl) hpm) hp6) rfl rfl rfl (w_n rfl) ?_
        refine TL_q (.tuple #[.slice none 0 0, .int .i64 3]) (fun _ _ hρ _ => r_move (hρ _ _ rfl)) rfl rfl rfl (w_n rfl) ?_
        refine TL_q (.slice none 0 0) (fun _ _ hρ _ => r_extract (hρ _ _ rfl) rfl) rfl rfl rfl (w_n rfl) ?_
        refine TL_q (.int .i64 3) (fun _ _ hρ _ => r_extract (hρ _ _ rfl) rfl) rfl rfl rfl (w_n rfl) ?_
        refine TL_q (.slice none 0 0) (fun _ _ hρ _ => r_assign (hρ _ _ rfl)) rfl rfl rfl (w_n rfl) ?_
        refine TL_q (.int .i64 3) (fun _ _ hρ _ => r_assign (hρ _ _ rfl)) rfl rfl rfl (w_n rfl) ?_
        refine TL_seq ?_
        refine T_seq (T_region ?_)
        refine TL_q (.slice p.a p.l.length p.cap) (fun _ _ hρ _ => r_move (hρ _ _ rfl)) rfl rfl rfl (w_n rfl) ?_
        refine TL_q (.int .i64 ((p.l.length : Nat) : Int)) (fun _ _ hρ _ => r_len sl34 (hρ _ _ rfl)) rfl rfl rfl (w_n rfl) ?_
        refine TL_q (.bool true) (fun _ _ hρ _ => r_as (r_gtr (hρ _ _ rfl) (hρ _ _ rfl)) (bool_as (decide_eq_true (by omega)))) rfl rfl rfl (w_n rfl) ?_
        refine TL_seq ?_
        refine T_cond_t rfl ?_
        refine T_seq (T_region ?_)
        refine TL_q (.int .i64 3) (fun _ _ hρ _ => r_move (hρ _ _ rfl)) rfl rfl rfl (w_n rfl) ?_
        refine TL_q (.bool false) (fun _ _ hρ _ => r_as (r_neq (hρ _ _ rfl) (hρ _ _ rfl)) (by rfl)) rfl rfl rfl (w_n rfl) ?_
        refine TL_q (.bool false) (fun _ _ hρ _ => r_move (hρ _ _ rfl)) rfl rfl rfl (w_n rfl) ?_
        refine TL_q (.slice none 0 0) (fun _ _ hρ _ => r_move (hρ _ _ rfl)) rfl rfl rfl (want_y 79 rfl rfl rfl) ?_
        refine TL_q (.int .i64 0) (fun _ _ hρ _ => r_len sl34 (hρ _ _ rfl)) rfl rfl rfl (want_y 79 rfl rfl rfl) ?_
        refine TL_q (.bool false) (fun _ _ hρ _ => r_as (r_gtr (hρ _ _ rfl) (hρ _ _ rfl)) (by rfl)) rfl rfl rfl (want_y 79 rfl rfl rfl) ?_
        refine TL_q (.bool false) (fun _ _ hρ _ => r_pick_f (hρ _ _ rfl) (hρ _ _ rfl)) rfl rfl rfl (w_n rfl) ?_
        refine TL_seq ?_
        refine T_cond_f rfl ?_
        refine T_skip' ?_
        refine p_blk_n ?_
        refine p_seq ?_
        refine T_region ?_
        refine TL_q (.int .i64 ((k + 1 : Nat) : Int)) (fun _ _ hρ _ => r_as (r_add (hρ _ _ rfl) (hρ _ _ rfl)) (int_as ((wrap64 (by omega) (by omega)).trans (by omega)))) rfl rfl rfl (w_n rfl) ?_
        refine TL_q (.int .i64 ((k + 1 : Nat) : Int)) (fun _ _ hρ _ => r_move (hρ _ _ rfl)) rfl rfl rfl (w_n rfl) ?_
        refine TL_nil ?_
        exact p_at (k + 1) ⟨by omega, by omega⟩ (sub_cons rfl (sub_cons rfl (sub_cons rfl (sub_cons rfl (sub_cons rfl (sub_cons rfl (sub_cons rfl (sub_cons rfl (sub_cons rfl (sub_cons rfl sub_nil)))))))))) (sub_cons rfl (sub_cons rfl (sub_cons rfl sub_nil)))
    · replace h5 := of_decide_eq_false h5
      refine T_exit' ?_
      refine p_then_x ?_
      refine p_then_x ?_
      refine p_blk_x ?_
      refine p_seq ?_
      refine T_seq ?_
      refine T_seq (T_region ?_)
      refine TL_q (.slice ar5 ((l2).length) cr5) (fun _ _ hρ _ => r_move (hρ _ _ rfl)) rfl rfl rfl (w_n rfl) ?_
      refine TL_q (.slice none 0 0) (fun _ _ hρ _ => r_move (hρ _ _ rfl)) rfl rfl rfl (w_n rfl) ?_
      refine TL_new 21 (.cells #[.slice ar5 ((l2).length) cr5, .slice none 0 0] 34) (fun B => .slice (some ⟨B, 0, none⟩) 2 2) (fun _ _ hρ _ => r_buildSlice (vs := [(0, .slice ar5 ((l2).length) cr5), (1, .slice none 0 0)]) (by kernel_rfl) (cons2 (pair2 (hρ _ _ rfl)) (cons2 (pair2 (hρ _ _ rfl)) rfl))) rfl rfl rfl (w_n rfl) ?_
      intro B31
      refine TL_q (.int .i64 2) (fun _ _ hρ _ => r_len sl63 (hρ _ _ rfl)) rfl rfl rfl (w_n rfl) ?_
      refine TL_q (.int .i64 0) (fun _ _ hρ _ => r_move (hρ _ _ rfl)) rfl rfl rfl (w_n rfl) ?_
      refine TL_seq ?_
      refine T_block ?_
      refine T_rounds 3 ?_
      refine TR_succ ?_
      refine T_seq (T_region ?_)
      refine TL_q (.bool true) (fun _ _ hρ _ => r_as (r_lss (hρ _ _ rfl) (hρ _ _ rfl)) (by rfl)) rfl rfl rfl (w_n rfl) ?_
      refine TL_seq ?_
      refine T_seq ?_
      refine T_cond_t rfl ?_
      refine T_skip' ?_
      refine p_seq ?_
      refine T_seq ?_
      refine T_block ?_
      refine T_seq (T_region ?_)
      refine TL_q (.pointer (some ⟨B31, 0, none⟩)) (fun _ _ hρ _ => r_indexAddrS (i := 0) sl63 sz34 (hρ _ _ rfl) (hρ _ _ rfl) (by decide)) rfl rfl rfl (w_n rfl) ?_
      refine TL_q (.slice ar5 ((l2).length) cr5) (fun _ _ hρ hm => r_load ag34 (hρ _ _ rfl) (hm.at 21 rfl) rfl) rfl rfl rfl (w_n rfl) ?_
      refine TL_q (.slice ar5 ((l2).length) cr5) (fun _ _ hρ _ => r_assign (hρ _ _ rfl)) rfl rfl rfl (w_n rfl) ?_
      refine TL_seq ?_
      refine T_seq (T_region ?_)
      refine TL_q (.slice ar5 ((l2).length) cr5) (fun _ _ hρ _ => r_move (hρ _ _ rfl)) rfl rfl rfl (w_n rfl) ?_
      refine TL_callN (fun ((va32, vc32, vl32, ma32, mc32, ml32) : Option Addr × Nat × List (RowG By) × Option Addr × Nat × List Nat) => rls vl32 = heldsV l2 ∧ ml32 = placesV l2) (fun (va32, vc32, vl32, ma32, mc32, ml32) => .tuple #[.slice va32 vl32.length vc32, .slice ma32 ml32.length mc32, .int .i64 ((sizeV l2 : Nat) : Int)]) (fun (va32, vc32, vl32, ma32, mc32, ml32) => [(963, .row (.slice va32 vl32.length vc32) 34 1 vl32.length (vl32.flatMap RowG.cells)), (964, .rows vl32), (965, .row (.slice ma32 ml32.length mc32) 3 1 ml32.length (ml32.flatMap nic))]) (fun _ _ hρ _ => r_call (args := [.slice ar5 ((l2).length) cr5]) (enters_of Try.func42 (by kernel_rfl) rfl) (hρ _ _ rfl) ((cons2 (hρ _ _ rfl) rfl)) rfl) (fun w hm => (rscan_c l2 ar5 cr5 w (SliceAt.own byc_len (hm.row 3 rfl) rfl rfl) (row_cap (hm.row 3 rfl)) (by omega)).mono fun e w' ⟨n, m, hf, hg, he, hb, hn⟩ => ⟨(n.a, n.cap, n.l, m.a, m.cap, m.l), ⟨hf, hg⟩, he, hb, hn⟩) rfl rfl rfl (w_n rfl) ?_
      rintro ⟨va32, vc32, vl32, ma32, mc32, ml32⟩ hrs32
      refine TL_q (.tuple #[.slice va32 vl32.length vc32, .slice ma32 ml32.length mc32, .int .i64 ((sizeV l2 : Nat) : Int)]) (fun _ _ hρ _ => r_move (hρ _ _ rfl)) rfl rfl rfl (w_n rfl) ?_
      refine TL_q (.slice va32 vl32.length vc32) (fun _ _ hρ _ => r_extract (hρ _ _ rfl) rfl) rfl rfl rfl (w_n rfl) ?_
      refine TL_q (.slice ma32 ml32.length mc32) (fun _ _ hρ _ => r_extract (hρ _ _ rfl) rfl) rfl rfl rfl (w_n rfl) ?_
      refine TL_q (.int .i64 ((sizeV l2 : Nat) : Int)) (fun _ _ hρ _ => r_extract (hρ _ _ rfl) rfl) rfl rfl rfl (w_n rfl) ?_
      refine TL_q (.slice va32 vl32.length vc32) (fun _ _ hρ _ => r_assign (hρ _ _ rfl)) rfl rfl rfl (w_n rfl) ?_
      refine TL_q (.slice ma32 ml32.length mc32) (fun _ _ hρ _ => r_assign (hρ _ _ rfl)) rfl rfl rfl (w_n rfl) ?_
      refine TL_q (.int .i64 ((sizeV l2 : Nat) : Int)) (fun _ _ hρ _ => r_assign (hρ _ _ rfl)) rfl rfl rfl (w_n rfl) ?_
      refine TL_seq ?_
      by_cases hwy : whyE l2 = 0
      · skip
        refine T_seq (T_region ?_)
        refine TL_q (.slice ar5 ((l2).length) cr5) (fun _ _ hρ _ => r_move (hρ _ _ rfl)) rfl rfl rfl (w_n rfl) ?_
        refine TL_q (.slice fa4 fl4.length fc4) (fun _ _ hρ _ => r_move (hρ _ _ rfl)) rfl rfl rfl (w_n rfl) ?_
        refine TL_call (.tuple #[.slice none 0 0, .int .i64 3]) (fun _ _ hρ _ => r_call (args := [.slice ar5 ((l2).length) cr5, .slice fa4 fl4.length fc4]) (enters_of Try.func43 (by kernel_rfl) rfl) (hρ _ _ rfl) ((cons2 (hρ _ _ rfl) (cons2 (hρ _ _ rfl) rfl))) rfl) (fun w hm => app_long l2 ar5 cr5 w (SliceAt.own byc_len (hm.row 3 rfl) rfl rfl) (row_cap (hm.row 3 rfl)) fl4 fa4 fc4 (SliceAt.own RowG.cells_len (hm.row 1 rfl) rfl rfl) (row_cap (hm.row 1 rfl)) (fun r hr => ⟨poolAt byc_len (hm.pool 2 rfl) hr, poolCap (hm.pool 2 rfl) hr⟩) (by omega) (by omega) hwy h65) rfl rfl rfl (w_n rfl) ?_
        refine TL_q (.tuple #[.slice none 0 0, .int .i64 3]) (fun _ _ hρ _ => r_move (hρ _ _ rfl)) rfl rfl rfl (w_n rfl) ?_
        refine TL_q (.slice none 0 0) (fun _ _ hρ _ => r_extract (hρ _ _ rfl) rfl) rfl rfl rfl (w_n rfl) ?_
        refine TL_q (.int .i64 3) (fun _ _ hρ _ => r_extract (hρ _ _ rfl) rfl) rfl rfl rfl (w_n rfl) ?_
        refine TL_q (.slice none 0 0) (fun _ _ hρ _ => r_assign (hρ _ _ rfl)) rfl rfl rfl (w_n rfl) ?_
        refine TL_q (.int .i64 3) (fun _ _ hρ _ => r_assign (hρ _ _ rfl)) rfl rfl rfl (w_n rfl) ?_
        refine TL_seq ?_
        refine T_seq (T_region ?_)
        refine TL_q (.int .i64 0) (fun _ _ hρ _ => r_assign (hρ _ _ rfl)) rfl rfl rfl (w_n rfl) ?_
        refine TL_seq ?_
        refine T_seq ?_
        refine T_block ?_
        refine T_seq (T_region ?_)
        refine TL_q (.int .i64 ((sizeV l2 : Nat) : Int)) (fun _ _ hρ _ => r_move (hρ _ _ rfl)) rfl rfl rfl (w_n rfl) ?_
        refine TL_q (.slice ar5 ((l2).length) cr5) (fun _ _ hρ _ => r_move (hρ _ _ rfl)) rfl rfl rfl (w_n rfl) ?_
        refine TL_q (.int .i64 (((l2).length : Nat) : Int)) (fun _ _ hρ _ => r_len sl34 (hρ _ _ rfl)) rfl rfl rfl (w_n rfl) ?_
        refine TL_q (.bool false) (fun _ _ hρ _ => r_as (r_neq (hρ _ _ rfl) (hρ _ _ rfl)) (bool_as (by rw [decide_eq_true (congrArg (fun n : Nat => (n : Int)) (whyE_ok.1 hwy))]; rfl))) rfl rfl rfl (w_n rfl) ?_
        refine TL_q (.bool false) (fun _ _ hρ _ => r_assign (hρ _ _ rfl)) rfl rfl rfl (w_n rfl) ?_
        refine TL_seq ?_
        refine T_sub [(0, .slice a xs.length cap), (1, .slice b y.length capb), (5, .slice fa4 fl4.length fc4), (6, .slice ar5 ((l2).length) cr5), (9, .slice none 0 0), (10, .bool false), (96, .slice (some ⟨B31, 0, none⟩) 2 2), (97, .int .i64 2), (98, .int .i64 0), (99, .bool true), (100, .pointer (some ⟨B31, 0, none⟩)), (101, .slice ar5 ((l2).length) cr5), (16, .slice ar5 ((l2).length) cr5), (103, .slice ar5 ((l2).length) cr5), (104, .tuple #[.slice va32 vl32.length vc32, .slice ma32 ml32.length mc32, .int .i64 ((sizeV l2 : Nat) : Int)]), (102, .tuple #[.slice va32 vl32.length vc32, .slice ma32 ml32.length mc32, .int .i64 ((sizeV l2 : Nat) : Int)]), (105, .slice va32 vl32.length vc32), (106, .slice ma32 ml32.length mc32), (107, .int .i64 ((sizeV l2 : Nat) : Int)), (19, .int .i64 ((sizeV l2 : Nat) : Int)), (109, .slice ar5 ((l2).length) cr5), (110, .slice fa4 fl4.length fc4), (111, .tuple #[.slice none 0 0, .int .i64 3]), (108, .tuple #[.slice none 0 0, .int .i64 3]), (112, .slice none 0 0), (113, .int .i64 3), (20, .slice none 0 0), (21, .int .i64 3), (22, .int .i64 0), (115, .int .i64 ((sizeV l2 : Nat) : Int)), (116, .slice ar5 ((l2).length) cr5), (117, .int .i64 (((l2).length : Nat) : Int)), (118, .bool false), (114, .bool false)] [(963, .row (.slice va32 vl32.length vc32) 34 1 vl32.length (vl32.flatMap RowG.cells)), (964, .rows vl32), (965, .row (.slice ma32 ml32.length mc32) 3 1 ml32.length (ml32.flatMap nic)), (3, .row (.slice ar5 ((l2).length) cr5) 5 1 ((l2).length) ((l2).flatMap byc)), (1, .row (.slice fa4 fl4.length fc4) 34 1 fl4.length (fl4.flatMap RowG.cells)), (2, .pool 5 1 byc fl4), (21, .blk B31 (.cells #[.slice ar5 ((l2).length) cr5, .slice none 0 0] 34))] (sub_cons rfl (sub_cons rfl (sub_cons rfl (sub_cons rfl (sub_cons rfl (sub_cons rfl (sub_cons rfl (sub_cons rfl (sub_cons rfl (sub_cons rfl (sub_cons rfl (sub_cons rfl (sub_cons rfl (sub_cons rfl (sub_cons rfl (sub_cons rfl (sub_cons rfl (sub_cons rfl (sub_cons rfl (sub_cons rfl (sub_cons rfl (sub_cons rfl (sub_cons rfl (sub_cons rfl (sub_cons rfl (sub_cons rfl (sub_cons rfl (sub_cons rfl (sub_cons rfl (sub_cons rfl (sub_cons rfl (sub_cons rfl (sub_cons rfl (sub_cons rfl sub_nil)))))))))))))))))))))))))))))))))) (sub_cons rfl (sub_cons rfl (sub_cons rfl (sub_cons rfl (sub_cons rfl (sub_cons rfl (sub_cons rfl sub_nil))))))) ?_
        refine T_cond_f rfl ?_
        refine T_seq (T_region ?_)
        refine TL_q (.bool false) (fun _ _ hρ _ => r_move (hρ _ _ rfl)) rfl rfl rfl (w_n rfl) ?_
        refine TL_q (.bool true) (fun _ _ hρ _ => r_not (b := false) (hρ _ _ rfl)) rfl rfl rfl (w_n rfl) ?_
        refine TL_q (.bool true) (fun _ _ hρ _ => r_assign (hρ _ _ rfl)) rfl rfl rfl (w_n rfl) ?_
        refine TL_seq ?_
        refine T_cond_t rfl ?_
        refine T_region ?_
        refine TL_q (.int .i64 3) (fun _ _ hρ _ => r_assign (hρ _ _ rfl)) rfl rfl rfl (w_n rfl) ?_
        refine TL_nil ?_
        refine p_blk_n ?_
        refine p_seq ?_
        refine T_seq (T_region ?_)
        refine TL_q (.slice none 0 0) (fun _ _ hρ _ => r_assign (hρ _ _ rfl)) rfl rfl rfl (w_n rfl) ?_
        refine TL_seq ?_
        refine T_seq ?_
        refine T_seq (T_region ?_)
        refine TL_q (.int .i64 3) (fun _ _ hρ _ => r_move (hρ _ _ rfl)) rfl rfl rfl (w_n rfl) ?_
        refine TL_q (.bool false) (fun _ _ hρ _ => r_as (r_eql (hρ _ _ rfl) (hρ _ _ rfl)) (by rfl)) rfl rfl rfl (w_n rfl) ?_
        refine TL_seq ?_
        refine T_cond_f rfl ?_
        refine T_skip' ?_
        refine p_seq ?_
        refine T_seq ?_
        refine T_seq (T_region ?_)
        refine TL_q (.int .i64 3) (fun _ _ hρ _ => r_move (hρ _ _ rfl)) rfl rfl rfl (w_n rfl) ?_
        refine TL_q (.int .i64 3) (fun _ _ hρ _ => r_move (hρ _ _ rfl)) rfl rfl rfl (w_n rfl) ?_
        refine TL_q (.bool false) (fun _ _ hρ _ => r_as (r_neq (hρ _ _ rfl) (hρ _ _ rfl)) (by rfl)) rfl rfl rfl (w_n rfl) ?_
        refine TL_q (.bool false) (fun _ _ hρ _ => r_move (hρ _ _ rfl)) rfl rfl rfl (w_n rfl) ?_
        refine TL_q (.slice none 0 0) (fun _ _ hρ _ => r_move (hρ _ _ rfl)) rfl rfl rfl (want_y 130 rfl rfl rfl) ?_
        refine TL_q (.slice none 0 0) (fun _ _ hρ _ => r_move (hρ _ _ rfl)) rfl rfl rfl (want_y 130 rfl rfl rfl) ?_
        refine TL_call (.bool true) (fun _ _ hρ _ => r_call (args := [.slice none 0 0, .slice none 0 0]) (enters_of Try.func16 (by kernel_rfl) rfl) (hρ _ _ rfl) ((cons2 (hρ _ _ rfl) (cons2 (hρ _ _ rfl) rfl))) rfl) (fun w _ => (equal_b [] [] none none 0 0 w (sliceNil w) (sliceNil w) (Nat.le_of_ble_eq_true rfl) (Nat.le_of_ble_eq_true rfl)).mono fun _ _ h => ⟨h.1.trans (congrArg Ending.returned (bool_as (decide_eq_true rfl))), h.2⟩) rfl rfl rfl (want_y 130 rfl rfl rfl) ?_
        refine TL_q (.bool false) (fun _ _ hρ _ => r_not (b := true) (hρ _ _ rfl)) rfl rfl rfl (want_y 130 rfl rfl rfl) ?_
        refine TL_q (.bool false) (fun _ _ hρ _ => r_pick_f (hρ _ _ rfl) (hρ _ _ rfl)) rfl rfl rfl (w_n rfl) ?_
        refine TL_seq ?_
        refine T_cond_f rfl ?_
        refine T_skip' ?_
        refine p_seq ?_
        refine T_seq (T_region ?_)
        refine TL_q (.slice none 0 0) (fun _ _ hρ _ => r_move (hρ _ _ rfl)) rfl rfl rfl (w_n rfl) ?_
        refine TL_q (.int .i64 0) (fun _ _ hρ _ => r_len sl34 (hρ _ _ rfl)) rfl rfl rfl (w_n rfl) ?_
        refine TL_q (.int .i64 0) (fun _ _ hρ _ => r_move (hρ _ _ rfl)) rfl rfl rfl (w_n rfl) ?_
        refine TL_seq ?_
        refine T_block ?_
        refine T_rounds 1 ?_
        refine TR_succ ?_
        refine T_seq (T_region ?_)
        refine TL_q (.bool false) (fun _ _ hρ _ => r_as (r_lss (hρ _ _ rfl) (hρ _ _ rfl)) (by rfl)) rfl rfl rfl (w_n rfl) ?_
        refine TL_seq ?_
        refine T_seq ?_
        refine T_cond_f rfl ?_
        refine T_exit' ?_
        refine p_then_x ?_
        refine p_then_x ?_
        refine p_blk_x ?_
        refine p_blk_n ?_
        refine p_seq ?_
        refine T_region ?_
        refine TL_q (.int .i64 1) (fun _ _ hρ _ => r_as (r_add (hρ _ _ rfl) (hρ _ _ rfl)) (by rfl)) rfl rfl rfl (w_n rfl) ?_
        refine TL_q (.int .i64 1) (fun _ _ hρ _ => r_move (hρ _ _ rfl)) rfl rfl rfl (w_n rfl) ?_
        refine TL_nil ?_
        refine p_round ?_
        refine TR_succ ?_
        refine T_seq (T_region ?_)
        refine TL_q (.bool true) (fun _ _ hρ _ => r_as (r_lss (hρ _ _ rfl) (hρ _ _ rfl)) (by rfl)) rfl rfl rfl (w_n rfl) ?_
        refine TL_seq ?_
        refine T_seq ?_
        refine T_cond_t rfl ?_
        refine T_skip' ?_
        refine p_seq ?_
        refine T_seq ?_
        refine T_block ?_
        refine T_seq (T_region ?_)
        refine TL_q (.pointer (some ⟨B31, 1, none⟩)) (fun _ _ hρ _ => r_indexAddrS (i := 1) sl63 sz34 (hρ _ _ rfl) (hρ _ _ rfl) (by decide)) rfl rfl rfl (w_n rfl) ?_
        refine TL_q (.slice none 0 0) (fun _ _ hρ hm => r_load ag34 (hρ _ _ rfl) (hm.at 21 rfl) rfl) rfl rfl rfl (w_n rfl) ?_
        refine TL_q (.slice none 0 0) (fun _ _ hρ _ => r_assign (hρ _ _ rfl)) rfl rfl rfl (w_n rfl) ?_
        refine TL_seq ?_
        refine T_seq (T_region ?_)
        refine TL_q (.slice none 0 0) (fun _ _ hρ _ => r_move (hρ _ _ rfl)) rfl rfl rfl (w_n rfl) ?_
        refine TL_callN (fun ((va33, vc33, vl33, ma33, mc33, ml33) : Option Addr × Nat × List (RowG By) × Option Addr × Nat × List Nat) => rls vl33 = heldsV [] ∧ ml33 = placesV []) (fun (va33, vc33, vl33, ma33, mc33, ml33) => .tuple #[.slice va33 vl33.length vc33, .slice ma33 ml33.length mc33, .int .i64 ((sizeV [] : Nat) : Int)]) (fun (va33, vc33, vl33, ma33, mc33, ml33) => [(963, .row (.slice va33 vl33.length vc33) 34 1 vl33.length (vl33.flatMap RowG.cells)), (964, .rows vl33), (965, .row (.slice ma33 ml33.length mc33) 3 1 ml33.length (ml33.flatMap nic))]) (fun _ _ hρ _ => r_call (args := [.slice none 0 0]) (enters_of Try.func42 (by kernel_rfl) rfl) (hρ _ _ rfl) ((cons2 (hρ _ _ rfl) rfl)) rfl) (fun w _ => (rscan_c [] none 0 w (sliceNil w) (by decide) (by decide)).mono fun e w' ⟨n, m, hf, hg, he, hb, hn⟩ => ⟨(n.a, n.cap, n.l, m.a, m.cap, m.l), ⟨hf, hg⟩, he, hb, hn⟩) rfl rfl rfl (w_n rfl) ?_
        rintro ⟨va33, vc33, vl33, ma33, mc33, ml33⟩ hrs33
        refine TL_q (.tuple #[.slice va33 vl33.length vc33, .slice ma33 ml33.length mc33, .int .i64 ((sizeV [] : Nat) : Int)]) (fun _ _ hρ _ => r_move (hρ _ _ rfl)) rfl rfl rfl (w_n rfl) ?_
        refine TL_q (.slice va33 vl33.length vc33) (fun _ _ hρ _ => r_extract (hρ _ _ rfl) rfl) rfl rfl rfl (w_n rfl) ?_
        refine TL_q (.slice ma33 ml33.length mc33) (fun _ _ hρ _ => r_extract (hρ _ _ rfl) rfl) rfl rfl rfl (w_n rfl) ?_
        refine TL_q (.int .i64 ((sizeV [] : Nat) : Int)) (fun _ _ hρ _ => r_extract (hρ _ _ rfl) rfl) rfl rfl rfl (w_n rfl) ?_
        refine TL_q (.slice va33 vl33.length vc33) (fun _ _ hρ _ => r_assign (hρ _ _ rfl)) rfl rfl rfl (w_n rfl) ?_
        refine TL_q (.slice ma33 ml33.length mc33) (fun _ _ hρ _ => r_assign (hρ _ _ rfl)) rfl rfl rfl (w_n rfl) ?_
        refine TL_q (.int .i64 ((sizeV [] : Nat) : Int)) (fun _ _ hρ _ => r_assign (hρ _ _ rfl)) rfl rfl rfl (w_n rfl) ?_
        refine TL_seq ?_
        refine T_sub [(0, .slice a xs.length cap), (1, .slice b y.length capb), (5, .slice fa4 fl4.length fc4), (6, .slice ar5 ((l2).length) cr5), (9, .slice none 0 0), (10, .bool false), (96, .slice (some ⟨B31, 0, none⟩) 2 2), (97, .int .i64 2), (109, .slice ar5 ((l2).length) cr5), (110, .slice fa4 fl4.length fc4), (111, .tuple #[.slice none 0 0, .int .i64 3]), (108, .tuple #[.slice none 0 0, .int .i64 3]), (112, .slice none 0 0), (113, .int .i64 3), (20, .slice none 0 0), (21, .int .i64 3), (115, .int .i64 ((sizeV l2 : Nat) : Int)), (116, .slice ar5 ((l2).length) cr5), (117, .int .i64 (((l2).length : Nat) : Int)), (118, .bool false), (114, .bool false), (120, .bool false), (121, .bool true), (119, .bool true), (22, .int .i64 3), (23, .slice none 0 0), (122, .int .i64 3), (123, .bool false), (127, .int .i64 3), (128, .int .i64 3), (129, .bool false), (130, .bool false), (131, .slice none 0 0), (132, .slice none 0 0), (133, .bool true), (134, .bool false), (135, .bool false), (136, .slice none 0 0), (137, .int .i64 0), (138, .int .i64 0), (139, .bool false), (148, .int .i64 1), (98, .int .i64 1), (99, .bool true), (100, .pointer (some ⟨B31, 1, none⟩)), (101, .slice none 0 0), (16, .slice none 0 0), (103, .slice none 0 0), (104, .tuple #[.slice va33 vl33.length vc33, .slice ma33 ml33.length mc33, .int .i64 ((sizeV [] : Nat) : Int)]), (102, .tuple #[.slice va33 vl33.length vc33, .slice ma33 ml33.length mc33, .int .i64 ((sizeV [] : Nat) : Int)]), (105, .slice va33 vl33.length vc33), (106, .slice ma33 ml33.length mc33), (107, .int .i64 ((sizeV [] : Nat) : Int)), (19, .int .i64 ((sizeV [] : Nat) : Int))] [(963, .row (.slice va33 vl33.length vc33) 34 1 vl33.length (vl33.flatMap RowG.cells)), (964, .rows vl33), (965, .row (.slice ma33 ml33.length mc33) 3 1 ml33.length (ml33.flatMap nic)), (3, .row (.slice ar5 ((l2).length) cr5) 5 1 ((l2).length) ((l2).flatMap byc)), (1, .row (.slice fa4 fl4.length fc4) 34 1 fl4.length (fl4.flatMap RowG.cells)), (2, .pool 5 1 byc fl4), (21, .blk B31 (.cells #[.slice ar5 ((l2).length) cr5, .slice none 0 0] 34))] (sub_cons rfl (sub_cons rfl (sub_cons rfl (sub_cons rfl (sub_cons rfl (sub_cons rfl (sub_cons rfl (sub_cons rfl (sub_cons rfl (sub_cons rfl (sub_cons rfl (sub_cons rfl (sub_cons rfl (sub_cons rfl (sub_cons rfl (sub_cons rfl (sub_cons rfl (sub_cons rfl (sub_cons rfl (sub_cons rfl (sub_cons rfl (sub_cons rfl (sub_cons rfl (sub_cons rfl (sub_cons rfl (sub_cons rfl (sub_cons rfl (sub_cons rfl (sub_cons rfl (sub_cons rfl (sub_cons rfl (sub_cons rfl (sub_cons rfl (sub_cons rfl (sub_cons rfl (sub_cons rfl (sub_cons rfl (sub_cons rfl (sub_cons rfl (sub_cons rfl (sub_cons rfl (sub_cons rfl (sub_cons rfl (sub_cons rfl (sub_cons rfl (sub_cons rfl (sub_cons rfl (sub_cons rfl (sub_cons rfl (sub_cons rfl (sub_cons rfl (sub_cons rfl (sub_cons rfl (sub_cons rfl sub_nil)))))))))))))))))))))))))))))))))))))))))))))))))))))) (sub_cons rfl (sub_cons rfl (sub_cons rfl (sub_cons rfl (sub_cons rfl (sub_cons rfl (sub_cons rfl sub_nil))))))) ?_
        refine T_seq (T_region ?_)
        refine TL_q (.slice none 0 0) (fun _ _ hρ _ => r_move (hρ _ _ rfl)) rfl rfl rfl (w_n rfl) ?_
        refine TL_q (.slice fa4 fl4.length fc4) (fun _ _ hρ _ => r_move (hρ _ _ rfl)) rfl rfl rfl (w_n rfl) ?_
        refine TL_call (.tuple #[.slice none 0 0, .int .i64 3]) (fun _ _ hρ _ => r_call (args := [.slice none 0 0, .slice fa4 fl4.length fc4]) (enters_of Try.func43 (by kernel_rfl) rfl) (hρ _ _ rfl) ((cons2 (hρ _ _ rfl) (cons2 (hρ _ _ rfl) rfl))) rfl) (fun w hm => app_long [] none 0 w (sliceNil w) (by decide) fl4 fa4 fc4 (SliceAt.own RowG.cells_len (hm.row 1 rfl) rfl rfl) (row_cap (hm.row 1 rfl)) (fun r hr => ⟨poolAt byc_len (hm.pool 2 rfl) hr, poolCap (hm.pool 2 rfl) hr⟩) (by decide) (by omega) hJw h65) rfl rfl rfl (w_n rfl) ?_
        refine TL_q (.tuple #[.slice none 0 0, .int .i64 3]) (fun _ _ hρ _ => r_move (hρ _ _ rfl)) rfl rfl rfl (w_n rfl) ?_
        refine TL_q (.slice none 0 0) (fun _ _ hρ _ => r_extract (hρ _ _ rfl) rfl) rfl rfl rfl (w_n rfl) ?_
        refine TL_q (.int .i64 3) (fun _ _ hρ _ => r_extract (hρ _ _ rfl) rfl) rfl rfl rfl (w_n rfl) ?_
        refine TL_q (.slice none 0 0) (fun _ _ hρ _ => r_assign (hρ _ _ rfl)) rfl rfl rfl (w_n rfl) ?_
        refine TL_q (.int .i64 3) (fun _ _ hρ _ => r_assign (hρ _ _ rfl)) rfl rfl rfl (w_n rfl) ?_
        refine TL_seq ?_
        refine T_seq (T_region ?_)
        refine TL_q (.int .i64 0) (fun _ _ hρ _ => r_assign (hρ _ _ rfl)) rfl rfl rfl (w_n rfl) ?_
        refine TL_seq ?_
        refine T_seq ?_
        refine T_block ?_
        refine T_seq (T_region ?_)
        refine TL_q (.int .i64 ((sizeV [] : Nat) : Int)) (fun _ _ hρ _ => r_move (hρ _ _ rfl)) rfl rfl rfl (w_n rfl) ?_
        refine TL_q (.slice none 0 0) (fun _ _ hρ _ => r_move (hρ _ _ rfl)) rfl rfl rfl (w_n rfl) ?_
        refine TL_q (.int .i64 0) (fun _ _ hρ _ => r_len sl34 (hρ _ _ rfl)) rfl rfl rfl (w_n rfl) ?_
        refine TL_q (.bool false) (fun _ _ hρ _ => r_as (r_neq (hρ _ _ rfl) (hρ _ _ rfl)) (bool_as (by rw [decide_eq_true (show ((sizeV [] : Nat) : Int) = 0 by decide)]; rfl))) rfl rfl rfl (w_n rfl) ?_
        refine TL_q (.bool false) (fun _ _ hρ _ => r_assign (hρ _ _ rfl)) rfl rfl rfl (w_n rfl) ?_
        refine TL_seq ?_
        refine T_cond_f rfl ?_
        refine T_seq (T_region ?_)
        refine TL_q (.bool false) (fun _ _ hρ _ => r_move (hρ _ _ rfl)) rfl rfl rfl (w_n rfl) ?_
        refine TL_q (.bool true) (fun _ _ hρ _ => r_not (b := false) (hρ _ _ rfl)) rfl rfl rfl (w_n rfl) ?_
        refine TL_q (.bool true) (fun _ _ hρ _ => r_assign (hρ _ _ rfl)) rfl rfl rfl (w_n rfl) ?_
        refine TL_seq ?_
        refine T_cond_t rfl ?_
        refine T_region ?_
        refine TL_q (.int .i64 3) (fun _ _ hρ _ => r_assign (hρ _ _ rfl)) rfl rfl rfl (w_n rfl) ?_
        refine TL_nil ?_
        refine p_blk_n ?_
        refine p_seq ?_
        refine T_seq (T_region ?_)
        refine TL_q (.slice none 0 0) (fun _ _ hρ _ => r_assign (hρ _ _ rfl)) rfl rfl rfl (w_n rfl) ?_
        refine TL_seq ?_
        refine T_seq ?_
        refine T_seq (T_region ?_)
        refine TL_q (.int .i64 3) (fun _ _ hρ _ => r_move (hρ _ _ rfl)) rfl rfl rfl (w_n rfl) ?_
        refine TL_q (.bool false) (fun _ _ hρ _ => r_as (r_eql (hρ _ _ rfl) (hρ _ _ rfl)) (by rfl)) rfl rfl rfl (w_n rfl) ?_
        refine TL_seq ?_
        refine T_cond_f rfl ?_
        refine T_skip' ?_
        refine p_seq ?_
        refine T_seq ?_
        refine T_seq (T_region ?_)
        refine TL_q (.int .i64 3) (fun _ _ hρ _ => r_move (hρ _ _ rfl)) rfl rfl rfl (w_n rfl) ?_
        refine TL_q (.int .i64 3) (fun _ _ hρ _ => r_move (hρ _ _ rfl)) rfl rfl rfl (w_n rfl) ?_
        refine TL_q (.bool false) (fun _ _ hρ _ => r_as (r_neq (hρ _ _ rfl) (hρ _ _ rfl)) (by rfl)) rfl rfl rfl (w_n rfl) ?_
        refine TL_q (.bool false) (fun _ _ hρ _ => r_move (hρ _ _ rfl)) rfl rfl rfl (w_n rfl) ?_
        refine TL_q (.slice none 0 0) (fun _ _ hρ _ => r_move (hρ _ _ rfl)) rfl rfl rfl (want_y 130 rfl rfl rfl) ?_
        refine TL_q (.slice none 0 0) (fun _ _ hρ _ => r_move (hρ _ _ rfl)) rfl rfl rfl (want_y 130 rfl rfl rfl) ?_
        refine TL_call (.bool true) (fun _ _ hρ _ => r_call (args := [.slice none 0 0, .slice none 0 0]) (enters_of Try.func16 (by kernel_rfl) rfl) (hρ _ _ rfl) ((cons2 (hρ _ _ rfl) (cons2 (hρ _ _ rfl) rfl))) rfl) (fun w _ => (equal_b [] [] none none 0 0 w (sliceNil w) (sliceNil w) (Nat.le_of_ble_eq_true rfl) (Nat.le_of_ble_eq_true rfl)).mono fun _ _ h => ⟨h.1.trans (congrArg Ending.returned (bool_as (decide_eq_true rfl))), h.2⟩) rfl rfl rfl (want_y 130 rfl rfl rfl) ?_
        refine TL_q (.bool false) (fun _ _ hρ _ => r_not (b := true) (hρ _ _ rfl)) rfl rfl rfl (want_y 130 rfl rfl rfl) ?_
        refine TL_q (.bool false) (fun _ _ hρ _ => r_pick_f (hρ _ _ rfl) (hρ _ _ rfl)) rfl rfl rfl (w_n rfl) ?_
        refine TL_seq ?_
        refine T_sub [(0, .slice a xs.length cap), (1, .slice b y.length capb), (5, .slice fa4 fl4.length fc4), (6, .slice ar5 ((l2).length) cr5), (9, .slice none 0 0), (10, .bool false), (96, .slice (some ⟨B31, 0, none⟩) 2 2), (97, .int .i64 2), (136, .slice none 0 0), (137, .int .i64 0), (138, .int .i64 0), (139, .bool false), (148, .int .i64 1), (98, .int .i64 1), (99, .bool true), (100, .pointer (some ⟨B31, 1, none⟩)), (101, .slice none 0 0), (16, .slice none 0 0), (103, .slice none 0 0), (104, .tuple #[.slice va33 vl33.length vc33, .slice ma33 ml33.length mc33, .int .i64 ((sizeV [] : Nat) : Int)]), (102, .tuple #[.slice va33 vl33.length vc33, .slice ma33 ml33.length mc33, .int .i64 ((sizeV [] : Nat) : Int)]), (105, .slice va33 vl33.length vc33), (106, .slice ma33 ml33.length mc33), (107, .int .i64 ((sizeV [] : Nat) : Int)), (19, .int .i64 ((sizeV [] : Nat) : Int)), (109, .slice none 0 0), (110, .slice fa4 fl4.length fc4), (111, .tuple #[.slice none 0 0, .int .i64 3]), (108, .tuple #[.slice none 0 0, .int .i64 3]), (112, .slice none 0 0), (113, .int .i64 3), (20, .slice none 0 0), (21, .int .i64 3), (115, .int .i64 ((sizeV [] : Nat) : Int)), (116, .slice none 0 0), (117, .int .i64 0), (118, .bool false), (114, .bool false), (120, .bool false), (121, .bool true), (119, .bool true), (22, .int .i64 3), (23, .slice none 0 0), (122, .int .i64 3), (123, .bool false), (127, .int .i64 3), (128, .int .i64 3), (129, .bool false), (130, .bool false), (131, .slice none 0 0), (132, .slice none 0 0), (133, .bool true), (134, .bool false), (135, .bool false)] [(963, .row (.slice va33 vl33.length vc33) 34 1 vl33.length (vl33.flatMap RowG.cells)), (964, .rows vl33), (965, .row (.slice ma33 ml33.length mc33) 3 1 ml33.length (ml33.flatMap nic)), (3, .row (.slice ar5 ((l2).length) cr5) 5 1 ((l2).length) ((l2).flatMap byc)), (1, .row (.slice fa4 fl4.length fc4) 34 1 fl4.length (fl4.flatMap RowG.cells)), (2, .pool 5 1 byc fl4), (21, .blk B31 (.cells #[.slice ar5 ((l2).length) cr5, .slice none 0 0] 34))] (sub_cons rfl (sub_cons rfl (sub_cons rfl (sub_cons rfl (sub_cons rfl (sub_cons rfl (sub_cons rfl (sub_cons rfl (sub_cons rfl (sub_cons rfl (sub_cons rfl (sub_cons rfl (sub_cons rfl (sub_cons rfl (sub_cons rfl (sub_cons rfl (sub_cons rfl (sub_cons rfl (sub_cons rfl (sub_cons rfl (sub_cons rfl (sub_cons rfl (sub_cons rfl (sub_cons rfl (sub_cons rfl (sub_cons rfl (sub_cons rfl (sub_cons rfl (sub_cons rfl (sub_cons rfl (sub_cons rfl (sub_cons rfl (sub_cons rfl (sub_cons rfl (sub_cons rfl (sub_cons rfl (sub_cons rfl (sub_cons rfl (sub_cons rfl (sub_cons rfl (sub_cons rfl (sub_cons rfl (sub_cons rfl (sub_cons rfl (sub_cons rfl (sub_cons rfl (sub_cons rfl (sub_cons rfl (sub_cons rfl (sub_cons rfl (sub_cons rfl (sub_cons rfl (sub_cons rfl (sub_cons rfl sub_nil)))))))))))))))))))))))))))))))))))))))))))))))))))))) (sub_cons rfl (sub_cons rfl (sub_cons rfl (sub_cons rfl (sub_cons rfl (sub_cons rfl (sub_cons rfl sub_nil))))))) ?_
        refine T_cond_f rfl ?_
        refine T_skip' ?_
        refine p_seq ?_
        refine T_seq (T_region ?_)
        refine TL_q (.slice none 0 0) (fun _ _ hρ _ => r_move (hρ _ _ rfl)) rfl rfl rfl (w_n rfl) ?_
        refine TL_q (.int .i64 0) (fun _ _ hρ _ => r_len sl34 (hρ _ _ rfl)) rfl rfl rfl (w_n rfl) ?_
        refine TL_q (.int .i64 0) (fun _ _ hρ _ => r_move (hρ _ _ rfl)) rfl rfl rfl (w_n rfl) ?_
        refine TL_seq ?_
        refine T_block ?_
        refine T_rounds 1 ?_
        refine TR_succ ?_
        refine T_seq (T_region ?_)
        refine TL_q (.bool false) (fun _ _ hρ _ => r_as (r_lss (hρ _ _ rfl) (hρ _ _ rfl)) (by rfl)) rfl rfl rfl (w_n rfl) ?_
        refine TL_seq ?_
        refine T_seq ?_
        refine T_cond_f rfl ?_
        refine T_exit' ?_
        refine p_then_x ?_
        refine p_then_x ?_
        refine p_blk_x ?_
        refine p_blk_n ?_
        refine p_seq ?_
        refine T_region ?_
        refine TL_q (.int .i64 2) (fun _ _ hρ _ => r_as (r_add (hρ _ _ rfl) (hρ _ _ rfl)) (by rfl)) rfl rfl rfl (w_n rfl) ?_
        refine TL_q (.int .i64 2) (fun _ _ hρ _ => r_move (hρ _ _ rfl)) rfl rfl rfl (w_n rfl) ?_
        refine TL_nil ?_
        refine p_round ?_
        refine TR_succ ?_
        refine T_seq (T_region ?_)
        refine TL_q (.bool false) (fun _ _ hρ _ => r_as (r_lss (hρ _ _ rfl) (hρ _ _ rfl)) (by rfl)) rfl rfl rfl (w_n rfl) ?_
        refine TL_seq ?_
        refine T_seq ?_
        refine T_cond_f rfl ?_
        refine T_exit' ?_
        refine p_then_x ?_
        refine p_then_x ?_
        refine p_blk_x ?_
        refine p_seq ?_
        refine T_seq (T_region ?_)
        refine TL_q (.slice fa4 fl4.length fc4) (fun _ _ hρ _ => r_move (hρ _ _ rfl)) rfl rfl rfl (w_n rfl) ?_
        refine TL_q (.slice a xs.length cap) (fun _ _ hρ _ => r_move (hρ _ _ rfl)) rfl rfl rfl (w_n rfl) ?_
        refine TL_callN (fun ((fa34, fc34, fl34) : Option Addr × Nat × List (RowG By)) => rls fl34 = fewR (rls xs)) (fun (fa34, fc34, fl34) => .slice fa34 fl34.length fc34) (fun (fa34, fc34, fl34) => [(22, .row (.slice fa34 fl34.length fc34) 34 1 fl34.length (fl34.flatMap RowG.cells)), (23, .pool 5 1 byc fl34)]) (fun _ _ hρ _ => r_call (args := [.slice a xs.length cap]) (enters_of Try.func36 (by kernel_rfl) rfl) (hρ _ _ rfl) ((cons2 (hρ _ _ rfl) rfl)) rfl) (fun w hm => (fewr_c xs a cap w (hv.keep hm.ext) hcap (hx.keep hm.ext)).mono fun e w' ⟨n, hf, he, hb, r1, r2, hs⟩ => ⟨(n.a, n.cap, n.l), hf, he, hb, newOk2 22 23 r1 r2 hs⟩) rfl rfl rfl (w_n rfl) ?_
        rintro ⟨fa34, fc34, fl34⟩ hfw34
        refine TL_call (.bool true) (fun _ _ hρ _ => r_call (args := [.slice fa4 fl4.length fc4, .slice fa34 fl34.length fc34]) (enters_of Try.func45 (by kernel_rfl) rfl) (hρ _ _ rfl) ((cons2 (hρ _ _ rfl) (cons2 (hρ _ _ rfl) rfl))) rfl) (fun w hm => (same_c fl4 fa4 fc4 fl34 fa34 fc34 w (SliceAt.own RowG.cells_len (hm.row 1 rfl) rfl rfl) (row_cap (hm.row 1 rfl)) (fun r hr => ⟨poolAt byc_len (hm.pool 2 rfl) hr, poolCap (hm.pool 2 rfl) hr⟩) (fun r hr => Nat.le_trans (rls_le hfw4 (fewR_le _) r hr) (by decide)) (SliceAt.own RowG.cells_len (hm.row 22 rfl) rfl rfl) (row_cap (hm.row 22 rfl)) (fun r hr => ⟨poolAt byc_len (hm.pool 23 rfl) hr, poolCap (hm.pool 23 rfl) hr⟩) (fun r hr => Nat.le_trans (rls_le hfw34 (fewR_le _) r hr) (by decide))).mono fun _ _ h => ⟨h.1.trans (congrArg Ending.returned (bool_as (decide_eq_true (hfw4.trans hfw34.symm)))), h.2⟩) rfl rfl rfl (w_n rfl) ?_
        refine TL_q (.bool true) (fun _ _ hρ _ => r_move (hρ _ _ rfl)) rfl rfl rfl (w_n rfl) ?_
        refine TL_q (.slice ar5 ((l2).length) cr5) (fun _ _ hρ _ => r_move (hρ _ _ rfl)) rfl rfl rfl (want_y 153 rfl rfl rfl) ?_
        refine TL_q (.slice b y.length capb) (fun _ _ hρ _ => r_move (hρ _ _ rfl)) rfl rfl rfl (want_y 153 rfl rfl rfl) ?_
        refine TL_q (.slice ar5 ((l2).length) cr5) (fun _ _ hρ _ => r_move (hρ _ _ rfl)) rfl rfl rfl (want_y 153 rfl rfl rfl) ?_
        refine TL_q (.int .i64 (((l2).length : Nat) : Int)) (fun _ _ hρ _ => r_len sl34 (hρ _ _ rfl)) rfl rfl rfl (want_y 153 rfl rfl rfl) ?_
        obtain ⟨l35, hl35, hn35⟩ : ∃ lz, lz = y.take ((l2).length) ∧ lz.length = (l2).length := ⟨_, rfl, by rw [List.length_take]; omega⟩
        have hs35 := SliceAt.front hu (n := (l2).length) (m := capb) (by omega) (by omega) (by omega)
        rw [← hl35] at hs35
        refine TL_q (.slice b l35.length capb) (fun ρ _ hρ _ => r_as (r_sliceO sl34 sz5 (hρ _ _ rfl) (bd_none ρ _) (bd_some (n := (l2).length) (hρ _ _ rfl)) (bd_none ρ _) (by simp) (by omega) (by omega) (by omega)) (by rw [hn35]; exact slo_zero _ _ _ _)) rfl rfl rfl (want_y 153 rfl rfl rfl) ?_
        refine TL_call (.bool true) (fun _ _ hρ _ => r_call (args := [.slice ar5 ((l2).length) cr5, .slice b l35.length capb]) (enters_of Try.func16 (by kernel_rfl) rfl) (hρ _ _ rfl) ((cons2 (hρ _ _ rfl) (cons2 (hρ _ _ rfl) rfl))) rfl) (fun w hm => (equal_b l2 l35 ar5 b cr5 capb w (SliceAt.own byc_len (hm.row 3 rfl) rfl rfl) (hs35.keep hm.ext) (by first | omega | (rw [List.length_append]; omega)) (by first | omega | (rw [List.length_append]; omega))).mono fun _ _ h => ⟨h.1.trans (congrArg Ending.returned (bool_as (decide_eq_true (by rw [hl35, hn2, hl2])))), h.2⟩) rfl rfl rfl (want_y 153 rfl rfl rfl) ?_
        refine TL_q (.bool true) (fun _ _ hρ _ => r_pick_t (hρ _ _ rfl) (hρ _ _ rfl)) rfl rfl rfl (w_n rfl) ?_
        refine TL_q (.bool true) (fun _ _ hρ _ => r_assign (hρ _ _ rfl)) rfl rfl rfl (w_n rfl) ?_
        refine TL_seq ?_
        refine T_ret' ?_
        refine ret_of rfl (.bool true) (fun tmps w hk hm => res1 rfl (res_tmp (hk 4 _ rfl))) (fun w hm => ?_)
        exact ⟨rfl, hm.ext⟩
      · skip
        refine T_seq (T_region ?_)
        refine TL_q (.slice ar5 ((l2).length) cr5) (fun _ _ hρ _ => r_move (hρ _ _ rfl)) rfl rfl rfl (w_n rfl) ?_
        refine TL_q (.slice fa4 fl4.length fc4) (fun _ _ hρ _ => r_move (hρ _ _ rfl)) rfl rfl rfl (w_n rfl) ?_
        refine TL_call (.tuple #[.slice none 0 0, .int .i64 2]) (fun _ _ hρ _ => r_call (args := [.slice ar5 ((l2).length) cr5, .slice fa4 fl4.length fc4]) (enters_of Try.func43 (by kernel_rfl) rfl) (hρ _ _ rfl) ((cons2 (hρ _ _ rfl) (cons2 (hρ _ _ rfl) rfl))) rfl) (fun w hm => app_arg l2 ar5 cr5 w (SliceAt.own byc_len (hm.row 3 rfl) rfl rfl) (row_cap (hm.row 3 rfl)) fl4 fa4 fc4 (SliceAt.own RowG.cells_len (hm.row 1 rfl) rfl rfl) (row_cap (hm.row 1 rfl)) (fun r hr => ⟨poolAt byc_len (hm.pool 2 rfl) hr, poolCap (hm.pool 2 rfl) hr⟩) (by omega) (by omega) hwy) rfl rfl rfl (w_n rfl) ?_
        refine TL_q (.tuple #[.slice none 0 0, .int .i64 2]) (fun _ _ hρ _ => r_move (hρ _ _ rfl)) rfl rfl rfl (w_n rfl) ?_
        refine TL_q (.slice none 0 0) (fun _ _ hρ _ => r_extract (hρ _ _ rfl) rfl) rfl rfl rfl (w_n rfl) ?_
        refine TL_q (.int .i64 2) (fun _ _ hρ _ => r_extract (hρ _ _ rfl) rfl) rfl rfl rfl (w_n rfl) ?_
        refine TL_q (.slice none 0 0) (fun _ _ hρ _ => r_assign (hρ _ _ rfl)) rfl rfl rfl (w_n rfl) ?_
        refine TL_q (.int .i64 2) (fun _ _ hρ _ => r_assign (hρ _ _ rfl)) rfl rfl rfl (w_n rfl) ?_
        refine TL_seq ?_
        refine T_seq (T_region ?_)
        refine TL_q (.int .i64 0) (fun _ _ hρ _ => r_assign (hρ _ _ rfl)) rfl rfl rfl (w_n rfl) ?_
        refine TL_seq ?_
        refine T_seq ?_
        refine T_block ?_
        refine T_seq (T_region ?_)
        refine TL_q (.int .i64 ((sizeV l2 : Nat) : Int)) (fun _ _ hρ _ => r_move (hρ _ _ rfl)) rfl rfl rfl (w_n rfl) ?_
        refine TL_q (.slice ar5 ((l2).length) cr5) (fun _ _ hρ _ => r_move (hρ _ _ rfl)) rfl rfl rfl (w_n rfl) ?_
        refine TL_q (.int .i64 (((l2).length : Nat) : Int)) (fun _ _ hρ _ => r_len sl34 (hρ _ _ rfl)) rfl rfl rfl (w_n rfl) ?_
        refine TL_q (.bool true) (fun _ _ hρ _ => r_as (r_neq (hρ _ _ rfl) (hρ _ _ rfl)) (bool_as (by rw [decide_eq_false (fun e => hwy (whyE_ok.2 (by omega)))]; rfl))) rfl rfl rfl (w_n rfl) ?_
        refine TL_q (.bool true) (fun _ _ hρ _ => r_assign (hρ _ _ rfl)) rfl rfl rfl (w_n rfl) ?_
        refine TL_seq ?_
        refine T_sub [(0, .slice a xs.length cap), (1, .slice b y.length capb), (5, .slice fa4 fl4.length fc4), (6, .slice ar5 ((l2).length) cr5), (9, .slice none 0 0), (10, .bool false), (96, .slice (some ⟨B31, 0, none⟩) 2 2), (97, .int .i64 2), (98, .int .i64 0), (99, .bool true), (100, .pointer (some ⟨B31, 0, none⟩)), (101, .slice ar5 ((l2).length) cr5), (16, .slice ar5 ((l2).length) cr5), (103, .slice ar5 ((l2).length) cr5), (104, .tuple #[.slice va32 vl32.length vc32, .slice ma32 ml32.length mc32, .int .i64 ((sizeV l2 : Nat) : Int)]), (102, .tuple #[.slice va32 vl32.length vc32, .slice ma32 ml32.length mc32, .int .i64 ((sizeV l2 : Nat) : Int)]), (105, .slice va32 vl32.length vc32), (106, .slice ma32 ml32.length mc32), (107, .int .i64 ((sizeV l2 : Nat) : Int)), (19, .int .i64 ((sizeV l2 : Nat) : Int)), (109, .slice ar5 ((l2).length) cr5), (110, .slice fa4 fl4.length fc4), (111, .tuple #[.slice none 0 0, .int .i64 2]), (108, .tuple #[.slice none 0 0, .int .i64 2]), (112, .slice none 0 0), (113, .int .i64 2), (20, .slice none 0 0), (21, .int .i64 2), (22, .int .i64 0), (115, .int .i64 ((sizeV l2 : Nat) : Int)), (116, .slice ar5 ((l2).length) cr5), (117, .int .i64 (((l2).length : Nat) : Int)), (118, .bool true), (114, .bool true)] [(963, .row (.slice va32 vl32.length vc32) 34 1 vl32.length (vl32.flatMap RowG.cells)), (964, .rows vl32), (965, .row (.slice ma32 ml32.length mc32) 3 1 ml32.length (ml32.flatMap nic)), (3, .row (.slice ar5 ((l2).length) cr5) 5 1 ((l2).length) ((l2).flatMap byc)), (1, .row (.slice fa4 fl4.length fc4) 34 1 fl4.length (fl4.flatMap RowG.cells)), (2, .pool 5 1 byc fl4), (21, .blk B31 (.cells #[.slice ar5 ((l2).length) cr5, .slice none 0 0] 34))] (sub_cons rfl (sub_cons rfl (sub_cons rfl (sub_cons rfl (sub_cons rfl (sub_cons rfl (sub_cons rfl (sub_cons rfl (sub_cons rfl (sub_cons rfl (sub_cons rfl (sub_cons rfl (sub_cons rfl (sub_cons rfl (sub_cons rfl (sub_cons rfl (sub_cons rfl (sub_cons rfl (sub_cons rfl (sub_cons rfl (sub_cons rfl (sub_cons rfl (sub_cons rfl (sub_cons rfl (sub_cons rfl (sub_cons rfl (sub_cons rfl (sub_cons rfl (sub_cons rfl (sub_cons rfl (sub_cons rfl (sub_cons rfl (sub_cons rfl (sub_cons rfl sub_nil)))))))))))))))))))))))))))))))))) (sub_cons rfl (sub_cons rfl (sub_cons rfl (sub_cons rfl (sub_cons rfl (sub_cons rfl (sub_cons rfl sub_nil))))))) ?_
        refine T_cond_t rfl ?_
        refine T_region ?_
        refine TL_q (.int .i64 2) (fun _ _ hρ _ => r_assign (hρ _ _ rfl)) rfl rfl rfl (w_n rfl) ?_
        refine TL_nil ?_
        refine p_blk_n ?_
        refine p_seq ?_
        refine T_seq (T_region ?_)
        refine TL_q (.slice none 0 0) (fun _ _ hρ _ => r_assign (hρ _ _ rfl)) rfl rfl rfl (w_n rfl) ?_
        refine TL_seq ?_
        refine T_seq ?_
        refine T_seq (T_region ?_)
        refine TL_q (.int .i64 2) (fun _ _ hρ _ => r_move (hρ _ _ rfl)) rfl rfl rfl (w_n rfl) ?_
        refine TL_q (.bool false) (fun _ _ hρ _ => r_as (r_eql (hρ _ _ rfl) (hρ _ _ rfl)) (by rfl)) rfl rfl rfl (w_n rfl) ?_
        refine TL_seq ?_
        refine T_cond_f rfl ?_
        refine T_skip' ?_
        refine p_seq ?_
        refine T_seq ?_
        refine T_seq (T_region ?_)
        refine TL_q (.int .i64 2) (fun _ _ hρ _ => r_move (hρ _ _ rfl)) rfl rfl rfl (w_n rfl) ?_
        refine TL_q (.int .i64 2) (fun _ _ hρ _ => r_move (hρ _ _ rfl)) rfl rfl rfl (w_n rfl) ?_
        refine TL_q (.bool false) (fun _ _ hρ _ => r_as (r_neq (hρ _ _ rfl) (hρ _ _ rfl)) (by rfl)) rfl rfl rfl (w_n rfl) ?_
        refine TL_q (.bool false) (fun _ _ hρ _ => r_move (hρ _ _ rfl)) rfl rfl rfl (w_n rfl) ?_
        refine TL_q (.slice none 0 0) (fun _ _ hρ _ => r_move (hρ _ _ rfl)) rfl rfl rfl (want_y 130 rfl rfl rfl) ?_
        refine TL_q (.slice none 0 0) (fun _ _ hρ _ => r_move (hρ _ _ rfl)) rfl rfl rfl (want_y 130 rfl rfl rfl) ?_
        refine TL_call (.bool true) (fun _ _ hρ _ => r_call (args := [.slice none 0 0, .slice none 0 0]) (enters_of Try.func16 (by kernel_rfl) rfl) (hρ _ _ rfl) ((cons2 (hρ _ _ rfl) (cons2 (hρ _ _ rfl) rfl))) rfl) (fun w _ => (equal_b [] [] none none 0 0 w (sliceNil w) (sliceNil w) (Nat.le_of_ble_eq_true rfl) (Nat.le_of_ble_eq_true rfl)).mono fun _ _ h => ⟨h.1.trans (congrArg Ending.returned (bool_as (decide_eq_true rfl))), h.2⟩) rfl rfl rfl (want_y 130 rfl rfl rfl) ?_
        refine TL_q (.bool false) (fun _ _ hρ _ => r_not (b := true) (hρ _ _ rfl)) rfl rfl rfl (want_y 130 rfl rfl rfl) ?_
        refine TL_q (.bool false) (fun _ _ hρ _ => r_pick_f (hρ _ _ rfl) (hρ _ _ rfl)) rfl rfl rfl (w_n rfl) ?_
        refine TL_seq ?_
        refine T_cond_f rfl ?_
        refine T_skip' ?_
        refine p_seq ?_
        refine T_seq (T_region ?_)
        refine TL_q (.slice none 0 0) (fun _ _ hρ _ => r_move (hρ _ _ rfl)) rfl rfl rfl (w_n rfl) ?_
        refine TL_q (.int .i64 0) (fun _ _ hρ _ => r_len sl34 (hρ _ _ rfl)) rfl rfl rfl (w_n rfl) ?_
        refine TL_q (.int .i64 0) (fun _ _ hρ _ => r_move (hρ _ _ rfl)) rfl rfl rfl (w_n rfl) ?_
        refine TL_seq ?_
        refine T_block ?_
        refine T_rounds 1 ?_
        refine TR_succ ?_
        refine T_seq (T_region ?_)
        refine TL_q (.bool false) (fun _ _ hρ _ => r_as (r_lss (hρ _ _ rfl) (hρ _ _ rfl)) (by rfl)) rfl rfl rfl (w_n rfl) ?_
        refine TL_seq ?_
        refine T_seq ?_
        refine T_cond_f rfl ?_
        refine T_exit' ?_
        refine p_then_x ?_
        refine p_then_x ?_
        refine p_blk_x ?_
        refine p_blk_n ?_
        refine p_seq ?_
        refine T_region ?_
        refine TL_q (.int .i64 1) (fun _ _ hρ _ => r_as (r_add (hρ _ _ rfl) (hρ _ _ rfl)) (by rfl)) rfl rfl rfl (w_n rfl) ?_
        refine TL_q (.int .i64 1) (fun _ _ hρ _ => r_move (hρ _ _ rfl)) rfl rfl rfl (w_n rfl) ?_
        refine TL_nil ?_
        refine p_round ?_
        refine TR_succ ?_
        refine T_seq (T_region ?_)
        refine TL_q (.bool true) (fun _ _ hρ _ => r_as (r_lss (hρ _ _ rfl) (hρ _ _ rfl)) (by rfl)) rfl rfl rfl (w_n rfl) ?_
        refine TL_seq ?_
        refine T_seq ?_
        refine T_cond_t rfl ?_
        refine T_skip' ?_
        refine p_seq ?_
        refine T_seq ?_
        refine T_block ?_
        refine T_seq (T_region ?_)
        refine TL_q (.pointer (some ⟨B31, 1, none⟩)) (fun _ _ hρ _ => r_indexAddrS (i := 1) sl63 sz34 (hρ _ _ rfl) (hρ _ _ rfl) (by decide)) rfl rfl rfl (w_n rfl) ?_
        refine TL_q (.slice none 0 0) (fun _ _ hρ hm => r_load ag34 (hρ _ _ rfl) (hm.at 21 rfl) rfl) rfl rfl rfl (w_n rfl) ?_
        refine TL_q (.slice none 0 0) (fun _ _ hρ _ => r_assign (hρ _ _ rfl)) rfl rfl rfl (w_n rfl) ?_
        refine TL_seq ?_
        refine T_seq (T_region ?_)
        refine TL_q (.slice none 0 0) (fun _ _ hρ _ => r_move (hρ _ _ rfl)) rfl rfl rfl (w_n rfl) ?_
        refine TL_callN (fun ((va36, vc36, vl36, ma36, mc36, ml36) : Option Addr × Nat × List (RowG By) × Option Addr × Nat × List Nat) => rls vl36 = heldsV [] ∧ ml36 = placesV []) (fun (va36, vc36, vl36, ma36, mc36, ml36) => .tuple #[.slice va36 vl36.length vc36, .slice ma36 ml36.length mc36, .int .i64 ((sizeV [] : Nat) : Int)]) (fun (va36, vc36, vl36, ma36, mc36, ml36) => [(963, .row (.slice va36 vl36.length vc36) 34 1 vl36.length (vl36.flatMap RowG.cells)), (964, .rows vl36), (965, .row (.slice ma36 ml36.length mc36) 3 1 ml36.length (ml36.flatMap nic))]) (fun _ _ hρ _ => r_call (args := [.slice none 0 0]) (enters_of Try.func42 (by kernel_rfl) rfl) (hρ _ _ rfl) ((cons2 (hρ _ _ rfl) rfl)) rfl) (fun w _ => (rscan_c [] none 0 w (sliceNil w) (by decide) (by decide)).mono fun e w' ⟨n, m, hf, hg, he, hb, hn⟩ => ⟨(n.a, n.cap, n.l, m.a, m.cap, m.l), ⟨hf, hg⟩, he, hb, hn⟩) rfl rfl rfl (w_n rfl) ?_
        rintro ⟨va36, vc36, vl36, ma36, mc36, ml36⟩ hrs36
        refine TL_q (.tuple #[.slice va36 vl36.length vc36, .slice ma36 ml36.length mc36, .int .i64 ((sizeV [] : Nat) : Int)]) (fun _ _ hρ _ => r_move (hρ _ _ rfl)) rfl rfl rfl (w_n rfl) ?_
        refine TL_q (.slice va36 vl36.length vc36) (fun _ _ hρ _ => r_extract (hρ _ _ rfl) rfl) rfl rfl rfl (w_n rfl) ?_
        refine TL_q (.slice ma36 ml36.length mc36) (fun _ _ hρ _ => r_extract (hρ _ _ rfl) rfl) rfl rfl rfl (w_n rfl) ?_
        refine TL_q (.int .i64 ((sizeV [] : Nat) : Int)) (fun _ _ hρ _ => r_extract (hρ _ _ rfl) rfl) rfl rfl rfl (w_n rfl) ?_
        refine TL_q (.slice va36 vl36.length vc36) (fun _ _ hρ _ => r_assign (hρ _ _ rfl)) rfl rfl rfl (w_n rfl) ?_
        refine TL_q (.slice ma36 ml36.length mc36) (fun _ _ hρ _ => r_assign (hρ _ _ rfl)) rfl rfl rfl (w_n rfl) ?_
        refine TL_q (.int .i64 ((sizeV [] : Nat) : Int)) (fun _ _ hρ _ => r_assign (hρ _ _ rfl)) rfl rfl rfl (w_n rfl) ?_
        refine TL_seq ?_
        refine T_sub [(0, .slice a xs.length cap), (1, .slice b y.length capb), (5, .slice fa4 fl4.length fc4), (6, .slice ar5 ((l2).length) cr5), (9, .slice none 0 0), (10, .bool false), (96, .slice (some ⟨B31, 0, none⟩) 2 2), (97, .int .i64 2), (109, .slice ar5 ((l2).length) cr5), (110, .slice fa4 fl4.length fc4), (111, .tuple #[.slice none 0 0, .int .i64 2]), (108, .tuple #[.slice none 0 0, .int .i64 2]), (112, .slice none 0 0), (113, .int .i64 2), (20, .slice none 0 0), (21, .int .i64 2), (115, .int .i64 ((sizeV l2 : Nat) : Int)), (116, .slice ar5 ((l2).length) cr5), (117, .int .i64 (((l2).length : Nat) : Int)), (118, .bool true), (114, .bool true), (22, .int .i64 2), (23, .slice none 0 0), (122, .int .i64 2), (123, .bool false), (127, .int .i64 2), (128, .int .i64 2), (129, .bool false), (130, .bool false), (131, .slice none 0 0), (132, .slice none 0 0), (133, .bool true), (134, .bool false), (135, .bool false), (136, .slice none 0 0), (137, .int .i64 0), (138, .int .i64 0), (139, .bool false), (148, .int .i64 1), (98, .int .i64 1), (99, .bool true), (100, .pointer (some ⟨B31, 1, none⟩)), (101, .slice none 0 0), (16, .slice none 0 0), (103, .slice none 0 0), (104, .tuple #[.slice va36 vl36.length vc36, .slice ma36 ml36.length mc36, .int .i64 ((sizeV [] : Nat) : Int)]), (102, .tuple #[.slice va36 vl36.length vc36, .slice ma36 ml36.length mc36, .int .i64 ((sizeV [] : Nat) : Int)]), (105, .slice va36 vl36.length vc36), (106, .slice ma36 ml36.length mc36), (107, .int .i64 ((sizeV [] : Nat) : Int)), (19, .int .i64 ((sizeV [] : Nat) : Int))] [(963, .row (.slice va36 vl36.length vc36) 34 1 vl36.length (vl36.flatMap RowG.cells)), (964, .rows vl36), (965, .row (.slice ma36 ml36.length mc36) 3 1 ml36.length (ml36.flatMap nic)), (3, .row (.slice ar5 ((l2).length) cr5) 5 1 ((l2).length) ((l2).flatMap byc)), (1, .row (.slice fa4 fl4.length fc4) 34 1 fl4.length (fl4.flatMap RowG.cells)), (2, .pool 5 1 byc fl4), (21, .blk B31 (.cells #[.slice ar5 ((l2).length) cr5, .slice none 0 0] 34))] (sub_cons rfl (sub_cons rfl (sub_cons rfl (sub_cons rfl (sub_cons rfl (sub_cons rfl (sub_cons rfl (sub_cons rfl (sub_cons rfl (sub_cons rfl (sub_cons rfl (sub_cons rfl (sub_cons rfl (sub_cons rfl (sub_cons rfl (sub_cons rfl (sub_cons rfl (sub_cons rfl (sub_cons rfl (sub_cons rfl (sub_cons rfl (sub_cons rfl (sub_cons rfl (sub_cons rfl (sub_cons rfl (sub_cons rfl (sub_cons rfl (sub_cons rfl (sub_cons rfl (sub_cons rfl (sub_cons rfl (sub_cons rfl (sub_cons rfl (sub_cons rfl (sub_cons rfl (sub_cons rfl (sub_cons rfl (sub_cons rfl (sub_cons rfl (sub_cons rfl (sub_cons rfl (sub_cons rfl (sub_cons rfl (sub_cons rfl (sub_cons rfl (sub_cons rfl (sub_cons rfl (sub_cons rfl (sub_cons rfl (sub_cons rfl (sub_cons rfl sub_nil))))))))))))))))))))))))))))))))))))))))))))))))))) (sub_cons rfl (sub_cons rfl (sub_cons rfl (sub_cons rfl (sub_cons rfl (sub_cons rfl (sub_cons rfl sub_nil))))))) ?_
        refine T_seq (T_region ?_)
        refine TL_q (.slice none 0 0) (fun _ _ hρ _ => r_move (hρ _ _ rfl)) rfl rfl rfl (w_n rfl) ?_
        refine TL_q (.slice fa4 fl4.length fc4) (fun _ _ hρ _ => r_move (hρ _ _ rfl)) rfl rfl rfl (w_n rfl) ?_
        refine TL_call (.tuple #[.slice none 0 0, .int .i64 3]) (fun _ _ hρ _ => r_call (args := [.slice none 0 0, .slice fa4 fl4.length fc4]) (enters_of Try.func43 (by kernel_rfl) rfl) (hρ _ _ rfl) ((cons2 (hρ _ _ rfl) (cons2 (hρ _ _ rfl) rfl))) rfl) (fun w hm => app_long [] none 0 w (sliceNil w) (by decide) fl4 fa4 fc4 (SliceAt.own RowG.cells_len (hm.row 1 rfl) rfl rfl) (row_cap (hm.row 1 rfl)) (fun r hr => ⟨poolAt byc_len (hm.pool 2 rfl) hr, poolCap (hm.pool 2 rfl) hr⟩) (by decide) (by omega) hJw h65) rfl rfl rfl (w_n rfl) ?_
        refine TL_q (.tuple #[.slice none 0 0, .int .i64 3]) (fun _ _ hρ _ => r_move (hρ _ _ rfl)) rfl rfl rfl (w_n rfl) ?_
        refine TL_q (.slice none 0 0) (fun _ _ hρ _ => r_extract (hρ _ _ rfl) rfl) rfl rfl rfl (w_n rfl) ?_
        refine TL_q (.int .i64 3) (fun _ _ hρ _ => r_extract (hρ _ _ rfl) rfl) rfl rfl rfl (w_n rfl) ?_
        refine TL_q (.slice none 0 0) (fun _ _ hρ _ => r_assign (hρ _ _ rfl)) rfl rfl rfl (w_n rfl) ?_
        refine TL_q (.int .i64 3) (fun _ _ hρ _ => r_assign (hρ _ _ rfl)) rfl rfl rfl (w_n rfl) ?_
        refine TL_seq ?_
        refine T_seq (T_region ?_)
        refine TL_q (.int .i64 0) (fun _ _ hρ _ => r_assign (hρ _ _ rfl)) rfl rfl rfl (w_n rfl) ?_
        refine TL_seq ?_
        refine T_seq ?_
        refine T_block ?_
        refine T_seq (T_region ?_)
        refine TL_q (.int .i64 ((sizeV [] : Nat) : Int)) (fun _ _ hρ _ => r_move (hρ _ _ rfl)) rfl rfl rfl (w_n rfl) ?_
        refine TL_q (.slice none 0 0) (fun _ _ hρ _ => r_move (hρ _ _ rfl)) rfl rfl rfl (w_n rfl) ?_
        refine TL_q (.int .i64 0) (fun _ _ hρ _ => r_len sl34 (hρ _ _ rfl)) rfl rfl rfl (w_n rfl) ?_
        refine TL_q (.bool false) (fun _ _ hρ _ => r_as (r_neq (hρ _ _ rfl) (hρ _ _ rfl)) (bool_as (by rw [decide_eq_true (show ((sizeV [] : Nat) : Int) = 0 by decide)]; rfl))) rfl rfl rfl (w_n rfl) ?_
        refine TL_q (.bool false) (fun _ _ hρ _ => r_assign (hρ _ _ rfl)) rfl rfl rfl (w_n rfl) ?_
        refine TL_seq ?_
        refine T_cond_f rfl ?_
        refine T_seq (T_region ?_)
        refine TL_q (.bool false) (fun _ _ hρ _ => r_move (hρ _ _ rfl)) rfl rfl rfl (w_n rfl) ?_
        refine TL_q (.bool true) (fun _ _ hρ _ => r_not (b := false) (hρ _ _ rfl)) rfl rfl rfl (w_n rfl) ?_
        refine TL_q (.bool true) (fun _ _ hρ _ => r_assign (hρ _ _ rfl)) rfl rfl rfl (w_n rfl) ?_
        refine TL_seq ?_
        refine T_cond_t rfl ?_
        refine T_region ?_
        refine TL_q (.int .i64 3) (fun _ _ hρ _ => r_assign (hρ _ _ rfl)) rfl rfl rfl (w_n rfl) ?_
        refine TL_nil ?_
        refine p_blk_n ?_
        refine p_seq ?_
        refine T_seq (T_region ?_)
        refine TL_q (.slice none 0 0) (fun _ _ hρ _ => r_assign (hρ _ _ rfl)) rfl rfl rfl (w_n rfl) ?_
        refine TL_seq ?_
        refine T_seq ?_
        refine T_seq (T_region ?_)
        refine TL_q (.int .i64 3) (fun _ _ hρ _ => r_move (hρ _ _ rfl)) rfl rfl rfl (w_n rfl) ?_
        refine TL_q (.bool false) (fun _ _ hρ _ => r_as (r_eql (hρ _ _ rfl) (hρ _ _ rfl)) (by rfl)) rfl rfl rfl (w_n rfl) ?_
        refine TL_seq ?_
        refine T_cond_f rfl ?_
        refine T_skip' ?_
        refine p_seq ?_
        refine T_seq ?_
        refine T_seq (T_region ?_)
        refine TL_q (.int .i64 3) (fun _ _ hρ _ => r_move (hρ _ _ rfl)) rfl rfl rfl (w_n rfl) ?_
        refine TL_q (.int .i64 3) (fun _ _ hρ _ => r_move (hρ _ _ rfl)) rfl rfl rfl (w_n rfl) ?_
        refine TL_q (.bool false) (fun _ _ hρ _ => r_as (r_neq (hρ _ _ rfl) (hρ _ _ rfl)) (by rfl)) rfl rfl rfl (w_n rfl) ?_
        refine TL_q (.bool false) (fun _ _ hρ _ => r_move (hρ _ _ rfl)) rfl rfl rfl (w_n rfl) ?_
        refine TL_q (.slice none 0 0) (fun _ _ hρ _ => r_move (hρ _ _ rfl)) rfl rfl rfl (want_y 130 rfl rfl rfl) ?_
        refine TL_q (.slice none 0 0) (fun _ _ hρ _ => r_move (hρ _ _ rfl)) rfl rfl rfl (want_y 130 rfl rfl rfl) ?_
        refine TL_call (.bool true) (fun _ _ hρ _ => r_call (args := [.slice none 0 0, .slice none 0 0]) (enters_of Try.func16 (by kernel_rfl) rfl) (hρ _ _ rfl) ((cons2 (hρ _ _ rfl) (cons2 (hρ _ _ rfl) rfl))) rfl) (fun w _ => (equal_b [] [] none none 0 0 w (sliceNil w) (sliceNil w) (Nat.le_of_ble_eq_true rfl) (Nat.le_of_ble_eq_true rfl)).mono fun _ _ h => ⟨h.1.trans (congrArg Ending.returned (bool_as (decide_eq_true rfl))), h.2⟩) rfl rfl rfl (want_y 130 rfl rfl rfl) ?_
        refine TL_q (.bool false) (fun _ _ hρ _ => r_not (b := true) (hρ _ _ rfl)) rfl rfl rfl (want_y 130 rfl rfl rfl) ?_
        refine TL_q (.bool false) (fun _ _ hρ _ => r_pick_f (hρ _ _ rfl) (hρ _ _ rfl)) rfl rfl rfl (w_n rfl) ?_
        refine TL_seq ?_
        refine T_sub [(0, .slice a xs.length cap), (1, .slice b y.length capb), (5, .slice fa4 fl4.length fc4), (6, .slice ar5 ((l2).length) cr5), (9, .slice none 0 0), (10, .bool false), (96, .slice (some ⟨B31, 0, none⟩) 2 2), (97, .int .i64 2), (136, .slice none 0 0), (137, .int .i64 0), (138, .int .i64 0), (139, .bool false), (148, .int .i64 1), (98, .int .i64 1), (99, .bool true), (100, .pointer (some ⟨B31, 1, none⟩)), (101, .slice none 0 0), (16, .slice none 0 0), (103, .slice none 0 0), (104, .tuple #[.slice va36 vl36.length vc36, .slice ma36 ml36.length mc36, .int .i64 ((sizeV [] : Nat) : Int)]), (102, .tuple #[.slice va36 vl36.length vc36, .slice ma36 ml36.length mc36, .int .i64 ((sizeV [] : Nat) : Int)]), (105, .slice va36 vl36.length vc36), (106, .slice ma36 ml36.length mc36), (107, .int .i64 ((sizeV [] : Nat) : Int)), (19, .int .i64 ((sizeV [] : Nat) : Int)), (109, .slice none 0 0), (110, .slice fa4 fl4.length fc4), (111, .tuple #[.slice none 0 0, .int .i64 3]), (108, .tuple #[.slice none 0 0, .int .i64 3]), (112, .slice none 0 0), (113, .int .i64 3), (20, .slice none 0 0), (21, .int .i64 3), (115, .int .i64 ((sizeV [] : Nat) : Int)), (116, .slice none 0 0), (117, .int .i64 0), (118, .bool false), (114, .bool false), (120, .bool false), (121, .bool true), (119, .bool true), (22, .int .i64 3), (23, .slice none 0 0), (122, .int .i64 3), (123, .bool false), (127, .int .i64 3), (128, .int .i64 3), (129, .bool false), (130, .bool false), (131, .slice none 0 0), (132, .slice none 0 0), (133, .bool true), (134, .bool false), (135, .bool false)] [(963, .row (.slice va36 vl36.length vc36) 34 1 vl36.length (vl36.flatMap RowG.cells)), (964, .rows vl36), (965, .row (.slice ma36 ml36.length mc36) 3 1 ml36.length (ml36.flatMap nic)), (3, .row (.slice ar5 ((l2).length) cr5) 5 1 ((l2).length) ((l2).flatMap byc)), (1, .row (.slice fa4 fl4.length fc4) 34 1 fl4.length (fl4.flatMap RowG.cells)), (2, .pool 5 1 byc fl4), (21, .blk B31 (.cells #[.slice ar5 ((l2).length) cr5, .slice none 0 0] 34))] (sub_cons rfl (sub_cons rfl (sub_cons rfl (sub_cons rfl (sub_cons rfl (sub_cons rfl (sub_cons rfl (sub_cons rfl (sub_cons rfl (sub_cons rfl (sub_cons rfl (sub_cons rfl (sub_cons rfl (sub_cons rfl (sub_cons rfl (sub_cons rfl (sub_cons rfl (sub_cons rfl (sub_cons rfl (sub_cons rfl (sub_cons rfl (sub_cons rfl (sub_cons rfl (sub_cons rfl (sub_cons rfl (sub_cons rfl (sub_cons rfl (sub_cons rfl (sub_cons rfl (sub_cons rfl (sub_cons rfl (sub_cons rfl (sub_cons rfl (sub_cons rfl (sub_cons rfl (sub_cons rfl (sub_cons rfl (sub_cons rfl (sub_cons rfl (sub_cons rfl (sub_cons rfl (sub_cons rfl (sub_cons rfl (sub_cons rfl (sub_cons rfl (sub_cons rfl (sub_cons rfl (sub_cons rfl (sub_cons rfl (sub_cons rfl (sub_cons rfl (sub_cons rfl (sub_cons rfl (sub_cons rfl sub_nil)))))))))))))))))))))))))))))))))))))))))))))))))))))) (sub_cons rfl (sub_cons rfl (sub_cons rfl (sub_cons rfl (sub_cons rfl (sub_cons rfl (sub_cons rfl sub_nil))))))) ?_
        refine T_cond_f rfl ?_
        refine T_skip' ?_
        refine p_seq ?_
        refine T_seq (T_region ?_)
        refine TL_q (.slice none 0 0) (fun _ _ hρ _ => r_move (hρ _ _ rfl)) rfl rfl rfl (w_n rfl) ?_
        refine TL_q (.int .i64 0) (fun _ _ hρ _ => r_len sl34 (hρ _ _ rfl)) rfl rfl rfl (w_n rfl) ?_
        refine TL_q (.int .i64 0) (fun _ _ hρ _ => r_move (hρ _ _ rfl)) rfl rfl rfl (w_n rfl) ?_
        refine TL_seq ?_
        refine T_block ?_
        refine T_rounds 1 ?_
        refine TR_succ ?_
        refine T_seq (T_region ?_)
        refine TL_q (.bool false) (fun _ _ hρ _ => r_as (r_lss (hρ _ _ rfl) (hρ _ _ rfl)) (by rfl)) rfl rfl rfl (w_n rfl) ?_
        refine TL_seq ?_
        refine T_seq ?_
        refine T_cond_f rfl ?_
        refine T_exit' ?_
        refine p_then_x ?_
        refine p_then_x ?_
        refine p_blk_x ?_
        refine p_blk_n ?_
        refine p_seq ?_
        refine T_region ?_
        refine TL_q (.int .i64 2) (fun _ _ hρ _ => r_as (r_add (hρ _ _ rfl) (hρ _ _ rfl)) (by rfl)) rfl rfl rfl (w_n rfl) ?_
        refine TL_q (.int .i64 2) (fun _ _ hρ _ => r_move (hρ _ _ rfl)) rfl rfl rfl (w_n rfl) ?_
        refine TL_nil ?_
        refine p_round ?_
        refine TR_succ ?_
        refine T_seq (T_region ?_)
        refine TL_q (.bool false) (fun _ _ hρ _ => r_as (r_lss (hρ _ _ rfl) (hρ _ _ rfl)) (by rfl)) rfl rfl rfl (w_n rfl) ?_
        refine TL_seq ?_
        refine T_seq ?_
        refine T_cond_f rfl ?_
        refine T_exit' ?_
        refine p_then_x ?_
        refine p_then_x ?_
        refine p_blk_x ?_
        refine p_seq ?_
        refine T_seq (T_region ?_)
        refine TL_q (.slice fa4 fl4.length fc4) (fun _ _ hρ _ => r_move (hρ _ _ rfl)) rfl rfl rfl (w_n rfl) ?_
        refine TL_q (.slice a xs.length cap) (fun _ _ hρ _ => r_move (hρ _ _ rfl)) rfl rfl rfl (w_n rfl) ?_
        refine TL_callN (fun ((fa37, fc37, fl37) : Option Addr × Nat × List (RowG By)) => rls fl37 = fewR (rls xs)) (fun (fa37, fc37, fl37) => .slice fa37 fl37.length fc37) (fun (fa37, fc37, fl37) => [(24, .row (.slice fa37 fl37.length fc37) 34 1 fl37.length (fl37.flatMap RowG.cells)), (25, .pool 5 1 byc fl37)]) (fun _ _ hρ _ => r_call (args := [.slice a xs.length cap]) (enters_of Try.func36 (by kernel_rfl) rfl) (hρ _ _ rfl) ((cons2 (hρ _ _ rfl) rfl)) rfl) (fun w hm => (fewr_c xs a cap w (hv.keep hm.ext) hcap (hx.keep hm.ext)).mono fun e w' ⟨n, hf, he, hb, r1, r2, hs⟩ => ⟨(n.a, n.cap, n.l), hf, he, hb, newOk2 24 25 r1 r2 hs⟩) rfl rfl rfl (w_n rfl) ?_
        rintro ⟨fa37, fc37, fl37⟩ hfw37
        refine TL_call (.bool true) (fun _ _ hρ _ => r_call (args := [.slice fa4 fl4.length fc4, .slice fa37 fl37.length fc37]) (enters_of Try.func45 (by kernel_rfl) rfl) (hρ _ _ rfl) ((cons2 (hρ _ _ rfl) (cons2 (hρ _ _ rfl) rfl))) rfl) (fun w hm => (same_c fl4 fa4 fc4 fl37 fa37 fc37 w (SliceAt.own RowG.cells_len (hm.row 1 rfl) rfl rfl) (row_cap (hm.row 1 rfl)) (fun r hr => ⟨poolAt byc_len (hm.pool 2 rfl) hr, poolCap (hm.pool 2 rfl) hr⟩) (fun r hr => Nat.le_trans (rls_le hfw4 (fewR_le _) r hr) (by decide)) (SliceAt.own RowG.cells_len (hm.row 24 rfl) rfl rfl) (row_cap (hm.row 24 rfl)) (fun r hr => ⟨poolAt byc_len (hm.pool 25 rfl) hr, poolCap (hm.pool 25 rfl) hr⟩) (fun r hr => Nat.le_trans (rls_le hfw37 (fewR_le _) r hr) (by decide))).mono fun _ _ h => ⟨h.1.trans (congrArg Ending.returned (bool_as (decide_eq_true (hfw4.trans hfw37.symm)))), h.2⟩) rfl rfl rfl (w_n rfl) ?_
        refine TL_q (.bool true) (fun _ _ hρ _ => r_move (hρ _ _ rfl)) rfl rfl rfl (w_n rfl) ?_
        refine TL_q (.slice ar5 ((l2).length) cr5) (fun _ _ hρ _ => r_move (hρ _ _ rfl)) rfl rfl rfl (want_y 153 rfl rfl rfl) ?_
        refine TL_q (.slice b y.length capb) (fun _ _ hρ _ => r_move (hρ _ _ rfl)) rfl rfl rfl (want_y 153 rfl rfl rfl) ?_
        refine TL_q (.slice ar5 ((l2).length) cr5) (fun _ _ hρ _ => r_move (hρ _ _ rfl)) rfl rfl rfl (want_y 153 rfl rfl rfl) ?_
        refine TL_q (.int .i64 (((l2).length : Nat) : Int)) (fun _ _ hρ _ => r_len sl34 (hρ _ _ rfl)) rfl rfl rfl (want_y 153 rfl rfl rfl) ?_
        obtain ⟨l38, hl38, hn38⟩ : ∃ lz, lz = y.take ((l2).length) ∧ lz.length = (l2).length := ⟨_, rfl, by rw [List.length_take]; omega⟩
        have hs38 := SliceAt.front hu (n := (l2).length) (m := capb) (by omega) (by omega) (by omega)
        rw [← hl38] at hs38
        refine TL_q (.slice b l38.length capb) (fun ρ _ hρ _ => r_as (r_sliceO sl34 sz5 (hρ _ _ rfl) (bd_none ρ _) (bd_some (n := (l2).length) (hρ _ _ rfl)) (bd_none ρ _) (by simp) (by omega) (by omega) (by omega)) (by rw [hn38]; exact slo_zero _ _ _ _)) rfl rfl rfl (want_y 153 rfl rfl rfl) ?_
        refine TL_call (.bool true) (fun _ _ hρ _ => r_call (args := [.slice ar5 ((l2).length) cr5, .slice b l38.length capb]) (enters_of Try.func16 (by kernel_rfl) rfl) (hρ _ _ rfl) ((cons2 (hρ _ _ rfl) (cons2 (hρ _ _ rfl) rfl))) rfl) (fun w hm => (equal_b l2 l38 ar5 b cr5 capb w (SliceAt.own byc_len (hm.row 3 rfl) rfl rfl) (hs38.keep hm.ext) (by first | omega | (rw [List.length_append]; omega)) (by first | omega | (rw [List.length_append]; omega))).mono fun _ _ h => ⟨h.1.trans (congrArg Ending.returned (bool_as (decide_eq_true (by rw [hl38, hn2, hl2])))), h.2⟩) rfl rfl rfl (want_y 153 rfl rfl rfl) ?_
        refine TL_q (.bool true) (fun _ _ hρ _ => r_pick_t (hρ _ _ rfl) (hρ _ _ rfl)) rfl rfl rfl (w_n rfl) ?_
        refine TL_q (.bool true) (fun _ _ hρ _ => r_assign (hρ _ _ rfl)) rfl rfl rfl (w_n rfl) ?_
        refine TL_seq ?_
        refine T_ret' ?_
        refine ret_of rfl (.bool true) (fun tmps w hk hm => res1 rfl (res_tmp (hk 4 _ rfl))) (fun w hm => ?_)
        exact ⟨rfl, hm.ext⟩
end Go.Proofs.Ytcidgbjgeegepaa
