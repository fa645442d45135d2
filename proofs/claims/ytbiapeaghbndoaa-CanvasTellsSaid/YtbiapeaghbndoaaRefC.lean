/- canvas: references: Differ, Kept; dots of one colour. Printed by a program of this seat's prover. -/
import Derived.Test.YtbiapeaghbndoaaRefB
namespace Go.Proofs.Ytbiapeaghbndoaa
open Go Go.RowKit
set_option maxRecDepth 10000
theorem kept_c (x y x2 y2 : Int) (ts : List T64) (a : Option Addr) (cap : Nat) (w : World) (hs : SliceAt w a cap 256 T64.cells ts) (hts : ts.length ≤ 64) (us : List T64) (b : Option Addr) (capb : Nat) (hu : SliceAt w b capb 256 T64.cells us) (hul : us.length = ts.length) : Calls Try.prog 21 #[.agg #[.int .i64 x, .int .i64 y, .slice a ts.length cap], .agg #[.int .i64 x2, .int .i64 y2, .slice b us.length capb]] w fun e w' => e = .returned (.int .i64 ((shN ts us ts.length : Nat) : Int)) ∧ Below w.heap.size w w' := by
  refine calls_of_T (l := [.agg #[.int .i64 x, .int .i64 y, .slice a ts.length cap], .agg #[.int .i64 x2, .int .i64 y2, .slice b us.length capb]]) 27 Try.func21 rfl rfl rfl ?_
  show T _ _ _ [(0, .agg #[.int .i64 x, .int .i64 y, .slice a ts.length cap]), (1, .agg #[.int .i64 x2, .int .i64 y2, .slice b us.length capb])] []
  refine T_seq (T_region ?_)
  refine TL_new 1 (.cells #[.int .i64 x, .int .i64 y, .slice a ts.length cap] 24) (fun B => .pointer (some ⟨B, 0, none⟩)) (fun _ _ hρ _ => r_box (hρ _ _ rfl) rfl) rfl rfl rfl (w_n rfl) ?_
  intro B1
  refine TL_new 2 (.cells #[.int .i64 x2, .int .i64 y2, .slice b us.length capb] 24) (fun B => .pointer (some ⟨B, 0, none⟩)) (fun _ _ hρ _ => r_box (hρ _ _ rfl) rfl) rfl rfl rfl (w_n rfl) ?_
  intro B2
  refine TL_q (.int .i64 0) (fun _ _ hρ _ => r_assign (hρ _ _ rfl)) rfl rfl rfl (w_n rfl) ?_
  refine TL_seq ?_
  refine T_seq (T_region ?_)
  refine TL_q (.int .i64 0) (fun _ _ hρ _ => r_assign (hρ _ _ rfl)) rfl rfl rfl (w_n rfl) ?_
  refine TL_seq ?_
  refine T_seq ?_
  refine T_seq (T_region ?_)
  refine TL_q (.pointer (some ⟨B1, 2, none⟩)) (fun _ _ hρ _ => r_fieldAddr fl24_2 sz22 (hρ _ _ rfl)) rfl rfl rfl (w_n rfl) ?_
  refine TL_q (.slice a ts.length cap) (fun _ _ hρ hm => r_load ag22 (hρ _ _ rfl) (hm.at 1 rfl) rfl) rfl rfl rfl (w_n rfl) ?_
  refine TL_q (.int .i64 ((ts.length : Nat) : Int)) (fun _ _ hρ _ => r_len sl22 (hρ _ _ rfl)) rfl rfl rfl (w_n rfl) ?_
  refine TL_q (.int .i64 0) (fun _ _ hρ _ => r_move (hρ _ _ rfl)) rfl rfl rfl (w_n rfl) ?_
  refine TL_seq ?_
  refine T_block ?_
  refine T_loop (ι := Nat) (fun (k : Nat) => k ≤ ts.length) (fun (k : Nat) => [(3, .pointer (some ⟨B2, 0, none⟩)), (4, .int .i64 0), (9, .slice a ts.length cap), (10, .int .i64 ((ts.length : Nat) : Int)), (11, .int .i64 ((k : Nat) : Int)), (5, .int .i64 ((shN ts us k : Nat) : Int))]) (fun (k : Nat) => [(1, .blk B1 (.cells #[.int .i64 x, .int .i64 y, .slice a ts.length cap] 24)), (2, .blk B2 (.cells #[.int .i64 x2, .int .i64 y2, .slice b us.length capb] 24))]) (fun (k : Nat) => ts.length - k) 0 (Nat.zero_le _) (sub_cons rfl (sub_cons rfl (sub_cons rfl (sub_cons rfl (sub_cons rfl (sub_cons rfl sub_nil)))))) (sub_cons rfl (sub_cons rfl sub_nil)) ?_
  rintro k hp
  have hsk := sh_le ts us k
  show T _ _ _ [(3, .pointer (some ⟨B2, 0, none⟩)), (4, .int .i64 0), (9, .slice a ts.length cap), (10, .int .i64 ((ts.length : Nat) : Int)), (11, .int .i64 ((k : Nat) : Int)), (5, .int .i64 ((shN ts us k : Nat) : Int))] [(1, .blk B1 (.cells #[.int .i64 x, .int .i64 y, .slice a ts.length cap] 24)), (2, .blk B2 (.cells #[.int .i64 x2, .int .i64 y2, .slice b us.length capb] 24))]
  refine T_seq (T_region ?_)
  refine TL_q (.bool (decide (((k : Nat) : Int) < ((ts.length : Nat) : Int)))) (fun _ _ hρ _ => r_lss (hρ _ _ rfl) (hρ _ _ rfl)) rfl rfl rfl (w_n rfl) ?_
  refine TL_seq ?_
  refine T_seq ?_
  refine T_cond rfl (fun h1 => ?_) (fun h1 => ?_)
  · replace h1 := of_decide_eq_true h1
    refine T_skip' ?_
    refine p_seq ?_
    refine T_seq ?_
    refine T_block ?_
    obtain ⟨t, ht⟩ : ∃ x, ts[k]? = some x := ⟨_, List.getElem?_eq_getElem (by omega)⟩
    obtain ⟨b3, of3, cs3, T3, fz3, ha3, hq3, hr3⟩ := hs.open (i := k) (by omega)
    subst ha3
    refine T_seq (T_region ?_)
    refine TL_q (.int .i64 ((k : Nat) : Int)) (fun _ _ hρ _ => r_move (hρ _ _ rfl)) rfl rfl rfl (w_n rfl) ?_
    refine TL_q (.pointer (some ⟨b3, of3 + k * 256, none⟩)) (fun _ _ hρ _ => r_indexAddrS (i := k) sl22 sz39 (hρ _ _ rfl) (hρ _ _ rfl) (by omega)) rfl rfl rfl (w_n rfl) ?_
    refine TL_q (.agg (lst C4.cells t.l)) (fun _ _ hρ hm => r_loadRow (f := T64.cells) (u := t) ag39 sz39 (hρ _ _ rfl) (hm.old hq3) hr3 ht) rfl rfl rfl (w_n rfl) ?_
    refine TL_new 3 (.cells (lst C4.cells zero64) 39) (fun B => .pointer (some ⟨B, 0, none⟩)) (fun _ _ _ _ => r_alloc (v := .agg (lst C4.cells zero64)) (by kernel_rfl) rfl) rfl rfl rfl (w_n rfl) ?_
    intro B4
    refine TL_q (.int .i64 ((k : Nat) : Int)) (fun _ _ hρ _ => r_assign (hρ _ _ rfl)) rfl rfl rfl (w_n rfl) ?_
    refine TL_store 3 (.cells (lst C4.cells t.l) 39) rfl (fun _ _ hρ hm => r_storeAll sz39 (hρ _ _ rfl) (hρ _ _ rfl) (hm.at 3 rfl) (tsz zero64_len) (tsz t.h) (lst_one C4.cells_all _)) rfl rfl (w_n rfl) ?_
    refine TL_seq ?_
    obtain ⟨t2, ht2⟩ : ∃ x, us[k]? = some x := ⟨_, List.getElem?_eq_getElem (by omega)⟩
    obtain ⟨b5, of5, cs5, T5, fz5, ha5, hq5, hr5⟩ := hu.open (i := k) (by omega)
    subst ha5
    refine T_seq (T_draw (V := [(0, .agg (lst C4.cells t.l)), (1, .pointer (some ⟨B2, 2, none⟩)), (2, .slice (some ⟨b5, of5, none⟩) us.length capb), (3, .int .i64 ((k : Nat) : Int)), (4, .pointer (some ⟨b5, of5 + k * 256, none⟩)), (5, .agg (lst C4.cells t2.l)), (6, .bool (decide (t = t2)))]) [0, 0, 2, 0, 14, 30, 63] [[(7, none)], [(3, none)], [(17, some 1)], [(6, none)], [(18, some 2), (19, some 3)], [(20, some 4)], [(16, some 0), (21, some 5)]] 0 mixed (by kernel_rfl) ?_)
    refine G_last [0, 1, 2, 3, 4, 5, 6] [(3, .pointer (some ⟨B2, 0, none⟩)), (4, .int .i64 0), (9, .slice (some ⟨b3, of3, none⟩) ts.length cap), (10, .int .i64 ((ts.length : Nat) : Int)), (11, .int .i64 ((k : Nat) : Int)), (5, .int .i64 ((shN ts us k : Nat) : Int)), (12, .bool (decide (((k : Nat) : Int) < ((ts.length : Nat) : Int)))), (13, .int .i64 ((k : Nat) : Int)), (14, .pointer (some ⟨b3, of3 + k * 256, none⟩)), (15, .agg (lst C4.cells t.l)), (7, .pointer (some ⟨B4, 0, none⟩)), (6, .int .i64 ((k : Nat) : Int)), (16, .agg (lst C4.cells t.l)), (17, .pointer (some ⟨B2, 2, none⟩)), (18, .slice (some ⟨b5, of5, none⟩) us.length capb), (19, .int .i64 ((k : Nat) : Int)), (20, .pointer (some ⟨b5, of5 + k * 256, none⟩)), (21, .agg (lst C4.cells t2.l)), (22, .bool (decide (t = t2)))] (by kernel_rfl) (allM (all_cons (q_run (.agg (lst C4.cells t.l)) rfl rfl (wv_n rfl) rfl (fun _ _ hρ hm => r_loadW ag39 sz39 (hρ _ _ rfl) (hm.at 3 rfl) (tsz t.h))) (all_cons (q_run (.pointer (some ⟨B2, 2, none⟩)) rfl rfl (wv_n rfl) rfl (fun _ _ hρ _ => r_fieldAddr fl24_2 sz22 (hρ _ _ rfl))) (all_cons (q_run (.slice (some ⟨b5, of5, none⟩) us.length capb) rfl rfl (wv_n rfl) rfl (fun _ _ hρ hm => r_load ag22 (hρ _ _ rfl) (hm.at 2 rfl) rfl)) (all_cons (q_run (.int .i64 ((k : Nat) : Int)) rfl rfl (wv_n rfl) rfl (fun _ _ hρ _ => r_move (hρ _ _ rfl))) (all_cons (q_run (.pointer (some ⟨b5, of5 + k * 256, none⟩)) rfl rfl (wv_n rfl) rfl (fun _ _ hρ _ => r_indexAddrS (i := k) sl22 sz39 (hρ _ _ rfl) (hρ _ _ rfl) (by omega))) (all_cons (q_run (.agg (lst C4.cells t2.l)) rfl rfl (wv_n rfl) rfl (fun _ _ hρ hm => r_loadRow (f := T64.cells) (u := t2) ag39 sz39 (hρ _ _ rfl) (hm.old hq5) hr5 ht2)) (all_cons (q_run (.bool (decide (t = t2))) rfl rfl (wv_n rfl) rfl (fun _ w hρ _ => r_as (r_eqlA (by kernel_rfl) (hρ _ _ rfl) (hρ _ _ rfl) (eq_t64 t t2 w)) (by rfl))) all_nil)))))))) (end_old rfl rfl (end_old rfl rfl (end_old rfl rfl (end_old rfl rfl (end_old rfl rfl (end_old rfl rfl (end_old rfl rfl (end_old rfl rfl (end_old rfl rfl (end_old rfl rfl (end_old rfl rfl (end_old rfl rfl (end_new 0 rfl rfl (end_new 1 rfl rfl (end_new 2 rfl rfl (end_new 3 rfl rfl (end_new 4 rfl rfl (end_new 5 rfl rfl (end_new 6 rfl rfl end_nil))))))))))))))))))) ?_
    refine T_cond rfl (fun h2 => ?_) (fun h2 => ?_)
    · replace h2 := of_decide_eq_true h2
      refine T_region ?_
      refine TL_q (.int .i64 ((shN ts us k : Nat) : Int)) (fun _ _ hρ _ => r_move (hρ _ _ rfl)) rfl rfl rfl (w_n rfl) ?_
      refine TL_q (.int .i64 ((shN ts us k + 1 : Nat) : Int)) (fun _ _ hρ _ => r_as (r_add (hρ _ _ rfl) (hρ _ _ rfl)) (int_as ((wrap64 (by omega) (by omega)).trans (by omega)))) rfl rfl rfl (w_n rfl) ?_
      refine TL_q (.int .i64 ((shN ts us k + 1 : Nat) : Int)) (fun _ _ hρ _ => r_assign (hρ _ _ rfl)) rfl rfl rfl (w_n rfl) ?_
      refine TL_nil ?_
      refine p_blk_n ?_
      refine p_seq ?_
      refine T_region ?_
      refine TL_q (.int .i64 ((k + 1 : Nat) : Int)) (fun _ _ hρ _ => r_as (r_add (hρ _ _ rfl) (hρ _ _ rfl)) (int_as ((wrap64 (by omega) (by omega)).trans (by omega)))) rfl rfl rfl (w_n rfl) ?_
      refine TL_q (.int .i64 ((k + 1 : Nat) : Int)) (fun _ _ hρ _ => r_move (hρ _ _ rfl)) rfl rfl rfl (w_n rfl) ?_
      refine TL_nil ?_
      rw [← sh_t ht ht2 h2]
      exact p_at (k + 1) ⟨by omega, by omega⟩ (sub_cons rfl (sub_cons rfl (sub_cons rfl (sub_cons rfl (sub_cons rfl (sub_cons rfl sub_nil)))))) (sub_cons rfl (sub_cons rfl sub_nil))
    · replace h2 := of_decide_eq_false h2
      refine T_skip' ?_
      refine p_blk_n ?_
      refine p_seq ?_
      refine T_region ?_
      refine TL_q (.int .i64 ((k + 1 : Nat) : Int)) (fun _ _ hρ _ => r_as (r_add (hρ _ _ rfl) (hρ _ _ rfl)) (int_as ((wrap64 (by omega) (by omega)).trans (by omega)))) rfl rfl rfl (w_n rfl) ?_
      refine TL_q (.int .i64 ((k + 1 : Nat) : Int)) (fun _ _ hρ _ => r_move (hρ _ _ rfl)) rfl rfl rfl (w_n rfl) ?_
      refine TL_nil ?_
      exact p_at (k + 1) ⟨by omega, by omega⟩ (sub_cons rfl (sub_cons rfl (sub_cons rfl (sub_cons rfl (sub_cons rfl (sub_cons (by rw [sh_f ht ht2 h2]; rfl) sub_nil)))))) (sub_cons rfl (sub_cons rfl sub_nil))
  · replace h1 := of_decide_eq_false h1
    refine T_exit' ?_
    refine p_then_x ?_
    refine p_then_x ?_
    refine p_blk_x ?_
    refine p_seq ?_
    refine T_seq (T_region ?_)
    refine TL_q (.int .i64 ((shN ts us k : Nat) : Int)) (fun _ _ hρ _ => r_move (hρ _ _ rfl)) rfl rfl rfl (w_n rfl) ?_
    refine TL_q (.int .i64 ((shN ts us k : Nat) : Int)) (fun _ _ hρ _ => r_assign (hρ _ _ rfl)) rfl rfl rfl (w_n rfl) ?_
    refine TL_seq ?_
    refine T_ret' ?_
    refine ret_of rfl (.int .i64 ((shN ts us k : Nat) : Int)) (fun tmps w hk hm => res1 rfl (res_tmp (hk 4 _ rfl))) (fun w hm => ?_)
    have hk : k = ts.length := by omega
    subst hk
    exact ⟨rfl, hm.ext⟩

set_option maxHeartbeats 1000000 in
theorem rdiffer_c (wd hg : Nat) (ts : List T64) (a : Option Addr) (cap : Nat) (w : World) (hs : SliceAt w a cap 256 T64.cells ts) (hlen : ts.length = wd * hg) (hwd : 1 ≤ wd ∧ wd ≤ 4) (hhg : 1 ≤ hg ∧ hg ≤ 4) (us : List T64) (b : Option Addr) (capb : Nat) (hu : SliceAt w b capb 256 T64.cells us) (hul : us.length = ts.length) : Calls Try.prog 33 #[.agg #[.int .i64 (wd : Int), .int .i64 (hg : Int), .slice a ts.length cap], .agg #[.int .i64 (wd : Int), .int .i64 (hg : Int), .slice b us.length capb]] w fun e w' => ∃ a' cap', e = .returned (.slice a' (difC wd hg ts us).length cap') ∧ Below w.heap.size w w' ∧ w'.ownsRow w.heap.size 47 2 (.slice a' (difC wd hg ts us).length cap') (difC wd hg ts us).length ((difC wd hg ts us).flatMap ptn) := by
  have h16 := size4 hwd hhg
  refine calls_of_T (l := [.agg #[.int .i64 ((wd : Nat) : Int), .int .i64 ((hg : Nat) : Int), .slice a ts.length cap], .agg #[.int .i64 ((wd : Nat) : Int), .int .i64 ((hg : Nat) : Int), .slice b us.length capb]]) 38 Try.func33 rfl rfl rfl ?_
  show T _ _ _ [(0, .agg #[.int .i64 ((wd : Nat) : Int), .int .i64 ((hg : Nat) : Int), .slice a ts.length cap]), (1, .agg #[.int .i64 ((wd : Nat) : Int), .int .i64 ((hg : Nat) : Int), .slice b us.length capb])] []
  refine T_seq (T_region ?_)
  refine TL_new 1 (.cells #[.int .i64 ((wd : Nat) : Int), .int .i64 ((hg : Nat) : Int), .slice a ts.length cap] 24) (fun B => .pointer (some ⟨B, 0, none⟩)) (fun _ _ hρ _ => r_box (hρ _ _ rfl) rfl) rfl rfl rfl (w_n rfl) ?_
  intro B1
  refine TL_new 2 (.cells #[.int .i64 ((wd : Nat) : Int), .int .i64 ((hg : Nat) : Int), .slice b us.length capb] 24) (fun B => .pointer (some ⟨B, 0, none⟩)) (fun _ _ hρ _ => r_box (hρ _ _ rfl) rfl) rfl rfl rfl (w_n rfl) ?_
  intro B2
  refine TL_q (.slice none 0 0) (fun _ _ hρ _ => r_assign (hρ _ _ rfl)) rfl rfl rfl (w_n rfl) ?_
  refine TL_seq ?_
  refine T_seq (T_region ?_)
  refine TL_q (.slice none 0 0) (fun _ _ hρ _ => r_assign (hρ _ _ rfl)) rfl rfl rfl (w_n rfl) ?_
  refine TL_seq ?_
  refine T_seq ?_
  refine T_seq (T_region ?_)
  refine TL_q (.pointer (some ⟨B1, 1, none⟩)) (fun _ _ hρ _ => r_fieldAddr fl24_1 sz3 (hρ _ _ rfl)) rfl rfl rfl (w_n rfl) ?_
  refine TL_q (.int .i64 ((hg : Nat) : Int)) (fun _ _ hρ hm => r_load ag3 (hρ _ _ rfl) (hm.at 1 rfl) rfl) rfl rfl rfl (w_n rfl) ?_
  refine TL_q (.int .i64 ((8 * hg : Nat) : Int)) (fun _ _ hρ _ => r_as (r_mul (hρ _ _ rfl) (hρ _ _ rfl)) (int_as ((wrap64 (by omega) (by omega)).trans (by omega)))) rfl rfl rfl (w_n rfl) ?_
  refine TL_q (.int .i64 0) (fun _ _ hρ _ => r_move (hρ _ _ rfl)) rfl rfl rfl (w_n rfl) ?_
  refine TL_seq ?_
  refine T_block ?_
  refine T_mem (_ :: _) (fun _ hm => hm.nilRow 950 47 2) ?_
  refine T_loop (ι := Nat × Option Addr × Nat) (fun (z : Nat × Option Addr × Nat) => match z with | (y, a2, cap2) => y ≤ 8 * hg) (fun (z : Nat × Option Addr × Nat) => match z with | (y, a2, cap2) => [(2, .pointer (some ⟨B1, 0, none⟩)), (3, .pointer (some ⟨B2, 0, none⟩)), (4, .slice none 0 0), (10, .int .i64 ((8 * hg : Nat) : Int)), (11, .int .i64 ((y : Nat) : Int)), (5, .slice a2 ((difN wd hg ts us (y * (8 * wd))).length) cap2)]) (fun (z : Nat × Option Addr × Nat) => match z with | (y, a2, cap2) => [(1, .blk B1 (.cells #[.int .i64 ((wd : Nat) : Int), .int .i64 ((hg : Nat) : Int), .slice a ts.length cap] 24)), (2, .blk B2 (.cells #[.int .i64 ((wd : Nat) : Int), .int .i64 ((hg : Nat) : Int), .slice b us.length capb] 24)), (950, .row (.slice a2 ((difN wd hg ts us (y * (8 * wd))).length) cap2) 47 2 ((difN wd hg ts us (y * (8 * wd))).length) ((difN wd hg ts us (y * (8 * wd))).flatMap ptn))]) (fun (z : Nat × Option Addr × Nat) => match z with | (y, a2, cap2) => 8 * hg - y) (0, none, 0) (Nat.zero_le _) (sub_cons rfl (sub_cons rfl (sub_cons rfl (sub_cons rfl (sub_cons rfl (sub_cons (by rw [Nat.zero_mul]; rfl) sub_nil)))))) (sub_cons rfl (sub_cons rfl (sub_cons (by rw [Nat.zero_mul]; rfl) sub_nil))) ?_
  rintro ⟨y, a2, cap2⟩ hp
  show T _ _ _ [(2, .pointer (some ⟨B1, 0, none⟩)), (3, .pointer (some ⟨B2, 0, none⟩)), (4, .slice none 0 0), (10, .int .i64 ((8 * hg : Nat) : Int)), (11, .int .i64 ((y : Nat) : Int)), (5, .slice a2 ((difN wd hg ts us (y * (8 * wd))).length) cap2)] [(1, .blk B1 (.cells #[.int .i64 ((wd : Nat) : Int), .int .i64 ((hg : Nat) : Int), .slice a ts.length cap] 24)), (2, .blk B2 (.cells #[.int .i64 ((wd : Nat) : Int), .int .i64 ((hg : Nat) : Int), .slice b us.length capb] 24)), (950, .row (.slice a2 ((difN wd hg ts us (y * (8 * wd))).length) cap2) 47 2 ((difN wd hg ts us (y * (8 * wd))).length) ((difN wd hg ts us (y * (8 * wd))).flatMap ptn))]
  refine T_seq (T_region ?_)
  refine TL_q (.bool (decide (((y : Nat) : Int) < ((8 * hg : Nat) : Int)))) (fun _ _ hρ _ => r_lss (hρ _ _ rfl) (hρ _ _ rfl)) rfl rfl rfl (w_n rfl) ?_
  refine TL_seq ?_
  refine T_seq ?_
  refine T_cond rfl (fun h1 => ?_) (fun h1 => ?_)
  · replace h1 := of_decide_eq_true h1
    refine T_skip' ?_
    refine p_seq ?_
    refine T_seq ?_
    refine T_block ?_
    refine T_seq (T_region ?_)
    refine TL_q (.int .i64 ((y : Nat) : Int)) (fun _ _ hρ _ => r_move (hρ _ _ rfl)) rfl rfl rfl (w_n rfl) ?_
    refine TL_q (.int .i64 ((y : Nat) : Int)) (fun _ _ hρ _ => r_assign (hρ _ _ rfl)) rfl rfl rfl (w_n rfl) ?_
    refine TL_seq ?_
    refine T_seq (T_region ?_)
    refine TL_q (.pointer (some ⟨B1, 0, none⟩)) (fun _ _ hρ _ => r_fieldAddr fl24_0 sz3 (hρ _ _ rfl)) rfl rfl rfl (w_n rfl) ?_
    refine TL_q (.int .i64 ((wd : Nat) : Int)) (fun _ _ hρ hm => r_load ag3 (hρ _ _ rfl) (hm.at 1 rfl) rfl) rfl rfl rfl (w_n rfl) ?_
    refine TL_q (.int .i64 ((8 * wd : Nat) : Int)) (fun _ _ hρ _ => r_as (r_mul (hρ _ _ rfl) (hρ _ _ rfl)) (int_as ((wrap64 (by omega) (by omega)).trans (by omega)))) rfl rfl rfl (w_n rfl) ?_
    refine TL_q (.int .i64 0) (fun _ _ hρ _ => r_move (hρ _ _ rfl)) rfl rfl rfl (w_n rfl) ?_
    refine TL_seq ?_
    refine T_block ?_
    refine T_loop (ι := Nat × Option Addr × Nat) (fun (z : Nat × Option Addr × Nat) => match z with | (x, a3, cap3) => x ≤ 8 * wd) (fun (z : Nat × Option Addr × Nat) => match z with | (x, a3, cap3) => [(2, .pointer (some ⟨B1, 0, none⟩)), (3, .pointer (some ⟨B2, 0, none⟩)), (4, .slice none 0 0), (10, .int .i64 ((8 * hg : Nat) : Int)), (11, .int .i64 ((y : Nat) : Int)), (12, .bool (decide (((y : Nat) : Int) < ((8 * hg : Nat) : Int)))), (13, .int .i64 ((y : Nat) : Int)), (6, .int .i64 ((y : Nat) : Int)), (14, .pointer (some ⟨B1, 0, none⟩)), (15, .int .i64 ((wd : Nat) : Int)), (16, .int .i64 ((8 * wd : Nat) : Int)), (17, .int .i64 ((x : Nat) : Int)), (5, .slice a3 ((difN wd hg ts us (y * (8 * wd) + x)).length) cap3)]) (fun (z : Nat × Option Addr × Nat) => match z with | (x, a3, cap3) => [(1, .blk B1 (.cells #[.int .i64 ((wd : Nat) : Int), .int .i64 ((hg : Nat) : Int), .slice a ts.length cap] 24)), (2, .blk B2 (.cells #[.int .i64 ((wd : Nat) : Int), .int .i64 ((hg : Nat) : Int), .slice b us.length capb] 24)), (950, .row (.slice a3 ((difN wd hg ts us (y * (8 * wd) + x)).length) cap3) 47 2 ((difN wd hg ts us (y * (8 * wd) + x)).length) ((difN wd hg ts us (y * (8 * wd) + x)).flatMap ptn))]) (fun (z : Nat × Option Addr × Nat) => match z with | (x, a3, cap3) => 8 * wd - x) (0, a2, cap2) (Nat.zero_le _) (sub_cons rfl (sub_cons rfl (sub_cons rfl (sub_cons rfl (sub_cons rfl (sub_cons rfl (sub_cons rfl (sub_cons rfl (sub_cons rfl (sub_cons rfl (sub_cons rfl (sub_cons rfl (sub_cons rfl sub_nil))))))))))))) (sub_cons rfl (sub_cons rfl (sub_cons rfl sub_nil))) ?_
    rintro ⟨x, a3, cap3⟩ hp
    have hdl := dif_le wd hg ts us (y * (8 * wd) + x) hwd hhg
    show T _ _ _ [(2, .pointer (some ⟨B1, 0, none⟩)), (3, .pointer (some ⟨B2, 0, none⟩)), (4, .slice none 0 0), (10, .int .i64 ((8 * hg : Nat) : Int)), (11, .int .i64 ((y : Nat) : Int)), (12, .bool (decide (((y : Nat) : Int) < ((8 * hg : Nat) : Int)))), (13, .int .i64 ((y : Nat) : Int)), (6, .int .i64 ((y : Nat) : Int)), (14, .pointer (some ⟨B1, 0, none⟩)), (15, .int .i64 ((wd : Nat) : Int)), (16, .int .i64 ((8 * wd : Nat) : Int)), (17, .int .i64 ((x : Nat) : Int)), (5, .slice a3 ((difN wd hg ts us (y * (8 * wd) + x)).length) cap3)] [(1, .blk B1 (.cells #[.int .i64 ((wd : Nat) : Int), .int .i64 ((hg : Nat) : Int), .slice a ts.length cap] 24)), (2, .blk B2 (.cells #[.int .i64 ((wd : Nat) : Int), .int .i64 ((hg : Nat) : Int), .slice b us.length capb] 24)), (950, .row (.slice a3 ((difN wd hg ts us (y * (8 * wd) + x)).length) cap3) 47 2 ((difN wd hg ts us (y * (8 * wd) + x)).length) ((difN wd hg ts us (y * (8 * wd) + x)).flatMap ptn))]
    refine T_seq (T_region ?_)
    refine TL_q (.bool (decide (((x : Nat) : Int) < ((8 * wd : Nat) : Int)))) (fun _ _ hρ _ => r_lss (hρ _ _ rfl) (hρ _ _ rfl)) rfl rfl rfl (w_n rfl) ?_
    refine TL_seq ?_
    refine T_seq ?_
    refine T_cond rfl (fun h2 => ?_) (fun h2 => ?_)
    · replace h2 := of_decide_eq_true h2
      refine T_skip' ?_
      refine p_seq ?_
      refine T_seq ?_
      refine T_block ?_
      refine T_seq (T_region ?_)
      refine TL_q (.int .i64 ((x : Nat) : Int)) (fun _ _ hρ _ => r_move (hρ _ _ rfl)) rfl rfl rfl (w_n rfl) ?_
      refine TL_q (.int .i64 ((x : Nat) : Int)) (fun _ _ hρ _ => r_assign (hρ _ _ rfl)) rfl rfl rfl (w_n rfl) ?_
      refine TL_seq ?_
      have hx8 : x < 8 * wd := by omega
      have hy8 : y < 8 * hg := by omega
      have hpt := ptsC_at hx8 hy8
      refine T_seq (T_draw (V := [(0, .agg #[.int .i64 ((wd : Nat) : Int), .int .i64 ((hg : Nat) : Int), .slice a ts.length cap]), (1, .int .i64 ((x : Nat) : Int)), (2, .int .i64 ((y : Nat) : Int)), (4, .agg #[.int .i64 ((wd : Nat) : Int), .int .i64 ((hg : Nat) : Int), .slice b us.length capb]), (5, .int .i64 ((x : Nat) : Int)), (6, .int .i64 ((y : Nat) : Int))]) [0, 0, 0, 7, 0, 0, 0, 127, 255] [[(2, none)], [(7, none)], [(6, none)], [(20, some 0), (21, some 1), (22, some 2)], [(3, none)], [(7, none)], [(6, none)], [(24, some 4), (25, some 5), (26, some 6)], [(23, some 3), (27, some 7)]] 136 mixed (by kernel_rfl) ?_)
      refine G_step [0, 1, 2, 4, 5, 6] 3 [] (by kernel_rfl) (allM (all_cons (q_run (.agg #[.int .i64 ((wd : Nat) : Int), .int .i64 ((hg : Nat) : Int), .slice a ts.length cap]) rfl rfl (wv_n rfl) rfl (fun _ _ hρ hm => r_loadA ag24 sz24 (hρ _ _ rfl) (hm.at 1 rfl) rfl rfl)) (all_cons (q_run (.int .i64 ((x : Nat) : Int)) rfl rfl (wv_n rfl) rfl (fun _ _ hρ _ => r_move (hρ _ _ rfl))) (all_cons (q_run (.int .i64 ((y : Nat) : Int)) rfl rfl (wv_n rfl) rfl (fun _ _ hρ _ => r_move (hρ _ _ rfl))) (all_cons (q_run (.agg #[.int .i64 ((wd : Nat) : Int), .int .i64 ((hg : Nat) : Int), .slice b us.length capb]) rfl rfl (wv_n rfl) rfl (fun _ _ hρ hm => r_loadA ag24 sz24 (hρ _ _ rfl) (hm.at 2 rfl) rfl rfl)) (all_cons (q_run (.int .i64 ((x : Nat) : Int)) rfl rfl (wv_n rfl) rfl (fun _ _ hρ _ => r_move (hρ _ _ rfl))) (all_cons (q_run (.int .i64 ((y : Nat) : Int)) rfl rfl (wv_n rfl) rfl (fun _ _ hρ _ => r_move (hρ _ _ rfl))) all_nil))))))) (allM (all_cons ?_ all_nil))
      refine LOb_call (.agg #[.int .u8 ((colAt wd ts x y).r), .int .u8 ((colAt wd ts x y).g), .int .u8 ((colAt wd ts x y).b), .int .u8 ((colAt wd ts x y).a)]) [] rfl (wv_n rfl) rfl rfl (fun _ _ hρ _ => r_call (args := [.agg #[.int .i64 ((wd : Nat) : Int), .int .i64 ((hg : Nat) : Int), .slice a ts.length cap], .int .i64 ((x : Nat) : Int), .int .i64 ((y : Nat) : Int)]) (enters_of Try.func36 (by kernel_rfl) rfl) (hρ _ _ rfl) ((cons2 (hρ _ _ rfl) (cons2 (hρ _ _ rfl) (cons2 (hρ _ _ rfl) rfl)))) rfl) (fun w hm => rat_c wd hg ts a cap w (hs.keep hm.ext) (by omega) hwd hhg x y hx8 hy8) (by kernel_rfl) ?_
      refine G_step [4, 5, 6] 7 [] (by kernel_rfl) (allM (all_cons (q_run (.agg #[.int .i64 ((wd : Nat) : Int), .int .i64 ((hg : Nat) : Int), .slice b us.length capb]) rfl rfl (wv_n rfl) rfl (fun _ _ hρ hm => r_loadA ag24 sz24 (hρ _ _ rfl) (hm.at 2 rfl) rfl rfl)) (all_cons (q_run (.int .i64 ((x : Nat) : Int)) rfl rfl (wv_n rfl) rfl (fun _ _ hρ _ => r_move (hρ _ _ rfl))) (all_cons (q_run (.int .i64 ((y : Nat) : Int)) rfl rfl (wv_n rfl) rfl (fun _ _ hρ _ => r_move (hρ _ _ rfl))) all_nil)))) (allM (all_cons ?_ all_nil))
      refine LOb_call (.agg #[.int .u8 ((colAt wd us x y).r), .int .u8 ((colAt wd us x y).g), .int .u8 ((colAt wd us x y).b), .int .u8 ((colAt wd us x y).a)]) [(8, .bool (!decide ((colAt wd ts x y) = (colAt wd us x y))))] rfl (wv_n rfl) rfl rfl (fun _ _ hρ _ => r_call (args := [.agg #[.int .i64 ((wd : Nat) : Int), .int .i64 ((hg : Nat) : Int), .slice b us.length capb], .int .i64 ((x : Nat) : Int), .int .i64 ((y : Nat) : Int)]) (enters_of Try.func36 (by kernel_rfl) rfl) (hρ _ _ rfl) ((cons2 (hρ _ _ rfl) (cons2 (hρ _ _ rfl) (cons2 (hρ _ _ rfl) rfl)))) rfl) (fun w hm => rat_c wd hg us b capb w (hu.keep hm.ext) (by omega) hwd hhg x y hx8 hy8) (by kernel_rfl) ?_
      refine G_last [8] [(2, .pointer (some ⟨B1, 0, none⟩)), (3, .pointer (some ⟨B2, 0, none⟩)), (4, .slice none 0 0), (10, .int .i64 ((8 * hg : Nat) : Int)), (11, .int .i64 ((y : Nat) : Int)), (12, .bool (decide (((y : Nat) : Int) < ((8 * hg : Nat) : Int)))), (13, .int .i64 ((y : Nat) : Int)), (6, .int .i64 ((y : Nat) : Int)), (14, .pointer (some ⟨B1, 0, none⟩)), (15, .int .i64 ((wd : Nat) : Int)), (16, .int .i64 ((8 * wd : Nat) : Int)), (17, .int .i64 ((x : Nat) : Int)), (5, .slice a3 ((difN wd hg ts us (y * (8 * wd) + x)).length) cap3), (18, .bool (decide (((x : Nat) : Int) < ((8 * wd : Nat) : Int)))), (19, .int .i64 ((x : Nat) : Int)), (7, .int .i64 ((x : Nat) : Int)), (20, .agg #[.int .i64 ((wd : Nat) : Int), .int .i64 ((hg : Nat) : Int), .slice a ts.length cap]), (21, .int .i64 ((x : Nat) : Int)), (22, .int .i64 ((y : Nat) : Int)), (23, .agg #[.int .u8 ((colAt wd ts x y).r), .int .u8 ((colAt wd ts x y).g), .int .u8 ((colAt wd ts x y).b), .int .u8 ((colAt wd ts x y).a)]), (24, .agg #[.int .i64 ((wd : Nat) : Int), .int .i64 ((hg : Nat) : Int), .slice b us.length capb]), (25, .int .i64 ((x : Nat) : Int)), (26, .int .i64 ((y : Nat) : Int)), (27, .agg #[.int .u8 ((colAt wd us x y).r), .int .u8 ((colAt wd us x y).g), .int .u8 ((colAt wd us x y).b), .int .u8 ((colAt wd us x y).a)]), (28, .bool (!decide ((colAt wd ts x y) = (colAt wd us x y))))] (by kernel_rfl) (allM (all_cons (q_run (.bool (!decide ((colAt wd ts x y) = (colAt wd us x y)))) rfl rfl (wv_n rfl) rfl (fun _ _ hρ _ => r_as (r_neqA (by kernel_rfl) (hρ _ _ rfl) (hρ _ _ rfl) (run_equalI (l := [(0, .u8), (1, .u8), (2, .u8), (3, .u8)]) (by kernel_rfl) rfl rfl)) (bool_as (congrArg (fun b => !b) (eqC (colAt wd ts x y) (colAt wd us x y)))))) all_nil)) (end_old rfl rfl (end_old rfl rfl (end_old rfl rfl (end_old rfl rfl (end_old rfl rfl (end_old rfl rfl (end_old rfl rfl (end_old rfl rfl (end_old rfl rfl (end_old rfl rfl (end_old rfl rfl (end_old rfl rfl (end_old rfl rfl (end_old rfl rfl (end_old rfl rfl (end_old rfl rfl (end_new 0 rfl rfl (end_new 1 rfl rfl (end_new 2 rfl rfl (end_new 3 rfl rfl (end_new 4 rfl rfl (end_new 5 rfl rfl (end_new 6 rfl rfl (end_new 7 rfl rfl (end_new 8 rfl rfl end_nil))))))))))))))))))))))))) ?_
      refine T_cond rfl (fun h3 => ?_) (fun h3 => ?_)
      · replace h3 := of_decide_eq_false (bnot_t h3)
        refine T_region ?_
        refine TL_q (.slice a3 ((difN wd hg ts us (y * (8 * wd) + x)).length) cap3) (fun _ _ hρ _ => r_move (hρ _ _ rfl)) rfl rfl rfl (w_n rfl) ?_
        refine TL_q (.int .i64 ((x : Nat) : Int)) (fun _ _ hρ _ => r_move (hρ _ _ rfl)) rfl rfl rfl (w_n rfl) ?_
        refine TL_q (.int .i64 ((y : Nat) : Int)) (fun _ _ hρ _ => r_move (hρ _ _ rfl)) rfl rfl rfl (w_n rfl) ?_
        refine TL_q (.agg #[.int .i64 ((x : Nat) : Int), .int .i64 ((y : Nat) : Int)]) (fun _ _ hρ _ => r_build (vs := [(0, .int .i64 ((x : Nat) : Int)), (1, .int .i64 ((y : Nat) : Int))]) (by kernel_rfl) (cons2 (pair2 (hρ _ _ rfl)) (cons2 (pair2 (hρ _ _ rfl)) rfl))) rfl rfl rfl (w_n rfl) ?_
        refine TL_new 3 (.cells #[.int .i64 ((x : Nat) : Int), .int .i64 ((y : Nat) : Int)] 47) (fun B => .slice (some ⟨B, 0, none⟩) 1 1) (fun _ _ hρ _ => r_buildSlice (vs := [(0, .agg #[.int .i64 ((x : Nat) : Int), .int .i64 ((y : Nat) : Int)])]) (by kernel_rfl) (cons2 (pair2 (hρ _ _ rfl)) rfl)) rfl rfl rfl (w_n rfl) ?_
        intro B3
        refine TL_append (n := (difN wd hg ts us (y * (8 * wd) + x)).length) (m := 1) (xs := ((difN wd hg ts us (y * (8 * wd) + x)).flatMap ptn)) (news := [.int .i64 ((x : Nat) : Int), .int .i64 ((y : Nat) : Int)]) (z := .agg #[.int .i64 0, .int .i64 0]) 950 rfl rfl rfl sl44 sz47 by47 (by kernel_rfl) rfl rfl (.inl rfl) (fun _ hm => src_blk (news := [.int .i64 ((x : Nat) : Int), .int .i64 ((y : Nat) : Int)]) (hm.at 3 rfl) rfl) (by first | exact T64.cells_one _ | simp [Value.oneCell']) (by omega) (by omega) rfl (w_n rfl) ?_
        intro a4 cap4
        refine TL_q (.slice a4 ((difN wd hg ts us (y * (8 * wd) + x)).length + 1) cap4) (fun _ _ hρ _ => r_assign (hρ _ _ rfl)) rfl rfl rfl (w_n rfl) ?_
        refine TL_nil ?_
        refine p_blk_n ?_
        refine p_seq ?_
        refine T_region ?_
        refine TL_q (.int .i64 ((x + 1 : Nat) : Int)) (fun _ _ hρ _ => r_as (r_add (hρ _ _ rfl) (hρ _ _ rfl)) (int_as ((wrap64 (by omega) (by omega)).trans (by omega)))) rfl rfl rfl (w_n rfl) ?_
        refine TL_q (.int .i64 ((x + 1 : Nat) : Int)) (fun _ _ hρ _ => r_move (hρ _ _ rfl)) rfl rfl rfl (w_n rfl) ?_
        refine TL_nil ?_
        have hdt := dif_t hpt h3
        rw [show ((difN wd hg ts us (y * (8 * wd) + x)).length + 1) = (difN wd hg ts us (y * (8 * wd) + x + 1)).length from by rw [hdt]; simp, show (((difN wd hg ts us (y * (8 * wd) + x)).flatMap ptn) ++ [.int .i64 ((x : Nat) : Int), .int .i64 ((y : Nat) : Int)]) = (difN wd hg ts us (y * (8 * wd) + x + 1)).flatMap ptn from by rw [hdt]; simp [ptn]]
        exact p_at (x + 1, a4, cap4) ⟨by omega, by dsimp only; omega⟩ (sub_cons rfl (sub_cons rfl (sub_cons rfl (sub_cons rfl (sub_cons rfl (sub_cons rfl (sub_cons rfl (sub_cons rfl (sub_cons rfl (sub_cons rfl (sub_cons rfl (sub_cons rfl (sub_cons rfl sub_nil))))))))))))) (sub_cons rfl (sub_cons rfl (sub_cons rfl sub_nil)))
      · replace h3 := of_decide_eq_true (bnot_f h3)
        refine T_skip' ?_
        refine p_blk_n ?_
        refine p_seq ?_
        refine T_region ?_
        refine TL_q (.int .i64 ((x + 1 : Nat) : Int)) (fun _ _ hρ _ => r_as (r_add (hρ _ _ rfl) (hρ _ _ rfl)) (int_as ((wrap64 (by omega) (by omega)).trans (by omega)))) rfl rfl rfl (w_n rfl) ?_
        refine TL_q (.int .i64 ((x + 1 : Nat) : Int)) (fun _ _ hρ _ => r_move (hρ _ _ rfl)) rfl rfl rfl (w_n rfl) ?_
        refine TL_nil ?_
        have hdf := dif_f hpt h3
        rw [← hdf]
        exact p_at (x + 1, a3, cap3) ⟨by omega, by dsimp only; omega⟩ (sub_cons rfl (sub_cons rfl (sub_cons rfl (sub_cons rfl (sub_cons rfl (sub_cons rfl (sub_cons rfl (sub_cons rfl (sub_cons rfl (sub_cons rfl (sub_cons rfl (sub_cons rfl (sub_cons rfl sub_nil))))))))))))) (sub_cons rfl (sub_cons rfl (sub_cons rfl sub_nil)))
    · replace h2 := of_decide_eq_false h2
      refine T_exit' ?_
      refine p_then_x ?_
      refine p_then_x ?_
      refine p_blk_x ?_
      refine p_blk_n ?_
      refine p_seq ?_
      have hx8 : x = 8 * wd := by omega
      subst hx8
      refine T_region ?_
      refine TL_q (.int .i64 ((y + 1 : Nat) : Int)) (fun _ _ hρ _ => r_as (r_add (hρ _ _ rfl) (hρ _ _ rfl)) (int_as ((wrap64 (by omega) (by omega)).trans (by omega)))) rfl rfl rfl (w_n rfl) ?_
      refine TL_q (.int .i64 ((y + 1 : Nat) : Int)) (fun _ _ hρ _ => r_move (hρ _ _ rfl)) rfl rfl rfl (w_n rfl) ?_
      refine TL_nil ?_
      rw [row_end y (8 * wd)]
      exact p_at (y + 1, a3, cap3) ⟨by omega, by dsimp only; omega⟩ (sub_cons rfl (sub_cons rfl (sub_cons rfl (sub_cons rfl (sub_cons rfl (sub_cons rfl sub_nil)))))) (sub_cons rfl (sub_cons rfl (sub_cons rfl sub_nil)))
  · replace h1 := of_decide_eq_false h1
    refine T_exit' ?_
    refine p_then_x ?_
    refine p_then_x ?_
    refine p_blk_x ?_
    refine p_seq ?_
    refine T_seq (T_region ?_)
    refine TL_q (.slice a2 ((difN wd hg ts us (y * (8 * wd))).length) cap2) (fun _ _ hρ _ => r_move (hρ _ _ rfl)) rfl rfl rfl (w_n rfl) ?_
    refine TL_q (.slice a2 ((difN wd hg ts us (y * (8 * wd))).length) cap2) (fun _ _ hρ _ => r_assign (hρ _ _ rfl)) rfl rfl rfl (w_n rfl) ?_
    refine TL_seq ?_
    refine T_ret' ?_
    refine ret_of rfl (.slice a2 ((difN wd hg ts us (y * (8 * wd))).length) cap2) (fun tmps w hk hm => res1 rfl (res_tmp (hk 4 _ rfl))) (fun w hm => ?_)
    have hy8 : y = 8 * hg := by omega
    subst hy8
    have hrow := hm.row 950 rfl
    rw [← ptsC_len, dif_all] at hrow ⊢
    exact ⟨a2, cap2, rfl, hm.ext, hrow⟩

theorem set1_c (u : Pt) (c : C4) (bc : Nat) (w : World) (hbc : hp w bc = some (.cells #[.int .u8 c.r, .int .u8 c.g, .int .u8 c.b, .int .u8 c.a] 37)) : Calls Try.prog 80 #[.agg #[.int .i64 u.x, .int .i64 u.y], .pointer (some ⟨bc, 0, none⟩)] w fun e w' => e = .returned (.agg (⟨u.x, u.y, c⟩ : Dt).cells.toArray) ∧ Below w.heap.size w w' := by
  refine calls_of_T (l := [.agg #[.int .i64 u.x, .int .i64 u.y], .pointer (some ⟨bc, 0, none⟩)]) 10 Try.func80 rfl rfl rfl ?_
  show T _ _ _ [(0, .agg #[.int .i64 u.x, .int .i64 u.y]), (1, .pointer (some ⟨bc, 0, none⟩))] []
  refine T_seq (T_region ?_)
  refine TL_new 1 (.cells #[.int .i64 u.x, .int .i64 u.y] 47) (fun B => .pointer (some ⟨B, 0, none⟩)) (fun _ _ hρ _ => r_box (hρ _ _ rfl) rfl) rfl rfl rfl (w_n rfl) ?_
  intro B1
  refine TL_new 2 (.cells #[.int .i64 0, .int .i64 0, .int .u8 0, .int .u8 0, .int .u8 0, .int .u8 0] 51) (fun B => .pointer (some ⟨B, 0, none⟩)) (fun _ _ _ _ => r_alloc (v := .agg #[.int .i64 0, .int .i64 0, .int .u8 0, .int .u8 0, .int .u8 0, .int .u8 0]) (by kernel_rfl) rfl) rfl rfl rfl (w_n rfl) ?_
  intro B2
  refine TL_seq ?_
  refine T_seq (T_region ?_)
  refine TL_q (.pointer (some ⟨B1, 0, none⟩)) (fun _ _ hρ _ => r_fieldAddr fl47_0 sz3 (hρ _ _ rfl)) rfl rfl rfl (w_n rfl) ?_
  refine TL_q (.int .i64 u.x) (fun _ _ hρ hm => r_load ag3 (hρ _ _ rfl) (hm.at 1 rfl) rfl) rfl rfl rfl (w_n rfl) ?_
  refine TL_q (.pointer (some ⟨B1, 1, none⟩)) (fun _ _ hρ _ => r_fieldAddr fl47_1 sz3 (hρ _ _ rfl)) rfl rfl rfl (w_n rfl) ?_
  refine TL_q (.int .i64 u.y) (fun _ _ hρ hm => r_load ag3 (hρ _ _ rfl) (hm.at 1 rfl) rfl) rfl rfl rfl (w_n rfl) ?_
  refine TL_q (.agg #[.int .u8 c.r, .int .u8 c.g, .int .u8 c.b, .int .u8 c.a]) (fun _ _ hρ hm => r_loadA ag37 sz37 (hρ _ _ rfl) (hm.old hbc) rfl rfl) rfl rfl rfl (w_n rfl) ?_
  refine TL_q (.agg #[.int .i64 u.x, .int .i64 u.y, .int .u8 c.r, .int .u8 c.g, .int .u8 c.b, .int .u8 c.a]) (fun _ _ hρ _ => r_build (vs := [(0, .int .i64 u.x), (1, .int .i64 u.y), (2, .agg #[.int .u8 c.r, .int .u8 c.g, .int .u8 c.b, .int .u8 c.a])]) (by kernel_rfl) (cons2 (pair2 (hρ _ _ rfl)) (cons2 (pair2 (hρ _ _ rfl)) (cons2 (pair2 (hρ _ _ rfl)) rfl)))) rfl rfl rfl (w_n rfl) ?_
  refine TL_store 2 (.cells #[.int .i64 u.x, .int .i64 u.y, .int .u8 c.r, .int .u8 c.g, .int .u8 c.b, .int .u8 c.a] 51) rfl (fun _ _ hρ hm => r_store sz51 (hρ _ _ rfl) (hρ _ _ rfl) (hm.at 2 rfl) rfl rfl rfl rfl) rfl rfl (w_n rfl) ?_
  refine TL_seq ?_
  refine T_ret' ?_
  refine ret_of rfl (.agg #[.int .i64 u.x, .int .i64 u.y, .int .u8 c.r, .int .u8 c.g, .int .u8 c.b, .int .u8 c.a]) (fun tmps w hk hm => res1 rfl (res_cell (hk 3 _ rfl) (run_loadVar_agg ag51 sz51 (hm.at 2 rfl) (Nat.le_of_ble_eq_true rfl) rfl))) (fun w hm => ?_)
  exact ⟨rfl, hm.ext⟩

/-- Dots of one colour. -/
def dotsOf (c : C4) (ps : List Pt) : List Dt := ps.map fun p => ⟨p.x, p.y, c⟩
theorem dots_len (c : C4) (ps : List Pt) : (dotsOf c ps).length = ps.length := List.length_map _
theorem dots_step {c : C4} {ps : List Pt} {k : Nat} {u : Pt} (h : ps[k]? = some u) : dotsOf c (ps.take (k + 1)) = dotsOf c (ps.take k) ++ [⟨u.x, u.y, c⟩] := by
  unfold dotsOf
  rw [List.take_add_one, h, List.map_append]; rfl

set_option maxHeartbeats 1000000 in
theorem made_set (ps : List Pt) (a : Option Addr) (cap : Nat) (c : C4) (bc : Nat) (w : World) (hv : SliceAt w a cap 2 Pt.cells ps) (hpl : ps.length ≤ 1000) (hbc : hp w bc = some (.cells #[.int .u8 c.r, .int .u8 c.g, .int .u8 c.b, .int .u8 c.a] 37)) : Calls Try.prog 79 #[.slice a ps.length cap, .func (.func 80) #[] #[.pointer (some ⟨bc, 0, none⟩)]] w fun e w' => ∃ a' cap', e = .returned (.slice a' (dotsOf c ps).length cap') ∧ Below w.heap.size w w' ∧ w'.ownsRow w.heap.size 51 6 (.slice a' (dotsOf c ps).length cap') (dotsOf c ps).length ((dotsOf c ps).flatMap Dt.cells) := by
  refine calls_of_T (l := [.slice a ps.length cap, .func (.func 80) #[] #[.pointer (some ⟨bc, 0, none⟩)]]) 22 Try.func79 rfl rfl rfl ?_
  show T _ _ _ [(0, .slice a ps.length cap), (1, .func (.func 80) #[] #[.pointer (some ⟨bc, 0, none⟩)])] []
  refine T_seq (T_region ?_)
  refine TL_q (.slice none 0 0) (fun _ _ hρ _ => r_assign (hρ _ _ rfl)) rfl rfl rfl (w_n rfl) ?_
  refine TL_seq ?_
  refine T_seq (T_region ?_)
  refine TL_q (.slice none 0 0) (fun _ _ hρ _ => r_assign (hρ _ _ rfl)) rfl rfl rfl (w_n rfl) ?_
  refine TL_seq ?_
  refine T_seq ?_
  refine T_seq (T_region ?_)
  refine TL_q (.slice a ps.length cap) (fun _ _ hρ _ => r_move (hρ _ _ rfl)) rfl rfl rfl (w_n rfl) ?_
  refine TL_q (.int .i64 ((ps.length : Nat) : Int)) (fun _ _ hρ _ => r_len sl44 (hρ _ _ rfl)) rfl rfl rfl (w_n rfl) ?_
  refine TL_q (.int .i64 0) (fun _ _ hρ _ => r_move (hρ _ _ rfl)) rfl rfl rfl (w_n rfl) ?_
  refine TL_seq ?_
  refine T_block ?_
  refine T_mem (_ :: _) (fun _ hm => hm.nilRow 950 51 6) ?_
  refine T_loop (ι := Nat × Option Addr × Nat) (fun (z : Nat × Option Addr × Nat) => match z with | (k, a2, cap2) => k ≤ ps.length) (fun (z : Nat × Option Addr × Nat) => match z with | (k, a2, cap2) => [(1, .func (.func 80) #[] #[.pointer (some ⟨bc, 0, none⟩)]), (4, .slice none 0 0), (8, .slice a ps.length cap), (9, .int .i64 ((ps.length : Nat) : Int)), (10, .int .i64 ((k : Nat) : Int)), (5, .slice a2 k cap2)]) (fun (z : Nat × Option Addr × Nat) => match z with | (k, a2, cap2) => [(950, .row (.slice a2 k cap2) 51 6 k ((dotsOf c (ps.take k)).flatMap Dt.cells))]) (fun (z : Nat × Option Addr × Nat) => match z with | (k, a2, cap2) => ps.length - k) (0, none, 0) (Nat.zero_le _) (sub_cons rfl (sub_cons rfl (sub_cons rfl (sub_cons rfl (sub_cons rfl (sub_cons rfl sub_nil)))))) (sub_cons rfl sub_nil) ?_
  rintro ⟨k, a2, cap2⟩ hp
  show T _ _ _ [(1, .func (.func 80) #[] #[.pointer (some ⟨bc, 0, none⟩)]), (4, .slice none 0 0), (8, .slice a ps.length cap), (9, .int .i64 ((ps.length : Nat) : Int)), (10, .int .i64 ((k : Nat) : Int)), (5, .slice a2 k cap2)] [(950, .row (.slice a2 k cap2) 51 6 k ((dotsOf c (ps.take k)).flatMap Dt.cells))]
  refine T_seq (T_region ?_)
  refine TL_q (.bool (decide (((k : Nat) : Int) < ((ps.length : Nat) : Int)))) (fun _ _ hρ _ => r_lss (hρ _ _ rfl) (hρ _ _ rfl)) rfl rfl rfl (w_n rfl) ?_
  refine TL_seq ?_
  refine T_seq ?_
  refine T_cond rfl (fun h1 => ?_) (fun h1 => ?_)
  · replace h1 := of_decide_eq_true h1
    refine T_skip' ?_
    refine p_seq ?_
    refine T_seq ?_
    refine T_block ?_
    obtain ⟨u, hu⟩ : ∃ x, ps[k]? = some x := ⟨_, List.getElem?_eq_getElem (by omega)⟩
    obtain ⟨b1, of1, cs1, T1, fz1, ha1, hq1, hr1⟩ := hv.open (i := k) (by omega)
    subst ha1
    refine T_seq (T_region ?_)
    refine TL_q (.pointer (some ⟨b1, of1 + k * 2, none⟩)) (fun _ _ hρ _ => r_indexAddrS (i := k) sl44 sz47 (hρ _ _ rfl) (hρ _ _ rfl) (by omega)) rfl rfl rfl (w_n rfl) ?_
    refine TL_q (.agg #[.int .i64 u.x, .int .i64 u.y]) (fun _ _ hρ hm => r_loadRow (f := Pt.cells) (u := u) ag47 sz47 (hρ _ _ rfl) (hm.old hq1) hr1 hu) rfl rfl rfl (w_n rfl) ?_
    refine TL_new 1 (.cells #[.int .i64 0, .int .i64 0] 47) (fun B => .pointer (some ⟨B, 0, none⟩)) (fun _ _ _ _ => r_alloc (v := .agg #[.int .i64 0, .int .i64 0]) (by kernel_rfl) rfl) rfl rfl rfl (w_n rfl) ?_
    intro B2
    refine TL_store 1 (.cells #[.int .i64 u.x, .int .i64 u.y] 47) rfl (fun _ _ hρ hm => r_store sz47 (hρ _ _ rfl) (hρ _ _ rfl) (hm.at 1 rfl) rfl rfl rfl rfl) rfl rfl (w_n rfl) ?_
    refine TL_seq ?_
    refine T_region ?_
    refine TL_q (.slice a2 k cap2) (fun _ _ hρ _ => r_move (hρ _ _ rfl)) rfl rfl rfl (w_n rfl) ?_
    refine TL_q (.func (.func 80) #[] #[.pointer (some ⟨bc, 0, none⟩)]) (fun _ _ hρ _ => r_move (hρ _ _ rfl)) rfl rfl rfl (w_n rfl) ?_
    refine TL_q (.agg #[.int .i64 u.x, .int .i64 u.y]) (fun _ _ hρ hm => r_loadA ag47 sz47 (hρ _ _ rfl) (hm.at 1 rfl) rfl rfl) rfl rfl rfl (w_n rfl) ?_
    refine TL_call (.agg #[.int .i64 u.x, .int .i64 u.y, .int .u8 c.r, .int .u8 c.g, .int .u8 c.b, .int .u8 c.a]) (fun _ _ hρ _ => r_call (args := [.agg #[.int .i64 u.x, .int .i64 u.y]]) (enters_of Try.func80 (by kernel_rfl) rfl) (hρ _ _ rfl) ((cons2 (hρ _ _ rfl) rfl)) rfl) (fun w hm => set1_c u c bc w (hm.old hbc)) rfl rfl rfl (w_n rfl) ?_
    refine TL_new 2 (.cells #[.int .i64 u.x, .int .i64 u.y, .int .u8 c.r, .int .u8 c.g, .int .u8 c.b, .int .u8 c.a] 51) (fun B => .slice (some ⟨B, 0, none⟩) 1 1) (fun _ _ hρ _ => r_buildSlice (vs := [(0, .agg #[.int .i64 u.x, .int .i64 u.y, .int .u8 c.r, .int .u8 c.g, .int .u8 c.b, .int .u8 c.a])]) (by kernel_rfl) (cons2 (pair2 (hρ _ _ rfl)) rfl)) rfl rfl rfl (w_n rfl) ?_
    intro B3
    refine TL_append (n := k) (m := 1) (xs := ((dotsOf c (ps.take k)).flatMap Dt.cells)) (news := [.int .i64 u.x, .int .i64 u.y, .int .u8 c.r, .int .u8 c.g, .int .u8 c.b, .int .u8 c.a]) (z := .agg #[.int .i64 0, .int .i64 0, .int .u8 0, .int .u8 0, .int .u8 0, .int .u8 0]) 950 rfl rfl rfl sl25 sz51 by51 (by kernel_rfl) rfl rfl (.inl rfl) (fun _ hm => src_blk (news := [.int .i64 u.x, .int .i64 u.y, .int .u8 c.r, .int .u8 c.g, .int .u8 c.b, .int .u8 c.a]) (hm.at 2 rfl) rfl) (by first | simp [Value.oneCell']) (by omega) (by omega) rfl (w_n rfl) ?_
    intro a4 cap4
    refine TL_q (.slice a4 (k + 1) cap4) (fun _ _ hρ _ => r_assign (hρ _ _ rfl)) rfl rfl rfl (w_n rfl) ?_
    refine TL_nil ?_
    refine p_blk_n ?_
    refine p_seq ?_
    refine T_region ?_
    refine TL_q (.int .i64 ((k + 1 : Nat) : Int)) (fun _ _ hρ _ => r_as (r_add (hρ _ _ rfl) (hρ _ _ rfl)) (int_as ((wrap64 (by omega) (by omega)).trans (by omega)))) rfl rfl rfl (w_n rfl) ?_
    refine TL_q (.int .i64 ((k + 1 : Nat) : Int)) (fun _ _ hρ _ => r_move (hρ _ _ rfl)) rfl rfl rfl (w_n rfl) ?_
    refine TL_nil ?_
    rw [show (((dotsOf c (ps.take k)).flatMap Dt.cells) ++ [.int .i64 u.x, .int .i64 u.y, .int .u8 c.r, .int .u8 c.g, .int .u8 c.b, .int .u8 c.a]) = (dotsOf c (ps.take (k + 1))).flatMap Dt.cells from by rw [dots_step hu]; simp [Dt.cells]]
    exact p_at (k + 1, a4, cap4) ⟨by omega, by dsimp only; omega⟩ (sub_cons rfl (sub_cons rfl (sub_cons rfl (sub_cons rfl (sub_cons rfl (sub_cons rfl sub_nil)))))) (sub_cons rfl sub_nil)
  · replace h1 := of_decide_eq_false h1
    refine T_exit' ?_
    refine p_then_x ?_
    refine p_then_x ?_
    refine p_blk_x ?_
    refine p_seq ?_
    refine T_seq (T_region ?_)
    refine TL_q (.slice a2 k cap2) (fun _ _ hρ _ => r_move (hρ _ _ rfl)) rfl rfl rfl (w_n rfl) ?_
    refine TL_q (.slice a2 k cap2) (fun _ _ hρ _ => r_assign (hρ _ _ rfl)) rfl rfl rfl (w_n rfl) ?_
    refine TL_seq ?_
    refine T_ret' ?_
    refine ret_of rfl (.slice a2 k cap2) (fun tmps w hk hm => res1 rfl (res_tmp (hk 4 _ rfl))) (fun w hm => ?_)
    have hk : k = ps.length := by omega
    subst hk
    have hrow := hm.row 950 rfl
    rw [List.take_length] at hrow
    exact ⟨a2, cap2, by rw [dots_len], hm.ext, by rw [dots_len]; exact hrow⟩

theorem CvNew.before {w w1 w2 : World} {l : List Cv} {d : Cv} (h : CvNew w1 w2 l d) (hb : Below w.heap.size w w1) : CvNew w w2 l d :=
  ⟨below_call hb (Nat.le_refl _) h.below, h.at', fun b hf => (h.foot b hf).imp (fun h1 => Nat.le_trans hb.size h1) id⟩
theorem CvNew.after {w w1 w2 : World} {l : List Cv} {d : Cv} (h : CvNew w w1 l d) (hb : Below w1.heap.size w1 w2) : CvNew w w2 l d :=
  ⟨below_call h.below (Nat.le_refl _) hb, h.at'.below hb, h.foot⟩
theorem Shares.before {n m : Nat} {c d : Cv} (h : Shares m c d) (hn : n ≤ m) : Shares n c d := fun i q hq => by
  obtain ⟨r, h1, h2, h3⟩ := h i q hq
  exact ⟨r, h1, h2, h3.imp id fun h4 => Nat.le_trans hn h4⟩

theorem set_c (c : Cv) (col : C4) (ps : List Pt) (a : Option Addr) (cap : Nat) (w : World) (hc : CvAt w c) (hv : SliceAt w a cap 2 Pt.cells ps) (hcap : cap ≤ Go.maxLen) (hpl : ps.length ≤ 1000) : Calls Try.prog 37 #[.pointer (some ⟨c.p, 0, none⟩), col.v, .slice a ps.length cap] w fun e w' => ∃ d : Cv, e = .returned (.pointer (some ⟨d.p, 0, none⟩)) ∧ CvNew w w' [c] d ∧ d.wd = c.wd ∧ d.hg = c.hg ∧ d.ts = putDs c.wd c.hg c.ts (dotsOf col ps) ∧ Shares w.heap.size c d := by
  refine calls_of_T (l := [.pointer (some ⟨c.p, 0, none⟩), .agg #[.int .u8 col.r, .int .u8 col.g, .int .u8 col.b, .int .u8 col.a], .slice a ps.length cap]) 12 Try.func37 rfl rfl rfl ?_
  show T _ _ _ [(0, .pointer (some ⟨c.p, 0, none⟩)), (1, .agg #[.int .u8 col.r, .int .u8 col.g, .int .u8 col.b, .int .u8 col.a]), (2, .slice a ps.length cap)] []
  refine T_seq (T_region ?_)
  refine TL_new 1 (.cells #[.int .u8 col.r, .int .u8 col.g, .int .u8 col.b, .int .u8 col.a] 37) (fun B => .pointer (some ⟨B, 0, none⟩)) (fun _ _ hρ _ => r_box (hρ _ _ rfl) rfl) rfl rfl rfl (w_n rfl) ?_
  intro B1
  refine TL_q (.pointer none) (fun _ _ hρ _ => r_assign (hρ _ _ rfl)) rfl rfl rfl (w_n rfl) ?_
  refine TL_seq ?_
  refine T_seq (T_region ?_)
  refine TL_q (.pointer (some ⟨c.p, 0, none⟩)) (fun _ _ hρ _ => r_move (hρ _ _ rfl)) rfl rfl rfl (w_n rfl) ?_
  refine TL_q (.slice a ps.length cap) (fun _ _ hρ _ => r_move (hρ _ _ rfl)) rfl rfl rfl (w_n rfl) ?_
  refine TL_q (.func (.func 80) #[] #[.pointer (some ⟨B1, 0, none⟩)]) (fun _ _ hρ _ => r_makeFunc (by simp) (map_arr (cons2 (hρ _ _ rfl) rfl))) rfl rfl rfl (w_n rfl) ?_
  refine TL_callN (fun (_ : Option Addr × Nat) => True) (fun (ar2, cr2) => .slice ar2 ((dotsOf col ps).length) cr2) (fun (ar2, cr2) => [(2, .row (.slice ar2 ((dotsOf col ps).length) cr2) 51 6 ((dotsOf col ps).length) ((dotsOf col ps).flatMap Dt.cells))]) (fun _ _ hρ _ => r_call (args := [.slice a ps.length cap, .func (.func 80) #[] #[.pointer (some ⟨B1, 0, none⟩)]]) (enters_of Try.func79 (by kernel_rfl) rfl) (hρ _ _ rfl) ((cons2 (hρ _ _ rfl) (cons2 (hρ _ _ rfl) rfl))) rfl) (fun w hm => (made_set ps a cap col B1 w (hv.keep hm.ext) (by omega) (hm.at 1 rfl)).mono fun e w' ⟨a', cap', he, hb, hr⟩ => ⟨(a', cap'), trivial, he, hb, newOk1 2 hr⟩) rfl rfl rfl (w_n rfl) ?_
  rintro ⟨ar2, cr2⟩ -
  refine TL_callR (ι := Cv) (fun d => .pointer (some ⟨d.p, 0, none⟩)) (fun d => fun w1 w2 => CvNew w1 w2 [c] d ∧ d.wd = c.wd ∧ d.hg = c.hg ∧ d.ts = putDs c.wd c.hg c.ts (dotsOf col ps) ∧ Shares w1.heap.size c d) (fun _ _ hρ _ => r_call (args := [.pointer (some ⟨c.p, 0, none⟩), .slice ar2 ((dotsOf col ps).length) cr2]) (enters_of Try.func17 (by kernel_rfl) rfl) (hρ _ _ rfl) ((cons2 (hρ _ _ rfl) (cons2 (hρ _ _ rfl) rfl))) rfl) (fun w hm => with_canvas c (dotsOf col ps) ar2 cr2 w (hc.below hm.ext) (SliceAt.own Dt.cells_len (hm.row 2 rfl) rfl rfl) (row_cap (hm.row 2 rfl))) rfl rfl rfl (w_n rfl) ?_
  intro d w1 w2 hm1 hR
  refine TL_q (.pointer (some ⟨d.p, 0, none⟩)) (fun _ _ hρ _ => r_assign (hρ _ _ rfl)) rfl rfl rfl (w_n rfl) ?_
  refine TL_seq ?_
  refine T_ret' ?_
  refine ret_of rfl (.pointer (some ⟨d.p, 0, none⟩)) (fun tmps w hk hm => res1 rfl (res_tmp (hk 6 _ rfl))) (fun w hm => ?_)
  obtain ⟨h1, h2, h3, h4, h5⟩ := hR
  exact ⟨d, rfl, (h1.before hm1.ext).after hm.ext, h2, h3, h4, h5.before hm1.ext.size⟩
end Go.Proofs.Ytbiapeaghbndoaa
