/- canvas: references: Differ, Kept; dots of one colour. Printed by a program of this seat's prover. -/
import Derived.Test.YtbiapeaghbndoaaRefB
namespace Go.Proofs.Ytbiapeaghbndoaa
open Go Go.RowKit
set_option maxRecDepth 10000
set_option maxHeartbeats 1000000 in
theorem rdiffer_c (wd hg : Nat) (ts : List T64) (a : Option Addr) (cap : Nat) (w : World) (hs : SliceAt w a cap 256 T64.cells ts) (hlen : ts.length = wd * hg) (hwd : 1 ≤ wd ∧ wd ≤ 4) (hhg : 1 ≤ hg ∧ hg ≤ 4) (us : List T64) (b : Option Addr) (capb : Nat) (hu : SliceAt w b capb 256 T64.cells us) (hul : us.length = ts.length) : Calls Try.prog 33 #[.agg #[.int .i64 (wd : Int), .int .i64 (hg : Int), .slice a ts.length cap], .agg #[.int .i64 (wd : Int), .int .i64 (hg : Int), .slice b us.length capb]] w fun e w' => ∃ a' cap', e = .returned (.slice a' (difC wd hg ts us).length cap') ∧ Below w.heap.size w w' ∧ w'.ownsRow w.heap.size 47 2 (.slice a' (difC wd hg ts us).length cap') (difC wd hg ts us).length ((difC wd hg ts us).flatMap ptn) := by
  have h16 := size4 hwd hhg
  refine calls_of_T (l := [.agg #[.int .i64 ((wd : Nat) : Int), .int .i64 ((hg : Nat) : Int), .slice a ts.length cap], .agg #[.int .i64 ((wd : Nat) : Int), .int .i64 ((hg : Nat) : Int), .slice b us.length capb]]) 38 Try.func33 rfl rfl rfl ?_
  show T _ _ _ [(0, .agg #[.int .i64 ((wd : Nat) : Int), .int .i64 ((hg : Nat) : Int), .slice a ts.length cap]), (1, .agg #[.int .i64 ((wd : Nat) : Int), .int .i64 ((hg : Nat) : Int), .slice b us.length capb])] []
  refine T_seq (T_region ?_)
  refine TL_new 1 (.cells #[.int .i64 ((wd : Nat) : Int), .int .i64 ((hg : Nat) : Int), .slice a ts.length cap] 24) (fun B => .pointer (some ⟨B, 0, none⟩)) (fun _ _ hρ _ => r_box (hρ _ _ rfl) rfl) rfl rfl rfl (w_n rfl) ?_
  intro B1
  refine TL_new 2 (.cells #[.int .i64 ((wd : Nat) : Int), .int .i64 ((hg : Nat) : Int), .slice b us.length capb] 24) (fun B => .pointer (some ⟨B, 0, none⟩)) (fun _ _ hρ _ => r_box (hρ _ _ rfl) rfl) rfl rfl rfl (w_n rfl) ?_
  intro B2
  refine TL_q (.slice none 0 0) (fun _ _ hρ _ => r_assign (hρ _ _ rfl)) rfl rfl rfl (w_n rfl) ?_
  refine TL_seq ?_
  refine T_seq (T_region ?_)
  refine TL_q (.slice none 0 0) (fun _ _ hρ _ => r_assign (hρ _ _ rfl)) rfl rfl rfl (w_n rfl) ?_
  refine TL_seq ?_
  refine T_seq ?_
  refine T_seq (T_region ?_)
  refine TL_q (.pointer (some ⟨B1, 1, none⟩)) (fun _ _ hρ _ => r_fieldAddr fl24_1 sz3 (hρ _ _ rfl)) rfl rfl rfl (w_n rfl) ?_
  refine TL_q (.int .i64 ((hg : Nat) : Int)) (fun _ _ hρ hm => r_load ag3 (hρ _ _ rfl) (hm.at 1 rfl) rfl) rfl rfl rfl (w_n rfl) ?_
  refine TL_q (.int .i64 ((8 * hg : Nat) : Int)) (fun _ _ hρ _ => r_as (r_mul (hρ _ _ rfl) (hρ _ _ rfl)) (int_as ((wrap64 (by omega) (by omega)).trans (by omega)))) rfl rfl rfl (w_n rfl) ?_
  refine TL_q (.int .i64 0) (fun _ _ hρ _ => r_move (hρ _ _ rfl)) rfl rfl rfl (w_n rfl) ?_
  refine TL_seq ?_
  refine T_block ?_
  refine T_mem (_ :: _) (fun _ hm => hm.nilRow 950 47 2) ?_
  refine T_loop (ι := Nat × Option Addr × Nat) (fun (z : Nat × Option Addr × Nat) => match z with | (y, a2, cap2) => y ≤ 8 * hg) (fun (z : Nat × Option Addr × Nat) => match z with | (y, a2, cap2) => [(2, .pointer (some ⟨B1, 0, none⟩)), (3, .pointer (some ⟨B2, 0, none⟩)), (4, .slice none 0 0), (10, .int .i64 ((8 * hg : Nat) : Int)), (11, .int .i64 ((y : Nat) : Int)), (5, .slice a2 ((difN wd hg ts us (y * (8 * wd))).length) cap2)]) (fun (z : Nat × Option Addr × Nat) => match z with | (y, a2, cap2) => [(1, .blk B1 (.cells #[.int .i64 ((wd : Nat) : Int), .int .i64 ((hg : Nat) : Int), .slice a ts.length cap] 24)), (2, .blk B2 (.cells #[.int .i64 ((wd : Nat) : Int), .int .i64 ((hg : Nat) : Int), .slice b us.length capb] 24)), (950, .row (.slice a2 ((difN wd hg ts us (y * (8 * wd))).length) cap2) 47 2 ((difN wd hg ts us (y * (8 * wd))).length) ((difN wd hg ts us (y * (8 * wd))).flatMap ptn))]) (fun (z : Nat × Option Addr × Nat) => match z with | (y, a2, cap2) => 8 * hg - y) (0, none, 0) (Nat.zero_le _) (sub_cons rfl (sub_cons rfl (sub_cons rfl (sub_cons rfl (sub_cons rfl (sub_cons (by rw [Nat.zero_mul]; rfl) sub_nil)))))) (sub_cons rfl (sub_cons rfl (sub_cons (by rw [Nat.zero_mul]; rfl) sub_nil))) ?_
  rintro ⟨y, a2, cap2⟩ hp
  show T _ _ _ [(2, .pointer (some ⟨B1, 0, none⟩)), (3, .pointer (some ⟨B2, 0, none⟩)), (4, .slice none 0 0), (10, .int .i64 ((8 * hg : Nat) : Int)), (11, .int .i64 ((y : Nat) : Int)), (5, .slice a2 ((difN wd hg ts us (y * (8 * wd))).length) cap2)] [(1, .blk B1 (.cells #[.int .i64 ((wd : Nat) : Int), .int .i64 ((hg : Nat) : Int), .slice a ts.length cap] 24)), (2, .blk B2 (.cells #[.int .i64 ((wd : Nat) : Int), .int .i64 ((hg : Nat) : Int), .slice b us.length capb] 24)), (950, .row (.slice a2 ((difN wd hg ts us (y * (8 * wd))).length) cap2) 47 2 ((difN wd hg ts us (y * (8 * wd))).length) ((difN wd hg ts us (y * (8 * wd))).flatMap ptn))]
  refine T_seq (T_region ?_)
  refine TL_q (.bool (decide (((y : Nat) : Int) < ((8 * hg : Nat) : Int)))) (fun _ _ hρ _ => r_lss (hρ _ _ rfl) (hρ _ _ rfl)) rfl rfl rfl (w_n rfl) ?_
  refine TL_seq ?_
  refine T_seq ?_
  refine T_cond rfl (fun h1 => ?_) (fun h1 => ?_)
  · replace h1 := of_decide_eq_true h1
    refine T_skip' ?_
    refine p_seq ?_
    refine T_seq ?_
    refine T_block ?_
    refine T_seq (T_region ?_)
    refine TL_q (.int .i64 ((y : Nat) : Int)) (fun _ _ hρ _ => r_move (hρ _ _ rfl)) rfl rfl rfl (w_n rfl) ?_
    refine TL_q (.int .i64 ((y : Nat) : Int)) (fun _ _ hρ _ => r_assign (hρ _ _ rfl)) rfl rfl rfl (w_n rfl) ?_
    refine TL_seq ?_
    refine T_seq (T_region ?_)
    refine TL_q (.pointer (some ⟨B1, 0, none⟩)) (fun _ _ hρ _ => r_fieldAddr fl24_0 sz3 (hρ _ _ rfl)) rfl rfl rfl (w_n rfl) ?_
    refine TL_q (.int .i64 ((wd : Nat) : Int)) (fun _ _ hρ hm => r_load ag3 (hρ _ _ rfl) (hm.at 1 rfl) rfl) rfl rfl rfl (w_n rfl) ?_
    refine TL_q (.int .i64 ((8 * wd : Nat) : Int)) (fun _ _ hρ _ => r_as (r_mul (hρ _ _ rfl) (hρ _ _ rfl)) (int_as ((wrap64 (by omega) (by omega)).trans (by omega)))) rfl rfl rfl (w_n rfl) ?_
    refine TL_q (.int .i64 0) (fun _ _ hρ _ => r_move (hρ _ _ rfl)) rfl rfl rfl (w_n rfl) ?_
    refine TL_seq ?_
    refine T_block ?_
    refine T_loop (ι := Nat × Option Addr × Nat) (fun (z : Nat × Option Addr × Nat) => match z with | (x, a3, cap3) => x ≤ 8 * wd) (fun (z : Nat × Option Addr × Nat) => match z with | (x, a3, cap3) => [(2, .pointer (some ⟨B1, 0, none⟩)), (3, .pointer (some ⟨B2, 0, none⟩)), (4, .slice none 0 0), (10, .int .i64 ((8 * hg : Nat) : Int)), (11, .int .i64 ((y : Nat) : Int)), (12, .bool (decide (((y : Nat) : Int) < ((8 * hg : Nat) : Int)))), (13, .int .i64 ((y : Nat) : Int)), (6, .int .i64 ((y : Nat) : Int)), (14, .pointer (some ⟨B1, 0, none⟩)), (15, .int .i64 ((wd : Nat) : Int)), (16, .int .i64 ((8 * wd : Nat) : Int)), (17, .int .i64 ((x : Nat) : Int)), (5, .slice a3 ((difN wd hg ts us (y * (8 * wd) + x)).length) cap3)]) (fun (z : Nat × Option Addr × Nat) => match z with | (x, a3, cap3) => [(1, .blk B1 (.cells #[.int .i64 ((wd : Nat) : Int), .int .i64 ((hg : Nat) : Int), .slice a ts.length cap] 24)), (2, .blk B2 (.cells #[.int .i64 ((wd : Nat) : Int), .int .i64 ((hg : Nat) : Int), .slice b us.length capb] 24)), (950, .row (.slice a3 ((difN wd hg ts us (y * (8 * wd) + x)).length) cap3) 47 2 ((difN wd hg ts us (y * (8 * wd) + x)).length) ((difN wd hg ts us (y * (8 * wd) + x)).flatMap ptn))]) (fun (z : Nat × Option Addr × Nat) => match z with | (x, a3, cap3) => 8 * wd - x) (0, a2, cap2) (Nat.zero_le _) (sub_cons rfl (sub_cons rfl (sub_cons rfl (sub_cons rfl (sub_cons rfl (sub_cons rfl (sub_cons rfl (sub_cons rfl (sub_cons rfl (sub_cons rfl (sub_cons rfl (sub_cons rfl (sub_cons rfl sub_nil))))))))))))) (sub_cons rfl (sub_cons rfl (sub_cons rfl sub_nil))) ?_
    rintro ⟨x, a3, cap3⟩ hp
    have hdl := dif_le wd hg ts us (y * (8 * wd) + x) hwd hhg
    show T _ _ _ [(2, .pointer (some ⟨B1, 0, none⟩)), (3, .pointer (some ⟨B2, 0, none⟩)), (4, .slice none 0 0), (10, .int .i64 ((8 * hg : Nat) : Int)), (11, .int .i64 ((y : Nat) : Int)), (12, .bool (decide (((y : Nat) : Int) < ((8 * hg : Nat) : Int)))), (13, .int .i64 ((y : Nat) : Int)), (6, .int .i64 ((y : Nat) : Int)), (14, .pointer (some ⟨B1, 0, none⟩)), (15, .int .i64 ((wd : Nat) : Int)), (16, .int .i64 ((8 * wd : Nat) : Int)), (17, .int .i64 ((x : Nat) : Int)), (5, .slice a3 ((difN wd hg ts us (y * (8 * wd) + x)).length) cap3)] [(1, .blk B1 (.cells #[.int .i64 ((wd : Nat) : Int), .int .i64 ((hg : Nat) : Int), .slice a ts.length cap] 24)), (2, .blk B2 (.cells #[.int .i64 ((wd : Nat) : Int), .int .i64 ((hg : Nat) : Int), .slice b us.length capb] 24)), (950, .row (.slice a3 ((difN wd hg ts us (y * (8 * wd) + x)).length) cap3) 47 2 ((difN wd hg ts us (y * (8 * wd) + x)).length) ((difN wd hg ts us (y * (8 * wd) + x)).flatMap ptn))]
    refine T_seq (T_region ?_)
    refine TL_q (.bool (decide (((x : Nat) : Int) < ((8 * wd : Nat) : Int)))) (fun _ _ hρ _ => r_lss (hρ _ _ rfl) (hρ _ _ rfl)) rfl rfl rfl (w_n rfl) ?_
    refine TL_seq ?_
    refine T_seq ?_
    refine T_cond rfl (fun h2 => ?_) (fun h2 => ?_)
    · replace h2 := of_decide_eq_true h2
      refine T_skip' ?_
      refine p_seq ?_
      refine T_seq ?_
      refine T_block ?_
      refine T_seq (T_region ?_)
      refine TL_q (.int .i64 ((x : Nat) : Int)) (fun _ _ hρ _ => r_move (hρ _ _ rfl)) rfl rfl rfl (w_n rfl) ?_
      refine TL_q (.int .i64 ((x : Nat) : Int)) (fun _ _ hρ _ => r_assign (hρ _ _ rfl)) rfl rfl rfl (w_n rfl) ?_
      refine TL_seq ?_
      have hx8 : x < 8 * wd := by omega
      have hy8 : y < 8 * hg := by omega
      have hpt := ptsC_at hx8 hy8
      refine T_seq (T_draw (V := [(0, .agg #[.int .i64 ((wd : Nat) : Int), .int .i64 ((hg : Nat) : Int), .slice a ts.length cap]), (1, .int .i64 ((x : Nat) : Int)), (2, .int .i64 ((y : Nat) : Int)), (4, .agg #[.int .i64 ((wd : Nat) : Int), .int .i64 ((hg : Nat) : Int), .slice b us.length capb]), (5, .int .i64 ((x : Nat) : Int)), (6, .int .i64 ((y : Nat) : Int))]) [0, 0, 0, 7, 0, 0, 0, 127, 255] [[(2, none)], [(7, none)], [(6, none)], [(20, some 0), (21, some 1), (22, some 2)], [(3, none)], [(7, none)], [(6, none)], [(24, some 4), (25, some 5), (26, some 6)], [(23, some 3), (27, some 7)]] 136 mixed (by kernel_rfl) ?_)
      refine G_step [0, 1, 2, 4, 5, 6] 3 [] (by kernel_rfl) (allM (all_cons (q_run (.agg #[.int .i64 ((wd : Nat) : Int), .int .i64 ((hg : Nat) : Int), .slice a ts.length cap]) rfl rfl (wv_n rfl) rfl (fun _ _ hρ hm => r_loadA ag24 sz24 (hρ _ _ rfl) (hm.at 1 rfl) rfl rfl)) (all_cons (q_run (.int .i64 ((x : Nat) : Int)) rfl rfl (wv_n rfl) rfl (fun _ _ hρ _ => r_move (hρ _ _ rfl))) (all_cons (q_run (.int .i64 ((y : Nat) : Int)) rfl rfl (wv_n rfl) rfl (fun _ _ hρ _ => r_move (hρ _ _ rfl))) (all_cons (q_run (.agg #[.int .i64 ((wd : Nat) : Int), .int .i64 ((hg : Nat) : Int), .slice b us.length capb]) rfl rfl (wv_n rfl) rfl (fun _ _ hρ hm => r_loadA ag24 sz24 (hρ _ _ rfl) (hm.at 2 rfl) rfl rfl)) (all_cons (q_run (.int .i64 ((x : Nat) : Int)) rfl rfl (wv_n rfl) rfl (fun _ _ hρ _ => r_move (hρ _ _ rfl))) (all_cons (q_run (.int .i64 ((y : Nat) : Int)) rfl rfl (wv_n rfl) rfl (fun _ _ hρ _ => r_move (hρ _ _ rfl))) all_nil))))))) (allM (all_cons ?_ all_nil))
      refine LOb_call (.agg #[.int .u8 ((colAt wd ts x y).r), .int .u8 ((colAt wd ts x y).g), .int .u8 ((colAt wd ts x y).b), .int .u8 ((colAt wd ts x y).a)]) [] rfl (wv_n rfl) rfl rfl (fun _ _ hρ _ => r_call (args := [.agg #[.int .i64 ((wd : Nat) : Int), .int .i64 ((hg : Nat) : Int), .slice a ts.length cap], .int .i64 ((x : Nat) : Int), .int .i64 ((y : Nat) : Int)]) (enters_of Try.func36 (by kernel_rfl) rfl) (hρ _ _ rfl) ((cons2 (hρ _ _ rfl) (cons2 (hρ _ _ rfl) (cons2 (hρ _ _ rfl) rfl)))) rfl) (fun w hm => rat_c wd hg ts a cap w (hs.keep hm.ext) (by omega) hwd hhg x y hx8 hy8) (by kernel_rfl) ?_
      refine G_step [4, 5, 6] 7 [] (by kernel_rfl) (allM (all_cons (q_run (.agg #[.int .i64 ((wd : Nat) : Int), .int .i64 ((hg : Nat) : Int), .slice b us.length capb]) rfl rfl (wv_n rfl) rfl (fun _ _ hρ hm => r_loadA ag24 sz24 (hρ _ _ rfl) (hm.at 2 rfl) rfl rfl)) (all_cons (q_run (.int .i64 ((x : Nat) : Int)) rfl rfl (wv_n rfl) rfl (fun _ _ hρ _ => r_move (hρ _ _ rfl))) (all_cons (q_run (.int .i64 ((y : Nat) : Int)) rfl rfl (wv_n rfl) rfl (fun _ _ hρ _ => r_move (hρ _ _ rfl))) all_nil)))) (allM (all_cons ?_ all_nil))
      refine LOb_call (.agg #[.int .u8 ((colAt wd us x y).r), .int .u8 ((colAt wd us x y).g), .int .u8 ((colAt wd us x y).b), .int .u8 ((colAt wd us x y).a)]) [(8, .bool (!decide ((colAt wd ts x y) = (colAt wd us x y))))] rfl (wv_n rfl) rfl rfl (fun _ _ hρ _ => r_call (args := [.agg #[.int .i64 ((wd : Nat) : Int), .int .i64 ((hg : Nat) : Int), .slice b us.length capb], .int .i64 ((x : Nat) : Int), .int .i64 ((y : Nat) : Int)]) (enters_of Try.func36 (by kernel_rfl) rfl) (hρ _ _ rfl) ((cons2 (hρ _ _ rfl) (cons2 (hρ _ _ rfl) (cons2 (hρ _ _ rfl) rfl)))) rfl) (fun w hm => rat_c wd hg us b capb w (hu.keep hm.ext) (by omega) hwd hhg x y hx8 hy8) (by kernel_rfl) ?_
      refine G_last [8] [(2, .pointer (some ⟨B1, 0, none⟩)), (3, .pointer (some ⟨B2, 0, none⟩)), (4, .slice none 0 0), (10, .int .i64 ((8 * hg : Nat) : Int)), (11, .int .i64 ((y : Nat) : Int)), (12, .bool (decide (((y : Nat) : Int) < ((8 * hg : Nat) : Int)))), (13, .int .i64 ((y : Nat) : Int)), (6, .int .i64 ((y : Nat) : Int)), (14, .pointer (some ⟨B1, 0, none⟩)), (15, .int .i64 ((wd : Nat) : Int)), (16, .int .i64 ((8 * wd : Nat) : Int)), (17, .int .i64 ((x : Nat) : Int)), (5, .slice a3 ((difN wd hg ts us (y * (8 * wd) + x)).length) cap3), (18, .bool (decide (((x : Nat) : Int) < ((8 * wd : Nat) : Int)))), (19, .int .i64 ((x : Nat) : Int)), (7, .int .i64 ((x : Nat) : Int)), (20, .agg #[.int .i64 ((wd : Nat) : Int), .int .i64 ((hg : Nat) : Int), .slice a ts.length cap]), (21, .int .i64 ((x : Nat) : Int)), (22, .int .i64 ((y : Nat) : Int)), (23, .agg #[.int .u8 ((colAt wd ts x y).r), .int .u8 ((colAt wd ts x y).g), .int .u8 ((colAt wd ts x y).b), .int .u8 ((colAt wd ts x y).a)]), (24, .agg #[.int .i64 ((wd : Nat) : Int), .int .i64 ((hg : Nat) : Int), .slice b us.length capb]), (25, .int .i64 ((x : Nat) : Int)), (26, .int .i64 ((y : Nat) : Int)), (27, .agg #[.int .u8 ((colAt wd us x y).r), .int .u8 ((colAt wd us x y).g), .int .u8 ((colAt wd us x y).b), .int .u8 ((colAt wd us x y).a)]), (28, .bool (!decide ((colAt wd ts x y) = (colAt wd us x y))))] (by kernel_rfl) (allM (all_cons (q_run (.bool (!decide ((colAt wd ts x y) = (colAt wd us x y)))) rfl rfl (wv_n rfl) rfl (fun _ _ hρ _ => r_as (r_neqA (by kernel_rfl) (hρ _ _ rfl) (hρ _ _ rfl) (run_equalI (l := [(0, .u8), (1, .u8), (2, .u8), (3, .u8)]) (by kernel_rfl) rfl rfl)) (bool_as (congrArg (fun b => !b) (eqC (colAt wd ts x y) (colAt wd us x y)))))) all_nil)) (end_old rfl rfl (end_old rfl rfl (end_old rfl rfl (end_old rfl rfl (end_old rfl rfl (end_old rfl rfl (end_old rfl rfl (end_old rfl rfl (end_old rfl rfl (end_old rfl rfl (end_old rfl rfl (end_old rfl rfl (end_old rfl rfl (end_old rfl rfl (end_old rfl rfl (end_old rfl rfl (end_new 0 rfl rfl (end_new 1 rfl rfl (end_new 2 rfl rfl (end_new 3 rfl rfl (end_new 4 rfl rfl (end_new 5 rfl rfl (end_new 6 rfl rfl (end_new 7 rfl rfl (end_new 8 rfl rfl end_nil))))))))))))))))))))))))) ?_
      refine T_cond rfl (fun h3 => ?_) (fun h3 => ?_)
      · replace h3 := of_decide_eq_false (bnot_t h3)
        refine T_region ?_
        refine TL_q (.slice a3 ((difN wd hg ts us (y * (8 * wd) + x)).length) cap3) (fun _ _ hρ _ => r_move (hρ _ _ rfl)) rfl rfl rfl (w_n rfl) ?_
        refine TL_q (.int .i64 ((x : Nat) : Int)) (fun _ _ hρ _ => r_move (hρ _ _ rfl)) rfl rfl rfl (w_n rfl) ?_
        refine TL_q (.int .i64 ((y : Nat) : Int)) (fun _ _ hρ _ => r_move (hρ _ _ rfl)) rfl rfl rfl (w_n rfl) ?_
        refine TL_q (.agg #[.int .i64 ((x : Nat) : Int), .int .i64 ((y : Nat) : Int)]) (fun _ _ hρ _ => r_build (vs := [(0, .int .i64 ((x : Nat) : Int)), (1, .int .i64 ((y : Nat) : Int))]) (by kernel_rfl) (cons2 (pair2 (hρ _ _ rfl)) (cons2 (pair2 (hρ _ _ rfl)) rfl))) rfl rfl rfl (w_n rfl) ?_
        refine TL_new 3 (.cells #[.int .i64 ((x : Nat) : Int), .int .i64 ((y : Nat) : Int)] 47) (fun B => .slice (some ⟨B, 0, none⟩) 1 1) (fun _ _ hρ _ => r_buildSlice (vs := [(0, .agg #[.int .i64 ((x : Nat) : Int), .int .i64 ((y : Nat) : Int)])]) (by kernel_rfl) (cons2 (pair2 (hρ _ _ rfl)) rfl)) rfl rfl rfl (w_n rfl) ?_
        intro B3
        refine TL_append (n := (difN wd hg ts us (y * (8 * wd) + x)).length) (m := 1) (xs := ((difN wd hg ts us (y * (8 * wd) + x)).flatMap ptn)) (news := [.int .i64 ((x : Nat) : Int), .int .i64 ((y : Nat) : Int)]) (z := .agg #[.int .i64 0, .int .i64 0]) 950 rfl rfl rfl sl44 sz47 by47 (by kernel_rfl) rfl rfl (.inl rfl) (fun _ hm => src_blk (news := [.int .i64 ((x : Nat) : Int), .int .i64 ((y : Nat) : Int)]) (hm.at 3 rfl) rfl) (by first | exact T64.cells_one _ | simp [Value.oneCell']) (by omega) (by omega) rfl (w_n rfl) ?_
        intro a4 cap4
        refine TL_q (.slice a4 ((difN wd hg ts us (y * (8 * wd) + x)).length + 1) cap4) (fun _ _ hρ _ => r_assign (hρ _ _ rfl)) rfl rfl rfl (w_n rfl) ?_
        refine TL_nil ?_
        refine p_blk_n ?_
        refine p_seq ?_
        refine T_region ?_
        refine TL_q (.int .i64 ((x + 1 : Nat) : Int)) (fun _ _ hρ _ => r_as (r_add (hρ _ _ rfl) (hρ _ _ rfl)) (int_as ((wrap64 (by omega) (by omega)).trans (by omega)))) rfl rfl rfl (w_n rfl) ?_
        refine TL_q (.int .i64 ((x + 1 : Nat) : Int)) (fun _ _ hρ _ => r_move (hρ _ _ rfl)) rfl rfl rfl (w_n rfl) ?_
        refine TL_nil ?_
        have hdt := dif_t hpt h3
        rw [show ((difN wd hg ts us (y * (8 * wd) + x)).length + 1) = (difN wd hg ts us (y * (8 * wd) + x + 1)).length from by rw [hdt]; simp, show (((difN wd hg ts us (y * (8 * wd) + x)).flatMap ptn) ++ [.int .i64 ((x : Nat) : Int), .int .i64 ((y : Nat) : Int)]) = (difN wd hg ts us (y * (8 * wd) + x + 1)).flatMap ptn from by rw [hdt]; simp [ptn]]
        exact p_at (x + 1, a4, cap4) ⟨by omega, by dsimp only; omega⟩ (sub_cons rfl (sub_cons rfl (sub_cons rfl (sub_cons rfl (sub_cons rfl (sub_cons rfl (sub_cons rfl (sub_cons rfl (sub_cons rfl (sub_cons rfl (sub_cons rfl (sub_cons rfl (sub_cons rfl sub_nil))))))))))))) (sub_cons rfl (sub_cons rfl (sub_cons rfl sub_nil)))
      · replace h3 := of_decide_eq_true (bnot_f h3)
        refine T_skip' ?_
        refine p_blk_n ?_
        refine p_seq ?_
        refine T_region ?_
        refine TL_q (.int .i64 ((x + 1 : Nat) : Int)) (fun _ _ hρ _ => r_as (r_add (hρ _ _ rfl) (hρ _ _ rfl)) (int_as ((wrap64 (by omega) (by omega)).trans (by omega)))) rfl rfl rfl (w_n rfl) ?_
        refine TL_q (.int .i64 ((x + 1 : Nat) : Int)) (fun _ _ hρ _ => r_move (hρ _ _ rfl)) rfl rfl rfl (w_n rfl) ?_
        refine TL_nil ?_
        have hdf := dif_f hpt h3
        rw [← hdf]
        exact p_at (x + 1, a3, cap3) ⟨by omega, by dsimp only; omega⟩ (sub_cons rfl (sub_cons rfl (sub_cons rfl (sub_cons rfl (sub_cons rfl (sub_cons rfl (sub_cons rfl (sub_cons rfl (sub_cons rfl (sub_cons rfl (sub_cons rfl (sub_cons rfl (sub_cons rfl sub_nil))))))))))))) (sub_cons rfl (sub_cons rfl (sub_cons rfl sub_nil)))
    · replace h2 := of_decide_eq_false h2
      refine T_exit' ?_
      refine p_then_x ?_
      refine p_then_x ?_
      refine p_blk_x ?_
      refine p_blk_n ?_
      refine p_seq ?_
      have hx8 : x = 8 * wd := by omega
      subst hx8
      refine T_region ?_
      refine TL_q (.int .i64 ((y + 1 : Nat) : Int)) (fun _ _ hρ _ => r_as (r_add (hρ _ _ rfl) (hρ _ _ rfl)) (int_as ((wrap64 (by omega) (by omega)).trans (by omega)))) rfl rfl rfl (w_n rfl) ?_
      refine TL_q (.int .i64 ((y + 1 : Nat) : Int)) (fun _ _ hρ _ => r_move (hρ _ _ rfl)) rfl rfl rfl (w_n rfl) ?_
      refine TL_nil ?_
      rw [row_end y (8 * wd)]
      exact p_at (y + 1, a3, cap3) ⟨by omega, by dsimp only; omega⟩ (sub_cons rfl (sub_cons rfl (sub_cons rfl (sub_cons rfl (sub_cons rfl (sub_cons rfl sub_nil)))))) (sub_cons rfl (sub_cons rfl (sub_cons rfl sub_nil)))
  · replace h1 := of_decide_eq_false h1
    refine T_exit' ?_
    refine p_then_x ?_
    refine p_then_x ?_
    refine p_blk_x ?_
    refine p_seq ?_
    refine T_seq (T_region ?_)
    refine TL_q (.slice a2 ((difN wd hg ts us (y * (8 * wd))).length) cap2) (fun _ _ hρ _ => r_move (hρ _ _ rfl)) rfl rfl rfl (w_n rfl) ?_
    refine TL_q (.slice a2 ((difN wd hg ts us (y * (8 * wd))).length) cap2) (fun _ _ hρ _ => r_assign (hρ _ _ rfl)) rfl rfl rfl (w_n rfl) ?_
    refine TL_seq ?_
    refine T_ret' ?_
    refine ret_of rfl (.slice a2 ((difN wd hg ts us (y * (8 * wd))).length) cap2) (fun tmps w hk hm => res1 rfl (res_tmp (hk 4 _ rfl))) (fun w hm => ?_)
    have hy8 : y = 8 * hg := by omega
    subst hy8
    have hrow := hm.row 950 rfl
    rw [← ptsC_len, dif_all] at hrow ⊢
    exact ⟨a2, cap2, rfl, hm.ext, hrow⟩

theorem CvNew.before {w w1 w2 : World} {l : List Cv} {d : Cv} (h : CvNew w1 w2 l d) (hb : Below w.heap.size w w1) : CvNew w w2 l d :=
  ⟨below_call hb (Nat.le_refl _) h.below, h.at', fun b hf => (h.foot b hf).imp (fun h1 => Nat.le_trans hb.size h1) id⟩
theorem CvNew.after {w w1 w2 : World} {l : List Cv} {d : Cv} (h : CvNew w w1 l d) (hb : Below w1.heap.size w1 w2) : CvNew w w2 l d :=
  ⟨below_call h.below (Nat.le_refl _) hb, h.at'.below hb, h.foot⟩
theorem Shares.before {n m : Nat} {c d : Cv} (h : Shares m c d) (hn : n ≤ m) : Shares n c d := fun i q hq => by
  obtain ⟨r, h1, h2, h3⟩ := h i q hq
  exact ⟨r, h1, h2, h3.imp id fun h4 => Nat.le_trans hn h4⟩

end Go.Proofs.Ytbiapeaghbndoaa
