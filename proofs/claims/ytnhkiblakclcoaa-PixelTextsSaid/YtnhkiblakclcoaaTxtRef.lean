/- pixel: the reference's texts. Printed by a program of this seat's prover. -/
import Derived.Test.YtnhkiblakclcoaaTxt
import Derived.Test.YtnhkiblakclcoaaRefs
namespace Go.Proofs.Ytnhkiblakclcoaa
open Go.RowKit
set_option maxRecDepth 10000
theorem hex_ref (n : Nat) (w : World) (hn : n < 256) : Calls Try.prog 31 #[.int .i64 n] w fun e w' => e = .returned (.string (hexT n)) ∧ Below w.heap.size w w' := by
  have hd := digB_size
  refine calls_of_T (l := [.int .i64 ((n : Nat) : Int)]) 19 Try.func31 rfl rfl rfl ?_
  show T _ _ _ [(0, .int .i64 ((n : Nat) : Int))] []
  refine T_seq (T_region ?_)
  refine TL_q (.string noB) (fun _ _ hρ _ => r_assign (hρ _ _ rfl)) rfl rfl rfl (w_n rfl) ?_
  refine TL_seq ?_
  refine T_seq (T_region ?_)
  refine TL_q (.string digB) (fun _ _ hρ _ => r_assign (hρ _ _ rfl)) rfl rfl rfl (w_n rfl) ?_
  refine TL_seq ?_
  refine T_seq (T_draw (V := [(0, .string digB), (1, .int .i64 ((n : Nat) : Int)), (2, .int .i64 ((n / 16 : Nat) : Int)), (3, .int .i64 ((n : Nat) : Int)), (4, .int .i64 ((n / 16 : Nat) : Int)), (5, .int .i64 ((n / 16 + 1 : Nat) : Int)), (6, .string (digB.extract (n / 16) (n / 16 + 1))), (7, .string digB), (8, .int .i64 ((n : Nat) : Int)), (9, .int .i64 ((n % 16 : Nat) : Int)), (10, .int .i64 ((n : Nat) : Int)), (11, .int .i64 ((n % 16 : Nat) : Int)), (12, .int .i64 ((n % 16 + 1 : Nat) : Int)), (13, .string (digB.extract (n % 16) (n % 16 + 1))), (14, .string ((digB.extract (n / 16) (n / 16 + 1)) ++ (digB.extract (n % 16) (n % 16 + 1)))), (15, .string ((digB.extract (n / 16) (n / 16 + 1)) ++ (digB.extract (n % 16) (n % 16 + 1))))]) [0, 0, 2, 0, 8, 24, 63, 0, 0, 256, 0, 1024, 3072, 8064, 16383, 32767] [[(3, none)], [(0, none)], [(5, some 1)], [(0, none)], [(7, some 3)], [(8, some 4)], [(4, some 0), (6, some 2), (9, some 5)], [(3, none)], [(0, none)], [(12, some 8)], [(0, none)], [(14, some 10)], [(15, some 11)], [(11, some 7), (13, some 9), (16, some 12)], [(10, some 6), (17, some 13)], [(18, some 14)]] 0 mixed (by kernel_rfl) ?_)
  refine G_last [0, 1, 2, 3, 4, 5, 6, 7, 8, 9, 10, 11, 12, 13, 14, 15] [(2, .string ((digB.extract (n / 16) (n / 16 + 1)) ++ (digB.extract (n % 16) (n % 16 + 1))))] (by kernel_rfl) (allM (all_cons (q_run (.string digB) rfl rfl (wv_n rfl) rfl (fun _ _ hρ _ => r_move (hρ _ _ rfl))) (all_cons (q_run (.int .i64 ((n : Nat) : Int)) rfl rfl (wv_n rfl) rfl (fun _ _ hρ _ => r_move (hρ _ _ rfl))) (all_cons (q_run (.int .i64 ((n / 16 : Nat) : Int)) rfl rfl (wv_n rfl) rfl (fun _ _ hρ _ => r_as (r_quo (hρ _ _ rfl) (hρ _ _ rfl) (by omega)) (int_as ((quo_i64 (by omega) (by omega) (by omega)).trans (by omega))))) (all_cons (q_run (.int .i64 ((n : Nat) : Int)) rfl rfl (wv_n rfl) rfl (fun _ _ hρ _ => r_move (hρ _ _ rfl))) (all_cons (q_run (.int .i64 ((n / 16 : Nat) : Int)) rfl rfl (wv_n rfl) rfl (fun _ _ hρ _ => r_as (r_quo (hρ _ _ rfl) (hρ _ _ rfl) (by omega)) (int_as ((quo_i64 (by omega) (by omega) (by omega)).trans (by omega))))) (all_cons (q_run (.int .i64 ((n / 16 + 1 : Nat) : Int)) rfl rfl (wv_n rfl) rfl (fun _ _ hρ _ => r_as (r_add (hρ _ _ rfl) (hρ _ _ rfl)) (int_as ((wrap64 (by omega) (by omega)).trans (by omega))))) (all_cons (q_run (.string (digB.extract (n / 16) (n / 16 + 1))) rfl rfl (wv_n rfl) rfl (fun _ _ hρ _ => r_sliceT st9 (hρ _ _ rfl) (bd_some (n := n / 16 + 1) (hρ _ _ rfl)) (bd_some (n := n / 16) (hρ _ _ rfl)) (by omega) (by omega))) (all_cons (q_run (.string digB) rfl rfl (wv_n rfl) rfl (fun _ _ hρ _ => r_move (hρ _ _ rfl))) (all_cons (q_run (.int .i64 ((n : Nat) : Int)) rfl rfl (wv_n rfl) rfl (fun _ _ hρ _ => r_move (hρ _ _ rfl))) (all_cons (q_run (.int .i64 ((n % 16 : Nat) : Int)) rfl rfl (wv_n rfl) rfl (fun _ _ hρ _ => r_as (r_rem (hρ _ _ rfl) (hρ _ _ rfl) (by omega)) (int_as ((Int.tmod_eq_emod_of_nonneg (by omega)).trans (by omega))))) (all_cons (q_run (.int .i64 ((n : Nat) : Int)) rfl rfl (wv_n rfl) rfl (fun _ _ hρ _ => r_move (hρ _ _ rfl))) (all_cons (q_run (.int .i64 ((n % 16 : Nat) : Int)) rfl rfl (wv_n rfl) rfl (fun _ _ hρ _ => r_as (r_rem (hρ _ _ rfl) (hρ _ _ rfl) (by omega)) (int_as ((Int.tmod_eq_emod_of_nonneg (by omega)).trans (by omega))))) (all_cons (q_run (.int .i64 ((n % 16 + 1 : Nat) : Int)) rfl rfl (wv_n rfl) rfl (fun _ _ hρ _ => r_as (r_add (hρ _ _ rfl) (hρ _ _ rfl)) (int_as ((wrap64 (by omega) (by omega)).trans (by omega))))) (all_cons (q_run (.string (digB.extract (n % 16) (n % 16 + 1))) rfl rfl (wv_n rfl) rfl (fun _ _ hρ _ => r_sliceT st9 (hρ _ _ rfl) (bd_some (n := n % 16 + 1) (hρ _ _ rfl)) (bd_some (n := n % 16) (hρ _ _ rfl)) (by omega) (by omega))) (all_cons (q_run (.string ((digB.extract (n / 16) (n / 16 + 1)) ++ (digB.extract (n % 16) (n % 16 + 1)))) rfl rfl (wv_n rfl) rfl (fun _ _ hρ _ => r_addS (hρ _ _ rfl) (hρ _ _ rfl) (by rw [ex_size _ _ _ (by omega) (by omega), ex_size _ _ _ (by omega) (by omega)]; omega))) (all_cons (q_run (.string ((digB.extract (n / 16) (n / 16 + 1)) ++ (digB.extract (n % 16) (n % 16 + 1)))) rfl rfl (wv_n rfl) rfl (fun _ _ hρ _ => r_assign (hρ _ _ rfl))) all_nil))))))))))))))))) (end_new 15 rfl rfl end_nil) ?_
  refine T_ret' ?_
  refine ret_of rfl (.string ((digB.extract (n / 16) (n / 16 + 1)) ++ (digB.extract (n % 16) (n % 16 + 1)))) (fun tmps w hk hm => res1 rfl (res_tmp (hk 2 _ rfl))) (fun w hm => ?_)
  exact ⟨rfl, hm.ext⟩

theorem hex_refI (p : Int) (w : World) (h : ok8 p) : Calls Try.prog 31 #[.int .i64 p] w fun e w' => e = .returned (.string (hexT p.toNat)) ∧ Below w.heap.size w w' := by
  obtain ⟨h0, h1⟩ := h
  obtain ⟨n, rfl⟩ := Int.eq_ofNat_of_zero_le h0
  exact hex_ref n w (by omega)

theorem text_ref (c : C4) (w : World) (hc : c.ok) : Calls Try.prog 13 #[c.v] w fun e w' => e = .returned (.string (textT c)) ∧ Below w.heap.size w w' := by
  obtain ⟨⟨a1, a2⟩, ⟨a3, a4⟩, ⟨a5, a6⟩, ⟨a7, a8⟩⟩ := id hc
  refine calls_of_T (l := [.agg #[.int .u8 c.r, .int .u8 c.g, .int .u8 c.b, .int .u8 c.a]]) 17 Try.func13 rfl rfl rfl ?_
  show T _ _ _ [(0, .agg #[.int .u8 c.r, .int .u8 c.g, .int .u8 c.b, .int .u8 c.a])] []
  refine T_seq (T_region ?_)
  refine TL_new 1 (.cells #[.int .u8 c.r, .int .u8 c.g, .int .u8 c.b, .int .u8 c.a] 27) (fun B => .pointer (some ⟨B, 0, none⟩)) (fun _ _ hρ _ => r_box (hρ _ _ rfl) rfl) rfl rfl rfl (w_n rfl) ?_
  intro B1
  refine TL_q (.string noB) (fun _ _ hρ _ => r_assign (hρ _ _ rfl)) rfl rfl rfl (w_n rfl) ?_
  refine TL_seq ?_
  refine T_seq (T_region ?_)
  refine TL_q (.string noB) (fun _ _ hρ _ => r_assign (hρ _ _ rfl)) rfl rfl rfl (w_n rfl) ?_
  refine TL_seq ?_
  refine T_seq ?_
  refine T_seq (T_region ?_)
  refine TL_q (.agg #[.int .u8 c.r, .int .u8 c.g, .int .u8 c.b, .int .u8 c.a]) (fun _ _ hρ hm => r_loadA ag27 sz27 (hρ _ _ rfl) (hm.at 1 rfl) rfl rfl) rfl rfl rfl (w_n rfl) ?_
  refine TL_call (.agg #[.int .i64 c.r, .int .i64 c.g, .int .i64 c.b, .int .i64 c.a]) (fun _ _ hρ _ => r_call (args := [.agg #[.int .u8 c.r, .int .u8 c.g, .int .u8 c.b, .int .u8 c.a]]) (enters_of Try.func30 (by kernel_rfl) rfl) (hρ _ _ rfl) ((cons2 (hρ _ _ rfl) rfl)) rfl) (fun w _ => parts_ref c w hc) rfl rfl rfl (w_n rfl) ?_
  refine TL_q (.int .i64 0) (fun _ _ hρ _ => r_move (hρ _ _ rfl)) rfl rfl rfl (w_n rfl) ?_
  refine TL_seq ?_
  refine T_block ?_
  refine T_rounds 5 ?_
  refine TR_succ ?_
  refine T_seq (T_region ?_)
  refine TL_q (.bool true) (fun _ _ hρ _ => r_as (r_lss (hρ _ _ rfl) (hρ _ _ rfl)) (by rfl)) rfl rfl rfl (w_n rfl) ?_
  refine TL_seq ?_
  refine T_seq ?_
  refine T_cond_t rfl ?_
  refine T_skip' ?_
  refine p_seq ?_
  refine T_seq ?_
  refine T_block ?_
  refine T_seq (T_region ?_)
  refine TL_q (.int .i64 c.r) (fun _ _ hρ _ => r_indexA (i := 0) ar61 sz3 (hρ _ _ rfl) (hρ _ _ rfl) (by decide) (run_part_one ag3 rfl)) rfl rfl rfl (w_n rfl) ?_
  refine TL_q (.int .i64 c.r) (fun _ _ hρ _ => r_assign (hρ _ _ rfl)) rfl rfl rfl (w_n rfl) ?_
  refine TL_seq ?_
  refine T_region ?_
  refine TL_q (.string noB) (fun _ _ hρ _ => r_move (hρ _ _ rfl)) rfl rfl rfl (w_n rfl) ?_
  refine TL_q (.int .i64 c.r) (fun _ _ hρ _ => r_move (hρ _ _ rfl)) rfl rfl rfl (w_n rfl) ?_
  refine TL_call (.string (hexT c.r.toNat)) (fun _ _ hρ _ => r_call (args := [.int .i64 c.r]) (enters_of Try.func31 (by kernel_rfl) rfl) (hρ _ _ rfl) ((cons2 (hρ _ _ rfl) rfl)) rfl) (fun w _ => hex_refI c.r w ⟨by omega, by omega⟩) rfl rfl rfl (w_n rfl) ?_
  refine TL_q (.string (noB ++ (hexT c.r.toNat))) (fun _ _ hρ _ => r_addS (hρ _ _ rfl) (hρ _ _ rfl) (by simp only [ByteArray.size_append, noB_size, hexT_size c.r.toNat (by omega), hexT_size c.g.toNat (by omega), hexT_size c.b.toNat (by omega), hexT_size c.a.toNat (by omega)]; omega)) rfl rfl rfl (w_n rfl) ?_
  refine TL_q (.string (noB ++ (hexT c.r.toNat))) (fun _ _ hρ _ => r_assign (hρ _ _ rfl)) rfl rfl rfl (w_n rfl) ?_
  refine TL_nil ?_
  refine p_blk_n ?_
  refine p_seq ?_
  refine T_region ?_
  refine TL_q (.int .i64 1) (fun _ _ hρ _ => r_as (r_add (hρ _ _ rfl) (hρ _ _ rfl)) (by rfl)) rfl rfl rfl (w_n rfl) ?_
  refine TL_q (.int .i64 1) (fun _ _ hρ _ => r_move (hρ _ _ rfl)) rfl rfl rfl (w_n rfl) ?_
  refine TL_nil ?_
  refine p_round ?_
  refine TR_succ ?_
  refine T_seq (T_region ?_)
  refine TL_q (.bool true) (fun _ _ hρ _ => r_as (r_lss (hρ _ _ rfl) (hρ _ _ rfl)) (by rfl)) rfl rfl rfl (w_n rfl) ?_
  refine TL_seq ?_
  refine T_seq ?_
  refine T_cond_t rfl ?_
  refine T_skip' ?_
  refine p_seq ?_
  refine T_seq ?_
  refine T_block ?_
  refine T_seq (T_region ?_)
  refine TL_q (.int .i64 c.g) (fun _ _ hρ _ => r_indexA (i := 1) ar61 sz3 (hρ _ _ rfl) (hρ _ _ rfl) (by decide) (run_part_one ag3 rfl)) rfl rfl rfl (w_n rfl) ?_
  refine TL_q (.int .i64 c.g) (fun _ _ hρ _ => r_assign (hρ _ _ rfl)) rfl rfl rfl (w_n rfl) ?_
  refine TL_seq ?_
  refine T_region ?_
  refine TL_q (.string (noB ++ (hexT c.r.toNat))) (fun _ _ hρ _ => r_move (hρ _ _ rfl)) rfl rfl rfl (w_n rfl) ?_
  refine TL_q (.int .i64 c.g) (fun _ _ hρ _ => r_move (hρ _ _ rfl)) rfl rfl rfl (w_n rfl) ?_
  refine TL_call (.string (hexT c.g.toNat)) (fun _ _ hρ _ => r_call (args := [.int .i64 c.g]) (enters_of Try.func31 (by kernel_rfl) rfl) (hρ _ _ rfl) ((cons2 (hρ _ _ rfl) rfl)) rfl) (fun w _ => hex_refI c.g w ⟨by omega, by omega⟩) rfl rfl rfl (w_n rfl) ?_
  refine TL_q (.string ((noB ++ (hexT c.r.toNat)) ++ (hexT c.g.toNat))) (fun _ _ hρ _ => r_addS (hρ _ _ rfl) (hρ _ _ rfl) (by simp only [ByteArray.size_append, noB_size, hexT_size c.r.toNat (by omega), hexT_size c.g.toNat (by omega), hexT_size c.b.toNat (by omega), hexT_size c.a.toNat (by omega)]; omega)) rfl rfl rfl (w_n rfl) ?_
  refine TL_q (.string ((noB ++ (hexT c.r.toNat)) ++ (hexT c.g.toNat))) (fun _ _ hρ _ => r_assign (hρ _ _ rfl)) rfl rfl rfl (w_n rfl) ?_
  refine TL_nil ?_
  refine p_blk_n ?_
  refine p_seq ?_
  refine T_region ?_
  refine TL_q (.int .i64 2) (fun _ _ hρ _ => r_as (r_add (hρ _ _ rfl) (hρ _ _ rfl)) (by rfl)) rfl rfl rfl (w_n rfl) ?_
  refine TL_q (.int .i64 2) (fun _ _ hρ _ => r_move (hρ _ _ rfl)) rfl rfl rfl (w_n rfl) ?_
  refine TL_nil ?_
  refine p_round ?_
  refine TR_succ ?_
  refine T_seq (T_region ?_)
  refine TL_q (.bool true) (fun _ _ hρ _ => r_as (r_lss (hρ _ _ rfl) (hρ _ _ rfl)) (by rfl)) rfl rfl rfl (w_n rfl) ?_
  refine TL_seq ?_
  refine T_seq ?_
  refine T_cond_t rfl ?_
  refine T_skip' ?_
  refine p_seq ?_
  refine T_seq ?_
  refine T_block ?_
  refine T_seq (T_region ?_)
  refine TL_q (.int .i64 c.b) (fun _ _ hρ _ => r_indexA (i := 2) ar61 sz3 (hρ _ _ rfl) (hρ _ _ rfl) (by decide) (run_part_one ag3 rfl)) rfl rfl rfl (w_n rfl) ?_
  refine TL_q (.int .i64 c.b) (fun _ _ hρ _ => r_assign (hρ _ _ rfl)) rfl rfl rfl (w_n rfl) ?_
  refine TL_seq ?_
  refine T_region ?_
  refine TL_q (.string ((noB ++ (hexT c.r.toNat)) ++ (hexT c.g.toNat))) (fun _ _ hρ _ => r_move (hρ _ _ rfl)) rfl rfl rfl (w_n rfl) ?_
  refine TL_q (.int .i64 c.b) (fun _ _ hρ _ => r_move (hρ _ _ rfl)) rfl rfl rfl (w_n rfl) ?_
  refine TL_call (.string (hexT c.b.toNat)) (fun _ _ hρ _ => r_call (args := [.int .i64 c.b]) (enters_of Try.func31 (by kernel_rfl) rfl) (hρ _ _ rfl) ((cons2 (hρ _ _ rfl) rfl)) rfl) (fun w _ => hex_refI c.b w ⟨by omega, by omega⟩) rfl rfl rfl (w_n rfl) ?_
  refine TL_q (.string (((noB ++ (hexT c.r.toNat)) ++ (hexT c.g.toNat)) ++ (hexT c.b.toNat))) (fun _ _ hρ _ => r_addS (hρ _ _ rfl) (hρ _ _ rfl) (by simp only [ByteArray.size_append, noB_size, hexT_size c.r.toNat (by omega), hexT_size c.g.toNat (by omega), hexT_size c.b.toNat (by omega), hexT_size c.a.toNat (by omega)]; omega)) rfl rfl rfl (w_n rfl) ?_
  refine TL_q (.string (((noB ++ (hexT c.r.toNat)) ++ (hexT c.g.toNat)) ++ (hexT c.b.toNat))) (fun _ _ hρ _ => r_assign (hρ _ _ rfl)) rfl rfl rfl (w_n rfl) ?_
  refine TL_nil ?_
  refine p_blk_n ?_
  refine p_seq ?_
  refine T_region ?_
  refine TL_q (.int .i64 3) (fun _ _ hρ _ => r_as (r_add (hρ _ _ rfl) (hρ _ _ rfl)) (by rfl)) rfl rfl rfl (w_n rfl) ?_
  refine TL_q (.int .i64 3) (fun _ _ hρ _ => r_move (hρ _ _ rfl)) rfl rfl rfl (w_n rfl) ?_
  refine TL_nil ?_
  refine p_round ?_
  refine TR_succ ?_
  refine T_seq (T_region ?_)
  refine TL_q (.bool true) (fun _ _ hρ _ => r_as (r_lss (hρ _ _ rfl) (hρ _ _ rfl)) (by rfl)) rfl rfl rfl (w_n rfl) ?_
  refine TL_seq ?_
  refine T_sub [(2, .string noB), (7, .agg #[.int .i64 c.r, .int .i64 c.g, .int .i64 c.b, .int .i64 c.a]), (10, .int .i64 c.b), (5, .int .i64 c.b), (11, .string ((noB ++ (hexT c.r.toNat)) ++ (hexT c.g.toNat))), (12, .int .i64 c.b), (13, .string (hexT c.b.toNat)), (14, .string (((noB ++ (hexT c.r.toNat)) ++ (hexT c.g.toNat)) ++ (hexT c.b.toNat))), (3, .string (((noB ++ (hexT c.r.toNat)) ++ (hexT c.g.toNat)) ++ (hexT c.b.toNat))), (15, .int .i64 3), (8, .int .i64 3), (9, .bool true)] [(1, .blk B1 (.cells #[.int .u8 c.r, .int .u8 c.g, .int .u8 c.b, .int .u8 c.a] 27))] (sub_cons rfl (sub_cons rfl (sub_cons rfl (sub_cons rfl (sub_cons rfl (sub_cons rfl (sub_cons rfl (sub_cons rfl (sub_cons rfl (sub_cons rfl (sub_cons rfl (sub_cons rfl sub_nil)))))))))))) (sub_cons rfl sub_nil) ?_
  refine T_seq ?_
  refine T_cond_t rfl ?_
  refine T_skip' ?_
  refine p_seq ?_
  refine T_seq ?_
  refine T_block ?_
  refine T_seq (T_region ?_)
  refine TL_q (.int .i64 c.a) (fun _ _ hρ _ => r_indexA (i := 3) ar61 sz3 (hρ _ _ rfl) (hρ _ _ rfl) (by decide) (run_part_one ag3 rfl)) rfl rfl rfl (w_n rfl) ?_
  refine TL_q (.int .i64 c.a) (fun _ _ hρ _ => r_assign (hρ _ _ rfl)) rfl rfl rfl (w_n rfl) ?_
  refine TL_seq ?_
  refine T_region ?_
  refine TL_q (.string (((noB ++ (hexT c.r.toNat)) ++ (hexT c.g.toNat)) ++ (hexT c.b.toNat))) (fun _ _ hρ _ => r_move (hρ _ _ rfl)) rfl rfl rfl (w_n rfl) ?_
  refine TL_q (.int .i64 c.a) (fun _ _ hρ _ => r_move (hρ _ _ rfl)) rfl rfl rfl (w_n rfl) ?_
  refine TL_call (.string (hexT c.a.toNat)) (fun _ _ hρ _ => r_call (args := [.int .i64 c.a]) (enters_of Try.func31 (by kernel_rfl) rfl) (hρ _ _ rfl) ((cons2 (hρ _ _ rfl) rfl)) rfl) (fun w _ => hex_refI c.a w ⟨by omega, by omega⟩) rfl rfl rfl (w_n rfl) ?_
  refine TL_q (.string ((((noB ++ (hexT c.r.toNat)) ++ (hexT c.g.toNat)) ++ (hexT c.b.toNat)) ++ (hexT c.a.toNat))) (fun _ _ hρ _ => r_addS (hρ _ _ rfl) (hρ _ _ rfl) (by simp only [ByteArray.size_append, noB_size, hexT_size c.r.toNat (by omega), hexT_size c.g.toNat (by omega), hexT_size c.b.toNat (by omega), hexT_size c.a.toNat (by omega)]; omega)) rfl rfl rfl (w_n rfl) ?_
  refine TL_q (.string ((((noB ++ (hexT c.r.toNat)) ++ (hexT c.g.toNat)) ++ (hexT c.b.toNat)) ++ (hexT c.a.toNat))) (fun _ _ hρ _ => r_assign (hρ _ _ rfl)) rfl rfl rfl (w_n rfl) ?_
  refine TL_nil ?_
  refine p_blk_n ?_
  refine p_seq ?_
  refine T_region ?_
  refine TL_q (.int .i64 4) (fun _ _ hρ _ => r_as (r_add (hρ _ _ rfl) (hρ _ _ rfl)) (by rfl)) rfl rfl rfl (w_n rfl) ?_
  refine TL_q (.int .i64 4) (fun _ _ hρ _ => r_move (hρ _ _ rfl)) rfl rfl rfl (w_n rfl) ?_
  refine TL_nil ?_
  refine p_round ?_
  refine TR_succ ?_
  refine T_seq (T_region ?_)
  refine TL_q (.bool false) (fun _ _ hρ _ => r_as (r_lss (hρ _ _ rfl) (hρ _ _ rfl)) (by rfl)) rfl rfl rfl (w_n rfl) ?_
  refine TL_seq ?_
  refine T_seq ?_
  refine T_cond_f rfl ?_
  refine T_exit' ?_
  refine p_then_x ?_
  refine p_then_x ?_
  refine p_blk_x ?_
  refine p_seq ?_
  refine T_seq (T_region ?_)
  refine TL_q (.string ((((noB ++ (hexT c.r.toNat)) ++ (hexT c.g.toNat)) ++ (hexT c.b.toNat)) ++ (hexT c.a.toNat))) (fun _ _ hρ _ => r_move (hρ _ _ rfl)) rfl rfl rfl (w_n rfl) ?_
  refine TL_q (.string ((((noB ++ (hexT c.r.toNat)) ++ (hexT c.g.toNat)) ++ (hexT c.b.toNat)) ++ (hexT c.a.toNat))) (fun _ _ hρ _ => r_assign (hρ _ _ rfl)) rfl rfl rfl (w_n rfl) ?_
  refine TL_seq ?_
  refine T_ret' ?_
  refine ret_of rfl (.string ((((noB ++ (hexT c.r.toNat)) ++ (hexT c.g.toNat)) ++ (hexT c.b.toNat)) ++ (hexT c.a.toNat))) (fun tmps w hk hm => res1 rfl (res_tmp (hk 2 _ rfl))) (fun w hm => ?_)
  exact ⟨rfl, hm.ext⟩

theorem read_ref (s : ByteArray) (w : World) (hs : s.size ≤ Go.maxLen) : Calls Try.prog 16 #[.string s] w fun e w' => e = .returned (readR s) ∧ Below w.heap.size w w' := by
  unfold Go.maxLen at hs
  refine calls_of_T (l := [.string s]) 38 Try.func16 rfl rfl rfl ?_
  show T _ _ _ [(0, .string s)] []
  refine T_seq (T_region ?_)
  refine TL_new 1 (.cells #[.int .u8 0, .int .u8 0, .int .u8 0, .int .u8 0] 27) (fun B => .pointer (some ⟨B, 0, none⟩)) (fun _ _ _ _ => r_alloc (v := .agg #[.int .u8 0, .int .u8 0, .int .u8 0, .int .u8 0]) (by kernel_rfl) rfl) rfl rfl rfl (w_n rfl) ?_
  intro B1
  refine TL_q (.bool false) (fun _ _ hρ _ => r_assign (hρ _ _ rfl)) rfl rfl rfl (w_n rfl) ?_
  refine TL_seq ?_
  refine T_seq ?_
  refine T_seq (T_region ?_)
  refine TL_q (.string s) (fun _ _ hρ _ => r_move (hρ _ _ rfl)) rfl rfl rfl (w_n rfl) ?_
  refine TL_q (.int .i64 ((s).size : Int)) (fun _ _ hρ _ => r_lenS st9 (hρ _ _ rfl)) rfl rfl rfl (w_n rfl) ?_
  refine TL_q (.bool (!decide (((s).size : Int) = 8))) (fun _ _ hρ _ => r_neq (hρ _ _ rfl) (hρ _ _ rfl)) rfl rfl rfl (w_n rfl) ?_
  refine TL_seq ?_
  refine T_cond rfl (fun h1 => ?_) (fun h1 => ?_)
  · replace h1 := of_decide_eq_false (bnot_t h1)
    refine T_seq (T_region ?_)
    refine TL_q (.agg #[.int .u8 0, .int .u8 0, .int .u8 0, .int .u8 0]) (fun _ _ _ _ => r_build (vs := []) (by kernel_rfl) rfl) rfl rfl rfl (w_n rfl) ?_
    refine TL_store 1 (.cells #[.int .u8 0, .int .u8 0, .int .u8 0, .int .u8 0] 27) rfl (fun _ _ hρ hm => r_store sz27 (hρ _ _ rfl) (hρ _ _ rfl) (hm.at 1 rfl) rfl rfl rfl rfl) rfl rfl (w_n rfl) ?_
    refine TL_q (.bool false) (fun _ _ hρ _ => r_assign (hρ _ _ rfl)) rfl rfl rfl (w_n rfl) ?_
    refine TL_seq ?_
    refine T_ret' ?_
    refine p_then_r ?_
    refine ret_of rfl (.tuple #[.agg #[.int .u8 0, .int .u8 0, .int .u8 0, .int .u8 0], .bool false]) (fun tmps w hk hm => res2 rfl (res_cell (hk 2 _ rfl) (run_loadVar_agg ag27 sz27 (hm.at 1 rfl) (Nat.le_of_ble_eq_true rfl) rfl)) (res_tmp (hk 3 _ rfl))) (fun w hm => ?_)
    exact ⟨congrArg Ending.returned (readR_no (fun ⟨e0, e1, e2, e3, e4⟩ => by first | omega | simp_all)).symm, hm.ext⟩
  · replace h1 := of_decide_eq_true (bnot_f h1)
    refine T_skip' ?_
    refine p_seq ?_
    refine T_seq (T_region ?_)
    refine TL_new 2 (.cells #[.int .i64 0, .int .i64 0, .int .i64 0, .int .i64 0] 61) (fun B => .pointer (some ⟨B, 0, none⟩)) (fun _ _ _ _ => r_alloc (v := .agg #[.int .i64 0, .int .i64 0, .int .i64 0, .int .i64 0]) (by kernel_rfl) rfl) rfl rfl rfl (w_n rfl) ?_
    intro B2
    refine TL_seq ?_
    refine T_seq ?_
    refine T_seq (T_region ?_)
    refine TL_q (.int .i64 0) (fun _ _ hρ _ => r_move (hρ _ _ rfl)) rfl rfl rfl (w_n rfl) ?_
    refine TL_seq ?_
    refine T_block ?_
    refine T_rounds 5 ?_
    refine TR_succ ?_
    refine T_seq (T_region ?_)
    refine TL_q (.bool true) (fun _ _ hρ _ => r_as (r_lss (hρ _ _ rfl) (hρ _ _ rfl)) (by rfl)) rfl rfl rfl (w_n rfl) ?_
    refine TL_seq ?_
    refine T_seq ?_
    refine T_cond_t rfl ?_
    refine T_skip' ?_
    refine p_seq ?_
    refine T_seq ?_
    refine T_block ?_
    refine T_seq (T_region ?_)
    refine TL_q (.int .i64 0) (fun _ _ hρ _ => r_move (hρ _ _ rfl)) rfl rfl rfl (w_n rfl) ?_
    refine TL_q (.int .i64 0) (fun _ _ hρ _ => r_assign (hρ _ _ rfl)) rfl rfl rfl (w_n rfl) ?_
    refine TL_seq ?_
    refine T_seq (T_region ?_)
    refine TL_q (.bool false) (fun _ _ hρ _ => r_assign (hρ _ _ rfl)) rfl rfl rfl (w_n rfl) ?_
    refine TL_seq ?_
    refine T_seq ?_
    refine T_seq (T_region ?_)
    refine TL_q (.int .i64 0) (fun _ _ hρ _ => r_move (hρ _ _ rfl)) rfl rfl rfl (w_n rfl) ?_
    refine TL_seq ?_
    refine T_block ?_
    refine T_loop (ι := Nat × Bool × Int) (fun (z : Nat × Bool × Int) => match z with | (n, f, v) => n ≤ 256 ∧ f = (findT (s.extract 0 2) n).isSome ∧ v = (((findT (s.extract 0 2) n).getD 0 : Nat) : Int)) (fun (z : Nat × Bool × Int) => match z with | (n, f, v) => [(0, .string s), (2, .pointer (some ⟨B1, 0, none⟩)), (3, .bool false), (4, .pointer (some ⟨B2, 0, none⟩)), (12, .int .i64 0), (13, .bool true), (14, .int .i64 0), (5, .int .i64 0), (15, .int .i64 ((n : Nat) : Int)), (6, .bool f)]) (fun (z : Nat × Bool × Int) => match z with | (n, f, v) => [(1, .blk B1 (.cells #[.int .u8 0, .int .u8 0, .int .u8 0, .int .u8 0] 27)), (2, .blk B2 (.cells #[.int .i64 v, .int .i64 0, .int .i64 0, .int .i64 0] 61))]) (fun (z : Nat × Bool × Int) => match z with | (n, f, v) => 256 - n) (0, false, 0) ⟨Nat.zero_le _, rfl, rfl⟩ (sub_cons rfl (sub_cons rfl (sub_cons rfl (sub_cons rfl (sub_cons rfl (sub_cons rfl (sub_cons rfl (sub_cons rfl (sub_cons rfl (sub_cons rfl sub_nil)))))))))) (sub_cons rfl (sub_cons rfl sub_nil)) ?_
    rintro ⟨n, f, v⟩ hp
    obtain ⟨hn, hf, hv⟩ := hp
    show T _ _ _ [(0, .string s), (2, .pointer (some ⟨B1, 0, none⟩)), (3, .bool false), (4, .pointer (some ⟨B2, 0, none⟩)), (12, .int .i64 0), (13, .bool true), (14, .int .i64 0), (5, .int .i64 0), (15, .int .i64 ((n : Nat) : Int)), (6, .bool f)] [(1, .blk B1 (.cells #[.int .u8 0, .int .u8 0, .int .u8 0, .int .u8 0] 27)), (2, .blk B2 (.cells #[.int .i64 v, .int .i64 0, .int .i64 0, .int .i64 0] 61))]
    refine T_seq (T_region ?_)
    refine TL_q (.bool (decide (((n : Nat) : Int) < 256))) (fun _ _ hρ _ => r_lss (hρ _ _ rfl) (hρ _ _ rfl)) rfl rfl rfl (w_n rfl) ?_
    refine TL_seq ?_
    refine T_seq ?_
    refine T_cond rfl (fun h2 => ?_) (fun h2 => ?_)
    · replace h2 := of_decide_eq_true h2
      refine T_skip' ?_
      refine p_seq ?_
      refine T_seq ?_
      refine T_block ?_
      refine T_seq (T_region ?_)
      refine TL_q (.int .i64 ((n : Nat) : Int)) (fun _ _ hρ _ => r_move (hρ _ _ rfl)) rfl rfl rfl (w_n rfl) ?_
      refine TL_q (.int .i64 ((n : Nat) : Int)) (fun _ _ hρ _ => r_assign (hρ _ _ rfl)) rfl rfl rfl (w_n rfl) ?_
      refine TL_seq ?_
      refine T_seq (T_draw (V := [(0, .int .i64 ((n : Nat) : Int)), (2, .string s), (3, .int .i64 0), (4, .int .i64 0), (5, .int .i64 0), (6, .int .i64 0), (7, .int .i64 2), (8, .string (s.extract 0 2))]) [0, 1, 0, 0, 8, 0, 32, 96, 252, 511] [[(7, none)], [(18, some 0)], [(0, none)], [(5, none)], [(21, some 3)], [(5, none)], [(23, some 5)], [(24, some 6)], [(20, some 2), (22, some 4), (25, some 7)], [(19, some 1), (26, some 8)]] 2 mixed (by kernel_rfl) ?_)
      refine G_step [0, 2, 3, 4, 5, 6, 7, 8] 1 [] (by kernel_rfl) (allM (all_cons (q_run (.int .i64 ((n : Nat) : Int)) rfl rfl (wv_n rfl) rfl (fun _ _ hρ _ => r_move (hρ _ _ rfl))) (all_cons (q_run (.string s) rfl rfl (wv_n rfl) rfl (fun _ _ hρ _ => r_move (hρ _ _ rfl))) (all_cons (q_run (.int .i64 0) rfl rfl (wv_n rfl) rfl (fun _ _ hρ _ => r_move (hρ _ _ rfl))) (all_cons (q_run (.int .i64 0) rfl rfl (wv_n rfl) rfl (fun _ _ hρ _ => r_as (r_mul (hρ _ _ rfl) (hρ _ _ rfl)) (by rfl))) (all_cons (q_run (.int .i64 0) rfl rfl (wv_n rfl) rfl (fun _ _ hρ _ => r_move (hρ _ _ rfl))) (all_cons (q_run (.int .i64 0) rfl rfl (wv_n rfl) rfl (fun _ _ hρ _ => r_as (r_mul (hρ _ _ rfl) (hρ _ _ rfl)) (by rfl))) (all_cons (q_run (.int .i64 2) rfl rfl (wv_n rfl) rfl (fun _ _ hρ _ => r_as (r_add (hρ _ _ rfl) (hρ _ _ rfl)) (by rfl))) (all_cons (q_run (.string (s.extract 0 2)) rfl rfl (wv_n rfl) rfl (fun _ _ hρ _ => r_sliceT st9 (hρ _ _ rfl) (bd_some (n := 2) (hρ _ _ rfl)) (bd_some (n := 0) (hρ _ _ rfl)) (by omega) (by omega))) all_nil))))))))) (allM (all_cons ?_ all_nil))
      refine LOb_call (.string (hexT n)) [(9, .bool ((hexT n).toList == (s.extract 0 2).toList))] rfl (wv_n rfl) rfl rfl (fun _ _ hρ _ => r_call (args := [.int .i64 ((n : Nat) : Int)]) (enters_of Try.func31 (by kernel_rfl) rfl) (hρ _ _ rfl) ((cons2 (hρ _ _ rfl) rfl)) rfl) (fun w _ => hex_ref n w (by omega)) (by kernel_rfl) ?_
      refine G_last [2, 3, 4, 5, 6, 7, 8, 9] [(0, .string s), (2, .pointer (some ⟨B1, 0, none⟩)), (3, .bool false), (4, .pointer (some ⟨B2, 0, none⟩)), (12, .int .i64 0), (13, .bool true), (14, .int .i64 0), (5, .int .i64 0), (15, .int .i64 ((n : Nat) : Int)), (6, .bool f), (16, .bool (decide (((n : Nat) : Int) < 256))), (17, .int .i64 ((n : Nat) : Int)), (7, .int .i64 ((n : Nat) : Int)), (18, .int .i64 ((n : Nat) : Int)), (19, .string (hexT n)), (20, .string s), (21, .int .i64 0), (22, .int .i64 0), (23, .int .i64 0), (24, .int .i64 0), (25, .int .i64 2), (26, .string (s.extract 0 2)), (27, .bool ((hexT n).toList == (s.extract 0 2).toList))] (by kernel_rfl) (allM (all_cons (q_run (.string s) rfl rfl (wv_n rfl) rfl (fun _ _ hρ _ => r_move (hρ _ _ rfl))) (all_cons (q_run (.int .i64 0) rfl rfl (wv_n rfl) rfl (fun _ _ hρ _ => r_move (hρ _ _ rfl))) (all_cons (q_run (.int .i64 0) rfl rfl (wv_n rfl) rfl (fun _ _ hρ _ => r_as (r_mul (hρ _ _ rfl) (hρ _ _ rfl)) (by rfl))) (all_cons (q_run (.int .i64 0) rfl rfl (wv_n rfl) rfl (fun _ _ hρ _ => r_move (hρ _ _ rfl))) (all_cons (q_run (.int .i64 0) rfl rfl (wv_n rfl) rfl (fun _ _ hρ _ => r_as (r_mul (hρ _ _ rfl) (hρ _ _ rfl)) (by rfl))) (all_cons (q_run (.int .i64 2) rfl rfl (wv_n rfl) rfl (fun _ _ hρ _ => r_as (r_add (hρ _ _ rfl) (hρ _ _ rfl)) (by rfl))) (all_cons (q_run (.string (s.extract 0 2)) rfl rfl (wv_n rfl) rfl (fun _ _ hρ _ => r_sliceT st9 (hρ _ _ rfl) (bd_some (n := 2) (hρ _ _ rfl)) (bd_some (n := 0) (hρ _ _ rfl)) (by omega) (by omega))) (all_cons (q_run (.bool ((hexT n).toList == (s.extract 0 2).toList)) rfl rfl (wv_n rfl) rfl (fun _ _ hρ _ => r_eqlS (hρ _ _ rfl) (hρ _ _ rfl))) all_nil))))))))) (end_old rfl rfl (end_old rfl rfl (end_old rfl rfl (end_old rfl rfl (end_old rfl rfl (end_old rfl rfl (end_old rfl rfl (end_old rfl rfl (end_old rfl rfl (end_old rfl rfl (end_old rfl rfl (end_old rfl rfl (end_old rfl rfl (end_new 0 rfl rfl (end_new 1 rfl rfl (end_new 2 rfl rfl (end_new 3 rfl rfl (end_new 4 rfl rfl (end_new 5 rfl rfl (end_new 6 rfl rfl (end_new 7 rfl rfl (end_new 8 rfl rfl (end_new 9 rfl rfl end_nil))))))))))))))))))))))) ?_
      refine T_cond rfl (fun h3 => ?_) (fun h3 => ?_)
      · skip
        refine T_region ?_
        refine TL_q (.int .i64 0) (fun _ _ hρ _ => r_move (hρ _ _ rfl)) rfl rfl rfl (w_n rfl) ?_
        refine TL_q (.int .i64 ((n : Nat) : Int)) (fun _ _ hρ _ => r_move (hρ _ _ rfl)) rfl rfl rfl (w_n rfl) ?_
        refine TL_q (.pointer (some ⟨B2, 0, none⟩)) (fun _ _ hρ _ => r_indexAddrA (i := 0) ar61 sz3 (hρ _ _ rfl) (hρ _ _ rfl) (by decide)) rfl rfl rfl (w_n rfl) ?_
        refine TL_store 2 (.cells #[.int .i64 ((n : Nat) : Int), .int .i64 0, .int .i64 0, .int .i64 0] 61) rfl (fun _ _ hρ hm => r_store sz3 (hρ _ _ rfl) (hρ _ _ rfl) (hm.at 2 rfl) rfl rfl rfl rfl) rfl rfl (w_n rfl) ?_
        refine TL_q (.bool true) (fun _ _ hρ _ => r_assign (hρ _ _ rfl)) rfl rfl rfl (w_n rfl) ?_
        refine TL_nil ?_
        refine p_blk_n ?_
        refine p_seq ?_
        refine T_region ?_
        refine TL_q (.int .i64 (((n : Nat) : Int) + 1)) (fun _ _ hρ _ => r_as (r_add (hρ _ _ rfl) (hρ _ _ rfl)) (int_as (wrap64 (by omega) (by omega)))) rfl rfl rfl (w_n rfl) ?_
        refine TL_q (.int .i64 (((n : Nat) : Int) + 1)) (fun _ _ hρ _ => r_move (hρ _ _ rfl)) rfl rfl rfl (w_n rfl) ?_
        refine TL_nil ?_
        exact p_at (n + 1, true, ((n : Nat) : Int)) ⟨⟨by omega, by rw [find_t (b := (s.extract 0 2)) h3]; rfl, by rw [find_t (b := (s.extract 0 2)) h3]; rfl⟩, by dsimp only; omega⟩ (sub_cons rfl (sub_cons rfl (sub_cons rfl (sub_cons rfl (sub_cons rfl (sub_cons rfl (sub_cons rfl (sub_cons rfl (sub_cons rfl (sub_cons rfl sub_nil)))))))))) (sub_cons rfl (sub_cons rfl sub_nil))
      · skip
        refine T_skip' ?_
        refine p_blk_n ?_
        refine p_seq ?_
        refine T_region ?_
        refine TL_q (.int .i64 (((n : Nat) : Int) + 1)) (fun _ _ hρ _ => r_as (r_add (hρ _ _ rfl) (hρ _ _ rfl)) (int_as (wrap64 (by omega) (by omega)))) rfl rfl rfl (w_n rfl) ?_
        refine TL_q (.int .i64 (((n : Nat) : Int) + 1)) (fun _ _ hρ _ => r_move (hρ _ _ rfl)) rfl rfl rfl (w_n rfl) ?_
        refine TL_nil ?_
        exact p_at (n + 1, f, v) ⟨⟨by omega, by rw [find_f (b := (s.extract 0 2)) h3]; exact hf, by rw [find_f (b := (s.extract 0 2)) h3]; exact hv⟩, by dsimp only; omega⟩ (sub_cons rfl (sub_cons rfl (sub_cons rfl (sub_cons rfl (sub_cons rfl (sub_cons rfl (sub_cons rfl (sub_cons rfl (sub_cons rfl (sub_cons rfl sub_nil)))))))))) (sub_cons rfl (sub_cons rfl sub_nil))
    · replace h2 := of_decide_eq_false h2
      refine T_exit' ?_
      refine p_then_x ?_
      refine p_then_x ?_
      refine p_blk_x ?_
      refine p_seq ?_
      have hn256 : n = 256 := by omega
      subst hn256
      obtain rfl : v = ((val (s.extract 0 2) : Nat) : Int) := hv
      obtain rfl : f = fnd (s.extract 0 2) := hf
      have q0 : val (s.extract 0 2) ≤ 255 := find_lt _ 256 (Nat.le_refl _)
      refine T_seq (T_region ?_)
      refine TL_q (.bool (fnd (s.extract 0 2))) (fun _ _ hρ _ => r_move (hρ _ _ rfl)) rfl rfl rfl (w_n rfl) ?_
      refine TL_q (.bool (!(fnd (s.extract 0 2)))) (fun _ _ hρ _ => r_not (b := fnd (s.extract 0 2)) (hρ _ _ rfl)) rfl rfl rfl (w_n rfl) ?_
      refine TL_seq ?_
      refine T_cond rfl (fun h4 => ?_) (fun h4 => ?_)
      · replace h4 := bnot_t h4
        refine T_seq (T_region ?_)
        refine TL_q (.agg #[.int .u8 0, .int .u8 0, .int .u8 0, .int .u8 0]) (fun _ _ _ _ => r_build (vs := []) (by kernel_rfl) rfl) rfl rfl rfl (w_n rfl) ?_
        refine TL_store 1 (.cells #[.int .u8 0, .int .u8 0, .int .u8 0, .int .u8 0] 27) rfl (fun _ _ hρ hm => r_store sz27 (hρ _ _ rfl) (hρ _ _ rfl) (hm.at 1 rfl) rfl rfl rfl rfl) rfl rfl (w_n rfl) ?_
        refine TL_q (.bool false) (fun _ _ hρ _ => r_assign (hρ _ _ rfl)) rfl rfl rfl (w_n rfl) ?_
        refine TL_seq ?_
        refine T_ret' ?_
        refine p_blk_r ?_
        refine p_then_r ?_
        refine p_then_r ?_
        refine p_blk_r ?_
        refine p_then_r ?_
        refine ret_of rfl (.tuple #[.agg #[.int .u8 0, .int .u8 0, .int .u8 0, .int .u8 0], .bool false]) (fun tmps w hk hm => res2 rfl (res_cell (hk 2 _ rfl) (run_loadVar_agg ag27 sz27 (hm.at 1 rfl) (Nat.le_of_ble_eq_true rfl) rfl)) (res_tmp (hk 3 _ rfl))) (fun w hm => ?_)
        exact ⟨congrArg Ending.returned (readR_no (fun ⟨e0, e1, e2, e3, e4⟩ => by first | omega | simp_all)).symm, hm.ext⟩
      · replace h4 := bnot_f h4
        refine T_skip' ?_
        refine p_blk_n ?_
        refine p_seq ?_
        refine T_region ?_
        refine TL_q (.int .i64 1) (fun _ _ hρ _ => r_as (r_add (hρ _ _ rfl) (hρ _ _ rfl)) (by rfl)) rfl rfl rfl (w_n rfl) ?_
        refine TL_q (.int .i64 1) (fun _ _ hρ _ => r_move (hρ _ _ rfl)) rfl rfl rfl (w_n rfl) ?_
        refine TL_nil ?_
        refine p_round ?_
        refine TR_succ ?_
        refine T_seq (T_region ?_)
        refine TL_q (.bool true) (fun _ _ hρ _ => r_as (r_lss (hρ _ _ rfl) (hρ _ _ rfl)) (by rfl)) rfl rfl rfl (w_n rfl) ?_
        refine TL_seq ?_
        refine T_seq ?_
        refine T_cond_t rfl ?_
        refine T_skip' ?_
        refine p_seq ?_
        refine T_seq ?_
        refine T_block ?_
        refine T_seq (T_region ?_)
        refine TL_q (.int .i64 1) (fun _ _ hρ _ => r_move (hρ _ _ rfl)) rfl rfl rfl (w_n rfl) ?_
        refine TL_q (.int .i64 1) (fun _ _ hρ _ => r_assign (hρ _ _ rfl)) rfl rfl rfl (w_n rfl) ?_
        refine TL_seq ?_
        refine T_seq (T_region ?_)
        refine TL_q (.bool false) (fun _ _ hρ _ => r_assign (hρ _ _ rfl)) rfl rfl rfl (w_n rfl) ?_
        refine TL_seq ?_
        refine T_seq ?_
        refine T_seq (T_region ?_)
        refine TL_q (.int .i64 0) (fun _ _ hρ _ => r_move (hρ _ _ rfl)) rfl rfl rfl (w_n rfl) ?_
        refine TL_seq ?_
        refine T_block ?_
        refine T_loop (ι := Nat × Bool × Int) (fun (z : Nat × Bool × Int) => match z with | (n, f, v) => n ≤ 256 ∧ f = (findT (s.extract 2 4) n).isSome ∧ v = (((findT (s.extract 2 4) n).getD 0 : Nat) : Int)) (fun (z : Nat × Bool × Int) => match z with | (n, f, v) => [(0, .string s), (2, .pointer (some ⟨B1, 0, none⟩)), (3, .bool false), (4, .pointer (some ⟨B2, 0, none⟩)), (32, .bool (fnd (s.extract 0 2))), (33, .bool (!(fnd (s.extract 0 2)))), (35, .int .i64 1), (12, .int .i64 1), (13, .bool true), (14, .int .i64 1), (5, .int .i64 1), (15, .int .i64 ((n : Nat) : Int)), (6, .bool f)]) (fun (z : Nat × Bool × Int) => match z with | (n, f, v) => [(1, .blk B1 (.cells #[.int .u8 0, .int .u8 0, .int .u8 0, .int .u8 0] 27)), (2, .blk B2 (.cells #[.int .i64 ((val (s.extract 0 2) : Nat) : Int), .int .i64 v, .int .i64 0, .int .i64 0] 61))]) (fun (z : Nat × Bool × Int) => match z with | (n, f, v) => 256 - n) (0, false, 0) ⟨Nat.zero_le _, rfl, rfl⟩ (sub_cons rfl (sub_cons rfl (sub_cons rfl (sub_cons rfl (sub_cons rfl (sub_cons rfl (sub_cons rfl (sub_cons rfl (sub_cons rfl (sub_cons rfl (sub_cons rfl (sub_cons rfl (sub_cons rfl sub_nil))))))))))))) (sub_cons rfl (sub_cons rfl sub_nil)) ?_
        rintro ⟨n, f, v⟩ hp
        obtain ⟨hn, hf, hv⟩ := hp
        show T _ _ _ [(0, .string s), (2, .pointer (some ⟨B1, 0, none⟩)), (3, .bool false), (4, .pointer (some ⟨B2, 0, none⟩)), (32, .bool (fnd (s.extract 0 2))), (33, .bool (!(fnd (s.extract 0 2)))), (35, .int .i64 1), (12, .int .i64 1), (13, .bool true), (14, .int .i64 1), (5, .int .i64 1), (15, .int .i64 ((n : Nat) : Int)), (6, .bool f)] [(1, .blk B1 (.cells #[.int .u8 0, .int .u8 0, .int .u8 0, .int .u8 0] 27)), (2, .blk B2 (.cells #[.int .i64 ((val (s.extract 0 2) : Nat) : Int), .int .i64 v, .int .i64 0, .int .i64 0] 61))]
        refine T_seq (T_region ?_)
        refine TL_q (.bool (decide (((n : Nat) : Int) < 256))) (fun _ _ hρ _ => r_lss (hρ _ _ rfl) (hρ _ _ rfl)) rfl rfl rfl (w_n rfl) ?_
        refine TL_seq ?_
        refine T_seq ?_
        refine T_cond rfl (fun h5 => ?_) (fun h5 => ?_)
        · replace h5 := of_decide_eq_true h5
          refine T_skip' ?_
          refine p_seq ?_
          refine T_seq ?_
          refine T_block ?_
          refine T_seq (T_region ?_)
          refine TL_q (.int .i64 ((n : Nat) : Int)) (fun _ _ hρ _ => r_move (hρ _ _ rfl)) rfl rfl rfl (w_n rfl) ?_
          refine TL_q (.int .i64 ((n : Nat) : Int)) (fun _ _ hρ _ => r_assign (hρ _ _ rfl)) rfl rfl rfl (w_n rfl) ?_
          refine TL_seq ?_
          refine T_seq (T_draw (V := [(0, .int .i64 ((n : Nat) : Int)), (2, .string s), (3, .int .i64 1), (4, .int .i64 2), (5, .int .i64 1), (6, .int .i64 2), (7, .int .i64 4), (8, .string (s.extract 2 4))]) [0, 1, 0, 0, 8, 0, 32, 96, 252, 511] [[(7, none)], [(18, some 0)], [(0, none)], [(5, none)], [(21, some 3)], [(5, none)], [(23, some 5)], [(24, some 6)], [(20, some 2), (22, some 4), (25, some 7)], [(19, some 1), (26, some 8)]] 2 mixed (by kernel_rfl) ?_)
          refine G_step [0, 2, 3, 4, 5, 6, 7, 8] 1 [] (by kernel_rfl) (allM (all_cons (q_run (.int .i64 ((n : Nat) : Int)) rfl rfl (wv_n rfl) rfl (fun _ _ hρ _ => r_move (hρ _ _ rfl))) (all_cons (q_run (.string s) rfl rfl (wv_n rfl) rfl (fun _ _ hρ _ => r_move (hρ _ _ rfl))) (all_cons (q_run (.int .i64 1) rfl rfl (wv_n rfl) rfl (fun _ _ hρ _ => r_move (hρ _ _ rfl))) (all_cons (q_run (.int .i64 2) rfl rfl (wv_n rfl) rfl (fun _ _ hρ _ => r_as (r_mul (hρ _ _ rfl) (hρ _ _ rfl)) (by rfl))) (all_cons (q_run (.int .i64 1) rfl rfl (wv_n rfl) rfl (fun _ _ hρ _ => r_move (hρ _ _ rfl))) (all_cons (q_run (.int .i64 2) rfl rfl (wv_n rfl) rfl (fun _ _ hρ _ => r_as (r_mul (hρ _ _ rfl) (hρ _ _ rfl)) (by rfl))) (all_cons (q_run (.int .i64 4) rfl rfl (wv_n rfl) rfl (fun _ _ hρ _ => r_as (r_add (hρ _ _ rfl) (hρ _ _ rfl)) (by rfl))) (all_cons (q_run (.string (s.extract 2 4)) rfl rfl (wv_n rfl) rfl (fun _ _ hρ _ => r_sliceT st9 (hρ _ _ rfl) (bd_some (n := 4) (hρ _ _ rfl)) (bd_some (n := 2) (hρ _ _ rfl)) (by omega) (by omega))) all_nil))))))))) (allM (all_cons ?_ all_nil))
          refine LOb_call (.string (hexT n)) [(9, .bool ((hexT n).toList == (s.extract 2 4).toList))] rfl (wv_n rfl) rfl rfl (fun _ _ hρ _ => r_call (args := [.int .i64 ((n : Nat) : Int)]) (enters_of Try.func31 (by kernel_rfl) rfl) (hρ _ _ rfl) ((cons2 (hρ _ _ rfl) rfl)) rfl) (fun w _ => hex_ref n w (by omega)) (by kernel_rfl) ?_
          refine G_last [2, 3, 4, 5, 6, 7, 8, 9] [(0, .string s), (2, .pointer (some ⟨B1, 0, none⟩)), (3, .bool false), (4, .pointer (some ⟨B2, 0, none⟩)), (32, .bool (fnd (s.extract 0 2))), (33, .bool (!(fnd (s.extract 0 2)))), (35, .int .i64 1), (12, .int .i64 1), (13, .bool true), (14, .int .i64 1), (5, .int .i64 1), (15, .int .i64 ((n : Nat) : Int)), (6, .bool f), (16, .bool (decide (((n : Nat) : Int) < 256))), (17, .int .i64 ((n : Nat) : Int)), (7, .int .i64 ((n : Nat) : Int)), (18, .int .i64 ((n : Nat) : Int)), (19, .string (hexT n)), (20, .string s), (21, .int .i64 1), (22, .int .i64 2), (23, .int .i64 1), (24, .int .i64 2), (25, .int .i64 4), (26, .string (s.extract 2 4)), (27, .bool ((hexT n).toList == (s.extract 2 4).toList))] (by kernel_rfl) (allM (all_cons (q_run (.string s) rfl rfl (wv_n rfl) rfl (fun _ _ hρ _ => r_move (hρ _ _ rfl))) (all_cons (q_run (.int .i64 1) rfl rfl (wv_n rfl) rfl (fun _ _ hρ _ => r_move (hρ _ _ rfl))) (all_cons (q_run (.int .i64 2) rfl rfl (wv_n rfl) rfl (fun _ _ hρ _ => r_as (r_mul (hρ _ _ rfl) (hρ _ _ rfl)) (by rfl))) (all_cons (q_run (.int .i64 1) rfl rfl (wv_n rfl) rfl (fun _ _ hρ _ => r_move (hρ _ _ rfl))) (all_cons (q_run (.int .i64 2) rfl rfl (wv_n rfl) rfl (fun _ _ hρ _ => r_as (r_mul (hρ _ _ rfl) (hρ _ _ rfl)) (by rfl))) (all_cons (q_run (.int .i64 4) rfl rfl (wv_n rfl) rfl (fun _ _ hρ _ => r_as (r_add (hρ _ _ rfl) (hρ _ _ rfl)) (by rfl))) (all_cons (q_run (.string (s.extract 2 4)) rfl rfl (wv_n rfl) rfl (fun _ _ hρ _ => r_sliceT st9 (hρ _ _ rfl) (bd_some (n := 4) (hρ _ _ rfl)) (bd_some (n := 2) (hρ _ _ rfl)) (by omega) (by omega))) (all_cons (q_run (.bool ((hexT n).toList == (s.extract 2 4).toList)) rfl rfl (wv_n rfl) rfl (fun _ _ hρ _ => r_eqlS (hρ _ _ rfl) (hρ _ _ rfl))) all_nil))))))))) (end_old rfl rfl (end_old rfl rfl (end_old rfl rfl (end_old rfl rfl (end_old rfl rfl (end_old rfl rfl (end_old rfl rfl (end_old rfl rfl (end_old rfl rfl (end_old rfl rfl (end_old rfl rfl (end_old rfl rfl (end_old rfl rfl (end_old rfl rfl (end_old rfl rfl (end_old rfl rfl (end_new 0 rfl rfl (end_new 1 rfl rfl (end_new 2 rfl rfl (end_new 3 rfl rfl (end_new 4 rfl rfl (end_new 5 rfl rfl (end_new 6 rfl rfl (end_new 7 rfl rfl (end_new 8 rfl rfl (end_new 9 rfl rfl end_nil)))))))))))))))))))))))))) ?_
          refine T_cond rfl (fun h6 => ?_) (fun h6 => ?_)
          · skip
            refine T_region ?_
            refine TL_q (.int .i64 1) (fun _ _ hρ _ => r_move (hρ _ _ rfl)) rfl rfl rfl (w_n rfl) ?_
            refine TL_q (.int .i64 ((n : Nat) : Int)) (fun _ _ hρ _ => r_move (hρ _ _ rfl)) rfl rfl rfl (w_n rfl) ?_
            refine TL_q (.pointer (some ⟨B2, 1, none⟩)) (fun _ _ hρ _ => r_indexAddrA (i := 1) ar61 sz3 (hρ _ _ rfl) (hρ _ _ rfl) (by decide)) rfl rfl rfl (w_n rfl) ?_
            refine TL_store 2 (.cells #[.int .i64 ((val (s.extract 0 2) : Nat) : Int), .int .i64 ((n : Nat) : Int), .int .i64 0, .int .i64 0] 61) rfl (fun _ _ hρ hm => r_store sz3 (hρ _ _ rfl) (hρ _ _ rfl) (hm.at 2 rfl) rfl rfl rfl rfl) rfl rfl (w_n rfl) ?_
            refine TL_q (.bool true) (fun _ _ hρ _ => r_assign (hρ _ _ rfl)) rfl rfl rfl (w_n rfl) ?_
            refine TL_nil ?_
            refine p_blk_n ?_
            refine p_seq ?_
            refine T_region ?_
            refine TL_q (.int .i64 (((n : Nat) : Int) + 1)) (fun _ _ hρ _ => r_as (r_add (hρ _ _ rfl) (hρ _ _ rfl)) (int_as (wrap64 (by omega) (by omega)))) rfl rfl rfl (w_n rfl) ?_
            refine TL_q (.int .i64 (((n : Nat) : Int) + 1)) (fun _ _ hρ _ => r_move (hρ _ _ rfl)) rfl rfl rfl (w_n rfl) ?_
            refine TL_nil ?_
            exact p_at (n + 1, true, ((n : Nat) : Int)) ⟨⟨by omega, by rw [find_t (b := (s.extract 2 4)) h6]; rfl, by rw [find_t (b := (s.extract 2 4)) h6]; rfl⟩, by dsimp only; omega⟩ (sub_cons rfl (sub_cons rfl (sub_cons rfl (sub_cons rfl (sub_cons rfl (sub_cons rfl (sub_cons rfl (sub_cons rfl (sub_cons rfl (sub_cons rfl (sub_cons rfl (sub_cons rfl (sub_cons rfl sub_nil))))))))))))) (sub_cons rfl (sub_cons rfl sub_nil))
          · skip
            refine T_skip' ?_
            refine p_blk_n ?_
            refine p_seq ?_
            refine T_region ?_
            refine TL_q (.int .i64 (((n : Nat) : Int) + 1)) (fun _ _ hρ _ => r_as (r_add (hρ _ _ rfl) (hρ _ _ rfl)) (int_as (wrap64 (by omega) (by omega)))) rfl rfl rfl (w_n rfl) ?_
            refine TL_q (.int .i64 (((n : Nat) : Int) + 1)) (fun _ _ hρ _ => r_move (hρ _ _ rfl)) rfl rfl rfl (w_n rfl) ?_
            refine TL_nil ?_
            exact p_at (n + 1, f, v) ⟨⟨by omega, by rw [find_f (b := (s.extract 2 4)) h6]; exact hf, by rw [find_f (b := (s.extract 2 4)) h6]; exact hv⟩, by dsimp only; omega⟩ (sub_cons rfl (sub_cons rfl (sub_cons rfl (sub_cons rfl (sub_cons rfl (sub_cons rfl (sub_cons rfl (sub_cons rfl (sub_cons rfl (sub_cons rfl (sub_cons rfl (sub_cons rfl (sub_cons rfl sub_nil))))))))))))) (sub_cons rfl (sub_cons rfl sub_nil))
        · replace h5 := of_decide_eq_false h5
          refine T_exit' ?_
          refine p_then_x ?_
          refine p_then_x ?_
          refine p_blk_x ?_
          refine p_seq ?_
          have hn256 : n = 256 := by omega
          subst hn256
          obtain rfl : v = ((val (s.extract 2 4) : Nat) : Int) := hv
          obtain rfl : f = fnd (s.extract 2 4) := hf
          have q1 : val (s.extract 2 4) ≤ 255 := find_lt _ 256 (Nat.le_refl _)
          refine T_seq (T_region ?_)
          refine TL_q (.bool (fnd (s.extract 2 4))) (fun _ _ hρ _ => r_move (hρ _ _ rfl)) rfl rfl rfl (w_n rfl) ?_
          refine TL_q (.bool (!(fnd (s.extract 2 4)))) (fun _ _ hρ _ => r_not (b := fnd (s.extract 2 4)) (hρ _ _ rfl)) rfl rfl rfl (w_n rfl) ?_
          refine TL_seq ?_
          refine T_cond rfl (fun h7 => ?_) (fun h7 => ?_)
          · replace h7 := bnot_t h7
            refine T_seq (T_region ?_)
            refine TL_q (.agg #[.int .u8 0, .int .u8 0, .int .u8 0, .int .u8 0]) (fun _ _ _ _ => r_build (vs := []) (by kernel_rfl) rfl) rfl rfl rfl (w_n rfl) ?_
            refine TL_store 1 (.cells #[.int .u8 0, .int .u8 0, .int .u8 0, .int .u8 0] 27) rfl (fun _ _ hρ hm => r_store sz27 (hρ _ _ rfl) (hρ _ _ rfl) (hm.at 1 rfl) rfl rfl rfl rfl) rfl rfl (w_n rfl) ?_
            refine TL_q (.bool false) (fun _ _ hρ _ => r_assign (hρ _ _ rfl)) rfl rfl rfl (w_n rfl) ?_
            refine TL_seq ?_
            refine T_ret' ?_
            refine p_blk_r ?_
            refine p_then_r ?_
            refine p_then_r ?_
            refine p_blk_r ?_
            refine p_then_r ?_
            refine ret_of rfl (.tuple #[.agg #[.int .u8 0, .int .u8 0, .int .u8 0, .int .u8 0], .bool false]) (fun tmps w hk hm => res2 rfl (res_cell (hk 2 _ rfl) (run_loadVar_agg ag27 sz27 (hm.at 1 rfl) (Nat.le_of_ble_eq_true rfl) rfl)) (res_tmp (hk 3 _ rfl))) (fun w hm => ?_)
            exact ⟨congrArg Ending.returned (readR_no (fun ⟨e0, e1, e2, e3, e4⟩ => by first | omega | simp_all)).symm, hm.ext⟩
          · replace h7 := bnot_f h7
            refine T_skip' ?_
            refine p_blk_n ?_
            refine p_seq ?_
            refine T_region ?_
            refine TL_q (.int .i64 2) (fun _ _ hρ _ => r_as (r_add (hρ _ _ rfl) (hρ _ _ rfl)) (by rfl)) rfl rfl rfl (w_n rfl) ?_
            refine TL_q (.int .i64 2) (fun _ _ hρ _ => r_move (hρ _ _ rfl)) rfl rfl rfl (w_n rfl) ?_
            refine TL_nil ?_
            refine p_round ?_
            refine TR_succ ?_
            refine T_seq (T_region ?_)
            refine TL_q (.bool true) (fun _ _ hρ _ => r_as (r_lss (hρ _ _ rfl) (hρ _ _ rfl)) (by rfl)) rfl rfl rfl (w_n rfl) ?_
            refine TL_seq ?_
            refine T_seq ?_
            refine T_cond_t rfl ?_
            refine T_skip' ?_
            refine p_seq ?_
            refine T_seq ?_
            refine T_block ?_
            refine T_seq (T_region ?_)
            refine TL_q (.int .i64 2) (fun _ _ hρ _ => r_move (hρ _ _ rfl)) rfl rfl rfl (w_n rfl) ?_
            refine TL_q (.int .i64 2) (fun _ _ hρ _ => r_assign (hρ _ _ rfl)) rfl rfl rfl (w_n rfl) ?_
            refine TL_seq ?_
            refine T_seq (T_region ?_)
            refine TL_q (.bool false) (fun _ _ hρ _ => r_assign (hρ _ _ rfl)) rfl rfl rfl (w_n rfl) ?_
            refine TL_seq ?_
            refine T_seq ?_
            refine T_seq (T_region ?_)
            refine TL_q (.int .i64 0) (fun _ _ hρ _ => r_move (hρ _ _ rfl)) rfl rfl rfl (w_n rfl) ?_
            refine TL_seq ?_
            refine T_block ?_
            refine T_loop (ι := Nat × Bool × Int) (fun (z : Nat × Bool × Int) => match z with | (n, f, v) => n ≤ 256 ∧ f = (findT (s.extract 4 6) n).isSome ∧ v = (((findT (s.extract 4 6) n).getD 0 : Nat) : Int)) (fun (z : Nat × Bool × Int) => match z with | (n, f, v) => [(0, .string s), (2, .pointer (some ⟨B1, 0, none⟩)), (3, .bool false), (4, .pointer (some ⟨B2, 0, none⟩)), (32, .bool (fnd (s.extract 2 4))), (33, .bool (!(fnd (s.extract 2 4)))), (35, .int .i64 2), (12, .int .i64 2), (13, .bool true), (14, .int .i64 2), (5, .int .i64 2), (15, .int .i64 ((n : Nat) : Int)), (6, .bool f)]) (fun (z : Nat × Bool × Int) => match z with | (n, f, v) => [(1, .blk B1 (.cells #[.int .u8 0, .int .u8 0, .int .u8 0, .int .u8 0] 27)), (2, .blk B2 (.cells #[.int .i64 ((val (s.extract 0 2) : Nat) : Int), .int .i64 ((val (s.extract 2 4) : Nat) : Int), .int .i64 v, .int .i64 0] 61))]) (fun (z : Nat × Bool × Int) => match z with | (n, f, v) => 256 - n) (0, false, 0) ⟨Nat.zero_le _, rfl, rfl⟩ (sub_cons rfl (sub_cons rfl (sub_cons rfl (sub_cons rfl (sub_cons rfl (sub_cons rfl (sub_cons rfl (sub_cons rfl (sub_cons rfl (sub_cons rfl (sub_cons rfl (sub_cons rfl (sub_cons rfl sub_nil))))))))))))) (sub_cons rfl (sub_cons rfl sub_nil)) ?_
            rintro ⟨n, f, v⟩ hp
            obtain ⟨hn, hf, hv⟩ := hp
            show T _ _ _ [(0, .string s), (2, .pointer (some ⟨B1, 0, none⟩)), (3, .bool false), (4, .pointer (some ⟨B2, 0, none⟩)), (32, .bool (fnd (s.extract 2 4))), (33, .bool (!(fnd (s.extract 2 4)))), (35, .int .i64 2), (12, .int .i64 2), (13, .bool true), (14, .int .i64 2), (5, .int .i64 2), (15, .int .i64 ((n : Nat) : Int)), (6, .bool f)] [(1, .blk B1 (.cells #[.int .u8 0, .int .u8 0, .int .u8 0, .int .u8 0] 27)), (2, .blk B2 (.cells #[.int .i64 ((val (s.extract 0 2) : Nat) : Int), .int .i64 ((val (s.extract 2 4) : Nat) : Int), .int .i64 v, .int .i64 0] 61))]
            refine T_seq (T_region ?_)
            refine TL_q (.bool (decide (((n : Nat) : Int) < 256))) (fun _ _ hρ _ => r_lss (hρ _ _ rfl) (hρ _ _ rfl)) rfl rfl rfl (w_n rfl) ?_
            refine TL_seq ?_
            refine T_seq ?_
            refine T_cond rfl (fun h8 => ?_) (fun h8 => ?_)
            · replace h8 := of_decide_eq_true h8
              refine T_skip' ?_
              refine p_seq ?_
              refine T_seq ?_
              refine T_block ?_
              refine T_seq (T_region ?_)
              refine TL_q (.int .i64 ((n : Nat) : Int)) (fun _ _ hρ _ => r_move (hρ _ _ rfl)) rfl rfl rfl (w_n rfl) ?_
              refine TL_q (.int .i64 ((n : Nat) : Int)) (fun _ _ hρ _ => r_assign (hρ _ _ rfl)) rfl rfl rfl (w_n rfl) ?_
              refine TL_seq ?_
              refine T_seq (T_draw (V := [(0, .int .i64 ((n : Nat) : Int)), (2, .string s), (3, .int .i64 2), (4, .int .i64 4), (5, .int .i64 2), (6, .int .i64 4), (7, .int .i64 6), (8, .string (s.extract 4 6))]) [0, 1, 0, 0, 8, 0, 32, 96, 252, 511] [[(7, none)], [(18, some 0)], [(0, none)], [(5, none)], [(21, some 3)], [(5, none)], [(23, some 5)], [(24, some 6)], [(20, some 2), (22, some 4), (25, some 7)], [(19, some 1), (26, some 8)]] 2 mixed (by kernel_rfl) ?_)
              refine G_step [0, 2, 3, 4, 5, 6, 7, 8] 1 [] (by kernel_rfl) (allM (all_cons (q_run (.int .i64 ((n : Nat) : Int)) rfl rfl (wv_n rfl) rfl (fun _ _ hρ _ => r_move (hρ _ _ rfl))) (all_cons (q_run (.string s) rfl rfl (wv_n rfl) rfl (fun _ _ hρ _ => r_move (hρ _ _ rfl))) (all_cons (q_run (.int .i64 2) rfl rfl (wv_n rfl) rfl (fun _ _ hρ _ => r_move (hρ _ _ rfl))) (all_cons (q_run (.int .i64 4) rfl rfl (wv_n rfl) rfl (fun _ _ hρ _ => r_as (r_mul (hρ _ _ rfl) (hρ _ _ rfl)) (by rfl))) (all_cons (q_run (.int .i64 2) rfl rfl (wv_n rfl) rfl (fun _ _ hρ _ => r_move (hρ _ _ rfl))) (all_cons (q_run (.int .i64 4) rfl rfl (wv_n rfl) rfl (fun _ _ hρ _ => r_as (r_mul (hρ _ _ rfl) (hρ _ _ rfl)) (by rfl))) (all_cons (q_run (.int .i64 6) rfl rfl (wv_n rfl) rfl (fun _ _ hρ _ => r_as (r_add (hρ _ _ rfl) (hρ _ _ rfl)) (by rfl))) (all_cons (q_run (.string (s.extract 4 6)) rfl rfl (wv_n rfl) rfl (fun _ _ hρ _ => r_sliceT st9 (hρ _ _ rfl) (bd_some (n := 6) (hρ _ _ rfl)) (bd_some (n := 4) (hρ _ _ rfl)) (by omega) (by omega))) all_nil))))))))) (allM (all_cons ?_ all_nil))
              refine LOb_call (.string (hexT n)) [(9, .bool ((hexT n).toList == (s.extract 4 6).toList))] rfl (wv_n rfl) rfl rfl (fun _ _ hρ _ => r_call (args := [.int .i64 ((n : Nat) : Int)]) (enters_of Try.func31 (by kernel_rfl) rfl) (hρ _ _ rfl) ((cons2 (hρ _ _ rfl) rfl)) rfl) (fun w _ => hex_ref n w (by omega)) (by kernel_rfl) ?_
              refine G_last [2, 3, 4, 5, 6, 7, 8, 9] [(0, .string s), (2, .pointer (some ⟨B1, 0, none⟩)), (3, .bool false), (4, .pointer (some ⟨B2, 0, none⟩)), (32, .bool (fnd (s.extract 2 4))), (33, .bool (!(fnd (s.extract 2 4)))), (35, .int .i64 2), (12, .int .i64 2), (13, .bool true), (14, .int .i64 2), (5, .int .i64 2), (15, .int .i64 ((n : Nat) : Int)), (6, .bool f), (16, .bool (decide (((n : Nat) : Int) < 256))), (17, .int .i64 ((n : Nat) : Int)), (7, .int .i64 ((n : Nat) : Int)), (18, .int .i64 ((n : Nat) : Int)), (19, .string (hexT n)), (20, .string s), (21, .int .i64 2), (22, .int .i64 4), (23, .int .i64 2), (24, .int .i64 4), (25, .int .i64 6), (26, .string (s.extract 4 6)), (27, .bool ((hexT n).toList == (s.extract 4 6).toList))] (by kernel_rfl) (allM (all_cons (q_run (.string s) rfl rfl (wv_n rfl) rfl (fun _ _ hρ _ => r_move (hρ _ _ rfl))) (all_cons (q_run (.int .i64 2) rfl rfl (wv_n rfl) rfl (fun _ _ hρ _ => r_move (hρ _ _ rfl))) (all_cons (q_run (.int .i64 4) rfl rfl (wv_n rfl) rfl (fun _ _ hρ _ => r_as (r_mul (hρ _ _ rfl) (hρ _ _ rfl)) (by rfl))) (all_cons (q_run (.int .i64 2) rfl rfl (wv_n rfl) rfl (fun _ _ hρ _ => r_move (hρ _ _ rfl))) (all_cons (q_run (.int .i64 4) rfl rfl (wv_n rfl) rfl (fun _ _ hρ _ => r_as (r_mul (hρ _ _ rfl) (hρ _ _ rfl)) (by rfl))) (all_cons (q_run (.int .i64 6) rfl rfl (wv_n rfl) rfl (fun _ _ hρ _ => r_as (r_add (hρ _ _ rfl) (hρ _ _ rfl)) (by rfl))) (all_cons (q_run (.string (s.extract 4 6)) rfl rfl (wv_n rfl) rfl (fun _ _ hρ _ => r_sliceT st9 (hρ _ _ rfl) (bd_some (n := 6) (hρ _ _ rfl)) (bd_some (n := 4) (hρ _ _ rfl)) (by omega) (by omega))) (all_cons (q_run (.bool ((hexT n).toList == (s.extract 4 6).toList)) rfl rfl (wv_n rfl) rfl (fun _ _ hρ _ => r_eqlS (hρ _ _ rfl) (hρ _ _ rfl))) all_nil))))))))) (end_old rfl rfl (end_old rfl rfl (end_old rfl rfl (end_old rfl rfl (end_old rfl rfl (end_old rfl rfl (end_old rfl rfl (end_old rfl rfl (end_old rfl rfl (end_old rfl rfl (end_old rfl rfl (end_old rfl rfl (end_old rfl rfl (end_old rfl rfl (end_old rfl rfl (end_old rfl rfl (end_new 0 rfl rfl (end_new 1 rfl rfl (end_new 2 rfl rfl (end_new 3 rfl rfl (end_new 4 rfl rfl (end_new 5 rfl rfl (end_new 6 rfl rfl (end_new 7 rfl rfl (end_new 8 rfl rfl (end_new 9 rfl rfl end_nil)))))))))))))))))))))))))) ?_
              refine T_cond rfl (fun h9 => ?_) (fun h9 => ?_)
              · skip
                refine T_region ?_
                refine TL_q (.int .i64 2) (fun _ _ hρ _ => r_move (hρ _ _ rfl)) rfl rfl rfl (w_n rfl) ?_
                refine TL_q (.int .i64 ((n : Nat) : Int)) (fun _ _ hρ _ => r_move (hρ _ _ rfl)) rfl rfl rfl (w_n rfl) ?_
                refine TL_q (.pointer (some ⟨B2, 2, none⟩)) (fun _ _ hρ _ => r_indexAddrA (i := 2) ar61 sz3 (hρ _ _ rfl) (hρ _ _ rfl) (by decide)) rfl rfl rfl (w_n rfl) ?_
                refine TL_store 2 (.cells #[.int .i64 ((val (s.extract 0 2) : Nat) : Int), .int .i64 ((val (s.extract 2 4) : Nat) : Int), .int .i64 ((n : Nat) : Int), .int .i64 0] 61) rfl (fun _ _ hρ hm => r_store sz3 (hρ _ _ rfl) (hρ _ _ rfl) (hm.at 2 rfl) rfl rfl rfl rfl) rfl rfl (w_n rfl) ?_
                refine TL_q (.bool true) (fun _ _ hρ _ => r_assign (hρ _ _ rfl)) rfl rfl rfl (w_n rfl) ?_
                refine TL_nil ?_
                refine p_blk_n ?_
                refine p_seq ?_
                refine T_region ?_
                refine TL_q (.int .i64 (((n : Nat) : Int) + 1)) (fun _ _ hρ _ => r_as (r_add (hρ _ _ rfl) (hρ _ _ rfl)) (int_as (wrap64 (by omega) (by omega)))) rfl rfl rfl (w_n rfl) ?_
                refine TL_q (.int .i64 (((n : Nat) : Int) + 1)) (fun _ _ hρ _ => r_move (hρ _ _ rfl)) rfl rfl rfl (w_n rfl) ?_
                refine TL_nil ?_
                exact p_at (n + 1, true, ((n : Nat) : Int)) ⟨⟨by omega, by rw [find_t (b := (s.extract 4 6)) h9]; rfl, by rw [find_t (b := (s.extract 4 6)) h9]; rfl⟩, by dsimp only; omega⟩ (sub_cons rfl (sub_cons rfl (sub_cons rfl (sub_cons rfl (sub_cons rfl (sub_cons rfl (sub_cons rfl (sub_cons rfl (sub_cons rfl (sub_cons rfl (sub_cons rfl (sub_cons rfl (sub_cons rfl sub_nil))))))))))))) (sub_cons rfl (sub_cons rfl sub_nil))
              · skip
                refine T_skip' ?_
                refine p_blk_n ?_
                refine p_seq ?_
                refine T_region ?_
                refine TL_q (.int .i64 (((n : Nat) : Int) + 1)) (fun _ _ hρ _ => r_as (r_add (hρ _ _ rfl) (hρ _ _ rfl)) (int_as (wrap64 (by omega) (by omega)))) rfl rfl rfl (w_n rfl) ?_
                refine TL_q (.int .i64 (((n : Nat) : Int) + 1)) (fun _ _ hρ _ => r_move (hρ _ _ rfl)) rfl rfl rfl (w_n rfl) ?_
                refine TL_nil ?_
                exact p_at (n + 1, f, v) ⟨⟨by omega, by rw [find_f (b := (s.extract 4 6)) h9]; exact hf, by rw [find_f (b := (s.extract 4 6)) h9]; exact hv⟩, by dsimp only; omega⟩ (sub_cons rfl (sub_cons rfl (sub_cons rfl (sub_cons rfl (sub_cons rfl (sub_cons rfl (sub_cons rfl (sub_cons rfl (sub_cons rfl (sub_cons rfl (sub_cons rfl (sub_cons rfl (sub_cons rfl sub_nil))))))))))))) (sub_cons rfl (sub_cons rfl sub_nil))
            · replace h8 := of_decide_eq_false h8
              refine T_exit' ?_
              refine p_then_x ?_
              refine p_then_x ?_
              refine p_blk_x ?_
              refine p_seq ?_
              have hn256 : n = 256 := by omega
              subst hn256
              obtain rfl : v = ((val (s.extract 4 6) : Nat) : Int) := hv
              obtain rfl : f = fnd (s.extract 4 6) := hf
              have q2 : val (s.extract 4 6) ≤ 255 := find_lt _ 256 (Nat.le_refl _)
              refine T_seq (T_region ?_)
              refine TL_q (.bool (fnd (s.extract 4 6))) (fun _ _ hρ _ => r_move (hρ _ _ rfl)) rfl rfl rfl (w_n rfl) ?_
              refine TL_q (.bool (!(fnd (s.extract 4 6)))) (fun _ _ hρ _ => r_not (b := fnd (s.extract 4 6)) (hρ _ _ rfl)) rfl rfl rfl (w_n rfl) ?_
              refine TL_seq ?_
              refine T_cond rfl (fun h10 => ?_) (fun h10 => ?_)
              · replace h10 := bnot_t h10
                refine T_seq (T_region ?_)
                refine TL_q (.agg #[.int .u8 0, .int .u8 0, .int .u8 0, .int .u8 0]) (fun _ _ _ _ => r_build (vs := []) (by kernel_rfl) rfl) rfl rfl rfl (w_n rfl) ?_
                refine TL_store 1 (.cells #[.int .u8 0, .int .u8 0, .int .u8 0, .int .u8 0] 27) rfl (fun _ _ hρ hm => r_store sz27 (hρ _ _ rfl) (hρ _ _ rfl) (hm.at 1 rfl) rfl rfl rfl rfl) rfl rfl (w_n rfl) ?_
                refine TL_q (.bool false) (fun _ _ hρ _ => r_assign (hρ _ _ rfl)) rfl rfl rfl (w_n rfl) ?_
                refine TL_seq ?_
                refine T_ret' ?_
                refine p_blk_r ?_
                refine p_then_r ?_
                refine p_then_r ?_
                refine p_blk_r ?_
                refine p_then_r ?_
                refine ret_of rfl (.tuple #[.agg #[.int .u8 0, .int .u8 0, .int .u8 0, .int .u8 0], .bool false]) (fun tmps w hk hm => res2 rfl (res_cell (hk 2 _ rfl) (run_loadVar_agg ag27 sz27 (hm.at 1 rfl) (Nat.le_of_ble_eq_true rfl) rfl)) (res_tmp (hk 3 _ rfl))) (fun w hm => ?_)
                exact ⟨congrArg Ending.returned (readR_no (fun ⟨e0, e1, e2, e3, e4⟩ => by first | omega | simp_all)).symm, hm.ext⟩
              · replace h10 := bnot_f h10
                refine T_skip' ?_
                refine p_blk_n ?_
                refine p_seq ?_
                refine T_region ?_
                refine TL_q (.int .i64 3) (fun _ _ hρ _ => r_as (r_add (hρ _ _ rfl) (hρ _ _ rfl)) (by rfl)) rfl rfl rfl (w_n rfl) ?_
                refine TL_q (.int .i64 3) (fun _ _ hρ _ => r_move (hρ _ _ rfl)) rfl rfl rfl (w_n rfl) ?_
                refine TL_nil ?_
                refine p_round ?_
                refine TR_succ ?_
                refine T_seq (T_region ?_)
                refine TL_q (.bool true) (fun _ _ hρ _ => r_as (r_lss (hρ _ _ rfl) (hρ _ _ rfl)) (by rfl)) rfl rfl rfl (w_n rfl) ?_
                refine TL_seq ?_
                refine T_seq ?_
                refine T_cond_t rfl ?_
                refine T_skip' ?_
                refine p_seq ?_
                refine T_seq ?_
                refine T_block ?_
                refine T_seq (T_region ?_)
                refine TL_q (.int .i64 3) (fun _ _ hρ _ => r_move (hρ _ _ rfl)) rfl rfl rfl (w_n rfl) ?_
                refine TL_q (.int .i64 3) (fun _ _ hρ _ => r_assign (hρ _ _ rfl)) rfl rfl rfl (w_n rfl) ?_
                refine TL_seq ?_
                refine T_seq (T_region ?_)
                refine TL_q (.bool false) (fun _ _ hρ _ => r_assign (hρ _ _ rfl)) rfl rfl rfl (w_n rfl) ?_
                refine TL_seq ?_
                refine T_seq ?_
                refine T_seq (T_region ?_)
                refine TL_q (.int .i64 0) (fun _ _ hρ _ => r_move (hρ _ _ rfl)) rfl rfl rfl (w_n rfl) ?_
                refine TL_seq ?_
                refine T_block ?_
                refine T_loop (ι := Nat × Bool × Int) (fun (z : Nat × Bool × Int) => match z with | (n, f, v) => n ≤ 256 ∧ f = (findT (s.extract 6 8) n).isSome ∧ v = (((findT (s.extract 6 8) n).getD 0 : Nat) : Int)) (fun (z : Nat × Bool × Int) => match z with | (n, f, v) => [(0, .string s), (2, .pointer (some ⟨B1, 0, none⟩)), (3, .bool false), (4, .pointer (some ⟨B2, 0, none⟩)), (32, .bool (fnd (s.extract 4 6))), (33, .bool (!(fnd (s.extract 4 6)))), (35, .int .i64 3), (12, .int .i64 3), (13, .bool true), (14, .int .i64 3), (5, .int .i64 3), (15, .int .i64 ((n : Nat) : Int)), (6, .bool f)]) (fun (z : Nat × Bool × Int) => match z with | (n, f, v) => [(1, .blk B1 (.cells #[.int .u8 0, .int .u8 0, .int .u8 0, .int .u8 0] 27)), (2, .blk B2 (.cells #[.int .i64 ((val (s.extract 0 2) : Nat) : Int), .int .i64 ((val (s.extract 2 4) : Nat) : Int), .int .i64 ((val (s.extract 4 6) : Nat) : Int), .int .i64 v] 61))]) (fun (z : Nat × Bool × Int) => match z with | (n, f, v) => 256 - n) (0, false, 0) ⟨Nat.zero_le _, rfl, rfl⟩ (sub_cons rfl (sub_cons rfl (sub_cons rfl (sub_cons rfl (sub_cons rfl (sub_cons rfl (sub_cons rfl (sub_cons rfl (sub_cons rfl (sub_cons rfl (sub_cons rfl (sub_cons rfl (sub_cons rfl sub_nil))))))))))))) (sub_cons rfl (sub_cons rfl sub_nil)) ?_
                rintro ⟨n, f, v⟩ hp
                obtain ⟨hn, hf, hv⟩ := hp
                show T _ _ _ [(0, .string s), (2, .pointer (some ⟨B1, 0, none⟩)), (3, .bool false), (4, .pointer (some ⟨B2, 0, none⟩)), (32, .bool (fnd (s.extract 4 6))), (33, .bool (!(fnd (s.extract 4 6)))), (35, .int .i64 3), (12, .int .i64 3), (13, .bool true), (14, .int .i64 3), (5, .int .i64 3), (15, .int .i64 ((n : Nat) : Int)), (6, .bool f)] [(1, .blk B1 (.cells #[.int .u8 0, .int .u8 0, .int .u8 0, .int .u8 0] 27)), (2, .blk B2 (.cells #[.int .i64 ((val (s.extract 0 2) : Nat) : Int), .int .i64 ((val (s.extract 2 4) : Nat) : Int), .int .i64 ((val (s.extract 4 6) : Nat) : Int), .int .i64 v] 61))]
                refine T_seq (T_region ?_)
                refine TL_q (.bool (decide (((n : Nat) : Int) < 256))) (fun _ _ hρ _ => r_lss (hρ _ _ rfl) (hρ _ _ rfl)) rfl rfl rfl (w_n rfl) ?_
                refine TL_seq ?_
                refine T_seq ?_
                refine T_cond rfl (fun h11 => ?_) (fun h11 => ?_)
                · replace h11 := of_decide_eq_true h11
                  refine T_skip' ?_
                  refine p_seq ?_
                  refine T_seq ?_
                  refine T_block ?_
                  refine T_seq (T_region ?_)
                  refine TL_q (.int .i64 ((n : Nat) : Int)) (fun _ _ hρ _ => r_move (hρ _ _ rfl)) rfl rfl rfl (w_n rfl) ?_
                  refine TL_q (.int .i64 ((n : Nat) : Int)) (fun _ _ hρ _ => r_assign (hρ _ _ rfl)) rfl rfl rfl (w_n rfl) ?_
                  refine TL_seq ?_
                  refine T_seq (T_draw (V := [(0, .int .i64 ((n : Nat) : Int)), (2, .string s), (3, .int .i64 3), (4, .int .i64 6), (5, .int .i64 3), (6, .int .i64 6), (7, .int .i64 8), (8, .string (s.extract 6 8))]) [0, 1, 0, 0, 8, 0, 32, 96, 252, 511] [[(7, none)], [(18, some 0)], [(0, none)], [(5, none)], [(21, some 3)], [(5, none)], [(23, some 5)], [(24, some 6)], [(20, some 2), (22, some 4), (25, some 7)], [(19, some 1), (26, some 8)]] 2 mixed (by kernel_rfl) ?_)
                  refine G_step [0, 2, 3, 4, 5, 6, 7, 8] 1 [] (by kernel_rfl) (allM (all_cons (q_run (.int .i64 ((n : Nat) : Int)) rfl rfl (wv_n rfl) rfl (fun _ _ hρ _ => r_move (hρ _ _ rfl))) (all_cons (q_run (.string s) rfl rfl (wv_n rfl) rfl (fun _ _ hρ _ => r_move (hρ _ _ rfl))) (all_cons (q_run (.int .i64 3) rfl rfl (wv_n rfl) rfl (fun _ _ hρ _ => r_move (hρ _ _ rfl))) (all_cons (q_run (.int .i64 6) rfl rfl (wv_n rfl) rfl (fun _ _ hρ _ => r_as (r_mul (hρ _ _ rfl) (hρ _ _ rfl)) (by rfl))) (all_cons (q_run (.int .i64 3) rfl rfl (wv_n rfl) rfl (fun _ _ hρ _ => r_move (hρ _ _ rfl))) (all_cons (q_run (.int .i64 6) rfl rfl (wv_n rfl) rfl (fun _ _ hρ _ => r_as (r_mul (hρ _ _ rfl) (hρ _ _ rfl)) (by rfl))) (all_cons (q_run (.int .i64 8) rfl rfl (wv_n rfl) rfl (fun _ _ hρ _ => r_as (r_add (hρ _ _ rfl) (hρ _ _ rfl)) (by rfl))) (all_cons (q_run (.string (s.extract 6 8)) rfl rfl (wv_n rfl) rfl (fun _ _ hρ _ => r_sliceT st9 (hρ _ _ rfl) (bd_some (n := 8) (hρ _ _ rfl)) (bd_some (n := 6) (hρ _ _ rfl)) (by omega) (by omega))) all_nil))))))))) (allM (all_cons ?_ all_nil))
                  refine LOb_call (.string (hexT n)) [(9, .bool ((hexT n).toList == (s.extract 6 8).toList))] rfl (wv_n rfl) rfl rfl (fun _ _ hρ _ => r_call (args := [.int .i64 ((n : Nat) : Int)]) (enters_of Try.func31 (by kernel_rfl) rfl) (hρ _ _ rfl) ((cons2 (hρ _ _ rfl) rfl)) rfl) (fun w _ => hex_ref n w (by omega)) (by kernel_rfl) ?_
                  refine G_last [2, 3, 4, 5, 6, 7, 8, 9] [(0, .string s), (2, .pointer (some ⟨B1, 0, none⟩)), (3, .bool false), (4, .pointer (some ⟨B2, 0, none⟩)), (32, .bool (fnd (s.extract 4 6))), (33, .bool (!(fnd (s.extract 4 6)))), (35, .int .i64 3), (12, .int .i64 3), (13, .bool true), (14, .int .i64 3), (5, .int .i64 3), (15, .int .i64 ((n : Nat) : Int)), (6, .bool f), (16, .bool (decide (((n : Nat) : Int) < 256))), (17, .int .i64 ((n : Nat) : Int)), (7, .int .i64 ((n : Nat) : Int)), (18, .int .i64 ((n : Nat) : Int)), (19, .string (hexT n)), (20, .string s), (21, .int .i64 3), (22, .int .i64 6), (23, .int .i64 3), (24, .int .i64 6), (25, .int .i64 8), (26, .string (s.extract 6 8)), (27, .bool ((hexT n).toList == (s.extract 6 8).toList))] (by kernel_rfl) (allM (all_cons (q_run (.string s) rfl rfl (wv_n rfl) rfl (fun _ _ hρ _ => r_move (hρ _ _ rfl))) (all_cons (q_run (.int .i64 3) rfl rfl (wv_n rfl) rfl (fun _ _ hρ _ => r_move (hρ _ _ rfl))) (all_cons (q_run (.int .i64 6) rfl rfl (wv_n rfl) rfl (fun _ _ hρ _ => r_as (r_mul (hρ _ _ rfl) (hρ _ _ rfl)) (by rfl))) (all_cons (q_run (.int .i64 3) rfl rfl (wv_n rfl) rfl (fun _ _ hρ _ => r_move (hρ _ _ rfl))) (all_cons (q_run (.int .i64 6) rfl rfl (wv_n rfl) rfl (fun _ _ hρ _ => r_as (r_mul (hρ _ _ rfl) (hρ _ _ rfl)) (by rfl))) (all_cons (q_run (.int .i64 8) rfl rfl (wv_n rfl) rfl (fun _ _ hρ _ => r_as (r_add (hρ _ _ rfl) (hρ _ _ rfl)) (by rfl))) (all_cons (q_run (.string (s.extract 6 8)) rfl rfl (wv_n rfl) rfl (fun _ _ hρ _ => r_sliceT st9 (hρ _ _ rfl) (bd_some (n := 8) (hρ _ _ rfl)) (bd_some (n := 6) (hρ _ _ rfl)) (by omega) (by omega))) (all_cons (q_run (.bool ((hexT n).toList == (s.extract 6 8).toList)) rfl rfl (wv_n rfl) rfl (fun _ _ hρ _ => r_eqlS (hρ _ _ rfl) (hρ _ _ rfl))) all_nil))))))))) (end_old rfl rfl (end_old rfl rfl (end_old rfl rfl (end_old rfl rfl (end_old rfl rfl (end_old rfl rfl (end_old rfl rfl (end_old rfl rfl (end_old rfl rfl (end_old rfl rfl (end_old rfl rfl (end_old rfl rfl (end_old rfl rfl (end_old rfl rfl (end_old rfl rfl (end_old rfl rfl (end_new 0 rfl rfl (end_new 1 rfl rfl (end_new 2 rfl rfl (end_new 3 rfl rfl (end_new 4 rfl rfl (end_new 5 rfl rfl (end_new 6 rfl rfl (end_new 7 rfl rfl (end_new 8 rfl rfl (end_new 9 rfl rfl end_nil)))))))))))))))))))))))))) ?_
                  refine T_cond rfl (fun h12 => ?_) (fun h12 => ?_)
                  · skip
                    refine T_region ?_
                    refine TL_q (.int .i64 3) (fun _ _ hρ _ => r_move (hρ _ _ rfl)) rfl rfl rfl (w_n rfl) ?_
                    refine TL_q (.int .i64 ((n : Nat) : Int)) (fun _ _ hρ _ => r_move (hρ _ _ rfl)) rfl rfl rfl (w_n rfl) ?_
                    refine TL_q (.pointer (some ⟨B2, 3, none⟩)) (fun _ _ hρ _ => r_indexAddrA (i := 3) ar61 sz3 (hρ _ _ rfl) (hρ _ _ rfl) (by decide)) rfl rfl rfl (w_n rfl) ?_
                    refine TL_store 2 (.cells #[.int .i64 ((val (s.extract 0 2) : Nat) : Int), .int .i64 ((val (s.extract 2 4) : Nat) : Int), .int .i64 ((val (s.extract 4 6) : Nat) : Int), .int .i64 ((n : Nat) : Int)] 61) rfl (fun _ _ hρ hm => r_store sz3 (hρ _ _ rfl) (hρ _ _ rfl) (hm.at 2 rfl) rfl rfl rfl rfl) rfl rfl (w_n rfl) ?_
                    refine TL_q (.bool true) (fun _ _ hρ _ => r_assign (hρ _ _ rfl)) rfl rfl rfl (w_n rfl) ?_
                    refine TL_nil ?_
                    refine p_blk_n ?_
                    refine p_seq ?_
                    refine T_region ?_
                    refine TL_q (.int .i64 (((n : Nat) : Int) + 1)) (fun _ _ hρ _ => r_as (r_add (hρ _ _ rfl) (hρ _ _ rfl)) (int_as (wrap64 (by omega) (by omega)))) rfl rfl rfl (w_n rfl) ?_
                    refine TL_q (.int .i64 (((n : Nat) : Int) + 1)) (fun _ _ hρ _ => r_move (hρ _ _ rfl)) rfl rfl rfl (w_n rfl) ?_
                    refine TL_nil ?_
                    exact p_at (n + 1, true, ((n : Nat) : Int)) ⟨⟨by omega, by rw [find_t (b := (s.extract 6 8)) h12]; rfl, by rw [find_t (b := (s.extract 6 8)) h12]; rfl⟩, by dsimp only; omega⟩ (sub_cons rfl (sub_cons rfl (sub_cons rfl (sub_cons rfl (sub_cons rfl (sub_cons rfl (sub_cons rfl (sub_cons rfl (sub_cons rfl (sub_cons rfl (sub_cons rfl (sub_cons rfl (sub_cons rfl sub_nil))))))))))))) (sub_cons rfl (sub_cons rfl sub_nil))
                  · skip
                    refine T_skip' ?_
                    refine p_blk_n ?_
                    refine p_seq ?_
                    refine T_region ?_
                    refine TL_q (.int .i64 (((n : Nat) : Int) + 1)) (fun _ _ hρ _ => r_as (r_add (hρ _ _ rfl) (hρ _ _ rfl)) (int_as (wrap64 (by omega) (by omega)))) rfl rfl rfl (w_n rfl) ?_
                    refine TL_q (.int .i64 (((n : Nat) : Int) + 1)) (fun _ _ hρ _ => r_move (hρ _ _ rfl)) rfl rfl rfl (w_n rfl) ?_
                    refine TL_nil ?_
                    exact p_at (n + 1, f, v) ⟨⟨by omega, by rw [find_f (b := (s.extract 6 8)) h12]; exact hf, by rw [find_f (b := (s.extract 6 8)) h12]; exact hv⟩, by dsimp only; omega⟩ (sub_cons rfl (sub_cons rfl (sub_cons rfl (sub_cons rfl (sub_cons rfl (sub_cons rfl (sub_cons rfl (sub_cons rfl (sub_cons rfl (sub_cons rfl (sub_cons rfl (sub_cons rfl (sub_cons rfl sub_nil))))))))))))) (sub_cons rfl (sub_cons rfl sub_nil))
                · replace h11 := of_decide_eq_false h11
                  refine T_exit' ?_
                  refine p_then_x ?_
                  refine p_then_x ?_
                  refine p_blk_x ?_
                  refine p_seq ?_
                  have hn256 : n = 256 := by omega
                  subst hn256
                  obtain rfl : v = ((val (s.extract 6 8) : Nat) : Int) := hv
                  obtain rfl : f = fnd (s.extract 6 8) := hf
                  have q3 : val (s.extract 6 8) ≤ 255 := find_lt _ 256 (Nat.le_refl _)
                  refine T_seq (T_region ?_)
                  refine TL_q (.bool (fnd (s.extract 6 8))) (fun _ _ hρ _ => r_move (hρ _ _ rfl)) rfl rfl rfl (w_n rfl) ?_
                  refine TL_q (.bool (!(fnd (s.extract 6 8)))) (fun _ _ hρ _ => r_not (b := fnd (s.extract 6 8)) (hρ _ _ rfl)) rfl rfl rfl (w_n rfl) ?_
                  refine TL_seq ?_
                  refine T_cond rfl (fun h13 => ?_) (fun h13 => ?_)
                  · replace h13 := bnot_t h13
                    refine T_seq (T_region ?_)
                    refine TL_q (.agg #[.int .u8 0, .int .u8 0, .int .u8 0, .int .u8 0]) (fun _ _ _ _ => r_build (vs := []) (by kernel_rfl) rfl) rfl rfl rfl (w_n rfl) ?_
                    refine TL_store 1 (.cells #[.int .u8 0, .int .u8 0, .int .u8 0, .int .u8 0] 27) rfl (fun _ _ hρ hm => r_store sz27 (hρ _ _ rfl) (hρ _ _ rfl) (hm.at 1 rfl) rfl rfl rfl rfl) rfl rfl (w_n rfl) ?_
                    refine TL_q (.bool false) (fun _ _ hρ _ => r_assign (hρ _ _ rfl)) rfl rfl rfl (w_n rfl) ?_
                    refine TL_seq ?_
                    refine T_ret' ?_
                    refine p_blk_r ?_
                    refine p_then_r ?_
                    refine p_then_r ?_
                    refine p_blk_r ?_
                    refine p_then_r ?_
                    refine ret_of rfl (.tuple #[.agg #[.int .u8 0, .int .u8 0, .int .u8 0, .int .u8 0], .bool false]) (fun tmps w hk hm => res2 rfl (res_cell (hk 2 _ rfl) (run_loadVar_agg ag27 sz27 (hm.at 1 rfl) (Nat.le_of_ble_eq_true rfl) rfl)) (res_tmp (hk 3 _ rfl))) (fun w hm => ?_)
                    exact ⟨congrArg Ending.returned (readR_no (fun ⟨e0, e1, e2, e3, e4⟩ => by first | omega | simp_all)).symm, hm.ext⟩
                  · replace h13 := bnot_f h13
                    refine T_skip' ?_
                    refine p_blk_n ?_
                    refine p_seq ?_
                    refine T_region ?_
                    refine TL_q (.int .i64 4) (fun _ _ hρ _ => r_as (r_add (hρ _ _ rfl) (hρ _ _ rfl)) (by rfl)) rfl rfl rfl (w_n rfl) ?_
                    refine TL_q (.int .i64 4) (fun _ _ hρ _ => r_move (hρ _ _ rfl)) rfl rfl rfl (w_n rfl) ?_
                    refine TL_nil ?_
                    refine p_round ?_
                    refine TR_succ ?_
                    refine T_seq (T_region ?_)
                    refine TL_q (.bool false) (fun _ _ hρ _ => r_as (r_lss (hρ _ _ rfl) (hρ _ _ rfl)) (by rfl)) rfl rfl rfl (w_n rfl) ?_
                    refine TL_seq ?_
                    refine T_seq ?_
                    refine T_cond_f rfl ?_
                    refine T_exit' ?_
                    refine p_then_x ?_
                    refine p_then_x ?_
                    refine p_blk_x ?_
                    refine p_seq ?_
                    refine T_seq (T_region ?_)
                    refine TL_q (.agg #[.int .i64 ((val (s.extract 0 2) : Nat) : Int), .int .i64 ((val (s.extract 2 4) : Nat) : Int), .int .i64 ((val (s.extract 4 6) : Nat) : Int), .int .i64 ((val (s.extract 6 8) : Nat) : Int)]) (fun _ _ hρ hm => r_loadA ag61 sz61 (hρ _ _ rfl) (hm.at 2 rfl) rfl rfl) rfl rfl rfl (w_n rfl) ?_
                    refine TL_call (.agg #[.int .u8 ((val (s.extract 0 2) : Nat) : Int), .int .u8 ((val (s.extract 2 4) : Nat) : Int), .int .u8 ((val (s.extract 4 6) : Nat) : Int), .int .u8 ((val (s.extract 6 8) : Nat) : Int)]) (fun _ _ hρ _ => r_call (args := [.agg #[.int .i64 ((val (s.extract 0 2) : Nat) : Int), .int .i64 ((val (s.extract 2 4) : Nat) : Int), .int .i64 ((val (s.extract 4 6) : Nat) : Int), .int .i64 ((val (s.extract 6 8) : Nat) : Int)]]) (enters_of Try.func34 (by kernel_rfl) rfl) (hρ _ _ rfl) ((cons2 (hρ _ _ rfl) rfl)) rfl) (fun w _ => of_ref (⟨((val (s.extract 0 2) : Nat) : Int), ((val (s.extract 2 4) : Nat) : Int), ((val (s.extract 4 6) : Nat) : Int), ((val (s.extract 6 8) : Nat) : Int)⟩ : C4) w ⟨⟨by dsimp only; omega, by dsimp only; omega⟩, ⟨by dsimp only; omega, by dsimp only; omega⟩, ⟨by dsimp only; omega, by dsimp only; omega⟩, ⟨by dsimp only; omega, by dsimp only; omega⟩⟩) rfl rfl rfl (w_n rfl) ?_
                    refine TL_store 1 (.cells #[.int .u8 ((val (s.extract 0 2) : Nat) : Int), .int .u8 ((val (s.extract 2 4) : Nat) : Int), .int .u8 ((val (s.extract 4 6) : Nat) : Int), .int .u8 ((val (s.extract 6 8) : Nat) : Int)] 27) rfl (fun _ _ hρ hm => r_store sz27 (hρ _ _ rfl) (hρ _ _ rfl) (hm.at 1 rfl) rfl rfl rfl rfl) rfl rfl (w_n rfl) ?_
                    refine TL_q (.bool true) (fun _ _ hρ _ => r_assign (hρ _ _ rfl)) rfl rfl rfl (w_n rfl) ?_
                    refine TL_seq ?_
                    refine T_ret' ?_
                    refine ret_of rfl (.tuple #[.agg #[.int .u8 ((val (s.extract 0 2) : Nat) : Int), .int .u8 ((val (s.extract 2 4) : Nat) : Int), .int .u8 ((val (s.extract 4 6) : Nat) : Int), .int .u8 ((val (s.extract 6 8) : Nat) : Int)], .bool true]) (fun tmps w hk hm => res2 rfl (res_cell (hk 2 _ rfl) (run_loadVar_agg ag27 sz27 (hm.at 1 rfl) (Nat.le_of_ble_eq_true rfl) rfl)) (res_tmp (hk 3 _ rfl))) (fun w hm => ?_)
                    exact ⟨congrArg Ending.returned (readR_yes (by omega) (by assumption) (by assumption) (by assumption) (by assumption)).symm, hm.ext⟩
end Go.Proofs.Ytnhkiblakclcoaa
