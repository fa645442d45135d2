/- pixel: the reference's functions on colours. Printed by a program of this seat's prover. -/
import Derived.Test.YtnhkiblakclcoaaPix
namespace Go.Proofs.Ytnhkiblakclcoaa
open Go.RowKit
set_option maxRecDepth 10000
theorem parts_ref (c : C4) (w : World) (hc : c.ok) : Calls Try.prog 30 #[c.v] w fun e w' => e = .returned (parV c) ∧ Below w.heap.size w w' := by
  obtain ⟨⟨a1, a2⟩, ⟨a3, a4⟩, ⟨a5, a6⟩, ⟨a7, a8⟩⟩ := hc
  refine calls_of_T (l := [.agg #[.int .u8 c.r, .int .u8 c.g, .int .u8 c.b, .int .u8 c.a]]) 16 Try.func30 rfl rfl rfl ?_
  show T _ _ _ [(0, .agg #[.int .u8 c.r, .int .u8 c.g, .int .u8 c.b, .int .u8 c.a])] []
  refine T_seq (T_region ?_)
  refine TL_new 1 (.cells #[.int .u8 c.r, .int .u8 c.g, .int .u8 c.b, .int .u8 c.a] 27) (fun B => .pointer (some ⟨B, 0, none⟩)) (fun _ _ hρ _ => r_box (hρ _ _ rfl) rfl) rfl rfl rfl (w_n rfl) ?_
  intro B1
  refine TL_new 2 (.cells #[.int .i64 0, .int .i64 0, .int .i64 0, .int .i64 0] 61) (fun B => .pointer (some ⟨B, 0, none⟩)) (fun _ _ _ _ => r_alloc (v := .agg #[.int .i64 0, .int .i64 0, .int .i64 0, .int .i64 0]) (by kernel_rfl) rfl) rfl rfl rfl (w_n rfl) ?_
  intro B2
  refine TL_seq ?_
  refine T_seq (T_region ?_)
  refine TL_q (.pointer (some ⟨B1, 0, none⟩)) (fun _ _ hρ _ => r_fieldAddr fl27_0 sz5 (hρ _ _ rfl)) rfl rfl rfl (w_n rfl) ?_
  refine TL_q (.int .u8 c.r) (fun _ _ hρ hm => r_load ag5 (hρ _ _ rfl) (hm.at 1 rfl) rfl) rfl rfl rfl (w_n rfl) ?_
  refine TL_q (.int .i64 c.r) (fun _ _ hρ _ => r_as (r_conv un5 io3 (hρ _ _ rfl)) (int_as (wrap64 (by omega) (by omega)))) rfl rfl rfl (w_n rfl) ?_
  refine TL_q (.pointer (some ⟨B1, 1, none⟩)) (fun _ _ hρ _ => r_fieldAddr fl27_1 sz5 (hρ _ _ rfl)) rfl rfl rfl (w_n rfl) ?_
  refine TL_q (.int .u8 c.g) (fun _ _ hρ hm => r_load ag5 (hρ _ _ rfl) (hm.at 1 rfl) rfl) rfl rfl rfl (w_n rfl) ?_
  refine TL_q (.int .i64 c.g) (fun _ _ hρ _ => r_as (r_conv un5 io3 (hρ _ _ rfl)) (int_as (wrap64 (by omega) (by omega)))) rfl rfl rfl (w_n rfl) ?_
  refine TL_q (.pointer (some ⟨B1, 2, none⟩)) (fun _ _ hρ _ => r_fieldAddr fl27_2 sz5 (hρ _ _ rfl)) rfl rfl rfl (w_n rfl) ?_
  refine TL_q (.int .u8 c.b) (fun _ _ hρ hm => r_load ag5 (hρ _ _ rfl) (hm.at 1 rfl) rfl) rfl rfl rfl (w_n rfl) ?_
  refine TL_q (.int .i64 c.b) (fun _ _ hρ _ => r_as (r_conv un5 io3 (hρ _ _ rfl)) (int_as (wrap64 (by omega) (by omega)))) rfl rfl rfl (w_n rfl) ?_
  refine TL_q (.pointer (some ⟨B1, 3, none⟩)) (fun _ _ hρ _ => r_fieldAddr fl27_3 sz5 (hρ _ _ rfl)) rfl rfl rfl (w_n rfl) ?_
  refine TL_q (.int .u8 c.a) (fun _ _ hρ hm => r_load ag5 (hρ _ _ rfl) (hm.at 1 rfl) rfl) rfl rfl rfl (w_n rfl) ?_
  refine TL_q (.int .i64 c.a) (fun _ _ hρ _ => r_as (r_conv un5 io3 (hρ _ _ rfl)) (int_as (wrap64 (by omega) (by omega)))) rfl rfl rfl (w_n rfl) ?_
  refine TL_q (.agg #[.int .i64 c.r, .int .i64 c.g, .int .i64 c.b, .int .i64 c.a]) (fun _ _ hρ _ => r_build (vs := [(0, .int .i64 c.r), (1, .int .i64 c.g), (2, .int .i64 c.b), (3, .int .i64 c.a)]) (by kernel_rfl) (cons2 (pair2 (hρ _ _ rfl)) (cons2 (pair2 (hρ _ _ rfl)) (cons2 (pair2 (hρ _ _ rfl)) (cons2 (pair2 (hρ _ _ rfl)) rfl))))) rfl rfl rfl (w_n rfl) ?_
  refine TL_store 2 (.cells #[.int .i64 c.r, .int .i64 c.g, .int .i64 c.b, .int .i64 c.a] 61) rfl (fun _ _ hρ hm => r_store sz61 (hρ _ _ rfl) (hρ _ _ rfl) (hm.at 2 rfl) rfl rfl rfl rfl) rfl rfl (w_n rfl) ?_
  refine TL_seq ?_
  refine T_ret' ?_
  refine ret_of rfl (.agg #[.int .i64 c.r, .int .i64 c.g, .int .i64 c.b, .int .i64 c.a]) (fun tmps w hk hm => res1 rfl (res_cell (hk 2 _ rfl) (run_loadVar_agg ag61 sz61 (hm.at 2 rfl) (Nat.le_of_ble_eq_true rfl) rfl))) (fun w hm => ?_)
  exact ⟨rfl, hm.ext⟩

theorem of_ref (c : C4) (w : World) (hc : c.ok) : Calls Try.prog 34 #[parV c] w fun e w' => e = .returned c.v ∧ Below w.heap.size w w' := by
  obtain ⟨⟨a1, a2⟩, ⟨a3, a4⟩, ⟨a5, a6⟩, ⟨a7, a8⟩⟩ := hc
  refine calls_of_T (l := [.agg #[.int .i64 c.r, .int .i64 c.g, .int .i64 c.b, .int .i64 c.a]]) 16 Try.func34 rfl rfl rfl ?_
  show T _ _ _ [(0, .agg #[.int .i64 c.r, .int .i64 c.g, .int .i64 c.b, .int .i64 c.a])] []
  refine T_seq (T_region ?_)
  refine TL_new 1 (.cells #[.int .i64 c.r, .int .i64 c.g, .int .i64 c.b, .int .i64 c.a] 61) (fun B => .pointer (some ⟨B, 0, none⟩)) (fun _ _ hρ _ => r_box (hρ _ _ rfl) rfl) rfl rfl rfl (w_n rfl) ?_
  intro B1
  refine TL_new 2 (.cells #[.int .u8 0, .int .u8 0, .int .u8 0, .int .u8 0] 27) (fun B => .pointer (some ⟨B, 0, none⟩)) (fun _ _ _ _ => r_alloc (v := .agg #[.int .u8 0, .int .u8 0, .int .u8 0, .int .u8 0]) (by kernel_rfl) rfl) rfl rfl rfl (w_n rfl) ?_
  intro B2
  refine TL_seq ?_
  refine T_seq (T_region ?_)
  refine TL_q (.pointer (some ⟨B1, 0, none⟩)) (fun _ _ hρ _ => r_indexAddrA (i := 0) ar61 sz3 (hρ _ _ rfl) (hρ _ _ rfl) (by decide)) rfl rfl rfl (w_n rfl) ?_
  refine TL_q (.int .i64 c.r) (fun _ _ hρ hm => r_load ag3 (hρ _ _ rfl) (hm.at 1 rfl) rfl) rfl rfl rfl (w_n rfl) ?_
  refine TL_q (.int .u8 c.r) (fun _ _ hρ _ => r_as (r_conv un3 io5 (hρ _ _ rfl)) (int_as (wrap_u8 (by omega) (by omega)))) rfl rfl rfl (w_n rfl) ?_
  refine TL_q (.pointer (some ⟨B1, 1, none⟩)) (fun _ _ hρ _ => r_indexAddrA (i := 1) ar61 sz3 (hρ _ _ rfl) (hρ _ _ rfl) (by decide)) rfl rfl rfl (w_n rfl) ?_
  refine TL_q (.int .i64 c.g) (fun _ _ hρ hm => r_load ag3 (hρ _ _ rfl) (hm.at 1 rfl) rfl) rfl rfl rfl (w_n rfl) ?_
  refine TL_q (.int .u8 c.g) (fun _ _ hρ _ => r_as (r_conv un3 io5 (hρ _ _ rfl)) (int_as (wrap_u8 (by omega) (by omega)))) rfl rfl rfl (w_n rfl) ?_
  refine TL_q (.pointer (some ⟨B1, 2, none⟩)) (fun _ _ hρ _ => r_indexAddrA (i := 2) ar61 sz3 (hρ _ _ rfl) (hρ _ _ rfl) (by decide)) rfl rfl rfl (w_n rfl) ?_
  refine TL_q (.int .i64 c.b) (fun _ _ hρ hm => r_load ag3 (hρ _ _ rfl) (hm.at 1 rfl) rfl) rfl rfl rfl (w_n rfl) ?_
  refine TL_q (.int .u8 c.b) (fun _ _ hρ _ => r_as (r_conv un3 io5 (hρ _ _ rfl)) (int_as (wrap_u8 (by omega) (by omega)))) rfl rfl rfl (w_n rfl) ?_
  refine TL_q (.pointer (some ⟨B1, 3, none⟩)) (fun _ _ hρ _ => r_indexAddrA (i := 3) ar61 sz3 (hρ _ _ rfl) (hρ _ _ rfl) (by decide)) rfl rfl rfl (w_n rfl) ?_
  refine TL_q (.int .i64 c.a) (fun _ _ hρ hm => r_load ag3 (hρ _ _ rfl) (hm.at 1 rfl) rfl) rfl rfl rfl (w_n rfl) ?_
  refine TL_q (.int .u8 c.a) (fun _ _ hρ _ => r_as (r_conv un3 io5 (hρ _ _ rfl)) (int_as (wrap_u8 (by omega) (by omega)))) rfl rfl rfl (w_n rfl) ?_
  refine TL_q (.agg #[.int .u8 c.r, .int .u8 c.g, .int .u8 c.b, .int .u8 c.a]) (fun _ _ hρ _ => r_build (vs := [(0, .int .u8 c.r), (1, .int .u8 c.g), (2, .int .u8 c.b), (3, .int .u8 c.a)]) (by kernel_rfl) (cons2 (pair2 (hρ _ _ rfl)) (cons2 (pair2 (hρ _ _ rfl)) (cons2 (pair2 (hρ _ _ rfl)) (cons2 (pair2 (hρ _ _ rfl)) rfl))))) rfl rfl rfl (w_n rfl) ?_
  refine TL_store 2 (.cells #[.int .u8 c.r, .int .u8 c.g, .int .u8 c.b, .int .u8 c.a] 27) rfl (fun _ _ hρ hm => r_store sz27 (hρ _ _ rfl) (hρ _ _ rfl) (hm.at 2 rfl) rfl rfl rfl rfl) rfl rfl (w_n rfl) ?_
  refine TL_seq ?_
  refine T_ret' ?_
  refine ret_of rfl (.agg #[.int .u8 c.r, .int .u8 c.g, .int .u8 c.b, .int .u8 c.a]) (fun tmps w hk hm => res1 rfl (res_cell (hk 2 _ rfl) (run_loadVar_agg ag27 sz27 (hm.at 2 rfl) (Nat.le_of_ble_eq_true rfl) rfl))) (fun w hm => ?_)
  exact ⟨rfl, hm.ext⟩

theorem over_ref (a b : C4) (w : World) (ha : a.ok) (hb : b.ok) : Calls Try.prog 27 #[a.v, b.v] w fun e w' => e = .returned (overC a b).v ∧ Below w.heap.size w w' := by
  obtain ⟨⟨a1, a2⟩, ⟨a3, a4⟩, ⟨a5, a6⟩, ⟨a7, a8⟩⟩ := id ha
  obtain ⟨⟨b1, b2⟩, ⟨b3, b4⟩, ⟨b5, b6⟩, ⟨b7, b8⟩⟩ := id hb
  obtain ⟨s1, s2, s3, s4, s5⟩ := shareI_bd a.r b.r b.a a1 a2 b1 b2 b7 b8
  obtain ⟨t1, t2, t3, t4, t5⟩ := shareI_bd a.g b.g b.a a3 a4 b3 b4 b7 b8
  obtain ⟨u1, u2, u3, u4, u5⟩ := shareI_bd a.b b.b b.a a5 a6 b5 b6 b7 b8
  obtain ⟨v1, v2, v3, v4, v5⟩ := shareI_bd a.a 0 b.a a7 a8 (by omega) (by omega) b7 b8
  refine calls_of_T (l := [.agg #[.int .u8 a.r, .int .u8 a.g, .int .u8 a.b, .int .u8 a.a], .agg #[.int .u8 b.r, .int .u8 b.g, .int .u8 b.b, .int .u8 b.a]]) 61 Try.func27 rfl rfl rfl ?_
  show T _ _ _ [(0, .agg #[.int .u8 a.r, .int .u8 a.g, .int .u8 a.b, .int .u8 a.a]), (1, .agg #[.int .u8 b.r, .int .u8 b.g, .int .u8 b.b, .int .u8 b.a])] []
  refine T_seq (T_region ?_)
  refine TL_new 1 (.cells #[.int .u8 a.r, .int .u8 a.g, .int .u8 a.b, .int .u8 a.a] 27) (fun B => .pointer (some ⟨B, 0, none⟩)) (fun _ _ hρ _ => r_box (hρ _ _ rfl) rfl) rfl rfl rfl (w_n rfl) ?_
  intro B1
  refine TL_new 2 (.cells #[.int .u8 b.r, .int .u8 b.g, .int .u8 b.b, .int .u8 b.a] 27) (fun B => .pointer (some ⟨B, 0, none⟩)) (fun _ _ hρ _ => r_box (hρ _ _ rfl) rfl) rfl rfl rfl (w_n rfl) ?_
  intro B2
  refine TL_new 3 (.cells #[.int .u8 0, .int .u8 0, .int .u8 0, .int .u8 0] 27) (fun B => .pointer (some ⟨B, 0, none⟩)) (fun _ _ _ _ => r_alloc (v := .agg #[.int .u8 0, .int .u8 0, .int .u8 0, .int .u8 0]) (by kernel_rfl) rfl) rfl rfl rfl (w_n rfl) ?_
  intro B3
  refine TL_seq ?_
  refine T_join (ι := Nat × Nat) (fun _ => True) (fun (z : Nat × Nat) => match z with | (Bx4, Bx5) => [(4, .pointer (some ⟨B3, 0, none⟩)), (5, .pointer (some ⟨Bx4, 0, none⟩)), (6, .pointer (some ⟨Bx5, 0, none⟩))]) (fun (z : Nat × Nat) => match z with | (Bx4, Bx5) => [(1, .blk B1 (.cells #[.int .u8 a.r, .int .u8 a.g, .int .u8 a.b, .int .u8 a.a] 27)), (2, .blk B2 (.cells #[.int .u8 b.r, .int .u8 b.g, .int .u8 b.b, .int .u8 b.a] 27)), (3, .blk B3 (.cells #[.int .u8 0, .int .u8 0, .int .u8 0, .int .u8 0] 27)), (4, .blk Bx4 (.cells #[.int .i64 a.r, .int .i64 a.g, .int .i64 a.b, .int .i64 a.a] 61)), (5, .blk Bx5 (.cells #[.int .i64 b.r, .int .i64 b.g, .int .i64 b.b, .int .i64 b.a] 61))]) (T_draw (V := [(0, .agg #[.int .u8 a.r, .int .u8 a.g, .int .u8 a.b, .int .u8 a.a]), (2, .agg #[.int .u8 b.r, .int .u8 b.g, .int .u8 b.b, .int .u8 b.a])]) [0, 1, 0, 7, 0, 0, 63, 127] [[(2, none)], [(8, some 0)], [(3, none)], [(10, some 2)], [], [], [(5, some 4), (9, some 1)], [(6, some 5), (11, some 3)]] 250 mixed (by kernel_rfl) ?_) (fun z _ => ?_)
  · skip
    refine G_step [0, 2] 1 [4, 5] (by kernel_rfl) (allM (all_cons (q_run (.agg #[.int .u8 a.r, .int .u8 a.g, .int .u8 a.b, .int .u8 a.a]) rfl rfl (wv_n rfl) rfl (fun _ _ hρ hm => r_loadA ag27 sz27 (hρ _ _ rfl) (hm.at 1 rfl) rfl rfl)) (all_cons (q_run (.agg #[.int .u8 b.r, .int .u8 b.g, .int .u8 b.b, .int .u8 b.a]) rfl rfl (wv_n rfl) rfl (fun _ _ hρ hm => r_loadA ag27 sz27 (hρ _ _ rfl) (hm.at 2 rfl) rfl rfl)) all_nil))) (allM (all_cons ?_ (all_cons ?_ (all_cons ?_ all_nil))))
    · skip
      refine LOb_call (.agg #[.int .i64 a.r, .int .i64 a.g, .int .i64 a.b, .int .i64 a.a]) [] rfl (wv_n rfl) rfl rfl (fun _ _ hρ _ => r_call (args := [.agg #[.int .u8 a.r, .int .u8 a.g, .int .u8 a.b, .int .u8 a.a]]) (enters_of Try.func30 (by kernel_rfl) rfl) (hρ _ _ rfl) ((cons2 (hρ _ _ rfl) rfl)) rfl) (fun w _ => parts_ref a w ha) (by kernel_rfl) ?_
      refine G_step [2] 3 [4, 5] (by kernel_rfl) (allM (all_cons (q_run (.agg #[.int .u8 b.r, .int .u8 b.g, .int .u8 b.b, .int .u8 b.a]) rfl rfl (wv_n rfl) rfl (fun _ _ hρ hm => r_loadA ag27 sz27 (hρ _ _ rfl) (hm.at 2 rfl) rfl rfl)) all_nil)) (allM (all_cons ?_ (all_cons ?_ (all_cons ?_ all_nil))))
      · skip
        refine LOb_call (.agg #[.int .i64 b.r, .int .i64 b.g, .int .i64 b.b, .int .i64 b.a]) [] rfl (wv_n rfl) rfl rfl (fun _ _ hρ _ => r_call (args := [.agg #[.int .u8 b.r, .int .u8 b.g, .int .u8 b.b, .int .u8 b.a]]) (enters_of Try.func30 (by kernel_rfl) rfl) (hρ _ _ rfl) ((cons2 (hρ _ _ rfl) rfl)) rfl) (fun w _ => parts_ref b w hb) (by kernel_rfl) ?_
        refine G_step [] 4 [5] (by kernel_rfl) (allM all_nil) (allM (all_cons ?_ (all_cons ?_ all_nil)))
        · skip
          refine LOb_new 4 (.cells #[.int .i64 0, .int .i64 0, .int .i64 0, .int .i64 0] 61) (fun B => .pointer (some ⟨B, 0, none⟩)) (fun B => []) rfl (wv_n rfl) rfl rfl (fun _ _ _ _ => r_alloc (v := .agg #[.int .i64 0, .int .i64 0, .int .i64 0, .int .i64 0]) (by kernel_rfl) rfl) (fun B => by kernel_rfl) ?_
          intro B4
          refine G_step [] 5 [] (by kernel_rfl) (allM all_nil) (allM (all_cons ?_ all_nil))
          refine LOb_new 5 (.cells #[.int .i64 0, .int .i64 0, .int .i64 0, .int .i64 0] 61) (fun B => .pointer (some ⟨B, 0, none⟩)) (fun B => []) rfl (wv_n rfl) rfl rfl (fun _ _ _ _ => r_alloc (v := .agg #[.int .i64 0, .int .i64 0, .int .i64 0, .int .i64 0]) (by kernel_rfl) rfl) (fun B => by kernel_rfl) ?_
          intro B5
          refine G_step [] 6 [] (by kernel_rfl) (allM all_nil) (allM (all_cons ?_ all_nil))
          refine LOb_store 4 (.cells #[.int .i64 a.r, .int .i64 a.g, .int .i64 a.b, .int .i64 a.a] 61) [] rfl (wv_n rfl) rfl rfl rfl (fun _ _ hρ hm => r_store sz61 (hρ _ _ rfl) (hρ _ _ rfl) (hm.at 4 rfl) rfl rfl rfl rfl) (by kernel_rfl) ?_
          refine G_step [] 7 [] (by kernel_rfl) (allM all_nil) (allM (all_cons ?_ all_nil))
          refine LOb_store 5 (.cells #[.int .i64 b.r, .int .i64 b.g, .int .i64 b.b, .int .i64 b.a] 61) [] rfl (wv_n rfl) rfl rfl rfl (fun _ _ hρ hm => r_store sz61 (hρ _ _ rfl) (hρ _ _ rfl) (hm.at 5 rfl) rfl rfl rfl rfl) (by kernel_rfl) ?_
          exact G_lastQ [] [(4, .pointer (some ⟨B3, 0, none⟩)), (5, .pointer (some ⟨B4, 0, none⟩)), (6, .pointer (some ⟨B5, 0, none⟩))] (by kernel_rfl) (allM all_nil) (end_old rfl rfl (end_new 4 rfl rfl (end_new 5 rfl rfl end_nil))) (fun a w hf hm => At_intro (B4, B5) trivial hf hm (sub_cons rfl (sub_cons rfl (sub_cons rfl sub_nil))) (sub_cons rfl (sub_cons rfl (sub_cons rfl (sub_cons rfl (sub_cons rfl sub_nil))))))
        · skip
          refine LOb_new 5 (.cells #[.int .i64 0, .int .i64 0, .int .i64 0, .int .i64 0] 61) (fun B => .pointer (some ⟨B, 0, none⟩)) (fun B => []) rfl (wv_n rfl) rfl rfl (fun _ _ _ _ => r_alloc (v := .agg #[.int .i64 0, .int .i64 0, .int .i64 0, .int .i64 0]) (by kernel_rfl) rfl) (fun B => by kernel_rfl) ?_
          intro B6
          refine G_step [] 4 [] (by kernel_rfl) (allM all_nil) (allM (all_cons ?_ all_nil))
          refine LOb_new 4 (.cells #[.int .i64 0, .int .i64 0, .int .i64 0, .int .i64 0] 61) (fun B => .pointer (some ⟨B, 0, none⟩)) (fun B => []) rfl (wv_n rfl) rfl rfl (fun _ _ _ _ => r_alloc (v := .agg #[.int .i64 0, .int .i64 0, .int .i64 0, .int .i64 0]) (by kernel_rfl) rfl) (fun B => by kernel_rfl) ?_
          intro B7
          refine G_step [] 6 [] (by kernel_rfl) (allM all_nil) (allM (all_cons ?_ all_nil))
          refine LOb_store 4 (.cells #[.int .i64 a.r, .int .i64 a.g, .int .i64 a.b, .int .i64 a.a] 61) [] rfl (wv_n rfl) rfl rfl rfl (fun _ _ hρ hm => r_store sz61 (hρ _ _ rfl) (hρ _ _ rfl) (hm.at 4 rfl) rfl rfl rfl rfl) (by kernel_rfl) ?_
          refine G_step [] 7 [] (by kernel_rfl) (allM all_nil) (allM (all_cons ?_ all_nil))
          refine LOb_store 5 (.cells #[.int .i64 b.r, .int .i64 b.g, .int .i64 b.b, .int .i64 b.a] 61) [] rfl (wv_n rfl) rfl rfl rfl (fun _ _ hρ hm => r_store sz61 (hρ _ _ rfl) (hρ _ _ rfl) (hm.at 5 rfl) rfl rfl rfl rfl) (by kernel_rfl) ?_
          exact G_lastQ [] [(4, .pointer (some ⟨B3, 0, none⟩)), (5, .pointer (some ⟨B7, 0, none⟩)), (6, .pointer (some ⟨B6, 0, none⟩))] (by kernel_rfl) (allM all_nil) (end_old rfl rfl (end_new 4 rfl rfl (end_new 5 rfl rfl end_nil))) (fun a w hf hm => At_intro (B7, B6) trivial hf hm (sub_cons rfl (sub_cons rfl (sub_cons rfl sub_nil))) (sub_cons rfl (sub_cons rfl (sub_cons rfl (sub_cons rfl (sub_cons rfl sub_nil))))))
      · skip
        refine LOb_new 4 (.cells #[.int .i64 0, .int .i64 0, .int .i64 0, .int .i64 0] 61) (fun B => .pointer (some ⟨B, 0, none⟩)) (fun B => []) rfl (wv_n rfl) rfl rfl (fun _ _ _ _ => r_alloc (v := .agg #[.int .i64 0, .int .i64 0, .int .i64 0, .int .i64 0]) (by kernel_rfl) rfl) (fun B => by kernel_rfl) ?_
        intro B8
        refine G_step [2] 3 [5] (by kernel_rfl) (allM (all_cons (q_run (.agg #[.int .u8 b.r, .int .u8 b.g, .int .u8 b.b, .int .u8 b.a]) rfl rfl (wv_n rfl) rfl (fun _ _ hρ hm => r_loadA ag27 sz27 (hρ _ _ rfl) (hm.at 2 rfl) rfl rfl)) all_nil)) (allM (all_cons ?_ (all_cons ?_ all_nil)))
        · skip
          refine LOb_call (.agg #[.int .i64 b.r, .int .i64 b.g, .int .i64 b.b, .int .i64 b.a]) [] rfl (wv_n rfl) rfl rfl (fun _ _ hρ _ => r_call (args := [.agg #[.int .u8 b.r, .int .u8 b.g, .int .u8 b.b, .int .u8 b.a]]) (enters_of Try.func30 (by kernel_rfl) rfl) (hρ _ _ rfl) ((cons2 (hρ _ _ rfl) rfl)) rfl) (fun w _ => parts_ref b w hb) (by kernel_rfl) ?_
          refine G_step [] 5 [] (by kernel_rfl) (allM all_nil) (allM (all_cons ?_ all_nil))
          refine LOb_new 5 (.cells #[.int .i64 0, .int .i64 0, .int .i64 0, .int .i64 0] 61) (fun B => .pointer (some ⟨B, 0, none⟩)) (fun B => []) rfl (wv_n rfl) rfl rfl (fun _ _ _ _ => r_alloc (v := .agg #[.int .i64 0, .int .i64 0, .int .i64 0, .int .i64 0]) (by kernel_rfl) rfl) (fun B => by kernel_rfl) ?_
          intro B9
          refine G_step [] 6 [] (by kernel_rfl) (allM all_nil) (allM (all_cons ?_ all_nil))
          refine LOb_store 4 (.cells #[.int .i64 a.r, .int .i64 a.g, .int .i64 a.b, .int .i64 a.a] 61) [] rfl (wv_n rfl) rfl rfl rfl (fun _ _ hρ hm => r_store sz61 (hρ _ _ rfl) (hρ _ _ rfl) (hm.at 4 rfl) rfl rfl rfl rfl) (by kernel_rfl) ?_
          refine G_step [] 7 [] (by kernel_rfl) (allM all_nil) (allM (all_cons ?_ all_nil))
          refine LOb_store 5 (.cells #[.int .i64 b.r, .int .i64 b.g, .int .i64 b.b, .int .i64 b.a] 61) [] rfl (wv_n rfl) rfl rfl rfl (fun _ _ hρ hm => r_store sz61 (hρ _ _ rfl) (hρ _ _ rfl) (hm.at 5 rfl) rfl rfl rfl rfl) (by kernel_rfl) ?_
          exact G_lastQ [] [(4, .pointer (some ⟨B3, 0, none⟩)), (5, .pointer (some ⟨B8, 0, none⟩)), (6, .pointer (some ⟨B9, 0, none⟩))] (by kernel_rfl) (allM all_nil) (end_old rfl rfl (end_new 4 rfl rfl (end_new 5 rfl rfl end_nil))) (fun a w hf hm => At_intro (B8, B9) trivial hf hm (sub_cons rfl (sub_cons rfl (sub_cons rfl sub_nil))) (sub_cons rfl (sub_cons rfl (sub_cons rfl (sub_cons rfl (sub_cons rfl sub_nil))))))
        · skip
          refine LOb_new 5 (.cells #[.int .i64 0, .int .i64 0, .int .i64 0, .int .i64 0] 61) (fun B => .pointer (some ⟨B, 0, none⟩)) (fun B => []) rfl (wv_n rfl) rfl rfl (fun _ _ _ _ => r_alloc (v := .agg #[.int .i64 0, .int .i64 0, .int .i64 0, .int .i64 0]) (by kernel_rfl) rfl) (fun B => by kernel_rfl) ?_
          intro B10
          refine G_step [2] 3 [] (by kernel_rfl) (allM (all_cons (q_run (.agg #[.int .u8 b.r, .int .u8 b.g, .int .u8 b.b, .int .u8 b.a]) rfl rfl (wv_n rfl) rfl (fun _ _ hρ hm => r_loadA ag27 sz27 (hρ _ _ rfl) (hm.at 2 rfl) rfl rfl)) all_nil)) (allM (all_cons ?_ all_nil))
          refine LOb_call (.agg #[.int .i64 b.r, .int .i64 b.g, .int .i64 b.b, .int .i64 b.a]) [] rfl (wv_n rfl) rfl rfl (fun _ _ hρ _ => r_call (args := [.agg #[.int .u8 b.r, .int .u8 b.g, .int .u8 b.b, .int .u8 b.a]]) (enters_of Try.func30 (by kernel_rfl) rfl) (hρ _ _ rfl) ((cons2 (hρ _ _ rfl) rfl)) rfl) (fun w _ => parts_ref b w hb) (by kernel_rfl) ?_
          refine G_step [] 6 [] (by kernel_rfl) (allM all_nil) (allM (all_cons ?_ all_nil))
          refine LOb_store 4 (.cells #[.int .i64 a.r, .int .i64 a.g, .int .i64 a.b, .int .i64 a.a] 61) [] rfl (wv_n rfl) rfl rfl rfl (fun _ _ hρ hm => r_store sz61 (hρ _ _ rfl) (hρ _ _ rfl) (hm.at 4 rfl) rfl rfl rfl rfl) (by kernel_rfl) ?_
          refine G_step [] 7 [] (by kernel_rfl) (allM all_nil) (allM (all_cons ?_ all_nil))
          refine LOb_store 5 (.cells #[.int .i64 b.r, .int .i64 b.g, .int .i64 b.b, .int .i64 b.a] 61) [] rfl (wv_n rfl) rfl rfl rfl (fun _ _ hρ hm => r_store sz61 (hρ _ _ rfl) (hρ _ _ rfl) (hm.at 5 rfl) rfl rfl rfl rfl) (by kernel_rfl) ?_
          exact G_lastQ [] [(4, .pointer (some ⟨B3, 0, none⟩)), (5, .pointer (some ⟨B8, 0, none⟩)), (6, .pointer (some ⟨B10, 0, none⟩))] (by kernel_rfl) (allM all_nil) (end_old rfl rfl (end_new 4 rfl rfl (end_new 5 rfl rfl end_nil))) (fun a w hf hm => At_intro (B8, B10) trivial hf hm (sub_cons rfl (sub_cons rfl (sub_cons rfl sub_nil))) (sub_cons rfl (sub_cons rfl (sub_cons rfl (sub_cons rfl (sub_cons rfl sub_nil))))))
      · skip
        refine LOb_new 5 (.cells #[.int .i64 0, .int .i64 0, .int .i64 0, .int .i64 0] 61) (fun B => .pointer (some ⟨B, 0, none⟩)) (fun B => []) rfl (wv_n rfl) rfl rfl (fun _ _ _ _ => r_alloc (v := .agg #[.int .i64 0, .int .i64 0, .int .i64 0, .int .i64 0]) (by kernel_rfl) rfl) (fun B => by kernel_rfl) ?_
        intro B11
        refine G_step [2] 3 [4] (by kernel_rfl) (allM (all_cons (q_run (.agg #[.int .u8 b.r, .int .u8 b.g, .int .u8 b.b, .int .u8 b.a]) rfl rfl (wv_n rfl) rfl (fun _ _ hρ hm => r_loadA ag27 sz27 (hρ _ _ rfl) (hm.at 2 rfl) rfl rfl)) all_nil)) (allM (all_cons ?_ (all_cons ?_ all_nil)))
        · skip
          refine LOb_call (.agg #[.int .i64 b.r, .int .i64 b.g, .int .i64 b.b, .int .i64 b.a]) [] rfl (wv_n rfl) rfl rfl (fun _ _ hρ _ => r_call (args := [.agg #[.int .u8 b.r, .int .u8 b.g, .int .u8 b.b, .int .u8 b.a]]) (enters_of Try.func30 (by kernel_rfl) rfl) (hρ _ _ rfl) ((cons2 (hρ _ _ rfl) rfl)) rfl) (fun w _ => parts_ref b w hb) (by kernel_rfl) ?_
          refine G_step [] 4 [] (by kernel_rfl) (allM all_nil) (allM (all_cons ?_ all_nil))
          refine LOb_new 4 (.cells #[.int .i64 0, .int .i64 0, .int .i64 0, .int .i64 0] 61) (fun B => .pointer (some ⟨B, 0, none⟩)) (fun B => []) rfl (wv_n rfl) rfl rfl (fun _ _ _ _ => r_alloc (v := .agg #[.int .i64 0, .int .i64 0, .int .i64 0, .int .i64 0]) (by kernel_rfl) rfl) (fun B => by kernel_rfl) ?_
          intro B12
          refine G_step [] 6 [] (by kernel_rfl) (allM all_nil) (allM (all_cons ?_ all_nil))
          refine LOb_store 4 (.cells #[.int .i64 a.r, .int .i64 a.g, .int .i64 a.b, .int .i64 a.a] 61) [] rfl (wv_n rfl) rfl rfl rfl (fun _ _ hρ hm => r_store sz61 (hρ _ _ rfl) (hρ _ _ rfl) (hm.at 4 rfl) rfl rfl rfl rfl) (by kernel_rfl) ?_
          refine G_step [] 7 [] (by kernel_rfl) (allM all_nil) (allM (all_cons ?_ all_nil))
          refine LOb_store 5 (.cells #[.int .i64 b.r, .int .i64 b.g, .int .i64 b.b, .int .i64 b.a] 61) [] rfl (wv_n rfl) rfl rfl rfl (fun _ _ hρ hm => r_store sz61 (hρ _ _ rfl) (hρ _ _ rfl) (hm.at 5 rfl) rfl rfl rfl rfl) (by kernel_rfl) ?_
          exact G_lastQ [] [(4, .pointer (some ⟨B3, 0, none⟩)), (5, .pointer (some ⟨B12, 0, none⟩)), (6, .pointer (some ⟨B11, 0, none⟩))] (by kernel_rfl) (allM all_nil) (end_old rfl rfl (end_new 4 rfl rfl (end_new 5 rfl rfl end_nil))) (fun a w hf hm => At_intro (B12, B11) trivial hf hm (sub_cons rfl (sub_cons rfl (sub_cons rfl sub_nil))) (sub_cons rfl (sub_cons rfl (sub_cons rfl (sub_cons rfl (sub_cons rfl sub_nil))))))
        · skip
          refine LOb_new 4 (.cells #[.int .i64 0, .int .i64 0, .int .i64 0, .int .i64 0] 61) (fun B => .pointer (some ⟨B, 0, none⟩)) (fun B => []) rfl (wv_n rfl) rfl rfl (fun _ _ _ _ => r_alloc (v := .agg #[.int .i64 0, .int .i64 0, .int .i64 0, .int .i64 0]) (by kernel_rfl) rfl) (fun B => by kernel_rfl) ?_
          intro B13
          refine G_step [2] 3 [] (by kernel_rfl) (allM (all_cons (q_run (.agg #[.int .u8 b.r, .int .u8 b.g, .int .u8 b.b, .int .u8 b.a]) rfl rfl (wv_n rfl) rfl (fun _ _ hρ hm => r_loadA ag27 sz27 (hρ _ _ rfl) (hm.at 2 rfl) rfl rfl)) all_nil)) (allM (all_cons ?_ all_nil))
          refine LOb_call (.agg #[.int .i64 b.r, .int .i64 b.g, .int .i64 b.b, .int .i64 b.a]) [] rfl (wv_n rfl) rfl rfl (fun _ _ hρ _ => r_call (args := [.agg #[.int .u8 b.r, .int .u8 b.g, .int .u8 b.b, .int .u8 b.a]]) (enters_of Try.func30 (by kernel_rfl) rfl) (hρ _ _ rfl) ((cons2 (hρ _ _ rfl) rfl)) rfl) (fun w _ => parts_ref b w hb) (by kernel_rfl) ?_
          refine G_step [] 6 [] (by kernel_rfl) (allM all_nil) (allM (all_cons ?_ all_nil))
          refine LOb_store 4 (.cells #[.int .i64 a.r, .int .i64 a.g, .int .i64 a.b, .int .i64 a.a] 61) [] rfl (wv_n rfl) rfl rfl rfl (fun _ _ hρ hm => r_store sz61 (hρ _ _ rfl) (hρ _ _ rfl) (hm.at 4 rfl) rfl rfl rfl rfl) (by kernel_rfl) ?_
          refine G_step [] 7 [] (by kernel_rfl) (allM all_nil) (allM (all_cons ?_ all_nil))
          refine LOb_store 5 (.cells #[.int .i64 b.r, .int .i64 b.g, .int .i64 b.b, .int .i64 b.a] 61) [] rfl (wv_n rfl) rfl rfl rfl (fun _ _ hρ hm => r_store sz61 (hρ _ _ rfl) (hρ _ _ rfl) (hm.at 5 rfl) rfl rfl rfl rfl) (by kernel_rfl) ?_
          exact G_lastQ [] [(4, .pointer (some ⟨B3, 0, none⟩)), (5, .pointer (some ⟨B13, 0, none⟩)), (6, .pointer (some ⟨B11, 0, none⟩))] (by kernel_rfl) (allM all_nil) (end_old rfl rfl (end_new 4 rfl rfl (end_new 5 rfl rfl end_nil))) (fun a w hf hm => At_intro (B13, B11) trivial hf hm (sub_cons rfl (sub_cons rfl (sub_cons rfl sub_nil))) (sub_cons rfl (sub_cons rfl (sub_cons rfl (sub_cons rfl (sub_cons rfl sub_nil))))))
    · skip
      refine LOb_new 4 (.cells #[.int .i64 0, .int .i64 0, .int .i64 0, .int .i64 0] 61) (fun B => .pointer (some ⟨B, 0, none⟩)) (fun B => []) rfl (wv_n rfl) rfl rfl (fun _ _ _ _ => r_alloc (v := .agg #[.int .i64 0, .int .i64 0, .int .i64 0, .int .i64 0]) (by kernel_rfl) rfl) (fun B => by kernel_rfl) ?_
      intro B14
      refine G_step [0, 2] 1 [5] (by kernel_rfl) (allM (all_cons (q_run (.agg #[.int .u8 a.r, .int .u8 a.g, .int .u8 a.b, .int .u8 a.a]) rfl rfl (wv_n rfl) rfl (fun _ _ hρ hm => r_loadA ag27 sz27 (hρ _ _ rfl) (hm.at 1 rfl) rfl rfl)) (all_cons (q_run (.agg #[.int .u8 b.r, .int .u8 b.g, .int .u8 b.b, .int .u8 b.a]) rfl rfl (wv_n rfl) rfl (fun _ _ hρ hm => r_loadA ag27 sz27 (hρ _ _ rfl) (hm.at 2 rfl) rfl rfl)) all_nil))) (allM (all_cons ?_ (all_cons ?_ all_nil)))
      · skip
        refine LOb_call (.agg #[.int .i64 a.r, .int .i64 a.g, .int .i64 a.b, .int .i64 a.a]) [] rfl (wv_n rfl) rfl rfl (fun _ _ hρ _ => r_call (args := [.agg #[.int .u8 a.r, .int .u8 a.g, .int .u8 a.b, .int .u8 a.a]]) (enters_of Try.func30 (by kernel_rfl) rfl) (hρ _ _ rfl) ((cons2 (hρ _ _ rfl) rfl)) rfl) (fun w _ => parts_ref a w ha) (by kernel_rfl) ?_
        refine G_step [2] 3 [5] (by kernel_rfl) (allM (all_cons (q_run (.agg #[.int .u8 b.r, .int .u8 b.g, .int .u8 b.b, .int .u8 b.a]) rfl rfl (wv_n rfl) rfl (fun _ _ hρ hm => r_loadA ag27 sz27 (hρ _ _ rfl) (hm.at 2 rfl) rfl rfl)) all_nil)) (allM (all_cons ?_ (all_cons ?_ all_nil)))
        · skip
          refine LOb_call (.agg #[.int .i64 b.r, .int .i64 b.g, .int .i64 b.b, .int .i64 b.a]) [] rfl (wv_n rfl) rfl rfl (fun _ _ hρ _ => r_call (args := [.agg #[.int .u8 b.r, .int .u8 b.g, .int .u8 b.b, .int .u8 b.a]]) (enters_of Try.func30 (by kernel_rfl) rfl) (hρ _ _ rfl) ((cons2 (hρ _ _ rfl) rfl)) rfl) (fun w _ => parts_ref b w hb) (by kernel_rfl) ?_
          refine G_step [] 5 [] (by kernel_rfl) (allM all_nil) (allM (all_cons ?_ all_nil))
          refine LOb_new 5 (.cells #[.int .i64 0, .int .i64 0, .int .i64 0, .int .i64 0] 61) (fun B => .pointer (some ⟨B, 0, none⟩)) (fun B => []) rfl (wv_n rfl) rfl rfl (fun _ _ _ _ => r_alloc (v := .agg #[.int .i64 0, .int .i64 0, .int .i64 0, .int .i64 0]) (by kernel_rfl) rfl) (fun B => by kernel_rfl) ?_
          intro B15
          refine G_step [] 6 [] (by kernel_rfl) (allM all_nil) (allM (all_cons ?_ all_nil))
          refine LOb_store 4 (.cells #[.int .i64 a.r, .int .i64 a.g, .int .i64 a.b, .int .i64 a.a] 61) [] rfl (wv_n rfl) rfl rfl rfl (fun _ _ hρ hm => r_store sz61 (hρ _ _ rfl) (hρ _ _ rfl) (hm.at 4 rfl) rfl rfl rfl rfl) (by kernel_rfl) ?_
          refine G_step [] 7 [] (by kernel_rfl) (allM all_nil) (allM (all_cons ?_ all_nil))
          refine LOb_store 5 (.cells #[.int .i64 b.r, .int .i64 b.g, .int .i64 b.b, .int .i64 b.a] 61) [] rfl (wv_n rfl) rfl rfl rfl (fun _ _ hρ hm => r_store sz61 (hρ _ _ rfl) (hρ _ _ rfl) (hm.at 5 rfl) rfl rfl rfl rfl) (by kernel_rfl) ?_
          exact G_lastQ [] [(4, .pointer (some ⟨B3, 0, none⟩)), (5, .pointer (some ⟨B14, 0, none⟩)), (6, .pointer (some ⟨B15, 0, none⟩))] (by kernel_rfl) (allM all_nil) (end_old rfl rfl (end_new 4 rfl rfl (end_new 5 rfl rfl end_nil))) (fun a w hf hm => At_intro (B14, B15) trivial hf hm (sub_cons rfl (sub_cons rfl (sub_cons rfl sub_nil))) (sub_cons rfl (sub_cons rfl (sub_cons rfl (sub_cons rfl (sub_cons rfl sub_nil))))))
        · skip
          refine LOb_new 5 (.cells #[.int .i64 0, .int .i64 0, .int .i64 0, .int .i64 0] 61) (fun B => .pointer (some ⟨B, 0, none⟩)) (fun B => []) rfl (wv_n rfl) rfl rfl (fun _ _ _ _ => r_alloc (v := .agg #[.int .i64 0, .int .i64 0, .int .i64 0, .int .i64 0]) (by kernel_rfl) rfl) (fun B => by kernel_rfl) ?_
          intro B16
          refine G_step [2] 3 [] (by kernel_rfl) (allM (all_cons (q_run (.agg #[.int .u8 b.r, .int .u8 b.g, .int .u8 b.b, .int .u8 b.a]) rfl rfl (wv_n rfl) rfl (fun _ _ hρ hm => r_loadA ag27 sz27 (hρ _ _ rfl) (hm.at 2 rfl) rfl rfl)) all_nil)) (allM (all_cons ?_ all_nil))
          refine LOb_call (.agg #[.int .i64 b.r, .int .i64 b.g, .int .i64 b.b, .int .i64 b.a]) [] rfl (wv_n rfl) rfl rfl (fun _ _ hρ _ => r_call (args := [.agg #[.int .u8 b.r, .int .u8 b.g, .int .u8 b.b, .int .u8 b.a]]) (enters_of Try.func30 (by kernel_rfl) rfl) (hρ _ _ rfl) ((cons2 (hρ _ _ rfl) rfl)) rfl) (fun w _ => parts_ref b w hb) (by kernel_rfl) ?_
          refine G_step [] 6 [] (by kernel_rfl) (allM all_nil) (allM (all_cons ?_ all_nil))
          refine LOb_store 4 (.cells #[.int .i64 a.r, .int .i64 a.g, .int .i64 a.b, .int .i64 a.a] 61) [] rfl (wv_n rfl) rfl rfl rfl (fun _ _ hρ hm => r_store sz61 (hρ _ _ rfl) (hρ _ _ rfl) (hm.at 4 rfl) rfl rfl rfl rfl) (by kernel_rfl) ?_
          refine G_step [] 7 [] (by kernel_rfl) (allM all_nil) (allM (all_cons ?_ all_nil))
          refine LOb_store 5 (.cells #[.int .i64 b.r, .int .i64 b.g, .int .i64 b.b, .int .i64 b.a] 61) [] rfl (wv_n rfl) rfl rfl rfl (fun _ _ hρ hm => r_store sz61 (hρ _ _ rfl) (hρ _ _ rfl) (hm.at 5 rfl) rfl rfl rfl rfl) (by kernel_rfl) ?_
          exact G_lastQ [] [(4, .pointer (some ⟨B3, 0, none⟩)), (5, .pointer (some ⟨B14, 0, none⟩)), (6, .pointer (some ⟨B16, 0, none⟩))] (by kernel_rfl) (allM all_nil) (end_old rfl rfl (end_new 4 rfl rfl (end_new 5 rfl rfl end_nil))) (fun a w hf hm => At_intro (B14, B16) trivial hf hm (sub_cons rfl (sub_cons rfl (sub_cons rfl sub_nil))) (sub_cons rfl (sub_cons rfl (sub_cons rfl (sub_cons rfl (sub_cons rfl sub_nil))))))
      · skip
        refine LOb_new 5 (.cells #[.int .i64 0, .int .i64 0, .int .i64 0, .int .i64 0] 61) (fun B => .pointer (some ⟨B, 0, none⟩)) (fun B => []) rfl (wv_n rfl) rfl rfl (fun _ _ _ _ => r_alloc (v := .agg #[.int .i64 0, .int .i64 0, .int .i64 0, .int .i64 0]) (by kernel_rfl) rfl) (fun B => by kernel_rfl) ?_
        intro B17
        refine G_step [0, 2] 1 [] (by kernel_rfl) (allM (all_cons (q_run (.agg #[.int .u8 a.r, .int .u8 a.g, .int .u8 a.b, .int .u8 a.a]) rfl rfl (wv_n rfl) rfl (fun _ _ hρ hm => r_loadA ag27 sz27 (hρ _ _ rfl) (hm.at 1 rfl) rfl rfl)) (all_cons (q_run (.agg #[.int .u8 b.r, .int .u8 b.g, .int .u8 b.b, .int .u8 b.a]) rfl rfl (wv_n rfl) rfl (fun _ _ hρ hm => r_loadA ag27 sz27 (hρ _ _ rfl) (hm.at 2 rfl) rfl rfl)) all_nil))) (allM (all_cons ?_ all_nil))
        refine LOb_call (.agg #[.int .i64 a.r, .int .i64 a.g, .int .i64 a.b, .int .i64 a.a]) [] rfl (wv_n rfl) rfl rfl (fun _ _ hρ _ => r_call (args := [.agg #[.int .u8 a.r, .int .u8 a.g, .int .u8 a.b, .int .u8 a.a]]) (enters_of Try.func30 (by kernel_rfl) rfl) (hρ _ _ rfl) ((cons2 (hρ _ _ rfl) rfl)) rfl) (fun w _ => parts_ref a w ha) (by kernel_rfl) ?_
        refine G_step [2] 3 [] (by kernel_rfl) (allM (all_cons (q_run (.agg #[.int .u8 b.r, .int .u8 b.g, .int .u8 b.b, .int .u8 b.a]) rfl rfl (wv_n rfl) rfl (fun _ _ hρ hm => r_loadA ag27 sz27 (hρ _ _ rfl) (hm.at 2 rfl) rfl rfl)) all_nil)) (allM (all_cons ?_ all_nil))
        refine LOb_call (.agg #[.int .i64 b.r, .int .i64 b.g, .int .i64 b.b, .int .i64 b.a]) [] rfl (wv_n rfl) rfl rfl (fun _ _ hρ _ => r_call (args := [.agg #[.int .u8 b.r, .int .u8 b.g, .int .u8 b.b, .int .u8 b.a]]) (enters_of Try.func30 (by kernel_rfl) rfl) (hρ _ _ rfl) ((cons2 (hρ _ _ rfl) rfl)) rfl) (fun w _ => parts_ref b w hb) (by kernel_rfl) ?_
        refine G_step [] 6 [] (by kernel_rfl) (allM all_nil) (allM (all_cons ?_ all_nil))
        refine LOb_store 4 (.cells #[.int .i64 a.r, .int .i64 a.g, .int .i64 a.b, .int .i64 a.a] 61) [] rfl (wv_n rfl) rfl rfl rfl (fun _ _ hρ hm => r_store sz61 (hρ _ _ rfl) (hρ _ _ rfl) (hm.at 4 rfl) rfl rfl rfl rfl) (by kernel_rfl) ?_
        refine G_step [] 7 [] (by kernel_rfl) (allM all_nil) (allM (all_cons ?_ all_nil))
        refine LOb_store 5 (.cells #[.int .i64 b.r, .int .i64 b.g, .int .i64 b.b, .int .i64 b.a] 61) [] rfl (wv_n rfl) rfl rfl rfl (fun _ _ hρ hm => r_store sz61 (hρ _ _ rfl) (hρ _ _ rfl) (hm.at 5 rfl) rfl rfl rfl rfl) (by kernel_rfl) ?_
        exact G_lastQ [] [(4, .pointer (some ⟨B3, 0, none⟩)), (5, .pointer (some ⟨B14, 0, none⟩)), (6, .pointer (some ⟨B17, 0, none⟩))] (by kernel_rfl) (allM all_nil) (end_old rfl rfl (end_new 4 rfl rfl (end_new 5 rfl rfl end_nil))) (fun a w hf hm => At_intro (B14, B17) trivial hf hm (sub_cons rfl (sub_cons rfl (sub_cons rfl sub_nil))) (sub_cons rfl (sub_cons rfl (sub_cons rfl (sub_cons rfl (sub_cons rfl sub_nil))))))
    · skip
      refine LOb_new 5 (.cells #[.int .i64 0, .int .i64 0, .int .i64 0, .int .i64 0] 61) (fun B => .pointer (some ⟨B, 0, none⟩)) (fun B => []) rfl (wv_n rfl) rfl rfl (fun _ _ _ _ => r_alloc (v := .agg #[.int .i64 0, .int .i64 0, .int .i64 0, .int .i64 0]) (by kernel_rfl) rfl) (fun B => by kernel_rfl) ?_
      intro B18
      refine G_step [0, 2] 1 [4] (by kernel_rfl) (allM (all_cons (q_run (.agg #[.int .u8 a.r, .int .u8 a.g, .int .u8 a.b, .int .u8 a.a]) rfl rfl (wv_n rfl) rfl (fun _ _ hρ hm => r_loadA ag27 sz27 (hρ _ _ rfl) (hm.at 1 rfl) rfl rfl)) (all_cons (q_run (.agg #[.int .u8 b.r, .int .u8 b.g, .int .u8 b.b, .int .u8 b.a]) rfl rfl (wv_n rfl) rfl (fun _ _ hρ hm => r_loadA ag27 sz27 (hρ _ _ rfl) (hm.at 2 rfl) rfl rfl)) all_nil))) (allM (all_cons ?_ (all_cons ?_ all_nil)))
      · skip
        refine LOb_call (.agg #[.int .i64 a.r, .int .i64 a.g, .int .i64 a.b, .int .i64 a.a]) [] rfl (wv_n rfl) rfl rfl (fun _ _ hρ _ => r_call (args := [.agg #[.int .u8 a.r, .int .u8 a.g, .int .u8 a.b, .int .u8 a.a]]) (enters_of Try.func30 (by kernel_rfl) rfl) (hρ _ _ rfl) ((cons2 (hρ _ _ rfl) rfl)) rfl) (fun w _ => parts_ref a w ha) (by kernel_rfl) ?_
        refine G_step [2] 3 [4] (by kernel_rfl) (allM (all_cons (q_run (.agg #[.int .u8 b.r, .int .u8 b.g, .int .u8 b.b, .int .u8 b.a]) rfl rfl (wv_n rfl) rfl (fun _ _ hρ hm => r_loadA ag27 sz27 (hρ _ _ rfl) (hm.at 2 rfl) rfl rfl)) all_nil)) (allM (all_cons ?_ (all_cons ?_ all_nil)))
        · skip
          refine LOb_call (.agg #[.int .i64 b.r, .int .i64 b.g, .int .i64 b.b, .int .i64 b.a]) [] rfl (wv_n rfl) rfl rfl (fun _ _ hρ _ => r_call (args := [.agg #[.int .u8 b.r, .int .u8 b.g, .int .u8 b.b, .int .u8 b.a]]) (enters_of Try.func30 (by kernel_rfl) rfl) (hρ _ _ rfl) ((cons2 (hρ _ _ rfl) rfl)) rfl) (fun w _ => parts_ref b w hb) (by kernel_rfl) ?_
          refine G_step [] 4 [] (by kernel_rfl) (allM all_nil) (allM (all_cons ?_ all_nil))
          refine LOb_new 4 (.cells #[.int .i64 0, .int .i64 0, .int .i64 0, .int .i64 0] 61) (fun B => .pointer (some ⟨B, 0, none⟩)) (fun B => []) rfl (wv_n rfl) rfl rfl (fun _ _ _ _ => r_alloc (v := .agg #[.int .i64 0, .int .i64 0, .int .i64 0, .int .i64 0]) (by kernel_rfl) rfl) (fun B => by kernel_rfl) ?_
          intro B19
          refine G_step [] 6 [] (by kernel_rfl) (allM all_nil) (allM (all_cons ?_ all_nil))
          refine LOb_store 4 (.cells #[.int .i64 a.r, .int .i64 a.g, .int .i64 a.b, .int .i64 a.a] 61) [] rfl (wv_n rfl) rfl rfl rfl (fun _ _ hρ hm => r_store sz61 (hρ _ _ rfl) (hρ _ _ rfl) (hm.at 4 rfl) rfl rfl rfl rfl) (by kernel_rfl) ?_
          refine G_step [] 7 [] (by kernel_rfl) (allM all_nil) (allM (all_cons ?_ all_nil))
          refine LOb_store 5 (.cells #[.int .i64 b.r, .int .i64 b.g, .int .i64 b.b, .int .i64 b.a] 61) [] rfl (wv_n rfl) rfl rfl rfl (fun _ _ hρ hm => r_store sz61 (hρ _ _ rfl) (hρ _ _ rfl) (hm.at 5 rfl) rfl rfl rfl rfl) (by kernel_rfl) ?_
          exact G_lastQ [] [(4, .pointer (some ⟨B3, 0, none⟩)), (5, .pointer (some ⟨B19, 0, none⟩)), (6, .pointer (some ⟨B18, 0, none⟩))] (by kernel_rfl) (allM all_nil) (end_old rfl rfl (end_new 4 rfl rfl (end_new 5 rfl rfl end_nil))) (fun a w hf hm => At_intro (B19, B18) trivial hf hm (sub_cons rfl (sub_cons rfl (sub_cons rfl sub_nil))) (sub_cons rfl (sub_cons rfl (sub_cons rfl (sub_cons rfl (sub_cons rfl sub_nil))))))
        · skip
          refine LOb_new 4 (.cells #[.int .i64 0, .int .i64 0, .int .i64 0, .int .i64 0] 61) (fun B => .pointer (some ⟨B, 0, none⟩)) (fun B => []) rfl (wv_n rfl) rfl rfl (fun _ _ _ _ => r_alloc (v := .agg #[.int .i64 0, .int .i64 0, .int .i64 0, .int .i64 0]) (by kernel_rfl) rfl) (fun B => by kernel_rfl) ?_
          intro B20
          refine G_step [2] 3 [] (by kernel_rfl) (allM (all_cons (q_run (.agg #[.int .u8 b.r, .int .u8 b.g, .int .u8 b.b, .int .u8 b.a]) rfl rfl (wv_n rfl) rfl (fun _ _ hρ hm => r_loadA ag27 sz27 (hρ _ _ rfl) (hm.at 2 rfl) rfl rfl)) all_nil)) (allM (all_cons ?_ all_nil))
          refine LOb_call (.agg #[.int .i64 b.r, .int .i64 b.g, .int .i64 b.b, .int .i64 b.a]) [] rfl (wv_n rfl) rfl rfl (fun _ _ hρ _ => r_call (args := [.agg #[.int .u8 b.r, .int .u8 b.g, .int .u8 b.b, .int .u8 b.a]]) (enters_of Try.func30 (by kernel_rfl) rfl) (hρ _ _ rfl) ((cons2 (hρ _ _ rfl) rfl)) rfl) (fun w _ => parts_ref b w hb) (by kernel_rfl) ?_
          refine G_step [] 6 [] (by kernel_rfl) (allM all_nil) (allM (all_cons ?_ all_nil))
          refine LOb_store 4 (.cells #[.int .i64 a.r, .int .i64 a.g, .int .i64 a.b, .int .i64 a.a] 61) [] rfl (wv_n rfl) rfl rfl rfl (fun _ _ hρ hm => r_store sz61 (hρ _ _ rfl) (hρ _ _ rfl) (hm.at 4 rfl) rfl rfl rfl rfl) (by kernel_rfl) ?_
          refine G_step [] 7 [] (by kernel_rfl) (allM all_nil) (allM (all_cons ?_ all_nil))
          refine LOb_store 5 (.cells #[.int .i64 b.r, .int .i64 b.g, .int .i64 b.b, .int .i64 b.a] 61) [] rfl (wv_n rfl) rfl rfl rfl (fun _ _ hρ hm => r_store sz61 (hρ _ _ rfl) (hρ _ _ rfl) (hm.at 5 rfl) rfl rfl rfl rfl) (by kernel_rfl) ?_
          exact G_lastQ [] [(4, .pointer (some ⟨B3, 0, none⟩)), (5, .pointer (some ⟨B20, 0, none⟩)), (6, .pointer (some ⟨B18, 0, none⟩))] (by kernel_rfl) (allM all_nil) (end_old rfl rfl (end_new 4 rfl rfl (end_new 5 rfl rfl end_nil))) (fun a w hf hm => At_intro (B20, B18) trivial hf hm (sub_cons rfl (sub_cons rfl (sub_cons rfl sub_nil))) (sub_cons rfl (sub_cons rfl (sub_cons rfl (sub_cons rfl (sub_cons rfl sub_nil))))))
      · skip
        refine LOb_new 4 (.cells #[.int .i64 0, .int .i64 0, .int .i64 0, .int .i64 0] 61) (fun B => .pointer (some ⟨B, 0, none⟩)) (fun B => []) rfl (wv_n rfl) rfl rfl (fun _ _ _ _ => r_alloc (v := .agg #[.int .i64 0, .int .i64 0, .int .i64 0, .int .i64 0]) (by kernel_rfl) rfl) (fun B => by kernel_rfl) ?_
        intro B21
        refine G_step [0, 2] 1 [] (by kernel_rfl) (allM (all_cons (q_run (.agg #[.int .u8 a.r, .int .u8 a.g, .int .u8 a.b, .int .u8 a.a]) rfl rfl (wv_n rfl) rfl (fun _ _ hρ hm => r_loadA ag27 sz27 (hρ _ _ rfl) (hm.at 1 rfl) rfl rfl)) (all_cons (q_run (.agg #[.int .u8 b.r, .int .u8 b.g, .int .u8 b.b, .int .u8 b.a]) rfl rfl (wv_n rfl) rfl (fun _ _ hρ hm => r_loadA ag27 sz27 (hρ _ _ rfl) (hm.at 2 rfl) rfl rfl)) all_nil))) (allM (all_cons ?_ all_nil))
        refine LOb_call (.agg #[.int .i64 a.r, .int .i64 a.g, .int .i64 a.b, .int .i64 a.a]) [] rfl (wv_n rfl) rfl rfl (fun _ _ hρ _ => r_call (args := [.agg #[.int .u8 a.r, .int .u8 a.g, .int .u8 a.b, .int .u8 a.a]]) (enters_of Try.func30 (by kernel_rfl) rfl) (hρ _ _ rfl) ((cons2 (hρ _ _ rfl) rfl)) rfl) (fun w _ => parts_ref a w ha) (by kernel_rfl) ?_
        refine G_step [2] 3 [] (by kernel_rfl) (allM (all_cons (q_run (.agg #[.int .u8 b.r, .int .u8 b.g, .int .u8 b.b, .int .u8 b.a]) rfl rfl (wv_n rfl) rfl (fun _ _ hρ hm => r_loadA ag27 sz27 (hρ _ _ rfl) (hm.at 2 rfl) rfl rfl)) all_nil)) (allM (all_cons ?_ all_nil))
        refine LOb_call (.agg #[.int .i64 b.r, .int .i64 b.g, .int .i64 b.b, .int .i64 b.a]) [] rfl (wv_n rfl) rfl rfl (fun _ _ hρ _ => r_call (args := [.agg #[.int .u8 b.r, .int .u8 b.g, .int .u8 b.b, .int .u8 b.a]]) (enters_of Try.func30 (by kernel_rfl) rfl) (hρ _ _ rfl) ((cons2 (hρ _ _ rfl) rfl)) rfl) (fun w _ => parts_ref b w hb) (by kernel_rfl) ?_
        refine G_step [] 6 [] (by kernel_rfl) (allM all_nil) (allM (all_cons ?_ all_nil))
        refine LOb_store 4 (.cells #[.int .i64 a.r, .int .i64 a.g, .int .i64 a.b, .int .i64 a.a] 61) [] rfl (wv_n rfl) rfl rfl rfl (fun _ _ hρ hm => r_store sz61 (hρ _ _ rfl) (hρ _ _ rfl) (hm.at 4 rfl) rfl rfl rfl rfl) (by kernel_rfl) ?_
        refine G_step [] 7 [] (by kernel_rfl) (allM all_nil) (allM (all_cons ?_ all_nil))
        refine LOb_store 5 (.cells #[.int .i64 b.r, .int .i64 b.g, .int .i64 b.b, .int .i64 b.a] 61) [] rfl (wv_n rfl) rfl rfl rfl (fun _ _ hρ hm => r_store sz61 (hρ _ _ rfl) (hρ _ _ rfl) (hm.at 5 rfl) rfl rfl rfl rfl) (by kernel_rfl) ?_
        exact G_lastQ [] [(4, .pointer (some ⟨B3, 0, none⟩)), (5, .pointer (some ⟨B21, 0, none⟩)), (6, .pointer (some ⟨B18, 0, none⟩))] (by kernel_rfl) (allM all_nil) (end_old rfl rfl (end_new 4 rfl rfl (end_new 5 rfl rfl end_nil))) (fun a w hf hm => At_intro (B21, B18) trivial hf hm (sub_cons rfl (sub_cons rfl (sub_cons rfl sub_nil))) (sub_cons rfl (sub_cons rfl (sub_cons rfl (sub_cons rfl (sub_cons rfl sub_nil))))))
  · skip
    obtain ⟨Bx4, Bx5⟩ := z
    show T _ _ _ [(4, .pointer (some ⟨B3, 0, none⟩)), (5, .pointer (some ⟨Bx4, 0, none⟩)), (6, .pointer (some ⟨Bx5, 0, none⟩))] [(1, .blk B1 (.cells #[.int .u8 a.r, .int .u8 a.g, .int .u8 a.b, .int .u8 a.a] 27)), (2, .blk B2 (.cells #[.int .u8 b.r, .int .u8 b.g, .int .u8 b.b, .int .u8 b.a] 27)), (3, .blk B3 (.cells #[.int .u8 0, .int .u8 0, .int .u8 0, .int .u8 0] 27)), (4, .blk Bx4 (.cells #[.int .i64 a.r, .int .i64 a.g, .int .i64 a.b, .int .i64 a.a] 61)), (5, .blk Bx5 (.cells #[.int .i64 b.r, .int .i64 b.g, .int .i64 b.b, .int .i64 b.a] 61))]
    refine T_seq (T_region ?_)
    refine TL_q (.pointer (some ⟨Bx5, 3, none⟩)) (fun _ _ hρ _ => r_indexAddrA (i := 3) ar61 sz3 (hρ _ _ rfl) (hρ _ _ rfl) (by decide)) rfl rfl rfl (w_n rfl) ?_
    refine TL_q (.int .i64 b.a) (fun _ _ hρ hm => r_load ag3 (hρ _ _ rfl) (hm.at 5 rfl) rfl) rfl rfl rfl (w_n rfl) ?_
    refine TL_q (.int .i64 b.a) (fun _ _ hρ _ => r_assign (hρ _ _ rfl)) rfl rfl rfl (w_n rfl) ?_
    refine TL_seq ?_
    refine T_seq (T_region ?_)
    refine TL_q (.pointer (some ⟨Bx5, 0, none⟩)) (fun _ _ hρ _ => r_indexAddrA (i := 0) ar61 sz3 (hρ _ _ rfl) (hρ _ _ rfl) (by decide)) rfl rfl rfl (w_n rfl) ?_
    refine TL_q (.int .i64 b.r) (fun _ _ hρ hm => r_load ag3 (hρ _ _ rfl) (hm.at 5 rfl) rfl) rfl rfl rfl (w_n rfl) ?_
    refine TL_q (.int .i64 b.a) (fun _ _ hρ _ => r_move (hρ _ _ rfl)) rfl rfl rfl (w_n rfl) ?_
    refine TL_q (.int .i64 (b.r * b.a)) (fun _ _ hρ _ => r_as (r_mul (hρ _ _ rfl) (hρ _ _ rfl)) (int_as (wrap64 (by omega) (by omega)))) rfl rfl rfl (w_n rfl) ?_
    refine TL_q (.pointer (some ⟨Bx4, 0, none⟩)) (fun _ _ hρ _ => r_indexAddrA (i := 0) ar61 sz3 (hρ _ _ rfl) (hρ _ _ rfl) (by decide)) rfl rfl rfl (w_n rfl) ?_
    refine TL_q (.int .i64 a.r) (fun _ _ hρ hm => r_load ag3 (hρ _ _ rfl) (hm.at 4 rfl) rfl) rfl rfl rfl (w_n rfl) ?_
    refine TL_q (.int .i64 b.a) (fun _ _ hρ _ => r_move (hρ _ _ rfl)) rfl rfl rfl (w_n rfl) ?_
    refine TL_q (.int .i64 ((255 : Int) - b.a)) (fun _ _ hρ _ => r_as (r_sub (hρ _ _ rfl) (hρ _ _ rfl)) (int_as (wrap64 (by omega) (by omega)))) rfl rfl rfl (w_n rfl) ?_
    refine TL_q (.int .i64 (a.r * ((255 : Int) - b.a))) (fun _ _ hρ _ => r_as (r_mul (hρ _ _ rfl) (hρ _ _ rfl)) (int_as (wrap64 (by omega) (by omega)))) rfl rfl rfl (w_n rfl) ?_
    refine TL_q (.int .i64 (b.r * b.a + (a.r * ((255 : Int) - b.a)))) (fun _ _ hρ _ => r_as (r_add (hρ _ _ rfl) (hρ _ _ rfl)) (int_as (wrap64 (by omega) (by omega)))) rfl rfl rfl (w_n rfl) ?_
    refine TL_q (.int .i64 (b.r * b.a + (a.r * ((255 : Int) - b.a)) + 127)) (fun _ _ hρ _ => r_as (r_add (hρ _ _ rfl) (hρ _ _ rfl)) (int_as (wrap64 (by omega) (by omega)))) rfl rfl rfl (w_n rfl) ?_
    refine TL_q (.int .i64 ((b.r * b.a + (a.r * ((255 : Int) - b.a)) + 127) / 255)) (fun _ _ hρ _ => r_as (r_quo (hρ _ _ rfl) (hρ _ _ rfl) (by omega)) (int_as (quo_i64 (by omega) (by omega) (by omega)))) rfl rfl rfl (w_n rfl) ?_
    refine TL_q (.pointer (some ⟨Bx5, 1, none⟩)) (fun _ _ hρ _ => r_indexAddrA (i := 1) ar61 sz3 (hρ _ _ rfl) (hρ _ _ rfl) (by decide)) rfl rfl rfl (w_n rfl) ?_
    refine TL_q (.int .i64 b.g) (fun _ _ hρ hm => r_load ag3 (hρ _ _ rfl) (hm.at 5 rfl) rfl) rfl rfl rfl (w_n rfl) ?_
    refine TL_q (.int .i64 b.a) (fun _ _ hρ _ => r_move (hρ _ _ rfl)) rfl rfl rfl (w_n rfl) ?_
    refine TL_q (.int .i64 (b.g * b.a)) (fun _ _ hρ _ => r_as (r_mul (hρ _ _ rfl) (hρ _ _ rfl)) (int_as (wrap64 (by omega) (by omega)))) rfl rfl rfl (w_n rfl) ?_
    refine TL_q (.pointer (some ⟨Bx4, 1, none⟩)) (fun _ _ hρ _ => r_indexAddrA (i := 1) ar61 sz3 (hρ _ _ rfl) (hρ _ _ rfl) (by decide)) rfl rfl rfl (w_n rfl) ?_
    refine TL_q (.int .i64 a.g) (fun _ _ hρ hm => r_load ag3 (hρ _ _ rfl) (hm.at 4 rfl) rfl) rfl rfl rfl (w_n rfl) ?_
    refine TL_q (.int .i64 b.a) (fun _ _ hρ _ => r_move (hρ _ _ rfl)) rfl rfl rfl (w_n rfl) ?_
    refine TL_q (.int .i64 ((255 : Int) - b.a)) (fun _ _ hρ _ => r_as (r_sub (hρ _ _ rfl) (hρ _ _ rfl)) (int_as (wrap64 (by omega) (by omega)))) rfl rfl rfl (w_n rfl) ?_
    refine TL_q (.int .i64 (a.g * ((255 : Int) - b.a))) (fun _ _ hρ _ => r_as (r_mul (hρ _ _ rfl) (hρ _ _ rfl)) (int_as (wrap64 (by omega) (by omega)))) rfl rfl rfl (w_n rfl) ?_
    refine TL_q (.int .i64 (b.g * b.a + (a.g * ((255 : Int) - b.a)))) (fun _ _ hρ _ => r_as (r_add (hρ _ _ rfl) (hρ _ _ rfl)) (int_as (wrap64 (by omega) (by omega)))) rfl rfl rfl (w_n rfl) ?_
    refine TL_q (.int .i64 (b.g * b.a + (a.g * ((255 : Int) - b.a)) + 127)) (fun _ _ hρ _ => r_as (r_add (hρ _ _ rfl) (hρ _ _ rfl)) (int_as (wrap64 (by omega) (by omega)))) rfl rfl rfl (w_n rfl) ?_
    refine TL_q (.int .i64 ((b.g * b.a + (a.g * ((255 : Int) - b.a)) + 127) / 255)) (fun _ _ hρ _ => r_as (r_quo (hρ _ _ rfl) (hρ _ _ rfl) (by omega)) (int_as (quo_i64 (by omega) (by omega) (by omega)))) rfl rfl rfl (w_n rfl) ?_
    refine TL_q (.pointer (some ⟨Bx5, 2, none⟩)) (fun _ _ hρ _ => r_indexAddrA (i := 2) ar61 sz3 (hρ _ _ rfl) (hρ _ _ rfl) (by decide)) rfl rfl rfl (w_n rfl) ?_
    refine TL_q (.int .i64 b.b) (fun _ _ hρ hm => r_load ag3 (hρ _ _ rfl) (hm.at 5 rfl) rfl) rfl rfl rfl (w_n rfl) ?_
    refine TL_q (.int .i64 b.a) (fun _ _ hρ _ => r_move (hρ _ _ rfl)) rfl rfl rfl (w_n rfl) ?_
    refine TL_q (.int .i64 (b.b * b.a)) (fun _ _ hρ _ => r_as (r_mul (hρ _ _ rfl) (hρ _ _ rfl)) (int_as (wrap64 (by omega) (by omega)))) rfl rfl rfl (w_n rfl) ?_
    refine TL_q (.pointer (some ⟨Bx4, 2, none⟩)) (fun _ _ hρ _ => r_indexAddrA (i := 2) ar61 sz3 (hρ _ _ rfl) (hρ _ _ rfl) (by decide)) rfl rfl rfl (w_n rfl) ?_
    refine TL_q (.int .i64 a.b) (fun _ _ hρ hm => r_load ag3 (hρ _ _ rfl) (hm.at 4 rfl) rfl) rfl rfl rfl (w_n rfl) ?_
    refine TL_q (.int .i64 b.a) (fun _ _ hρ _ => r_move (hρ _ _ rfl)) rfl rfl rfl (w_n rfl) ?_
    refine TL_q (.int .i64 ((255 : Int) - b.a)) (fun _ _ hρ _ => r_as (r_sub (hρ _ _ rfl) (hρ _ _ rfl)) (int_as (wrap64 (by omega) (by omega)))) rfl rfl rfl (w_n rfl) ?_
    refine TL_q (.int .i64 (a.b * ((255 : Int) - b.a))) (fun _ _ hρ _ => r_as (r_mul (hρ _ _ rfl) (hρ _ _ rfl)) (int_as (wrap64 (by omega) (by omega)))) rfl rfl rfl (w_n rfl) ?_
    refine TL_q (.int .i64 (b.b * b.a + (a.b * ((255 : Int) - b.a)))) (fun _ _ hρ _ => r_as (r_add (hρ _ _ rfl) (hρ _ _ rfl)) (int_as (wrap64 (by omega) (by omega)))) rfl rfl rfl (w_n rfl) ?_
    refine TL_q (.int .i64 (b.b * b.a + (a.b * ((255 : Int) - b.a)) + 127)) (fun _ _ hρ _ => r_as (r_add (hρ _ _ rfl) (hρ _ _ rfl)) (int_as (wrap64 (by omega) (by omega)))) rfl rfl rfl (w_n rfl) ?_
    refine TL_q (.int .i64 ((b.b * b.a + (a.b * ((255 : Int) - b.a)) + 127) / 255)) (fun _ _ hρ _ => r_as (r_quo (hρ _ _ rfl) (hρ _ _ rfl) (by omega)) (int_as (quo_i64 (by omega) (by omega) (by omega)))) rfl rfl rfl (w_n rfl) ?_
    refine TL_q (.int .i64 b.a) (fun _ _ hρ _ => r_move (hρ _ _ rfl)) rfl rfl rfl (w_n rfl) ?_
    refine TL_q (.pointer (some ⟨Bx4, 3, none⟩)) (fun _ _ hρ _ => r_indexAddrA (i := 3) ar61 sz3 (hρ _ _ rfl) (hρ _ _ rfl) (by decide)) rfl rfl rfl (w_n rfl) ?_
    refine TL_q (.int .i64 a.a) (fun _ _ hρ hm => r_load ag3 (hρ _ _ rfl) (hm.at 4 rfl) rfl) rfl rfl rfl (w_n rfl) ?_
    refine TL_q (.int .i64 b.a) (fun _ _ hρ _ => r_move (hρ _ _ rfl)) rfl rfl rfl (w_n rfl) ?_
    refine TL_q (.int .i64 ((255 : Int) - b.a)) (fun _ _ hρ _ => r_as (r_sub (hρ _ _ rfl) (hρ _ _ rfl)) (int_as (wrap64 (by omega) (by omega)))) rfl rfl rfl (w_n rfl) ?_
    refine TL_q (.int .i64 (a.a * ((255 : Int) - b.a))) (fun _ _ hρ _ => r_as (r_mul (hρ _ _ rfl) (hρ _ _ rfl)) (int_as (wrap64 (by omega) (by omega)))) rfl rfl rfl (w_n rfl) ?_
    refine TL_q (.int .i64 (a.a * ((255 : Int) - b.a) + 127)) (fun _ _ hρ _ => r_as (r_add (hρ _ _ rfl) (hρ _ _ rfl)) (int_as (wrap64 (by omega) (by omega)))) rfl rfl rfl (w_n rfl) ?_
    refine TL_q (.int .i64 ((a.a * ((255 : Int) - b.a) + 127) / 255)) (fun _ _ hρ _ => r_as (r_quo (hρ _ _ rfl) (hρ _ _ rfl) (by omega)) (int_as (quo_i64 (by omega) (by omega) (by omega)))) rfl rfl rfl (w_n rfl) ?_
    refine TL_q (.int .i64 (b.a + ((a.a * ((255 : Int) - b.a) + 127) / 255))) (fun _ _ hρ _ => r_as (r_add (hρ _ _ rfl) (hρ _ _ rfl)) (int_as (wrap64 (by omega) (by omega)))) rfl rfl rfl (w_n rfl) ?_
    refine TL_q (.agg #[.int .i64 ((b.r * b.a + (a.r * ((255 : Int) - b.a)) + 127) / 255), .int .i64 ((b.g * b.a + (a.g * ((255 : Int) - b.a)) + 127) / 255), .int .i64 ((b.b * b.a + (a.b * ((255 : Int) - b.a)) + 127) / 255), .int .i64 (b.a + ((a.a * ((255 : Int) - b.a) + 127) / 255))]) (fun _ _ hρ _ => r_build (vs := [(0, .int .i64 ((b.r * b.a + (a.r * ((255 : Int) - b.a)) + 127) / 255)), (1, .int .i64 ((b.g * b.a + (a.g * ((255 : Int) - b.a)) + 127) / 255)), (2, .int .i64 ((b.b * b.a + (a.b * ((255 : Int) - b.a)) + 127) / 255)), (3, .int .i64 (b.a + ((a.a * ((255 : Int) - b.a) + 127) / 255)))]) (by kernel_rfl) (cons2 (pair2 (hρ _ _ rfl)) (cons2 (pair2 (hρ _ _ rfl)) (cons2 (pair2 (hρ _ _ rfl)) (cons2 (pair2 (hρ _ _ rfl)) rfl))))) rfl rfl rfl (w_n rfl) ?_
    refine TL_call (.agg #[.int .u8 ((b.r * b.a + (a.r * ((255 : Int) - b.a)) + 127) / 255), .int .u8 ((b.g * b.a + (a.g * ((255 : Int) - b.a)) + 127) / 255), .int .u8 ((b.b * b.a + (a.b * ((255 : Int) - b.a)) + 127) / 255), .int .u8 (b.a + ((a.a * ((255 : Int) - b.a) + 127) / 255))]) (fun _ _ hρ _ => r_call (args := [.agg #[.int .i64 ((b.r * b.a + (a.r * ((255 : Int) - b.a)) + 127) / 255), .int .i64 ((b.g * b.a + (a.g * ((255 : Int) - b.a)) + 127) / 255), .int .i64 ((b.b * b.a + (a.b * ((255 : Int) - b.a)) + 127) / 255), .int .i64 (b.a + ((a.a * ((255 : Int) - b.a) + 127) / 255))]]) (enters_of Try.func34 (by kernel_rfl) rfl) (hρ _ _ rfl) ((cons2 (hρ _ _ rfl) rfl)) rfl) (fun w _ => of_ref (⟨(b.r * b.a + (a.r * ((255 : Int) - b.a)) + 127) / 255, (b.g * b.a + (a.g * ((255 : Int) - b.a)) + 127) / 255, (b.b * b.a + (a.b * ((255 : Int) - b.a)) + 127) / 255, b.a + ((a.a * ((255 : Int) - b.a) + 127) / 255)⟩ : C4) w (over_ref_eq a b ▸ overC_ok ha hb)) rfl rfl rfl (w_n rfl) ?_
    refine TL_store 3 (.cells #[.int .u8 ((b.r * b.a + (a.r * ((255 : Int) - b.a)) + 127) / 255), .int .u8 ((b.g * b.a + (a.g * ((255 : Int) - b.a)) + 127) / 255), .int .u8 ((b.b * b.a + (a.b * ((255 : Int) - b.a)) + 127) / 255), .int .u8 (b.a + ((a.a * ((255 : Int) - b.a) + 127) / 255))] 27) rfl (fun _ _ hρ hm => r_store sz27 (hρ _ _ rfl) (hρ _ _ rfl) (hm.at 3 rfl) rfl rfl rfl rfl) rfl rfl (w_n rfl) ?_
    refine TL_seq ?_
    refine T_sub [(4, .pointer (some ⟨B3, 0, none⟩))] [(1, .blk B1 (.cells #[.int .u8 a.r, .int .u8 a.g, .int .u8 a.b, .int .u8 a.a] 27)), (2, .blk B2 (.cells #[.int .u8 b.r, .int .u8 b.g, .int .u8 b.b, .int .u8 b.a] 27)), (4, .blk Bx4 (.cells #[.int .i64 a.r, .int .i64 a.g, .int .i64 a.b, .int .i64 a.a] 61)), (5, .blk Bx5 (.cells #[.int .i64 b.r, .int .i64 b.g, .int .i64 b.b, .int .i64 b.a] 61)), (3, .blk B3 (.cells #[.int .u8 ((b.r * b.a + (a.r * ((255 : Int) - b.a)) + 127) / 255), .int .u8 ((b.g * b.a + (a.g * ((255 : Int) - b.a)) + 127) / 255), .int .u8 ((b.b * b.a + (a.b * ((255 : Int) - b.a)) + 127) / 255), .int .u8 (b.a + ((a.a * ((255 : Int) - b.a) + 127) / 255))] 27))] (sub_cons rfl sub_nil) (sub_cons rfl (sub_cons rfl (sub_cons rfl (sub_cons rfl (sub_cons rfl sub_nil))))) ?_
    refine T_ret' ?_
    refine ret_of rfl (.agg #[.int .u8 ((b.r * b.a + (a.r * ((255 : Int) - b.a)) + 127) / 255), .int .u8 ((b.g * b.a + (a.g * ((255 : Int) - b.a)) + 127) / 255), .int .u8 ((b.b * b.a + (a.b * ((255 : Int) - b.a)) + 127) / 255), .int .u8 (b.a + ((a.a * ((255 : Int) - b.a) + 127) / 255))]) (fun tmps w hk hm => res1 rfl (res_cell (hk 4 _ rfl) (run_loadVar_agg ag27 sz27 (hm.at 3 rfl) (Nat.le_of_ble_eq_true rfl) rfl))) (fun w hm => ?_)
    exact ⟨congrArg (fun c : C4 => Ending.returned c.v) (over_ref_eq a b), hm.ext⟩

theorem mix_ref (a b : C4) (p : Int) (w : World) (ha : a.ok) (hb : b.ok) (hp : ok8 p) : Calls Try.prog 28 #[a.v, b.v, .int .u8 p] w fun e w' => e = .returned (mixC a b p).v ∧ Below w.heap.size w w' := by
  obtain ⟨⟨a1, a2⟩, ⟨a3, a4⟩, ⟨a5, a6⟩, ⟨a7, a8⟩⟩ := id ha
  obtain ⟨⟨b1, b2⟩, ⟨b3, b4⟩, ⟨b5, b6⟩, ⟨b7, b8⟩⟩ := id hb
  obtain ⟨p1, p2⟩ := id hp
  obtain ⟨sr1, sr2, sr3, sr4, sr5⟩ := shareI_bd a.r b.r p a1 a2 b1 b2 p1 p2
  obtain ⟨sg1, sg2, sg3, sg4, sg5⟩ := shareI_bd a.g b.g p a3 a4 b3 b4 p1 p2
  obtain ⟨sb1, sb2, sb3, sb4, sb5⟩ := shareI_bd a.b b.b p a5 a6 b5 b6 p1 p2
  obtain ⟨sa1, sa2, sa3, sa4, sa5⟩ := shareI_bd a.a b.a p a7 a8 b7 b8 p1 p2
  refine calls_of_T (l := [.agg #[.int .u8 a.r, .int .u8 a.g, .int .u8 a.b, .int .u8 a.a], .agg #[.int .u8 b.r, .int .u8 b.g, .int .u8 b.b, .int .u8 b.a], .int .u8 p]) 40 Try.func28 rfl rfl rfl ?_
  show T _ _ _ [(0, .agg #[.int .u8 a.r, .int .u8 a.g, .int .u8 a.b, .int .u8 a.a]), (1, .agg #[.int .u8 b.r, .int .u8 b.g, .int .u8 b.b, .int .u8 b.a]), (2, .int .u8 p)] []
  refine T_seq (T_region ?_)
  refine TL_new 1 (.cells #[.int .u8 a.r, .int .u8 a.g, .int .u8 a.b, .int .u8 a.a] 27) (fun B => .pointer (some ⟨B, 0, none⟩)) (fun _ _ hρ _ => r_box (hρ _ _ rfl) rfl) rfl rfl rfl (w_n rfl) ?_
  intro B1
  refine TL_new 2 (.cells #[.int .u8 b.r, .int .u8 b.g, .int .u8 b.b, .int .u8 b.a] 27) (fun B => .pointer (some ⟨B, 0, none⟩)) (fun _ _ hρ _ => r_box (hρ _ _ rfl) rfl) rfl rfl rfl (w_n rfl) ?_
  intro B2
  refine TL_new 3 (.cells #[.int .u8 0, .int .u8 0, .int .u8 0, .int .u8 0] 27) (fun B => .pointer (some ⟨B, 0, none⟩)) (fun _ _ _ _ => r_alloc (v := .agg #[.int .u8 0, .int .u8 0, .int .u8 0, .int .u8 0]) (by kernel_rfl) rfl) rfl rfl rfl (w_n rfl) ?_
  intro B3
  refine TL_seq ?_
  refine T_join (ι := Nat × Nat) (fun _ => True) (fun (z : Nat × Nat) => match z with | (Bx4, Bx5) => [(2, .int .u8 p), (6, .pointer (some ⟨B3, 0, none⟩)), (7, .pointer (some ⟨Bx4, 0, none⟩)), (8, .pointer (some ⟨Bx5, 0, none⟩))]) (fun (z : Nat × Nat) => match z with | (Bx4, Bx5) => [(1, .blk B1 (.cells #[.int .u8 a.r, .int .u8 a.g, .int .u8 a.b, .int .u8 a.a] 27)), (2, .blk B2 (.cells #[.int .u8 b.r, .int .u8 b.g, .int .u8 b.b, .int .u8 b.a] 27)), (3, .blk B3 (.cells #[.int .u8 0, .int .u8 0, .int .u8 0, .int .u8 0] 27)), (4, .blk Bx4 (.cells #[.int .i64 a.r, .int .i64 a.g, .int .i64 a.b, .int .i64 a.a] 61)), (5, .blk Bx5 (.cells #[.int .i64 b.r, .int .i64 b.g, .int .i64 b.b, .int .i64 b.a] 61))]) (T_draw (V := [(0, .agg #[.int .u8 a.r, .int .u8 a.g, .int .u8 a.b, .int .u8 a.a]), (2, .agg #[.int .u8 b.r, .int .u8 b.g, .int .u8 b.b, .int .u8 b.a])]) [0, 1, 0, 7, 0, 0, 63, 127] [[(3, none)], [(12, some 0)], [(4, none)], [(14, some 2)], [], [], [(7, some 4), (13, some 1)], [(8, some 5), (15, some 3)]] 250 mixed (by kernel_rfl) ?_) (fun z _ => ?_)
  · skip
    refine G_step [0, 2] 1 [4, 5] (by kernel_rfl) (allM (all_cons (q_run (.agg #[.int .u8 a.r, .int .u8 a.g, .int .u8 a.b, .int .u8 a.a]) rfl rfl (wv_n rfl) rfl (fun _ _ hρ hm => r_loadA ag27 sz27 (hρ _ _ rfl) (hm.at 1 rfl) rfl rfl)) (all_cons (q_run (.agg #[.int .u8 b.r, .int .u8 b.g, .int .u8 b.b, .int .u8 b.a]) rfl rfl (wv_n rfl) rfl (fun _ _ hρ hm => r_loadA ag27 sz27 (hρ _ _ rfl) (hm.at 2 rfl) rfl rfl)) all_nil))) (allM (all_cons ?_ (all_cons ?_ (all_cons ?_ all_nil))))
    · skip
      refine LOb_call (.agg #[.int .i64 a.r, .int .i64 a.g, .int .i64 a.b, .int .i64 a.a]) [] rfl (wv_n rfl) rfl rfl (fun _ _ hρ _ => r_call (args := [.agg #[.int .u8 a.r, .int .u8 a.g, .int .u8 a.b, .int .u8 a.a]]) (enters_of Try.func30 (by kernel_rfl) rfl) (hρ _ _ rfl) ((cons2 (hρ _ _ rfl) rfl)) rfl) (fun w _ => parts_ref a w ha) (by kernel_rfl) ?_
      refine G_step [2] 3 [4, 5] (by kernel_rfl) (allM (all_cons (q_run (.agg #[.int .u8 b.r, .int .u8 b.g, .int .u8 b.b, .int .u8 b.a]) rfl rfl (wv_n rfl) rfl (fun _ _ hρ hm => r_loadA ag27 sz27 (hρ _ _ rfl) (hm.at 2 rfl) rfl rfl)) all_nil)) (allM (all_cons ?_ (all_cons ?_ (all_cons ?_ all_nil))))
      · skip
        refine LOb_call (.agg #[.int .i64 b.r, .int .i64 b.g, .int .i64 b.b, .int .i64 b.a]) [] rfl (wv_n rfl) rfl rfl (fun _ _ hρ _ => r_call (args := [.agg #[.int .u8 b.r, .int .u8 b.g, .int .u8 b.b, .int .u8 b.a]]) (enters_of Try.func30 (by kernel_rfl) rfl) (hρ _ _ rfl) ((cons2 (hρ _ _ rfl) rfl)) rfl) (fun w _ => parts_ref b w hb) (by kernel_rfl) ?_
        refine G_step [] 4 [5] (by kernel_rfl) (allM all_nil) (allM (all_cons ?_ (all_cons ?_ all_nil)))
        · skip
          refine LOb_new 4 (.cells #[.int .i64 0, .int .i64 0, .int .i64 0, .int .i64 0] 61) (fun B => .pointer (some ⟨B, 0, none⟩)) (fun B => []) rfl (wv_n rfl) rfl rfl (fun _ _ _ _ => r_alloc (v := .agg #[.int .i64 0, .int .i64 0, .int .i64 0, .int .i64 0]) (by kernel_rfl) rfl) (fun B => by kernel_rfl) ?_
          intro B4
          refine G_step [] 5 [] (by kernel_rfl) (allM all_nil) (allM (all_cons ?_ all_nil))
          refine LOb_new 5 (.cells #[.int .i64 0, .int .i64 0, .int .i64 0, .int .i64 0] 61) (fun B => .pointer (some ⟨B, 0, none⟩)) (fun B => []) rfl (wv_n rfl) rfl rfl (fun _ _ _ _ => r_alloc (v := .agg #[.int .i64 0, .int .i64 0, .int .i64 0, .int .i64 0]) (by kernel_rfl) rfl) (fun B => by kernel_rfl) ?_
          intro B5
          refine G_step [] 6 [] (by kernel_rfl) (allM all_nil) (allM (all_cons ?_ all_nil))
          refine LOb_store 4 (.cells #[.int .i64 a.r, .int .i64 a.g, .int .i64 a.b, .int .i64 a.a] 61) [] rfl (wv_n rfl) rfl rfl rfl (fun _ _ hρ hm => r_store sz61 (hρ _ _ rfl) (hρ _ _ rfl) (hm.at 4 rfl) rfl rfl rfl rfl) (by kernel_rfl) ?_
          refine G_step [] 7 [] (by kernel_rfl) (allM all_nil) (allM (all_cons ?_ all_nil))
          refine LOb_store 5 (.cells #[.int .i64 b.r, .int .i64 b.g, .int .i64 b.b, .int .i64 b.a] 61) [] rfl (wv_n rfl) rfl rfl rfl (fun _ _ hρ hm => r_store sz61 (hρ _ _ rfl) (hρ _ _ rfl) (hm.at 5 rfl) rfl rfl rfl rfl) (by kernel_rfl) ?_
          exact G_lastQ [] [(2, .int .u8 p), (6, .pointer (some ⟨B3, 0, none⟩)), (7, .pointer (some ⟨B4, 0, none⟩)), (8, .pointer (some ⟨B5, 0, none⟩))] (by kernel_rfl) (allM all_nil) (end_old rfl rfl (end_old rfl rfl (end_new 4 rfl rfl (end_new 5 rfl rfl end_nil)))) (fun a w hf hm => At_intro (B4, B5) trivial hf hm (sub_cons rfl (sub_cons rfl (sub_cons rfl (sub_cons rfl sub_nil)))) (sub_cons rfl (sub_cons rfl (sub_cons rfl (sub_cons rfl (sub_cons rfl sub_nil))))))
        · skip
          refine LOb_new 5 (.cells #[.int .i64 0, .int .i64 0, .int .i64 0, .int .i64 0] 61) (fun B => .pointer (some ⟨B, 0, none⟩)) (fun B => []) rfl (wv_n rfl) rfl rfl (fun _ _ _ _ => r_alloc (v := .agg #[.int .i64 0, .int .i64 0, .int .i64 0, .int .i64 0]) (by kernel_rfl) rfl) (fun B => by kernel_rfl) ?_
          intro B6
          refine G_step [] 4 [] (by kernel_rfl) (allM all_nil) (allM (all_cons ?_ all_nil))
          refine LOb_new 4 (.cells #[.int .i64 0, .int .i64 0, .int .i64 0, .int .i64 0] 61) (fun B => .pointer (some ⟨B, 0, none⟩)) (fun B => []) rfl (wv_n rfl) rfl rfl (fun _ _ _ _ => r_alloc (v := .agg #[.int .i64 0, .int .i64 0, .int .i64 0, .int .i64 0]) (by kernel_rfl) rfl) (fun B => by kernel_rfl) ?_
          intro B7
          refine G_step [] 6 [] (by kernel_rfl) (allM all_nil) (allM (all_cons ?_ all_nil))
          refine LOb_store 4 (.cells #[.int .i64 a.r, .int .i64 a.g, .int .i64 a.b, .int .i64 a.a] 61) [] rfl (wv_n rfl) rfl rfl rfl (fun _ _ hρ hm => r_store sz61 (hρ _ _ rfl) (hρ _ _ rfl) (hm.at 4 rfl) rfl rfl rfl rfl) (by kernel_rfl) ?_
          refine G_step [] 7 [] (by kernel_rfl) (allM all_nil) (allM (all_cons ?_ all_nil))
          refine LOb_store 5 (.cells #[.int .i64 b.r, .int .i64 b.g, .int .i64 b.b, .int .i64 b.a] 61) [] rfl (wv_n rfl) rfl rfl rfl (fun _ _ hρ hm => r_store sz61 (hρ _ _ rfl) (hρ _ _ rfl) (hm.at 5 rfl) rfl rfl rfl rfl) (by kernel_rfl) ?_
          exact G_lastQ [] [(2, .int .u8 p), (6, .pointer (some ⟨B3, 0, none⟩)), (7, .pointer (some ⟨B7, 0, none⟩)), (8, .pointer (some ⟨B6, 0, none⟩))] (by kernel_rfl) (allM all_nil) (end_old rfl rfl (end_old rfl rfl (end_new 4 rfl rfl (end_new 5 rfl rfl end_nil)))) (fun a w hf hm => At_intro (B7, B6) trivial hf hm (sub_cons rfl (sub_cons rfl (sub_cons rfl (sub_cons rfl sub_nil)))) (sub_cons rfl (sub_cons rfl (sub_cons rfl (sub_cons rfl (sub_cons rfl sub_nil))))))
      · skip
        refine LOb_new 4 (.cells #[.int .i64 0, .int .i64 0, .int .i64 0, .int .i64 0] 61) (fun B => .pointer (some ⟨B, 0, none⟩)) (fun B => []) rfl (wv_n rfl) rfl rfl (fun _ _ _ _ => r_alloc (v := .agg #[.int .i64 0, .int .i64 0, .int .i64 0, .int .i64 0]) (by kernel_rfl) rfl) (fun B => by kernel_rfl) ?_
        intro B8
        refine G_step [2] 3 [5] (by kernel_rfl) (allM (all_cons (q_run (.agg #[.int .u8 b.r, .int .u8 b.g, .int .u8 b.b, .int .u8 b.a]) rfl rfl (wv_n rfl) rfl (fun _ _ hρ hm => r_loadA ag27 sz27 (hρ _ _ rfl) (hm.at 2 rfl) rfl rfl)) all_nil)) (allM (all_cons ?_ (all_cons ?_ all_nil)))
        · skip
          refine LOb_call (.agg #[.int .i64 b.r, .int .i64 b.g, .int .i64 b.b, .int .i64 b.a]) [] rfl (wv_n rfl) rfl rfl (fun _ _ hρ _ => r_call (args := [.agg #[.int .u8 b.r, .int .u8 b.g, .int .u8 b.b, .int .u8 b.a]]) (enters_of Try.func30 (by kernel_rfl) rfl) (hρ _ _ rfl) ((cons2 (hρ _ _ rfl) rfl)) rfl) (fun w _ => parts_ref b w hb) (by kernel_rfl) ?_
          refine G_step [] 5 [] (by kernel_rfl) (allM all_nil) (allM (all_cons ?_ all_nil))
          refine LOb_new 5 (.cells #[.int .i64 0, .int .i64 0, .int .i64 0, .int .i64 0] 61) (fun B => .pointer (some ⟨B, 0, none⟩)) (fun B => []) rfl (wv_n rfl) rfl rfl (fun _ _ _ _ => r_alloc (v := .agg #[.int .i64 0, .int .i64 0, .int .i64 0, .int .i64 0]) (by kernel_rfl) rfl) (fun B => by kernel_rfl) ?_
          intro B9
          refine G_step [] 6 [] (by kernel_rfl) (allM all_nil) (allM (all_cons ?_ all_nil))
          refine LOb_store 4 (.cells #[.int .i64 a.r, .int .i64 a.g, .int .i64 a.b, .int .i64 a.a] 61) [] rfl (wv_n rfl) rfl rfl rfl (fun _ _ hρ hm => r_store sz61 (hρ _ _ rfl) (hρ _ _ rfl) (hm.at 4 rfl) rfl rfl rfl rfl) (by kernel_rfl) ?_
          refine G_step [] 7 [] (by kernel_rfl) (allM all_nil) (allM (all_cons ?_ all_nil))
          refine LOb_store 5 (.cells #[.int .i64 b.r, .int .i64 b.g, .int .i64 b.b, .int .i64 b.a] 61) [] rfl (wv_n rfl) rfl rfl rfl (fun _ _ hρ hm => r_store sz61 (hρ _ _ rfl) (hρ _ _ rfl) (hm.at 5 rfl) rfl rfl rfl rfl) (by kernel_rfl) ?_
          exact G_lastQ [] [(2, .int .u8 p), (6, .pointer (some ⟨B3, 0, none⟩)), (7, .pointer (some ⟨B8, 0, none⟩)), (8, .pointer (some ⟨B9, 0, none⟩))] (by kernel_rfl) (allM all_nil) (end_old rfl rfl (end_old rfl rfl (end_new 4 rfl rfl (end_new 5 rfl rfl end_nil)))) (fun a w hf hm => At_intro (B8, B9) trivial hf hm (sub_cons rfl (sub_cons rfl (sub_cons rfl (sub_cons rfl sub_nil)))) (sub_cons rfl (sub_cons rfl (sub_cons rfl (sub_cons rfl (sub_cons rfl sub_nil))))))
        · skip
          refine LOb_new 5 (.cells #[.int .i64 0, .int .i64 0, .int .i64 0, .int .i64 0] 61) (fun B => .pointer (some ⟨B, 0, none⟩)) (fun B => []) rfl (wv_n rfl) rfl rfl (fun _ _ _ _ => r_alloc (v := .agg #[.int .i64 0, .int .i64 0, .int .i64 0, .int .i64 0]) (by kernel_rfl) rfl) (fun B => by kernel_rfl) ?_
          intro B10
          refine G_step [2] 3 [] (by kernel_rfl) (allM (all_cons (q_run (.agg #[.int .u8 b.r, .int .u8 b.g, .int .u8 b.b, .int .u8 b.a]) rfl rfl (wv_n rfl) rfl (fun _ _ hρ hm => r_loadA ag27 sz27 (hρ _ _ rfl) (hm.at 2 rfl) rfl rfl)) all_nil)) (allM (all_cons ?_ all_nil))
          refine LOb_call (.agg #[.int .i64 b.r, .int .i64 b.g, .int .i64 b.b, .int .i64 b.a]) [] rfl (wv_n rfl) rfl rfl (fun _ _ hρ _ => r_call (args := [.agg #[.int .u8 b.r, .int .u8 b.g, .int .u8 b.b, .int .u8 b.a]]) (enters_of Try.func30 (by kernel_rfl) rfl) (hρ _ _ rfl) ((cons2 (hρ _ _ rfl) rfl)) rfl) (fun w _ => parts_ref b w hb) (by kernel_rfl) ?_
          refine G_step [] 6 [] (by kernel_rfl) (allM all_nil) (allM (all_cons ?_ all_nil))
          refine LOb_store 4 (.cells #[.int .i64 a.r, .int .i64 a.g, .int .i64 a.b, .int .i64 a.a] 61) [] rfl (wv_n rfl) rfl rfl rfl (fun _ _ hρ hm => r_store sz61 (hρ _ _ rfl) (hρ _ _ rfl) (hm.at 4 rfl) rfl rfl rfl rfl) (by kernel_rfl) ?_
          refine G_step [] 7 [] (by kernel_rfl) (allM all_nil) (allM (all_cons ?_ all_nil))
          refine LOb_store 5 (.cells #[.int .i64 b.r, .int .i64 b.g, .int .i64 b.b, .int .i64 b.a] 61) [] rfl (wv_n rfl) rfl rfl rfl (fun _ _ hρ hm => r_store sz61 (hρ _ _ rfl) (hρ _ _ rfl) (hm.at 5 rfl) rfl rfl rfl rfl) (by kernel_rfl) ?_
          exact G_lastQ [] [(2, .int .u8 p), (6, .pointer (some ⟨B3, 0, none⟩)), (7, .pointer (some ⟨B8, 0, none⟩)), (8, .pointer (some ⟨B10, 0, none⟩))] (by kernel_rfl) (allM all_nil) (end_old rfl rfl (end_old rfl rfl (end_new 4 rfl rfl (end_new 5 rfl rfl end_nil)))) (fun a w hf hm => At_intro (B8, B10) trivial hf hm (sub_cons rfl (sub_cons rfl (sub_cons rfl (sub_cons rfl sub_nil)))) (sub_cons rfl (sub_cons rfl (sub_cons rfl (sub_cons rfl (sub_cons rfl sub_nil))))))
      · skip
        refine LOb_new 5 (.cells #[.int .i64 0, .int .i64 0, .int .i64 0, .int .i64 0] 61) (fun B => .pointer (some ⟨B, 0, none⟩)) (fun B => []) rfl (wv_n rfl) rfl rfl (fun _ _ _ _ => r_alloc (v := .agg #[.int .i64 0, .int .i64 0, .int .i64 0, .int .i64 0]) (by kernel_rfl) rfl) (fun B => by kernel_rfl) ?_
        intro B11
        refine G_step [2] 3 [4] (by kernel_rfl) (allM (all_cons (q_run (.agg #[.int .u8 b.r, .int .u8 b.g, .int .u8 b.b, .int .u8 b.a]) rfl rfl (wv_n rfl) rfl (fun _ _ hρ hm => r_loadA ag27 sz27 (hρ _ _ rfl) (hm.at 2 rfl) rfl rfl)) all_nil)) (allM (all_cons ?_ (all_cons ?_ all_nil)))
        · skip
          refine LOb_call (.agg #[.int .i64 b.r, .int .i64 b.g, .int .i64 b.b, .int .i64 b.a]) [] rfl (wv_n rfl) rfl rfl (fun _ _ hρ _ => r_call (args := [.agg #[.int .u8 b.r, .int .u8 b.g, .int .u8 b.b, .int .u8 b.a]]) (enters_of Try.func30 (by kernel_rfl) rfl) (hρ _ _ rfl) ((cons2 (hρ _ _ rfl) rfl)) rfl) (fun w _ => parts_ref b w hb) (by kernel_rfl) ?_
          refine G_step [] 4 [] (by kernel_rfl) (allM all_nil) (allM (all_cons ?_ all_nil))
          refine LOb_new 4 (.cells #[.int .i64 0, .int .i64 0, .int .i64 0, .int .i64 0] 61) (fun B => .pointer (some ⟨B, 0, none⟩)) (fun B => []) rfl (wv_n rfl) rfl rfl (fun _ _ _ _ => r_alloc (v := .agg #[.int .i64 0, .int .i64 0, .int .i64 0, .int .i64 0]) (by kernel_rfl) rfl) (fun B => by kernel_rfl) ?_
          intro B12
          refine G_step [] 6 [] (by kernel_rfl) (allM all_nil) (allM (all_cons ?_ all_nil))
          refine LOb_store 4 (.cells #[.int .i64 a.r, .int .i64 a.g, .int .i64 a.b, .int .i64 a.a] 61) [] rfl (wv_n rfl) rfl rfl rfl (fun _ _ hρ hm => r_store sz61 (hρ _ _ rfl) (hρ _ _ rfl) (hm.at 4 rfl) rfl rfl rfl rfl) (by kernel_rfl) ?_
          refine G_step [] 7 [] (by kernel_rfl) (allM all_nil) (allM (all_cons ?_ all_nil))
          refine LOb_store 5 (.cells #[.int .i64 b.r, .int .i64 b.g, .int .i64 b.b, .int .i64 b.a] 61) [] rfl (wv_n rfl) rfl rfl rfl (fun _ _ hρ hm => r_store sz61 (hρ _ _ rfl) (hρ _ _ rfl) (hm.at 5 rfl) rfl rfl rfl rfl) (by kernel_rfl) ?_
          exact G_lastQ [] [(2, .int .u8 p), (6, .pointer (some ⟨B3, 0, none⟩)), (7, .pointer (some ⟨B12, 0, none⟩)), (8, .pointer (some ⟨B11, 0, none⟩))] (by kernel_rfl) (allM all_nil) (end_old rfl rfl (end_old rfl rfl (end_new 4 rfl rfl (end_new 5 rfl rfl end_nil)))) (fun a w hf hm => At_intro (B12, B11) trivial hf hm (sub_cons rfl (sub_cons rfl (sub_cons rfl (sub_cons rfl sub_nil)))) (sub_cons rfl (sub_cons rfl (sub_cons rfl (sub_cons rfl (sub_cons rfl sub_nil))))))
        · skip
          refine LOb_new 4 (.cells #[.int .i64 0, .int .i64 0, .int .i64 0, .int .i64 0] 61) (fun B => .pointer (some ⟨B, 0, none⟩)) (fun B => []) rfl (wv_n rfl) rfl rfl (fun _ _ _ _ => r_alloc (v := .agg #[.int .i64 0, .int .i64 0, .int .i64 0, .int .i64 0]) (by kernel_rfl) rfl) (fun B => by kernel_rfl) ?_
          intro B13
          refine G_step [2] 3 [] (by kernel_rfl) (allM (all_cons (q_run (.agg #[.int .u8 b.r, .int .u8 b.g, .int .u8 b.b, .int .u8 b.a]) rfl rfl (wv_n rfl) rfl (fun _ _ hρ hm => r_loadA ag27 sz27 (hρ _ _ rfl) (hm.at 2 rfl) rfl rfl)) all_nil)) (allM (all_cons ?_ all_nil))
          refine LOb_call (.agg #[.int .i64 b.r, .int .i64 b.g, .int .i64 b.b, .int .i64 b.a]) [] rfl (wv_n rfl) rfl rfl (fun _ _ hρ _ => r_call (args := [.agg #[.int .u8 b.r, .int .u8 b.g, .int .u8 b.b, .int .u8 b.a]]) (enters_of Try.func30 (by kernel_rfl) rfl) (hρ _ _ rfl) ((cons2 (hρ _ _ rfl) rfl)) rfl) (fun w _ => parts_ref b w hb) (by kernel_rfl) ?_
          refine G_step [] 6 [] (by kernel_rfl) (allM all_nil) (allM (all_cons ?_ all_nil))
          refine LOb_store 4 (.cells #[.int .i64 a.r, .int .i64 a.g, .int .i64 a.b, .int .i64 a.a] 61) [] rfl (wv_n rfl) rfl rfl rfl (fun _ _ hρ hm => r_store sz61 (hρ _ _ rfl) (hρ _ _ rfl) (hm.at 4 rfl) rfl rfl rfl rfl) (by kernel_rfl) ?_
          refine G_step [] 7 [] (by kernel_rfl) (allM all_nil) (allM (all_cons ?_ all_nil))
          refine LOb_store 5 (.cells #[.int .i64 b.r, .int .i64 b.g, .int .i64 b.b, .int .i64 b.a] 61) [] rfl (wv_n rfl) rfl rfl rfl (fun _ _ hρ hm => r_store sz61 (hρ _ _ rfl) (hρ _ _ rfl) (hm.at 5 rfl) rfl rfl rfl rfl) (by kernel_rfl) ?_
          exact G_lastQ [] [(2, .int .u8 p), (6, .pointer (some ⟨B3, 0, none⟩)), (7, .pointer (some ⟨B13, 0, none⟩)), (8, .pointer (some ⟨B11, 0, none⟩))] (by kernel_rfl) (allM all_nil) (end_old rfl rfl (end_old rfl rfl (end_new 4 rfl rfl (end_new 5 rfl rfl end_nil)))) (fun a w hf hm => At_intro (B13, B11) trivial hf hm (sub_cons rfl (sub_cons rfl (sub_cons rfl (sub_cons rfl sub_nil)))) (sub_cons rfl (sub_cons rfl (sub_cons rfl (sub_cons rfl (sub_cons rfl sub_nil))))))
    · skip
      refine LOb_new 4 (.cells #[.int .i64 0, .int .i64 0, .int .i64 0, .int .i64 0] 61) (fun B => .pointer (some ⟨B, 0, none⟩)) (fun B => []) rfl (wv_n rfl) rfl rfl (fun _ _ _ _ => r_alloc (v := .agg #[.int .i64 0, .int .i64 0, .int .i64 0, .int .i64 0]) (by kernel_rfl) rfl) (fun B => by kernel_rfl) ?_
      intro B14
      refine G_step [0, 2] 1 [5] (by kernel_rfl) (allM (all_cons (q_run (.agg #[.int .u8 a.r, .int .u8 a.g, .int .u8 a.b, .int .u8 a.a]) rfl rfl (wv_n rfl) rfl (fun _ _ hρ hm => r_loadA ag27 sz27 (hρ _ _ rfl) (hm.at 1 rfl) rfl rfl)) (all_cons (q_run (.agg #[.int .u8 b.r, .int .u8 b.g, .int .u8 b.b, .int .u8 b.a]) rfl rfl (wv_n rfl) rfl (fun _ _ hρ hm => r_loadA ag27 sz27 (hρ _ _ rfl) (hm.at 2 rfl) rfl rfl)) all_nil))) (allM (all_cons ?_ (all_cons ?_ all_nil)))
      · skip
        refine LOb_call (.agg #[.int .i64 a.r, .int .i64 a.g, .int .i64 a.b, .int .i64 a.a]) [] rfl (wv_n rfl) rfl rfl (fun _ _ hρ _ => r_call (args := [.agg #[.int .u8 a.r, .int .u8 a.g, .int .u8 a.b, .int .u8 a.a]]) (enters_of Try.func30 (by kernel_rfl) rfl) (hρ _ _ rfl) ((cons2 (hρ _ _ rfl) rfl)) rfl) (fun w _ => parts_ref a w ha) (by kernel_rfl) ?_
        refine G_step [2] 3 [5] (by kernel_rfl) (allM (all_cons (q_run (.agg #[.int .u8 b.r, .int .u8 b.g, .int .u8 b.b, .int .u8 b.a]) rfl rfl (wv_n rfl) rfl (fun _ _ hρ hm => r_loadA ag27 sz27 (hρ _ _ rfl) (hm.at 2 rfl) rfl rfl)) all_nil)) (allM (all_cons ?_ (all_cons ?_ all_nil)))
        · skip
          refine LOb_call (.agg #[.int .i64 b.r, .int .i64 b.g, .int .i64 b.b, .int .i64 b.a]) [] rfl (wv_n rfl) rfl rfl (fun _ _ hρ _ => r_call (args := [.agg #[.int .u8 b.r, .int .u8 b.g, .int .u8 b.b, .int .u8 b.a]]) (enters_of Try.func30 (by kernel_rfl) rfl) (hρ _ _ rfl) ((cons2 (hρ _ _ rfl) rfl)) rfl) (fun w _ => parts_ref b w hb) (by kernel_rfl) ?_
          refine G_step [] 5 [] (by kernel_rfl) (allM all_nil) (allM (all_cons ?_ all_nil))
          refine LOb_new 5 (.cells #[.int .i64 0, .int .i64 0, .int .i64 0, .int .i64 0] 61) (fun B => .pointer (some ⟨B, 0, none⟩)) (fun B => []) rfl (wv_n rfl) rfl rfl (fun _ _ _ _ => r_alloc (v := .agg #[.int .i64 0, .int .i64 0, .int .i64 0, .int .i64 0]) (by kernel_rfl) rfl) (fun B => by kernel_rfl) ?_
          intro B15
          refine G_step [] 6 [] (by kernel_rfl) (allM all_nil) (allM (all_cons ?_ all_nil))
          refine LOb_store 4 (.cells #[.int .i64 a.r, .int .i64 a.g, .int .i64 a.b, .int .i64 a.a] 61) [] rfl (wv_n rfl) rfl rfl rfl (fun _ _ hρ hm => r_store sz61 (hρ _ _ rfl) (hρ _ _ rfl) (hm.at 4 rfl) rfl rfl rfl rfl) (by kernel_rfl) ?_
          refine G_step [] 7 [] (by kernel_rfl) (allM all_nil) (allM (all_cons ?_ all_nil))
          refine LOb_store 5 (.cells #[.int .i64 b.r, .int .i64 b.g, .int .i64 b.b, .int .i64 b.a] 61) [] rfl (wv_n rfl) rfl rfl rfl (fun _ _ hρ hm => r_store sz61 (hρ _ _ rfl) (hρ _ _ rfl) (hm.at 5 rfl) rfl rfl rfl rfl) (by kernel_rfl) ?_
          exact G_lastQ [] [(2, .int .u8 p), (6, .pointer (some ⟨B3, 0, none⟩)), (7, .pointer (some ⟨B14, 0, none⟩)), (8, .pointer (some ⟨B15, 0, none⟩))] (by kernel_rfl) (allM all_nil) (end_old rfl rfl (end_old rfl rfl (end_new 4 rfl rfl (end_new 5 rfl rfl end_nil)))) (fun a w hf hm => At_intro (B14, B15) trivial hf hm (sub_cons rfl (sub_cons rfl (sub_cons rfl (sub_cons rfl sub_nil)))) (sub_cons rfl (sub_cons rfl (sub_cons rfl (sub_cons rfl (sub_cons rfl sub_nil))))))
        · skip
          refine LOb_new 5 (.cells #[.int .i64 0, .int .i64 0, .int .i64 0, .int .i64 0] 61) (fun B => .pointer (some ⟨B, 0, none⟩)) (fun B => []) rfl (wv_n rfl) rfl rfl (fun _ _ _ _ => r_alloc (v := .agg #[.int .i64 0, .int .i64 0, .int .i64 0, .int .i64 0]) (by kernel_rfl) rfl) (fun B => by kernel_rfl) ?_
          intro B16
          refine G_step [2] 3 [] (by kernel_rfl) (allM (all_cons (q_run (.agg #[.int .u8 b.r, .int .u8 b.g, .int .u8 b.b, .int .u8 b.a]) rfl rfl (wv_n rfl) rfl (fun _ _ hρ hm => r_loadA ag27 sz27 (hρ _ _ rfl) (hm.at 2 rfl) rfl rfl)) all_nil)) (allM (all_cons ?_ all_nil))
          refine LOb_call (.agg #[.int .i64 b.r, .int .i64 b.g, .int .i64 b.b, .int .i64 b.a]) [] rfl (wv_n rfl) rfl rfl (fun _ _ hρ _ => r_call (args := [.agg #[.int .u8 b.r, .int .u8 b.g, .int .u8 b.b, .int .u8 b.a]]) (enters_of Try.func30 (by kernel_rfl) rfl) (hρ _ _ rfl) ((cons2 (hρ _ _ rfl) rfl)) rfl) (fun w _ => parts_ref b w hb) (by kernel_rfl) ?_
          refine G_step [] 6 [] (by kernel_rfl) (allM all_nil) (allM (all_cons ?_ all_nil))
          refine LOb_store 4 (.cells #[.int .i64 a.r, .int .i64 a.g, .int .i64 a.b, .int .i64 a.a] 61) [] rfl (wv_n rfl) rfl rfl rfl (fun _ _ hρ hm => r_store sz61 (hρ _ _ rfl) (hρ _ _ rfl) (hm.at 4 rfl) rfl rfl rfl rfl) (by kernel_rfl) ?_
          refine G_step [] 7 [] (by kernel_rfl) (allM all_nil) (allM (all_cons ?_ all_nil))
          refine LOb_store 5 (.cells #[.int .i64 b.r, .int .i64 b.g, .int .i64 b.b, .int .i64 b.a] 61) [] rfl (wv_n rfl) rfl rfl rfl (fun _ _ hρ hm => r_store sz61 (hρ _ _ rfl) (hρ _ _ rfl) (hm.at 5 rfl) rfl rfl rfl rfl) (by kernel_rfl) ?_
          exact G_lastQ [] [(2, .int .u8 p), (6, .pointer (some ⟨B3, 0, none⟩)), (7, .pointer (some ⟨B14, 0, none⟩)), (8, .pointer (some ⟨B16, 0, none⟩))] (by kernel_rfl) (allM all_nil) (end_old rfl rfl (end_old rfl rfl (end_new 4 rfl rfl (end_new 5 rfl rfl end_nil)))) (fun a w hf hm => At_intro (B14, B16) trivial hf hm (sub_cons rfl (sub_cons rfl (sub_cons rfl (sub_cons rfl sub_nil)))) (sub_cons rfl (sub_cons rfl (sub_cons rfl (sub_cons rfl (sub_cons rfl sub_nil))))))
      · skip
        refine LOb_new 5 (.cells #[.int .i64 0, .int .i64 0, .int .i64 0, .int .i64 0] 61) (fun B => .pointer (some ⟨B, 0, none⟩)) (fun B => []) rfl (wv_n rfl) rfl rfl (fun _ _ _ _ => r_alloc (v := .agg #[.int .i64 0, .int .i64 0, .int .i64 0, .int .i64 0]) (by kernel_rfl) rfl) (fun B => by kernel_rfl) ?_
        intro B17
        refine G_step [0, 2] 1 [] (by kernel_rfl) (allM (all_cons (q_run (.agg #[.int .u8 a.r, .int .u8 a.g, .int .u8 a.b, .int .u8 a.a]) rfl rfl (wv_n rfl) rfl (fun _ _ hρ hm => r_loadA ag27 sz27 (hρ _ _ rfl) (hm.at 1 rfl) rfl rfl)) (all_cons (q_run (.agg #[.int .u8 b.r, .int .u8 b.g, .int .u8 b.b, .int .u8 b.a]) rfl rfl (wv_n rfl) rfl (fun _ _ hρ hm => r_loadA ag27 sz27 (hρ _ _ rfl) (hm.at 2 rfl) rfl rfl)) all_nil))) (allM (all_cons ?_ all_nil))
        refine LOb_call (.agg #[.int .i64 a.r, .int .i64 a.g, .int .i64 a.b, .int .i64 a.a]) [] rfl (wv_n rfl) rfl rfl (fun _ _ hρ _ => r_call (args := [.agg #[.int .u8 a.r, .int .u8 a.g, .int .u8 a.b, .int .u8 a.a]]) (enters_of Try.func30 (by kernel_rfl) rfl) (hρ _ _ rfl) ((cons2 (hρ _ _ rfl) rfl)) rfl) (fun w _ => parts_ref a w ha) (by kernel_rfl) ?_
        refine G_step [2] 3 [] (by kernel_rfl) (allM (all_cons (q_run (.agg #[.int .u8 b.r, .int .u8 b.g, .int .u8 b.b, .int .u8 b.a]) rfl rfl (wv_n rfl) rfl (fun _ _ hρ hm => r_loadA ag27 sz27 (hρ _ _ rfl) (hm.at 2 rfl) rfl rfl)) all_nil)) (allM (all_cons ?_ all_nil))
        refine LOb_call (.agg #[.int .i64 b.r, .int .i64 b.g, .int .i64 b.b, .int .i64 b.a]) [] rfl (wv_n rfl) rfl rfl (fun _ _ hρ _ => r_call (args := [.agg #[.int .u8 b.r, .int .u8 b.g, .int .u8 b.b, .int .u8 b.a]]) (enters_of Try.func30 (by kernel_rfl) rfl) (hρ _ _ rfl) ((cons2 (hρ _ _ rfl) rfl)) rfl) (fun w _ => parts_ref b w hb) (by kernel_rfl) ?_
        refine G_step [] 6 [] (by kernel_rfl) (allM all_nil) (allM (all_cons ?_ all_nil))
        refine LOb_store 4 (.cells #[.int .i64 a.r, .int .i64 a.g, .int .i64 a.b, .int .i64 a.a] 61) [] rfl (wv_n rfl) rfl rfl rfl (fun _ _ hρ hm => r_store sz61 (hρ _ _ rfl) (hρ _ _ rfl) (hm.at 4 rfl) rfl rfl rfl rfl) (by kernel_rfl) ?_
        refine G_step [] 7 [] (by kernel_rfl) (allM all_nil) (allM (all_cons ?_ all_nil))
        refine LOb_store 5 (.cells #[.int .i64 b.r, .int .i64 b.g, .int .i64 b.b, .int .i64 b.a] 61) [] rfl (wv_n rfl) rfl rfl rfl (fun _ _ hρ hm => r_store sz61 (hρ _ _ rfl) (hρ _ _ rfl) (hm.at 5 rfl) rfl rfl rfl rfl) (by kernel_rfl) ?_
        exact G_lastQ [] [(2, .int .u8 p), (6, .pointer (some ⟨B3, 0, none⟩)), (7, .pointer (some ⟨B14, 0, none⟩)), (8, .pointer (some ⟨B17, 0, none⟩))] (by kernel_rfl) (allM all_nil) (end_old rfl rfl (end_old rfl rfl (end_new 4 rfl rfl (end_new 5 rfl rfl end_nil)))) (fun a w hf hm => At_intro (B14, B17) trivial hf hm (sub_cons rfl (sub_cons rfl (sub_cons rfl (sub_cons rfl sub_nil)))) (sub_cons rfl (sub_cons rfl (sub_cons rfl (sub_cons rfl (sub_cons rfl sub_nil))))))
    · skip
      refine LOb_new 5 (.cells #[.int .i64 0, .int .i64 0, .int .i64 0, .int .i64 0] 61) (fun B => .pointer (some ⟨B, 0, none⟩)) (fun B => []) rfl (wv_n rfl) rfl rfl (fun _ _ _ _ => r_alloc (v := .agg #[.int .i64 0, .int .i64 0, .int .i64 0, .int .i64 0]) (by kernel_rfl) rfl) (fun B => by kernel_rfl) ?_
      intro B18
      refine G_step [0, 2] 1 [4] (by kernel_rfl) (allM (all_cons (q_run (.agg #[.int .u8 a.r, .int .u8 a.g, .int .u8 a.b, .int .u8 a.a]) rfl rfl (wv_n rfl) rfl (fun _ _ hρ hm => r_loadA ag27 sz27 (hρ _ _ rfl) (hm.at 1 rfl) rfl rfl)) (all_cons (q_run (.agg #[.int .u8 b.r, .int .u8 b.g, .int .u8 b.b, .int .u8 b.a]) rfl rfl (wv_n rfl) rfl (fun _ _ hρ hm => r_loadA ag27 sz27 (hρ _ _ rfl) (hm.at 2 rfl) rfl rfl)) all_nil))) (allM (all_cons ?_ (all_cons ?_ all_nil)))
      · skip
        refine LOb_call (.agg #[.int .i64 a.r, .int .i64 a.g, .int .i64 a.b, .int .i64 a.a]) [] rfl (wv_n rfl) rfl rfl (fun _ _ hρ _ => r_call (args := [.agg #[.int .u8 a.r, .int .u8 a.g, .int .u8 a.b, .int .u8 a.a]]) (enters_of Try.func30 (by kernel_rfl) rfl) (hρ _ _ rfl) ((cons2 (hρ _ _ rfl) rfl)) rfl) (fun w _ => parts_ref a w ha) (by kernel_rfl) ?_
        refine G_step [2] 3 [4] (by kernel_rfl) (allM (all_cons (q_run (.agg #[.int .u8 b.r, .int .u8 b.g, .int .u8 b.b, .int .u8 b.a]) rfl rfl (wv_n rfl) rfl (fun _ _ hρ hm => r_loadA ag27 sz27 (hρ _ _ rfl) (hm.at 2 rfl) rfl rfl)) all_nil)) (allM (all_cons ?_ (all_cons ?_ all_nil)))
        · skip
          refine LOb_call (.agg #[.int .i64 b.r, .int .i64 b.g, .int .i64 b.b, .int .i64 b.a]) [] rfl (wv_n rfl) rfl rfl (fun _ _ hρ _ => r_call (args := [.agg #[.int .u8 b.r, .int .u8 b.g, .int .u8 b.b, .int .u8 b.a]]) (enters_of Try.func30 (by kernel_rfl) rfl) (hρ _ _ rfl) ((cons2 (hρ _ _ rfl) rfl)) rfl) (fun w _ => parts_ref b w hb) (by kernel_rfl) ?_
          refine G_step [] 4 [] (by kernel_rfl) (allM all_nil) (allM (all_cons ?_ all_nil))
          refine LOb_new 4 (.cells #[.int .i64 0, .int .i64 0, .int .i64 0, .int .i64 0] 61) (fun B => .pointer (some ⟨B, 0, none⟩)) (fun B => []) rfl (wv_n rfl) rfl rfl (fun _ _ _ _ => r_alloc (v := .agg #[.int .i64 0, .int .i64 0, .int .i64 0, .int .i64 0]) (by kernel_rfl) rfl) (fun B => by kernel_rfl) ?_
          intro B19
          refine G_step [] 6 [] (by kernel_rfl) (allM all_nil) (allM (all_cons ?_ all_nil))
          refine LOb_store 4 (.cells #[.int .i64 a.r, .int .i64 a.g, .int .i64 a.b, .int .i64 a.a] 61) [] rfl (wv_n rfl) rfl rfl rfl (fun _ _ hρ hm => r_store sz61 (hρ _ _ rfl) (hρ _ _ rfl) (hm.at 4 rfl) rfl rfl rfl rfl) (by kernel_rfl) ?_
          refine G_step [] 7 [] (by kernel_rfl) (allM all_nil) (allM (all_cons ?_ all_nil))
          refine LOb_store 5 (.cells #[.int .i64 b.r, .int .i64 b.g, .int .i64 b.b, .int .i64 b.a] 61) [] rfl (wv_n rfl) rfl rfl rfl (fun _ _ hρ hm => r_store sz61 (hρ _ _ rfl) (hρ _ _ rfl) (hm.at 5 rfl) rfl rfl rfl rfl) (by kernel_rfl) ?_
          exact G_lastQ [] [(2, .int .u8 p), (6, .pointer (some ⟨B3, 0, none⟩)), (7, .pointer (some ⟨B19, 0, none⟩)), (8, .pointer (some ⟨B18, 0, none⟩))] (by kernel_rfl) (allM all_nil) (end_old rfl rfl (end_old rfl rfl (end_new 4 rfl rfl (end_new 5 rfl rfl end_nil)))) (fun a w hf hm => At_intro (B19, B18) trivial hf hm (sub_cons rfl (sub_cons rfl (sub_cons rfl (sub_cons rfl sub_nil)))) (sub_cons rfl (sub_cons rfl (sub_cons rfl (sub_cons rfl (sub_cons rfl sub_nil))))))
        · skip
          refine LOb_new 4 (.cells #[.int .i64 0, .int .i64 0, .int .i64 0, .int .i64 0] 61) (fun B => .pointer (some ⟨B, 0, none⟩)) (fun B => []) rfl (wv_n rfl) rfl rfl (fun _ _ _ _ => r_alloc (v := .agg #[.int .i64 0, .int .i64 0, .int .i64 0, .int .i64 0]) (by kernel_rfl) rfl) (fun B => by kernel_rfl) ?_
          intro B20
          refine G_step [2] 3 [] (by kernel_rfl) (allM (all_cons (q_run (.agg #[.int .u8 b.r, .int .u8 b.g, .int .u8 b.b, .int .u8 b.a]) rfl rfl (wv_n rfl) rfl (fun _ _ hρ hm => r_loadA ag27 sz27 (hρ _ _ rfl) (hm.at 2 rfl) rfl rfl)) all_nil)) (allM (all_cons ?_ all_nil))
          refine LOb_call (.agg #[.int .i64 b.r, .int .i64 b.g, .int .i64 b.b, .int .i64 b.a]) [] rfl (wv_n rfl) rfl rfl (fun _ _ hρ _ => r_call (args := [.agg #[.int .u8 b.r, .int .u8 b.g, .int .u8 b.b, .int .u8 b.a]]) (enters_of Try.func30 (by kernel_rfl) rfl) (hρ _ _ rfl) ((cons2 (hρ _ _ rfl) rfl)) rfl) (fun w _ => parts_ref b w hb) (by kernel_rfl) ?_
          refine G_step [] 6 [] (by kernel_rfl) (allM all_nil) (allM (all_cons ?_ all_nil))
          refine LOb_store 4 (.cells #[.int .i64 a.r, .int .i64 a.g, .int .i64 a.b, .int .i64 a.a] 61) [] rfl (wv_n rfl) rfl rfl rfl (fun _ _ hρ hm => r_store sz61 (hρ _ _ rfl) (hρ _ _ rfl) (hm.at 4 rfl) rfl rfl rfl rfl) (by kernel_rfl) ?_
          refine G_step [] 7 [] (by kernel_rfl) (allM all_nil) (allM (all_cons ?_ all_nil))
          refine LOb_store 5 (.cells #[.int .i64 b.r, .int .i64 b.g, .int .i64 b.b, .int .i64 b.a] 61) [] rfl (wv_n rfl) rfl rfl rfl (fun _ _ hρ hm => r_store sz61 (hρ _ _ rfl) (hρ _ _ rfl) (hm.at 5 rfl) rfl rfl rfl rfl) (by kernel_rfl) ?_
          exact G_lastQ [] [(2, .int .u8 p), (6, .pointer (some ⟨B3, 0, none⟩)), (7, .pointer (some ⟨B20, 0, none⟩)), (8, .pointer (some ⟨B18, 0, none⟩))] (by kernel_rfl) (allM all_nil) (end_old rfl rfl (end_old rfl rfl (end_new 4 rfl rfl (end_new 5 rfl rfl end_nil)))) (fun a w hf hm => At_intro (B20, B18) trivial hf hm (sub_cons rfl (sub_cons rfl (sub_cons rfl (sub_cons rfl sub_nil)))) (sub_cons rfl (sub_cons rfl (sub_cons rfl (sub_cons rfl (sub_cons rfl sub_nil))))))
      · skip
        refine LOb_new 4 (.cells #[.int .i64 0, .int .i64 0, .int .i64 0, .int .i64 0] 61) (fun B => .pointer (some ⟨B, 0, none⟩)) (fun B => []) rfl (wv_n rfl) rfl rfl (fun _ _ _ _ => r_alloc (v := .agg #[.int .i64 0, .int .i64 0, .int .i64 0, .int .i64 0]) (by kernel_rfl) rfl) (fun B => by kernel_rfl) ?_
        intro B21
        refine G_step [0, 2] 1 [] (by kernel_rfl) (allM (all_cons (q_run (.agg #[.int .u8 a.r, .int .u8 a.g, .int .u8 a.b, .int .u8 a.a]) rfl rfl (wv_n rfl) rfl (fun _ _ hρ hm => r_loadA ag27 sz27 (hρ _ _ rfl) (hm.at 1 rfl) rfl rfl)) (all_cons (q_run (.agg #[.int .u8 b.r, .int .u8 b.g, .int .u8 b.b, .int .u8 b.a]) rfl rfl (wv_n rfl) rfl (fun _ _ hρ hm => r_loadA ag27 sz27 (hρ _ _ rfl) (hm.at 2 rfl) rfl rfl)) all_nil))) (allM (all_cons ?_ all_nil))
        refine LOb_call (.agg #[.int .i64 a.r, .int .i64 a.g, .int .i64 a.b, .int .i64 a.a]) [] rfl (wv_n rfl) rfl rfl (fun _ _ hρ _ => r_call (args := [.agg #[.int .u8 a.r, .int .u8 a.g, .int .u8 a.b, .int .u8 a.a]]) (enters_of Try.func30 (by kernel_rfl) rfl) (hρ _ _ rfl) ((cons2 (hρ _ _ rfl) rfl)) rfl) (fun w _ => parts_ref a w ha) (by kernel_rfl) ?_
        refine G_step [2] 3 [] (by kernel_rfl) (allM (all_cons (q_run (.agg #[.int .u8 b.r, .int .u8 b.g, .int .u8 b.b, .int .u8 b.a]) rfl rfl (wv_n rfl) rfl (fun _ _ hρ hm => r_loadA ag27 sz27 (hρ _ _ rfl) (hm.at 2 rfl) rfl rfl)) all_nil)) (allM (all_cons ?_ all_nil))
        refine LOb_call (.agg #[.int .i64 b.r, .int .i64 b.g, .int .i64 b.b, .int .i64 b.a]) [] rfl (wv_n rfl) rfl rfl (fun _ _ hρ _ => r_call (args := [.agg #[.int .u8 b.r, .int .u8 b.g, .int .u8 b.b, .int .u8 b.a]]) (enters_of Try.func30 (by kernel_rfl) rfl) (hρ _ _ rfl) ((cons2 (hρ _ _ rfl) rfl)) rfl) (fun w _ => parts_ref b w hb) (by kernel_rfl) ?_
        refine G_step [] 6 [] (by kernel_rfl) (allM all_nil) (allM (all_cons ?_ all_nil))
        refine LOb_store 4 (.cells #[.int .i64 a.r, .int .i64 a.g, .int .i64 a.b, .int .i64 a.a] 61) [] rfl (wv_n rfl) rfl rfl rfl (fun _ _ hρ hm => r_store sz61 (hρ _ _ rfl) (hρ _ _ rfl) (hm.at 4 rfl) rfl rfl rfl rfl) (by kernel_rfl) ?_
        refine G_step [] 7 [] (by kernel_rfl) (allM all_nil) (allM (all_cons ?_ all_nil))
        refine LOb_store 5 (.cells #[.int .i64 b.r, .int .i64 b.g, .int .i64 b.b, .int .i64 b.a] 61) [] rfl (wv_n rfl) rfl rfl rfl (fun _ _ hρ hm => r_store sz61 (hρ _ _ rfl) (hρ _ _ rfl) (hm.at 5 rfl) rfl rfl rfl rfl) (by kernel_rfl) ?_
        exact G_lastQ [] [(2, .int .u8 p), (6, .pointer (some ⟨B3, 0, none⟩)), (7, .pointer (some ⟨B21, 0, none⟩)), (8, .pointer (some ⟨B18, 0, none⟩))] (by kernel_rfl) (allM all_nil) (end_old rfl rfl (end_old rfl rfl (end_new 4 rfl rfl (end_new 5 rfl rfl end_nil)))) (fun a w hf hm => At_intro (B21, B18) trivial hf hm (sub_cons rfl (sub_cons rfl (sub_cons rfl (sub_cons rfl sub_nil)))) (sub_cons rfl (sub_cons rfl (sub_cons rfl (sub_cons rfl (sub_cons rfl sub_nil))))))
  · skip
    obtain ⟨Bx4, Bx5⟩ := z
    show T _ _ _ [(2, .int .u8 p), (6, .pointer (some ⟨B3, 0, none⟩)), (7, .pointer (some ⟨Bx4, 0, none⟩)), (8, .pointer (some ⟨Bx5, 0, none⟩))] [(1, .blk B1 (.cells #[.int .u8 a.r, .int .u8 a.g, .int .u8 a.b, .int .u8 a.a] 27)), (2, .blk B2 (.cells #[.int .u8 b.r, .int .u8 b.g, .int .u8 b.b, .int .u8 b.a] 27)), (3, .blk B3 (.cells #[.int .u8 0, .int .u8 0, .int .u8 0, .int .u8 0] 27)), (4, .blk Bx4 (.cells #[.int .i64 a.r, .int .i64 a.g, .int .i64 a.b, .int .i64 a.a] 61)), (5, .blk Bx5 (.cells #[.int .i64 b.r, .int .i64 b.g, .int .i64 b.b, .int .i64 b.a] 61))]
    refine T_seq (T_region ?_)
    refine TL_q (.int .u8 p) (fun _ _ hρ _ => r_move (hρ _ _ rfl)) rfl rfl rfl (w_n rfl) ?_
    refine TL_q (.int .i64 p) (fun _ _ hρ _ => r_as (r_conv un5 io3 (hρ _ _ rfl)) (int_as (wrap64 (by omega) (by omega)))) rfl rfl rfl (w_n rfl) ?_
    refine TL_q (.int .i64 p) (fun _ _ hρ _ => r_assign (hρ _ _ rfl)) rfl rfl rfl (w_n rfl) ?_
    refine TL_seq ?_
    refine T_seq (T_region ?_)
    refine TL_new 6 (.cells #[.int .i64 0, .int .i64 0, .int .i64 0, .int .i64 0] 61) (fun B => .pointer (some ⟨B, 0, none⟩)) (fun _ _ _ _ => r_alloc (v := .agg #[.int .i64 0, .int .i64 0, .int .i64 0, .int .i64 0]) (by kernel_rfl) rfl) rfl rfl rfl (w_n rfl) ?_
    intro B22
    refine TL_seq ?_
    refine T_seq ?_
    refine T_seq (T_region ?_)
    refine TL_q (.int .i64 0) (fun _ _ hρ _ => r_move (hρ _ _ rfl)) rfl rfl rfl (w_n rfl) ?_
    refine TL_seq ?_
    refine T_block ?_
    refine T_rounds 5 ?_
    refine TR_succ ?_
    refine T_seq (T_region ?_)
    refine TL_q (.bool true) (fun _ _ hρ _ => r_as (r_lss (hρ _ _ rfl) (hρ _ _ rfl)) (by rfl)) rfl rfl rfl (w_n rfl) ?_
    refine TL_seq ?_
    refine T_seq ?_
    refine T_cond_t rfl ?_
    refine T_skip' ?_
    refine p_seq ?_
    refine T_seq ?_
    refine T_block ?_
    refine T_seq (T_region ?_)
    refine TL_q (.int .i64 0) (fun _ _ hρ _ => r_move (hρ _ _ rfl)) rfl rfl rfl (w_n rfl) ?_
    refine TL_q (.int .i64 0) (fun _ _ hρ _ => r_assign (hρ _ _ rfl)) rfl rfl rfl (w_n rfl) ?_
    refine TL_seq ?_
    refine T_draw (V := [(0, .int .i64 0), (1, .int .i64 0), (2, .pointer (some ⟨Bx4, 0, none⟩)), (3, .int .i64 a.r), (4, .int .i64 p), (5, .int .i64 ((255 : Int) - p)), (6, .int .i64 (a.r * ((255 : Int) - p))), (7, .int .i64 0), (8, .pointer (some ⟨Bx5, 0, none⟩)), (9, .int .i64 b.r), (10, .int .i64 p), (11, .int .i64 (b.r * p)), (12, .int .i64 (a.r * ((255 : Int) - p) + b.r * p)), (13, .int .i64 (a.r * ((255 : Int) - p) + b.r * p + 127)), (14, .int .i64 ((a.r * ((255 : Int) - p) + b.r * p + 127) / 255)), (15, .pointer (some ⟨B22, 0, none⟩))]) [0, 0, 2, 6, 0, 16, 62, 0, 128, 384, 0, 1920, 4094, 8190, 16382, 32767, 65535] [[(11, none)], [(11, none)], [(7, none), (22, some 1)], [(23, some 2)], [(9, none)], [(25, some 4)], [(24, some 3), (26, some 5)], [(11, none)], [(8, none), (28, some 7)], [(29, some 8)], [(9, none)], [(30, some 9), (31, some 10)], [(27, some 6), (32, some 11)], [(33, some 12)], [(34, some 13)], [(10, none), (21, some 0)], [(36, some 15), (35, some 14)]] 65536 mixed (by kernel_rfl) ?_
    refine G_step [0, 1, 2, 3, 4, 5, 6, 7, 8, 9, 10, 11, 12, 13, 14, 15] 16 [] (by kernel_rfl) (allM (all_cons (q_run (.int .i64 0) rfl rfl (wv_n rfl) rfl (fun _ _ hρ _ => r_move (hρ _ _ rfl))) (all_cons (q_run (.int .i64 0) rfl rfl (wv_n rfl) rfl (fun _ _ hρ _ => r_move (hρ _ _ rfl))) (all_cons (q_run (.pointer (some ⟨Bx4, 0, none⟩)) rfl rfl (wv_n rfl) rfl (fun _ _ hρ _ => r_indexAddrA (i := 0) ar61 sz3 (hρ _ _ rfl) (hρ _ _ rfl) (by decide))) (all_cons (q_run (.int .i64 a.r) rfl rfl (wv_n rfl) rfl (fun _ _ hρ hm => r_load ag3 (hρ _ _ rfl) (hm.at 4 rfl) rfl)) (all_cons (q_run (.int .i64 p) rfl rfl (wv_n rfl) rfl (fun _ _ hρ _ => r_move (hρ _ _ rfl))) (all_cons (q_run (.int .i64 ((255 : Int) - p)) rfl rfl (wv_n rfl) rfl (fun _ _ hρ _ => r_as (r_sub (hρ _ _ rfl) (hρ _ _ rfl)) (int_as (wrap64 (by omega) (by omega))))) (all_cons (q_run (.int .i64 (a.r * ((255 : Int) - p))) rfl rfl (wv_n rfl) rfl (fun _ _ hρ _ => r_as (r_mul (hρ _ _ rfl) (hρ _ _ rfl)) (int_as (wrap64 (by omega) (by omega))))) (all_cons (q_run (.int .i64 0) rfl rfl (wv_n rfl) rfl (fun _ _ hρ _ => r_move (hρ _ _ rfl))) (all_cons (q_run (.pointer (some ⟨Bx5, 0, none⟩)) rfl rfl (wv_n rfl) rfl (fun _ _ hρ _ => r_indexAddrA (i := 0) ar61 sz3 (hρ _ _ rfl) (hρ _ _ rfl) (by decide))) (all_cons (q_run (.int .i64 b.r) rfl rfl (wv_n rfl) rfl (fun _ _ hρ hm => r_load ag3 (hρ _ _ rfl) (hm.at 5 rfl) rfl)) (all_cons (q_run (.int .i64 p) rfl rfl (wv_n rfl) rfl (fun _ _ hρ _ => r_move (hρ _ _ rfl))) (all_cons (q_run (.int .i64 (b.r * p)) rfl rfl (wv_n rfl) rfl (fun _ _ hρ _ => r_as (r_mul (hρ _ _ rfl) (hρ _ _ rfl)) (int_as (wrap64 (by omega) (by omega))))) (all_cons (q_run (.int .i64 (a.r * ((255 : Int) - p) + b.r * p)) rfl rfl (wv_n rfl) rfl (fun _ _ hρ _ => r_as (r_add (hρ _ _ rfl) (hρ _ _ rfl)) (int_as (wrap64 (by omega) (by omega))))) (all_cons (q_run (.int .i64 (a.r * ((255 : Int) - p) + b.r * p + 127)) rfl rfl (wv_n rfl) rfl (fun _ _ hρ _ => r_as (r_add (hρ _ _ rfl) (hρ _ _ rfl)) (int_as (wrap64 (by omega) (by omega))))) (all_cons (q_run (.int .i64 ((a.r * ((255 : Int) - p) + b.r * p + 127) / 255)) rfl rfl (wv_n rfl) rfl (fun _ _ hρ _ => r_as (r_quo (hρ _ _ rfl) (hρ _ _ rfl) (by omega)) (int_as (quo_i64 (by omega) (by omega) (by omega))))) (all_cons (q_run (.pointer (some ⟨B22, 0, none⟩)) rfl rfl (wv_n rfl) rfl (fun _ _ hρ _ => r_indexAddrA (i := 0) ar61 sz3 (hρ _ _ rfl) (hρ _ _ rfl) (by decide))) all_nil))))))))))))))))) (allM (all_cons ?_ all_nil))
    refine LOb_store 6 (.cells #[.int .i64 ((a.r * ((255 : Int) - p) + b.r * p + 127) / 255), .int .i64 0, .int .i64 0, .int .i64 0] 61) [] rfl (wv_n rfl) rfl rfl rfl (fun _ _ hρ hm => r_store sz3 (hρ _ _ rfl) (hρ _ _ rfl) (hm.at 6 rfl) rfl rfl rfl rfl) (by kernel_rfl) ?_
    refine G_lastQ [] [(6, .pointer (some ⟨B3, 0, none⟩)), (7, .pointer (some ⟨Bx4, 0, none⟩)), (8, .pointer (some ⟨Bx5, 0, none⟩)), (9, .int .i64 p), (10, .pointer (some ⟨B22, 0, none⟩)), (18, .int .i64 0), (19, .bool true), (20, .int .i64 0), (11, .int .i64 0), (21, .int .i64 0), (22, .int .i64 0), (23, .pointer (some ⟨Bx4, 0, none⟩)), (24, .int .i64 a.r), (25, .int .i64 p), (26, .int .i64 ((255 : Int) - p)), (27, .int .i64 (a.r * ((255 : Int) - p))), (28, .int .i64 0), (29, .pointer (some ⟨Bx5, 0, none⟩)), (30, .int .i64 b.r), (31, .int .i64 p), (32, .int .i64 (b.r * p)), (33, .int .i64 (a.r * ((255 : Int) - p) + b.r * p)), (34, .int .i64 (a.r * ((255 : Int) - p) + b.r * p + 127)), (35, .int .i64 ((a.r * ((255 : Int) - p) + b.r * p + 127) / 255)), (36, .pointer (some ⟨B22, 0, none⟩))] (by kernel_rfl) (allM all_nil) (end_old rfl rfl (end_old rfl rfl (end_old rfl rfl (end_old rfl rfl (end_old rfl rfl (end_old rfl rfl (end_old rfl rfl (end_old rfl rfl (end_old rfl rfl (end_new 0 rfl rfl (end_new 1 rfl rfl (end_new 2 rfl rfl (end_new 3 rfl rfl (end_new 4 rfl rfl (end_new 5 rfl rfl (end_new 6 rfl rfl (end_new 7 rfl rfl (end_new 8 rfl rfl (end_new 9 rfl rfl (end_new 10 rfl rfl (end_new 11 rfl rfl (end_new 12 rfl rfl (end_new 13 rfl rfl (end_new 14 rfl rfl (end_new 15 rfl rfl end_nil))))))))))))))))))))))))) ?_
    refine p_blk_n ?_
    refine p_seq ?_
    refine T_region ?_
    refine TL_q (.int .i64 1) (fun _ _ hρ _ => r_as (r_add (hρ _ _ rfl) (hρ _ _ rfl)) (by rfl)) rfl rfl rfl (w_n rfl) ?_
    refine TL_q (.int .i64 1) (fun _ _ hρ _ => r_move (hρ _ _ rfl)) rfl rfl rfl (w_n rfl) ?_
    refine TL_nil ?_
    refine p_round ?_
    refine TR_succ ?_
    refine T_seq (T_region ?_)
    refine TL_q (.bool true) (fun _ _ hρ _ => r_as (r_lss (hρ _ _ rfl) (hρ _ _ rfl)) (by rfl)) rfl rfl rfl (w_n rfl) ?_
    refine TL_seq ?_
    refine T_seq ?_
    refine T_cond_t rfl ?_
    refine T_skip' ?_
    refine p_seq ?_
    refine T_seq ?_
    refine T_block ?_
    refine T_seq (T_region ?_)
    refine TL_q (.int .i64 1) (fun _ _ hρ _ => r_move (hρ _ _ rfl)) rfl rfl rfl (w_n rfl) ?_
    refine TL_q (.int .i64 1) (fun _ _ hρ _ => r_assign (hρ _ _ rfl)) rfl rfl rfl (w_n rfl) ?_
    refine TL_seq ?_
    refine T_draw (V := [(0, .int .i64 1), (1, .int .i64 1), (2, .pointer (some ⟨Bx4, 1, none⟩)), (3, .int .i64 a.g), (4, .int .i64 p), (5, .int .i64 ((255 : Int) - p)), (6, .int .i64 (a.g * ((255 : Int) - p))), (7, .int .i64 1), (8, .pointer (some ⟨Bx5, 1, none⟩)), (9, .int .i64 b.g), (10, .int .i64 p), (11, .int .i64 (b.g * p)), (12, .int .i64 (a.g * ((255 : Int) - p) + b.g * p)), (13, .int .i64 (a.g * ((255 : Int) - p) + b.g * p + 127)), (14, .int .i64 ((a.g * ((255 : Int) - p) + b.g * p + 127) / 255)), (15, .pointer (some ⟨B22, 1, none⟩))]) [0, 0, 2, 6, 0, 16, 62, 0, 128, 384, 0, 1920, 4094, 8190, 16382, 32767, 65535] [[(11, none)], [(11, none)], [(7, none), (22, some 1)], [(23, some 2)], [(9, none)], [(25, some 4)], [(24, some 3), (26, some 5)], [(11, none)], [(8, none), (28, some 7)], [(29, some 8)], [(9, none)], [(30, some 9), (31, some 10)], [(27, some 6), (32, some 11)], [(33, some 12)], [(34, some 13)], [(10, none), (21, some 0)], [(36, some 15), (35, some 14)]] 65536 mixed (by kernel_rfl) ?_
    refine G_step [0, 1, 2, 3, 4, 5, 6, 7, 8, 9, 10, 11, 12, 13, 14, 15] 16 [] (by kernel_rfl) (allM (all_cons (q_run (.int .i64 1) rfl rfl (wv_n rfl) rfl (fun _ _ hρ _ => r_move (hρ _ _ rfl))) (all_cons (q_run (.int .i64 1) rfl rfl (wv_n rfl) rfl (fun _ _ hρ _ => r_move (hρ _ _ rfl))) (all_cons (q_run (.pointer (some ⟨Bx4, 1, none⟩)) rfl rfl (wv_n rfl) rfl (fun _ _ hρ _ => r_indexAddrA (i := 1) ar61 sz3 (hρ _ _ rfl) (hρ _ _ rfl) (by decide))) (all_cons (q_run (.int .i64 a.g) rfl rfl (wv_n rfl) rfl (fun _ _ hρ hm => r_load ag3 (hρ _ _ rfl) (hm.at 4 rfl) rfl)) (all_cons (q_run (.int .i64 p) rfl rfl (wv_n rfl) rfl (fun _ _ hρ _ => r_move (hρ _ _ rfl))) (all_cons (q_run (.int .i64 ((255 : Int) - p)) rfl rfl (wv_n rfl) rfl (fun _ _ hρ _ => r_as (r_sub (hρ _ _ rfl) (hρ _ _ rfl)) (int_as (wrap64 (by omega) (by omega))))) (all_cons (q_run (.int .i64 (a.g * ((255 : Int) - p))) rfl rfl (wv_n rfl) rfl (fun _ _ hρ _ => r_as (r_mul (hρ _ _ rfl) (hρ _ _ rfl)) (int_as (wrap64 (by omega) (by omega))))) (all_cons (q_run (.int .i64 1) rfl rfl (wv_n rfl) rfl (fun _ _ hρ _ => r_move (hρ _ _ rfl))) (all_cons (q_run (.pointer (some ⟨Bx5, 1, none⟩)) rfl rfl (wv_n rfl) rfl (fun _ _ hρ _ => r_indexAddrA (i := 1) ar61 sz3 (hρ _ _ rfl) (hρ _ _ rfl) (by decide))) (all_cons (q_run (.int .i64 b.g) rfl rfl (wv_n rfl) rfl (fun _ _ hρ hm => r_load ag3 (hρ _ _ rfl) (hm.at 5 rfl) rfl)) (all_cons (q_run (.int .i64 p) rfl rfl (wv_n rfl) rfl (fun _ _ hρ _ => r_move (hρ _ _ rfl))) (all_cons (q_run (.int .i64 (b.g * p)) rfl rfl (wv_n rfl) rfl (fun _ _ hρ _ => r_as (r_mul (hρ _ _ rfl) (hρ _ _ rfl)) (int_as (wrap64 (by omega) (by omega))))) (all_cons (q_run (.int .i64 (a.g * ((255 : Int) - p) + b.g * p)) rfl rfl (wv_n rfl) rfl (fun _ _ hρ _ => r_as (r_add (hρ _ _ rfl) (hρ _ _ rfl)) (int_as (wrap64 (by omega) (by omega))))) (all_cons (q_run (.int .i64 (a.g * ((255 : Int) - p) + b.g * p + 127)) rfl rfl (wv_n rfl) rfl (fun _ _ hρ _ => r_as (r_add (hρ _ _ rfl) (hρ _ _ rfl)) (int_as (wrap64 (by omega) (by omega))))) (all_cons (q_run (.int .i64 ((a.g * ((255 : Int) - p) + b.g * p + 127) / 255)) rfl rfl (wv_n rfl) rfl (fun _ _ hρ _ => r_as (r_quo (hρ _ _ rfl) (hρ _ _ rfl) (by omega)) (int_as (quo_i64 (by omega) (by omega) (by omega))))) (all_cons (q_run (.pointer (some ⟨B22, 1, none⟩)) rfl rfl (wv_n rfl) rfl (fun _ _ hρ _ => r_indexAddrA (i := 1) ar61 sz3 (hρ _ _ rfl) (hρ _ _ rfl) (by decide))) all_nil))))))))))))))))) (allM (all_cons ?_ all_nil))
    refine LOb_store 6 (.cells #[.int .i64 ((a.r * ((255 : Int) - p) + b.r * p + 127) / 255), .int .i64 ((a.g * ((255 : Int) - p) + b.g * p + 127) / 255), .int .i64 0, .int .i64 0] 61) [] rfl (wv_n rfl) rfl rfl rfl (fun _ _ hρ hm => r_store sz3 (hρ _ _ rfl) (hρ _ _ rfl) (hm.at 6 rfl) rfl rfl rfl rfl) (by kernel_rfl) ?_
    refine G_lastQ [] [(6, .pointer (some ⟨B3, 0, none⟩)), (7, .pointer (some ⟨Bx4, 0, none⟩)), (8, .pointer (some ⟨Bx5, 0, none⟩)), (9, .int .i64 p), (10, .pointer (some ⟨B22, 0, none⟩)), (37, .int .i64 1), (18, .int .i64 1), (19, .bool true), (20, .int .i64 1), (11, .int .i64 1), (21, .int .i64 1), (22, .int .i64 1), (23, .pointer (some ⟨Bx4, 1, none⟩)), (24, .int .i64 a.g), (25, .int .i64 p), (26, .int .i64 ((255 : Int) - p)), (27, .int .i64 (a.g * ((255 : Int) - p))), (28, .int .i64 1), (29, .pointer (some ⟨Bx5, 1, none⟩)), (30, .int .i64 b.g), (31, .int .i64 p), (32, .int .i64 (b.g * p)), (33, .int .i64 (a.g * ((255 : Int) - p) + b.g * p)), (34, .int .i64 (a.g * ((255 : Int) - p) + b.g * p + 127)), (35, .int .i64 ((a.g * ((255 : Int) - p) + b.g * p + 127) / 255)), (36, .pointer (some ⟨B22, 1, none⟩))] (by kernel_rfl) (allM all_nil) (end_old rfl rfl (end_old rfl rfl (end_old rfl rfl (end_old rfl rfl (end_old rfl rfl (end_old rfl rfl (end_old rfl rfl (end_old rfl rfl (end_old rfl rfl (end_old rfl rfl (end_new 0 rfl rfl (end_new 1 rfl rfl (end_new 2 rfl rfl (end_new 3 rfl rfl (end_new 4 rfl rfl (end_new 5 rfl rfl (end_new 6 rfl rfl (end_new 7 rfl rfl (end_new 8 rfl rfl (end_new 9 rfl rfl (end_new 10 rfl rfl (end_new 11 rfl rfl (end_new 12 rfl rfl (end_new 13 rfl rfl (end_new 14 rfl rfl (end_new 15 rfl rfl end_nil)))))))))))))))))))))))))) ?_
    refine p_blk_n ?_
    refine p_seq ?_
    refine T_region ?_
    refine TL_q (.int .i64 2) (fun _ _ hρ _ => r_as (r_add (hρ _ _ rfl) (hρ _ _ rfl)) (by rfl)) rfl rfl rfl (w_n rfl) ?_
    refine TL_q (.int .i64 2) (fun _ _ hρ _ => r_move (hρ _ _ rfl)) rfl rfl rfl (w_n rfl) ?_
    refine TL_nil ?_
    refine p_round ?_
    refine TR_succ ?_
    refine T_seq (T_region ?_)
    refine TL_q (.bool true) (fun _ _ hρ _ => r_as (r_lss (hρ _ _ rfl) (hρ _ _ rfl)) (by rfl)) rfl rfl rfl (w_n rfl) ?_
    refine TL_seq ?_
    refine T_seq ?_
    refine T_cond_t rfl ?_
    refine T_skip' ?_
    refine p_seq ?_
    refine T_seq ?_
    refine T_block ?_
    refine T_seq (T_region ?_)
    refine TL_q (.int .i64 2) (fun _ _ hρ _ => r_move (hρ _ _ rfl)) rfl rfl rfl (w_n rfl) ?_
    refine TL_q (.int .i64 2) (fun _ _ hρ _ => r_assign (hρ _ _ rfl)) rfl rfl rfl (w_n rfl) ?_
    refine TL_seq ?_
    refine T_draw (V := [(0, .int .i64 2), (1, .int .i64 2), (2, .pointer (some ⟨Bx4, 2, none⟩)), (3, .int .i64 a.b), (4, .int .i64 p), (5, .int .i64 ((255 : Int) - p)), (6, .int .i64 (a.b * ((255 : Int) - p))), (7, .int .i64 2), (8, .pointer (some ⟨Bx5, 2, none⟩)), (9, .int .i64 b.b), (10, .int .i64 p), (11, .int .i64 (b.b * p)), (12, .int .i64 (a.b * ((255 : Int) - p) + b.b * p)), (13, .int .i64 (a.b * ((255 : Int) - p) + b.b * p + 127)), (14, .int .i64 ((a.b * ((255 : Int) - p) + b.b * p + 127) / 255)), (15, .pointer (some ⟨B22, 2, none⟩))]) [0, 0, 2, 6, 0, 16, 62, 0, 128, 384, 0, 1920, 4094, 8190, 16382, 32767, 65535] [[(11, none)], [(11, none)], [(7, none), (22, some 1)], [(23, some 2)], [(9, none)], [(25, some 4)], [(24, some 3), (26, some 5)], [(11, none)], [(8, none), (28, some 7)], [(29, some 8)], [(9, none)], [(30, some 9), (31, some 10)], [(27, some 6), (32, some 11)], [(33, some 12)], [(34, some 13)], [(10, none), (21, some 0)], [(36, some 15), (35, some 14)]] 65536 mixed (by kernel_rfl) ?_
    refine G_step [0, 1, 2, 3, 4, 5, 6, 7, 8, 9, 10, 11, 12, 13, 14, 15] 16 [] (by kernel_rfl) (allM (all_cons (q_run (.int .i64 2) rfl rfl (wv_n rfl) rfl (fun _ _ hρ _ => r_move (hρ _ _ rfl))) (all_cons (q_run (.int .i64 2) rfl rfl (wv_n rfl) rfl (fun _ _ hρ _ => r_move (hρ _ _ rfl))) (all_cons (q_run (.pointer (some ⟨Bx4, 2, none⟩)) rfl rfl (wv_n rfl) rfl (fun _ _ hρ _ => r_indexAddrA (i := 2) ar61 sz3 (hρ _ _ rfl) (hρ _ _ rfl) (by decide))) (all_cons (q_run (.int .i64 a.b) rfl rfl (wv_n rfl) rfl (fun _ _ hρ hm => r_load ag3 (hρ _ _ rfl) (hm.at 4 rfl) rfl)) (all_cons (q_run (.int .i64 p) rfl rfl (wv_n rfl) rfl (fun _ _ hρ _ => r_move (hρ _ _ rfl))) (all_cons (q_run (.int .i64 ((255 : Int) - p)) rfl rfl (wv_n rfl) rfl (fun _ _ hρ _ => r_as (r_sub (hρ _ _ rfl) (hρ _ _ rfl)) (int_as (wrap64 (by omega) (by omega))))) (all_cons (q_run (.int .i64 (a.b * ((255 : Int) - p))) rfl rfl (wv_n rfl) rfl (fun _ _ hρ _ => r_as (r_mul (hρ _ _ rfl) (hρ _ _ rfl)) (int_as (wrap64 (by omega) (by omega))))) (all_cons (q_run (.int .i64 2) rfl rfl (wv_n rfl) rfl (fun _ _ hρ _ => r_move (hρ _ _ rfl))) (all_cons (q_run (.pointer (some ⟨Bx5, 2, none⟩)) rfl rfl (wv_n rfl) rfl (fun _ _ hρ _ => r_indexAddrA (i := 2) ar61 sz3 (hρ _ _ rfl) (hρ _ _ rfl) (by decide))) (all_cons (q_run (.int .i64 b.b) rfl rfl (wv_n rfl) rfl (fun _ _ hρ hm => r_load ag3 (hρ _ _ rfl) (hm.at 5 rfl) rfl)) (all_cons (q_run (.int .i64 p) rfl rfl (wv_n rfl) rfl (fun _ _ hρ _ => r_move (hρ _ _ rfl))) (all_cons (q_run (.int .i64 (b.b * p)) rfl rfl (wv_n rfl) rfl (fun _ _ hρ _ => r_as (r_mul (hρ _ _ rfl) (hρ _ _ rfl)) (int_as (wrap64 (by omega) (by omega))))) (all_cons (q_run (.int .i64 (a.b * ((255 : Int) - p) + b.b * p)) rfl rfl (wv_n rfl) rfl (fun _ _ hρ _ => r_as (r_add (hρ _ _ rfl) (hρ _ _ rfl)) (int_as (wrap64 (by omega) (by omega))))) (all_cons (q_run (.int .i64 (a.b * ((255 : Int) - p) + b.b * p + 127)) rfl rfl (wv_n rfl) rfl (fun _ _ hρ _ => r_as (r_add (hρ _ _ rfl) (hρ _ _ rfl)) (int_as (wrap64 (by omega) (by omega))))) (all_cons (q_run (.int .i64 ((a.b * ((255 : Int) - p) + b.b * p + 127) / 255)) rfl rfl (wv_n rfl) rfl (fun _ _ hρ _ => r_as (r_quo (hρ _ _ rfl) (hρ _ _ rfl) (by omega)) (int_as (quo_i64 (by omega) (by omega) (by omega))))) (all_cons (q_run (.pointer (some ⟨B22, 2, none⟩)) rfl rfl (wv_n rfl) rfl (fun _ _ hρ _ => r_indexAddrA (i := 2) ar61 sz3 (hρ _ _ rfl) (hρ _ _ rfl) (by decide))) all_nil))))))))))))))))) (allM (all_cons ?_ all_nil))
    refine LOb_store 6 (.cells #[.int .i64 ((a.r * ((255 : Int) - p) + b.r * p + 127) / 255), .int .i64 ((a.g * ((255 : Int) - p) + b.g * p + 127) / 255), .int .i64 ((a.b * ((255 : Int) - p) + b.b * p + 127) / 255), .int .i64 0] 61) [] rfl (wv_n rfl) rfl rfl rfl (fun _ _ hρ hm => r_store sz3 (hρ _ _ rfl) (hρ _ _ rfl) (hm.at 6 rfl) rfl rfl rfl rfl) (by kernel_rfl) ?_
    refine G_lastQ [] [(6, .pointer (some ⟨B3, 0, none⟩)), (7, .pointer (some ⟨Bx4, 0, none⟩)), (8, .pointer (some ⟨Bx5, 0, none⟩)), (9, .int .i64 p), (10, .pointer (some ⟨B22, 0, none⟩)), (37, .int .i64 2), (18, .int .i64 2), (19, .bool true), (20, .int .i64 2), (11, .int .i64 2), (21, .int .i64 2), (22, .int .i64 2), (23, .pointer (some ⟨Bx4, 2, none⟩)), (24, .int .i64 a.b), (25, .int .i64 p), (26, .int .i64 ((255 : Int) - p)), (27, .int .i64 (a.b * ((255 : Int) - p))), (28, .int .i64 2), (29, .pointer (some ⟨Bx5, 2, none⟩)), (30, .int .i64 b.b), (31, .int .i64 p), (32, .int .i64 (b.b * p)), (33, .int .i64 (a.b * ((255 : Int) - p) + b.b * p)), (34, .int .i64 (a.b * ((255 : Int) - p) + b.b * p + 127)), (35, .int .i64 ((a.b * ((255 : Int) - p) + b.b * p + 127) / 255)), (36, .pointer (some ⟨B22, 2, none⟩))] (by kernel_rfl) (allM all_nil) (end_old rfl rfl (end_old rfl rfl (end_old rfl rfl (end_old rfl rfl (end_old rfl rfl (end_old rfl rfl (end_old rfl rfl (end_old rfl rfl (end_old rfl rfl (end_old rfl rfl (end_new 0 rfl rfl (end_new 1 rfl rfl (end_new 2 rfl rfl (end_new 3 rfl rfl (end_new 4 rfl rfl (end_new 5 rfl rfl (end_new 6 rfl rfl (end_new 7 rfl rfl (end_new 8 rfl rfl (end_new 9 rfl rfl (end_new 10 rfl rfl (end_new 11 rfl rfl (end_new 12 rfl rfl (end_new 13 rfl rfl (end_new 14 rfl rfl (end_new 15 rfl rfl end_nil)))))))))))))))))))))))))) ?_
    refine p_blk_n ?_
    refine p_seq ?_
    refine T_region ?_
    refine TL_q (.int .i64 3) (fun _ _ hρ _ => r_as (r_add (hρ _ _ rfl) (hρ _ _ rfl)) (by rfl)) rfl rfl rfl (w_n rfl) ?_
    refine TL_q (.int .i64 3) (fun _ _ hρ _ => r_move (hρ _ _ rfl)) rfl rfl rfl (w_n rfl) ?_
    refine TL_nil ?_
    refine p_round ?_
    refine TR_succ ?_
    refine T_seq (T_region ?_)
    refine TL_q (.bool true) (fun _ _ hρ _ => r_as (r_lss (hρ _ _ rfl) (hρ _ _ rfl)) (by rfl)) rfl rfl rfl (w_n rfl) ?_
    refine TL_seq ?_
    refine T_seq ?_
    refine T_cond_t rfl ?_
    refine T_skip' ?_
    refine p_seq ?_
    refine T_seq ?_
    refine T_block ?_
    refine T_seq (T_region ?_)
    refine TL_q (.int .i64 3) (fun _ _ hρ _ => r_move (hρ _ _ rfl)) rfl rfl rfl (w_n rfl) ?_
    refine TL_q (.int .i64 3) (fun _ _ hρ _ => r_assign (hρ _ _ rfl)) rfl rfl rfl (w_n rfl) ?_
    refine TL_seq ?_
    refine T_draw (V := [(0, .int .i64 3), (1, .int .i64 3), (2, .pointer (some ⟨Bx4, 3, none⟩)), (3, .int .i64 a.a), (4, .int .i64 p), (5, .int .i64 ((255 : Int) - p)), (6, .int .i64 (a.a * ((255 : Int) - p))), (7, .int .i64 3), (8, .pointer (some ⟨Bx5, 3, none⟩)), (9, .int .i64 b.a), (10, .int .i64 p), (11, .int .i64 (b.a * p)), (12, .int .i64 (a.a * ((255 : Int) - p) + b.a * p)), (13, .int .i64 (a.a * ((255 : Int) - p) + b.a * p + 127)), (14, .int .i64 ((a.a * ((255 : Int) - p) + b.a * p + 127) / 255)), (15, .pointer (some ⟨B22, 3, none⟩))]) [0, 0, 2, 6, 0, 16, 62, 0, 128, 384, 0, 1920, 4094, 8190, 16382, 32767, 65535] [[(11, none)], [(11, none)], [(7, none), (22, some 1)], [(23, some 2)], [(9, none)], [(25, some 4)], [(24, some 3), (26, some 5)], [(11, none)], [(8, none), (28, some 7)], [(29, some 8)], [(9, none)], [(30, some 9), (31, some 10)], [(27, some 6), (32, some 11)], [(33, some 12)], [(34, some 13)], [(10, none), (21, some 0)], [(36, some 15), (35, some 14)]] 65536 mixed (by kernel_rfl) ?_
    refine G_step [0, 1, 2, 3, 4, 5, 6, 7, 8, 9, 10, 11, 12, 13, 14, 15] 16 [] (by kernel_rfl) (allM (all_cons (q_run (.int .i64 3) rfl rfl (wv_n rfl) rfl (fun _ _ hρ _ => r_move (hρ _ _ rfl))) (all_cons (q_run (.int .i64 3) rfl rfl (wv_n rfl) rfl (fun _ _ hρ _ => r_move (hρ _ _ rfl))) (all_cons (q_run (.pointer (some ⟨Bx4, 3, none⟩)) rfl rfl (wv_n rfl) rfl (fun _ _ hρ _ => r_indexAddrA (i := 3) ar61 sz3 (hρ _ _ rfl) (hρ _ _ rfl) (by decide))) (all_cons (q_run (.int .i64 a.a) rfl rfl (wv_n rfl) rfl (fun _ _ hρ hm => r_load ag3 (hρ _ _ rfl) (hm.at 4 rfl) rfl)) (all_cons (q_run (.int .i64 p) rfl rfl (wv_n rfl) rfl (fun _ _ hρ _ => r_move (hρ _ _ rfl))) (all_cons (q_run (.int .i64 ((255 : Int) - p)) rfl rfl (wv_n rfl) rfl (fun _ _ hρ _ => r_as (r_sub (hρ _ _ rfl) (hρ _ _ rfl)) (int_as (wrap64 (by omega) (by omega))))) (all_cons (q_run (.int .i64 (a.a * ((255 : Int) - p))) rfl rfl (wv_n rfl) rfl (fun _ _ hρ _ => r_as (r_mul (hρ _ _ rfl) (hρ _ _ rfl)) (int_as (wrap64 (by omega) (by omega))))) (all_cons (q_run (.int .i64 3) rfl rfl (wv_n rfl) rfl (fun _ _ hρ _ => r_move (hρ _ _ rfl))) (all_cons (q_run (.pointer (some ⟨Bx5, 3, none⟩)) rfl rfl (wv_n rfl) rfl (fun _ _ hρ _ => r_indexAddrA (i := 3) ar61 sz3 (hρ _ _ rfl) (hρ _ _ rfl) (by decide))) (all_cons (q_run (.int .i64 b.a) rfl rfl (wv_n rfl) rfl (fun _ _ hρ hm => r_load ag3 (hρ _ _ rfl) (hm.at 5 rfl) rfl)) (all_cons (q_run (.int .i64 p) rfl rfl (wv_n rfl) rfl (fun _ _ hρ _ => r_move (hρ _ _ rfl))) (all_cons (q_run (.int .i64 (b.a * p)) rfl rfl (wv_n rfl) rfl (fun _ _ hρ _ => r_as (r_mul (hρ _ _ rfl) (hρ _ _ rfl)) (int_as (wrap64 (by omega) (by omega))))) (all_cons (q_run (.int .i64 (a.a * ((255 : Int) - p) + b.a * p)) rfl rfl (wv_n rfl) rfl (fun _ _ hρ _ => r_as (r_add (hρ _ _ rfl) (hρ _ _ rfl)) (int_as (wrap64 (by omega) (by omega))))) (all_cons (q_run (.int .i64 (a.a * ((255 : Int) - p) + b.a * p + 127)) rfl rfl (wv_n rfl) rfl (fun _ _ hρ _ => r_as (r_add (hρ _ _ rfl) (hρ _ _ rfl)) (int_as (wrap64 (by omega) (by omega))))) (all_cons (q_run (.int .i64 ((a.a * ((255 : Int) - p) + b.a * p + 127) / 255)) rfl rfl (wv_n rfl) rfl (fun _ _ hρ _ => r_as (r_quo (hρ _ _ rfl) (hρ _ _ rfl) (by omega)) (int_as (quo_i64 (by omega) (by omega) (by omega))))) (all_cons (q_run (.pointer (some ⟨B22, 3, none⟩)) rfl rfl (wv_n rfl) rfl (fun _ _ hρ _ => r_indexAddrA (i := 3) ar61 sz3 (hρ _ _ rfl) (hρ _ _ rfl) (by decide))) all_nil))))))))))))))))) (allM (all_cons ?_ all_nil))
    refine LOb_store 6 (.cells #[.int .i64 ((a.r * ((255 : Int) - p) + b.r * p + 127) / 255), .int .i64 ((a.g * ((255 : Int) - p) + b.g * p + 127) / 255), .int .i64 ((a.b * ((255 : Int) - p) + b.b * p + 127) / 255), .int .i64 ((a.a * ((255 : Int) - p) + b.a * p + 127) / 255)] 61) [] rfl (wv_n rfl) rfl rfl rfl (fun _ _ hρ hm => r_store sz3 (hρ _ _ rfl) (hρ _ _ rfl) (hm.at 6 rfl) rfl rfl rfl rfl) (by kernel_rfl) ?_
    refine G_lastQ [] [(6, .pointer (some ⟨B3, 0, none⟩)), (7, .pointer (some ⟨Bx4, 0, none⟩)), (8, .pointer (some ⟨Bx5, 0, none⟩)), (9, .int .i64 p), (10, .pointer (some ⟨B22, 0, none⟩)), (37, .int .i64 3), (18, .int .i64 3), (19, .bool true), (20, .int .i64 3), (11, .int .i64 3), (21, .int .i64 3), (22, .int .i64 3), (23, .pointer (some ⟨Bx4, 3, none⟩)), (24, .int .i64 a.a), (25, .int .i64 p), (26, .int .i64 ((255 : Int) - p)), (27, .int .i64 (a.a * ((255 : Int) - p))), (28, .int .i64 3), (29, .pointer (some ⟨Bx5, 3, none⟩)), (30, .int .i64 b.a), (31, .int .i64 p), (32, .int .i64 (b.a * p)), (33, .int .i64 (a.a * ((255 : Int) - p) + b.a * p)), (34, .int .i64 (a.a * ((255 : Int) - p) + b.a * p + 127)), (35, .int .i64 ((a.a * ((255 : Int) - p) + b.a * p + 127) / 255)), (36, .pointer (some ⟨B22, 3, none⟩))] (by kernel_rfl) (allM all_nil) (end_old rfl rfl (end_old rfl rfl (end_old rfl rfl (end_old rfl rfl (end_old rfl rfl (end_old rfl rfl (end_old rfl rfl (end_old rfl rfl (end_old rfl rfl (end_old rfl rfl (end_new 0 rfl rfl (end_new 1 rfl rfl (end_new 2 rfl rfl (end_new 3 rfl rfl (end_new 4 rfl rfl (end_new 5 rfl rfl (end_new 6 rfl rfl (end_new 7 rfl rfl (end_new 8 rfl rfl (end_new 9 rfl rfl (end_new 10 rfl rfl (end_new 11 rfl rfl (end_new 12 rfl rfl (end_new 13 rfl rfl (end_new 14 rfl rfl (end_new 15 rfl rfl end_nil)))))))))))))))))))))))))) ?_
    refine p_blk_n ?_
    refine p_seq ?_
    refine T_region ?_
    refine TL_q (.int .i64 4) (fun _ _ hρ _ => r_as (r_add (hρ _ _ rfl) (hρ _ _ rfl)) (by rfl)) rfl rfl rfl (w_n rfl) ?_
    refine TL_q (.int .i64 4) (fun _ _ hρ _ => r_move (hρ _ _ rfl)) rfl rfl rfl (w_n rfl) ?_
    refine TL_nil ?_
    refine p_round ?_
    refine TR_succ ?_
    refine T_seq (T_region ?_)
    refine TL_q (.bool false) (fun _ _ hρ _ => r_as (r_lss (hρ _ _ rfl) (hρ _ _ rfl)) (by rfl)) rfl rfl rfl (w_n rfl) ?_
    refine TL_seq ?_
    refine T_seq ?_
    refine T_cond_f rfl ?_
    refine T_exit' ?_
    refine p_then_x ?_
    refine p_then_x ?_
    refine p_blk_x ?_
    refine p_seq ?_
    refine T_seq (T_region ?_)
    refine TL_q (.agg #[.int .i64 ((a.r * ((255 : Int) - p) + b.r * p + 127) / 255), .int .i64 ((a.g * ((255 : Int) - p) + b.g * p + 127) / 255), .int .i64 ((a.b * ((255 : Int) - p) + b.b * p + 127) / 255), .int .i64 ((a.a * ((255 : Int) - p) + b.a * p + 127) / 255)]) (fun _ _ hρ hm => r_loadA ag61 sz61 (hρ _ _ rfl) (hm.at 6 rfl) rfl rfl) rfl rfl rfl (w_n rfl) ?_
    refine TL_call (.agg #[.int .u8 ((a.r * ((255 : Int) - p) + b.r * p + 127) / 255), .int .u8 ((a.g * ((255 : Int) - p) + b.g * p + 127) / 255), .int .u8 ((a.b * ((255 : Int) - p) + b.b * p + 127) / 255), .int .u8 ((a.a * ((255 : Int) - p) + b.a * p + 127) / 255)]) (fun _ _ hρ _ => r_call (args := [.agg #[.int .i64 ((a.r * ((255 : Int) - p) + b.r * p + 127) / 255), .int .i64 ((a.g * ((255 : Int) - p) + b.g * p + 127) / 255), .int .i64 ((a.b * ((255 : Int) - p) + b.b * p + 127) / 255), .int .i64 ((a.a * ((255 : Int) - p) + b.a * p + 127) / 255)]]) (enters_of Try.func34 (by kernel_rfl) rfl) (hρ _ _ rfl) ((cons2 (hρ _ _ rfl) rfl)) rfl) (fun w _ => of_ref (⟨(a.r * ((255 : Int) - p) + b.r * p + 127) / 255, (a.g * ((255 : Int) - p) + b.g * p + 127) / 255, (a.b * ((255 : Int) - p) + b.b * p + 127) / 255, (a.a * ((255 : Int) - p) + b.a * p + 127) / 255⟩ : C4) w (mixC_ok ha hb hp : (mixC a b p).ok)) rfl rfl rfl (w_n rfl) ?_
    refine TL_store 3 (.cells #[.int .u8 ((a.r * ((255 : Int) - p) + b.r * p + 127) / 255), .int .u8 ((a.g * ((255 : Int) - p) + b.g * p + 127) / 255), .int .u8 ((a.b * ((255 : Int) - p) + b.b * p + 127) / 255), .int .u8 ((a.a * ((255 : Int) - p) + b.a * p + 127) / 255)] 27) rfl (fun _ _ hρ hm => r_store sz27 (hρ _ _ rfl) (hρ _ _ rfl) (hm.at 3 rfl) rfl rfl rfl rfl) rfl rfl (w_n rfl) ?_
    refine TL_seq ?_
    refine T_ret' ?_
    refine ret_of rfl (.agg #[.int .u8 ((a.r * ((255 : Int) - p) + b.r * p + 127) / 255), .int .u8 ((a.g * ((255 : Int) - p) + b.g * p + 127) / 255), .int .u8 ((a.b * ((255 : Int) - p) + b.b * p + 127) / 255), .int .u8 ((a.a * ((255 : Int) - p) + b.a * p + 127) / 255)]) (fun tmps w hk hm => res1 rfl (res_cell (hk 6 _ rfl) (run_loadVar_agg ag27 sz27 (hm.at 3 rfl) (Nat.le_of_ble_eq_true rfl) rfl))) (fun w hm => ?_)
    exact ⟨rfl, hm.ext⟩

theorem far_ref (a b : C4) (w : World) (ha : a.ok) (hb : b.ok) : Calls Try.prog 25 #[a.v, b.v] w fun e w' => e = .returned (.int .i64 (farC a b)) ∧ Below w.heap.size w w' := by
  obtain ⟨⟨a1, a2⟩, ⟨a3, a4⟩, ⟨a5, a6⟩, ⟨a7, a8⟩⟩ := id ha
  obtain ⟨⟨b1, b2⟩, ⟨b3, b4⟩, ⟨b5, b6⟩, ⟨b7, b8⟩⟩ := id hb
  refine calls_of_T (l := [.agg #[.int .u8 a.r, .int .u8 a.g, .int .u8 a.b, .int .u8 a.a], .agg #[.int .u8 b.r, .int .u8 b.g, .int .u8 b.b, .int .u8 b.a]]) 43 Try.func25 rfl rfl rfl ?_
  show T _ _ _ [(0, .agg #[.int .u8 a.r, .int .u8 a.g, .int .u8 a.b, .int .u8 a.a]), (1, .agg #[.int .u8 b.r, .int .u8 b.g, .int .u8 b.b, .int .u8 b.a])] []
  refine T_seq (T_region ?_)
  refine TL_new 1 (.cells #[.int .u8 a.r, .int .u8 a.g, .int .u8 a.b, .int .u8 a.a] 27) (fun B => .pointer (some ⟨B, 0, none⟩)) (fun _ _ hρ _ => r_box (hρ _ _ rfl) rfl) rfl rfl rfl (w_n rfl) ?_
  intro B1
  refine TL_new 2 (.cells #[.int .u8 b.r, .int .u8 b.g, .int .u8 b.b, .int .u8 b.a] 27) (fun B => .pointer (some ⟨B, 0, none⟩)) (fun _ _ hρ _ => r_box (hρ _ _ rfl) rfl) rfl rfl rfl (w_n rfl) ?_
  intro B2
  refine TL_q (.int .i64 0) (fun _ _ hρ _ => r_assign (hρ _ _ rfl)) rfl rfl rfl (w_n rfl) ?_
  refine TL_seq ?_
  refine T_join (ι := Nat × Nat) (fun _ => True) (fun (z : Nat × Nat) => match z with | (Bx4, Bx5) => [(4, .int .i64 0), (5, .pointer (some ⟨Bx4, 0, none⟩)), (6, .pointer (some ⟨Bx5, 0, none⟩))]) (fun (z : Nat × Nat) => match z with | (Bx4, Bx5) => [(1, .blk B1 (.cells #[.int .u8 a.r, .int .u8 a.g, .int .u8 a.b, .int .u8 a.a] 27)), (2, .blk B2 (.cells #[.int .u8 b.r, .int .u8 b.g, .int .u8 b.b, .int .u8 b.a] 27)), (3, .blk Bx4 (.cells #[.int .i64 a.r, .int .i64 a.g, .int .i64 a.b, .int .i64 a.a] 61)), (4, .blk Bx5 (.cells #[.int .i64 b.r, .int .i64 b.g, .int .i64 b.b, .int .i64 b.a] 61))]) (T_draw (V := [(0, .agg #[.int .u8 a.r, .int .u8 a.g, .int .u8 a.b, .int .u8 a.a]), (2, .agg #[.int .u8 b.r, .int .u8 b.g, .int .u8 b.b, .int .u8 b.a])]) [0, 1, 0, 7, 0, 0, 63, 127] [[(2, none)], [(9, some 0)], [(3, none)], [(11, some 2)], [], [], [(5, some 4), (10, some 1)], [(6, some 5), (12, some 3)]] 250 mixed (by kernel_rfl) ?_) (fun z _ => ?_)
  · skip
    refine G_step [0, 2] 1 [4, 5] (by kernel_rfl) (allM (all_cons (q_run (.agg #[.int .u8 a.r, .int .u8 a.g, .int .u8 a.b, .int .u8 a.a]) rfl rfl (wv_n rfl) rfl (fun _ _ hρ hm => r_loadA ag27 sz27 (hρ _ _ rfl) (hm.at 1 rfl) rfl rfl)) (all_cons (q_run (.agg #[.int .u8 b.r, .int .u8 b.g, .int .u8 b.b, .int .u8 b.a]) rfl rfl (wv_n rfl) rfl (fun _ _ hρ hm => r_loadA ag27 sz27 (hρ _ _ rfl) (hm.at 2 rfl) rfl rfl)) all_nil))) (allM (all_cons ?_ (all_cons ?_ (all_cons ?_ all_nil))))
    · skip
      refine LOb_call (.agg #[.int .i64 a.r, .int .i64 a.g, .int .i64 a.b, .int .i64 a.a]) [] rfl (wv_n rfl) rfl rfl (fun _ _ hρ _ => r_call (args := [.agg #[.int .u8 a.r, .int .u8 a.g, .int .u8 a.b, .int .u8 a.a]]) (enters_of Try.func30 (by kernel_rfl) rfl) (hρ _ _ rfl) ((cons2 (hρ _ _ rfl) rfl)) rfl) (fun w _ => parts_ref a w ha) (by kernel_rfl) ?_
      refine G_step [2] 3 [4, 5] (by kernel_rfl) (allM (all_cons (q_run (.agg #[.int .u8 b.r, .int .u8 b.g, .int .u8 b.b, .int .u8 b.a]) rfl rfl (wv_n rfl) rfl (fun _ _ hρ hm => r_loadA ag27 sz27 (hρ _ _ rfl) (hm.at 2 rfl) rfl rfl)) all_nil)) (allM (all_cons ?_ (all_cons ?_ (all_cons ?_ all_nil))))
      · skip
        refine LOb_call (.agg #[.int .i64 b.r, .int .i64 b.g, .int .i64 b.b, .int .i64 b.a]) [] rfl (wv_n rfl) rfl rfl (fun _ _ hρ _ => r_call (args := [.agg #[.int .u8 b.r, .int .u8 b.g, .int .u8 b.b, .int .u8 b.a]]) (enters_of Try.func30 (by kernel_rfl) rfl) (hρ _ _ rfl) ((cons2 (hρ _ _ rfl) rfl)) rfl) (fun w _ => parts_ref b w hb) (by kernel_rfl) ?_
        refine G_step [] 4 [5] (by kernel_rfl) (allM all_nil) (allM (all_cons ?_ (all_cons ?_ all_nil)))
        · skip
          refine LOb_new 3 (.cells #[.int .i64 0, .int .i64 0, .int .i64 0, .int .i64 0] 61) (fun B => .pointer (some ⟨B, 0, none⟩)) (fun B => []) rfl (wv_n rfl) rfl rfl (fun _ _ _ _ => r_alloc (v := .agg #[.int .i64 0, .int .i64 0, .int .i64 0, .int .i64 0]) (by kernel_rfl) rfl) (fun B => by kernel_rfl) ?_
          intro B3
          refine G_step [] 5 [] (by kernel_rfl) (allM all_nil) (allM (all_cons ?_ all_nil))
          refine LOb_new 4 (.cells #[.int .i64 0, .int .i64 0, .int .i64 0, .int .i64 0] 61) (fun B => .pointer (some ⟨B, 0, none⟩)) (fun B => []) rfl (wv_n rfl) rfl rfl (fun _ _ _ _ => r_alloc (v := .agg #[.int .i64 0, .int .i64 0, .int .i64 0, .int .i64 0]) (by kernel_rfl) rfl) (fun B => by kernel_rfl) ?_
          intro B4
          refine G_step [] 6 [] (by kernel_rfl) (allM all_nil) (allM (all_cons ?_ all_nil))
          refine LOb_store 3 (.cells #[.int .i64 a.r, .int .i64 a.g, .int .i64 a.b, .int .i64 a.a] 61) [] rfl (wv_n rfl) rfl rfl rfl (fun _ _ hρ hm => r_store sz61 (hρ _ _ rfl) (hρ _ _ rfl) (hm.at 3 rfl) rfl rfl rfl rfl) (by kernel_rfl) ?_
          refine G_step [] 7 [] (by kernel_rfl) (allM all_nil) (allM (all_cons ?_ all_nil))
          refine LOb_store 4 (.cells #[.int .i64 b.r, .int .i64 b.g, .int .i64 b.b, .int .i64 b.a] 61) [] rfl (wv_n rfl) rfl rfl rfl (fun _ _ hρ hm => r_store sz61 (hρ _ _ rfl) (hρ _ _ rfl) (hm.at 4 rfl) rfl rfl rfl rfl) (by kernel_rfl) ?_
          exact G_lastQ [] [(4, .int .i64 0), (5, .pointer (some ⟨B3, 0, none⟩)), (6, .pointer (some ⟨B4, 0, none⟩))] (by kernel_rfl) (allM all_nil) (end_old rfl rfl (end_new 4 rfl rfl (end_new 5 rfl rfl end_nil))) (fun a w hf hm => At_intro (B3, B4) trivial hf hm (sub_cons rfl (sub_cons rfl (sub_cons rfl sub_nil))) (sub_cons rfl (sub_cons rfl (sub_cons rfl (sub_cons rfl sub_nil)))))
        · skip
          refine LOb_new 4 (.cells #[.int .i64 0, .int .i64 0, .int .i64 0, .int .i64 0] 61) (fun B => .pointer (some ⟨B, 0, none⟩)) (fun B => []) rfl (wv_n rfl) rfl rfl (fun _ _ _ _ => r_alloc (v := .agg #[.int .i64 0, .int .i64 0, .int .i64 0, .int .i64 0]) (by kernel_rfl) rfl) (fun B => by kernel_rfl) ?_
          intro B5
          refine G_step [] 4 [] (by kernel_rfl) (allM all_nil) (allM (all_cons ?_ all_nil))
          refine LOb_new 3 (.cells #[.int .i64 0, .int .i64 0, .int .i64 0, .int .i64 0] 61) (fun B => .pointer (some ⟨B, 0, none⟩)) (fun B => []) rfl (wv_n rfl) rfl rfl (fun _ _ _ _ => r_alloc (v := .agg #[.int .i64 0, .int .i64 0, .int .i64 0, .int .i64 0]) (by kernel_rfl) rfl) (fun B => by kernel_rfl) ?_
          intro B6
          refine G_step [] 6 [] (by kernel_rfl) (allM all_nil) (allM (all_cons ?_ all_nil))
          refine LOb_store 3 (.cells #[.int .i64 a.r, .int .i64 a.g, .int .i64 a.b, .int .i64 a.a] 61) [] rfl (wv_n rfl) rfl rfl rfl (fun _ _ hρ hm => r_store sz61 (hρ _ _ rfl) (hρ _ _ rfl) (hm.at 3 rfl) rfl rfl rfl rfl) (by kernel_rfl) ?_
          refine G_step [] 7 [] (by kernel_rfl) (allM all_nil) (allM (all_cons ?_ all_nil))
          refine LOb_store 4 (.cells #[.int .i64 b.r, .int .i64 b.g, .int .i64 b.b, .int .i64 b.a] 61) [] rfl (wv_n rfl) rfl rfl rfl (fun _ _ hρ hm => r_store sz61 (hρ _ _ rfl) (hρ _ _ rfl) (hm.at 4 rfl) rfl rfl rfl rfl) (by kernel_rfl) ?_
          exact G_lastQ [] [(4, .int .i64 0), (5, .pointer (some ⟨B6, 0, none⟩)), (6, .pointer (some ⟨B5, 0, none⟩))] (by kernel_rfl) (allM all_nil) (end_old rfl rfl (end_new 4 rfl rfl (end_new 5 rfl rfl end_nil))) (fun a w hf hm => At_intro (B6, B5) trivial hf hm (sub_cons rfl (sub_cons rfl (sub_cons rfl sub_nil))) (sub_cons rfl (sub_cons rfl (sub_cons rfl (sub_cons rfl sub_nil)))))
      · skip
        refine LOb_new 3 (.cells #[.int .i64 0, .int .i64 0, .int .i64 0, .int .i64 0] 61) (fun B => .pointer (some ⟨B, 0, none⟩)) (fun B => []) rfl (wv_n rfl) rfl rfl (fun _ _ _ _ => r_alloc (v := .agg #[.int .i64 0, .int .i64 0, .int .i64 0, .int .i64 0]) (by kernel_rfl) rfl) (fun B => by kernel_rfl) ?_
        intro B7
        refine G_step [2] 3 [5] (by kernel_rfl) (allM (all_cons (q_run (.agg #[.int .u8 b.r, .int .u8 b.g, .int .u8 b.b, .int .u8 b.a]) rfl rfl (wv_n rfl) rfl (fun _ _ hρ hm => r_loadA ag27 sz27 (hρ _ _ rfl) (hm.at 2 rfl) rfl rfl)) all_nil)) (allM (all_cons ?_ (all_cons ?_ all_nil)))
        · skip
          refine LOb_call (.agg #[.int .i64 b.r, .int .i64 b.g, .int .i64 b.b, .int .i64 b.a]) [] rfl (wv_n rfl) rfl rfl (fun _ _ hρ _ => r_call (args := [.agg #[.int .u8 b.r, .int .u8 b.g, .int .u8 b.b, .int .u8 b.a]]) (enters_of Try.func30 (by kernel_rfl) rfl) (hρ _ _ rfl) ((cons2 (hρ _ _ rfl) rfl)) rfl) (fun w _ => parts_ref b w hb) (by kernel_rfl) ?_
          refine G_step [] 5 [] (by kernel_rfl) (allM all_nil) (allM (all_cons ?_ all_nil))
          refine LOb_new 4 (.cells #[.int .i64 0, .int .i64 0, .int .i64 0, .int .i64 0] 61) (fun B => .pointer (some ⟨B, 0, none⟩)) (fun B => []) rfl (wv_n rfl) rfl rfl (fun _ _ _ _ => r_alloc (v := .agg #[.int .i64 0, .int .i64 0, .int .i64 0, .int .i64 0]) (by kernel_rfl) rfl) (fun B => by kernel_rfl) ?_
          intro B8
          refine G_step [] 6 [] (by kernel_rfl) (allM all_nil) (allM (all_cons ?_ all_nil))
          refine LOb_store 3 (.cells #[.int .i64 a.r, .int .i64 a.g, .int .i64 a.b, .int .i64 a.a] 61) [] rfl (wv_n rfl) rfl rfl rfl (fun _ _ hρ hm => r_store sz61 (hρ _ _ rfl) (hρ _ _ rfl) (hm.at 3 rfl) rfl rfl rfl rfl) (by kernel_rfl) ?_
          refine G_step [] 7 [] (by kernel_rfl) (allM all_nil) (allM (all_cons ?_ all_nil))
          refine LOb_store 4 (.cells #[.int .i64 b.r, .int .i64 b.g, .int .i64 b.b, .int .i64 b.a] 61) [] rfl (wv_n rfl) rfl rfl rfl (fun _ _ hρ hm => r_store sz61 (hρ _ _ rfl) (hρ _ _ rfl) (hm.at 4 rfl) rfl rfl rfl rfl) (by kernel_rfl) ?_
          exact G_lastQ [] [(4, .int .i64 0), (5, .pointer (some ⟨B7, 0, none⟩)), (6, .pointer (some ⟨B8, 0, none⟩))] (by kernel_rfl) (allM all_nil) (end_old rfl rfl (end_new 4 rfl rfl (end_new 5 rfl rfl end_nil))) (fun a w hf hm => At_intro (B7, B8) trivial hf hm (sub_cons rfl (sub_cons rfl (sub_cons rfl sub_nil))) (sub_cons rfl (sub_cons rfl (sub_cons rfl (sub_cons rfl sub_nil)))))
        · skip
          refine LOb_new 4 (.cells #[.int .i64 0, .int .i64 0, .int .i64 0, .int .i64 0] 61) (fun B => .pointer (some ⟨B, 0, none⟩)) (fun B => []) rfl (wv_n rfl) rfl rfl (fun _ _ _ _ => r_alloc (v := .agg #[.int .i64 0, .int .i64 0, .int .i64 0, .int .i64 0]) (by kernel_rfl) rfl) (fun B => by kernel_rfl) ?_
          intro B9
          refine G_step [2] 3 [] (by kernel_rfl) (allM (all_cons (q_run (.agg #[.int .u8 b.r, .int .u8 b.g, .int .u8 b.b, .int .u8 b.a]) rfl rfl (wv_n rfl) rfl (fun _ _ hρ hm => r_loadA ag27 sz27 (hρ _ _ rfl) (hm.at 2 rfl) rfl rfl)) all_nil)) (allM (all_cons ?_ all_nil))
          refine LOb_call (.agg #[.int .i64 b.r, .int .i64 b.g, .int .i64 b.b, .int .i64 b.a]) [] rfl (wv_n rfl) rfl rfl (fun _ _ hρ _ => r_call (args := [.agg #[.int .u8 b.r, .int .u8 b.g, .int .u8 b.b, .int .u8 b.a]]) (enters_of Try.func30 (by kernel_rfl) rfl) (hρ _ _ rfl) ((cons2 (hρ _ _ rfl) rfl)) rfl) (fun w _ => parts_ref b w hb) (by kernel_rfl) ?_
          refine G_step [] 6 [] (by kernel_rfl) (allM all_nil) (allM (all_cons ?_ all_nil))
          refine LOb_store 3 (.cells #[.int .i64 a.r, .int .i64 a.g, .int .i64 a.b, .int .i64 a.a] 61) [] rfl (wv_n rfl) rfl rfl rfl (fun _ _ hρ hm => r_store sz61 (hρ _ _ rfl) (hρ _ _ rfl) (hm.at 3 rfl) rfl rfl rfl rfl) (by kernel_rfl) ?_
          refine G_step [] 7 [] (by kernel_rfl) (allM all_nil) (allM (all_cons ?_ all_nil))
          refine LOb_store 4 (.cells #[.int .i64 b.r, .int .i64 b.g, .int .i64 b.b, .int .i64 b.a] 61) [] rfl (wv_n rfl) rfl rfl rfl (fun _ _ hρ hm => r_store sz61 (hρ _ _ rfl) (hρ _ _ rfl) (hm.at 4 rfl) rfl rfl rfl rfl) (by kernel_rfl) ?_
          exact G_lastQ [] [(4, .int .i64 0), (5, .pointer (some ⟨B7, 0, none⟩)), (6, .pointer (some ⟨B9, 0, none⟩))] (by kernel_rfl) (allM all_nil) (end_old rfl rfl (end_new 4 rfl rfl (end_new 5 rfl rfl end_nil))) (fun a w hf hm => At_intro (B7, B9) trivial hf hm (sub_cons rfl (sub_cons rfl (sub_cons rfl sub_nil))) (sub_cons rfl (sub_cons rfl (sub_cons rfl (sub_cons rfl sub_nil)))))
      · skip
        refine LOb_new 4 (.cells #[.int .i64 0, .int .i64 0, .int .i64 0, .int .i64 0] 61) (fun B => .pointer (some ⟨B, 0, none⟩)) (fun B => []) rfl (wv_n rfl) rfl rfl (fun _ _ _ _ => r_alloc (v := .agg #[.int .i64 0, .int .i64 0, .int .i64 0, .int .i64 0]) (by kernel_rfl) rfl) (fun B => by kernel_rfl) ?_
        intro B10
        refine G_step [2] 3 [4] (by kernel_rfl) (allM (all_cons (q_run (.agg #[.int .u8 b.r, .int .u8 b.g, .int .u8 b.b, .int .u8 b.a]) rfl rfl (wv_n rfl) rfl (fun _ _ hρ hm => r_loadA ag27 sz27 (hρ _ _ rfl) (hm.at 2 rfl) rfl rfl)) all_nil)) (allM (all_cons ?_ (all_cons ?_ all_nil)))
        · skip
          refine LOb_call (.agg #[.int .i64 b.r, .int .i64 b.g, .int .i64 b.b, .int .i64 b.a]) [] rfl (wv_n rfl) rfl rfl (fun _ _ hρ _ => r_call (args := [.agg #[.int .u8 b.r, .int .u8 b.g, .int .u8 b.b, .int .u8 b.a]]) (enters_of Try.func30 (by kernel_rfl) rfl) (hρ _ _ rfl) ((cons2 (hρ _ _ rfl) rfl)) rfl) (fun w _ => parts_ref b w hb) (by kernel_rfl) ?_
          refine G_step [] 4 [] (by kernel_rfl) (allM all_nil) (allM (all_cons ?_ all_nil))
          refine LOb_new 3 (.cells #[.int .i64 0, .int .i64 0, .int .i64 0, .int .i64 0] 61) (fun B => .pointer (some ⟨B, 0, none⟩)) (fun B => []) rfl (wv_n rfl) rfl rfl (fun _ _ _ _ => r_alloc (v := .agg #[.int .i64 0, .int .i64 0, .int .i64 0, .int .i64 0]) (by kernel_rfl) rfl) (fun B => by kernel_rfl) ?_
          intro B11
          refine G_step [] 6 [] (by kernel_rfl) (allM all_nil) (allM (all_cons ?_ all_nil))
          refine LOb_store 3 (.cells #[.int .i64 a.r, .int .i64 a.g, .int .i64 a.b, .int .i64 a.a] 61) [] rfl (wv_n rfl) rfl rfl rfl (fun _ _ hρ hm => r_store sz61 (hρ _ _ rfl) (hρ _ _ rfl) (hm.at 3 rfl) rfl rfl rfl rfl) (by kernel_rfl) ?_
          refine G_step [] 7 [] (by kernel_rfl) (allM all_nil) (allM (all_cons ?_ all_nil))
          refine LOb_store 4 (.cells #[.int .i64 b.r, .int .i64 b.g, .int .i64 b.b, .int .i64 b.a] 61) [] rfl (wv_n rfl) rfl rfl rfl (fun _ _ hρ hm => r_store sz61 (hρ _ _ rfl) (hρ _ _ rfl) (hm.at 4 rfl) rfl rfl rfl rfl) (by kernel_rfl) ?_
          exact G_lastQ [] [(4, .int .i64 0), (5, .pointer (some ⟨B11, 0, none⟩)), (6, .pointer (some ⟨B10, 0, none⟩))] (by kernel_rfl) (allM all_nil) (end_old rfl rfl (end_new 4 rfl rfl (end_new 5 rfl rfl end_nil))) (fun a w hf hm => At_intro (B11, B10) trivial hf hm (sub_cons rfl (sub_cons rfl (sub_cons rfl sub_nil))) (sub_cons rfl (sub_cons rfl (sub_cons rfl (sub_cons rfl sub_nil)))))
        · skip
          refine LOb_new 3 (.cells #[.int .i64 0, .int .i64 0, .int .i64 0, .int .i64 0] 61) (fun B => .pointer (some ⟨B, 0, none⟩)) (fun B => []) rfl (wv_n rfl) rfl rfl (fun _ _ _ _ => r_alloc (v := .agg #[.int .i64 0, .int .i64 0, .int .i64 0, .int .i64 0]) (by kernel_rfl) rfl) (fun B => by kernel_rfl) ?_
          intro B12
          refine G_step [2] 3 [] (by kernel_rfl) (allM (all_cons (q_run (.agg #[.int .u8 b.r, .int .u8 b.g, .int .u8 b.b, .int .u8 b.a]) rfl rfl (wv_n rfl) rfl (fun _ _ hρ hm => r_loadA ag27 sz27 (hρ _ _ rfl) (hm.at 2 rfl) rfl rfl)) all_nil)) (allM (all_cons ?_ all_nil))
          refine LOb_call (.agg #[.int .i64 b.r, .int .i64 b.g, .int .i64 b.b, .int .i64 b.a]) [] rfl (wv_n rfl) rfl rfl (fun _ _ hρ _ => r_call (args := [.agg #[.int .u8 b.r, .int .u8 b.g, .int .u8 b.b, .int .u8 b.a]]) (enters_of Try.func30 (by kernel_rfl) rfl) (hρ _ _ rfl) ((cons2 (hρ _ _ rfl) rfl)) rfl) (fun w _ => parts_ref b w hb) (by kernel_rfl) ?_
          refine G_step [] 6 [] (by kernel_rfl) (allM all_nil) (allM (all_cons ?_ all_nil))
          refine LOb_store 3 (.cells #[.int .i64 a.r, .int .i64 a.g, .int .i64 a.b, .int .i64 a.a] 61) [] rfl (wv_n rfl) rfl rfl rfl (fun _ _ hρ hm => r_store sz61 (hρ _ _ rfl) (hρ _ _ rfl) (hm.at 3 rfl) rfl rfl rfl rfl) (by kernel_rfl) ?_
          refine G_step [] 7 [] (by kernel_rfl) (allM all_nil) (allM (all_cons ?_ all_nil))
          refine LOb_store 4 (.cells #[.int .i64 b.r, .int .i64 b.g, .int .i64 b.b, .int .i64 b.a] 61) [] rfl (wv_n rfl) rfl rfl rfl (fun _ _ hρ hm => r_store sz61 (hρ _ _ rfl) (hρ _ _ rfl) (hm.at 4 rfl) rfl rfl rfl rfl) (by kernel_rfl) ?_
          exact G_lastQ [] [(4, .int .i64 0), (5, .pointer (some ⟨B12, 0, none⟩)), (6, .pointer (some ⟨B10, 0, none⟩))] (by kernel_rfl) (allM all_nil) (end_old rfl rfl (end_new 4 rfl rfl (end_new 5 rfl rfl end_nil))) (fun a w hf hm => At_intro (B12, B10) trivial hf hm (sub_cons rfl (sub_cons rfl (sub_cons rfl sub_nil))) (sub_cons rfl (sub_cons rfl (sub_cons rfl (sub_cons rfl sub_nil)))))
    · skip
      refine LOb_new 3 (.cells #[.int .i64 0, .int .i64 0, .int .i64 0, .int .i64 0] 61) (fun B => .pointer (some ⟨B, 0, none⟩)) (fun B => []) rfl (wv_n rfl) rfl rfl (fun _ _ _ _ => r_alloc (v := .agg #[.int .i64 0, .int .i64 0, .int .i64 0, .int .i64 0]) (by kernel_rfl) rfl) (fun B => by kernel_rfl) ?_
      intro B13
      refine G_step [0, 2] 1 [5] (by kernel_rfl) (allM (all_cons (q_run (.agg #[.int .u8 a.r, .int .u8 a.g, .int .u8 a.b, .int .u8 a.a]) rfl rfl (wv_n rfl) rfl (fun _ _ hρ hm => r_loadA ag27 sz27 (hρ _ _ rfl) (hm.at 1 rfl) rfl rfl)) (all_cons (q_run (.agg #[.int .u8 b.r, .int .u8 b.g, .int .u8 b.b, .int .u8 b.a]) rfl rfl (wv_n rfl) rfl (fun _ _ hρ hm => r_loadA ag27 sz27 (hρ _ _ rfl) (hm.at 2 rfl) rfl rfl)) all_nil))) (allM (all_cons ?_ (all_cons ?_ all_nil)))
      · skip
        refine LOb_call (.agg #[.int .i64 a.r, .int .i64 a.g, .int .i64 a.b, .int .i64 a.a]) [] rfl (wv_n rfl) rfl rfl (fun _ _ hρ _ => r_call (args := [.agg #[.int .u8 a.r, .int .u8 a.g, .int .u8 a.b, .int .u8 a.a]]) (enters_of Try.func30 (by kernel_rfl) rfl) (hρ _ _ rfl) ((cons2 (hρ _ _ rfl) rfl)) rfl) (fun w _ => parts_ref a w ha) (by kernel_rfl) ?_
        refine G_step [2] 3 [5] (by kernel_rfl) (allM (all_cons (q_run (.agg #[.int .u8 b.r, .int .u8 b.g, .int .u8 b.b, .int .u8 b.a]) rfl rfl (wv_n rfl) rfl (fun _ _ hρ hm => r_loadA ag27 sz27 (hρ _ _ rfl) (hm.at 2 rfl) rfl rfl)) all_nil)) (allM (all_cons ?_ (all_cons ?_ all_nil)))
        · skip
          refine LOb_call (.agg #[.int .i64 b.r, .int .i64 b.g, .int .i64 b.b, .int .i64 b.a]) [] rfl (wv_n rfl) rfl rfl (fun _ _ hρ _ => r_call (args := [.agg #[.int .u8 b.r, .int .u8 b.g, .int .u8 b.b, .int .u8 b.a]]) (enters_of Try.func30 (by kernel_rfl) rfl) (hρ _ _ rfl) ((cons2 (hρ _ _ rfl) rfl)) rfl) (fun w _ => parts_ref b w hb) (by kernel_rfl) ?_
          refine G_step [] 5 [] (by kernel_rfl) (allM all_nil) (allM (all_cons ?_ all_nil))
          refine LOb_new 4 (.cells #[.int .i64 0, .int .i64 0, .int .i64 0, .int .i64 0] 61) (fun B => .pointer (some ⟨B, 0, none⟩)) (fun B => []) rfl (wv_n rfl) rfl rfl (fun _ _ _ _ => r_alloc (v := .agg #[.int .i64 0, .int .i64 0, .int .i64 0, .int .i64 0]) (by kernel_rfl) rfl) (fun B => by kernel_rfl) ?_
          intro B14
          refine G_step [] 6 [] (by kernel_rfl) (allM all_nil) (allM (all_cons ?_ all_nil))
          refine LOb_store 3 (.cells #[.int .i64 a.r, .int .i64 a.g, .int .i64 a.b, .int .i64 a.a] 61) [] rfl (wv_n rfl) rfl rfl rfl (fun _ _ hρ hm => r_store sz61 (hρ _ _ rfl) (hρ _ _ rfl) (hm.at 3 rfl) rfl rfl rfl rfl) (by kernel_rfl) ?_
          refine G_step [] 7 [] (by kernel_rfl) (allM all_nil) (allM (all_cons ?_ all_nil))
          refine LOb_store 4 (.cells #[.int .i64 b.r, .int .i64 b.g, .int .i64 b.b, .int .i64 b.a] 61) [] rfl (wv_n rfl) rfl rfl rfl (fun _ _ hρ hm => r_store sz61 (hρ _ _ rfl) (hρ _ _ rfl) (hm.at 4 rfl) rfl rfl rfl rfl) (by kernel_rfl) ?_
          exact G_lastQ [] [(4, .int .i64 0), (5, .pointer (some ⟨B13, 0, none⟩)), (6, .pointer (some ⟨B14, 0, none⟩))] (by kernel_rfl) (allM all_nil) (end_old rfl rfl (end_new 4 rfl rfl (end_new 5 rfl rfl end_nil))) (fun a w hf hm => At_intro (B13, B14) trivial hf hm (sub_cons rfl (sub_cons rfl (sub_cons rfl sub_nil))) (sub_cons rfl (sub_cons rfl (sub_cons rfl (sub_cons rfl sub_nil)))))
        · skip
          refine LOb_new 4 (.cells #[.int .i64 0, .int .i64 0, .int .i64 0, .int .i64 0] 61) (fun B => .pointer (some ⟨B, 0, none⟩)) (fun B => []) rfl (wv_n rfl) rfl rfl (fun _ _ _ _ => r_alloc (v := .agg #[.int .i64 0, .int .i64 0, .int .i64 0, .int .i64 0]) (by kernel_rfl) rfl) (fun B => by kernel_rfl) ?_
          intro B15
          refine G_step [2] 3 [] (by kernel_rfl) (allM (all_cons (q_run (.agg #[.int .u8 b.r, .int .u8 b.g, .int .u8 b.b, .int .u8 b.a]) rfl rfl (wv_n rfl) rfl (fun _ _ hρ hm => r_loadA ag27 sz27 (hρ _ _ rfl) (hm.at 2 rfl) rfl rfl)) all_nil)) (allM (all_cons ?_ all_nil))
          refine LOb_call (.agg #[.int .i64 b.r, .int .i64 b.g, .int .i64 b.b, .int .i64 b.a]) [] rfl (wv_n rfl) rfl rfl (fun _ _ hρ _ => r_call (args := [.agg #[.int .u8 b.r, .int .u8 b.g, .int .u8 b.b, .int .u8 b.a]]) (enters_of Try.func30 (by kernel_rfl) rfl) (hρ _ _ rfl) ((cons2 (hρ _ _ rfl) rfl)) rfl) (fun w _ => parts_ref b w hb) (by kernel_rfl) ?_
          refine G_step [] 6 [] (by kernel_rfl) (allM all_nil) (allM (all_cons ?_ all_nil))
          refine LOb_store 3 (.cells #[.int .i64 a.r, .int .i64 a.g, .int .i64 a.b, .int .i64 a.a] 61) [] rfl (wv_n rfl) rfl rfl rfl (fun _ _ hρ hm => r_store sz61 (hρ _ _ rfl) (hρ _ _ rfl) (hm.at 3 rfl) rfl rfl rfl rfl) (by kernel_rfl) ?_
          refine G_step [] 7 [] (by kernel_rfl) (allM all_nil) (allM (all_cons ?_ all_nil))
          refine LOb_store 4 (.cells #[.int .i64 b.r, .int .i64 b.g, .int .i64 b.b, .int .i64 b.a] 61) [] rfl (wv_n rfl) rfl rfl rfl (fun _ _ hρ hm => r_store sz61 (hρ _ _ rfl) (hρ _ _ rfl) (hm.at 4 rfl) rfl rfl rfl rfl) (by kernel_rfl) ?_
          exact G_lastQ [] [(4, .int .i64 0), (5, .pointer (some ⟨B13, 0, none⟩)), (6, .pointer (some ⟨B15, 0, none⟩))] (by kernel_rfl) (allM all_nil) (end_old rfl rfl (end_new 4 rfl rfl (end_new 5 rfl rfl end_nil))) (fun a w hf hm => At_intro (B13, B15) trivial hf hm (sub_cons rfl (sub_cons rfl (sub_cons rfl sub_nil))) (sub_cons rfl (sub_cons rfl (sub_cons rfl (sub_cons rfl sub_nil)))))
      · skip
        refine LOb_new 4 (.cells #[.int .i64 0, .int .i64 0, .int .i64 0, .int .i64 0] 61) (fun B => .pointer (some ⟨B, 0, none⟩)) (fun B => []) rfl (wv_n rfl) rfl rfl (fun _ _ _ _ => r_alloc (v := .agg #[.int .i64 0, .int .i64 0, .int .i64 0, .int .i64 0]) (by kernel_rfl) rfl) (fun B => by kernel_rfl) ?_
        intro B16
        refine G_step [0, 2] 1 [] (by kernel_rfl) (allM (all_cons (q_run (.agg #[.int .u8 a.r, .int .u8 a.g, .int .u8 a.b, .int .u8 a.a]) rfl rfl (wv_n rfl) rfl (fun _ _ hρ hm => r_loadA ag27 sz27 (hρ _ _ rfl) (hm.at 1 rfl) rfl rfl)) (all_cons (q_run (.agg #[.int .u8 b.r, .int .u8 b.g, .int .u8 b.b, .int .u8 b.a]) rfl rfl (wv_n rfl) rfl (fun _ _ hρ hm => r_loadA ag27 sz27 (hρ _ _ rfl) (hm.at 2 rfl) rfl rfl)) all_nil))) (allM (all_cons ?_ all_nil))
        refine LOb_call (.agg #[.int .i64 a.r, .int .i64 a.g, .int .i64 a.b, .int .i64 a.a]) [] rfl (wv_n rfl) rfl rfl (fun _ _ hρ _ => r_call (args := [.agg #[.int .u8 a.r, .int .u8 a.g, .int .u8 a.b, .int .u8 a.a]]) (enters_of Try.func30 (by kernel_rfl) rfl) (hρ _ _ rfl) ((cons2 (hρ _ _ rfl) rfl)) rfl) (fun w _ => parts_ref a w ha) (by kernel_rfl) ?_
        refine G_step [2] 3 [] (by kernel_rfl) (allM (all_cons (q_run (.agg #[.int .u8 b.r, .int .u8 b.g, .int .u8 b.b, .int .u8 b.a]) rfl rfl (wv_n rfl) rfl (fun _ _ hρ hm => r_loadA ag27 sz27 (hρ _ _ rfl) (hm.at 2 rfl) rfl rfl)) all_nil)) (allM (all_cons ?_ all_nil))
        refine LOb_call (.agg #[.int .i64 b.r, .int .i64 b.g, .int .i64 b.b, .int .i64 b.a]) [] rfl (wv_n rfl) rfl rfl (fun _ _ hρ _ => r_call (args := [.agg #[.int .u8 b.r, .int .u8 b.g, .int .u8 b.b, .int .u8 b.a]]) (enters_of Try.func30 (by kernel_rfl) rfl) (hρ _ _ rfl) ((cons2 (hρ _ _ rfl) rfl)) rfl) (fun w _ => parts_ref b w hb) (by kernel_rfl) ?_
        refine G_step [] 6 [] (by kernel_rfl) (allM all_nil) (allM (all_cons ?_ all_nil))
        refine LOb_store 3 (.cells #[.int .i64 a.r, .int .i64 a.g, .int .i64 a.b, .int .i64 a.a] 61) [] rfl (wv_n rfl) rfl rfl rfl (fun _ _ hρ hm => r_store sz61 (hρ _ _ rfl) (hρ _ _ rfl) (hm.at 3 rfl) rfl rfl rfl rfl) (by kernel_rfl) ?_
        refine G_step [] 7 [] (by kernel_rfl) (allM all_nil) (allM (all_cons ?_ all_nil))
        refine LOb_store 4 (.cells #[.int .i64 b.r, .int .i64 b.g, .int .i64 b.b, .int .i64 b.a] 61) [] rfl (wv_n rfl) rfl rfl rfl (fun _ _ hρ hm => r_store sz61 (hρ _ _ rfl) (hρ _ _ rfl) (hm.at 4 rfl) rfl rfl rfl rfl) (by kernel_rfl) ?_
        exact G_lastQ [] [(4, .int .i64 0), (5, .pointer (some ⟨B13, 0, none⟩)), (6, .pointer (some ⟨B16, 0, none⟩))] (by kernel_rfl) (allM all_nil) (end_old rfl rfl (end_new 4 rfl rfl (end_new 5 rfl rfl end_nil))) (fun a w hf hm => At_intro (B13, B16) trivial hf hm (sub_cons rfl (sub_cons rfl (sub_cons rfl sub_nil))) (sub_cons rfl (sub_cons rfl (sub_cons rfl (sub_cons rfl sub_nil)))))
    · skip
      refine LOb_new 4 (.cells #[.int .i64 0, .int .i64 0, .int .i64 0, .int .i64 0] 61) (fun B => .pointer (some ⟨B, 0, none⟩)) (fun B => []) rfl (wv_n rfl) rfl rfl (fun _ _ _ _ => r_alloc (v := .agg #[.int .i64 0, .int .i64 0, .int .i64 0, .int .i64 0]) (by kernel_rfl) rfl) (fun B => by kernel_rfl) ?_
      intro B17
      refine G_step [0, 2] 1 [4] (by kernel_rfl) (allM (all_cons (q_run (.agg #[.int .u8 a.r, .int .u8 a.g, .int .u8 a.b, .int .u8 a.a]) rfl rfl (wv_n rfl) rfl (fun _ _ hρ hm => r_loadA ag27 sz27 (hρ _ _ rfl) (hm.at 1 rfl) rfl rfl)) (all_cons (q_run (.agg #[.int .u8 b.r, .int .u8 b.g, .int .u8 b.b, .int .u8 b.a]) rfl rfl (wv_n rfl) rfl (fun _ _ hρ hm => r_loadA ag27 sz27 (hρ _ _ rfl) (hm.at 2 rfl) rfl rfl)) all_nil))) (allM (all_cons ?_ (all_cons ?_ all_nil)))
      · skip
        refine LOb_call (.agg #[.int .i64 a.r, .int .i64 a.g, .int .i64 a.b, .int .i64 a.a]) [] rfl (wv_n rfl) rfl rfl (fun _ _ hρ _ => r_call (args := [.agg #[.int .u8 a.r, .int .u8 a.g, .int .u8 a.b, .int .u8 a.a]]) (enters_of Try.func30 (by kernel_rfl) rfl) (hρ _ _ rfl) ((cons2 (hρ _ _ rfl) rfl)) rfl) (fun w _ => parts_ref a w ha) (by kernel_rfl) ?_
        refine G_step [2] 3 [4] (by kernel_rfl) (allM (all_cons (q_run (.agg #[.int .u8 b.r, .int .u8 b.g, .int .u8 b.b, .int .u8 b.a]) rfl rfl (wv_n rfl) rfl (fun _ _ hρ hm => r_loadA ag27 sz27 (hρ _ _ rfl) (hm.at 2 rfl) rfl rfl)) all_nil)) (allM (all_cons ?_ (all_cons ?_ all_nil)))
        · skip
          refine LOb_call (.agg #[.int .i64 b.r, .int .i64 b.g, .int .i64 b.b, .int .i64 b.a]) [] rfl (wv_n rfl) rfl rfl (fun _ _ hρ _ => r_call (args := [.agg #[.int .u8 b.r, .int .u8 b.g, .int .u8 b.b, .int .u8 b.a]]) (enters_of Try.func30 (by kernel_rfl) rfl) (hρ _ _ rfl) ((cons2 (hρ _ _ rfl) rfl)) rfl) (fun w _ => parts_ref b w hb) (by kernel_rfl) ?_
          refine G_step [] 4 [] (by kernel_rfl) (allM all_nil) (allM (all_cons ?_ all_nil))
          refine LOb_new 3 (.cells #[.int .i64 0, .int .i64 0, .int .i64 0, .int .i64 0] 61) (fun B => .pointer (some ⟨B, 0, none⟩)) (fun B => []) rfl (wv_n rfl) rfl rfl (fun _ _ _ _ => r_alloc (v := .agg #[.int .i64 0, .int .i64 0, .int .i64 0, .int .i64 0]) (by kernel_rfl) rfl) (fun B => by kernel_rfl) ?_
          intro B18
          refine G_step [] 6 [] (by kernel_rfl) (allM all_nil) (allM (all_cons ?_ all_nil))
          refine LOb_store 3 (.cells #[.int .i64 a.r, .int .i64 a.g, .int .i64 a.b, .int .i64 a.a] 61) [] rfl (wv_n rfl) rfl rfl rfl (fun _ _ hρ hm => r_store sz61 (hρ _ _ rfl) (hρ _ _ rfl) (hm.at 3 rfl) rfl rfl rfl rfl) (by kernel_rfl) ?_
          refine G_step [] 7 [] (by kernel_rfl) (allM all_nil) (allM (all_cons ?_ all_nil))
          refine LOb_store 4 (.cells #[.int .i64 b.r, .int .i64 b.g, .int .i64 b.b, .int .i64 b.a] 61) [] rfl (wv_n rfl) rfl rfl rfl (fun _ _ hρ hm => r_store sz61 (hρ _ _ rfl) (hρ _ _ rfl) (hm.at 4 rfl) rfl rfl rfl rfl) (by kernel_rfl) ?_
          exact G_lastQ [] [(4, .int .i64 0), (5, .pointer (some ⟨B18, 0, none⟩)), (6, .pointer (some ⟨B17, 0, none⟩))] (by kernel_rfl) (allM all_nil) (end_old rfl rfl (end_new 4 rfl rfl (end_new 5 rfl rfl end_nil))) (fun a w hf hm => At_intro (B18, B17) trivial hf hm (sub_cons rfl (sub_cons rfl (sub_cons rfl sub_nil))) (sub_cons rfl (sub_cons rfl (sub_cons rfl (sub_cons rfl sub_nil)))))
        · skip
          refine LOb_new 3 (.cells #[.int .i64 0, .int .i64 0, .int .i64 0, .int .i64 0] 61) (fun B => .pointer (some ⟨B, 0, none⟩)) (fun B => []) rfl (wv_n rfl) rfl rfl (fun _ _ _ _ => r_alloc (v := .agg #[.int .i64 0, .int .i64 0, .int .i64 0, .int .i64 0]) (by kernel_rfl) rfl) (fun B => by kernel_rfl) ?_
          intro B19
          refine G_step [2] 3 [] (by kernel_rfl) (allM (all_cons (q_run (.agg #[.int .u8 b.r, .int .u8 b.g, .int .u8 b.b, .int .u8 b.a]) rfl rfl (wv_n rfl) rfl (fun _ _ hρ hm => r_loadA ag27 sz27 (hρ _ _ rfl) (hm.at 2 rfl) rfl rfl)) all_nil)) (allM (all_cons ?_ all_nil))
          refine LOb_call (.agg #[.int .i64 b.r, .int .i64 b.g, .int .i64 b.b, .int .i64 b.a]) [] rfl (wv_n rfl) rfl rfl (fun _ _ hρ _ => r_call (args := [.agg #[.int .u8 b.r, .int .u8 b.g, .int .u8 b.b, .int .u8 b.a]]) (enters_of Try.func30 (by kernel_rfl) rfl) (hρ _ _ rfl) ((cons2 (hρ _ _ rfl) rfl)) rfl) (fun w _ => parts_ref b w hb) (by kernel_rfl) ?_
          refine G_step [] 6 [] (by kernel_rfl) (allM all_nil) (allM (all_cons ?_ all_nil))
          refine LOb_store 3 (.cells #[.int .i64 a.r, .int .i64 a.g, .int .i64 a.b, .int .i64 a.a] 61) [] rfl (wv_n rfl) rfl rfl rfl (fun _ _ hρ hm => r_store sz61 (hρ _ _ rfl) (hρ _ _ rfl) (hm.at 3 rfl) rfl rfl rfl rfl) (by kernel_rfl) ?_
          refine G_step [] 7 [] (by kernel_rfl) (allM all_nil) (allM (all_cons ?_ all_nil))
          refine LOb_store 4 (.cells #[.int .i64 b.r, .int .i64 b.g, .int .i64 b.b, .int .i64 b.a] 61) [] rfl (wv_n rfl) rfl rfl rfl (fun _ _ hρ hm => r_store sz61 (hρ _ _ rfl) (hρ _ _ rfl) (hm.at 4 rfl) rfl rfl rfl rfl) (by kernel_rfl) ?_
          exact G_lastQ [] [(4, .int .i64 0), (5, .pointer (some ⟨B19, 0, none⟩)), (6, .pointer (some ⟨B17, 0, none⟩))] (by kernel_rfl) (allM all_nil) (end_old rfl rfl (end_new 4 rfl rfl (end_new 5 rfl rfl end_nil))) (fun a w hf hm => At_intro (B19, B17) trivial hf hm (sub_cons rfl (sub_cons rfl (sub_cons rfl sub_nil))) (sub_cons rfl (sub_cons rfl (sub_cons rfl (sub_cons rfl sub_nil)))))
      · skip
        refine LOb_new 3 (.cells #[.int .i64 0, .int .i64 0, .int .i64 0, .int .i64 0] 61) (fun B => .pointer (some ⟨B, 0, none⟩)) (fun B => []) rfl (wv_n rfl) rfl rfl (fun _ _ _ _ => r_alloc (v := .agg #[.int .i64 0, .int .i64 0, .int .i64 0, .int .i64 0]) (by kernel_rfl) rfl) (fun B => by kernel_rfl) ?_
        intro B20
        refine G_step [0, 2] 1 [] (by kernel_rfl) (allM (all_cons (q_run (.agg #[.int .u8 a.r, .int .u8 a.g, .int .u8 a.b, .int .u8 a.a]) rfl rfl (wv_n rfl) rfl (fun _ _ hρ hm => r_loadA ag27 sz27 (hρ _ _ rfl) (hm.at 1 rfl) rfl rfl)) (all_cons (q_run (.agg #[.int .u8 b.r, .int .u8 b.g, .int .u8 b.b, .int .u8 b.a]) rfl rfl (wv_n rfl) rfl (fun _ _ hρ hm => r_loadA ag27 sz27 (hρ _ _ rfl) (hm.at 2 rfl) rfl rfl)) all_nil))) (allM (all_cons ?_ all_nil))
        refine LOb_call (.agg #[.int .i64 a.r, .int .i64 a.g, .int .i64 a.b, .int .i64 a.a]) [] rfl (wv_n rfl) rfl rfl (fun _ _ hρ _ => r_call (args := [.agg #[.int .u8 a.r, .int .u8 a.g, .int .u8 a.b, .int .u8 a.a]]) (enters_of Try.func30 (by kernel_rfl) rfl) (hρ _ _ rfl) ((cons2 (hρ _ _ rfl) rfl)) rfl) (fun w _ => parts_ref a w ha) (by kernel_rfl) ?_
        refine G_step [2] 3 [] (by kernel_rfl) (allM (all_cons (q_run (.agg #[.int .u8 b.r, .int .u8 b.g, .int .u8 b.b, .int .u8 b.a]) rfl rfl (wv_n rfl) rfl (fun _ _ hρ hm => r_loadA ag27 sz27 (hρ _ _ rfl) (hm.at 2 rfl) rfl rfl)) all_nil)) (allM (all_cons ?_ all_nil))
        refine LOb_call (.agg #[.int .i64 b.r, .int .i64 b.g, .int .i64 b.b, .int .i64 b.a]) [] rfl (wv_n rfl) rfl rfl (fun _ _ hρ _ => r_call (args := [.agg #[.int .u8 b.r, .int .u8 b.g, .int .u8 b.b, .int .u8 b.a]]) (enters_of Try.func30 (by kernel_rfl) rfl) (hρ _ _ rfl) ((cons2 (hρ _ _ rfl) rfl)) rfl) (fun w _ => parts_ref b w hb) (by kernel_rfl) ?_
        refine G_step [] 6 [] (by kernel_rfl) (allM all_nil) (allM (all_cons ?_ all_nil))
        refine LOb_store 3 (.cells #[.int .i64 a.r, .int .i64 a.g, .int .i64 a.b, .int .i64 a.a] 61) [] rfl (wv_n rfl) rfl rfl rfl (fun _ _ hρ hm => r_store sz61 (hρ _ _ rfl) (hρ _ _ rfl) (hm.at 3 rfl) rfl rfl rfl rfl) (by kernel_rfl) ?_
        refine G_step [] 7 [] (by kernel_rfl) (allM all_nil) (allM (all_cons ?_ all_nil))
        refine LOb_store 4 (.cells #[.int .i64 b.r, .int .i64 b.g, .int .i64 b.b, .int .i64 b.a] 61) [] rfl (wv_n rfl) rfl rfl rfl (fun _ _ hρ hm => r_store sz61 (hρ _ _ rfl) (hρ _ _ rfl) (hm.at 4 rfl) rfl rfl rfl rfl) (by kernel_rfl) ?_
        exact G_lastQ [] [(4, .int .i64 0), (5, .pointer (some ⟨B20, 0, none⟩)), (6, .pointer (some ⟨B17, 0, none⟩))] (by kernel_rfl) (allM all_nil) (end_old rfl rfl (end_new 4 rfl rfl (end_new 5 rfl rfl end_nil))) (fun a w hf hm => At_intro (B20, B17) trivial hf hm (sub_cons rfl (sub_cons rfl (sub_cons rfl sub_nil))) (sub_cons rfl (sub_cons rfl (sub_cons rfl (sub_cons rfl sub_nil)))))
  · skip
    obtain ⟨Bx4, Bx5⟩ := z
    show T _ _ _ [(4, .int .i64 0), (5, .pointer (some ⟨Bx4, 0, none⟩)), (6, .pointer (some ⟨Bx5, 0, none⟩))] [(1, .blk B1 (.cells #[.int .u8 a.r, .int .u8 a.g, .int .u8 a.b, .int .u8 a.a] 27)), (2, .blk B2 (.cells #[.int .u8 b.r, .int .u8 b.g, .int .u8 b.b, .int .u8 b.a] 27)), (3, .blk Bx4 (.cells #[.int .i64 a.r, .int .i64 a.g, .int .i64 a.b, .int .i64 a.a] 61)), (4, .blk Bx5 (.cells #[.int .i64 b.r, .int .i64 b.g, .int .i64 b.b, .int .i64 b.a] 61))]
    refine T_seq (T_region ?_)
    refine TL_q (.int .i64 0) (fun _ _ hρ _ => r_assign (hρ _ _ rfl)) rfl rfl rfl (w_n rfl) ?_
    refine TL_seq ?_
    refine T_seq ?_
    refine T_seq (T_region ?_)
    refine TL_q (.int .i64 0) (fun _ _ hρ _ => r_move (hρ _ _ rfl)) rfl rfl rfl (w_n rfl) ?_
    refine TL_seq ?_
    refine T_block ?_
    refine T_rounds 5 ?_
    refine TR_succ ?_
    refine T_seq (T_region ?_)
    refine TL_q (.bool true) (fun _ _ hρ _ => r_as (r_lss (hρ _ _ rfl) (hρ _ _ rfl)) (by rfl)) rfl rfl rfl (w_n rfl) ?_
    refine TL_seq ?_
    refine T_seq ?_
    refine T_cond_t rfl ?_
    refine T_skip' ?_
    refine p_seq ?_
    have e0 := dI_eq a.r b.r
    refine T_join (ι := Int) (fun (z0 : Int) => z0 = 0 + dI a.r b.r ∧ 0 ≤ z0 ∧ z0 ≤ 255) (fun (z0 : Int) => [(4, .int .i64 0), (5, .pointer (some ⟨Bx4, 0, none⟩)), (6, .pointer (some ⟨Bx5, 0, none⟩)), (13, .int .i64 0), (14, .bool true), (7, .int .i64 z0)]) (fun (z0 : Int) => [(1, .blk B1 (.cells #[.int .u8 a.r, .int .u8 a.g, .int .u8 a.b, .int .u8 a.a] 27)), (2, .blk B2 (.cells #[.int .u8 b.r, .int .u8 b.g, .int .u8 b.b, .int .u8 b.a] 27)), (3, .blk Bx4 (.cells #[.int .i64 a.r, .int .i64 a.g, .int .i64 a.b, .int .i64 a.a] 61)), (4, .blk Bx5 (.cells #[.int .i64 b.r, .int .i64 b.g, .int .i64 b.b, .int .i64 b.a] 61))]) ?_ ?_
    · skip
      refine T_block ?_
      refine T_seq (T_region ?_)
      refine TL_q (.int .i64 0) (fun _ _ hρ _ => r_move (hρ _ _ rfl)) rfl rfl rfl (w_n rfl) ?_
      refine TL_q (.int .i64 0) (fun _ _ hρ _ => r_assign (hρ _ _ rfl)) rfl rfl rfl (w_n rfl) ?_
      refine TL_seq ?_
      refine T_seq (T_draw (V := [(0, .int .i64 0), (1, .pointer (some ⟨Bx4, 0, none⟩)), (2, .int .i64 a.r), (3, .int .i64 0), (4, .pointer (some ⟨Bx5, 0, none⟩)), (5, .int .i64 b.r), (6, .bool (decide (b.r < a.r)))]) [0, 1, 3, 0, 8, 24, 63] [[(8, none)], [(5, none), (16, some 0)], [(17, some 1)], [(8, none)], [(6, none), (19, some 3)], [(20, some 4)], [(18, some 2), (21, some 5)]] 0 mixed (by kernel_rfl) ?_)
      refine G_last [0, 1, 2, 3, 4, 5, 6] [(4, .int .i64 0), (5, .pointer (some ⟨Bx4, 0, none⟩)), (6, .pointer (some ⟨Bx5, 0, none⟩)), (7, .int .i64 0), (13, .int .i64 0), (14, .bool true), (15, .int .i64 0), (8, .int .i64 0), (16, .int .i64 0), (17, .pointer (some ⟨Bx4, 0, none⟩)), (18, .int .i64 a.r), (19, .int .i64 0), (20, .pointer (some ⟨Bx5, 0, none⟩)), (21, .int .i64 b.r), (22, .bool (decide (b.r < a.r)))] (by kernel_rfl) (allM (all_cons (q_run (.int .i64 0) rfl rfl (wv_n rfl) rfl (fun _ _ hρ _ => r_move (hρ _ _ rfl))) (all_cons (q_run (.pointer (some ⟨Bx4, 0, none⟩)) rfl rfl (wv_n rfl) rfl (fun _ _ hρ _ => r_indexAddrA (i := 0) ar61 sz3 (hρ _ _ rfl) (hρ _ _ rfl) (by decide))) (all_cons (q_run (.int .i64 a.r) rfl rfl (wv_n rfl) rfl (fun _ _ hρ hm => r_load ag3 (hρ _ _ rfl) (hm.at 3 rfl) rfl)) (all_cons (q_run (.int .i64 0) rfl rfl (wv_n rfl) rfl (fun _ _ hρ _ => r_move (hρ _ _ rfl))) (all_cons (q_run (.pointer (some ⟨Bx5, 0, none⟩)) rfl rfl (wv_n rfl) rfl (fun _ _ hρ _ => r_indexAddrA (i := 0) ar61 sz3 (hρ _ _ rfl) (hρ _ _ rfl) (by decide))) (all_cons (q_run (.int .i64 b.r) rfl rfl (wv_n rfl) rfl (fun _ _ hρ hm => r_load ag3 (hρ _ _ rfl) (hm.at 4 rfl) rfl)) (all_cons (q_run (.bool (decide (b.r < a.r))) rfl rfl (wv_n rfl) rfl (fun _ _ hρ _ => r_gtr (hρ _ _ rfl) (hρ _ _ rfl))) all_nil)))))))) (end_old rfl rfl (end_old rfl rfl (end_old rfl rfl (end_old rfl rfl (end_old rfl rfl (end_old rfl rfl (end_old rfl rfl (end_old rfl rfl (end_new 0 rfl rfl (end_new 1 rfl rfl (end_new 2 rfl rfl (end_new 3 rfl rfl (end_new 4 rfl rfl (end_new 5 rfl rfl (end_new 6 rfl rfl end_nil))))))))))))))) ?_
      refine T_cond rfl (fun h1 => ?_) (fun h1 => ?_)
      · replace h1 := of_decide_eq_true h1
        refine T_draw (V := [(0, .int .i64 0), (1, .int .i64 0), (2, .pointer (some ⟨Bx4, 0, none⟩)), (3, .int .i64 a.r), (4, .int .i64 ((0 : Int) + a.r)), (5, .int .i64 0), (6, .pointer (some ⟨Bx5, 0, none⟩)), (7, .int .i64 b.r), (8, .int .i64 ((0 : Int) + a.r - b.r)), (9, .int .i64 ((0 : Int) + a.r - b.r))]) [0, 0, 2, 6, 15, 0, 32, 96, 255, 511] [[(7, none)], [(8, none)], [(5, none), (24, some 1)], [(25, some 2)], [(23, some 0), (26, some 3)], [(8, none)], [(6, none), (28, some 5)], [(29, some 6)], [(27, some 4), (30, some 7)], [(31, some 8)]] 0 mixed (by kernel_rfl) ?_
        refine G_lastQ [0, 1, 2, 3, 4, 5, 6, 7, 8, 9] [(4, .int .i64 0), (5, .pointer (some ⟨Bx4, 0, none⟩)), (6, .pointer (some ⟨Bx5, 0, none⟩)), (13, .int .i64 0), (14, .bool true), (15, .int .i64 0), (8, .int .i64 0), (16, .int .i64 0), (17, .pointer (some ⟨Bx4, 0, none⟩)), (18, .int .i64 a.r), (19, .int .i64 0), (20, .pointer (some ⟨Bx5, 0, none⟩)), (21, .int .i64 b.r), (22, .bool (decide (b.r < a.r))), (23, .int .i64 0), (24, .int .i64 0), (25, .pointer (some ⟨Bx4, 0, none⟩)), (26, .int .i64 a.r), (27, .int .i64 ((0 : Int) + a.r)), (28, .int .i64 0), (29, .pointer (some ⟨Bx5, 0, none⟩)), (30, .int .i64 b.r), (31, .int .i64 ((0 : Int) + a.r - b.r)), (7, .int .i64 ((0 : Int) + a.r - b.r))] (by kernel_rfl) (allM (all_cons (q_run (.int .i64 0) rfl rfl (wv_n rfl) rfl (fun _ _ hρ _ => r_move (hρ _ _ rfl))) (all_cons (q_run (.int .i64 0) rfl rfl (wv_n rfl) rfl (fun _ _ hρ _ => r_move (hρ _ _ rfl))) (all_cons (q_run (.pointer (some ⟨Bx4, 0, none⟩)) rfl rfl (wv_n rfl) rfl (fun _ _ hρ _ => r_indexAddrA (i := 0) ar61 sz3 (hρ _ _ rfl) (hρ _ _ rfl) (by decide))) (all_cons (q_run (.int .i64 a.r) rfl rfl (wv_n rfl) rfl (fun _ _ hρ hm => r_load ag3 (hρ _ _ rfl) (hm.at 3 rfl) rfl)) (all_cons (q_run (.int .i64 ((0 : Int) + a.r)) rfl rfl (wv_n rfl) rfl (fun _ _ hρ _ => r_as (r_add (hρ _ _ rfl) (hρ _ _ rfl)) (int_as (wrap64 (by omega) (by omega))))) (all_cons (q_run (.int .i64 0) rfl rfl (wv_n rfl) rfl (fun _ _ hρ _ => r_move (hρ _ _ rfl))) (all_cons (q_run (.pointer (some ⟨Bx5, 0, none⟩)) rfl rfl (wv_n rfl) rfl (fun _ _ hρ _ => r_indexAddrA (i := 0) ar61 sz3 (hρ _ _ rfl) (hρ _ _ rfl) (by decide))) (all_cons (q_run (.int .i64 b.r) rfl rfl (wv_n rfl) rfl (fun _ _ hρ hm => r_load ag3 (hρ _ _ rfl) (hm.at 4 rfl) rfl)) (all_cons (q_run (.int .i64 ((0 : Int) + a.r - b.r)) rfl rfl (wv_n rfl) rfl (fun _ _ hρ _ => r_as (r_sub (hρ _ _ rfl) (hρ _ _ rfl)) (int_as (wrap64 (by omega) (by omega))))) (all_cons (q_run (.int .i64 ((0 : Int) + a.r - b.r)) rfl rfl (wv_n rfl) rfl (fun _ _ hρ _ => r_assign (hρ _ _ rfl))) all_nil))))))))))) (end_old rfl rfl (end_old rfl rfl (end_old rfl rfl (end_old rfl rfl (end_old rfl rfl (end_old rfl rfl (end_old rfl rfl (end_old rfl rfl (end_old rfl rfl (end_old rfl rfl (end_old rfl rfl (end_old rfl rfl (end_old rfl rfl (end_old rfl rfl (end_new 0 rfl rfl (end_new 1 rfl rfl (end_new 2 rfl rfl (end_new 3 rfl rfl (end_new 4 rfl rfl (end_new 5 rfl rfl (end_new 6 rfl rfl (end_new 7 rfl rfl (end_new 8 rfl rfl (end_new 9 rfl rfl end_nil)))))))))))))))))))))))) ?_
        refine p_blk_n ?_
        exact p_at ((0 : Int) + a.r - b.r) ⟨by omega, by omega, by omega⟩ (sub_cons rfl (sub_cons rfl (sub_cons rfl (sub_cons rfl (sub_cons rfl (sub_cons rfl sub_nil)))))) (sub_cons rfl (sub_cons rfl (sub_cons rfl (sub_cons rfl sub_nil))))
      · replace h1 := of_decide_eq_false h1
        refine T_draw (V := [(0, .int .i64 0), (1, .int .i64 0), (2, .pointer (some ⟨Bx5, 0, none⟩)), (3, .int .i64 b.r), (4, .int .i64 ((0 : Int) + b.r)), (5, .int .i64 0), (6, .pointer (some ⟨Bx4, 0, none⟩)), (7, .int .i64 a.r), (8, .int .i64 ((0 : Int) + b.r - a.r)), (9, .int .i64 ((0 : Int) + b.r - a.r))]) [0, 0, 2, 6, 15, 0, 32, 96, 255, 511] [[(7, none)], [(8, none)], [(6, none), (33, some 1)], [(34, some 2)], [(32, some 0), (35, some 3)], [(8, none)], [(5, none), (37, some 5)], [(38, some 6)], [(36, some 4), (39, some 7)], [(40, some 8)]] 0 mixed (by kernel_rfl) ?_
        refine G_lastQ [0, 1, 2, 3, 4, 5, 6, 7, 8, 9] [(4, .int .i64 0), (5, .pointer (some ⟨Bx4, 0, none⟩)), (6, .pointer (some ⟨Bx5, 0, none⟩)), (13, .int .i64 0), (14, .bool true), (15, .int .i64 0), (8, .int .i64 0), (16, .int .i64 0), (17, .pointer (some ⟨Bx4, 0, none⟩)), (18, .int .i64 a.r), (19, .int .i64 0), (20, .pointer (some ⟨Bx5, 0, none⟩)), (21, .int .i64 b.r), (22, .bool (decide (b.r < a.r))), (32, .int .i64 0), (33, .int .i64 0), (34, .pointer (some ⟨Bx5, 0, none⟩)), (35, .int .i64 b.r), (36, .int .i64 ((0 : Int) + b.r)), (37, .int .i64 0), (38, .pointer (some ⟨Bx4, 0, none⟩)), (39, .int .i64 a.r), (40, .int .i64 ((0 : Int) + b.r - a.r)), (7, .int .i64 ((0 : Int) + b.r - a.r))] (by kernel_rfl) (allM (all_cons (q_run (.int .i64 0) rfl rfl (wv_n rfl) rfl (fun _ _ hρ _ => r_move (hρ _ _ rfl))) (all_cons (q_run (.int .i64 0) rfl rfl (wv_n rfl) rfl (fun _ _ hρ _ => r_move (hρ _ _ rfl))) (all_cons (q_run (.pointer (some ⟨Bx5, 0, none⟩)) rfl rfl (wv_n rfl) rfl (fun _ _ hρ _ => r_indexAddrA (i := 0) ar61 sz3 (hρ _ _ rfl) (hρ _ _ rfl) (by decide))) (all_cons (q_run (.int .i64 b.r) rfl rfl (wv_n rfl) rfl (fun _ _ hρ hm => r_load ag3 (hρ _ _ rfl) (hm.at 4 rfl) rfl)) (all_cons (q_run (.int .i64 ((0 : Int) + b.r)) rfl rfl (wv_n rfl) rfl (fun _ _ hρ _ => r_as (r_add (hρ _ _ rfl) (hρ _ _ rfl)) (int_as (wrap64 (by omega) (by omega))))) (all_cons (q_run (.int .i64 0) rfl rfl (wv_n rfl) rfl (fun _ _ hρ _ => r_move (hρ _ _ rfl))) (all_cons (q_run (.pointer (some ⟨Bx4, 0, none⟩)) rfl rfl (wv_n rfl) rfl (fun _ _ hρ _ => r_indexAddrA (i := 0) ar61 sz3 (hρ _ _ rfl) (hρ _ _ rfl) (by decide))) (all_cons (q_run (.int .i64 a.r) rfl rfl (wv_n rfl) rfl (fun _ _ hρ hm => r_load ag3 (hρ _ _ rfl) (hm.at 3 rfl) rfl)) (all_cons (q_run (.int .i64 ((0 : Int) + b.r - a.r)) rfl rfl (wv_n rfl) rfl (fun _ _ hρ _ => r_as (r_sub (hρ _ _ rfl) (hρ _ _ rfl)) (int_as (wrap64 (by omega) (by omega))))) (all_cons (q_run (.int .i64 ((0 : Int) + b.r - a.r)) rfl rfl (wv_n rfl) rfl (fun _ _ hρ _ => r_assign (hρ _ _ rfl))) all_nil))))))))))) (end_old rfl rfl (end_old rfl rfl (end_old rfl rfl (end_old rfl rfl (end_old rfl rfl (end_old rfl rfl (end_old rfl rfl (end_old rfl rfl (end_old rfl rfl (end_old rfl rfl (end_old rfl rfl (end_old rfl rfl (end_old rfl rfl (end_old rfl rfl (end_new 0 rfl rfl (end_new 1 rfl rfl (end_new 2 rfl rfl (end_new 3 rfl rfl (end_new 4 rfl rfl (end_new 5 rfl rfl (end_new 6 rfl rfl (end_new 7 rfl rfl (end_new 8 rfl rfl (end_new 9 rfl rfl end_nil)))))))))))))))))))))))) ?_
        refine p_blk_n ?_
        exact p_at ((0 : Int) + b.r - a.r) ⟨by omega, by omega, by omega⟩ (sub_cons rfl (sub_cons rfl (sub_cons rfl (sub_cons rfl (sub_cons rfl (sub_cons rfl sub_nil)))))) (sub_cons rfl (sub_cons rfl (sub_cons rfl (sub_cons rfl sub_nil))))
    · skip
      rintro z0 ⟨hz0, hq0, hr0⟩
      show T _ _ _ [(4, .int .i64 0), (5, .pointer (some ⟨Bx4, 0, none⟩)), (6, .pointer (some ⟨Bx5, 0, none⟩)), (13, .int .i64 0), (14, .bool true), (7, .int .i64 z0)] [(1, .blk B1 (.cells #[.int .u8 a.r, .int .u8 a.g, .int .u8 a.b, .int .u8 a.a] 27)), (2, .blk B2 (.cells #[.int .u8 b.r, .int .u8 b.g, .int .u8 b.b, .int .u8 b.a] 27)), (3, .blk Bx4 (.cells #[.int .i64 a.r, .int .i64 a.g, .int .i64 a.b, .int .i64 a.a] 61)), (4, .blk Bx5 (.cells #[.int .i64 b.r, .int .i64 b.g, .int .i64 b.b, .int .i64 b.a] 61))]
      refine T_region ?_
      refine TL_q (.int .i64 1) (fun _ _ hρ _ => r_as (r_add (hρ _ _ rfl) (hρ _ _ rfl)) (by rfl)) rfl rfl rfl (w_n rfl) ?_
      refine TL_q (.int .i64 1) (fun _ _ hρ _ => r_move (hρ _ _ rfl)) rfl rfl rfl (w_n rfl) ?_
      refine TL_nil ?_
      refine p_round ?_
      refine TR_succ ?_
      refine T_seq (T_region ?_)
      refine TL_q (.bool true) (fun _ _ hρ _ => r_as (r_lss (hρ _ _ rfl) (hρ _ _ rfl)) (by rfl)) rfl rfl rfl (w_n rfl) ?_
      refine TL_seq ?_
      refine T_seq ?_
      refine T_cond_t rfl ?_
      refine T_skip' ?_
      refine p_seq ?_
      have e1 := dI_eq a.g b.g
      refine T_join (ι := Int) (fun (z1 : Int) => z1 = z0 + dI a.g b.g ∧ 0 ≤ z1 ∧ z1 ≤ 510) (fun (z1 : Int) => [(4, .int .i64 0), (5, .pointer (some ⟨Bx4, 0, none⟩)), (6, .pointer (some ⟨Bx5, 0, none⟩)), (41, .int .i64 1), (13, .int .i64 1), (14, .bool true), (7, .int .i64 z1)]) (fun (z1 : Int) => [(1, .blk B1 (.cells #[.int .u8 a.r, .int .u8 a.g, .int .u8 a.b, .int .u8 a.a] 27)), (2, .blk B2 (.cells #[.int .u8 b.r, .int .u8 b.g, .int .u8 b.b, .int .u8 b.a] 27)), (3, .blk Bx4 (.cells #[.int .i64 a.r, .int .i64 a.g, .int .i64 a.b, .int .i64 a.a] 61)), (4, .blk Bx5 (.cells #[.int .i64 b.r, .int .i64 b.g, .int .i64 b.b, .int .i64 b.a] 61))]) ?_ ?_
      · skip
        refine T_block ?_
        refine T_seq (T_region ?_)
        refine TL_q (.int .i64 1) (fun _ _ hρ _ => r_move (hρ _ _ rfl)) rfl rfl rfl (w_n rfl) ?_
        refine TL_q (.int .i64 1) (fun _ _ hρ _ => r_assign (hρ _ _ rfl)) rfl rfl rfl (w_n rfl) ?_
        refine TL_seq ?_
        refine T_seq (T_draw (V := [(0, .int .i64 1), (1, .pointer (some ⟨Bx4, 1, none⟩)), (2, .int .i64 a.g), (3, .int .i64 1), (4, .pointer (some ⟨Bx5, 1, none⟩)), (5, .int .i64 b.g), (6, .bool (decide (b.g < a.g)))]) [0, 1, 3, 0, 8, 24, 63] [[(8, none)], [(5, none), (16, some 0)], [(17, some 1)], [(8, none)], [(6, none), (19, some 3)], [(20, some 4)], [(18, some 2), (21, some 5)]] 0 mixed (by kernel_rfl) ?_)
        refine G_last [0, 1, 2, 3, 4, 5, 6] [(4, .int .i64 0), (5, .pointer (some ⟨Bx4, 0, none⟩)), (6, .pointer (some ⟨Bx5, 0, none⟩)), (7, .int .i64 z0), (41, .int .i64 1), (13, .int .i64 1), (14, .bool true), (15, .int .i64 1), (8, .int .i64 1), (16, .int .i64 1), (17, .pointer (some ⟨Bx4, 1, none⟩)), (18, .int .i64 a.g), (19, .int .i64 1), (20, .pointer (some ⟨Bx5, 1, none⟩)), (21, .int .i64 b.g), (22, .bool (decide (b.g < a.g)))] (by kernel_rfl) (allM (all_cons (q_run (.int .i64 1) rfl rfl (wv_n rfl) rfl (fun _ _ hρ _ => r_move (hρ _ _ rfl))) (all_cons (q_run (.pointer (some ⟨Bx4, 1, none⟩)) rfl rfl (wv_n rfl) rfl (fun _ _ hρ _ => r_indexAddrA (i := 1) ar61 sz3 (hρ _ _ rfl) (hρ _ _ rfl) (by decide))) (all_cons (q_run (.int .i64 a.g) rfl rfl (wv_n rfl) rfl (fun _ _ hρ hm => r_load ag3 (hρ _ _ rfl) (hm.at 3 rfl) rfl)) (all_cons (q_run (.int .i64 1) rfl rfl (wv_n rfl) rfl (fun _ _ hρ _ => r_move (hρ _ _ rfl))) (all_cons (q_run (.pointer (some ⟨Bx5, 1, none⟩)) rfl rfl (wv_n rfl) rfl (fun _ _ hρ _ => r_indexAddrA (i := 1) ar61 sz3 (hρ _ _ rfl) (hρ _ _ rfl) (by decide))) (all_cons (q_run (.int .i64 b.g) rfl rfl (wv_n rfl) rfl (fun _ _ hρ hm => r_load ag3 (hρ _ _ rfl) (hm.at 4 rfl) rfl)) (all_cons (q_run (.bool (decide (b.g < a.g))) rfl rfl (wv_n rfl) rfl (fun _ _ hρ _ => r_gtr (hρ _ _ rfl) (hρ _ _ rfl))) all_nil)))))))) (end_old rfl rfl (end_old rfl rfl (end_old rfl rfl (end_old rfl rfl (end_old rfl rfl (end_old rfl rfl (end_old rfl rfl (end_old rfl rfl (end_old rfl rfl (end_new 0 rfl rfl (end_new 1 rfl rfl (end_new 2 rfl rfl (end_new 3 rfl rfl (end_new 4 rfl rfl (end_new 5 rfl rfl (end_new 6 rfl rfl end_nil)))))))))))))))) ?_
        refine T_cond rfl (fun h2 => ?_) (fun h2 => ?_)
        · replace h2 := of_decide_eq_true h2
          refine T_draw (V := [(0, .int .i64 z0), (1, .int .i64 1), (2, .pointer (some ⟨Bx4, 1, none⟩)), (3, .int .i64 a.g), (4, .int .i64 (z0 + a.g)), (5, .int .i64 1), (6, .pointer (some ⟨Bx5, 1, none⟩)), (7, .int .i64 b.g), (8, .int .i64 (z0 + a.g - b.g)), (9, .int .i64 (z0 + a.g - b.g))]) [0, 0, 2, 6, 15, 0, 32, 96, 255, 511] [[(7, none)], [(8, none)], [(5, none), (24, some 1)], [(25, some 2)], [(23, some 0), (26, some 3)], [(8, none)], [(6, none), (28, some 5)], [(29, some 6)], [(27, some 4), (30, some 7)], [(31, some 8)]] 0 mixed (by kernel_rfl) ?_
          refine G_lastQ [0, 1, 2, 3, 4, 5, 6, 7, 8, 9] [(4, .int .i64 0), (5, .pointer (some ⟨Bx4, 0, none⟩)), (6, .pointer (some ⟨Bx5, 0, none⟩)), (41, .int .i64 1), (13, .int .i64 1), (14, .bool true), (15, .int .i64 1), (8, .int .i64 1), (16, .int .i64 1), (17, .pointer (some ⟨Bx4, 1, none⟩)), (18, .int .i64 a.g), (19, .int .i64 1), (20, .pointer (some ⟨Bx5, 1, none⟩)), (21, .int .i64 b.g), (22, .bool (decide (b.g < a.g))), (23, .int .i64 z0), (24, .int .i64 1), (25, .pointer (some ⟨Bx4, 1, none⟩)), (26, .int .i64 a.g), (27, .int .i64 (z0 + a.g)), (28, .int .i64 1), (29, .pointer (some ⟨Bx5, 1, none⟩)), (30, .int .i64 b.g), (31, .int .i64 (z0 + a.g - b.g)), (7, .int .i64 (z0 + a.g - b.g))] (by kernel_rfl) (allM (all_cons (q_run (.int .i64 z0) rfl rfl (wv_n rfl) rfl (fun _ _ hρ _ => r_move (hρ _ _ rfl))) (all_cons (q_run (.int .i64 1) rfl rfl (wv_n rfl) rfl (fun _ _ hρ _ => r_move (hρ _ _ rfl))) (all_cons (q_run (.pointer (some ⟨Bx4, 1, none⟩)) rfl rfl (wv_n rfl) rfl (fun _ _ hρ _ => r_indexAddrA (i := 1) ar61 sz3 (hρ _ _ rfl) (hρ _ _ rfl) (by decide))) (all_cons (q_run (.int .i64 a.g) rfl rfl (wv_n rfl) rfl (fun _ _ hρ hm => r_load ag3 (hρ _ _ rfl) (hm.at 3 rfl) rfl)) (all_cons (q_run (.int .i64 (z0 + a.g)) rfl rfl (wv_n rfl) rfl (fun _ _ hρ _ => r_as (r_add (hρ _ _ rfl) (hρ _ _ rfl)) (int_as (wrap64 (by omega) (by omega))))) (all_cons (q_run (.int .i64 1) rfl rfl (wv_n rfl) rfl (fun _ _ hρ _ => r_move (hρ _ _ rfl))) (all_cons (q_run (.pointer (some ⟨Bx5, 1, none⟩)) rfl rfl (wv_n rfl) rfl (fun _ _ hρ _ => r_indexAddrA (i := 1) ar61 sz3 (hρ _ _ rfl) (hρ _ _ rfl) (by decide))) (all_cons (q_run (.int .i64 b.g) rfl rfl (wv_n rfl) rfl (fun _ _ hρ hm => r_load ag3 (hρ _ _ rfl) (hm.at 4 rfl) rfl)) (all_cons (q_run (.int .i64 (z0 + a.g - b.g)) rfl rfl (wv_n rfl) rfl (fun _ _ hρ _ => r_as (r_sub (hρ _ _ rfl) (hρ _ _ rfl)) (int_as (wrap64 (by omega) (by omega))))) (all_cons (q_run (.int .i64 (z0 + a.g - b.g)) rfl rfl (wv_n rfl) rfl (fun _ _ hρ _ => r_assign (hρ _ _ rfl))) all_nil))))))))))) (end_old rfl rfl (end_old rfl rfl (end_old rfl rfl (end_old rfl rfl (end_old rfl rfl (end_old rfl rfl (end_old rfl rfl (end_old rfl rfl (end_old rfl rfl (end_old rfl rfl (end_old rfl rfl (end_old rfl rfl (end_old rfl rfl (end_old rfl rfl (end_old rfl rfl (end_new 0 rfl rfl (end_new 1 rfl rfl (end_new 2 rfl rfl (end_new 3 rfl rfl (end_new 4 rfl rfl (end_new 5 rfl rfl (end_new 6 rfl rfl (end_new 7 rfl rfl (end_new 8 rfl rfl (end_new 9 rfl rfl end_nil))))))))))))))))))))))))) ?_
          refine p_blk_n ?_
          exact p_at (z0 + a.g - b.g) ⟨by omega, by omega, by omega⟩ (sub_cons rfl (sub_cons rfl (sub_cons rfl (sub_cons rfl (sub_cons rfl (sub_cons rfl (sub_cons rfl sub_nil))))))) (sub_cons rfl (sub_cons rfl (sub_cons rfl (sub_cons rfl sub_nil))))
        · replace h2 := of_decide_eq_false h2
          refine T_draw (V := [(0, .int .i64 z0), (1, .int .i64 1), (2, .pointer (some ⟨Bx5, 1, none⟩)), (3, .int .i64 b.g), (4, .int .i64 (z0 + b.g)), (5, .int .i64 1), (6, .pointer (some ⟨Bx4, 1, none⟩)), (7, .int .i64 a.g), (8, .int .i64 (z0 + b.g - a.g)), (9, .int .i64 (z0 + b.g - a.g))]) [0, 0, 2, 6, 15, 0, 32, 96, 255, 511] [[(7, none)], [(8, none)], [(6, none), (33, some 1)], [(34, some 2)], [(32, some 0), (35, some 3)], [(8, none)], [(5, none), (37, some 5)], [(38, some 6)], [(36, some 4), (39, some 7)], [(40, some 8)]] 0 mixed (by kernel_rfl) ?_
          refine G_lastQ [0, 1, 2, 3, 4, 5, 6, 7, 8, 9] [(4, .int .i64 0), (5, .pointer (some ⟨Bx4, 0, none⟩)), (6, .pointer (some ⟨Bx5, 0, none⟩)), (41, .int .i64 1), (13, .int .i64 1), (14, .bool true), (15, .int .i64 1), (8, .int .i64 1), (16, .int .i64 1), (17, .pointer (some ⟨Bx4, 1, none⟩)), (18, .int .i64 a.g), (19, .int .i64 1), (20, .pointer (some ⟨Bx5, 1, none⟩)), (21, .int .i64 b.g), (22, .bool (decide (b.g < a.g))), (32, .int .i64 z0), (33, .int .i64 1), (34, .pointer (some ⟨Bx5, 1, none⟩)), (35, .int .i64 b.g), (36, .int .i64 (z0 + b.g)), (37, .int .i64 1), (38, .pointer (some ⟨Bx4, 1, none⟩)), (39, .int .i64 a.g), (40, .int .i64 (z0 + b.g - a.g)), (7, .int .i64 (z0 + b.g - a.g))] (by kernel_rfl) (allM (all_cons (q_run (.int .i64 z0) rfl rfl (wv_n rfl) rfl (fun _ _ hρ _ => r_move (hρ _ _ rfl))) (all_cons (q_run (.int .i64 1) rfl rfl (wv_n rfl) rfl (fun _ _ hρ _ => r_move (hρ _ _ rfl))) (all_cons (q_run (.pointer (some ⟨Bx5, 1, none⟩)) rfl rfl (wv_n rfl) rfl (fun _ _ hρ _ => r_indexAddrA (i := 1) ar61 sz3 (hρ _ _ rfl) (hρ _ _ rfl) (by decide))) (all_cons (q_run (.int .i64 b.g) rfl rfl (wv_n rfl) rfl (fun _ _ hρ hm => r_load ag3 (hρ _ _ rfl) (hm.at 4 rfl) rfl)) (all_cons (q_run (.int .i64 (z0 + b.g)) rfl rfl (wv_n rfl) rfl (fun _ _ hρ _ => r_as (r_add (hρ _ _ rfl) (hρ _ _ rfl)) (int_as (wrap64 (by omega) (by omega))))) (all_cons (q_run (.int .i64 1) rfl rfl (wv_n rfl) rfl (fun _ _ hρ _ => r_move (hρ _ _ rfl))) (all_cons (q_run (.pointer (some ⟨Bx4, 1, none⟩)) rfl rfl (wv_n rfl) rfl (fun _ _ hρ _ => r_indexAddrA (i := 1) ar61 sz3 (hρ _ _ rfl) (hρ _ _ rfl) (by decide))) (all_cons (q_run (.int .i64 a.g) rfl rfl (wv_n rfl) rfl (fun _ _ hρ hm => r_load ag3 (hρ _ _ rfl) (hm.at 3 rfl) rfl)) (all_cons (q_run (.int .i64 (z0 + b.g - a.g)) rfl rfl (wv_n rfl) rfl (fun _ _ hρ _ => r_as (r_sub (hρ _ _ rfl) (hρ _ _ rfl)) (int_as (wrap64 (by omega) (by omega))))) (all_cons (q_run (.int .i64 (z0 + b.g - a.g)) rfl rfl (wv_n rfl) rfl (fun _ _ hρ _ => r_assign (hρ _ _ rfl))) all_nil))))))))))) (end_old rfl rfl (end_old rfl rfl (end_old rfl rfl (end_old rfl rfl (end_old rfl rfl (end_old rfl rfl (end_old rfl rfl (end_old rfl rfl (end_old rfl rfl (end_old rfl rfl (end_old rfl rfl (end_old rfl rfl (end_old rfl rfl (end_old rfl rfl (end_old rfl rfl (end_new 0 rfl rfl (end_new 1 rfl rfl (end_new 2 rfl rfl (end_new 3 rfl rfl (end_new 4 rfl rfl (end_new 5 rfl rfl (end_new 6 rfl rfl (end_new 7 rfl rfl (end_new 8 rfl rfl (end_new 9 rfl rfl end_nil))))))))))))))))))))))))) ?_
          refine p_blk_n ?_
          exact p_at (z0 + b.g - a.g) ⟨by omega, by omega, by omega⟩ (sub_cons rfl (sub_cons rfl (sub_cons rfl (sub_cons rfl (sub_cons rfl (sub_cons rfl (sub_cons rfl sub_nil))))))) (sub_cons rfl (sub_cons rfl (sub_cons rfl (sub_cons rfl sub_nil))))
      · skip
        rintro z1 ⟨hz1, hq1, hr1⟩
        show T _ _ _ [(4, .int .i64 0), (5, .pointer (some ⟨Bx4, 0, none⟩)), (6, .pointer (some ⟨Bx5, 0, none⟩)), (41, .int .i64 1), (13, .int .i64 1), (14, .bool true), (7, .int .i64 z1)] [(1, .blk B1 (.cells #[.int .u8 a.r, .int .u8 a.g, .int .u8 a.b, .int .u8 a.a] 27)), (2, .blk B2 (.cells #[.int .u8 b.r, .int .u8 b.g, .int .u8 b.b, .int .u8 b.a] 27)), (3, .blk Bx4 (.cells #[.int .i64 a.r, .int .i64 a.g, .int .i64 a.b, .int .i64 a.a] 61)), (4, .blk Bx5 (.cells #[.int .i64 b.r, .int .i64 b.g, .int .i64 b.b, .int .i64 b.a] 61))]
        refine T_region ?_
        refine TL_q (.int .i64 2) (fun _ _ hρ _ => r_as (r_add (hρ _ _ rfl) (hρ _ _ rfl)) (by rfl)) rfl rfl rfl (w_n rfl) ?_
        refine TL_q (.int .i64 2) (fun _ _ hρ _ => r_move (hρ _ _ rfl)) rfl rfl rfl (w_n rfl) ?_
        refine TL_nil ?_
        refine p_round ?_
        refine TR_succ ?_
        refine T_seq (T_region ?_)
        refine TL_q (.bool true) (fun _ _ hρ _ => r_as (r_lss (hρ _ _ rfl) (hρ _ _ rfl)) (by rfl)) rfl rfl rfl (w_n rfl) ?_
        refine TL_seq ?_
        refine T_seq ?_
        refine T_cond_t rfl ?_
        refine T_skip' ?_
        refine p_seq ?_
        have e2 := dI_eq a.b b.b
        refine T_join (ι := Int) (fun (z2 : Int) => z2 = z1 + dI a.b b.b ∧ 0 ≤ z2 ∧ z2 ≤ 765) (fun (z2 : Int) => [(4, .int .i64 0), (5, .pointer (some ⟨Bx4, 0, none⟩)), (6, .pointer (some ⟨Bx5, 0, none⟩)), (41, .int .i64 2), (13, .int .i64 2), (14, .bool true), (7, .int .i64 z2)]) (fun (z2 : Int) => [(1, .blk B1 (.cells #[.int .u8 a.r, .int .u8 a.g, .int .u8 a.b, .int .u8 a.a] 27)), (2, .blk B2 (.cells #[.int .u8 b.r, .int .u8 b.g, .int .u8 b.b, .int .u8 b.a] 27)), (3, .blk Bx4 (.cells #[.int .i64 a.r, .int .i64 a.g, .int .i64 a.b, .int .i64 a.a] 61)), (4, .blk Bx5 (.cells #[.int .i64 b.r, .int .i64 b.g, .int .i64 b.b, .int .i64 b.a] 61))]) ?_ ?_
        · skip
          refine T_block ?_
          refine T_seq (T_region ?_)
          refine TL_q (.int .i64 2) (fun _ _ hρ _ => r_move (hρ _ _ rfl)) rfl rfl rfl (w_n rfl) ?_
          refine TL_q (.int .i64 2) (fun _ _ hρ _ => r_assign (hρ _ _ rfl)) rfl rfl rfl (w_n rfl) ?_
          refine TL_seq ?_
          refine T_seq (T_draw (V := [(0, .int .i64 2), (1, .pointer (some ⟨Bx4, 2, none⟩)), (2, .int .i64 a.b), (3, .int .i64 2), (4, .pointer (some ⟨Bx5, 2, none⟩)), (5, .int .i64 b.b), (6, .bool (decide (b.b < a.b)))]) [0, 1, 3, 0, 8, 24, 63] [[(8, none)], [(5, none), (16, some 0)], [(17, some 1)], [(8, none)], [(6, none), (19, some 3)], [(20, some 4)], [(18, some 2), (21, some 5)]] 0 mixed (by kernel_rfl) ?_)
          refine G_last [0, 1, 2, 3, 4, 5, 6] [(4, .int .i64 0), (5, .pointer (some ⟨Bx4, 0, none⟩)), (6, .pointer (some ⟨Bx5, 0, none⟩)), (7, .int .i64 z1), (41, .int .i64 2), (13, .int .i64 2), (14, .bool true), (15, .int .i64 2), (8, .int .i64 2), (16, .int .i64 2), (17, .pointer (some ⟨Bx4, 2, none⟩)), (18, .int .i64 a.b), (19, .int .i64 2), (20, .pointer (some ⟨Bx5, 2, none⟩)), (21, .int .i64 b.b), (22, .bool (decide (b.b < a.b)))] (by kernel_rfl) (allM (all_cons (q_run (.int .i64 2) rfl rfl (wv_n rfl) rfl (fun _ _ hρ _ => r_move (hρ _ _ rfl))) (all_cons (q_run (.pointer (some ⟨Bx4, 2, none⟩)) rfl rfl (wv_n rfl) rfl (fun _ _ hρ _ => r_indexAddrA (i := 2) ar61 sz3 (hρ _ _ rfl) (hρ _ _ rfl) (by decide))) (all_cons (q_run (.int .i64 a.b) rfl rfl (wv_n rfl) rfl (fun _ _ hρ hm => r_load ag3 (hρ _ _ rfl) (hm.at 3 rfl) rfl)) (all_cons (q_run (.int .i64 2) rfl rfl (wv_n rfl) rfl (fun _ _ hρ _ => r_move (hρ _ _ rfl))) (all_cons (q_run (.pointer (some ⟨Bx5, 2, none⟩)) rfl rfl (wv_n rfl) rfl (fun _ _ hρ _ => r_indexAddrA (i := 2) ar61 sz3 (hρ _ _ rfl) (hρ _ _ rfl) (by decide))) (all_cons (q_run (.int .i64 b.b) rfl rfl (wv_n rfl) rfl (fun _ _ hρ hm => r_load ag3 (hρ _ _ rfl) (hm.at 4 rfl) rfl)) (all_cons (q_run (.bool (decide (b.b < a.b))) rfl rfl (wv_n rfl) rfl (fun _ _ hρ _ => r_gtr (hρ _ _ rfl) (hρ _ _ rfl))) all_nil)))))))) (end_old rfl rfl (end_old rfl rfl (end_old rfl rfl (end_old rfl rfl (end_old rfl rfl (end_old rfl rfl (end_old rfl rfl (end_old rfl rfl (end_old rfl rfl (end_new 0 rfl rfl (end_new 1 rfl rfl (end_new 2 rfl rfl (end_new 3 rfl rfl (end_new 4 rfl rfl (end_new 5 rfl rfl (end_new 6 rfl rfl end_nil)))))))))))))))) ?_
          refine T_cond rfl (fun h3 => ?_) (fun h3 => ?_)
          · replace h3 := of_decide_eq_true h3
            refine T_draw (V := [(0, .int .i64 z1), (1, .int .i64 2), (2, .pointer (some ⟨Bx4, 2, none⟩)), (3, .int .i64 a.b), (4, .int .i64 (z1 + a.b)), (5, .int .i64 2), (6, .pointer (some ⟨Bx5, 2, none⟩)), (7, .int .i64 b.b), (8, .int .i64 (z1 + a.b - b.b)), (9, .int .i64 (z1 + a.b - b.b))]) [0, 0, 2, 6, 15, 0, 32, 96, 255, 511] [[(7, none)], [(8, none)], [(5, none), (24, some 1)], [(25, some 2)], [(23, some 0), (26, some 3)], [(8, none)], [(6, none), (28, some 5)], [(29, some 6)], [(27, some 4), (30, some 7)], [(31, some 8)]] 0 mixed (by kernel_rfl) ?_
            refine G_lastQ [0, 1, 2, 3, 4, 5, 6, 7, 8, 9] [(4, .int .i64 0), (5, .pointer (some ⟨Bx4, 0, none⟩)), (6, .pointer (some ⟨Bx5, 0, none⟩)), (41, .int .i64 2), (13, .int .i64 2), (14, .bool true), (15, .int .i64 2), (8, .int .i64 2), (16, .int .i64 2), (17, .pointer (some ⟨Bx4, 2, none⟩)), (18, .int .i64 a.b), (19, .int .i64 2), (20, .pointer (some ⟨Bx5, 2, none⟩)), (21, .int .i64 b.b), (22, .bool (decide (b.b < a.b))), (23, .int .i64 z1), (24, .int .i64 2), (25, .pointer (some ⟨Bx4, 2, none⟩)), (26, .int .i64 a.b), (27, .int .i64 (z1 + a.b)), (28, .int .i64 2), (29, .pointer (some ⟨Bx5, 2, none⟩)), (30, .int .i64 b.b), (31, .int .i64 (z1 + a.b - b.b)), (7, .int .i64 (z1 + a.b - b.b))] (by kernel_rfl) (allM (all_cons (q_run (.int .i64 z1) rfl rfl (wv_n rfl) rfl (fun _ _ hρ _ => r_move (hρ _ _ rfl))) (all_cons (q_run (.int .i64 2) rfl rfl (wv_n rfl) rfl (fun _ _ hρ _ => r_move (hρ _ _ rfl))) (all_cons (q_run (.pointer (some ⟨Bx4, 2, none⟩)) rfl rfl (wv_n rfl) rfl (fun _ _ hρ _ => r_indexAddrA (i := 2) ar61 sz3 (hρ _ _ rfl) (hρ _ _ rfl) (by decide))) (all_cons (q_run (.int .i64 a.b) rfl rfl (wv_n rfl) rfl (fun _ _ hρ hm => r_load ag3 (hρ _ _ rfl) (hm.at 3 rfl) rfl)) (all_cons (q_run (.int .i64 (z1 + a.b)) rfl rfl (wv_n rfl) rfl (fun _ _ hρ _ => r_as (r_add (hρ _ _ rfl) (hρ _ _ rfl)) (int_as (wrap64 (by omega) (by omega))))) (all_cons (q_run (.int .i64 2) rfl rfl (wv_n rfl) rfl (fun _ _ hρ _ => r_move (hρ _ _ rfl))) (all_cons (q_run (.pointer (some ⟨Bx5, 2, none⟩)) rfl rfl (wv_n rfl) rfl (fun _ _ hρ _ => r_indexAddrA (i := 2) ar61 sz3 (hρ _ _ rfl) (hρ _ _ rfl) (by decide))) (all_cons (q_run (.int .i64 b.b) rfl rfl (wv_n rfl) rfl (fun _ _ hρ hm => r_load ag3 (hρ _ _ rfl) (hm.at 4 rfl) rfl)) (all_cons (q_run (.int .i64 (z1 + a.b - b.b)) rfl rfl (wv_n rfl) rfl (fun _ _ hρ _ => r_as (r_sub (hρ _ _ rfl) (hρ _ _ rfl)) (int_as (wrap64 (by omega) (by omega))))) (all_cons (q_run (.int .i64 (z1 + a.b - b.b)) rfl rfl (wv_n rfl) rfl (fun _ _ hρ _ => r_assign (hρ _ _ rfl))) all_nil))))))))))) (end_old rfl rfl (end_old rfl rfl (end_old rfl rfl (end_old rfl rfl (end_old rfl rfl (end_old rfl rfl (end_old rfl rfl (end_old rfl rfl (end_old rfl rfl (end_old rfl rfl (end_old rfl rfl (end_old rfl rfl (end_old rfl rfl (end_old rfl rfl (end_old rfl rfl (end_new 0 rfl rfl (end_new 1 rfl rfl (end_new 2 rfl rfl (end_new 3 rfl rfl (end_new 4 rfl rfl (end_new 5 rfl rfl (end_new 6 rfl rfl (end_new 7 rfl rfl (end_new 8 rfl rfl (end_new 9 rfl rfl end_nil))))))))))))))))))))))))) ?_
            refine p_blk_n ?_
            exact p_at (z1 + a.b - b.b) ⟨by omega, by omega, by omega⟩ (sub_cons rfl (sub_cons rfl (sub_cons rfl (sub_cons rfl (sub_cons rfl (sub_cons rfl (sub_cons rfl sub_nil))))))) (sub_cons rfl (sub_cons rfl (sub_cons rfl (sub_cons rfl sub_nil))))
          · replace h3 := of_decide_eq_false h3
            refine T_draw (V := [(0, .int .i64 z1), (1, .int .i64 2), (2, .pointer (some ⟨Bx5, 2, none⟩)), (3, .int .i64 b.b), (4, .int .i64 (z1 + b.b)), (5, .int .i64 2), (6, .pointer (some ⟨Bx4, 2, none⟩)), (7, .int .i64 a.b), (8, .int .i64 (z1 + b.b - a.b)), (9, .int .i64 (z1 + b.b - a.b))]) [0, 0, 2, 6, 15, 0, 32, 96, 255, 511] [[(7, none)], [(8, none)], [(6, none), (33, some 1)], [(34, some 2)], [(32, some 0), (35, some 3)], [(8, none)], [(5, none), (37, some 5)], [(38, some 6)], [(36, some 4), (39, some 7)], [(40, some 8)]] 0 mixed (by kernel_rfl) ?_
            refine G_lastQ [0, 1, 2, 3, 4, 5, 6, 7, 8, 9] [(4, .int .i64 0), (5, .pointer (some ⟨Bx4, 0, none⟩)), (6, .pointer (some ⟨Bx5, 0, none⟩)), (41, .int .i64 2), (13, .int .i64 2), (14, .bool true), (15, .int .i64 2), (8, .int .i64 2), (16, .int .i64 2), (17, .pointer (some ⟨Bx4, 2, none⟩)), (18, .int .i64 a.b), (19, .int .i64 2), (20, .pointer (some ⟨Bx5, 2, none⟩)), (21, .int .i64 b.b), (22, .bool (decide (b.b < a.b))), (32, .int .i64 z1), (33, .int .i64 2), (34, .pointer (some ⟨Bx5, 2, none⟩)), (35, .int .i64 b.b), (36, .int .i64 (z1 + b.b)), (37, .int .i64 2), (38, .pointer (some ⟨Bx4, 2, none⟩)), (39, .int .i64 a.b), (40, .int .i64 (z1 + b.b - a.b)), (7, .int .i64 (z1 + b.b - a.b))] (by kernel_rfl) (allM (all_cons (q_run (.int .i64 z1) rfl rfl (wv_n rfl) rfl (fun _ _ hρ _ => r_move (hρ _ _ rfl))) (all_cons (q_run (.int .i64 2) rfl rfl (wv_n rfl) rfl (fun _ _ hρ _ => r_move (hρ _ _ rfl))) (all_cons (q_run (.pointer (some ⟨Bx5, 2, none⟩)) rfl rfl (wv_n rfl) rfl (fun _ _ hρ _ => r_indexAddrA (i := 2) ar61 sz3 (hρ _ _ rfl) (hρ _ _ rfl) (by decide))) (all_cons (q_run (.int .i64 b.b) rfl rfl (wv_n rfl) rfl (fun _ _ hρ hm => r_load ag3 (hρ _ _ rfl) (hm.at 4 rfl) rfl)) (all_cons (q_run (.int .i64 (z1 + b.b)) rfl rfl (wv_n rfl) rfl (fun _ _ hρ _ => r_as (r_add (hρ _ _ rfl) (hρ _ _ rfl)) (int_as (wrap64 (by omega) (by omega))))) (all_cons (q_run (.int .i64 2) rfl rfl (wv_n rfl) rfl (fun _ _ hρ _ => r_move (hρ _ _ rfl))) (all_cons (q_run (.pointer (some ⟨Bx4, 2, none⟩)) rfl rfl (wv_n rfl) rfl (fun _ _ hρ _ => r_indexAddrA (i := 2) ar61 sz3 (hρ _ _ rfl) (hρ _ _ rfl) (by decide))) (all_cons (q_run (.int .i64 a.b) rfl rfl (wv_n rfl) rfl (fun _ _ hρ hm => r_load ag3 (hρ _ _ rfl) (hm.at 3 rfl) rfl)) (all_cons (q_run (.int .i64 (z1 + b.b - a.b)) rfl rfl (wv_n rfl) rfl (fun _ _ hρ _ => r_as (r_sub (hρ _ _ rfl) (hρ _ _ rfl)) (int_as (wrap64 (by omega) (by omega))))) (all_cons (q_run (.int .i64 (z1 + b.b - a.b)) rfl rfl (wv_n rfl) rfl (fun _ _ hρ _ => r_assign (hρ _ _ rfl))) all_nil))))))))))) (end_old rfl rfl (end_old rfl rfl (end_old rfl rfl (end_old rfl rfl (end_old rfl rfl (end_old rfl rfl (end_old rfl rfl (end_old rfl rfl (end_old rfl rfl (end_old rfl rfl (end_old rfl rfl (end_old rfl rfl (end_old rfl rfl (end_old rfl rfl (end_old rfl rfl (end_new 0 rfl rfl (end_new 1 rfl rfl (end_new 2 rfl rfl (end_new 3 rfl rfl (end_new 4 rfl rfl (end_new 5 rfl rfl (end_new 6 rfl rfl (end_new 7 rfl rfl (end_new 8 rfl rfl (end_new 9 rfl rfl end_nil))))))))))))))))))))))))) ?_
            refine p_blk_n ?_
            exact p_at (z1 + b.b - a.b) ⟨by omega, by omega, by omega⟩ (sub_cons rfl (sub_cons rfl (sub_cons rfl (sub_cons rfl (sub_cons rfl (sub_cons rfl (sub_cons rfl sub_nil))))))) (sub_cons rfl (sub_cons rfl (sub_cons rfl (sub_cons rfl sub_nil))))
        · skip
          rintro z2 ⟨hz2, hq2, hr2⟩
          show T _ _ _ [(4, .int .i64 0), (5, .pointer (some ⟨Bx4, 0, none⟩)), (6, .pointer (some ⟨Bx5, 0, none⟩)), (41, .int .i64 2), (13, .int .i64 2), (14, .bool true), (7, .int .i64 z2)] [(1, .blk B1 (.cells #[.int .u8 a.r, .int .u8 a.g, .int .u8 a.b, .int .u8 a.a] 27)), (2, .blk B2 (.cells #[.int .u8 b.r, .int .u8 b.g, .int .u8 b.b, .int .u8 b.a] 27)), (3, .blk Bx4 (.cells #[.int .i64 a.r, .int .i64 a.g, .int .i64 a.b, .int .i64 a.a] 61)), (4, .blk Bx5 (.cells #[.int .i64 b.r, .int .i64 b.g, .int .i64 b.b, .int .i64 b.a] 61))]
          refine T_region ?_
          refine TL_q (.int .i64 3) (fun _ _ hρ _ => r_as (r_add (hρ _ _ rfl) (hρ _ _ rfl)) (by rfl)) rfl rfl rfl (w_n rfl) ?_
          refine TL_q (.int .i64 3) (fun _ _ hρ _ => r_move (hρ _ _ rfl)) rfl rfl rfl (w_n rfl) ?_
          refine TL_nil ?_
          refine p_round ?_
          refine TR_succ ?_
          refine T_seq (T_region ?_)
          refine TL_q (.bool true) (fun _ _ hρ _ => r_as (r_lss (hρ _ _ rfl) (hρ _ _ rfl)) (by rfl)) rfl rfl rfl (w_n rfl) ?_
          refine TL_seq ?_
          refine T_seq ?_
          refine T_cond_t rfl ?_
          refine T_skip' ?_
          refine p_seq ?_
          have e3 := dI_eq a.a b.a
          refine T_join (ι := Int) (fun (z3 : Int) => z3 = z2 + dI a.a b.a ∧ 0 ≤ z3 ∧ z3 ≤ 1020) (fun (z3 : Int) => [(4, .int .i64 0), (5, .pointer (some ⟨Bx4, 0, none⟩)), (6, .pointer (some ⟨Bx5, 0, none⟩)), (41, .int .i64 3), (13, .int .i64 3), (14, .bool true), (7, .int .i64 z3)]) (fun (z3 : Int) => [(1, .blk B1 (.cells #[.int .u8 a.r, .int .u8 a.g, .int .u8 a.b, .int .u8 a.a] 27)), (2, .blk B2 (.cells #[.int .u8 b.r, .int .u8 b.g, .int .u8 b.b, .int .u8 b.a] 27)), (3, .blk Bx4 (.cells #[.int .i64 a.r, .int .i64 a.g, .int .i64 a.b, .int .i64 a.a] 61)), (4, .blk Bx5 (.cells #[.int .i64 b.r, .int .i64 b.g, .int .i64 b.b, .int .i64 b.a] 61))]) ?_ ?_
          · skip
            refine T_block ?_
            refine T_seq (T_region ?_)
            refine TL_q (.int .i64 3) (fun _ _ hρ _ => r_move (hρ _ _ rfl)) rfl rfl rfl (w_n rfl) ?_
            refine TL_q (.int .i64 3) (fun _ _ hρ _ => r_assign (hρ _ _ rfl)) rfl rfl rfl (w_n rfl) ?_
            refine TL_seq ?_
            refine T_seq (T_draw (V := [(0, .int .i64 3), (1, .pointer (some ⟨Bx4, 3, none⟩)), (2, .int .i64 a.a), (3, .int .i64 3), (4, .pointer (some ⟨Bx5, 3, none⟩)), (5, .int .i64 b.a), (6, .bool (decide (b.a < a.a)))]) [0, 1, 3, 0, 8, 24, 63] [[(8, none)], [(5, none), (16, some 0)], [(17, some 1)], [(8, none)], [(6, none), (19, some 3)], [(20, some 4)], [(18, some 2), (21, some 5)]] 0 mixed (by kernel_rfl) ?_)
            refine G_last [0, 1, 2, 3, 4, 5, 6] [(4, .int .i64 0), (5, .pointer (some ⟨Bx4, 0, none⟩)), (6, .pointer (some ⟨Bx5, 0, none⟩)), (7, .int .i64 z2), (41, .int .i64 3), (13, .int .i64 3), (14, .bool true), (15, .int .i64 3), (8, .int .i64 3), (16, .int .i64 3), (17, .pointer (some ⟨Bx4, 3, none⟩)), (18, .int .i64 a.a), (19, .int .i64 3), (20, .pointer (some ⟨Bx5, 3, none⟩)), (21, .int .i64 b.a), (22, .bool (decide (b.a < a.a)))] (by kernel_rfl) (allM (all_cons (q_run (.int .i64 3) rfl rfl (wv_n rfl) rfl (fun _ _ hρ _ => r_move (hρ _ _ rfl))) (all_cons (q_run (.pointer (some ⟨Bx4, 3, none⟩)) rfl rfl (wv_n rfl) rfl (fun _ _ hρ _ => r_indexAddrA (i := 3) ar61 sz3 (hρ _ _ rfl) (hρ _ _ rfl) (by decide))) (all_cons (q_run (.int .i64 a.a) rfl rfl (wv_n rfl) rfl (fun _ _ hρ hm => r_load ag3 (hρ _ _ rfl) (hm.at 3 rfl) rfl)) (all_cons (q_run (.int .i64 3) rfl rfl (wv_n rfl) rfl (fun _ _ hρ _ => r_move (hρ _ _ rfl))) (all_cons (q_run (.pointer (some ⟨Bx5, 3, none⟩)) rfl rfl (wv_n rfl) rfl (fun _ _ hρ _ => r_indexAddrA (i := 3) ar61 sz3 (hρ _ _ rfl) (hρ _ _ rfl) (by decide))) (all_cons (q_run (.int .i64 b.a) rfl rfl (wv_n rfl) rfl (fun _ _ hρ hm => r_load ag3 (hρ _ _ rfl) (hm.at 4 rfl) rfl)) (all_cons (q_run (.bool (decide (b.a < a.a))) rfl rfl (wv_n rfl) rfl (fun _ _ hρ _ => r_gtr (hρ _ _ rfl) (hρ _ _ rfl))) all_nil)))))))) (end_old rfl rfl (end_old rfl rfl (end_old rfl rfl (end_old rfl rfl (end_old rfl rfl (end_old rfl rfl (end_old rfl rfl (end_old rfl rfl (end_old rfl rfl (end_new 0 rfl rfl (end_new 1 rfl rfl (end_new 2 rfl rfl (end_new 3 rfl rfl (end_new 4 rfl rfl (end_new 5 rfl rfl (end_new 6 rfl rfl end_nil)))))))))))))))) ?_
            refine T_cond rfl (fun h4 => ?_) (fun h4 => ?_)
            · replace h4 := of_decide_eq_true h4
              refine T_draw (V := [(0, .int .i64 z2), (1, .int .i64 3), (2, .pointer (some ⟨Bx4, 3, none⟩)), (3, .int .i64 a.a), (4, .int .i64 (z2 + a.a)), (5, .int .i64 3), (6, .pointer (some ⟨Bx5, 3, none⟩)), (7, .int .i64 b.a), (8, .int .i64 (z2 + a.a - b.a)), (9, .int .i64 (z2 + a.a - b.a))]) [0, 0, 2, 6, 15, 0, 32, 96, 255, 511] [[(7, none)], [(8, none)], [(5, none), (24, some 1)], [(25, some 2)], [(23, some 0), (26, some 3)], [(8, none)], [(6, none), (28, some 5)], [(29, some 6)], [(27, some 4), (30, some 7)], [(31, some 8)]] 0 mixed (by kernel_rfl) ?_
              refine G_lastQ [0, 1, 2, 3, 4, 5, 6, 7, 8, 9] [(4, .int .i64 0), (5, .pointer (some ⟨Bx4, 0, none⟩)), (6, .pointer (some ⟨Bx5, 0, none⟩)), (41, .int .i64 3), (13, .int .i64 3), (14, .bool true), (15, .int .i64 3), (8, .int .i64 3), (16, .int .i64 3), (17, .pointer (some ⟨Bx4, 3, none⟩)), (18, .int .i64 a.a), (19, .int .i64 3), (20, .pointer (some ⟨Bx5, 3, none⟩)), (21, .int .i64 b.a), (22, .bool (decide (b.a < a.a))), (23, .int .i64 z2), (24, .int .i64 3), (25, .pointer (some ⟨Bx4, 3, none⟩)), (26, .int .i64 a.a), (27, .int .i64 (z2 + a.a)), (28, .int .i64 3), (29, .pointer (some ⟨Bx5, 3, none⟩)), (30, .int .i64 b.a), (31, .int .i64 (z2 + a.a - b.a)), (7, .int .i64 (z2 + a.a - b.a))] (by kernel_rfl) (allM (all_cons (q_run (.int .i64 z2) rfl rfl (wv_n rfl) rfl (fun _ _ hρ _ => r_move (hρ _ _ rfl))) (all_cons (q_run (.int .i64 3) rfl rfl (wv_n rfl) rfl (fun _ _ hρ _ => r_move (hρ _ _ rfl))) (all_cons (q_run (.pointer (some ⟨Bx4, 3, none⟩)) rfl rfl (wv_n rfl) rfl (fun _ _ hρ _ => r_indexAddrA (i := 3) ar61 sz3 (hρ _ _ rfl) (hρ _ _ rfl) (by decide))) (all_cons (q_run (.int .i64 a.a) rfl rfl (wv_n rfl) rfl (fun _ _ hρ hm => r_load ag3 (hρ _ _ rfl) (hm.at 3 rfl) rfl)) (all_cons (q_run (.int .i64 (z2 + a.a)) rfl rfl (wv_n rfl) rfl (fun _ _ hρ _ => r_as (r_add (hρ _ _ rfl) (hρ _ _ rfl)) (int_as (wrap64 (by omega) (by omega))))) (all_cons (q_run (.int .i64 3) rfl rfl (wv_n rfl) rfl (fun _ _ hρ _ => r_move (hρ _ _ rfl))) (all_cons (q_run (.pointer (some ⟨Bx5, 3, none⟩)) rfl rfl (wv_n rfl) rfl (fun _ _ hρ _ => r_indexAddrA (i := 3) ar61 sz3 (hρ _ _ rfl) (hρ _ _ rfl) (by decide))) (all_cons (q_run (.int .i64 b.a) rfl rfl (wv_n rfl) rfl (fun _ _ hρ hm => r_load ag3 (hρ _ _ rfl) (hm.at 4 rfl) rfl)) (all_cons (q_run (.int .i64 (z2 + a.a - b.a)) rfl rfl (wv_n rfl) rfl (fun _ _ hρ _ => r_as (r_sub (hρ _ _ rfl) (hρ _ _ rfl)) (int_as (wrap64 (by omega) (by omega))))) (all_cons (q_run (.int .i64 (z2 + a.a - b.a)) rfl rfl (wv_n rfl) rfl (fun _ _ hρ _ => r_assign (hρ _ _ rfl))) all_nil))))))))))) (end_old rfl rfl (end_old rfl rfl (end_old rfl rfl (end_old rfl rfl (end_old rfl rfl (end_old rfl rfl (end_old rfl rfl (end_old rfl rfl (end_old rfl rfl (end_old rfl rfl (end_old rfl rfl (end_old rfl rfl (end_old rfl rfl (end_old rfl rfl (end_old rfl rfl (end_new 0 rfl rfl (end_new 1 rfl rfl (end_new 2 rfl rfl (end_new 3 rfl rfl (end_new 4 rfl rfl (end_new 5 rfl rfl (end_new 6 rfl rfl (end_new 7 rfl rfl (end_new 8 rfl rfl (end_new 9 rfl rfl end_nil))))))))))))))))))))))))) ?_
              refine p_blk_n ?_
              exact p_at (z2 + a.a - b.a) ⟨by omega, by omega, by omega⟩ (sub_cons rfl (sub_cons rfl (sub_cons rfl (sub_cons rfl (sub_cons rfl (sub_cons rfl (sub_cons rfl sub_nil))))))) (sub_cons rfl (sub_cons rfl (sub_cons rfl (sub_cons rfl sub_nil))))
            · replace h4 := of_decide_eq_false h4
              refine T_draw (V := [(0, .int .i64 z2), (1, .int .i64 3), (2, .pointer (some ⟨Bx5, 3, none⟩)), (3, .int .i64 b.a), (4, .int .i64 (z2 + b.a)), (5, .int .i64 3), (6, .pointer (some ⟨Bx4, 3, none⟩)), (7, .int .i64 a.a), (8, .int .i64 (z2 + b.a - a.a)), (9, .int .i64 (z2 + b.a - a.a))]) [0, 0, 2, 6, 15, 0, 32, 96, 255, 511] [[(7, none)], [(8, none)], [(6, none), (33, some 1)], [(34, some 2)], [(32, some 0), (35, some 3)], [(8, none)], [(5, none), (37, some 5)], [(38, some 6)], [(36, some 4), (39, some 7)], [(40, some 8)]] 0 mixed (by kernel_rfl) ?_
              refine G_lastQ [0, 1, 2, 3, 4, 5, 6, 7, 8, 9] [(4, .int .i64 0), (5, .pointer (some ⟨Bx4, 0, none⟩)), (6, .pointer (some ⟨Bx5, 0, none⟩)), (41, .int .i64 3), (13, .int .i64 3), (14, .bool true), (15, .int .i64 3), (8, .int .i64 3), (16, .int .i64 3), (17, .pointer (some ⟨Bx4, 3, none⟩)), (18, .int .i64 a.a), (19, .int .i64 3), (20, .pointer (some ⟨Bx5, 3, none⟩)), (21, .int .i64 b.a), (22, .bool (decide (b.a < a.a))), (32, .int .i64 z2), (33, .int .i64 3), (34, .pointer (some ⟨Bx5, 3, none⟩)), (35, .int .i64 b.a), (36, .int .i64 (z2 + b.a)), (37, .int .i64 3), (38, .pointer (some ⟨Bx4, 3, none⟩)), (39, .int .i64 a.a), (40, .int .i64 (z2 + b.a - a.a)), (7, .int .i64 (z2 + b.a - a.a))] (by kernel_rfl) (allM (all_cons (q_run (.int .i64 z2) rfl rfl (wv_n rfl) rfl (fun _ _ hρ _ => r_move (hρ _ _ rfl))) (all_cons (q_run (.int .i64 3) rfl rfl (wv_n rfl) rfl (fun _ _ hρ _ => r_move (hρ _ _ rfl))) (all_cons (q_run (.pointer (some ⟨Bx5, 3, none⟩)) rfl rfl (wv_n rfl) rfl (fun _ _ hρ _ => r_indexAddrA (i := 3) ar61 sz3 (hρ _ _ rfl) (hρ _ _ rfl) (by decide))) (all_cons (q_run (.int .i64 b.a) rfl rfl (wv_n rfl) rfl (fun _ _ hρ hm => r_load ag3 (hρ _ _ rfl) (hm.at 4 rfl) rfl)) (all_cons (q_run (.int .i64 (z2 + b.a)) rfl rfl (wv_n rfl) rfl (fun _ _ hρ _ => r_as (r_add (hρ _ _ rfl) (hρ _ _ rfl)) (int_as (wrap64 (by omega) (by omega))))) (all_cons (q_run (.int .i64 3) rfl rfl (wv_n rfl) rfl (fun _ _ hρ _ => r_move (hρ _ _ rfl))) (all_cons (q_run (.pointer (some ⟨Bx4, 3, none⟩)) rfl rfl (wv_n rfl) rfl (fun _ _ hρ _ => r_indexAddrA (i := 3) ar61 sz3 (hρ _ _ rfl) (hρ _ _ rfl) (by decide))) (all_cons (q_run (.int .i64 a.a) rfl rfl (wv_n rfl) rfl (fun _ _ hρ hm => r_load ag3 (hρ _ _ rfl) (hm.at 3 rfl) rfl)) (all_cons (q_run (.int .i64 (z2 + b.a - a.a)) rfl rfl (wv_n rfl) rfl (fun _ _ hρ _ => r_as (r_sub (hρ _ _ rfl) (hρ _ _ rfl)) (int_as (wrap64 (by omega) (by omega))))) (all_cons (q_run (.int .i64 (z2 + b.a - a.a)) rfl rfl (wv_n rfl) rfl (fun _ _ hρ _ => r_assign (hρ _ _ rfl))) all_nil))))))))))) (end_old rfl rfl (end_old rfl rfl (end_old rfl rfl (end_old rfl rfl (end_old rfl rfl (end_old rfl rfl (end_old rfl rfl (end_old rfl rfl (end_old rfl rfl (end_old rfl rfl (end_old rfl rfl (end_old rfl rfl (end_old rfl rfl (end_old rfl rfl (end_old rfl rfl (end_new 0 rfl rfl (end_new 1 rfl rfl (end_new 2 rfl rfl (end_new 3 rfl rfl (end_new 4 rfl rfl (end_new 5 rfl rfl (end_new 6 rfl rfl (end_new 7 rfl rfl (end_new 8 rfl rfl (end_new 9 rfl rfl end_nil))))))))))))))))))))))))) ?_
              refine p_blk_n ?_
              exact p_at (z2 + b.a - a.a) ⟨by omega, by omega, by omega⟩ (sub_cons rfl (sub_cons rfl (sub_cons rfl (sub_cons rfl (sub_cons rfl (sub_cons rfl (sub_cons rfl sub_nil))))))) (sub_cons rfl (sub_cons rfl (sub_cons rfl (sub_cons rfl sub_nil))))
          · skip
            rintro z3 ⟨hz3, hq3, hr3⟩
            show T _ _ _ [(4, .int .i64 0), (5, .pointer (some ⟨Bx4, 0, none⟩)), (6, .pointer (some ⟨Bx5, 0, none⟩)), (41, .int .i64 3), (13, .int .i64 3), (14, .bool true), (7, .int .i64 z3)] [(1, .blk B1 (.cells #[.int .u8 a.r, .int .u8 a.g, .int .u8 a.b, .int .u8 a.a] 27)), (2, .blk B2 (.cells #[.int .u8 b.r, .int .u8 b.g, .int .u8 b.b, .int .u8 b.a] 27)), (3, .blk Bx4 (.cells #[.int .i64 a.r, .int .i64 a.g, .int .i64 a.b, .int .i64 a.a] 61)), (4, .blk Bx5 (.cells #[.int .i64 b.r, .int .i64 b.g, .int .i64 b.b, .int .i64 b.a] 61))]
            refine T_region ?_
            refine TL_q (.int .i64 4) (fun _ _ hρ _ => r_as (r_add (hρ _ _ rfl) (hρ _ _ rfl)) (by rfl)) rfl rfl rfl (w_n rfl) ?_
            refine TL_q (.int .i64 4) (fun _ _ hρ _ => r_move (hρ _ _ rfl)) rfl rfl rfl (w_n rfl) ?_
            refine TL_nil ?_
            refine p_round ?_
            refine TR_succ ?_
            refine T_seq (T_region ?_)
            refine TL_q (.bool false) (fun _ _ hρ _ => r_as (r_lss (hρ _ _ rfl) (hρ _ _ rfl)) (by rfl)) rfl rfl rfl (w_n rfl) ?_
            refine TL_seq ?_
            refine T_seq ?_
            refine T_cond_f rfl ?_
            refine T_exit' ?_
            refine p_then_x ?_
            refine p_then_x ?_
            refine p_blk_x ?_
            refine p_seq ?_
            refine T_seq (T_region ?_)
            refine TL_q (.int .i64 z3) (fun _ _ hρ _ => r_move (hρ _ _ rfl)) rfl rfl rfl (w_n rfl) ?_
            refine TL_q (.int .i64 z3) (fun _ _ hρ _ => r_assign (hρ _ _ rfl)) rfl rfl rfl (w_n rfl) ?_
            refine TL_seq ?_
            refine T_ret' ?_
            refine ret_of rfl (.int .i64 z3) (fun tmps w hk hm => res1 rfl (res_tmp (hk 4 _ rfl))) (fun w hm => ?_)
            exact ⟨ret_int (by unfold farC farI; omega), hm.ext⟩

theorem pack_ref (a : C4) (w : World) (ha : a.ok) : Calls Try.prog 11 #[a.v] w fun e w' => e = .returned (.int .u32 (packC a)) ∧ Below w.heap.size w w' := by
  obtain ⟨⟨a1, a2⟩, ⟨a3, a4⟩, ⟨a5, a6⟩, ⟨a7, a8⟩⟩ := id ha
  refine calls_of_T (l := [.agg #[.int .u8 a.r, .int .u8 a.g, .int .u8 a.b, .int .u8 a.a]]) 21 Try.func11 rfl rfl rfl ?_
  show T _ _ _ [(0, .agg #[.int .u8 a.r, .int .u8 a.g, .int .u8 a.b, .int .u8 a.a])] []
  refine T_seq (T_region ?_)
  refine TL_new 1 (.cells #[.int .u8 a.r, .int .u8 a.g, .int .u8 a.b, .int .u8 a.a] 27) (fun B => .pointer (some ⟨B, 0, none⟩)) (fun _ _ hρ _ => r_box (hρ _ _ rfl) rfl) rfl rfl rfl (w_n rfl) ?_
  intro B1
  refine TL_q (.int .u32 0) (fun _ _ hρ _ => r_assign (hρ _ _ rfl)) rfl rfl rfl (w_n rfl) ?_
  refine TL_seq ?_
  refine T_seq (T_region ?_)
  refine TL_q (.agg #[.int .u8 a.r, .int .u8 a.g, .int .u8 a.b, .int .u8 a.a]) (fun _ _ hρ hm => r_loadA ag27 sz27 (hρ _ _ rfl) (hm.at 1 rfl) rfl rfl) rfl rfl rfl (w_n rfl) ?_
  refine TL_call (.agg #[.int .i64 a.r, .int .i64 a.g, .int .i64 a.b, .int .i64 a.a]) (fun _ _ hρ _ => r_call (args := [.agg #[.int .u8 a.r, .int .u8 a.g, .int .u8 a.b, .int .u8 a.a]]) (enters_of Try.func30 (by kernel_rfl) rfl) (hρ _ _ rfl) ((cons2 (hρ _ _ rfl) rfl)) rfl) (fun w _ => parts_ref a w ha) rfl rfl rfl (w_n rfl) ?_
  refine TL_new 2 (.cells #[.int .i64 0, .int .i64 0, .int .i64 0, .int .i64 0] 61) (fun B => .pointer (some ⟨B, 0, none⟩)) (fun _ _ _ _ => r_alloc (v := .agg #[.int .i64 0, .int .i64 0, .int .i64 0, .int .i64 0]) (by kernel_rfl) rfl) rfl rfl rfl (w_n rfl) ?_
  intro B2
  refine TL_store 2 (.cells #[.int .i64 a.r, .int .i64 a.g, .int .i64 a.b, .int .i64 a.a] 61) rfl (fun _ _ hρ hm => r_store sz61 (hρ _ _ rfl) (hρ _ _ rfl) (hm.at 2 rfl) rfl rfl rfl rfl) rfl rfl (w_n rfl) ?_
  refine TL_seq ?_
  refine T_seq (T_region ?_)
  refine TL_q (.pointer (some ⟨B2, 0, none⟩)) (fun _ _ hρ _ => r_indexAddrA (i := 0) ar61 sz3 (hρ _ _ rfl) (hρ _ _ rfl) (by decide)) rfl rfl rfl (w_n rfl) ?_
  refine TL_q (.int .i64 a.r) (fun _ _ hρ hm => r_load ag3 (hρ _ _ rfl) (hm.at 2 rfl) rfl) rfl rfl rfl (w_n rfl) ?_
  refine TL_q (.int .i64 (a.r * 256)) (fun _ _ hρ _ => r_as (r_mul (hρ _ _ rfl) (hρ _ _ rfl)) (int_as (wrap64 (by omega) (by omega)))) rfl rfl rfl (w_n rfl) ?_
  refine TL_q (.pointer (some ⟨B2, 1, none⟩)) (fun _ _ hρ _ => r_indexAddrA (i := 1) ar61 sz3 (hρ _ _ rfl) (hρ _ _ rfl) (by decide)) rfl rfl rfl (w_n rfl) ?_
  refine TL_q (.int .i64 a.g) (fun _ _ hρ hm => r_load ag3 (hρ _ _ rfl) (hm.at 2 rfl) rfl) rfl rfl rfl (w_n rfl) ?_
  refine TL_q (.int .i64 (a.r * 256 + a.g)) (fun _ _ hρ _ => r_as (r_add (hρ _ _ rfl) (hρ _ _ rfl)) (int_as (wrap64 (by omega) (by omega)))) rfl rfl rfl (w_n rfl) ?_
  refine TL_q (.int .i64 ((a.r * 256 + a.g) * 256)) (fun _ _ hρ _ => r_as (r_mul (hρ _ _ rfl) (hρ _ _ rfl)) (int_as (wrap64 (by omega) (by omega)))) rfl rfl rfl (w_n rfl) ?_
  refine TL_q (.pointer (some ⟨B2, 2, none⟩)) (fun _ _ hρ _ => r_indexAddrA (i := 2) ar61 sz3 (hρ _ _ rfl) (hρ _ _ rfl) (by decide)) rfl rfl rfl (w_n rfl) ?_
  refine TL_q (.int .i64 a.b) (fun _ _ hρ hm => r_load ag3 (hρ _ _ rfl) (hm.at 2 rfl) rfl) rfl rfl rfl (w_n rfl) ?_
  refine TL_q (.int .i64 ((a.r * 256 + a.g) * 256 + a.b)) (fun _ _ hρ _ => r_as (r_add (hρ _ _ rfl) (hρ _ _ rfl)) (int_as (wrap64 (by omega) (by omega)))) rfl rfl rfl (w_n rfl) ?_
  refine TL_q (.int .i64 (((a.r * 256 + a.g) * 256 + a.b) * 256)) (fun _ _ hρ _ => r_as (r_mul (hρ _ _ rfl) (hρ _ _ rfl)) (int_as (wrap64 (by omega) (by omega)))) rfl rfl rfl (w_n rfl) ?_
  refine TL_q (.pointer (some ⟨B2, 3, none⟩)) (fun _ _ hρ _ => r_indexAddrA (i := 3) ar61 sz3 (hρ _ _ rfl) (hρ _ _ rfl) (by decide)) rfl rfl rfl (w_n rfl) ?_
  refine TL_q (.int .i64 a.a) (fun _ _ hρ hm => r_load ag3 (hρ _ _ rfl) (hm.at 2 rfl) rfl) rfl rfl rfl (w_n rfl) ?_
  refine TL_q (.int .i64 (((a.r * 256 + a.g) * 256 + a.b) * 256 + a.a)) (fun _ _ hρ _ => r_as (r_add (hρ _ _ rfl) (hρ _ _ rfl)) (int_as (wrap64 (by omega) (by omega)))) rfl rfl rfl (w_n rfl) ?_
  refine TL_q (.int .u32 (((a.r * 256 + a.g) * 256 + a.b) * 256 + a.a)) (fun _ _ hρ _ => r_as (r_conv un3 io28 (hρ _ _ rfl)) (int_as (wrap_u32 (by omega) (by omega)))) rfl rfl rfl (w_n rfl) ?_
  refine TL_q (.int .u32 (((a.r * 256 + a.g) * 256 + a.b) * 256 + a.a)) (fun _ _ hρ _ => r_assign (hρ _ _ rfl)) rfl rfl rfl (w_n rfl) ?_
  refine TL_seq ?_
  refine T_ret' ?_
  refine ret_of rfl (.int .u32 (((a.r * 256 + a.g) * 256 + a.b) * 256 + a.a)) (fun tmps w hk hm => res1 rfl (res_tmp (hk 2 _ rfl))) (fun w hm => ?_)
  exact ⟨ret_int (by unfold packC; omega), hm.ext⟩
end Go.Proofs.Ytnhkiblakclcoaa
