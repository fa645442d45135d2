/- Texts of this seat, merged: part 4. -/
import Derived.Test.YtbiapeaghbndoaaMg3
/- canvas: the reference of a colour over another one. Printed by a program of this seat's prover. -/
namespace Go.Proofs.Ytbiapeaghbndoaa
open Go Go.RowKit
set_option maxRecDepth 10000
theorem parts_ref (c : C4) (w : World) (hc : c.ok) : Calls Try.prog 111 #[c.v] w fun e w' => e = .returned (parV c) ∧ Below w.heap.size w w' := by
 obtain ⟨⟨a1, a2⟩, ⟨a3, a4⟩, ⟨a5, a6⟩, ⟨a7, a8⟩⟩ := hc
 refine calls_of_T (l := [.agg #[.int .u8 c.r, .int .u8 c.g, .int .u8 c.b, .int .u8 c.a]]) 16 Try.func111 rfl rfl rfl ?_
 show T _ _ _ [(0, .agg #[.int .u8 c.r, .int .u8 c.g, .int .u8 c.b, .int .u8 c.a])] []
 refine T_seq (T_region ?_)
 refine TL_new 1 (.cells #[.int .u8 c.r, .int .u8 c.g, .int .u8 c.b, .int .u8 c.a] 37) (fun B => pt B 0) (fun _ _ j _ => r_box (j _ _ rfl) rfl) rfl rfl rfl (w_n rfl) ?_
 intro B1
 refine TL_new 2 (.cells #[.int .i64 0, .int .i64 0, .int .i64 0, .int .i64 0] 161) (fun B => pt B 0) (fun _ _ _ _ => r_alloc (v := .agg #[.int .i64 0, .int .i64 0, .int .i64 0, .int .i64 0]) (by kernel_rfl) rfl) rfl rfl rfl (w_n rfl) ?_
 intro B2
 refine TL_seq ?_
 refine T_seq (T_region ?_)
 refine TL_v (pt B1 0) (s_fa fl37_0 sz5 rfl) rfl rfl ?_
 refine TL_v (.int .u8 c.r) (s_ld ag5 rfl 1 rfl rfl) rfl rfl ?_
 refine TL_v (.int .i64 c.r) (fun _ _ j _ => r_as (r_conv un5 io3 (j _ _ rfl)) (int_as (wrap64 (by omega) (by omega)))) rfl rfl ?_
 refine TL_v (pt B1 1) (s_fa fl37_1 sz5 rfl) rfl rfl ?_
 refine TL_v (.int .u8 c.g) (s_ld ag5 rfl 1 rfl rfl) rfl rfl ?_
 refine TL_v (.int .i64 c.g) (fun _ _ j _ => r_as (r_conv un5 io3 (j _ _ rfl)) (int_as (wrap64 (by omega) (by omega)))) rfl rfl ?_
 refine TL_v (pt B1 2) (s_fa fl37_2 sz5 rfl) rfl rfl ?_
 refine TL_v (.int .u8 c.b) (s_ld ag5 rfl 1 rfl rfl) rfl rfl ?_
 refine TL_v (.int .i64 c.b) (fun _ _ j _ => r_as (r_conv un5 io3 (j _ _ rfl)) (int_as (wrap64 (by omega) (by omega)))) rfl rfl ?_
 refine TL_v (pt B1 3) (s_fa fl37_3 sz5 rfl) rfl rfl ?_
 refine TL_v (.int .u8 c.a) (s_ld ag5 rfl 1 rfl rfl) rfl rfl ?_
 refine TL_v (.int .i64 c.a) (fun _ _ j _ => r_as (r_conv un5 io3 (j _ _ rfl)) (int_as (wrap64 (by omega) (by omega)))) rfl rfl ?_
 refine TL_v (.agg #[.int .i64 c.r, .int .i64 c.g, .int .i64 c.b, .int .i64 c.a]) (fun _ _ j _ => r_build (vs := [(0, .int .i64 c.r), (1, .int .i64 c.g), (2, .int .i64 c.b), (3, .int .i64 c.a)]) (by kernel_rfl) (cons2 (pair2 (j _ _ rfl)) (cons2 (pair2 (j _ _ rfl)) (cons2 (pair2 (j _ _ rfl)) (cons2 (pair2 (j _ _ rfl)) rfl))))) rfl rfl ?_
 refine TL_store 2 (.cells #[.int .i64 c.r, .int .i64 c.g, .int .i64 c.b, .int .i64 c.a] 161) rfl (s_st sz161 rfl rfl 2 rfl rfl rfl rfl rfl) rfl rfl (w_n rfl) ?_
 refine TL_seq ?_
 refine T_ret' ?_
 refine ret_of rfl (.agg #[.int .i64 c.r, .int .i64 c.g, .int .i64 c.b, .int .i64 c.a]) (fun tmps w hk hm => res1 rfl (res_cell (hk 2 _ rfl) (run_loadVar_agg ag161 sz161 (hm.at 2 rfl) (Nat.le_of_ble_eq_true rfl) rfl))) (fun w hm => ?_)
 exact ⟨rfl, hm.ext⟩

theorem of_ref (c : C4) (w : World) (hc : c.ok) : Calls Try.prog 112 #[parV c] w fun e w' => e = .returned c.v ∧ Below w.heap.size w w' := by
 obtain ⟨⟨a1, a2⟩, ⟨a3, a4⟩, ⟨a5, a6⟩, ⟨a7, a8⟩⟩ := hc
 refine calls_of_T (l := [.agg #[.int .i64 c.r, .int .i64 c.g, .int .i64 c.b, .int .i64 c.a]]) 16 Try.func112 rfl rfl rfl ?_
 show T _ _ _ [(0, .agg #[.int .i64 c.r, .int .i64 c.g, .int .i64 c.b, .int .i64 c.a])] []
 refine T_seq (T_region ?_)
 refine TL_new 1 (.cells #[.int .i64 c.r, .int .i64 c.g, .int .i64 c.b, .int .i64 c.a] 161) (fun B => pt B 0) (fun _ _ j _ => r_box (j _ _ rfl) rfl) rfl rfl rfl (w_n rfl) ?_
 intro B1
 refine TL_new 2 (.cells #[z8, z8, z8, z8] 37) (fun B => pt B 0) (fun _ _ _ _ => r_alloc (v := .agg #[z8, z8, z8, z8]) (by kernel_rfl) rfl) rfl rfl rfl (w_n rfl) ?_
 intro B2
 refine TL_seq ?_
 refine T_seq (T_region ?_)
 refine TL_v (pt B1 0) (fun _ _ j _ => r_indexAddrA (i := 0) ar161 sz3 (j _ _ rfl) (j _ _ rfl) (by decide)) rfl rfl ?_
 refine TL_v (.int .i64 c.r) (s_ld ag3 rfl 1 rfl rfl) rfl rfl ?_
 refine TL_v (.int .u8 c.r) (fun _ _ j _ => r_as (r_conv un3 io5 (j _ _ rfl)) (int_as (wrap_u8 (by omega) (by omega)))) rfl rfl ?_
 refine TL_v (pt B1 1) (fun _ _ j _ => r_indexAddrA (i := 1) ar161 sz3 (j _ _ rfl) (j _ _ rfl) (by decide)) rfl rfl ?_
 refine TL_v (.int .i64 c.g) (s_ld ag3 rfl 1 rfl rfl) rfl rfl ?_
 refine TL_v (.int .u8 c.g) (fun _ _ j _ => r_as (r_conv un3 io5 (j _ _ rfl)) (int_as (wrap_u8 (by omega) (by omega)))) rfl rfl ?_
 refine TL_v (pt B1 2) (fun _ _ j _ => r_indexAddrA (i := 2) ar161 sz3 (j _ _ rfl) (j _ _ rfl) (by decide)) rfl rfl ?_
 refine TL_v (.int .i64 c.b) (s_ld ag3 rfl 1 rfl rfl) rfl rfl ?_
 refine TL_v (.int .u8 c.b) (fun _ _ j _ => r_as (r_conv un3 io5 (j _ _ rfl)) (int_as (wrap_u8 (by omega) (by omega)))) rfl rfl ?_
 refine TL_v (pt B1 3) (fun _ _ j _ => r_indexAddrA (i := 3) ar161 sz3 (j _ _ rfl) (j _ _ rfl) (by decide)) rfl rfl ?_
 refine TL_v (.int .i64 c.a) (s_ld ag3 rfl 1 rfl rfl) rfl rfl ?_
 refine TL_v (.int .u8 c.a) (fun _ _ j _ => r_as (r_conv un3 io5 (j _ _ rfl)) (int_as (wrap_u8 (by omega) (by omega)))) rfl rfl ?_
 refine TL_v (.agg #[.int .u8 c.r, .int .u8 c.g, .int .u8 c.b, .int .u8 c.a]) (fun _ _ j _ => r_build (vs := [(0, .int .u8 c.r), (1, .int .u8 c.g), (2, .int .u8 c.b), (3, .int .u8 c.a)]) (by kernel_rfl) (cons2 (pair2 (j _ _ rfl)) (cons2 (pair2 (j _ _ rfl)) (cons2 (pair2 (j _ _ rfl)) (cons2 (pair2 (j _ _ rfl)) rfl))))) rfl rfl ?_
 refine TL_store 2 (.cells #[.int .u8 c.r, .int .u8 c.g, .int .u8 c.b, .int .u8 c.a] 37) rfl (s_st sz37 rfl rfl 2 rfl rfl rfl rfl rfl) rfl rfl (w_n rfl) ?_
 refine TL_seq ?_
 refine T_ret' ?_
 refine ret_of rfl (.agg #[.int .u8 c.r, .int .u8 c.g, .int .u8 c.b, .int .u8 c.a]) (fun tmps w hk hm => res1 rfl (res_cell (hk 2 _ rfl) (run_loadVar_agg ag37 sz37 (hm.at 2 rfl) (Nat.le_of_ble_eq_true rfl) rfl))) (fun w hm => ?_)
 exact ⟨rfl, hm.ext⟩

theorem over_ref (a b : C4) (w : World) (ha : a.ok) (hb : b.ok) : Calls Try.prog 99 #[a.v, b.v] w fun e w' => e = .returned (overC a b).v ∧ Below w.heap.size w w' := by
 obtain ⟨⟨a1, a2⟩, ⟨a3, a4⟩, ⟨a5, a6⟩, ⟨a7, a8⟩⟩ := id ha
 obtain ⟨⟨b1, b2⟩, ⟨b3, b4⟩, ⟨b5, b6⟩, ⟨b7, b8⟩⟩ := id hb
 obtain ⟨s1, s2, s3, s4, s5⟩ := shareI_bd a.r b.r b.a a1 a2 b1 b2 b7 b8
 obtain ⟨t1, t2, t3, t4, t5⟩ := shareI_bd a.g b.g b.a a3 a4 b3 b4 b7 b8
 obtain ⟨u1, u2, u3, u4, u5⟩ := shareI_bd a.b b.b b.a a5 a6 b5 b6 b7 b8
 obtain ⟨v1, v2, v3, v4, v5⟩ := shareI_bd a.a 0 b.a a7 a8 (by omega) (by omega) b7 b8
 refine calls_of_T (l := [.agg #[.int .u8 a.r, .int .u8 a.g, .int .u8 a.b, .int .u8 a.a], .agg #[.int .u8 b.r, .int .u8 b.g, .int .u8 b.b, .int .u8 b.a]]) 61 Try.func99 rfl rfl rfl ?_
 show T _ _ _ [(0, .agg #[.int .u8 a.r, .int .u8 a.g, .int .u8 a.b, .int .u8 a.a]), (1, .agg #[.int .u8 b.r, .int .u8 b.g, .int .u8 b.b, .int .u8 b.a])] []
 refine T_seq (T_region ?_)
 refine TL_new 1 (.cells #[.int .u8 a.r, .int .u8 a.g, .int .u8 a.b, .int .u8 a.a] 37) (fun B => pt B 0) (fun _ _ j _ => r_box (j _ _ rfl) rfl) rfl rfl rfl (w_n rfl) ?_
 intro B1
 refine TL_new 2 (.cells #[.int .u8 b.r, .int .u8 b.g, .int .u8 b.b, .int .u8 b.a] 37) (fun B => pt B 0) (fun _ _ j _ => r_box (j _ _ rfl) rfl) rfl rfl rfl (w_n rfl) ?_
 intro B2
 refine TL_new 3 (.cells #[z8, z8, z8, z8] 37) (fun B => pt B 0) (fun _ _ _ _ => r_alloc (v := .agg #[z8, z8, z8, z8]) (by kernel_rfl) rfl) rfl rfl rfl (w_n rfl) ?_
 intro B3
 refine TL_seq ?_
 refine T_join (ι := Nat × Nat) (fun _ => True) (fun (z : Nat × Nat) => match z with | (Bx4, Bx5) => [(4, pt B3 0), (5, pt Bx4 0), (6, pt Bx5 0)]) (fun (z : Nat × Nat) => match z with | (Bx4, Bx5) => [(1, .blk B1 (.cells #[.int .u8 a.r, .int .u8 a.g, .int .u8 a.b, .int .u8 a.a] 37)), (2, .blk B2 (.cells #[.int .u8 b.r, .int .u8 b.g, .int .u8 b.b, .int .u8 b.a] 37)), (3, .blk B3 (.cells #[z8, z8, z8, z8] 37)), (4, .blk Bx4 (.cells #[.int .i64 a.r, .int .i64 a.g, .int .i64 a.b, .int .i64 a.a] 161)), (5, .blk Bx5 (.cells #[.int .i64 b.r, .int .i64 b.g, .int .i64 b.b, .int .i64 b.a] 161))]) (T_draw (V := [(0, .agg #[.int .u8 a.r, .int .u8 a.g, .int .u8 a.b, .int .u8 a.a]), (2, .agg #[.int .u8 b.r, .int .u8 b.g, .int .u8 b.b, .int .u8 b.a])]) [0, 1, 0, 7, 0, 0, 63, 127] [[(2, none)], [(8, some 0)], [(3, none)], [(10, some 2)], [], [], [(5, some 4), (9, some 1)], [(6, some 5), (11, some 3)]] 250 mixed (by kernel_rfl) ?_) (fun z hz => ?_)
 ·skip
  refine G_step [0, 2] 1 [4, 5] (by kernel_rfl) (allM (all_cons (q_r (.agg #[.int .u8 a.r, .int .u8 a.g, .int .u8 a.b, .int .u8 a.a]) rfl rfl rfl (s_la ag37 sz37 rfl 1 rfl rfl rfl)) (all_cons (q_r (.agg #[.int .u8 b.r, .int .u8 b.g, .int .u8 b.b, .int .u8 b.a]) rfl rfl rfl (s_la ag37 sz37 rfl 2 rfl rfl rfl)) all_nil))) (allM (all_cons ?_ (all_cons ?_ (all_cons ?_ all_nil))))
  ·skip
   refine LOb_call (.agg #[.int .i64 a.r, .int .i64 a.g, .int .i64 a.b, .int .i64 a.a]) [] rfl (wv_n rfl) rfl rfl (fun _ _ j _ => r_call (args := [.agg #[.int .u8 a.r, .int .u8 a.g, .int .u8 a.b, .int .u8 a.a]]) (enters_of Try.func111 (by kernel_rfl) rfl) (j _ _ rfl) ((cons2 (j _ _ rfl) rfl)) rfl) (fun w _ => parts_ref a w ha) (by kernel_rfl) ?_
   refine G_step [2] 3 [4, 5] (by kernel_rfl) (allM (all_cons (q_r (.agg #[.int .u8 b.r, .int .u8 b.g, .int .u8 b.b, .int .u8 b.a]) rfl rfl rfl (s_la ag37 sz37 rfl 2 rfl rfl rfl)) all_nil)) (allM (all_cons ?_ (all_cons ?_ (all_cons ?_ all_nil))))
   ·skip
    refine LOb_call (.agg #[.int .i64 b.r, .int .i64 b.g, .int .i64 b.b, .int .i64 b.a]) [] rfl (wv_n rfl) rfl rfl (fun _ _ j _ => r_call (args := [.agg #[.int .u8 b.r, .int .u8 b.g, .int .u8 b.b, .int .u8 b.a]]) (enters_of Try.func111 (by kernel_rfl) rfl) (j _ _ rfl) ((cons2 (j _ _ rfl) rfl)) rfl) (fun w _ => parts_ref b w hb) (by kernel_rfl) ?_
    refine G_step [] 4 [5] (by kernel_rfl) (allM all_nil) (allM (all_cons ?_ (all_cons ?_ all_nil)))
    ·skip
     refine LOb_new 4 (.cells #[.int .i64 0, .int .i64 0, .int .i64 0, .int .i64 0] 161) (fun B => pt B 0) (fun B => []) rfl (wv_n rfl) rfl rfl (fun _ _ _ _ => r_alloc (v := .agg #[.int .i64 0, .int .i64 0, .int .i64 0, .int .i64 0]) (by kernel_rfl) rfl) (fun B => by kernel_rfl) ?_
     intro B4
     refine G_step [] 5 [] (by kernel_rfl) (allM all_nil) (allM (all_cons ?_ all_nil))
     refine LOb_new 5 (.cells #[.int .i64 0, .int .i64 0, .int .i64 0, .int .i64 0] 161) (fun B => pt B 0) (fun B => []) rfl (wv_n rfl) rfl rfl (fun _ _ _ _ => r_alloc (v := .agg #[.int .i64 0, .int .i64 0, .int .i64 0, .int .i64 0]) (by kernel_rfl) rfl) (fun B => by kernel_rfl) ?_
     intro B5
     refine G_step [] 6 [] (by kernel_rfl) (allM all_nil) (allM (all_cons ?_ all_nil))
     refine LOb_store 4 (.cells #[.int .i64 a.r, .int .i64 a.g, .int .i64 a.b, .int .i64 a.a] 161) [] rfl (wv_n rfl) rfl rfl rfl (s_st sz161 rfl rfl 4 rfl rfl rfl rfl rfl) (by kernel_rfl) ?_
     refine G_step [] 7 [] (by kernel_rfl) (allM all_nil) (allM (all_cons ?_ all_nil))
     refine LOb_store 5 (.cells #[.int .i64 b.r, .int .i64 b.g, .int .i64 b.b, .int .i64 b.a] 161) [] rfl (wv_n rfl) rfl rfl rfl (s_st sz161 rfl rfl 5 rfl rfl rfl rfl rfl) (by kernel_rfl) ?_
     exact G_lastQ [] [(4, pt B3 0), (5, pt B4 0), (6, pt B5 0)] (by kernel_rfl) (allM all_nil) (end_old rfl rfl (end_new 4 rfl rfl (end_new 5 rfl rfl end_nil))) (fun a w hf hm => At_intro (B4, B5) trivial hf hm (sc rfl (sc rfl (sc rfl sub_nil))) (sc4 rfl rfl rfl rfl (sc rfl sub_nil)))
    ·skip
     refine LOb_new 5 (.cells #[.int .i64 0, .int .i64 0, .int .i64 0, .int .i64 0] 161) (fun B => pt B 0) (fun B => []) rfl (wv_n rfl) rfl rfl (fun _ _ _ _ => r_alloc (v := .agg #[.int .i64 0, .int .i64 0, .int .i64 0, .int .i64 0]) (by kernel_rfl) rfl) (fun B => by kernel_rfl) ?_
     intro B6
     refine G_step [] 4 [] (by kernel_rfl) (allM all_nil) (allM (all_cons ?_ all_nil))
     refine LOb_new 4 (.cells #[.int .i64 0, .int .i64 0, .int .i64 0, .int .i64 0] 161) (fun B => pt B 0) (fun B => []) rfl (wv_n rfl) rfl rfl (fun _ _ _ _ => r_alloc (v := .agg #[.int .i64 0, .int .i64 0, .int .i64 0, .int .i64 0]) (by kernel_rfl) rfl) (fun B => by kernel_rfl) ?_
     intro B7
     refine G_step [] 6 [] (by kernel_rfl) (allM all_nil) (allM (all_cons ?_ all_nil))
     refine LOb_store 4 (.cells #[.int .i64 a.r, .int .i64 a.g, .int .i64 a.b, .int .i64 a.a] 161) [] rfl (wv_n rfl) rfl rfl rfl (s_st sz161 rfl rfl 4 rfl rfl rfl rfl rfl) (by kernel_rfl) ?_
     refine G_step [] 7 [] (by kernel_rfl) (allM all_nil) (allM (all_cons ?_ all_nil))
     refine LOb_store 5 (.cells #[.int .i64 b.r, .int .i64 b.g, .int .i64 b.b, .int .i64 b.a] 161) [] rfl (wv_n rfl) rfl rfl rfl (s_st sz161 rfl rfl 5 rfl rfl rfl rfl rfl) (by kernel_rfl) ?_
     exact G_lastQ [] [(4, pt B3 0), (5, pt B7 0), (6, pt B6 0)] (by kernel_rfl) (allM all_nil) (end_old rfl rfl (end_new 4 rfl rfl (end_new 5 rfl rfl end_nil))) (fun a w hf hm => At_intro (B7, B6) trivial hf hm (sc rfl (sc rfl (sc rfl sub_nil))) (sc4 rfl rfl rfl rfl (sc rfl sub_nil)))
   ·skip
    refine LOb_new 4 (.cells #[.int .i64 0, .int .i64 0, .int .i64 0, .int .i64 0] 161) (fun B => pt B 0) (fun B => []) rfl (wv_n rfl) rfl rfl (fun _ _ _ _ => r_alloc (v := .agg #[.int .i64 0, .int .i64 0, .int .i64 0, .int .i64 0]) (by kernel_rfl) rfl) (fun B => by kernel_rfl) ?_
    intro B8
    refine G_step [2] 3 [5] (by kernel_rfl) (allM (all_cons (q_r (.agg #[.int .u8 b.r, .int .u8 b.g, .int .u8 b.b, .int .u8 b.a]) rfl rfl rfl (s_la ag37 sz37 rfl 2 rfl rfl rfl)) all_nil)) (allM (all_cons ?_ (all_cons ?_ all_nil)))
    ·skip
     refine LOb_call (.agg #[.int .i64 b.r, .int .i64 b.g, .int .i64 b.b, .int .i64 b.a]) [] rfl (wv_n rfl) rfl rfl (fun _ _ j _ => r_call (args := [.agg #[.int .u8 b.r, .int .u8 b.g, .int .u8 b.b, .int .u8 b.a]]) (enters_of Try.func111 (by kernel_rfl) rfl) (j _ _ rfl) ((cons2 (j _ _ rfl) rfl)) rfl) (fun w _ => parts_ref b w hb) (by kernel_rfl) ?_
     refine G_step [] 5 [] (by kernel_rfl) (allM all_nil) (allM (all_cons ?_ all_nil))
     refine LOb_new 5 (.cells #[.int .i64 0, .int .i64 0, .int .i64 0, .int .i64 0] 161) (fun B => pt B 0) (fun B => []) rfl (wv_n rfl) rfl rfl (fun _ _ _ _ => r_alloc (v := .agg #[.int .i64 0, .int .i64 0, .int .i64 0, .int .i64 0]) (by kernel_rfl) rfl) (fun B => by kernel_rfl) ?_
     intro B9
     refine G_step [] 6 [] (by kernel_rfl) (allM all_nil) (allM (all_cons ?_ all_nil))
     refine LOb_store 4 (.cells #[.int .i64 a.r, .int .i64 a.g, .int .i64 a.b, .int .i64 a.a] 161) [] rfl (wv_n rfl) rfl rfl rfl (s_st sz161 rfl rfl 4 rfl rfl rfl rfl rfl) (by kernel_rfl) ?_
     refine G_step [] 7 [] (by kernel_rfl) (allM all_nil) (allM (all_cons ?_ all_nil))
     refine LOb_store 5 (.cells #[.int .i64 b.r, .int .i64 b.g, .int .i64 b.b, .int .i64 b.a] 161) [] rfl (wv_n rfl) rfl rfl rfl (s_st sz161 rfl rfl 5 rfl rfl rfl rfl rfl) (by kernel_rfl) ?_
     exact G_lastQ [] [(4, pt B3 0), (5, pt B8 0), (6, pt B9 0)] (by kernel_rfl) (allM all_nil) (end_old rfl rfl (end_new 4 rfl rfl (end_new 5 rfl rfl end_nil))) (fun a w hf hm => At_intro (B8, B9) trivial hf hm (sc rfl (sc rfl (sc rfl sub_nil))) (sc4 rfl rfl rfl rfl (sc rfl sub_nil)))
    ·skip
     refine LOb_new 5 (.cells #[.int .i64 0, .int .i64 0, .int .i64 0, .int .i64 0] 161) (fun B => pt B 0) (fun B => []) rfl (wv_n rfl) rfl rfl (fun _ _ _ _ => r_alloc (v := .agg #[.int .i64 0, .int .i64 0, .int .i64 0, .int .i64 0]) (by kernel_rfl) rfl) (fun B => by kernel_rfl) ?_
     intro B10
     refine G_step [2] 3 [] (by kernel_rfl) (allM (all_cons (q_r (.agg #[.int .u8 b.r, .int .u8 b.g, .int .u8 b.b, .int .u8 b.a]) rfl rfl rfl (s_la ag37 sz37 rfl 2 rfl rfl rfl)) all_nil)) (allM (all_cons ?_ all_nil))
     refine LOb_call (.agg #[.int .i64 b.r, .int .i64 b.g, .int .i64 b.b, .int .i64 b.a]) [] rfl (wv_n rfl) rfl rfl (fun _ _ j _ => r_call (args := [.agg #[.int .u8 b.r, .int .u8 b.g, .int .u8 b.b, .int .u8 b.a]]) (enters_of Try.func111 (by kernel_rfl) rfl) (j _ _ rfl) ((cons2 (j _ _ rfl) rfl)) rfl) (fun w _ => parts_ref b w hb) (by kernel_rfl) ?_
     refine G_step [] 6 [] (by kernel_rfl) (allM all_nil) (allM (all_cons ?_ all_nil))
     refine LOb_store 4 (.cells #[.int .i64 a.r, .int .i64 a.g, .int .i64 a.b, .int .i64 a.a] 161) [] rfl (wv_n rfl) rfl rfl rfl (s_st sz161 rfl rfl 4 rfl rfl rfl rfl rfl) (by kernel_rfl) ?_
     refine G_step [] 7 [] (by kernel_rfl) (allM all_nil) (allM (all_cons ?_ all_nil))
     refine LOb_store 5 (.cells #[.int .i64 b.r, .int .i64 b.g, .int .i64 b.b, .int .i64 b.a] 161) [] rfl (wv_n rfl) rfl rfl rfl (s_st sz161 rfl rfl 5 rfl rfl rfl rfl rfl) (by kernel_rfl) ?_
     exact G_lastQ [] [(4, pt B3 0), (5, pt B8 0), (6, pt B10 0)] (by kernel_rfl) (allM all_nil) (end_old rfl rfl (end_new 4 rfl rfl (end_new 5 rfl rfl end_nil))) (fun a w hf hm => At_intro (B8, B10) trivial hf hm (sc rfl (sc rfl (sc rfl sub_nil))) (sc4 rfl rfl rfl rfl (sc rfl sub_nil)))
   ·skip
    refine LOb_new 5 (.cells #[.int .i64 0, .int .i64 0, .int .i64 0, .int .i64 0] 161) (fun B => pt B 0) (fun B => []) rfl (wv_n rfl) rfl rfl (fun _ _ _ _ => r_alloc (v := .agg #[.int .i64 0, .int .i64 0, .int .i64 0, .int .i64 0]) (by kernel_rfl) rfl) (fun B => by kernel_rfl) ?_
    intro B11
    refine G_step [2] 3 [4] (by kernel_rfl) (allM (all_cons (q_r (.agg #[.int .u8 b.r, .int .u8 b.g, .int .u8 b.b, .int .u8 b.a]) rfl rfl rfl (s_la ag37 sz37 rfl 2 rfl rfl rfl)) all_nil)) (allM (all_cons ?_ (all_cons ?_ all_nil)))
    ·skip
     refine LOb_call (.agg #[.int .i64 b.r, .int .i64 b.g, .int .i64 b.b, .int .i64 b.a]) [] rfl (wv_n rfl) rfl rfl (fun _ _ j _ => r_call (args := [.agg #[.int .u8 b.r, .int .u8 b.g, .int .u8 b.b, .int .u8 b.a]]) (enters_of Try.func111 (by kernel_rfl) rfl) (j _ _ rfl) ((cons2 (j _ _ rfl) rfl)) rfl) (fun w _ => parts_ref b w hb) (by kernel_rfl) ?_
     refine G_step [] 4 [] (by kernel_rfl) (allM all_nil) (allM (all_cons ?_ all_nil))
     refine LOb_new 4 (.cells #[.int .i64 0, .int .i64 0, .int .i64 0, .int .i64 0] 161) (fun B => pt B 0) (fun B => []) rfl (wv_n rfl) rfl rfl (fun _ _ _ _ => r_alloc (v := .agg #[.int .i64 0, .int .i64 0, .int .i64 0, .int .i64 0]) (by kernel_rfl) rfl) (fun B => by kernel_rfl) ?_
     intro B12
     refine G_step [] 6 [] (by kernel_rfl) (allM all_nil) (allM (all_cons ?_ all_nil))
     refine LOb_store 4 (.cells #[.int .i64 a.r, .int .i64 a.g, .int .i64 a.b, .int .i64 a.a] 161) [] rfl (wv_n rfl) rfl rfl rfl (s_st sz161 rfl rfl 4 rfl rfl rfl rfl rfl) (by kernel_rfl) ?_
     refine G_step [] 7 [] (by kernel_rfl) (allM all_nil) (allM (all_cons ?_ all_nil))
     refine LOb_store 5 (.cells #[.int .i64 b.r, .int .i64 b.g, .int .i64 b.b, .int .i64 b.a] 161) [] rfl (wv_n rfl) rfl rfl rfl (s_st sz161 rfl rfl 5 rfl rfl rfl rfl rfl) (by kernel_rfl) ?_
     exact G_lastQ [] [(4, pt B3 0), (5, pt B12 0), (6, pt B11 0)] (by kernel_rfl) (allM all_nil) (end_old rfl rfl (end_new 4 rfl rfl (end_new 5 rfl rfl end_nil))) (fun a w hf hm => At_intro (B12, B11) trivial hf hm (sc rfl (sc rfl (sc rfl sub_nil))) (sc4 rfl rfl rfl rfl (sc rfl sub_nil)))
    ·skip
     refine LOb_new 4 (.cells #[.int .i64 0, .int .i64 0, .int .i64 0, .int .i64 0] 161) (fun B => pt B 0) (fun B => []) rfl (wv_n rfl) rfl rfl (fun _ _ _ _ => r_alloc (v := .agg #[.int .i64 0, .int .i64 0, .int .i64 0, .int .i64 0]) (by kernel_rfl) rfl) (fun B => by kernel_rfl) ?_
     intro B13
     refine G_step [2] 3 [] (by kernel_rfl) (allM (all_cons (q_r (.agg #[.int .u8 b.r, .int .u8 b.g, .int .u8 b.b, .int .u8 b.a]) rfl rfl rfl (s_la ag37 sz37 rfl 2 rfl rfl rfl)) all_nil)) (allM (all_cons ?_ all_nil))
     refine LOb_call (.agg #[.int .i64 b.r, .int .i64 b.g, .int .i64 b.b, .int .i64 b.a]) [] rfl (wv_n rfl) rfl rfl (fun _ _ j _ => r_call (args := [.agg #[.int .u8 b.r, .int .u8 b.g, .int .u8 b.b, .int .u8 b.a]]) (enters_of Try.func111 (by kernel_rfl) rfl) (j _ _ rfl) ((cons2 (j _ _ rfl) rfl)) rfl) (fun w _ => parts_ref b w hb) (by kernel_rfl) ?_
     refine G_step [] 6 [] (by kernel_rfl) (allM all_nil) (allM (all_cons ?_ all_nil))
     refine LOb_store 4 (.cells #[.int .i64 a.r, .int .i64 a.g, .int .i64 a.b, .int .i64 a.a] 161) [] rfl (wv_n rfl) rfl rfl rfl (s_st sz161 rfl rfl 4 rfl rfl rfl rfl rfl) (by kernel_rfl) ?_
     refine G_step [] 7 [] (by kernel_rfl) (allM all_nil) (allM (all_cons ?_ all_nil))
     refine LOb_store 5 (.cells #[.int .i64 b.r, .int .i64 b.g, .int .i64 b.b, .int .i64 b.a] 161) [] rfl (wv_n rfl) rfl rfl rfl (s_st sz161 rfl rfl 5 rfl rfl rfl rfl rfl) (by kernel_rfl) ?_
     exact G_lastQ [] [(4, pt B3 0), (5, pt B13 0), (6, pt B11 0)] (by kernel_rfl) (allM all_nil) (end_old rfl rfl (end_new 4 rfl rfl (end_new 5 rfl rfl end_nil))) (fun a w hf hm => At_intro (B13, B11) trivial hf hm (sc rfl (sc rfl (sc rfl sub_nil))) (sc4 rfl rfl rfl rfl (sc rfl sub_nil)))
  ·skip
   refine LOb_new 4 (.cells #[.int .i64 0, .int .i64 0, .int .i64 0, .int .i64 0] 161) (fun B => pt B 0) (fun B => []) rfl (wv_n rfl) rfl rfl (fun _ _ _ _ => r_alloc (v := .agg #[.int .i64 0, .int .i64 0, .int .i64 0, .int .i64 0]) (by kernel_rfl) rfl) (fun B => by kernel_rfl) ?_
   intro B14
   refine G_step [0, 2] 1 [5] (by kernel_rfl) (allM (all_cons (q_r (.agg #[.int .u8 a.r, .int .u8 a.g, .int .u8 a.b, .int .u8 a.a]) rfl rfl rfl (s_la ag37 sz37 rfl 1 rfl rfl rfl)) (all_cons (q_r (.agg #[.int .u8 b.r, .int .u8 b.g, .int .u8 b.b, .int .u8 b.a]) rfl rfl rfl (s_la ag37 sz37 rfl 2 rfl rfl rfl)) all_nil))) (allM (all_cons ?_ (all_cons ?_ all_nil)))
   ·skip
    refine LOb_call (.agg #[.int .i64 a.r, .int .i64 a.g, .int .i64 a.b, .int .i64 a.a]) [] rfl (wv_n rfl) rfl rfl (fun _ _ j _ => r_call (args := [.agg #[.int .u8 a.r, .int .u8 a.g, .int .u8 a.b, .int .u8 a.a]]) (enters_of Try.func111 (by kernel_rfl) rfl) (j _ _ rfl) ((cons2 (j _ _ rfl) rfl)) rfl) (fun w _ => parts_ref a w ha) (by kernel_rfl) ?_
    refine G_step [2] 3 [5] (by kernel_rfl) (allM (all_cons (q_r (.agg #[.int .u8 b.r, .int .u8 b.g, .int .u8 b.b, .int .u8 b.a]) rfl rfl rfl (s_la ag37 sz37 rfl 2 rfl rfl rfl)) all_nil)) (allM (all_cons ?_ (all_cons ?_ all_nil)))
    ·skip
     refine LOb_call (.agg #[.int .i64 b.r, .int .i64 b.g, .int .i64 b.b, .int .i64 b.a]) [] rfl (wv_n rfl) rfl rfl (fun _ _ j _ => r_call (args := [.agg #[.int .u8 b.r, .int .u8 b.g, .int .u8 b.b, .int .u8 b.a]]) (enters_of Try.func111 (by kernel_rfl) rfl) (j _ _ rfl) ((cons2 (j _ _ rfl) rfl)) rfl) (fun w _ => parts_ref b w hb) (by kernel_rfl) ?_
     refine G_step [] 5 [] (by kernel_rfl) (allM all_nil) (allM (all_cons ?_ all_nil))
     refine LOb_new 5 (.cells #[.int .i64 0, .int .i64 0, .int .i64 0, .int .i64 0] 161) (fun B => pt B 0) (fun B => []) rfl (wv_n rfl) rfl rfl (fun _ _ _ _ => r_alloc (v := .agg #[.int .i64 0, .int .i64 0, .int .i64 0, .int .i64 0]) (by kernel_rfl) rfl) (fun B => by kernel_rfl) ?_
     intro B15
     refine G_step [] 6 [] (by kernel_rfl) (allM all_nil) (allM (all_cons ?_ all_nil))
     refine LOb_store 4 (.cells #[.int .i64 a.r, .int .i64 a.g, .int .i64 a.b, .int .i64 a.a] 161) [] rfl (wv_n rfl) rfl rfl rfl (s_st sz161 rfl rfl 4 rfl rfl rfl rfl rfl) (by kernel_rfl) ?_
     refine G_step [] 7 [] (by kernel_rfl) (allM all_nil) (allM (all_cons ?_ all_nil))
     refine LOb_store 5 (.cells #[.int .i64 b.r, .int .i64 b.g, .int .i64 b.b, .int .i64 b.a] 161) [] rfl (wv_n rfl) rfl rfl rfl (s_st sz161 rfl rfl 5 rfl rfl rfl rfl rfl) (by kernel_rfl) ?_
     exact G_lastQ [] [(4, pt B3 0), (5, pt B14 0), (6, pt B15 0)] (by kernel_rfl) (allM all_nil) (end_old rfl rfl (end_new 4 rfl rfl (end_new 5 rfl rfl end_nil))) (fun a w hf hm => At_intro (B14, B15) trivial hf hm (sc rfl (sc rfl (sc rfl sub_nil))) (sc4 rfl rfl rfl rfl (sc rfl sub_nil)))
    ·skip
     refine LOb_new 5 (.cells #[.int .i64 0, .int .i64 0, .int .i64 0, .int .i64 0] 161) (fun B => pt B 0) (fun B => []) rfl (wv_n rfl) rfl rfl (fun _ _ _ _ => r_alloc (v := .agg #[.int .i64 0, .int .i64 0, .int .i64 0, .int .i64 0]) (by kernel_rfl) rfl) (fun B => by kernel_rfl) ?_
     intro B16
     refine G_step [2] 3 [] (by kernel_rfl) (allM (all_cons (q_r (.agg #[.int .u8 b.r, .int .u8 b.g, .int .u8 b.b, .int .u8 b.a]) rfl rfl rfl (s_la ag37 sz37 rfl 2 rfl rfl rfl)) all_nil)) (allM (all_cons ?_ all_nil))
     refine LOb_call (.agg #[.int .i64 b.r, .int .i64 b.g, .int .i64 b.b, .int .i64 b.a]) [] rfl (wv_n rfl) rfl rfl (fun _ _ j _ => r_call (args := [.agg #[.int .u8 b.r, .int .u8 b.g, .int .u8 b.b, .int .u8 b.a]]) (enters_of Try.func111 (by kernel_rfl) rfl) (j _ _ rfl) ((cons2 (j _ _ rfl) rfl)) rfl) (fun w _ => parts_ref b w hb) (by kernel_rfl) ?_
     refine G_step [] 6 [] (by kernel_rfl) (allM all_nil) (allM (all_cons ?_ all_nil))
     refine LOb_store 4 (.cells #[.int .i64 a.r, .int .i64 a.g, .int .i64 a.b, .int .i64 a.a] 161) [] rfl (wv_n rfl) rfl rfl rfl (s_st sz161 rfl rfl 4 rfl rfl rfl rfl rfl) (by kernel_rfl) ?_
     refine G_step [] 7 [] (by kernel_rfl) (allM all_nil) (allM (all_cons ?_ all_nil))
     refine LOb_store 5 (.cells #[.int .i64 b.r, .int .i64 b.g, .int .i64 b.b, .int .i64 b.a] 161) [] rfl (wv_n rfl) rfl rfl rfl (s_st sz161 rfl rfl 5 rfl rfl rfl rfl rfl) (by kernel_rfl) ?_
     exact G_lastQ [] [(4, pt B3 0), (5, pt B14 0), (6, pt B16 0)] (by kernel_rfl) (allM all_nil) (end_old rfl rfl (end_new 4 rfl rfl (end_new 5 rfl rfl end_nil))) (fun a w hf hm => At_intro (B14, B16) trivial hf hm (sc rfl (sc rfl (sc rfl sub_nil))) (sc4 rfl rfl rfl rfl (sc rfl sub_nil)))
   ·skip
    refine LOb_new 5 (.cells #[.int .i64 0, .int .i64 0, .int .i64 0, .int .i64 0] 161) (fun B => pt B 0) (fun B => []) rfl (wv_n rfl) rfl rfl (fun _ _ _ _ => r_alloc (v := .agg #[.int .i64 0, .int .i64 0, .int .i64 0, .int .i64 0]) (by kernel_rfl) rfl) (fun B => by kernel_rfl) ?_
    intro B17
    refine G_step [0, 2] 1 [] (by kernel_rfl) (allM (all_cons (q_r (.agg #[.int .u8 a.r, .int .u8 a.g, .int .u8 a.b, .int .u8 a.a]) rfl rfl rfl (s_la ag37 sz37 rfl 1 rfl rfl rfl)) (all_cons (q_r (.agg #[.int .u8 b.r, .int .u8 b.g, .int .u8 b.b, .int .u8 b.a]) rfl rfl rfl (s_la ag37 sz37 rfl 2 rfl rfl rfl)) all_nil))) (allM (all_cons ?_ all_nil))
    refine LOb_call (.agg #[.int .i64 a.r, .int .i64 a.g, .int .i64 a.b, .int .i64 a.a]) [] rfl (wv_n rfl) rfl rfl (fun _ _ j _ => r_call (args := [.agg #[.int .u8 a.r, .int .u8 a.g, .int .u8 a.b, .int .u8 a.a]]) (enters_of Try.func111 (by kernel_rfl) rfl) (j _ _ rfl) ((cons2 (j _ _ rfl) rfl)) rfl) (fun w _ => parts_ref a w ha) (by kernel_rfl) ?_
    refine G_step [2] 3 [] (by kernel_rfl) (allM (all_cons (q_r (.agg #[.int .u8 b.r, .int .u8 b.g, .int .u8 b.b, .int .u8 b.a]) rfl rfl rfl (s_la ag37 sz37 rfl 2 rfl rfl rfl)) all_nil)) (allM (all_cons ?_ all_nil))
    refine LOb_call (.agg #[.int .i64 b.r, .int .i64 b.g, .int .i64 b.b, .int .i64 b.a]) [] rfl (wv_n rfl) rfl rfl (fun _ _ j _ => r_call (args := [.agg #[.int .u8 b.r, .int .u8 b.g, .int .u8 b.b, .int .u8 b.a]]) (enters_of Try.func111 (by kernel_rfl) rfl) (j _ _ rfl) ((cons2 (j _ _ rfl) rfl)) rfl) (fun w _ => parts_ref b w hb) (by kernel_rfl) ?_
    refine G_step [] 6 [] (by kernel_rfl) (allM all_nil) (allM (all_cons ?_ all_nil))
    refine LOb_store 4 (.cells #[.int .i64 a.r, .int .i64 a.g, .int .i64 a.b, .int .i64 a.a] 161) [] rfl (wv_n rfl) rfl rfl rfl (s_st sz161 rfl rfl 4 rfl rfl rfl rfl rfl) (by kernel_rfl) ?_
    refine G_step [] 7 [] (by kernel_rfl) (allM all_nil) (allM (all_cons ?_ all_nil))
    refine LOb_store 5 (.cells #[.int .i64 b.r, .int .i64 b.g, .int .i64 b.b, .int .i64 b.a] 161) [] rfl (wv_n rfl) rfl rfl rfl (s_st sz161 rfl rfl 5 rfl rfl rfl rfl rfl) (by kernel_rfl) ?_
    exact G_lastQ [] [(4, pt B3 0), (5, pt B14 0), (6, pt B17 0)] (by kernel_rfl) (allM all_nil) (end_old rfl rfl (end_new 4 rfl rfl (end_new 5 rfl rfl end_nil))) (fun a w hf hm => At_intro (B14, B17) trivial hf hm (sc rfl (sc rfl (sc rfl sub_nil))) (sc4 rfl rfl rfl rfl (sc rfl sub_nil)))
  ·skip
   refine LOb_new 5 (.cells #[.int .i64 0, .int .i64 0, .int .i64 0, .int .i64 0] 161) (fun B => pt B 0) (fun B => []) rfl (wv_n rfl) rfl rfl (fun _ _ _ _ => r_alloc (v := .agg #[.int .i64 0, .int .i64 0, .int .i64 0, .int .i64 0]) (by kernel_rfl) rfl) (fun B => by kernel_rfl) ?_
   intro B18
   refine G_step [0, 2] 1 [4] (by kernel_rfl) (allM (all_cons (q_r (.agg #[.int .u8 a.r, .int .u8 a.g, .int .u8 a.b, .int .u8 a.a]) rfl rfl rfl (s_la ag37 sz37 rfl 1 rfl rfl rfl)) (all_cons (q_r (.agg #[.int .u8 b.r, .int .u8 b.g, .int .u8 b.b, .int .u8 b.a]) rfl rfl rfl (s_la ag37 sz37 rfl 2 rfl rfl rfl)) all_nil))) (allM (all_cons ?_ (all_cons ?_ all_nil)))
   ·skip
    refine LOb_call (.agg #[.int .i64 a.r, .int .i64 a.g, .int .i64 a.b, .int .i64 a.a]) [] rfl (wv_n rfl) rfl rfl (fun _ _ j _ => r_call (args := [.agg #[.int .u8 a.r, .int .u8 a.g, .int .u8 a.b, .int .u8 a.a]]) (enters_of Try.func111 (by kernel_rfl) rfl) (j _ _ rfl) ((cons2 (j _ _ rfl) rfl)) rfl) (fun w _ => parts_ref a w ha) (by kernel_rfl) ?_
    refine G_step [2] 3 [4] (by kernel_rfl) (allM (all_cons (q_r (.agg #[.int .u8 b.r, .int .u8 b.g, .int .u8 b.b, .int .u8 b.a]) rfl rfl rfl (s_la ag37 sz37 rfl 2 rfl rfl rfl)) all_nil)) (allM (all_cons ?_ (all_cons ?_ all_nil)))
    ·skip
     refine LOb_call (.agg #[.int .i64 b.r, .int .i64 b.g, .int .i64 b.b, .int .i64 b.a]) [] rfl (wv_n rfl) rfl rfl (fun _ _ j _ => r_call (args := [.agg #[.int .u8 b.r, .int .u8 b.g, .int .u8 b.b, .int .u8 b.a]]) (enters_of Try.func111 (by kernel_rfl) rfl) (j _ _ rfl) ((cons2 (j _ _ rfl) rfl)) rfl) (fun w _ => parts_ref b w hb) (by kernel_rfl) ?_
     refine G_step [] 4 [] (by kernel_rfl) (allM all_nil) (allM (all_cons ?_ all_nil))
     refine LOb_new 4 (.cells #[.int .i64 0, .int .i64 0, .int .i64 0, .int .i64 0] 161) (fun B => pt B 0) (fun B => []) rfl (wv_n rfl) rfl rfl (fun _ _ _ _ => r_alloc (v := .agg #[.int .i64 0, .int .i64 0, .int .i64 0, .int .i64 0]) (by kernel_rfl) rfl) (fun B => by kernel_rfl) ?_
     intro B19
     refine G_step [] 6 [] (by kernel_rfl) (allM all_nil) (allM (all_cons ?_ all_nil))
     refine LOb_store 4 (.cells #[.int .i64 a.r, .int .i64 a.g, .int .i64 a.b, .int .i64 a.a] 161) [] rfl (wv_n rfl) rfl rfl rfl (s_st sz161 rfl rfl 4 rfl rfl rfl rfl rfl) (by kernel_rfl) ?_
     refine G_step [] 7 [] (by kernel_rfl) (allM all_nil) (allM (all_cons ?_ all_nil))
     refine LOb_store 5 (.cells #[.int .i64 b.r, .int .i64 b.g, .int .i64 b.b, .int .i64 b.a] 161) [] rfl (wv_n rfl) rfl rfl rfl (s_st sz161 rfl rfl 5 rfl rfl rfl rfl rfl) (by kernel_rfl) ?_
     exact G_lastQ [] [(4, pt B3 0), (5, pt B19 0), (6, pt B18 0)] (by kernel_rfl) (allM all_nil) (end_old rfl rfl (end_new 4 rfl rfl (end_new 5 rfl rfl end_nil))) (fun a w hf hm => At_intro (B19, B18) trivial hf hm (sc rfl (sc rfl (sc rfl sub_nil))) (sc4 rfl rfl rfl rfl (sc rfl sub_nil)))
    ·skip
     refine LOb_new 4 (.cells #[.int .i64 0, .int .i64 0, .int .i64 0, .int .i64 0] 161) (fun B => pt B 0) (fun B => []) rfl (wv_n rfl) rfl rfl (fun _ _ _ _ => r_alloc (v := .agg #[.int .i64 0, .int .i64 0, .int .i64 0, .int .i64 0]) (by kernel_rfl) rfl) (fun B => by kernel_rfl) ?_
     intro B20
     refine G_step [2] 3 [] (by kernel_rfl) (allM (all_cons (q_r (.agg #[.int .u8 b.r, .int .u8 b.g, .int .u8 b.b, .int .u8 b.a]) rfl rfl rfl (s_la ag37 sz37 rfl 2 rfl rfl rfl)) all_nil)) (allM (all_cons ?_ all_nil))
     refine LOb_call (.agg #[.int .i64 b.r, .int .i64 b.g, .int .i64 b.b, .int .i64 b.a]) [] rfl (wv_n rfl) rfl rfl (fun _ _ j _ => r_call (args := [.agg #[.int .u8 b.r, .int .u8 b.g, .int .u8 b.b, .int .u8 b.a]]) (enters_of Try.func111 (by kernel_rfl) rfl) (j _ _ rfl) ((cons2 (j _ _ rfl) rfl)) rfl) (fun w _ => parts_ref b w hb) (by kernel_rfl) ?_
     refine G_step [] 6 [] (by kernel_rfl) (allM all_nil) (allM (all_cons ?_ all_nil))
     refine LOb_store 4 (.cells #[.int .i64 a.r, .int .i64 a.g, .int .i64 a.b, .int .i64 a.a] 161) [] rfl (wv_n rfl) rfl rfl rfl (s_st sz161 rfl rfl 4 rfl rfl rfl rfl rfl) (by kernel_rfl) ?_
     refine G_step [] 7 [] (by kernel_rfl) (allM all_nil) (allM (all_cons ?_ all_nil))
     refine LOb_store 5 (.cells #[.int .i64 b.r, .int .i64 b.g, .int .i64 b.b, .int .i64 b.a] 161) [] rfl (wv_n rfl) rfl rfl rfl (s_st sz161 rfl rfl 5 rfl rfl rfl rfl rfl) (by kernel_rfl) ?_
     exact G_lastQ [] [(4, pt B3 0), (5, pt B20 0), (6, pt B18 0)] (by kernel_rfl) (allM all_nil) (end_old rfl rfl (end_new 4 rfl rfl (end_new 5 rfl rfl end_nil))) (fun a w hf hm => At_intro (B20, B18) trivial hf hm (sc rfl (sc rfl (sc rfl sub_nil))) (sc4 rfl rfl rfl rfl (sc rfl sub_nil)))
   ·skip
    refine LOb_new 4 (.cells #[.int .i64 0, .int .i64 0, .int .i64 0, .int .i64 0] 161) (fun B => pt B 0) (fun B => []) rfl (wv_n rfl) rfl rfl (fun _ _ _ _ => r_alloc (v := .agg #[.int .i64 0, .int .i64 0, .int .i64 0, .int .i64 0]) (by kernel_rfl) rfl) (fun B => by kernel_rfl) ?_
    intro B21
    refine G_step [0, 2] 1 [] (by kernel_rfl) (allM (all_cons (q_r (.agg #[.int .u8 a.r, .int .u8 a.g, .int .u8 a.b, .int .u8 a.a]) rfl rfl rfl (s_la ag37 sz37 rfl 1 rfl rfl rfl)) (all_cons (q_r (.agg #[.int .u8 b.r, .int .u8 b.g, .int .u8 b.b, .int .u8 b.a]) rfl rfl rfl (s_la ag37 sz37 rfl 2 rfl rfl rfl)) all_nil))) (allM (all_cons ?_ all_nil))
    refine LOb_call (.agg #[.int .i64 a.r, .int .i64 a.g, .int .i64 a.b, .int .i64 a.a]) [] rfl (wv_n rfl) rfl rfl (fun _ _ j _ => r_call (args := [.agg #[.int .u8 a.r, .int .u8 a.g, .int .u8 a.b, .int .u8 a.a]]) (enters_of Try.func111 (by kernel_rfl) rfl) (j _ _ rfl) ((cons2 (j _ _ rfl) rfl)) rfl) (fun w _ => parts_ref a w ha) (by kernel_rfl) ?_
    refine G_step [2] 3 [] (by kernel_rfl) (allM (all_cons (q_r (.agg #[.int .u8 b.r, .int .u8 b.g, .int .u8 b.b, .int .u8 b.a]) rfl rfl rfl (s_la ag37 sz37 rfl 2 rfl rfl rfl)) all_nil)) (allM (all_cons ?_ all_nil))
    refine LOb_call (.agg #[.int .i64 b.r, .int .i64 b.g, .int .i64 b.b, .int .i64 b.a]) [] rfl (wv_n rfl) rfl rfl (fun _ _ j _ => r_call (args := [.agg #[.int .u8 b.r, .int .u8 b.g, .int .u8 b.b, .int .u8 b.a]]) (enters_of Try.func111 (by kernel_rfl) rfl) (j _ _ rfl) ((cons2 (j _ _ rfl) rfl)) rfl) (fun w _ => parts_ref b w hb) (by kernel_rfl) ?_
    refine G_step [] 6 [] (by kernel_rfl) (allM all_nil) (allM (all_cons ?_ all_nil))
    refine LOb_store 4 (.cells #[.int .i64 a.r, .int .i64 a.g, .int .i64 a.b, .int .i64 a.a] 161) [] rfl (wv_n rfl) rfl rfl rfl (s_st sz161 rfl rfl 4 rfl rfl rfl rfl rfl) (by kernel_rfl) ?_
    refine G_step [] 7 [] (by kernel_rfl) (allM all_nil) (allM (all_cons ?_ all_nil))
    refine LOb_store 5 (.cells #[.int .i64 b.r, .int .i64 b.g, .int .i64 b.b, .int .i64 b.a] 161) [] rfl (wv_n rfl) rfl rfl rfl (s_st sz161 rfl rfl 5 rfl rfl rfl rfl rfl) (by kernel_rfl) ?_
    exact G_lastQ [] [(4, pt B3 0), (5, pt B21 0), (6, pt B18 0)] (by kernel_rfl) (allM all_nil) (end_old rfl rfl (end_new 4 rfl rfl (end_new 5 rfl rfl end_nil))) (fun a w hf hm => At_intro (B21, B18) trivial hf hm (sc rfl (sc rfl (sc rfl sub_nil))) (sc4 rfl rfl rfl rfl (sc rfl sub_nil)))
 ·skip
  obtain ⟨Bx4, Bx5⟩ := z
  show T _ _ _ [(4, pt B3 0), (5, pt Bx4 0), (6, pt Bx5 0)] [(1, .blk B1 (.cells #[.int .u8 a.r, .int .u8 a.g, .int .u8 a.b, .int .u8 a.a] 37)), (2, .blk B2 (.cells #[.int .u8 b.r, .int .u8 b.g, .int .u8 b.b, .int .u8 b.a] 37)), (3, .blk B3 (.cells #[z8, z8, z8, z8] 37)), (4, .blk Bx4 (.cells #[.int .i64 a.r, .int .i64 a.g, .int .i64 a.b, .int .i64 a.a] 161)), (5, .blk Bx5 (.cells #[.int .i64 b.r, .int .i64 b.g, .int .i64 b.b, .int .i64 b.a] 161))]
  refine T_seq (T_region ?_)
  refine TL_v (pt Bx5 3) (fun _ _ j _ => r_indexAddrA (i := 3) ar161 sz3 (j _ _ rfl) (j _ _ rfl) (by decide)) rfl rfl ?_
  refine TL_v (.int .i64 b.a) (s_ld ag3 rfl 5 rfl rfl) rfl rfl ?_
  refine TL_v (.int .i64 b.a) (s_as rfl) rfl rfl ?_
  refine TL_seq ?_
  refine T_seq (T_region ?_)
  refine TL_v (pt Bx5 0) (fun _ _ j _ => r_indexAddrA (i := 0) ar161 sz3 (j _ _ rfl) (j _ _ rfl) (by decide)) rfl rfl ?_
  refine TL_v (.int .i64 b.r) (s_ld ag3 rfl 5 rfl rfl) rfl rfl ?_
  refine TL_v (.int .i64 b.a) (s_mv rfl) rfl rfl ?_
  refine TL_v (.int .i64 (b.r * b.a)) (s_op r_mul rfl rfl (int_as (wrap64 (by omega) (by omega)))) rfl rfl ?_
  refine TL_v (pt Bx4 0) (fun _ _ j _ => r_indexAddrA (i := 0) ar161 sz3 (j _ _ rfl) (j _ _ rfl) (by decide)) rfl rfl ?_
  refine TL_v (.int .i64 a.r) (s_ld ag3 rfl 4 rfl rfl) rfl rfl ?_
  refine TL_v (.int .i64 b.a) (s_mv rfl) rfl rfl ?_
  refine TL_v (.int .i64 ((255 : Int) - b.a)) (s_op r_sub rfl rfl (int_as (wrap64 (by omega) (by omega)))) rfl rfl ?_
  refine TL_v (.int .i64 (a.r * ((255 : Int) - b.a))) (s_op r_mul rfl rfl (int_as (wrap64 (by omega) (by omega)))) rfl rfl ?_
  refine TL_v (.int .i64 (b.r * b.a + (a.r * ((255 : Int) - b.a)))) (s_op r_add rfl rfl (int_as (wrap64 (by omega) (by omega)))) rfl rfl ?_
  refine TL_v (.int .i64 (b.r * b.a + (a.r * ((255 : Int) - b.a)) + 127)) (s_op r_add rfl rfl (int_as (wrap64 (by omega) (by omega)))) rfl rfl ?_
  refine TL_v (.int .i64 ((b.r * b.a + (a.r * ((255 : Int) - b.a)) + 127) / 255)) (fun _ _ j _ => r_as (r_quo (j _ _ rfl) (j _ _ rfl) (by omega)) (int_as (quo_i64 (by omega) (by omega) (by omega)))) rfl rfl ?_
  refine TL_v (pt Bx5 1) (fun _ _ j _ => r_indexAddrA (i := 1) ar161 sz3 (j _ _ rfl) (j _ _ rfl) (by decide)) rfl rfl ?_
  refine TL_v (.int .i64 b.g) (s_ld ag3 rfl 5 rfl rfl) rfl rfl ?_
  refine TL_v (.int .i64 b.a) (s_mv rfl) rfl rfl ?_
  refine TL_v (.int .i64 (b.g * b.a)) (s_op r_mul rfl rfl (int_as (wrap64 (by omega) (by omega)))) rfl rfl ?_
  refine TL_v (pt Bx4 1) (fun _ _ j _ => r_indexAddrA (i := 1) ar161 sz3 (j _ _ rfl) (j _ _ rfl) (by decide)) rfl rfl ?_
  refine TL_v (.int .i64 a.g) (s_ld ag3 rfl 4 rfl rfl) rfl rfl ?_
  refine TL_v (.int .i64 b.a) (s_mv rfl) rfl rfl ?_
  refine TL_v (.int .i64 ((255 : Int) - b.a)) (s_op r_sub rfl rfl (int_as (wrap64 (by omega) (by omega)))) rfl rfl ?_
  refine TL_v (.int .i64 (a.g * ((255 : Int) - b.a))) (s_op r_mul rfl rfl (int_as (wrap64 (by omega) (by omega)))) rfl rfl ?_
  refine TL_v (.int .i64 (b.g * b.a + (a.g * ((255 : Int) - b.a)))) (s_op r_add rfl rfl (int_as (wrap64 (by omega) (by omega)))) rfl rfl ?_
  refine TL_v (.int .i64 (b.g * b.a + (a.g * ((255 : Int) - b.a)) + 127)) (s_op r_add rfl rfl (int_as (wrap64 (by omega) (by omega)))) rfl rfl ?_
  refine TL_v (.int .i64 ((b.g * b.a + (a.g * ((255 : Int) - b.a)) + 127) / 255)) (fun _ _ j _ => r_as (r_quo (j _ _ rfl) (j _ _ rfl) (by omega)) (int_as (quo_i64 (by omega) (by omega) (by omega)))) rfl rfl ?_
  refine TL_v (pt Bx5 2) (fun _ _ j _ => r_indexAddrA (i := 2) ar161 sz3 (j _ _ rfl) (j _ _ rfl) (by decide)) rfl rfl ?_
  refine TL_v (.int .i64 b.b) (s_ld ag3 rfl 5 rfl rfl) rfl rfl ?_
  refine TL_v (.int .i64 b.a) (s_mv rfl) rfl rfl ?_
  refine TL_v (.int .i64 (b.b * b.a)) (s_op r_mul rfl rfl (int_as (wrap64 (by omega) (by omega)))) rfl rfl ?_
  refine TL_v (pt Bx4 2) (fun _ _ j _ => r_indexAddrA (i := 2) ar161 sz3 (j _ _ rfl) (j _ _ rfl) (by decide)) rfl rfl ?_
  refine TL_v (.int .i64 a.b) (s_ld ag3 rfl 4 rfl rfl) rfl rfl ?_
  refine TL_v (.int .i64 b.a) (s_mv rfl) rfl rfl ?_
  refine TL_v (.int .i64 ((255 : Int) - b.a)) (s_op r_sub rfl rfl (int_as (wrap64 (by omega) (by omega)))) rfl rfl ?_
  refine TL_v (.int .i64 (a.b * ((255 : Int) - b.a))) (s_op r_mul rfl rfl (int_as (wrap64 (by omega) (by omega)))) rfl rfl ?_
  refine TL_v (.int .i64 (b.b * b.a + (a.b * ((255 : Int) - b.a)))) (s_op r_add rfl rfl (int_as (wrap64 (by omega) (by omega)))) rfl rfl ?_
  refine TL_v (.int .i64 (b.b * b.a + (a.b * ((255 : Int) - b.a)) + 127)) (s_op r_add rfl rfl (int_as (wrap64 (by omega) (by omega)))) rfl rfl ?_
  refine TL_v (.int .i64 ((b.b * b.a + (a.b * ((255 : Int) - b.a)) + 127) / 255)) (fun _ _ j _ => r_as (r_quo (j _ _ rfl) (j _ _ rfl) (by omega)) (int_as (quo_i64 (by omega) (by omega) (by omega)))) rfl rfl ?_
  refine TL_v (.int .i64 b.a) (s_mv rfl) rfl rfl ?_
  refine TL_v (pt Bx4 3) (fun _ _ j _ => r_indexAddrA (i := 3) ar161 sz3 (j _ _ rfl) (j _ _ rfl) (by decide)) rfl rfl ?_
  refine TL_v (.int .i64 a.a) (s_ld ag3 rfl 4 rfl rfl) rfl rfl ?_
  refine TL_v (.int .i64 b.a) (s_mv rfl) rfl rfl ?_
  refine TL_v (.int .i64 ((255 : Int) - b.a)) (s_op r_sub rfl rfl (int_as (wrap64 (by omega) (by omega)))) rfl rfl ?_
  refine TL_v (.int .i64 (a.a * ((255 : Int) - b.a))) (s_op r_mul rfl rfl (int_as (wrap64 (by omega) (by omega)))) rfl rfl ?_
  refine TL_v (.int .i64 (a.a * ((255 : Int) - b.a) + 127)) (s_op r_add rfl rfl (int_as (wrap64 (by omega) (by omega)))) rfl rfl ?_
  refine TL_v (.int .i64 ((a.a * ((255 : Int) - b.a) + 127) / 255)) (fun _ _ j _ => r_as (r_quo (j _ _ rfl) (j _ _ rfl) (by omega)) (int_as (quo_i64 (by omega) (by omega) (by omega)))) rfl rfl ?_
  refine TL_v (.int .i64 (b.a + ((a.a * ((255 : Int) - b.a) + 127) / 255))) (s_op r_add rfl rfl (int_as (wrap64 (by omega) (by omega)))) rfl rfl ?_
  refine TL_v (.agg #[.int .i64 ((b.r * b.a + (a.r * ((255 : Int) - b.a)) + 127) / 255), .int .i64 ((b.g * b.a + (a.g * ((255 : Int) - b.a)) + 127) / 255), .int .i64 ((b.b * b.a + (a.b * ((255 : Int) - b.a)) + 127) / 255), .int .i64 (b.a + ((a.a * ((255 : Int) - b.a) + 127) / 255))]) (fun _ _ j _ => r_build (vs := [(0, .int .i64 ((b.r * b.a + (a.r * ((255 : Int) - b.a)) + 127) / 255)), (1, .int .i64 ((b.g * b.a + (a.g * ((255 : Int) - b.a)) + 127) / 255)), (2, .int .i64 ((b.b * b.a + (a.b * ((255 : Int) - b.a)) + 127) / 255)), (3, .int .i64 (b.a + ((a.a * ((255 : Int) - b.a) + 127) / 255)))]) (by kernel_rfl) (cons2 (pair2 (j _ _ rfl)) (cons2 (pair2 (j _ _ rfl)) (cons2 (pair2 (j _ _ rfl)) (cons2 (pair2 (j _ _ rfl)) rfl))))) rfl rfl ?_
  refine TL_call (.agg #[.int .u8 ((b.r * b.a + (a.r * ((255 : Int) - b.a)) + 127) / 255), .int .u8 ((b.g * b.a + (a.g * ((255 : Int) - b.a)) + 127) / 255), .int .u8 ((b.b * b.a + (a.b * ((255 : Int) - b.a)) + 127) / 255), .int .u8 (b.a + ((a.a * ((255 : Int) - b.a) + 127) / 255))]) (fun _ _ j _ => r_call (args := [.agg #[.int .i64 ((b.r * b.a + (a.r * ((255 : Int) - b.a)) + 127) / 255), .int .i64 ((b.g * b.a + (a.g * ((255 : Int) - b.a)) + 127) / 255), .int .i64 ((b.b * b.a + (a.b * ((255 : Int) - b.a)) + 127) / 255), .int .i64 (b.a + ((a.a * ((255 : Int) - b.a) + 127) / 255))]]) (enters_of Try.func112 (by kernel_rfl) rfl) (j _ _ rfl) ((cons2 (j _ _ rfl) rfl)) rfl) (fun w _ => of_ref (⟨(b.r * b.a + (a.r * ((255 : Int) - b.a)) + 127) / 255, (b.g * b.a + (a.g * ((255 : Int) - b.a)) + 127) / 255, (b.b * b.a + (a.b * ((255 : Int) - b.a)) + 127) / 255, b.a + ((a.a * ((255 : Int) - b.a) + 127) / 255)⟩ : C4) w (over_ref_eq a b ▸ overC_ok ha hb)) rfl rfl rfl (w_n rfl) ?_
  refine TL_store 3 (.cells #[.int .u8 ((b.r * b.a + (a.r * ((255 : Int) - b.a)) + 127) / 255), .int .u8 ((b.g * b.a + (a.g * ((255 : Int) - b.a)) + 127) / 255), .int .u8 ((b.b * b.a + (a.b * ((255 : Int) - b.a)) + 127) / 255), .int .u8 (b.a + ((a.a * ((255 : Int) - b.a) + 127) / 255))] 37) rfl (s_st sz37 rfl rfl 3 rfl rfl rfl rfl rfl) rfl rfl (w_n rfl) ?_
  refine TL_seq ?_
  refine T_sub [(4, pt B3 0)] [(1, .blk B1 (.cells #[.int .u8 a.r, .int .u8 a.g, .int .u8 a.b, .int .u8 a.a] 37)), (2, .blk B2 (.cells #[.int .u8 b.r, .int .u8 b.g, .int .u8 b.b, .int .u8 b.a] 37)), (4, .blk Bx4 (.cells #[.int .i64 a.r, .int .i64 a.g, .int .i64 a.b, .int .i64 a.a] 161)), (5, .blk Bx5 (.cells #[.int .i64 b.r, .int .i64 b.g, .int .i64 b.b, .int .i64 b.a] 161)), (3, .blk B3 (.cells #[.int .u8 ((b.r * b.a + (a.r * ((255 : Int) - b.a)) + 127) / 255), .int .u8 ((b.g * b.a + (a.g * ((255 : Int) - b.a)) + 127) / 255), .int .u8 ((b.b * b.a + (a.b * ((255 : Int) - b.a)) + 127) / 255), .int .u8 (b.a + ((a.a * ((255 : Int) - b.a) + 127) / 255))] 37))] (sc rfl sub_nil) (sc4 rfl rfl rfl rfl (sc rfl sub_nil)) ?_
  refine T_ret' ?_
  refine ret_of rfl (.agg #[.int .u8 ((b.r * b.a + (a.r * ((255 : Int) - b.a)) + 127) / 255), .int .u8 ((b.g * b.a + (a.g * ((255 : Int) - b.a)) + 127) / 255), .int .u8 ((b.b * b.a + (a.b * ((255 : Int) - b.a)) + 127) / 255), .int .u8 (b.a + ((a.a * ((255 : Int) - b.a) + 127) / 255))]) (fun tmps w hk hm => res1 rfl (res_cell (hk 4 _ rfl) (run_loadVar_agg ag37 sz37 (hm.at 3 rfl) (Nat.le_of_ble_eq_true rfl) rfl))) (fun w hm => ?_)
  exact ⟨congrArg (fun c : C4 => Ending.returned c.v) (over_ref_eq a b), hm.ext⟩
end Go.Proofs.Ytbiapeaghbndoaa
/- canvas: Cut. Printed by a program of this seat's prover. -/
namespace Go.Proofs.Ytbiapeaghbndoaa
open Go Go.RowKit
set_option maxRecDepth 10000
set_option maxHeartbeats 1000000 in
theorem cut1_ok (c : Cv) (C Wb Hb Xb Yb p q u v : Nat) (w : World) (hc : CvAt w c) (hC : hp w C = some (.cells #[.pointer (some ⟨c.p, 0, none⟩)] 28)) (hW : hp w Wb = some (.cells #[.int .i64 ((p : Nat) : Int)] 3)) (hH : hp w Hb = some (.cells #[.int .i64 ((q : Nat) : Int)] 3)) (hX : hp w Xb = some (.cells #[.int .i64 ((u : Nat) : Int)] 3)) (hY : hp w Yb = some (.cells #[.int .i64 ((v : Nat) : Int)] 3)) (hp8 : 1 ≤ p ∧ p ≤ 8) (hq8 : 1 ≤ q ∧ q ≤ 8) (hu : u + p ≤ 8 * c.wd) (hv : v + q ≤ 8 * c.hg) : Calls Try.prog 93 #[.pointer (some ⟨C, 0, none⟩), .pointer (some ⟨Wb, 0, none⟩), .pointer (some ⟨Hb, 0, none⟩), .pointer (some ⟨Xb, 0, none⟩), .pointer (some ⟨Yb, 0, none⟩)] w fun e w' => ∃ a' cap', e = .returned (.agg #[.int .i64 (p : Int), .int .i64 (q : Int), .slice a' (cutL c.wd c.ts u v p q).length cap']) ∧ Below w.heap.size w w' ∧ w'.ownsRow w.heap.size 37 4 (.slice a' (cutL c.wd c.ts u v p q).length cap') (cutL c.wd c.ts u v p q).length ((cutL c.wd c.ts u v p q).flatMap C4.cells) := by
 have hwd4 := hc.wd4
 have hhg4 := hc.hg4
 have h64 := size8 hp8 hq8
 refine calls_of_T (l := [pt C 0, pt Wb 0, pt Hb 0, pt Xb 0, pt Yb 0]) 96 Try.func93 rfl rfl rfl ?_
 show T _ _ _ [(0, pt C 0), (1, pt Wb 0), (2, pt Hb 0), (3, pt Xb 0), (4, pt Yb 0)] []
 refine T_seq (T_region ?_)
 refine TL_new 1 (.cells #[.int .i64 0, .int .i64 0, .slice none 0 0] 75) (fun B => pt B 0) (fun _ _ _ _ => r_alloc (v := .agg #[.int .i64 0, .int .i64 0, .slice none 0 0]) (by kernel_rfl) rfl) rfl rfl rfl (w_n rfl) ?_
 intro B1
 refine TL_seq ?_
 refine T_seq (T_region ?_)
 refine TL_v (pt c.p 0) (fun _ _ j hm => r_load ag28 (j _ _ rfl) (hm.old hC) rfl) rfl rfl ?_
 refine TL_v (.bool true) (fun _ _ j _ => r_as (r_neqPn po28 (j _ _ rfl) (j _ _ rfl)) (by rfl)) rfl rfl ?_
 refine TL_call (.tuple #[]) (fun _ _ j _ => r_call (args := [.bool true, .int .i64 1]) (enters_of Try.func94 (by kernel_rfl) rfl) (j _ _ rfl) ((cons2 (j _ _ rfl) (cons2 (j _ _ rfl) rfl))) rfl) (fun w _ => need_ok_st 1 w) rfl rfl rfl (w_n rfl) ?_
 refine TL_seq ?_
 refine T_seq (T_region ?_)
 refine TL_v (pt c.p 0) (fun _ _ j hm => r_load ag28 (j _ _ rfl) (hm.old hC) rfl) rfl rfl ?_
 refine TL_call (.tuple #[iN (8 * c.wd), iN (8 * c.hg)]) (fun _ _ j _ => r_call (args := [pt c.p 0]) (enters_of Try.func32 (by kernel_rfl) rfl) (j _ _ rfl) ((cons2 (j _ _ rfl) rfl)) rfl) (fun w hm => size_c c w (hc.below hm.ext)) rfl rfl rfl (w_n rfl) ?_
 refine TL_v (.tuple #[iN (8 * c.wd), iN (8 * c.hg)]) (s_mv rfl) rfl rfl ?_
 refine TL_v (iN (8 * c.wd)) (s_ex rfl rfl) rfl rfl ?_
 refine TL_v (iN (8 * c.hg)) (s_ex rfl rfl) rfl rfl ?_
 refine TL_v (iN (8 * c.wd)) (s_as rfl) rfl rfl ?_
 refine TL_v (iN (8 * c.hg)) (s_as rfl) rfl rfl ?_
 refine TL_seq ?_
 refine T_seq (T_region ?_)
 refine TL_v (iN p) (fun _ _ j hm => r_load ag3 (j _ _ rfl) (hm.old hW) rfl) rfl rfl ?_
 refine TL_call (.bool true) (fun _ _ j _ => r_call (args := [iN p]) (enters_of Try.func81 (by kernel_rfl) rfl) (j _ _ rfl) ((cons2 (j _ _ rfl) rfl)) rfl) (fun w _ => (side_c ((p : Nat) : Int) w).mono fun _ _ h => ⟨h.1.trans (congrArg Ending.returned (bool_as (sideI_of hp8))), h.2⟩) rfl rfl rfl (w_n rfl) ?_
 refine TL_v (.bool true) (s_mv rfl) rfl rfl ?_
 refine TL_q (iN q) (fun _ _ j hm => r_load ag3 (j _ _ rfl) (hm.old hH) rfl) rfl rfl rfl (want_y 22 rfl rfl rfl) ?_
 refine TL_call (.bool true) (fun _ _ j _ => r_call (args := [iN q]) (enters_of Try.func81 (by kernel_rfl) rfl) (j _ _ rfl) ((cons2 (j _ _ rfl) rfl)) rfl) (fun w _ => (side_c ((q : Nat) : Int) w).mono fun _ _ h => ⟨h.1.trans (congrArg Ending.returned (bool_as (sideI_of hq8))), h.2⟩) rfl rfl rfl (want_y 22 rfl rfl rfl) ?_
 refine TL_v (.bool true) (s_pt rfl rfl) rfl rfl ?_
 refine TL_v (.bool true) (s_mv rfl) rfl rfl ?_
 refine TL_q (iN u) (fun _ _ j hm => r_load ag3 (j _ _ rfl) (hm.old hX) rfl) rfl rfl rfl (want_y 26 rfl rfl rfl) ?_
 refine TL_q (.bool true) (s_op r_geq rfl rfl (bool_as (decide_eq_true (by omega)))) rfl rfl rfl (want_y 26 rfl rfl rfl) ?_
 refine TL_v (.bool true) (s_pt rfl rfl) rfl rfl ?_
 refine TL_v (.bool true) (s_mv rfl) rfl rfl ?_
 refine TL_q (iN v) (fun _ _ j hm => r_load ag3 (j _ _ rfl) (hm.old hY) rfl) rfl rfl rfl (want_y 30 rfl rfl rfl) ?_
 refine TL_q (.bool true) (s_op r_geq rfl rfl (bool_as (decide_eq_true (by omega)))) rfl rfl rfl (want_y 30 rfl rfl rfl) ?_
 refine TL_v (.bool true) (s_pt rfl rfl) rfl rfl ?_
 refine TL_v (.bool true) (s_mv rfl) rfl rfl ?_
 refine TL_q (iN u) (fun _ _ j hm => r_load ag3 (j _ _ rfl) (hm.old hX) rfl) rfl rfl rfl (want_y 34 rfl rfl rfl) ?_
 refine TL_q (iN (8 * c.wd)) (s_mv rfl) rfl rfl rfl (want_y 34 rfl rfl rfl) ?_
 refine TL_q (iN p) (fun _ _ j hm => r_load ag3 (j _ _ rfl) (hm.old hW) rfl) rfl rfl rfl (want_y 34 rfl rfl rfl) ?_
 refine TL_q (iN (8 * c.wd - p)) (s_op r_sub rfl rfl (iw (by omega) (by omega) (by omega))) rfl rfl rfl (want_y 34 rfl rfl rfl) ?_
 refine TL_q (.bool true) (s_op r_leq rfl rfl (bool_as (decide_eq_true (by omega)))) rfl rfl rfl (want_y 34 rfl rfl rfl) ?_
 refine TL_v (.bool true) (s_pt rfl rfl) rfl rfl ?_
 refine TL_v (.bool true) (s_mv rfl) rfl rfl ?_
 refine TL_q (iN v) (fun _ _ j hm => r_load ag3 (j _ _ rfl) (hm.old hY) rfl) rfl rfl rfl (want_y 41 rfl rfl rfl) ?_
 refine TL_q (iN (8 * c.hg)) (s_mv rfl) rfl rfl rfl (want_y 41 rfl rfl rfl) ?_
 refine TL_q (iN q) (fun _ _ j hm => r_load ag3 (j _ _ rfl) (hm.old hH) rfl) rfl rfl rfl (want_y 41 rfl rfl rfl) ?_
 refine TL_q (iN (8 * c.hg - q)) (s_op r_sub rfl rfl (iw (by omega) (by omega) (by omega))) rfl rfl rfl (want_y 41 rfl rfl rfl) ?_
 refine TL_q (.bool true) (s_op r_leq rfl rfl (bool_as (decide_eq_true (by omega)))) rfl rfl rfl (want_y 41 rfl rfl rfl) ?_
 refine TL_v (.bool true) (s_pt rfl rfl) rfl rfl ?_
 refine TL_call (.tuple #[]) (fun _ _ j _ => r_call (args := [.bool true, .int .i64 2]) (enters_of Try.func94 (by kernel_rfl) rfl) (j _ _ rfl) ((cons2 (j _ _ rfl) (cons2 (j _ _ rfl) rfl))) rfl) (fun w _ => need_ok_st 2 w) rfl rfl rfl (w_n rfl) ?_
 refine TL_seq ?_
 refine T_sub [(0, pt C 0), (1, pt Wb 0), (2, pt Hb 0), (3, pt Xb 0), (4, pt Yb 0), (5, pt B1 0)] [(1, .blk B1 (.cells #[.int .i64 0, .int .i64 0, .slice none 0 0] 75))] (sc4 rfl rfl rfl rfl (sc rfl (sc rfl sub_nil))) (sc rfl sub_nil) ?_
 refine T_seq (T_region ?_)
 refine TL_v (iN p) (fun _ _ j hm => r_load ag3 (j _ _ rfl) (hm.old hW) rfl) rfl rfl ?_
 refine TL_v (iN q) (fun _ _ j hm => r_load ag3 (j _ _ rfl) (hm.old hH) rfl) rfl rfl ?_
 refine TL_v (.agg #[z8, z8, z8, z8]) (fun _ _ _ _ => r_build (vs := []) (by kernel_rfl) rfl) rfl rfl ?_
 refine TL_callN (fun (_ : Option Addr × Nat) => True) (fun (ar2, cr2) => .tuple #[.agg #[iN p, iN q, .slice ar2 ((List.replicate (p * q) zeroC).length) cr2], .int .i64 0]) (fun (ar2, cr2) => [(2, .row (.slice ar2 ((List.replicate (p * q) zeroC).length) cr2) 37 4 ((List.replicate (p * q) zeroC).length) ((List.replicate (p * q) zeroC).flatMap C4.cells))]) (fun _ _ j _ => r_call (args := [iN p, iN q, .agg #[z8, z8, z8, z8]]) (enters_of Try.func41 (by kernel_rfl) rfl) (j _ _ rfl) ((cons2 (j _ _ rfl) (cons2 (j _ _ rfl) (cons2 (j _ _ rfl) rfl)))) rfl) (fun w _ => (snew_ok p q zeroC w hp8 hq8).mono fun e w' ⟨a', cap', he, hb, hr⟩ => ⟨(a', cap'), trivial, he, hb, newOk1 2 hr⟩) rfl rfl rfl (w_n rfl) ?_
 rintro ⟨ar2, cr2⟩ -
 refine TL_v (.tuple #[.agg #[iN p, iN q, .slice ar2 ((List.replicate (p * q) zeroC).length) cr2], .int .i64 0]) (s_mv rfl) rfl rfl ?_
 refine TL_v (.agg #[iN p, iN q, .slice ar2 ((List.replicate (p * q) zeroC).length) cr2]) (s_ex rfl rfl) rfl rfl ?_
 refine TL_v (.int .i64 0) (s_ex rfl rfl) rfl rfl ?_
 refine TL_new 3 (.cells #[.int .i64 0, .int .i64 0, .slice none 0 0] 75) (fun B => pt B 0) (fun _ _ _ _ => r_alloc (v := .agg #[.int .i64 0, .int .i64 0, .slice none 0 0]) (by kernel_rfl) rfl) rfl rfl rfl (w_n rfl) ?_
 intro B3
 refine TL_store 3 (.cells #[iN p, iN q, .slice ar2 ((List.replicate (p * q) zeroC).length) cr2] 75) rfl (s_st sz75 rfl rfl 3 rfl rfl rfl rfl rfl) rfl rfl (w_n rfl) ?_
 refine TL_v (.int .i64 0) (s_as rfl) rfl rfl ?_
 refine TL_seq ?_
 refine T_seq (T_region ?_)
 refine TL_v (.int .i64 0) (s_mv rfl) rfl rfl ?_
 refine TL_v (.bool true) (s_op r_eql rfl rfl (by rfl)) rfl rfl ?_
 refine TL_v (.int .i64 0) (s_mv rfl) rfl rfl ?_
 refine TL_call (.tuple #[]) (fun _ _ j _ => r_call (args := [.bool true, .int .i64 0]) (enters_of Try.func94 (by kernel_rfl) rfl) (j _ _ rfl) ((cons2 (j _ _ rfl) (cons2 (j _ _ rfl) rfl))) rfl) (fun w _ => need_ok_st 0 w) rfl rfl rfl (w_n rfl) ?_
 refine TL_seq ?_
 refine T_seq (T_region ?_)
 refine TL_v (.agg #[iN p, iN q, .slice ar2 ((List.replicate (p * q) zeroC).length) cr2]) (s_la ag75 sz75 rfl 3 rfl rfl rfl) rfl rfl ?_
 refine TL_v (.agg #[iN p, iN q, .slice ar2 ((List.replicate (p * q) zeroC).length) cr2]) (fun _ _ j _ => r_build (vs := [(0, .agg #[iN p, iN q, .slice ar2 ((List.replicate (p * q) zeroC).length) cr2])]) (by kernel_rfl) (cons2 (pair2 (j _ _ rfl)) rfl)) rfl rfl ?_
 refine TL_new 4 (.cells #[iN p, iN q, .slice ar2 ((List.replicate (p * q) zeroC).length) cr2] 138) (fun B => pt B 0) (fun _ _ j _ => r_box (j _ _ rfl) rfl) rfl rfl rfl (w_n rfl) ?_
 intro B4
 refine TL_new 5 (.cells #[.pointer none] 134) (fun B => pt B 0) (fun _ _ _ _ => r_alloc (v := .pointer none) (by kernel_rfl) rfl) rfl rfl rfl (w_n rfl) ?_
 intro B5
 refine TL_store 5 (.cells #[pt B4 0] 134) rfl (s_st sz134 rfl rfl 5 rfl rfl rfl rfl rfl) rfl rfl (w_n rfl) ?_
 refine TL_seq ?_
 refine T_seq ?_
 refine T_seq (T_region ?_)
 refine TL_v (pt B4 0) (s_ld ag134 rfl 5 rfl rfl) rfl rfl ?_
 refine TL_callN (fun (_ : Nat) => True) (fun q6 => .func (.func 105) #[] #[pt q6 0]) (fun q6 => [(6, .blk q6 (.cells #[pt B4 0] 134))]) (fun _ _ j _ => r_call (args := [pt B4 0]) (enters_of Try.func95 (by kernel_rfl) rfl) (j _ _ rfl) ((cons2 (j _ _ rfl) rfl)) rfl) (fun w _ => (places_c B4 w).mono fun e w' ⟨q, he, hb, hr⟩ => ⟨q, trivial, he, hb, newOk1 6 hr⟩) rfl rfl rfl (w_n rfl) ?_
 intro q6 _
 refine TL_seq ?_
 refine T_block ?_
 rw [← fillL_zero (cutI c.wd c.ts u v p) (p * q)]
 rw [fillL_len]
 refine T_row 2 rfl (by omega) (fun g7 ha7 => ?_)
 subst ha7
 refine T_rowcap 2 rfl (fun hrc7 => ?_)
 refine T_sub [(0, pt C 0), (1, pt Wb 0), (3, pt Xb 0), (4, pt Yb 0), (5, pt B1 0), (10, pt B5 0), (64, .func (.func 105) #[] #[pt q6 0])] [(6, .blk q6 (.cells #[pt B4 0] 134)), (2, .row (.slice (some ⟨g7, 0, none⟩) (p * q) cr2) 37 4 (p * q) ((fillL (cutI c.wd c.ts u v p) (p * q) 0).flatMap C4.cells)), (1, .blk B1 (.cells #[.int .i64 0, .int .i64 0, .slice none 0 0] 75)), (3, .blk B3 (.cells #[iN p, iN q, .slice (some ⟨g7, 0, none⟩) (p * q) cr2] 75)), (4, .blk B4 (.cells #[iN p, iN q, .slice (some ⟨g7, 0, none⟩) (p * q) cr2] 138)), (5, .blk B5 (.cells #[pt B4 0] 134))] (sc4 rfl rfl rfl rfl (sc rfl (sc rfl (sc rfl sub_nil)))) (sc4 rfl rfl rfl rfl (sc rfl (sc rfl sub_nil))) ?_
 refine T_rangeB (ι := Unit) (ζ := Nat) (encs := encPt) (xs := ptsG p q) rfl rfl (enters_of Try.func105 (by kernel_rfl) rfl) (fun _ => rfl) rfl 801 802 rfl (fun (k : Nat) (_u : Unit) => True) (fun (k : Nat) (_u : Unit) => [(2, .row (.slice (some ⟨g7, 0, none⟩) (p * q) cr2) 37 4 (p * q) ((fillL (cutI c.wd c.ts u v p) (p * q) k).flatMap C4.cells)), (4, .blk B4 (.cells #[iN p, iN q, .slice (some ⟨g7, 0, none⟩) (p * q) cr2] 138)), (6, .blk q6 (.cells #[pt B4 0] 134)), (1, .blk B1 (.cells #[.int .i64 0, .int .i64 0, .slice none 0 0] 75)), (3, .blk B3 (.cells #[iN p, iN q, .slice (some ⟨g7, 0, none⟩) (p * q) cr2] 75)), (5, .blk B5 (.cells #[pt B4 0] 134))]) (fun _ _ => False) (fun _ => []) (fun x Bz => [(0, pt C 0), (1, pt Wb 0), (3, pt Xb 0), (4, pt Yb 0), (5, pt B1 0), (10, pt B5 0), (64, .func (.func 105) #[] #[pt q6 0]), (11, pt Bz 0)]) (fun x Bz => [(11, .blk Bz (.cells #[iN x.1, iN x.2] 47))]) (fun D l rec => places_iter _ _ _ 6 q6 B4 p q _ (by omega) (by omega) (fun _ _ => rfl) (fun _ _ _ hm => hm.at 4 rfl)) (fun _ _ => ⟨rfl, rfl⟩) (fun _ => ⟨rfl, rfl⟩) () trivial (sc4 rfl rfl rfl rfl (sc rfl (sc rfl sub_nil))) ?_ ?_ ?_ (fun _ _ _ h => h.elim)
 ·intro D1 l1 rec1 k x _u hx1 hp1
  refine T_sub [(0, pt C 0), (1, pt Wb 0), (3, pt Xb 0), (4, pt Yb 0), (5, pt B1 0), (10, pt B5 0), (64, .func (.func 105) #[] #[pt q6 0]), (65, .agg #[iN x.1, iN x.2])] [(801, .blk D1 (.deferred (some []))), (802, .blk l1 (.loop rec1)), (2, .row (.slice (some ⟨g7, 0, none⟩) (p * q) cr2) 37 4 (p * q) ((fillL (cutI c.wd c.ts u v p) (p * q) k).flatMap C4.cells)), (4, .blk B4 (.cells #[iN p, iN q, .slice (some ⟨g7, 0, none⟩) (p * q) cr2] 138)), (6, .blk q6 (.cells #[pt B4 0] 134)), (1, .blk B1 (.cells #[.int .i64 0, .int .i64 0, .slice none 0 0] 75)), (3, .blk B3 (.cells #[iN p, iN q, .slice (some ⟨g7, 0, none⟩) (p * q) cr2] 75)), (5, .blk B5 (.cells #[pt B4 0] 134))] (sc4 rfl rfl rfl rfl (sc4 rfl rfl rfl rfl sub_nil)) (sc4 rfl rfl rfl rfl (sc4 rfl rfl rfl rfl sub_nil)) ?_
  refine T_region ?_
  refine TL_new 11 (.cells #[.int .i64 0, .int .i64 0] 47) (fun B => pt B 0) (fun _ _ _ _ => r_alloc (v := .agg #[.int .i64 0, .int .i64 0]) (by kernel_rfl) rfl) rfl rfl rfl (w_n rfl) ?_
  intro B8
  refine TL_store 11 (.cells #[iN x.1, iN x.2] 47) rfl (s_st sz47 rfl rfl 11 rfl rfl rfl rfl rfl) rfl rfl (w_n rfl) ?_
  refine TL_nil ?_
  exact p_at B8 trivial (sc4 rfl rfl rfl rfl (sc4 rfl rfl rfl rfl sub_nil)) (sc4 rfl rfl rfl rfl (sc4 rfl rfl rfl rfl (sc rfl sub_nil)))
 ·intro D1 l1 rec1 k x _u Bz hx1 hp1
  show T _ _ _ [(0, pt C 0), (1, pt Wb 0), (3, pt Xb 0), (4, pt Yb 0), (5, pt B1 0), (10, pt B5 0), (64, .func (.func 105) #[] #[pt q6 0]), (11, pt Bz 0)] [(801, .blk D1 (.deferred (some []))), (802, .blk l1 (.loop { rec1 with state := .busy })), (11, .blk Bz (.cells #[iN x.1, iN x.2] 47)), (2, .row (.slice (some ⟨g7, 0, none⟩) (p * q) cr2) 37 4 (p * q) ((fillL (cutI c.wd c.ts u v p) (p * q) k).flatMap C4.cells)), (4, .blk B4 (.cells #[iN p, iN q, .slice (some ⟨g7, 0, none⟩) (p * q) cr2] 138)), (6, .blk q6 (.cells #[pt B4 0] 134)), (1, .blk B1 (.cells #[.int .i64 0, .int .i64 0, .slice none 0 0] 75)), (3, .blk B3 (.cells #[iN p, iN q, .slice (some ⟨g7, 0, none⟩) (p * q) cr2] 75)), (5, .blk B5 (.cells #[pt B4 0] 134))]
  have hxi := ptsG_in hx1
  have hdl := fillL_len (cutI c.wd c.ts u v p) (p * q) k
  have hti := in_px hxi.1 hxi.2.1
  refine T_block ?_
  refine T_draw (V := [(0, pt B4 0), (1, pt B4 0), (2, pt B4 0), (3, pt B4 2), (4, .slice (some ⟨g7, 0, none⟩) (p * q) cr2), (5, pt Bz 1), (6, iN x.2), (7, iN p), (8, iN (x.2 * p)), (9, pt Bz 0), (10, iN x.1), (11, iN (x.2 * p + x.1)), (12, pt c.p 0), (13, iN u), (14, pt Bz 0), (15, iN x.1), (16, iN (u + x.1)), (17, iN v), (18, pt Bz 1), (19, iN x.2), (20, iN (v + x.2))]) [0, 1, 3, 7, 15, 0, 32, 0, 224, 0, 512, 2016, 0, 0, 0, 16384, 57344, 0, 0, 262144, 917504, 2093056, 4190208, 8384512, 8384512, 16777215, 50331647] [[(10, none)], [(67, some 0)], [(68, some 1)], [(69, some 2)], [(70, some 3)], [(11, none)], [(72, some 5)], [(1, none)], [(73, some 6), (74, some 7)], [(11, none)], [(76, some 9)], [(75, some 8), (77, some 10)], [(0, none)], [(3, none)], [(11, none)], [(81, some 14)], [(80, some 13), (82, some 15)], [(4, none)], [(11, none)], [(85, some 18)], [(84, some 17), (86, some 19)], [(79, some 12), (83, some 16), (87, some 20)], [(88, some 21)], [(66, some 22)], [(66, some 22)], [(71, some 4), (78, some 11)], [(91, some 25), (89, some 23)]] 69206016 mixed (by kernel_rfl) ?_
  refine G_step [0, 1, 2, 3, 4, 5, 6, 7, 8, 9, 10, 11, 12, 13, 14, 15, 16, 17, 18, 19, 20] 21 [] (by kernel_rfl) (allM (all_cons (q_r (pt B4 0) rfl rfl rfl (s_ld ag134 rfl 5 rfl rfl)) (all_cons (q_r (pt B4 0) rfl rfl rfl (s_nc rfl rfl)) (all_cons (q_r (pt B4 0) rfl rfl rfl (s_fa fl138_0 sz75 rfl)) (all_cons (q_r (pt B4 2) rfl rfl rfl (s_fa fl75_2 sz71 rfl)) (all_cons (q_r (.slice (some ⟨g7, 0, none⟩) (p * q) cr2) rfl rfl rfl (s_ld ag71 rfl 4 rfl rfl)) (all_cons (q_r (pt Bz 1) rfl rfl rfl (s_fa fl47_1 sz3 rfl)) (all_cons (q_r (iN x.2) rfl rfl rfl (s_ld ag3 rfl 11 rfl rfl)) (all_cons (q_r (iN p) rfl rfl rfl (fun _ _ j hm => r_load ag3 (j _ _ rfl) (hm.old hW) rfl)) (all_cons (q_r (iN (x.2 * p)) rfl rfl rfl (s_op r_mul rfl rfl (iw (by omega) (by omega) (by omega)))) (all_cons (q_r (pt Bz 0) rfl rfl rfl (s_fa fl47_0 sz3 rfl)) (all_cons (q_r (iN x.1) rfl rfl rfl (s_ld ag3 rfl 11 rfl rfl)) (all_cons (q_r (iN (x.2 * p + x.1)) rfl rfl rfl (s_op r_add rfl rfl (iw (by omega) (by omega) (by omega)))) (all_cons (q_r (pt c.p 0) rfl rfl rfl (fun _ _ j hm => r_load ag28 (j _ _ rfl) (hm.old hC) rfl)) (all_cons (q_r (iN u) rfl rfl rfl (fun _ _ j hm => r_load ag3 (j _ _ rfl) (hm.old hX) rfl)) (all_cons (q_r (pt Bz 0) rfl rfl rfl (s_fa fl47_0 sz3 rfl)) (all_cons (q_r (iN x.1) rfl rfl rfl (s_ld ag3 rfl 11 rfl rfl)) (all_cons (q_r (iN (u + x.1)) rfl rfl rfl (s_op r_add rfl rfl (iw (by omega) (by omega) (by omega)))) (all_cons (q_r (iN v) rfl rfl rfl (fun _ _ j hm => r_load ag3 (j _ _ rfl) (hm.old hY) rfl)) (all_cons (q_r (pt Bz 1) rfl rfl rfl (s_fa fl47_1 sz3 rfl)) (all_cons (q_r (iN x.2) rfl rfl rfl (s_ld ag3 rfl 11 rfl rfl)) (all_cons (q_r (iN (v + x.2)) rfl rfl rfl (s_op r_add rfl rfl (iw (by omega) (by omega) (by omega)))) all_nil)))))))))))))))))))))) (allM (all_cons ?_ all_nil))
  refine LOb_call (.tuple #[.agg #[.int .u8 ((colAt c.wd c.ts (u + x.1) (v + x.2)).r), .int .u8 ((colAt c.wd c.ts (u + x.1) (v + x.2)).g), .int .u8 ((colAt c.wd c.ts (u + x.1) (v + x.2)).b), .int .u8 ((colAt c.wd c.ts (u + x.1) (v + x.2)).a)], .bool true]) [(22, .tuple #[.agg #[.int .u8 ((colAt c.wd c.ts (u + x.1) (v + x.2)).r), .int .u8 ((colAt c.wd c.ts (u + x.1) (v + x.2)).g), .int .u8 ((colAt c.wd c.ts (u + x.1) (v + x.2)).b), .int .u8 ((colAt c.wd c.ts (u + x.1) (v + x.2)).a)], .bool true]), (23, .agg #[.int .u8 ((colAt c.wd c.ts (u + x.1) (v + x.2)).r), .int .u8 ((colAt c.wd c.ts (u + x.1) (v + x.2)).g), .int .u8 ((colAt c.wd c.ts (u + x.1) (v + x.2)).b), .int .u8 ((colAt c.wd c.ts (u + x.1) (v + x.2)).a)]), (24, .bool true), (25, pt g7 (0 + (x.2 * p + x.1) * 4))] rfl (wv_n rfl) rfl rfl (fun _ _ j _ => r_call (args := [pt c.p 0, iN (u + x.1), iN (v + x.2)]) (enters_of Try.func23 (by kernel_rfl) rfl) (j _ _ rfl) ((cons2 (j _ _ rfl) (cons2 (j _ _ rfl) (cons2 (j _ _ rfl) rfl)))) rfl) (fun w hm => cat_in c (u + x.1) (v + x.2) w (hc.below hm.ext) (show u + x.1 < 8 * c.wd by omega) (show v + x.2 < 8 * c.hg by omega)) (by kernel_rfl) ?_
  refine G_step [0, 1, 2, 3, 4, 5, 6, 7, 8, 9, 10, 11, 22, 23, 24, 25] 26 [] (by kernel_rfl) (allM (all_cons (q_r (pt B4 0) rfl rfl rfl (s_ld ag134 rfl 5 rfl rfl)) (all_cons (q_r (pt B4 0) rfl rfl rfl (s_nc rfl rfl)) (all_cons (q_r (pt B4 0) rfl rfl rfl (s_fa fl138_0 sz75 rfl)) (all_cons (q_r (pt B4 2) rfl rfl rfl (s_fa fl75_2 sz71 rfl)) (all_cons (q_r (.slice (some ⟨g7, 0, none⟩) (p * q) cr2) rfl rfl rfl (s_ld ag71 rfl 4 rfl rfl)) (all_cons (q_r (pt Bz 1) rfl rfl rfl (s_fa fl47_1 sz3 rfl)) (all_cons (q_r (iN x.2) rfl rfl rfl (s_ld ag3 rfl 11 rfl rfl)) (all_cons (q_r (iN p) rfl rfl rfl (fun _ _ j hm => r_load ag3 (j _ _ rfl) (hm.old hW) rfl)) (all_cons (q_r (iN (x.2 * p)) rfl rfl rfl (s_op r_mul rfl rfl (iw (by omega) (by omega) (by omega)))) (all_cons (q_r (pt Bz 0) rfl rfl rfl (s_fa fl47_0 sz3 rfl)) (all_cons (q_r (iN x.1) rfl rfl rfl (s_ld ag3 rfl 11 rfl rfl)) (all_cons (q_r (iN (x.2 * p + x.1)) rfl rfl rfl (s_op r_add rfl rfl (iw (by omega) (by omega) (by omega)))) (all_cons (q_r (.tuple #[.agg #[.int .u8 ((colAt c.wd c.ts (u + x.1) (v + x.2)).r), .int .u8 ((colAt c.wd c.ts (u + x.1) (v + x.2)).g), .int .u8 ((colAt c.wd c.ts (u + x.1) (v + x.2)).b), .int .u8 ((colAt c.wd c.ts (u + x.1) (v + x.2)).a)], .bool true]) rfl rfl rfl (s_mv rfl)) (all_cons (q_r (.agg #[.int .u8 ((colAt c.wd c.ts (u + x.1) (v + x.2)).r), .int .u8 ((colAt c.wd c.ts (u + x.1) (v + x.2)).g), .int .u8 ((colAt c.wd c.ts (u + x.1) (v + x.2)).b), .int .u8 ((colAt c.wd c.ts (u + x.1) (v + x.2)).a)]) rfl rfl rfl (s_ex rfl rfl)) (all_cons (q_r (.bool true) rfl rfl rfl (s_ex rfl rfl)) (all_cons (q_r (pt g7 (0 + (x.2 * p + x.1) * 4)) rfl rfl rfl (fun _ _ j _ => r_indexAddrS (i := x.2 * p + x.1) sl71 sz37 (j _ _ rfl) (j _ _ rfl) (by omega))) all_nil))))))))))))))))) (allM (all_cons ?_ all_nil))
  refine LOb_storeRow (f := C4.cells) (l := (fillL (cutI c.wd c.ts u v p) (p * q) k)) (u := (colAt c.wd c.ts (u + x.1) (v + x.2))) (k := (x.2 * p + x.1)) 2 [] rfl (fillL_len _ _ _).symm rfl (wv_n rfl) rfl rfl sz37 C4.cells_len (by omega) rfl rfl (by kernel_rfl) ?_
  refine G_lastQ [24] [(5, pt B1 0)] (by kernel_rfl) (allM (all_cons (q_r (.bool true) rfl rfl rfl (s_ex rfl rfl)) all_nil)) (end_old rfl rfl end_nil) ?_
  refine p_blk_n ?_
  rw [cut_step hx1]
  exact p_round_n () trivial (sc4 rfl rfl rfl rfl (sc4 rfl rfl rfl rfl sub_nil))
 ·intro D1 _u hp1
  rw [ptsG_len]
  refine p_sub [(0, pt C 0), (1, pt Wb 0), (3, pt Xb 0), (4, pt Yb 0), (5, pt B1 0), (10, pt B5 0), (64, .func (.func 105) #[] #[pt q6 0])] [(801, .blk D1 (.deferred (some []))), (6, .blk q6 (.cells #[pt B4 0] 134)), (1, .blk B1 (.cells #[.int .i64 0, .int .i64 0, .slice none 0 0] 75)), (3, .blk B3 (.cells #[iN p, iN q, .slice (some ⟨g7, 0, none⟩) (p * q) cr2] 75)), (5, .blk B5 (.cells #[pt B4 0] 134)), (2, .row (.slice (some ⟨g7, 0, none⟩) (p * q) cr2) 37 4 (p * q) ((fillL (cutI c.wd c.ts u v p) (p * q) (q * p)).flatMap C4.cells)), (4, .blk B4 (.cells #[iN p, iN q, .slice (some ⟨g7, 0, none⟩) (p * q) cr2] 138))] (sc4 rfl rfl rfl rfl (sc rfl (sc rfl (sc rfl sub_nil)))) (sc4 rfl rfl rfl rfl (sc rfl (sc rfl (sc rfl sub_nil)))) ?_
  refine p_blk_n ?_
  refine p_seq ?_
  refine T_seq (T_region ?_)
  refine TL_v (pt B4 0) (s_ld ag134 rfl 5 rfl rfl) rfl rfl ?_
  refine TL_v (pt B4 0) (s_nc rfl rfl) rfl rfl ?_
  refine TL_v (pt B4 0) (s_fa fl138_0 sz75 rfl) rfl rfl ?_
  refine TL_v (.agg #[iN p, iN q, .slice (some ⟨g7, 0, none⟩) (p * q) cr2]) (s_la ag75 sz75 rfl 4 rfl rfl rfl) rfl rfl ?_
  refine TL_store 1 (.cells #[iN p, iN q, .slice (some ⟨g7, 0, none⟩) (p * q) cr2] 75) rfl (s_st sz75 rfl rfl 1 rfl rfl rfl rfl rfl) rfl rfl (w_n rfl) ?_
  refine TL_seq ?_
  refine T_ret' ?_
  refine ret_of1 801 D1 rfl rfl (.agg #[iN p, iN q, .slice (some ⟨g7, 0, none⟩) (p * q) cr2]) (fun tmps w hk hm => res1 rfl (res_cell (hk 5 _ rfl) (run_loadVar_agg ag75 sz75 (hm.at 1 rfl) (Nat.le_of_ble_eq_true rfl) rfl))) (fun w hm => ?_)
  have hrow := hm.row 2 rfl
  rw [cut_all] at hrow
  exact ⟨(some ⟨g7, 0, none⟩), cr2, by rw [show (cutL c.wd c.ts u v p q).length = p * q from by simp [cutL]], hm.ext, by rw [show (cutL c.wd c.ts u v p q).length = p * q from by simp [cutL]]; exact hrow⟩

set_option maxHeartbeats 1000000 in
theorem cut1_no (c : Cv) (C Wb Hb Xb Yb : Nat) (wi hi xi yi : Int) (w : World) (hc : CvAt w c) (hC : hp w C = some (.cells #[.pointer (some ⟨c.p, 0, none⟩)] 28)) (hW : hp w Wb = some (.cells #[.int .i64 wi] 3)) (hH : hp w Hb = some (.cells #[.int .i64 hi] 3)) (hX : hp w Xb = some (.cells #[.int .i64 xi] 3)) (hY : hp w Yb = some (.cells #[.int .i64 yi] 3)) (hno : ¬ (sideI wi = true ∧ sideI hi = true ∧ 0 ≤ xi ∧ 0 ≤ yi ∧ xi ≤ ((8 * c.wd : Nat) : Int) - wi ∧ yi ≤ ((8 * c.hg : Nat) : Int) - hi)) : Calls Try.prog 93 #[.pointer (some ⟨C, 0, none⟩), .pointer (some ⟨Wb, 0, none⟩), .pointer (some ⟨Hb, 0, none⟩), .pointer (some ⟨Xb, 0, none⟩), .pointer (some ⟨Yb, 0, none⟩)] w fun e w' => e = .panicked [{ v := .iface 29 (.int .i64 2), recovered := false }] ∧ Below w.heap.size w w' := by
 have hwd4 := hc.wd4
 have hhg4 := hc.hg4
 refine calls_of_T (l := [pt C 0, pt Wb 0, pt Hb 0, pt Xb 0, pt Yb 0]) 96 Try.func93 rfl rfl rfl ?_
 show T _ _ _ [(0, pt C 0), (1, pt Wb 0), (2, pt Hb 0), (3, pt Xb 0), (4, pt Yb 0)] []
 refine T_seq (T_region ?_)
 refine TL_new 1 (.cells #[.int .i64 0, .int .i64 0, .slice none 0 0] 75) (fun B => pt B 0) (fun _ _ _ _ => r_alloc (v := .agg #[.int .i64 0, .int .i64 0, .slice none 0 0]) (by kernel_rfl) rfl) rfl rfl rfl (w_n rfl) ?_
 intro B1
 refine TL_seq ?_
 refine T_seq (T_region ?_)
 refine TL_v (pt c.p 0) (fun _ _ j hm => r_load ag28 (j _ _ rfl) (hm.old hC) rfl) rfl rfl ?_
 refine TL_v (.bool true) (fun _ _ j _ => r_as (r_neqPn po28 (j _ _ rfl) (j _ _ rfl)) (by rfl)) rfl rfl ?_
 refine TL_call (.tuple #[]) (fun _ _ j _ => r_call (args := [.bool true, .int .i64 1]) (enters_of Try.func94 (by kernel_rfl) rfl) (j _ _ rfl) ((cons2 (j _ _ rfl) (cons2 (j _ _ rfl) rfl))) rfl) (fun w _ => need_ok_st 1 w) rfl rfl rfl (w_n rfl) ?_
 refine TL_seq ?_
 refine T_seq (T_region ?_)
 refine TL_v (pt c.p 0) (fun _ _ j hm => r_load ag28 (j _ _ rfl) (hm.old hC) rfl) rfl rfl ?_
 refine TL_call (.tuple #[iN (8 * c.wd), iN (8 * c.hg)]) (fun _ _ j _ => r_call (args := [pt c.p 0]) (enters_of Try.func32 (by kernel_rfl) rfl) (j _ _ rfl) ((cons2 (j _ _ rfl) rfl)) rfl) (fun w hm => size_c c w (hc.below hm.ext)) rfl rfl rfl (w_n rfl) ?_
 refine TL_v (.tuple #[iN (8 * c.wd), iN (8 * c.hg)]) (s_mv rfl) rfl rfl ?_
 refine TL_v (iN (8 * c.wd)) (s_ex rfl rfl) rfl rfl ?_
 refine TL_v (iN (8 * c.hg)) (s_ex rfl rfl) rfl rfl ?_
 refine TL_v (iN (8 * c.wd)) (s_as rfl) rfl rfl ?_
 refine TL_v (iN (8 * c.hg)) (s_as rfl) rfl rfl ?_
 refine TL_seq ?_
 by_cases s1 : sideI wi = true
 ·skip
  by_cases s2 : sideI hi = true
  ·skip
   by_cases s3 : (0 : Int) ≤ xi
   ·skip
    by_cases s4 : (0 : Int) ≤ yi
    ·skip
     by_cases s5 : xi ≤ ((8 * c.wd : Nat) : Int) - wi
     ·skip
      have s1b := of_decide_eq_true s1
      have s2b := of_decide_eq_true s2
      have s6 : ¬ yi ≤ ((8 * c.hg : Nat) : Int) - hi := fun e => hno ⟨s1, s2, s3, s4, s5, e⟩
      refine T_seq (T_region ?_)
      refine TL_v (.int .i64 wi) (fun _ _ j hm => r_load ag3 (j _ _ rfl) (hm.old hW) rfl) rfl rfl ?_
      refine TL_call (.bool true) (fun _ _ j _ => r_call (args := [.int .i64 wi]) (enters_of Try.func81 (by kernel_rfl) rfl) (j _ _ rfl) ((cons2 (j _ _ rfl) rfl)) rfl) (fun w _ => (side_c wi w).mono fun _ _ h => ⟨h.1.trans (congrArg Ending.returned (bool_as s1)), h.2⟩) rfl rfl rfl (w_n rfl) ?_
      refine TL_v (.bool true) (s_mv rfl) rfl rfl ?_
      refine TL_q (.int .i64 hi) (fun _ _ j hm => r_load ag3 (j _ _ rfl) (hm.old hH) rfl) rfl rfl rfl (want_y 22 rfl rfl rfl) ?_
      refine TL_call (.bool true) (fun _ _ j _ => r_call (args := [.int .i64 hi]) (enters_of Try.func81 (by kernel_rfl) rfl) (j _ _ rfl) ((cons2 (j _ _ rfl) rfl)) rfl) (fun w _ => (side_c hi w).mono fun _ _ h => ⟨h.1.trans (congrArg Ending.returned (bool_as s2)), h.2⟩) rfl rfl rfl (want_y 22 rfl rfl rfl) ?_
      refine TL_v (.bool true) (s_pt rfl rfl) rfl rfl ?_
      refine TL_v (.bool true) (s_mv rfl) rfl rfl ?_
      refine TL_q (.int .i64 xi) (fun _ _ j hm => r_load ag3 (j _ _ rfl) (hm.old hX) rfl) rfl rfl rfl (want_y 26 rfl rfl rfl) ?_
      refine TL_q (.bool true) (s_op r_geq rfl rfl (bool_as (decide_eq_true s3))) rfl rfl rfl (want_y 26 rfl rfl rfl) ?_
      refine TL_v (.bool true) (s_pt rfl rfl) rfl rfl ?_
      refine TL_v (.bool true) (s_mv rfl) rfl rfl ?_
      refine TL_q (.int .i64 yi) (fun _ _ j hm => r_load ag3 (j _ _ rfl) (hm.old hY) rfl) rfl rfl rfl (want_y 30 rfl rfl rfl) ?_
      refine TL_q (.bool true) (s_op r_geq rfl rfl (bool_as (decide_eq_true s4))) rfl rfl rfl (want_y 30 rfl rfl rfl) ?_
      refine TL_v (.bool true) (s_pt rfl rfl) rfl rfl ?_
      refine TL_v (.bool true) (s_mv rfl) rfl rfl ?_
      refine TL_q (.int .i64 xi) (fun _ _ j hm => r_load ag3 (j _ _ rfl) (hm.old hX) rfl) rfl rfl rfl (want_y 34 rfl rfl rfl) ?_
      refine TL_q (iN (8 * c.wd)) (s_mv rfl) rfl rfl rfl (want_y 34 rfl rfl rfl) ?_
      refine TL_q (.int .i64 wi) (fun _ _ j hm => r_load ag3 (j _ _ rfl) (hm.old hW) rfl) rfl rfl rfl (want_y 34 rfl rfl rfl) ?_
      refine TL_q (.int .i64 (((8 * c.wd : Nat) : Int) - wi)) (s_op r_sub rfl rfl (int_as (wrap64 (by omega) (by omega)))) rfl rfl rfl (want_y 34 rfl rfl rfl) ?_
      refine TL_q (.bool true) (s_op r_leq rfl rfl (bool_as (decide_eq_true s5))) rfl rfl rfl (want_y 34 rfl rfl rfl) ?_
      refine TL_v (.bool true) (s_pt rfl rfl) rfl rfl ?_
      refine TL_v (.bool true) (s_mv rfl) rfl rfl ?_
      refine TL_q (.int .i64 yi) (fun _ _ j hm => r_load ag3 (j _ _ rfl) (hm.old hY) rfl) rfl rfl rfl (want_y 41 rfl rfl rfl) ?_
      refine TL_q (iN (8 * c.hg)) (s_mv rfl) rfl rfl rfl (want_y 41 rfl rfl rfl) ?_
      refine TL_q (.int .i64 hi) (fun _ _ j hm => r_load ag3 (j _ _ rfl) (hm.old hH) rfl) rfl rfl rfl (want_y 41 rfl rfl rfl) ?_
      refine TL_q (.int .i64 (((8 * c.hg : Nat) : Int) - hi)) (s_op r_sub rfl rfl (int_as (wrap64 (by omega) (by omega)))) rfl rfl rfl (want_y 41 rfl rfl rfl) ?_
      refine TL_q (.bool false) (s_op r_leq rfl rfl (bool_as (decide_eq_false s6))) rfl rfl rfl (want_y 41 rfl rfl rfl) ?_
      refine TL_v (.bool false) (s_pt rfl rfl) rfl rfl ?_
      refine TL_callQ (v := .iface 29 (.int .i64 2)) (fun _ _ j _ => r_call (args := [.bool false, .int .i64 2]) (enters_of Try.func94 (by kernel_rfl) rfl) (j _ _ rfl) ((cons2 (j _ _ rfl) (cons2 (j _ _ rfl) rfl))) rfl) (fun w _ => need_no_st 2 w) rfl (w_n rfl) ?_
      refine p_then_p ?_
      refine p_pan rfl (fun w hm => ?_)
      exact ⟨rfl, hm.ext⟩
     ·skip
      have s1b := of_decide_eq_true s1
      have s2b := of_decide_eq_true s2
      refine T_seq (T_region ?_)
      refine TL_v (.int .i64 wi) (fun _ _ j hm => r_load ag3 (j _ _ rfl) (hm.old hW) rfl) rfl rfl ?_
      refine TL_call (.bool true) (fun _ _ j _ => r_call (args := [.int .i64 wi]) (enters_of Try.func81 (by kernel_rfl) rfl) (j _ _ rfl) ((cons2 (j _ _ rfl) rfl)) rfl) (fun w _ => (side_c wi w).mono fun _ _ h => ⟨h.1.trans (congrArg Ending.returned (bool_as s1)), h.2⟩) rfl rfl rfl (w_n rfl) ?_
      refine TL_v (.bool true) (s_mv rfl) rfl rfl ?_
      refine TL_q (.int .i64 hi) (fun _ _ j hm => r_load ag3 (j _ _ rfl) (hm.old hH) rfl) rfl rfl rfl (want_y 22 rfl rfl rfl) ?_
      refine TL_call (.bool true) (fun _ _ j _ => r_call (args := [.int .i64 hi]) (enters_of Try.func81 (by kernel_rfl) rfl) (j _ _ rfl) ((cons2 (j _ _ rfl) rfl)) rfl) (fun w _ => (side_c hi w).mono fun _ _ h => ⟨h.1.trans (congrArg Ending.returned (bool_as s2)), h.2⟩) rfl rfl rfl (want_y 22 rfl rfl rfl) ?_
      refine TL_v (.bool true) (s_pt rfl rfl) rfl rfl ?_
      refine TL_v (.bool true) (s_mv rfl) rfl rfl ?_
      refine TL_q (.int .i64 xi) (fun _ _ j hm => r_load ag3 (j _ _ rfl) (hm.old hX) rfl) rfl rfl rfl (want_y 26 rfl rfl rfl) ?_
      refine TL_q (.bool true) (s_op r_geq rfl rfl (bool_as (decide_eq_true s3))) rfl rfl rfl (want_y 26 rfl rfl rfl) ?_
      refine TL_v (.bool true) (s_pt rfl rfl) rfl rfl ?_
      refine TL_v (.bool true) (s_mv rfl) rfl rfl ?_
      refine TL_q (.int .i64 yi) (fun _ _ j hm => r_load ag3 (j _ _ rfl) (hm.old hY) rfl) rfl rfl rfl (want_y 30 rfl rfl rfl) ?_
      refine TL_q (.bool true) (s_op r_geq rfl rfl (bool_as (decide_eq_true s4))) rfl rfl rfl (want_y 30 rfl rfl rfl) ?_
      refine TL_v (.bool true) (s_pt rfl rfl) rfl rfl ?_
      refine TL_v (.bool true) (s_mv rfl) rfl rfl ?_
      refine TL_q (.int .i64 xi) (fun _ _ j hm => r_load ag3 (j _ _ rfl) (hm.old hX) rfl) rfl rfl rfl (want_y 34 rfl rfl rfl) ?_
      refine TL_q (iN (8 * c.wd)) (s_mv rfl) rfl rfl rfl (want_y 34 rfl rfl rfl) ?_
      refine TL_q (.int .i64 wi) (fun _ _ j hm => r_load ag3 (j _ _ rfl) (hm.old hW) rfl) rfl rfl rfl (want_y 34 rfl rfl rfl) ?_
      refine TL_q (.int .i64 (((8 * c.wd : Nat) : Int) - wi)) (s_op r_sub rfl rfl (int_as (wrap64 (by omega) (by omega)))) rfl rfl rfl (want_y 34 rfl rfl rfl) ?_
      refine TL_q (.bool false) (s_op r_leq rfl rfl (bool_as (decide_eq_false s5))) rfl rfl rfl (want_y 34 rfl rfl rfl) ?_
      refine TL_v (.bool false) (s_pt rfl rfl) rfl rfl ?_
      refine TL_v (.bool false) (s_mv rfl) rfl rfl ?_
      refine TL_x 41 rfl rfl rfl rfl rfl ?_
      refine TL_x 41 rfl rfl rfl rfl rfl ?_
      refine TL_x 41 rfl rfl rfl rfl rfl ?_
      refine TL_x 41 rfl rfl rfl rfl rfl ?_
      refine TL_x 41 rfl rfl rfl rfl rfl ?_
      refine TL_v (.bool false) (s_pf rfl rfl) rfl rfl ?_
      refine TL_callQ (v := .iface 29 (.int .i64 2)) (fun _ _ j _ => r_call (args := [.bool false, .int .i64 2]) (enters_of Try.func94 (by kernel_rfl) rfl) (j _ _ rfl) ((cons2 (j _ _ rfl) (cons2 (j _ _ rfl) rfl))) rfl) (fun w _ => need_no_st 2 w) rfl (w_n rfl) ?_
      refine p_then_p ?_
      refine p_pan rfl (fun w hm => ?_)
      exact ⟨rfl, hm.ext⟩
    ·skip
     have s1b := of_decide_eq_true s1
     have s2b := of_decide_eq_true s2
     refine T_seq (T_region ?_)
     refine TL_v (.int .i64 wi) (fun _ _ j hm => r_load ag3 (j _ _ rfl) (hm.old hW) rfl) rfl rfl ?_
     refine TL_call (.bool true) (fun _ _ j _ => r_call (args := [.int .i64 wi]) (enters_of Try.func81 (by kernel_rfl) rfl) (j _ _ rfl) ((cons2 (j _ _ rfl) rfl)) rfl) (fun w _ => (side_c wi w).mono fun _ _ h => ⟨h.1.trans (congrArg Ending.returned (bool_as s1)), h.2⟩) rfl rfl rfl (w_n rfl) ?_
     refine TL_v (.bool true) (s_mv rfl) rfl rfl ?_
     refine TL_q (.int .i64 hi) (fun _ _ j hm => r_load ag3 (j _ _ rfl) (hm.old hH) rfl) rfl rfl rfl (want_y 22 rfl rfl rfl) ?_
     refine TL_call (.bool true) (fun _ _ j _ => r_call (args := [.int .i64 hi]) (enters_of Try.func81 (by kernel_rfl) rfl) (j _ _ rfl) ((cons2 (j _ _ rfl) rfl)) rfl) (fun w _ => (side_c hi w).mono fun _ _ h => ⟨h.1.trans (congrArg Ending.returned (bool_as s2)), h.2⟩) rfl rfl rfl (want_y 22 rfl rfl rfl) ?_
     refine TL_v (.bool true) (s_pt rfl rfl) rfl rfl ?_
     refine TL_v (.bool true) (s_mv rfl) rfl rfl ?_
     refine TL_q (.int .i64 xi) (fun _ _ j hm => r_load ag3 (j _ _ rfl) (hm.old hX) rfl) rfl rfl rfl (want_y 26 rfl rfl rfl) ?_
     refine TL_q (.bool true) (s_op r_geq rfl rfl (bool_as (decide_eq_true s3))) rfl rfl rfl (want_y 26 rfl rfl rfl) ?_
     refine TL_v (.bool true) (s_pt rfl rfl) rfl rfl ?_
     refine TL_v (.bool true) (s_mv rfl) rfl rfl ?_
     refine TL_q (.int .i64 yi) (fun _ _ j hm => r_load ag3 (j _ _ rfl) (hm.old hY) rfl) rfl rfl rfl (want_y 30 rfl rfl rfl) ?_
     refine TL_q (.bool false) (s_op r_geq rfl rfl (bool_as (decide_eq_false s4))) rfl rfl rfl (want_y 30 rfl rfl rfl) ?_
     refine TL_v (.bool false) (s_pt rfl rfl) rfl rfl ?_
     refine TL_v (.bool false) (s_mv rfl) rfl rfl ?_
     refine TL_x 34 rfl rfl rfl rfl rfl ?_
     refine TL_x 34 rfl rfl rfl rfl rfl ?_
     refine TL_x 34 rfl rfl rfl rfl rfl ?_
     refine TL_x 34 rfl rfl rfl rfl rfl ?_
     refine TL_x 34 rfl rfl rfl rfl rfl ?_
     refine TL_v (.bool false) (s_pf rfl rfl) rfl rfl ?_
     refine TL_v (.bool false) (s_mv rfl) rfl rfl ?_
     refine TL_x 41 rfl rfl rfl rfl rfl ?_
     refine TL_x 41 rfl rfl rfl rfl rfl ?_
     refine TL_x 41 rfl rfl rfl rfl rfl ?_
     refine TL_x 41 rfl rfl rfl rfl rfl ?_
     refine TL_x 41 rfl rfl rfl rfl rfl ?_
     refine TL_v (.bool false) (s_pf rfl rfl) rfl rfl ?_
     refine TL_callQ (v := .iface 29 (.int .i64 2)) (fun _ _ j _ => r_call (args := [.bool false, .int .i64 2]) (enters_of Try.func94 (by kernel_rfl) rfl) (j _ _ rfl) ((cons2 (j _ _ rfl) (cons2 (j _ _ rfl) rfl))) rfl) (fun w _ => need_no_st 2 w) rfl (w_n rfl) ?_
     refine p_then_p ?_
     refine p_pan rfl (fun w hm => ?_)
     exact ⟨rfl, hm.ext⟩
   ·skip
    have s1b := of_decide_eq_true s1
    have s2b := of_decide_eq_true s2
    refine T_seq (T_region ?_)
    refine TL_v (.int .i64 wi) (fun _ _ j hm => r_load ag3 (j _ _ rfl) (hm.old hW) rfl) rfl rfl ?_
    refine TL_call (.bool true) (fun _ _ j _ => r_call (args := [.int .i64 wi]) (enters_of Try.func81 (by kernel_rfl) rfl) (j _ _ rfl) ((cons2 (j _ _ rfl) rfl)) rfl) (fun w _ => (side_c wi w).mono fun _ _ h => ⟨h.1.trans (congrArg Ending.returned (bool_as s1)), h.2⟩) rfl rfl rfl (w_n rfl) ?_
    refine TL_v (.bool true) (s_mv rfl) rfl rfl ?_
    refine TL_q (.int .i64 hi) (fun _ _ j hm => r_load ag3 (j _ _ rfl) (hm.old hH) rfl) rfl rfl rfl (want_y 22 rfl rfl rfl) ?_
    refine TL_call (.bool true) (fun _ _ j _ => r_call (args := [.int .i64 hi]) (enters_of Try.func81 (by kernel_rfl) rfl) (j _ _ rfl) ((cons2 (j _ _ rfl) rfl)) rfl) (fun w _ => (side_c hi w).mono fun _ _ h => ⟨h.1.trans (congrArg Ending.returned (bool_as s2)), h.2⟩) rfl rfl rfl (want_y 22 rfl rfl rfl) ?_
    refine TL_v (.bool true) (s_pt rfl rfl) rfl rfl ?_
    refine TL_v (.bool true) (s_mv rfl) rfl rfl ?_
    refine TL_q (.int .i64 xi) (fun _ _ j hm => r_load ag3 (j _ _ rfl) (hm.old hX) rfl) rfl rfl rfl (want_y 26 rfl rfl rfl) ?_
    refine TL_q (.bool false) (s_op r_geq rfl rfl (bool_as (decide_eq_false s3))) rfl rfl rfl (want_y 26 rfl rfl rfl) ?_
    refine TL_v (.bool false) (s_pt rfl rfl) rfl rfl ?_
    refine TL_v (.bool false) (s_mv rfl) rfl rfl ?_
    refine TL_x 30 rfl rfl rfl rfl rfl ?_
    refine TL_x 30 rfl rfl rfl rfl rfl ?_
    refine TL_v (.bool false) (s_pf rfl rfl) rfl rfl ?_
    refine TL_v (.bool false) (s_mv rfl) rfl rfl ?_
    refine TL_x 34 rfl rfl rfl rfl rfl ?_
    refine TL_x 34 rfl rfl rfl rfl rfl ?_
    refine TL_x 34 rfl rfl rfl rfl rfl ?_
    refine TL_x 34 rfl rfl rfl rfl rfl ?_
    refine TL_x 34 rfl rfl rfl rfl rfl ?_
    refine TL_v (.bool false) (s_pf rfl rfl) rfl rfl ?_
    refine TL_v (.bool false) (s_mv rfl) rfl rfl ?_
    refine TL_x 41 rfl rfl rfl rfl rfl ?_
    refine TL_x 41 rfl rfl rfl rfl rfl ?_
    refine TL_x 41 rfl rfl rfl rfl rfl ?_
    refine TL_x 41 rfl rfl rfl rfl rfl ?_
    refine TL_x 41 rfl rfl rfl rfl rfl ?_
    refine TL_v (.bool false) (s_pf rfl rfl) rfl rfl ?_
    refine TL_callQ (v := .iface 29 (.int .i64 2)) (fun _ _ j _ => r_call (args := [.bool false, .int .i64 2]) (enters_of Try.func94 (by kernel_rfl) rfl) (j _ _ rfl) ((cons2 (j _ _ rfl) (cons2 (j _ _ rfl) rfl))) rfl) (fun w _ => need_no_st 2 w) rfl (w_n rfl) ?_
    refine p_then_p ?_
    refine p_pan rfl (fun w hm => ?_)
    exact ⟨rfl, hm.ext⟩
  ·skip
   have s1b := of_decide_eq_true s1
   refine T_seq (T_region ?_)
   refine TL_v (.int .i64 wi) (fun _ _ j hm => r_load ag3 (j _ _ rfl) (hm.old hW) rfl) rfl rfl ?_
   refine TL_call (.bool true) (fun _ _ j _ => r_call (args := [.int .i64 wi]) (enters_of Try.func81 (by kernel_rfl) rfl) (j _ _ rfl) ((cons2 (j _ _ rfl) rfl)) rfl) (fun w _ => (side_c wi w).mono fun _ _ h => ⟨h.1.trans (congrArg Ending.returned (bool_as s1)), h.2⟩) rfl rfl rfl (w_n rfl) ?_
   refine TL_v (.bool true) (s_mv rfl) rfl rfl ?_
   refine TL_q (.int .i64 hi) (fun _ _ j hm => r_load ag3 (j _ _ rfl) (hm.old hH) rfl) rfl rfl rfl (want_y 22 rfl rfl rfl) ?_
   refine TL_call (.bool false) (fun _ _ j _ => r_call (args := [.int .i64 hi]) (enters_of Try.func81 (by kernel_rfl) rfl) (j _ _ rfl) ((cons2 (j _ _ rfl) rfl)) rfl) (fun w _ => (side_c hi w).mono fun _ _ h => ⟨h.1.trans (congrArg Ending.returned (bool_as (eq_false_of_ne_true s2))), h.2⟩) rfl rfl rfl (want_y 22 rfl rfl rfl) ?_
   refine TL_v (.bool false) (s_pt rfl rfl) rfl rfl ?_
   refine TL_v (.bool false) (s_mv rfl) rfl rfl ?_
   refine TL_x 26 rfl rfl rfl rfl rfl ?_
   refine TL_x 26 rfl rfl rfl rfl rfl ?_
   refine TL_v (.bool false) (s_pf rfl rfl) rfl rfl ?_
   refine TL_v (.bool false) (s_mv rfl) rfl rfl ?_
   refine TL_x 30 rfl rfl rfl rfl rfl ?_
   refine TL_x 30 rfl rfl rfl rfl rfl ?_
   refine TL_v (.bool false) (s_pf rfl rfl) rfl rfl ?_
   refine TL_v (.bool false) (s_mv rfl) rfl rfl ?_
   refine TL_x 34 rfl rfl rfl rfl rfl ?_
   refine TL_x 34 rfl rfl rfl rfl rfl ?_
   refine TL_x 34 rfl rfl rfl rfl rfl ?_
   refine TL_x 34 rfl rfl rfl rfl rfl ?_
   refine TL_x 34 rfl rfl rfl rfl rfl ?_
   refine TL_v (.bool false) (s_pf rfl rfl) rfl rfl ?_
   refine TL_v (.bool false) (s_mv rfl) rfl rfl ?_
   refine TL_x 41 rfl rfl rfl rfl rfl ?_
   refine TL_x 41 rfl rfl rfl rfl rfl ?_
   refine TL_x 41 rfl rfl rfl rfl rfl ?_
   refine TL_x 41 rfl rfl rfl rfl rfl ?_
   refine TL_x 41 rfl rfl rfl rfl rfl ?_
   refine TL_v (.bool false) (s_pf rfl rfl) rfl rfl ?_
   refine TL_callQ (v := .iface 29 (.int .i64 2)) (fun _ _ j _ => r_call (args := [.bool false, .int .i64 2]) (enters_of Try.func94 (by kernel_rfl) rfl) (j _ _ rfl) ((cons2 (j _ _ rfl) (cons2 (j _ _ rfl) rfl))) rfl) (fun w _ => need_no_st 2 w) rfl (w_n rfl) ?_
   refine p_then_p ?_
   refine p_pan rfl (fun w hm => ?_)
   exact ⟨rfl, hm.ext⟩
 ·skip
  refine T_seq (T_region ?_)
  refine TL_v (.int .i64 wi) (fun _ _ j hm => r_load ag3 (j _ _ rfl) (hm.old hW) rfl) rfl rfl ?_
  refine TL_call (.bool false) (fun _ _ j _ => r_call (args := [.int .i64 wi]) (enters_of Try.func81 (by kernel_rfl) rfl) (j _ _ rfl) ((cons2 (j _ _ rfl) rfl)) rfl) (fun w _ => (side_c wi w).mono fun _ _ h => ⟨h.1.trans (congrArg Ending.returned (bool_as (eq_false_of_ne_true s1))), h.2⟩) rfl rfl rfl (w_n rfl) ?_
  refine TL_v (.bool false) (s_mv rfl) rfl rfl ?_
  refine TL_x 22 rfl rfl rfl rfl rfl ?_
  refine TL_x 22 rfl rfl rfl rfl rfl ?_
  refine TL_v (.bool false) (s_pf rfl rfl) rfl rfl ?_
  refine TL_v (.bool false) (s_mv rfl) rfl rfl ?_
  refine TL_x 26 rfl rfl rfl rfl rfl ?_
  refine TL_x 26 rfl rfl rfl rfl rfl ?_
  refine TL_v (.bool false) (s_pf rfl rfl) rfl rfl ?_
  refine TL_v (.bool false) (s_mv rfl) rfl rfl ?_
  refine TL_x 30 rfl rfl rfl rfl rfl ?_
  refine TL_x 30 rfl rfl rfl rfl rfl ?_
  refine TL_v (.bool false) (s_pf rfl rfl) rfl rfl ?_
  refine TL_v (.bool false) (s_mv rfl) rfl rfl ?_
  refine TL_x 34 rfl rfl rfl rfl rfl ?_
  refine TL_x 34 rfl rfl rfl rfl rfl ?_
  refine TL_x 34 rfl rfl rfl rfl rfl ?_
  refine TL_x 34 rfl rfl rfl rfl rfl ?_
  refine TL_x 34 rfl rfl rfl rfl rfl ?_
  refine TL_v (.bool false) (s_pf rfl rfl) rfl rfl ?_
  refine TL_v (.bool false) (s_mv rfl) rfl rfl ?_
  refine TL_x 41 rfl rfl rfl rfl rfl ?_
  refine TL_x 41 rfl rfl rfl rfl rfl ?_
  refine TL_x 41 rfl rfl rfl rfl rfl ?_
  refine TL_x 41 rfl rfl rfl rfl rfl ?_
  refine TL_x 41 rfl rfl rfl rfl rfl ?_
  refine TL_v (.bool false) (s_pf rfl rfl) rfl rfl ?_
  refine TL_callQ (v := .iface 29 (.int .i64 2)) (fun _ _ j _ => r_call (args := [.bool false, .int .i64 2]) (enters_of Try.func94 (by kernel_rfl) rfl) (j _ _ rfl) ((cons2 (j _ _ rfl) (cons2 (j _ _ rfl) rfl))) rfl) (fun w _ => need_no_st 2 w) rfl (w_n rfl) ?_
  refine p_then_p ?_
  refine p_pan rfl (fun w hm => ?_)
  exact ⟨rfl, hm.ext⟩

theorem cut1_nil (C Wb Hb Xb Yb : Nat) (wi hi xi yi : Int) (w : World) (hC : hp w C = some (.cells #[.pointer none] 28)) (hW : hp w Wb = some (.cells #[.int .i64 wi] 3)) (hH : hp w Hb = some (.cells #[.int .i64 hi] 3)) (hX : hp w Xb = some (.cells #[.int .i64 xi] 3)) (hY : hp w Yb = some (.cells #[.int .i64 yi] 3)) : Calls Try.prog 93 #[.pointer (some ⟨C, 0, none⟩), .pointer (some ⟨Wb, 0, none⟩), .pointer (some ⟨Hb, 0, none⟩), .pointer (some ⟨Xb, 0, none⟩), .pointer (some ⟨Yb, 0, none⟩)] w fun e w' => e = .panicked [{ v := .iface 29 (.int .i64 1), recovered := false }] ∧ Below w.heap.size w w' := by
 refine calls_of_T (l := [pt C 0, pt Wb 0, pt Hb 0, pt Xb 0, pt Yb 0]) 96 Try.func93 rfl rfl rfl ?_
 show T _ _ _ [(0, pt C 0), (1, pt Wb 0), (2, pt Hb 0), (3, pt Xb 0), (4, pt Yb 0)] []
 refine T_seq (T_region ?_)
 refine TL_new 1 (.cells #[.int .i64 0, .int .i64 0, .slice none 0 0] 75) (fun B => pt B 0) (fun _ _ _ _ => r_alloc (v := .agg #[.int .i64 0, .int .i64 0, .slice none 0 0]) (by kernel_rfl) rfl) rfl rfl rfl (w_n rfl) ?_
 intro B1
 refine TL_seq ?_
 refine T_seq (T_region ?_)
 refine TL_v (.pointer none) (fun _ _ j hm => r_load ag28 (j _ _ rfl) (hm.old hC) rfl) rfl rfl ?_
 refine TL_v (.bool false) (fun _ _ j _ => r_as (r_neqPn po28 (j _ _ rfl) (j _ _ rfl)) (by rfl)) rfl rfl ?_
 refine TL_callQ (v := .iface 29 (.int .i64 1)) (fun _ _ j _ => r_call (args := [.bool false, .int .i64 1]) (enters_of Try.func94 (by kernel_rfl) rfl) (j _ _ rfl) ((cons2 (j _ _ rfl) (cons2 (j _ _ rfl) rfl))) rfl) (fun w _ => need_no_st 1 w) rfl (w_n rfl) ?_
 refine p_then_p ?_
 refine p_pan rfl (fun w hm => ?_)
 exact ⟨rfl, hm.ext⟩

theorem cut_ok (c : Cv) (u v p q : Nat) (w : World) (hc : CvAt w c) (hp8 : 1 ≤ p ∧ p ≤ 8) (hq8 : 1 ≤ q ∧ q ≤ 8) (hu : u + p ≤ 8 * c.wd) (hv : v + q ≤ 8 * c.hg) : Calls Try.prog 59 #[.pointer (some ⟨c.p, 0, none⟩), .int .i64 (u : Int), .int .i64 (v : Int), .int .i64 (p : Int), .int .i64 (q : Int)] w fun e w' => ∃ a' cap', e = .returned (.tuple #[.agg #[.int .i64 (p : Int), .int .i64 (q : Int), .slice a' (cutL c.wd c.ts u v p q).length cap'], .int .i64 0]) ∧ Below w.heap.size w w' ∧ w'.ownsRow w.heap.size 37 4 (.slice a' (cutL c.wd c.ts u v p q).length cap') (cutL c.wd c.ts u v p q).length ((cutL c.wd c.ts u v p q).flatMap C4.cells) := by
 refine calls_of_T (l := [pt c.p 0, iN u, iN v, iN p, iN q]) 16 Try.func59 rfl rfl rfl ?_
 show T _ _ _ [(0, pt c.p 0), (1, iN u), (2, iN v), (3, iN p), (4, iN q)] []
 refine T_seq (T_region ?_)
 refine TL_new 1 (.cells #[pt c.p 0] 28) (fun B => pt B 0) (fun _ _ j _ => r_box (j _ _ rfl) rfl) rfl rfl rfl (w_n rfl) ?_
 intro B1
 refine TL_new 2 (.cells #[iN u] 3) (fun B => pt B 0) (fun _ _ j _ => r_box (j _ _ rfl) rfl) rfl rfl rfl (w_n rfl) ?_
 intro B2
 refine TL_new 3 (.cells #[iN v] 3) (fun B => pt B 0) (fun _ _ j _ => r_box (j _ _ rfl) rfl) rfl rfl rfl (w_n rfl) ?_
 intro B3
 refine TL_new 4 (.cells #[iN p] 3) (fun B => pt B 0) (fun _ _ j _ => r_box (j _ _ rfl) rfl) rfl rfl rfl (w_n rfl) ?_
 intro B4
 refine TL_new 5 (.cells #[iN q] 3) (fun B => pt B 0) (fun _ _ j _ => r_box (j _ _ rfl) rfl) rfl rfl rfl (w_n rfl) ?_
 intro B5
 refine TL_new 6 (.cells #[.int .i64 0, .int .i64 0, .slice none 0 0] 75) (fun B => pt B 0) (fun _ _ _ _ => r_alloc (v := .agg #[.int .i64 0, .int .i64 0, .slice none 0 0]) (by kernel_rfl) rfl) rfl rfl rfl (w_n rfl) ?_
 intro B6
 refine TL_v (.int .i64 0) (s_as rfl) rfl rfl ?_
 refine TL_seq ?_
 refine T_seq (T_region ?_)
 refine TL_v (.func (.func 93) #[] #[pt B1 0, pt B4 0, pt B5 0, pt B2 0, pt B3 0]) (fun _ _ j _ => r_makeFunc (by simp) (map_arr (cons2 (j _ _ rfl) (cons2 (j _ _ rfl) (cons2 (j _ _ rfl) (cons2 (j _ _ rfl) (cons2 (j _ _ rfl) rfl))))))) rfl rfl ?_
 refine TL_callN (fun (_ : Option Addr × Nat) => True) (fun (ar7, cr7) => .tuple #[.agg #[iN p, iN q, .slice ar7 ((cutL c.wd c.ts u v p q).length) cr7], .int .i64 0]) (fun (ar7, cr7) => [(7, .row (.slice ar7 ((cutL c.wd c.ts u v p q).length) cr7) 37 4 ((cutL c.wd c.ts u v p q).length) ((cutL c.wd c.ts u v p q).flatMap C4.cells))]) (fun _ _ j _ => r_call (args := [.func (.func 93) #[] #[pt B1 0, pt B4 0, pt B5 0, pt B2 0, pt B3 0]]) (enters_of Try.func83 (by kernel_rfl) rfl) (j _ _ rfl) ((cons2 (j _ _ rfl) rfl)) rfl) (fun w hm => trSW_ok 93 #[pt B1 0, pt B4 0, pt B5 0, pt B2 0, pt B3 0] (fun (_ : Option Addr × Nat) => True) (fun _ => ((p : Nat) : Int)) (fun _ => ((q : Nat) : Int)) (fun z => z.1) (fun _ => (cutL c.wd c.ts u v p q).length) (fun z => z.2) (fun z => [(7, .row (.slice z.1 ((cutL c.wd c.ts u v p q).length) z.2) 37 4 ((cutL c.wd c.ts u v p q).length) ((cutL c.wd c.ts u v p q).flatMap C4.cells))]) w (enters_of Try.func93 (by kernel_rfl) rfl) (fun _ => rfl) (fun _ => rfl) (fun w2 hb => (cut1_ok c B1 B4 B5 B2 B3 p q u v w2 ((hc.below hm.ext).below hb) (kept hb (hm.at 1 rfl)) (kept hb (hm.at 4 rfl)) (kept hb (hm.at 5 rfl)) (kept hb (hm.at 2 rfl)) (kept hb (hm.at 3 rfl)) hp8 hq8 hu hv).mono fun e w' ⟨a', cap', he, hb2, hr⟩ => ⟨(a', cap'), trivial, he, hb2, newOk1 7 hr⟩)) rfl rfl rfl (w_n rfl) ?_
 rintro ⟨ar7, cr7⟩ -
 refine TL_v (.agg #[iN p, iN q, .slice ar7 ((cutL c.wd c.ts u v p q).length) cr7]) (s_ex rfl rfl) rfl rfl ?_
 refine TL_v (.int .i64 0) (s_ex rfl rfl) rfl rfl ?_
 refine TL_store 6 (.cells #[iN p, iN q, .slice ar7 ((cutL c.wd c.ts u v p q).length) cr7] 75) rfl (s_st sz75 rfl rfl 6 rfl rfl rfl rfl rfl) rfl rfl (w_n rfl) ?_
 refine TL_v (.int .i64 0) (s_as rfl) rfl rfl ?_
 refine TL_seq ?_
 refine T_ret' ?_
 refine ret_of rfl (.tuple #[.agg #[iN p, iN q, .slice ar7 ((cutL c.wd c.ts u v p q).length) cr7], .int .i64 0]) (fun tmps w hk hm => res2 rfl (res_cell (hk 10 _ rfl) (run_loadVar_agg ag75 sz75 (hm.at 6 rfl) (Nat.le_of_ble_eq_true rfl) rfl)) (res_tmp (hk 11 _ rfl))) (fun w hm => ?_)
 exact ⟨ar7, cr7, rfl, hm.ext, hm.row 7 rfl⟩

theorem cut_no (c : Cv) (xi yi wi hi : Int) (w : World) (hc : CvAt w c) (hno : ¬ (sideI wi = true ∧ sideI hi = true ∧ 0 ≤ xi ∧ 0 ≤ yi ∧ xi ≤ ((8 * c.wd : Nat) : Int) - wi ∧ yi ≤ ((8 * c.hg : Nat) : Int) - hi)) : Calls Try.prog 59 #[.pointer (some ⟨c.p, 0, none⟩), .int .i64 xi, .int .i64 yi, .int .i64 wi, .int .i64 hi] w fun e w' => e = .returned (.tuple #[.agg #[.int .i64 0, .int .i64 0, .slice none 0 0], .int .i64 2]) ∧ Below w.heap.size w w' := by
 refine calls_of_T (l := [pt c.p 0, .int .i64 xi, .int .i64 yi, .int .i64 wi, .int .i64 hi]) 16 Try.func59 rfl rfl rfl ?_
 show T _ _ _ [(0, pt c.p 0), (1, .int .i64 xi), (2, .int .i64 yi), (3, .int .i64 wi), (4, .int .i64 hi)] []
 refine T_seq (T_region ?_)
 refine TL_new 1 (.cells #[pt c.p 0] 28) (fun B => pt B 0) (fun _ _ j _ => r_box (j _ _ rfl) rfl) rfl rfl rfl (w_n rfl) ?_
 intro B1
 refine TL_new 2 (.cells #[.int .i64 xi] 3) (fun B => pt B 0) (fun _ _ j _ => r_box (j _ _ rfl) rfl) rfl rfl rfl (w_n rfl) ?_
 intro B2
 refine TL_new 3 (.cells #[.int .i64 yi] 3) (fun B => pt B 0) (fun _ _ j _ => r_box (j _ _ rfl) rfl) rfl rfl rfl (w_n rfl) ?_
 intro B3
 refine TL_new 4 (.cells #[.int .i64 wi] 3) (fun B => pt B 0) (fun _ _ j _ => r_box (j _ _ rfl) rfl) rfl rfl rfl (w_n rfl) ?_
 intro B4
 refine TL_new 5 (.cells #[.int .i64 hi] 3) (fun B => pt B 0) (fun _ _ j _ => r_box (j _ _ rfl) rfl) rfl rfl rfl (w_n rfl) ?_
 intro B5
 refine TL_new 6 (.cells #[.int .i64 0, .int .i64 0, .slice none 0 0] 75) (fun B => pt B 0) (fun _ _ _ _ => r_alloc (v := .agg #[.int .i64 0, .int .i64 0, .slice none 0 0]) (by kernel_rfl) rfl) rfl rfl rfl (w_n rfl) ?_
 intro B6
 refine TL_v (.int .i64 0) (s_as rfl) rfl rfl ?_
 refine TL_seq ?_
 refine T_seq (T_region ?_)
 refine TL_v (.func (.func 93) #[] #[pt B1 0, pt B4 0, pt B5 0, pt B2 0, pt B3 0]) (fun _ _ j _ => r_makeFunc (by simp) (map_arr (cons2 (j _ _ rfl) (cons2 (j _ _ rfl) (cons2 (j _ _ rfl) (cons2 (j _ _ rfl) (cons2 (j _ _ rfl) rfl))))))) rfl rfl ?_
 refine TL_call (.tuple #[.agg #[.int .i64 0, .int .i64 0, .slice none 0 0], .int .i64 2]) (fun _ _ j _ => r_call (args := [.func (.func 93) #[] #[pt B1 0, pt B4 0, pt B5 0, pt B2 0, pt B3 0]]) (enters_of Try.func83 (by kernel_rfl) rfl) (j _ _ rfl) ((cons2 (j _ _ rfl) rfl)) rfl) (fun w hm => trSW_no 93 #[pt B1 0, pt B4 0, pt B5 0, pt B2 0, pt B3 0] 2 w (enters_of Try.func93 (by kernel_rfl) rfl) (fun w2 hb => cut1_no c B1 B4 B5 B2 B3 wi hi xi yi w2 ((hc.below hm.ext).below hb) (kept hb (hm.at 1 rfl)) (kept hb (hm.at 4 rfl)) (kept hb (hm.at 5 rfl)) (kept hb (hm.at 2 rfl)) (kept hb (hm.at 3 rfl)) hno)) rfl rfl rfl (w_n rfl) ?_
 refine TL_v (.agg #[.int .i64 0, .int .i64 0, .slice none 0 0]) (s_ex rfl rfl) rfl rfl ?_
 refine TL_v (.int .i64 2) (s_ex rfl rfl) rfl rfl ?_
 refine TL_store 6 (.cells #[.int .i64 0, .int .i64 0, .slice none 0 0] 75) rfl (s_st sz75 rfl rfl 6 rfl rfl rfl rfl rfl) rfl rfl (w_n rfl) ?_
 refine TL_v (.int .i64 2) (s_as rfl) rfl rfl ?_
 refine TL_seq ?_
 refine T_ret' ?_
 refine ret_of rfl (.tuple #[.agg #[.int .i64 0, .int .i64 0, .slice none 0 0], .int .i64 2]) (fun tmps w hk hm => res2 rfl (res_cell (hk 10 _ rfl) (run_loadVar_agg ag75 sz75 (hm.at 6 rfl) (Nat.le_of_ble_eq_true rfl) rfl)) (res_tmp (hk 11 _ rfl))) (fun w hm => ?_)
 exact ⟨rfl, hm.ext⟩

theorem cut_nil (xi yi wi hi : Int) (w : World) : Calls Try.prog 59 #[.pointer none, .int .i64 xi, .int .i64 yi, .int .i64 wi, .int .i64 hi] w fun e w' => e = .returned (.tuple #[.agg #[.int .i64 0, .int .i64 0, .slice none 0 0], .int .i64 1]) ∧ Below w.heap.size w w' := by
 refine calls_of_T (l := [.pointer none, .int .i64 xi, .int .i64 yi, .int .i64 wi, .int .i64 hi]) 16 Try.func59 rfl rfl rfl ?_
 show T _ _ _ [(0, .pointer none), (1, .int .i64 xi), (2, .int .i64 yi), (3, .int .i64 wi), (4, .int .i64 hi)] []
 refine T_seq (T_region ?_)
 refine TL_new 1 (.cells #[.pointer none] 28) (fun B => pt B 0) (fun _ _ j _ => r_box (j _ _ rfl) rfl) rfl rfl rfl (w_n rfl) ?_
 intro B1
 refine TL_new 2 (.cells #[.int .i64 xi] 3) (fun B => pt B 0) (fun _ _ j _ => r_box (j _ _ rfl) rfl) rfl rfl rfl (w_n rfl) ?_
 intro B2
 refine TL_new 3 (.cells #[.int .i64 yi] 3) (fun B => pt B 0) (fun _ _ j _ => r_box (j _ _ rfl) rfl) rfl rfl rfl (w_n rfl) ?_
 intro B3
 refine TL_new 4 (.cells #[.int .i64 wi] 3) (fun B => pt B 0) (fun _ _ j _ => r_box (j _ _ rfl) rfl) rfl rfl rfl (w_n rfl) ?_
 intro B4
 refine TL_new 5 (.cells #[.int .i64 hi] 3) (fun B => pt B 0) (fun _ _ j _ => r_box (j _ _ rfl) rfl) rfl rfl rfl (w_n rfl) ?_
 intro B5
 refine TL_new 6 (.cells #[.int .i64 0, .int .i64 0, .slice none 0 0] 75) (fun B => pt B 0) (fun _ _ _ _ => r_alloc (v := .agg #[.int .i64 0, .int .i64 0, .slice none 0 0]) (by kernel_rfl) rfl) rfl rfl rfl (w_n rfl) ?_
 intro B6
 refine TL_v (.int .i64 0) (s_as rfl) rfl rfl ?_
 refine TL_seq ?_
 refine T_seq (T_region ?_)
 refine TL_v (.func (.func 93) #[] #[pt B1 0, pt B4 0, pt B5 0, pt B2 0, pt B3 0]) (fun _ _ j _ => r_makeFunc (by simp) (map_arr (cons2 (j _ _ rfl) (cons2 (j _ _ rfl) (cons2 (j _ _ rfl) (cons2 (j _ _ rfl) (cons2 (j _ _ rfl) rfl))))))) rfl rfl ?_
 refine TL_call (.tuple #[.agg #[.int .i64 0, .int .i64 0, .slice none 0 0], .int .i64 1]) (fun _ _ j _ => r_call (args := [.func (.func 93) #[] #[pt B1 0, pt B4 0, pt B5 0, pt B2 0, pt B3 0]]) (enters_of Try.func83 (by kernel_rfl) rfl) (j _ _ rfl) ((cons2 (j _ _ rfl) rfl)) rfl) (fun w hm => trSW_no 93 #[pt B1 0, pt B4 0, pt B5 0, pt B2 0, pt B3 0] 1 w (enters_of Try.func93 (by kernel_rfl) rfl) (fun w2 hb => cut1_nil B1 B4 B5 B2 B3 wi hi xi yi w2 (kept hb (hm.at 1 rfl)) (kept hb (hm.at 4 rfl)) (kept hb (hm.at 5 rfl)) (kept hb (hm.at 2 rfl)) (kept hb (hm.at 3 rfl)))) rfl rfl rfl (w_n rfl) ?_
 refine TL_v (.agg #[.int .i64 0, .int .i64 0, .slice none 0 0]) (s_ex rfl rfl) rfl rfl ?_
 refine TL_v (.int .i64 1) (s_ex rfl rfl) rfl rfl ?_
 refine TL_store 6 (.cells #[.int .i64 0, .int .i64 0, .slice none 0 0] 75) rfl (s_st sz75 rfl rfl 6 rfl rfl rfl rfl rfl) rfl rfl (w_n rfl) ?_
 refine TL_v (.int .i64 1) (s_as rfl) rfl rfl ?_
 refine TL_seq ?_
 refine T_ret' ?_
 refine ret_of rfl (.tuple #[.agg #[.int .i64 0, .int .i64 0, .slice none 0 0], .int .i64 1]) (fun tmps w hk hm => res2 rfl (res_cell (hk 10 _ rfl) (run_loadVar_agg ag75 sz75 (hm.at 6 rfl) (Nat.le_of_ble_eq_true rfl) rfl)) (res_tmp (hk 11 _ rfl))) (fun w hm => ?_)
 exact ⟨rfl, hm.ext⟩
end Go.Proofs.Ytbiapeaghbndoaa
/- canvas: the reference of Cut. Printed by a program of this seat's prover. -/
namespace Go.Proofs.Ytbiapeaghbndoaa
open Go Go.RowKit
set_option maxRecDepth 10000
set_option maxHeartbeats 1000000 in
theorem rcut_ok (wd hg u v p q : Nat) (ts : List T64) (a : Option Addr) (cap : Nat) (w : World) (hv : SliceAt w a cap 256 T64.cells ts) (hcap : cap ≤ Go.maxLen) (hwd : 1 ≤ wd ∧ wd ≤ 4) (hhg : 1 ≤ hg ∧ hg ≤ 4) (hlen : ts.length = wd * hg) (hp8 : 1 ≤ p ∧ p ≤ 8) (hq8 : 1 ≤ q ∧ q ≤ 8) (hu : u + p ≤ 8 * wd) (hv2 : v + q ≤ 8 * hg) : Calls Try.prog 61 #[.agg #[.int .i64 (wd : Int), .int .i64 (hg : Int), .slice a ts.length cap], .int .i64 (u : Int), .int .i64 (v : Int), .int .i64 (p : Int), .int .i64 (q : Int)] w fun e w' => ∃ a' cap', e = .returned (.tuple #[.agg #[.int .i64 (p : Int), .int .i64 (q : Int), .slice a' (cutL wd ts u v p q).length cap'], .bool true]) ∧ Below w.heap.size w w' ∧ w'.ownsRow w.heap.size 37 4 (.slice a' (cutL wd ts u v p q).length cap') (cutL wd ts u v p q).length ((cutL wd ts u v p q).flatMap C4.cells) := by
 have hvl := hv.1
 have h16 := size4 hwd hhg
 have h64 := size8 hp8 hq8
 refine calls_of_T (l := [.agg #[iN wd, iN hg, .slice a ts.length cap], iN u, iN v, iN p, iN q]) 73 Try.func61 rfl rfl rfl ?_
 show T _ _ _ [(0, .agg #[iN wd, iN hg, .slice a ts.length cap]), (1, iN u), (2, iN v), (3, iN p), (4, iN q)] []
 refine T_seq (T_region ?_)
 refine TL_new 1 (.cells #[iN wd, iN hg, .slice a ts.length cap] 24) (fun B => pt B 0) (fun _ _ j _ => r_box (j _ _ rfl) rfl) rfl rfl rfl (w_n rfl) ?_
 intro B1
 refine TL_new 2 (.cells #[.int .i64 0, .int .i64 0, .slice none 0 0] 75) (fun B => pt B 0) (fun _ _ _ _ => r_alloc (v := .agg #[.int .i64 0, .int .i64 0, .slice none 0 0]) (by kernel_rfl) rfl) rfl rfl rfl (w_n rfl) ?_
 intro B2
 refine TL_v (.bool false) (s_as rfl) rfl rfl ?_
 refine TL_seq ?_
 refine T_seq (T_region ?_)
 refine TL_v (iN p) (s_mv rfl) rfl rfl ?_
 refine TL_v (iN q) (s_mv rfl) rfl rfl ?_
 refine TL_v (.agg #[iN p, iN q, .slice none 0 0]) (fun _ _ j _ => r_build (vs := [(0, iN p), (1, iN q)]) (by kernel_rfl) (cons2 (pair2 (j _ _ rfl)) (cons2 (pair2 (j _ _ rfl)) rfl))) rfl rfl ?_
 refine TL_new 3 (.cells #[.int .i64 0, .int .i64 0, .slice none 0 0] 75) (fun B => pt B 0) (fun _ _ _ _ => r_alloc (v := .agg #[.int .i64 0, .int .i64 0, .slice none 0 0]) (by kernel_rfl) rfl) rfl rfl rfl (w_n rfl) ?_
 intro B3
 refine TL_store 3 (.cells #[iN p, iN q, .slice none 0 0] 75) rfl (s_st sz75 rfl rfl 3 rfl rfl rfl rfl rfl) rfl rfl (w_n rfl) ?_
 refine TL_seq ?_
 refine T_seq ?_
 refine T_seq (T_region ?_)
 refine TL_v (iN p) (s_mv rfl) rfl rfl ?_
 refine TL_v (iN q) (s_mv rfl) rfl rfl ?_
 refine TL_call (.bool true) (fun _ _ j _ => r_call (args := [iN p, iN q]) (enters_of Try.func42 (by kernel_rfl) rfl) (j _ _ rfl) ((cons2 (j _ _ rfl) (cons2 (j _ _ rfl) rfl))) rfl) (fun w _ => (rsides_c ((p : Nat) : Int) ((q : Nat) : Int) w).mono fun _ _ h => ⟨h.1.trans (congrArg Ending.returned (bool_as (by rw [(sideI_of hp8), (sideI_of hq8)]; rfl))), h.2⟩) rfl rfl rfl (w_n rfl) ?_
 refine TL_v (.bool false) (fun _ _ j _ => r_not (b := true) (j _ _ rfl)) rfl rfl ?_
 refine TL_v (.bool false) (s_mv rfl) rfl rfl ?_
 refine TL_q (iN u) (s_mv rfl) rfl rfl rfl (want_y 22 rfl rfl rfl) ?_
 refine TL_q (.bool false) (s_op r_lss rfl rfl (bool_as (decide_eq_false (by omega)))) rfl rfl rfl (want_y 22 rfl rfl rfl) ?_
 refine TL_v (.bool false) (s_pf rfl rfl) rfl rfl ?_
 refine TL_v (.bool false) (s_mv rfl) rfl rfl ?_
 refine TL_q (iN v) (s_mv rfl) rfl rfl rfl (want_y 26 rfl rfl rfl) ?_
 refine TL_q (.bool false) (s_op r_lss rfl rfl (bool_as (decide_eq_false (by omega)))) rfl rfl rfl (want_y 26 rfl rfl rfl) ?_
 refine TL_v (.bool false) (s_pf rfl rfl) rfl rfl ?_
 refine TL_v (.bool false) (s_mv rfl) rfl rfl ?_
 refine TL_q (iN u) (s_mv rfl) rfl rfl rfl (want_y 30 rfl rfl rfl) ?_
 refine TL_q (pt B1 0) (s_fa fl24_0 sz3 rfl) rfl rfl rfl (want_y 30 rfl rfl rfl) ?_
 refine TL_q (iN wd) (s_ld ag3 rfl 1 rfl rfl) rfl rfl rfl (want_y 30 rfl rfl rfl) ?_
 refine TL_q (iN (8 * wd)) (s_op r_mul rfl rfl (iw (by omega) (by omega) (by omega))) rfl rfl rfl (want_y 30 rfl rfl rfl) ?_
 refine TL_q (iN p) (s_mv rfl) rfl rfl rfl (want_y 30 rfl rfl rfl) ?_
 refine TL_q (iN (8 * wd - p)) (s_op r_sub rfl rfl (iw (by omega) (by omega) (by omega))) rfl rfl rfl (want_y 30 rfl rfl rfl) ?_
 refine TL_q (.bool false) (s_op r_gtr rfl rfl (bool_as (decide_eq_false (by omega)))) rfl rfl rfl (want_y 30 rfl rfl rfl) ?_
 refine TL_v (.bool false) (s_pf rfl rfl) rfl rfl ?_
 refine TL_v (.bool false) (s_mv rfl) rfl rfl ?_
 refine TL_q (iN v) (s_mv rfl) rfl rfl rfl (want_y 39 rfl rfl rfl) ?_
 refine TL_q (pt B1 1) (s_fa fl24_1 sz3 rfl) rfl rfl rfl (want_y 39 rfl rfl rfl) ?_
 refine TL_q (iN hg) (s_ld ag3 rfl 1 rfl rfl) rfl rfl rfl (want_y 39 rfl rfl rfl) ?_
 refine TL_q (iN (8 * hg)) (s_op r_mul rfl rfl (iw (by omega) (by omega) (by omega))) rfl rfl rfl (want_y 39 rfl rfl rfl) ?_
 refine TL_q (iN q) (s_mv rfl) rfl rfl rfl (want_y 39 rfl rfl rfl) ?_
 refine TL_q (iN (8 * hg - q)) (s_op r_sub rfl rfl (iw (by omega) (by omega) (by omega))) rfl rfl rfl (want_y 39 rfl rfl rfl) ?_
 refine TL_q (.bool false) (s_op r_gtr rfl rfl (bool_as (decide_eq_false (by omega)))) rfl rfl rfl (want_y 39 rfl rfl rfl) ?_
 refine TL_v (.bool false) (s_pf rfl rfl) rfl rfl ?_
 refine TL_seq ?_
 refine T_sub [(1, iN u), (2, iN v), (3, iN p), (4, iN q), (5, pt B1 0), (10, pt B2 0), (11, .bool false), (12, pt B3 0), (47, .bool false)] [(1, .blk B1 (.cells #[iN wd, iN hg, .slice a ts.length cap] 24)), (2, .blk B2 (.cells #[.int .i64 0, .int .i64 0, .slice none 0 0] 75)), (3, .blk B3 (.cells #[iN p, iN q, .slice none 0 0] 75))] (sc4 rfl rfl rfl rfl (sc4 rfl rfl rfl rfl (sc rfl sub_nil))) (sc rfl (sc rfl (sc rfl sub_nil))) ?_
 refine T_cond_f rfl ?_
 refine T_skip' ?_
 refine p_seq ?_
 refine T_seq ?_
 refine T_seq (T_region ?_)
 refine TL_v (iN q) (s_mv rfl) rfl rfl ?_
 refine TL_v (.int .i64 0) (s_mv rfl) rfl rfl ?_
 refine TL_seq ?_
 refine T_block ?_
 refine T_mem (_ :: _) (fun _ hm => hm.nilRow 950 37 4) ?_
 refine T_loop (ι := Nat × List C4 × Option Addr × Nat) (fun (z : Nat × List C4 × Option Addr × Nat) => match z with | (y, l3, a3, cap3) => y ≤ q ∧ l3 = (List.range (y * p)).map (cutI wd ts u v p)) (fun (z : Nat × List C4 × Option Addr × Nat) => match z with | (y, l3, a3, cap3) => [(1, iN u), (2, iN v), (3, iN p), (5, pt B1 0), (10, pt B2 0), (11, .bool false), (12, pt B3 0), (49, iN q), (50, iN y)]) (fun (z : Nat × List C4 × Option Addr × Nat) => match z with | (y, l3, a3, cap3) => [(1, .blk B1 (.cells #[iN wd, iN hg, .slice a ts.length cap] 24)), (2, .blk B2 (.cells #[.int .i64 0, .int .i64 0, .slice none 0 0] 75)), (3, .blk B3 (.cells #[iN p, iN q, .slice a3 l3.length cap3] 75)), (950, .row (.slice a3 l3.length cap3) 37 4 l3.length (l3.flatMap C4.cells))]) (fun (z : Nat × List C4 × Option Addr × Nat) => match z with | (y, l3, a3, cap3) => q - y) (0, [], none, 0) ⟨Nat.zero_le _, by rw [Nat.zero_mul]; rfl⟩ (sc4 rfl rfl rfl rfl (sc4 rfl rfl rfl rfl (sc rfl sub_nil))) (sc4 rfl rfl rfl rfl sub_nil) ?_
 rintro ⟨y, l3, a3, cap3⟩ hp
 obtain ⟨hy, hl3⟩ := hp
 show T _ _ _ [(1, iN u), (2, iN v), (3, iN p), (5, pt B1 0), (10, pt B2 0), (11, .bool false), (12, pt B3 0), (49, iN q), (50, iN y)] [(1, .blk B1 (.cells #[iN wd, iN hg, .slice a ts.length cap] 24)), (2, .blk B2 (.cells #[.int .i64 0, .int .i64 0, .slice none 0 0] 75)), (3, .blk B3 (.cells #[iN p, iN q, .slice a3 l3.length cap3] 75)), (950, .row (.slice a3 l3.length cap3) 37 4 l3.length (l3.flatMap C4.cells))]
 refine T_seq (T_region ?_)
 refine TL_v (.bool (decide (((y : Nat) : Int) < ((q : Nat) : Int)))) (fun _ _ j _ => r_lss (j _ _ rfl) (j _ _ rfl)) rfl rfl ?_
 refine TL_seq ?_
 refine T_seq ?_
 refine T_cond rfl (fun h1 => ?_) (fun h1 => ?_)
 ·replace h1 := of_decide_eq_true h1
  refine T_skip' ?_
  refine p_seq ?_
  refine T_seq ?_
  refine T_block ?_
  refine T_seq (T_region ?_)
  refine TL_v (iN y) (s_mv rfl) rfl rfl ?_
  refine TL_v (iN y) (s_as rfl) rfl rfl ?_
  refine TL_seq ?_
  refine T_seq (T_region ?_)
  refine TL_v (iN p) (s_mv rfl) rfl rfl ?_
  refine TL_v (.int .i64 0) (s_mv rfl) rfl rfl ?_
  refine TL_seq ?_
  refine T_block ?_
  refine T_loop (ι := Nat × List C4 × Option Addr × Nat) (fun (z : Nat × List C4 × Option Addr × Nat) => match z with | (x, l4, a4, cap4) => x ≤ p ∧ l4 = (List.range (y * p + x)).map (cutI wd ts u v p)) (fun (z : Nat × List C4 × Option Addr × Nat) => match z with | (x, l4, a4, cap4) => [(1, iN u), (2, iN v), (3, iN p), (5, pt B1 0), (10, pt B2 0), (11, .bool false), (12, pt B3 0), (49, iN q), (50, iN y), (51, .bool (decide (((y : Nat) : Int) < ((q : Nat) : Int)))), (52, iN y), (13, iN y), (53, iN p), (54, iN x)]) (fun (z : Nat × List C4 × Option Addr × Nat) => match z with | (x, l4, a4, cap4) => [(1, .blk B1 (.cells #[iN wd, iN hg, .slice a ts.length cap] 24)), (2, .blk B2 (.cells #[.int .i64 0, .int .i64 0, .slice none 0 0] 75)), (3, .blk B3 (.cells #[iN p, iN q, .slice a4 l4.length cap4] 75)), (950, .row (.slice a4 l4.length cap4) 37 4 l4.length (l4.flatMap C4.cells))]) (fun (z : Nat × List C4 × Option Addr × Nat) => match z with | (x, l4, a4, cap4) => p - x) (0, l3, a3, cap3) ⟨Nat.zero_le _, hl3⟩ (sc4 rfl rfl rfl rfl (sc4 rfl rfl rfl rfl (sc4 rfl rfl rfl rfl (sc rfl (sc rfl sub_nil))))) (sc4 rfl rfl rfl rfl sub_nil) ?_
  rintro ⟨x, l4, a4, cap4⟩ hp
  obtain ⟨hx, hl4⟩ := hp
  show T _ _ _ [(1, iN u), (2, iN v), (3, iN p), (5, pt B1 0), (10, pt B2 0), (11, .bool false), (12, pt B3 0), (49, iN q), (50, iN y), (51, .bool (decide (((y : Nat) : Int) < ((q : Nat) : Int)))), (52, iN y), (13, iN y), (53, iN p), (54, iN x)] [(1, .blk B1 (.cells #[iN wd, iN hg, .slice a ts.length cap] 24)), (2, .blk B2 (.cells #[.int .i64 0, .int .i64 0, .slice none 0 0] 75)), (3, .blk B3 (.cells #[iN p, iN q, .slice a4 l4.length cap4] 75)), (950, .row (.slice a4 l4.length cap4) 37 4 l4.length (l4.flatMap C4.cells))]
  refine T_seq (T_region ?_)
  refine TL_v (.bool (decide (((x : Nat) : Int) < ((p : Nat) : Int)))) (fun _ _ j _ => r_lss (j _ _ rfl) (j _ _ rfl)) rfl rfl ?_
  refine TL_seq ?_
  refine T_seq ?_
  refine T_cond rfl (fun h2 => ?_) (fun h2 => ?_)
  ·replace h2 := of_decide_eq_true h2
   refine T_skip' ?_
   refine p_seq ?_
   refine T_seq ?_
   refine T_block ?_
   have hl5 : l4.length = y * p + x := by rw [hl4, List.length_map, List.length_range]
   have hxy := in_px (show x < p by omega) (show y < q by omega)
   have hdm := dm2 (x := x) (y := y) (W := p) (by omega)
   refine T_seq (T_region ?_)
   refine TL_v (iN x) (s_mv rfl) rfl rfl ?_
   refine TL_v (iN x) (s_as rfl) rfl rfl ?_
   refine TL_seq ?_
   refine T_draw (V := [(0, pt B3 2), (1, .slice a4 l4.length cap4), (2, .agg #[iN wd, iN hg, .slice a ts.length cap]), (3, iN u), (4, iN x), (5, iN (u + x)), (6, iN v), (7, iN y), (8, iN (v + y))]) [0, 1, 0, 0, 0, 24, 0, 0, 192, 508, 1020, 2047, 4095, 8191] [[(12, none)], [(57, some 0)], [(5, none)], [(1, none)], [(14, none)], [(60, some 3), (61, some 4)], [(2, none)], [(13, none)], [(63, some 6), (64, some 7)], [(59, some 2), (62, some 5), (65, some 8)], [(66, some 9)], [(58, some 1), (67, some 10)], [(12, none)], [(69, some 12), (68, some 11)]] 11776 mixed (by kernel_rfl) ?_
   refine G_step [0, 1, 2, 3, 4, 5, 6, 7, 8] 9 [] (by kernel_rfl) (allM (all_cons (q_r (pt B3 2) rfl rfl rfl (s_fa fl75_2 sz71 rfl)) (all_cons (q_r (.slice a4 l4.length cap4) rfl rfl rfl (s_ld ag71 rfl 3 rfl rfl)) (all_cons (q_r (.agg #[iN wd, iN hg, .slice a ts.length cap]) rfl rfl rfl (s_la ag24 sz24 rfl 1 rfl rfl rfl)) (all_cons (q_r (iN u) rfl rfl rfl (s_mv rfl)) (all_cons (q_r (iN x) rfl rfl rfl (s_mv rfl)) (all_cons (q_r (iN (u + x)) rfl rfl rfl (s_op r_add rfl rfl (iw (by omega) (by omega) (by omega)))) (all_cons (q_r (iN v) rfl rfl rfl (s_mv rfl)) (all_cons (q_r (iN y) rfl rfl rfl (s_mv rfl)) (all_cons (q_r (iN (v + y)) rfl rfl rfl (s_op r_add rfl rfl (iw (by omega) (by omega) (by omega)))) all_nil)))))))))) (allM (all_cons ?_ all_nil))
   refine LOb_call (.agg #[.int .u8 ((colAt wd ts (u + x) (v + y)).r), .int .u8 ((colAt wd ts (u + x) (v + y)).g), .int .u8 ((colAt wd ts (u + x) (v + y)).b), .int .u8 ((colAt wd ts (u + x) (v + y)).a)]) [] rfl (wv_n rfl) rfl rfl (fun _ _ j _ => r_call (args := [.agg #[iN wd, iN hg, .slice a ts.length cap], iN (u + x), iN (v + y)]) (enters_of Try.func36 (by kernel_rfl) rfl) (j _ _ rfl) ((cons2 (j _ _ rfl) (cons2 (j _ _ rfl) (cons2 (j _ _ rfl) rfl)))) rfl) (fun w hm => rat_c wd hg ts a cap w (hv.keep hm.ext) hlen hwd hhg (u + x) (v + y) (show u + x < 8 * wd by omega) (show v + y < 8 * hg by omega)) (by kernel_rfl) ?_
   refine G_step [0, 1] 10 [] (by kernel_rfl) (allM (all_cons (q_r (pt B3 2) rfl rfl rfl (s_fa fl75_2 sz71 rfl)) (all_cons (q_r (.slice a4 l4.length cap4) rfl rfl rfl (s_ld ag71 rfl 3 rfl rfl)) all_nil))) (allM (all_cons ?_ all_nil))
   refine LOb_new 4 (.cells #[.int .u8 ((colAt wd ts (u + x) (v + y)).r), .int .u8 ((colAt wd ts (u + x) (v + y)).g), .int .u8 ((colAt wd ts (u + x) (v + y)).b), .int .u8 ((colAt wd ts (u + x) (v + y)).a)] 37) (fun B => .slice (some ⟨B, 0, none⟩) 1 1) (fun B => []) rfl (wv_n rfl) rfl rfl (fun _ _ j _ => r_buildSlice (vs := [(0, .agg #[.int .u8 ((colAt wd ts (u + x) (v + y)).r), .int .u8 ((colAt wd ts (u + x) (v + y)).g), .int .u8 ((colAt wd ts (u + x) (v + y)).b), .int .u8 ((colAt wd ts (u + x) (v + y)).a)])]) (by kernel_rfl) (cons2 (pair2 (j _ _ rfl)) rfl)) (fun B => by kernel_rfl) ?_
   intro B4
   refine G_step [0, 1] 11 [] (by kernel_rfl) (allM (all_cons (q_r (pt B3 2) rfl rfl rfl (s_fa fl75_2 sz71 rfl)) (all_cons (q_r (.slice a4 l4.length cap4) rfl rfl rfl (s_ld ag71 rfl 3 rfl rfl)) all_nil))) (allM (all_cons ?_ all_nil))
   refine LOb_append (n := l4.length) (m := 1) (xs := (l4.flatMap C4.cells)) (news := [.int .u8 ((colAt wd ts (u + x) (v + y)).r), .int .u8 ((colAt wd ts (u + x) (v + y)).g), .int .u8 ((colAt wd ts (u + x) (v + y)).b), .int .u8 ((colAt wd ts (u + x) (v + y)).a)]) (z := .agg #[z8, z8, z8, z8]) 950 (fun a cap => [(12, pt B3 2)]) rfl (wv_n rfl) rfl rfl rfl sl71 sz37 by37 (by kernel_rfl) rfl rfl (.inl rfl) (fun _ hm => src_blk (news := [.int .u8 ((colAt wd ts (u + x) (v + y)).r), .int .u8 ((colAt wd ts (u + x) (v + y)).g), .int .u8 ((colAt wd ts (u + x) (v + y)).b), .int .u8 ((colAt wd ts (u + x) (v + y)).a)]) (hm.at 4 rfl) rfl) (by first | exact T64.cells_one _ | simp [Value.oneCell']) (by omega) (by omega) (fun a cap => by kernel_rfl) ?_
   intro a5 cap5
   refine G_step [12] 13 [] (by kernel_rfl) (allM (all_cons (q_r (pt B3 2) rfl rfl rfl (s_fa fl75_2 sz71 rfl)) all_nil)) (allM (all_cons ?_ all_nil))
   refine LOb_store 3 (.cells #[iN p, iN q, .slice a5 (l4.length + 1) cap5] 75) [] rfl (wv_n rfl) rfl rfl rfl (s_st sz71 rfl rfl 3 rfl rfl rfl rfl rfl) (by kernel_rfl) ?_
   refine G_lastQ [] [(1, iN u), (2, iN v), (3, iN p), (5, pt B1 0), (10, pt B2 0), (11, .bool false), (12, pt B3 0), (49, iN q), (50, iN y), (51, .bool (decide (((y : Nat) : Int) < ((q : Nat) : Int)))), (52, iN y), (13, iN y), (53, iN p), (54, iN x), (55, .bool (decide (((x : Nat) : Int) < ((p : Nat) : Int)))), (56, iN x), (14, iN x), (57, pt B3 2), (58, .slice a4 l4.length cap4), (59, .agg #[iN wd, iN hg, .slice a ts.length cap]), (60, iN u), (61, iN x), (62, iN (u + x)), (63, iN v), (64, iN y), (65, iN (v + y)), (66, .agg #[.int .u8 ((colAt wd ts (u + x) (v + y)).r), .int .u8 ((colAt wd ts (u + x) (v + y)).g), .int .u8 ((colAt wd ts (u + x) (v + y)).b), .int .u8 ((colAt wd ts (u + x) (v + y)).a)]), (67, .slice (some ⟨B4, 0, none⟩) 1 1), (68, .slice a5 (l4.length + 1) cap5), (69, pt B3 2)] (by kernel_rfl) (allM all_nil) (end_old rfl rfl (end_old rfl rfl (end_old rfl rfl (end_old rfl rfl (end_old rfl rfl (end_old rfl rfl (end_old rfl rfl (end_old rfl rfl (end_old rfl rfl (end_old rfl rfl (end_old rfl rfl (end_old rfl rfl (end_old rfl rfl (end_old rfl rfl (end_old rfl rfl (end_old rfl rfl (end_old rfl rfl (end_new 0 rfl rfl (end_new 1 rfl rfl (end_new 2 rfl rfl (end_new 3 rfl rfl (end_new 4 rfl rfl (end_new 5 rfl rfl (end_new 6 rfl rfl (end_new 7 rfl rfl (end_new 8 rfl rfl (end_new 9 rfl rfl (end_new 10 rfl rfl (end_new 11 rfl rfl (end_new 12 rfl rfl end_nil)))))))))))))))))))))))))))))) ?_
   refine p_blk_n ?_
   refine p_seq ?_
   refine T_region ?_
   refine TL_v (iN (x + 1)) (s_op r_add rfl rfl (iw (by omega) (by omega) (by omega))) rfl rfl ?_
   refine TL_v (iN (x + 1)) (s_mv rfl) rfl rfl ?_
   refine TL_nil ?_
   have hl6 : l4 ++ [(colAt wd ts (u + x) (v + y))] = (List.range (y * p + (x + 1))).map (cutI wd ts u v p) := by
    rw [← Nat.add_assoc, List.range_succ, List.map_append, hl4]
    congr 1
    show _ = [cutI wd ts u v p (y * p + x)]
    unfold cutI
    rw [hdm.1, hdm.2]
   rw [show (l4.length + 1) = (l4 ++ [(colAt wd ts (u + x) (v + y))]).length from by simp, show ((l4.flatMap C4.cells) ++ [.int .u8 ((colAt wd ts (u + x) (v + y)).r), .int .u8 ((colAt wd ts (u + x) (v + y)).g), .int .u8 ((colAt wd ts (u + x) (v + y)).b), .int .u8 ((colAt wd ts (u + x) (v + y)).a)]) = (l4 ++ [(colAt wd ts (u + x) (v + y))]).flatMap C4.cells from by simp [C4.cells]]
   exact p_at (x + 1, (l4 ++ [(colAt wd ts (u + x) (v + y))]), a5, cap5) ⟨⟨by omega, hl6⟩, by dsimp only; omega⟩ (sc4 rfl rfl rfl rfl (sc4 rfl rfl rfl rfl (sc4 rfl rfl rfl rfl (sc rfl (sc rfl sub_nil))))) (sc4 rfl rfl rfl rfl sub_nil)
  ·replace h2 := of_decide_eq_false h2
   refine T_exit' ?_
   refine p_then_x ?_
   refine p_then_x ?_
   refine p_blk_x ?_
   refine p_blk_n ?_
   refine p_seq ?_
   refine T_region ?_
   refine TL_v (iN (y + 1)) (s_op r_add rfl rfl (iw (by omega) (by omega) (by omega))) rfl rfl ?_
   refine TL_v (iN (y + 1)) (s_mv rfl) rfl rfl ?_
   refine TL_nil ?_
   exact p_at (y + 1, l4, a4, cap4) ⟨⟨by omega, by have e := hl4; rw [show x = p by omega, row_end] at e; exact e⟩, by dsimp only; omega⟩ (sc4 rfl rfl rfl rfl (sc4 rfl rfl rfl rfl (sc rfl sub_nil))) (sc4 rfl rfl rfl rfl sub_nil)
 ·replace h1 := of_decide_eq_false h1
  refine T_exit' ?_
  refine p_then_x ?_
  refine p_then_x ?_
  refine p_blk_x ?_
  refine p_seq ?_
  refine T_seq (T_region ?_)
  refine TL_v (.agg #[iN p, iN q, .slice a3 l3.length cap3]) (s_la ag75 sz75 rfl 3 rfl rfl rfl) rfl rfl ?_
  refine TL_store 2 (.cells #[iN p, iN q, .slice a3 l3.length cap3] 75) rfl (s_st sz75 rfl rfl 2 rfl rfl rfl rfl rfl) rfl rfl (w_n rfl) ?_
  refine TL_v (.bool true) (s_as rfl) rfl rfl ?_
  refine TL_seq ?_
  refine T_ret' ?_
  refine ret_of rfl (.tuple #[.agg #[iN p, iN q, .slice a3 l3.length cap3], .bool true]) (fun tmps w hk hm => res2 rfl (res_cell (hk 10 _ rfl) (run_loadVar_agg ag75 sz75 (hm.at 2 rfl) (Nat.le_of_ble_eq_true rfl) rfl)) (res_tmp (hk 11 _ rfl))) (fun w hm => ?_)
  have hye : y = q := by omega
  have e3 : l3 = cutL wd ts u v p q := by rw [hl3, hye, Nat.mul_comm]; rfl
  subst e3
  exact ⟨a3, cap3, rfl, hm.ext, hm.row 950 rfl⟩

set_option maxHeartbeats 1000000 in
theorem rcut_no (wd hg : Nat) (ts : List T64) (a : Option Addr) (cap : Nat) (xi yi wi hi : Int) (w : World) (hwd : 1 ≤ wd ∧ wd ≤ 4) (hhg : 1 ≤ hg ∧ hg ≤ 4) (hno : ¬ (sideI wi = true ∧ sideI hi = true ∧ 0 ≤ xi ∧ 0 ≤ yi ∧ xi ≤ ((8 * wd : Nat) : Int) - wi ∧ yi ≤ ((8 * hg : Nat) : Int) - hi)) : Calls Try.prog 61 #[.agg #[.int .i64 (wd : Int), .int .i64 (hg : Int), .slice a ts.length cap], .int .i64 xi, .int .i64 yi, .int .i64 wi, .int .i64 hi] w fun e w' => e = .returned (.tuple #[.agg #[.int .i64 0, .int .i64 0, .slice none 0 0], .bool false]) ∧ Below w.heap.size w w' := by
 have h16 := size4 hwd hhg
 refine calls_of_T (l := [.agg #[iN wd, iN hg, .slice a ts.length cap], .int .i64 xi, .int .i64 yi, .int .i64 wi, .int .i64 hi]) 73 Try.func61 rfl rfl rfl ?_
 show T _ _ _ [(0, .agg #[iN wd, iN hg, .slice a ts.length cap]), (1, .int .i64 xi), (2, .int .i64 yi), (3, .int .i64 wi), (4, .int .i64 hi)] []
 refine T_seq (T_region ?_)
 refine TL_new 1 (.cells #[iN wd, iN hg, .slice a ts.length cap] 24) (fun B => pt B 0) (fun _ _ j _ => r_box (j _ _ rfl) rfl) rfl rfl rfl (w_n rfl) ?_
 intro B1
 refine TL_new 2 (.cells #[.int .i64 0, .int .i64 0, .slice none 0 0] 75) (fun B => pt B 0) (fun _ _ _ _ => r_alloc (v := .agg #[.int .i64 0, .int .i64 0, .slice none 0 0]) (by kernel_rfl) rfl) rfl rfl rfl (w_n rfl) ?_
 intro B2
 refine TL_v (.bool false) (s_as rfl) rfl rfl ?_
 refine TL_seq ?_
 refine T_seq (T_region ?_)
 refine TL_v (.int .i64 wi) (s_mv rfl) rfl rfl ?_
 refine TL_v (.int .i64 hi) (s_mv rfl) rfl rfl ?_
 refine TL_v (.agg #[.int .i64 wi, .int .i64 hi, .slice none 0 0]) (fun _ _ j _ => r_build (vs := [(0, .int .i64 wi), (1, .int .i64 hi)]) (by kernel_rfl) (cons2 (pair2 (j _ _ rfl)) (cons2 (pair2 (j _ _ rfl)) rfl))) rfl rfl ?_
 refine TL_new 3 (.cells #[.int .i64 0, .int .i64 0, .slice none 0 0] 75) (fun B => pt B 0) (fun _ _ _ _ => r_alloc (v := .agg #[.int .i64 0, .int .i64 0, .slice none 0 0]) (by kernel_rfl) rfl) rfl rfl rfl (w_n rfl) ?_
 intro B3
 refine TL_store 3 (.cells #[.int .i64 wi, .int .i64 hi, .slice none 0 0] 75) rfl (s_st sz75 rfl rfl 3 rfl rfl rfl rfl rfl) rfl rfl (w_n rfl) ?_
 refine TL_seq ?_
 refine T_seq ?_
 by_cases s1 : sideI wi = true
 ·skip
  by_cases s2 : sideI hi = true
  ·skip
   by_cases s3 : xi < 0
   ·skip
    have s1b := of_decide_eq_true s1
    have s2b := of_decide_eq_true s2
    refine T_seq (T_region ?_)
    refine TL_v (.int .i64 wi) (s_mv rfl) rfl rfl ?_
    refine TL_v (.int .i64 hi) (s_mv rfl) rfl rfl ?_
    refine TL_call (.bool true) (fun _ _ j _ => r_call (args := [.int .i64 wi, .int .i64 hi]) (enters_of Try.func42 (by kernel_rfl) rfl) (j _ _ rfl) ((cons2 (j _ _ rfl) (cons2 (j _ _ rfl) rfl))) rfl) (fun w _ => (rsides_c wi hi w).mono fun _ _ h => ⟨h.1.trans (congrArg Ending.returned (bool_as (by rw [s1, s2]; rfl))), h.2⟩) rfl rfl rfl (w_n rfl) ?_
    refine TL_v (.bool false) (fun _ _ j _ => r_not (b := true) (j _ _ rfl)) rfl rfl ?_
    refine TL_v (.bool false) (s_mv rfl) rfl rfl ?_
    refine TL_q (.int .i64 xi) (s_mv rfl) rfl rfl rfl (want_y 22 rfl rfl rfl) ?_
    refine TL_q (.bool true) (s_op r_lss rfl rfl (bool_as (decide_eq_true s3))) rfl rfl rfl (want_y 22 rfl rfl rfl) ?_
    refine TL_v (.bool true) (s_pf rfl rfl) rfl rfl ?_
    refine TL_v (.bool true) (s_mv rfl) rfl rfl ?_
    refine TL_x 26 rfl rfl rfl rfl rfl ?_
    refine TL_x 26 rfl rfl rfl rfl rfl ?_
    refine TL_v (.bool true) (s_pt rfl rfl) rfl rfl ?_
    refine TL_v (.bool true) (s_mv rfl) rfl rfl ?_
    refine TL_x 30 rfl rfl rfl rfl rfl ?_
    refine TL_x 30 rfl rfl rfl rfl rfl ?_
    refine TL_x 30 rfl rfl rfl rfl rfl ?_
    refine TL_x 30 rfl rfl rfl rfl rfl ?_
    refine TL_x 30 rfl rfl rfl rfl rfl ?_
    refine TL_x 30 rfl rfl rfl rfl rfl ?_
    refine TL_x 30 rfl rfl rfl rfl rfl ?_
    refine TL_v (.bool true) (s_pt rfl rfl) rfl rfl ?_
    refine TL_v (.bool true) (s_mv rfl) rfl rfl ?_
    refine TL_x 39 rfl rfl rfl rfl rfl ?_
    refine TL_x 39 rfl rfl rfl rfl rfl ?_
    refine TL_x 39 rfl rfl rfl rfl rfl ?_
    refine TL_x 39 rfl rfl rfl rfl rfl ?_
    refine TL_x 39 rfl rfl rfl rfl rfl ?_
    refine TL_x 39 rfl rfl rfl rfl rfl ?_
    refine TL_x 39 rfl rfl rfl rfl rfl ?_
    refine TL_v (.bool true) (s_pt rfl rfl) rfl rfl ?_
    refine TL_seq ?_
    refine T_sub [(1, .int .i64 xi), (2, .int .i64 yi), (3, .int .i64 wi), (4, .int .i64 hi), (5, pt B1 0), (10, pt B2 0), (11, .bool false), (12, pt B3 0), (47, .bool true)] [(1, .blk B1 (.cells #[iN wd, iN hg, .slice a ts.length cap] 24)), (2, .blk B2 (.cells #[.int .i64 0, .int .i64 0, .slice none 0 0] 75)), (3, .blk B3 (.cells #[.int .i64 wi, .int .i64 hi, .slice none 0 0] 75))] (sc4 rfl rfl rfl rfl (sc4 rfl rfl rfl rfl (sc rfl sub_nil))) (sc rfl (sc rfl (sc rfl sub_nil))) ?_
    refine T_cond_t rfl ?_
    refine T_seq (T_region ?_)
    refine TL_v (.agg #[.int .i64 0, .int .i64 0, .slice none 0 0]) (fun _ _ _ _ => r_build (vs := []) (by kernel_rfl) rfl) rfl rfl ?_
    refine TL_store 2 (.cells #[.int .i64 0, .int .i64 0, .slice none 0 0] 75) rfl (s_st sz75 rfl rfl 2 rfl rfl rfl rfl rfl) rfl rfl (w_n rfl) ?_
    refine TL_v (.bool false) (s_as rfl) rfl rfl ?_
    refine TL_seq ?_
    refine T_ret' ?_
    refine p_then_r ?_
    refine ret_of rfl (.tuple #[.agg #[.int .i64 0, .int .i64 0, .slice none 0 0], .bool false]) (fun tmps w hk hm => res2 rfl (res_cell (hk 10 _ rfl) (run_loadVar_agg ag75 sz75 (hm.at 2 rfl) (Nat.le_of_ble_eq_true rfl) rfl)) (res_tmp (hk 11 _ rfl))) (fun w hm => ?_)
    exact ⟨rfl, hm.ext⟩
   ·skip
    by_cases s4 : yi < 0
    ·skip
     have s1b := of_decide_eq_true s1
     have s2b := of_decide_eq_true s2
     refine T_seq (T_region ?_)
     refine TL_v (.int .i64 wi) (s_mv rfl) rfl rfl ?_
     refine TL_v (.int .i64 hi) (s_mv rfl) rfl rfl ?_
     refine TL_call (.bool true) (fun _ _ j _ => r_call (args := [.int .i64 wi, .int .i64 hi]) (enters_of Try.func42 (by kernel_rfl) rfl) (j _ _ rfl) ((cons2 (j _ _ rfl) (cons2 (j _ _ rfl) rfl))) rfl) (fun w _ => (rsides_c wi hi w).mono fun _ _ h => ⟨h.1.trans (congrArg Ending.returned (bool_as (by rw [s1, s2]; rfl))), h.2⟩) rfl rfl rfl (w_n rfl) ?_
     refine TL_v (.bool false) (fun _ _ j _ => r_not (b := true) (j _ _ rfl)) rfl rfl ?_
     refine TL_v (.bool false) (s_mv rfl) rfl rfl ?_
     refine TL_q (.int .i64 xi) (s_mv rfl) rfl rfl rfl (want_y 22 rfl rfl rfl) ?_
     refine TL_q (.bool false) (s_op r_lss rfl rfl (bool_as (decide_eq_false s3))) rfl rfl rfl (want_y 22 rfl rfl rfl) ?_
     refine TL_v (.bool false) (s_pf rfl rfl) rfl rfl ?_
     refine TL_v (.bool false) (s_mv rfl) rfl rfl ?_
     refine TL_q (.int .i64 yi) (s_mv rfl) rfl rfl rfl (want_y 26 rfl rfl rfl) ?_
     refine TL_q (.bool true) (s_op r_lss rfl rfl (bool_as (decide_eq_true s4))) rfl rfl rfl (want_y 26 rfl rfl rfl) ?_
     refine TL_v (.bool true) (s_pf rfl rfl) rfl rfl ?_
     refine TL_v (.bool true) (s_mv rfl) rfl rfl ?_
     refine TL_x 30 rfl rfl rfl rfl rfl ?_
     refine TL_x 30 rfl rfl rfl rfl rfl ?_
     refine TL_x 30 rfl rfl rfl rfl rfl ?_
     refine TL_x 30 rfl rfl rfl rfl rfl ?_
     refine TL_x 30 rfl rfl rfl rfl rfl ?_
     refine TL_x 30 rfl rfl rfl rfl rfl ?_
     refine TL_x 30 rfl rfl rfl rfl rfl ?_
     refine TL_v (.bool true) (s_pt rfl rfl) rfl rfl ?_
     refine TL_v (.bool true) (s_mv rfl) rfl rfl ?_
     refine TL_x 39 rfl rfl rfl rfl rfl ?_
     refine TL_x 39 rfl rfl rfl rfl rfl ?_
     refine TL_x 39 rfl rfl rfl rfl rfl ?_
     refine TL_x 39 rfl rfl rfl rfl rfl ?_
     refine TL_x 39 rfl rfl rfl rfl rfl ?_
     refine TL_x 39 rfl rfl rfl rfl rfl ?_
     refine TL_x 39 rfl rfl rfl rfl rfl ?_
     refine TL_v (.bool true) (s_pt rfl rfl) rfl rfl ?_
     refine TL_seq ?_
     refine T_sub [(1, .int .i64 xi), (2, .int .i64 yi), (3, .int .i64 wi), (4, .int .i64 hi), (5, pt B1 0), (10, pt B2 0), (11, .bool false), (12, pt B3 0), (47, .bool true)] [(1, .blk B1 (.cells #[iN wd, iN hg, .slice a ts.length cap] 24)), (2, .blk B2 (.cells #[.int .i64 0, .int .i64 0, .slice none 0 0] 75)), (3, .blk B3 (.cells #[.int .i64 wi, .int .i64 hi, .slice none 0 0] 75))] (sc4 rfl rfl rfl rfl (sc4 rfl rfl rfl rfl (sc rfl sub_nil))) (sc rfl (sc rfl (sc rfl sub_nil))) ?_
     refine T_cond_t rfl ?_
     refine T_seq (T_region ?_)
     refine TL_v (.agg #[.int .i64 0, .int .i64 0, .slice none 0 0]) (fun _ _ _ _ => r_build (vs := []) (by kernel_rfl) rfl) rfl rfl ?_
     refine TL_store 2 (.cells #[.int .i64 0, .int .i64 0, .slice none 0 0] 75) rfl (s_st sz75 rfl rfl 2 rfl rfl rfl rfl rfl) rfl rfl (w_n rfl) ?_
     refine TL_v (.bool false) (s_as rfl) rfl rfl ?_
     refine TL_seq ?_
     refine T_ret' ?_
     refine p_then_r ?_
     refine ret_of rfl (.tuple #[.agg #[.int .i64 0, .int .i64 0, .slice none 0 0], .bool false]) (fun tmps w hk hm => res2 rfl (res_cell (hk 10 _ rfl) (run_loadVar_agg ag75 sz75 (hm.at 2 rfl) (Nat.le_of_ble_eq_true rfl) rfl)) (res_tmp (hk 11 _ rfl))) (fun w hm => ?_)
     exact ⟨rfl, hm.ext⟩
    ·skip
     by_cases s5 : ((8 * wd : Nat) : Int) - wi < xi
     ·skip
      have s1b := of_decide_eq_true s1
      have s2b := of_decide_eq_true s2
      refine T_seq (T_region ?_)
      refine TL_v (.int .i64 wi) (s_mv rfl) rfl rfl ?_
      refine TL_v (.int .i64 hi) (s_mv rfl) rfl rfl ?_
      refine TL_call (.bool true) (fun _ _ j _ => r_call (args := [.int .i64 wi, .int .i64 hi]) (enters_of Try.func42 (by kernel_rfl) rfl) (j _ _ rfl) ((cons2 (j _ _ rfl) (cons2 (j _ _ rfl) rfl))) rfl) (fun w _ => (rsides_c wi hi w).mono fun _ _ h => ⟨h.1.trans (congrArg Ending.returned (bool_as (by rw [s1, s2]; rfl))), h.2⟩) rfl rfl rfl (w_n rfl) ?_
      refine TL_v (.bool false) (fun _ _ j _ => r_not (b := true) (j _ _ rfl)) rfl rfl ?_
      refine TL_v (.bool false) (s_mv rfl) rfl rfl ?_
      refine TL_q (.int .i64 xi) (s_mv rfl) rfl rfl rfl (want_y 22 rfl rfl rfl) ?_
      refine TL_q (.bool false) (s_op r_lss rfl rfl (bool_as (decide_eq_false s3))) rfl rfl rfl (want_y 22 rfl rfl rfl) ?_
      refine TL_v (.bool false) (s_pf rfl rfl) rfl rfl ?_
      refine TL_v (.bool false) (s_mv rfl) rfl rfl ?_
      refine TL_q (.int .i64 yi) (s_mv rfl) rfl rfl rfl (want_y 26 rfl rfl rfl) ?_
      refine TL_q (.bool false) (s_op r_lss rfl rfl (bool_as (decide_eq_false s4))) rfl rfl rfl (want_y 26 rfl rfl rfl) ?_
      refine TL_v (.bool false) (s_pf rfl rfl) rfl rfl ?_
      refine TL_v (.bool false) (s_mv rfl) rfl rfl ?_
      refine TL_q (.int .i64 xi) (s_mv rfl) rfl rfl rfl (want_y 30 rfl rfl rfl) ?_
      refine TL_q (pt B1 0) (s_fa fl24_0 sz3 rfl) rfl rfl rfl (want_y 30 rfl rfl rfl) ?_
      refine TL_q (iN wd) (s_ld ag3 rfl 1 rfl rfl) rfl rfl rfl (want_y 30 rfl rfl rfl) ?_
      refine TL_q (iN (8 * wd)) (s_op r_mul rfl rfl (iw (by omega) (by omega) (by omega))) rfl rfl rfl (want_y 30 rfl rfl rfl) ?_
      refine TL_q (.int .i64 wi) (s_mv rfl) rfl rfl rfl (want_y 30 rfl rfl rfl) ?_
      refine TL_q (.int .i64 (((8 * wd : Nat) : Int) - wi)) (s_op r_sub rfl rfl (int_as (wrap64 (by omega) (by omega)))) rfl rfl rfl (want_y 30 rfl rfl rfl) ?_
      refine TL_q (.bool true) (s_op r_gtr rfl rfl (bool_as (decide_eq_true s5))) rfl rfl rfl (want_y 30 rfl rfl rfl) ?_
      refine TL_v (.bool true) (s_pf rfl rfl) rfl rfl ?_
      refine TL_v (.bool true) (s_mv rfl) rfl rfl ?_
      refine TL_x 39 rfl rfl rfl rfl rfl ?_
      refine TL_x 39 rfl rfl rfl rfl rfl ?_
      refine TL_x 39 rfl rfl rfl rfl rfl ?_
      refine TL_x 39 rfl rfl rfl rfl rfl ?_
      refine TL_x 39 rfl rfl rfl rfl rfl ?_
      refine TL_x 39 rfl rfl rfl rfl rfl ?_
      refine TL_x 39 rfl rfl rfl rfl rfl ?_
      refine TL_v (.bool true) (s_pt rfl rfl) rfl rfl ?_
      refine TL_seq ?_
      refine T_sub [(1, .int .i64 xi), (2, .int .i64 yi), (3, .int .i64 wi), (4, .int .i64 hi), (5, pt B1 0), (10, pt B2 0), (11, .bool false), (12, pt B3 0), (47, .bool true)] [(1, .blk B1 (.cells #[iN wd, iN hg, .slice a ts.length cap] 24)), (2, .blk B2 (.cells #[.int .i64 0, .int .i64 0, .slice none 0 0] 75)), (3, .blk B3 (.cells #[.int .i64 wi, .int .i64 hi, .slice none 0 0] 75))] (sc4 rfl rfl rfl rfl (sc4 rfl rfl rfl rfl (sc rfl sub_nil))) (sc rfl (sc rfl (sc rfl sub_nil))) ?_
      refine T_cond_t rfl ?_
      refine T_seq (T_region ?_)
      refine TL_v (.agg #[.int .i64 0, .int .i64 0, .slice none 0 0]) (fun _ _ _ _ => r_build (vs := []) (by kernel_rfl) rfl) rfl rfl ?_
      refine TL_store 2 (.cells #[.int .i64 0, .int .i64 0, .slice none 0 0] 75) rfl (s_st sz75 rfl rfl 2 rfl rfl rfl rfl rfl) rfl rfl (w_n rfl) ?_
      refine TL_v (.bool false) (s_as rfl) rfl rfl ?_
      refine TL_seq ?_
      refine T_ret' ?_
      refine p_then_r ?_
      refine ret_of rfl (.tuple #[.agg #[.int .i64 0, .int .i64 0, .slice none 0 0], .bool false]) (fun tmps w hk hm => res2 rfl (res_cell (hk 10 _ rfl) (run_loadVar_agg ag75 sz75 (hm.at 2 rfl) (Nat.le_of_ble_eq_true rfl) rfl)) (res_tmp (hk 11 _ rfl))) (fun w hm => ?_)
      exact ⟨rfl, hm.ext⟩
     ·skip
      have s1b := of_decide_eq_true s1
      have s2b := of_decide_eq_true s2
      have s6 : ((8 * hg : Nat) : Int) - hi < yi := by
       refine Int.lt_of_not_ge fun e => hno ⟨s1, s2, by omega, by omega, by omega, e⟩
      refine T_seq (T_region ?_)
      refine TL_v (.int .i64 wi) (s_mv rfl) rfl rfl ?_
      refine TL_v (.int .i64 hi) (s_mv rfl) rfl rfl ?_
      refine TL_call (.bool true) (fun _ _ j _ => r_call (args := [.int .i64 wi, .int .i64 hi]) (enters_of Try.func42 (by kernel_rfl) rfl) (j _ _ rfl) ((cons2 (j _ _ rfl) (cons2 (j _ _ rfl) rfl))) rfl) (fun w _ => (rsides_c wi hi w).mono fun _ _ h => ⟨h.1.trans (congrArg Ending.returned (bool_as (by rw [s1, s2]; rfl))), h.2⟩) rfl rfl rfl (w_n rfl) ?_
      refine TL_v (.bool false) (fun _ _ j _ => r_not (b := true) (j _ _ rfl)) rfl rfl ?_
      refine TL_v (.bool false) (s_mv rfl) rfl rfl ?_
      refine TL_q (.int .i64 xi) (s_mv rfl) rfl rfl rfl (want_y 22 rfl rfl rfl) ?_
      refine TL_q (.bool false) (s_op r_lss rfl rfl (bool_as (decide_eq_false s3))) rfl rfl rfl (want_y 22 rfl rfl rfl) ?_
      refine TL_v (.bool false) (s_pf rfl rfl) rfl rfl ?_
      refine TL_v (.bool false) (s_mv rfl) rfl rfl ?_
      refine TL_q (.int .i64 yi) (s_mv rfl) rfl rfl rfl (want_y 26 rfl rfl rfl) ?_
      refine TL_q (.bool false) (s_op r_lss rfl rfl (bool_as (decide_eq_false s4))) rfl rfl rfl (want_y 26 rfl rfl rfl) ?_
      refine TL_v (.bool false) (s_pf rfl rfl) rfl rfl ?_
      refine TL_v (.bool false) (s_mv rfl) rfl rfl ?_
      refine TL_q (.int .i64 xi) (s_mv rfl) rfl rfl rfl (want_y 30 rfl rfl rfl) ?_
      refine TL_q (pt B1 0) (s_fa fl24_0 sz3 rfl) rfl rfl rfl (want_y 30 rfl rfl rfl) ?_
      refine TL_q (iN wd) (s_ld ag3 rfl 1 rfl rfl) rfl rfl rfl (want_y 30 rfl rfl rfl) ?_
      refine TL_q (iN (8 * wd)) (s_op r_mul rfl rfl (iw (by omega) (by omega) (by omega))) rfl rfl rfl (want_y 30 rfl rfl rfl) ?_
      refine TL_q (.int .i64 wi) (s_mv rfl) rfl rfl rfl (want_y 30 rfl rfl rfl) ?_
      refine TL_q (.int .i64 (((8 * wd : Nat) : Int) - wi)) (s_op r_sub rfl rfl (int_as (wrap64 (by omega) (by omega)))) rfl rfl rfl (want_y 30 rfl rfl rfl) ?_
      refine TL_q (.bool false) (s_op r_gtr rfl rfl (bool_as (decide_eq_false s5))) rfl rfl rfl (want_y 30 rfl rfl rfl) ?_
      refine TL_v (.bool false) (s_pf rfl rfl) rfl rfl ?_
      refine TL_v (.bool false) (s_mv rfl) rfl rfl ?_
      refine TL_q (.int .i64 yi) (s_mv rfl) rfl rfl rfl (want_y 39 rfl rfl rfl) ?_
      refine TL_q (pt B1 1) (s_fa fl24_1 sz3 rfl) rfl rfl rfl (want_y 39 rfl rfl rfl) ?_
      refine TL_q (iN hg) (s_ld ag3 rfl 1 rfl rfl) rfl rfl rfl (want_y 39 rfl rfl rfl) ?_
      refine TL_q (iN (8 * hg)) (s_op r_mul rfl rfl (iw (by omega) (by omega) (by omega))) rfl rfl rfl (want_y 39 rfl rfl rfl) ?_
      refine TL_q (.int .i64 hi) (s_mv rfl) rfl rfl rfl (want_y 39 rfl rfl rfl) ?_
      refine TL_q (.int .i64 (((8 * hg : Nat) : Int) - hi)) (s_op r_sub rfl rfl (int_as (wrap64 (by omega) (by omega)))) rfl rfl rfl (want_y 39 rfl rfl rfl) ?_
      refine TL_q (.bool true) (s_op r_gtr rfl rfl (bool_as (decide_eq_true s6))) rfl rfl rfl (want_y 39 rfl rfl rfl) ?_
      refine TL_v (.bool true) (s_pf rfl rfl) rfl rfl ?_
      refine TL_seq ?_
      refine T_sub [(1, .int .i64 xi), (2, .int .i64 yi), (3, .int .i64 wi), (4, .int .i64 hi), (5, pt B1 0), (10, pt B2 0), (11, .bool false), (12, pt B3 0), (47, .bool true)] [(1, .blk B1 (.cells #[iN wd, iN hg, .slice a ts.length cap] 24)), (2, .blk B2 (.cells #[.int .i64 0, .int .i64 0, .slice none 0 0] 75)), (3, .blk B3 (.cells #[.int .i64 wi, .int .i64 hi, .slice none 0 0] 75))] (sc4 rfl rfl rfl rfl (sc4 rfl rfl rfl rfl (sc rfl sub_nil))) (sc rfl (sc rfl (sc rfl sub_nil))) ?_
      refine T_cond_t rfl ?_
      refine T_seq (T_region ?_)
      refine TL_v (.agg #[.int .i64 0, .int .i64 0, .slice none 0 0]) (fun _ _ _ _ => r_build (vs := []) (by kernel_rfl) rfl) rfl rfl ?_
      refine TL_store 2 (.cells #[.int .i64 0, .int .i64 0, .slice none 0 0] 75) rfl (s_st sz75 rfl rfl 2 rfl rfl rfl rfl rfl) rfl rfl (w_n rfl) ?_
      refine TL_v (.bool false) (s_as rfl) rfl rfl ?_
      refine TL_seq ?_
      refine T_ret' ?_
      refine p_then_r ?_
      refine ret_of rfl (.tuple #[.agg #[.int .i64 0, .int .i64 0, .slice none 0 0], .bool false]) (fun tmps w hk hm => res2 rfl (res_cell (hk 10 _ rfl) (run_loadVar_agg ag75 sz75 (hm.at 2 rfl) (Nat.le_of_ble_eq_true rfl) rfl)) (res_tmp (hk 11 _ rfl))) (fun w hm => ?_)
      exact ⟨rfl, hm.ext⟩
  ·skip
   have s1b := of_decide_eq_true s1
   refine T_seq (T_region ?_)
   refine TL_v (.int .i64 wi) (s_mv rfl) rfl rfl ?_
   refine TL_v (.int .i64 hi) (s_mv rfl) rfl rfl ?_
   refine TL_call (.bool false) (fun _ _ j _ => r_call (args := [.int .i64 wi, .int .i64 hi]) (enters_of Try.func42 (by kernel_rfl) rfl) (j _ _ rfl) ((cons2 (j _ _ rfl) (cons2 (j _ _ rfl) rfl))) rfl) (fun w _ => (rsides_c wi hi w).mono fun _ _ h => ⟨h.1.trans (congrArg Ending.returned (bool_as (by rw [(eq_false_of_ne_true s2)]; simp))), h.2⟩) rfl rfl rfl (w_n rfl) ?_
   refine TL_v (.bool true) (fun _ _ j _ => r_not (b := false) (j _ _ rfl)) rfl rfl ?_
   refine TL_v (.bool true) (s_mv rfl) rfl rfl ?_
   refine TL_x 22 rfl rfl rfl rfl rfl ?_
   refine TL_x 22 rfl rfl rfl rfl rfl ?_
   refine TL_v (.bool true) (s_pt rfl rfl) rfl rfl ?_
   refine TL_v (.bool true) (s_mv rfl) rfl rfl ?_
   refine TL_x 26 rfl rfl rfl rfl rfl ?_
   refine TL_x 26 rfl rfl rfl rfl rfl ?_
   refine TL_v (.bool true) (s_pt rfl rfl) rfl rfl ?_
   refine TL_v (.bool true) (s_mv rfl) rfl rfl ?_
   refine TL_x 30 rfl rfl rfl rfl rfl ?_
   refine TL_x 30 rfl rfl rfl rfl rfl ?_
   refine TL_x 30 rfl rfl rfl rfl rfl ?_
   refine TL_x 30 rfl rfl rfl rfl rfl ?_
   refine TL_x 30 rfl rfl rfl rfl rfl ?_
   refine TL_x 30 rfl rfl rfl rfl rfl ?_
   refine TL_x 30 rfl rfl rfl rfl rfl ?_
   refine TL_v (.bool true) (s_pt rfl rfl) rfl rfl ?_
   refine TL_v (.bool true) (s_mv rfl) rfl rfl ?_
   refine TL_x 39 rfl rfl rfl rfl rfl ?_
   refine TL_x 39 rfl rfl rfl rfl rfl ?_
   refine TL_x 39 rfl rfl rfl rfl rfl ?_
   refine TL_x 39 rfl rfl rfl rfl rfl ?_
   refine TL_x 39 rfl rfl rfl rfl rfl ?_
   refine TL_x 39 rfl rfl rfl rfl rfl ?_
   refine TL_x 39 rfl rfl rfl rfl rfl ?_
   refine TL_v (.bool true) (s_pt rfl rfl) rfl rfl ?_
   refine TL_seq ?_
   refine T_sub [(1, .int .i64 xi), (2, .int .i64 yi), (3, .int .i64 wi), (4, .int .i64 hi), (5, pt B1 0), (10, pt B2 0), (11, .bool false), (12, pt B3 0), (47, .bool true)] [(1, .blk B1 (.cells #[iN wd, iN hg, .slice a ts.length cap] 24)), (2, .blk B2 (.cells #[.int .i64 0, .int .i64 0, .slice none 0 0] 75)), (3, .blk B3 (.cells #[.int .i64 wi, .int .i64 hi, .slice none 0 0] 75))] (sc4 rfl rfl rfl rfl (sc4 rfl rfl rfl rfl (sc rfl sub_nil))) (sc rfl (sc rfl (sc rfl sub_nil))) ?_
   refine T_cond_t rfl ?_
   refine T_seq (T_region ?_)
   refine TL_v (.agg #[.int .i64 0, .int .i64 0, .slice none 0 0]) (fun _ _ _ _ => r_build (vs := []) (by kernel_rfl) rfl) rfl rfl ?_
   refine TL_store 2 (.cells #[.int .i64 0, .int .i64 0, .slice none 0 0] 75) rfl (s_st sz75 rfl rfl 2 rfl rfl rfl rfl rfl) rfl rfl (w_n rfl) ?_
   refine TL_v (.bool false) (s_as rfl) rfl rfl ?_
   refine TL_seq ?_
   refine T_ret' ?_
   refine p_then_r ?_
   refine ret_of rfl (.tuple #[.agg #[.int .i64 0, .int .i64 0, .slice none 0 0], .bool false]) (fun tmps w hk hm => res2 rfl (res_cell (hk 10 _ rfl) (run_loadVar_agg ag75 sz75 (hm.at 2 rfl) (Nat.le_of_ble_eq_true rfl) rfl)) (res_tmp (hk 11 _ rfl))) (fun w hm => ?_)
   exact ⟨rfl, hm.ext⟩
 ·skip
  refine T_seq (T_region ?_)
  refine TL_v (.int .i64 wi) (s_mv rfl) rfl rfl ?_
  refine TL_v (.int .i64 hi) (s_mv rfl) rfl rfl ?_
  refine TL_call (.bool false) (fun _ _ j _ => r_call (args := [.int .i64 wi, .int .i64 hi]) (enters_of Try.func42 (by kernel_rfl) rfl) (j _ _ rfl) ((cons2 (j _ _ rfl) (cons2 (j _ _ rfl) rfl))) rfl) (fun w _ => (rsides_c wi hi w).mono fun _ _ h => ⟨h.1.trans (congrArg Ending.returned (bool_as (by rw [(eq_false_of_ne_true s1)]; rfl))), h.2⟩) rfl rfl rfl (w_n rfl) ?_
  refine TL_v (.bool true) (fun _ _ j _ => r_not (b := false) (j _ _ rfl)) rfl rfl ?_
  refine TL_v (.bool true) (s_mv rfl) rfl rfl ?_
  refine TL_x 22 rfl rfl rfl rfl rfl ?_
  refine TL_x 22 rfl rfl rfl rfl rfl ?_
  refine TL_v (.bool true) (s_pt rfl rfl) rfl rfl ?_
  refine TL_v (.bool true) (s_mv rfl) rfl rfl ?_
  refine TL_x 26 rfl rfl rfl rfl rfl ?_
  refine TL_x 26 rfl rfl rfl rfl rfl ?_
  refine TL_v (.bool true) (s_pt rfl rfl) rfl rfl ?_
  refine TL_v (.bool true) (s_mv rfl) rfl rfl ?_
  refine TL_x 30 rfl rfl rfl rfl rfl ?_
  refine TL_x 30 rfl rfl rfl rfl rfl ?_
  refine TL_x 30 rfl rfl rfl rfl rfl ?_
  refine TL_x 30 rfl rfl rfl rfl rfl ?_
  refine TL_x 30 rfl rfl rfl rfl rfl ?_
  refine TL_x 30 rfl rfl rfl rfl rfl ?_
  refine TL_x 30 rfl rfl rfl rfl rfl ?_
  refine TL_v (.bool true) (s_pt rfl rfl) rfl rfl ?_
  refine TL_v (.bool true) (s_mv rfl) rfl rfl ?_
  refine TL_x 39 rfl rfl rfl rfl rfl ?_
  refine TL_x 39 rfl rfl rfl rfl rfl ?_
  refine TL_x 39 rfl rfl rfl rfl rfl ?_
  refine TL_x 39 rfl rfl rfl rfl rfl ?_
  refine TL_x 39 rfl rfl rfl rfl rfl ?_
  refine TL_x 39 rfl rfl rfl rfl rfl ?_
  refine TL_x 39 rfl rfl rfl rfl rfl ?_
  refine TL_v (.bool true) (s_pt rfl rfl) rfl rfl ?_
  refine TL_seq ?_
  refine T_sub [(1, .int .i64 xi), (2, .int .i64 yi), (3, .int .i64 wi), (4, .int .i64 hi), (5, pt B1 0), (10, pt B2 0), (11, .bool false), (12, pt B3 0), (47, .bool true)] [(1, .blk B1 (.cells #[iN wd, iN hg, .slice a ts.length cap] 24)), (2, .blk B2 (.cells #[.int .i64 0, .int .i64 0, .slice none 0 0] 75)), (3, .blk B3 (.cells #[.int .i64 wi, .int .i64 hi, .slice none 0 0] 75))] (sc4 rfl rfl rfl rfl (sc4 rfl rfl rfl rfl (sc rfl sub_nil))) (sc rfl (sc rfl (sc rfl sub_nil))) ?_
  refine T_cond_t rfl ?_
  refine T_seq (T_region ?_)
  refine TL_v (.agg #[.int .i64 0, .int .i64 0, .slice none 0 0]) (fun _ _ _ _ => r_build (vs := []) (by kernel_rfl) rfl) rfl rfl ?_
  refine TL_store 2 (.cells #[.int .i64 0, .int .i64 0, .slice none 0 0] 75) rfl (s_st sz75 rfl rfl 2 rfl rfl rfl rfl rfl) rfl rfl (w_n rfl) ?_
  refine TL_v (.bool false) (s_as rfl) rfl rfl ?_
  refine TL_seq ?_
  refine T_ret' ?_
  refine p_then_r ?_
  refine ret_of rfl (.tuple #[.agg #[.int .i64 0, .int .i64 0, .slice none 0 0], .bool false]) (fun tmps w hk hm => res2 rfl (res_cell (hk 10 _ rfl) (run_loadVar_agg ag75 sz75 (hm.at 2 rfl) (Nat.le_of_ble_eq_true rfl) rfl)) (res_tmp (hk 11 _ rfl))) (fun w hm => ?_)
  exact ⟨rfl, hm.ext⟩
end Go.Proofs.Ytbiapeaghbndoaa
/- stamp: a canvas that is one's own but for what was there. -/
namespace Go.Proofs.Ytbiapeaghbndoaa
open Go Go.RowKit
abbrev Res.cvO (w₀ : World) (z : Cv) : Res := .abs (fun b => z.foot b ∧ w₀.heap.size ≤ b) (fun w => ∀ w', (∀ b, z.foot b → w₀.heap.size ≤ b → hp w' b = hp w b) → (∀ b, b < w₀.heap.size → hp w' b = hp w₀ b) → CvAt w' z)
theorem cvO_keep {w₀ : World} {z : Cv} (w1 w2 : World) (h : ∀ w', (∀ b, z.foot b → w₀.heap.size ≤ b → hp w' b = hp w1 b) → (∀ b, b < w₀.heap.size → hp w' b = hp w₀ b) → CvAt w' z) (hb : ∀ b, z.foot b ∧ w₀.heap.size ≤ b → hp w2 b = hp w1 b) :
    ∀ w', (∀ b, z.foot b → w₀.heap.size ≤ b → hp w' b = hp w2 b) → (∀ b, b < w₀.heap.size → hp w' b = hp w₀ b) → CvAt w' z :=
  fun w' h1 h2 => h w' (fun b hf hn => (h1 b hf hn).trans (hb b ⟨hf, hn⟩)) h2
theorem MemOk.cvO0 {w₀ w : World} {L : Heap} (h : MemOk w₀ L w) (k : Nat) {c : Cv} (hc : CvAt w₀ c) : MemOk w₀ ((k, .cvO w₀ c) :: L) w := by
  refine h.set k _ h.ext ⟨fun w' _ h2 => hc.keep fun b hf => h2 b (hc.low hf), ?_, cvO_keep⟩ (fun _ _ _ _ b _ => ⟨rfl, ?_⟩)
  · rintro b ⟨hf, hn⟩
    have := hc.low hf
    omega
  · rintro ⟨hf, hn⟩
    have := hc.low hf
    omega
theorem MemOk.cvOat {w₀ w : World} {L : Heap} (h : MemOk w₀ L w) (k : Nat) {z : Cv} (hk : lk L k = some (.cvO w₀ z)) : CvAt w z := (h.own k _ hk).1 w (fun _ _ _ => rfl) (fun b hb => h.ext.block b hb)
theorem MemOk.cvOnew {w₀ w w' : World} {L : Heap} (h : MemOk w₀ L w) (k : Nat) {z d : Cv} (hk : lk L k = some (.cvO w₀ z)) (hd : CvNew w w' [z] d) : MemOk w₀ ((k, .cvO w₀ d) :: L) w' := by
  have hm := h.below hd.below
  have ok := h.own k _ hk
  have hfoot : ∀ b, d.foot b → w.heap.size ≤ b ∨ z.foot b := fun b hb => (hd.foot b hb).imp id fun ⟨c, hc, hcf⟩ => by rw [List.mem_singleton.1 hc] at hcf; exact hcf
  refine hm.set k _ hm.ext ⟨fun w2 h1 h2 => hd.at'.keep fun b hf => ?_, ?_, cvO_keep⟩ (fun i r hi hne b hr => ⟨rfl, ?_⟩)
  · rcases Nat.lt_or_ge b w₀.heap.size with hlt | hge
    · rw [h2 b hlt]; exact (hm.ext.block b hlt).symm
    · exact h1 b hf hge
  · rintro b ⟨hf, hn⟩
    exact ⟨hn, hd.at'.low hf⟩
  · rintro ⟨hf, hn⟩
    have hlt := (Res.low (h.own i r hi) hr).2
    rcases hfoot b hf with h1 | h1
    · omega
    · exact h.sep k i _ _ hk hi (Ne.symm hne) b ⟨h1, hn⟩ hr
def OldIn (w₀ : World) (c z : Cv) : Prop := ∀ b, z.foot b → w₀.heap.size ≤ b ∨ c.foot b
theorem OldIn.refl (w₀ : World) (c : Cv) : OldIn w₀ c c := fun _ h => .inr h
theorem OldIn.step {w₀ w w' : World} {c z d : Cv} (h : OldIn w₀ c z) (hw : w₀.heap.size ≤ w.heap.size) (hd : CvNew w w' [z] d) : OldIn w₀ c d := fun b hb => by
  rcases hd.foot b hb with h1 | ⟨e, he, hef⟩
  · exact .inl (Nat.le_trans hw h1)
  · rw [List.mem_singleton.1 he] at hef; exact h b hef
theorem MemOk.cvOend {w₀ w : World} {L : Heap} (h : MemOk w₀ L w) (k : Nat) {c z : Cv} (hk : lk L k = some (.cvO w₀ z)) (ho : OldIn w₀ c z) : CvNew w₀ w [c] z :=
  ⟨h.ext, h.cvOat k hk, fun b hb => (ho b hb).imp id fun hc => ⟨c, List.mem_singleton.2 rfl, hc⟩⟩
/-! ### what is laid -/
def layF (wd hg : Nat) (ts : List T64) (p : Nat) (px : List C4) (X Y : Int) (x : Nat × Nat) : Option Dt :=
  if onC wd hg (X + x.1) (Y + x.2) then some ⟨X + x.1, Y + x.2, overC (colI wd hg ts (X + x.1) (Y + x.2)) (get px (x.2 * p + x.1))⟩ else none
def layD (wd hg : Nat) (ts : List T64) (p q : Nat) (px : List C4) (X Y : Int) (k : Nat) : List Dt := ((ptsG p q).take k).filterMap (layF wd hg ts p px X Y)
theorem layD_y {wd hg p q k : Nat} {ts : List T64} {px : List C4} {X Y : Int} {x : Nat × Nat} {c : C4} (hx : (ptsG p q)[k]? = some x) (hc : px[x.2 * p + x.1]? = some c) (ho : onC wd hg (X + x.1) (Y + x.2) = true) :
    layD wd hg ts p q px X Y (k + 1) = layD wd hg ts p q px X Y k ++ [⟨X + x.1, Y + x.2, overC (colI wd hg ts (X + x.1) (Y + x.2)) c⟩] := by
  unfold layD
  rw [List.take_add_one, hx, List.filterMap_append]
  simp [layF, ho, get_of hc]
theorem layD_n {wd hg p q k : Nat} {ts : List T64} {px : List C4} {X Y : Int} {x : Nat × Nat} (hx : (ptsG p q)[k]? = some x) (ho : ¬ onC wd hg (X + x.1) (Y + x.2) = true) : layD wd hg ts p q px X Y (k + 1) = layD wd hg ts p q px X Y k := by
  unfold layD
  rw [List.take_add_one, hx, List.filterMap_append]
  simp [layF, ho]
theorem layD_le (wd hg : Nat) (ts : List T64) (p q : Nat) (px : List C4) (X Y : Int) (k : Nat) : (layD wd hg ts p q px X Y k).length ≤ k := by
  unfold layD
  exact Nat.le_trans (List.length_filterMap_le _ _) (by rw [List.length_take]; omega)
def TsOk (ts : List T64) : Prop := ∀ t ∈ ts, ∀ c ∈ t.l, c.ok
theorem get_ok {l : List C4} (h : ∀ c ∈ l, c.ok) (i : Nat) : (get l i).ok := by
  unfold get
  rw [List.getD_eq_getElem?_getD]
  cases e : l[i]? with
  | none => exact zeroC_ok
  | some c => exact h c (List.mem_of_getElem? e)
theorem tileAt_ok {ts : List T64} (h : TsOk ts) (i : Nat) : ∀ c ∈ (tileAt ts i).l, c.ok := by
  unfold tileAt
  rw [List.getD_eq_getElem?_getD]
  cases e : ts[i]? with
  | none =>
    intro c hc
    have : c = zeroC := List.eq_of_mem_replicate hc
    rw [this]; exact zeroC_ok
  | some t => exact h t (List.mem_of_getElem? e)
theorem colI_ok {wd hg : Nat} {ts : List T64} (h : TsOk ts) (x y : Int) : (colI wd hg ts x y).ok := by
  unfold colI
  split
  · exact get_ok (tileAt_ok h _) _
  · exact zeroC_ok
theorem putD_ok {wd hg : Nat} {ts : List T64} (h : TsOk ts) {d : Dt} (hd : d.c.ok) : TsOk (putD wd hg ts d) := by
  unfold putD
  split
  · intro t ht
    rcases List.mem_or_eq_of_mem_set ht with h1 | rfl
    · exact h t h1
    · intro c hc
      rcases List.mem_or_eq_of_mem_set (show c ∈ (tileAt ts _).l.set _ d.c from hc) with h2 | rfl
      · exact tileAt_ok h _ c h2
      · exact hd
  · exact h
theorem putDs_ok {wd hg : Nat} {ds : List Dt} : ∀ {ts : List T64}, TsOk ts → (∀ d ∈ ds, d.c.ok) → TsOk (putDs wd hg ts ds) := by
  induction ds with
  | nil => exact fun h _ => h
  | cons d ds ih => exact fun h hd => ih (putD_ok h (hd d (by simp))) fun e he => hd e (by simp [he])
theorem layD_ok {wd hg p q k : Nat} {ts : List T64} {px : List C4} {X Y : Int} (h : TsOk ts) (hpx : ∀ c ∈ px, c.ok) : ∀ d ∈ layD wd hg ts p q px X Y k, d.c.ok := by
  intro d hd
  unfold layD at hd
  obtain ⟨x, -, hx⟩ := List.mem_filterMap.1 hd
  unfold layF at hx
  split at hx
  · cases hx
    exact overC_ok (colI_ok h _ _) (get_ok hpx _)
  · cases hx
def lay1 (wd hg p q : Nat) (px : List C4) (ts : List T64) (u : Pt) : List T64 := putDs wd hg ts (layD wd hg ts p q px u.x u.y (q * p))
def layN (wd hg p q : Nat) (px : List C4) (ts : List T64) (l : List Pt) : List T64 := l.foldl (lay1 wd hg p q px) ts
theorem layN_step {wd hg p q k : Nat} {px : List C4} {ts : List T64} {l : List Pt} {u : Pt} (h : l[k]? = some u) : layN wd hg p q px ts (l.take (k + 1)) = lay1 wd hg p q px (layN wd hg p q px ts (l.take k)) u := by
  unfold layN
  rw [List.take_add_one, h, List.foldl_append]; rfl
theorem lay1_ok {wd hg p q : Nat} {px : List C4} {ts : List T64} {u : Pt} (h : TsOk ts) (hpx : ∀ c ∈ px, c.ok) : TsOk (lay1 wd hg p q px ts u) := putDs_ok h (layD_ok h hpx)
theorem layN_ok {wd hg p q : Nat} {px : List C4} (hpx : ∀ c ∈ px, c.ok) : ∀ {l : List Pt} {ts : List T64}, TsOk ts → TsOk (layN wd hg p q px ts l) := by
  intro l
  induction l with
  | nil => exact fun h => h
  | cons u l ih => exact fun h => ih (lay1_ok h hpx)
theorem layD_far {wd hg p q : Nat} {ts : List T64} {px : List C4} {X Y : Int} (h : X ≤ -(p : Int) ∨ Y ≤ -(q : Int) ∨ ((8 * wd : Nat) : Int) ≤ X ∨ ((8 * hg : Nat) : Int) ≤ Y) (k : Nat) : layD wd hg ts p q px X Y k = [] := by
  unfold layD
  rw [List.filterMap_eq_nil_iff]
  intro x hx
  have hx2 := List.mem_of_mem_take hx
  obtain ⟨i, hi⟩ := List.getElem?_of_mem hx2
  obtain ⟨h1, h2, -, -⟩ := ptsG_in hi
  unfold layF
  rw [if_neg]
  intro ho
  have := of_decide_eq_true ho
  omega
theorem lay1_far {wd hg p q : Nat} {ts : List T64} {px : List C4} {u : Pt} (h : u.x ≤ -(p : Int) ∨ u.y ≤ -(q : Int) ∨ ((8 * wd : Nat) : Int) ≤ u.x ∨ ((8 * hg : Nat) : Int) ≤ u.y) : lay1 wd hg p q px ts u = ts := by
  unfold lay1
  rw [layD_far h]; rfl
end Go.Proofs.Ytbiapeaghbndoaa
/- Ranges over functions inside a loop: what they put off is collected, a block for each. Over any program. -/
namespace Go.Proofs.Ytbiapeaghbndoaa
open Go Go.RowKit
abbrev colD (D : Nat) : Deferred := { target := .collected D, args := #[] }
abbrev Res.gone : Res := .abs (fun _ => False) (fun _ => True)
abbrev Res.dfs (ds : List Nat) : Res := .abs (fun b => b ∈ ds) (fun w => ds.Nodup ∧ ∀ D ∈ ds, hp w D = some (.deferred (some [])))
theorem dfs_keep {ds : List Nat} (w1 w2 : World) (h : ds.Nodup ∧ ∀ D ∈ ds, hp w1 D = some (.deferred (some []))) (hb : ∀ b, b ∈ ds → hp w2 b = hp w1 b) : ds.Nodup ∧ ∀ D ∈ ds, hp w2 D = some (.deferred (some [])) := ⟨h.1, fun D hD => (hb D hD).trans (h.2 D hD)⟩
theorem MemOk.dfs0 {w₀ w : World} {L : Heap} (h : MemOk w₀ L w) (k : Nat) : MemOk w₀ ((k, .dfs []) :: L) w :=
  h.set k _ h.ext ⟨⟨List.nodup_nil, fun _ hD => nomatch hD⟩, (fun _ hb => nomatch hb), dfs_keep⟩ (fun _ _ _ _ _ _ => ⟨rfl, fun hb => nomatch hb⟩)
theorem MemOk.dfsPush {w₀ w : World} {L : Heap} (h : MemOk w₀ L w) (k j : Nat) {ds : List Nat} {D : Nat} (hk : lk L k = some (.dfs ds)) (hj : lk L j = some (.blk D (.deferred (some [])))) (hne : Nat.beq k j = false) :
    MemOk w₀ ((k, .dfs (D :: ds)) :: (j, .gone) :: L) w := by
  have hkj : k ≠ j := fun e => by subst e; rw [Nat.beq_refl] at hne; cases hne
  have ok1 := h.own k _ hk
  have ok2 := h.own j _ hj
  have h0 : MemOk w₀ ((j, .gone) :: L) w := h.set j _ h.ext ⟨trivial, (fun _ hb => hb.elim), fun _ _ _ _ => trivial⟩ (fun _ _ _ _ b _ => ⟨rfl, id⟩)
  refine h0.set k _ h0.ext ⟨⟨List.nodup_cons.2 ⟨fun hD => h.sep k j _ _ hk hj hkj D hD rfl, ok1.1.1⟩, fun E hE => ?_⟩, fun E hE => ?_, dfs_keep⟩ (fun i r hi hne' b hb => ⟨rfl, fun hE => ?_⟩)
  · rcases List.mem_cons.1 hE with rfl | h1
    · exact ok2.2
    · exact ok1.1.2 E h1
  · rcases List.mem_cons.1 hE with rfl | h1
    · exact ⟨ok2.1, hp_lt ok2.2⟩
    · exact ok1.2.1 E h1
  · by_cases e : j = i
    · subst e; rw [lk_cons_same] at hi; cases hi; exact hb
    · rw [lk_cons_other _ _ e] at hi
      rcases List.mem_cons.1 hE with rfl | h1
      · exact h.sep j i _ _ hj hi e b rfl hb
      · exact h.sep k i _ _ hk hi (Ne.symm hne') b h1 hb
def takeAll (ds : List Nat) (w : World) : World := ds.foldl (fun w D => w.putObj D (.deferred none)) w
theorem takeAll_other : ∀ (ds : List Nat) (w : World) (b : Nat), b ∉ ds → hp (takeAll ds w) b = hp w b
  | [], _, _, _ => rfl
  | D :: ds, w, b, h => by
    show hp (takeAll ds (w.putObj D (.deferred none))) b = _
    rw [takeAll_other ds _ b (fun e => h (List.mem_cons_of_mem _ e))]
    exact World.putObj_heap_other (fun e => h (by rw [e]; exact List.mem_cons_self))
theorem takeAll_same : ∀ (ds : List Nat) (w : World), (takeAll ds w).os = w.os ∧ (takeAll ds w).tape = w.tape ∧ (takeAll ds w).output = w.output ∧ (takeAll ds w).heap.size = w.heap.size
  | [], _ => ⟨rfl, rfl, rfl, rfl⟩
  | D :: ds, w => by
    obtain ⟨h1, h2, h3, h4⟩ := takeAll_same ds (w.putObj D (.deferred none))
    exact ⟨h1, h2, h3, h4.trans (by simp)⟩
theorem MemOk.taken {w₀ w : World} {L : Heap} (h : MemOk w₀ L w) (k : Nat) {ds : List Nat} (hk : lk L k = some (.dfs ds)) : MemOk w₀ ((k, .gone) :: L) (takeAll ds w) := by
  have ok := h.own k _ hk
  obtain ⟨h1, h2, h3, h4⟩ := takeAll_same ds w
  refine h.set k _ ⟨h1.trans h.ext.os, h2.trans h.ext.tape, h3.trans h.ext.output, by rw [h4]; exact h.ext.size, fun b hb => ?_⟩ ⟨trivial, (fun _ hb => hb.elim), fun _ _ _ _ => trivial⟩ (fun i r hi hne b hb => ⟨takeAll_other ds w b fun hd => h.sep k i _ _ hk hi (Ne.symm hne) b hd hb, id⟩)
  rw [← h.ext.block b hb]
  exact takeAll_other ds w b fun hd => by have := (ok.2.1 b hd).1; omega
theorem leaves_col {P : Program} {fn : Func} {tmps : Array Value} {R : Ending → World → Prop} {v : Value} : ∀ (ds : List Nat) (w : World), ds.Nodup → (∀ D ∈ ds, hp w D = some (.deferred (some []))) →
    (results fn tmps).run P (takeAll ds w) = .ok v (takeAll ds w) → R (.returned v) (takeAll ds w) → LeavesInM Fence.wide 9 P fn tmps R (ds.map colD) .returning w
  | [], w, _, _, hr, hR => ⟨v, hr, hR⟩
  | D :: ds, w, hn, hd, hr, hR => by
    obtain ⟨h1, h2⟩ := List.nodup_cons.1 hn
    refine ⟨by simp, .inl ⟨_, _, rfl, run_takeDeferred (hd D List.mem_cons_self), leaves_col ds _ h2 (fun E hE => ?_) hr hR⟩⟩
    have : E ≠ D := fun e => h1 (e ▸ hE)
    exact (World.putObj_heap_other this).trans (hd E (List.mem_cons_of_mem _ hE))
section
variable {C : Cx} {Q : Post} {K : List (Nat × Value)} {L : Heap}
theorem ret_ofL {fn : Func} {R : Ending → World → Prop} (k : Nat) (ds : List Nat) (hD : C.D = ds.map colD) (hk : lk L k = some (.dfs ds)) (v : Value)
    (hr : ∀ tmps w, (∀ t u, lk K t = some u → tmps.getD t undef = u) → MemOk C.w₀ ((k, .gone) :: L) w → (results fn tmps).run C.P w = .ok v w) (hR : ∀ w, MemOk C.w₀ ((k, .gone) :: L) w → R (.returned v) w) : POk C (bodyM C.P fn R) .ret K L := fun a w hf hm => by
  show LeavesInM _ _ _ _ _ _ _ _ _
  rw [hf.defers.trans hD]
  have ok := (hm.own k _ hk).1
  exact leaves_col ds w ok.1 ok.2 (hr _ _ hf.knows (hm.taken k hk)) (hR _ (hm.taken k hk))
abbrev Cx.at (C : Cx) (D : List Deferred) : Cx := ⟨C.P, C.w₀, C.N, D, C.ro⟩
def AtD (C : Cx) {ι : Type} (p : ι → Prop) (DI : ι → List Deferred) (K : ι → List (Nat × Value)) (L : ι → Heap) (a : Act) (w : World) : Prop := ∃ i, p i ∧ FrOk C.N (DI i) (K i) a ∧ MemOk C.w₀ (L i) w
theorem T_loopD {ι : Type} (p : ι → Prop) (DI : ι → List Deferred) (KI : ι → List (Nat × Value)) (LI : ι → Heap) (μ : ι → Nat) (i₀ : ι) (hp : p i₀) (hD : C.D = DI i₀) (hK : SubK K (KI i₀)) (hL : SubK L (LI i₀)) {c : Code}
    (hround : ∀ i, p i → T (C.at (DI i)) c (Exit.then (AtD C (fun j => p j ∧ μ j < μ i) DI KI LI) Q) (KI i) (LI i)) : T C (.loop c) Q K L := by
  intro a w hf hm
  have key : ∀ m i, p i → μ i ≤ m → ∀ a w, FrOk C.N (DI i) (KI i) a → MemOk C.w₀ (LI i) w → Code.roundsIn (FW C.ro) 0 C.P c Q (m + 1) a w := by
    intro m
    induction m with
    | zero =>
      intro i hi hle a w hf hm
      refine wpIn_mono (hround i hi a w hf hm) ?_
      intro e a' w' hq
      cases e with
      | normal => obtain ⟨j, ⟨_, hlt⟩, _⟩ := hq; omega
      | exit id => exact hq
      | goto l => exact hq
      | ret => exact hq
      | panic ch => exact hq
      | outgrown => exact hq
    | succ m ih =>
      intro i hi hle a w hf hm
      refine wpIn_mono (hround i hi a w hf hm) ?_
      intro e a' w' hq
      cases e with
      | normal => obtain ⟨j, ⟨hj, hlt⟩, h1, h2⟩ := hq; exact ih j hj (by omega) a' w' h1 h2
      | exit id => exact hq
      | goto l => exact hq
      | ret => exact hq
      | panic ch => exact hq
      | outgrown => exact hq
  exact wpIn_loop_rounds _ (key (μ i₀) i₀ hp (Nat.le_refl _) a w (hD ▸ hf.sub hK) (hm.sub hL))
theorem p_atD {C' : Cx} {ι : Type} {p : ι → Prop} {DI : ι → List Deferred} {KJ : ι → List (Nat × Value)} {LJ : ι → Heap} (i : ι) (hp : p i) (hN : C'.N = C.N) (hw : C'.w₀ = C.w₀) (hD : C'.D = DI i) (hK : SubK K (KJ i)) (hL : SubK L (LJ i)) : POk C' (Exit.then (AtD C p DI KJ LJ) Q) .normal K L :=
  fun _ _ hf hm => ⟨i, hp, by rw [← hN, ← hD]; exact hf.sub hK, by rw [← hw]; exact hm.sub hL⟩
end
end Go.Proofs.Ytbiapeaghbndoaa
/- canvas: Lay. Printed by a program of this seat's prover. -/
namespace Go.Proofs.Ytbiapeaghbndoaa
open Go Go.RowKit
set_option maxRecDepth 10000
set_option maxHeartbeats 2000000 in
theorem lay1_ht (w₀ : World) (c : Cv) (hc : CvAt w₀ c) (A B C S Lb p q : Nat) (px : List C4) (a : Option Addr) (cap : Nat) (hv : SliceAt w₀ a cap 4 C4.cells px) (hcap : cap ≤ Go.maxLen) (l : List Pt) (al : Option Addr) (cl : Nat) (hl : SliceAt w₀ al cl 2 Pt.cells l) (hcl : cl ≤ Go.maxLen) (hp8 : 1 ≤ p ∧ p ≤ 8) (hq8 : 1 ≤ q ∧ q ≤ 8) (hlen : px.length = p * q) (hpx : ∀ c ∈ px, c.ok) (hcok : TsOk c.ts) : ∀ w, MemOk w₀ [(1901, .blk B (.cells #[.int .i64 0] 29)), (1900, .blk A (.cells #[.pointer none] 28)), (3, .blk Lb (.cells #[.slice al l.length cl] 44)), (2, .blk S (.cells #[.int .i64 ((p : Nat) : Int), .int .i64 ((q : Nat) : Int), .slice a px.length cap] 75)), (1, .blk C (.cells #[.pointer (some ⟨c.p, 0, none⟩)] 28))] w → Calls Try.prog 97 #[.pointer (some ⟨C, 0, none⟩), .pointer (some ⟨S, 0, none⟩), .pointer (some ⟨Lb, 0, none⟩)] w (HAns w₀ (fun z : Cv => z.wd = c.wd ∧ z.hg = c.hg ∧ z.ts = layN c.wd c.hg p q px c.ts l ∧ OldIn w₀ c z) (fun z => .pointer (some ⟨z.p, 0, none⟩)) (fun z => [(1, .blk C (.cells #[.pointer (some ⟨z.p, 0, none⟩)] 28)), (960, .cvO w₀ z)] ++ [(1901, .blk B (.cells #[.int .i64 0] 29)), (1900, .blk A (.cells #[.pointer none] 28)), (3, .blk Lb (.cells #[.slice al l.length cl] 44)), (2, .blk S (.cells #[.int .i64 ((p : Nat) : Int), .int .i64 ((q : Nat) : Int), .slice a px.length cap] 75)), (1, .blk C (.cells #[.pointer (some ⟨c.p, 0, none⟩)] 28))])) := by
 have hvl := hv.1
 have hll := hl.1
 have h64 := size8 hp8 hq8
 have hwd4 := hc.wd4
 have hhg4 := hc.hg4
 unfold Go.maxLen at hcap hcl
 refine ht_of_T (l := [pt C 0, pt S 0, pt Lb 0]) (L := [(1901, .blk B (.cells #[.int .i64 0] 29)), (1900, .blk A (.cells #[.pointer none] 28)), (3, .blk Lb (.cells #[.slice al l.length cl] 44)), (2, .blk S (.cells #[iN p, iN q, .slice a px.length cap] 75)), (1, .blk C (.cells #[pt c.p 0] 28))]) 104 Try.func97 rfl rfl rfl ?_
 show T _ _ _ [(0, pt C 0), (1, pt S 0), (2, pt Lb 0)] [(1901, .blk B (.cells #[.int .i64 0] 29)), (1900, .blk A (.cells #[.pointer none] 28)), (3, .blk Lb (.cells #[.slice al l.length cl] 44)), (2, .blk S (.cells #[iN p, iN q, .slice a px.length cap] 75)), (1, .blk C (.cells #[pt c.p 0] 28))]
 refine T_mem (_ :: _ :: _) (fun _ hm => (hm.cvO0 960 hc).dfs0 970) ?_
 refine T_seq (T_region ?_)
 refine TL_v (.pointer none) (s_as rfl) rfl rfl ?_
 refine TL_seq ?_
 refine T_seq (T_region ?_)
 refine TL_v (pt c.p 0) (s_ld ag28 rfl 1 rfl rfl) rfl rfl ?_
 refine TL_v (.bool true) (fun _ _ j _ => r_as (r_neqPn po28 (j _ _ rfl) (j _ _ rfl)) (by rfl)) rfl rfl ?_
 refine TL_call (.tuple #[]) (fun _ _ j _ => r_call (args := [.bool true, .int .i64 1]) (enters_of Try.func94 (by kernel_rfl) rfl) (j _ _ rfl) ((cons2 (j _ _ rfl) (cons2 (j _ _ rfl) rfl))) rfl) (fun w _ => need_ok_st 1 w) rfl rfl rfl (w_n rfl) ?_
 refine TL_seq ?_
 refine T_seq (T_region ?_)
 refine TL_v (.agg #[iN p, iN q, .slice a px.length cap]) (s_la ag75 sz75 rfl 2 rfl rfl rfl) rfl rfl ?_
 refine TL_callN (fun (_ : Nat) => True) (fun P1 => pt P1 0) (fun P1 => [(1001, .blk P1 (.cells #[iN p, iN q, .slice a px.length cap] 138))]) (fun _ _ j _ => r_call (args := [.agg #[iN p, iN q, .slice a px.length cap]]) (enters_of Try.func85 (by kernel_rfl) rfl) (j _ _ rfl) ((cons2 (j _ _ rfl) rfl)) rfl) (fun w _ => (pof_ok ((p : Nat) : Int) ((q : Nat) : Int) a px.length cap w (rightS_of hp8 hq8 hlen)).mono fun e w' ⟨q, he, hb, hr⟩ => ⟨q, trivial, he, hb, newOk1 1001 hr⟩) rfl rfl rfl (w_n rfl) ?_
 intro P1 _
 refine TL_new 1002 (.cells #[.pointer none] 134) (fun B => pt B 0) (fun _ _ _ _ => r_alloc (v := .pointer none) (by kernel_rfl) rfl) rfl rfl rfl (w_n rfl) ?_
 intro B2
 refine TL_store 1002 (.cells #[pt P1 0] 134) rfl (s_st sz134 rfl rfl 1002 rfl rfl rfl rfl rfl) rfl rfl (w_n rfl) ?_
 refine TL_seq ?_
 refine T_seq (T_region ?_)
 refine TL_v (pt c.p 0) (s_ld ag28 rfl 1 rfl rfl) rfl rfl ?_
 refine TL_call (.tuple #[iN (8 * c.wd), iN (8 * c.hg)]) (fun _ _ j _ => r_call (args := [pt c.p 0]) (enters_of Try.func32 (by kernel_rfl) rfl) (j _ _ rfl) ((cons2 (j _ _ rfl) rfl)) rfl) (fun w hm => size_c c w (hm.cvOat 960 rfl)) rfl rfl rfl (w_n rfl) ?_
 refine TL_v (.tuple #[iN (8 * c.wd), iN (8 * c.hg)]) (s_mv rfl) rfl rfl ?_
 refine TL_v (iN (8 * c.wd)) (s_ex rfl rfl) rfl rfl ?_
 refine TL_v (iN (8 * c.hg)) (s_ex rfl rfl) rfl rfl ?_
 refine TL_v (iN (8 * c.wd)) (s_as rfl) rfl rfl ?_
 refine TL_v (iN (8 * c.hg)) (s_as rfl) rfl rfl ?_
 refine TL_seq ?_
 refine T_seq ?_
 refine T_seq (T_region ?_)
 refine TL_v (.slice al l.length cl) (s_ld ag44 rfl 3 rfl rfl) rfl rfl ?_
 refine TL_v (iN l.length) (fun _ _ j _ => r_len sl44 (j _ _ rfl)) rfl rfl ?_
 refine TL_v (.int .i64 0) (s_mv rfl) rfl rfl ?_
 refine TL_seq ?_
 refine T_block ?_
 refine T_loopD (ι := Nat × Cv × List Nat) (fun (z : Nat × Cv × List Nat) => match z with | (kk, z, ds) => kk ≤ l.length ∧ z.wd = c.wd ∧ z.hg = c.hg ∧ z.ts = layN c.wd c.hg p q px c.ts (l.take kk) ∧ OldIn w₀ c z) (fun (z : Nat × Cv × List Nat) => match z with | (kk, z, ds) => ds.map colD) (fun (z : Nat × Cv × List Nat) => match z with | (kk, z, ds) => [(0, pt C 0), (3, .pointer none), (4, pt B2 0), (5, iN (8 * c.wd)), (6, iN (8 * c.hg)), (23, .slice al l.length cl), (24, iN l.length), (25, iN kk)]) (fun (z : Nat × Cv × List Nat) => match z with | (kk, z, ds) => [(1001, .blk P1 (.cells #[iN p, iN q, .slice a px.length cap] 138)), (1901, .blk B (.cells #[.int .i64 0] 29)), (1900, .blk A (.cells #[.pointer none] 28)), (3, .blk Lb (.cells #[.slice al l.length cl] 44)), (2, .blk S (.cells #[iN p, iN q, .slice a px.length cap] 75)), (1002, .blk B2 (.cells #[pt P1 0] 134)), (1, .blk C (.cells #[pt z.p 0] 28)), (960, .cvO w₀ z), (970, .dfs ds)]) (fun (z : Nat × Cv × List Nat) => match z with | (kk, z, ds) => l.length - kk) (0, c, []) ⟨Nat.zero_le _, rfl, rfl, rfl, OldIn.refl _ _⟩ rfl (sc4 rfl rfl rfl rfl (sc4 rfl rfl rfl rfl sub_nil)) (sc4 rfl rfl rfl rfl (sc4 rfl rfl rfl rfl (sc rfl sub_nil))) ?_
 rintro ⟨kk, z, ds⟩ hp
 obtain ⟨hk, hzw, hzh, hzt, hzo⟩ := hp
 have hzok : TsOk z.ts := by rw [hzt]; exact layN_ok hpx hcok
 show T _ _ _ [(0, pt C 0), (3, .pointer none), (4, pt B2 0), (5, iN (8 * c.wd)), (6, iN (8 * c.hg)), (23, .slice al l.length cl), (24, iN l.length), (25, iN kk)] [(1001, .blk P1 (.cells #[iN p, iN q, .slice a px.length cap] 138)), (1901, .blk B (.cells #[.int .i64 0] 29)), (1900, .blk A (.cells #[.pointer none] 28)), (3, .blk Lb (.cells #[.slice al l.length cl] 44)), (2, .blk S (.cells #[iN p, iN q, .slice a px.length cap] 75)), (1002, .blk B2 (.cells #[pt P1 0] 134)), (1, .blk C (.cells #[pt z.p 0] 28)), (960, .cvO w₀ z), (970, .dfs ds)]
 refine T_seq (T_region ?_)
 refine TL_v (.bool (decide (((kk : Nat) : Int) < ((l.length : Nat) : Int)))) (fun _ _ j _ => r_lss (j _ _ rfl) (j _ _ rfl)) rfl rfl ?_
 refine TL_seq ?_
 refine T_seq ?_
 refine T_cond rfl (fun h1 => ?_) (fun h1 => ?_)
 ·replace h1 := of_decide_eq_true h1
  refine T_skip' ?_
  refine p_seq ?_
  refine T_seq ?_
  refine T_block ?_
  obtain ⟨u, hu⟩ : ∃ x, l[kk]? = some x := ⟨_, List.getElem?_eq_getElem (by omega)⟩
  obtain ⟨b3, of3, cs3, T3, fz3, ha3, hq3, hr3⟩ := hl.open (i := kk) (by omega)
  subst ha3
  refine T_seq (T_region ?_)
  refine TL_v (pt b3 (of3 + kk * 2)) (fun _ _ j _ => r_indexAddrS (i := kk) sl44 sz47 (j _ _ rfl) (j _ _ rfl) (by omega)) rfl rfl ?_
  refine TL_v (.agg #[.int .i64 u.x, .int .i64 u.y]) (fun _ _ j hm => r_loadRow (f := Pt.cells) (u := u) ag47 sz47 (j _ _ rfl) (hm.old hq3) hr3 hu) rfl rfl ?_
  refine TL_new 1003 (.cells #[.int .i64 0, .int .i64 0] 47) (fun B => pt B 0) (fun _ _ _ _ => r_alloc (v := .agg #[.int .i64 0, .int .i64 0]) (by kernel_rfl) rfl) rfl rfl rfl (w_n rfl) ?_
  intro B4
  refine TL_store 1003 (.cells #[.int .i64 u.x, .int .i64 u.y] 47) rfl (s_st sz47 rfl rfl 1003 rfl rfl rfl rfl rfl) rfl rfl (w_n rfl) ?_
  refine TL_seq ?_
  refine T_seq ?_
  by_cases f1 : u.x ≤ -((p : Nat) : Int)
  ·skip
   refine T_seq (T_draw (V := [(0, pt B4 0), (1, .int .i64 u.x), (2, pt P1 0), (3, pt P1 0), (4, pt P1 0), (5, pt P1 0), (6, iN p), (7, .int .i64 (-((p : Nat) : Int))), (8, .bool true), (9, .bool true), (10, undef), (11, undef), (12, undef), (13, undef), (14, undef), (15, undef), (16, undef), (17, undef), (18, undef), (19, .bool true), (20, .bool true), (21, undef), (22, undef), (23, undef), (24, undef), (25, .bool true), (26, .bool true), (27, undef), (28, undef), (29, undef), (30, undef), (31, .bool true)]) [0, 1, 0, 4, 12, 28, 60, 124, 255, 511, 1023, 2047, 1023, 5119, 13311, 29695, 62463, 127999, 262143, 524287, 1048575, 2097151, 4194303, 2097151, 16777215, 33554431, 67108863, 134217727, 268435455, 134217727, 1073741823, 2147483647] [[(8, none)], [(29, some 0)], [(4, none)], [(31, some 2)], [(32, some 3)], [(33, some 4)], [(34, some 5)], [(35, some 6)], [(30, some 1), (36, some 7)], [(37, some 8)], [(8, none)], [(39, some 10)], [(4, none)], [(41, some 12)], [(42, some 13)], [(43, some 14)], [(44, some 15)], [(45, some 16)], [(40, some 11), (46, some 17)], [(47, some 18), (38, some 9)], [(48, some 19)], [(8, none)], [(50, some 21)], [(5, none)], [(51, some 22), (52, some 23)], [(53, some 24), (49, some 20)], [(54, some 25)], [(8, none)], [(56, some 27)], [(6, none)], [(57, some 28), (58, some 29)], [(59, some 30), (55, some 26)]] 0 mixed (by kernel_rfl) ?_)
   refine G_last [0, 1, 2, 3, 4, 5, 6, 7, 8, 9, 10, 11, 12, 13, 14, 15, 16, 17, 18, 19, 20, 21, 22, 23, 24, 25, 26, 27, 28, 29, 30, 31] [(0, pt C 0), (3, .pointer none), (4, pt B2 0), (5, iN (8 * c.wd)), (6, iN (8 * c.hg)), (23, .slice (some ⟨b3, of3, none⟩) l.length cl), (24, iN l.length), (25, iN kk), (26, .bool (decide (((kk : Nat) : Int) < ((l.length : Nat) : Int)))), (27, pt b3 (of3 + kk * 2)), (28, .agg #[.int .i64 u.x, .int .i64 u.y]), (8, pt B4 0), (29, pt B4 0), (30, .int .i64 u.x), (31, pt P1 0), (32, pt P1 0), (33, pt P1 0), (34, pt P1 0), (35, iN p), (36, .int .i64 (-((p : Nat) : Int))), (37, .bool true), (38, .bool true), (39, undef), (40, undef), (41, undef), (42, undef), (43, undef), (44, undef), (45, undef), (46, undef), (47, undef), (48, .bool true), (49, .bool true), (50, undef), (51, undef), (52, undef), (53, undef), (54, .bool true), (55, .bool true), (56, undef), (57, undef), (58, undef), (59, undef), (60, .bool true)] (by kernel_rfl) (allM (all_cons (q_r (pt B4 0) rfl rfl rfl (s_fa fl47_0 sz3 rfl)) (all_cons (q_r (.int .i64 u.x) rfl rfl rfl (s_ld ag3 rfl 1003 rfl rfl)) (all_cons (q_r (pt P1 0) rfl rfl rfl (s_ld ag134 rfl 1002 rfl rfl)) (all_cons (q_r (pt P1 0) rfl rfl rfl (s_nc rfl rfl)) (all_cons (q_r (pt P1 0) rfl rfl rfl (s_fa fl138_0 sz75 rfl)) (all_cons (q_r (pt P1 0) rfl rfl rfl (s_fa fl75_0 sz3 rfl)) (all_cons (q_r (iN p) rfl rfl rfl (s_ld ag3 rfl 1001 rfl rfl)) (all_cons (q_r (.int .i64 (-((p : Nat) : Int))) rfl rfl rfl (fun _ _ j _ => r_as (r_neg (j _ _ rfl)) (iw (by omega) (by omega) (by omega)))) (all_cons (q_r (.bool true) rfl rfl rfl (s_op r_leq rfl rfl (bool_as (decide_eq_true f1)))) (all_cons (q_r (.bool true) rfl rfl rfl (s_mv rfl)) (all_cons (q_no rfl rfl (wv_no rfl rfl)) (all_cons (q_no rfl rfl (wv_no rfl rfl)) (all_cons (q_no rfl rfl (wv_no rfl rfl)) (all_cons (q_no rfl rfl (wv_no rfl rfl)) (all_cons (q_no rfl rfl (wv_no rfl rfl)) (all_cons (q_no rfl rfl (wv_no rfl rfl)) (all_cons (q_no rfl rfl (wv_no rfl rfl)) (all_cons (q_no rfl rfl (wv_no rfl rfl)) (all_cons (q_no rfl rfl (wv_no rfl rfl)) (all_cons (q_r (.bool true) rfl rfl rfl (s_pt rfl rfl)) (all_cons (q_r (.bool true) rfl rfl rfl (s_mv rfl)) (all_cons (q_no rfl rfl (wv_no rfl rfl)) (all_cons (q_no rfl rfl (wv_no rfl rfl)) (all_cons (q_no rfl rfl (wv_no rfl rfl)) (all_cons (q_no rfl rfl (wv_no rfl rfl)) (all_cons (q_r (.bool true) rfl rfl rfl (s_pt rfl rfl)) (all_cons (q_r (.bool true) rfl rfl rfl (s_mv rfl)) (all_cons (q_no rfl rfl (wv_no rfl rfl)) (all_cons (q_no rfl rfl (wv_no rfl rfl)) (all_cons (q_no rfl rfl (wv_no rfl rfl)) (all_cons (q_no rfl rfl (wv_no rfl rfl)) (all_cons (q_r (.bool true) rfl rfl rfl (s_pt rfl rfl)) all_nil))))))))))))))))))))))))))))))))) (end_old rfl rfl (end_old rfl rfl (end_old rfl rfl (end_old rfl rfl (end_old rfl rfl (end_old rfl rfl (end_old rfl rfl (end_old rfl rfl (end_old rfl rfl (end_old rfl rfl (end_old rfl rfl (end_old rfl rfl (end_new 0 rfl rfl (end_new 1 rfl rfl (end_new 2 rfl rfl (end_new 3 rfl rfl (end_new 4 rfl rfl (end_new 5 rfl rfl (end_new 6 rfl rfl (end_new 7 rfl rfl (end_new 8 rfl rfl (end_new 9 rfl rfl (end_new 10 rfl rfl (end_new 11 rfl rfl (end_new 12 rfl rfl (end_new 13 rfl rfl (end_new 14 rfl rfl (end_new 15 rfl rfl (end_new 16 rfl rfl (end_new 17 rfl rfl (end_new 18 rfl rfl (end_new 19 rfl rfl (end_new 20 rfl rfl (end_new 21 rfl rfl (end_new 22 rfl rfl (end_new 23 rfl rfl (end_new 24 rfl rfl (end_new 25 rfl rfl (end_new 26 rfl rfl (end_new 27 rfl rfl (end_new 28 rfl rfl (end_new 29 rfl rfl (end_new 30 rfl rfl (end_new 31 rfl rfl end_nil)))))))))))))))))))))))))))))))))))))))))))) ?_
   refine T_cond_t rfl ?_
   refine T_exit' ?_
   refine p_then_x ?_
   refine p_blk_x ?_
   refine p_seq ?_
   refine T_region ?_
   refine TL_v (iN (kk + 1)) (s_op r_add rfl rfl (iw (by omega) (by omega) (by omega))) rfl rfl ?_
   refine TL_v (iN (kk + 1)) (s_mv rfl) rfl rfl ?_
   refine TL_nil ?_
   exact p_atD (kk + 1, z, ds) ⟨⟨by omega, hzw, hzh, by rw [layN_step hu, ← hzt, lay1_far (by omega)], hzo⟩, by dsimp only; omega⟩ rfl rfl rfl (sc4 rfl rfl rfl rfl (sc4 rfl rfl rfl rfl sub_nil)) (sc4 rfl rfl rfl rfl (sc4 rfl rfl rfl rfl (sc rfl sub_nil)))
  ·skip
   by_cases f2 : u.y ≤ -((q : Nat) : Int)
   ·skip
    refine T_seq (T_draw (V := [(0, pt B4 0), (1, .int .i64 u.x), (2, pt P1 0), (3, pt P1 0), (4, pt P1 0), (5, pt P1 0), (6, iN p), (7, .int .i64 (-((p : Nat) : Int))), (8, .bool false), (9, .bool false), (10, pt B4 1), (11, .int .i64 u.y), (12, pt P1 0), (13, pt P1 0), (14, pt P1 0), (15, pt P1 1), (16, iN q), (17, .int .i64 (-((q : Nat) : Int))), (18, .bool true), (19, .bool true), (20, .bool true), (21, undef), (22, undef), (23, undef), (24, undef), (25, .bool true), (26, .bool true), (27, undef), (28, undef), (29, undef), (30, undef), (31, .bool true)]) [0, 1, 0, 4, 12, 28, 60, 124, 255, 511, 1023, 2047, 1023, 5119, 13311, 29695, 62463, 127999, 262143, 524287, 1048575, 2097151, 4194303, 2097151, 16777215, 33554431, 67108863, 134217727, 268435455, 134217727, 1073741823, 2147483647] [[(8, none)], [(29, some 0)], [(4, none)], [(31, some 2)], [(32, some 3)], [(33, some 4)], [(34, some 5)], [(35, some 6)], [(30, some 1), (36, some 7)], [(37, some 8)], [(8, none)], [(39, some 10)], [(4, none)], [(41, some 12)], [(42, some 13)], [(43, some 14)], [(44, some 15)], [(45, some 16)], [(40, some 11), (46, some 17)], [(47, some 18), (38, some 9)], [(48, some 19)], [(8, none)], [(50, some 21)], [(5, none)], [(51, some 22), (52, some 23)], [(53, some 24), (49, some 20)], [(54, some 25)], [(8, none)], [(56, some 27)], [(6, none)], [(57, some 28), (58, some 29)], [(59, some 30), (55, some 26)]] 0 mixed (by kernel_rfl) ?_)
    refine G_last [0, 1, 2, 3, 4, 5, 6, 7, 8, 9, 10, 11, 12, 13, 14, 15, 16, 17, 18, 19, 20, 21, 22, 23, 24, 25, 26, 27, 28, 29, 30, 31] [(0, pt C 0), (3, .pointer none), (4, pt B2 0), (5, iN (8 * c.wd)), (6, iN (8 * c.hg)), (23, .slice (some ⟨b3, of3, none⟩) l.length cl), (24, iN l.length), (25, iN kk), (26, .bool (decide (((kk : Nat) : Int) < ((l.length : Nat) : Int)))), (27, pt b3 (of3 + kk * 2)), (28, .agg #[.int .i64 u.x, .int .i64 u.y]), (8, pt B4 0), (29, pt B4 0), (30, .int .i64 u.x), (31, pt P1 0), (32, pt P1 0), (33, pt P1 0), (34, pt P1 0), (35, iN p), (36, .int .i64 (-((p : Nat) : Int))), (37, .bool false), (38, .bool false), (39, pt B4 1), (40, .int .i64 u.y), (41, pt P1 0), (42, pt P1 0), (43, pt P1 0), (44, pt P1 1), (45, iN q), (46, .int .i64 (-((q : Nat) : Int))), (47, .bool true), (48, .bool true), (49, .bool true), (50, undef), (51, undef), (52, undef), (53, undef), (54, .bool true), (55, .bool true), (56, undef), (57, undef), (58, undef), (59, undef), (60, .bool true)] (by kernel_rfl) (allM (all_cons (q_r (pt B4 0) rfl rfl rfl (s_fa fl47_0 sz3 rfl)) (all_cons (q_r (.int .i64 u.x) rfl rfl rfl (s_ld ag3 rfl 1003 rfl rfl)) (all_cons (q_r (pt P1 0) rfl rfl rfl (s_ld ag134 rfl 1002 rfl rfl)) (all_cons (q_r (pt P1 0) rfl rfl rfl (s_nc rfl rfl)) (all_cons (q_r (pt P1 0) rfl rfl rfl (s_fa fl138_0 sz75 rfl)) (all_cons (q_r (pt P1 0) rfl rfl rfl (s_fa fl75_0 sz3 rfl)) (all_cons (q_r (iN p) rfl rfl rfl (s_ld ag3 rfl 1001 rfl rfl)) (all_cons (q_r (.int .i64 (-((p : Nat) : Int))) rfl rfl rfl (fun _ _ j _ => r_as (r_neg (j _ _ rfl)) (iw (by omega) (by omega) (by omega)))) (all_cons (q_r (.bool false) rfl rfl rfl (s_op r_leq rfl rfl (bool_as (decide_eq_false f1)))) (all_cons (q_r (.bool false) rfl rfl rfl (s_mv rfl)) (all_cons (q_run (pt B4 1) rfl rfl (wv_y rfl rfl) rfl (s_fa fl47_1 sz3 rfl)) (all_cons (q_run (.int .i64 u.y) rfl rfl (wv_y rfl rfl) rfl (s_ld ag3 rfl 1003 rfl rfl)) (all_cons (q_run (pt P1 0) rfl rfl (wv_y rfl rfl) rfl (s_ld ag134 rfl 1002 rfl rfl)) (all_cons (q_run (pt P1 0) rfl rfl (wv_y rfl rfl) rfl (s_nc rfl rfl)) (all_cons (q_run (pt P1 0) rfl rfl (wv_y rfl rfl) rfl (s_fa fl138_0 sz75 rfl)) (all_cons (q_run (pt P1 1) rfl rfl (wv_y rfl rfl) rfl (s_fa fl75_1 sz3 rfl)) (all_cons (q_run (iN q) rfl rfl (wv_y rfl rfl) rfl (s_ld ag3 rfl 1001 rfl rfl)) (all_cons (q_run (.int .i64 (-((q : Nat) : Int))) rfl rfl (wv_y rfl rfl) rfl (fun _ _ j _ => r_as (r_neg (j _ _ rfl)) (iw (by omega) (by omega) (by omega)))) (all_cons (q_run (.bool true) rfl rfl (wv_y rfl rfl) rfl (s_op r_leq rfl rfl (bool_as (decide_eq_true f2)))) (all_cons (q_r (.bool true) rfl rfl rfl (s_pf rfl rfl)) (all_cons (q_r (.bool true) rfl rfl rfl (s_mv rfl)) (all_cons (q_no rfl rfl (wv_no rfl rfl)) (all_cons (q_no rfl rfl (wv_no rfl rfl)) (all_cons (q_no rfl rfl (wv_no rfl rfl)) (all_cons (q_no rfl rfl (wv_no rfl rfl)) (all_cons (q_r (.bool true) rfl rfl rfl (s_pt rfl rfl)) (all_cons (q_r (.bool true) rfl rfl rfl (s_mv rfl)) (all_cons (q_no rfl rfl (wv_no rfl rfl)) (all_cons (q_no rfl rfl (wv_no rfl rfl)) (all_cons (q_no rfl rfl (wv_no rfl rfl)) (all_cons (q_no rfl rfl (wv_no rfl rfl)) (all_cons (q_r (.bool true) rfl rfl rfl (s_pt rfl rfl)) all_nil))))))))))))))))))))))))))))))))) (end_old rfl rfl (end_old rfl rfl (end_old rfl rfl (end_old rfl rfl (end_old rfl rfl (end_old rfl rfl (end_old rfl rfl (end_old rfl rfl (end_old rfl rfl (end_old rfl rfl (end_old rfl rfl (end_old rfl rfl (end_new 0 rfl rfl (end_new 1 rfl rfl (end_new 2 rfl rfl (end_new 3 rfl rfl (end_new 4 rfl rfl (end_new 5 rfl rfl (end_new 6 rfl rfl (end_new 7 rfl rfl (end_new 8 rfl rfl (end_new 9 rfl rfl (end_new 10 rfl rfl (end_new 11 rfl rfl (end_new 12 rfl rfl (end_new 13 rfl rfl (end_new 14 rfl rfl (end_new 15 rfl rfl (end_new 16 rfl rfl (end_new 17 rfl rfl (end_new 18 rfl rfl (end_new 19 rfl rfl (end_new 20 rfl rfl (end_new 21 rfl rfl (end_new 22 rfl rfl (end_new 23 rfl rfl (end_new 24 rfl rfl (end_new 25 rfl rfl (end_new 26 rfl rfl (end_new 27 rfl rfl (end_new 28 rfl rfl (end_new 29 rfl rfl (end_new 30 rfl rfl (end_new 31 rfl rfl end_nil)))))))))))))))))))))))))))))))))))))))))))) ?_
    refine T_cond_t rfl ?_
    refine T_exit' ?_
    refine p_then_x ?_
    refine p_blk_x ?_
    refine p_seq ?_
    refine T_region ?_
    refine TL_v (iN (kk + 1)) (s_op r_add rfl rfl (iw (by omega) (by omega) (by omega))) rfl rfl ?_
    refine TL_v (iN (kk + 1)) (s_mv rfl) rfl rfl ?_
    refine TL_nil ?_
    exact p_atD (kk + 1, z, ds) ⟨⟨by omega, hzw, hzh, by rw [layN_step hu, ← hzt, lay1_far (by omega)], hzo⟩, by dsimp only; omega⟩ rfl rfl rfl (sc4 rfl rfl rfl rfl (sc4 rfl rfl rfl rfl sub_nil)) (sc4 rfl rfl rfl rfl (sc4 rfl rfl rfl rfl (sc rfl sub_nil)))
   ·skip
    by_cases f3 : ((8 * c.wd : Nat) : Int) ≤ u.x
    ·skip
     refine T_seq (T_draw (V := [(0, pt B4 0), (1, .int .i64 u.x), (2, pt P1 0), (3, pt P1 0), (4, pt P1 0), (5, pt P1 0), (6, iN p), (7, .int .i64 (-((p : Nat) : Int))), (8, .bool false), (9, .bool false), (10, pt B4 1), (11, .int .i64 u.y), (12, pt P1 0), (13, pt P1 0), (14, pt P1 0), (15, pt P1 1), (16, iN q), (17, .int .i64 (-((q : Nat) : Int))), (18, .bool false), (19, .bool false), (20, .bool false), (21, pt B4 0), (22, .int .i64 u.x), (23, iN (8 * c.wd)), (24, .bool true), (25, .bool true), (26, .bool true), (27, undef), (28, undef), (29, undef), (30, undef), (31, .bool true)]) [0, 1, 0, 4, 12, 28, 60, 124, 255, 511, 1023, 2047, 1023, 5119, 13311, 29695, 62463, 127999, 262143, 524287, 1048575, 2097151, 4194303, 2097151, 16777215, 33554431, 67108863, 134217727, 268435455, 134217727, 1073741823, 2147483647] [[(8, none)], [(29, some 0)], [(4, none)], [(31, some 2)], [(32, some 3)], [(33, some 4)], [(34, some 5)], [(35, some 6)], [(30, some 1), (36, some 7)], [(37, some 8)], [(8, none)], [(39, some 10)], [(4, none)], [(41, some 12)], [(42, some 13)], [(43, some 14)], [(44, some 15)], [(45, some 16)], [(40, some 11), (46, some 17)], [(47, some 18), (38, some 9)], [(48, some 19)], [(8, none)], [(50, some 21)], [(5, none)], [(51, some 22), (52, some 23)], [(53, some 24), (49, some 20)], [(54, some 25)], [(8, none)], [(56, some 27)], [(6, none)], [(57, some 28), (58, some 29)], [(59, some 30), (55, some 26)]] 0 mixed (by kernel_rfl) ?_)
     refine G_last [0, 1, 2, 3, 4, 5, 6, 7, 8, 9, 10, 11, 12, 13, 14, 15, 16, 17, 18, 19, 20, 21, 22, 23, 24, 25, 26, 27, 28, 29, 30, 31] [(0, pt C 0), (3, .pointer none), (4, pt B2 0), (5, iN (8 * c.wd)), (6, iN (8 * c.hg)), (23, .slice (some ⟨b3, of3, none⟩) l.length cl), (24, iN l.length), (25, iN kk), (26, .bool (decide (((kk : Nat) : Int) < ((l.length : Nat) : Int)))), (27, pt b3 (of3 + kk * 2)), (28, .agg #[.int .i64 u.x, .int .i64 u.y]), (8, pt B4 0), (29, pt B4 0), (30, .int .i64 u.x), (31, pt P1 0), (32, pt P1 0), (33, pt P1 0), (34, pt P1 0), (35, iN p), (36, .int .i64 (-((p : Nat) : Int))), (37, .bool false), (38, .bool false), (39, pt B4 1), (40, .int .i64 u.y), (41, pt P1 0), (42, pt P1 0), (43, pt P1 0), (44, pt P1 1), (45, iN q), (46, .int .i64 (-((q : Nat) : Int))), (47, .bool false), (48, .bool false), (49, .bool false), (50, pt B4 0), (51, .int .i64 u.x), (52, iN (8 * c.wd)), (53, .bool true), (54, .bool true), (55, .bool true), (56, undef), (57, undef), (58, undef), (59, undef), (60, .bool true)] (by kernel_rfl) (allM (all_cons (q_r (pt B4 0) rfl rfl rfl (s_fa fl47_0 sz3 rfl)) (all_cons (q_r (.int .i64 u.x) rfl rfl rfl (s_ld ag3 rfl 1003 rfl rfl)) (all_cons (q_r (pt P1 0) rfl rfl rfl (s_ld ag134 rfl 1002 rfl rfl)) (all_cons (q_r (pt P1 0) rfl rfl rfl (s_nc rfl rfl)) (all_cons (q_r (pt P1 0) rfl rfl rfl (s_fa fl138_0 sz75 rfl)) (all_cons (q_r (pt P1 0) rfl rfl rfl (s_fa fl75_0 sz3 rfl)) (all_cons (q_r (iN p) rfl rfl rfl (s_ld ag3 rfl 1001 rfl rfl)) (all_cons (q_r (.int .i64 (-((p : Nat) : Int))) rfl rfl rfl (fun _ _ j _ => r_as (r_neg (j _ _ rfl)) (iw (by omega) (by omega) (by omega)))) (all_cons (q_r (.bool false) rfl rfl rfl (s_op r_leq rfl rfl (bool_as (decide_eq_false f1)))) (all_cons (q_r (.bool false) rfl rfl rfl (s_mv rfl)) (all_cons (q_run (pt B4 1) rfl rfl (wv_y rfl rfl) rfl (s_fa fl47_1 sz3 rfl)) (all_cons (q_run (.int .i64 u.y) rfl rfl (wv_y rfl rfl) rfl (s_ld ag3 rfl 1003 rfl rfl)) (all_cons (q_run (pt P1 0) rfl rfl (wv_y rfl rfl) rfl (s_ld ag134 rfl 1002 rfl rfl)) (all_cons (q_run (pt P1 0) rfl rfl (wv_y rfl rfl) rfl (s_nc rfl rfl)) (all_cons (q_run (pt P1 0) rfl rfl (wv_y rfl rfl) rfl (s_fa fl138_0 sz75 rfl)) (all_cons (q_run (pt P1 1) rfl rfl (wv_y rfl rfl) rfl (s_fa fl75_1 sz3 rfl)) (all_cons (q_run (iN q) rfl rfl (wv_y rfl rfl) rfl (s_ld ag3 rfl 1001 rfl rfl)) (all_cons (q_run (.int .i64 (-((q : Nat) : Int))) rfl rfl (wv_y rfl rfl) rfl (fun _ _ j _ => r_as (r_neg (j _ _ rfl)) (iw (by omega) (by omega) (by omega)))) (all_cons (q_run (.bool false) rfl rfl (wv_y rfl rfl) rfl (s_op r_leq rfl rfl (bool_as (decide_eq_false f2)))) (all_cons (q_r (.bool false) rfl rfl rfl (s_pf rfl rfl)) (all_cons (q_r (.bool false) rfl rfl rfl (s_mv rfl)) (all_cons (q_run (pt B4 0) rfl rfl (wv_y rfl rfl) rfl (s_fa fl47_0 sz3 rfl)) (all_cons (q_run (.int .i64 u.x) rfl rfl (wv_y rfl rfl) rfl (s_ld ag3 rfl 1003 rfl rfl)) (all_cons (q_run (iN (8 * c.wd)) rfl rfl (wv_y rfl rfl) rfl (s_mv rfl)) (all_cons (q_run (.bool true) rfl rfl (wv_y rfl rfl) rfl (s_op r_geq rfl rfl (bool_as (decide_eq_true f3)))) (all_cons (q_r (.bool true) rfl rfl rfl (s_pf rfl rfl)) (all_cons (q_r (.bool true) rfl rfl rfl (s_mv rfl)) (all_cons (q_no rfl rfl (wv_no rfl rfl)) (all_cons (q_no rfl rfl (wv_no rfl rfl)) (all_cons (q_no rfl rfl (wv_no rfl rfl)) (all_cons (q_no rfl rfl (wv_no rfl rfl)) (all_cons (q_r (.bool true) rfl rfl rfl (s_pt rfl rfl)) all_nil))))))))))))))))))))))))))))))))) (end_old rfl rfl (end_old rfl rfl (end_old rfl rfl (end_old rfl rfl (end_old rfl rfl (end_old rfl rfl (end_old rfl rfl (end_old rfl rfl (end_old rfl rfl (end_old rfl rfl (end_old rfl rfl (end_old rfl rfl (end_new 0 rfl rfl (end_new 1 rfl rfl (end_new 2 rfl rfl (end_new 3 rfl rfl (end_new 4 rfl rfl (end_new 5 rfl rfl (end_new 6 rfl rfl (end_new 7 rfl rfl (end_new 8 rfl rfl (end_new 9 rfl rfl (end_new 10 rfl rfl (end_new 11 rfl rfl (end_new 12 rfl rfl (end_new 13 rfl rfl (end_new 14 rfl rfl (end_new 15 rfl rfl (end_new 16 rfl rfl (end_new 17 rfl rfl (end_new 18 rfl rfl (end_new 19 rfl rfl (end_new 20 rfl rfl (end_new 21 rfl rfl (end_new 22 rfl rfl (end_new 23 rfl rfl (end_new 24 rfl rfl (end_new 25 rfl rfl (end_new 26 rfl rfl (end_new 27 rfl rfl (end_new 28 rfl rfl (end_new 29 rfl rfl (end_new 30 rfl rfl (end_new 31 rfl rfl end_nil)))))))))))))))))))))))))))))))))))))))))))) ?_
     refine T_cond_t rfl ?_
     refine T_exit' ?_
     refine p_then_x ?_
     refine p_blk_x ?_
     refine p_seq ?_
     refine T_region ?_
     refine TL_v (iN (kk + 1)) (s_op r_add rfl rfl (iw (by omega) (by omega) (by omega))) rfl rfl ?_
     refine TL_v (iN (kk + 1)) (s_mv rfl) rfl rfl ?_
     refine TL_nil ?_
     exact p_atD (kk + 1, z, ds) ⟨⟨by omega, hzw, hzh, by rw [layN_step hu, ← hzt, lay1_far (by omega)], hzo⟩, by dsimp only; omega⟩ rfl rfl rfl (sc4 rfl rfl rfl rfl (sc4 rfl rfl rfl rfl sub_nil)) (sc4 rfl rfl rfl rfl (sc4 rfl rfl rfl rfl (sc rfl sub_nil)))
    ·skip
     by_cases f4 : ((8 * c.hg : Nat) : Int) ≤ u.y
     ·skip
      refine T_seq (T_draw (V := [(0, pt B4 0), (1, .int .i64 u.x), (2, pt P1 0), (3, pt P1 0), (4, pt P1 0), (5, pt P1 0), (6, iN p), (7, .int .i64 (-((p : Nat) : Int))), (8, .bool false), (9, .bool false), (10, pt B4 1), (11, .int .i64 u.y), (12, pt P1 0), (13, pt P1 0), (14, pt P1 0), (15, pt P1 1), (16, iN q), (17, .int .i64 (-((q : Nat) : Int))), (18, .bool false), (19, .bool false), (20, .bool false), (21, pt B4 0), (22, .int .i64 u.x), (23, iN (8 * c.wd)), (24, .bool false), (25, .bool false), (26, .bool false), (27, pt B4 1), (28, .int .i64 u.y), (29, iN (8 * c.hg)), (30, .bool true), (31, .bool true)]) [0, 1, 0, 4, 12, 28, 60, 124, 255, 511, 1023, 2047, 1023, 5119, 13311, 29695, 62463, 127999, 262143, 524287, 1048575, 2097151, 4194303, 2097151, 16777215, 33554431, 67108863, 134217727, 268435455, 134217727, 1073741823, 2147483647] [[(8, none)], [(29, some 0)], [(4, none)], [(31, some 2)], [(32, some 3)], [(33, some 4)], [(34, some 5)], [(35, some 6)], [(30, some 1), (36, some 7)], [(37, some 8)], [(8, none)], [(39, some 10)], [(4, none)], [(41, some 12)], [(42, some 13)], [(43, some 14)], [(44, some 15)], [(45, some 16)], [(40, some 11), (46, some 17)], [(47, some 18), (38, some 9)], [(48, some 19)], [(8, none)], [(50, some 21)], [(5, none)], [(51, some 22), (52, some 23)], [(53, some 24), (49, some 20)], [(54, some 25)], [(8, none)], [(56, some 27)], [(6, none)], [(57, some 28), (58, some 29)], [(59, some 30), (55, some 26)]] 0 mixed (by kernel_rfl) ?_)
      refine G_last [0, 1, 2, 3, 4, 5, 6, 7, 8, 9, 10, 11, 12, 13, 14, 15, 16, 17, 18, 19, 20, 21, 22, 23, 24, 25, 26, 27, 28, 29, 30, 31] [(0, pt C 0), (3, .pointer none), (4, pt B2 0), (5, iN (8 * c.wd)), (6, iN (8 * c.hg)), (23, .slice (some ⟨b3, of3, none⟩) l.length cl), (24, iN l.length), (25, iN kk), (26, .bool (decide (((kk : Nat) : Int) < ((l.length : Nat) : Int)))), (27, pt b3 (of3 + kk * 2)), (28, .agg #[.int .i64 u.x, .int .i64 u.y]), (8, pt B4 0), (29, pt B4 0), (30, .int .i64 u.x), (31, pt P1 0), (32, pt P1 0), (33, pt P1 0), (34, pt P1 0), (35, iN p), (36, .int .i64 (-((p : Nat) : Int))), (37, .bool false), (38, .bool false), (39, pt B4 1), (40, .int .i64 u.y), (41, pt P1 0), (42, pt P1 0), (43, pt P1 0), (44, pt P1 1), (45, iN q), (46, .int .i64 (-((q : Nat) : Int))), (47, .bool false), (48, .bool false), (49, .bool false), (50, pt B4 0), (51, .int .i64 u.x), (52, iN (8 * c.wd)), (53, .bool false), (54, .bool false), (55, .bool false), (56, pt B4 1), (57, .int .i64 u.y), (58, iN (8 * c.hg)), (59, .bool true), (60, .bool true)] (by kernel_rfl) (allM (all_cons (q_r (pt B4 0) rfl rfl rfl (s_fa fl47_0 sz3 rfl)) (all_cons (q_r (.int .i64 u.x) rfl rfl rfl (s_ld ag3 rfl 1003 rfl rfl)) (all_cons (q_r (pt P1 0) rfl rfl rfl (s_ld ag134 rfl 1002 rfl rfl)) (all_cons (q_r (pt P1 0) rfl rfl rfl (s_nc rfl rfl)) (all_cons (q_r (pt P1 0) rfl rfl rfl (s_fa fl138_0 sz75 rfl)) (all_cons (q_r (pt P1 0) rfl rfl rfl (s_fa fl75_0 sz3 rfl)) (all_cons (q_r (iN p) rfl rfl rfl (s_ld ag3 rfl 1001 rfl rfl)) (all_cons (q_r (.int .i64 (-((p : Nat) : Int))) rfl rfl rfl (fun _ _ j _ => r_as (r_neg (j _ _ rfl)) (iw (by omega) (by omega) (by omega)))) (all_cons (q_r (.bool false) rfl rfl rfl (s_op r_leq rfl rfl (bool_as (decide_eq_false f1)))) (all_cons (q_r (.bool false) rfl rfl rfl (s_mv rfl)) (all_cons (q_run (pt B4 1) rfl rfl (wv_y rfl rfl) rfl (s_fa fl47_1 sz3 rfl)) (all_cons (q_run (.int .i64 u.y) rfl rfl (wv_y rfl rfl) rfl (s_ld ag3 rfl 1003 rfl rfl)) (all_cons (q_run (pt P1 0) rfl rfl (wv_y rfl rfl) rfl (s_ld ag134 rfl 1002 rfl rfl)) (all_cons (q_run (pt P1 0) rfl rfl (wv_y rfl rfl) rfl (s_nc rfl rfl)) (all_cons (q_run (pt P1 0) rfl rfl (wv_y rfl rfl) rfl (s_fa fl138_0 sz75 rfl)) (all_cons (q_run (pt P1 1) rfl rfl (wv_y rfl rfl) rfl (s_fa fl75_1 sz3 rfl)) (all_cons (q_run (iN q) rfl rfl (wv_y rfl rfl) rfl (s_ld ag3 rfl 1001 rfl rfl)) (all_cons (q_run (.int .i64 (-((q : Nat) : Int))) rfl rfl (wv_y rfl rfl) rfl (fun _ _ j _ => r_as (r_neg (j _ _ rfl)) (iw (by omega) (by omega) (by omega)))) (all_cons (q_run (.bool false) rfl rfl (wv_y rfl rfl) rfl (s_op r_leq rfl rfl (bool_as (decide_eq_false f2)))) (all_cons (q_r (.bool false) rfl rfl rfl (s_pf rfl rfl)) (all_cons (q_r (.bool false) rfl rfl rfl (s_mv rfl)) (all_cons (q_run (pt B4 0) rfl rfl (wv_y rfl rfl) rfl (s_fa fl47_0 sz3 rfl)) (all_cons (q_run (.int .i64 u.x) rfl rfl (wv_y rfl rfl) rfl (s_ld ag3 rfl 1003 rfl rfl)) (all_cons (q_run (iN (8 * c.wd)) rfl rfl (wv_y rfl rfl) rfl (s_mv rfl)) (all_cons (q_run (.bool false) rfl rfl (wv_y rfl rfl) rfl (s_op r_geq rfl rfl (bool_as (decide_eq_false f3)))) (all_cons (q_r (.bool false) rfl rfl rfl (s_pf rfl rfl)) (all_cons (q_r (.bool false) rfl rfl rfl (s_mv rfl)) (all_cons (q_run (pt B4 1) rfl rfl (wv_y rfl rfl) rfl (s_fa fl47_1 sz3 rfl)) (all_cons (q_run (.int .i64 u.y) rfl rfl (wv_y rfl rfl) rfl (s_ld ag3 rfl 1003 rfl rfl)) (all_cons (q_run (iN (8 * c.hg)) rfl rfl (wv_y rfl rfl) rfl (s_mv rfl)) (all_cons (q_run (.bool true) rfl rfl (wv_y rfl rfl) rfl (s_op r_geq rfl rfl (bool_as (decide_eq_true f4)))) (all_cons (q_r (.bool true) rfl rfl rfl (s_pf rfl rfl)) all_nil))))))))))))))))))))))))))))))))) (end_old rfl rfl (end_old rfl rfl (end_old rfl rfl (end_old rfl rfl (end_old rfl rfl (end_old rfl rfl (end_old rfl rfl (end_old rfl rfl (end_old rfl rfl (end_old rfl rfl (end_old rfl rfl (end_old rfl rfl (end_new 0 rfl rfl (end_new 1 rfl rfl (end_new 2 rfl rfl (end_new 3 rfl rfl (end_new 4 rfl rfl (end_new 5 rfl rfl (end_new 6 rfl rfl (end_new 7 rfl rfl (end_new 8 rfl rfl (end_new 9 rfl rfl (end_new 10 rfl rfl (end_new 11 rfl rfl (end_new 12 rfl rfl (end_new 13 rfl rfl (end_new 14 rfl rfl (end_new 15 rfl rfl (end_new 16 rfl rfl (end_new 17 rfl rfl (end_new 18 rfl rfl (end_new 19 rfl rfl (end_new 20 rfl rfl (end_new 21 rfl rfl (end_new 22 rfl rfl (end_new 23 rfl rfl (end_new 24 rfl rfl (end_new 25 rfl rfl (end_new 26 rfl rfl (end_new 27 rfl rfl (end_new 28 rfl rfl (end_new 29 rfl rfl (end_new 30 rfl rfl (end_new 31 rfl rfl end_nil)))))))))))))))))))))))))))))))))))))))))))) ?_
      refine T_cond_t rfl ?_
      refine T_exit' ?_
      refine p_then_x ?_
      refine p_blk_x ?_
      refine p_seq ?_
      refine T_region ?_
      refine TL_v (iN (kk + 1)) (s_op r_add rfl rfl (iw (by omega) (by omega) (by omega))) rfl rfl ?_
      refine TL_v (iN (kk + 1)) (s_mv rfl) rfl rfl ?_
      refine TL_nil ?_
      exact p_atD (kk + 1, z, ds) ⟨⟨by omega, hzw, hzh, by rw [layN_step hu, ← hzt, lay1_far (by omega)], hzo⟩, by dsimp only; omega⟩ rfl rfl rfl (sc4 rfl rfl rfl rfl (sc4 rfl rfl rfl rfl sub_nil)) (sc4 rfl rfl rfl rfl (sc4 rfl rfl rfl rfl (sc rfl sub_nil)))
     ·skip
      refine T_seq (T_draw (V := [(0, pt B4 0), (1, .int .i64 u.x), (2, pt P1 0), (3, pt P1 0), (4, pt P1 0), (5, pt P1 0), (6, iN p), (7, .int .i64 (-((p : Nat) : Int))), (8, .bool false), (9, .bool false), (10, pt B4 1), (11, .int .i64 u.y), (12, pt P1 0), (13, pt P1 0), (14, pt P1 0), (15, pt P1 1), (16, iN q), (17, .int .i64 (-((q : Nat) : Int))), (18, .bool false), (19, .bool false), (20, .bool false), (21, pt B4 0), (22, .int .i64 u.x), (23, iN (8 * c.wd)), (24, .bool false), (25, .bool false), (26, .bool false), (27, pt B4 1), (28, .int .i64 u.y), (29, iN (8 * c.hg)), (30, .bool false), (31, .bool false)]) [0, 1, 0, 4, 12, 28, 60, 124, 255, 511, 1023, 2047, 1023, 5119, 13311, 29695, 62463, 127999, 262143, 524287, 1048575, 2097151, 4194303, 2097151, 16777215, 33554431, 67108863, 134217727, 268435455, 134217727, 1073741823, 2147483647] [[(8, none)], [(29, some 0)], [(4, none)], [(31, some 2)], [(32, some 3)], [(33, some 4)], [(34, some 5)], [(35, some 6)], [(30, some 1), (36, some 7)], [(37, some 8)], [(8, none)], [(39, some 10)], [(4, none)], [(41, some 12)], [(42, some 13)], [(43, some 14)], [(44, some 15)], [(45, some 16)], [(40, some 11), (46, some 17)], [(47, some 18), (38, some 9)], [(48, some 19)], [(8, none)], [(50, some 21)], [(5, none)], [(51, some 22), (52, some 23)], [(53, some 24), (49, some 20)], [(54, some 25)], [(8, none)], [(56, some 27)], [(6, none)], [(57, some 28), (58, some 29)], [(59, some 30), (55, some 26)]] 0 mixed (by kernel_rfl) ?_)
      refine G_last [0, 1, 2, 3, 4, 5, 6, 7, 8, 9, 10, 11, 12, 13, 14, 15, 16, 17, 18, 19, 20, 21, 22, 23, 24, 25, 26, 27, 28, 29, 30, 31] [(0, pt C 0), (3, .pointer none), (4, pt B2 0), (5, iN (8 * c.wd)), (6, iN (8 * c.hg)), (23, .slice (some ⟨b3, of3, none⟩) l.length cl), (24, iN l.length), (25, iN kk), (26, .bool (decide (((kk : Nat) : Int) < ((l.length : Nat) : Int)))), (27, pt b3 (of3 + kk * 2)), (28, .agg #[.int .i64 u.x, .int .i64 u.y]), (8, pt B4 0), (29, pt B4 0), (30, .int .i64 u.x), (31, pt P1 0), (32, pt P1 0), (33, pt P1 0), (34, pt P1 0), (35, iN p), (36, .int .i64 (-((p : Nat) : Int))), (37, .bool false), (38, .bool false), (39, pt B4 1), (40, .int .i64 u.y), (41, pt P1 0), (42, pt P1 0), (43, pt P1 0), (44, pt P1 1), (45, iN q), (46, .int .i64 (-((q : Nat) : Int))), (47, .bool false), (48, .bool false), (49, .bool false), (50, pt B4 0), (51, .int .i64 u.x), (52, iN (8 * c.wd)), (53, .bool false), (54, .bool false), (55, .bool false), (56, pt B4 1), (57, .int .i64 u.y), (58, iN (8 * c.hg)), (59, .bool false), (60, .bool false)] (by kernel_rfl) (allM (all_cons (q_r (pt B4 0) rfl rfl rfl (s_fa fl47_0 sz3 rfl)) (all_cons (q_r (.int .i64 u.x) rfl rfl rfl (s_ld ag3 rfl 1003 rfl rfl)) (all_cons (q_r (pt P1 0) rfl rfl rfl (s_ld ag134 rfl 1002 rfl rfl)) (all_cons (q_r (pt P1 0) rfl rfl rfl (s_nc rfl rfl)) (all_cons (q_r (pt P1 0) rfl rfl rfl (s_fa fl138_0 sz75 rfl)) (all_cons (q_r (pt P1 0) rfl rfl rfl (s_fa fl75_0 sz3 rfl)) (all_cons (q_r (iN p) rfl rfl rfl (s_ld ag3 rfl 1001 rfl rfl)) (all_cons (q_r (.int .i64 (-((p : Nat) : Int))) rfl rfl rfl (fun _ _ j _ => r_as (r_neg (j _ _ rfl)) (iw (by omega) (by omega) (by omega)))) (all_cons (q_r (.bool false) rfl rfl rfl (s_op r_leq rfl rfl (bool_as (decide_eq_false f1)))) (all_cons (q_r (.bool false) rfl rfl rfl (s_mv rfl)) (all_cons (q_run (pt B4 1) rfl rfl (wv_y rfl rfl) rfl (s_fa fl47_1 sz3 rfl)) (all_cons (q_run (.int .i64 u.y) rfl rfl (wv_y rfl rfl) rfl (s_ld ag3 rfl 1003 rfl rfl)) (all_cons (q_run (pt P1 0) rfl rfl (wv_y rfl rfl) rfl (s_ld ag134 rfl 1002 rfl rfl)) (all_cons (q_run (pt P1 0) rfl rfl (wv_y rfl rfl) rfl (s_nc rfl rfl)) (all_cons (q_run (pt P1 0) rfl rfl (wv_y rfl rfl) rfl (s_fa fl138_0 sz75 rfl)) (all_cons (q_run (pt P1 1) rfl rfl (wv_y rfl rfl) rfl (s_fa fl75_1 sz3 rfl)) (all_cons (q_run (iN q) rfl rfl (wv_y rfl rfl) rfl (s_ld ag3 rfl 1001 rfl rfl)) (all_cons (q_run (.int .i64 (-((q : Nat) : Int))) rfl rfl (wv_y rfl rfl) rfl (fun _ _ j _ => r_as (r_neg (j _ _ rfl)) (iw (by omega) (by omega) (by omega)))) (all_cons (q_run (.bool false) rfl rfl (wv_y rfl rfl) rfl (s_op r_leq rfl rfl (bool_as (decide_eq_false f2)))) (all_cons (q_r (.bool false) rfl rfl rfl (s_pf rfl rfl)) (all_cons (q_r (.bool false) rfl rfl rfl (s_mv rfl)) (all_cons (q_run (pt B4 0) rfl rfl (wv_y rfl rfl) rfl (s_fa fl47_0 sz3 rfl)) (all_cons (q_run (.int .i64 u.x) rfl rfl (wv_y rfl rfl) rfl (s_ld ag3 rfl 1003 rfl rfl)) (all_cons (q_run (iN (8 * c.wd)) rfl rfl (wv_y rfl rfl) rfl (s_mv rfl)) (all_cons (q_run (.bool false) rfl rfl (wv_y rfl rfl) rfl (s_op r_geq rfl rfl (bool_as (decide_eq_false f3)))) (all_cons (q_r (.bool false) rfl rfl rfl (s_pf rfl rfl)) (all_cons (q_r (.bool false) rfl rfl rfl (s_mv rfl)) (all_cons (q_run (pt B4 1) rfl rfl (wv_y rfl rfl) rfl (s_fa fl47_1 sz3 rfl)) (all_cons (q_run (.int .i64 u.y) rfl rfl (wv_y rfl rfl) rfl (s_ld ag3 rfl 1003 rfl rfl)) (all_cons (q_run (iN (8 * c.hg)) rfl rfl (wv_y rfl rfl) rfl (s_mv rfl)) (all_cons (q_run (.bool false) rfl rfl (wv_y rfl rfl) rfl (s_op r_geq rfl rfl (bool_as (decide_eq_false f4)))) (all_cons (q_r (.bool false) rfl rfl rfl (s_pf rfl rfl)) all_nil))))))))))))))))))))))))))))))))) (end_old rfl rfl (end_old rfl rfl (end_old rfl rfl (end_old rfl rfl (end_old rfl rfl (end_old rfl rfl (end_old rfl rfl (end_old rfl rfl (end_old rfl rfl (end_old rfl rfl (end_old rfl rfl (end_old rfl rfl (end_new 0 rfl rfl (end_new 1 rfl rfl (end_new 2 rfl rfl (end_new 3 rfl rfl (end_new 4 rfl rfl (end_new 5 rfl rfl (end_new 6 rfl rfl (end_new 7 rfl rfl (end_new 8 rfl rfl (end_new 9 rfl rfl (end_new 10 rfl rfl (end_new 11 rfl rfl (end_new 12 rfl rfl (end_new 13 rfl rfl (end_new 14 rfl rfl (end_new 15 rfl rfl (end_new 16 rfl rfl (end_new 17 rfl rfl (end_new 18 rfl rfl (end_new 19 rfl rfl (end_new 20 rfl rfl (end_new 21 rfl rfl (end_new 22 rfl rfl (end_new 23 rfl rfl (end_new 24 rfl rfl (end_new 25 rfl rfl (end_new 26 rfl rfl (end_new 27 rfl rfl (end_new 28 rfl rfl (end_new 29 rfl rfl (end_new 30 rfl rfl (end_new 31 rfl rfl end_nil)))))))))))))))))))))))))))))))))))))))))))) ?_
      refine T_cond_f rfl ?_
      refine T_skip' ?_
      refine p_seq ?_
      refine T_seq (T_region ?_)
      refine TL_new 1004 (.cells #[.slice none 0 0] 25) (fun B => pt B 0) (fun _ _ _ _ => r_alloc (v := .slice none 0 0) (by kernel_rfl) rfl) rfl rfl rfl (w_n rfl) ?_
      intro B5
      refine TL_seq ?_
      refine T_seq ?_
      refine T_seq (T_region ?_)
      refine TL_v (pt P1 0) (s_ld ag134 rfl 1002 rfl rfl) rfl rfl ?_
      refine TL_callN (fun (_ : Nat) => True) (fun q6 => .func (.func 105) #[] #[pt q6 0]) (fun q6 => [(1005, .blk q6 (.cells #[pt P1 0] 134))]) (fun _ _ j _ => r_call (args := [pt P1 0]) (enters_of Try.func95 (by kernel_rfl) rfl) (j _ _ rfl) ((cons2 (j _ _ rfl) rfl)) rfl) (fun w _ => (places_c P1 w).mono fun e w' ⟨q, he, hb, hr⟩ => ⟨q, trivial, he, hb, newOk1 1005 hr⟩) rfl rfl rfl (w_n rfl) ?_
      intro q6 _
      refine TL_seq ?_
      refine T_block ?_
      refine T_mem (_ :: _) (fun _ hm => hm.nilRow 950 51 6) ?_
      refine T_sub [(0, pt C 0), (3, .pointer none), (4, pt B2 0), (5, iN (8 * c.wd)), (6, iN (8 * c.hg)), (23, .slice (some ⟨b3, of3, none⟩) l.length cl), (24, iN l.length), (25, iN kk), (26, .bool (decide (((kk : Nat) : Int) < ((l.length : Nat) : Int)))), (27, pt b3 (of3 + kk * 2)), (28, .agg #[.int .i64 u.x, .int .i64 u.y]), (8, pt B4 0), (29, pt B4 0), (30, .int .i64 u.x), (31, pt P1 0), (32, pt P1 0), (33, pt P1 0), (34, pt P1 0), (35, iN p), (36, .int .i64 (-((p : Nat) : Int))), (37, .bool false), (38, .bool false), (39, pt B4 1), (40, .int .i64 u.y), (41, pt P1 0), (42, pt P1 0), (43, pt P1 0), (44, pt P1 1), (45, iN q), (46, .int .i64 (-((q : Nat) : Int))), (47, .bool false), (48, .bool false), (49, .bool false), (50, pt B4 0), (51, .int .i64 u.x), (52, iN (8 * c.wd)), (53, .bool false), (54, .bool false), (55, .bool false), (56, pt B4 1), (57, .int .i64 u.y), (58, iN (8 * c.hg)), (59, .bool false), (60, .bool false), (9, pt B5 0), (61, pt P1 0), (62, .func (.func 105) #[] #[pt q6 0])] [(950, .row (.slice none 0 0) 51 6 0 []), (1005, .blk q6 (.cells #[pt P1 0] 134)), (1001, .blk P1 (.cells #[iN p, iN q, .slice a px.length cap] 138)), (1901, .blk B (.cells #[.int .i64 0] 29)), (1900, .blk A (.cells #[.pointer none] 28)), (3, .blk Lb (.cells #[.slice (some ⟨b3, of3, none⟩) l.length cl] 44)), (2, .blk S (.cells #[iN p, iN q, .slice a px.length cap] 75)), (1002, .blk B2 (.cells #[pt P1 0] 134)), (1, .blk C (.cells #[pt z.p 0] 28)), (960, .cvO w₀ z), (970, .dfs ds), (1003, .blk B4 (.cells #[.int .i64 u.x, .int .i64 u.y] 47)), (1004, .blk B5 (.cells #[.slice none 0 0] 25))] (sc4 rfl rfl rfl rfl (sc4 rfl rfl rfl rfl (sc4 rfl rfl rfl rfl (sc4 rfl rfl rfl rfl (sc4 rfl rfl rfl rfl (sc4 rfl rfl rfl rfl (sc4 rfl rfl rfl rfl (sc4 rfl rfl rfl rfl (sc4 rfl rfl rfl rfl (sc4 rfl rfl rfl rfl (sc4 rfl rfl rfl rfl (sc rfl (sc rfl (sc rfl sub_nil)))))))))))))) (sc4 rfl rfl rfl rfl (sc4 rfl rfl rfl rfl (sc4 rfl rfl rfl rfl (sc rfl sub_nil)))) ?_
      refine T_rangeB (ι := Option Addr × Nat) (ζ := Nat) (encs := encPt) (xs := ptsG p q) rfl rfl (enters_of Try.func105 (by kernel_rfl) rfl) (fun _ => rfl) rfl 801 802 rfl (fun (k : Nat) (zz : Option Addr × Nat) => True) (fun (k : Nat) (zz : Option Addr × Nat) => [(1004, .blk B5 (.cells #[.slice zz.1 ((layD z.wd z.hg z.ts p q px u.x u.y k).length) zz.2] 25)), (950, .row (.slice zz.1 ((layD z.wd z.hg z.ts p q px u.x u.y k).length) zz.2) 51 6 ((layD z.wd z.hg z.ts p q px u.x u.y k).length) ((layD z.wd z.hg z.ts p q px u.x u.y k).flatMap Dt.cells)), (1005, .blk q6 (.cells #[pt P1 0] 134)), (1001, .blk P1 (.cells #[iN p, iN q, .slice a px.length cap] 138)), (1901, .blk B (.cells #[.int .i64 0] 29)), (1900, .blk A (.cells #[.pointer none] 28)), (3, .blk Lb (.cells #[.slice (some ⟨b3, of3, none⟩) l.length cl] 44)), (2, .blk S (.cells #[iN p, iN q, .slice a px.length cap] 75)), (1002, .blk B2 (.cells #[pt P1 0] 134)), (1, .blk C (.cells #[pt z.p 0] 28)), (960, .cvO w₀ z), (970, .dfs ds), (1003, .blk B4 (.cells #[.int .i64 u.x, .int .i64 u.y] 47))]) (fun _ _ => False) (fun _ => []) (fun x Bz => [(0, pt C 0), (3, .pointer none), (4, pt B2 0), (5, iN (8 * c.wd)), (6, iN (8 * c.hg)), (23, .slice (some ⟨b3, of3, none⟩) l.length cl), (24, iN l.length), (25, iN kk), (26, .bool (decide (((kk : Nat) : Int) < ((l.length : Nat) : Int)))), (27, pt b3 (of3 + kk * 2)), (28, .agg #[.int .i64 u.x, .int .i64 u.y]), (8, pt B4 0), (29, pt B4 0), (30, .int .i64 u.x), (31, pt P1 0), (32, pt P1 0), (33, pt P1 0), (34, pt P1 0), (35, iN p), (36, .int .i64 (-((p : Nat) : Int))), (37, .bool false), (38, .bool false), (39, pt B4 1), (40, .int .i64 u.y), (41, pt P1 0), (42, pt P1 0), (43, pt P1 0), (44, pt P1 1), (45, iN q), (46, .int .i64 (-((q : Nat) : Int))), (47, .bool false), (48, .bool false), (49, .bool false), (50, pt B4 0), (51, .int .i64 u.x), (52, iN (8 * c.wd)), (53, .bool false), (54, .bool false), (55, .bool false), (56, pt B4 1), (57, .int .i64 u.y), (58, iN (8 * c.hg)), (59, .bool false), (60, .bool false), (9, pt B5 0), (61, pt P1 0), (62, .func (.func 105) #[] #[pt q6 0]), (10, pt Bz 0)]) (fun x Bz => [(1201, .blk Bz (.cells #[iN x.1, iN x.2] 47))]) (fun D l rec => places_iter _ _ _ 1005 q6 P1 p q _ (by omega) (by omega) (fun _ _ => rfl) (fun _ _ _ hm => hm.at 1001 rfl)) (fun _ _ => ⟨rfl, rfl⟩) (fun _ => ⟨rfl, rfl⟩) (none, 0) trivial (sc4 rfl rfl rfl rfl (sc4 rfl rfl rfl rfl (sc4 rfl rfl rfl rfl (sc rfl sub_nil)))) ?_ ?_ ?_ (fun _ _ _ h => h.elim)
      ·intro D1 l1 rec1 k x zz hx1 hp1
       refine T_sub [(0, pt C 0), (3, .pointer none), (4, pt B2 0), (5, iN (8 * c.wd)), (6, iN (8 * c.hg)), (23, .slice (some ⟨b3, of3, none⟩) l.length cl), (24, iN l.length), (25, iN kk), (26, .bool (decide (((kk : Nat) : Int) < ((l.length : Nat) : Int)))), (27, pt b3 (of3 + kk * 2)), (28, .agg #[.int .i64 u.x, .int .i64 u.y]), (8, pt B4 0), (29, pt B4 0), (30, .int .i64 u.x), (31, pt P1 0), (32, pt P1 0), (33, pt P1 0), (34, pt P1 0), (35, iN p), (36, .int .i64 (-((p : Nat) : Int))), (37, .bool false), (38, .bool false), (39, pt B4 1), (40, .int .i64 u.y), (41, pt P1 0), (42, pt P1 0), (43, pt P1 0), (44, pt P1 1), (45, iN q), (46, .int .i64 (-((q : Nat) : Int))), (47, .bool false), (48, .bool false), (49, .bool false), (50, pt B4 0), (51, .int .i64 u.x), (52, iN (8 * c.wd)), (53, .bool false), (54, .bool false), (55, .bool false), (56, pt B4 1), (57, .int .i64 u.y), (58, iN (8 * c.hg)), (59, .bool false), (60, .bool false), (9, pt B5 0), (61, pt P1 0), (62, .func (.func 105) #[] #[pt q6 0]), (63, .agg #[iN x.1, iN x.2])] [(801, .blk D1 (.deferred (some []))), (802, .blk l1 (.loop rec1)), (1004, .blk B5 (.cells #[.slice zz.1 ((layD z.wd z.hg z.ts p q px u.x u.y k).length) zz.2] 25)), (950, .row (.slice zz.1 ((layD z.wd z.hg z.ts p q px u.x u.y k).length) zz.2) 51 6 ((layD z.wd z.hg z.ts p q px u.x u.y k).length) ((layD z.wd z.hg z.ts p q px u.x u.y k).flatMap Dt.cells)), (1005, .blk q6 (.cells #[pt P1 0] 134)), (1001, .blk P1 (.cells #[iN p, iN q, .slice a px.length cap] 138)), (1901, .blk B (.cells #[.int .i64 0] 29)), (1900, .blk A (.cells #[.pointer none] 28)), (3, .blk Lb (.cells #[.slice (some ⟨b3, of3, none⟩) l.length cl] 44)), (2, .blk S (.cells #[iN p, iN q, .slice a px.length cap] 75)), (1002, .blk B2 (.cells #[pt P1 0] 134)), (1, .blk C (.cells #[pt z.p 0] 28)), (960, .cvO w₀ z), (970, .dfs ds), (1003, .blk B4 (.cells #[.int .i64 u.x, .int .i64 u.y] 47))] (sc4 rfl rfl rfl rfl (sc4 rfl rfl rfl rfl (sc4 rfl rfl rfl rfl (sc4 rfl rfl rfl rfl (sc4 rfl rfl rfl rfl (sc4 rfl rfl rfl rfl (sc4 rfl rfl rfl rfl (sc4 rfl rfl rfl rfl (sc4 rfl rfl rfl rfl (sc4 rfl rfl rfl rfl (sc4 rfl rfl rfl rfl (sc4 rfl rfl rfl rfl sub_nil)))))))))))) (sc4 rfl rfl rfl rfl (sc4 rfl rfl rfl rfl (sc4 rfl rfl rfl rfl (sc rfl (sc rfl (sc rfl sub_nil)))))) ?_
       refine T_region ?_
       refine TL_new 1201 (.cells #[.int .i64 0, .int .i64 0] 47) (fun B => pt B 0) (fun _ _ _ _ => r_alloc (v := .agg #[.int .i64 0, .int .i64 0]) (by kernel_rfl) rfl) rfl rfl rfl (w_n rfl) ?_
       intro B7
       refine TL_store 1201 (.cells #[iN x.1, iN x.2] 47) rfl (s_st sz47 rfl rfl 1201 rfl rfl rfl rfl rfl) rfl rfl (w_n rfl) ?_
       refine TL_nil ?_
       exact p_at B7 trivial (sc4 rfl rfl rfl rfl (sc4 rfl rfl rfl rfl (sc4 rfl rfl rfl rfl (sc4 rfl rfl rfl rfl (sc4 rfl rfl rfl rfl (sc4 rfl rfl rfl rfl (sc4 rfl rfl rfl rfl (sc4 rfl rfl rfl rfl (sc4 rfl rfl rfl rfl (sc4 rfl rfl rfl rfl (sc4 rfl rfl rfl rfl (sc4 rfl rfl rfl rfl sub_nil)))))))))))) (sc4 rfl rfl rfl rfl (sc4 rfl rfl rfl rfl (sc4 rfl rfl rfl rfl (sc4 rfl rfl rfl rfl sub_nil))))
      ·intro D1 l1 rec1 k x zz Bz hx1 hp1
       show T _ _ _ [(0, pt C 0), (3, .pointer none), (4, pt B2 0), (5, iN (8 * c.wd)), (6, iN (8 * c.hg)), (23, .slice (some ⟨b3, of3, none⟩) l.length cl), (24, iN l.length), (25, iN kk), (26, .bool (decide (((kk : Nat) : Int) < ((l.length : Nat) : Int)))), (27, pt b3 (of3 + kk * 2)), (28, .agg #[.int .i64 u.x, .int .i64 u.y]), (8, pt B4 0), (29, pt B4 0), (30, .int .i64 u.x), (31, pt P1 0), (32, pt P1 0), (33, pt P1 0), (34, pt P1 0), (35, iN p), (36, .int .i64 (-((p : Nat) : Int))), (37, .bool false), (38, .bool false), (39, pt B4 1), (40, .int .i64 u.y), (41, pt P1 0), (42, pt P1 0), (43, pt P1 0), (44, pt P1 1), (45, iN q), (46, .int .i64 (-((q : Nat) : Int))), (47, .bool false), (48, .bool false), (49, .bool false), (50, pt B4 0), (51, .int .i64 u.x), (52, iN (8 * c.wd)), (53, .bool false), (54, .bool false), (55, .bool false), (56, pt B4 1), (57, .int .i64 u.y), (58, iN (8 * c.hg)), (59, .bool false), (60, .bool false), (9, pt B5 0), (61, pt P1 0), (62, .func (.func 105) #[] #[pt q6 0]), (10, pt Bz 0)] [(801, .blk D1 (.deferred (some []))), (802, .blk l1 (.loop { rec1 with state := .busy })), (1201, .blk Bz (.cells #[iN x.1, iN x.2] 47)), (1004, .blk B5 (.cells #[.slice zz.1 ((layD z.wd z.hg z.ts p q px u.x u.y k).length) zz.2] 25)), (950, .row (.slice zz.1 ((layD z.wd z.hg z.ts p q px u.x u.y k).length) zz.2) 51 6 ((layD z.wd z.hg z.ts p q px u.x u.y k).length) ((layD z.wd z.hg z.ts p q px u.x u.y k).flatMap Dt.cells)), (1005, .blk q6 (.cells #[pt P1 0] 134)), (1001, .blk P1 (.cells #[iN p, iN q, .slice a px.length cap] 138)), (1901, .blk B (.cells #[.int .i64 0] 29)), (1900, .blk A (.cells #[.pointer none] 28)), (3, .blk Lb (.cells #[.slice (some ⟨b3, of3, none⟩) l.length cl] 44)), (2, .blk S (.cells #[iN p, iN q, .slice a px.length cap] 75)), (1002, .blk B2 (.cells #[pt P1 0] 134)), (1, .blk C (.cells #[pt z.p 0] 28)), (960, .cvO w₀ z), (970, .dfs ds), (1003, .blk B4 (.cells #[.int .i64 u.x, .int .i64 u.y] 47))]
       have hxi := ptsG_in hx1
       have hdl := layD_le z.wd z.hg z.ts p q px u.x u.y k
       have hk9 := hxi.2.2.2
       have hcm := Nat.mul_comm p q
       obtain ⟨e0, he0⟩ : ∃ c, px[x.2 * p + x.1]? = some c := ⟨_, List.getElem?_eq_getElem (by have := in_px hxi.1 hxi.2.1; omega)⟩
       refine T_block ?_
       refine T_seq (T_region ?_)
       refine TL_v (pt z.p 0) (s_ld ag28 rfl 1 rfl rfl) rfl rfl ?_
       refine TL_v (pt B4 0) (s_fa fl47_0 sz3 rfl) rfl rfl ?_
       refine TL_v (.int .i64 u.x) (s_ld ag3 rfl 1003 rfl rfl) rfl rfl ?_
       refine TL_v (pt Bz 0) (s_fa fl47_0 sz3 rfl) rfl rfl ?_
       refine TL_v (iN x.1) (s_ld ag3 rfl 1201 rfl rfl) rfl rfl ?_
       refine TL_v (.int .i64 (u.x + ((x.1 : Nat) : Int))) (s_op r_add rfl rfl (int_as (wrap64 (by omega) (by omega)))) rfl rfl ?_
       refine TL_v (pt B4 1) (s_fa fl47_1 sz3 rfl) rfl rfl ?_
       refine TL_v (.int .i64 u.y) (s_ld ag3 rfl 1003 rfl rfl) rfl rfl ?_
       refine TL_v (pt Bz 1) (s_fa fl47_1 sz3 rfl) rfl rfl ?_
       refine TL_v (iN x.2) (s_ld ag3 rfl 1201 rfl rfl) rfl rfl ?_
       refine TL_v (.int .i64 (u.y + ((x.2 : Nat) : Int))) (s_op r_add rfl rfl (int_as (wrap64 (by omega) (by omega)))) rfl rfl ?_
       refine TL_call (.tuple #[.agg #[.int .u8 ((colI z.wd z.hg z.ts (u.x + ((x.1 : Nat) : Int)) (u.y + ((x.2 : Nat) : Int))).r), .int .u8 ((colI z.wd z.hg z.ts (u.x + ((x.1 : Nat) : Int)) (u.y + ((x.2 : Nat) : Int))).g), .int .u8 ((colI z.wd z.hg z.ts (u.x + ((x.1 : Nat) : Int)) (u.y + ((x.2 : Nat) : Int))).b), .int .u8 ((colI z.wd z.hg z.ts (u.x + ((x.1 : Nat) : Int)) (u.y + ((x.2 : Nat) : Int))).a)], .bool (onC z.wd z.hg (u.x + ((x.1 : Nat) : Int)) (u.y + ((x.2 : Nat) : Int)))]) (fun _ _ j _ => r_call (args := [pt z.p 0, .int .i64 (u.x + ((x.1 : Nat) : Int)), .int .i64 (u.y + ((x.2 : Nat) : Int))]) (enters_of Try.func23 (by kernel_rfl) rfl) (j _ _ rfl) ((cons2 (j _ _ rfl) (cons2 (j _ _ rfl) (cons2 (j _ _ rfl) rfl)))) rfl) (fun w hm => cat_c z (u.x + ((x.1 : Nat) : Int)) (u.y + ((x.2 : Nat) : Int)) w (hm.cvOat 960 rfl)) rfl rfl rfl (w_n rfl) ?_
       refine TL_v (.tuple #[.agg #[.int .u8 ((colI z.wd z.hg z.ts (u.x + ((x.1 : Nat) : Int)) (u.y + ((x.2 : Nat) : Int))).r), .int .u8 ((colI z.wd z.hg z.ts (u.x + ((x.1 : Nat) : Int)) (u.y + ((x.2 : Nat) : Int))).g), .int .u8 ((colI z.wd z.hg z.ts (u.x + ((x.1 : Nat) : Int)) (u.y + ((x.2 : Nat) : Int))).b), .int .u8 ((colI z.wd z.hg z.ts (u.x + ((x.1 : Nat) : Int)) (u.y + ((x.2 : Nat) : Int))).a)], .bool (onC z.wd z.hg (u.x + ((x.1 : Nat) : Int)) (u.y + ((x.2 : Nat) : Int)))]) (s_mv rfl) rfl rfl ?_
       refine TL_v (.agg #[.int .u8 ((colI z.wd z.hg z.ts (u.x + ((x.1 : Nat) : Int)) (u.y + ((x.2 : Nat) : Int))).r), .int .u8 ((colI z.wd z.hg z.ts (u.x + ((x.1 : Nat) : Int)) (u.y + ((x.2 : Nat) : Int))).g), .int .u8 ((colI z.wd z.hg z.ts (u.x + ((x.1 : Nat) : Int)) (u.y + ((x.2 : Nat) : Int))).b), .int .u8 ((colI z.wd z.hg z.ts (u.x + ((x.1 : Nat) : Int)) (u.y + ((x.2 : Nat) : Int))).a)]) (s_ex rfl rfl) rfl rfl ?_
       refine TL_v (.bool (onC z.wd z.hg (u.x + ((x.1 : Nat) : Int)) (u.y + ((x.2 : Nat) : Int)))) (s_ex rfl rfl) rfl rfl ?_
       refine TL_new 1202 (.cells #[z8, z8, z8, z8] 37) (fun B => pt B 0) (fun _ _ _ _ => r_alloc (v := .agg #[z8, z8, z8, z8]) (by kernel_rfl) rfl) rfl rfl rfl (w_n rfl) ?_
       intro B8
       refine TL_store 1202 (.cells #[.int .u8 ((colI z.wd z.hg z.ts (u.x + ((x.1 : Nat) : Int)) (u.y + ((x.2 : Nat) : Int))).r), .int .u8 ((colI z.wd z.hg z.ts (u.x + ((x.1 : Nat) : Int)) (u.y + ((x.2 : Nat) : Int))).g), .int .u8 ((colI z.wd z.hg z.ts (u.x + ((x.1 : Nat) : Int)) (u.y + ((x.2 : Nat) : Int))).b), .int .u8 ((colI z.wd z.hg z.ts (u.x + ((x.1 : Nat) : Int)) (u.y + ((x.2 : Nat) : Int))).a)] 37) rfl (s_st sz37 rfl rfl 1202 rfl rfl rfl rfl rfl) rfl rfl (w_n rfl) ?_
       refine TL_v (.bool (onC z.wd z.hg (u.x + ((x.1 : Nat) : Int)) (u.y + ((x.2 : Nat) : Int)))) (s_as rfl) rfl rfl ?_
       refine TL_seq ?_
       refine T_seq (T_region ?_)
       refine TL_v (.bool (onC z.wd z.hg (u.x + ((x.1 : Nat) : Int)) (u.y + ((x.2 : Nat) : Int)))) (s_mv rfl) rfl rfl ?_
       refine TL_seq ?_
       refine T_cond rfl (fun h2 => ?_) (fun h2 => ?_)
       ·skip
        refine T_draw (V := [(0, .slice zz.1 ((layD z.wd z.hg z.ts p q px u.x u.y k).length) zz.2), (1, pt B4 0), (2, .int .i64 u.x), (3, pt Bz 0), (4, iN x.1), (5, .int .i64 (u.x + ((x.1 : Nat) : Int))), (6, pt B4 1), (7, .int .i64 u.y), (8, pt Bz 1), (9, iN x.2), (10, .int .i64 (u.y + ((x.2 : Nat) : Int))), (11, .agg #[.int .u8 ((colI z.wd z.hg z.ts (u.x + ((x.1 : Nat) : Int)) (u.y + ((x.2 : Nat) : Int))).r), .int .u8 ((colI z.wd z.hg z.ts (u.x + ((x.1 : Nat) : Int)) (u.y + ((x.2 : Nat) : Int))).g), .int .u8 ((colI z.wd z.hg z.ts (u.x + ((x.1 : Nat) : Int)) (u.y + ((x.2 : Nat) : Int))).b), .int .u8 ((colI z.wd z.hg z.ts (u.x + ((x.1 : Nat) : Int)) (u.y + ((x.2 : Nat) : Int))).a)]), (12, pt P1 0), (13, .agg #[iN x.1, iN x.2])]) [0, 0, 2, 0, 8, 30, 0, 64, 0, 256, 960, 0, 0, 0, 12288, 30720, 65534, 131070, 262143, 524287] [[(9, none)], [(8, none)], [(81, some 1)], [(10, none)], [(83, some 3)], [(82, some 2), (84, some 4)], [(8, none)], [(86, some 6)], [(10, none)], [(88, some 8)], [(87, some 7), (89, some 9)], [(11, none)], [(4, none)], [(10, none)], [(92, some 12), (93, some 13)], [(91, some 11), (94, some 14)], [(85, some 5), (90, some 10), (95, some 15)], [(96, some 16)], [(80, some 0), (97, some 17)], [(9, none), (98, some 18)]] 966656 mixed (by kernel_rfl) ?_
        refine G_step [0, 1, 2, 3, 4, 5, 6, 7, 8, 9, 10, 11, 12, 13] 14 [] (by kernel_rfl) (allM (all_cons (q_r (.slice zz.1 ((layD z.wd z.hg z.ts p q px u.x u.y k).length) zz.2) rfl rfl rfl (s_ld ag25 rfl 1004 rfl rfl)) (all_cons (q_r (pt B4 0) rfl rfl rfl (s_fa fl47_0 sz3 rfl)) (all_cons (q_r (.int .i64 u.x) rfl rfl rfl (s_ld ag3 rfl 1003 rfl rfl)) (all_cons (q_r (pt Bz 0) rfl rfl rfl (s_fa fl47_0 sz3 rfl)) (all_cons (q_r (iN x.1) rfl rfl rfl (s_ld ag3 rfl 1201 rfl rfl)) (all_cons (q_r (.int .i64 (u.x + ((x.1 : Nat) : Int))) rfl rfl rfl (s_op r_add rfl rfl (int_as (wrap64 (by omega) (by omega))))) (all_cons (q_r (pt B4 1) rfl rfl rfl (s_fa fl47_1 sz3 rfl)) (all_cons (q_r (.int .i64 u.y) rfl rfl rfl (s_ld ag3 rfl 1003 rfl rfl)) (all_cons (q_r (pt Bz 1) rfl rfl rfl (s_fa fl47_1 sz3 rfl)) (all_cons (q_r (iN x.2) rfl rfl rfl (s_ld ag3 rfl 1201 rfl rfl)) (all_cons (q_r (.int .i64 (u.y + ((x.2 : Nat) : Int))) rfl rfl rfl (s_op r_add rfl rfl (int_as (wrap64 (by omega) (by omega))))) (all_cons (q_r (.agg #[.int .u8 ((colI z.wd z.hg z.ts (u.x + ((x.1 : Nat) : Int)) (u.y + ((x.2 : Nat) : Int))).r), .int .u8 ((colI z.wd z.hg z.ts (u.x + ((x.1 : Nat) : Int)) (u.y + ((x.2 : Nat) : Int))).g), .int .u8 ((colI z.wd z.hg z.ts (u.x + ((x.1 : Nat) : Int)) (u.y + ((x.2 : Nat) : Int))).b), .int .u8 ((colI z.wd z.hg z.ts (u.x + ((x.1 : Nat) : Int)) (u.y + ((x.2 : Nat) : Int))).a)]) rfl rfl rfl (s_la ag37 sz37 rfl 1202 rfl rfl rfl)) (all_cons (q_r (pt P1 0) rfl rfl rfl (s_ld ag134 rfl 1002 rfl rfl)) (all_cons (q_r (.agg #[iN x.1, iN x.2]) rfl rfl rfl (s_la ag47 sz47 rfl 1201 rfl rfl rfl)) all_nil))))))))))))))) (allM (all_cons ?_ all_nil))
        refine LOb_call (.agg #[.int .u8 e0.r, .int .u8 e0.g, .int .u8 e0.b, .int .u8 e0.a]) [] rfl (wv_n rfl) rfl rfl (fun _ _ j _ => r_call (args := [pt P1 0, .agg #[iN x.1, iN x.2]]) (enters_of Try.func91 (by kernel_rfl) rfl) (j _ _ rfl) ((cons2 (j _ _ rfl) (cons2 (j _ _ rfl) rfl))) rfl) (fun w hm => sat_c P1 p q px a cap w (hm.at 1001 rfl) (hv.keep hm.ext) hcap hp8 hq8 hlen x.1 x.2 hxi.1 hxi.2.1 e0 he0) (by kernel_rfl) ?_
        refine G_step [0, 1, 2, 3, 4, 5, 6, 7, 8, 9, 10, 11] 15 [] (by kernel_rfl) (allM (all_cons (q_r (.slice zz.1 ((layD z.wd z.hg z.ts p q px u.x u.y k).length) zz.2) rfl rfl rfl (s_ld ag25 rfl 1004 rfl rfl)) (all_cons (q_r (pt B4 0) rfl rfl rfl (s_fa fl47_0 sz3 rfl)) (all_cons (q_r (.int .i64 u.x) rfl rfl rfl (s_ld ag3 rfl 1003 rfl rfl)) (all_cons (q_r (pt Bz 0) rfl rfl rfl (s_fa fl47_0 sz3 rfl)) (all_cons (q_r (iN x.1) rfl rfl rfl (s_ld ag3 rfl 1201 rfl rfl)) (all_cons (q_r (.int .i64 (u.x + ((x.1 : Nat) : Int))) rfl rfl rfl (s_op r_add rfl rfl (int_as (wrap64 (by omega) (by omega))))) (all_cons (q_r (pt B4 1) rfl rfl rfl (s_fa fl47_1 sz3 rfl)) (all_cons (q_r (.int .i64 u.y) rfl rfl rfl (s_ld ag3 rfl 1003 rfl rfl)) (all_cons (q_r (pt Bz 1) rfl rfl rfl (s_fa fl47_1 sz3 rfl)) (all_cons (q_r (iN x.2) rfl rfl rfl (s_ld ag3 rfl 1201 rfl rfl)) (all_cons (q_r (.int .i64 (u.y + ((x.2 : Nat) : Int))) rfl rfl rfl (s_op r_add rfl rfl (int_as (wrap64 (by omega) (by omega))))) (all_cons (q_r (.agg #[.int .u8 ((colI z.wd z.hg z.ts (u.x + ((x.1 : Nat) : Int)) (u.y + ((x.2 : Nat) : Int))).r), .int .u8 ((colI z.wd z.hg z.ts (u.x + ((x.1 : Nat) : Int)) (u.y + ((x.2 : Nat) : Int))).g), .int .u8 ((colI z.wd z.hg z.ts (u.x + ((x.1 : Nat) : Int)) (u.y + ((x.2 : Nat) : Int))).b), .int .u8 ((colI z.wd z.hg z.ts (u.x + ((x.1 : Nat) : Int)) (u.y + ((x.2 : Nat) : Int))).a)]) rfl rfl rfl (s_la ag37 sz37 rfl 1202 rfl rfl rfl)) all_nil))))))))))))) (allM (all_cons ?_ all_nil))
        refine LOb_call (.agg #[.int .u8 ((overC (colI z.wd z.hg z.ts (u.x + ((x.1 : Nat) : Int)) (u.y + ((x.2 : Nat) : Int))) e0).r), .int .u8 ((overC (colI z.wd z.hg z.ts (u.x + ((x.1 : Nat) : Int)) (u.y + ((x.2 : Nat) : Int))) e0).g), .int .u8 ((overC (colI z.wd z.hg z.ts (u.x + ((x.1 : Nat) : Int)) (u.y + ((x.2 : Nat) : Int))) e0).b), .int .u8 ((overC (colI z.wd z.hg z.ts (u.x + ((x.1 : Nat) : Int)) (u.y + ((x.2 : Nat) : Int))) e0).a)]) [(16, .agg #[.int .i64 (u.x + ((x.1 : Nat) : Int)), .int .i64 (u.y + ((x.2 : Nat) : Int)), .int .u8 ((overC (colI z.wd z.hg z.ts (u.x + ((x.1 : Nat) : Int)) (u.y + ((x.2 : Nat) : Int))) e0).r), .int .u8 ((overC (colI z.wd z.hg z.ts (u.x + ((x.1 : Nat) : Int)) (u.y + ((x.2 : Nat) : Int))) e0).g), .int .u8 ((overC (colI z.wd z.hg z.ts (u.x + ((x.1 : Nat) : Int)) (u.y + ((x.2 : Nat) : Int))) e0).b), .int .u8 ((overC (colI z.wd z.hg z.ts (u.x + ((x.1 : Nat) : Int)) (u.y + ((x.2 : Nat) : Int))) e0).a)])] rfl (wv_n rfl) rfl rfl (fun _ _ j _ => r_call (args := [.agg #[.int .u8 ((colI z.wd z.hg z.ts (u.x + ((x.1 : Nat) : Int)) (u.y + ((x.2 : Nat) : Int))).r), .int .u8 ((colI z.wd z.hg z.ts (u.x + ((x.1 : Nat) : Int)) (u.y + ((x.2 : Nat) : Int))).g), .int .u8 ((colI z.wd z.hg z.ts (u.x + ((x.1 : Nat) : Int)) (u.y + ((x.2 : Nat) : Int))).b), .int .u8 ((colI z.wd z.hg z.ts (u.x + ((x.1 : Nat) : Int)) (u.y + ((x.2 : Nat) : Int))).a)], .agg #[.int .u8 e0.r, .int .u8 e0.g, .int .u8 e0.b, .int .u8 e0.a]]) (enters_of Try.func98 (by kernel_rfl) rfl) (j _ _ rfl) ((cons2 (j _ _ rfl) (cons2 (j _ _ rfl) rfl))) rfl) (fun w _ => over_c (colI z.wd z.hg z.ts (u.x + ((x.1 : Nat) : Int)) (u.y + ((x.2 : Nat) : Int))) e0 w (colI_ok hzok _ _) (hpx e0 (List.mem_of_getElem? he0))) (by kernel_rfl) ?_
        refine G_step [0, 1, 2, 3, 4, 5, 6, 7, 8, 9, 10, 16] 17 [] (by kernel_rfl) (allM (all_cons (q_r (.slice zz.1 ((layD z.wd z.hg z.ts p q px u.x u.y k).length) zz.2) rfl rfl rfl (s_ld ag25 rfl 1004 rfl rfl)) (all_cons (q_r (pt B4 0) rfl rfl rfl (s_fa fl47_0 sz3 rfl)) (all_cons (q_r (.int .i64 u.x) rfl rfl rfl (s_ld ag3 rfl 1003 rfl rfl)) (all_cons (q_r (pt Bz 0) rfl rfl rfl (s_fa fl47_0 sz3 rfl)) (all_cons (q_r (iN x.1) rfl rfl rfl (s_ld ag3 rfl 1201 rfl rfl)) (all_cons (q_r (.int .i64 (u.x + ((x.1 : Nat) : Int))) rfl rfl rfl (s_op r_add rfl rfl (int_as (wrap64 (by omega) (by omega))))) (all_cons (q_r (pt B4 1) rfl rfl rfl (s_fa fl47_1 sz3 rfl)) (all_cons (q_r (.int .i64 u.y) rfl rfl rfl (s_ld ag3 rfl 1003 rfl rfl)) (all_cons (q_r (pt Bz 1) rfl rfl rfl (s_fa fl47_1 sz3 rfl)) (all_cons (q_r (iN x.2) rfl rfl rfl (s_ld ag3 rfl 1201 rfl rfl)) (all_cons (q_r (.int .i64 (u.y + ((x.2 : Nat) : Int))) rfl rfl rfl (s_op r_add rfl rfl (int_as (wrap64 (by omega) (by omega))))) (all_cons (q_r (.agg #[.int .i64 (u.x + ((x.1 : Nat) : Int)), .int .i64 (u.y + ((x.2 : Nat) : Int)), .int .u8 ((overC (colI z.wd z.hg z.ts (u.x + ((x.1 : Nat) : Int)) (u.y + ((x.2 : Nat) : Int))) e0).r), .int .u8 ((overC (colI z.wd z.hg z.ts (u.x + ((x.1 : Nat) : Int)) (u.y + ((x.2 : Nat) : Int))) e0).g), .int .u8 ((overC (colI z.wd z.hg z.ts (u.x + ((x.1 : Nat) : Int)) (u.y + ((x.2 : Nat) : Int))) e0).b), .int .u8 ((overC (colI z.wd z.hg z.ts (u.x + ((x.1 : Nat) : Int)) (u.y + ((x.2 : Nat) : Int))) e0).a)]) rfl rfl rfl (fun _ _ j _ => r_build (vs := [(0, .int .i64 (u.x + ((x.1 : Nat) : Int))), (1, .int .i64 (u.y + ((x.2 : Nat) : Int))), (2, .agg #[.int .u8 ((overC (colI z.wd z.hg z.ts (u.x + ((x.1 : Nat) : Int)) (u.y + ((x.2 : Nat) : Int))) e0).r), .int .u8 ((overC (colI z.wd z.hg z.ts (u.x + ((x.1 : Nat) : Int)) (u.y + ((x.2 : Nat) : Int))) e0).g), .int .u8 ((overC (colI z.wd z.hg z.ts (u.x + ((x.1 : Nat) : Int)) (u.y + ((x.2 : Nat) : Int))) e0).b), .int .u8 ((overC (colI z.wd z.hg z.ts (u.x + ((x.1 : Nat) : Int)) (u.y + ((x.2 : Nat) : Int))) e0).a)])]) (by kernel_rfl) (cons2 (pair2 (j _ _ rfl)) (cons2 (pair2 (j _ _ rfl)) (cons2 (pair2 (j _ _ rfl)) rfl))))) all_nil))))))))))))) (allM (all_cons ?_ all_nil))
        refine LOb_new 1203 (.cells #[.int .i64 (u.x + ((x.1 : Nat) : Int)), .int .i64 (u.y + ((x.2 : Nat) : Int)), .int .u8 ((overC (colI z.wd z.hg z.ts (u.x + ((x.1 : Nat) : Int)) (u.y + ((x.2 : Nat) : Int))) e0).r), .int .u8 ((overC (colI z.wd z.hg z.ts (u.x + ((x.1 : Nat) : Int)) (u.y + ((x.2 : Nat) : Int))) e0).g), .int .u8 ((overC (colI z.wd z.hg z.ts (u.x + ((x.1 : Nat) : Int)) (u.y + ((x.2 : Nat) : Int))) e0).b), .int .u8 ((overC (colI z.wd z.hg z.ts (u.x + ((x.1 : Nat) : Int)) (u.y + ((x.2 : Nat) : Int))) e0).a)] 51) (fun B => .slice (some ⟨B, 0, none⟩) 1 1) (fun B => []) rfl (wv_n rfl) rfl rfl (fun _ _ j _ => r_buildSlice (vs := [(0, .agg #[.int .i64 (u.x + ((x.1 : Nat) : Int)), .int .i64 (u.y + ((x.2 : Nat) : Int)), .int .u8 ((overC (colI z.wd z.hg z.ts (u.x + ((x.1 : Nat) : Int)) (u.y + ((x.2 : Nat) : Int))) e0).r), .int .u8 ((overC (colI z.wd z.hg z.ts (u.x + ((x.1 : Nat) : Int)) (u.y + ((x.2 : Nat) : Int))) e0).g), .int .u8 ((overC (colI z.wd z.hg z.ts (u.x + ((x.1 : Nat) : Int)) (u.y + ((x.2 : Nat) : Int))) e0).b), .int .u8 ((overC (colI z.wd z.hg z.ts (u.x + ((x.1 : Nat) : Int)) (u.y + ((x.2 : Nat) : Int))) e0).a)])]) (by kernel_rfl) (cons2 (pair2 (j _ _ rfl)) rfl)) (fun B => by kernel_rfl) ?_
        intro B9
        refine G_step [0] 18 [] (by kernel_rfl) (allM (all_cons (q_r (.slice zz.1 ((layD z.wd z.hg z.ts p q px u.x u.y k).length) zz.2) rfl rfl rfl (s_ld ag25 rfl 1004 rfl rfl)) all_nil)) (allM (all_cons ?_ all_nil))
        refine LOb_append (n := (layD z.wd z.hg z.ts p q px u.x u.y k).length) (m := 1) (xs := ((layD z.wd z.hg z.ts p q px u.x u.y k).flatMap Dt.cells)) (news := [.int .i64 (u.x + ((x.1 : Nat) : Int)), .int .i64 (u.y + ((x.2 : Nat) : Int)), .int .u8 ((overC (colI z.wd z.hg z.ts (u.x + ((x.1 : Nat) : Int)) (u.y + ((x.2 : Nat) : Int))) e0).r), .int .u8 ((overC (colI z.wd z.hg z.ts (u.x + ((x.1 : Nat) : Int)) (u.y + ((x.2 : Nat) : Int))) e0).g), .int .u8 ((overC (colI z.wd z.hg z.ts (u.x + ((x.1 : Nat) : Int)) (u.y + ((x.2 : Nat) : Int))) e0).b), .int .u8 ((overC (colI z.wd z.hg z.ts (u.x + ((x.1 : Nat) : Int)) (u.y + ((x.2 : Nat) : Int))) e0).a)]) (z := .agg #[.int .i64 0, .int .i64 0, z8, z8, z8, z8]) 950 (fun a cap => []) rfl (wv_n rfl) rfl rfl rfl sl25 sz51 by51 (by kernel_rfl) rfl rfl (.inl rfl) (fun _ hm => src_blk (news := [.int .i64 (u.x + ((x.1 : Nat) : Int)), .int .i64 (u.y + ((x.2 : Nat) : Int)), .int .u8 ((overC (colI z.wd z.hg z.ts (u.x + ((x.1 : Nat) : Int)) (u.y + ((x.2 : Nat) : Int))) e0).r), .int .u8 ((overC (colI z.wd z.hg z.ts (u.x + ((x.1 : Nat) : Int)) (u.y + ((x.2 : Nat) : Int))) e0).g), .int .u8 ((overC (colI z.wd z.hg z.ts (u.x + ((x.1 : Nat) : Int)) (u.y + ((x.2 : Nat) : Int))) e0).b), .int .u8 ((overC (colI z.wd z.hg z.ts (u.x + ((x.1 : Nat) : Int)) (u.y + ((x.2 : Nat) : Int))) e0).a)]) (hm.at 1203 rfl) rfl) (by first | exact T64.cells_one _ | simp [Value.oneCell']) (by omega) (by omega) (fun a cap => by kernel_rfl) ?_
        intro a10 cap10
        refine G_step [] 19 [] (by kernel_rfl) (allM all_nil) (allM (all_cons ?_ all_nil))
        refine LOb_store 1004 (.cells #[.slice a10 ((layD z.wd z.hg z.ts p q px u.x u.y k).length + 1) cap10] 25) [] rfl (wv_n rfl) rfl rfl rfl (s_st sz25 rfl rfl 1004 rfl rfl rfl rfl rfl) (by kernel_rfl) ?_
        refine G_lastQ [] [(3, .pointer none)] (by kernel_rfl) (allM all_nil) (end_old rfl rfl end_nil) ?_
        refine p_blk_n ?_
        have hdt := layD_y (ts := z.ts) hx1 he0 h2
        rw [show ((layD z.wd z.hg z.ts p q px u.x u.y k).length + 1) = (layD z.wd z.hg z.ts p q px u.x u.y (k + 1)).length from by rw [hdt]; simp, show (((layD z.wd z.hg z.ts p q px u.x u.y k).flatMap Dt.cells) ++ [.int .i64 (u.x + ((x.1 : Nat) : Int)), .int .i64 (u.y + ((x.2 : Nat) : Int)), .int .u8 ((overC (colI z.wd z.hg z.ts (u.x + ((x.1 : Nat) : Int)) (u.y + ((x.2 : Nat) : Int))) e0).r), .int .u8 ((overC (colI z.wd z.hg z.ts (u.x + ((x.1 : Nat) : Int)) (u.y + ((x.2 : Nat) : Int))) e0).g), .int .u8 ((overC (colI z.wd z.hg z.ts (u.x + ((x.1 : Nat) : Int)) (u.y + ((x.2 : Nat) : Int))) e0).b), .int .u8 ((overC (colI z.wd z.hg z.ts (u.x + ((x.1 : Nat) : Int)) (u.y + ((x.2 : Nat) : Int))) e0).a)]) = (layD z.wd z.hg z.ts p q px u.x u.y (k + 1)).flatMap Dt.cells from by rw [hdt]; simp [Dt.cells]]
        exact p_round_n (a10, cap10) trivial (sc4 rfl rfl rfl rfl (sc4 rfl rfl rfl rfl (sc4 rfl rfl rfl rfl (sc rfl (sc rfl (sc rfl sub_nil))))))
       ·skip
        refine T_skip' ?_
        refine p_blk_n ?_
        have hdf := layD_n (wd := z.wd) (hg := z.hg) (ts := z.ts) (px := px) hx1 (by rw [h2]; simp)
        rw [← hdf]
        exact p_round_n zz trivial (sc4 rfl rfl rfl rfl (sc4 rfl rfl rfl rfl (sc4 rfl rfl rfl rfl (sc rfl (sc rfl (sc rfl sub_nil))))))
      ·intro D1 zz hp1
       rw [ptsG_len]
       refine p_sub [(0, pt C 0), (3, .pointer none), (4, pt B2 0), (5, iN (8 * c.wd)), (6, iN (8 * c.hg)), (23, .slice (some ⟨b3, of3, none⟩) l.length cl), (24, iN l.length), (25, iN kk), (26, .bool (decide (((kk : Nat) : Int) < ((l.length : Nat) : Int)))), (27, pt b3 (of3 + kk * 2)), (28, .agg #[.int .i64 u.x, .int .i64 u.y]), (8, pt B4 0), (29, pt B4 0), (30, .int .i64 u.x), (31, pt P1 0), (32, pt P1 0), (33, pt P1 0), (34, pt P1 0), (35, iN p), (36, .int .i64 (-((p : Nat) : Int))), (37, .bool false), (38, .bool false), (39, pt B4 1), (40, .int .i64 u.y), (41, pt P1 0), (42, pt P1 0), (43, pt P1 0), (44, pt P1 1), (45, iN q), (46, .int .i64 (-((q : Nat) : Int))), (47, .bool false), (48, .bool false), (49, .bool false), (50, pt B4 0), (51, .int .i64 u.x), (52, iN (8 * c.wd)), (53, .bool false), (54, .bool false), (55, .bool false), (56, pt B4 1), (57, .int .i64 u.y), (58, iN (8 * c.hg)), (59, .bool false), (60, .bool false), (9, pt B5 0), (61, pt P1 0), (62, .func (.func 105) #[] #[pt q6 0])] [(801, .blk D1 (.deferred (some []))), (1005, .blk q6 (.cells #[pt P1 0] 134)), (1001, .blk P1 (.cells #[iN p, iN q, .slice a px.length cap] 138)), (1901, .blk B (.cells #[.int .i64 0] 29)), (1900, .blk A (.cells #[.pointer none] 28)), (3, .blk Lb (.cells #[.slice (some ⟨b3, of3, none⟩) l.length cl] 44)), (2, .blk S (.cells #[iN p, iN q, .slice a px.length cap] 75)), (1002, .blk B2 (.cells #[pt P1 0] 134)), (1, .blk C (.cells #[pt z.p 0] 28)), (960, .cvO w₀ z), (970, .dfs ds), (1003, .blk B4 (.cells #[.int .i64 u.x, .int .i64 u.y] 47)), (1004, .blk B5 (.cells #[.slice zz.1 ((layD z.wd z.hg z.ts p q px u.x u.y (q * p)).length) zz.2] 25)), (950, .row (.slice zz.1 ((layD z.wd z.hg z.ts p q px u.x u.y (q * p)).length) zz.2) 51 6 ((layD z.wd z.hg z.ts p q px u.x u.y (q * p)).length) ((layD z.wd z.hg z.ts p q px u.x u.y (q * p)).flatMap Dt.cells))] (sc4 rfl rfl rfl rfl (sc4 rfl rfl rfl rfl (sc4 rfl rfl rfl rfl (sc4 rfl rfl rfl rfl (sc4 rfl rfl rfl rfl (sc4 rfl rfl rfl rfl (sc4 rfl rfl rfl rfl (sc4 rfl rfl rfl rfl (sc4 rfl rfl rfl rfl (sc4 rfl rfl rfl rfl (sc4 rfl rfl rfl rfl (sc rfl (sc rfl (sc rfl sub_nil)))))))))))))) (sc4 rfl rfl rfl rfl (sc4 rfl rfl rfl rfl (sc4 rfl rfl rfl rfl (sc rfl (sc rfl sub_nil))))) ?_
       refine p_blk_n ?_
       refine p_seq ?_
       refine T_region ?_
       refine TL_v (pt z.p 0) (s_ld ag28 rfl 1 rfl rfl) rfl rfl ?_
       refine TL_v (.slice zz.1 ((layD z.wd z.hg z.ts p q px u.x u.y (q * p)).length) zz.2) (s_ld ag25 rfl 1004 rfl rfl) rfl rfl ?_
       refine TL_callX (ι := Cv) (fun (d9 : Cv) e w w' => e = .returned (pt d9.p 0) ∧ CvNew w w' [z] d9 ∧ w₀.heap.size ≤ w.heap.size ∧ d9.wd = z.wd ∧ d9.hg = z.hg ∧ d9.ts = putDs z.wd z.hg z.ts (layD z.wd z.hg z.ts p q px u.x u.y (q * p))) (fun d9 => pt d9.p 0) _ (fun _ _ j _ => r_call (args := [pt z.p 0, .slice zz.1 ((layD z.wd z.hg z.ts p q px u.x u.y (q * p)).length) zz.2]) (enters_of Try.func17 (by kernel_rfl) rfl) (j _ _ rfl) ((cons2 (j _ _ rfl) (cons2 (j _ _ rfl) rfl))) rfl) (fun w hm => (with_canvas z (layD z.wd z.hg z.ts p q px u.x u.y (q * p)) zz.1 zz.2 w (hm.cvOat 960 rfl) (SliceAt.own Dt.cells_len (hm.row 950 rfl) rfl rfl) (by first | exact row_cap (hm.row 950 rfl) | omega)).mono fun e w' ⟨d, he, hn, h1, h2, h3, _⟩ => ⟨d, he, hn, hm.ext.size, h1, h2, h3⟩) (fun _ e w w' hm h => ⟨h.1, hm.cvOnew 960 rfl h.2.1⟩) rfl rfl rfl (w_n rfl) ?_
       rintro d9 ⟨_, w1_d, w2_d, _, hn_d, hsz_d, hwd_d, hhg_d, hts_d⟩
       refine TL_store 1 (.cells #[pt d9.p 0] 28) rfl (s_st sz28 rfl rfl 1 rfl rfl rfl rfl rfl) rfl rfl (w_n rfl) ?_
       refine TL_nil ?_
       refine p_blk_n ?_
       refine p_seq ?_
       refine T_region ?_
       refine TL_v (iN (kk + 1)) (s_op r_add rfl rfl (iw (by omega) (by omega) (by omega))) rfl rfl ?_
       refine TL_v (iN (kk + 1)) (s_mv rfl) rfl rfl ?_
       refine TL_nil ?_
       refine p_mem (_ :: _ :: _) (fun _ hm => hm.dfsPush 970 801 rfl rfl rfl) ?_
       exact p_atD (kk + 1, d9, D1 :: ds) ⟨⟨by omega, hwd_d.trans hzw, hhg_d.trans hzh, by rw [layN_step hu, ← hzt, hts_d, hzw, hzh]; rfl, hzo.step hsz_d hn_d⟩, by dsimp only; omega⟩ rfl rfl rfl (sc4 rfl rfl rfl rfl (sc4 rfl rfl rfl rfl sub_nil)) (sc4 rfl rfl rfl rfl (sc4 rfl rfl rfl rfl (sc rfl sub_nil)))
 ·replace h1 := of_decide_eq_false h1
  refine T_exit' ?_
  refine p_then_x ?_
  refine p_then_x ?_
  refine p_blk_x ?_
  refine p_seq ?_
  refine T_seq (T_region ?_)
  refine TL_v (pt z.p 0) (s_ld ag28 rfl 1 rfl rfl) rfl rfl ?_
  refine TL_v (pt z.p 0) (s_as rfl) rfl rfl ?_
  refine TL_seq ?_
  refine T_ret' ?_
  refine ret_ofL 970 ds rfl rfl (pt z.p 0) (fun tmps w hk hm => res1 rfl (res_tmp (hk 3 _ rfl))) (fun w hm => ?_)
  have hke : kk = l.length := by omega
  subst hke
  rw [List.take_length] at hzt
  exact ⟨z, ⟨hzw, hzh, hzt, hzo⟩, rfl, (hm.sub (sc4 rfl rfl rfl rfl (sc rfl (sc rfl sub_nil))) : MemOk w₀ [(1, .blk C (.cells #[pt z.p 0] 28)), (960, .cvO w₀ z), (1901, .blk B (.cells #[.int .i64 0] 29)), (1900, .blk A (.cells #[.pointer none] 28)), (3, .blk Lb (.cells #[.slice al l.length cl] 44)), (2, .blk S (.cells #[iN p, iN q, .slice a px.length cap] 75))] w).of (lk_last (X := [(1, .blk C (.cells #[pt z.p 0] 28)), (960, .cvO w₀ z), (1901, .blk B (.cells #[.int .i64 0] 29)), (1900, .blk A (.cells #[.pointer none] 28)), (3, .blk Lb (.cells #[.slice al l.length cl] 44)), (2, .blk S (.cells #[iN p, iN q, .slice a px.length cap] 75))]) (i := 1) rfl)⟩
end Go.Proofs.Ytbiapeaghbndoaa
/- canvas: Lay, the function. Printed by a program of this seat's prover. -/
namespace Go.Proofs.Ytbiapeaghbndoaa
open Go Go.RowKit
set_option maxRecDepth 10000
theorem lay1_nil (C : Nat) (w : World) (hC : hp w C = some (.cells #[.pointer none] 28)) (S Lb : Nat) : Calls Try.prog 97 #[.pointer (some ⟨C, 0, none⟩), .pointer (some ⟨S, 0, none⟩), .pointer (some ⟨Lb, 0, none⟩)] w fun e w' => e = .panicked [{ v := .iface 29 (.int .i64 1), recovered := false }] ∧ Below w.heap.size w w' := by
 refine calls_of_T (l := [pt C 0, pt S 0, pt Lb 0]) 104 Try.func97 rfl rfl rfl ?_
 show T _ _ _ [(0, pt C 0), (1, pt S 0), (2, pt Lb 0)] []
 refine T_seq (T_region ?_)
 refine TL_v (.pointer none) (s_as rfl) rfl rfl ?_
 refine TL_seq ?_
 refine T_seq (T_region ?_)
 refine TL_v (.pointer none) (fun _ _ j hm => r_load ag28 (j _ _ rfl) (hm.old hC) rfl) rfl rfl ?_
 refine TL_v (.bool false) (fun _ _ j _ => r_as (r_neqPn po28 (j _ _ rfl) (j _ _ rfl)) (by rfl)) rfl rfl ?_
 refine TL_callQ (v := .iface 29 (.int .i64 1)) (fun _ _ j _ => r_call (args := [.bool false, .int .i64 1]) (enters_of Try.func94 (by kernel_rfl) rfl) (j _ _ rfl) ((cons2 (j _ _ rfl) (cons2 (j _ _ rfl) rfl))) rfl) (fun w _ => need_no_st 1 w) rfl (w_n rfl) ?_
 refine p_then_p ?_
 refine p_pan rfl (fun w hm => ?_)
 exact ⟨rfl, hm.ext⟩

theorem lay1_no (c : Cv) (C S Lb : Nat) (x y : Int) (a : Option Addr) (n cap : Nat) (w : World) (hc : CvAt w c) (hC : hp w C = some (.cells #[.pointer (some ⟨c.p, 0, none⟩)] 28)) (hS : hp w S = some (.cells #[.int .i64 x, .int .i64 y, .slice a n cap] 75)) (hno : ¬ rightS x y n = true) : Calls Try.prog 97 #[.pointer (some ⟨C, 0, none⟩), .pointer (some ⟨S, 0, none⟩), .pointer (some ⟨Lb, 0, none⟩)] w fun e w' => e = .panicked [{ v := .iface 29 (.int .i64 190), recovered := false }] ∧ Below w.heap.size w w' := by
 refine calls_of_T (l := [pt C 0, pt S 0, pt Lb 0]) 104 Try.func97 rfl rfl rfl ?_
 show T _ _ _ [(0, pt C 0), (1, pt S 0), (2, pt Lb 0)] []
 refine T_seq (T_region ?_)
 refine TL_v (.pointer none) (s_as rfl) rfl rfl ?_
 refine TL_seq ?_
 refine T_seq (T_region ?_)
 refine TL_v (pt c.p 0) (fun _ _ j hm => r_load ag28 (j _ _ rfl) (hm.old hC) rfl) rfl rfl ?_
 refine TL_v (.bool true) (fun _ _ j _ => r_as (r_neqPn po28 (j _ _ rfl) (j _ _ rfl)) (by rfl)) rfl rfl ?_
 refine TL_call (.tuple #[]) (fun _ _ j _ => r_call (args := [.bool true, .int .i64 1]) (enters_of Try.func94 (by kernel_rfl) rfl) (j _ _ rfl) ((cons2 (j _ _ rfl) (cons2 (j _ _ rfl) rfl))) rfl) (fun w _ => need_ok_st 1 w) rfl rfl rfl (w_n rfl) ?_
 refine TL_seq ?_
 refine T_seq (T_region ?_)
 refine TL_v (.agg #[.int .i64 x, .int .i64 y, .slice a n cap]) (fun _ _ j hm => r_loadA ag75 sz75 (j _ _ rfl) (hm.old hS) rfl rfl) rfl rfl ?_
 refine TL_callQ (v := .iface 29 (.int .i64 190)) (fun _ _ j _ => r_call (args := [.agg #[.int .i64 x, .int .i64 y, .slice a n cap]]) (enters_of Try.func85 (by kernel_rfl) rfl) (j _ _ rfl) ((cons2 (j _ _ rfl) rfl)) rfl) (fun w _ => pof_no x y a n cap w hno) rfl (w_n rfl) ?_
 refine p_then_p ?_
 refine p_pan rfl (fun w hm => ?_)
 exact ⟨rfl, hm.ext⟩

theorem lay_ok (c : Cv) (p q : Nat) (px : List C4) (a : Option Addr) (cap : Nat) (l : List Pt) (al : Option Addr) (cl : Nat) (w0 : World) (hc : CvAt w0 c) (hv : SliceAt w0 a cap 4 C4.cells px) (hcap : cap ≤ Go.maxLen) (hl : SliceAt w0 al cl 2 Pt.cells l) (hcl : cl ≤ Go.maxLen) (hp8 : 1 ≤ p ∧ p ≤ 8) (hq8 : 1 ≤ q ∧ q ≤ 8) (hlen : px.length = p * q) (hpx : ∀ c ∈ px, c.ok) (hcok : TsOk c.ts) : Calls Try.prog 60 #[.pointer (some ⟨c.p, 0, none⟩), .agg #[.int .i64 (p : Int), .int .i64 (q : Int), .slice a px.length cap], .slice al l.length cl] w0 fun e w' => ∃ d : Cv, e = .returned (.tuple #[.pointer (some ⟨d.p, 0, none⟩), .int .i64 0]) ∧ CvNew w0 w' [c] d ∧ d.wd = c.wd ∧ d.hg = c.hg ∧ d.ts = layN c.wd c.hg p q px c.ts l := by
 refine calls_of_T (l := [pt c.p 0, .agg #[iN p, iN q, .slice a px.length cap], .slice al l.length cl]) 12 Try.func60 rfl rfl rfl ?_
 show T _ _ _ [(0, pt c.p 0), (1, .agg #[iN p, iN q, .slice a px.length cap]), (2, .slice al l.length cl)] []
 refine T_seq (T_region ?_)
 refine TL_new 1 (.cells #[pt c.p 0] 28) (fun B => pt B 0) (fun _ _ j _ => r_box (j _ _ rfl) rfl) rfl rfl rfl (w_n rfl) ?_
 intro B1
 refine TL_new 2 (.cells #[iN p, iN q, .slice a px.length cap] 75) (fun B => pt B 0) (fun _ _ j _ => r_box (j _ _ rfl) rfl) rfl rfl rfl (w_n rfl) ?_
 intro B2
 refine TL_new 3 (.cells #[.slice al l.length cl] 44) (fun B => pt B 0) (fun _ _ j _ => r_box (j _ _ rfl) rfl) rfl rfl rfl (w_n rfl) ?_
 intro B3
 refine TL_v (.pointer none) (s_as rfl) rfl rfl ?_
 refine TL_v (.int .i64 0) (s_as rfl) rfl rfl ?_
 refine TL_seq ?_
 refine T_seq (T_region ?_)
 refine TL_v (.func (.func 97) #[] #[pt B1 0, pt B2 0, pt B3 0]) (fun _ _ j _ => r_makeFunc (by simp) (map_arr (cons2 (j _ _ rfl) (cons2 (j _ _ rfl) (cons2 (j _ _ rfl) rfl))))) rfl rfl ?_
 refine TL_callH _ _ _ (fun _ _ j _ => r_call (args := [.func (.func 97) #[] #[pt B1 0, pt B2 0, pt B3 0]]) (enters_of Try.func96 (by kernel_rfl) rfl) (j _ _ rfl) ((cons2 (j _ _ rfl) rfl)) rfl) (fun w hm => trC_ok (w₀ := w0) 97 #[pt B1 0, pt B2 0, pt B3 0] (fun z : Cv => z.wd = c.wd ∧ z.hg = c.hg ∧ z.ts = layN c.wd c.hg p q px c.ts l ∧ OldIn w0 c z) (fun z => some ⟨z.p, 0, none⟩) (fun z => [(1, .blk B1 (.cells #[pt z.p 0] 28)), (960, .cvO w0 z)]) (enters_of Try.func97 (by kernel_rfl) rfl) rfl rfl (fun _ => rfl) (fun _ => rfl) (fun A B w2 hm2 => lay1_ht w0 c hc A B B1 B2 B3 p q px a cap hv hcap l al cl hl hcl hp8 hq8 hlen hpx hcok w2 hm2) w hm) rfl rfl rfl (w_n rfl) ?_
 intro z hz
 refine TL_v (pt z.p 0) (s_ex rfl rfl) rfl rfl ?_
 refine TL_v (.int .i64 0) (s_ex rfl rfl) rfl rfl ?_
 refine TL_v (pt z.p 0) (s_as rfl) rfl rfl ?_
 refine TL_v (.int .i64 0) (s_as rfl) rfl rfl ?_
 refine TL_seq ?_
 refine T_ret' ?_
 refine ret_of rfl (.tuple #[pt z.p 0, .int .i64 0]) (fun tmps w hk hm => res2 rfl (res_tmp (hk 6 _ rfl)) (res_tmp (hk 7 _ rfl))) (fun w hm => ?_)
 exact ⟨z, rfl, hm.cvOend 960 rfl hz.2.2.2, hz.1, hz.2.1, hz.2.2.1⟩

theorem lay_no (c : Cv) (x y : Int) (a : Option Addr) (n cap : Nat) (l : List Pt) (al : Option Addr) (cl : Nat) (w : World) (hc : CvAt w c) (hno : ¬ rightS x y n = true) : Calls Try.prog 60 #[.pointer (some ⟨c.p, 0, none⟩), .agg #[.int .i64 x, .int .i64 y, .slice a n cap], .slice al l.length cl] w fun e w' => e = .returned (.tuple #[.pointer none, .int .i64 190]) ∧ Below w.heap.size w w' := by
 refine calls_of_T (l := [pt c.p 0, .agg #[.int .i64 x, .int .i64 y, .slice a n cap], .slice al l.length cl]) 12 Try.func60 rfl rfl rfl ?_
 show T _ _ _ [(0, pt c.p 0), (1, .agg #[.int .i64 x, .int .i64 y, .slice a n cap]), (2, .slice al l.length cl)] []
 refine T_seq (T_region ?_)
 refine TL_new 1 (.cells #[pt c.p 0] 28) (fun B => pt B 0) (fun _ _ j _ => r_box (j _ _ rfl) rfl) rfl rfl rfl (w_n rfl) ?_
 intro B1
 refine TL_new 2 (.cells #[.int .i64 x, .int .i64 y, .slice a n cap] 75) (fun B => pt B 0) (fun _ _ j _ => r_box (j _ _ rfl) rfl) rfl rfl rfl (w_n rfl) ?_
 intro B2
 refine TL_new 3 (.cells #[.slice al l.length cl] 44) (fun B => pt B 0) (fun _ _ j _ => r_box (j _ _ rfl) rfl) rfl rfl rfl (w_n rfl) ?_
 intro B3
 refine TL_v (.pointer none) (s_as rfl) rfl rfl ?_
 refine TL_v (.int .i64 0) (s_as rfl) rfl rfl ?_
 refine TL_seq ?_
 refine T_seq (T_region ?_)
 refine TL_v (.func (.func 97) #[] #[pt B1 0, pt B2 0, pt B3 0]) (fun _ _ j _ => r_makeFunc (by simp) (map_arr (cons2 (j _ _ rfl) (cons2 (j _ _ rfl) (cons2 (j _ _ rfl) rfl))))) rfl rfl ?_
 refine TL_call (.tuple #[.pointer none, .int .i64 190]) (fun _ _ j _ => r_call (args := [.func (.func 97) #[] #[pt B1 0, pt B2 0, pt B3 0]]) (enters_of Try.func96 (by kernel_rfl) rfl) (j _ _ rfl) ((cons2 (j _ _ rfl) rfl)) rfl) (fun w hm => trCW_no 97 #[pt B1 0, pt B2 0, pt B3 0] 190 w (enters_of Try.func97 (by kernel_rfl) rfl) (fun w2 hb => lay1_no c B1 B2 B3 x y a n cap w2 ((hc.below hm.ext).below hb) (kept hb (hm.at 1 rfl)) (kept hb (hm.at 2 rfl)) hno)) rfl rfl rfl (w_n rfl) ?_
 refine TL_v (.pointer none) (s_ex rfl rfl) rfl rfl ?_
 refine TL_v (.int .i64 190) (s_ex rfl rfl) rfl rfl ?_
 refine TL_v (.pointer none) (s_as rfl) rfl rfl ?_
 refine TL_v (.int .i64 190) (s_as rfl) rfl rfl ?_
 refine TL_seq ?_
 refine T_ret' ?_
 refine ret_of rfl (.tuple #[.pointer none, .int .i64 190]) (fun tmps w hk hm => res2 rfl (res_tmp (hk 6 _ rfl)) (res_tmp (hk 7 _ rfl))) (fun w hm => ?_)
 exact ⟨rfl, hm.ext⟩

theorem lay_nil (x y : Int) (a : Option Addr) (n cap : Nat) (al : Option Addr) (nl cl : Nat) (w : World) : Calls Try.prog 60 #[.pointer none, .agg #[.int .i64 x, .int .i64 y, .slice a n cap], .slice al nl cl] w fun e w' => e = .returned (.tuple #[.pointer none, .int .i64 1]) ∧ Below w.heap.size w w' := by
 refine calls_of_T (l := [.pointer none, .agg #[.int .i64 x, .int .i64 y, .slice a n cap], .slice al nl cl]) 12 Try.func60 rfl rfl rfl ?_
 show T _ _ _ [(0, .pointer none), (1, .agg #[.int .i64 x, .int .i64 y, .slice a n cap]), (2, .slice al nl cl)] []
 refine T_seq (T_region ?_)
 refine TL_new 1 (.cells #[.pointer none] 28) (fun B => pt B 0) (fun _ _ j _ => r_box (j _ _ rfl) rfl) rfl rfl rfl (w_n rfl) ?_
 intro B1
 refine TL_new 2 (.cells #[.int .i64 x, .int .i64 y, .slice a n cap] 75) (fun B => pt B 0) (fun _ _ j _ => r_box (j _ _ rfl) rfl) rfl rfl rfl (w_n rfl) ?_
 intro B2
 refine TL_new 3 (.cells #[.slice al nl cl] 44) (fun B => pt B 0) (fun _ _ j _ => r_box (j _ _ rfl) rfl) rfl rfl rfl (w_n rfl) ?_
 intro B3
 refine TL_v (.pointer none) (s_as rfl) rfl rfl ?_
 refine TL_v (.int .i64 0) (s_as rfl) rfl rfl ?_
 refine TL_seq ?_
 refine T_seq (T_region ?_)
 refine TL_v (.func (.func 97) #[] #[pt B1 0, pt B2 0, pt B3 0]) (fun _ _ j _ => r_makeFunc (by simp) (map_arr (cons2 (j _ _ rfl) (cons2 (j _ _ rfl) (cons2 (j _ _ rfl) rfl))))) rfl rfl ?_
 refine TL_call (.tuple #[.pointer none, .int .i64 1]) (fun _ _ j _ => r_call (args := [.func (.func 97) #[] #[pt B1 0, pt B2 0, pt B3 0]]) (enters_of Try.func96 (by kernel_rfl) rfl) (j _ _ rfl) ((cons2 (j _ _ rfl) rfl)) rfl) (fun w hm => trCW_no 97 #[pt B1 0, pt B2 0, pt B3 0] 1 w (enters_of Try.func97 (by kernel_rfl) rfl) (fun w2 hb => lay1_nil B1 w2 (kept hb (hm.at 1 rfl)) B2 B3)) rfl rfl rfl (w_n rfl) ?_
 refine TL_v (.pointer none) (s_ex rfl rfl) rfl rfl ?_
 refine TL_v (.int .i64 1) (s_ex rfl rfl) rfl rfl ?_
 refine TL_v (.pointer none) (s_as rfl) rfl rfl ?_
 refine TL_v (.int .i64 1) (s_as rfl) rfl rfl ?_
 refine TL_seq ?_
 refine T_ret' ?_
 refine ret_of rfl (.tuple #[.pointer none, .int .i64 1]) (fun tmps w hk hm => res2 rfl (res_tmp (hk 6 _ rfl)) (res_tmp (hk 7 _ rfl))) (fun w hm => ?_)
 exact ⟨rfl, hm.ext⟩
end Go.Proofs.Ytbiapeaghbndoaa
