/- tile: one point is put. Printed by a program of this seat's prover. -/
import Derived.Test.YtmlkifojbjbpcaaEach
namespace Go.Proofs.Ytmlkifojbjbpcaa
open Go Go.RowKit
set_option maxRecDepth 10000
theorem put_ht (w₀ : World) (L : Heap) (B : Nat) (m : List C4) (x y : Int) (c : C4) (hl : m.length = 64) (hi : lk L 900 = some (.blk B (.cells (lst C4.cells m) 69))) (hf : lk L 1001 = none) :
    ∀ w, MemOk w₀ L w → Calls Try.prog 40 #[.pointer (some ⟨B, 0, none⟩), .int .i64 x, .int .i64 y, c.v] w (HAns w₀ (fun _ : Unit => True) (fun _ => .bool (isP x y)) (fun _ => (900, .blk B (.cells (lst C4.cells (putL m x y c)) 69)) :: L)) := by
  refine ht_of_T (l := [.pointer (some ⟨B, 0, none⟩), .int .i64 x, .int .i64 y, .agg #[.int .u8 c.r, .int .u8 c.g, .int .u8 c.b, .int .u8 c.a]]) (L := L) 22 Try.func40 rfl rfl rfl ?_
  refine T_mem ((900, .blk B (.cells (lst C4.cells m) 69)) :: L) (fun _ hm => hm.of (lk_dup hi)) ?_
  show T _ _ _ [(0, .pointer (some ⟨B, 0, none⟩)), (1, .int .i64 x), (2, .int .i64 y), (3, .agg #[.int .u8 c.r, .int .u8 c.g, .int .u8 c.b, .int .u8 c.a])] ((900, .blk B (.cells (lst C4.cells m) 69)) :: L)
  refine T_seq (T_region ?_)
  refine TL_new 1001 (.cells #[.int .u8 c.r, .int .u8 c.g, .int .u8 c.b, .int .u8 c.a] 23) (fun B => .pointer (some ⟨B, 0, none⟩)) (fun _ _ hρ _ => r_box (hρ _ _ rfl) rfl) rfl rfl rfl (w_n rfl) ?_
  intro B1
  refine TL_q (.bool false) (fun _ _ hρ _ => r_assign (hρ _ _ rfl)) rfl rfl rfl (w_n rfl) ?_
  refine TL_seq ?_
  refine T_seq ?_
  refine T_seq (T_region ?_)
  refine TL_q (.int .i64 x) (fun _ _ hρ _ => r_move (hρ _ _ rfl)) rfl rfl rfl (w_n rfl) ?_
  refine TL_q (.int .i64 y) (fun _ _ hρ _ => r_move (hρ _ _ rfl)) rfl rfl rfl (w_n rfl) ?_
  refine TL_call (.bool (isP x y)) (fun _ _ hρ _ => r_call (args := [.int .i64 x, .int .i64 y]) (enters_of Try.func39 (by kernel_rfl) rfl) (hρ _ _ rfl) ((cons2 (hρ _ _ rfl) (cons2 (hρ _ _ rfl) rfl))) rfl) (fun w _ => is_c x y w) rfl rfl rfl (w_n rfl) ?_
  refine TL_q (.bool (!(isP x y))) (fun _ _ hρ _ => r_not (b := isP x y) (hρ _ _ rfl)) rfl rfl rfl (w_n rfl) ?_
  refine TL_seq ?_
  refine T_cond rfl (fun h1 => ?_) (fun h1 => ?_)
  · replace h1 := bnot_t h1
    refine T_seq (T_region ?_)
    refine TL_q (.bool false) (fun _ _ hρ _ => r_assign (hρ _ _ rfl)) rfl rfl rfl (w_n rfl) ?_
    refine TL_seq ?_
    refine T_ret' ?_
    refine p_then_r ?_
    refine ret_of rfl (.bool false) (fun tmps w hk hm => res1 rfl (res_tmp (hk 8 _ rfl))) (fun w hm => ?_)
    exact ⟨(), trivial, congrArg Ending.returned (bool_as h1.symm), by rw [putL_no h1]; exact hm.of (lk_fresh (show lk (_ :: L) 1001 = none from hf))⟩
  · replace h1 := bnot_f h1
    refine T_skip' ?_
    refine p_seq ?_
    obtain ⟨px, py, rfl, rfl, hpx, hpy⟩ := isP_nat h1
    refine T_seq (T_draw (V := [(0, .pointer (some ⟨B, 0, none⟩)), (1, .int .i64 ((py : Nat) : Int)), (2, .int .i64 ((py * 8 : Nat) : Int)), (3, .int .i64 ((px : Nat) : Int)), (4, .int .i64 ((py * 8 + px : Nat) : Int)), (5, .agg #[.int .u8 c.r, .int .u8 c.g, .int .u8 c.b, .int .u8 c.a]), (6, .pointer (some ⟨B, 0, none⟩)), (7, .pointer (some ⟨B, 0, none⟩)), (8, .pointer (some ⟨B, 0 + (py * 8 + px) * 4, none⟩))]) [0, 0, 2, 0, 14, 0, 1, 65, 255, 511] [[(0, none)], [(2, none)], [(14, some 1)], [(1, none)], [(15, some 2), (16, some 3)], [(7, none)], [(13, some 0)], [(19, some 6)], [(20, some 7), (17, some 4)], [(21, some 8), (18, some 5)]] 512 mixed (by kernel_rfl) ?_)
    refine G_step [0, 1, 2, 3, 4, 5, 6, 7, 8] 9 [] (by kernel_rfl) (allM (all_cons (q_run (.pointer (some ⟨B, 0, none⟩)) rfl rfl (wv_n rfl) rfl (fun _ _ hρ _ => r_move (hρ _ _ rfl))) (all_cons (q_run (.int .i64 ((py : Nat) : Int)) rfl rfl (wv_n rfl) rfl (fun _ _ hρ _ => r_move (hρ _ _ rfl))) (all_cons (q_run (.int .i64 ((py * 8 : Nat) : Int)) rfl rfl (wv_n rfl) rfl (fun _ _ hρ _ => r_as (r_mul (hρ _ _ rfl) (hρ _ _ rfl)) (int_as ((wrap64 (by omega) (by omega)).trans (by omega))))) (all_cons (q_run (.int .i64 ((px : Nat) : Int)) rfl rfl (wv_n rfl) rfl (fun _ _ hρ _ => r_move (hρ _ _ rfl))) (all_cons (q_run (.int .i64 ((py * 8 + px : Nat) : Int)) rfl rfl (wv_n rfl) rfl (fun _ _ hρ _ => r_as (r_add (hρ _ _ rfl) (hρ _ _ rfl)) (int_as ((wrap64 (by omega) (by omega)).trans (by omega))))) (all_cons (q_run (.agg #[.int .u8 c.r, .int .u8 c.g, .int .u8 c.b, .int .u8 c.a]) rfl rfl (wv_n rfl) rfl (fun _ _ hρ hm => r_loadA ag23 sz23 (hρ _ _ rfl) (hm.at 1001 rfl) rfl rfl)) (all_cons (q_run (.pointer (some ⟨B, 0, none⟩)) rfl rfl (wv_n rfl) rfl (fun _ _ hρ _ => r_nilCheck (hρ _ _ rfl) rfl)) (all_cons (q_run (.pointer (some ⟨B, 0, none⟩)) rfl rfl (wv_n rfl) rfl (fun _ _ hρ _ => r_fieldAddr fl69_0 sz25 (hρ _ _ rfl))) (all_cons (q_run (.pointer (some ⟨B, 0 + (py * 8 + px) * 4, none⟩)) rfl rfl (wv_n rfl) rfl (fun _ _ hρ _ => r_indexAddrA (i := py * 8 + px) ar25 sz23 (hρ _ _ rfl) (hρ _ _ rfl) (by omega))) all_nil)))))))))) (allM (all_cons ?_ all_nil))
    refine LOb_store 900 (.cells (lst C4.cells (m.set (py * 8 + px) c)) 69) [] rfl (wv_n rfl) rfl rfl rfl (fun _ _ hρ hm => r_storeLst (u := c) sz23 (hρ _ _ rfl) (hρ _ _ rfl) (hm.at 900 rfl) C4.cells_len (lt64 hl (by omega)) rfl rfl) (by kernel_rfl) ?_
    refine G_last [] [(8, .bool false)] (by kernel_rfl) (allM all_nil) (end_old rfl rfl end_nil) ?_
    refine T_seq (T_region ?_)
    refine TL_q (.bool true) (fun _ _ hρ _ => r_assign (hρ _ _ rfl)) rfl rfl rfl (w_n rfl) ?_
    refine TL_seq ?_
    refine T_ret' ?_
    refine ret_of rfl (.bool true) (fun tmps w hk hm => res1 rfl (res_tmp (hk 8 _ rfl))) (fun w hm => ?_)
    exact ⟨(), trivial, congrArg Ending.returned (bool_as h1.symm), by rw [putL_at hpx hpy]; exact hm.of (lk_put rfl hf)⟩
end Go.Proofs.Ytmlkifojbjbpcaa
