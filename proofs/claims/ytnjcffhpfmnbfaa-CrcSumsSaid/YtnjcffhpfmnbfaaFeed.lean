/- crc: the table, and a byte fed. Printed by a program of this seat's prover. -/
import Derived.Test.YtnjcffhpfmnbfaaOnce
import Derived.Test.YtnjcffhpfmnbfaaCrcP
namespace Go.Proofs.Ytnjcffhpfmnbfaa
open Go Go.RowKit
set_option maxRecDepth 10000
theorem tbE_nat : ∀ n, n < 16 → tbE[3 + n * 1]? = some (.int .u32 ((fedN 4 (BitVec.ofNat 32 n)).toNat : Int))
  | 0, _ => by kernel_rfl
  | 1, _ => by kernel_rfl
  | 2, _ => by kernel_rfl
  | 3, _ => by kernel_rfl
  | 4, _ => by kernel_rfl
  | 5, _ => by kernel_rfl
  | 6, _ => by kernel_rfl
  | 7, _ => by kernel_rfl
  | 8, _ => by kernel_rfl
  | 9, _ => by kernel_rfl
  | 10, _ => by kernel_rfl
  | 11, _ => by kernel_rfl
  | 12, _ => by kernel_rfl
  | 13, _ => by kernel_rfl
  | 14, _ => by kernel_rfl
  | 15, _ => by kernel_rfl
  | n + 16, h => absurd h (by omega)
theorem tbE_at (x : Wd) (h : x.toNat < 16) : tbE[3 + x.toNat * 1]? = some (.int .u32 ((fedN 4 x).toNat : Int)) := by
  have := tbE_nat x.toNat h
  rwa [BitVec.ofNat_toNat, BitVec.setWidth_eq] at this
theorem and15 (x : Wd) : (x &&& 15#32).toNat < 16 := by
  rw [BitVec.toNat_and]
  exact Nat.lt_of_le_of_lt Nat.and_le_right (by decide)
abbrev tbS (d : Bool) : Array Value := match d with
  | true => tbE
  | false => tbZ

theorem fed_c (r : Wd) (w : World) : Calls Try.prog 43 #[.int .u32 (r.toNat : Int), .int .u32 0] w fun e w' => e = .returned (.int .u32 ((fed0 r).toNat : Int)) ∧ Below w.heap.size w w' := by
  refine calls_of_T (l := [.int .u32 ((r).toNat : Int), .int .u32 0]) 15 Try.func43 rfl rfl rfl ?_
  show T _ _ _ [(0, .int .u32 ((r).toNat : Int)), (1, .int .u32 0)] []
  refine T_seq (T_region ?_)
  refine TL_q (.int .u32 0) (fun _ _ hρ _ => r_assign (hρ _ _ rfl)) rfl rfl rfl (w_n rfl) ?_
  refine TL_seq ?_
  refine T_seq ?_
  refine T_seq (T_region ?_)
  refine TL_q (.int .u32 ((r).toNat : Int)) (fun _ _ hρ _ => r_move (hρ _ _ rfl)) rfl rfl rfl (w_n rfl) ?_
  refine TL_q (.int .u32 0) (fun _ _ hρ _ => r_move (hρ _ _ rfl)) rfl rfl rfl (w_n rfl) ?_
  refine TL_q (.int .u32 ((r ^^^ (0#32)).toNat : Int)) (fun _ _ hρ _ => r_xorB (k := .u32) (a := r) (b := (0#32)) rfl (hρ _ _ rfl) (hρ _ _ rfl)) rfl rfl rfl (w_n rfl) ?_
  refine TL_q (.int .u32 (((r ^^^ (0#32)) &&& (1#32)).toNat : Int)) (fun _ _ hρ _ => r_andB (k := .u32) (a := (r ^^^ (0#32))) (b := (1#32)) rfl (hρ _ _ rfl) (hρ _ _ rfl)) rfl rfl rfl (w_n rfl) ?_
  refine TL_q (.bool (decide (((r ^^^ (0#32)) &&& (1#32)) = (1#32)))) (fun _ _ hρ _ => r_as (r_eql (hρ _ _ rfl) (hρ _ _ rfl)) (bool_as (bv_dec ((r ^^^ (0#32)) &&& (1#32)) (1#32)))) rfl rfl rfl (w_n rfl) ?_
  refine TL_seq ?_
  refine T_cond rfl (fun h1 => ?_) (fun h1 => ?_)
  · replace h1 := of_decide_eq_true h1
    refine T_seq (T_region ?_)
    refine TL_q (.int .u32 ((r).toNat : Int)) (fun _ _ hρ _ => r_move (hρ _ _ rfl)) rfl rfl rfl (w_n rfl) ?_
    refine TL_q (.int .u32 ((r >>> 1).toNat : Int)) (fun _ _ hρ _ => r_shrB (k := .u32) (a := r) (n := 1) (by decide) (hρ _ _ rfl) (hρ _ _ rfl)) rfl rfl rfl (w_n rfl) ?_
    refine TL_q (.int .u32 (((r >>> 1) ^^^ (3988292384#32)).toNat : Int)) (fun _ _ hρ _ => r_xorB (k := .u32) (a := (r >>> 1)) (b := (3988292384#32)) rfl (hρ _ _ rfl) (hρ _ _ rfl)) rfl rfl rfl (w_n rfl) ?_
    refine TL_q (.int .u32 (((r >>> 1) ^^^ (3988292384#32)).toNat : Int)) (fun _ _ hρ _ => r_assign (hρ _ _ rfl)) rfl rfl rfl (w_n rfl) ?_
    refine TL_seq ?_
    refine T_ret' ?_
    refine p_then_r ?_
    refine ret_of rfl (.int .u32 (((r >>> 1) ^^^ (3988292384#32)).toNat : Int)) (fun tmps w hk hm => res1 rfl (res_tmp (hk 4 _ rfl))) (fun w hm => ?_)
    exact ⟨congrArg (fun x : Wd => Ending.returned (.int .u32 (x.toNat : Int))) (show _ = fed0 r from (if_pos ((and_one r).1 h1)).symm), hm.ext⟩
  · replace h1 := of_decide_eq_false h1
    refine T_skip' ?_
    refine p_seq ?_
    refine T_seq (T_region ?_)
    refine TL_q (.int .u32 ((r).toNat : Int)) (fun _ _ hρ _ => r_move (hρ _ _ rfl)) rfl rfl rfl (w_n rfl) ?_
    refine TL_q (.int .u32 ((r >>> 1).toNat : Int)) (fun _ _ hρ _ => r_shrB (k := .u32) (a := r) (n := 1) (by decide) (hρ _ _ rfl) (hρ _ _ rfl)) rfl rfl rfl (w_n rfl) ?_
    refine TL_q (.int .u32 ((r >>> 1).toNat : Int)) (fun _ _ hρ _ => r_assign (hρ _ _ rfl)) rfl rfl rfl (w_n rfl) ?_
    refine TL_seq ?_
    refine T_ret' ?_
    refine ret_of rfl (.int .u32 ((r >>> 1).toNat : Int)) (fun tmps w hk hm => res1 rfl (res_tmp (hk 4 _ rfl))) (fun w hm => ?_)
    exact ⟨congrArg (fun x : Wd => Ending.returned (.int .u32 (x.toNat : Int))) (show _ = fed0 r from (if_neg (fun e => h1 ((and_one r).2 e))).symm), hm.ext⟩

set_option maxHeartbeats 8000000 in
theorem rows_ht (w₀ : World) (L : Heap) (B Cc : Nat) (hi : lk L 900 = some (.blk B (.cells tbL 74))) (h901 : lk L 901 = some (.blk Cc (.cells #[.pointer (some ⟨B, 0, none⟩)] 60))) : ∀ w, MemOk w₀ L w → Calls Try.prog 42 #[.pointer (some ⟨Cc, 0, none⟩)] w (HAns w₀ (fun _ : Unit => True) (fun _ => .tuple #[]) (fun _ => (900, .blk B (.cells tbF 74)) :: L)) := by
  refine ht_of_T (l := [.pointer (some ⟨Cc, 0, none⟩)]) (L := L) 20 Try.func42 rfl rfl rfl ?_
  refine T_mem ((900, .blk B (.cells #[.int .u32 0, .int .i32 1, .int .u32 0, .int .u32 0, .int .u32 0, .int .u32 0, .int .u32 0, .int .u32 0, .int .u32 0, .int .u32 0, .int .u32 0, .int .u32 0, .int .u32 0, .int .u32 0, .int .u32 0, .int .u32 0, .int .u32 0, .int .u32 0, .int .u32 0] 74)) :: (901, .blk Cc (.cells #[.pointer (some ⟨B, 0, none⟩)] 60)) :: L) (fun _ hm => (hm.of (lk_dup h901)).of (lk_dup (show lk ((901, _) :: L) 900 = _ from (lk_cons_other _ _ (by decide)).trans hi))) ?_
  show T _ _ _ [(0, .pointer (some ⟨Cc, 0, none⟩))] ((900, .blk B (.cells #[.int .u32 0, .int .i32 1, .int .u32 0, .int .u32 0, .int .u32 0, .int .u32 0, .int .u32 0, .int .u32 0, .int .u32 0, .int .u32 0, .int .u32 0, .int .u32 0, .int .u32 0, .int .u32 0, .int .u32 0, .int .u32 0, .int .u32 0, .int .u32 0, .int .u32 0] 74)) :: (901, .blk Cc (.cells #[.pointer (some ⟨B, 0, none⟩)] 60)) :: L)
  refine T_seq (T_region ?_)
  refine TL_q (.int .i64 0) (fun _ _ hρ _ => r_move (hρ _ _ rfl)) rfl rfl rfl (w_n rfl) ?_
  refine TL_seq ?_
  refine T_block ?_
  refine T_rounds 17 ?_
  refine TR_succ ?_
  refine T_seq (T_region ?_)
  refine TL_q (.bool true) (fun _ _ hρ _ => r_as (r_lss (hρ _ _ rfl) (hρ _ _ rfl)) (by rfl)) rfl rfl rfl (w_n rfl) ?_
  refine TL_seq ?_
  refine T_seq ?_
  refine T_cond_t rfl ?_
  refine T_skip' ?_
  refine p_seq ?_
  refine T_seq ?_
  refine T_block ?_
  refine T_seq (T_region ?_)
  refine TL_q (.int .i64 0) (fun _ _ hρ _ => r_move (hρ _ _ rfl)) rfl rfl rfl (w_n rfl) ?_
  refine TL_q (.int .i64 0) (fun _ _ hρ _ => r_assign (hρ _ _ rfl)) rfl rfl rfl (w_n rfl) ?_
  refine TL_seq ?_
  refine T_seq (T_region ?_)
  refine TL_q (.int .i64 0) (fun _ _ hρ _ => r_move (hρ _ _ rfl)) rfl rfl rfl (w_n rfl) ?_
  refine TL_q (.int .u32 0) (fun _ _ hρ _ => r_as (r_conv un3 io24 (hρ _ _ rfl)) (by rfl)) rfl rfl rfl (w_n rfl) ?_
  refine TL_q (.int .u32 0) (fun _ _ hρ _ => r_assign (hρ _ _ rfl)) rfl rfl rfl (w_n rfl) ?_
  refine TL_seq ?_
  refine T_seq ?_
  refine T_seq (T_region ?_)
  refine TL_q (.int .i64 0) (fun _ _ hρ _ => r_move (hρ _ _ rfl)) rfl rfl rfl (w_n rfl) ?_
  refine TL_seq ?_
  refine T_block ?_
  refine T_rounds 5 ?_
  refine TR_succ ?_
  refine T_seq (T_region ?_)
  refine TL_q (.bool true) (fun _ _ hρ _ => r_as (r_lss (hρ _ _ rfl) (hρ _ _ rfl)) (by rfl)) rfl rfl rfl (w_n rfl) ?_
  refine TL_seq ?_
  refine T_seq ?_
  refine T_cond_t rfl ?_
  refine T_skip' ?_
  refine p_seq ?_
  refine T_seq ?_
  refine T_block ?_
  refine T_region ?_
  refine TL_q (.int .u32 0) (fun _ _ hρ _ => r_move (hρ _ _ rfl)) rfl rfl rfl (w_n rfl) ?_
  refine TL_call (.int .u32 0) (fun _ _ hρ _ => r_call (args := [.int .u32 0, .int .u32 0]) (enters_of Try.func43 (by kernel_rfl) rfl) (hρ _ _ rfl) ((cons2 (hρ _ _ rfl) (cons2 (hρ _ _ rfl) rfl))) rfl) (fun w _ => (fed_c 0#32 w).mono fun _ _ h => ⟨h.1.trans (congrArg Ending.returned (by kernel_rfl)), h.2⟩) rfl rfl rfl (w_n rfl) ?_
  refine TL_q (.int .u32 0) (fun _ _ hρ _ => r_assign (hρ _ _ rfl)) rfl rfl rfl (w_n rfl) ?_
  refine TL_nil ?_
  refine p_blk_n ?_
  refine p_seq ?_
  refine T_region ?_
  refine TL_q (.int .i64 1) (fun _ _ hρ _ => r_as (r_add (hρ _ _ rfl) (hρ _ _ rfl)) (by rfl)) rfl rfl rfl (w_n rfl) ?_
  refine TL_q (.int .i64 1) (fun _ _ hρ _ => r_move (hρ _ _ rfl)) rfl rfl rfl (w_n rfl) ?_
  refine TL_nil ?_
  refine p_round ?_
  refine TR_succ ?_
  refine T_seq (T_region ?_)
  refine TL_q (.bool true) (fun _ _ hρ _ => r_as (r_lss (hρ _ _ rfl) (hρ _ _ rfl)) (by rfl)) rfl rfl rfl (w_n rfl) ?_
  refine TL_seq ?_
  refine T_seq ?_
  refine T_cond_t rfl ?_
  refine T_skip' ?_
  refine p_seq ?_
  refine T_seq ?_
  refine T_block ?_
  refine T_region ?_
  refine TL_q (.int .u32 0) (fun _ _ hρ _ => r_move (hρ _ _ rfl)) rfl rfl rfl (w_n rfl) ?_
  refine TL_call (.int .u32 0) (fun _ _ hρ _ => r_call (args := [.int .u32 0, .int .u32 0]) (enters_of Try.func43 (by kernel_rfl) rfl) (hρ _ _ rfl) ((cons2 (hρ _ _ rfl) (cons2 (hρ _ _ rfl) rfl))) rfl) (fun w _ => (fed_c 0#32 w).mono fun _ _ h => ⟨h.1.trans (congrArg Ending.returned (by kernel_rfl)), h.2⟩) rfl rfl rfl (w_n rfl) ?_
  refine TL_q (.int .u32 0) (fun _ _ hρ _ => r_assign (hρ _ _ rfl)) rfl rfl rfl (w_n rfl) ?_
  refine TL_nil ?_
  refine p_blk_n ?_
  refine p_seq ?_
  refine T_region ?_
  refine TL_q (.int .i64 2) (fun _ _ hρ _ => r_as (r_add (hρ _ _ rfl) (hρ _ _ rfl)) (by rfl)) rfl rfl rfl (w_n rfl) ?_
  refine TL_q (.int .i64 2) (fun _ _ hρ _ => r_move (hρ _ _ rfl)) rfl rfl rfl (w_n rfl) ?_
  refine TL_nil ?_
  refine p_round ?_
  refine TR_succ ?_
  refine T_seq (T_region ?_)
  refine TL_q (.bool true) (fun _ _ hρ _ => r_as (r_lss (hρ _ _ rfl) (hρ _ _ rfl)) (by rfl)) rfl rfl rfl (w_n rfl) ?_
  refine TL_seq ?_
  refine T_seq ?_
  refine T_cond_t rfl ?_
  refine T_skip' ?_
  refine p_seq ?_
  refine T_seq ?_
  refine T_block ?_
  refine T_region ?_
  refine TL_q (.int .u32 0) (fun _ _ hρ _ => r_move (hρ _ _ rfl)) rfl rfl rfl (w_n rfl) ?_
  refine TL_call (.int .u32 0) (fun _ _ hρ _ => r_call (args := [.int .u32 0, .int .u32 0]) (enters_of Try.func43 (by kernel_rfl) rfl) (hρ _ _ rfl) ((cons2 (hρ _ _ rfl) (cons2 (hρ _ _ rfl) rfl))) rfl) (fun w _ => (fed_c 0#32 w).mono fun _ _ h => ⟨h.1.trans (congrArg Ending.returned (by kernel_rfl)), h.2⟩) rfl rfl rfl (w_n rfl) ?_
  refine TL_q (.int .u32 0) (fun _ _ hρ _ => r_assign (hρ _ _ rfl)) rfl rfl rfl (w_n rfl) ?_
  refine TL_nil ?_
  refine p_blk_n ?_
  refine p_seq ?_
  refine T_region ?_
  refine TL_q (.int .i64 3) (fun _ _ hρ _ => r_as (r_add (hρ _ _ rfl) (hρ _ _ rfl)) (by rfl)) rfl rfl rfl (w_n rfl) ?_
  refine TL_q (.int .i64 3) (fun _ _ hρ _ => r_move (hρ _ _ rfl)) rfl rfl rfl (w_n rfl) ?_
  refine TL_nil ?_
  refine p_round ?_
  refine TR_succ ?_
  refine T_seq (T_region ?_)
  refine TL_q (.bool true) (fun _ _ hρ _ => r_as (r_lss (hρ _ _ rfl) (hρ _ _ rfl)) (by rfl)) rfl rfl rfl (w_n rfl) ?_
  refine TL_seq ?_
  refine T_seq ?_
  refine T_cond_t rfl ?_
  refine T_skip' ?_
  refine p_seq ?_
  refine T_seq ?_
  refine T_block ?_
  refine T_region ?_
  refine TL_q (.int .u32 0) (fun _ _ hρ _ => r_move (hρ _ _ rfl)) rfl rfl rfl (w_n rfl) ?_
  refine TL_call (.int .u32 0) (fun _ _ hρ _ => r_call (args := [.int .u32 0, .int .u32 0]) (enters_of Try.func43 (by kernel_rfl) rfl) (hρ _ _ rfl) ((cons2 (hρ _ _ rfl) (cons2 (hρ _ _ rfl) rfl))) rfl) (fun w _ => (fed_c 0#32 w).mono fun _ _ h => ⟨h.1.trans (congrArg Ending.returned (by kernel_rfl)), h.2⟩) rfl rfl rfl (w_n rfl) ?_
  refine TL_q (.int .u32 0) (fun _ _ hρ _ => r_assign (hρ _ _ rfl)) rfl rfl rfl (w_n rfl) ?_
  refine TL_nil ?_
  refine p_blk_n ?_
  refine p_seq ?_
  refine T_region ?_
  refine TL_q (.int .i64 4) (fun _ _ hρ _ => r_as (r_add (hρ _ _ rfl) (hρ _ _ rfl)) (by rfl)) rfl rfl rfl (w_n rfl) ?_
  refine TL_q (.int .i64 4) (fun _ _ hρ _ => r_move (hρ _ _ rfl)) rfl rfl rfl (w_n rfl) ?_
  refine TL_nil ?_
  refine p_round ?_
  refine TR_succ ?_
  refine T_seq (T_region ?_)
  refine TL_q (.bool false) (fun _ _ hρ _ => r_as (r_lss (hρ _ _ rfl) (hρ _ _ rfl)) (by rfl)) rfl rfl rfl (w_n rfl) ?_
  refine TL_seq ?_
  refine T_seq ?_
  refine T_cond_f rfl ?_
  refine T_exit' ?_
  refine p_then_x ?_
  refine p_then_x ?_
  refine p_blk_x ?_
  refine p_seq ?_
  refine T_region ?_
  refine TL_q (.pointer (some ⟨B, 0, none⟩)) (fun _ _ hρ hm => r_load ag60 (hρ _ _ rfl) (hm.at 901 rfl) rfl) rfl rfl rfl (w_n rfl) ?_
  refine TL_q (.int .i64 0) (fun _ _ hρ _ => r_move (hρ _ _ rfl)) rfl rfl rfl (w_n rfl) ?_
  refine TL_q (.int .u32 0) (fun _ _ hρ _ => r_move (hρ _ _ rfl)) rfl rfl rfl (w_n rfl) ?_
  refine TL_q (.pointer (some ⟨B, 0, none⟩)) (fun _ _ hρ _ => r_nilCheck (hρ _ _ rfl) rfl) rfl rfl rfl (w_n rfl) ?_
  refine TL_q (.pointer (some ⟨B, 3, none⟩)) (fun _ _ hρ _ => r_fieldAddr fl74_1 sz72 (hρ _ _ rfl)) rfl rfl rfl (w_n rfl) ?_
  refine TL_q (.pointer (some ⟨B, 3, none⟩)) (fun _ _ hρ _ => r_indexAddrA (i := 0) ar72 sz24 (hρ _ _ rfl) (hρ _ _ rfl) (by decide)) rfl rfl rfl (w_n rfl) ?_
  refine TL_store 900 (.cells #[.int .u32 0, .int .i32 1, .int .u32 0, .int .u32 0, .int .u32 0, .int .u32 0, .int .u32 0, .int .u32 0, .int .u32 0, .int .u32 0, .int .u32 0, .int .u32 0, .int .u32 0, .int .u32 0, .int .u32 0, .int .u32 0, .int .u32 0, .int .u32 0, .int .u32 0] 74) rfl (fun _ _ hρ hm => r_store sz24 (hρ _ _ rfl) (hρ _ _ rfl) (hm.at 900 rfl) rfl rfl rfl rfl) rfl rfl (w_n rfl) ?_
  refine TL_nil ?_
  refine p_blk_n ?_
  refine p_seq ?_
  refine T_region ?_
  refine TL_q (.int .i64 1) (fun _ _ hρ _ => r_as (r_add (hρ _ _ rfl) (hρ _ _ rfl)) (by rfl)) rfl rfl rfl (w_n rfl) ?_
  refine TL_q (.int .i64 1) (fun _ _ hρ _ => r_move (hρ _ _ rfl)) rfl rfl rfl (w_n rfl) ?_
  refine TL_nil ?_
  refine p_round ?_
  refine TR_succ ?_
  refine T_seq (T_region ?_)
  refine TL_q (.bool true) (fun _ _ hρ _ => r_as (r_lss (hρ _ _ rfl) (hρ _ _ rfl)) (by rfl)) rfl rfl rfl (w_n rfl) ?_
  refine TL_seq ?_
  refine T_seq ?_
  refine T_cond_t rfl ?_
  refine T_skip' ?_
  refine p_seq ?_
  refine T_seq ?_
  refine T_block ?_
  refine T_seq (T_region ?_)
  refine TL_q (.int .i64 1) (fun _ _ hρ _ => r_move (hρ _ _ rfl)) rfl rfl rfl (w_n rfl) ?_
  refine TL_q (.int .i64 1) (fun _ _ hρ _ => r_assign (hρ _ _ rfl)) rfl rfl rfl (w_n rfl) ?_
  refine TL_seq ?_
  refine T_seq (T_region ?_)
  refine TL_q (.int .i64 1) (fun _ _ hρ _ => r_move (hρ _ _ rfl)) rfl rfl rfl (w_n rfl) ?_
  refine TL_q (.int .u32 1) (fun _ _ hρ _ => r_as (r_conv un3 io24 (hρ _ _ rfl)) (by rfl)) rfl rfl rfl (w_n rfl) ?_
  refine TL_q (.int .u32 1) (fun _ _ hρ _ => r_assign (hρ _ _ rfl)) rfl rfl rfl (w_n rfl) ?_
  refine TL_seq ?_
  refine T_seq ?_
  refine T_seq (T_region ?_)
  refine TL_q (.int .i64 0) (fun _ _ hρ _ => r_move (hρ _ _ rfl)) rfl rfl rfl (w_n rfl) ?_
  refine TL_seq ?_
  refine T_block ?_
  refine T_rounds 5 ?_
  refine TR_succ ?_
  refine T_seq (T_region ?_)
  refine TL_q (.bool true) (fun _ _ hρ _ => r_as (r_lss (hρ _ _ rfl) (hρ _ _ rfl)) (by rfl)) rfl rfl rfl (w_n rfl) ?_
  refine TL_seq ?_
  refine T_seq ?_
  refine T_cond_t rfl ?_
  refine T_skip' ?_
  refine p_seq ?_
  refine T_seq ?_
  refine T_block ?_
  refine T_region ?_
  refine TL_q (.int .u32 1) (fun _ _ hρ _ => r_move (hρ _ _ rfl)) rfl rfl rfl (w_n rfl) ?_
  refine TL_call (.int .u32 3988292384) (fun _ _ hρ _ => r_call (args := [.int .u32 1, .int .u32 0]) (enters_of Try.func43 (by kernel_rfl) rfl) (hρ _ _ rfl) ((cons2 (hρ _ _ rfl) (cons2 (hρ _ _ rfl) rfl))) rfl) (fun w _ => (fed_c 1#32 w).mono fun _ _ h => ⟨h.1.trans (congrArg Ending.returned (by kernel_rfl)), h.2⟩) rfl rfl rfl (w_n rfl) ?_
  refine TL_q (.int .u32 3988292384) (fun _ _ hρ _ => r_assign (hρ _ _ rfl)) rfl rfl rfl (w_n rfl) ?_
  refine TL_nil ?_
  refine p_blk_n ?_
  refine p_seq ?_
  refine T_region ?_
  refine TL_q (.int .i64 1) (fun _ _ hρ _ => r_as (r_add (hρ _ _ rfl) (hρ _ _ rfl)) (by rfl)) rfl rfl rfl (w_n rfl) ?_
  refine TL_q (.int .i64 1) (fun _ _ hρ _ => r_move (hρ _ _ rfl)) rfl rfl rfl (w_n rfl) ?_
  refine TL_nil ?_
  refine p_round ?_
  refine TR_succ ?_
  refine T_seq (T_region ?_)
  refine TL_q (.bool true) (fun _ _ hρ _ => r_as (r_lss (hρ _ _ rfl) (hρ _ _ rfl)) (by rfl)) rfl rfl rfl (w_n rfl) ?_
  refine TL_seq ?_
  refine T_seq ?_
  refine T_cond_t rfl ?_
  refine T_skip' ?_
  refine p_seq ?_
  refine T_seq ?_
  refine T_block ?_
  refine T_region ?_
  refine TL_q (.int .u32 3988292384) (fun _ _ hρ _ => r_move (hρ _ _ rfl)) rfl rfl rfl (w_n rfl) ?_
  refine TL_call (.int .u32 1994146192) (fun _ _ hρ _ => r_call (args := [.int .u32 3988292384, .int .u32 0]) (enters_of Try.func43 (by kernel_rfl) rfl) (hρ _ _ rfl) ((cons2 (hρ _ _ rfl) (cons2 (hρ _ _ rfl) rfl))) rfl) (fun w _ => (fed_c 3988292384#32 w).mono fun _ _ h => ⟨h.1.trans (congrArg Ending.returned (by kernel_rfl)), h.2⟩) rfl rfl rfl (w_n rfl) ?_
  refine TL_q (.int .u32 1994146192) (fun _ _ hρ _ => r_assign (hρ _ _ rfl)) rfl rfl rfl (w_n rfl) ?_
  refine TL_nil ?_
  refine p_blk_n ?_
  refine p_seq ?_
  refine T_region ?_
  refine TL_q (.int .i64 2) (fun _ _ hρ _ => r_as (r_add (hρ _ _ rfl) (hρ _ _ rfl)) (by rfl)) rfl rfl rfl (w_n rfl) ?_
  refine TL_q (.int .i64 2) (fun _ _ hρ _ => r_move (hρ _ _ rfl)) rfl rfl rfl (w_n rfl) ?_
  refine TL_nil ?_
  refine p_round ?_
  refine TR_succ ?_
  refine T_seq (T_region ?_)
  refine TL_q (.bool true) (fun _ _ hρ _ => r_as (r_lss (hρ _ _ rfl) (hρ _ _ rfl)) (by rfl)) rfl rfl rfl (w_n rfl) ?_
  refine TL_seq ?_
  refine T_seq ?_
  refine T_cond_t rfl ?_
  refine T_skip' ?_
  refine p_seq ?_
  refine T_seq ?_
  refine T_block ?_
  refine T_region ?_
  refine TL_q (.int .u32 1994146192) (fun _ _ hρ _ => r_move (hρ _ _ rfl)) rfl rfl rfl (w_n rfl) ?_
  refine TL_call (.int .u32 997073096) (fun _ _ hρ _ => r_call (args := [.int .u32 1994146192, .int .u32 0]) (enters_of Try.func43 (by kernel_rfl) rfl) (hρ _ _ rfl) ((cons2 (hρ _ _ rfl) (cons2 (hρ _ _ rfl) rfl))) rfl) (fun w _ => (fed_c 1994146192#32 w).mono fun _ _ h => ⟨h.1.trans (congrArg Ending.returned (by kernel_rfl)), h.2⟩) rfl rfl rfl (w_n rfl) ?_
  refine TL_q (.int .u32 997073096) (fun _ _ hρ _ => r_assign (hρ _ _ rfl)) rfl rfl rfl (w_n rfl) ?_
  refine TL_nil ?_
  refine p_blk_n ?_
  refine p_seq ?_
  refine T_region ?_
  refine TL_q (.int .i64 3) (fun _ _ hρ _ => r_as (r_add (hρ _ _ rfl) (hρ _ _ rfl)) (by rfl)) rfl rfl rfl (w_n rfl) ?_
  refine TL_q (.int .i64 3) (fun _ _ hρ _ => r_move (hρ _ _ rfl)) rfl rfl rfl (w_n rfl) ?_
  refine TL_nil ?_
  refine p_round ?_
  refine TR_succ ?_
  refine T_seq (T_region ?_)
  refine TL_q (.bool true) (fun _ _ hρ _ => r_as (r_lss (hρ _ _ rfl) (hρ _ _ rfl)) (by rfl)) rfl rfl rfl (w_n rfl) ?_
  refine TL_seq ?_
  refine T_seq ?_
  refine T_cond_t rfl ?_
  refine T_skip' ?_
  refine p_seq ?_
  refine T_seq ?_
  refine T_block ?_
  refine T_region ?_
  refine TL_q (.int .u32 997073096) (fun _ _ hρ _ => r_move (hρ _ _ rfl)) rfl rfl rfl (w_n rfl) ?_
  refine TL_call (.int .u32 498536548) (fun _ _ hρ _ => r_call (args := [.int .u32 997073096, .int .u32 0]) (enters_of Try.func43 (by kernel_rfl) rfl) (hρ _ _ rfl) ((cons2 (hρ _ _ rfl) (cons2 (hρ _ _ rfl) rfl))) rfl) (fun w _ => (fed_c 997073096#32 w).mono fun _ _ h => ⟨h.1.trans (congrArg Ending.returned (by kernel_rfl)), h.2⟩) rfl rfl rfl (w_n rfl) ?_
  refine TL_q (.int .u32 498536548) (fun _ _ hρ _ => r_assign (hρ _ _ rfl)) rfl rfl rfl (w_n rfl) ?_
  refine TL_nil ?_
  refine p_blk_n ?_
  refine p_seq ?_
  refine T_region ?_
  refine TL_q (.int .i64 4) (fun _ _ hρ _ => r_as (r_add (hρ _ _ rfl) (hρ _ _ rfl)) (by rfl)) rfl rfl rfl (w_n rfl) ?_
  refine TL_q (.int .i64 4) (fun _ _ hρ _ => r_move (hρ _ _ rfl)) rfl rfl rfl (w_n rfl) ?_
  refine TL_nil ?_
  refine p_round ?_
  refine TR_succ ?_
  refine T_seq (T_region ?_)
  refine TL_q (.bool false) (fun _ _ hρ _ => r_as (r_lss (hρ _ _ rfl) (hρ _ _ rfl)) (by rfl)) rfl rfl rfl (w_n rfl) ?_
  refine TL_seq ?_
  refine T_seq ?_
  refine T_cond_f rfl ?_
  refine T_exit' ?_
  refine p_then_x ?_
  refine p_then_x ?_
  refine p_blk_x ?_
  refine p_seq ?_
  refine T_region ?_
  refine TL_q (.pointer (some ⟨B, 0, none⟩)) (fun _ _ hρ hm => r_load ag60 (hρ _ _ rfl) (hm.at 901 rfl) rfl) rfl rfl rfl (w_n rfl) ?_
  refine TL_q (.int .i64 1) (fun _ _ hρ _ => r_move (hρ _ _ rfl)) rfl rfl rfl (w_n rfl) ?_
  refine TL_q (.int .u32 498536548) (fun _ _ hρ _ => r_move (hρ _ _ rfl)) rfl rfl rfl (w_n rfl) ?_
  refine TL_q (.pointer (some ⟨B, 0, none⟩)) (fun _ _ hρ _ => r_nilCheck (hρ _ _ rfl) rfl) rfl rfl rfl (w_n rfl) ?_
  refine TL_q (.pointer (some ⟨B, 3, none⟩)) (fun _ _ hρ _ => r_fieldAddr fl74_1 sz72 (hρ _ _ rfl)) rfl rfl rfl (w_n rfl) ?_
  refine TL_q (.pointer (some ⟨B, 4, none⟩)) (fun _ _ hρ _ => r_indexAddrA (i := 1) ar72 sz24 (hρ _ _ rfl) (hρ _ _ rfl) (by decide)) rfl rfl rfl (w_n rfl) ?_
  refine TL_store 900 (.cells #[.int .u32 0, .int .i32 1, .int .u32 0, .int .u32 0, .int .u32 498536548, .int .u32 0, .int .u32 0, .int .u32 0, .int .u32 0, .int .u32 0, .int .u32 0, .int .u32 0, .int .u32 0, .int .u32 0, .int .u32 0, .int .u32 0, .int .u32 0, .int .u32 0, .int .u32 0] 74) rfl (fun _ _ hρ hm => r_store sz24 (hρ _ _ rfl) (hρ _ _ rfl) (hm.at 900 rfl) rfl rfl rfl rfl) rfl rfl (w_n rfl) ?_
  refine TL_nil ?_
  refine p_blk_n ?_
  refine p_seq ?_
  refine T_region ?_
  refine TL_q (.int .i64 2) (fun _ _ hρ _ => r_as (r_add (hρ _ _ rfl) (hρ _ _ rfl)) (by rfl)) rfl rfl rfl (w_n rfl) ?_
  refine TL_q (.int .i64 2) (fun _ _ hρ _ => r_move (hρ _ _ rfl)) rfl rfl rfl (w_n rfl) ?_
  refine TL_nil ?_
  refine p_round ?_
  refine TR_succ ?_
  refine T_seq (T_region ?_)
  refine TL_q (.bool true) (fun _ _ hρ _ => r_as (r_lss (hρ _ _ rfl) (hρ _ _ rfl)) (by rfl)) rfl rfl rfl (w_n rfl) ?_
  refine TL_seq ?_
  refine T_seq ?_
  refine T_cond_t rfl ?_
  refine T_skip' ?_
  refine p_seq ?_
  refine T_seq ?_
  refine T_block ?_
  refine T_seq (T_region ?_)
  refine TL_q (.int .i64 2) (fun _ _ hρ _ => r_move (hρ _ _ rfl)) rfl rfl rfl (w_n rfl) ?_
  refine TL_q (.int .i64 2) (fun _ _ hρ _ => r_assign (hρ _ _ rfl)) rfl rfl rfl (w_n rfl) ?_
  refine TL_seq ?_
  refine T_seq (T_region ?_)
  refine TL_q (.int .i64 2) (fun _ _ hρ _ => r_move (hρ _ _ rfl)) rfl rfl rfl (w_n rfl) ?_
  refine TL_q (.int .u32 2) (fun _ _ hρ _ => r_as (r_conv un3 io24 (hρ _ _ rfl)) (by rfl)) rfl rfl rfl (w_n rfl) ?_
  refine TL_q (.int .u32 2) (fun _ _ hρ _ => r_assign (hρ _ _ rfl)) rfl rfl rfl (w_n rfl) ?_
  refine TL_seq ?_
  refine T_seq ?_
  refine T_seq (T_region ?_)
  refine TL_q (.int .i64 0) (fun _ _ hρ _ => r_move (hρ _ _ rfl)) rfl rfl rfl (w_n rfl) ?_
  refine TL_seq ?_
  refine T_block ?_
  refine T_rounds 5 ?_
  refine TR_succ ?_
  refine T_seq (T_region ?_)
  refine TL_q (.bool true) (fun _ _ hρ _ => r_as (r_lss (hρ _ _ rfl) (hρ _ _ rfl)) (by rfl)) rfl rfl rfl (w_n rfl) ?_
  refine TL_seq ?_
  refine T_seq ?_
  refine T_cond_t rfl ?_
  refine T_skip' ?_
  refine p_seq ?_
  refine T_seq ?_
  refine T_block ?_
  refine T_region ?_
  refine TL_q (.int .u32 2) (fun _ _ hρ _ => r_move (hρ _ _ rfl)) rfl rfl rfl (w_n rfl) ?_
  refine TL_call (.int .u32 1) (fun _ _ hρ _ => r_call (args := [.int .u32 2, .int .u32 0]) (enters_of Try.func43 (by kernel_rfl) rfl) (hρ _ _ rfl) ((cons2 (hρ _ _ rfl) (cons2 (hρ _ _ rfl) rfl))) rfl) (fun w _ => (fed_c 2#32 w).mono fun _ _ h => ⟨h.1.trans (congrArg Ending.returned (by kernel_rfl)), h.2⟩) rfl rfl rfl (w_n rfl) ?_
  refine TL_q (.int .u32 1) (fun _ _ hρ _ => r_assign (hρ _ _ rfl)) rfl rfl rfl (w_n rfl) ?_
  refine TL_nil ?_
  refine p_blk_n ?_
  refine p_seq ?_
  refine T_region ?_
  refine TL_q (.int .i64 1) (fun _ _ hρ _ => r_as (r_add (hρ _ _ rfl) (hρ _ _ rfl)) (by rfl)) rfl rfl rfl (w_n rfl) ?_
  refine TL_q (.int .i64 1) (fun _ _ hρ _ => r_move (hρ _ _ rfl)) rfl rfl rfl (w_n rfl) ?_
  refine TL_nil ?_
  refine p_round ?_
  refine TR_succ ?_
  refine T_seq (T_region ?_)
  refine TL_q (.bool true) (fun _ _ hρ _ => r_as (r_lss (hρ _ _ rfl) (hρ _ _ rfl)) (by rfl)) rfl rfl rfl (w_n rfl) ?_
  refine TL_seq ?_
  refine T_seq ?_
  refine T_cond_t rfl ?_
  refine T_skip' ?_
  refine p_seq ?_
  refine T_seq ?_
  refine T_block ?_
  refine T_region ?_
  refine TL_q (.int .u32 1) (fun _ _ hρ _ => r_move (hρ _ _ rfl)) rfl rfl rfl (w_n rfl) ?_
  refine TL_call (.int .u32 3988292384) (fun _ _ hρ _ => r_call (args := [.int .u32 1, .int .u32 0]) (enters_of Try.func43 (by kernel_rfl) rfl) (hρ _ _ rfl) ((cons2 (hρ _ _ rfl) (cons2 (hρ _ _ rfl) rfl))) rfl) (fun w _ => (fed_c 1#32 w).mono fun _ _ h => ⟨h.1.trans (congrArg Ending.returned (by kernel_rfl)), h.2⟩) rfl rfl rfl (w_n rfl) ?_
  refine TL_q (.int .u32 3988292384) (fun _ _ hρ _ => r_assign (hρ _ _ rfl)) rfl rfl rfl (w_n rfl) ?_
  refine TL_nil ?_
  refine p_blk_n ?_
  refine p_seq ?_
  refine T_region ?_
  refine TL_q (.int .i64 2) (fun _ _ hρ _ => r_as (r_add (hρ _ _ rfl) (hρ _ _ rfl)) (by rfl)) rfl rfl rfl (w_n rfl) ?_
  refine TL_q (.int .i64 2) (fun _ _ hρ _ => r_move (hρ _ _ rfl)) rfl rfl rfl (w_n rfl) ?_
  refine TL_nil ?_
  refine p_round ?_
  refine TR_succ ?_
  refine T_seq (T_region ?_)
  refine TL_q (.bool true) (fun _ _ hρ _ => r_as (r_lss (hρ _ _ rfl) (hρ _ _ rfl)) (by rfl)) rfl rfl rfl (w_n rfl) ?_
  refine TL_seq ?_
  refine T_seq ?_
  refine T_cond_t rfl ?_
  refine T_skip' ?_
  refine p_seq ?_
  refine T_seq ?_
  refine T_block ?_
  refine T_region ?_
  refine TL_q (.int .u32 3988292384) (fun _ _ hρ _ => r_move (hρ _ _ rfl)) rfl rfl rfl (w_n rfl) ?_
  refine TL_call (.int .u32 1994146192) (fun _ _ hρ _ => r_call (args := [.int .u32 3988292384, .int .u32 0]) (enters_of Try.func43 (by kernel_rfl) rfl) (hρ _ _ rfl) ((cons2 (hρ _ _ rfl) (cons2 (hρ _ _ rfl) rfl))) rfl) (fun w _ => (fed_c 3988292384#32 w).mono fun _ _ h => ⟨h.1.trans (congrArg Ending.returned (by kernel_rfl)), h.2⟩) rfl rfl rfl (w_n rfl) ?_
  refine TL_q (.int .u32 1994146192) (fun _ _ hρ _ => r_assign (hρ _ _ rfl)) rfl rfl rfl (w_n rfl) ?_
  refine TL_nil ?_
  refine p_blk_n ?_
  refine p_seq ?_
  refine T_region ?_
  refine TL_q (.int .i64 3) (fun _ _ hρ _ => r_as (r_add (hρ _ _ rfl) (hρ _ _ rfl)) (by rfl)) rfl rfl rfl (w_n rfl) ?_
  refine TL_q (.int .i64 3) (fun _ _ hρ _ => r_move (hρ _ _ rfl)) rfl rfl rfl (w_n rfl) ?_
  refine TL_nil ?_
  refine p_round ?_
  refine TR_succ ?_
  refine T_seq (T_region ?_)
  refine TL_q (.bool true) (fun _ _ hρ _ => r_as (r_lss (hρ _ _ rfl) (hρ _ _ rfl)) (by rfl)) rfl rfl rfl (w_n rfl) ?_
  refine TL_seq ?_
  refine T_seq ?_
  refine T_cond_t rfl ?_
  refine T_skip' ?_
  refine p_seq ?_
  refine T_seq ?_
  refine T_block ?_
  refine T_region ?_
  refine TL_q (.int .u32 1994146192) (fun _ _ hρ _ => r_move (hρ _ _ rfl)) rfl rfl rfl (w_n rfl) ?_
  refine TL_call (.int .u32 997073096) (fun _ _ hρ _ => r_call (args := [.int .u32 1994146192, .int .u32 0]) (enters_of Try.func43 (by kernel_rfl) rfl) (hρ _ _ rfl) ((cons2 (hρ _ _ rfl) (cons2 (hρ _ _ rfl) rfl))) rfl) (fun w _ => (fed_c 1994146192#32 w).mono fun _ _ h => ⟨h.1.trans (congrArg Ending.returned (by kernel_rfl)), h.2⟩) rfl rfl rfl (w_n rfl) ?_
  refine TL_q (.int .u32 997073096) (fun _ _ hρ _ => r_assign (hρ _ _ rfl)) rfl rfl rfl (w_n rfl) ?_
  refine TL_nil ?_
  refine p_blk_n ?_
  refine p_seq ?_
  refine T_region ?_
  refine TL_q (.int .i64 4) (fun _ _ hρ _ => r_as (r_add (hρ _ _ rfl) (hρ _ _ rfl)) (by rfl)) rfl rfl rfl (w_n rfl) ?_
  refine TL_q (.int .i64 4) (fun _ _ hρ _ => r_move (hρ _ _ rfl)) rfl rfl rfl (w_n rfl) ?_
  refine TL_nil ?_
  refine p_round ?_
  refine TR_succ ?_
  refine T_seq (T_region ?_)
  refine TL_q (.bool false) (fun _ _ hρ _ => r_as (r_lss (hρ _ _ rfl) (hρ _ _ rfl)) (by rfl)) rfl rfl rfl (w_n rfl) ?_
  refine TL_seq ?_
  refine T_seq ?_
  refine T_cond_f rfl ?_
  refine T_exit' ?_
  refine p_then_x ?_
  refine p_then_x ?_
  refine p_blk_x ?_
  refine p_seq ?_
  refine T_region ?_
  refine TL_q (.pointer (some ⟨B, 0, none⟩)) (fun _ _ hρ hm => r_load ag60 (hρ _ _ rfl) (hm.at 901 rfl) rfl) rfl rfl rfl (w_n rfl) ?_
  refine TL_q (.int .i64 2) (fun _ _ hρ _ => r_move (hρ _ _ rfl)) rfl rfl rfl (w_n rfl) ?_
  refine TL_q (.int .u32 997073096) (fun _ _ hρ _ => r_move (hρ _ _ rfl)) rfl rfl rfl (w_n rfl) ?_
  refine TL_q (.pointer (some ⟨B, 0, none⟩)) (fun _ _ hρ _ => r_nilCheck (hρ _ _ rfl) rfl) rfl rfl rfl (w_n rfl) ?_
  refine TL_q (.pointer (some ⟨B, 3, none⟩)) (fun _ _ hρ _ => r_fieldAddr fl74_1 sz72 (hρ _ _ rfl)) rfl rfl rfl (w_n rfl) ?_
  refine TL_q (.pointer (some ⟨B, 5, none⟩)) (fun _ _ hρ _ => r_indexAddrA (i := 2) ar72 sz24 (hρ _ _ rfl) (hρ _ _ rfl) (by decide)) rfl rfl rfl (w_n rfl) ?_
  refine TL_store 900 (.cells #[.int .u32 0, .int .i32 1, .int .u32 0, .int .u32 0, .int .u32 498536548, .int .u32 997073096, .int .u32 0, .int .u32 0, .int .u32 0, .int .u32 0, .int .u32 0, .int .u32 0, .int .u32 0, .int .u32 0, .int .u32 0, .int .u32 0, .int .u32 0, .int .u32 0, .int .u32 0] 74) rfl (fun _ _ hρ hm => r_store sz24 (hρ _ _ rfl) (hρ _ _ rfl) (hm.at 900 rfl) rfl rfl rfl rfl) rfl rfl (w_n rfl) ?_
  refine TL_nil ?_
  refine p_blk_n ?_
  refine p_seq ?_
  refine T_region ?_
  refine TL_q (.int .i64 3) (fun _ _ hρ _ => r_as (r_add (hρ _ _ rfl) (hρ _ _ rfl)) (by rfl)) rfl rfl rfl (w_n rfl) ?_
  refine TL_q (.int .i64 3) (fun _ _ hρ _ => r_move (hρ _ _ rfl)) rfl rfl rfl (w_n rfl) ?_
  refine TL_nil ?_
  refine p_round ?_
  refine TR_succ ?_
  refine T_seq (T_region ?_)
  refine TL_q (.bool true) (fun _ _ hρ _ => r_as (r_lss (hρ _ _ rfl) (hρ _ _ rfl)) (by rfl)) rfl rfl rfl (w_n rfl) ?_
  refine TL_seq ?_
  refine T_seq ?_
  refine T_cond_t rfl ?_
  refine T_skip' ?_
  refine p_seq ?_
  refine T_seq ?_
  refine T_block ?_
  refine T_seq (T_region ?_)
  refine TL_q (.int .i64 3) (fun _ _ hρ _ => r_move (hρ _ _ rfl)) rfl rfl rfl (w_n rfl) ?_
  refine TL_q (.int .i64 3) (fun _ _ hρ _ => r_assign (hρ _ _ rfl)) rfl rfl rfl (w_n rfl) ?_
  refine TL_seq ?_
  refine T_seq (T_region ?_)
  refine TL_q (.int .i64 3) (fun _ _ hρ _ => r_move (hρ _ _ rfl)) rfl rfl rfl (w_n rfl) ?_
  refine TL_q (.int .u32 3) (fun _ _ hρ _ => r_as (r_conv un3 io24 (hρ _ _ rfl)) (by rfl)) rfl rfl rfl (w_n rfl) ?_
  refine TL_q (.int .u32 3) (fun _ _ hρ _ => r_assign (hρ _ _ rfl)) rfl rfl rfl (w_n rfl) ?_
  refine TL_seq ?_
  refine T_seq ?_
  refine T_seq (T_region ?_)
  refine TL_q (.int .i64 0) (fun _ _ hρ _ => r_move (hρ _ _ rfl)) rfl rfl rfl (w_n rfl) ?_
  refine TL_seq ?_
  refine T_block ?_
  refine T_rounds 5 ?_
  refine TR_succ ?_
  refine T_seq (T_region ?_)
  refine TL_q (.bool true) (fun _ _ hρ _ => r_as (r_lss (hρ _ _ rfl) (hρ _ _ rfl)) (by rfl)) rfl rfl rfl (w_n rfl) ?_
  refine TL_seq ?_
  refine T_seq ?_
  refine T_cond_t rfl ?_
  refine T_skip' ?_
  refine p_seq ?_
  refine T_seq ?_
  refine T_block ?_
  refine T_region ?_
  refine TL_q (.int .u32 3) (fun _ _ hρ _ => r_move (hρ _ _ rfl)) rfl rfl rfl (w_n rfl) ?_
  refine TL_call (.int .u32 3988292385) (fun _ _ hρ _ => r_call (args := [.int .u32 3, .int .u32 0]) (enters_of Try.func43 (by kernel_rfl) rfl) (hρ _ _ rfl) ((cons2 (hρ _ _ rfl) (cons2 (hρ _ _ rfl) rfl))) rfl) (fun w _ => (fed_c 3#32 w).mono fun _ _ h => ⟨h.1.trans (congrArg Ending.returned (by kernel_rfl)), h.2⟩) rfl rfl rfl (w_n rfl) ?_
  refine TL_q (.int .u32 3988292385) (fun _ _ hρ _ => r_assign (hρ _ _ rfl)) rfl rfl rfl (w_n rfl) ?_
  refine TL_nil ?_
  refine p_blk_n ?_
  refine p_seq ?_
  refine T_region ?_
  refine TL_q (.int .i64 1) (fun _ _ hρ _ => r_as (r_add (hρ _ _ rfl) (hρ _ _ rfl)) (by rfl)) rfl rfl rfl (w_n rfl) ?_
  refine TL_q (.int .i64 1) (fun _ _ hρ _ => r_move (hρ _ _ rfl)) rfl rfl rfl (w_n rfl) ?_
  refine TL_nil ?_
  refine p_round ?_
  refine TR_succ ?_
  refine T_seq (T_region ?_)
  refine TL_q (.bool true) (fun _ _ hρ _ => r_as (r_lss (hρ _ _ rfl) (hρ _ _ rfl)) (by rfl)) rfl rfl rfl (w_n rfl) ?_
  refine TL_seq ?_
  refine T_seq ?_
  refine T_cond_t rfl ?_
  refine T_skip' ?_
  refine p_seq ?_
  refine T_seq ?_
  refine T_block ?_
  refine T_region ?_
  refine TL_q (.int .u32 3988292385) (fun _ _ hρ _ => r_move (hρ _ _ rfl)) rfl rfl rfl (w_n rfl) ?_
  refine TL_call (.int .u32 2607071920) (fun _ _ hρ _ => r_call (args := [.int .u32 3988292385, .int .u32 0]) (enters_of Try.func43 (by kernel_rfl) rfl) (hρ _ _ rfl) ((cons2 (hρ _ _ rfl) (cons2 (hρ _ _ rfl) rfl))) rfl) (fun w _ => (fed_c 3988292385#32 w).mono fun _ _ h => ⟨h.1.trans (congrArg Ending.returned (by kernel_rfl)), h.2⟩) rfl rfl rfl (w_n rfl) ?_
  refine TL_q (.int .u32 2607071920) (fun _ _ hρ _ => r_assign (hρ _ _ rfl)) rfl rfl rfl (w_n rfl) ?_
  refine TL_nil ?_
  refine p_blk_n ?_
  refine p_seq ?_
  refine T_region ?_
  refine TL_q (.int .i64 2) (fun _ _ hρ _ => r_as (r_add (hρ _ _ rfl) (hρ _ _ rfl)) (by rfl)) rfl rfl rfl (w_n rfl) ?_
  refine TL_q (.int .i64 2) (fun _ _ hρ _ => r_move (hρ _ _ rfl)) rfl rfl rfl (w_n rfl) ?_
  refine TL_nil ?_
  refine p_round ?_
  refine TR_succ ?_
  refine T_seq (T_region ?_)
  refine TL_q (.bool true) (fun _ _ hρ _ => r_as (r_lss (hρ _ _ rfl) (hρ _ _ rfl)) (by rfl)) rfl rfl rfl (w_n rfl) ?_
  refine TL_seq ?_
  refine T_seq ?_
  refine T_cond_t rfl ?_
  refine T_skip' ?_
  refine p_seq ?_
  refine T_seq ?_
  refine T_block ?_
  refine T_region ?_
  refine TL_q (.int .u32 2607071920) (fun _ _ hρ _ => r_move (hρ _ _ rfl)) rfl rfl rfl (w_n rfl) ?_
  refine TL_call (.int .u32 1303535960) (fun _ _ hρ _ => r_call (args := [.int .u32 2607071920, .int .u32 0]) (enters_of Try.func43 (by kernel_rfl) rfl) (hρ _ _ rfl) ((cons2 (hρ _ _ rfl) (cons2 (hρ _ _ rfl) rfl))) rfl) (fun w _ => (fed_c 2607071920#32 w).mono fun _ _ h => ⟨h.1.trans (congrArg Ending.returned (by kernel_rfl)), h.2⟩) rfl rfl rfl (w_n rfl) ?_
  refine TL_q (.int .u32 1303535960) (fun _ _ hρ _ => r_assign (hρ _ _ rfl)) rfl rfl rfl (w_n rfl) ?_
  refine TL_nil ?_
  refine p_blk_n ?_
  refine p_seq ?_
  refine T_region ?_
  refine TL_q (.int .i64 3) (fun _ _ hρ _ => r_as (r_add (hρ _ _ rfl) (hρ _ _ rfl)) (by rfl)) rfl rfl rfl (w_n rfl) ?_
  refine TL_q (.int .i64 3) (fun _ _ hρ _ => r_move (hρ _ _ rfl)) rfl rfl rfl (w_n rfl) ?_
  refine TL_nil ?_
  refine p_round ?_
  refine TR_succ ?_
  refine T_seq (T_region ?_)
  refine TL_q (.bool true) (fun _ _ hρ _ => r_as (r_lss (hρ _ _ rfl) (hρ _ _ rfl)) (by rfl)) rfl rfl rfl (w_n rfl) ?_
  refine TL_seq ?_
  refine T_seq ?_
  refine T_cond_t rfl ?_
  refine T_skip' ?_
  refine p_seq ?_
  refine T_seq ?_
  refine T_block ?_
  refine T_region ?_
  refine TL_q (.int .u32 1303535960) (fun _ _ hρ _ => r_move (hρ _ _ rfl)) rfl rfl rfl (w_n rfl) ?_
  refine TL_call (.int .u32 651767980) (fun _ _ hρ _ => r_call (args := [.int .u32 1303535960, .int .u32 0]) (enters_of Try.func43 (by kernel_rfl) rfl) (hρ _ _ rfl) ((cons2 (hρ _ _ rfl) (cons2 (hρ _ _ rfl) rfl))) rfl) (fun w _ => (fed_c 1303535960#32 w).mono fun _ _ h => ⟨h.1.trans (congrArg Ending.returned (by kernel_rfl)), h.2⟩) rfl rfl rfl (w_n rfl) ?_
  refine TL_q (.int .u32 651767980) (fun _ _ hρ _ => r_assign (hρ _ _ rfl)) rfl rfl rfl (w_n rfl) ?_
  refine TL_nil ?_
  refine p_blk_n ?_
  refine p_seq ?_
  refine T_region ?_
  refine TL_q (.int .i64 4) (fun _ _ hρ _ => r_as (r_add (hρ _ _ rfl) (hρ _ _ rfl)) (by rfl)) rfl rfl rfl (w_n rfl) ?_
  refine TL_q (.int .i64 4) (fun _ _ hρ _ => r_move (hρ _ _ rfl)) rfl rfl rfl (w_n rfl) ?_
  refine TL_nil ?_
  refine p_round ?_
  refine TR_succ ?_
  refine T_seq (T_region ?_)
  refine TL_q (.bool false) (fun _ _ hρ _ => r_as (r_lss (hρ _ _ rfl) (hρ _ _ rfl)) (by rfl)) rfl rfl rfl (w_n rfl) ?_
  refine TL_seq ?_
  refine T_seq ?_
  refine T_cond_f rfl ?_
  refine T_exit' ?_
  refine p_then_x ?_
  refine p_then_x ?_
  refine p_blk_x ?_
  refine p_seq ?_
  refine T_region ?_
  refine TL_q (.pointer (some ⟨B, 0, none⟩)) (fun _ _ hρ hm => r_load ag60 (hρ _ _ rfl) (hm.at 901 rfl) rfl) rfl rfl rfl (w_n rfl) ?_
  refine TL_q (.int .i64 3) (fun _ _ hρ _ => r_move (hρ _ _ rfl)) rfl rfl rfl (w_n rfl) ?_
  refine TL_q (.int .u32 651767980) (fun _ _ hρ _ => r_move (hρ _ _ rfl)) rfl rfl rfl (w_n rfl) ?_
  refine TL_q (.pointer (some ⟨B, 0, none⟩)) (fun _ _ hρ _ => r_nilCheck (hρ _ _ rfl) rfl) rfl rfl rfl (w_n rfl) ?_
  refine TL_q (.pointer (some ⟨B, 3, none⟩)) (fun _ _ hρ _ => r_fieldAddr fl74_1 sz72 (hρ _ _ rfl)) rfl rfl rfl (w_n rfl) ?_
  refine TL_q (.pointer (some ⟨B, 6, none⟩)) (fun _ _ hρ _ => r_indexAddrA (i := 3) ar72 sz24 (hρ _ _ rfl) (hρ _ _ rfl) (by decide)) rfl rfl rfl (w_n rfl) ?_
  refine TL_store 900 (.cells #[.int .u32 0, .int .i32 1, .int .u32 0, .int .u32 0, .int .u32 498536548, .int .u32 997073096, .int .u32 651767980, .int .u32 0, .int .u32 0, .int .u32 0, .int .u32 0, .int .u32 0, .int .u32 0, .int .u32 0, .int .u32 0, .int .u32 0, .int .u32 0, .int .u32 0, .int .u32 0] 74) rfl (fun _ _ hρ hm => r_store sz24 (hρ _ _ rfl) (hρ _ _ rfl) (hm.at 900 rfl) rfl rfl rfl rfl) rfl rfl (w_n rfl) ?_
  refine TL_nil ?_
  refine p_blk_n ?_
  refine p_seq ?_
  refine T_region ?_
  refine TL_q (.int .i64 4) (fun _ _ hρ _ => r_as (r_add (hρ _ _ rfl) (hρ _ _ rfl)) (by rfl)) rfl rfl rfl (w_n rfl) ?_
  refine TL_q (.int .i64 4) (fun _ _ hρ _ => r_move (hρ _ _ rfl)) rfl rfl rfl (w_n rfl) ?_
  refine TL_nil ?_
  refine p_round ?_
  refine TR_succ ?_
  refine T_seq (T_region ?_)
  refine TL_q (.bool true) (fun _ _ hρ _ => r_as (r_lss (hρ _ _ rfl) (hρ _ _ rfl)) (by rfl)) rfl rfl rfl (w_n rfl) ?_
  refine TL_seq ?_
  refine T_seq ?_
  refine T_cond_t rfl ?_
  refine T_skip' ?_
  refine p_seq ?_
  refine T_seq ?_
  refine T_block ?_
  refine T_seq (T_region ?_)
  refine TL_q (.int .i64 4) (fun _ _ hρ _ => r_move (hρ _ _ rfl)) rfl rfl rfl (w_n rfl) ?_
  refine TL_q (.int .i64 4) (fun _ _ hρ _ => r_assign (hρ _ _ rfl)) rfl rfl rfl (w_n rfl) ?_
  refine TL_seq ?_
  refine T_seq (T_region ?_)
  refine TL_q (.int .i64 4) (fun _ _ hρ _ => r_move (hρ _ _ rfl)) rfl rfl rfl (w_n rfl) ?_
  refine TL_q (.int .u32 4) (fun _ _ hρ _ => r_as (r_conv un3 io24 (hρ _ _ rfl)) (by rfl)) rfl rfl rfl (w_n rfl) ?_
  refine TL_q (.int .u32 4) (fun _ _ hρ _ => r_assign (hρ _ _ rfl)) rfl rfl rfl (w_n rfl) ?_
  refine TL_seq ?_
  refine T_seq ?_
  refine T_seq (T_region ?_)
  refine TL_q (.int .i64 0) (fun _ _ hρ _ => r_move (hρ _ _ rfl)) rfl rfl rfl (w_n rfl) ?_
  refine TL_seq ?_
  refine T_block ?_
  refine T_rounds 5 ?_
  refine TR_succ ?_
  refine T_seq (T_region ?_)
  refine TL_q (.bool true) (fun _ _ hρ _ => r_as (r_lss (hρ _ _ rfl) (hρ _ _ rfl)) (by rfl)) rfl rfl rfl (w_n rfl) ?_
  refine TL_seq ?_
  refine T_seq ?_
  refine T_cond_t rfl ?_
  refine T_skip' ?_
  refine p_seq ?_
  refine T_seq ?_
  refine T_block ?_
  refine T_region ?_
  refine TL_q (.int .u32 4) (fun _ _ hρ _ => r_move (hρ _ _ rfl)) rfl rfl rfl (w_n rfl) ?_
  refine TL_call (.int .u32 2) (fun _ _ hρ _ => r_call (args := [.int .u32 4, .int .u32 0]) (enters_of Try.func43 (by kernel_rfl) rfl) (hρ _ _ rfl) ((cons2 (hρ _ _ rfl) (cons2 (hρ _ _ rfl) rfl))) rfl) (fun w _ => (fed_c 4#32 w).mono fun _ _ h => ⟨h.1.trans (congrArg Ending.returned (by kernel_rfl)), h.2⟩) rfl rfl rfl (w_n rfl) ?_
  refine TL_q (.int .u32 2) (fun _ _ hρ _ => r_assign (hρ _ _ rfl)) rfl rfl rfl (w_n rfl) ?_
  refine TL_nil ?_
  refine p_blk_n ?_
  refine p_seq ?_
  refine T_region ?_
  refine TL_q (.int .i64 1) (fun _ _ hρ _ => r_as (r_add (hρ _ _ rfl) (hρ _ _ rfl)) (by rfl)) rfl rfl rfl (w_n rfl) ?_
  refine TL_q (.int .i64 1) (fun _ _ hρ _ => r_move (hρ _ _ rfl)) rfl rfl rfl (w_n rfl) ?_
  refine TL_nil ?_
  refine p_round ?_
  refine TR_succ ?_
  refine T_seq (T_region ?_)
  refine TL_q (.bool true) (fun _ _ hρ _ => r_as (r_lss (hρ _ _ rfl) (hρ _ _ rfl)) (by rfl)) rfl rfl rfl (w_n rfl) ?_
  refine TL_seq ?_
  refine T_seq ?_
  refine T_cond_t rfl ?_
  refine T_skip' ?_
  refine p_seq ?_
  refine T_seq ?_
  refine T_block ?_
  refine T_region ?_
  refine TL_q (.int .u32 2) (fun _ _ hρ _ => r_move (hρ _ _ rfl)) rfl rfl rfl (w_n rfl) ?_
  refine TL_call (.int .u32 1) (fun _ _ hρ _ => r_call (args := [.int .u32 2, .int .u32 0]) (enters_of Try.func43 (by kernel_rfl) rfl) (hρ _ _ rfl) ((cons2 (hρ _ _ rfl) (cons2 (hρ _ _ rfl) rfl))) rfl) (fun w _ => (fed_c 2#32 w).mono fun _ _ h => ⟨h.1.trans (congrArg Ending.returned (by kernel_rfl)), h.2⟩) rfl rfl rfl (w_n rfl) ?_
  refine TL_q (.int .u32 1) (fun _ _ hρ _ => r_assign (hρ _ _ rfl)) rfl rfl rfl (w_n rfl) ?_
  refine TL_nil ?_
  refine p_blk_n ?_
  refine p_seq ?_
  refine T_region ?_
  refine TL_q (.int .i64 2) (fun _ _ hρ _ => r_as (r_add (hρ _ _ rfl) (hρ _ _ rfl)) (by rfl)) rfl rfl rfl (w_n rfl) ?_
  refine TL_q (.int .i64 2) (fun _ _ hρ _ => r_move (hρ _ _ rfl)) rfl rfl rfl (w_n rfl) ?_
  refine TL_nil ?_
  refine p_round ?_
  refine TR_succ ?_
  refine T_seq (T_region ?_)
  refine TL_q (.bool true) (fun _ _ hρ _ => r_as (r_lss (hρ _ _ rfl) (hρ _ _ rfl)) (by rfl)) rfl rfl rfl (w_n rfl) ?_
  refine TL_seq ?_
  refine T_seq ?_
  refine T_cond_t rfl ?_
  refine T_skip' ?_
  refine p_seq ?_
  refine T_seq ?_
  refine T_block ?_
  refine T_region ?_
  refine TL_q (.int .u32 1) (fun _ _ hρ _ => r_move (hρ _ _ rfl)) rfl rfl rfl (w_n rfl) ?_
  refine TL_call (.int .u32 3988292384) (fun _ _ hρ _ => r_call (args := [.int .u32 1, .int .u32 0]) (enters_of Try.func43 (by kernel_rfl) rfl) (hρ _ _ rfl) ((cons2 (hρ _ _ rfl) (cons2 (hρ _ _ rfl) rfl))) rfl) (fun w _ => (fed_c 1#32 w).mono fun _ _ h => ⟨h.1.trans (congrArg Ending.returned (by kernel_rfl)), h.2⟩) rfl rfl rfl (w_n rfl) ?_
  refine TL_q (.int .u32 3988292384) (fun _ _ hρ _ => r_assign (hρ _ _ rfl)) rfl rfl rfl (w_n rfl) ?_
  refine TL_nil ?_
  refine p_blk_n ?_
  refine p_seq ?_
  refine T_region ?_
  refine TL_q (.int .i64 3) (fun _ _ hρ _ => r_as (r_add (hρ _ _ rfl) (hρ _ _ rfl)) (by rfl)) rfl rfl rfl (w_n rfl) ?_
  refine TL_q (.int .i64 3) (fun _ _ hρ _ => r_move (hρ _ _ rfl)) rfl rfl rfl (w_n rfl) ?_
  refine TL_nil ?_
  refine p_round ?_
  refine TR_succ ?_
  refine T_seq (T_region ?_)
  refine TL_q (.bool true) (fun _ _ hρ _ => r_as (r_lss (hρ _ _ rfl) (hρ _ _ rfl)) (by rfl)) rfl rfl rfl (w_n rfl) ?_
  refine TL_seq ?_
  refine T_seq ?_
  refine T_cond_t rfl ?_
  refine T_skip' ?_
  refine p_seq ?_
  refine T_seq ?_
  refine T_block ?_
  refine T_region ?_
  refine TL_q (.int .u32 3988292384) (fun _ _ hρ _ => r_move (hρ _ _ rfl)) rfl rfl rfl (w_n rfl) ?_
  refine TL_call (.int .u32 1994146192) (fun _ _ hρ _ => r_call (args := [.int .u32 3988292384, .int .u32 0]) (enters_of Try.func43 (by kernel_rfl) rfl) (hρ _ _ rfl) ((cons2 (hρ _ _ rfl) (cons2 (hρ _ _ rfl) rfl))) rfl) (fun w _ => (fed_c 3988292384#32 w).mono fun _ _ h => ⟨h.1.trans (congrArg Ending.returned (by kernel_rfl)), h.2⟩) rfl rfl rfl (w_n rfl) ?_
  refine TL_q (.int .u32 1994146192) (fun _ _ hρ _ => r_assign (hρ _ _ rfl)) rfl rfl rfl (w_n rfl) ?_
  refine TL_nil ?_
  refine p_blk_n ?_
  refine p_seq ?_
  refine T_region ?_
  refine TL_q (.int .i64 4) (fun _ _ hρ _ => r_as (r_add (hρ _ _ rfl) (hρ _ _ rfl)) (by rfl)) rfl rfl rfl (w_n rfl) ?_
  refine TL_q (.int .i64 4) (fun _ _ hρ _ => r_move (hρ _ _ rfl)) rfl rfl rfl (w_n rfl) ?_
  refine TL_nil ?_
  refine p_round ?_
  refine TR_succ ?_
  refine T_seq (T_region ?_)
  refine TL_q (.bool false) (fun _ _ hρ _ => r_as (r_lss (hρ _ _ rfl) (hρ _ _ rfl)) (by rfl)) rfl rfl rfl (w_n rfl) ?_
  refine TL_seq ?_
  refine T_seq ?_
  refine T_cond_f rfl ?_
  refine T_exit' ?_
  refine p_then_x ?_
  refine p_then_x ?_
  refine p_blk_x ?_
  refine p_seq ?_
  refine T_region ?_
  refine TL_q (.pointer (some ⟨B, 0, none⟩)) (fun _ _ hρ hm => r_load ag60 (hρ _ _ rfl) (hm.at 901 rfl) rfl) rfl rfl rfl (w_n rfl) ?_
  refine TL_q (.int .i64 4) (fun _ _ hρ _ => r_move (hρ _ _ rfl)) rfl rfl rfl (w_n rfl) ?_
  refine TL_q (.int .u32 1994146192) (fun _ _ hρ _ => r_move (hρ _ _ rfl)) rfl rfl rfl (w_n rfl) ?_
  refine TL_q (.pointer (some ⟨B, 0, none⟩)) (fun _ _ hρ _ => r_nilCheck (hρ _ _ rfl) rfl) rfl rfl rfl (w_n rfl) ?_
  refine TL_q (.pointer (some ⟨B, 3, none⟩)) (fun _ _ hρ _ => r_fieldAddr fl74_1 sz72 (hρ _ _ rfl)) rfl rfl rfl (w_n rfl) ?_
  refine TL_q (.pointer (some ⟨B, 7, none⟩)) (fun _ _ hρ _ => r_indexAddrA (i := 4) ar72 sz24 (hρ _ _ rfl) (hρ _ _ rfl) (by decide)) rfl rfl rfl (w_n rfl) ?_
  refine TL_store 900 (.cells #[.int .u32 0, .int .i32 1, .int .u32 0, .int .u32 0, .int .u32 498536548, .int .u32 997073096, .int .u32 651767980, .int .u32 1994146192, .int .u32 0, .int .u32 0, .int .u32 0, .int .u32 0, .int .u32 0, .int .u32 0, .int .u32 0, .int .u32 0, .int .u32 0, .int .u32 0, .int .u32 0] 74) rfl (fun _ _ hρ hm => r_store sz24 (hρ _ _ rfl) (hρ _ _ rfl) (hm.at 900 rfl) rfl rfl rfl rfl) rfl rfl (w_n rfl) ?_
  refine TL_nil ?_
  refine p_blk_n ?_
  refine p_seq ?_
  refine T_region ?_
  refine TL_q (.int .i64 5) (fun _ _ hρ _ => r_as (r_add (hρ _ _ rfl) (hρ _ _ rfl)) (by rfl)) rfl rfl rfl (w_n rfl) ?_
  refine TL_q (.int .i64 5) (fun _ _ hρ _ => r_move (hρ _ _ rfl)) rfl rfl rfl (w_n rfl) ?_
  refine TL_nil ?_
  refine p_round ?_
  refine TR_succ ?_
  refine T_seq (T_region ?_)
  refine TL_q (.bool true) (fun _ _ hρ _ => r_as (r_lss (hρ _ _ rfl) (hρ _ _ rfl)) (by rfl)) rfl rfl rfl (w_n rfl) ?_
  refine TL_seq ?_
  refine T_seq ?_
  refine T_cond_t rfl ?_
  refine T_skip' ?_
  refine p_seq ?_
  refine T_seq ?_
  refine T_block ?_
  refine T_seq (T_region ?_)
  refine TL_q (.int .i64 5) (fun _ _ hρ _ => r_move (hρ _ _ rfl)) rfl rfl rfl (w_n rfl) ?_
  refine TL_q (.int .i64 5) (fun _ _ hρ _ => r_assign (hρ _ _ rfl)) rfl rfl rfl (w_n rfl) ?_
  refine TL_seq ?_
  refine T_seq (T_region ?_)
  refine TL_q (.int .i64 5) (fun _ _ hρ _ => r_move (hρ _ _ rfl)) rfl rfl rfl (w_n rfl) ?_
  refine TL_q (.int .u32 5) (fun _ _ hρ _ => r_as (r_conv un3 io24 (hρ _ _ rfl)) (by rfl)) rfl rfl rfl (w_n rfl) ?_
  refine TL_q (.int .u32 5) (fun _ _ hρ _ => r_assign (hρ _ _ rfl)) rfl rfl rfl (w_n rfl) ?_
  refine TL_seq ?_
  refine T_seq ?_
  refine T_seq (T_region ?_)
  refine TL_q (.int .i64 0) (fun _ _ hρ _ => r_move (hρ _ _ rfl)) rfl rfl rfl (w_n rfl) ?_
  refine TL_seq ?_
  refine T_block ?_
  refine T_rounds 5 ?_
  refine TR_succ ?_
  refine T_seq (T_region ?_)
  refine TL_q (.bool true) (fun _ _ hρ _ => r_as (r_lss (hρ _ _ rfl) (hρ _ _ rfl)) (by rfl)) rfl rfl rfl (w_n rfl) ?_
  refine TL_seq ?_
  refine T_seq ?_
  refine T_cond_t rfl ?_
  refine T_skip' ?_
  refine p_seq ?_
  refine T_seq ?_
  refine T_block ?_
  refine T_region ?_
  refine TL_q (.int .u32 5) (fun _ _ hρ _ => r_move (hρ _ _ rfl)) rfl rfl rfl (w_n rfl) ?_
  refine TL_call (.int .u32 3988292386) (fun _ _ hρ _ => r_call (args := [.int .u32 5, .int .u32 0]) (enters_of Try.func43 (by kernel_rfl) rfl) (hρ _ _ rfl) ((cons2 (hρ _ _ rfl) (cons2 (hρ _ _ rfl) rfl))) rfl) (fun w _ => (fed_c 5#32 w).mono fun _ _ h => ⟨h.1.trans (congrArg Ending.returned (by kernel_rfl)), h.2⟩) rfl rfl rfl (w_n rfl) ?_
  refine TL_q (.int .u32 3988292386) (fun _ _ hρ _ => r_assign (hρ _ _ rfl)) rfl rfl rfl (w_n rfl) ?_
  refine TL_nil ?_
  refine p_blk_n ?_
  refine p_seq ?_
  refine T_region ?_
  refine TL_q (.int .i64 1) (fun _ _ hρ _ => r_as (r_add (hρ _ _ rfl) (hρ _ _ rfl)) (by rfl)) rfl rfl rfl (w_n rfl) ?_
  refine TL_q (.int .i64 1) (fun _ _ hρ _ => r_move (hρ _ _ rfl)) rfl rfl rfl (w_n rfl) ?_
  refine TL_nil ?_
  refine p_round ?_
  refine TR_succ ?_
  refine T_seq (T_region ?_)
  refine TL_q (.bool true) (fun _ _ hρ _ => r_as (r_lss (hρ _ _ rfl) (hρ _ _ rfl)) (by rfl)) rfl rfl rfl (w_n rfl) ?_
  refine TL_seq ?_
  refine T_seq ?_
  refine T_cond_t rfl ?_
  refine T_skip' ?_
  refine p_seq ?_
  refine T_seq ?_
  refine T_block ?_
  refine T_region ?_
  refine TL_q (.int .u32 3988292386) (fun _ _ hρ _ => r_move (hρ _ _ rfl)) rfl rfl rfl (w_n rfl) ?_
  refine TL_call (.int .u32 1994146193) (fun _ _ hρ _ => r_call (args := [.int .u32 3988292386, .int .u32 0]) (enters_of Try.func43 (by kernel_rfl) rfl) (hρ _ _ rfl) ((cons2 (hρ _ _ rfl) (cons2 (hρ _ _ rfl) rfl))) rfl) (fun w _ => (fed_c 3988292386#32 w).mono fun _ _ h => ⟨h.1.trans (congrArg Ending.returned (by kernel_rfl)), h.2⟩) rfl rfl rfl (w_n rfl) ?_
  refine TL_q (.int .u32 1994146193) (fun _ _ hρ _ => r_assign (hρ _ _ rfl)) rfl rfl rfl (w_n rfl) ?_
  refine TL_nil ?_
  refine p_blk_n ?_
  refine p_seq ?_
  refine T_region ?_
  refine TL_q (.int .i64 2) (fun _ _ hρ _ => r_as (r_add (hρ _ _ rfl) (hρ _ _ rfl)) (by rfl)) rfl rfl rfl (w_n rfl) ?_
  refine TL_q (.int .i64 2) (fun _ _ hρ _ => r_move (hρ _ _ rfl)) rfl rfl rfl (w_n rfl) ?_
  refine TL_nil ?_
  refine p_round ?_
  refine TR_succ ?_
  refine T_seq (T_region ?_)
  refine TL_q (.bool true) (fun _ _ hρ _ => r_as (r_lss (hρ _ _ rfl) (hρ _ _ rfl)) (by rfl)) rfl rfl rfl (w_n rfl) ?_
  refine TL_seq ?_
  refine T_seq ?_
  refine T_cond_t rfl ?_
  refine T_skip' ?_
  refine p_seq ?_
  refine T_seq ?_
  refine T_block ?_
  refine T_region ?_
  refine TL_q (.int .u32 1994146193) (fun _ _ hρ _ => r_move (hρ _ _ rfl)) rfl rfl rfl (w_n rfl) ?_
  refine TL_call (.int .u32 3604390888) (fun _ _ hρ _ => r_call (args := [.int .u32 1994146193, .int .u32 0]) (enters_of Try.func43 (by kernel_rfl) rfl) (hρ _ _ rfl) ((cons2 (hρ _ _ rfl) (cons2 (hρ _ _ rfl) rfl))) rfl) (fun w _ => (fed_c 1994146193#32 w).mono fun _ _ h => ⟨h.1.trans (congrArg Ending.returned (by kernel_rfl)), h.2⟩) rfl rfl rfl (w_n rfl) ?_
  refine TL_q (.int .u32 3604390888) (fun _ _ hρ _ => r_assign (hρ _ _ rfl)) rfl rfl rfl (w_n rfl) ?_
  refine TL_nil ?_
  refine p_blk_n ?_
  refine p_seq ?_
  refine T_region ?_
  refine TL_q (.int .i64 3) (fun _ _ hρ _ => r_as (r_add (hρ _ _ rfl) (hρ _ _ rfl)) (by rfl)) rfl rfl rfl (w_n rfl) ?_
  refine TL_q (.int .i64 3) (fun _ _ hρ _ => r_move (hρ _ _ rfl)) rfl rfl rfl (w_n rfl) ?_
  refine TL_nil ?_
  refine p_round ?_
  refine TR_succ ?_
  refine T_seq (T_region ?_)
  refine TL_q (.bool true) (fun _ _ hρ _ => r_as (r_lss (hρ _ _ rfl) (hρ _ _ rfl)) (by rfl)) rfl rfl rfl (w_n rfl) ?_
  refine TL_seq ?_
  refine T_seq ?_
  refine T_cond_t rfl ?_
  refine T_skip' ?_
  refine p_seq ?_
  refine T_seq ?_
  refine T_block ?_
  refine T_region ?_
  refine TL_q (.int .u32 3604390888) (fun _ _ hρ _ => r_move (hρ _ _ rfl)) rfl rfl rfl (w_n rfl) ?_
  refine TL_call (.int .u32 1802195444) (fun _ _ hρ _ => r_call (args := [.int .u32 3604390888, .int .u32 0]) (enters_of Try.func43 (by kernel_rfl) rfl) (hρ _ _ rfl) ((cons2 (hρ _ _ rfl) (cons2 (hρ _ _ rfl) rfl))) rfl) (fun w _ => (fed_c 3604390888#32 w).mono fun _ _ h => ⟨h.1.trans (congrArg Ending.returned (by kernel_rfl)), h.2⟩) rfl rfl rfl (w_n rfl) ?_
  refine TL_q (.int .u32 1802195444) (fun _ _ hρ _ => r_assign (hρ _ _ rfl)) rfl rfl rfl (w_n rfl) ?_
  refine TL_nil ?_
  refine p_blk_n ?_
  refine p_seq ?_
  refine T_region ?_
  refine TL_q (.int .i64 4) (fun _ _ hρ _ => r_as (r_add (hρ _ _ rfl) (hρ _ _ rfl)) (by rfl)) rfl rfl rfl (w_n rfl) ?_
  refine TL_q (.int .i64 4) (fun _ _ hρ _ => r_move (hρ _ _ rfl)) rfl rfl rfl (w_n rfl) ?_
  refine TL_nil ?_
  refine p_round ?_
  refine TR_succ ?_
  refine T_seq (T_region ?_)
  refine TL_q (.bool false) (fun _ _ hρ _ => r_as (r_lss (hρ _ _ rfl) (hρ _ _ rfl)) (by rfl)) rfl rfl rfl (w_n rfl) ?_
  refine TL_seq ?_
  refine T_seq ?_
  refine T_cond_f rfl ?_
  refine T_exit' ?_
  refine p_then_x ?_
  refine p_then_x ?_
  refine p_blk_x ?_
  refine p_seq ?_
  refine T_region ?_
  refine TL_q (.pointer (some ⟨B, 0, none⟩)) (fun _ _ hρ hm => r_load ag60 (hρ _ _ rfl) (hm.at 901 rfl) rfl) rfl rfl rfl (w_n rfl) ?_
  refine TL_q (.int .i64 5) (fun _ _ hρ _ => r_move (hρ _ _ rfl)) rfl rfl rfl (w_n rfl) ?_
  refine TL_q (.int .u32 1802195444) (fun _ _ hρ _ => r_move (hρ _ _ rfl)) rfl rfl rfl (w_n rfl) ?_
  refine TL_q (.pointer (some ⟨B, 0, none⟩)) (fun _ _ hρ _ => r_nilCheck (hρ _ _ rfl) rfl) rfl rfl rfl (w_n rfl) ?_
  refine TL_q (.pointer (some ⟨B, 3, none⟩)) (fun _ _ hρ _ => r_fieldAddr fl74_1 sz72 (hρ _ _ rfl)) rfl rfl rfl (w_n rfl) ?_
  refine TL_q (.pointer (some ⟨B, 8, none⟩)) (fun _ _ hρ _ => r_indexAddrA (i := 5) ar72 sz24 (hρ _ _ rfl) (hρ _ _ rfl) (by decide)) rfl rfl rfl (w_n rfl) ?_
  refine TL_store 900 (.cells #[.int .u32 0, .int .i32 1, .int .u32 0, .int .u32 0, .int .u32 498536548, .int .u32 997073096, .int .u32 651767980, .int .u32 1994146192, .int .u32 1802195444, .int .u32 0, .int .u32 0, .int .u32 0, .int .u32 0, .int .u32 0, .int .u32 0, .int .u32 0, .int .u32 0, .int .u32 0, .int .u32 0] 74) rfl (fun _ _ hρ hm => r_store sz24 (hρ _ _ rfl) (hρ _ _ rfl) (hm.at 900 rfl) rfl rfl rfl rfl) rfl rfl (w_n rfl) ?_
  refine TL_nil ?_
  refine p_blk_n ?_
  refine p_seq ?_
  refine T_region ?_
  refine TL_q (.int .i64 6) (fun _ _ hρ _ => r_as (r_add (hρ _ _ rfl) (hρ _ _ rfl)) (by rfl)) rfl rfl rfl (w_n rfl) ?_
  refine TL_q (.int .i64 6) (fun _ _ hρ _ => r_move (hρ _ _ rfl)) rfl rfl rfl (w_n rfl) ?_
  refine TL_nil ?_
  refine p_round ?_
  refine TR_succ ?_
  refine T_seq (T_region ?_)
  refine TL_q (.bool true) (fun _ _ hρ _ => r_as (r_lss (hρ _ _ rfl) (hρ _ _ rfl)) (by rfl)) rfl rfl rfl (w_n rfl) ?_
  refine TL_seq ?_
  refine T_seq ?_
  refine T_cond_t rfl ?_
  refine T_skip' ?_
  refine p_seq ?_
  refine T_seq ?_
  refine T_block ?_
  refine T_seq (T_region ?_)
  refine TL_q (.int .i64 6) (fun _ _ hρ _ => r_move (hρ _ _ rfl)) rfl rfl rfl (w_n rfl) ?_
  refine TL_q (.int .i64 6) (fun _ _ hρ _ => r_assign (hρ _ _ rfl)) rfl rfl rfl (w_n rfl) ?_
  refine TL_seq ?_
  refine T_seq (T_region ?_)
  refine TL_q (.int .i64 6) (fun _ _ hρ _ => r_move (hρ _ _ rfl)) rfl rfl rfl (w_n rfl) ?_
  refine TL_q (.int .u32 6) (fun _ _ hρ _ => r_as (r_conv un3 io24 (hρ _ _ rfl)) (by rfl)) rfl rfl rfl (w_n rfl) ?_
  refine TL_q (.int .u32 6) (fun _ _ hρ _ => r_assign (hρ _ _ rfl)) rfl rfl rfl (w_n rfl) ?_
  refine TL_seq ?_
  refine T_seq ?_
  refine T_seq (T_region ?_)
  refine TL_q (.int .i64 0) (fun _ _ hρ _ => r_move (hρ _ _ rfl)) rfl rfl rfl (w_n rfl) ?_
  refine TL_seq ?_
  refine T_block ?_
  refine T_rounds 5 ?_
  refine TR_succ ?_
  refine T_seq (T_region ?_)
  refine TL_q (.bool true) (fun _ _ hρ _ => r_as (r_lss (hρ _ _ rfl) (hρ _ _ rfl)) (by rfl)) rfl rfl rfl (w_n rfl) ?_
  refine TL_seq ?_
  refine T_seq ?_
  refine T_cond_t rfl ?_
  refine T_skip' ?_
  refine p_seq ?_
  refine T_seq ?_
  refine T_block ?_
  refine T_region ?_
  refine TL_q (.int .u32 6) (fun _ _ hρ _ => r_move (hρ _ _ rfl)) rfl rfl rfl (w_n rfl) ?_
  refine TL_call (.int .u32 3) (fun _ _ hρ _ => r_call (args := [.int .u32 6, .int .u32 0]) (enters_of Try.func43 (by kernel_rfl) rfl) (hρ _ _ rfl) ((cons2 (hρ _ _ rfl) (cons2 (hρ _ _ rfl) rfl))) rfl) (fun w _ => (fed_c 6#32 w).mono fun _ _ h => ⟨h.1.trans (congrArg Ending.returned (by kernel_rfl)), h.2⟩) rfl rfl rfl (w_n rfl) ?_
  refine TL_q (.int .u32 3) (fun _ _ hρ _ => r_assign (hρ _ _ rfl)) rfl rfl rfl (w_n rfl) ?_
  refine TL_nil ?_
  refine p_blk_n ?_
  refine p_seq ?_
  refine T_region ?_
  refine TL_q (.int .i64 1) (fun _ _ hρ _ => r_as (r_add (hρ _ _ rfl) (hρ _ _ rfl)) (by rfl)) rfl rfl rfl (w_n rfl) ?_
  refine TL_q (.int .i64 1) (fun _ _ hρ _ => r_move (hρ _ _ rfl)) rfl rfl rfl (w_n rfl) ?_
  refine TL_nil ?_
  refine p_round ?_
  refine TR_succ ?_
  refine T_seq (T_region ?_)
  refine TL_q (.bool true) (fun _ _ hρ _ => r_as (r_lss (hρ _ _ rfl) (hρ _ _ rfl)) (by rfl)) rfl rfl rfl (w_n rfl) ?_
  refine TL_seq ?_
  refine T_seq ?_
  refine T_cond_t rfl ?_
  refine T_skip' ?_
  refine p_seq ?_
  refine T_seq ?_
  refine T_block ?_
  refine T_region ?_
  refine TL_q (.int .u32 3) (fun _ _ hρ _ => r_move (hρ _ _ rfl)) rfl rfl rfl (w_n rfl) ?_
  refine TL_call (.int .u32 3988292385) (fun _ _ hρ _ => r_call (args := [.int .u32 3, .int .u32 0]) (enters_of Try.func43 (by kernel_rfl) rfl) (hρ _ _ rfl) ((cons2 (hρ _ _ rfl) (cons2 (hρ _ _ rfl) rfl))) rfl) (fun w _ => (fed_c 3#32 w).mono fun _ _ h => ⟨h.1.trans (congrArg Ending.returned (by kernel_rfl)), h.2⟩) rfl rfl rfl (w_n rfl) ?_
  refine TL_q (.int .u32 3988292385) (fun _ _ hρ _ => r_assign (hρ _ _ rfl)) rfl rfl rfl (w_n rfl) ?_
  refine TL_nil ?_
  refine p_blk_n ?_
  refine p_seq ?_
  refine T_region ?_
  refine TL_q (.int .i64 2) (fun _ _ hρ _ => r_as (r_add (hρ _ _ rfl) (hρ _ _ rfl)) (by rfl)) rfl rfl rfl (w_n rfl) ?_
  refine TL_q (.int .i64 2) (fun _ _ hρ _ => r_move (hρ _ _ rfl)) rfl rfl rfl (w_n rfl) ?_
  refine TL_nil ?_
  refine p_round ?_
  refine TR_succ ?_
  refine T_seq (T_region ?_)
  refine TL_q (.bool true) (fun _ _ hρ _ => r_as (r_lss (hρ _ _ rfl) (hρ _ _ rfl)) (by rfl)) rfl rfl rfl (w_n rfl) ?_
  refine TL_seq ?_
  refine T_seq ?_
  refine T_cond_t rfl ?_
  refine T_skip' ?_
  refine p_seq ?_
  refine T_seq ?_
  refine T_block ?_
  refine T_region ?_
  refine TL_q (.int .u32 3988292385) (fun _ _ hρ _ => r_move (hρ _ _ rfl)) rfl rfl rfl (w_n rfl) ?_
  refine TL_call (.int .u32 2607071920) (fun _ _ hρ _ => r_call (args := [.int .u32 3988292385, .int .u32 0]) (enters_of Try.func43 (by kernel_rfl) rfl) (hρ _ _ rfl) ((cons2 (hρ _ _ rfl) (cons2 (hρ _ _ rfl) rfl))) rfl) (fun w _ => (fed_c 3988292385#32 w).mono fun _ _ h => ⟨h.1.trans (congrArg Ending.returned (by kernel_rfl)), h.2⟩) rfl rfl rfl (w_n rfl) ?_
  refine TL_q (.int .u32 2607071920) (fun _ _ hρ _ => r_assign (hρ _ _ rfl)) rfl rfl rfl (w_n rfl) ?_
  refine TL_nil ?_
  refine p_blk_n ?_
  refine p_seq ?_
  refine T_region ?_
  refine TL_q (.int .i64 3) (fun _ _ hρ _ => r_as (r_add (hρ _ _ rfl) (hρ _ _ rfl)) (by rfl)) rfl rfl rfl (w_n rfl) ?_
  refine TL_q (.int .i64 3) (fun _ _ hρ _ => r_move (hρ _ _ rfl)) rfl rfl rfl (w_n rfl) ?_
  refine TL_nil ?_
  refine p_round ?_
  refine TR_succ ?_
  refine T_seq (T_region ?_)
  refine TL_q (.bool true) (fun _ _ hρ _ => r_as (r_lss (hρ _ _ rfl) (hρ _ _ rfl)) (by rfl)) rfl rfl rfl (w_n rfl) ?_
  refine TL_seq ?_
  refine T_seq ?_
  refine T_cond_t rfl ?_
  refine T_skip' ?_
  refine p_seq ?_
  refine T_seq ?_
  refine T_block ?_
  refine T_region ?_
  refine TL_q (.int .u32 2607071920) (fun _ _ hρ _ => r_move (hρ _ _ rfl)) rfl rfl rfl (w_n rfl) ?_
  refine TL_call (.int .u32 1303535960) (fun _ _ hρ _ => r_call (args := [.int .u32 2607071920, .int .u32 0]) (enters_of Try.func43 (by kernel_rfl) rfl) (hρ _ _ rfl) ((cons2 (hρ _ _ rfl) (cons2 (hρ _ _ rfl) rfl))) rfl) (fun w _ => (fed_c 2607071920#32 w).mono fun _ _ h => ⟨h.1.trans (congrArg Ending.returned (by kernel_rfl)), h.2⟩) rfl rfl rfl (w_n rfl) ?_
  refine TL_q (.int .u32 1303535960) (fun _ _ hρ _ => r_assign (hρ _ _ rfl)) rfl rfl rfl (w_n rfl) ?_
  refine TL_nil ?_
  refine p_blk_n ?_
  refine p_seq ?_
  refine T_region ?_
  refine TL_q (.int .i64 4) (fun _ _ hρ _ => r_as (r_add (hρ _ _ rfl) (hρ _ _ rfl)) (by rfl)) rfl rfl rfl (w_n rfl) ?_
  refine TL_q (.int .i64 4) (fun _ _ hρ _ => r_move (hρ _ _ rfl)) rfl rfl rfl (w_n rfl) ?_
  refine TL_nil ?_
  refine p_round ?_
  refine TR_succ ?_
  refine T_seq (T_region ?_)
  refine TL_q (.bool false) (fun _ _ hρ _ => r_as (r_lss (hρ _ _ rfl) (hρ _ _ rfl)) (by rfl)) rfl rfl rfl (w_n rfl) ?_
  refine TL_seq ?_
  refine T_seq ?_
  refine T_cond_f rfl ?_
  refine T_exit' ?_
  refine p_then_x ?_
  refine p_then_x ?_
  refine p_blk_x ?_
  refine p_seq ?_
  refine T_region ?_
  refine TL_q (.pointer (some ⟨B, 0, none⟩)) (fun _ _ hρ hm => r_load ag60 (hρ _ _ rfl) (hm.at 901 rfl) rfl) rfl rfl rfl (w_n rfl) ?_
  refine TL_q (.int .i64 6) (fun _ _ hρ _ => r_move (hρ _ _ rfl)) rfl rfl rfl (w_n rfl) ?_
  refine TL_q (.int .u32 1303535960) (fun _ _ hρ _ => r_move (hρ _ _ rfl)) rfl rfl rfl (w_n rfl) ?_
  refine TL_q (.pointer (some ⟨B, 0, none⟩)) (fun _ _ hρ _ => r_nilCheck (hρ _ _ rfl) rfl) rfl rfl rfl (w_n rfl) ?_
  refine TL_q (.pointer (some ⟨B, 3, none⟩)) (fun _ _ hρ _ => r_fieldAddr fl74_1 sz72 (hρ _ _ rfl)) rfl rfl rfl (w_n rfl) ?_
  refine TL_q (.pointer (some ⟨B, 9, none⟩)) (fun _ _ hρ _ => r_indexAddrA (i := 6) ar72 sz24 (hρ _ _ rfl) (hρ _ _ rfl) (by decide)) rfl rfl rfl (w_n rfl) ?_
  refine TL_store 900 (.cells #[.int .u32 0, .int .i32 1, .int .u32 0, .int .u32 0, .int .u32 498536548, .int .u32 997073096, .int .u32 651767980, .int .u32 1994146192, .int .u32 1802195444, .int .u32 1303535960, .int .u32 0, .int .u32 0, .int .u32 0, .int .u32 0, .int .u32 0, .int .u32 0, .int .u32 0, .int .u32 0, .int .u32 0] 74) rfl (fun _ _ hρ hm => r_store sz24 (hρ _ _ rfl) (hρ _ _ rfl) (hm.at 900 rfl) rfl rfl rfl rfl) rfl rfl (w_n rfl) ?_
  refine TL_nil ?_
  refine p_blk_n ?_
  refine p_seq ?_
  refine T_region ?_
  refine TL_q (.int .i64 7) (fun _ _ hρ _ => r_as (r_add (hρ _ _ rfl) (hρ _ _ rfl)) (by rfl)) rfl rfl rfl (w_n rfl) ?_
  refine TL_q (.int .i64 7) (fun _ _ hρ _ => r_move (hρ _ _ rfl)) rfl rfl rfl (w_n rfl) ?_
  refine TL_nil ?_
  refine p_round ?_
  refine TR_succ ?_
  refine T_seq (T_region ?_)
  refine TL_q (.bool true) (fun _ _ hρ _ => r_as (r_lss (hρ _ _ rfl) (hρ _ _ rfl)) (by rfl)) rfl rfl rfl (w_n rfl) ?_
  refine TL_seq ?_
  refine T_seq ?_
  refine T_cond_t rfl ?_
  refine T_skip' ?_
  refine p_seq ?_
  refine T_seq ?_
  refine T_block ?_
  refine T_seq (T_region ?_)
  refine TL_q (.int .i64 7) (fun _ _ hρ _ => r_move (hρ _ _ rfl)) rfl rfl rfl (w_n rfl) ?_
  refine TL_q (.int .i64 7) (fun _ _ hρ _ => r_assign (hρ _ _ rfl)) rfl rfl rfl (w_n rfl) ?_
  refine TL_seq ?_
  refine T_seq (T_region ?_)
  refine TL_q (.int .i64 7) (fun _ _ hρ _ => r_move (hρ _ _ rfl)) rfl rfl rfl (w_n rfl) ?_
  refine TL_q (.int .u32 7) (fun _ _ hρ _ => r_as (r_conv un3 io24 (hρ _ _ rfl)) (by rfl)) rfl rfl rfl (w_n rfl) ?_
  refine TL_q (.int .u32 7) (fun _ _ hρ _ => r_assign (hρ _ _ rfl)) rfl rfl rfl (w_n rfl) ?_
  refine TL_seq ?_
  refine T_seq ?_
  refine T_seq (T_region ?_)
  refine TL_q (.int .i64 0) (fun _ _ hρ _ => r_move (hρ _ _ rfl)) rfl rfl rfl (w_n rfl) ?_
  refine TL_seq ?_
  refine T_block ?_
  refine T_rounds 5 ?_
  refine TR_succ ?_
  refine T_seq (T_region ?_)
  refine TL_q (.bool true) (fun _ _ hρ _ => r_as (r_lss (hρ _ _ rfl) (hρ _ _ rfl)) (by rfl)) rfl rfl rfl (w_n rfl) ?_
  refine TL_seq ?_
  refine T_seq ?_
  refine T_cond_t rfl ?_
  refine T_skip' ?_
  refine p_seq ?_
  refine T_seq ?_
  refine T_block ?_
  refine T_region ?_
  refine TL_q (.int .u32 7) (fun _ _ hρ _ => r_move (hρ _ _ rfl)) rfl rfl rfl (w_n rfl) ?_
  refine TL_call (.int .u32 3988292387) (fun _ _ hρ _ => r_call (args := [.int .u32 7, .int .u32 0]) (enters_of Try.func43 (by kernel_rfl) rfl) (hρ _ _ rfl) ((cons2 (hρ _ _ rfl) (cons2 (hρ _ _ rfl) rfl))) rfl) (fun w _ => (fed_c 7#32 w).mono fun _ _ h => ⟨h.1.trans (congrArg Ending.returned (by kernel_rfl)), h.2⟩) rfl rfl rfl (w_n rfl) ?_
  refine TL_q (.int .u32 3988292387) (fun _ _ hρ _ => r_assign (hρ _ _ rfl)) rfl rfl rfl (w_n rfl) ?_
  refine TL_nil ?_
  refine p_blk_n ?_
  refine p_seq ?_
  refine T_region ?_
  refine TL_q (.int .i64 1) (fun _ _ hρ _ => r_as (r_add (hρ _ _ rfl) (hρ _ _ rfl)) (by rfl)) rfl rfl rfl (w_n rfl) ?_
  refine TL_q (.int .i64 1) (fun _ _ hρ _ => r_move (hρ _ _ rfl)) rfl rfl rfl (w_n rfl) ?_
  refine TL_nil ?_
  refine p_round ?_
  refine TR_succ ?_
  refine T_seq (T_region ?_)
  refine TL_q (.bool true) (fun _ _ hρ _ => r_as (r_lss (hρ _ _ rfl) (hρ _ _ rfl)) (by rfl)) rfl rfl rfl (w_n rfl) ?_
  refine TL_seq ?_
  refine T_seq ?_
  refine T_cond_t rfl ?_
  refine T_skip' ?_
  refine p_seq ?_
  refine T_seq ?_
  refine T_block ?_
  refine T_region ?_
  refine TL_q (.int .u32 3988292387) (fun _ _ hρ _ => r_move (hρ _ _ rfl)) rfl rfl rfl (w_n rfl) ?_
  refine TL_call (.int .u32 2607071921) (fun _ _ hρ _ => r_call (args := [.int .u32 3988292387, .int .u32 0]) (enters_of Try.func43 (by kernel_rfl) rfl) (hρ _ _ rfl) ((cons2 (hρ _ _ rfl) (cons2 (hρ _ _ rfl) rfl))) rfl) (fun w _ => (fed_c 3988292387#32 w).mono fun _ _ h => ⟨h.1.trans (congrArg Ending.returned (by kernel_rfl)), h.2⟩) rfl rfl rfl (w_n rfl) ?_
  refine TL_q (.int .u32 2607071921) (fun _ _ hρ _ => r_assign (hρ _ _ rfl)) rfl rfl rfl (w_n rfl) ?_
  refine TL_nil ?_
  refine p_blk_n ?_
  refine p_seq ?_
  refine T_region ?_
  refine TL_q (.int .i64 2) (fun _ _ hρ _ => r_as (r_add (hρ _ _ rfl) (hρ _ _ rfl)) (by rfl)) rfl rfl rfl (w_n rfl) ?_
  refine TL_q (.int .i64 2) (fun _ _ hρ _ => r_move (hρ _ _ rfl)) rfl rfl rfl (w_n rfl) ?_
  refine TL_nil ?_
  refine p_round ?_
  refine TR_succ ?_
  refine T_seq (T_region ?_)
  refine TL_q (.bool true) (fun _ _ hρ _ => r_as (r_lss (hρ _ _ rfl) (hρ _ _ rfl)) (by rfl)) rfl rfl rfl (w_n rfl) ?_
  refine TL_seq ?_
  refine T_seq ?_
  refine T_cond_t rfl ?_
  refine T_skip' ?_
  refine p_seq ?_
  refine T_seq ?_
  refine T_block ?_
  refine T_region ?_
  refine TL_q (.int .u32 2607071921) (fun _ _ hρ _ => r_move (hρ _ _ rfl)) rfl rfl rfl (w_n rfl) ?_
  refine TL_call (.int .u32 2685067896) (fun _ _ hρ _ => r_call (args := [.int .u32 2607071921, .int .u32 0]) (enters_of Try.func43 (by kernel_rfl) rfl) (hρ _ _ rfl) ((cons2 (hρ _ _ rfl) (cons2 (hρ _ _ rfl) rfl))) rfl) (fun w _ => (fed_c 2607071921#32 w).mono fun _ _ h => ⟨h.1.trans (congrArg Ending.returned (by kernel_rfl)), h.2⟩) rfl rfl rfl (w_n rfl) ?_
  refine TL_q (.int .u32 2685067896) (fun _ _ hρ _ => r_assign (hρ _ _ rfl)) rfl rfl rfl (w_n rfl) ?_
  refine TL_nil ?_
  refine p_blk_n ?_
  refine p_seq ?_
  refine T_region ?_
  refine TL_q (.int .i64 3) (fun _ _ hρ _ => r_as (r_add (hρ _ _ rfl) (hρ _ _ rfl)) (by rfl)) rfl rfl rfl (w_n rfl) ?_
  refine TL_q (.int .i64 3) (fun _ _ hρ _ => r_move (hρ _ _ rfl)) rfl rfl rfl (w_n rfl) ?_
  refine TL_nil ?_
  refine p_round ?_
  refine TR_succ ?_
  refine T_seq (T_region ?_)
  refine TL_q (.bool true) (fun _ _ hρ _ => r_as (r_lss (hρ _ _ rfl) (hρ _ _ rfl)) (by rfl)) rfl rfl rfl (w_n rfl) ?_
  refine TL_seq ?_
  refine T_seq ?_
  refine T_cond_t rfl ?_
  refine T_skip' ?_
  refine p_seq ?_
  refine T_seq ?_
  refine T_block ?_
  refine T_region ?_
  refine TL_q (.int .u32 2685067896) (fun _ _ hρ _ => r_move (hρ _ _ rfl)) rfl rfl rfl (w_n rfl) ?_
  refine TL_call (.int .u32 1342533948) (fun _ _ hρ _ => r_call (args := [.int .u32 2685067896, .int .u32 0]) (enters_of Try.func43 (by kernel_rfl) rfl) (hρ _ _ rfl) ((cons2 (hρ _ _ rfl) (cons2 (hρ _ _ rfl) rfl))) rfl) (fun w _ => (fed_c 2685067896#32 w).mono fun _ _ h => ⟨h.1.trans (congrArg Ending.returned (by kernel_rfl)), h.2⟩) rfl rfl rfl (w_n rfl) ?_
  refine TL_q (.int .u32 1342533948) (fun _ _ hρ _ => r_assign (hρ _ _ rfl)) rfl rfl rfl (w_n rfl) ?_
  refine TL_nil ?_
  refine p_blk_n ?_
  refine p_seq ?_
  refine T_region ?_
  refine TL_q (.int .i64 4) (fun _ _ hρ _ => r_as (r_add (hρ _ _ rfl) (hρ _ _ rfl)) (by rfl)) rfl rfl rfl (w_n rfl) ?_
  refine TL_q (.int .i64 4) (fun _ _ hρ _ => r_move (hρ _ _ rfl)) rfl rfl rfl (w_n rfl) ?_
  refine TL_nil ?_
  refine p_round ?_
  refine TR_succ ?_
  refine T_seq (T_region ?_)
  refine TL_q (.bool false) (fun _ _ hρ _ => r_as (r_lss (hρ _ _ rfl) (hρ _ _ rfl)) (by rfl)) rfl rfl rfl (w_n rfl) ?_
  refine TL_seq ?_
  refine T_seq ?_
  refine T_cond_f rfl ?_
  refine T_exit' ?_
  refine p_then_x ?_
  refine p_then_x ?_
  refine p_blk_x ?_
  refine p_seq ?_
  refine T_region ?_
  refine TL_q (.pointer (some ⟨B, 0, none⟩)) (fun _ _ hρ hm => r_load ag60 (hρ _ _ rfl) (hm.at 901 rfl) rfl) rfl rfl rfl (w_n rfl) ?_
  refine TL_q (.int .i64 7) (fun _ _ hρ _ => r_move (hρ _ _ rfl)) rfl rfl rfl (w_n rfl) ?_
  refine TL_q (.int .u32 1342533948) (fun _ _ hρ _ => r_move (hρ _ _ rfl)) rfl rfl rfl (w_n rfl) ?_
  refine TL_q (.pointer (some ⟨B, 0, none⟩)) (fun _ _ hρ _ => r_nilCheck (hρ _ _ rfl) rfl) rfl rfl rfl (w_n rfl) ?_
  refine TL_q (.pointer (some ⟨B, 3, none⟩)) (fun _ _ hρ _ => r_fieldAddr fl74_1 sz72 (hρ _ _ rfl)) rfl rfl rfl (w_n rfl) ?_
  refine TL_q (.pointer (some ⟨B, 10, none⟩)) (fun _ _ hρ _ => r_indexAddrA (i := 7) ar72 sz24 (hρ _ _ rfl) (hρ _ _ rfl) (by decide)) rfl rfl rfl (w_n rfl) ?_
  refine TL_store 900 (.cells #[.int .u32 0, .int .i32 1, .int .u32 0, .int .u32 0, .int .u32 498536548, .int .u32 997073096, .int .u32 651767980, .int .u32 1994146192, .int .u32 1802195444, .int .u32 1303535960, .int .u32 1342533948, .int .u32 0, .int .u32 0, .int .u32 0, .int .u32 0, .int .u32 0, .int .u32 0, .int .u32 0, .int .u32 0] 74) rfl (fun _ _ hρ hm => r_store sz24 (hρ _ _ rfl) (hρ _ _ rfl) (hm.at 900 rfl) rfl rfl rfl rfl) rfl rfl (w_n rfl) ?_
  refine TL_nil ?_
  refine p_blk_n ?_
  refine p_seq ?_
  refine T_region ?_
  refine TL_q (.int .i64 8) (fun _ _ hρ _ => r_as (r_add (hρ _ _ rfl) (hρ _ _ rfl)) (by rfl)) rfl rfl rfl (w_n rfl) ?_
  refine TL_q (.int .i64 8) (fun _ _ hρ _ => r_move (hρ _ _ rfl)) rfl rfl rfl (w_n rfl) ?_
  refine TL_nil ?_
  refine p_round ?_
  refine TR_succ ?_
  refine T_seq (T_region ?_)
  refine TL_q (.bool true) (fun _ _ hρ _ => r_as (r_lss (hρ _ _ rfl) (hρ _ _ rfl)) (by rfl)) rfl rfl rfl (w_n rfl) ?_
  refine TL_seq ?_
  refine T_seq ?_
  refine T_cond_t rfl ?_
  refine T_skip' ?_
  refine p_seq ?_
  refine T_seq ?_
  refine T_block ?_
  refine T_seq (T_region ?_)
  refine TL_q (.int .i64 8) (fun _ _ hρ _ => r_move (hρ _ _ rfl)) rfl rfl rfl (w_n rfl) ?_
  refine TL_q (.int .i64 8) (fun _ _ hρ _ => r_assign (hρ _ _ rfl)) rfl rfl rfl (w_n rfl) ?_
  refine TL_seq ?_
  refine T_seq (T_region ?_)
  refine TL_q (.int .i64 8) (fun _ _ hρ _ => r_move (hρ _ _ rfl)) rfl rfl rfl (w_n rfl) ?_
  refine TL_q (.int .u32 8) (fun _ _ hρ _ => r_as (r_conv un3 io24 (hρ _ _ rfl)) (by rfl)) rfl rfl rfl (w_n rfl) ?_
  refine TL_q (.int .u32 8) (fun _ _ hρ _ => r_assign (hρ _ _ rfl)) rfl rfl rfl (w_n rfl) ?_
  refine TL_seq ?_
  refine T_seq ?_
  refine T_seq (T_region ?_)
  refine TL_q (.int .i64 0) (fun _ _ hρ _ => r_move (hρ _ _ rfl)) rfl rfl rfl (w_n rfl) ?_
  refine TL_seq ?_
  refine T_block ?_
  refine T_rounds 5 ?_
  refine TR_succ ?_
  refine T_seq (T_region ?_)
  refine TL_q (.bool true) (fun _ _ hρ _ => r_as (r_lss (hρ _ _ rfl) (hρ _ _ rfl)) (by rfl)) rfl rfl rfl (w_n rfl) ?_
  refine TL_seq ?_
  refine T_seq ?_
  refine T_cond_t rfl ?_
  refine T_skip' ?_
  refine p_seq ?_
  refine T_seq ?_
  refine T_block ?_
  refine T_region ?_
  refine TL_q (.int .u32 8) (fun _ _ hρ _ => r_move (hρ _ _ rfl)) rfl rfl rfl (w_n rfl) ?_
  refine TL_call (.int .u32 4) (fun _ _ hρ _ => r_call (args := [.int .u32 8, .int .u32 0]) (enters_of Try.func43 (by kernel_rfl) rfl) (hρ _ _ rfl) ((cons2 (hρ _ _ rfl) (cons2 (hρ _ _ rfl) rfl))) rfl) (fun w _ => (fed_c 8#32 w).mono fun _ _ h => ⟨h.1.trans (congrArg Ending.returned (by kernel_rfl)), h.2⟩) rfl rfl rfl (w_n rfl) ?_
  refine TL_q (.int .u32 4) (fun _ _ hρ _ => r_assign (hρ _ _ rfl)) rfl rfl rfl (w_n rfl) ?_
  refine TL_nil ?_
  refine p_blk_n ?_
  refine p_seq ?_
  refine T_region ?_
  refine TL_q (.int .i64 1) (fun _ _ hρ _ => r_as (r_add (hρ _ _ rfl) (hρ _ _ rfl)) (by rfl)) rfl rfl rfl (w_n rfl) ?_
  refine TL_q (.int .i64 1) (fun _ _ hρ _ => r_move (hρ _ _ rfl)) rfl rfl rfl (w_n rfl) ?_
  refine TL_nil ?_
  refine p_round ?_
  refine TR_succ ?_
  refine T_seq (T_region ?_)
  refine TL_q (.bool true) (fun _ _ hρ _ => r_as (r_lss (hρ _ _ rfl) (hρ _ _ rfl)) (by rfl)) rfl rfl rfl (w_n rfl) ?_
  refine TL_seq ?_
  refine T_seq ?_
  refine T_cond_t rfl ?_
  refine T_skip' ?_
  refine p_seq ?_
  refine T_seq ?_
  refine T_block ?_
  refine T_region ?_
  refine TL_q (.int .u32 4) (fun _ _ hρ _ => r_move (hρ _ _ rfl)) rfl rfl rfl (w_n rfl) ?_
  refine TL_call (.int .u32 2) (fun _ _ hρ _ => r_call (args := [.int .u32 4, .int .u32 0]) (enters_of Try.func43 (by kernel_rfl) rfl) (hρ _ _ rfl) ((cons2 (hρ _ _ rfl) (cons2 (hρ _ _ rfl) rfl))) rfl) (fun w _ => (fed_c 4#32 w).mono fun _ _ h => ⟨h.1.trans (congrArg Ending.returned (by kernel_rfl)), h.2⟩) rfl rfl rfl (w_n rfl) ?_
  refine TL_q (.int .u32 2) (fun _ _ hρ _ => r_assign (hρ _ _ rfl)) rfl rfl rfl (w_n rfl) ?_
  refine TL_nil ?_
  refine p_blk_n ?_
  refine p_seq ?_
  refine T_region ?_
  refine TL_q (.int .i64 2) (fun _ _ hρ _ => r_as (r_add (hρ _ _ rfl) (hρ _ _ rfl)) (by rfl)) rfl rfl rfl (w_n rfl) ?_
  refine TL_q (.int .i64 2) (fun _ _ hρ _ => r_move (hρ _ _ rfl)) rfl rfl rfl (w_n rfl) ?_
  refine TL_nil ?_
  refine p_round ?_
  refine TR_succ ?_
  refine T_seq (T_region ?_)
  refine TL_q (.bool true) (fun _ _ hρ _ => r_as (r_lss (hρ _ _ rfl) (hρ _ _ rfl)) (by rfl)) rfl rfl rfl (w_n rfl) ?_
  refine TL_seq ?_
  refine T_seq ?_
  refine T_cond_t rfl ?_
  refine T_skip' ?_
  refine p_seq ?_
  refine T_seq ?_
  refine T_block ?_
  refine T_region ?_
  refine TL_q (.int .u32 2) (fun _ _ hρ _ => r_move (hρ _ _ rfl)) rfl rfl rfl (w_n rfl) ?_
  refine TL_call (.int .u32 1) (fun _ _ hρ _ => r_call (args := [.int .u32 2, .int .u32 0]) (enters_of Try.func43 (by kernel_rfl) rfl) (hρ _ _ rfl) ((cons2 (hρ _ _ rfl) (cons2 (hρ _ _ rfl) rfl))) rfl) (fun w _ => (fed_c 2#32 w).mono fun _ _ h => ⟨h.1.trans (congrArg Ending.returned (by kernel_rfl)), h.2⟩) rfl rfl rfl (w_n rfl) ?_
  refine TL_q (.int .u32 1) (fun _ _ hρ _ => r_assign (hρ _ _ rfl)) rfl rfl rfl (w_n rfl) ?_
  refine TL_nil ?_
  refine p_blk_n ?_
  refine p_seq ?_
  refine T_region ?_
  refine TL_q (.int .i64 3) (fun _ _ hρ _ => r_as (r_add (hρ _ _ rfl) (hρ _ _ rfl)) (by rfl)) rfl rfl rfl (w_n rfl) ?_
  refine TL_q (.int .i64 3) (fun _ _ hρ _ => r_move (hρ _ _ rfl)) rfl rfl rfl (w_n rfl) ?_
  refine TL_nil ?_
  refine p_round ?_
  refine TR_succ ?_
  refine T_seq (T_region ?_)
  refine TL_q (.bool true) (fun _ _ hρ _ => r_as (r_lss (hρ _ _ rfl) (hρ _ _ rfl)) (by rfl)) rfl rfl rfl (w_n rfl) ?_
  refine TL_seq ?_
  refine T_seq ?_
  refine T_cond_t rfl ?_
  refine T_skip' ?_
  refine p_seq ?_
  refine T_seq ?_
  refine T_block ?_
  refine T_region ?_
  refine TL_q (.int .u32 1) (fun _ _ hρ _ => r_move (hρ _ _ rfl)) rfl rfl rfl (w_n rfl) ?_
  refine TL_call (.int .u32 3988292384) (fun _ _ hρ _ => r_call (args := [.int .u32 1, .int .u32 0]) (enters_of Try.func43 (by kernel_rfl) rfl) (hρ _ _ rfl) ((cons2 (hρ _ _ rfl) (cons2 (hρ _ _ rfl) rfl))) rfl) (fun w _ => (fed_c 1#32 w).mono fun _ _ h => ⟨h.1.trans (congrArg Ending.returned (by kernel_rfl)), h.2⟩) rfl rfl rfl (w_n rfl) ?_
  refine TL_q (.int .u32 3988292384) (fun _ _ hρ _ => r_assign (hρ _ _ rfl)) rfl rfl rfl (w_n rfl) ?_
  refine TL_nil ?_
  refine p_blk_n ?_
  refine p_seq ?_
  refine T_region ?_
  refine TL_q (.int .i64 4) (fun _ _ hρ _ => r_as (r_add (hρ _ _ rfl) (hρ _ _ rfl)) (by rfl)) rfl rfl rfl (w_n rfl) ?_
  refine TL_q (.int .i64 4) (fun _ _ hρ _ => r_move (hρ _ _ rfl)) rfl rfl rfl (w_n rfl) ?_
  refine TL_nil ?_
  refine p_round ?_
  refine TR_succ ?_
  refine T_seq (T_region ?_)
  refine TL_q (.bool false) (fun _ _ hρ _ => r_as (r_lss (hρ _ _ rfl) (hρ _ _ rfl)) (by rfl)) rfl rfl rfl (w_n rfl) ?_
  refine TL_seq ?_
  refine T_seq ?_
  refine T_cond_f rfl ?_
  refine T_exit' ?_
  refine p_then_x ?_
  refine p_then_x ?_
  refine p_blk_x ?_
  refine p_seq ?_
  refine T_region ?_
  refine TL_q (.pointer (some ⟨B, 0, none⟩)) (fun _ _ hρ hm => r_load ag60 (hρ _ _ rfl) (hm.at 901 rfl) rfl) rfl rfl rfl (w_n rfl) ?_
  refine TL_q (.int .i64 8) (fun _ _ hρ _ => r_move (hρ _ _ rfl)) rfl rfl rfl (w_n rfl) ?_
  refine TL_q (.int .u32 3988292384) (fun _ _ hρ _ => r_move (hρ _ _ rfl)) rfl rfl rfl (w_n rfl) ?_
  refine TL_q (.pointer (some ⟨B, 0, none⟩)) (fun _ _ hρ _ => r_nilCheck (hρ _ _ rfl) rfl) rfl rfl rfl (w_n rfl) ?_
  refine TL_q (.pointer (some ⟨B, 3, none⟩)) (fun _ _ hρ _ => r_fieldAddr fl74_1 sz72 (hρ _ _ rfl)) rfl rfl rfl (w_n rfl) ?_
  refine TL_q (.pointer (some ⟨B, 11, none⟩)) (fun _ _ hρ _ => r_indexAddrA (i := 8) ar72 sz24 (hρ _ _ rfl) (hρ _ _ rfl) (by decide)) rfl rfl rfl (w_n rfl) ?_
  refine TL_store 900 (.cells #[.int .u32 0, .int .i32 1, .int .u32 0, .int .u32 0, .int .u32 498536548, .int .u32 997073096, .int .u32 651767980, .int .u32 1994146192, .int .u32 1802195444, .int .u32 1303535960, .int .u32 1342533948, .int .u32 3988292384, .int .u32 0, .int .u32 0, .int .u32 0, .int .u32 0, .int .u32 0, .int .u32 0, .int .u32 0] 74) rfl (fun _ _ hρ hm => r_store sz24 (hρ _ _ rfl) (hρ _ _ rfl) (hm.at 900 rfl) rfl rfl rfl rfl) rfl rfl (w_n rfl) ?_
  refine TL_nil ?_
  refine p_blk_n ?_
  refine p_seq ?_
  refine T_region ?_
  refine TL_q (.int .i64 9) (fun _ _ hρ _ => r_as (r_add (hρ _ _ rfl) (hρ _ _ rfl)) (by rfl)) rfl rfl rfl (w_n rfl) ?_
  refine TL_q (.int .i64 9) (fun _ _ hρ _ => r_move (hρ _ _ rfl)) rfl rfl rfl (w_n rfl) ?_
  refine TL_nil ?_
  refine p_round ?_
  refine TR_succ ?_
  refine T_seq (T_region ?_)
  refine TL_q (.bool true) (fun _ _ hρ _ => r_as (r_lss (hρ _ _ rfl) (hρ _ _ rfl)) (by rfl)) rfl rfl rfl (w_n rfl) ?_
  refine TL_seq ?_
  refine T_seq ?_
  refine T_cond_t rfl ?_
  refine T_skip' ?_
  refine p_seq ?_
  refine T_seq ?_
  refine T_block ?_
  refine T_seq (T_region ?_)
  refine TL_q (.int .i64 9) (fun _ _ hρ _ => r_move (hρ _ _ rfl)) rfl rfl rfl (w_n rfl) ?_
  refine TL_q (.int .i64 9) (fun _ _ hρ _ => r_assign (hρ _ _ rfl)) rfl rfl rfl (w_n rfl) ?_
  refine TL_seq ?_
  refine T_seq (T_region ?_)
  refine TL_q (.int .i64 9) (fun _ _ hρ _ => r_move (hρ _ _ rfl)) rfl rfl rfl (w_n rfl) ?_
  refine TL_q (.int .u32 9) (fun _ _ hρ _ => r_as (r_conv un3 io24 (hρ _ _ rfl)) (by rfl)) rfl rfl rfl (w_n rfl) ?_
  refine TL_q (.int .u32 9) (fun _ _ hρ _ => r_assign (hρ _ _ rfl)) rfl rfl rfl (w_n rfl) ?_
  refine TL_seq ?_
  refine T_seq ?_
  refine T_seq (T_region ?_)
  refine TL_q (.int .i64 0) (fun _ _ hρ _ => r_move (hρ _ _ rfl)) rfl rfl rfl (w_n rfl) ?_
  refine TL_seq ?_
  refine T_block ?_
  refine T_rounds 5 ?_
  refine TR_succ ?_
  refine T_seq (T_region ?_)
  refine TL_q (.bool true) (fun _ _ hρ _ => r_as (r_lss (hρ _ _ rfl) (hρ _ _ rfl)) (by rfl)) rfl rfl rfl (w_n rfl) ?_
  refine TL_seq ?_
  refine T_seq ?_
  refine T_cond_t rfl ?_
  refine T_skip' ?_
  refine p_seq ?_
  refine T_seq ?_
  refine T_block ?_
  refine T_region ?_
  refine TL_q (.int .u32 9) (fun _ _ hρ _ => r_move (hρ _ _ rfl)) rfl rfl rfl (w_n rfl) ?_
  refine TL_call (.int .u32 3988292388) (fun _ _ hρ _ => r_call (args := [.int .u32 9, .int .u32 0]) (enters_of Try.func43 (by kernel_rfl) rfl) (hρ _ _ rfl) ((cons2 (hρ _ _ rfl) (cons2 (hρ _ _ rfl) rfl))) rfl) (fun w _ => (fed_c 9#32 w).mono fun _ _ h => ⟨h.1.trans (congrArg Ending.returned (by kernel_rfl)), h.2⟩) rfl rfl rfl (w_n rfl) ?_
  refine TL_q (.int .u32 3988292388) (fun _ _ hρ _ => r_assign (hρ _ _ rfl)) rfl rfl rfl (w_n rfl) ?_
  refine TL_nil ?_
  refine p_blk_n ?_
  refine p_seq ?_
  refine T_region ?_
  refine TL_q (.int .i64 1) (fun _ _ hρ _ => r_as (r_add (hρ _ _ rfl) (hρ _ _ rfl)) (by rfl)) rfl rfl rfl (w_n rfl) ?_
  refine TL_q (.int .i64 1) (fun _ _ hρ _ => r_move (hρ _ _ rfl)) rfl rfl rfl (w_n rfl) ?_
  refine TL_nil ?_
  refine p_round ?_
  refine TR_succ ?_
  refine T_seq (T_region ?_)
  refine TL_q (.bool true) (fun _ _ hρ _ => r_as (r_lss (hρ _ _ rfl) (hρ _ _ rfl)) (by rfl)) rfl rfl rfl (w_n rfl) ?_
  refine TL_seq ?_
  refine T_seq ?_
  refine T_cond_t rfl ?_
  refine T_skip' ?_
  refine p_seq ?_
  refine T_seq ?_
  refine T_block ?_
  refine T_region ?_
  refine TL_q (.int .u32 3988292388) (fun _ _ hρ _ => r_move (hρ _ _ rfl)) rfl rfl rfl (w_n rfl) ?_
  refine TL_call (.int .u32 1994146194) (fun _ _ hρ _ => r_call (args := [.int .u32 3988292388, .int .u32 0]) (enters_of Try.func43 (by kernel_rfl) rfl) (hρ _ _ rfl) ((cons2 (hρ _ _ rfl) (cons2 (hρ _ _ rfl) rfl))) rfl) (fun w _ => (fed_c 3988292388#32 w).mono fun _ _ h => ⟨h.1.trans (congrArg Ending.returned (by kernel_rfl)), h.2⟩) rfl rfl rfl (w_n rfl) ?_
  refine TL_q (.int .u32 1994146194) (fun _ _ hρ _ => r_assign (hρ _ _ rfl)) rfl rfl rfl (w_n rfl) ?_
  refine TL_nil ?_
  refine p_blk_n ?_
  refine p_seq ?_
  refine T_region ?_
  refine TL_q (.int .i64 2) (fun _ _ hρ _ => r_as (r_add (hρ _ _ rfl) (hρ _ _ rfl)) (by rfl)) rfl rfl rfl (w_n rfl) ?_
  refine TL_q (.int .i64 2) (fun _ _ hρ _ => r_move (hρ _ _ rfl)) rfl rfl rfl (w_n rfl) ?_
  refine TL_nil ?_
  refine p_round ?_
  refine TR_succ ?_
  refine T_seq (T_region ?_)
  refine TL_q (.bool true) (fun _ _ hρ _ => r_as (r_lss (hρ _ _ rfl) (hρ _ _ rfl)) (by rfl)) rfl rfl rfl (w_n rfl) ?_
  refine TL_seq ?_
  refine T_seq ?_
  refine T_cond_t rfl ?_
  refine T_skip' ?_
  refine p_seq ?_
  refine T_seq ?_
  refine T_block ?_
  refine T_region ?_
  refine TL_q (.int .u32 1994146194) (fun _ _ hρ _ => r_move (hρ _ _ rfl)) rfl rfl rfl (w_n rfl) ?_
  refine TL_call (.int .u32 997073097) (fun _ _ hρ _ => r_call (args := [.int .u32 1994146194, .int .u32 0]) (enters_of Try.func43 (by kernel_rfl) rfl) (hρ _ _ rfl) ((cons2 (hρ _ _ rfl) (cons2 (hρ _ _ rfl) rfl))) rfl) (fun w _ => (fed_c 1994146194#32 w).mono fun _ _ h => ⟨h.1.trans (congrArg Ending.returned (by kernel_rfl)), h.2⟩) rfl rfl rfl (w_n rfl) ?_
  refine TL_q (.int .u32 997073097) (fun _ _ hρ _ => r_assign (hρ _ _ rfl)) rfl rfl rfl (w_n rfl) ?_
  refine TL_nil ?_
  refine p_blk_n ?_
  refine p_seq ?_
  refine T_region ?_
  refine TL_q (.int .i64 3) (fun _ _ hρ _ => r_as (r_add (hρ _ _ rfl) (hρ _ _ rfl)) (by rfl)) rfl rfl rfl (w_n rfl) ?_
  refine TL_q (.int .i64 3) (fun _ _ hρ _ => r_move (hρ _ _ rfl)) rfl rfl rfl (w_n rfl) ?_
  refine TL_nil ?_
  refine p_round ?_
  refine TR_succ ?_
  refine T_seq (T_region ?_)
  refine TL_q (.bool true) (fun _ _ hρ _ => r_as (r_lss (hρ _ _ rfl) (hρ _ _ rfl)) (by rfl)) rfl rfl rfl (w_n rfl) ?_
  refine TL_seq ?_
  refine T_seq ?_
  refine T_cond_t rfl ?_
  refine T_skip' ?_
  refine p_seq ?_
  refine T_seq ?_
  refine T_block ?_
  refine T_region ?_
  refine TL_q (.int .u32 997073097) (fun _ _ hρ _ => r_move (hρ _ _ rfl)) rfl rfl rfl (w_n rfl) ?_
  refine TL_call (.int .u32 4027552580) (fun _ _ hρ _ => r_call (args := [.int .u32 997073097, .int .u32 0]) (enters_of Try.func43 (by kernel_rfl) rfl) (hρ _ _ rfl) ((cons2 (hρ _ _ rfl) (cons2 (hρ _ _ rfl) rfl))) rfl) (fun w _ => (fed_c 997073097#32 w).mono fun _ _ h => ⟨h.1.trans (congrArg Ending.returned (by kernel_rfl)), h.2⟩) rfl rfl rfl (w_n rfl) ?_
  refine TL_q (.int .u32 4027552580) (fun _ _ hρ _ => r_assign (hρ _ _ rfl)) rfl rfl rfl (w_n rfl) ?_
  refine TL_nil ?_
  refine p_blk_n ?_
  refine p_seq ?_
  refine T_region ?_
  refine TL_q (.int .i64 4) (fun _ _ hρ _ => r_as (r_add (hρ _ _ rfl) (hρ _ _ rfl)) (by rfl)) rfl rfl rfl (w_n rfl) ?_
  refine TL_q (.int .i64 4) (fun _ _ hρ _ => r_move (hρ _ _ rfl)) rfl rfl rfl (w_n rfl) ?_
  refine TL_nil ?_
  refine p_round ?_
  refine TR_succ ?_
  refine T_seq (T_region ?_)
  refine TL_q (.bool false) (fun _ _ hρ _ => r_as (r_lss (hρ _ _ rfl) (hρ _ _ rfl)) (by rfl)) rfl rfl rfl (w_n rfl) ?_
  refine TL_seq ?_
  refine T_seq ?_
  refine T_cond_f rfl ?_
  refine T_exit' ?_
  refine p_then_x ?_
  refine p_then_x ?_
  refine p_blk_x ?_
  refine p_seq ?_
  refine T_region ?_
  refine TL_q (.pointer (some ⟨B, 0, none⟩)) (fun _ _ hρ hm => r_load ag60 (hρ _ _ rfl) (hm.at 901 rfl) rfl) rfl rfl rfl (w_n rfl) ?_
  refine TL_q (.int .i64 9) (fun _ _ hρ _ => r_move (hρ _ _ rfl)) rfl rfl rfl (w_n rfl) ?_
  refine TL_q (.int .u32 4027552580) (fun _ _ hρ _ => r_move (hρ _ _ rfl)) rfl rfl rfl (w_n rfl) ?_
  refine TL_q (.pointer (some ⟨B, 0, none⟩)) (fun _ _ hρ _ => r_nilCheck (hρ _ _ rfl) rfl) rfl rfl rfl (w_n rfl) ?_
  refine TL_q (.pointer (some ⟨B, 3, none⟩)) (fun _ _ hρ _ => r_fieldAddr fl74_1 sz72 (hρ _ _ rfl)) rfl rfl rfl (w_n rfl) ?_
  refine TL_q (.pointer (some ⟨B, 12, none⟩)) (fun _ _ hρ _ => r_indexAddrA (i := 9) ar72 sz24 (hρ _ _ rfl) (hρ _ _ rfl) (by decide)) rfl rfl rfl (w_n rfl) ?_
  refine TL_store 900 (.cells #[.int .u32 0, .int .i32 1, .int .u32 0, .int .u32 0, .int .u32 498536548, .int .u32 997073096, .int .u32 651767980, .int .u32 1994146192, .int .u32 1802195444, .int .u32 1303535960, .int .u32 1342533948, .int .u32 3988292384, .int .u32 4027552580, .int .u32 0, .int .u32 0, .int .u32 0, .int .u32 0, .int .u32 0, .int .u32 0] 74) rfl (fun _ _ hρ hm => r_store sz24 (hρ _ _ rfl) (hρ _ _ rfl) (hm.at 900 rfl) rfl rfl rfl rfl) rfl rfl (w_n rfl) ?_
  refine TL_nil ?_
  refine p_blk_n ?_
  refine p_seq ?_
  refine T_region ?_
  refine TL_q (.int .i64 10) (fun _ _ hρ _ => r_as (r_add (hρ _ _ rfl) (hρ _ _ rfl)) (by rfl)) rfl rfl rfl (w_n rfl) ?_
  refine TL_q (.int .i64 10) (fun _ _ hρ _ => r_move (hρ _ _ rfl)) rfl rfl rfl (w_n rfl) ?_
  refine TL_nil ?_
  refine p_round ?_
  refine TR_succ ?_
  refine T_seq (T_region ?_)
  refine TL_q (.bool true) (fun _ _ hρ _ => r_as (r_lss (hρ _ _ rfl) (hρ _ _ rfl)) (by rfl)) rfl rfl rfl (w_n rfl) ?_
  refine TL_seq ?_
  refine T_seq ?_
  refine T_cond_t rfl ?_
  refine T_skip' ?_
  refine p_seq ?_
  refine T_seq ?_
  refine T_block ?_
  refine T_seq (T_region ?_)
  refine TL_q (.int .i64 10) (fun _ _ hρ _ => r_move (hρ _ _ rfl)) rfl rfl rfl (w_n rfl) ?_
  refine TL_q (.int .i64 10) (fun _ _ hρ _ => r_assign (hρ _ _ rfl)) rfl rfl rfl (w_n rfl) ?_
  refine TL_seq ?_
  refine T_seq (T_region ?_)
  refine TL_q (.int .i64 10) (fun _ _ hρ _ => r_move (hρ _ _ rfl)) rfl rfl rfl (w_n rfl) ?_
  refine TL_q (.int .u32 10) (fun _ _ hρ _ => r_as (r_conv un3 io24 (hρ _ _ rfl)) (by rfl)) rfl rfl rfl (w_n rfl) ?_
  refine TL_q (.int .u32 10) (fun _ _ hρ _ => r_assign (hρ _ _ rfl)) rfl rfl rfl (w_n rfl) ?_
  refine TL_seq ?_
  refine T_seq ?_
  refine T_seq (T_region ?_)
  refine TL_q (.int .i64 0) (fun _ _ hρ _ => r_move (hρ _ _ rfl)) rfl rfl rfl (w_n rfl) ?_
  refine TL_seq ?_
  refine T_block ?_
  refine T_rounds 5 ?_
  refine TR_succ ?_
  refine T_seq (T_region ?_)
  refine TL_q (.bool true) (fun _ _ hρ _ => r_as (r_lss (hρ _ _ rfl) (hρ _ _ rfl)) (by rfl)) rfl rfl rfl (w_n rfl) ?_
  refine TL_seq ?_
  refine T_seq ?_
  refine T_cond_t rfl ?_
  refine T_skip' ?_
  refine p_seq ?_
  refine T_seq ?_
  refine T_block ?_
  refine T_region ?_
  refine TL_q (.int .u32 10) (fun _ _ hρ _ => r_move (hρ _ _ rfl)) rfl rfl rfl (w_n rfl) ?_
  refine TL_call (.int .u32 5) (fun _ _ hρ _ => r_call (args := [.int .u32 10, .int .u32 0]) (enters_of Try.func43 (by kernel_rfl) rfl) (hρ _ _ rfl) ((cons2 (hρ _ _ rfl) (cons2 (hρ _ _ rfl) rfl))) rfl) (fun w _ => (fed_c 10#32 w).mono fun _ _ h => ⟨h.1.trans (congrArg Ending.returned (by kernel_rfl)), h.2⟩) rfl rfl rfl (w_n rfl) ?_
  refine TL_q (.int .u32 5) (fun _ _ hρ _ => r_assign (hρ _ _ rfl)) rfl rfl rfl (w_n rfl) ?_
  refine TL_nil ?_
  refine p_blk_n ?_
  refine p_seq ?_
  refine T_region ?_
  refine TL_q (.int .i64 1) (fun _ _ hρ _ => r_as (r_add (hρ _ _ rfl) (hρ _ _ rfl)) (by rfl)) rfl rfl rfl (w_n rfl) ?_
  refine TL_q (.int .i64 1) (fun _ _ hρ _ => r_move (hρ _ _ rfl)) rfl rfl rfl (w_n rfl) ?_
  refine TL_nil ?_
  refine p_round ?_
  refine TR_succ ?_
  refine T_seq (T_region ?_)
  refine TL_q (.bool true) (fun _ _ hρ _ => r_as (r_lss (hρ _ _ rfl) (hρ _ _ rfl)) (by rfl)) rfl rfl rfl (w_n rfl) ?_
  refine TL_seq ?_
  refine T_seq ?_
  refine T_cond_t rfl ?_
  refine T_skip' ?_
  refine p_seq ?_
  refine T_seq ?_
  refine T_block ?_
  refine T_region ?_
  refine TL_q (.int .u32 5) (fun _ _ hρ _ => r_move (hρ _ _ rfl)) rfl rfl rfl (w_n rfl) ?_
  refine TL_call (.int .u32 3988292386) (fun _ _ hρ _ => r_call (args := [.int .u32 5, .int .u32 0]) (enters_of Try.func43 (by kernel_rfl) rfl) (hρ _ _ rfl) ((cons2 (hρ _ _ rfl) (cons2 (hρ _ _ rfl) rfl))) rfl) (fun w _ => (fed_c 5#32 w).mono fun _ _ h => ⟨h.1.trans (congrArg Ending.returned (by kernel_rfl)), h.2⟩) rfl rfl rfl (w_n rfl) ?_
  refine TL_q (.int .u32 3988292386) (fun _ _ hρ _ => r_assign (hρ _ _ rfl)) rfl rfl rfl (w_n rfl) ?_
  refine TL_nil ?_
  refine p_blk_n ?_
  refine p_seq ?_
  refine T_region ?_
  refine TL_q (.int .i64 2) (fun _ _ hρ _ => r_as (r_add (hρ _ _ rfl) (hρ _ _ rfl)) (by rfl)) rfl rfl rfl (w_n rfl) ?_
  refine TL_q (.int .i64 2) (fun _ _ hρ _ => r_move (hρ _ _ rfl)) rfl rfl rfl (w_n rfl) ?_
  refine TL_nil ?_
  refine p_round ?_
  refine TR_succ ?_
  refine T_seq (T_region ?_)
  refine TL_q (.bool true) (fun _ _ hρ _ => r_as (r_lss (hρ _ _ rfl) (hρ _ _ rfl)) (by rfl)) rfl rfl rfl (w_n rfl) ?_
  refine TL_seq ?_
  refine T_seq ?_
  refine T_cond_t rfl ?_
  refine T_skip' ?_
  refine p_seq ?_
  refine T_seq ?_
  refine T_block ?_
  refine T_region ?_
  refine TL_q (.int .u32 3988292386) (fun _ _ hρ _ => r_move (hρ _ _ rfl)) rfl rfl rfl (w_n rfl) ?_
  refine TL_call (.int .u32 1994146193) (fun _ _ hρ _ => r_call (args := [.int .u32 3988292386, .int .u32 0]) (enters_of Try.func43 (by kernel_rfl) rfl) (hρ _ _ rfl) ((cons2 (hρ _ _ rfl) (cons2 (hρ _ _ rfl) rfl))) rfl) (fun w _ => (fed_c 3988292386#32 w).mono fun _ _ h => ⟨h.1.trans (congrArg Ending.returned (by kernel_rfl)), h.2⟩) rfl rfl rfl (w_n rfl) ?_
  refine TL_q (.int .u32 1994146193) (fun _ _ hρ _ => r_assign (hρ _ _ rfl)) rfl rfl rfl (w_n rfl) ?_
  refine TL_nil ?_
  refine p_blk_n ?_
  refine p_seq ?_
  refine T_region ?_
  refine TL_q (.int .i64 3) (fun _ _ hρ _ => r_as (r_add (hρ _ _ rfl) (hρ _ _ rfl)) (by rfl)) rfl rfl rfl (w_n rfl) ?_
  refine TL_q (.int .i64 3) (fun _ _ hρ _ => r_move (hρ _ _ rfl)) rfl rfl rfl (w_n rfl) ?_
  refine TL_nil ?_
  refine p_round ?_
  refine TR_succ ?_
  refine T_seq (T_region ?_)
  refine TL_q (.bool true) (fun _ _ hρ _ => r_as (r_lss (hρ _ _ rfl) (hρ _ _ rfl)) (by rfl)) rfl rfl rfl (w_n rfl) ?_
  refine TL_seq ?_
  refine T_seq ?_
  refine T_cond_t rfl ?_
  refine T_skip' ?_
  refine p_seq ?_
  refine T_seq ?_
  refine T_block ?_
  refine T_region ?_
  refine TL_q (.int .u32 1994146193) (fun _ _ hρ _ => r_move (hρ _ _ rfl)) rfl rfl rfl (w_n rfl) ?_
  refine TL_call (.int .u32 3604390888) (fun _ _ hρ _ => r_call (args := [.int .u32 1994146193, .int .u32 0]) (enters_of Try.func43 (by kernel_rfl) rfl) (hρ _ _ rfl) ((cons2 (hρ _ _ rfl) (cons2 (hρ _ _ rfl) rfl))) rfl) (fun w _ => (fed_c 1994146193#32 w).mono fun _ _ h => ⟨h.1.trans (congrArg Ending.returned (by kernel_rfl)), h.2⟩) rfl rfl rfl (w_n rfl) ?_
  refine TL_q (.int .u32 3604390888) (fun _ _ hρ _ => r_assign (hρ _ _ rfl)) rfl rfl rfl (w_n rfl) ?_
  refine TL_nil ?_
  refine p_blk_n ?_
  refine p_seq ?_
  refine T_region ?_
  refine TL_q (.int .i64 4) (fun _ _ hρ _ => r_as (r_add (hρ _ _ rfl) (hρ _ _ rfl)) (by rfl)) rfl rfl rfl (w_n rfl) ?_
  refine TL_q (.int .i64 4) (fun _ _ hρ _ => r_move (hρ _ _ rfl)) rfl rfl rfl (w_n rfl) ?_
  refine TL_nil ?_
  refine p_round ?_
  refine TR_succ ?_
  refine T_seq (T_region ?_)
  refine TL_q (.bool false) (fun _ _ hρ _ => r_as (r_lss (hρ _ _ rfl) (hρ _ _ rfl)) (by rfl)) rfl rfl rfl (w_n rfl) ?_
  refine TL_seq ?_
  refine T_seq ?_
  refine T_cond_f rfl ?_
  refine T_exit' ?_
  refine p_then_x ?_
  refine p_then_x ?_
  refine p_blk_x ?_
  refine p_seq ?_
  refine T_region ?_
  refine TL_q (.pointer (some ⟨B, 0, none⟩)) (fun _ _ hρ hm => r_load ag60 (hρ _ _ rfl) (hm.at 901 rfl) rfl) rfl rfl rfl (w_n rfl) ?_
  refine TL_q (.int .i64 10) (fun _ _ hρ _ => r_move (hρ _ _ rfl)) rfl rfl rfl (w_n rfl) ?_
  refine TL_q (.int .u32 3604390888) (fun _ _ hρ _ => r_move (hρ _ _ rfl)) rfl rfl rfl (w_n rfl) ?_
  refine TL_q (.pointer (some ⟨B, 0, none⟩)) (fun _ _ hρ _ => r_nilCheck (hρ _ _ rfl) rfl) rfl rfl rfl (w_n rfl) ?_
  refine TL_q (.pointer (some ⟨B, 3, none⟩)) (fun _ _ hρ _ => r_fieldAddr fl74_1 sz72 (hρ _ _ rfl)) rfl rfl rfl (w_n rfl) ?_
  refine TL_q (.pointer (some ⟨B, 13, none⟩)) (fun _ _ hρ _ => r_indexAddrA (i := 10) ar72 sz24 (hρ _ _ rfl) (hρ _ _ rfl) (by decide)) rfl rfl rfl (w_n rfl) ?_
  refine TL_store 900 (.cells #[.int .u32 0, .int .i32 1, .int .u32 0, .int .u32 0, .int .u32 498536548, .int .u32 997073096, .int .u32 651767980, .int .u32 1994146192, .int .u32 1802195444, .int .u32 1303535960, .int .u32 1342533948, .int .u32 3988292384, .int .u32 4027552580, .int .u32 3604390888, .int .u32 0, .int .u32 0, .int .u32 0, .int .u32 0, .int .u32 0] 74) rfl (fun _ _ hρ hm => r_store sz24 (hρ _ _ rfl) (hρ _ _ rfl) (hm.at 900 rfl) rfl rfl rfl rfl) rfl rfl (w_n rfl) ?_
  refine TL_nil ?_
  refine p_blk_n ?_
  refine p_seq ?_
  refine T_region ?_
  refine TL_q (.int .i64 11) (fun _ _ hρ _ => r_as (r_add (hρ _ _ rfl) (hρ _ _ rfl)) (by rfl)) rfl rfl rfl (w_n rfl) ?_
  refine TL_q (.int .i64 11) (fun _ _ hρ _ => r_move (hρ _ _ rfl)) rfl rfl rfl (w_n rfl) ?_
  refine TL_nil ?_
  refine p_round ?_
  refine TR_succ ?_
  refine T_seq (T_region ?_)
  refine TL_q (.bool true) (fun _ _ hρ _ => r_as (r_lss (hρ _ _ rfl) (hρ _ _ rfl)) (by rfl)) rfl rfl rfl (w_n rfl) ?_
  refine TL_seq ?_
  refine T_seq ?_
  refine T_cond_t rfl ?_
  refine T_skip' ?_
  refine p_seq ?_
  refine T_seq ?_
  refine T_block ?_
  refine T_seq (T_region ?_)
  refine TL_q (.int .i64 11) (fun _ _ hρ _ => r_move (hρ _ _ rfl)) rfl rfl rfl (w_n rfl) ?_
  refine TL_q (.int .i64 11) (fun _ _ hρ _ => r_assign (hρ _ _ rfl)) rfl rfl rfl (w_n rfl) ?_
  refine TL_seq ?_
  refine T_seq (T_region ?_)
  refine TL_q (.int .i64 11) (fun _ _ hρ _ => r_move (hρ _ _ rfl)) rfl rfl rfl (w_n rfl) ?_
  refine TL_q (.int .u32 11) (fun _ _ hρ _ => r_as (r_conv un3 io24 (hρ _ _ rfl)) (by rfl)) rfl rfl rfl (w_n rfl) ?_
  refine TL_q (.int .u32 11) (fun _ _ hρ _ => r_assign (hρ _ _ rfl)) rfl rfl rfl (w_n rfl) ?_
  refine TL_seq ?_
  refine T_seq ?_
  refine T_seq (T_region ?_)
  refine TL_q (.int .i64 0) (fun _ _ hρ _ => r_move (hρ _ _ rfl)) rfl rfl rfl (w_n rfl) ?_
  refine TL_seq ?_
  refine T_block ?_
  refine T_rounds 5 ?_
  refine TR_succ ?_
  refine T_seq (T_region ?_)
  refine TL_q (.bool true) (fun _ _ hρ _ => r_as (r_lss (hρ _ _ rfl) (hρ _ _ rfl)) (by rfl)) rfl rfl rfl (w_n rfl) ?_
  refine TL_seq ?_
  refine T_seq ?_
  refine T_cond_t rfl ?_
  refine T_skip' ?_
  refine p_seq ?_
  refine T_seq ?_
  refine T_block ?_
  refine T_region ?_
  refine TL_q (.int .u32 11) (fun _ _ hρ _ => r_move (hρ _ _ rfl)) rfl rfl rfl (w_n rfl) ?_
  refine TL_call (.int .u32 3988292389) (fun _ _ hρ _ => r_call (args := [.int .u32 11, .int .u32 0]) (enters_of Try.func43 (by kernel_rfl) rfl) (hρ _ _ rfl) ((cons2 (hρ _ _ rfl) (cons2 (hρ _ _ rfl) rfl))) rfl) (fun w _ => (fed_c 11#32 w).mono fun _ _ h => ⟨h.1.trans (congrArg Ending.returned (by kernel_rfl)), h.2⟩) rfl rfl rfl (w_n rfl) ?_
  refine TL_q (.int .u32 3988292389) (fun _ _ hρ _ => r_assign (hρ _ _ rfl)) rfl rfl rfl (w_n rfl) ?_
  refine TL_nil ?_
  refine p_blk_n ?_
  refine p_seq ?_
  refine T_region ?_
  refine TL_q (.int .i64 1) (fun _ _ hρ _ => r_as (r_add (hρ _ _ rfl) (hρ _ _ rfl)) (by rfl)) rfl rfl rfl (w_n rfl) ?_
  refine TL_q (.int .i64 1) (fun _ _ hρ _ => r_move (hρ _ _ rfl)) rfl rfl rfl (w_n rfl) ?_
  refine TL_nil ?_
  refine p_round ?_
  refine TR_succ ?_
  refine T_seq (T_region ?_)
  refine TL_q (.bool true) (fun _ _ hρ _ => r_as (r_lss (hρ _ _ rfl) (hρ _ _ rfl)) (by rfl)) rfl rfl rfl (w_n rfl) ?_
  refine TL_seq ?_
  refine T_seq ?_
  refine T_cond_t rfl ?_
  refine T_skip' ?_
  refine p_seq ?_
  refine T_seq ?_
  refine T_block ?_
  refine T_region ?_
  refine TL_q (.int .u32 3988292389) (fun _ _ hρ _ => r_move (hρ _ _ rfl)) rfl rfl rfl (w_n rfl) ?_
  refine TL_call (.int .u32 2607071922) (fun _ _ hρ _ => r_call (args := [.int .u32 3988292389, .int .u32 0]) (enters_of Try.func43 (by kernel_rfl) rfl) (hρ _ _ rfl) ((cons2 (hρ _ _ rfl) (cons2 (hρ _ _ rfl) rfl))) rfl) (fun w _ => (fed_c 3988292389#32 w).mono fun _ _ h => ⟨h.1.trans (congrArg Ending.returned (by kernel_rfl)), h.2⟩) rfl rfl rfl (w_n rfl) ?_
  refine TL_q (.int .u32 2607071922) (fun _ _ hρ _ => r_assign (hρ _ _ rfl)) rfl rfl rfl (w_n rfl) ?_
  refine TL_nil ?_
  refine p_blk_n ?_
  refine p_seq ?_
  refine T_region ?_
  refine TL_q (.int .i64 2) (fun _ _ hρ _ => r_as (r_add (hρ _ _ rfl) (hρ _ _ rfl)) (by rfl)) rfl rfl rfl (w_n rfl) ?_
  refine TL_q (.int .i64 2) (fun _ _ hρ _ => r_move (hρ _ _ rfl)) rfl rfl rfl (w_n rfl) ?_
  refine TL_nil ?_
  refine p_round ?_
  refine TR_succ ?_
  refine T_seq (T_region ?_)
  refine TL_q (.bool true) (fun _ _ hρ _ => r_as (r_lss (hρ _ _ rfl) (hρ _ _ rfl)) (by rfl)) rfl rfl rfl (w_n rfl) ?_
  refine TL_seq ?_
  refine T_seq ?_
  refine T_cond_t rfl ?_
  refine T_skip' ?_
  refine p_seq ?_
  refine T_seq ?_
  refine T_block ?_
  refine T_region ?_
  refine TL_q (.int .u32 2607071922) (fun _ _ hρ _ => r_move (hρ _ _ rfl)) rfl rfl rfl (w_n rfl) ?_
  refine TL_call (.int .u32 1303535961) (fun _ _ hρ _ => r_call (args := [.int .u32 2607071922, .int .u32 0]) (enters_of Try.func43 (by kernel_rfl) rfl) (hρ _ _ rfl) ((cons2 (hρ _ _ rfl) (cons2 (hρ _ _ rfl) rfl))) rfl) (fun w _ => (fed_c 2607071922#32 w).mono fun _ _ h => ⟨h.1.trans (congrArg Ending.returned (by kernel_rfl)), h.2⟩) rfl rfl rfl (w_n rfl) ?_
  refine TL_q (.int .u32 1303535961) (fun _ _ hρ _ => r_assign (hρ _ _ rfl)) rfl rfl rfl (w_n rfl) ?_
  refine TL_nil ?_
  refine p_blk_n ?_
  refine p_seq ?_
  refine T_region ?_
  refine TL_q (.int .i64 3) (fun _ _ hρ _ => r_as (r_add (hρ _ _ rfl) (hρ _ _ rfl)) (by rfl)) rfl rfl rfl (w_n rfl) ?_
  refine TL_q (.int .i64 3) (fun _ _ hρ _ => r_move (hρ _ _ rfl)) rfl rfl rfl (w_n rfl) ?_
  refine TL_nil ?_
  refine p_round ?_
  refine TR_succ ?_
  refine T_seq (T_region ?_)
  refine TL_q (.bool true) (fun _ _ hρ _ => r_as (r_lss (hρ _ _ rfl) (hρ _ _ rfl)) (by rfl)) rfl rfl rfl (w_n rfl) ?_
  refine TL_seq ?_
  refine T_seq ?_
  refine T_cond_t rfl ?_
  refine T_skip' ?_
  refine p_seq ?_
  refine T_seq ?_
  refine T_block ?_
  refine T_region ?_
  refine TL_q (.int .u32 1303535961) (fun _ _ hρ _ => r_move (hρ _ _ rfl)) rfl rfl rfl (w_n rfl) ?_
  refine TL_call (.int .u32 3412177804) (fun _ _ hρ _ => r_call (args := [.int .u32 1303535961, .int .u32 0]) (enters_of Try.func43 (by kernel_rfl) rfl) (hρ _ _ rfl) ((cons2 (hρ _ _ rfl) (cons2 (hρ _ _ rfl) rfl))) rfl) (fun w _ => (fed_c 1303535961#32 w).mono fun _ _ h => ⟨h.1.trans (congrArg Ending.returned (by kernel_rfl)), h.2⟩) rfl rfl rfl (w_n rfl) ?_
  refine TL_q (.int .u32 3412177804) (fun _ _ hρ _ => r_assign (hρ _ _ rfl)) rfl rfl rfl (w_n rfl) ?_
  refine TL_nil ?_
  refine p_blk_n ?_
  refine p_seq ?_
  refine T_region ?_
  refine TL_q (.int .i64 4) (fun _ _ hρ _ => r_as (r_add (hρ _ _ rfl) (hρ _ _ rfl)) (by rfl)) rfl rfl rfl (w_n rfl) ?_
  refine TL_q (.int .i64 4) (fun _ _ hρ _ => r_move (hρ _ _ rfl)) rfl rfl rfl (w_n rfl) ?_
  refine TL_nil ?_
  refine p_round ?_
  refine TR_succ ?_
  refine T_seq (T_region ?_)
  refine TL_q (.bool false) (fun _ _ hρ _ => r_as (r_lss (hρ _ _ rfl) (hρ _ _ rfl)) (by rfl)) rfl rfl rfl (w_n rfl) ?_
  refine TL_seq ?_
  refine T_seq ?_
  refine T_cond_f rfl ?_
  refine T_exit' ?_
  refine p_then_x ?_
  refine p_then_x ?_
  refine p_blk_x ?_
  refine p_seq ?_
  refine T_region ?_
  refine TL_q (.pointer (some ⟨B, 0, none⟩)) (fun _ _ hρ hm => r_load ag60 (hρ _ _ rfl) (hm.at 901 rfl) rfl) rfl rfl rfl (w_n rfl) ?_
  refine TL_q (.int .i64 11) (fun _ _ hρ _ => r_move (hρ _ _ rfl)) rfl rfl rfl (w_n rfl) ?_
  refine TL_q (.int .u32 3412177804) (fun _ _ hρ _ => r_move (hρ _ _ rfl)) rfl rfl rfl (w_n rfl) ?_
  refine TL_q (.pointer (some ⟨B, 0, none⟩)) (fun _ _ hρ _ => r_nilCheck (hρ _ _ rfl) rfl) rfl rfl rfl (w_n rfl) ?_
  refine TL_q (.pointer (some ⟨B, 3, none⟩)) (fun _ _ hρ _ => r_fieldAddr fl74_1 sz72 (hρ _ _ rfl)) rfl rfl rfl (w_n rfl) ?_
  refine TL_q (.pointer (some ⟨B, 14, none⟩)) (fun _ _ hρ _ => r_indexAddrA (i := 11) ar72 sz24 (hρ _ _ rfl) (hρ _ _ rfl) (by decide)) rfl rfl rfl (w_n rfl) ?_
  refine TL_store 900 (.cells #[.int .u32 0, .int .i32 1, .int .u32 0, .int .u32 0, .int .u32 498536548, .int .u32 997073096, .int .u32 651767980, .int .u32 1994146192, .int .u32 1802195444, .int .u32 1303535960, .int .u32 1342533948, .int .u32 3988292384, .int .u32 4027552580, .int .u32 3604390888, .int .u32 3412177804, .int .u32 0, .int .u32 0, .int .u32 0, .int .u32 0] 74) rfl (fun _ _ hρ hm => r_store sz24 (hρ _ _ rfl) (hρ _ _ rfl) (hm.at 900 rfl) rfl rfl rfl rfl) rfl rfl (w_n rfl) ?_
  refine TL_nil ?_
  refine p_blk_n ?_
  refine p_seq ?_
  refine T_region ?_
  refine TL_q (.int .i64 12) (fun _ _ hρ _ => r_as (r_add (hρ _ _ rfl) (hρ _ _ rfl)) (by rfl)) rfl rfl rfl (w_n rfl) ?_
  refine TL_q (.int .i64 12) (fun _ _ hρ _ => r_move (hρ _ _ rfl)) rfl rfl rfl (w_n rfl) ?_
  refine TL_nil ?_
  refine p_round ?_
  refine TR_succ ?_
  refine T_seq (T_region ?_)
  refine TL_q (.bool true) (fun _ _ hρ _ => r_as (r_lss (hρ _ _ rfl) (hρ _ _ rfl)) (by rfl)) rfl rfl rfl (w_n rfl) ?_
  refine TL_seq ?_
  refine T_seq ?_
  refine T_cond_t rfl ?_
  refine T_skip' ?_
  refine p_seq ?_
  refine T_seq ?_
  refine T_block ?_
  refine T_seq (T_region ?_)
  refine TL_q (.int .i64 12) (fun _ _ hρ _ => r_move (hρ _ _ rfl)) rfl rfl rfl (w_n rfl) ?_
  refine TL_q (.int .i64 12) (fun _ _ hρ _ => r_assign (hρ _ _ rfl)) rfl rfl rfl (w_n rfl) ?_
  refine TL_seq ?_
  refine T_seq (T_region ?_)
  refine TL_q (.int .i64 12) (fun _ _ hρ _ => r_move (hρ _ _ rfl)) rfl rfl rfl (w_n rfl) ?_
  refine TL_q (.int .u32 12) (fun _ _ hρ _ => r_as (r_conv un3 io24 (hρ _ _ rfl)) (by rfl)) rfl rfl rfl (w_n rfl) ?_
  refine TL_q (.int .u32 12) (fun _ _ hρ _ => r_assign (hρ _ _ rfl)) rfl rfl rfl (w_n rfl) ?_
  refine TL_seq ?_
  refine T_seq ?_
  refine T_seq (T_region ?_)
  refine TL_q (.int .i64 0) (fun _ _ hρ _ => r_move (hρ _ _ rfl)) rfl rfl rfl (w_n rfl) ?_
  refine TL_seq ?_
  refine T_block ?_
  refine T_rounds 5 ?_
  refine TR_succ ?_
  refine T_seq (T_region ?_)
  refine TL_q (.bool true) (fun _ _ hρ _ => r_as (r_lss (hρ _ _ rfl) (hρ _ _ rfl)) (by rfl)) rfl rfl rfl (w_n rfl) ?_
  refine TL_seq ?_
  refine T_seq ?_
  refine T_cond_t rfl ?_
  refine T_skip' ?_
  refine p_seq ?_
  refine T_seq ?_
  refine T_block ?_
  refine T_region ?_
  refine TL_q (.int .u32 12) (fun _ _ hρ _ => r_move (hρ _ _ rfl)) rfl rfl rfl (w_n rfl) ?_
  refine TL_call (.int .u32 6) (fun _ _ hρ _ => r_call (args := [.int .u32 12, .int .u32 0]) (enters_of Try.func43 (by kernel_rfl) rfl) (hρ _ _ rfl) ((cons2 (hρ _ _ rfl) (cons2 (hρ _ _ rfl) rfl))) rfl) (fun w _ => (fed_c 12#32 w).mono fun _ _ h => ⟨h.1.trans (congrArg Ending.returned (by kernel_rfl)), h.2⟩) rfl rfl rfl (w_n rfl) ?_
  refine TL_q (.int .u32 6) (fun _ _ hρ _ => r_assign (hρ _ _ rfl)) rfl rfl rfl (w_n rfl) ?_
  refine TL_nil ?_
  refine p_blk_n ?_
  refine p_seq ?_
  refine T_region ?_
  refine TL_q (.int .i64 1) (fun _ _ hρ _ => r_as (r_add (hρ _ _ rfl) (hρ _ _ rfl)) (by rfl)) rfl rfl rfl (w_n rfl) ?_
  refine TL_q (.int .i64 1) (fun _ _ hρ _ => r_move (hρ _ _ rfl)) rfl rfl rfl (w_n rfl) ?_
  refine TL_nil ?_
  refine p_round ?_
  refine TR_succ ?_
  refine T_seq (T_region ?_)
  refine TL_q (.bool true) (fun _ _ hρ _ => r_as (r_lss (hρ _ _ rfl) (hρ _ _ rfl)) (by rfl)) rfl rfl rfl (w_n rfl) ?_
  refine TL_seq ?_
  refine T_seq ?_
  refine T_cond_t rfl ?_
  refine T_skip' ?_
  refine p_seq ?_
  refine T_seq ?_
  refine T_block ?_
  refine T_region ?_
  refine TL_q (.int .u32 6) (fun _ _ hρ _ => r_move (hρ _ _ rfl)) rfl rfl rfl (w_n rfl) ?_
  refine TL_call (.int .u32 3) (fun _ _ hρ _ => r_call (args := [.int .u32 6, .int .u32 0]) (enters_of Try.func43 (by kernel_rfl) rfl) (hρ _ _ rfl) ((cons2 (hρ _ _ rfl) (cons2 (hρ _ _ rfl) rfl))) rfl) (fun w _ => (fed_c 6#32 w).mono fun _ _ h => ⟨h.1.trans (congrArg Ending.returned (by kernel_rfl)), h.2⟩) rfl rfl rfl (w_n rfl) ?_
  refine TL_q (.int .u32 3) (fun _ _ hρ _ => r_assign (hρ _ _ rfl)) rfl rfl rfl (w_n rfl) ?_
  refine TL_nil ?_
  refine p_blk_n ?_
  refine p_seq ?_
  refine T_region ?_
  refine TL_q (.int .i64 2) (fun _ _ hρ _ => r_as (r_add (hρ _ _ rfl) (hρ _ _ rfl)) (by rfl)) rfl rfl rfl (w_n rfl) ?_
  refine TL_q (.int .i64 2) (fun _ _ hρ _ => r_move (hρ _ _ rfl)) rfl rfl rfl (w_n rfl) ?_
  refine TL_nil ?_
  refine p_round ?_
  refine TR_succ ?_
  refine T_seq (T_region ?_)
  refine TL_q (.bool true) (fun _ _ hρ _ => r_as (r_lss (hρ _ _ rfl) (hρ _ _ rfl)) (by rfl)) rfl rfl rfl (w_n rfl) ?_
  refine TL_seq ?_
  refine T_seq ?_
  refine T_cond_t rfl ?_
  refine T_skip' ?_
  refine p_seq ?_
  refine T_seq ?_
  refine T_block ?_
  refine T_region ?_
  refine TL_q (.int .u32 3) (fun _ _ hρ _ => r_move (hρ _ _ rfl)) rfl rfl rfl (w_n rfl) ?_
  refine TL_call (.int .u32 3988292385) (fun _ _ hρ _ => r_call (args := [.int .u32 3, .int .u32 0]) (enters_of Try.func43 (by kernel_rfl) rfl) (hρ _ _ rfl) ((cons2 (hρ _ _ rfl) (cons2 (hρ _ _ rfl) rfl))) rfl) (fun w _ => (fed_c 3#32 w).mono fun _ _ h => ⟨h.1.trans (congrArg Ending.returned (by kernel_rfl)), h.2⟩) rfl rfl rfl (w_n rfl) ?_
  refine TL_q (.int .u32 3988292385) (fun _ _ hρ _ => r_assign (hρ _ _ rfl)) rfl rfl rfl (w_n rfl) ?_
  refine TL_nil ?_
  refine p_blk_n ?_
  refine p_seq ?_
  refine T_region ?_
  refine TL_q (.int .i64 3) (fun _ _ hρ _ => r_as (r_add (hρ _ _ rfl) (hρ _ _ rfl)) (by rfl)) rfl rfl rfl (w_n rfl) ?_
  refine TL_q (.int .i64 3) (fun _ _ hρ _ => r_move (hρ _ _ rfl)) rfl rfl rfl (w_n rfl) ?_
  refine TL_nil ?_
  refine p_round ?_
  refine TR_succ ?_
  refine T_seq (T_region ?_)
  refine TL_q (.bool true) (fun _ _ hρ _ => r_as (r_lss (hρ _ _ rfl) (hρ _ _ rfl)) (by rfl)) rfl rfl rfl (w_n rfl) ?_
  refine TL_seq ?_
  refine T_seq ?_
  refine T_cond_t rfl ?_
  refine T_skip' ?_
  refine p_seq ?_
  refine T_seq ?_
  refine T_block ?_
  refine T_region ?_
  refine TL_q (.int .u32 3988292385) (fun _ _ hρ _ => r_move (hρ _ _ rfl)) rfl rfl rfl (w_n rfl) ?_
  refine TL_call (.int .u32 2607071920) (fun _ _ hρ _ => r_call (args := [.int .u32 3988292385, .int .u32 0]) (enters_of Try.func43 (by kernel_rfl) rfl) (hρ _ _ rfl) ((cons2 (hρ _ _ rfl) (cons2 (hρ _ _ rfl) rfl))) rfl) (fun w _ => (fed_c 3988292385#32 w).mono fun _ _ h => ⟨h.1.trans (congrArg Ending.returned (by kernel_rfl)), h.2⟩) rfl rfl rfl (w_n rfl) ?_
  refine TL_q (.int .u32 2607071920) (fun _ _ hρ _ => r_assign (hρ _ _ rfl)) rfl rfl rfl (w_n rfl) ?_
  refine TL_nil ?_
  refine p_blk_n ?_
  refine p_seq ?_
  refine T_region ?_
  refine TL_q (.int .i64 4) (fun _ _ hρ _ => r_as (r_add (hρ _ _ rfl) (hρ _ _ rfl)) (by rfl)) rfl rfl rfl (w_n rfl) ?_
  refine TL_q (.int .i64 4) (fun _ _ hρ _ => r_move (hρ _ _ rfl)) rfl rfl rfl (w_n rfl) ?_
  refine TL_nil ?_
  refine p_round ?_
  refine TR_succ ?_
  refine T_seq (T_region ?_)
  refine TL_q (.bool false) (fun _ _ hρ _ => r_as (r_lss (hρ _ _ rfl) (hρ _ _ rfl)) (by rfl)) rfl rfl rfl (w_n rfl) ?_
  refine TL_seq ?_
  refine T_seq ?_
  refine T_cond_f rfl ?_
  refine T_exit' ?_
  refine p_then_x ?_
  refine p_then_x ?_
  refine p_blk_x ?_
  refine p_seq ?_
  refine T_region ?_
  refine TL_q (.pointer (some ⟨B, 0, none⟩)) (fun _ _ hρ hm => r_load ag60 (hρ _ _ rfl) (hm.at 901 rfl) rfl) rfl rfl rfl (w_n rfl) ?_
  refine TL_q (.int .i64 12) (fun _ _ hρ _ => r_move (hρ _ _ rfl)) rfl rfl rfl (w_n rfl) ?_
  refine TL_q (.int .u32 2607071920) (fun _ _ hρ _ => r_move (hρ _ _ rfl)) rfl rfl rfl (w_n rfl) ?_
  refine TL_q (.pointer (some ⟨B, 0, none⟩)) (fun _ _ hρ _ => r_nilCheck (hρ _ _ rfl) rfl) rfl rfl rfl (w_n rfl) ?_
  refine TL_q (.pointer (some ⟨B, 3, none⟩)) (fun _ _ hρ _ => r_fieldAddr fl74_1 sz72 (hρ _ _ rfl)) rfl rfl rfl (w_n rfl) ?_
  refine TL_q (.pointer (some ⟨B, 15, none⟩)) (fun _ _ hρ _ => r_indexAddrA (i := 12) ar72 sz24 (hρ _ _ rfl) (hρ _ _ rfl) (by decide)) rfl rfl rfl (w_n rfl) ?_
  refine TL_store 900 (.cells #[.int .u32 0, .int .i32 1, .int .u32 0, .int .u32 0, .int .u32 498536548, .int .u32 997073096, .int .u32 651767980, .int .u32 1994146192, .int .u32 1802195444, .int .u32 1303535960, .int .u32 1342533948, .int .u32 3988292384, .int .u32 4027552580, .int .u32 3604390888, .int .u32 3412177804, .int .u32 2607071920, .int .u32 0, .int .u32 0, .int .u32 0] 74) rfl (fun _ _ hρ hm => r_store sz24 (hρ _ _ rfl) (hρ _ _ rfl) (hm.at 900 rfl) rfl rfl rfl rfl) rfl rfl (w_n rfl) ?_
  refine TL_nil ?_
  refine p_blk_n ?_
  refine p_seq ?_
  refine T_region ?_
  refine TL_q (.int .i64 13) (fun _ _ hρ _ => r_as (r_add (hρ _ _ rfl) (hρ _ _ rfl)) (by rfl)) rfl rfl rfl (w_n rfl) ?_
  refine TL_q (.int .i64 13) (fun _ _ hρ _ => r_move (hρ _ _ rfl)) rfl rfl rfl (w_n rfl) ?_
  refine TL_nil ?_
  refine p_round ?_
  refine TR_succ ?_
  refine T_seq (T_region ?_)
  refine TL_q (.bool true) (fun _ _ hρ _ => r_as (r_lss (hρ _ _ rfl) (hρ _ _ rfl)) (by rfl)) rfl rfl rfl (w_n rfl) ?_
  refine TL_seq ?_
  refine T_seq ?_
  refine T_cond_t rfl ?_
  refine T_skip' ?_
  refine p_seq ?_
  refine T_seq ?_
  refine T_block ?_
  refine T_seq (T_region ?_)
  refine TL_q (.int .i64 13) (fun _ _ hρ _ => r_move (hρ _ _ rfl)) rfl rfl rfl (w_n rfl) ?_
  refine TL_q (.int .i64 13) (fun _ _ hρ _ => r_assign (hρ _ _ rfl)) rfl rfl rfl (w_n rfl) ?_
  refine TL_seq ?_
  refine T_seq (T_region ?_)
  refine TL_q (.int .i64 13) (fun _ _ hρ _ => r_move (hρ _ _ rfl)) rfl rfl rfl (w_n rfl) ?_
  refine TL_q (.int .u32 13) (fun _ _ hρ _ => r_as (r_conv un3 io24 (hρ _ _ rfl)) (by rfl)) rfl rfl rfl (w_n rfl) ?_
  refine TL_q (.int .u32 13) (fun _ _ hρ _ => r_assign (hρ _ _ rfl)) rfl rfl rfl (w_n rfl) ?_
  refine TL_seq ?_
  refine T_seq ?_
  refine T_seq (T_region ?_)
  refine TL_q (.int .i64 0) (fun _ _ hρ _ => r_move (hρ _ _ rfl)) rfl rfl rfl (w_n rfl) ?_
  refine TL_seq ?_
  refine T_block ?_
  refine T_rounds 5 ?_
  refine TR_succ ?_
  refine T_seq (T_region ?_)
  refine TL_q (.bool true) (fun _ _ hρ _ => r_as (r_lss (hρ _ _ rfl) (hρ _ _ rfl)) (by rfl)) rfl rfl rfl (w_n rfl) ?_
  refine TL_seq ?_
  refine T_seq ?_
  refine T_cond_t rfl ?_
  refine T_skip' ?_
  refine p_seq ?_
  refine T_seq ?_
  refine T_block ?_
  refine T_region ?_
  refine TL_q (.int .u32 13) (fun _ _ hρ _ => r_move (hρ _ _ rfl)) rfl rfl rfl (w_n rfl) ?_
  refine TL_call (.int .u32 3988292390) (fun _ _ hρ _ => r_call (args := [.int .u32 13, .int .u32 0]) (enters_of Try.func43 (by kernel_rfl) rfl) (hρ _ _ rfl) ((cons2 (hρ _ _ rfl) (cons2 (hρ _ _ rfl) rfl))) rfl) (fun w _ => (fed_c 13#32 w).mono fun _ _ h => ⟨h.1.trans (congrArg Ending.returned (by kernel_rfl)), h.2⟩) rfl rfl rfl (w_n rfl) ?_
  refine TL_q (.int .u32 3988292390) (fun _ _ hρ _ => r_assign (hρ _ _ rfl)) rfl rfl rfl (w_n rfl) ?_
  refine TL_nil ?_
  refine p_blk_n ?_
  refine p_seq ?_
  refine T_region ?_
  refine TL_q (.int .i64 1) (fun _ _ hρ _ => r_as (r_add (hρ _ _ rfl) (hρ _ _ rfl)) (by rfl)) rfl rfl rfl (w_n rfl) ?_
  refine TL_q (.int .i64 1) (fun _ _ hρ _ => r_move (hρ _ _ rfl)) rfl rfl rfl (w_n rfl) ?_
  refine TL_nil ?_
  refine p_round ?_
  refine TR_succ ?_
  refine T_seq (T_region ?_)
  refine TL_q (.bool true) (fun _ _ hρ _ => r_as (r_lss (hρ _ _ rfl) (hρ _ _ rfl)) (by rfl)) rfl rfl rfl (w_n rfl) ?_
  refine TL_seq ?_
  refine T_seq ?_
  refine T_cond_t rfl ?_
  refine T_skip' ?_
  refine p_seq ?_
  refine T_seq ?_
  refine T_block ?_
  refine T_region ?_
  refine TL_q (.int .u32 3988292390) (fun _ _ hρ _ => r_move (hρ _ _ rfl)) rfl rfl rfl (w_n rfl) ?_
  refine TL_call (.int .u32 1994146195) (fun _ _ hρ _ => r_call (args := [.int .u32 3988292390, .int .u32 0]) (enters_of Try.func43 (by kernel_rfl) rfl) (hρ _ _ rfl) ((cons2 (hρ _ _ rfl) (cons2 (hρ _ _ rfl) rfl))) rfl) (fun w _ => (fed_c 3988292390#32 w).mono fun _ _ h => ⟨h.1.trans (congrArg Ending.returned (by kernel_rfl)), h.2⟩) rfl rfl rfl (w_n rfl) ?_
  refine TL_q (.int .u32 1994146195) (fun _ _ hρ _ => r_assign (hρ _ _ rfl)) rfl rfl rfl (w_n rfl) ?_
  refine TL_nil ?_
  refine p_blk_n ?_
  refine p_seq ?_
  refine T_region ?_
  refine TL_q (.int .i64 2) (fun _ _ hρ _ => r_as (r_add (hρ _ _ rfl) (hρ _ _ rfl)) (by rfl)) rfl rfl rfl (w_n rfl) ?_
  refine TL_q (.int .i64 2) (fun _ _ hρ _ => r_move (hρ _ _ rfl)) rfl rfl rfl (w_n rfl) ?_
  refine TL_nil ?_
  refine p_round ?_
  refine TR_succ ?_
  refine T_seq (T_region ?_)
  refine TL_q (.bool true) (fun _ _ hρ _ => r_as (r_lss (hρ _ _ rfl) (hρ _ _ rfl)) (by rfl)) rfl rfl rfl (w_n rfl) ?_
  refine TL_seq ?_
  refine T_seq ?_
  refine T_cond_t rfl ?_
  refine T_skip' ?_
  refine p_seq ?_
  refine T_seq ?_
  refine T_block ?_
  refine T_region ?_
  refine TL_q (.int .u32 1994146195) (fun _ _ hρ _ => r_move (hρ _ _ rfl)) rfl rfl rfl (w_n rfl) ?_
  refine TL_call (.int .u32 3604390889) (fun _ _ hρ _ => r_call (args := [.int .u32 1994146195, .int .u32 0]) (enters_of Try.func43 (by kernel_rfl) rfl) (hρ _ _ rfl) ((cons2 (hρ _ _ rfl) (cons2 (hρ _ _ rfl) rfl))) rfl) (fun w _ => (fed_c 1994146195#32 w).mono fun _ _ h => ⟨h.1.trans (congrArg Ending.returned (by kernel_rfl)), h.2⟩) rfl rfl rfl (w_n rfl) ?_
  refine TL_q (.int .u32 3604390889) (fun _ _ hρ _ => r_assign (hρ _ _ rfl)) rfl rfl rfl (w_n rfl) ?_
  refine TL_nil ?_
  refine p_blk_n ?_
  refine p_seq ?_
  refine T_region ?_
  refine TL_q (.int .i64 3) (fun _ _ hρ _ => r_as (r_add (hρ _ _ rfl) (hρ _ _ rfl)) (by rfl)) rfl rfl rfl (w_n rfl) ?_
  refine TL_q (.int .i64 3) (fun _ _ hρ _ => r_move (hρ _ _ rfl)) rfl rfl rfl (w_n rfl) ?_
  refine TL_nil ?_
  refine p_round ?_
  refine TR_succ ?_
  refine T_seq (T_region ?_)
  refine TL_q (.bool true) (fun _ _ hρ _ => r_as (r_lss (hρ _ _ rfl) (hρ _ _ rfl)) (by rfl)) rfl rfl rfl (w_n rfl) ?_
  refine TL_seq ?_
  refine T_seq ?_
  refine T_cond_t rfl ?_
  refine T_skip' ?_
  refine p_seq ?_
  refine T_seq ?_
  refine T_block ?_
  refine T_region ?_
  refine TL_q (.int .u32 3604390889) (fun _ _ hρ _ => r_move (hρ _ _ rfl)) rfl rfl rfl (w_n rfl) ?_
  refine TL_call (.int .u32 2262029012) (fun _ _ hρ _ => r_call (args := [.int .u32 3604390889, .int .u32 0]) (enters_of Try.func43 (by kernel_rfl) rfl) (hρ _ _ rfl) ((cons2 (hρ _ _ rfl) (cons2 (hρ _ _ rfl) rfl))) rfl) (fun w _ => (fed_c 3604390889#32 w).mono fun _ _ h => ⟨h.1.trans (congrArg Ending.returned (by kernel_rfl)), h.2⟩) rfl rfl rfl (w_n rfl) ?_
  refine TL_q (.int .u32 2262029012) (fun _ _ hρ _ => r_assign (hρ _ _ rfl)) rfl rfl rfl (w_n rfl) ?_
  refine TL_nil ?_
  refine p_blk_n ?_
  refine p_seq ?_
  refine T_region ?_
  refine TL_q (.int .i64 4) (fun _ _ hρ _ => r_as (r_add (hρ _ _ rfl) (hρ _ _ rfl)) (by rfl)) rfl rfl rfl (w_n rfl) ?_
  refine TL_q (.int .i64 4) (fun _ _ hρ _ => r_move (hρ _ _ rfl)) rfl rfl rfl (w_n rfl) ?_
  refine TL_nil ?_
  refine p_round ?_
  refine TR_succ ?_
  refine T_seq (T_region ?_)
  refine TL_q (.bool false) (fun _ _ hρ _ => r_as (r_lss (hρ _ _ rfl) (hρ _ _ rfl)) (by rfl)) rfl rfl rfl (w_n rfl) ?_
  refine TL_seq ?_
  refine T_seq ?_
  refine T_cond_f rfl ?_
  refine T_exit' ?_
  refine p_then_x ?_
  refine p_then_x ?_
  refine p_blk_x ?_
  refine p_seq ?_
  refine T_region ?_
  refine TL_q (.pointer (some ⟨B, 0, none⟩)) (fun _ _ hρ hm => r_load ag60 (hρ _ _ rfl) (hm.at 901 rfl) rfl) rfl rfl rfl (w_n rfl) ?_
  refine TL_q (.int .i64 13) (fun _ _ hρ _ => r_move (hρ _ _ rfl)) rfl rfl rfl (w_n rfl) ?_
  refine TL_q (.int .u32 2262029012) (fun _ _ hρ _ => r_move (hρ _ _ rfl)) rfl rfl rfl (w_n rfl) ?_
  refine TL_q (.pointer (some ⟨B, 0, none⟩)) (fun _ _ hρ _ => r_nilCheck (hρ _ _ rfl) rfl) rfl rfl rfl (w_n rfl) ?_
  refine TL_q (.pointer (some ⟨B, 3, none⟩)) (fun _ _ hρ _ => r_fieldAddr fl74_1 sz72 (hρ _ _ rfl)) rfl rfl rfl (w_n rfl) ?_
  refine TL_q (.pointer (some ⟨B, 16, none⟩)) (fun _ _ hρ _ => r_indexAddrA (i := 13) ar72 sz24 (hρ _ _ rfl) (hρ _ _ rfl) (by decide)) rfl rfl rfl (w_n rfl) ?_
  refine TL_store 900 (.cells #[.int .u32 0, .int .i32 1, .int .u32 0, .int .u32 0, .int .u32 498536548, .int .u32 997073096, .int .u32 651767980, .int .u32 1994146192, .int .u32 1802195444, .int .u32 1303535960, .int .u32 1342533948, .int .u32 3988292384, .int .u32 4027552580, .int .u32 3604390888, .int .u32 3412177804, .int .u32 2607071920, .int .u32 2262029012, .int .u32 0, .int .u32 0] 74) rfl (fun _ _ hρ hm => r_store sz24 (hρ _ _ rfl) (hρ _ _ rfl) (hm.at 900 rfl) rfl rfl rfl rfl) rfl rfl (w_n rfl) ?_
  refine TL_nil ?_
  refine p_blk_n ?_
  refine p_seq ?_
  refine T_region ?_
  refine TL_q (.int .i64 14) (fun _ _ hρ _ => r_as (r_add (hρ _ _ rfl) (hρ _ _ rfl)) (by rfl)) rfl rfl rfl (w_n rfl) ?_
  refine TL_q (.int .i64 14) (fun _ _ hρ _ => r_move (hρ _ _ rfl)) rfl rfl rfl (w_n rfl) ?_
  refine TL_nil ?_
  refine p_round ?_
  refine TR_succ ?_
  refine T_seq (T_region ?_)
  refine TL_q (.bool true) (fun _ _ hρ _ => r_as (r_lss (hρ _ _ rfl) (hρ _ _ rfl)) (by rfl)) rfl rfl rfl (w_n rfl) ?_
  refine TL_seq ?_
  refine T_seq ?_
  refine T_cond_t rfl ?_
  refine T_skip' ?_
  refine p_seq ?_
  refine T_seq ?_
  refine T_block ?_
  refine T_seq (T_region ?_)
  refine TL_q (.int .i64 14) (fun _ _ hρ _ => r_move (hρ _ _ rfl)) rfl rfl rfl (w_n rfl) ?_
  refine TL_q (.int .i64 14) (fun _ _ hρ _ => r_assign (hρ _ _ rfl)) rfl rfl rfl (w_n rfl) ?_
  refine TL_seq ?_
  refine T_seq (T_region ?_)
  refine TL_q (.int .i64 14) (fun _ _ hρ _ => r_move (hρ _ _ rfl)) rfl rfl rfl (w_n rfl) ?_
  refine TL_q (.int .u32 14) (fun _ _ hρ _ => r_as (r_conv un3 io24 (hρ _ _ rfl)) (by rfl)) rfl rfl rfl (w_n rfl) ?_
  refine TL_q (.int .u32 14) (fun _ _ hρ _ => r_assign (hρ _ _ rfl)) rfl rfl rfl (w_n rfl) ?_
  refine TL_seq ?_
  refine T_seq ?_
  refine T_seq (T_region ?_)
  refine TL_q (.int .i64 0) (fun _ _ hρ _ => r_move (hρ _ _ rfl)) rfl rfl rfl (w_n rfl) ?_
  refine TL_seq ?_
  refine T_block ?_
  refine T_rounds 5 ?_
  refine TR_succ ?_
  refine T_seq (T_region ?_)
  refine TL_q (.bool true) (fun _ _ hρ _ => r_as (r_lss (hρ _ _ rfl) (hρ _ _ rfl)) (by rfl)) rfl rfl rfl (w_n rfl) ?_
  refine TL_seq ?_
  refine T_seq ?_
  refine T_cond_t rfl ?_
  refine T_skip' ?_
  refine p_seq ?_
  refine T_seq ?_
  refine T_block ?_
  refine T_region ?_
  refine TL_q (.int .u32 14) (fun _ _ hρ _ => r_move (hρ _ _ rfl)) rfl rfl rfl (w_n rfl) ?_
  refine TL_call (.int .u32 7) (fun _ _ hρ _ => r_call (args := [.int .u32 14, .int .u32 0]) (enters_of Try.func43 (by kernel_rfl) rfl) (hρ _ _ rfl) ((cons2 (hρ _ _ rfl) (cons2 (hρ _ _ rfl) rfl))) rfl) (fun w _ => (fed_c 14#32 w).mono fun _ _ h => ⟨h.1.trans (congrArg Ending.returned (by kernel_rfl)), h.2⟩) rfl rfl rfl (w_n rfl) ?_
  refine TL_q (.int .u32 7) (fun _ _ hρ _ => r_assign (hρ _ _ rfl)) rfl rfl rfl (w_n rfl) ?_
  refine TL_nil ?_
  refine p_blk_n ?_
  refine p_seq ?_
  refine T_region ?_
  refine TL_q (.int .i64 1) (fun _ _ hρ _ => r_as (r_add (hρ _ _ rfl) (hρ _ _ rfl)) (by rfl)) rfl rfl rfl (w_n rfl) ?_
  refine TL_q (.int .i64 1) (fun _ _ hρ _ => r_move (hρ _ _ rfl)) rfl rfl rfl (w_n rfl) ?_
  refine TL_nil ?_
  refine p_round ?_
  refine TR_succ ?_
  refine T_seq (T_region ?_)
  refine TL_q (.bool true) (fun _ _ hρ _ => r_as (r_lss (hρ _ _ rfl) (hρ _ _ rfl)) (by rfl)) rfl rfl rfl (w_n rfl) ?_
  refine TL_seq ?_
  refine T_seq ?_
  refine T_cond_t rfl ?_
  refine T_skip' ?_
  refine p_seq ?_
  refine T_seq ?_
  refine T_block ?_
  refine T_region ?_
  refine TL_q (.int .u32 7) (fun _ _ hρ _ => r_move (hρ _ _ rfl)) rfl rfl rfl (w_n rfl) ?_
  refine TL_call (.int .u32 3988292387) (fun _ _ hρ _ => r_call (args := [.int .u32 7, .int .u32 0]) (enters_of Try.func43 (by kernel_rfl) rfl) (hρ _ _ rfl) ((cons2 (hρ _ _ rfl) (cons2 (hρ _ _ rfl) rfl))) rfl) (fun w _ => (fed_c 7#32 w).mono fun _ _ h => ⟨h.1.trans (congrArg Ending.returned (by kernel_rfl)), h.2⟩) rfl rfl rfl (w_n rfl) ?_
  refine TL_q (.int .u32 3988292387) (fun _ _ hρ _ => r_assign (hρ _ _ rfl)) rfl rfl rfl (w_n rfl) ?_
  refine TL_nil ?_
  refine p_blk_n ?_
  refine p_seq ?_
  refine T_region ?_
  refine TL_q (.int .i64 2) (fun _ _ hρ _ => r_as (r_add (hρ _ _ rfl) (hρ _ _ rfl)) (by rfl)) rfl rfl rfl (w_n rfl) ?_
  refine TL_q (.int .i64 2) (fun _ _ hρ _ => r_move (hρ _ _ rfl)) rfl rfl rfl (w_n rfl) ?_
  refine TL_nil ?_
  refine p_round ?_
  refine TR_succ ?_
  refine T_seq (T_region ?_)
  refine TL_q (.bool true) (fun _ _ hρ _ => r_as (r_lss (hρ _ _ rfl) (hρ _ _ rfl)) (by rfl)) rfl rfl rfl (w_n rfl) ?_
  refine TL_seq ?_
  refine T_seq ?_
  refine T_cond_t rfl ?_
  refine T_skip' ?_
  refine p_seq ?_
  refine T_seq ?_
  refine T_block ?_
  refine T_region ?_
  refine TL_q (.int .u32 3988292387) (fun _ _ hρ _ => r_move (hρ _ _ rfl)) rfl rfl rfl (w_n rfl) ?_
  refine TL_call (.int .u32 2607071921) (fun _ _ hρ _ => r_call (args := [.int .u32 3988292387, .int .u32 0]) (enters_of Try.func43 (by kernel_rfl) rfl) (hρ _ _ rfl) ((cons2 (hρ _ _ rfl) (cons2 (hρ _ _ rfl) rfl))) rfl) (fun w _ => (fed_c 3988292387#32 w).mono fun _ _ h => ⟨h.1.trans (congrArg Ending.returned (by kernel_rfl)), h.2⟩) rfl rfl rfl (w_n rfl) ?_
  refine TL_q (.int .u32 2607071921) (fun _ _ hρ _ => r_assign (hρ _ _ rfl)) rfl rfl rfl (w_n rfl) ?_
  refine TL_nil ?_
  refine p_blk_n ?_
  refine p_seq ?_
  refine T_region ?_
  refine TL_q (.int .i64 3) (fun _ _ hρ _ => r_as (r_add (hρ _ _ rfl) (hρ _ _ rfl)) (by rfl)) rfl rfl rfl (w_n rfl) ?_
  refine TL_q (.int .i64 3) (fun _ _ hρ _ => r_move (hρ _ _ rfl)) rfl rfl rfl (w_n rfl) ?_
  refine TL_nil ?_
  refine p_round ?_
  refine TR_succ ?_
  refine T_seq (T_region ?_)
  refine TL_q (.bool true) (fun _ _ hρ _ => r_as (r_lss (hρ _ _ rfl) (hρ _ _ rfl)) (by rfl)) rfl rfl rfl (w_n rfl) ?_
  refine TL_seq ?_
  refine T_seq ?_
  refine T_cond_t rfl ?_
  refine T_skip' ?_
  refine p_seq ?_
  refine T_seq ?_
  refine T_block ?_
  refine T_region ?_
  refine TL_q (.int .u32 2607071921) (fun _ _ hρ _ => r_move (hρ _ _ rfl)) rfl rfl rfl (w_n rfl) ?_
  refine TL_call (.int .u32 2685067896) (fun _ _ hρ _ => r_call (args := [.int .u32 2607071921, .int .u32 0]) (enters_of Try.func43 (by kernel_rfl) rfl) (hρ _ _ rfl) ((cons2 (hρ _ _ rfl) (cons2 (hρ _ _ rfl) rfl))) rfl) (fun w _ => (fed_c 2607071921#32 w).mono fun _ _ h => ⟨h.1.trans (congrArg Ending.returned (by kernel_rfl)), h.2⟩) rfl rfl rfl (w_n rfl) ?_
  refine TL_q (.int .u32 2685067896) (fun _ _ hρ _ => r_assign (hρ _ _ rfl)) rfl rfl rfl (w_n rfl) ?_
  refine TL_nil ?_
  refine p_blk_n ?_
  refine p_seq ?_
  refine T_region ?_
  refine TL_q (.int .i64 4) (fun _ _ hρ _ => r_as (r_add (hρ _ _ rfl) (hρ _ _ rfl)) (by rfl)) rfl rfl rfl (w_n rfl) ?_
  refine TL_q (.int .i64 4) (fun _ _ hρ _ => r_move (hρ _ _ rfl)) rfl rfl rfl (w_n rfl) ?_
  refine TL_nil ?_
  refine p_round ?_
  refine TR_succ ?_
  refine T_seq (T_region ?_)
  refine TL_q (.bool false) (fun _ _ hρ _ => r_as (r_lss (hρ _ _ rfl) (hρ _ _ rfl)) (by rfl)) rfl rfl rfl (w_n rfl) ?_
  refine TL_seq ?_
  refine T_seq ?_
  refine T_cond_f rfl ?_
  refine T_exit' ?_
  refine p_then_x ?_
  refine p_then_x ?_
  refine p_blk_x ?_
  refine p_seq ?_
  refine T_region ?_
  refine TL_q (.pointer (some ⟨B, 0, none⟩)) (fun _ _ hρ hm => r_load ag60 (hρ _ _ rfl) (hm.at 901 rfl) rfl) rfl rfl rfl (w_n rfl) ?_
  refine TL_q (.int .i64 14) (fun _ _ hρ _ => r_move (hρ _ _ rfl)) rfl rfl rfl (w_n rfl) ?_
  refine TL_q (.int .u32 2685067896) (fun _ _ hρ _ => r_move (hρ _ _ rfl)) rfl rfl rfl (w_n rfl) ?_
  refine TL_q (.pointer (some ⟨B, 0, none⟩)) (fun _ _ hρ _ => r_nilCheck (hρ _ _ rfl) rfl) rfl rfl rfl (w_n rfl) ?_
  refine TL_q (.pointer (some ⟨B, 3, none⟩)) (fun _ _ hρ _ => r_fieldAddr fl74_1 sz72 (hρ _ _ rfl)) rfl rfl rfl (w_n rfl) ?_
  refine TL_q (.pointer (some ⟨B, 17, none⟩)) (fun _ _ hρ _ => r_indexAddrA (i := 14) ar72 sz24 (hρ _ _ rfl) (hρ _ _ rfl) (by decide)) rfl rfl rfl (w_n rfl) ?_
  refine TL_store 900 (.cells #[.int .u32 0, .int .i32 1, .int .u32 0, .int .u32 0, .int .u32 498536548, .int .u32 997073096, .int .u32 651767980, .int .u32 1994146192, .int .u32 1802195444, .int .u32 1303535960, .int .u32 1342533948, .int .u32 3988292384, .int .u32 4027552580, .int .u32 3604390888, .int .u32 3412177804, .int .u32 2607071920, .int .u32 2262029012, .int .u32 2685067896, .int .u32 0] 74) rfl (fun _ _ hρ hm => r_store sz24 (hρ _ _ rfl) (hρ _ _ rfl) (hm.at 900 rfl) rfl rfl rfl rfl) rfl rfl (w_n rfl) ?_
  refine TL_nil ?_
  refine p_blk_n ?_
  refine p_seq ?_
  refine T_region ?_
  refine TL_q (.int .i64 15) (fun _ _ hρ _ => r_as (r_add (hρ _ _ rfl) (hρ _ _ rfl)) (by rfl)) rfl rfl rfl (w_n rfl) ?_
  refine TL_q (.int .i64 15) (fun _ _ hρ _ => r_move (hρ _ _ rfl)) rfl rfl rfl (w_n rfl) ?_
  refine TL_nil ?_
  refine p_round ?_
  refine TR_succ ?_
  refine T_seq (T_region ?_)
  refine TL_q (.bool true) (fun _ _ hρ _ => r_as (r_lss (hρ _ _ rfl) (hρ _ _ rfl)) (by rfl)) rfl rfl rfl (w_n rfl) ?_
  refine TL_seq ?_
  refine T_seq ?_
  refine T_cond_t rfl ?_
  refine T_skip' ?_
  refine p_seq ?_
  refine T_seq ?_
  refine T_block ?_
  refine T_seq (T_region ?_)
  refine TL_q (.int .i64 15) (fun _ _ hρ _ => r_move (hρ _ _ rfl)) rfl rfl rfl (w_n rfl) ?_
  refine TL_q (.int .i64 15) (fun _ _ hρ _ => r_assign (hρ _ _ rfl)) rfl rfl rfl (w_n rfl) ?_
  refine TL_seq ?_
  refine T_seq (T_region ?_)
  refine TL_q (.int .i64 15) (fun _ _ hρ _ => r_move (hρ _ _ rfl)) rfl rfl rfl (w_n rfl) ?_
  refine TL_q (.int .u32 15) (fun _ _ hρ _ => r_as (r_conv un3 io24 (hρ _ _ rfl)) (by rfl)) rfl rfl rfl (w_n rfl) ?_
  refine TL_q (.int .u32 15) (fun _ _ hρ _ => r_assign (hρ _ _ rfl)) rfl rfl rfl (w_n rfl) ?_
  refine TL_seq ?_
  refine T_seq ?_
  refine T_seq (T_region ?_)
  refine TL_q (.int .i64 0) (fun _ _ hρ _ => r_move (hρ _ _ rfl)) rfl rfl rfl (w_n rfl) ?_
  refine TL_seq ?_
  refine T_block ?_
  refine T_rounds 5 ?_
  refine TR_succ ?_
  refine T_seq (T_region ?_)
  refine TL_q (.bool true) (fun _ _ hρ _ => r_as (r_lss (hρ _ _ rfl) (hρ _ _ rfl)) (by rfl)) rfl rfl rfl (w_n rfl) ?_
  refine TL_seq ?_
  refine T_seq ?_
  refine T_cond_t rfl ?_
  refine T_skip' ?_
  refine p_seq ?_
  refine T_seq ?_
  refine T_block ?_
  refine T_region ?_
  refine TL_q (.int .u32 15) (fun _ _ hρ _ => r_move (hρ _ _ rfl)) rfl rfl rfl (w_n rfl) ?_
  refine TL_call (.int .u32 3988292391) (fun _ _ hρ _ => r_call (args := [.int .u32 15, .int .u32 0]) (enters_of Try.func43 (by kernel_rfl) rfl) (hρ _ _ rfl) ((cons2 (hρ _ _ rfl) (cons2 (hρ _ _ rfl) rfl))) rfl) (fun w _ => (fed_c 15#32 w).mono fun _ _ h => ⟨h.1.trans (congrArg Ending.returned (by kernel_rfl)), h.2⟩) rfl rfl rfl (w_n rfl) ?_
  refine TL_q (.int .u32 3988292391) (fun _ _ hρ _ => r_assign (hρ _ _ rfl)) rfl rfl rfl (w_n rfl) ?_
  refine TL_nil ?_
  refine p_blk_n ?_
  refine p_seq ?_
  refine T_region ?_
  refine TL_q (.int .i64 1) (fun _ _ hρ _ => r_as (r_add (hρ _ _ rfl) (hρ _ _ rfl)) (by rfl)) rfl rfl rfl (w_n rfl) ?_
  refine TL_q (.int .i64 1) (fun _ _ hρ _ => r_move (hρ _ _ rfl)) rfl rfl rfl (w_n rfl) ?_
  refine TL_nil ?_
  refine p_round ?_
  refine TR_succ ?_
  refine T_seq (T_region ?_)
  refine TL_q (.bool true) (fun _ _ hρ _ => r_as (r_lss (hρ _ _ rfl) (hρ _ _ rfl)) (by rfl)) rfl rfl rfl (w_n rfl) ?_
  refine TL_seq ?_
  refine T_seq ?_
  refine T_cond_t rfl ?_
  refine T_skip' ?_
  refine p_seq ?_
  refine T_seq ?_
  refine T_block ?_
  refine T_region ?_
  refine TL_q (.int .u32 3988292391) (fun _ _ hρ _ => r_move (hρ _ _ rfl)) rfl rfl rfl (w_n rfl) ?_
  refine TL_call (.int .u32 2607071923) (fun _ _ hρ _ => r_call (args := [.int .u32 3988292391, .int .u32 0]) (enters_of Try.func43 (by kernel_rfl) rfl) (hρ _ _ rfl) ((cons2 (hρ _ _ rfl) (cons2 (hρ _ _ rfl) rfl))) rfl) (fun w _ => (fed_c 3988292391#32 w).mono fun _ _ h => ⟨h.1.trans (congrArg Ending.returned (by kernel_rfl)), h.2⟩) rfl rfl rfl (w_n rfl) ?_
  refine TL_q (.int .u32 2607071923) (fun _ _ hρ _ => r_assign (hρ _ _ rfl)) rfl rfl rfl (w_n rfl) ?_
  refine TL_nil ?_
  refine p_blk_n ?_
  refine p_seq ?_
  refine T_region ?_
  refine TL_q (.int .i64 2) (fun _ _ hρ _ => r_as (r_add (hρ _ _ rfl) (hρ _ _ rfl)) (by rfl)) rfl rfl rfl (w_n rfl) ?_
  refine TL_q (.int .i64 2) (fun _ _ hρ _ => r_move (hρ _ _ rfl)) rfl rfl rfl (w_n rfl) ?_
  refine TL_nil ?_
  refine p_round ?_
  refine TR_succ ?_
  refine T_seq (T_region ?_)
  refine TL_q (.bool true) (fun _ _ hρ _ => r_as (r_lss (hρ _ _ rfl) (hρ _ _ rfl)) (by rfl)) rfl rfl rfl (w_n rfl) ?_
  refine TL_seq ?_
  refine T_seq ?_
  refine T_cond_t rfl ?_
  refine T_skip' ?_
  refine p_seq ?_
  refine T_seq ?_
  refine T_block ?_
  refine T_region ?_
  refine TL_q (.int .u32 2607071923) (fun _ _ hρ _ => r_move (hρ _ _ rfl)) rfl rfl rfl (w_n rfl) ?_
  refine TL_call (.int .u32 2685067897) (fun _ _ hρ _ => r_call (args := [.int .u32 2607071923, .int .u32 0]) (enters_of Try.func43 (by kernel_rfl) rfl) (hρ _ _ rfl) ((cons2 (hρ _ _ rfl) (cons2 (hρ _ _ rfl) rfl))) rfl) (fun w _ => (fed_c 2607071923#32 w).mono fun _ _ h => ⟨h.1.trans (congrArg Ending.returned (by kernel_rfl)), h.2⟩) rfl rfl rfl (w_n rfl) ?_
  refine TL_q (.int .u32 2685067897) (fun _ _ hρ _ => r_assign (hρ _ _ rfl)) rfl rfl rfl (w_n rfl) ?_
  refine TL_nil ?_
  refine p_blk_n ?_
  refine p_seq ?_
  refine T_region ?_
  refine TL_q (.int .i64 3) (fun _ _ hρ _ => r_as (r_add (hρ _ _ rfl) (hρ _ _ rfl)) (by rfl)) rfl rfl rfl (w_n rfl) ?_
  refine TL_q (.int .i64 3) (fun _ _ hρ _ => r_move (hρ _ _ rfl)) rfl rfl rfl (w_n rfl) ?_
  refine TL_nil ?_
  refine p_round ?_
  refine TR_succ ?_
  refine T_seq (T_region ?_)
  refine TL_q (.bool true) (fun _ _ hρ _ => r_as (r_lss (hρ _ _ rfl) (hρ _ _ rfl)) (by rfl)) rfl rfl rfl (w_n rfl) ?_
  refine TL_seq ?_
  refine T_seq ?_
  refine T_cond_t rfl ?_
  refine T_skip' ?_
  refine p_seq ?_
  refine T_seq ?_
  refine T_block ?_
  refine T_region ?_
  refine TL_q (.int .u32 2685067897) (fun _ _ hρ _ => r_move (hρ _ _ rfl)) rfl rfl rfl (w_n rfl) ?_
  refine TL_call (.int .u32 3183342108) (fun _ _ hρ _ => r_call (args := [.int .u32 2685067897, .int .u32 0]) (enters_of Try.func43 (by kernel_rfl) rfl) (hρ _ _ rfl) ((cons2 (hρ _ _ rfl) (cons2 (hρ _ _ rfl) rfl))) rfl) (fun w _ => (fed_c 2685067897#32 w).mono fun _ _ h => ⟨h.1.trans (congrArg Ending.returned (by kernel_rfl)), h.2⟩) rfl rfl rfl (w_n rfl) ?_
  refine TL_q (.int .u32 3183342108) (fun _ _ hρ _ => r_assign (hρ _ _ rfl)) rfl rfl rfl (w_n rfl) ?_
  refine TL_nil ?_
  refine p_blk_n ?_
  refine p_seq ?_
  refine T_region ?_
  refine TL_q (.int .i64 4) (fun _ _ hρ _ => r_as (r_add (hρ _ _ rfl) (hρ _ _ rfl)) (by rfl)) rfl rfl rfl (w_n rfl) ?_
  refine TL_q (.int .i64 4) (fun _ _ hρ _ => r_move (hρ _ _ rfl)) rfl rfl rfl (w_n rfl) ?_
  refine TL_nil ?_
  refine p_round ?_
  refine TR_succ ?_
  refine T_seq (T_region ?_)
  refine TL_q (.bool false) (fun _ _ hρ _ => r_as (r_lss (hρ _ _ rfl) (hρ _ _ rfl)) (by rfl)) rfl rfl rfl (w_n rfl) ?_
  refine TL_seq ?_
  refine T_seq ?_
  refine T_cond_f rfl ?_
  refine T_exit' ?_
  refine p_then_x ?_
  refine p_then_x ?_
  refine p_blk_x ?_
  refine p_seq ?_
  refine T_region ?_
  refine TL_q (.pointer (some ⟨B, 0, none⟩)) (fun _ _ hρ hm => r_load ag60 (hρ _ _ rfl) (hm.at 901 rfl) rfl) rfl rfl rfl (w_n rfl) ?_
  refine TL_q (.int .i64 15) (fun _ _ hρ _ => r_move (hρ _ _ rfl)) rfl rfl rfl (w_n rfl) ?_
  refine TL_q (.int .u32 3183342108) (fun _ _ hρ _ => r_move (hρ _ _ rfl)) rfl rfl rfl (w_n rfl) ?_
  refine TL_q (.pointer (some ⟨B, 0, none⟩)) (fun _ _ hρ _ => r_nilCheck (hρ _ _ rfl) rfl) rfl rfl rfl (w_n rfl) ?_
  refine TL_q (.pointer (some ⟨B, 3, none⟩)) (fun _ _ hρ _ => r_fieldAddr fl74_1 sz72 (hρ _ _ rfl)) rfl rfl rfl (w_n rfl) ?_
  refine TL_q (.pointer (some ⟨B, 18, none⟩)) (fun _ _ hρ _ => r_indexAddrA (i := 15) ar72 sz24 (hρ _ _ rfl) (hρ _ _ rfl) (by decide)) rfl rfl rfl (w_n rfl) ?_
  refine TL_store 900 (.cells #[.int .u32 0, .int .i32 1, .int .u32 0, .int .u32 0, .int .u32 498536548, .int .u32 997073096, .int .u32 651767980, .int .u32 1994146192, .int .u32 1802195444, .int .u32 1303535960, .int .u32 1342533948, .int .u32 3988292384, .int .u32 4027552580, .int .u32 3604390888, .int .u32 3412177804, .int .u32 2607071920, .int .u32 2262029012, .int .u32 2685067896, .int .u32 3183342108] 74) rfl (fun _ _ hρ hm => r_store sz24 (hρ _ _ rfl) (hρ _ _ rfl) (hm.at 900 rfl) rfl rfl rfl rfl) rfl rfl (w_n rfl) ?_
  refine TL_nil ?_
  refine p_blk_n ?_
  refine p_seq ?_
  refine T_region ?_
  refine TL_q (.int .i64 16) (fun _ _ hρ _ => r_as (r_add (hρ _ _ rfl) (hρ _ _ rfl)) (by rfl)) rfl rfl rfl (w_n rfl) ?_
  refine TL_q (.int .i64 16) (fun _ _ hρ _ => r_move (hρ _ _ rfl)) rfl rfl rfl (w_n rfl) ?_
  refine TL_nil ?_
  refine p_round ?_
  refine TR_succ ?_
  refine T_seq (T_region ?_)
  refine TL_q (.bool false) (fun _ _ hρ _ => r_as (r_lss (hρ _ _ rfl) (hρ _ _ rfl)) (by rfl)) rfl rfl rfl (w_n rfl) ?_
  refine TL_seq ?_
  refine T_seq ?_
  refine T_cond_f rfl ?_
  refine T_exit' ?_
  refine p_then_x ?_
  refine p_then_x ?_
  refine p_blk_x ?_
  refine p_end ?_
  refine ret_of rfl (.tuple #[]) (fun tmps w hk hm => results_none rfl _ _ _) (fun w hm => ?_)
  refine ⟨(), trivial, rfl, ?_⟩
  refine hm.of (fun k q hk => ?_)
  by_cases e900 : 900 = k
  · subst e900; exact hk
  have f900 : ∀ (K : Heap) (v : Res), lk ((900, v) :: K) k = lk K k := fun K v => lk_cons_other K v e900
  by_cases e901 : 901 = k
  · subst e901; exact h901.symm.trans hk
  have f901 : ∀ (K : Heap) (v : Res), lk ((901, v) :: K) k = lk K k := fun K v => lk_cons_other K v e901
  simp only [f900, f901] at hk ⊢
  exact hk

theorem slow_ht (w₀ : World) (L : Heap) (B Cc : Nat) (hi : lk L 900 = some (.blk B (.cells tbZ 74))) (h901 : lk L 901 = some (.blk Cc (.cells #[.pointer (some ⟨B, 0, none⟩)] 60))) : ∀ w, MemOk w₀ L w → Calls Try.prog 45 #[.pointer (some ⟨B, 0, none⟩), .func (.func 42) #[] #[.pointer (some ⟨Cc, 0, none⟩)]] w (HAns w₀ (fun _ : Unit => True) (fun _ => .tuple #[]) (fun _ => (900, .blk B (.cells tbE 74)) :: L)) := by
  refine ht_of_TD (l := [.pointer (some ⟨B, 0, none⟩), .func (.func 42) #[] #[.pointer (some ⟨Cc, 0, none⟩)]]) (L := L) 21 Try.func45 rfl rfl rfl ?_
  refine T_mem ((900, .blk B (.cells #[.int .u32 0, .int .i32 0, .int .u32 0, .int .u32 0, .int .u32 0, .int .u32 0, .int .u32 0, .int .u32 0, .int .u32 0, .int .u32 0, .int .u32 0, .int .u32 0, .int .u32 0, .int .u32 0, .int .u32 0, .int .u32 0, .int .u32 0, .int .u32 0, .int .u32 0] 74)) :: (901, .blk Cc (.cells #[.pointer (some ⟨B, 0, none⟩)] 60)) :: L) (fun _ hm => (hm.of (lk_dup h901)).of (lk_dup (show lk ((901, _) :: L) 900 = _ from (lk_cons_other _ _ (by decide)).trans hi))) ?_
  show T _ _ _ [(0, .pointer (some ⟨B, 0, none⟩)), (1, .func (.func 42) #[] #[.pointer (some ⟨Cc, 0, none⟩)])] ((900, .blk B (.cells #[.int .u32 0, .int .i32 0, .int .u32 0, .int .u32 0, .int .u32 0, .int .u32 0, .int .u32 0, .int .u32 0, .int .u32 0, .int .u32 0, .int .u32 0, .int .u32 0, .int .u32 0, .int .u32 0, .int .u32 0, .int .u32 0, .int .u32 0, .int .u32 0, .int .u32 0] 74)) :: (901, .blk Cc (.cells #[.pointer (some ⟨B, 0, none⟩)] 60)) :: L)
  refine T_seq (T_region ?_)
  refine TL_q (.pointer (some ⟨B, 0, none⟩)) (fun _ _ hρ _ => r_move (hρ _ _ rfl)) rfl rfl rfl (w_n rfl) ?_
  refine TL_q (.pointer (some ⟨B, 0, none⟩)) (fun _ _ hρ _ => r_nilCheck (hρ _ _ rfl) rfl) rfl rfl rfl (w_n rfl) ?_
  refine TL_q (.pointer (some ⟨B, 1, none⟩)) (fun _ _ hρ _ => r_fieldAddr fl71_2 sz69 (hρ _ _ rfl)) rfl rfl rfl (w_n rfl) ?_
  refine TL_callH _ _ _ (fun _ _ hρ _ => r_call (args := [.pointer (some ⟨B, 1, none⟩)]) (enters_of Try.func47 (by kernel_rfl) rfl) (hρ _ _ rfl) ((cons2 (hρ _ _ rfl) rfl)) rfl) (fun w hm => lock_ht _ _ B rfl w hm) rfl rfl rfl (w_n rfl) ?_
  intro _ _
  refine TL_seq ?_
  refine T_seq (T_region ?_)
  refine TL_q (.pointer (some ⟨B, 0, none⟩)) (fun _ _ hρ _ => r_move (hρ _ _ rfl)) rfl rfl rfl (w_n rfl) ?_
  refine TL_q (.pointer (some ⟨B, 0, none⟩)) (fun _ _ hρ _ => r_nilCheck (hρ _ _ rfl) rfl) rfl rfl rfl (w_n rfl) ?_
  refine TL_q (.pointer (some ⟨B, 1, none⟩)) (fun _ _ hρ _ => r_fieldAddr fl71_2 sz69 (hρ _ _ rfl)) rfl rfl rfl (w_n rfl) ?_
  refine TL_defer ({ target := .fn (.func 48) #[], args := #[.pointer (some ⟨B, 1, none⟩)] }) rfl (fun _ _ hρ _ => r_defer (args := [.pointer (some ⟨B, 1, none⟩)]) (hρ _ _ rfl) ((cons2 (hρ _ _ rfl) rfl)) rfl) rfl (w_n rfl) ?_
  refine TL_seq ?_
  refine T_seq (T_region ?_)
  refine TL_q (.pointer (some ⟨B, 0, none⟩)) (fun _ _ hρ _ => r_move (hρ _ _ rfl)) rfl rfl rfl (w_n rfl) ?_
  refine TL_q (.pointer (some ⟨B, 0, none⟩)) (fun _ _ hρ _ => r_nilCheck (hρ _ _ rfl) rfl) rfl rfl rfl (w_n rfl) ?_
  refine TL_q (.pointer (some ⟨B, 0, none⟩)) (fun _ _ hρ _ => r_fieldAddr fl71_1 sz65 (hρ _ _ rfl)) rfl rfl rfl (w_n rfl) ?_
  refine TL_callH _ _ _ (fun _ _ hρ _ => r_call (args := [.pointer (some ⟨B, 0, none⟩)]) (enters_of Try.func44 (by kernel_rfl) rfl) (hρ _ _ rfl) ((cons2 (hρ _ _ rfl) rfl)) rfl) (fun w hm => load_tbL _ _ B rfl w hm) rfl rfl rfl (w_n rfl) ?_
  intro _ _
  refine TL_q (.bool true) (fun _ _ hρ _ => r_not (b := false) (hρ _ _ rfl)) rfl rfl rfl (w_n rfl) ?_
  refine TL_seq ?_
  refine T_cond_t rfl ?_
  refine T_seq (T_region ?_)
  refine TL_q (.pointer (some ⟨B, 0, none⟩)) (fun _ _ hρ _ => r_move (hρ _ _ rfl)) rfl rfl rfl (w_n rfl) ?_
  refine TL_q (.pointer (some ⟨B, 0, none⟩)) (fun _ _ hρ _ => r_nilCheck (hρ _ _ rfl) rfl) rfl rfl rfl (w_n rfl) ?_
  refine TL_q (.pointer (some ⟨B, 0, none⟩)) (fun _ _ hρ _ => r_fieldAddr fl71_1 sz65 (hρ _ _ rfl)) rfl rfl rfl (w_n rfl) ?_
  refine TL_defer ({ target := .fn (.func 49) #[], args := #[.pointer (some ⟨B, 0, none⟩), .bool true] }) rfl (fun _ _ hρ _ => r_defer (args := [.pointer (some ⟨B, 0, none⟩), .bool true]) (hρ _ _ rfl) ((cons2 (hρ _ _ rfl) (cons2 (hρ _ _ rfl) rfl))) rfl) rfl (w_n rfl) ?_
  refine TL_seq ?_
  refine T_region ?_
  refine TL_q (.func (.func 42) #[] #[.pointer (some ⟨Cc, 0, none⟩)]) (fun _ _ hρ _ => r_move (hρ _ _ rfl)) rfl rfl rfl (w_n rfl) ?_
  refine TL_callH _ _ _ (fun _ _ hρ _ => r_call (args := []) (enters_of Try.func42 (by kernel_rfl) rfl) (hρ _ _ rfl) (by rfl) rfl) (fun w hm => rows_ht _ _ B Cc rfl rfl w hm) rfl rfl rfl (w_n rfl) ?_
  intro _ _
  refine TL_nil ?_
  refine p_endD ?_
  refine ret_ofD [{ target := .fn (.func 49) #[], args := #[.pointer (some ⟨B, 0, none⟩), .bool true] }, { target := .fn (.func 48) #[], args := #[.pointer (some ⟨B, 1, none⟩)] }] rfl (fun tmps hk => ?_)
  refine leavesH_cons (enters_of Try.func49 (by kernel_rfl) rfl) (fun w hm => store_d _ _ B rfl w hm) ?_
  refine leavesH_cons (enters_of Try.func48 (by kernel_rfl) rfl) (fun w hm => unlock_d _ _ B rfl w hm) ?_
  refine leavesH_nil (.tuple #[]) (fun _ _ => results_none rfl _ _ _) (fun w hm => ?_)
  refine ⟨(), trivial, rfl, ?_⟩
  refine hm.of (fun k q hk => ?_)
  by_cases e900 : 900 = k
  · subst e900; exact hk
  have f900 : ∀ (K : Heap) (v : Res), lk ((900, v) :: K) k = lk K k := fun K v => lk_cons_other K v e900
  by_cases e901 : 901 = k
  · subst e901; exact h901.symm.trans hk
  have f901 : ∀ (K : Heap) (v : Res), lk ((901, v) :: K) k = lk K k := fun K v => lk_cons_other K v e901
  simp only [f900, f901] at hk ⊢
  exact hk

theorem do0_ht (w₀ : World) (L : Heap) (B Cc : Nat) (hi : lk L 900 = some (.blk B (.cells tbZ 74))) (h901 : lk L 901 = some (.blk Cc (.cells #[.pointer (some ⟨B, 0, none⟩)] 60))) : ∀ w, MemOk w₀ L w → Calls Try.prog 41 #[.pointer (some ⟨B, 0, none⟩), .func (.func 42) #[] #[.pointer (some ⟨Cc, 0, none⟩)]] w (HAns w₀ (fun _ : Unit => True) (fun _ => .tuple #[]) (fun _ => (900, .blk B (.cells tbE 74)) :: L)) := by
  refine ht_of_T (l := [.pointer (some ⟨B, 0, none⟩), .func (.func 42) #[] #[.pointer (some ⟨Cc, 0, none⟩)]]) (L := L) 12 Try.func41 rfl rfl rfl ?_
  refine T_mem ((900, .blk B (.cells #[.int .u32 0, .int .i32 0, .int .u32 0, .int .u32 0, .int .u32 0, .int .u32 0, .int .u32 0, .int .u32 0, .int .u32 0, .int .u32 0, .int .u32 0, .int .u32 0, .int .u32 0, .int .u32 0, .int .u32 0, .int .u32 0, .int .u32 0, .int .u32 0, .int .u32 0] 74)) :: (901, .blk Cc (.cells #[.pointer (some ⟨B, 0, none⟩)] 60)) :: L) (fun _ hm => (hm.of (lk_dup h901)).of (lk_dup (show lk ((901, _) :: L) 900 = _ from (lk_cons_other _ _ (by decide)).trans hi))) ?_
  show T _ _ _ [(0, .pointer (some ⟨B, 0, none⟩)), (1, .func (.func 42) #[] #[.pointer (some ⟨Cc, 0, none⟩)])] ((900, .blk B (.cells #[.int .u32 0, .int .i32 0, .int .u32 0, .int .u32 0, .int .u32 0, .int .u32 0, .int .u32 0, .int .u32 0, .int .u32 0, .int .u32 0, .int .u32 0, .int .u32 0, .int .u32 0, .int .u32 0, .int .u32 0, .int .u32 0, .int .u32 0, .int .u32 0, .int .u32 0] 74)) :: (901, .blk Cc (.cells #[.pointer (some ⟨B, 0, none⟩)] 60)) :: L)
  refine T_seq (T_region ?_)
  refine TL_q (.pointer (some ⟨B, 0, none⟩)) (fun _ _ hρ _ => r_move (hρ _ _ rfl)) rfl rfl rfl (w_n rfl) ?_
  refine TL_q (.pointer (some ⟨B, 0, none⟩)) (fun _ _ hρ _ => r_nilCheck (hρ _ _ rfl) rfl) rfl rfl rfl (w_n rfl) ?_
  refine TL_q (.pointer (some ⟨B, 0, none⟩)) (fun _ _ hρ _ => r_fieldAddr fl71_1 sz65 (hρ _ _ rfl)) rfl rfl rfl (w_n rfl) ?_
  refine TL_callH _ _ _ (fun _ _ hρ _ => r_call (args := [.pointer (some ⟨B, 0, none⟩)]) (enters_of Try.func44 (by kernel_rfl) rfl) (hρ _ _ rfl) ((cons2 (hρ _ _ rfl) rfl)) rfl) (fun w hm => load_tbZ _ _ B rfl w hm) rfl rfl rfl (w_n rfl) ?_
  intro _ _
  refine TL_q (.bool true) (fun _ _ hρ _ => r_not (b := false) (hρ _ _ rfl)) rfl rfl rfl (w_n rfl) ?_
  refine TL_seq ?_
  refine T_cond_t rfl ?_
  refine T_region ?_
  refine TL_q (.pointer (some ⟨B, 0, none⟩)) (fun _ _ hρ _ => r_move (hρ _ _ rfl)) rfl rfl rfl (w_n rfl) ?_
  refine TL_q (.func (.func 42) #[] #[.pointer (some ⟨Cc, 0, none⟩)]) (fun _ _ hρ _ => r_move (hρ _ _ rfl)) rfl rfl rfl (w_n rfl) ?_
  refine TL_callH _ _ _ (fun _ _ hρ _ => r_call (args := [.pointer (some ⟨B, 0, none⟩), .func (.func 42) #[] #[.pointer (some ⟨Cc, 0, none⟩)]]) (enters_of Try.func45 (by kernel_rfl) rfl) (hρ _ _ rfl) ((cons2 (hρ _ _ rfl) (cons2 (hρ _ _ rfl) rfl))) rfl) (fun w hm => slow_ht _ _ B Cc rfl rfl w hm) rfl rfl rfl (w_n rfl) ?_
  intro _ _
  refine TL_nil ?_
  refine p_end ?_
  refine ret_of rfl (.tuple #[]) (fun tmps w hk hm => results_none rfl _ _ _) (fun w hm => ?_)
  refine ⟨(), trivial, rfl, ?_⟩
  refine hm.of (fun k q hk => ?_)
  by_cases e900 : 900 = k
  · subst e900; exact hk
  have f900 : ∀ (K : Heap) (v : Res), lk ((900, v) :: K) k = lk K k := fun K v => lk_cons_other K v e900
  by_cases e901 : 901 = k
  · subst e901; exact h901.symm.trans hk
  have f901 : ∀ (K : Heap) (v : Res), lk ((901, v) :: K) k = lk K k := fun K v => lk_cons_other K v e901
  simp only [f900, f901] at hk ⊢
  exact hk

theorem do1_ht (w₀ : World) (L : Heap) (B Cc : Nat) (hi : lk L 900 = some (.blk B (.cells tbE 74))) (h901 : lk L 901 = some (.blk Cc (.cells #[.pointer (some ⟨B, 0, none⟩)] 60))) : ∀ w, MemOk w₀ L w → Calls Try.prog 41 #[.pointer (some ⟨B, 0, none⟩), .func (.func 42) #[] #[.pointer (some ⟨Cc, 0, none⟩)]] w (HAns w₀ (fun _ : Unit => True) (fun _ => .tuple #[]) (fun _ => (900, .blk B (.cells tbE 74)) :: L)) := by
  refine ht_of_T (l := [.pointer (some ⟨B, 0, none⟩), .func (.func 42) #[] #[.pointer (some ⟨Cc, 0, none⟩)]]) (L := L) 12 Try.func41 rfl rfl rfl ?_
  refine T_mem ((900, .blk B (.cells #[.int .u32 1, .int .i32 0, .int .u32 0, .int .u32 0, .int .u32 498536548, .int .u32 997073096, .int .u32 651767980, .int .u32 1994146192, .int .u32 1802195444, .int .u32 1303535960, .int .u32 1342533948, .int .u32 3988292384, .int .u32 4027552580, .int .u32 3604390888, .int .u32 3412177804, .int .u32 2607071920, .int .u32 2262029012, .int .u32 2685067896, .int .u32 3183342108] 74)) :: (901, .blk Cc (.cells #[.pointer (some ⟨B, 0, none⟩)] 60)) :: L) (fun _ hm => (hm.of (lk_dup h901)).of (lk_dup (show lk ((901, _) :: L) 900 = _ from (lk_cons_other _ _ (by decide)).trans hi))) ?_
  show T _ _ _ [(0, .pointer (some ⟨B, 0, none⟩)), (1, .func (.func 42) #[] #[.pointer (some ⟨Cc, 0, none⟩)])] ((900, .blk B (.cells #[.int .u32 1, .int .i32 0, .int .u32 0, .int .u32 0, .int .u32 498536548, .int .u32 997073096, .int .u32 651767980, .int .u32 1994146192, .int .u32 1802195444, .int .u32 1303535960, .int .u32 1342533948, .int .u32 3988292384, .int .u32 4027552580, .int .u32 3604390888, .int .u32 3412177804, .int .u32 2607071920, .int .u32 2262029012, .int .u32 2685067896, .int .u32 3183342108] 74)) :: (901, .blk Cc (.cells #[.pointer (some ⟨B, 0, none⟩)] 60)) :: L)
  refine T_seq (T_region ?_)
  refine TL_q (.pointer (some ⟨B, 0, none⟩)) (fun _ _ hρ _ => r_move (hρ _ _ rfl)) rfl rfl rfl (w_n rfl) ?_
  refine TL_q (.pointer (some ⟨B, 0, none⟩)) (fun _ _ hρ _ => r_nilCheck (hρ _ _ rfl) rfl) rfl rfl rfl (w_n rfl) ?_
  refine TL_q (.pointer (some ⟨B, 0, none⟩)) (fun _ _ hρ _ => r_fieldAddr fl71_1 sz65 (hρ _ _ rfl)) rfl rfl rfl (w_n rfl) ?_
  refine TL_callH _ _ _ (fun _ _ hρ _ => r_call (args := [.pointer (some ⟨B, 0, none⟩)]) (enters_of Try.func44 (by kernel_rfl) rfl) (hρ _ _ rfl) ((cons2 (hρ _ _ rfl) rfl)) rfl) (fun w hm => load_tbE _ _ B rfl w hm) rfl rfl rfl (w_n rfl) ?_
  intro _ _
  refine TL_q (.bool false) (fun _ _ hρ _ => r_not (b := true) (hρ _ _ rfl)) rfl rfl rfl (w_n rfl) ?_
  refine TL_seq ?_
  refine T_cond_f rfl ?_
  refine T_skip' ?_
  refine p_end ?_
  refine ret_of rfl (.tuple #[]) (fun tmps w hk hm => results_none rfl _ _ _) (fun w hm => ?_)
  refine ⟨(), trivial, rfl, ?_⟩
  refine hm.of (fun k q hk => ?_)
  by_cases e900 : 900 = k
  · subst e900; exact hk
  have f900 : ∀ (K : Heap) (v : Res), lk ((900, v) :: K) k = lk K k := fun K v => lk_cons_other K v e900
  by_cases e901 : 901 = k
  · subst e901; exact h901.symm.trans hk
  have f901 : ∀ (K : Heap) (v : Res), lk ((901, v) :: K) k = lk K k := fun K v => lk_cons_other K v e901
  simp only [f900, f901] at hk ⊢
  exact hk

theorem at0_ht (w₀ : World) (L : Heap) (B : Nat) (x : Wd) (hx : x.toNat < 16) (hi : lk L 900 = some (.blk B (.cells tbZ 74))) (hf : lk L 901 = none) : ∀ w, MemOk w₀ L w → Calls Try.prog 39 #[.pointer (some ⟨B, 0, none⟩), .int .u32 (x.toNat : Int)] w (HAns w₀ (fun _ : Unit => True) (fun _ => .int .u32 ((fedN 4 x).toNat : Int)) (fun _ => (900, .blk B (.cells tbE 74)) :: L)) := by
  refine ht_of_T (l := [.pointer (some ⟨B, 0, none⟩), .int .u32 ((x).toNat : Int)]) (L := L) 16 Try.func39 rfl rfl rfl ?_
  refine T_mem ((900, .blk B (.cells #[.int .u32 0, .int .i32 0, .int .u32 0, .int .u32 0, .int .u32 0, .int .u32 0, .int .u32 0, .int .u32 0, .int .u32 0, .int .u32 0, .int .u32 0, .int .u32 0, .int .u32 0, .int .u32 0, .int .u32 0, .int .u32 0, .int .u32 0, .int .u32 0, .int .u32 0] 74)) :: L) (fun _ hm => hm.of (lk_dup hi)) ?_
  show T _ _ _ [(0, .pointer (some ⟨B, 0, none⟩)), (1, .int .u32 ((x).toNat : Int))] ((900, .blk B (.cells #[.int .u32 0, .int .i32 0, .int .u32 0, .int .u32 0, .int .u32 0, .int .u32 0, .int .u32 0, .int .u32 0, .int .u32 0, .int .u32 0, .int .u32 0, .int .u32 0, .int .u32 0, .int .u32 0, .int .u32 0, .int .u32 0, .int .u32 0, .int .u32 0, .int .u32 0] 74)) :: L)
  refine T_seq (T_region ?_)
  refine TL_new 901 (.cells #[.pointer (some ⟨B, 0, none⟩)] 60) (fun B => .pointer (some ⟨B, 0, none⟩)) (fun _ _ hρ _ => r_box (hρ _ _ rfl) rfl) rfl rfl rfl (w_n rfl) ?_
  intro B1
  refine TL_q (.int .u32 0) (fun _ _ hρ _ => r_assign (hρ _ _ rfl)) rfl rfl rfl (w_n rfl) ?_
  refine TL_seq ?_
  refine T_seq (T_region ?_)
  refine TL_q (.pointer (some ⟨B, 0, none⟩)) (fun _ _ hρ hm => r_load ag60 (hρ _ _ rfl) (hm.at 901 rfl) rfl) rfl rfl rfl (w_n rfl) ?_
  refine TL_q (.pointer (some ⟨B, 0, none⟩)) (fun _ _ hρ _ => r_nilCheck (hρ _ _ rfl) rfl) rfl rfl rfl (w_n rfl) ?_
  refine TL_q (.pointer (some ⟨B, 0, none⟩)) (fun _ _ hρ _ => r_fieldAddr fl74_0 sz71 (hρ _ _ rfl)) rfl rfl rfl (w_n rfl) ?_
  refine TL_q (.func (.func 42) #[] #[.pointer (some ⟨B1, 0, none⟩)]) (fun _ _ hρ _ => r_makeFunc (by simp) (map_arr (cons2 (hρ _ _ rfl) rfl))) rfl rfl rfl (w_n rfl) ?_
  refine TL_callH _ _ _ (fun _ _ hρ _ => r_call (args := [.pointer (some ⟨B, 0, none⟩), .func (.func 42) #[] #[.pointer (some ⟨B1, 0, none⟩)]]) (enters_of Try.func41 (by kernel_rfl) rfl) (hρ _ _ rfl) ((cons2 (hρ _ _ rfl) (cons2 (hρ _ _ rfl) rfl))) rfl) (fun w hm => do0_ht _ _ B B1 rfl rfl w hm) rfl rfl rfl (w_n rfl) ?_
  intro _ _
  refine TL_seq ?_
  refine T_seq (T_region ?_)
  refine TL_q (.pointer (some ⟨B, 0, none⟩)) (fun _ _ hρ hm => r_load ag60 (hρ _ _ rfl) (hm.at 901 rfl) rfl) rfl rfl rfl (w_n rfl) ?_
  refine TL_q (.int .u32 ((x).toNat : Int)) (fun _ _ hρ _ => r_move (hρ _ _ rfl)) rfl rfl rfl (w_n rfl) ?_
  refine TL_q (.pointer (some ⟨B, 0, none⟩)) (fun _ _ hρ _ => r_nilCheck (hρ _ _ rfl) rfl) rfl rfl rfl (w_n rfl) ?_
  refine TL_q (.pointer (some ⟨B, 3, none⟩)) (fun _ _ hρ _ => r_fieldAddr fl74_1 sz72 (hρ _ _ rfl)) rfl rfl rfl (w_n rfl) ?_
  refine TL_q (.pointer (some ⟨B, 3 + ((x).toNat) * 1, none⟩)) (fun _ _ hρ _ => r_indexAddrA (i := (x).toNat) ar72 sz24 (hρ _ _ rfl) (hρ _ _ rfl) (by omega)) rfl rfl rfl (w_n rfl) ?_
  refine TL_q (.int .u32 ((fedN 4 x).toNat : Int)) (fun _ _ hρ hm => r_load ag24 (hρ _ _ rfl) (hm.at 900 rfl) (tbE_at x hx)) rfl rfl rfl (w_n rfl) ?_
  refine TL_q (.int .u32 ((fedN 4 x).toNat : Int)) (fun _ _ hρ _ => r_assign (hρ _ _ rfl)) rfl rfl rfl (w_n rfl) ?_
  refine TL_seq ?_
  refine T_ret' ?_
  refine ret_of rfl (.int .u32 ((fedN 4 x).toNat : Int)) (fun tmps w hk hm => res1 rfl (res_tmp (hk 4 _ rfl))) (fun w hm => ?_)
  refine ⟨(), trivial, rfl, ?_⟩
  refine hm.of (fun k q hk => ?_)
  by_cases e900 : 900 = k
  · subst e900; exact hk
  have f900 : ∀ (K : Heap) (v : Res), lk ((900, v) :: K) k = lk K k := fun K v => lk_cons_other K v e900
  by_cases e901 : 901 = k
  · subst e901; exact absurd (hf.symm.trans hk) (by simp)
  have f901 : ∀ (K : Heap) (v : Res), lk ((901, v) :: K) k = lk K k := fun K v => lk_cons_other K v e901
  simp only [f900, f901] at hk ⊢
  exact hk

theorem at1_ht (w₀ : World) (L : Heap) (B : Nat) (x : Wd) (hx : x.toNat < 16) (hi : lk L 900 = some (.blk B (.cells tbE 74))) (hf : lk L 901 = none) : ∀ w, MemOk w₀ L w → Calls Try.prog 39 #[.pointer (some ⟨B, 0, none⟩), .int .u32 (x.toNat : Int)] w (HAns w₀ (fun _ : Unit => True) (fun _ => .int .u32 ((fedN 4 x).toNat : Int)) (fun _ => (900, .blk B (.cells tbE 74)) :: L)) := by
  refine ht_of_T (l := [.pointer (some ⟨B, 0, none⟩), .int .u32 ((x).toNat : Int)]) (L := L) 16 Try.func39 rfl rfl rfl ?_
  refine T_mem ((900, .blk B (.cells #[.int .u32 1, .int .i32 0, .int .u32 0, .int .u32 0, .int .u32 498536548, .int .u32 997073096, .int .u32 651767980, .int .u32 1994146192, .int .u32 1802195444, .int .u32 1303535960, .int .u32 1342533948, .int .u32 3988292384, .int .u32 4027552580, .int .u32 3604390888, .int .u32 3412177804, .int .u32 2607071920, .int .u32 2262029012, .int .u32 2685067896, .int .u32 3183342108] 74)) :: L) (fun _ hm => hm.of (lk_dup hi)) ?_
  show T _ _ _ [(0, .pointer (some ⟨B, 0, none⟩)), (1, .int .u32 ((x).toNat : Int))] ((900, .blk B (.cells #[.int .u32 1, .int .i32 0, .int .u32 0, .int .u32 0, .int .u32 498536548, .int .u32 997073096, .int .u32 651767980, .int .u32 1994146192, .int .u32 1802195444, .int .u32 1303535960, .int .u32 1342533948, .int .u32 3988292384, .int .u32 4027552580, .int .u32 3604390888, .int .u32 3412177804, .int .u32 2607071920, .int .u32 2262029012, .int .u32 2685067896, .int .u32 3183342108] 74)) :: L)
  refine T_seq (T_region ?_)
  refine TL_new 901 (.cells #[.pointer (some ⟨B, 0, none⟩)] 60) (fun B => .pointer (some ⟨B, 0, none⟩)) (fun _ _ hρ _ => r_box (hρ _ _ rfl) rfl) rfl rfl rfl (w_n rfl) ?_
  intro B1
  refine TL_q (.int .u32 0) (fun _ _ hρ _ => r_assign (hρ _ _ rfl)) rfl rfl rfl (w_n rfl) ?_
  refine TL_seq ?_
  refine T_seq (T_region ?_)
  refine TL_q (.pointer (some ⟨B, 0, none⟩)) (fun _ _ hρ hm => r_load ag60 (hρ _ _ rfl) (hm.at 901 rfl) rfl) rfl rfl rfl (w_n rfl) ?_
  refine TL_q (.pointer (some ⟨B, 0, none⟩)) (fun _ _ hρ _ => r_nilCheck (hρ _ _ rfl) rfl) rfl rfl rfl (w_n rfl) ?_
  refine TL_q (.pointer (some ⟨B, 0, none⟩)) (fun _ _ hρ _ => r_fieldAddr fl74_0 sz71 (hρ _ _ rfl)) rfl rfl rfl (w_n rfl) ?_
  refine TL_q (.func (.func 42) #[] #[.pointer (some ⟨B1, 0, none⟩)]) (fun _ _ hρ _ => r_makeFunc (by simp) (map_arr (cons2 (hρ _ _ rfl) rfl))) rfl rfl rfl (w_n rfl) ?_
  refine TL_callH _ _ _ (fun _ _ hρ _ => r_call (args := [.pointer (some ⟨B, 0, none⟩), .func (.func 42) #[] #[.pointer (some ⟨B1, 0, none⟩)]]) (enters_of Try.func41 (by kernel_rfl) rfl) (hρ _ _ rfl) ((cons2 (hρ _ _ rfl) (cons2 (hρ _ _ rfl) rfl))) rfl) (fun w hm => do1_ht _ _ B B1 rfl rfl w hm) rfl rfl rfl (w_n rfl) ?_
  intro _ _
  refine TL_seq ?_
  refine T_seq (T_region ?_)
  refine TL_q (.pointer (some ⟨B, 0, none⟩)) (fun _ _ hρ hm => r_load ag60 (hρ _ _ rfl) (hm.at 901 rfl) rfl) rfl rfl rfl (w_n rfl) ?_
  refine TL_q (.int .u32 ((x).toNat : Int)) (fun _ _ hρ _ => r_move (hρ _ _ rfl)) rfl rfl rfl (w_n rfl) ?_
  refine TL_q (.pointer (some ⟨B, 0, none⟩)) (fun _ _ hρ _ => r_nilCheck (hρ _ _ rfl) rfl) rfl rfl rfl (w_n rfl) ?_
  refine TL_q (.pointer (some ⟨B, 3, none⟩)) (fun _ _ hρ _ => r_fieldAddr fl74_1 sz72 (hρ _ _ rfl)) rfl rfl rfl (w_n rfl) ?_
  refine TL_q (.pointer (some ⟨B, 3 + ((x).toNat) * 1, none⟩)) (fun _ _ hρ _ => r_indexAddrA (i := (x).toNat) ar72 sz24 (hρ _ _ rfl) (hρ _ _ rfl) (by omega)) rfl rfl rfl (w_n rfl) ?_
  refine TL_q (.int .u32 ((fedN 4 x).toNat : Int)) (fun _ _ hρ hm => r_load ag24 (hρ _ _ rfl) (hm.at 900 rfl) (tbE_at x hx)) rfl rfl rfl (w_n rfl) ?_
  refine TL_q (.int .u32 ((fedN 4 x).toNat : Int)) (fun _ _ hρ _ => r_assign (hρ _ _ rfl)) rfl rfl rfl (w_n rfl) ?_
  refine TL_seq ?_
  refine T_ret' ?_
  refine ret_of rfl (.int .u32 ((fedN 4 x).toNat : Int)) (fun tmps w hk hm => res1 rfl (res_tmp (hk 4 _ rfl))) (fun w hm => ?_)
  refine ⟨(), trivial, rfl, ?_⟩
  refine hm.of (fun k q hk => ?_)
  by_cases e900 : 900 = k
  · subst e900; exact hk
  have f900 : ∀ (K : Heap) (v : Res), lk ((900, v) :: K) k = lk K k := fun K v => lk_cons_other K v e900
  by_cases e901 : 901 = k
  · subst e901; exact absurd (hf.symm.trans hk) (by simp)
  have f901 : ∀ (K : Heap) (v : Res), lk ((901, v) :: K) k = lk K k := fun K v => lk_cons_other K v e901
  simp only [f900, f901] at hk ⊢
  exact hk

theorem at_ht (w₀ : World) (L : Heap) (B : Nat) (x : Wd) (hx : x.toNat < 16) (d : Bool) (hi : lk L 900 = some (.blk B (.cells (tbS d) 74))) (hf : lk L 901 = none) : ∀ w, MemOk w₀ L w → Calls Try.prog 39 #[.pointer (some ⟨B, 0, none⟩), .int .u32 (x.toNat : Int)] w (HAns w₀ (fun _ : Unit => True) (fun _ => .int .u32 ((fedN 4 x).toNat : Int)) (fun _ => (900, .blk B (.cells tbE 74)) :: L)) := by
  cases d with
  | false => exact at0_ht w₀ L B x hx hi hf
  | true => exact at1_ht w₀ L B x hx hi hf

theorem feed_ht (w₀ : World) (L : Heap) (B R : Nat) (r : Wd) (b : By) (d : Bool) (hi : lk L 900 = some (.blk B (.cells (tbS d) 74))) (h902 : lk L 902 = some (.blk R (.cells #[.pointer (some ⟨B, 0, none⟩), .int .u32 ((r).toNat : Int)] 77))) (hf : lk L 901 = none) :
    ∀ w, MemOk w₀ L w → Calls Try.prog 35 #[.pointer (some ⟨R, 0, none⟩), .int .u8 (b.toNat : Int)] w (HAns w₀ (fun _ : Unit => True) (fun _ => .tuple #[]) (fun _ => (900, .blk B (.cells tbE 74)) :: (902, .blk R (.cells #[.pointer (some ⟨B, 0, none⟩), .int .u32 ((step r b).toNat : Int)] 77)) :: L)) := by
  refine ht_of_T (l := [.pointer (some ⟨R, 0, none⟩), .int .u8 ((b).toNat : Int)]) (L := L) 35 Try.func35 rfl rfl rfl ?_
  refine T_mem ((900, .blk B (.cells (tbS d) 74)) :: (902, .blk R (.cells #[.pointer (some ⟨B, 0, none⟩), .int .u32 ((r).toNat : Int)] 77)) :: L) (fun _ hm => (hm.of (lk_dup h902)).of (lk_dup (show lk ((902, _) :: L) 900 = _ from (lk_cons_other _ _ (by decide)).trans hi))) ?_
  show T _ _ _ [(0, .pointer (some ⟨R, 0, none⟩)), (1, .int .u8 ((b).toNat : Int))] ((900, .blk B (.cells (tbS d) 74)) :: (902, .blk R (.cells #[.pointer (some ⟨B, 0, none⟩), .int .u32 ((r).toNat : Int)] 77)) :: L)
  refine T_seq (T_region ?_)
  refine TL_q (.pointer (some ⟨R, 0, none⟩)) (fun _ _ hρ _ => r_move (hρ _ _ rfl)) rfl rfl rfl (w_n rfl) ?_
  refine TL_q (.pointer (some ⟨R, 0, none⟩)) (fun _ _ hρ _ => r_nilCheck (hρ _ _ rfl) rfl) rfl rfl rfl (w_n rfl) ?_
  refine TL_q (.pointer (some ⟨R, 1, none⟩)) (fun _ _ hρ _ => r_fieldAddr fl77_1 sz24 (hρ _ _ rfl)) rfl rfl rfl (w_n rfl) ?_
  refine TL_q (.int .u32 ((r).toNat : Int)) (fun _ _ hρ hm => r_load ag24 (hρ _ _ rfl) (hm.at 902 rfl) rfl) rfl rfl rfl (w_n rfl) ?_
  refine TL_q (.int .u8 ((b).toNat : Int)) (fun _ _ hρ _ => r_move (hρ _ _ rfl)) rfl rfl rfl (w_n rfl) ?_
  refine TL_q (.int .u32 ((b.setWidth 32).toNat : Int)) (fun _ _ hρ _ => r_convB (k := .u8) (k' := .u32) (a := b) un5 io24 rfl (hρ _ _ rfl)) rfl rfl rfl (w_n rfl) ?_
  refine TL_q (.int .u32 ((r ^^^ (b.setWidth 32)).toNat : Int)) (fun _ _ hρ _ => r_xorB (k := .u32) (a := r) (b := (b.setWidth 32)) rfl (hρ _ _ rfl) (hρ _ _ rfl)) rfl rfl rfl (w_n rfl) ?_
  refine TL_q (.pointer (some ⟨R, 0, none⟩)) (fun _ _ hρ _ => r_nilCheck (hρ _ _ rfl) rfl) rfl rfl rfl (w_n rfl) ?_
  refine TL_q (.pointer (some ⟨R, 1, none⟩)) (fun _ _ hρ _ => r_fieldAddr fl77_1 sz24 (hρ _ _ rfl)) rfl rfl rfl (w_n rfl) ?_
  refine TL_store 902 (.cells #[.pointer (some ⟨B, 0, none⟩), .int .u32 ((r ^^^ (b.setWidth 32)).toNat : Int)] 77) rfl (fun _ _ hρ hm => r_store sz24 (hρ _ _ rfl) (hρ _ _ rfl) (hm.at 902 rfl) rfl rfl rfl rfl) rfl rfl (w_n rfl) ?_
  refine TL_seq ?_
  refine T_seq (T_region ?_)
  refine TL_q (.int .i64 0) (fun _ _ hρ _ => r_move (hρ _ _ rfl)) rfl rfl rfl (w_n rfl) ?_
  refine TL_seq ?_
  refine T_block ?_
  refine T_rounds 3 ?_
  refine TR_succ ?_
  refine T_seq (T_region ?_)
  refine TL_q (.bool true) (fun _ _ hρ _ => r_as (r_lss (hρ _ _ rfl) (hρ _ _ rfl)) (by rfl)) rfl rfl rfl (w_n rfl) ?_
  refine TL_seq ?_
  refine T_seq ?_
  refine T_cond_t rfl ?_
  refine T_skip' ?_
  refine p_seq ?_
  refine T_seq ?_
  refine T_block ?_
  refine T_draw (V := [(0, .pointer (some ⟨R, 0, none⟩)), (1, .pointer (some ⟨R, 0, none⟩)), (2, .pointer (some ⟨R, 0, none⟩)), (3, .pointer (some ⟨R, 1, none⟩)), (4, .int .u32 ((r ^^^ (b.setWidth 32)).toNat : Int)), (5, .int .u32 (((r ^^^ (b.setWidth 32)) >>> 4).toNat : Int)), (6, .pointer (some ⟨R, 0, none⟩)), (7, .pointer (some ⟨R, 0, none⟩)), (8, .pointer (some ⟨R, 0, none⟩)), (9, .pointer (some ⟨B, 0, none⟩)), (10, .pointer (some ⟨R, 0, none⟩)), (11, .pointer (some ⟨R, 0, none⟩)), (12, .pointer (some ⟨R, 1, none⟩)), (13, .int .u32 ((r ^^^ (b.setWidth 32)).toNat : Int)), (14, .int .u32 (((r ^^^ (b.setWidth 32)) &&& (15#32)).toNat : Int))]) [0, 0, 2, 6, 14, 30, 0, 64, 192, 448, 0, 1024, 3072, 7168, 15360, 32704, 65534, 131071, 262143, 524287] [[(0, none)], [(0, none)], [(16, some 1)], [(17, some 2)], [(18, some 3)], [(19, some 4)], [(0, none)], [(21, some 6)], [(22, some 7)], [(23, some 8)], [(0, none)], [(25, some 10)], [(26, some 11)], [(27, some 12)], [(28, some 13)], [(24, some 9), (29, some 14)], [(20, some 5), (30, some 15)], [(15, some 0)], [(32, some 17)], [(33, some 18), (31, some 16)]] 557056 mixed (by kernel_rfl) ?_
  refine G_step [0, 1, 2, 3, 4, 5, 6, 7, 8, 9, 10, 11, 12, 13, 14] 15 [] (by kernel_rfl) (allM (all_cons (q_run (.pointer (some ⟨R, 0, none⟩)) rfl rfl (wv_n rfl) rfl (fun _ _ hρ _ => r_move (hρ _ _ rfl))) (all_cons (q_run (.pointer (some ⟨R, 0, none⟩)) rfl rfl (wv_n rfl) rfl (fun _ _ hρ _ => r_move (hρ _ _ rfl))) (all_cons (q_run (.pointer (some ⟨R, 0, none⟩)) rfl rfl (wv_n rfl) rfl (fun _ _ hρ _ => r_nilCheck (hρ _ _ rfl) rfl)) (all_cons (q_run (.pointer (some ⟨R, 1, none⟩)) rfl rfl (wv_n rfl) rfl (fun _ _ hρ _ => r_fieldAddr fl77_1 sz24 (hρ _ _ rfl))) (all_cons (q_run (.int .u32 ((r ^^^ (b.setWidth 32)).toNat : Int)) rfl rfl (wv_n rfl) rfl (fun _ _ hρ hm => r_load ag24 (hρ _ _ rfl) (hm.at 902 rfl) rfl)) (all_cons (q_run (.int .u32 (((r ^^^ (b.setWidth 32)) >>> 4).toNat : Int)) rfl rfl (wv_n rfl) rfl (fun _ _ hρ _ => r_shrB (k := .u32) (a := (r ^^^ (b.setWidth 32))) (n := 4) (by decide) (hρ _ _ rfl) (hρ _ _ rfl))) (all_cons (q_run (.pointer (some ⟨R, 0, none⟩)) rfl rfl (wv_n rfl) rfl (fun _ _ hρ _ => r_move (hρ _ _ rfl))) (all_cons (q_run (.pointer (some ⟨R, 0, none⟩)) rfl rfl (wv_n rfl) rfl (fun _ _ hρ _ => r_nilCheck (hρ _ _ rfl) rfl)) (all_cons (q_run (.pointer (some ⟨R, 0, none⟩)) rfl rfl (wv_n rfl) rfl (fun _ _ hρ _ => r_fieldAddr fl77_0 sz60 (hρ _ _ rfl))) (all_cons (q_run (.pointer (some ⟨B, 0, none⟩)) rfl rfl (wv_n rfl) rfl (fun _ _ hρ hm => r_load ag60 (hρ _ _ rfl) (hm.at 902 rfl) rfl)) (all_cons (q_run (.pointer (some ⟨R, 0, none⟩)) rfl rfl (wv_n rfl) rfl (fun _ _ hρ _ => r_move (hρ _ _ rfl))) (all_cons (q_run (.pointer (some ⟨R, 0, none⟩)) rfl rfl (wv_n rfl) rfl (fun _ _ hρ _ => r_nilCheck (hρ _ _ rfl) rfl)) (all_cons (q_run (.pointer (some ⟨R, 1, none⟩)) rfl rfl (wv_n rfl) rfl (fun _ _ hρ _ => r_fieldAddr fl77_1 sz24 (hρ _ _ rfl))) (all_cons (q_run (.int .u32 ((r ^^^ (b.setWidth 32)).toNat : Int)) rfl rfl (wv_n rfl) rfl (fun _ _ hρ hm => r_load ag24 (hρ _ _ rfl) (hm.at 902 rfl) rfl)) (all_cons (q_run (.int .u32 (((r ^^^ (b.setWidth 32)) &&& (15#32)).toNat : Int)) rfl rfl (wv_n rfl) rfl (fun _ _ hρ _ => r_andB (k := .u32) (a := (r ^^^ (b.setWidth 32))) (b := (15#32)) rfl (hρ _ _ rfl) (hρ _ _ rfl))) all_nil)))))))))))))))) (allM (all_cons ?_ all_nil))
  refine LOb_callH _ _ _ (fun _ => [(16, .int .u32 ((((r ^^^ (b.setWidth 32)) >>> 4) ^^^ (fedN 4 ((r ^^^ (b.setWidth 32)) &&& (15#32)))).toNat : Int)), (17, .pointer (some ⟨R, 0, none⟩)), (18, .pointer (some ⟨R, 1, none⟩))]) rfl (wv_n rfl) rfl rfl (fun _ _ hρ _ => r_call (args := [.pointer (some ⟨B, 0, none⟩), .int .u32 (((r ^^^ (b.setWidth 32)) &&& (15#32)).toNat : Int)]) (enters_of Try.func39 (by kernel_rfl) rfl) (hρ _ _ rfl) ((cons2 (hρ _ _ rfl) (cons2 (hρ _ _ rfl) rfl))) rfl) (fun w hm => at_ht _ _ B ((r ^^^ (b.setWidth 32)) &&& (15#32)) (and15 _) d rfl (by exact hf) w hm) (fun _ => by kernel_rfl) ?_
  intro _ _
  refine G_step [0, 1, 2, 3, 4, 5, 16, 17, 18] 19 [] (by kernel_rfl) (allM (all_cons (q_run (.pointer (some ⟨R, 0, none⟩)) rfl rfl (wv_n rfl) rfl (fun _ _ hρ _ => r_move (hρ _ _ rfl))) (all_cons (q_run (.pointer (some ⟨R, 0, none⟩)) rfl rfl (wv_n rfl) rfl (fun _ _ hρ _ => r_move (hρ _ _ rfl))) (all_cons (q_run (.pointer (some ⟨R, 0, none⟩)) rfl rfl (wv_n rfl) rfl (fun _ _ hρ _ => r_nilCheck (hρ _ _ rfl) rfl)) (all_cons (q_run (.pointer (some ⟨R, 1, none⟩)) rfl rfl (wv_n rfl) rfl (fun _ _ hρ _ => r_fieldAddr fl77_1 sz24 (hρ _ _ rfl))) (all_cons (q_run (.int .u32 ((r ^^^ (b.setWidth 32)).toNat : Int)) rfl rfl (wv_n rfl) rfl (fun _ _ hρ hm => r_load ag24 (hρ _ _ rfl) (hm.at 902 rfl) rfl)) (all_cons (q_run (.int .u32 (((r ^^^ (b.setWidth 32)) >>> 4).toNat : Int)) rfl rfl (wv_n rfl) rfl (fun _ _ hρ _ => r_shrB (k := .u32) (a := (r ^^^ (b.setWidth 32))) (n := 4) (by decide) (hρ _ _ rfl) (hρ _ _ rfl))) (all_cons (q_run (.int .u32 ((((r ^^^ (b.setWidth 32)) >>> 4) ^^^ (fedN 4 ((r ^^^ (b.setWidth 32)) &&& (15#32)))).toNat : Int)) rfl rfl (wv_n rfl) rfl (fun _ _ hρ _ => r_xorB (k := .u32) (a := ((r ^^^ (b.setWidth 32)) >>> 4)) (b := (fedN 4 ((r ^^^ (b.setWidth 32)) &&& (15#32)))) rfl (hρ _ _ rfl) (hρ _ _ rfl))) (all_cons (q_run (.pointer (some ⟨R, 0, none⟩)) rfl rfl (wv_n rfl) rfl (fun _ _ hρ _ => r_nilCheck (hρ _ _ rfl) rfl)) (all_cons (q_run (.pointer (some ⟨R, 1, none⟩)) rfl rfl (wv_n rfl) rfl (fun _ _ hρ _ => r_fieldAddr fl77_1 sz24 (hρ _ _ rfl))) all_nil)))))))))) (allM (all_cons ?_ all_nil))
  refine LOb_store 902 (.cells #[.pointer (some ⟨B, 0, none⟩), .int .u32 ((((r ^^^ (b.setWidth 32)) >>> 4) ^^^ (fedN 4 ((r ^^^ (b.setWidth 32)) &&& (15#32)))).toNat : Int)] 77) [] rfl (wv_n rfl) rfl rfl rfl (fun _ _ hρ hm => r_store sz24 (hρ _ _ rfl) (hρ _ _ rfl) (hm.at 902 rfl) rfl rfl rfl rfl) (by kernel_rfl) ?_
  refine G_lastQ [] [(0, .pointer (some ⟨R, 0, none⟩)), (13, .int .i64 0), (14, .bool true), (15, .pointer (some ⟨R, 0, none⟩)), (16, .pointer (some ⟨R, 0, none⟩)), (17, .pointer (some ⟨R, 0, none⟩)), (18, .pointer (some ⟨R, 1, none⟩)), (19, .int .u32 ((r ^^^ (b.setWidth 32)).toNat : Int)), (20, .int .u32 (((r ^^^ (b.setWidth 32)) >>> 4).toNat : Int)), (21, .pointer (some ⟨R, 0, none⟩)), (22, .pointer (some ⟨R, 0, none⟩)), (23, .pointer (some ⟨R, 0, none⟩)), (24, .pointer (some ⟨B, 0, none⟩)), (25, .pointer (some ⟨R, 0, none⟩)), (26, .pointer (some ⟨R, 0, none⟩)), (27, .pointer (some ⟨R, 1, none⟩)), (28, .int .u32 ((r ^^^ (b.setWidth 32)).toNat : Int)), (29, .int .u32 (((r ^^^ (b.setWidth 32)) &&& (15#32)).toNat : Int)), (30, .int .u32 ((fedN 4 ((r ^^^ (b.setWidth 32)) &&& (15#32))).toNat : Int)), (31, .int .u32 ((((r ^^^ (b.setWidth 32)) >>> 4) ^^^ (fedN 4 ((r ^^^ (b.setWidth 32)) &&& (15#32)))).toNat : Int)), (32, .pointer (some ⟨R, 0, none⟩)), (33, .pointer (some ⟨R, 1, none⟩))] (by kernel_rfl) (allM all_nil) (end_old rfl rfl (end_old rfl rfl (end_old rfl rfl (end_new 0 rfl rfl (end_new 1 rfl rfl (end_new 2 rfl rfl (end_new 3 rfl rfl (end_new 4 rfl rfl (end_new 5 rfl rfl (end_new 6 rfl rfl (end_new 7 rfl rfl (end_new 8 rfl rfl (end_new 9 rfl rfl (end_new 10 rfl rfl (end_new 11 rfl rfl (end_new 12 rfl rfl (end_new 13 rfl rfl (end_new 14 rfl rfl (end_new 15 rfl rfl (end_new 16 rfl rfl (end_new 17 rfl rfl (end_new 18 rfl rfl end_nil)))))))))))))))))))))) ?_
  refine p_blk_n ?_
  refine p_seq ?_
  refine T_region ?_
  refine TL_q (.int .i64 1) (fun _ _ hρ _ => r_as (r_add (hρ _ _ rfl) (hρ _ _ rfl)) (by rfl)) rfl rfl rfl (w_n rfl) ?_
  refine TL_q (.int .i64 1) (fun _ _ hρ _ => r_move (hρ _ _ rfl)) rfl rfl rfl (w_n rfl) ?_
  refine TL_nil ?_
  refine p_round ?_
  refine TR_succ ?_
  refine T_seq (T_region ?_)
  refine TL_q (.bool true) (fun _ _ hρ _ => r_as (r_lss (hρ _ _ rfl) (hρ _ _ rfl)) (by rfl)) rfl rfl rfl (w_n rfl) ?_
  refine TL_seq ?_
  refine T_seq ?_
  refine T_cond_t rfl ?_
  refine T_skip' ?_
  refine p_seq ?_
  refine T_seq ?_
  refine T_block ?_
  refine T_draw (V := [(0, .pointer (some ⟨R, 0, none⟩)), (1, .pointer (some ⟨R, 0, none⟩)), (2, .pointer (some ⟨R, 0, none⟩)), (3, .pointer (some ⟨R, 1, none⟩)), (4, .int .u32 ((((r ^^^ (b.setWidth 32)) >>> 4) ^^^ (fedN 4 ((r ^^^ (b.setWidth 32)) &&& (15#32)))).toNat : Int)), (5, .int .u32 (((((r ^^^ (b.setWidth 32)) >>> 4) ^^^ (fedN 4 ((r ^^^ (b.setWidth 32)) &&& (15#32)))) >>> 4).toNat : Int)), (6, .pointer (some ⟨R, 0, none⟩)), (7, .pointer (some ⟨R, 0, none⟩)), (8, .pointer (some ⟨R, 0, none⟩)), (9, .pointer (some ⟨B, 0, none⟩)), (10, .pointer (some ⟨R, 0, none⟩)), (11, .pointer (some ⟨R, 0, none⟩)), (12, .pointer (some ⟨R, 1, none⟩)), (13, .int .u32 ((((r ^^^ (b.setWidth 32)) >>> 4) ^^^ (fedN 4 ((r ^^^ (b.setWidth 32)) &&& (15#32)))).toNat : Int)), (14, .int .u32 (((((r ^^^ (b.setWidth 32)) >>> 4) ^^^ (fedN 4 ((r ^^^ (b.setWidth 32)) &&& (15#32)))) &&& (15#32)).toNat : Int))]) [0, 0, 2, 6, 14, 30, 0, 64, 192, 448, 0, 1024, 3072, 7168, 15360, 32704, 65534, 131071, 262143, 524287] [[(0, none)], [(0, none)], [(16, some 1)], [(17, some 2)], [(18, some 3)], [(19, some 4)], [(0, none)], [(21, some 6)], [(22, some 7)], [(23, some 8)], [(0, none)], [(25, some 10)], [(26, some 11)], [(27, some 12)], [(28, some 13)], [(24, some 9), (29, some 14)], [(20, some 5), (30, some 15)], [(15, some 0)], [(32, some 17)], [(33, some 18), (31, some 16)]] 557056 mixed (by kernel_rfl) ?_
  refine G_step [0, 1, 2, 3, 4, 5, 6, 7, 8, 9, 10, 11, 12, 13, 14] 15 [] (by kernel_rfl) (allM (all_cons (q_run (.pointer (some ⟨R, 0, none⟩)) rfl rfl (wv_n rfl) rfl (fun _ _ hρ _ => r_move (hρ _ _ rfl))) (all_cons (q_run (.pointer (some ⟨R, 0, none⟩)) rfl rfl (wv_n rfl) rfl (fun _ _ hρ _ => r_move (hρ _ _ rfl))) (all_cons (q_run (.pointer (some ⟨R, 0, none⟩)) rfl rfl (wv_n rfl) rfl (fun _ _ hρ _ => r_nilCheck (hρ _ _ rfl) rfl)) (all_cons (q_run (.pointer (some ⟨R, 1, none⟩)) rfl rfl (wv_n rfl) rfl (fun _ _ hρ _ => r_fieldAddr fl77_1 sz24 (hρ _ _ rfl))) (all_cons (q_run (.int .u32 ((((r ^^^ (b.setWidth 32)) >>> 4) ^^^ (fedN 4 ((r ^^^ (b.setWidth 32)) &&& (15#32)))).toNat : Int)) rfl rfl (wv_n rfl) rfl (fun _ _ hρ hm => r_load ag24 (hρ _ _ rfl) (hm.at 902 rfl) rfl)) (all_cons (q_run (.int .u32 (((((r ^^^ (b.setWidth 32)) >>> 4) ^^^ (fedN 4 ((r ^^^ (b.setWidth 32)) &&& (15#32)))) >>> 4).toNat : Int)) rfl rfl (wv_n rfl) rfl (fun _ _ hρ _ => r_shrB (k := .u32) (a := (((r ^^^ (b.setWidth 32)) >>> 4) ^^^ (fedN 4 ((r ^^^ (b.setWidth 32)) &&& (15#32))))) (n := 4) (by decide) (hρ _ _ rfl) (hρ _ _ rfl))) (all_cons (q_run (.pointer (some ⟨R, 0, none⟩)) rfl rfl (wv_n rfl) rfl (fun _ _ hρ _ => r_move (hρ _ _ rfl))) (all_cons (q_run (.pointer (some ⟨R, 0, none⟩)) rfl rfl (wv_n rfl) rfl (fun _ _ hρ _ => r_nilCheck (hρ _ _ rfl) rfl)) (all_cons (q_run (.pointer (some ⟨R, 0, none⟩)) rfl rfl (wv_n rfl) rfl (fun _ _ hρ _ => r_fieldAddr fl77_0 sz60 (hρ _ _ rfl))) (all_cons (q_run (.pointer (some ⟨B, 0, none⟩)) rfl rfl (wv_n rfl) rfl (fun _ _ hρ hm => r_load ag60 (hρ _ _ rfl) (hm.at 902 rfl) rfl)) (all_cons (q_run (.pointer (some ⟨R, 0, none⟩)) rfl rfl (wv_n rfl) rfl (fun _ _ hρ _ => r_move (hρ _ _ rfl))) (all_cons (q_run (.pointer (some ⟨R, 0, none⟩)) rfl rfl (wv_n rfl) rfl (fun _ _ hρ _ => r_nilCheck (hρ _ _ rfl) rfl)) (all_cons (q_run (.pointer (some ⟨R, 1, none⟩)) rfl rfl (wv_n rfl) rfl (fun _ _ hρ _ => r_fieldAddr fl77_1 sz24 (hρ _ _ rfl))) (all_cons (q_run (.int .u32 ((((r ^^^ (b.setWidth 32)) >>> 4) ^^^ (fedN 4 ((r ^^^ (b.setWidth 32)) &&& (15#32)))).toNat : Int)) rfl rfl (wv_n rfl) rfl (fun _ _ hρ hm => r_load ag24 (hρ _ _ rfl) (hm.at 902 rfl) rfl)) (all_cons (q_run (.int .u32 (((((r ^^^ (b.setWidth 32)) >>> 4) ^^^ (fedN 4 ((r ^^^ (b.setWidth 32)) &&& (15#32)))) &&& (15#32)).toNat : Int)) rfl rfl (wv_n rfl) rfl (fun _ _ hρ _ => r_andB (k := .u32) (a := (((r ^^^ (b.setWidth 32)) >>> 4) ^^^ (fedN 4 ((r ^^^ (b.setWidth 32)) &&& (15#32))))) (b := (15#32)) rfl (hρ _ _ rfl) (hρ _ _ rfl))) all_nil)))))))))))))))) (allM (all_cons ?_ all_nil))
  refine LOb_callH _ _ _ (fun _ => [(16, .int .u32 ((((((r ^^^ (b.setWidth 32)) >>> 4) ^^^ (fedN 4 ((r ^^^ (b.setWidth 32)) &&& (15#32)))) >>> 4) ^^^ (fedN 4 ((((r ^^^ (b.setWidth 32)) >>> 4) ^^^ (fedN 4 ((r ^^^ (b.setWidth 32)) &&& (15#32)))) &&& (15#32)))).toNat : Int)), (17, .pointer (some ⟨R, 0, none⟩)), (18, .pointer (some ⟨R, 1, none⟩))]) rfl (wv_n rfl) rfl rfl (fun _ _ hρ _ => r_call (args := [.pointer (some ⟨B, 0, none⟩), .int .u32 (((((r ^^^ (b.setWidth 32)) >>> 4) ^^^ (fedN 4 ((r ^^^ (b.setWidth 32)) &&& (15#32)))) &&& (15#32)).toNat : Int)]) (enters_of Try.func39 (by kernel_rfl) rfl) (hρ _ _ rfl) ((cons2 (hρ _ _ rfl) (cons2 (hρ _ _ rfl) rfl))) rfl) (fun w hm => at_ht _ _ B ((((r ^^^ (b.setWidth 32)) >>> 4) ^^^ (fedN 4 ((r ^^^ (b.setWidth 32)) &&& (15#32)))) &&& (15#32)) (and15 _) true rfl (by exact hf) w hm) (fun _ => by kernel_rfl) ?_
  intro _ _
  refine G_step [0, 1, 2, 3, 4, 5, 16, 17, 18] 19 [] (by kernel_rfl) (allM (all_cons (q_run (.pointer (some ⟨R, 0, none⟩)) rfl rfl (wv_n rfl) rfl (fun _ _ hρ _ => r_move (hρ _ _ rfl))) (all_cons (q_run (.pointer (some ⟨R, 0, none⟩)) rfl rfl (wv_n rfl) rfl (fun _ _ hρ _ => r_move (hρ _ _ rfl))) (all_cons (q_run (.pointer (some ⟨R, 0, none⟩)) rfl rfl (wv_n rfl) rfl (fun _ _ hρ _ => r_nilCheck (hρ _ _ rfl) rfl)) (all_cons (q_run (.pointer (some ⟨R, 1, none⟩)) rfl rfl (wv_n rfl) rfl (fun _ _ hρ _ => r_fieldAddr fl77_1 sz24 (hρ _ _ rfl))) (all_cons (q_run (.int .u32 ((((r ^^^ (b.setWidth 32)) >>> 4) ^^^ (fedN 4 ((r ^^^ (b.setWidth 32)) &&& (15#32)))).toNat : Int)) rfl rfl (wv_n rfl) rfl (fun _ _ hρ hm => r_load ag24 (hρ _ _ rfl) (hm.at 902 rfl) rfl)) (all_cons (q_run (.int .u32 (((((r ^^^ (b.setWidth 32)) >>> 4) ^^^ (fedN 4 ((r ^^^ (b.setWidth 32)) &&& (15#32)))) >>> 4).toNat : Int)) rfl rfl (wv_n rfl) rfl (fun _ _ hρ _ => r_shrB (k := .u32) (a := (((r ^^^ (b.setWidth 32)) >>> 4) ^^^ (fedN 4 ((r ^^^ (b.setWidth 32)) &&& (15#32))))) (n := 4) (by decide) (hρ _ _ rfl) (hρ _ _ rfl))) (all_cons (q_run (.int .u32 ((((((r ^^^ (b.setWidth 32)) >>> 4) ^^^ (fedN 4 ((r ^^^ (b.setWidth 32)) &&& (15#32)))) >>> 4) ^^^ (fedN 4 ((((r ^^^ (b.setWidth 32)) >>> 4) ^^^ (fedN 4 ((r ^^^ (b.setWidth 32)) &&& (15#32)))) &&& (15#32)))).toNat : Int)) rfl rfl (wv_n rfl) rfl (fun _ _ hρ _ => r_xorB (k := .u32) (a := ((((r ^^^ (b.setWidth 32)) >>> 4) ^^^ (fedN 4 ((r ^^^ (b.setWidth 32)) &&& (15#32)))) >>> 4)) (b := (fedN 4 ((((r ^^^ (b.setWidth 32)) >>> 4) ^^^ (fedN 4 ((r ^^^ (b.setWidth 32)) &&& (15#32)))) &&& (15#32)))) rfl (hρ _ _ rfl) (hρ _ _ rfl))) (all_cons (q_run (.pointer (some ⟨R, 0, none⟩)) rfl rfl (wv_n rfl) rfl (fun _ _ hρ _ => r_nilCheck (hρ _ _ rfl) rfl)) (all_cons (q_run (.pointer (some ⟨R, 1, none⟩)) rfl rfl (wv_n rfl) rfl (fun _ _ hρ _ => r_fieldAddr fl77_1 sz24 (hρ _ _ rfl))) all_nil)))))))))) (allM (all_cons ?_ all_nil))
  refine LOb_store 902 (.cells #[.pointer (some ⟨B, 0, none⟩), .int .u32 ((((((r ^^^ (b.setWidth 32)) >>> 4) ^^^ (fedN 4 ((r ^^^ (b.setWidth 32)) &&& (15#32)))) >>> 4) ^^^ (fedN 4 ((((r ^^^ (b.setWidth 32)) >>> 4) ^^^ (fedN 4 ((r ^^^ (b.setWidth 32)) &&& (15#32)))) &&& (15#32)))).toNat : Int)] 77) [] rfl (wv_n rfl) rfl rfl rfl (fun _ _ hρ hm => r_store sz24 (hρ _ _ rfl) (hρ _ _ rfl) (hm.at 902 rfl) rfl rfl rfl rfl) (by kernel_rfl) ?_
  refine G_lastQ [] [(0, .pointer (some ⟨R, 0, none⟩)), (34, .int .i64 1), (13, .int .i64 1), (14, .bool true), (15, .pointer (some ⟨R, 0, none⟩)), (16, .pointer (some ⟨R, 0, none⟩)), (17, .pointer (some ⟨R, 0, none⟩)), (18, .pointer (some ⟨R, 1, none⟩)), (19, .int .u32 ((((r ^^^ (b.setWidth 32)) >>> 4) ^^^ (fedN 4 ((r ^^^ (b.setWidth 32)) &&& (15#32)))).toNat : Int)), (20, .int .u32 (((((r ^^^ (b.setWidth 32)) >>> 4) ^^^ (fedN 4 ((r ^^^ (b.setWidth 32)) &&& (15#32)))) >>> 4).toNat : Int)), (21, .pointer (some ⟨R, 0, none⟩)), (22, .pointer (some ⟨R, 0, none⟩)), (23, .pointer (some ⟨R, 0, none⟩)), (24, .pointer (some ⟨B, 0, none⟩)), (25, .pointer (some ⟨R, 0, none⟩)), (26, .pointer (some ⟨R, 0, none⟩)), (27, .pointer (some ⟨R, 1, none⟩)), (28, .int .u32 ((((r ^^^ (b.setWidth 32)) >>> 4) ^^^ (fedN 4 ((r ^^^ (b.setWidth 32)) &&& (15#32)))).toNat : Int)), (29, .int .u32 (((((r ^^^ (b.setWidth 32)) >>> 4) ^^^ (fedN 4 ((r ^^^ (b.setWidth 32)) &&& (15#32)))) &&& (15#32)).toNat : Int)), (30, .int .u32 ((fedN 4 ((((r ^^^ (b.setWidth 32)) >>> 4) ^^^ (fedN 4 ((r ^^^ (b.setWidth 32)) &&& (15#32)))) &&& (15#32))).toNat : Int)), (31, .int .u32 ((((((r ^^^ (b.setWidth 32)) >>> 4) ^^^ (fedN 4 ((r ^^^ (b.setWidth 32)) &&& (15#32)))) >>> 4) ^^^ (fedN 4 ((((r ^^^ (b.setWidth 32)) >>> 4) ^^^ (fedN 4 ((r ^^^ (b.setWidth 32)) &&& (15#32)))) &&& (15#32)))).toNat : Int)), (32, .pointer (some ⟨R, 0, none⟩)), (33, .pointer (some ⟨R, 1, none⟩))] (by kernel_rfl) (allM all_nil) (end_old rfl rfl (end_old rfl rfl (end_old rfl rfl (end_old rfl rfl (end_new 0 rfl rfl (end_new 1 rfl rfl (end_new 2 rfl rfl (end_new 3 rfl rfl (end_new 4 rfl rfl (end_new 5 rfl rfl (end_new 6 rfl rfl (end_new 7 rfl rfl (end_new 8 rfl rfl (end_new 9 rfl rfl (end_new 10 rfl rfl (end_new 11 rfl rfl (end_new 12 rfl rfl (end_new 13 rfl rfl (end_new 14 rfl rfl (end_new 15 rfl rfl (end_new 16 rfl rfl (end_new 17 rfl rfl (end_new 18 rfl rfl end_nil))))))))))))))))))))))) ?_
  refine p_blk_n ?_
  refine p_seq ?_
  refine T_region ?_
  refine TL_q (.int .i64 2) (fun _ _ hρ _ => r_as (r_add (hρ _ _ rfl) (hρ _ _ rfl)) (by rfl)) rfl rfl rfl (w_n rfl) ?_
  refine TL_q (.int .i64 2) (fun _ _ hρ _ => r_move (hρ _ _ rfl)) rfl rfl rfl (w_n rfl) ?_
  refine TL_nil ?_
  refine p_round ?_
  refine TR_succ ?_
  refine T_seq (T_region ?_)
  refine TL_q (.bool false) (fun _ _ hρ _ => r_as (r_lss (hρ _ _ rfl) (hρ _ _ rfl)) (by rfl)) rfl rfl rfl (w_n rfl) ?_
  refine TL_seq ?_
  refine T_seq ?_
  refine T_cond_f rfl ?_
  refine T_exit' ?_
  refine p_then_x ?_
  refine p_then_x ?_
  refine p_blk_x ?_
  refine p_end ?_
  refine ret_of rfl (.tuple #[]) (fun tmps w hk hm => results_none rfl _ _ _) (fun w hm => ?_)
  refine ⟨(), trivial, rfl, ?_⟩
  rw [← step_two]
  refine hm.of (fun k q hk => ?_)
  by_cases e900 : 900 = k
  · subst e900; exact hk
  have f900 : ∀ (K : Heap) (v : Res), lk ((900, v) :: K) k = lk K k := fun K v => lk_cons_other K v e900
  by_cases e902 : 902 = k
  · subst e902; exact hk
  have f902 : ∀ (K : Heap) (v : Res), lk ((902, v) :: K) k = lk K k := fun K v => lk_cons_other K v e902
  simp only [f900, f902] at hk ⊢
  exact hk
end Go.Proofs.Ytnjcffhpfmnbfaa
