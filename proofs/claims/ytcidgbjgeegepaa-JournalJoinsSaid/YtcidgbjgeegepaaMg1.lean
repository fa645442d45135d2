/- Texts of this seat, merged: part 1. -/
import Derived.Test.YtcidgbjgeegepaaMg0
/- crc: the table, and a byte fed. Printed by a program of this seat's prover. -/
namespace Go.Proofs.Ytcidgbjgeegepaa
open Go Go.RowKit
set_option maxRecDepth 10000
theorem tbE_nat : ∀ n, n < 16 → tbE[3 + n * 1]? = some (.int .u32 ((fedN 4 (BitVec.ofNat 32 n)).toNat : Int))
  | 0, _ => by kernel_rfl
  | 1, _ => by kernel_rfl
  | 2, _ => by kernel_rfl
  | 3, _ => by kernel_rfl
  | 4, _ => by kernel_rfl
  | 5, _ => by kernel_rfl
  | 6, _ => by kernel_rfl
  | 7, _ => by kernel_rfl
  | 8, _ => by kernel_rfl
  | 9, _ => by kernel_rfl
  | 10, _ => by kernel_rfl
  | 11, _ => by kernel_rfl
  | 12, _ => by kernel_rfl
  | 13, _ => by kernel_rfl
  | 14, _ => by kernel_rfl
  | 15, _ => by kernel_rfl
  | n + 16, h => absurd h (by omega)
theorem tbE_at (x : Wd) (h : x.toNat < 16) : tbE[3 + x.toNat * 1]? = some (.int .u32 ((fedN 4 x).toNat : Int)) := by
  have := tbE_nat x.toNat h
  rwa [BitVec.ofNat_toNat, BitVec.setWidth_eq] at this
theorem and15 (x : Wd) : (x &&& 15#32).toNat < 16 := by
  rw [BitVec.toNat_and]
  exact Nat.lt_of_le_of_lt Nat.and_le_right (by decide)
abbrev tbS (d : Bool) : Array Value := match d with
  | true => tbE
  | false => tbZ

theorem fed_c (r : Wd) (w : World) : Calls Try.prog 147 #[.int .u32 (r.toNat : Int), .int .u32 0] w fun e w' => e = .returned (.int .u32 ((fed0 r).toNat : Int)) ∧ Below w.heap.size w w' := by
  refine calls_of_T (l := [.int .u32 ((r).toNat : Int), .int .u32 0]) 15 Try.func147 rfl rfl rfl ?_
  show T _ _ _ [(0, .int .u32 ((r).toNat : Int)), (1, .int .u32 0)] []
  refine T_seq (T_region ?_)
  refine TL_q (.int .u32 0) (fun _ _ hρ _ => r_assign (hρ _ _ rfl)) rfl rfl rfl (w_n rfl) ?_
  refine TL_seq ?_
  refine T_seq ?_
  refine T_seq (T_region ?_)
  refine TL_q (.int .u32 ((r).toNat : Int)) (fun _ _ hρ _ => r_move (hρ _ _ rfl)) rfl rfl rfl (w_n rfl) ?_
  refine TL_q (.int .u32 0) (fun _ _ hρ _ => r_move (hρ _ _ rfl)) rfl rfl rfl (w_n rfl) ?_
  refine TL_q (.int .u32 ((r ^^^ (0#32)).toNat : Int)) (fun _ _ hρ _ => r_xorB (k := .u32) (a := r) (b := (0#32)) rfl (hρ _ _ rfl) (hρ _ _ rfl)) rfl rfl rfl (w_n rfl) ?_
  refine TL_q (.int .u32 (((r ^^^ (0#32)) &&& (1#32)).toNat : Int)) (fun _ _ hρ _ => r_andB (k := .u32) (a := (r ^^^ (0#32))) (b := (1#32)) rfl (hρ _ _ rfl) (hρ _ _ rfl)) rfl rfl rfl (w_n rfl) ?_
  refine TL_q (.bool (decide (((r ^^^ (0#32)) &&& (1#32)) = (1#32)))) (fun _ _ hρ _ => r_as (r_eql (hρ _ _ rfl) (hρ _ _ rfl)) (bool_as (bv_dec ((r ^^^ (0#32)) &&& (1#32)) (1#32)))) rfl rfl rfl (w_n rfl) ?_
  refine TL_seq ?_
  refine T_cond rfl (fun h1 => ?_) (fun h1 => ?_)
  · replace h1 := of_decide_eq_true h1
    refine T_seq (T_region ?_)
    refine TL_q (.int .u32 ((r).toNat : Int)) (fun _ _ hρ _ => r_move (hρ _ _ rfl)) rfl rfl rfl (w_n rfl) ?_
    refine TL_q (.int .u32 ((r >>> 1).toNat : Int)) (fun _ _ hρ _ => r_shrB (k := .u32) (a := r) (n := 1) (by decide) (hρ _ _ rfl) (hρ _ _ rfl)) rfl rfl rfl (w_n rfl) ?_
    refine TL_q (.int .u32 (((r >>> 1) ^^^ (3988292384#32)).toNat : Int)) (fun _ _ hρ _ => r_xorB (k := .u32) (a := (r >>> 1)) (b := (3988292384#32)) rfl (hρ _ _ rfl) (hρ _ _ rfl)) rfl rfl rfl (w_n rfl) ?_
    refine TL_q (.int .u32 (((r >>> 1) ^^^ (3988292384#32)).toNat : Int)) (fun _ _ hρ _ => r_assign (hρ _ _ rfl)) rfl rfl rfl (w_n rfl) ?_
    refine TL_seq ?_
    refine T_ret' ?_
    refine p_then_r ?_
    refine ret_of rfl (.int .u32 (((r >>> 1) ^^^ (3988292384#32)).toNat : Int)) (fun tmps w hk hm => res1 rfl (res_tmp (hk 4 _ rfl))) (fun w hm => ?_)
    exact ⟨congrArg (fun x : Wd => Ending.returned (.int .u32 (x.toNat : Int))) (show _ = fed0 r from (if_pos ((and_one r).1 h1)).symm), hm.ext⟩
  · replace h1 := of_decide_eq_false h1
    refine T_skip' ?_
    refine p_seq ?_
    refine T_seq (T_region ?_)
    refine TL_q (.int .u32 ((r).toNat : Int)) (fun _ _ hρ _ => r_move (hρ _ _ rfl)) rfl rfl rfl (w_n rfl) ?_
    refine TL_q (.int .u32 ((r >>> 1).toNat : Int)) (fun _ _ hρ _ => r_shrB (k := .u32) (a := r) (n := 1) (by decide) (hρ _ _ rfl) (hρ _ _ rfl)) rfl rfl rfl (w_n rfl) ?_
    refine TL_q (.int .u32 ((r >>> 1).toNat : Int)) (fun _ _ hρ _ => r_assign (hρ _ _ rfl)) rfl rfl rfl (w_n rfl) ?_
    refine TL_seq ?_
    refine T_ret' ?_
    refine ret_of rfl (.int .u32 ((r >>> 1).toNat : Int)) (fun tmps w hk hm => res1 rfl (res_tmp (hk 4 _ rfl))) (fun w hm => ?_)
    exact ⟨congrArg (fun x : Wd => Ending.returned (.int .u32 (x.toNat : Int))) (show _ = fed0 r from (if_neg (fun e => h1 ((and_one r).2 e))).symm), hm.ext⟩

set_option maxHeartbeats 8000000 in
theorem rows_ht (w₀ : World) (L : Heap) (B Cc : Nat) (hi : lk L 900 = some (.blk B (.cells tbL 190))) (h901 : lk L 901 = some (.blk Cc (.cells #[.pointer (some ⟨B, 0, none⟩)] 171))) : ∀ w, MemOk w₀ L w → Calls Try.prog 146 #[.pointer (some ⟨Cc, 0, none⟩)] w (HAns w₀ (fun _ : Unit => True) (fun _ => .tuple #[]) (fun _ => (900, .blk B (.cells tbF 190)) :: L)) := by
  refine ht_of_T (l := [.pointer (some ⟨Cc, 0, none⟩)]) (L := L) 20 Try.func146 rfl rfl rfl ?_
  refine T_mem ((900, .blk B (.cells #[.int .u32 0, .int .i32 1, .int .u32 0, .int .u32 0, .int .u32 0, .int .u32 0, .int .u32 0, .int .u32 0, .int .u32 0, .int .u32 0, .int .u32 0, .int .u32 0, .int .u32 0, .int .u32 0, .int .u32 0, .int .u32 0, .int .u32 0, .int .u32 0, .int .u32 0] 190)) :: (901, .blk Cc (.cells #[.pointer (some ⟨B, 0, none⟩)] 171)) :: L) (fun _ hm => (hm.of (lk_dup h901)).of (lk_dup (show lk ((901, _) :: L) 900 = _ from (lk_cons_other _ _ (by decide)).trans hi))) ?_
  show T _ _ _ [(0, .pointer (some ⟨Cc, 0, none⟩))] ((900, .blk B (.cells #[.int .u32 0, .int .i32 1, .int .u32 0, .int .u32 0, .int .u32 0, .int .u32 0, .int .u32 0, .int .u32 0, .int .u32 0, .int .u32 0, .int .u32 0, .int .u32 0, .int .u32 0, .int .u32 0, .int .u32 0, .int .u32 0, .int .u32 0, .int .u32 0, .int .u32 0] 190)) :: (901, .blk Cc (.cells #[.pointer (some ⟨B, 0, none⟩)] 171)) :: L)
  refine T_seq (T_region ?_)
  refine TL_q (.int .i64 0) (fun _ _ hρ _ => r_move (hρ _ _ rfl)) rfl rfl rfl (w_n rfl) ?_
  refine TL_seq ?_
  refine T_block ?_
  refine T_rounds 17 ?_
  refine TR_succ ?_
  refine T_seq (T_region ?_)
  refine TL_q (.bool true) (fun _ _ hρ _ => r_as (r_lss (hρ _ _ rfl) (hρ _ _ rfl)) (by rfl)) rfl rfl rfl (w_n rfl) ?_
  refine TL_seq ?_
  refine T_seq ?_
  refine T_cond_t rfl ?_
  refine T_skip' ?_
  refine p_seq ?_
  refine T_seq ?_
  refine T_block ?_
  refine T_seq (T_region ?_)
  refine TL_q (.int .i64 0) (fun _ _ hρ _ => r_move (hρ _ _ rfl)) rfl rfl rfl (w_n rfl) ?_
  refine TL_q (.int .i64 0) (fun _ _ hρ _ => r_assign (hρ _ _ rfl)) rfl rfl rfl (w_n rfl) ?_
  refine TL_seq ?_
  refine T_seq (T_region ?_)
  refine TL_q (.int .i64 0) (fun _ _ hρ _ => r_move (hρ _ _ rfl)) rfl rfl rfl (w_n rfl) ?_
  refine TL_q (.int .u32 0) (fun _ _ hρ _ => r_as (r_conv un3 io46 (hρ _ _ rfl)) (by rfl)) rfl rfl rfl (w_n rfl) ?_
  refine TL_q (.int .u32 0) (fun _ _ hρ _ => r_assign (hρ _ _ rfl)) rfl rfl rfl (w_n rfl) ?_
  refine TL_seq ?_
  refine T_seq ?_
  refine T_seq (T_region ?_)
  refine TL_q (.int .i64 0) (fun _ _ hρ _ => r_move (hρ _ _ rfl)) rfl rfl rfl (w_n rfl) ?_
  refine TL_seq ?_
  refine T_block ?_
  refine T_rounds 5 ?_
  refine TR_succ ?_
  refine T_seq (T_region ?_)
  refine TL_q (.bool true) (fun _ _ hρ _ => r_as (r_lss (hρ _ _ rfl) (hρ _ _ rfl)) (by rfl)) rfl rfl rfl (w_n rfl) ?_
  refine TL_seq ?_
  refine T_seq ?_
  refine T_cond_t rfl ?_
  refine T_skip' ?_
  refine p_seq ?_
  refine T_seq ?_
  refine T_block ?_
  refine T_region ?_
  refine TL_q (.int .u32 0) (fun _ _ hρ _ => r_move (hρ _ _ rfl)) rfl rfl rfl (w_n rfl) ?_
  refine TL_call (.int .u32 0) (fun _ _ hρ _ => r_call (args := [.int .u32 0, .int .u32 0]) (enters_of Try.func147 (by kernel_rfl) rfl) (hρ _ _ rfl) ((cons2 (hρ _ _ rfl) (cons2 (hρ _ _ rfl) rfl))) rfl) (fun w _ => (fed_c 0#32 w).mono fun _ _ h => ⟨h.1.trans (congrArg Ending.returned (by kernel_rfl)), h.2⟩) rfl rfl rfl (w_n rfl) ?_
  refine TL_q (.int .u32 0) (fun _ _ hρ _ => r_assign (hρ _ _ rfl)) rfl rfl rfl (w_n rfl) ?_
  refine TL_nil ?_
  refine p_blk_n ?_
  refine p_seq ?_
  refine T_region ?_
  refine TL_q (.int .i64 1) (fun _ _ hρ _ => r_as (r_add (hρ _ _ rfl) (hρ _ _ rfl)) (by rfl)) rfl rfl rfl (w_n rfl) ?_
  refine TL_q (.int .i64 1) (fun _ _ hρ _ => r_move (hρ _ _ rfl)) rfl rfl rfl (w_n rfl) ?_
  refine TL_nil ?_
  refine p_round ?_
  refine TR_succ ?_
  refine T_seq (T_region ?_)
  refine TL_q (.bool true) (fun _ _ hρ _ => r_as (r_lss (hρ _ _ rfl) (hρ _ _ rfl)) (by rfl)) rfl rfl rfl (w_n rfl) ?_
  refine TL_seq ?_
  refine T_seq ?_
  refine T_cond_t rfl ?_
  refine T_skip' ?_
  refine p_seq ?_
  refine T_seq ?_
  refine T_block ?_
  refine T_region ?_
  refine TL_q (.int .u32 0) (fun _ _ hρ _ => r_move (hρ _ _ rfl)) rfl rfl rfl (w_n rfl) ?_
  refine TL_call (.int .u32 0) (fun _ _ hρ _ => r_call (args := [.int .u32 0, .int .u32 0]) (enters_of Try.func147 (by kernel_rfl) rfl) (hρ _ _ rfl) ((cons2 (hρ _ _ rfl) (cons2 (hρ _ _ rfl) rfl))) rfl) (fun w _ => (fed_c 0#32 w).mono fun _ _ h => ⟨h.1.trans (congrArg Ending.returned (by kernel_rfl)), h.2⟩) rfl rfl rfl (w_n rfl) ?_
  refine TL_q (.int .u32 0) (fun _ _ hρ _ => r_assign (hρ _ _ rfl)) rfl rfl rfl (w_n rfl) ?_
  refine TL_nil ?_
  refine p_blk_n ?_
  refine p_seq ?_
  refine T_region ?_
  refine TL_q (.int .i64 2) (fun _ _ hρ _ => r_as (r_add (hρ _ _ rfl) (hρ _ _ rfl)) (by rfl)) rfl rfl rfl (w_n rfl) ?_
  refine TL_q (.int .i64 2) (fun _ _ hρ _ => r_move (hρ _ _ rfl)) rfl rfl rfl (w_n rfl) ?_
  refine TL_nil ?_
  refine p_round ?_
  refine TR_succ ?_
  refine T_seq (T_region ?_)
  refine TL_q (.bool true) (fun _ _ hρ _ => r_as (r_lss (hρ _ _ rfl) (hρ _ _ rfl)) (by rfl)) rfl rfl rfl (w_n rfl) ?_
  refine TL_seq ?_
  refine T_seq ?_
  refine T_cond_t rfl ?_
  refine T_skip' ?_
  refine p_seq ?_
  refine T_seq ?_
  refine T_block ?_
  refine T_region ?_
  refine TL_q (.int .u32 0) (fun _ _ hρ _ => r_move (hρ _ _ rfl)) rfl rfl rfl (w_n rfl) ?_
  refine TL_call (.int .u32 0) (fun _ _ hρ _ => r_call (args := [.int .u32 0, .int .u32 0]) (enters_of Try.func147 (by kernel_rfl) rfl) (hρ _ _ rfl) ((cons2 (hρ _ _ rfl) (cons2 (hρ _ _ rfl) rfl))) rfl) (fun w _ => (fed_c 0#32 w).mono fun _ _ h => ⟨h.1.trans (congrArg Ending.returned (by kernel_rfl)), h.2⟩) rfl rfl rfl (w_n rfl) ?_
  refine TL_q (.int .u32 0) (fun _ _ hρ _ => r_assign (hρ _ _ rfl)) rfl rfl rfl (w_n rfl) ?_
  refine TL_nil ?_
  refine p_blk_n ?_
  refine p_seq ?_
  refine T_region ?_
  refine TL_q (.int .i64 3) (fun _ _ hρ _ => r_as (r_add (hρ _ _ rfl) (hρ _ _ rfl)) (by rfl)) rfl rfl rfl (w_n rfl) ?_
  refine TL_q (.int .i64 3) (fun _ _ hρ _ => r_move (hρ _ _ rfl)) rfl rfl rfl (w_n rfl) ?_
  refine TL_nil ?_
  refine p_round ?_
  refine TR_succ ?_
  refine T_seq (T_region ?_)
  refine TL_q (.bool true) (fun _ _ hρ _ => r_as (r_lss (hρ _ _ rfl) (hρ _ _ rfl)) (by rfl)) rfl rfl rfl (w_n rfl) ?_
  refine TL_seq ?_
  refine T_seq ?_
  refine T_cond_t rfl ?_
  refine T_skip' ?_
  refine p_seq ?_
  refine T_seq ?_
  refine T_block ?_
  refine T_region ?_
  refine TL_q (.int .u32 0) (fun _ _ hρ _ => r_move (hρ _ _ rfl)) rfl rfl rfl (w_n rfl) ?_
  refine TL_call (.int .u32 0) (fun _ _ hρ _ => r_call (args := [.int .u32 0, .int .u32 0]) (enters_of Try.func147 (by kernel_rfl) rfl) (hρ _ _ rfl) ((cons2 (hρ _ _ rfl) (cons2 (hρ _ _ rfl) rfl))) rfl) (fun w _ => (fed_c 0#32 w).mono fun _ _ h => ⟨h.1.trans (congrArg Ending.returned (by kernel_rfl)), h.2⟩) rfl rfl rfl (w_n rfl) ?_
  refine TL_q (.int .u32 0) (fun _ _ hρ _ => r_assign (hρ _ _ rfl)) rfl rfl rfl (w_n rfl) ?_
  refine TL_nil ?_
  refine p_blk_n ?_
  refine p_seq ?_
  refine T_region ?_
  refine TL_q (.int .i64 4) (fun _ _ hρ _ => r_as (r_add (hρ _ _ rfl) (hρ _ _ rfl)) (by rfl)) rfl rfl rfl (w_n rfl) ?_
  refine TL_q (.int .i64 4) (fun _ _ hρ _ => r_move (hρ _ _ rfl)) rfl rfl rfl (w_n rfl) ?_
  refine TL_nil ?_
  refine p_round ?_
  refine TR_succ ?_
  refine T_seq (T_region ?_)
  refine TL_q (.bool false) (fun _ _ hρ _ => r_as (r_lss (hρ _ _ rfl) (hρ _ _ rfl)) (by rfl)) rfl rfl rfl (w_n rfl) ?_
  refine TL_seq ?_
  refine T_seq ?_
  refine T_cond_f rfl ?_
  refine T_exit' ?_
  refine p_then_x ?_
  refine p_then_x ?_
  refine p_blk_x ?_
  refine p_seq ?_
  refine T_region ?_
  refine TL_q (.pointer (some ⟨B, 0, none⟩)) (fun _ _ hρ hm => r_load ag171 (hρ _ _ rfl) (hm.at 901 rfl) rfl) rfl rfl rfl (w_n rfl) ?_
  refine TL_q (.int .i64 0) (fun _ _ hρ _ => r_move (hρ _ _ rfl)) rfl rfl rfl (w_n rfl) ?_
  refine TL_q (.int .u32 0) (fun _ _ hρ _ => r_move (hρ _ _ rfl)) rfl rfl rfl (w_n rfl) ?_
  refine TL_q (.pointer (some ⟨B, 0, none⟩)) (fun _ _ hρ _ => r_nilCheck (hρ _ _ rfl) rfl) rfl rfl rfl (w_n rfl) ?_
  refine TL_q (.pointer (some ⟨B, 3, none⟩)) (fun _ _ hρ _ => r_fieldAddr fl190_1 sz188 (hρ _ _ rfl)) rfl rfl rfl (w_n rfl) ?_
  refine TL_q (.pointer (some ⟨B, 3, none⟩)) (fun _ _ hρ _ => r_indexAddrA (i := 0) ar188 sz46 (hρ _ _ rfl) (hρ _ _ rfl) (by decide)) rfl rfl rfl (w_n rfl) ?_
  refine TL_store 900 (.cells #[.int .u32 0, .int .i32 1, .int .u32 0, .int .u32 0, .int .u32 0, .int .u32 0, .int .u32 0, .int .u32 0, .int .u32 0, .int .u32 0, .int .u32 0, .int .u32 0, .int .u32 0, .int .u32 0, .int .u32 0, .int .u32 0, .int .u32 0, .int .u32 0, .int .u32 0] 190) rfl (fun _ _ hρ hm => r_store sz46 (hρ _ _ rfl) (hρ _ _ rfl) (hm.at 900 rfl) rfl rfl rfl rfl) rfl rfl (w_n rfl) ?_
  refine TL_nil ?_
  refine p_blk_n ?_
  refine p_seq ?_
  refine T_region ?_
  refine TL_q (.int .i64 1) (fun _ _ hρ _ => r_as (r_add (hρ _ _ rfl) (hρ _ _ rfl)) (by rfl)) rfl rfl rfl (w_n rfl) ?_
  refine TL_q (.int .i64 1) (fun _ _ hρ _ => r_move (hρ _ _ rfl)) rfl rfl rfl (w_n rfl) ?_
  refine TL_nil ?_
  refine p_round ?_
  refine TR_succ ?_
  refine T_seq (T_region ?_)
  refine TL_q (.bool true) (fun _ _ hρ _ => r_as (r_lss (hρ _ _ rfl) (hρ _ _ rfl)) (by rfl)) rfl rfl rfl (w_n rfl) ?_
  refine TL_seq ?_
  refine T_seq ?_
  refine T_cond_t rfl ?_
  refine T_skip' ?_
  refine p_seq ?_
  refine T_seq ?_
  refine T_block ?_
  refine T_seq (T_region ?_)
  refine TL_q (.int .i64 1) (fun _ _ hρ _ => r_move (hρ _ _ rfl)) rfl rfl rfl (w_n rfl) ?_
  refine TL_q (.int .i64 1) (fun _ _ hρ _ => r_assign (hρ _ _ rfl)) rfl rfl rfl (w_n rfl) ?_
  refine TL_seq ?_
  refine T_seq (T_region ?_)
  refine TL_q (.int .i64 1) (fun _ _ hρ _ => r_move (hρ _ _ rfl)) rfl rfl rfl (w_n rfl) ?_
  refine TL_q (.int .u32 1) (fun _ _ hρ _ => r_as (r_conv un3 io46 (hρ _ _ rfl)) (by rfl)) rfl rfl rfl (w_n rfl) ?_
  refine TL_q (.int .u32 1) (fun _ _ hρ _ => r_assign (hρ _ _ rfl)) rfl rfl rfl (w_n rfl) ?_
  refine TL_seq ?_
  refine T_seq ?_
  refine T_seq (T_region ?_)
  refine TL_q (.int .i64 0) (fun _ _ hρ _ => r_move (hρ _ _ rfl)) rfl rfl rfl (w_n rfl) ?_
  refine TL_seq ?_
  refine T_block ?_
  refine T_rounds 5 ?_
  refine TR_succ ?_
  refine T_seq (T_region ?_)
  refine TL_q (.bool true) (fun _ _ hρ _ => r_as (r_lss (hρ _ _ rfl) (hρ _ _ rfl)) (by rfl)) rfl rfl rfl (w_n rfl) ?_
  refine TL_seq ?_
  refine T_seq ?_
  refine T_cond_t rfl ?_
  refine T_skip' ?_
  refine p_seq ?_
  refine T_seq ?_
  refine T_block ?_
  refine T_region ?_
  refine TL_q (.int .u32 1) (fun _ _ hρ _ => r_move (hρ _ _ rfl)) rfl rfl rfl (w_n rfl) ?_
  refine TL_call (.int .u32 3988292384) (fun _ _ hρ _ => r_call (args := [.int .u32 1, .int .u32 0]) (enters_of Try.func147 (by kernel_rfl) rfl) (hρ _ _ rfl) ((cons2 (hρ _ _ rfl) (cons2 (hρ _ _ rfl) rfl))) rfl) (fun w _ => (fed_c 1#32 w).mono fun _ _ h => ⟨h.1.trans (congrArg Ending.returned (by kernel_rfl)), h.2⟩) rfl rfl rfl (w_n rfl) ?_
  refine TL_q (.int .u32 3988292384) (fun _ _ hρ _ => r_assign (hρ _ _ rfl)) rfl rfl rfl (w_n rfl) ?_
  refine TL_nil ?_
  refine p_blk_n ?_
  refine p_seq ?_
  refine T_region ?_
  refine TL_q (.int .i64 1) (fun _ _ hρ _ => r_as (r_add (hρ _ _ rfl) (hρ _ _ rfl)) (by rfl)) rfl rfl rfl (w_n rfl) ?_
  refine TL_q (.int .i64 1) (fun _ _ hρ _ => r_move (hρ _ _ rfl)) rfl rfl rfl (w_n rfl) ?_
  refine TL_nil ?_
  refine p_round ?_
  refine TR_succ ?_
  refine T_seq (T_region ?_)
  refine TL_q (.bool true) (fun _ _ hρ _ => r_as (r_lss (hρ _ _ rfl) (hρ _ _ rfl)) (by rfl)) rfl rfl rfl (w_n rfl) ?_
  refine TL_seq ?_
  refine T_seq ?_
  refine T_cond_t rfl ?_
  refine T_skip' ?_
  refine p_seq ?_
  refine T_seq ?_
  refine T_block ?_
  refine T_region ?_
  refine TL_q (.int .u32 3988292384) (fun _ _ hρ _ => r_move (hρ _ _ rfl)) rfl rfl rfl (w_n rfl) ?_
  refine TL_call (.int .u32 1994146192) (fun _ _ hρ _ => r_call (args := [.int .u32 3988292384, .int .u32 0]) (enters_of Try.func147 (by kernel_rfl) rfl) (hρ _ _ rfl) ((cons2 (hρ _ _ rfl) (cons2 (hρ _ _ rfl) rfl))) rfl) (fun w _ => (fed_c 3988292384#32 w).mono fun _ _ h => ⟨h.1.trans (congrArg Ending.returned (by kernel_rfl)), h.2⟩) rfl rfl rfl (w_n rfl) ?_
  refine TL_q (.int .u32 1994146192) (fun _ _ hρ _ => r_assign (hρ _ _ rfl)) rfl rfl rfl (w_n rfl) ?_
  refine TL_nil ?_
  refine p_blk_n ?_
  refine p_seq ?_
  refine T_region ?_
  refine TL_q (.int .i64 2) (fun _ _ hρ _ => r_as (r_add (hρ _ _ rfl) (hρ _ _ rfl)) (by rfl)) rfl rfl rfl (w_n rfl) ?_
  refine TL_q (.int .i64 2) (fun _ _ hρ _ => r_move (hρ _ _ rfl)) rfl rfl rfl (w_n rfl) ?_
  refine TL_nil ?_
  refine p_round ?_
  refine TR_succ ?_
  refine T_seq (T_region ?_)
  refine TL_q (.bool true) (fun _ _ hρ _ => r_as (r_lss (hρ _ _ rfl) (hρ _ _ rfl)) (by rfl)) rfl rfl rfl (w_n rfl) ?_
  refine TL_seq ?_
  refine T_seq ?_
  refine T_cond_t rfl ?_
  refine T_skip' ?_
  refine p_seq ?_
  refine T_seq ?_
  refine T_block ?_
  refine T_region ?_
  refine TL_q (.int .u32 1994146192) (fun _ _ hρ _ => r_move (hρ _ _ rfl)) rfl rfl rfl (w_n rfl) ?_
  refine TL_call (.int .u32 997073096) (fun _ _ hρ _ => r_call (args := [.int .u32 1994146192, .int .u32 0]) (enters_of Try.func147 (by kernel_rfl) rfl) (hρ _ _ rfl) ((cons2 (hρ _ _ rfl) (cons2 (hρ _ _ rfl) rfl))) rfl) (fun w _ => (fed_c 1994146192#32 w).mono fun _ _ h => ⟨h.1.trans (congrArg Ending.returned (by kernel_rfl)), h.2⟩) rfl rfl rfl (w_n rfl) ?_
  refine TL_q (.int .u32 997073096) (fun _ _ hρ _ => r_assign (hρ _ _ rfl)) rfl rfl rfl (w_n rfl) ?_
  refine TL_nil ?_
  refine p_blk_n ?_
  refine p_seq ?_
  refine T_region ?_
  refine TL_q (.int .i64 3) (fun _ _ hρ _ => r_as (r_add (hρ _ _ rfl) (hρ _ _ rfl)) (by rfl)) rfl rfl rfl (w_n rfl) ?_
  refine TL_q (.int .i64 3) (fun _ _ hρ _ => r_move (hρ _ _ rfl)) rfl rfl rfl (w_n rfl) ?_
  refine TL_nil ?_
  refine p_round ?_
  refine TR_succ ?_
  refine T_seq (T_region ?_)
  refine TL_q (.bool true) (fun _ _ hρ _ => r_as (r_lss (hρ _ _ rfl) (hρ _ _ rfl)) (by rfl)) rfl rfl rfl (w_n rfl) ?_
  refine TL_seq ?_
  refine T_seq ?_
  refine T_cond_t rfl ?_
  refine T_skip' ?_
  refine p_seq ?_
  refine T_seq ?_
  refine T_block ?_
  refine T_region ?_
  refine TL_q (.int .u32 997073096) (fun _ _ hρ _ => r_move (hρ _ _ rfl)) rfl rfl rfl (w_n rfl) ?_
  refine TL_call (.int .u32 498536548) (fun _ _ hρ _ => r_call (args := [.int .u32 997073096, .int .u32 0]) (enters_of Try.func147 (by kernel_rfl) rfl) (hρ _ _ rfl) ((cons2 (hρ _ _ rfl) (cons2 (hρ _ _ rfl) rfl))) rfl) (fun w _ => (fed_c 997073096#32 w).mono fun _ _ h => ⟨h.1.trans (congrArg Ending.returned (by kernel_rfl)), h.2⟩) rfl rfl rfl (w_n rfl) ?_
  refine TL_q (.int .u32 498536548) (fun _ _ hρ _ => r_assign (hρ _ _ rfl)) rfl rfl rfl (w_n rfl) ?_
  refine TL_nil ?_
  refine p_blk_n ?_
  refine p_seq ?_
  refine T_region ?_
  refine TL_q (.int .i64 4) (fun _ _ hρ _ => r_as (r_add (hρ _ _ rfl) (hρ _ _ rfl)) (by rfl)) rfl rfl rfl (w_n rfl) ?_
  refine TL_q (.int .i64 4) (fun _ _ hρ _ => r_move (hρ _ _ rfl)) rfl rfl rfl (w_n rfl) ?_
  refine TL_nil ?_
  refine p_round ?_
  refine TR_succ ?_
  refine T_seq (T_region ?_)
  refine TL_q (.bool false) (fun _ _ hρ _ => r_as (r_lss (hρ _ _ rfl) (hρ _ _ rfl)) (by rfl)) rfl rfl rfl (w_n rfl) ?_
  refine TL_seq ?_
  refine T_seq ?_
  refine T_cond_f rfl ?_
  refine T_exit' ?_
  refine p_then_x ?_
  refine p_then_x ?_
  refine p_blk_x ?_
  refine p_seq ?_
  refine T_region ?_
  refine TL_q (.pointer (some ⟨B, 0, none⟩)) (fun _ _ hρ hm => r_load ag171 (hρ _ _ rfl) (hm.at 901 rfl) rfl) rfl rfl rfl (w_n rfl) ?_
  refine TL_q (.int .i64 1) (fun _ _ hρ _ => r_move (hρ _ _ rfl)) rfl rfl rfl (w_n rfl) ?_
  refine TL_q (.int .u32 498536548) (fun _ _ hρ _ => r_move (hρ _ _ rfl)) rfl rfl rfl (w_n rfl) ?_
  refine TL_q (.pointer (some ⟨B, 0, none⟩)) (fun _ _ hρ _ => r_nilCheck (hρ _ _ rfl) rfl) rfl rfl rfl (w_n rfl) ?_
  refine TL_q (.pointer (some ⟨B, 3, none⟩)) (fun _ _ hρ _ => r_fieldAddr fl190_1 sz188 (hρ _ _ rfl)) rfl rfl rfl (w_n rfl) ?_
  refine TL_q (.pointer (some ⟨B, 4, none⟩)) (fun _ _ hρ _ => r_indexAddrA (i := 1) ar188 sz46 (hρ _ _ rfl) (hρ _ _ rfl) (by decide)) rfl rfl rfl (w_n rfl) ?_
  refine TL_store 900 (.cells #[.int .u32 0, .int .i32 1, .int .u32 0, .int .u32 0, .int .u32 498536548, .int .u32 0, .int .u32 0, .int .u32 0, .int .u32 0, .int .u32 0, .int .u32 0, .int .u32 0, .int .u32 0, .int .u32 0, .int .u32 0, .int .u32 0, .int .u32 0, .int .u32 0, .int .u32 0] 190) rfl (fun _ _ hρ hm => r_store sz46 (hρ _ _ rfl) (hρ _ _ rfl) (hm.at 900 rfl) rfl rfl rfl rfl) rfl rfl (w_n rfl) ?_
  refine TL_nil ?_
  refine p_blk_n ?_
  refine p_seq ?_
  refine T_region ?_
  refine TL_q (.int .i64 2) (fun _ _ hρ _ => r_as (r_add (hρ _ _ rfl) (hρ _ _ rfl)) (by rfl)) rfl rfl rfl (w_n rfl) ?_
  refine TL_q (.int .i64 2) (fun _ _ hρ _ => r_move (hρ _ _ rfl)) rfl rfl rfl (w_n rfl) ?_
  refine TL_nil ?_
  refine p_round ?_
  refine TR_succ ?_
  refine T_seq (T_region ?_)
  refine TL_q (.bool true) (fun _ _ hρ _ => r_as (r_lss (hρ _ _ rfl) (hρ _ _ rfl)) (by rfl)) rfl rfl rfl (w_n rfl) ?_
  refine TL_seq ?_
  refine T_seq ?_
  refine T_cond_t rfl ?_
  refine T_skip' ?_
  refine p_seq ?_
  refine T_seq ?_
  refine T_block ?_
  refine T_seq (T_region ?_)
  refine TL_q (.int .i64 2) (fun _ _ hρ _ => r_move (hρ _ _ rfl)) rfl rfl rfl (w_n rfl) ?_
  refine TL_q (.int .i64 2) (fun _ _ hρ _ => r_assign (hρ _ _ rfl)) rfl rfl rfl (w_n rfl) ?_
  refine TL_seq ?_
  refine T_seq (T_region ?_)
  refine TL_q (.int .i64 2) (fun _ _ hρ _ => r_move (hρ _ _ rfl)) rfl rfl rfl (w_n rfl) ?_
  refine TL_q (.int .u32 2) (fun _ _ hρ _ => r_as (r_conv un3 io46 (hρ _ _ rfl)) (by rfl)) rfl rfl rfl (w_n rfl) ?_
  refine TL_q (.int .u32 2) (fun _ _ hρ _ => r_assign (hρ _ _ rfl)) rfl rfl rfl (w_n rfl) ?_
  refine TL_seq ?_
  refine T_seq ?_
  refine T_seq (T_region ?_)
  refine TL_q (.int .i64 0) (fun _ _ hρ _ => r_move (hρ _ _ rfl)) rfl rfl rfl (w_n rfl) ?_
  refine TL_seq ?_
  refine T_block ?_
  refine T_rounds 5 ?_
  refine TR_succ ?_
  refine T_seq (T_region ?_)
  refine TL_q (.bool true) (fun _ _ hρ _ => r_as (r_lss (hρ _ _ rfl) (hρ _ _ rfl)) (by rfl)) rfl rfl rfl (w_n rfl) ?_
  refine TL_seq ?_
  refine T_seq ?_
  refine T_cond_t rfl ?_
  refine T_skip' ?_
  refine p_seq ?_
  refine T_seq ?_
  refine T_block ?_
  refine T_region ?_
  refine TL_q (.int .u32 2) (fun _ _ hρ _ => r_move (hρ _ _ rfl)) rfl rfl rfl (w_n rfl) ?_
  refine TL_call (.int .u32 1) (fun _ _ hρ _ => r_call (args := [.int .u32 2, .int .u32 0]) (enters_of Try.func147 (by kernel_rfl) rfl) (hρ _ _ rfl) ((cons2 (hρ _ _ rfl) (cons2 (hρ _ _ rfl) rfl))) rfl) (fun w _ => (fed_c 2#32 w).mono fun _ _ h => ⟨h.1.trans (congrArg Ending.returned (by kernel_rfl)), h.2⟩) rfl rfl rfl (w_n rfl) ?_
  refine TL_q (.int .u32 1) (fun _ _ hρ _ => r_assign (hρ _ _ rfl)) rfl rfl rfl (w_n rfl) ?_
  refine TL_nil ?_
  refine p_blk_n ?_
  refine p_seq ?_
  refine T_region ?_
  refine TL_q (.int .i64 1) (fun _ _ hρ _ => r_as (r_add (hρ _ _ rfl) (hρ _ _ rfl)) (by rfl)) rfl rfl rfl (w_n rfl) ?_
  refine TL_q (.int .i64 1) (fun _ _ hρ _ => r_move (hρ _ _ rfl)) rfl rfl rfl (w_n rfl) ?_
  refine TL_nil ?_
  refine p_round ?_
  refine TR_succ ?_
  refine T_seq (T_region ?_)
  refine TL_q (.bool true) (fun _ _ hρ _ => r_as (r_lss (hρ _ _ rfl) (hρ _ _ rfl)) (by rfl)) rfl rfl rfl (w_n rfl) ?_
  refine TL_seq ?_
  refine T_seq ?_
  refine T_cond_t rfl ?_
  refine T_skip' ?_
  refine p_seq ?_
  refine T_seq ?_
  refine T_block ?_
  refine T_region ?_
  refine TL_q (.int .u32 1) (fun _ _ hρ _ => r_move (hρ _ _ rfl)) rfl rfl rfl (w_n rfl) ?_
  refine TL_call (.int .u32 3988292384) (fun _ _ hρ _ => r_call (args := [.int .u32 1, .int .u32 0]) (enters_of Try.func147 (by kernel_rfl) rfl) (hρ _ _ rfl) ((cons2 (hρ _ _ rfl) (cons2 (hρ _ _ rfl) rfl))) rfl) (fun w _ => (fed_c 1#32 w).mono fun _ _ h => ⟨h.1.trans (congrArg Ending.returned (by kernel_rfl)), h.2⟩) rfl rfl rfl (w_n rfl) ?_
  refine TL_q (.int .u32 3988292384) (fun _ _ hρ _ => r_assign (hρ _ _ rfl)) rfl rfl rfl (w_n rfl) ?_
  refine TL_nil ?_
  refine p_blk_n ?_
  refine p_seq ?_
  refine T_region ?_
  refine TL_q (.int .i64 2) (fun _ _ hρ _ => r_as (r_add (hρ _ _ rfl) (hρ _ _ rfl)) (by rfl)) rfl rfl rfl (w_n rfl) ?_
  refine TL_q (.int .i64 2) (fun _ _ hρ _ => r_move (hρ _ _ rfl)) rfl rfl rfl (w_n rfl) ?_
  refine TL_nil ?_
  refine p_round ?_
  refine TR_succ ?_
  refine T_seq (T_region ?_)
  refine TL_q (.bool true) (fun _ _ hρ _ => r_as (r_lss (hρ _ _ rfl) (hρ _ _ rfl)) (by rfl)) rfl rfl rfl (w_n rfl) ?_
  refine TL_seq ?_
  refine T_seq ?_
  refine T_cond_t rfl ?_
  refine T_skip' ?_
  refine p_seq ?_
  refine T_seq ?_
  refine T_block ?_
  refine T_region ?_
  refine TL_q (.int .u32 3988292384) (fun _ _ hρ _ => r_move (hρ _ _ rfl)) rfl rfl rfl (w_n rfl) ?_
  refine TL_call (.int .u32 1994146192) (fun _ _ hρ _ => r_call (args := [.int .u32 3988292384, .int .u32 0]) (enters_of Try.func147 (by kernel_rfl) rfl) (hρ _ _ rfl) ((cons2 (hρ _ _ rfl) (cons2 (hρ _ _ rfl) rfl))) rfl) (fun w _ => (fed_c 3988292384#32 w).mono fun _ _ h => ⟨h.1.trans (congrArg Ending.returned (by kernel_rfl)), h.2⟩) rfl rfl rfl (w_n rfl) ?_
  refine TL_q (.int .u32 1994146192) (fun _ _ hρ _ => r_assign (hρ _ _ rfl)) rfl rfl rfl (w_n rfl) ?_
  refine TL_nil ?_
  refine p_blk_n ?_
  refine p_seq ?_
  refine T_region ?_
  refine TL_q (.int .i64 3) (fun _ _ hρ _ => r_as (r_add (hρ _ _ rfl) (hρ _ _ rfl)) (by rfl)) rfl rfl rfl (w_n rfl) ?_
  refine TL_q (.int .i64 3) (fun _ _ hρ _ => r_move (hρ _ _ rfl)) rfl rfl rfl (w_n rfl) ?_
  refine TL_nil ?_
  refine p_round ?_
  refine TR_succ ?_
  refine T_seq (T_region ?_)
  refine TL_q (.bool true) (fun _ _ hρ _ => r_as (r_lss (hρ _ _ rfl) (hρ _ _ rfl)) (by rfl)) rfl rfl rfl (w_n rfl) ?_
  refine TL_seq ?_
  refine T_seq ?_
  refine T_cond_t rfl ?_
  refine T_skip' ?_
  refine p_seq ?_
  refine T_seq ?_
  refine T_block ?_
  refine T_region ?_
  refine TL_q (.int .u32 1994146192) (fun _ _ hρ _ => r_move (hρ _ _ rfl)) rfl rfl rfl (w_n rfl) ?_
  refine TL_call (.int .u32 997073096) (fun _ _ hρ _ => r_call (args := [.int .u32 1994146192, .int .u32 0]) (enters_of Try.func147 (by kernel_rfl) rfl) (hρ _ _ rfl) ((cons2 (hρ _ _ rfl) (cons2 (hρ _ _ rfl) rfl))) rfl) (fun w _ => (fed_c 1994146192#32 w).mono fun _ _ h => ⟨h.1.trans (congrArg Ending.returned (by kernel_rfl)), h.2⟩) rfl rfl rfl (w_n rfl) ?_
  refine TL_q (.int .u32 997073096) (fun _ _ hρ _ => r_assign (hρ _ _ rfl)) rfl rfl rfl (w_n rfl) ?_
  refine TL_nil ?_
  refine p_blk_n ?_
  refine p_seq ?_
  refine T_region ?_
  refine TL_q (.int .i64 4) (fun _ _ hρ _ => r_as (r_add (hρ _ _ rfl) (hρ _ _ rfl)) (by rfl)) rfl rfl rfl (w_n rfl) ?_
  refine TL_q (.int .i64 4) (fun _ _ hρ _ => r_move (hρ _ _ rfl)) rfl rfl rfl (w_n rfl) ?_
  refine TL_nil ?_
  refine p_round ?_
  refine TR_succ ?_
  refine T_seq (T_region ?_)
  refine TL_q (.bool false) (fun _ _ hρ _ => r_as (r_lss (hρ _ _ rfl) (hρ _ _ rfl)) (by rfl)) rfl rfl rfl (w_n rfl) ?_
  refine TL_seq ?_
  refine T_seq ?_
  refine T_cond_f rfl ?_
  refine T_exit' ?_
  refine p_then_x ?_
  refine p_then_x ?_
  refine p_blk_x ?_
  refine p_seq ?_
  refine T_region ?_
  refine TL_q (.pointer (some ⟨B, 0, none⟩)) (fun _ _ hρ hm => r_load ag171 (hρ _ _ rfl) (hm.at 901 rfl) rfl) rfl rfl rfl (w_n rfl) ?_
  refine TL_q (.int .i64 2) (fun _ _ hρ _ => r_move (hρ _ _ rfl)) rfl rfl rfl (w_n rfl) ?_
  refine TL_q (.int .u32 997073096) (fun _ _ hρ _ => r_move (hρ _ _ rfl)) rfl rfl rfl (w_n rfl) ?_
  refine TL_q (.pointer (some ⟨B, 0, none⟩)) (fun _ _ hρ _ => r_nilCheck (hρ _ _ rfl) rfl) rfl rfl rfl (w_n rfl) ?_
  refine TL_q (.pointer (some ⟨B, 3, none⟩)) (fun _ _ hρ _ => r_fieldAddr fl190_1 sz188 (hρ _ _ rfl)) rfl rfl rfl (w_n rfl) ?_
  refine TL_q (.pointer (some ⟨B, 5, none⟩)) (fun _ _ hρ _ => r_indexAddrA (i := 2) ar188 sz46 (hρ _ _ rfl) (hρ _ _ rfl) (by decide)) rfl rfl rfl (w_n rfl) ?_
  refine TL_store 900 (.cells #[.int .u32 0, .int .i32 1, .int .u32 0, .int .u32 0, .int .u32 498536548, .int .u32 997073096, .int .u32 0, .int .u32 0, .int .u32 0, .int .u32 0, .int .u32 0, .int .u32 0, .int .u32 0, .int .u32 0, .int .u32 0, .int .u32 0, .int .u32 0, .int .u32 0, .int .u32 0] 190) rfl (fun _ _ hρ hm => r_store sz46 (hρ _ _ rfl) (hρ _ _ rfl) (hm.at 900 rfl) rfl rfl rfl rfl) rfl rfl (w_n rfl) ?_
  refine TL_nil ?_
  refine p_blk_n ?_
  refine p_seq ?_
  refine T_region ?_
  refine TL_q (.int .i64 3) (fun _ _ hρ _ => r_as (r_add (hρ _ _ rfl) (hρ _ _ rfl)) (by rfl)) rfl rfl rfl (w_n rfl) ?_
  refine TL_q (.int .i64 3) (fun _ _ hρ _ => r_move (hρ _ _ rfl)) rfl rfl rfl (w_n rfl) ?_
  refine TL_nil ?_
  refine p_round ?_
  refine TR_succ ?_
  refine T_seq (T_region ?_)
  refine TL_q (.bool true) (fun _ _ hρ _ => r_as (r_lss (hρ _ _ rfl) (hρ _ _ rfl)) (by rfl)) rfl rfl rfl (w_n rfl) ?_
  refine TL_seq ?_
  refine T_seq ?_
  refine T_cond_t rfl ?_
  refine T_skip' ?_
  refine p_seq ?_
  refine T_seq ?_
  refine T_block ?_
  refine T_seq (T_region ?_)
  refine TL_q (.int .i64 3) (fun _ _ hρ _ => r_move (hρ _ _ rfl)) rfl rfl rfl (w_n rfl) ?_
  refine TL_q (.int .i64 3) (fun _ _ hρ _ => r_assign (hρ _ _ rfl)) rfl rfl rfl (w_n rfl) ?_
  refine TL_seq ?_
  refine T_seq (T_region ?_)
  refine TL_q (.int .i64 3) (fun _ _ hρ _ => r_move (hρ _ _ rfl)) rfl rfl rfl (w_n rfl) ?_
  refine TL_q (.int .u32 3) (fun _ _ hρ _ => r_as (r_conv un3 io46 (hρ _ _ rfl)) (by rfl)) rfl rfl rfl (w_n rfl) ?_
  refine TL_q (.int .u32 3) (fun _ _ hρ _ => r_assign (hρ _ _ rfl)) rfl rfl rfl (w_n rfl) ?_
  refine TL_seq ?_
  refine T_seq ?_
  refine T_seq (T_region ?_)
  refine TL_q (.int .i64 0) (fun _ _ hρ _ => r_move (hρ _ _ rfl)) rfl rfl rfl (w_n rfl) ?_
  refine TL_seq ?_
  refine T_block ?_
  refine T_rounds 5 ?_
  refine TR_succ ?_
  refine T_seq (T_region ?_)
  refine TL_q (.bool true) (fun _ _ hρ _ => r_as (r_lss (hρ _ _ rfl) (hρ _ _ rfl)) (by rfl)) rfl rfl rfl (w_n rfl) ?_
  refine TL_seq ?_
  refine T_seq ?_
  refine T_cond_t rfl ?_
  refine T_skip' ?_
  refine p_seq ?_
  refine T_seq ?_
  refine T_block ?_
  refine T_region ?_
  refine TL_q (.int .u32 3) (fun _ _ hρ _ => r_move (hρ _ _ rfl)) rfl rfl rfl (w_n rfl) ?_
  refine TL_call (.int .u32 3988292385) (fun _ _ hρ _ => r_call (args := [.int .u32 3, .int .u32 0]) (enters_of Try.func147 (by kernel_rfl) rfl) (hρ _ _ rfl) ((cons2 (hρ _ _ rfl) (cons2 (hρ _ _ rfl) rfl))) rfl) (fun w _ => (fed_c 3#32 w).mono fun _ _ h => ⟨h.1.trans (congrArg Ending.returned (by kernel_rfl)), h.2⟩) rfl rfl rfl (w_n rfl) ?_
  refine TL_q (.int .u32 3988292385) (fun _ _ hρ _ => r_assign (hρ _ _ rfl)) rfl rfl rfl (w_n rfl) ?_
  refine TL_nil ?_
  refine p_blk_n ?_
  refine p_seq ?_
  refine T_region ?_
  refine TL_q (.int .i64 1) (fun _ _ hρ _ => r_as (r_add (hρ _ _ rfl) (hρ _ _ rfl)) (by rfl)) rfl rfl rfl (w_n rfl) ?_
  refine TL_q (.int .i64 1) (fun _ _ hρ _ => r_move (hρ _ _ rfl)) rfl rfl rfl (w_n rfl) ?_
  refine TL_nil ?_
  refine p_round ?_
  refine TR_succ ?_
  refine T_seq (T_region ?_)
  refine TL_q (.bool true) (fun _ _ hρ _ => r_as (r_lss (hρ _ _ rfl) (hρ _ _ rfl)) (by rfl)) rfl rfl rfl (w_n rfl) ?_
  refine TL_seq ?_
  refine T_seq ?_
  refine T_cond_t rfl ?_
  refine T_skip' ?_
  refine p_seq ?_
  refine T_seq ?_
  refine T_block ?_
  refine T_region ?_
  refine TL_q (.int .u32 3988292385) (fun _ _ hρ _ => r_move (hρ _ _ rfl)) rfl rfl rfl (w_n rfl) ?_
  refine TL_call (.int .u32 2607071920) (fun _ _ hρ _ => r_call (args := [.int .u32 3988292385, .int .u32 0]) (enters_of Try.func147 (by kernel_rfl) rfl) (hρ _ _ rfl) ((cons2 (hρ _ _ rfl) (cons2 (hρ _ _ rfl) rfl))) rfl) (fun w _ => (fed_c 3988292385#32 w).mono fun _ _ h => ⟨h.1.trans (congrArg Ending.returned (by kernel_rfl)), h.2⟩) rfl rfl rfl (w_n rfl) ?_
  refine TL_q (.int .u32 2607071920) (fun _ _ hρ _ => r_assign (hρ _ _ rfl)) rfl rfl rfl (w_n rfl) ?_
  refine TL_nil ?_
  refine p_blk_n ?_
  refine p_seq ?_
  refine T_region ?_
  refine TL_q (.int .i64 2) (fun _ _ hρ _ => r_as (r_add (hρ _ _ rfl) (hρ _ _ rfl)) (by rfl)) rfl rfl rfl (w_n rfl) ?_
  refine TL_q (.int .i64 2) (fun _ _ hρ _ => r_move (hρ _ _ rfl)) rfl rfl rfl (w_n rfl) ?_
  refine TL_nil ?_
  refine p_round ?_
  refine TR_succ ?_
  refine T_seq (T_region ?_)
  refine TL_q (.bool true) (fun _ _ hρ _ => r_as (r_lss (hρ _ _ rfl) (hρ _ _ rfl)) (by rfl)) rfl rfl rfl (w_n rfl) ?_
  refine TL_seq ?_
  refine T_seq ?_
  refine T_cond_t rfl ?_
  refine T_skip' ?_
  refine p_seq ?_
  refine T_seq ?_
  refine T_block ?_
  refine T_region ?_
  refine TL_q (.int .u32 2607071920) (fun _ _ hρ _ => r_move (hρ _ _ rfl)) rfl rfl rfl (w_n rfl) ?_
  refine TL_call (.int .u32 1303535960) (fun _ _ hρ _ => r_call (args := [.int .u32 2607071920, .int .u32 0]) (enters_of Try.func147 (by kernel_rfl) rfl) (hρ _ _ rfl) ((cons2 (hρ _ _ rfl) (cons2 (hρ _ _ rfl) rfl))) rfl) (fun w _ => (fed_c 2607071920#32 w).mono fun _ _ h => ⟨h.1.trans (congrArg Ending.returned (by kernel_rfl)), h.2⟩) rfl rfl rfl (w_n rfl) ?_
  refine TL_q (.int .u32 1303535960) (fun _ _ hρ _ => r_assign (hρ _ _ rfl)) rfl rfl rfl (w_n rfl) ?_
  refine TL_nil ?_
  refine p_blk_n ?_
  refine p_seq ?_
  refine T_region ?_
  refine TL_q (.int .i64 3) (fun _ _ hρ _ => r_as (r_add (hρ _ _ rfl) (hρ _ _ rfl)) (by rfl)) rfl rfl rfl (w_n rfl) ?_
  refine TL_q (.int .i64 3) (fun _ _ hρ _ => r_move (hρ _ _ rfl)) rfl rfl rfl (w_n rfl) ?_
  refine TL_nil ?_
  refine p_round ?_
  refine TR_succ ?_
  refine T_seq (T_region ?_)
  refine TL_q (.bool true) (fun _ _ hρ _ => r_as (r_lss (hρ _ _ rfl) (hρ _ _ rfl)) (by rfl)) rfl rfl rfl (w_n rfl) ?_
  refine TL_seq ?_
  refine T_seq ?_
  refine T_cond_t rfl ?_
  refine T_skip' ?_
  refine p_seq ?_
  refine T_seq ?_
  refine T_block ?_
  refine T_region ?_
  refine TL_q (.int .u32 1303535960) (fun _ _ hρ _ => r_move (hρ _ _ rfl)) rfl rfl rfl (w_n rfl) ?_
  refine TL_call (.int .u32 651767980) (fun _ _ hρ _ => r_call (args := [.int .u32 1303535960, .int .u32 0]) (enters_of Try.func147 (by kernel_rfl) rfl) (hρ _ _ rfl) ((cons2 (hρ _ _ rfl) (cons2 (hρ _ _ rfl) rfl))) rfl) (fun w _ => (fed_c 1303535960#32 w).mono fun _ _ h => ⟨h.1.trans (congrArg Ending.returned (by kernel_rfl)), h.2⟩) rfl rfl rfl (w_n rfl) ?_
  refine TL_q (.int .u32 651767980) (fun _ _ hρ _ => r_assign (hρ _ _ rfl)) rfl rfl rfl (w_n rfl) ?_
  refine TL_nil ?_
  refine p_blk_n ?_
  refine p_seq ?_
  refine T_region ?_
  refine TL_q (.int .i64 4) (fun _ _ hρ _ => r_as (r_add (hρ _ _ rfl) (hρ _ _ rfl)) (by rfl)) rfl rfl rfl (w_n rfl) ?_
  refine TL_q (.int .i64 4) (fun _ _ hρ _ => r_move (hρ _ _ rfl)) rfl rfl rfl (w_n rfl) ?_
  refine TL_nil ?_
  refine p_round ?_
  refine TR_succ ?_
  refine T_seq (T_region ?_)
  refine TL_q (.bool false) (fun _ _ hρ _ => r_as (r_lss (hρ _ _ rfl) (hρ _ _ rfl)) (by rfl)) rfl rfl rfl (w_n rfl) ?_
  refine TL_seq ?_
  refine T_seq ?_
  refine T_cond_f rfl ?_
  refine T_exit' ?_
  refine p_then_x ?_
  refine p_then_x ?_
  refine p_blk_x ?_
  refine p_seq ?_
  refine T_region ?_
  refine TL_q (.pointer (some ⟨B, 0, none⟩)) (fun _ _ hρ hm => r_load ag171 (hρ _ _ rfl) (hm.at 901 rfl) rfl) rfl rfl rfl (w_n rfl) ?_
  refine TL_q (.int .i64 3) (fun _ _ hρ _ => r_move (hρ _ _ rfl)) rfl rfl rfl (w_n rfl) ?_
  refine TL_q (.int .u32 651767980) (fun _ _ hρ _ => r_move (hρ _ _ rfl)) rfl rfl rfl (w_n rfl) ?_
  refine TL_q (.pointer (some ⟨B, 0, none⟩)) (fun _ _ hρ _ => r_nilCheck (hρ _ _ rfl) rfl) rfl rfl rfl (w_n rfl) ?_
  refine TL_q (.pointer (some ⟨B, 3, none⟩)) (fun _ _ hρ _ => r_fieldAddr fl190_1 sz188 (hρ _ _ rfl)) rfl rfl rfl (w_n rfl) ?_
  refine TL_q (.pointer (some ⟨B, 6, none⟩)) (fun _ _ hρ _ => r_indexAddrA (i := 3) ar188 sz46 (hρ _ _ rfl) (hρ _ _ rfl) (by decide)) rfl rfl rfl (w_n rfl) ?_
  refine TL_store 900 (.cells #[.int .u32 0, .int .i32 1, .int .u32 0, .int .u32 0, .int .u32 498536548, .int .u32 997073096, .int .u32 651767980, .int .u32 0, .int .u32 0, .int .u32 0, .int .u32 0, .int .u32 0, .int .u32 0, .int .u32 0, .int .u32 0, .int .u32 0, .int .u32 0, .int .u32 0, .int .u32 0] 190) rfl (fun _ _ hρ hm => r_store sz46 (hρ _ _ rfl) (hρ _ _ rfl) (hm.at 900 rfl) rfl rfl rfl rfl) rfl rfl (w_n rfl) ?_
  refine TL_nil ?_
  refine p_blk_n ?_
  refine p_seq ?_
  refine T_region ?_
  refine TL_q (.int .i64 4) (fun _ _ hρ _ => r_as (r_add (hρ _ _ rfl) (hρ _ _ rfl)) (by rfl)) rfl rfl rfl (w_n rfl) ?_
  refine TL_q (.int .i64 4) (fun _ _ hρ _ => r_move (hρ _ _ rfl)) rfl rfl rfl (w_n rfl) ?_
  refine TL_nil ?_
  refine p_round ?_
  refine TR_succ ?_
  refine T_seq (T_region ?_)
  refine TL_q (.bool true) (fun _ _ hρ _ => r_as (r_lss (hρ _ _ rfl) (hρ _ _ rfl)) (by rfl)) rfl rfl rfl (w_n rfl) ?_
  refine TL_seq ?_
  refine T_seq ?_
  refine T_cond_t rfl ?_
  refine T_skip' ?_
  refine p_seq ?_
  refine T_seq ?_
  refine T_block ?_
  refine T_seq (T_region ?_)
  refine TL_q (.int .i64 4) (fun _ _ hρ _ => r_move (hρ _ _ rfl)) rfl rfl rfl (w_n rfl) ?_
  refine TL_q (.int .i64 4) (fun _ _ hρ _ => r_assign (hρ _ _ rfl)) rfl rfl rfl (w_n rfl) ?_
  refine TL_seq ?_
  refine T_seq (T_region ?_)
  refine TL_q (.int .i64 4) (fun _ _ hρ _ => r_move (hρ _ _ rfl)) rfl rfl rfl (w_n rfl) ?_
  refine TL_q (.int .u32 4) (fun _ _ hρ _ => r_as (r_conv un3 io46 (hρ _ _ rfl)) (by rfl)) rfl rfl rfl (w_n rfl) ?_
  refine TL_q (.int .u32 4) (fun _ _ hρ _ => r_assign (hρ _ _ rfl)) rfl rfl rfl (w_n rfl) ?_
  refine TL_seq ?_
  refine T_seq ?_
  refine T_seq (T_region ?_)
  refine TL_q (.int .i64 0) (fun _ _ hρ _ => r_move (hρ _ _ rfl)) rfl rfl rfl (w_n rfl) ?_
  refine TL_seq ?_
  refine T_block ?_
  refine T_rounds 5 ?_
  refine TR_succ ?_
  refine T_seq (T_region ?_)
  refine TL_q (.bool true) (fun _ _ hρ _ => r_as (r_lss (hρ _ _ rfl) (hρ _ _ rfl)) (by rfl)) rfl rfl rfl (w_n rfl) ?_
  refine TL_seq ?_
  refine T_seq ?_
  refine T_cond_t rfl ?_
  refine T_skip' ?_
  refine p_seq ?_
  refine T_seq ?_
  refine T_block ?_
  refine T_region ?_
  refine TL_q (.int .u32 4) (fun _ _ hρ _ => r_move (hρ _ _ rfl)) rfl rfl rfl (w_n rfl) ?_
  refine TL_call (.int .u32 2) (fun _ _ hρ _ => r_call (args := [.int .u32 4, .int .u32 0]) (enters_of Try.func147 (by kernel_rfl) rfl) (hρ _ _ rfl) ((cons2 (hρ _ _ rfl) (cons2 (hρ _ _ rfl) rfl))) rfl) (fun w _ => (fed_c 4#32 w).mono fun _ _ h => ⟨h.1.trans (congrArg Ending.returned (by kernel_rfl)), h.2⟩) rfl rfl rfl (w_n rfl) ?_
  refine TL_q (.int .u32 2) (fun _ _ hρ _ => r_assign (hρ _ _ rfl)) rfl rfl rfl (w_n rfl) ?_
  refine TL_nil ?_
  refine p_blk_n ?_
  refine p_seq ?_
  refine T_region ?_
  refine TL_q (.int .i64 1) (fun _ _ hρ _ => r_as (r_add (hρ _ _ rfl) (hρ _ _ rfl)) (by rfl)) rfl rfl rfl (w_n rfl) ?_
  refine TL_q (.int .i64 1) (fun _ _ hρ _ => r_move (hρ _ _ rfl)) rfl rfl rfl (w_n rfl) ?_
  refine TL_nil ?_
  refine p_round ?_
  refine TR_succ ?_
  refine T_seq (T_region ?_)
  refine TL_q (.bool true) (fun _ _ hρ _ => r_as (r_lss (hρ _ _ rfl) (hρ _ _ rfl)) (by rfl)) rfl rfl rfl (w_n rfl) ?_
  refine TL_seq ?_
  refine T_seq ?_
  refine T_cond_t rfl ?_
  refine T_skip' ?_
  refine p_seq ?_
  refine T_seq ?_
  refine T_block ?_
  refine T_region ?_
  refine TL_q (.int .u32 2) (fun _ _ hρ _ => r_move (hρ _ _ rfl)) rfl rfl rfl (w_n rfl) ?_
  refine TL_call (.int .u32 1) (fun _ _ hρ _ => r_call (args := [.int .u32 2, .int .u32 0]) (enters_of Try.func147 (by kernel_rfl) rfl) (hρ _ _ rfl) ((cons2 (hρ _ _ rfl) (cons2 (hρ _ _ rfl) rfl))) rfl) (fun w _ => (fed_c 2#32 w).mono fun _ _ h => ⟨h.1.trans (congrArg Ending.returned (by kernel_rfl)), h.2⟩) rfl rfl rfl (w_n rfl) ?_
  refine TL_q (.int .u32 1) (fun _ _ hρ _ => r_assign (hρ _ _ rfl)) rfl rfl rfl (w_n rfl) ?_
  refine TL_nil ?_
  refine p_blk_n ?_
  refine p_seq ?_
  refine T_region ?_
  refine TL_q (.int .i64 2) (fun _ _ hρ _ => r_as (r_add (hρ _ _ rfl) (hρ _ _ rfl)) (by rfl)) rfl rfl rfl (w_n rfl) ?_
  refine TL_q (.int .i64 2) (fun _ _ hρ _ => r_move (hρ _ _ rfl)) rfl rfl rfl (w_n rfl) ?_
  refine TL_nil ?_
  refine p_round ?_
  refine TR_succ ?_
  refine T_seq (T_region ?_)
  refine TL_q (.bool true) (fun _ _ hρ _ => r_as (r_lss (hρ _ _ rfl) (hρ _ _ rfl)) (by rfl)) rfl rfl rfl (w_n rfl) ?_
  refine TL_seq ?_
  refine T_seq ?_
  refine T_cond_t rfl ?_
  refine T_skip' ?_
  refine p_seq ?_
  refine T_seq ?_
  refine T_block ?_
  refine T_region ?_
  refine TL_q (.int .u32 1) (fun _ _ hρ _ => r_move (hρ _ _ rfl)) rfl rfl rfl (w_n rfl) ?_
  refine TL_call (.int .u32 3988292384) (fun _ _ hρ _ => r_call (args := [.int .u32 1, .int .u32 0]) (enters_of Try.func147 (by kernel_rfl) rfl) (hρ _ _ rfl) ((cons2 (hρ _ _ rfl) (cons2 (hρ _ _ rfl) rfl))) rfl) (fun w _ => (fed_c 1#32 w).mono fun _ _ h => ⟨h.1.trans (congrArg Ending.returned (by kernel_rfl)), h.2⟩) rfl rfl rfl (w_n rfl) ?_
  refine TL_q (.int .u32 3988292384) (fun _ _ hρ _ => r_assign (hρ _ _ rfl)) rfl rfl rfl (w_n rfl) ?_
  refine TL_nil ?_
  refine p_blk_n ?_
  refine p_seq ?_
  refine T_region ?_
  refine TL_q (.int .i64 3) (fun _ _ hρ _ => r_as (r_add (hρ _ _ rfl) (hρ _ _ rfl)) (by rfl)) rfl rfl rfl (w_n rfl) ?_
  refine TL_q (.int .i64 3) (fun _ _ hρ _ => r_move (hρ _ _ rfl)) rfl rfl rfl (w_n rfl) ?_
  refine TL_nil ?_
  refine p_round ?_
  refine TR_succ ?_
  refine T_seq (T_region ?_)
  refine TL_q (.bool true) (fun _ _ hρ _ => r_as (r_lss (hρ _ _ rfl) (hρ _ _ rfl)) (by rfl)) rfl rfl rfl (w_n rfl) ?_
  refine TL_seq ?_
  refine T_seq ?_
  refine T_cond_t rfl ?_
  refine T_skip' ?_
  refine p_seq ?_
  refine T_seq ?_
  refine T_block ?_
  refine T_region ?_
  refine TL_q (.int .u32 3988292384) (fun _ _ hρ _ => r_move (hρ _ _ rfl)) rfl rfl rfl (w_n rfl) ?_
  refine TL_call (.int .u32 1994146192) (fun _ _ hρ _ => r_call (args := [.int .u32 3988292384, .int .u32 0]) (enters_of Try.func147 (by kernel_rfl) rfl) (hρ _ _ rfl) ((cons2 (hρ _ _ rfl) (cons2 (hρ _ _ rfl) rfl))) rfl) (fun w _ => (fed_c 3988292384#32 w).mono fun _ _ h => ⟨h.1.trans (congrArg Ending.returned (by kernel_rfl)), h.2⟩) rfl rfl rfl (w_n rfl) ?_
  refine TL_q (.int .u32 1994146192) (fun _ _ hρ _ => r_assign (hρ _ _ rfl)) rfl rfl rfl (w_n rfl) ?_
  refine TL_nil ?_
  refine p_blk_n ?_
  refine p_seq ?_
  refine T_region ?_
  refine TL_q (.int .i64 4) (fun _ _ hρ _ => r_as (r_add (hρ _ _ rfl) (hρ _ _ rfl)) (by rfl)) rfl rfl rfl (w_n rfl) ?_
  refine TL_q (.int .i64 4) (fun _ _ hρ _ => r_move (hρ _ _ rfl)) rfl rfl rfl (w_n rfl) ?_
  refine TL_nil ?_
  refine p_round ?_
  refine TR_succ ?_
  refine T_seq (T_region ?_)
  refine TL_q (.bool false) (fun _ _ hρ _ => r_as (r_lss (hρ _ _ rfl) (hρ _ _ rfl)) (by rfl)) rfl rfl rfl (w_n rfl) ?_
  refine TL_seq ?_
  refine T_seq ?_
  refine T_cond_f rfl ?_
  refine T_exit' ?_
  refine p_then_x ?_
  refine p_then_x ?_
  refine p_blk_x ?_
  refine p_seq ?_
  refine T_region ?_
  refine TL_q (.pointer (some ⟨B, 0, none⟩)) (fun _ _ hρ hm => r_load ag171 (hρ _ _ rfl) (hm.at 901 rfl) rfl) rfl rfl rfl (w_n rfl) ?_
  refine TL_q (.int .i64 4) (fun _ _ hρ _ => r_move (hρ _ _ rfl)) rfl rfl rfl (w_n rfl) ?_
  refine TL_q (.int .u32 1994146192) (fun _ _ hρ _ => r_move (hρ _ _ rfl)) rfl rfl rfl (w_n rfl) ?_
  refine TL_q (.pointer (some ⟨B, 0, none⟩)) (fun _ _ hρ _ => r_nilCheck (hρ _ _ rfl) rfl) rfl rfl rfl (w_n rfl) ?_
  refine TL_q (.pointer (some ⟨B, 3, none⟩)) (fun _ _ hρ _ => r_fieldAddr fl190_1 sz188 (hρ _ _ rfl)) rfl rfl rfl (w_n rfl) ?_
  refine TL_q (.pointer (some ⟨B, 7, none⟩)) (fun _ _ hρ _ => r_indexAddrA (i := 4) ar188 sz46 (hρ _ _ rfl) (hρ _ _ rfl) (by decide)) rfl rfl rfl (w_n rfl) ?_
  refine TL_store 900 (.cells #[.int .u32 0, .int .i32 1, .int .u32 0, .int .u32 0, .int .u32 498536548, .int .u32 997073096, .int .u32 651767980, .int .u32 1994146192, .int .u32 0, .int .u32 0, .int .u32 0, .int .u32 0, .int .u32 0, .int .u32 0, .int .u32 0, .int .u32 0, .int .u32 0, .int .u32 0, .int .u32 0] 190) rfl (fun _ _ hρ hm => r_store sz46 (hρ _ _ rfl) (hρ _ _ rfl) (hm.at 900 rfl) rfl rfl rfl rfl) rfl rfl (w_n rfl) ?_
  refine TL_nil ?_
  refine p_blk_n ?_
  refine p_seq ?_
  refine T_region ?_
  refine TL_q (.int .i64 5) (fun _ _ hρ _ => r_as (r_add (hρ _ _ rfl) (hρ _ _ rfl)) (by rfl)) rfl rfl rfl (w_n rfl) ?_
  refine TL_q (.int .i64 5) (fun _ _ hρ _ => r_move (hρ _ _ rfl)) rfl rfl rfl (w_n rfl) ?_
  refine TL_nil ?_
  refine p_round ?_
  refine TR_succ ?_
  refine T_seq (T_region ?_)
  refine TL_q (.bool true) (fun _ _ hρ _ => r_as (r_lss (hρ _ _ rfl) (hρ _ _ rfl)) (by rfl)) rfl rfl rfl (w_n rfl) ?_
  refine TL_seq ?_
  refine T_seq ?_
  refine T_cond_t rfl ?_
  refine T_skip' ?_
  refine p_seq ?_
  refine T_seq ?_
  refine T_block ?_
  refine T_seq (T_region ?_)
  refine TL_q (.int .i64 5) (fun _ _ hρ _ => r_move (hρ _ _ rfl)) rfl rfl rfl (w_n rfl) ?_
  refine TL_q (.int .i64 5) (fun _ _ hρ _ => r_assign (hρ _ _ rfl)) rfl rfl rfl (w_n rfl) ?_
  refine TL_seq ?_
  refine T_seq (T_region ?_)
  refine TL_q (.int .i64 5) (fun _ _ hρ _ => r_move (hρ _ _ rfl)) rfl rfl rfl (w_n rfl) ?_
  refine TL_q (.int .u32 5) (fun _ _ hρ _ => r_as (r_conv un3 io46 (hρ _ _ rfl)) (by rfl)) rfl rfl rfl (w_n rfl) ?_
  refine TL_q (.int .u32 5) (fun _ _ hρ _ => r_assign (hρ _ _ rfl)) rfl rfl rfl (w_n rfl) ?_
  refine TL_seq ?_
  refine T_seq ?_
  refine T_seq (T_region ?_)
  refine TL_q (.int .i64 0) (fun _ _ hρ _ => r_move (hρ _ _ rfl)) rfl rfl rfl (w_n rfl) ?_
  refine TL_seq ?_
  refine T_block ?_
  refine T_rounds 5 ?_
  refine TR_succ ?_
  refine T_seq (T_region ?_)
  refine TL_q (.bool true) (fun _ _ hρ _ => r_as (r_lss (hρ _ _ rfl) (hρ _ _ rfl)) (by rfl)) rfl rfl rfl (w_n rfl) ?_
  refine TL_seq ?_
  refine T_seq ?_
  refine T_cond_t rfl ?_
  refine T_skip' ?_
  refine p_seq ?_
  refine T_seq ?_
  refine T_block ?_
  refine T_region ?_
  refine TL_q (.int .u32 5) (fun _ _ hρ _ => r_move (hρ _ _ rfl)) rfl rfl rfl (w_n rfl) ?_
  refine TL_call (.int .u32 3988292386) (fun _ _ hρ _ => r_call (args := [.int .u32 5, .int .u32 0]) (enters_of Try.func147 (by kernel_rfl) rfl) (hρ _ _ rfl) ((cons2 (hρ _ _ rfl) (cons2 (hρ _ _ rfl) rfl))) rfl) (fun w _ => (fed_c 5#32 w).mono fun _ _ h => ⟨h.1.trans (congrArg Ending.returned (by kernel_rfl)), h.2⟩) rfl rfl rfl (w_n rfl) ?_
  refine TL_q (.int .u32 3988292386) (fun _ _ hρ _ => r_assign (hρ _ _ rfl)) rfl rfl rfl (w_n rfl) ?_
  refine TL_nil ?_
  refine p_blk_n ?_
  refine p_seq ?_
  refine T_region ?_
  refine TL_q (.int .i64 1) (fun _ _ hρ _ => r_as (r_add (hρ _ _ rfl) (hρ _ _ rfl)) (by rfl)) rfl rfl rfl (w_n rfl) ?_
  refine TL_q (.int .i64 1) (fun _ _ hρ _ => r_move (hρ _ _ rfl)) rfl rfl rfl (w_n rfl) ?_
  refine TL_nil ?_
  refine p_round ?_
  refine TR_succ ?_
  refine T_seq (T_region ?_)
  refine TL_q (.bool true) (fun _ _ hρ _ => r_as (r_lss (hρ _ _ rfl) (hρ _ _ rfl)) (by rfl)) rfl rfl rfl (w_n rfl) ?_
  refine TL_seq ?_
  refine T_seq ?_
  refine T_cond_t rfl ?_
  refine T_skip' ?_
  refine p_seq ?_
  refine T_seq ?_
  refine T_block ?_
  refine T_region ?_
  refine TL_q (.int .u32 3988292386) (fun _ _ hρ _ => r_move (hρ _ _ rfl)) rfl rfl rfl (w_n rfl) ?_
  refine TL_call (.int .u32 1994146193) (fun _ _ hρ _ => r_call (args := [.int .u32 3988292386, .int .u32 0]) (enters_of Try.func147 (by kernel_rfl) rfl) (hρ _ _ rfl) ((cons2 (hρ _ _ rfl) (cons2 (hρ _ _ rfl) rfl))) rfl) (fun w _ => (fed_c 3988292386#32 w).mono fun _ _ h => ⟨h.1.trans (congrArg Ending.returned (by kernel_rfl)), h.2⟩) rfl rfl rfl (w_n rfl) ?_
  refine TL_q (.int .u32 1994146193) (fun _ _ hρ _ => r_assign (hρ _ _ rfl)) rfl rfl rfl (w_n rfl) ?_
  refine TL_nil ?_
  refine p_blk_n ?_
  refine p_seq ?_
  refine T_region ?_
  refine TL_q (.int .i64 2) (fun _ _ hρ _ => r_as (r_add (hρ _ _ rfl) (hρ _ _ rfl)) (by rfl)) rfl rfl rfl (w_n rfl) ?_
  refine TL_q (.int .i64 2) (fun _ _ hρ _ => r_move (hρ _ _ rfl)) rfl rfl rfl (w_n rfl) ?_
  refine TL_nil ?_
  refine p_round ?_
  refine TR_succ ?_
  refine T_seq (T_region ?_)
  refine TL_q (.bool true) (fun _ _ hρ _ => r_as (r_lss (hρ _ _ rfl) (hρ _ _ rfl)) (by rfl)) rfl rfl rfl (w_n rfl) ?_
  refine TL_seq ?_
  refine T_seq ?_
  refine T_cond_t rfl ?_
  refine T_skip' ?_
  refine p_seq ?_
  refine T_seq ?_
  refine T_block ?_
  refine T_region ?_
  refine TL_q (.int .u32 1994146193) (fun _ _ hρ _ => r_move (hρ _ _ rfl)) rfl rfl rfl (w_n rfl) ?_
  refine TL_call (.int .u32 3604390888) (fun _ _ hρ _ => r_call (args := [.int .u32 1994146193, .int .u32 0]) (enters_of Try.func147 (by kernel_rfl) rfl) (hρ _ _ rfl) ((cons2 (hρ _ _ rfl) (cons2 (hρ _ _ rfl) rfl))) rfl) (fun w _ => (fed_c 1994146193#32 w).mono fun _ _ h => ⟨h.1.trans (congrArg Ending.returned (by kernel_rfl)), h.2⟩) rfl rfl rfl (w_n rfl) ?_
  refine TL_q (.int .u32 3604390888) (fun _ _ hρ _ => r_assign (hρ _ _ rfl)) rfl rfl rfl (w_n rfl) ?_
  refine TL_nil ?_
  refine p_blk_n ?_
  refine p_seq ?_
  refine T_region ?_
  refine TL_q (.int .i64 3) (fun _ _ hρ _ => r_as (r_add (hρ _ _ rfl) (hρ _ _ rfl)) (by rfl)) rfl rfl rfl (w_n rfl) ?_
  refine TL_q (.int .i64 3) (fun _ _ hρ _ => r_move (hρ _ _ rfl)) rfl rfl rfl (w_n rfl) ?_
  refine TL_nil ?_
  refine p_round ?_
  refine TR_succ ?_
  refine T_seq (T_region ?_)
  refine TL_q (.bool true) (fun _ _ hρ _ => r_as (r_lss (hρ _ _ rfl) (hρ _ _ rfl)) (by rfl)) rfl rfl rfl (w_n rfl) ?_
  refine TL_seq ?_
  refine T_seq ?_
  refine T_cond_t rfl ?_
  refine T_skip' ?_
  refine p_seq ?_
  refine T_seq ?_
  refine T_block ?_
  refine T_region ?_
  refine TL_q (.int .u32 3604390888) (fun _ _ hρ _ => r_move (hρ _ _ rfl)) rfl rfl rfl (w_n rfl) ?_
  refine TL_call (.int .u32 1802195444) (fun _ _ hρ _ => r_call (args := [.int .u32 3604390888, .int .u32 0]) (enters_of Try.func147 (by kernel_rfl) rfl) (hρ _ _ rfl) ((cons2 (hρ _ _ rfl) (cons2 (hρ _ _ rfl) rfl))) rfl) (fun w _ => (fed_c 3604390888#32 w).mono fun _ _ h => ⟨h.1.trans (congrArg Ending.returned (by kernel_rfl)), h.2⟩) rfl rfl rfl (w_n rfl) ?_
  refine TL_q (.int .u32 1802195444) (fun _ _ hρ _ => r_assign (hρ _ _ rfl)) rfl rfl rfl (w_n rfl) ?_
  refine TL_nil ?_
  refine p_blk_n ?_
  refine p_seq ?_
  refine T_region ?_
  refine TL_q (.int .i64 4) (fun _ _ hρ _ => r_as (r_add (hρ _ _ rfl) (hρ _ _ rfl)) (by rfl)) rfl rfl rfl (w_n rfl) ?_
  refine TL_q (.int .i64 4) (fun _ _ hρ _ => r_move (hρ _ _ rfl)) rfl rfl rfl (w_n rfl) ?_
  refine TL_nil ?_
  refine p_round ?_
  refine TR_succ ?_
  refine T_seq (T_region ?_)
  refine TL_q (.bool false) (fun _ _ hρ _ => r_as (r_lss (hρ _ _ rfl) (hρ _ _ rfl)) (by rfl)) rfl rfl rfl (w_n rfl) ?_
  refine TL_seq ?_
  refine T_seq ?_
  refine T_cond_f rfl ?_
  refine T_exit' ?_
  refine p_then_x ?_
  refine p_then_x ?_
  refine p_blk_x ?_
  refine p_seq ?_
  refine T_region ?_
  refine TL_q (.pointer (some ⟨B, 0, none⟩)) (fun _ _ hρ hm => r_load ag171 (hρ _ _ rfl) (hm.at 901 rfl) rfl) rfl rfl rfl (w_n rfl) ?_
  refine TL_q (.int .i64 5) (fun _ _ hρ _ => r_move (hρ _ _ rfl)) rfl rfl rfl (w_n rfl) ?_
  refine TL_q (.int .u32 1802195444) (fun _ _ hρ _ => r_move (hρ _ _ rfl)) rfl rfl rfl (w_n rfl) ?_
  refine TL_q (.pointer (some ⟨B, 0, none⟩)) (fun _ _ hρ _ => r_nilCheck (hρ _ _ rfl) rfl) rfl rfl rfl (w_n rfl) ?_
  refine TL_q (.pointer (some ⟨B, 3, none⟩)) (fun _ _ hρ _ => r_fieldAddr fl190_1 sz188 (hρ _ _ rfl)) rfl rfl rfl (w_n rfl) ?_
  refine TL_q (.pointer (some ⟨B, 8, none⟩)) (fun _ _ hρ _ => r_indexAddrA (i := 5) ar188 sz46 (hρ _ _ rfl) (hρ _ _ rfl) (by decide)) rfl rfl rfl (w_n rfl) ?_
  refine TL_store 900 (.cells #[.int .u32 0, .int .i32 1, .int .u32 0, .int .u32 0, .int .u32 498536548, .int .u32 997073096, .int .u32 651767980, .int .u32 1994146192, .int .u32 1802195444, .int .u32 0, .int .u32 0, .int .u32 0, .int .u32 0, .int .u32 0, .int .u32 0, .int .u32 0, .int .u32 0, .int .u32 0, .int .u32 0] 190) rfl (fun _ _ hρ hm => r_store sz46 (hρ _ _ rfl) (hρ _ _ rfl) (hm.at 900 rfl) rfl rfl rfl rfl) rfl rfl (w_n rfl) ?_
  refine TL_nil ?_
  refine p_blk_n ?_
  refine p_seq ?_
  refine T_region ?_
  refine TL_q (.int .i64 6) (fun _ _ hρ _ => r_as (r_add (hρ _ _ rfl) (hρ _ _ rfl)) (by rfl)) rfl rfl rfl (w_n rfl) ?_
  refine TL_q (.int .i64 6) (fun _ _ hρ _ => r_move (hρ _ _ rfl)) rfl rfl rfl (w_n rfl) ?_
  refine TL_nil ?_
  refine p_round ?_
  refine TR_succ ?_
  refine T_seq (T_region ?_)
  refine TL_q (.bool true) (fun _ _ hρ _ => r_as (r_lss (hρ _ _ rfl) (hρ _ _ rfl)) (by rfl)) rfl rfl rfl (w_n rfl) ?_
  refine TL_seq ?_
  refine T_seq ?_
  refine T_cond_t rfl ?_
  refine T_skip' ?_
  refine p_seq ?_
  refine T_seq ?_
  refine T_block ?_
  refine T_seq (T_region ?_)
  refine TL_q (.int .i64 6) (fun _ _ hρ _ => r_move (hρ _ _ rfl)) rfl rfl rfl (w_n rfl) ?_
  refine TL_q (.int .i64 6) (fun _ _ hρ _ => r_assign (hρ _ _ rfl)) rfl rfl rfl (w_n rfl) ?_
  refine TL_seq ?_
  refine T_seq (T_region ?_)
  refine TL_q (.int .i64 6) (fun _ _ hρ _ => r_move (hρ _ _ rfl)) rfl rfl rfl (w_n rfl) ?_
  refine TL_q (.int .u32 6) (fun _ _ hρ _ => r_as (r_conv un3 io46 (hρ _ _ rfl)) (by rfl)) rfl rfl rfl (w_n rfl) ?_
  refine TL_q (.int .u32 6) (fun _ _ hρ _ => r_assign (hρ _ _ rfl)) rfl rfl rfl (w_n rfl) ?_
  refine TL_seq ?_
  refine T_seq ?_
  refine T_seq (T_region ?_)
  refine TL_q (.int .i64 0) (fun _ _ hρ _ => r_move (hρ _ _ rfl)) rfl rfl rfl (w_n rfl) ?_
  refine TL_seq ?_
  refine T_block ?_
  refine T_rounds 5 ?_
  refine TR_succ ?_
  refine T_seq (T_region ?_)
  refine TL_q (.bool true) (fun _ _ hρ _ => r_as (r_lss (hρ _ _ rfl) (hρ _ _ rfl)) (by rfl)) rfl rfl rfl (w_n rfl) ?_
  refine TL_seq ?_
  refine T_seq ?_
  refine T_cond_t rfl ?_
  refine T_skip' ?_
  refine p_seq ?_
  refine T_seq ?_
  refine T_block ?_
  refine T_region ?_
  refine TL_q (.int .u32 6) (fun _ _ hρ _ => r_move (hρ _ _ rfl)) rfl rfl rfl (w_n rfl) ?_
  refine TL_call (.int .u32 3) (fun _ _ hρ _ => r_call (args := [.int .u32 6, .int .u32 0]) (enters_of Try.func147 (by kernel_rfl) rfl) (hρ _ _ rfl) ((cons2 (hρ _ _ rfl) (cons2 (hρ _ _ rfl) rfl))) rfl) (fun w _ => (fed_c 6#32 w).mono fun _ _ h => ⟨h.1.trans (congrArg Ending.returned (by kernel_rfl)), h.2⟩) rfl rfl rfl (w_n rfl) ?_
  refine TL_q (.int .u32 3) (fun _ _ hρ _ => r_assign (hρ _ _ rfl)) rfl rfl rfl (w_n rfl) ?_
  refine TL_nil ?_
  refine p_blk_n ?_
  refine p_seq ?_
  refine T_region ?_
  refine TL_q (.int .i64 1) (fun _ _ hρ _ => r_as (r_add (hρ _ _ rfl) (hρ _ _ rfl)) (by rfl)) rfl rfl rfl (w_n rfl) ?_
  refine TL_q (.int .i64 1) (fun _ _ hρ _ => r_move (hρ _ _ rfl)) rfl rfl rfl (w_n rfl) ?_
  refine TL_nil ?_
  refine p_round ?_
  refine TR_succ ?_
  refine T_seq (T_region ?_)
  refine TL_q (.bool true) (fun _ _ hρ _ => r_as (r_lss (hρ _ _ rfl) (hρ _ _ rfl)) (by rfl)) rfl rfl rfl (w_n rfl) ?_
  refine TL_seq ?_
  refine T_seq ?_
  refine T_cond_t rfl ?_
  refine T_skip' ?_
  refine p_seq ?_
  refine T_seq ?_
  refine T_block ?_
  refine T_region ?_
  refine TL_q (.int .u32 3) (fun _ _ hρ _ => r_move (hρ _ _ rfl)) rfl rfl rfl (w_n rfl) ?_
  refine TL_call (.int .u32 3988292385) (fun _ _ hρ _ => r_call (args := [.int .u32 3, .int .u32 0]) (enters_of Try.func147 (by kernel_rfl) rfl) (hρ _ _ rfl) ((cons2 (hρ _ _ rfl) (cons2 (hρ _ _ rfl) rfl))) rfl) (fun w _ => (fed_c 3#32 w).mono fun _ _ h => ⟨h.1.trans (congrArg Ending.returned (by kernel_rfl)), h.2⟩) rfl rfl rfl (w_n rfl) ?_
  refine TL_q (.int .u32 3988292385) (fun _ _ hρ _ => r_assign (hρ _ _ rfl)) rfl rfl rfl (w_n rfl) ?_
  refine TL_nil ?_
  refine p_blk_n ?_
  refine p_seq ?_
  refine T_region ?_
  refine TL_q (.int .i64 2) (fun _ _ hρ _ => r_as (r_add (hρ _ _ rfl) (hρ _ _ rfl)) (by rfl)) rfl rfl rfl (w_n rfl) ?_
  refine TL_q (.int .i64 2) (fun _ _ hρ _ => r_move (hρ _ _ rfl)) rfl rfl rfl (w_n rfl) ?_
  refine TL_nil ?_
  refine p_round ?_
  refine TR_succ ?_
  refine T_seq (T_region ?_)
  refine TL_q (.bool true) (fun _ _ hρ _ => r_as (r_lss (hρ _ _ rfl) (hρ _ _ rfl)) (by rfl)) rfl rfl rfl (w_n rfl) ?_
  refine TL_seq ?_
  refine T_seq ?_
  refine T_cond_t rfl ?_
  refine T_skip' ?_
  refine p_seq ?_
  refine T_seq ?_
  refine T_block ?_
  refine T_region ?_
  refine TL_q (.int .u32 3988292385) (fun _ _ hρ _ => r_move (hρ _ _ rfl)) rfl rfl rfl (w_n rfl) ?_
  refine TL_call (.int .u32 2607071920) (fun _ _ hρ _ => r_call (args := [.int .u32 3988292385, .int .u32 0]) (enters_of Try.func147 (by kernel_rfl) rfl) (hρ _ _ rfl) ((cons2 (hρ _ _ rfl) (cons2 (hρ _ _ rfl) rfl))) rfl) (fun w _ => (fed_c 3988292385#32 w).mono fun _ _ h => ⟨h.1.trans (congrArg Ending.returned (by kernel_rfl)), h.2⟩) rfl rfl rfl (w_n rfl) ?_
  refine TL_q (.int .u32 2607071920) (fun _ _ hρ _ => r_assign (hρ _ _ rfl)) rfl rfl rfl (w_n rfl) ?_
  refine TL_nil ?_
  refine p_blk_n ?_
  refine p_seq ?_
  refine T_region ?_
  refine TL_q (.int .i64 3) (fun _ _ hρ _ => r_as (r_add (hρ _ _ rfl) (hρ _ _ rfl)) (by rfl)) rfl rfl rfl (w_n rfl) ?_
  refine TL_q (.int .i64 3) (fun _ _ hρ _ => r_move (hρ _ _ rfl)) rfl rfl rfl (w_n rfl) ?_
  refine TL_nil ?_
  refine p_round ?_
  refine TR_succ ?_
  refine T_seq (T_region ?_)
  refine TL_q (.bool true) (fun _ _ hρ _ => r_as (r_lss (hρ _ _ rfl) (hρ _ _ rfl)) (by rfl)) rfl rfl rfl (w_n rfl) ?_
  refine TL_seq ?_
  refine T_seq ?_
  refine T_cond_t rfl ?_
  refine T_skip' ?_
  refine p_seq ?_
  refine T_seq ?_
  refine T_block ?_
  refine T_region ?_
  refine TL_q (.int .u32 2607071920) (fun _ _ hρ _ => r_move (hρ _ _ rfl)) rfl rfl rfl (w_n rfl) ?_
  refine TL_call (.int .u32 1303535960) (fun _ _ hρ _ => r_call (args := [.int .u32 2607071920, .int .u32 0]) (enters_of Try.func147 (by kernel_rfl) rfl) (hρ _ _ rfl) ((cons2 (hρ _ _ rfl) (cons2 (hρ _ _ rfl) rfl))) rfl) (fun w _ => (fed_c 2607071920#32 w).mono fun _ _ h => ⟨h.1.trans (congrArg Ending.returned (by kernel_rfl)), h.2⟩) rfl rfl rfl (w_n rfl) ?_
  refine TL_q (.int .u32 1303535960) (fun _ _ hρ _ => r_assign (hρ _ _ rfl)) rfl rfl rfl (w_n rfl) ?_
  refine TL_nil ?_
  refine p_blk_n ?_
  refine p_seq ?_
  refine T_region ?_
  refine TL_q (.int .i64 4) (fun _ _ hρ _ => r_as (r_add (hρ _ _ rfl) (hρ _ _ rfl)) (by rfl)) rfl rfl rfl (w_n rfl) ?_
  refine TL_q (.int .i64 4) (fun _ _ hρ _ => r_move (hρ _ _ rfl)) rfl rfl rfl (w_n rfl) ?_
  refine TL_nil ?_
  refine p_round ?_
  refine TR_succ ?_
  refine T_seq (T_region ?_)
  refine TL_q (.bool false) (fun _ _ hρ _ => r_as (r_lss (hρ _ _ rfl) (hρ _ _ rfl)) (by rfl)) rfl rfl rfl (w_n rfl) ?_
  refine TL_seq ?_
  refine T_seq ?_
  refine T_cond_f rfl ?_
  refine T_exit' ?_
  refine p_then_x ?_
  refine p_then_x ?_
  refine p_blk_x ?_
  refine p_seq ?_
  refine T_region ?_
  refine TL_q (.pointer (some ⟨B, 0, none⟩)) (fun _ _ hρ hm => r_load ag171 (hρ _ _ rfl) (hm.at 901 rfl) rfl) rfl rfl rfl (w_n rfl) ?_
  refine TL_q (.int .i64 6) (fun _ _ hρ _ => r_move (hρ _ _ rfl)) rfl rfl rfl (w_n rfl) ?_
  refine TL_q (.int .u32 1303535960) (fun _ _ hρ _ => r_move (hρ _ _ rfl)) rfl rfl rfl (w_n rfl) ?_
  refine TL_q (.pointer (some ⟨B, 0, none⟩)) (fun _ _ hρ _ => r_nilCheck (hρ _ _ rfl) rfl) rfl rfl rfl (w_n rfl) ?_
  refine TL_q (.pointer (some ⟨B, 3, none⟩)) (fun _ _ hρ _ => r_fieldAddr fl190_1 sz188 (hρ _ _ rfl)) rfl rfl rfl (w_n rfl) ?_
  refine TL_q (.pointer (some ⟨B, 9, none⟩)) (fun _ _ hρ _ => r_indexAddrA (i := 6) ar188 sz46 (hρ _ _ rfl) (hρ _ _ rfl) (by decide)) rfl rfl rfl (w_n rfl) ?_
  refine TL_store 900 (.cells #[.int .u32 0, .int .i32 1, .int .u32 0, .int .u32 0, .int .u32 498536548, .int .u32 997073096, .int .u32 651767980, .int .u32 1994146192, .int .u32 1802195444, .int .u32 1303535960, .int .u32 0, .int .u32 0, .int .u32 0, .int .u32 0, .int .u32 0, .int .u32 0, .int .u32 0, .int .u32 0, .int .u32 0] 190) rfl (fun _ _ hρ hm => r_store sz46 (hρ _ _ rfl) (hρ _ _ rfl) (hm.at 900 rfl) rfl rfl rfl rfl) rfl rfl (w_n rfl) ?_
  refine TL_nil ?_
  refine p_blk_n ?_
  refine p_seq ?_
  refine T_region ?_
  refine TL_q (.int .i64 7) (fun _ _ hρ _ => r_as (r_add (hρ _ _ rfl) (hρ _ _ rfl)) (by rfl)) rfl rfl rfl (w_n rfl) ?_
  refine TL_q (.int .i64 7) (fun _ _ hρ _ => r_move (hρ _ _ rfl)) rfl rfl rfl (w_n rfl) ?_
  refine TL_nil ?_
  refine p_round ?_
  refine TR_succ ?_
  refine T_seq (T_region ?_)
  refine TL_q (.bool true) (fun _ _ hρ _ => r_as (r_lss (hρ _ _ rfl) (hρ _ _ rfl)) (by rfl)) rfl rfl rfl (w_n rfl) ?_
  refine TL_seq ?_
  refine T_seq ?_
  refine T_cond_t rfl ?_
  refine T_skip' ?_
  refine p_seq ?_
  refine T_seq ?_
  refine T_block ?_
  refine T_seq (T_region ?_)
  refine TL_q (.int .i64 7) (fun _ _ hρ _ => r_move (hρ _ _ rfl)) rfl rfl rfl (w_n rfl) ?_
  refine TL_q (.int .i64 7) (fun _ _ hρ _ => r_assign (hρ _ _ rfl)) rfl rfl rfl (w_n rfl) ?_
  refine TL_seq ?_
  refine T_seq (T_region ?_)
  refine TL_q (.int .i64 7) (fun _ _ hρ _ => r_move (hρ _ _ rfl)) rfl rfl rfl (w_n rfl) ?_
  refine TL_q (.int .u32 7) (fun _ _ hρ _ => r_as (r_conv un3 io46 (hρ _ _ rfl)) (by rfl)) rfl rfl rfl (w_n rfl) ?_
  refine TL_q (.int .u32 7) (fun _ _ hρ _ => r_assign (hρ _ _ rfl)) rfl rfl rfl (w_n rfl) ?_
  refine TL_seq ?_
  refine T_seq ?_
  refine T_seq (T_region ?_)
  refine TL_q (.int .i64 0) (fun _ _ hρ _ => r_move (hρ _ _ rfl)) rfl rfl rfl (w_n rfl) ?_
  refine TL_seq ?_
  refine T_block ?_
  refine T_rounds 5 ?_
  refine TR_succ ?_
  refine T_seq (T_region ?_)
  refine TL_q (.bool true) (fun _ _ hρ _ => r_as (r_lss (hρ _ _ rfl) (hρ _ _ rfl)) (by rfl)) rfl rfl rfl (w_n rfl) ?_
  refine TL_seq ?_
  refine T_seq ?_
  refine T_cond_t rfl ?_
  refine T_skip' ?_
  refine p_seq ?_
  refine T_seq ?_
  refine T_block ?_
  refine T_region ?_
  refine TL_q (.int .u32 7) (fun _ _ hρ _ => r_move (hρ _ _ rfl)) rfl rfl rfl (w_n rfl) ?_
  refine TL_call (.int .u32 3988292387) (fun _ _ hρ _ => r_call (args := [.int .u32 7, .int .u32 0]) (enters_of Try.func147 (by kernel_rfl) rfl) (hρ _ _ rfl) ((cons2 (hρ _ _ rfl) (cons2 (hρ _ _ rfl) rfl))) rfl) (fun w _ => (fed_c 7#32 w).mono fun _ _ h => ⟨h.1.trans (congrArg Ending.returned (by kernel_rfl)), h.2⟩) rfl rfl rfl (w_n rfl) ?_
  refine TL_q (.int .u32 3988292387) (fun _ _ hρ _ => r_assign (hρ _ _ rfl)) rfl rfl rfl (w_n rfl) ?_
  refine TL_nil ?_
  refine p_blk_n ?_
  refine p_seq ?_
  refine T_region ?_
  refine TL_q (.int .i64 1) (fun _ _ hρ _ => r_as (r_add (hρ _ _ rfl) (hρ _ _ rfl)) (by rfl)) rfl rfl rfl (w_n rfl) ?_
  refine TL_q (.int .i64 1) (fun _ _ hρ _ => r_move (hρ _ _ rfl)) rfl rfl rfl (w_n rfl) ?_
  refine TL_nil ?_
  refine p_round ?_
  refine TR_succ ?_
  refine T_seq (T_region ?_)
  refine TL_q (.bool true) (fun _ _ hρ _ => r_as (r_lss (hρ _ _ rfl) (hρ _ _ rfl)) (by rfl)) rfl rfl rfl (w_n rfl) ?_
  refine TL_seq ?_
  refine T_seq ?_
  refine T_cond_t rfl ?_
  refine T_skip' ?_
  refine p_seq ?_
  refine T_seq ?_
  refine T_block ?_
  refine T_region ?_
  refine TL_q (.int .u32 3988292387) (fun _ _ hρ _ => r_move (hρ _ _ rfl)) rfl rfl rfl (w_n rfl) ?_
  refine TL_call (.int .u32 2607071921) (fun _ _ hρ _ => r_call (args := [.int .u32 3988292387, .int .u32 0]) (enters_of Try.func147 (by kernel_rfl) rfl) (hρ _ _ rfl) ((cons2 (hρ _ _ rfl) (cons2 (hρ _ _ rfl) rfl))) rfl) (fun w _ => (fed_c 3988292387#32 w).mono fun _ _ h => ⟨h.1.trans (congrArg Ending.returned (by kernel_rfl)), h.2⟩) rfl rfl rfl (w_n rfl) ?_
  refine TL_q (.int .u32 2607071921) (fun _ _ hρ _ => r_assign (hρ _ _ rfl)) rfl rfl rfl (w_n rfl) ?_
  refine TL_nil ?_
  refine p_blk_n ?_
  refine p_seq ?_
  refine T_region ?_
  refine TL_q (.int .i64 2) (fun _ _ hρ _ => r_as (r_add (hρ _ _ rfl) (hρ _ _ rfl)) (by rfl)) rfl rfl rfl (w_n rfl) ?_
  refine TL_q (.int .i64 2) (fun _ _ hρ _ => r_move (hρ _ _ rfl)) rfl rfl rfl (w_n rfl) ?_
  refine TL_nil ?_
  refine p_round ?_
  refine TR_succ ?_
  refine T_seq (T_region ?_)
  refine TL_q (.bool true) (fun _ _ hρ _ => r_as (r_lss (hρ _ _ rfl) (hρ _ _ rfl)) (by rfl)) rfl rfl rfl (w_n rfl) ?_
  refine TL_seq ?_
  refine T_seq ?_
  refine T_cond_t rfl ?_
  refine T_skip' ?_
  refine p_seq ?_
  refine T_seq ?_
  refine T_block ?_
  refine T_region ?_
  refine TL_q (.int .u32 2607071921) (fun _ _ hρ _ => r_move (hρ _ _ rfl)) rfl rfl rfl (w_n rfl) ?_
  refine TL_call (.int .u32 2685067896) (fun _ _ hρ _ => r_call (args := [.int .u32 2607071921, .int .u32 0]) (enters_of Try.func147 (by kernel_rfl) rfl) (hρ _ _ rfl) ((cons2 (hρ _ _ rfl) (cons2 (hρ _ _ rfl) rfl))) rfl) (fun w _ => (fed_c 2607071921#32 w).mono fun _ _ h => ⟨h.1.trans (congrArg Ending.returned (by kernel_rfl)), h.2⟩) rfl rfl rfl (w_n rfl) ?_
  refine TL_q (.int .u32 2685067896) (fun _ _ hρ _ => r_assign (hρ _ _ rfl)) rfl rfl rfl (w_n rfl) ?_
  refine TL_nil ?_
  refine p_blk_n ?_
  refine p_seq ?_
  refine T_region ?_
  refine TL_q (.int .i64 3) (fun _ _ hρ _ => r_as (r_add (hρ _ _ rfl) (hρ _ _ rfl)) (by rfl)) rfl rfl rfl (w_n rfl) ?_
  refine TL_q (.int .i64 3) (fun _ _ hρ _ => r_move (hρ _ _ rfl)) rfl rfl rfl (w_n rfl) ?_
  refine TL_nil ?_
  refine p_round ?_
  refine TR_succ ?_
  refine T_seq (T_region ?_)
  refine TL_q (.bool true) (fun _ _ hρ _ => r_as (r_lss (hρ _ _ rfl) (hρ _ _ rfl)) (by rfl)) rfl rfl rfl (w_n rfl) ?_
  refine TL_seq ?_
  refine T_seq ?_
  refine T_cond_t rfl ?_
  refine T_skip' ?_
  refine p_seq ?_
  refine T_seq ?_
  refine T_block ?_
  refine T_region ?_
  refine TL_q (.int .u32 2685067896) (fun _ _ hρ _ => r_move (hρ _ _ rfl)) rfl rfl rfl (w_n rfl) ?_
  refine TL_call (.int .u32 1342533948) (fun _ _ hρ _ => r_call (args := [.int .u32 2685067896, .int .u32 0]) (enters_of Try.func147 (by kernel_rfl) rfl) (hρ _ _ rfl) ((cons2 (hρ _ _ rfl) (cons2 (hρ _ _ rfl) rfl))) rfl) (fun w _ => (fed_c 2685067896#32 w).mono fun _ _ h => ⟨h.1.trans (congrArg Ending.returned (by kernel_rfl)), h.2⟩) rfl rfl rfl (w_n rfl) ?_
  refine TL_q (.int .u32 1342533948) (fun _ _ hρ _ => r_assign (hρ _ _ rfl)) rfl rfl rfl (w_n rfl) ?_
  refine TL_nil ?_
  refine p_blk_n ?_
  refine p_seq ?_
  refine T_region ?_
  refine TL_q (.int .i64 4) (fun _ _ hρ _ => r_as (r_add (hρ _ _ rfl) (hρ _ _ rfl)) (by rfl)) rfl rfl rfl (w_n rfl) ?_
  refine TL_q (.int .i64 4) (fun _ _ hρ _ => r_move (hρ _ _ rfl)) rfl rfl rfl (w_n rfl) ?_
  refine TL_nil ?_
  refine p_round ?_
  refine TR_succ ?_
  refine T_seq (T_region ?_)
  refine TL_q (.bool false) (fun _ _ hρ _ => r_as (r_lss (hρ _ _ rfl) (hρ _ _ rfl)) (by rfl)) rfl rfl rfl (w_n rfl) ?_
  refine TL_seq ?_
  refine T_seq ?_
  refine T_cond_f rfl ?_
  refine T_exit' ?_
  refine p_then_x ?_
  refine p_then_x ?_
  refine p_blk_x ?_
  refine p_seq ?_
  refine T_region ?_
  refine TL_q (.pointer (some ⟨B, 0, none⟩)) (fun _ _ hρ hm => r_load ag171 (hρ _ _ rfl) (hm.at 901 rfl) rfl) rfl rfl rfl (w_n rfl) ?_
  refine TL_q (.int .i64 7) (fun _ _ hρ _ => r_move (hρ _ _ rfl)) rfl rfl rfl (w_n rfl) ?_
  refine TL_q (.int .u32 1342533948) (fun _ _ hρ _ => r_move (hρ _ _ rfl)) rfl rfl rfl (w_n rfl) ?_
  refine TL_q (.pointer (some ⟨B, 0, none⟩)) (fun _ _ hρ _ => r_nilCheck (hρ _ _ rfl) rfl) rfl rfl rfl (w_n rfl) ?_
  refine TL_q (.pointer (some ⟨B, 3, none⟩)) (fun _ _ hρ _ => r_fieldAddr fl190_1 sz188 (hρ _ _ rfl)) rfl rfl rfl (w_n rfl) ?_
  refine TL_q (.pointer (some ⟨B, 10, none⟩)) (fun _ _ hρ _ => r_indexAddrA (i := 7) ar188 sz46 (hρ _ _ rfl) (hρ _ _ rfl) (by decide)) rfl rfl rfl (w_n rfl) ?_
  refine TL_store 900 (.cells #[.int .u32 0, .int .i32 1, .int .u32 0, .int .u32 0, .int .u32 498536548, .int .u32 997073096, .int .u32 651767980, .int .u32 1994146192, .int .u32 1802195444, .int .u32 1303535960, .int .u32 1342533948, .int .u32 0, .int .u32 0, .int .u32 0, .int .u32 0, .int .u32 0, .int .u32 0, .int .u32 0, .int .u32 0] 190) rfl (fun _ _ hρ hm => r_store sz46 (hρ _ _ rfl) (hρ _ _ rfl) (hm.at 900 rfl) rfl rfl rfl rfl) rfl rfl (w_n rfl) ?_
  refine TL_nil ?_
  refine p_blk_n ?_
  refine p_seq ?_
  refine T_region ?_
  refine TL_q (.int .i64 8) (fun _ _ hρ _ => r_as (r_add (hρ _ _ rfl) (hρ _ _ rfl)) (by rfl)) rfl rfl rfl (w_n rfl) ?_
  refine TL_q (.int .i64 8) (fun _ _ hρ _ => r_move (hρ _ _ rfl)) rfl rfl rfl (w_n rfl) ?_
  refine TL_nil ?_
  refine p_round ?_
  refine TR_succ ?_
  refine T_seq (T_region ?_)
  refine TL_q (.bool true) (fun _ _ hρ _ => r_as (r_lss (hρ _ _ rfl) (hρ _ _ rfl)) (by rfl)) rfl rfl rfl (w_n rfl) ?_
  refine TL_seq ?_
  refine T_seq ?_
  refine T_cond_t rfl ?_
  refine T_skip' ?_
  refine p_seq ?_
  refine T_seq ?_
  refine T_block ?_
  refine T_seq (T_region ?_)
  refine TL_q (.int .i64 8) (fun _ _ hρ _ => r_move (hρ _ _ rfl)) rfl rfl rfl (w_n rfl) ?_
  refine TL_q (.int .i64 8) (fun _ _ hρ _ => r_assign (hρ _ _ rfl)) rfl rfl rfl (w_n rfl) ?_
  refine TL_seq ?_
  refine T_seq (T_region ?_)
  refine TL_q (.int .i64 8) (fun _ _ hρ _ => r_move (hρ _ _ rfl)) rfl rfl rfl (w_n rfl) ?_
  refine TL_q (.int .u32 8) (fun _ _ hρ _ => r_as (r_conv un3 io46 (hρ _ _ rfl)) (by rfl)) rfl rfl rfl (w_n rfl) ?_
  refine TL_q (.int .u32 8) (fun _ _ hρ _ => r_assign (hρ _ _ rfl)) rfl rfl rfl (w_n rfl) ?_
  refine TL_seq ?_
  refine T_seq ?_
  refine T_seq (T_region ?_)
  refine TL_q (.int .i64 0) (fun _ _ hρ _ => r_move (hρ _ _ rfl)) rfl rfl rfl (w_n rfl) ?_
  refine TL_seq ?_
  refine T_block ?_
  refine T_rounds 5 ?_
  refine TR_succ ?_
  refine T_seq (T_region ?_)
  refine TL_q (.bool true) (fun _ _ hρ _ => r_as (r_lss (hρ _ _ rfl) (hρ _ _ rfl)) (by rfl)) rfl rfl rfl (w_n rfl) ?_
  refine TL_seq ?_
  refine T_seq ?_
  refine T_cond_t rfl ?_
  refine T_skip' ?_
  refine p_seq ?_
  refine T_seq ?_
  refine T_block ?_
  refine T_region ?_
  refine TL_q (.int .u32 8) (fun _ _ hρ _ => r_move (hρ _ _ rfl)) rfl rfl rfl (w_n rfl) ?_
  refine TL_call (.int .u32 4) (fun _ _ hρ _ => r_call (args := [.int .u32 8, .int .u32 0]) (enters_of Try.func147 (by kernel_rfl) rfl) (hρ _ _ rfl) ((cons2 (hρ _ _ rfl) (cons2 (hρ _ _ rfl) rfl))) rfl) (fun w _ => (fed_c 8#32 w).mono fun _ _ h => ⟨h.1.trans (congrArg Ending.returned (by kernel_rfl)), h.2⟩) rfl rfl rfl (w_n rfl) ?_
  refine TL_q (.int .u32 4) (fun _ _ hρ _ => r_assign (hρ _ _ rfl)) rfl rfl rfl (w_n rfl) ?_
  refine TL_nil ?_
  refine p_blk_n ?_
  refine p_seq ?_
  refine T_region ?_
  refine TL_q (.int .i64 1) (fun _ _ hρ _ => r_as (r_add (hρ _ _ rfl) (hρ _ _ rfl)) (by rfl)) rfl rfl rfl (w_n rfl) ?_
  refine TL_q (.int .i64 1) (fun _ _ hρ _ => r_move (hρ _ _ rfl)) rfl rfl rfl (w_n rfl) ?_
  refine TL_nil ?_
  refine p_round ?_
  refine TR_succ ?_
  refine T_seq (T_region ?_)
  refine TL_q (.bool true) (fun _ _ hρ _ => r_as (r_lss (hρ _ _ rfl) (hρ _ _ rfl)) (by rfl)) rfl rfl rfl (w_n rfl) ?_
  refine TL_seq ?_
  refine T_seq ?_
  refine T_cond_t rfl ?_
  refine T_skip' ?_
  refine p_seq ?_
  refine T_seq ?_
  refine T_block ?_
  refine T_region ?_
  refine TL_q (.int .u32 4) (fun _ _ hρ _ => r_move (hρ _ _ rfl)) rfl rfl rfl (w_n rfl) ?_
  refine TL_call (.int .u32 2) (fun _ _ hρ _ => r_call (args := [.int .u32 4, .int .u32 0]) (enters_of Try.func147 (by kernel_rfl) rfl) (hρ _ _ rfl) ((cons2 (hρ _ _ rfl) (cons2 (hρ _ _ rfl) rfl))) rfl) (fun w _ => (fed_c 4#32 w).mono fun _ _ h => ⟨h.1.trans (congrArg Ending.returned (by kernel_rfl)), h.2⟩) rfl rfl rfl (w_n rfl) ?_
  refine TL_q (.int .u32 2) (fun _ _ hρ _ => r_assign (hρ _ _ rfl)) rfl rfl rfl (w_n rfl) ?_
  refine TL_nil ?_
  refine p_blk_n ?_
  refine p_seq ?_
  refine T_region ?_
  refine TL_q (.int .i64 2) (fun _ _ hρ _ => r_as (r_add (hρ _ _ rfl) (hρ _ _ rfl)) (by rfl)) rfl rfl rfl (w_n rfl) ?_
  refine TL_q (.int .i64 2) (fun _ _ hρ _ => r_move (hρ _ _ rfl)) rfl rfl rfl (w_n rfl) ?_
  refine TL_nil ?_
  refine p_round ?_
  refine TR_succ ?_
  refine T_seq (T_region ?_)
  refine TL_q (.bool true) (fun _ _ hρ _ => r_as (r_lss (hρ _ _ rfl) (hρ _ _ rfl)) (by rfl)) rfl rfl rfl (w_n rfl) ?_
  refine TL_seq ?_
  refine T_seq ?_
  refine T_cond_t rfl ?_
  refine T_skip' ?_
  refine p_seq ?_
  refine T_seq ?_
  refine T_block ?_
  refine T_region ?_
  refine TL_q (.int .u32 2) (fun _ _ hρ _ => r_move (hρ _ _ rfl)) rfl rfl rfl (w_n rfl) ?_
  refine TL_call (.int .u32 1) (fun _ _ hρ _ => r_call (args := [.int .u32 2, .int .u32 0]) (enters_of Try.func147 (by kernel_rfl) rfl) (hρ _ _ rfl) ((cons2 (hρ _ _ rfl) (cons2 (hρ _ _ rfl) rfl))) rfl) (fun w _ => (fed_c 2#32 w).mono fun _ _ h => ⟨h.1.trans (congrArg Ending.returned (by kernel_rfl)), h.2⟩) rfl rfl rfl (w_n rfl) ?_
  refine TL_q (.int .u32 1) (fun _ _ hρ _ => r_assign (hρ _ _ rfl)) rfl rfl rfl (w_n rfl) ?_
  refine TL_nil ?_
  refine p_blk_n ?_
  refine p_seq ?_
  refine T_region ?_
  refine TL_q (.int .i64 3) (fun _ _ hρ _ => r_as (r_add (hρ _ _ rfl) (hρ _ _ rfl)) (by rfl)) rfl rfl rfl (w_n rfl) ?_
  refine TL_q (.int .i64 3) (fun _ _ hρ _ => r_move (hρ _ _ rfl)) rfl rfl rfl (w_n rfl) ?_
  refine TL_nil ?_
  refine p_round ?_
  refine TR_succ ?_
  refine T_seq (T_region ?_)
  refine TL_q (.bool true) (fun _ _ hρ _ => r_as (r_lss (hρ _ _ rfl) (hρ _ _ rfl)) (by rfl)) rfl rfl rfl (w_n rfl) ?_
  refine TL_seq ?_
  refine T_seq ?_
  refine T_cond_t rfl ?_
  refine T_skip' ?_
  refine p_seq ?_
  refine T_seq ?_
  refine T_block ?_
  refine T_region ?_
  refine TL_q (.int .u32 1) (fun _ _ hρ _ => r_move (hρ _ _ rfl)) rfl rfl rfl (w_n rfl) ?_
  refine TL_call (.int .u32 3988292384) (fun _ _ hρ _ => r_call (args := [.int .u32 1, .int .u32 0]) (enters_of Try.func147 (by kernel_rfl) rfl) (hρ _ _ rfl) ((cons2 (hρ _ _ rfl) (cons2 (hρ _ _ rfl) rfl))) rfl) (fun w _ => (fed_c 1#32 w).mono fun _ _ h => ⟨h.1.trans (congrArg Ending.returned (by kernel_rfl)), h.2⟩) rfl rfl rfl (w_n rfl) ?_
  refine TL_q (.int .u32 3988292384) (fun _ _ hρ _ => r_assign (hρ _ _ rfl)) rfl rfl rfl (w_n rfl) ?_
  refine TL_nil ?_
  refine p_blk_n ?_
  refine p_seq ?_
  refine T_region ?_
  refine TL_q (.int .i64 4) (fun _ _ hρ _ => r_as (r_add (hρ _ _ rfl) (hρ _ _ rfl)) (by rfl)) rfl rfl rfl (w_n rfl) ?_
  refine TL_q (.int .i64 4) (fun _ _ hρ _ => r_move (hρ _ _ rfl)) rfl rfl rfl (w_n rfl) ?_
  refine TL_nil ?_
  refine p_round ?_
  refine TR_succ ?_
  refine T_seq (T_region ?_)
  refine TL_q (.bool false) (fun _ _ hρ _ => r_as (r_lss (hρ _ _ rfl) (hρ _ _ rfl)) (by rfl)) rfl rfl rfl (w_n rfl) ?_
  refine TL_seq ?_
  refine T_seq ?_
  refine T_cond_f rfl ?_
  refine T_exit' ?_
  refine p_then_x ?_
  refine p_then_x ?_
  refine p_blk_x ?_
  refine p_seq ?_
  refine T_region ?_
  refine TL_q (.pointer (some ⟨B, 0, none⟩)) (fun _ _ hρ hm => r_load ag171 (hρ _ _ rfl) (hm.at 901 rfl) rfl) rfl rfl rfl (w_n rfl) ?_
  refine TL_q (.int .i64 8) (fun _ _ hρ _ => r_move (hρ _ _ rfl)) rfl rfl rfl (w_n rfl) ?_
  refine TL_q (.int .u32 3988292384) (fun _ _ hρ _ => r_move (hρ _ _ rfl)) rfl rfl rfl (w_n rfl) ?_
  refine TL_q (.pointer (some ⟨B, 0, none⟩)) (fun _ _ hρ _ => r_nilCheck (hρ _ _ rfl) rfl) rfl rfl rfl (w_n rfl) ?_
  refine TL_q (.pointer (some ⟨B, 3, none⟩)) (fun _ _ hρ _ => r_fieldAddr fl190_1 sz188 (hρ _ _ rfl)) rfl rfl rfl (w_n rfl) ?_
  refine TL_q (.pointer (some ⟨B, 11, none⟩)) (fun _ _ hρ _ => r_indexAddrA (i := 8) ar188 sz46 (hρ _ _ rfl) (hρ _ _ rfl) (by decide)) rfl rfl rfl (w_n rfl) ?_
  refine TL_store 900 (.cells #[.int .u32 0, .int .i32 1, .int .u32 0, .int .u32 0, .int .u32 498536548, .int .u32 997073096, .int .u32 651767980, .int .u32 1994146192, .int .u32 1802195444, .int .u32 1303535960, .int .u32 1342533948, .int .u32 3988292384, .int .u32 0, .int .u32 0, .int .u32 0, .int .u32 0, .int .u32 0, .int .u32 0, .int .u32 0] 190) rfl (fun _ _ hρ hm => r_store sz46 (hρ _ _ rfl) (hρ _ _ rfl) (hm.at 900 rfl) rfl rfl rfl rfl) rfl rfl (w_n rfl) ?_
  refine TL_nil ?_
  refine p_blk_n ?_
  refine p_seq ?_
  refine T_region ?_
  refine TL_q (.int .i64 9) (fun _ _ hρ _ => r_as (r_add (hρ _ _ rfl) (hρ _ _ rfl)) (by rfl)) rfl rfl rfl (w_n rfl) ?_
  refine TL_q (.int .i64 9) (fun _ _ hρ _ => r_move (hρ _ _ rfl)) rfl rfl rfl (w_n rfl) ?_
  refine TL_nil ?_
  refine p_round ?_
  refine TR_succ ?_
  refine T_seq (T_region ?_)
  refine TL_q (.bool true) (fun _ _ hρ _ => r_as (r_lss (hρ _ _ rfl) (hρ _ _ rfl)) (by rfl)) rfl rfl rfl (w_n rfl) ?_
  refine TL_seq ?_
  refine T_seq ?_
  refine T_cond_t rfl ?_
  refine T_skip' ?_
  refine p_seq ?_
  refine T_seq ?_
  refine T_block ?_
  refine T_seq (T_region ?_)
  refine TL_q (.int .i64 9) (fun _ _ hρ _ => r_move (hρ _ _ rfl)) rfl rfl rfl (w_n rfl) ?_
  refine TL_q (.int .i64 9) (fun _ _ hρ _ => r_assign (hρ _ _ rfl)) rfl rfl rfl (w_n rfl) ?_
  refine TL_seq ?_
  refine T_seq (T_region ?_)
  refine TL_q (.int .i64 9) (fun _ _ hρ _ => r_move (hρ _ _ rfl)) rfl rfl rfl (w_n rfl) ?_
  refine TL_q (.int .u32 9) (fun _ _ hρ _ => r_as (r_conv un3 io46 (hρ _ _ rfl)) (by rfl)) rfl rfl rfl (w_n rfl) ?_
  refine TL_q (.int .u32 9) (fun _ _ hρ _ => r_assign (hρ _ _ rfl)) rfl rfl rfl (w_n rfl) ?_
  refine TL_seq ?_
  refine T_seq ?_
  refine T_seq (T_region ?_)
  refine TL_q (.int .i64 0) (fun _ _ hρ _ => r_move (hρ _ _ rfl)) rfl rfl rfl (w_n rfl) ?_
  refine TL_seq ?_
  refine T_block ?_
  refine T_rounds 5 ?_
  refine TR_succ ?_
  refine T_seq (T_region ?_)
  refine TL_q (.bool true) (fun _ _ hρ _ => r_as (r_lss (hρ _ _ rfl) (hρ _ _ rfl)) (by rfl)) rfl rfl rfl (w_n rfl) ?_
  refine TL_seq ?_
  refine T_seq ?_
  refine T_cond_t rfl ?_
  refine T_skip' ?_
  refine p_seq ?_
  refine T_seq ?_
  refine T_block ?_
  refine T_region ?_
  refine TL_q (.int .u32 9) (fun _ _ hρ _ => r_move (hρ _ _ rfl)) rfl rfl rfl (w_n rfl) ?_
  refine TL_call (.int .u32 3988292388) (fun _ _ hρ _ => r_call (args := [.int .u32 9, .int .u32 0]) (enters_of Try.func147 (by kernel_rfl) rfl) (hρ _ _ rfl) ((cons2 (hρ _ _ rfl) (cons2 (hρ _ _ rfl) rfl))) rfl) (fun w _ => (fed_c 9#32 w).mono fun _ _ h => ⟨h.1.trans (congrArg Ending.returned (by kernel_rfl)), h.2⟩) rfl rfl rfl (w_n rfl) ?_
  refine TL_q (.int .u32 3988292388) (fun _ _ hρ _ => r_assign (hρ _ _ rfl)) rfl rfl rfl (w_n rfl) ?_
  refine TL_nil ?_
  refine p_blk_n ?_
  refine p_seq ?_
  refine T_region ?_
  refine TL_q (.int .i64 1) (fun _ _ hρ _ => r_as (r_add (hρ _ _ rfl) (hρ _ _ rfl)) (by rfl)) rfl rfl rfl (w_n rfl) ?_
  refine TL_q (.int .i64 1) (fun _ _ hρ _ => r_move (hρ _ _ rfl)) rfl rfl rfl (w_n rfl) ?_
  refine TL_nil ?_
  refine p_round ?_
  refine TR_succ ?_
  refine T_seq (T_region ?_)
  refine TL_q (.bool true) (fun _ _ hρ _ => r_as (r_lss (hρ _ _ rfl) (hρ _ _ rfl)) (by rfl)) rfl rfl rfl (w_n rfl) ?_
  refine TL_seq ?_
  refine T_seq ?_
  refine T_cond_t rfl ?_
  refine T_skip' ?_
  refine p_seq ?_
  refine T_seq ?_
  refine T_block ?_
  refine T_region ?_
  refine TL_q (.int .u32 3988292388) (fun _ _ hρ _ => r_move (hρ _ _ rfl)) rfl rfl rfl (w_n rfl) ?_
  refine TL_call (.int .u32 1994146194) (fun _ _ hρ _ => r_call (args := [.int .u32 3988292388, .int .u32 0]) (enters_of Try.func147 (by kernel_rfl) rfl) (hρ _ _ rfl) ((cons2 (hρ _ _ rfl) (cons2 (hρ _ _ rfl) rfl))) rfl) (fun w _ => (fed_c 3988292388#32 w).mono fun _ _ h => ⟨h.1.trans (congrArg Ending.returned (by kernel_rfl)), h.2⟩) rfl rfl rfl (w_n rfl) ?_
  refine TL_q (.int .u32 1994146194) (fun _ _ hρ _ => r_assign (hρ _ _ rfl)) rfl rfl rfl (w_n rfl) ?_
  refine TL_nil ?_
  refine p_blk_n ?_
  refine p_seq ?_
  refine T_region ?_
  refine TL_q (.int .i64 2) (fun _ _ hρ _ => r_as (r_add (hρ _ _ rfl) (hρ _ _ rfl)) (by rfl)) rfl rfl rfl (w_n rfl) ?_
  refine TL_q (.int .i64 2) (fun _ _ hρ _ => r_move (hρ _ _ rfl)) rfl rfl rfl (w_n rfl) ?_
  refine TL_nil ?_
  refine p_round ?_
  refine TR_succ ?_
  refine T_seq (T_region ?_)
  refine TL_q (.bool true) (fun _ _ hρ _ => r_as (r_lss (hρ _ _ rfl) (hρ _ _ rfl)) (by rfl)) rfl rfl rfl (w_n rfl) ?_
  refine TL_seq ?_
  refine T_seq ?_
  refine T_cond_t rfl ?_
  refine T_skip' ?_
  refine p_seq ?_
  refine T_seq ?_
  refine T_block ?_
  refine T_region ?_
  refine TL_q (.int .u32 1994146194) (fun _ _ hρ _ => r_move (hρ _ _ rfl)) rfl rfl rfl (w_n rfl) ?_
  refine TL_call (.int .u32 997073097) (fun _ _ hρ _ => r_call (args := [.int .u32 1994146194, .int .u32 0]) (enters_of Try.func147 (by kernel_rfl) rfl) (hρ _ _ rfl) ((cons2 (hρ _ _ rfl) (cons2 (hρ _ _ rfl) rfl))) rfl) (fun w _ => (fed_c 1994146194#32 w).mono fun _ _ h => ⟨h.1.trans (congrArg Ending.returned (by kernel_rfl)), h.2⟩) rfl rfl rfl (w_n rfl) ?_
  refine TL_q (.int .u32 997073097) (fun _ _ hρ _ => r_assign (hρ _ _ rfl)) rfl rfl rfl (w_n rfl) ?_
  refine TL_nil ?_
  refine p_blk_n ?_
  refine p_seq ?_
  refine T_region ?_
  refine TL_q (.int .i64 3) (fun _ _ hρ _ => r_as (r_add (hρ _ _ rfl) (hρ _ _ rfl)) (by rfl)) rfl rfl rfl (w_n rfl) ?_
  refine TL_q (.int .i64 3) (fun _ _ hρ _ => r_move (hρ _ _ rfl)) rfl rfl rfl (w_n rfl) ?_
  refine TL_nil ?_
  refine p_round ?_
  refine TR_succ ?_
  refine T_seq (T_region ?_)
  refine TL_q (.bool true) (fun _ _ hρ _ => r_as (r_lss (hρ _ _ rfl) (hρ _ _ rfl)) (by rfl)) rfl rfl rfl (w_n rfl) ?_
  refine TL_seq ?_
  refine T_seq ?_
  refine T_cond_t rfl ?_
  refine T_skip' ?_
  refine p_seq ?_
  refine T_seq ?_
  refine T_block ?_
  refine T_region ?_
  refine TL_q (.int .u32 997073097) (fun _ _ hρ _ => r_move (hρ _ _ rfl)) rfl rfl rfl (w_n rfl) ?_
  refine TL_call (.int .u32 4027552580) (fun _ _ hρ _ => r_call (args := [.int .u32 997073097, .int .u32 0]) (enters_of Try.func147 (by kernel_rfl) rfl) (hρ _ _ rfl) ((cons2 (hρ _ _ rfl) (cons2 (hρ _ _ rfl) rfl))) rfl) (fun w _ => (fed_c 997073097#32 w).mono fun _ _ h => ⟨h.1.trans (congrArg Ending.returned (by kernel_rfl)), h.2⟩) rfl rfl rfl (w_n rfl) ?_
  refine TL_q (.int .u32 4027552580) (fun _ _ hρ _ => r_assign (hρ _ _ rfl)) rfl rfl rfl (w_n rfl) ?_
  refine TL_nil ?_
  refine p_blk_n ?_
  refine p_seq ?_
  refine T_region ?_
  refine TL_q (.int .i64 4) (fun _ _ hρ _ => r_as (r_add (hρ _ _ rfl) (hρ _ _ rfl)) (by rfl)) rfl rfl rfl (w_n rfl) ?_
  refine TL_q (.int .i64 4) (fun _ _ hρ _ => r_move (hρ _ _ rfl)) rfl rfl rfl (w_n rfl) ?_
  refine TL_nil ?_
  refine p_round ?_
  refine TR_succ ?_
  refine T_seq (T_region ?_)
  refine TL_q (.bool false) (fun _ _ hρ _ => r_as (r_lss (hρ _ _ rfl) (hρ _ _ rfl)) (by rfl)) rfl rfl rfl (w_n rfl) ?_
  refine TL_seq ?_
  refine T_seq ?_
  refine T_cond_f rfl ?_
  refine T_exit' ?_
  refine p_then_x ?_
  refine p_then_x ?_
  refine p_blk_x ?_
  refine p_seq ?_
  refine T_region ?_
  refine TL_q (.pointer (some ⟨B, 0, none⟩)) (fun _ _ hρ hm => r_load ag171 (hρ _ _ rfl) (hm.at 901 rfl) rfl) rfl rfl rfl (w_n rfl) ?_
  refine TL_q (.int .i64 9) (fun _ _ hρ _ => r_move (hρ _ _ rfl)) rfl rfl rfl (w_n rfl) ?_
  refine TL_q (.int .u32 4027552580) (fun _ _ hρ _ => r_move (hρ _ _ rfl)) rfl rfl rfl (w_n rfl) ?_
  refine TL_q (.pointer (some ⟨B, 0, none⟩)) (fun _ _ hρ _ => r_nilCheck (hρ _ _ rfl) rfl) rfl rfl rfl (w_n rfl) ?_
  refine TL_q (.pointer (some ⟨B, 3, none⟩)) (fun _ _ hρ _ => r_fieldAddr fl190_1 sz188 (hρ _ _ rfl)) rfl rfl rfl (w_n rfl) ?_
  refine TL_q (.pointer (some ⟨B, 12, none⟩)) (fun _ _ hρ _ => r_indexAddrA (i := 9) ar188 sz46 (hρ _ _ rfl) (hρ _ _ rfl) (by decide)) rfl rfl rfl (w_n rfl) ?_
  refine TL_store 900 (.cells #[.int .u32 0, .int .i32 1, .int .u32 0, .int .u32 0, .int .u32 498536548, .int .u32 997073096, .int .u32 651767980, .int .u32 1994146192, .int .u32 1802195444, .int .u32 1303535960, .int .u32 1342533948, .int .u32 3988292384, .int .u32 4027552580, .int .u32 0, .int .u32 0, .int .u32 0, .int .u32 0, .int .u32 0, .int .u32 0] 190) rfl (fun _ _ hρ hm => r_store sz46 (hρ _ _ rfl) (hρ _ _ rfl) (hm.at 900 rfl) rfl rfl rfl rfl) rfl rfl (w_n rfl) ?_
  refine TL_nil ?_
  refine p_blk_n ?_
  refine p_seq ?_
  refine T_region ?_
  refine TL_q (.int .i64 10) (fun _ _ hρ _ => r_as (r_add (hρ _ _ rfl) (hρ _ _ rfl)) (by rfl)) rfl rfl rfl (w_n rfl) ?_
  refine TL_q (.int .i64 10) (fun _ _ hρ _ => r_move (hρ _ _ rfl)) rfl rfl rfl (w_n rfl) ?_
  refine TL_nil ?_
  refine p_round ?_
  refine TR_succ ?_
  refine T_seq (T_region ?_)
  refine TL_q (.bool true) (fun _ _ hρ _ => r_as (r_lss (hρ _ _ rfl) (hρ _ _ rfl)) (by rfl)) rfl rfl rfl (w_n rfl) ?_
  refine TL_seq ?_
  refine T_seq ?_
  refine T_cond_t rfl ?_
  refine T_skip' ?_
  refine p_seq ?_
  refine T_seq ?_
  refine T_block ?_
  refine T_seq (T_region ?_)
  refine TL_q (.int .i64 10) (fun _ _ hρ _ => r_move (hρ _ _ rfl)) rfl rfl rfl (w_n rfl) ?_
  refine TL_q (.int .i64 10) (fun _ _ hρ _ => r_assign (hρ _ _ rfl)) rfl rfl rfl (w_n rfl) ?_
  refine TL_seq ?_
  refine T_seq (T_region ?_)
  refine TL_q (.int .i64 10) (fun _ _ hρ _ => r_move (hρ _ _ rfl)) rfl rfl rfl (w_n rfl) ?_
  refine TL_q (.int .u32 10) (fun _ _ hρ _ => r_as (r_conv un3 io46 (hρ _ _ rfl)) (by rfl)) rfl rfl rfl (w_n rfl) ?_
  refine TL_q (.int .u32 10) (fun _ _ hρ _ => r_assign (hρ _ _ rfl)) rfl rfl rfl (w_n rfl) ?_
  refine TL_seq ?_
  refine T_seq ?_
  refine T_seq (T_region ?_)
  refine TL_q (.int .i64 0) (fun _ _ hρ _ => r_move (hρ _ _ rfl)) rfl rfl rfl (w_n rfl) ?_
  refine TL_seq ?_
  refine T_block ?_
  refine T_rounds 5 ?_
  refine TR_succ ?_
  refine T_seq (T_region ?_)
  refine TL_q (.bool true) (fun _ _ hρ _ => r_as (r_lss (hρ _ _ rfl) (hρ _ _ rfl)) (by rfl)) rfl rfl rfl (w_n rfl) ?_
  refine TL_seq ?_
  refine T_seq ?_
  refine T_cond_t rfl ?_
  refine T_skip' ?_
  refine p_seq ?_
  refine T_seq ?_
  refine T_block ?_
  refine T_region ?_
  refine TL_q (.int .u32 10) (fun _ _ hρ _ => r_move (hρ _ _ rfl)) rfl rfl rfl (w_n rfl) ?_
  refine TL_call (.int .u32 5) (fun _ _ hρ _ => r_call (args := [.int .u32 10, .int .u32 0]) (enters_of Try.func147 (by kernel_rfl) rfl) (hρ _ _ rfl) ((cons2 (hρ _ _ rfl) (cons2 (hρ _ _ rfl) rfl))) rfl) (fun w _ => (fed_c 10#32 w).mono fun _ _ h => ⟨h.1.trans (congrArg Ending.returned (by kernel_rfl)), h.2⟩) rfl rfl rfl (w_n rfl) ?_
  refine TL_q (.int .u32 5) (fun _ _ hρ _ => r_assign (hρ _ _ rfl)) rfl rfl rfl (w_n rfl) ?_
  refine TL_nil ?_
  refine p_blk_n ?_
  refine p_seq ?_
  refine T_region ?_
  refine TL_q (.int .i64 1) (fun _ _ hρ _ => r_as (r_add (hρ _ _ rfl) (hρ _ _ rfl)) (by rfl)) rfl rfl rfl (w_n rfl) ?_
  refine TL_q (.int .i64 1) (fun _ _ hρ _ => r_move (hρ _ _ rfl)) rfl rfl rfl (w_n rfl) ?_
  refine TL_nil ?_
  refine p_round ?_
  refine TR_succ ?_
  refine T_seq (T_region ?_)
  refine TL_q (.bool true) (fun _ _ hρ _ => r_as (r_lss (hρ _ _ rfl) (hρ _ _ rfl)) (by rfl)) rfl rfl rfl (w_n rfl) ?_
  refine TL_seq ?_
  refine T_seq ?_
  refine T_cond_t rfl ?_
  refine T_skip' ?_
  refine p_seq ?_
  refine T_seq ?_
  refine T_block ?_
  refine T_region ?_
  refine TL_q (.int .u32 5) (fun _ _ hρ _ => r_move (hρ _ _ rfl)) rfl rfl rfl (w_n rfl) ?_
  refine TL_call (.int .u32 3988292386) (fun _ _ hρ _ => r_call (args := [.int .u32 5, .int .u32 0]) (enters_of Try.func147 (by kernel_rfl) rfl) (hρ _ _ rfl) ((cons2 (hρ _ _ rfl) (cons2 (hρ _ _ rfl) rfl))) rfl) (fun w _ => (fed_c 5#32 w).mono fun _ _ h => ⟨h.1.trans (congrArg Ending.returned (by kernel_rfl)), h.2⟩) rfl rfl rfl (w_n rfl) ?_
  refine TL_q (.int .u32 3988292386) (fun _ _ hρ _ => r_assign (hρ _ _ rfl)) rfl rfl rfl (w_n rfl) ?_
  refine TL_nil ?_
  refine p_blk_n ?_
  refine p_seq ?_
  refine T_region ?_
  refine TL_q (.int .i64 2) (fun _ _ hρ _ => r_as (r_add (hρ _ _ rfl) (hρ _ _ rfl)) (by rfl)) rfl rfl rfl (w_n rfl) ?_
  refine TL_q (.int .i64 2) (fun _ _ hρ _ => r_move (hρ _ _ rfl)) rfl rfl rfl (w_n rfl) ?_
  refine TL_nil ?_
  refine p_round ?_
  refine TR_succ ?_
  refine T_seq (T_region ?_)
  refine TL_q (.bool true) (fun _ _ hρ _ => r_as (r_lss (hρ _ _ rfl) (hρ _ _ rfl)) (by rfl)) rfl rfl rfl (w_n rfl) ?_
  refine TL_seq ?_
  refine T_seq ?_
  refine T_cond_t rfl ?_
  refine T_skip' ?_
  refine p_seq ?_
  refine T_seq ?_
  refine T_block ?_
  refine T_region ?_
  refine TL_q (.int .u32 3988292386) (fun _ _ hρ _ => r_move (hρ _ _ rfl)) rfl rfl rfl (w_n rfl) ?_
  refine TL_call (.int .u32 1994146193) (fun _ _ hρ _ => r_call (args := [.int .u32 3988292386, .int .u32 0]) (enters_of Try.func147 (by kernel_rfl) rfl) (hρ _ _ rfl) ((cons2 (hρ _ _ rfl) (cons2 (hρ _ _ rfl) rfl))) rfl) (fun w _ => (fed_c 3988292386#32 w).mono fun _ _ h => ⟨h.1.trans (congrArg Ending.returned (by kernel_rfl)), h.2⟩) rfl rfl rfl (w_n rfl) ?_
  refine TL_q (.int .u32 1994146193) (fun _ _ hρ _ => r_assign (hρ _ _ rfl)) rfl rfl rfl (w_n rfl) ?_
  refine TL_nil ?_
  refine p_blk_n ?_
  refine p_seq ?_
  refine T_region ?_
  refine TL_q (.int .i64 3) (fun _ _ hρ _ => r_as (r_add (hρ _ _ rfl) (hρ _ _ rfl)) (by rfl)) rfl rfl rfl (w_n rfl) ?_
  refine TL_q (.int .i64 3) (fun _ _ hρ _ => r_move (hρ _ _ rfl)) rfl rfl rfl (w_n rfl) ?_
  refine TL_nil ?_
  refine p_round ?_
  refine TR_succ ?_
  refine T_seq (T_region ?_)
  refine TL_q (.bool true) (fun _ _ hρ _ => r_as (r_lss (hρ _ _ rfl) (hρ _ _ rfl)) (by rfl)) rfl rfl rfl (w_n rfl) ?_
  refine TL_seq ?_
  refine T_seq ?_
  refine T_cond_t rfl ?_
  refine T_skip' ?_
  refine p_seq ?_
  refine T_seq ?_
  refine T_block ?_
  refine T_region ?_
  refine TL_q (.int .u32 1994146193) (fun _ _ hρ _ => r_move (hρ _ _ rfl)) rfl rfl rfl (w_n rfl) ?_
  refine TL_call (.int .u32 3604390888) (fun _ _ hρ _ => r_call (args := [.int .u32 1994146193, .int .u32 0]) (enters_of Try.func147 (by kernel_rfl) rfl) (hρ _ _ rfl) ((cons2 (hρ _ _ rfl) (cons2 (hρ _ _ rfl) rfl))) rfl) (fun w _ => (fed_c 1994146193#32 w).mono fun _ _ h => ⟨h.1.trans (congrArg Ending.returned (by kernel_rfl)), h.2⟩) rfl rfl rfl (w_n rfl) ?_
  refine TL_q (.int .u32 3604390888) (fun _ _ hρ _ => r_assign (hρ _ _ rfl)) rfl rfl rfl (w_n rfl) ?_
  refine TL_nil ?_
  refine p_blk_n ?_
  refine p_seq ?_
  refine T_region ?_
  refine TL_q (.int .i64 4) (fun _ _ hρ _ => r_as (r_add (hρ _ _ rfl) (hρ _ _ rfl)) (by rfl)) rfl rfl rfl (w_n rfl) ?_
  refine TL_q (.int .i64 4) (fun _ _ hρ _ => r_move (hρ _ _ rfl)) rfl rfl rfl (w_n rfl) ?_
  refine TL_nil ?_
  refine p_round ?_
  refine TR_succ ?_
  refine T_seq (T_region ?_)
  refine TL_q (.bool false) (fun _ _ hρ _ => r_as (r_lss (hρ _ _ rfl) (hρ _ _ rfl)) (by rfl)) rfl rfl rfl (w_n rfl) ?_
  refine TL_seq ?_
  refine T_seq ?_
  refine T_cond_f rfl ?_
  refine T_exit' ?_
  refine p_then_x ?_
  refine p_then_x ?_
  refine p_blk_x ?_
  refine p_seq ?_
  refine T_region ?_
  refine TL_q (.pointer (some ⟨B, 0, none⟩)) (fun _ _ hρ hm => r_load ag171 (hρ _ _ rfl) (hm.at 901 rfl) rfl) rfl rfl rfl (w_n rfl) ?_
  refine TL_q (.int .i64 10) (fun _ _ hρ _ => r_move (hρ _ _ rfl)) rfl rfl rfl (w_n rfl) ?_
  refine TL_q (.int .u32 3604390888) (fun _ _ hρ _ => r_move (hρ _ _ rfl)) rfl rfl rfl (w_n rfl) ?_
  refine TL_q (.pointer (some ⟨B, 0, none⟩)) (fun _ _ hρ _ => r_nilCheck (hρ _ _ rfl) rfl) rfl rfl rfl (w_n rfl) ?_
  refine TL_q (.pointer (some ⟨B, 3, none⟩)) (fun _ _ hρ _ => r_fieldAddr fl190_1 sz188 (hρ _ _ rfl)) rfl rfl rfl (w_n rfl) ?_
  refine TL_q (.pointer (some ⟨B, 13, none⟩)) (fun _ _ hρ _ => r_indexAddrA (i := 10) ar188 sz46 (hρ _ _ rfl) (hρ _ _ rfl) (by decide)) rfl rfl rfl (w_n rfl) ?_
  refine TL_store 900 (.cells #[.int .u32 0, .int .i32 1, .int .u32 0, .int .u32 0, .int .u32 498536548, .int .u32 997073096, .int .u32 651767980, .int .u32 1994146192, .int .u32 1802195444, .int .u32 1303535960, .int .u32 1342533948, .int .u32 3988292384, .int .u32 4027552580, .int .u32 3604390888, .int .u32 0, .int .u32 0, .int .u32 0, .int .u32 0, .int .u32 0] 190) rfl (fun _ _ hρ hm => r_store sz46 (hρ _ _ rfl) (hρ _ _ rfl) (hm.at 900 rfl) rfl rfl rfl rfl) rfl rfl (w_n rfl) ?_
  refine TL_nil ?_
  refine p_blk_n ?_
  refine p_seq ?_
  refine T_region ?_
  refine TL_q (.int .i64 11) (fun _ _ hρ _ => r_as (r_add (hρ _ _ rfl) (hρ _ _ rfl)) (by rfl)) rfl rfl rfl (w_n rfl) ?_
  refine TL_q (.int .i64 11) (fun _ _ hρ _ => r_move (hρ _ _ rfl)) rfl rfl rfl (w_n rfl) ?_
  refine TL_nil ?_
  refine p_round ?_
  refine TR_succ ?_
  refine T_seq (T_region ?_)
  refine TL_q (.bool true) (fun _ _ hρ _ => r_as (r_lss (hρ _ _ rfl) (hρ _ _ rfl)) (by rfl)) rfl rfl rfl (w_n rfl) ?_
  refine TL_seq ?_
  refine T_seq ?_
  refine T_cond_t rfl ?_
  refine T_skip' ?_
  refine p_seq ?_
  refine T_seq ?_
  refine T_block ?_
  refine T_seq (T_region ?_)
  refine TL_q (.int .i64 11) (fun _ _ hρ _ => r_move (hρ _ _ rfl)) rfl rfl rfl (w_n rfl) ?_
  refine TL_q (.int .i64 11) (fun _ _ hρ _ => r_assign (hρ _ _ rfl)) rfl rfl rfl (w_n rfl) ?_
  refine TL_seq ?_
  refine T_seq (T_region ?_)
  refine TL_q (.int .i64 11) (fun _ _ hρ _ => r_move (hρ _ _ rfl)) rfl rfl rfl (w_n rfl) ?_
  refine TL_q (.int .u32 11) (fun _ _ hρ _ => r_as (r_conv un3 io46 (hρ _ _ rfl)) (by rfl)) rfl rfl rfl (w_n rfl) ?_
  refine TL_q (.int .u32 11) (fun _ _ hρ _ => r_assign (hρ _ _ rfl)) rfl rfl rfl (w_n rfl) ?_
  refine TL_seq ?_
  refine T_seq ?_
  refine T_seq (T_region ?_)
  refine TL_q (.int .i64 0) (fun _ _ hρ _ => r_move (hρ _ _ rfl)) rfl rfl rfl (w_n rfl) ?_
  refine TL_seq ?_
  refine T_block ?_
  refine T_rounds 5 ?_
  refine TR_succ ?_
  refine T_seq (T_region ?_)
  refine TL_q (.bool true) (fun _ _ hρ _ => r_as (r_lss (hρ _ _ rfl) (hρ _ _ rfl)) (by rfl)) rfl rfl rfl (w_n rfl) ?_
  refine TL_seq ?_
  refine T_seq ?_
  refine T_cond_t rfl ?_
  refine T_skip' ?_
  refine p_seq ?_
  refine T_seq ?_
  refine T_block ?_
  refine T_region ?_
  refine TL_q (.int .u32 11) (fun _ _ hρ _ => r_move (hρ _ _ rfl)) rfl rfl rfl (w_n rfl) ?_
  refine TL_call (.int .u32 3988292389) (fun _ _ hρ _ => r_call (args := [.int .u32 11, .int .u32 0]) (enters_of Try.func147 (by kernel_rfl) rfl) (hρ _ _ rfl) ((cons2 (hρ _ _ rfl) (cons2 (hρ _ _ rfl) rfl))) rfl) (fun w _ => (fed_c 11#32 w).mono fun _ _ h => ⟨h.1.trans (congrArg Ending.returned (by kernel_rfl)), h.2⟩) rfl rfl rfl (w_n rfl) ?_
  refine TL_q (.int .u32 3988292389) (fun _ _ hρ _ => r_assign (hρ _ _ rfl)) rfl rfl rfl (w_n rfl) ?_
  refine TL_nil ?_
  refine p_blk_n ?_
  refine p_seq ?_
  refine T_region ?_
  refine TL_q (.int .i64 1) (fun _ _ hρ _ => r_as (r_add (hρ _ _ rfl) (hρ _ _ rfl)) (by rfl)) rfl rfl rfl (w_n rfl) ?_
  refine TL_q (.int .i64 1) (fun _ _ hρ _ => r_move (hρ _ _ rfl)) rfl rfl rfl (w_n rfl) ?_
  refine TL_nil ?_
  refine p_round ?_
  refine TR_succ ?_
  refine T_seq (T_region ?_)
  refine TL_q (.bool true) (fun _ _ hρ _ => r_as (r_lss (hρ _ _ rfl) (hρ _ _ rfl)) (by rfl)) rfl rfl rfl (w_n rfl) ?_
  refine TL_seq ?_
  refine T_seq ?_
  refine T_cond_t rfl ?_
  refine T_skip' ?_
  refine p_seq ?_
  refine T_seq ?_
  refine T_block ?_
  refine T_region ?_
  refine TL_q (.int .u32 3988292389) (fun _ _ hρ _ => r_move (hρ _ _ rfl)) rfl rfl rfl (w_n rfl) ?_
  refine TL_call (.int .u32 2607071922) (fun _ _ hρ _ => r_call (args := [.int .u32 3988292389, .int .u32 0]) (enters_of Try.func147 (by kernel_rfl) rfl) (hρ _ _ rfl) ((cons2 (hρ _ _ rfl) (cons2 (hρ _ _ rfl) rfl))) rfl) (fun w _ => (fed_c 3988292389#32 w).mono fun _ _ h => ⟨h.1.trans (congrArg Ending.returned (by kernel_rfl)), h.2⟩) rfl rfl rfl (w_n rfl) ?_
  refine TL_q (.int .u32 2607071922) (fun _ _ hρ _ => r_assign (hρ _ _ rfl)) rfl rfl rfl (w_n rfl) ?_
  refine TL_nil ?_
  refine p_blk_n ?_
  refine p_seq ?_
  refine T_region ?_
  refine TL_q (.int .i64 2) (fun _ _ hρ _ => r_as (r_add (hρ _ _ rfl) (hρ _ _ rfl)) (by rfl)) rfl rfl rfl (w_n rfl) ?_
  refine TL_q (.int .i64 2) (fun _ _ hρ _ => r_move (hρ _ _ rfl)) rfl rfl rfl (w_n rfl) ?_
  refine TL_nil ?_
  refine p_round ?_
  refine TR_succ ?_
  refine T_seq (T_region ?_)
  refine TL_q (.bool true) (fun _ _ hρ _ => r_as (r_lss (hρ _ _ rfl) (hρ _ _ rfl)) (by rfl)) rfl rfl rfl (w_n rfl) ?_
  refine TL_seq ?_
  refine T_seq ?_
  refine T_cond_t rfl ?_
  refine T_skip' ?_
  refine p_seq ?_
  refine T_seq ?_
  refine T_block ?_
  refine T_region ?_
  refine TL_q (.int .u32 2607071922) (fun _ _ hρ _ => r_move (hρ _ _ rfl)) rfl rfl rfl (w_n rfl) ?_
  refine TL_call (.int .u32 1303535961) (fun _ _ hρ _ => r_call (args := [.int .u32 2607071922, .int .u32 0]) (enters_of Try.func147 (by kernel_rfl) rfl) (hρ _ _ rfl) ((cons2 (hρ _ _ rfl) (cons2 (hρ _ _ rfl) rfl))) rfl) (fun w _ => (fed_c 2607071922#32 w).mono fun _ _ h => ⟨h.1.trans (congrArg Ending.returned (by kernel_rfl)), h.2⟩) rfl rfl rfl (w_n rfl) ?_
  refine TL_q (.int .u32 1303535961) (fun _ _ hρ _ => r_assign (hρ _ _ rfl)) rfl rfl rfl (w_n rfl) ?_
  refine TL_nil ?_
  refine p_blk_n ?_
  refine p_seq ?_
  refine T_region ?_
  refine TL_q (.int .i64 3) (fun _ _ hρ _ => r_as (r_add (hρ _ _ rfl) (hρ _ _ rfl)) (by rfl)) rfl rfl rfl (w_n rfl) ?_
  refine TL_q (.int .i64 3) (fun _ _ hρ _ => r_move (hρ _ _ rfl)) rfl rfl rfl (w_n rfl) ?_
  refine TL_nil ?_
  refine p_round ?_
  refine TR_succ ?_
  refine T_seq (T_region ?_)
  refine TL_q (.bool true) (fun _ _ hρ _ => r_as (r_lss (hρ _ _ rfl) (hρ _ _ rfl)) (by rfl)) rfl rfl rfl (w_n rfl) ?_
  refine TL_seq ?_
  refine T_seq ?_
  refine T_cond_t rfl ?_
  refine T_skip' ?_
  refine p_seq ?_
  refine T_seq ?_
  refine T_block ?_
  refine T_region ?_
  refine TL_q (.int .u32 1303535961) (fun _ _ hρ _ => r_move (hρ _ _ rfl)) rfl rfl rfl (w_n rfl) ?_
  refine TL_call (.int .u32 3412177804) (fun _ _ hρ _ => r_call (args := [.int .u32 1303535961, .int .u32 0]) (enters_of Try.func147 (by kernel_rfl) rfl) (hρ _ _ rfl) ((cons2 (hρ _ _ rfl) (cons2 (hρ _ _ rfl) rfl))) rfl) (fun w _ => (fed_c 1303535961#32 w).mono fun _ _ h => ⟨h.1.trans (congrArg Ending.returned (by kernel_rfl)), h.2⟩) rfl rfl rfl (w_n rfl) ?_
  refine TL_q (.int .u32 3412177804) (fun _ _ hρ _ => r_assign (hρ _ _ rfl)) rfl rfl rfl (w_n rfl) ?_
  refine TL_nil ?_
  refine p_blk_n ?_
  refine p_seq ?_
  refine T_region ?_
  refine TL_q (.int .i64 4) (fun _ _ hρ _ => r_as (r_add (hρ _ _ rfl) (hρ _ _ rfl)) (by rfl)) rfl rfl rfl (w_n rfl) ?_
  refine TL_q (.int .i64 4) (fun _ _ hρ _ => r_move (hρ _ _ rfl)) rfl rfl rfl (w_n rfl) ?_
  refine TL_nil ?_
  refine p_round ?_
  refine TR_succ ?_
  refine T_seq (T_region ?_)
  refine TL_q (.bool false) (fun _ _ hρ _ => r_as (r_lss (hρ _ _ rfl) (hρ _ _ rfl)) (by rfl)) rfl rfl rfl (w_n rfl) ?_
  refine TL_seq ?_
  refine T_seq ?_
  refine T_cond_f rfl ?_
  refine T_exit' ?_
  refine p_then_x ?_
  refine p_then_x ?_
  refine p_blk_x ?_
  refine p_seq ?_
  refine T_region ?_
  refine TL_q (.pointer (some ⟨B, 0, none⟩)) (fun _ _ hρ hm => r_load ag171 (hρ _ _ rfl) (hm.at 901 rfl) rfl) rfl rfl rfl (w_n rfl) ?_
  refine TL_q (.int .i64 11) (fun _ _ hρ _ => r_move (hρ _ _ rfl)) rfl rfl rfl (w_n rfl) ?_
  refine TL_q (.int .u32 3412177804) (fun _ _ hρ _ => r_move (hρ _ _ rfl)) rfl rfl rfl (w_n rfl) ?_
  refine TL_q (.pointer (some ⟨B, 0, none⟩)) (fun _ _ hρ _ => r_nilCheck (hρ _ _ rfl) rfl) rfl rfl rfl (w_n rfl) ?_
  refine TL_q (.pointer (some ⟨B, 3, none⟩)) (fun _ _ hρ _ => r_fieldAddr fl190_1 sz188 (hρ _ _ rfl)) rfl rfl rfl (w_n rfl) ?_
  refine TL_q (.pointer (some ⟨B, 14, none⟩)) (fun _ _ hρ _ => r_indexAddrA (i := 11) ar188 sz46 (hρ _ _ rfl) (hρ _ _ rfl) (by decide)) rfl rfl rfl (w_n rfl) ?_
  refine TL_store 900 (.cells #[.int .u32 0, .int .i32 1, .int .u32 0, .int .u32 0, .int .u32 498536548, .int .u32 997073096, .int .u32 651767980, .int .u32 1994146192, .int .u32 1802195444, .int .u32 1303535960, .int .u32 1342533948, .int .u32 3988292384, .int .u32 4027552580, .int .u32 3604390888, .int .u32 3412177804, .int .u32 0, .int .u32 0, .int .u32 0, .int .u32 0] 190) rfl (fun _ _ hρ hm => r_store sz46 (hρ _ _ rfl) (hρ _ _ rfl) (hm.at 900 rfl) rfl rfl rfl rfl) rfl rfl (w_n rfl) ?_
  refine TL_nil ?_
  refine p_blk_n ?_
  refine p_seq ?_
  refine T_region ?_
  refine TL_q (.int .i64 12) (fun _ _ hρ _ => r_as (r_add (hρ _ _ rfl) (hρ _ _ rfl)) (by rfl)) rfl rfl rfl (w_n rfl) ?_
  refine TL_q (.int .i64 12) (fun _ _ hρ _ => r_move (hρ _ _ rfl)) rfl rfl rfl (w_n rfl) ?_
  refine TL_nil ?_
  refine p_round ?_
  refine TR_succ ?_
  refine T_seq (T_region ?_)
  refine TL_q (.bool true) (fun _ _ hρ _ => r_as (r_lss (hρ _ _ rfl) (hρ _ _ rfl)) (by rfl)) rfl rfl rfl (w_n rfl) ?_
  refine TL_seq ?_
  refine T_seq ?_
  refine T_cond_t rfl ?_
  refine T_skip' ?_
  refine p_seq ?_
  refine T_seq ?_
  refine T_block ?_
  refine T_seq (T_region ?_)
  refine TL_q (.int .i64 12) (fun _ _ hρ _ => r_move (hρ _ _ rfl)) rfl rfl rfl (w_n rfl) ?_
  refine TL_q (.int .i64 12) (fun _ _ hρ _ => r_assign (hρ _ _ rfl)) rfl rfl rfl (w_n rfl) ?_
  refine TL_seq ?_
  refine T_seq (T_region ?_)
  refine TL_q (.int .i64 12) (fun _ _ hρ _ => r_move (hρ _ _ rfl)) rfl rfl rfl (w_n rfl) ?_
  refine TL_q (.int .u32 12) (fun _ _ hρ _ => r_as (r_conv un3 io46 (hρ _ _ rfl)) (by rfl)) rfl rfl rfl (w_n rfl) ?_
  refine TL_q (.int .u32 12) (fun _ _ hρ _ => r_assign (hρ _ _ rfl)) rfl rfl rfl (w_n rfl) ?_
  refine TL_seq ?_
  refine T_seq ?_
  refine T_seq (T_region ?_)
  refine TL_q (.int .i64 0) (fun _ _ hρ _ => r_move (hρ _ _ rfl)) rfl rfl rfl (w_n rfl) ?_
  refine TL_seq ?_
  refine T_block ?_
  refine T_rounds 5 ?_
  refine TR_succ ?_
  refine T_seq (T_region ?_)
  refine TL_q (.bool true) (fun _ _ hρ _ => r_as (r_lss (hρ _ _ rfl) (hρ _ _ rfl)) (by rfl)) rfl rfl rfl (w_n rfl) ?_
  refine TL_seq ?_
  refine T_seq ?_
  refine T_cond_t rfl ?_
  refine T_skip' ?_
  refine p_seq ?_
  refine T_seq ?_
  refine T_block ?_
  refine T_region ?_
  refine TL_q (.int .u32 12) (fun _ _ hρ _ => r_move (hρ _ _ rfl)) rfl rfl rfl (w_n rfl) ?_
  refine TL_call (.int .u32 6) (fun _ _ hρ _ => r_call (args := [.int .u32 12, .int .u32 0]) (enters_of Try.func147 (by kernel_rfl) rfl) (hρ _ _ rfl) ((cons2 (hρ _ _ rfl) (cons2 (hρ _ _ rfl) rfl))) rfl) (fun w _ => (fed_c 12#32 w).mono fun _ _ h => ⟨h.1.trans (congrArg Ending.returned (by kernel_rfl)), h.2⟩) rfl rfl rfl (w_n rfl) ?_
  refine TL_q (.int .u32 6) (fun _ _ hρ _ => r_assign (hρ _ _ rfl)) rfl rfl rfl (w_n rfl) ?_
  refine TL_nil ?_
  refine p_blk_n ?_
  refine p_seq ?_
  refine T_region ?_
  refine TL_q (.int .i64 1) (fun _ _ hρ _ => r_as (r_add (hρ _ _ rfl) (hρ _ _ rfl)) (by rfl)) rfl rfl rfl (w_n rfl) ?_
  refine TL_q (.int .i64 1) (fun _ _ hρ _ => r_move (hρ _ _ rfl)) rfl rfl rfl (w_n rfl) ?_
  refine TL_nil ?_
  refine p_round ?_
  refine TR_succ ?_
  refine T_seq (T_region ?_)
  refine TL_q (.bool true) (fun _ _ hρ _ => r_as (r_lss (hρ _ _ rfl) (hρ _ _ rfl)) (by rfl)) rfl rfl rfl (w_n rfl) ?_
  refine TL_seq ?_
  refine T_seq ?_
  refine T_cond_t rfl ?_
  refine T_skip' ?_
  refine p_seq ?_
  refine T_seq ?_
  refine T_block ?_
  refine T_region ?_
  refine TL_q (.int .u32 6) (fun _ _ hρ _ => r_move (hρ _ _ rfl)) rfl rfl rfl (w_n rfl) ?_
  refine TL_call (.int .u32 3) (fun _ _ hρ _ => r_call (args := [.int .u32 6, .int .u32 0]) (enters_of Try.func147 (by kernel_rfl) rfl) (hρ _ _ rfl) ((cons2 (hρ _ _ rfl) (cons2 (hρ _ _ rfl) rfl))) rfl) (fun w _ => (fed_c 6#32 w).mono fun _ _ h => ⟨h.1.trans (congrArg Ending.returned (by kernel_rfl)), h.2⟩) rfl rfl rfl (w_n rfl) ?_
  refine TL_q (.int .u32 3) (fun _ _ hρ _ => r_assign (hρ _ _ rfl)) rfl rfl rfl (w_n rfl) ?_
  refine TL_nil ?_
  refine p_blk_n ?_
  refine p_seq ?_
  refine T_region ?_
  refine TL_q (.int .i64 2) (fun _ _ hρ _ => r_as (r_add (hρ _ _ rfl) (hρ _ _ rfl)) (by rfl)) rfl rfl rfl (w_n rfl) ?_
  refine TL_q (.int .i64 2) (fun _ _ hρ _ => r_move (hρ _ _ rfl)) rfl rfl rfl (w_n rfl) ?_
  refine TL_nil ?_
  refine p_round ?_
  refine TR_succ ?_
  refine T_seq (T_region ?_)
  refine TL_q (.bool true) (fun _ _ hρ _ => r_as (r_lss (hρ _ _ rfl) (hρ _ _ rfl)) (by rfl)) rfl rfl rfl (w_n rfl) ?_
  refine TL_seq ?_
  refine T_seq ?_
  refine T_cond_t rfl ?_
  refine T_skip' ?_
  refine p_seq ?_
  refine T_seq ?_
  refine T_block ?_
  refine T_region ?_
  refine TL_q (.int .u32 3) (fun _ _ hρ _ => r_move (hρ _ _ rfl)) rfl rfl rfl (w_n rfl) ?_
  refine TL_call (.int .u32 3988292385) (fun _ _ hρ _ => r_call (args := [.int .u32 3, .int .u32 0]) (enters_of Try.func147 (by kernel_rfl) rfl) (hρ _ _ rfl) ((cons2 (hρ _ _ rfl) (cons2 (hρ _ _ rfl) rfl))) rfl) (fun w _ => (fed_c 3#32 w).mono fun _ _ h => ⟨h.1.trans (congrArg Ending.returned (by kernel_rfl)), h.2⟩) rfl rfl rfl (w_n rfl) ?_
  refine TL_q (.int .u32 3988292385) (fun _ _ hρ _ => r_assign (hρ _ _ rfl)) rfl rfl rfl (w_n rfl) ?_
  refine TL_nil ?_
  refine p_blk_n ?_
  refine p_seq ?_
  refine T_region ?_
  refine TL_q (.int .i64 3) (fun _ _ hρ _ => r_as (r_add (hρ _ _ rfl) (hρ _ _ rfl)) (by rfl)) rfl rfl rfl (w_n rfl) ?_
  refine TL_q (.int .i64 3) (fun _ _ hρ _ => r_move (hρ _ _ rfl)) rfl rfl rfl (w_n rfl) ?_
  refine TL_nil ?_
  refine p_round ?_
  refine TR_succ ?_
  refine T_seq (T_region ?_)
  refine TL_q (.bool true) (fun _ _ hρ _ => r_as (r_lss (hρ _ _ rfl) (hρ _ _ rfl)) (by rfl)) rfl rfl rfl (w_n rfl) ?_
  refine TL_seq ?_
  refine T_seq ?_
  refine T_cond_t rfl ?_
  refine T_skip' ?_
  refine p_seq ?_
  refine T_seq ?_
  refine T_block ?_
  refine T_region ?_
  refine TL_q (.int .u32 3988292385) (fun _ _ hρ _ => r_move (hρ _ _ rfl)) rfl rfl rfl (w_n rfl) ?_
  refine TL_call (.int .u32 2607071920) (fun _ _ hρ _ => r_call (args := [.int .u32 3988292385, .int .u32 0]) (enters_of Try.func147 (by kernel_rfl) rfl) (hρ _ _ rfl) ((cons2 (hρ _ _ rfl) (cons2 (hρ _ _ rfl) rfl))) rfl) (fun w _ => (fed_c 3988292385#32 w).mono fun _ _ h => ⟨h.1.trans (congrArg Ending.returned (by kernel_rfl)), h.2⟩) rfl rfl rfl (w_n rfl) ?_
  refine TL_q (.int .u32 2607071920) (fun _ _ hρ _ => r_assign (hρ _ _ rfl)) rfl rfl rfl (w_n rfl) ?_
  refine TL_nil ?_
  refine p_blk_n ?_
  refine p_seq ?_
  refine T_region ?_
  refine TL_q (.int .i64 4) (fun _ _ hρ _ => r_as (r_add (hρ _ _ rfl) (hρ _ _ rfl)) (by rfl)) rfl rfl rfl (w_n rfl) ?_
  refine TL_q (.int .i64 4) (fun _ _ hρ _ => r_move (hρ _ _ rfl)) rfl rfl rfl (w_n rfl) ?_
  refine TL_nil ?_
  refine p_round ?_
  refine TR_succ ?_
  refine T_seq (T_region ?_)
  refine TL_q (.bool false) (fun _ _ hρ _ => r_as (r_lss (hρ _ _ rfl) (hρ _ _ rfl)) (by rfl)) rfl rfl rfl (w_n rfl) ?_
  refine TL_seq ?_
  refine T_seq ?_
  refine T_cond_f rfl ?_
  refine T_exit' ?_
  refine p_then_x ?_
  refine p_then_x ?_
  refine p_blk_x ?_
  refine p_seq ?_
  refine T_region ?_
  refine TL_q (.pointer (some ⟨B, 0, none⟩)) (fun _ _ hρ hm => r_load ag171 (hρ _ _ rfl) (hm.at 901 rfl) rfl) rfl rfl rfl (w_n rfl) ?_
  refine TL_q (.int .i64 12) (fun _ _ hρ _ => r_move (hρ _ _ rfl)) rfl rfl rfl (w_n rfl) ?_
  refine TL_q (.int .u32 2607071920) (fun _ _ hρ _ => r_move (hρ _ _ rfl)) rfl rfl rfl (w_n rfl) ?_
  refine TL_q (.pointer (some ⟨B, 0, none⟩)) (fun _ _ hρ _ => r_nilCheck (hρ _ _ rfl) rfl) rfl rfl rfl (w_n rfl) ?_
  refine TL_q (.pointer (some ⟨B, 3, none⟩)) (fun _ _ hρ _ => r_fieldAddr fl190_1 sz188 (hρ _ _ rfl)) rfl rfl rfl (w_n rfl) ?_
  refine TL_q (.pointer (some ⟨B, 15, none⟩)) (fun _ _ hρ _ => r_indexAddrA (i := 12) ar188 sz46 (hρ _ _ rfl) (hρ _ _ rfl) (by decide)) rfl rfl rfl (w_n rfl) ?_
  refine TL_store 900 (.cells #[.int .u32 0, .int .i32 1, .int .u32 0, .int .u32 0, .int .u32 498536548, .int .u32 997073096, .int .u32 651767980, .int .u32 1994146192, .int .u32 1802195444, .int .u32 1303535960, .int .u32 1342533948, .int .u32 3988292384, .int .u32 4027552580, .int .u32 3604390888, .int .u32 3412177804, .int .u32 2607071920, .int .u32 0, .int .u32 0, .int .u32 0] 190) rfl (fun _ _ hρ hm => r_store sz46 (hρ _ _ rfl) (hρ _ _ rfl) (hm.at 900 rfl) rfl rfl rfl rfl) rfl rfl (w_n rfl) ?_
  refine TL_nil ?_
  refine p_blk_n ?_
  refine p_seq ?_
  refine T_region ?_
  refine TL_q (.int .i64 13) (fun _ _ hρ _ => r_as (r_add (hρ _ _ rfl) (hρ _ _ rfl)) (by rfl)) rfl rfl rfl (w_n rfl) ?_
  refine TL_q (.int .i64 13) (fun _ _ hρ _ => r_move (hρ _ _ rfl)) rfl rfl rfl (w_n rfl) ?_
  refine TL_nil ?_
  refine p_round ?_
  refine TR_succ ?_
  refine T_seq (T_region ?_)
  refine TL_q (.bool true) (fun _ _ hρ _ => r_as (r_lss (hρ _ _ rfl) (hρ _ _ rfl)) (by rfl)) rfl rfl rfl (w_n rfl) ?_
  refine TL_seq ?_
  refine T_seq ?_
  refine T_cond_t rfl ?_
  refine T_skip' ?_
  refine p_seq ?_
  refine T_seq ?_
  refine T_block ?_
  refine T_seq (T_region ?_)
  refine TL_q (.int .i64 13) (fun _ _ hρ _ => r_move (hρ _ _ rfl)) rfl rfl rfl (w_n rfl) ?_
  refine TL_q (.int .i64 13) (fun _ _ hρ _ => r_assign (hρ _ _ rfl)) rfl rfl rfl (w_n rfl) ?_
  refine TL_seq ?_
  refine T_seq (T_region ?_)
  refine TL_q (.int .i64 13) (fun _ _ hρ _ => r_move (hρ _ _ rfl)) rfl rfl rfl (w_n rfl) ?_
  refine TL_q (.int .u32 13) (fun _ _ hρ _ => r_as (r_conv un3 io46 (hρ _ _ rfl)) (by rfl)) rfl rfl rfl (w_n rfl) ?_
  refine TL_q (.int .u32 13) (fun _ _ hρ _ => r_assign (hρ _ _ rfl)) rfl rfl rfl (w_n rfl) ?_
  refine TL_seq ?_
  refine T_seq ?_
  refine T_seq (T_region ?_)
  refine TL_q (.int .i64 0) (fun _ _ hρ _ => r_move (hρ _ _ rfl)) rfl rfl rfl (w_n rfl) ?_
  refine TL_seq ?_
  refine T_block ?_
  refine T_rounds 5 ?_
  refine TR_succ ?_
  refine T_seq (T_region ?_)
  refine TL_q (.bool true) (fun _ _ hρ _ => r_as (r_lss (hρ _ _ rfl) (hρ _ _ rfl)) (by rfl)) rfl rfl rfl (w_n rfl) ?_
  refine TL_seq ?_
  refine T_seq ?_
  refine T_cond_t rfl ?_
  refine T_skip' ?_
  refine p_seq ?_
  refine T_seq ?_
  refine T_block ?_
  refine T_region ?_
  refine TL_q (.int .u32 13) (fun _ _ hρ _ => r_move (hρ _ _ rfl)) rfl rfl rfl (w_n rfl) ?_
  refine TL_call (.int .u32 3988292390) (fun _ _ hρ _ => r_call (args := [.int .u32 13, .int .u32 0]) (enters_of Try.func147 (by kernel_rfl) rfl) (hρ _ _ rfl) ((cons2 (hρ _ _ rfl) (cons2 (hρ _ _ rfl) rfl))) rfl) (fun w _ => (fed_c 13#32 w).mono fun _ _ h => ⟨h.1.trans (congrArg Ending.returned (by kernel_rfl)), h.2⟩) rfl rfl rfl (w_n rfl) ?_
  refine TL_q (.int .u32 3988292390) (fun _ _ hρ _ => r_assign (hρ _ _ rfl)) rfl rfl rfl (w_n rfl) ?_
  refine TL_nil ?_
  refine p_blk_n ?_
  refine p_seq ?_
  refine T_region ?_
  refine TL_q (.int .i64 1) (fun _ _ hρ _ => r_as (r_add (hρ _ _ rfl) (hρ _ _ rfl)) (by rfl)) rfl rfl rfl (w_n rfl) ?_
  refine TL_q (.int .i64 1) (fun _ _ hρ _ => r_move (hρ _ _ rfl)) rfl rfl rfl (w_n rfl) ?_
  refine TL_nil ?_
  refine p_round ?_
  refine TR_succ ?_
  refine T_seq (T_region ?_)
  refine TL_q (.bool true) (fun _ _ hρ _ => r_as (r_lss (hρ _ _ rfl) (hρ _ _ rfl)) (by rfl)) rfl rfl rfl (w_n rfl) ?_
  refine TL_seq ?_
  refine T_seq ?_
  refine T_cond_t rfl ?_
  refine T_skip' ?_
  refine p_seq ?_
  refine T_seq ?_
  refine T_block ?_
  refine T_region ?_
  refine TL_q (.int .u32 3988292390) (fun _ _ hρ _ => r_move (hρ _ _ rfl)) rfl rfl rfl (w_n rfl) ?_
  refine TL_call (.int .u32 1994146195) (fun _ _ hρ _ => r_call (args := [.int .u32 3988292390, .int .u32 0]) (enters_of Try.func147 (by kernel_rfl) rfl) (hρ _ _ rfl) ((cons2 (hρ _ _ rfl) (cons2 (hρ _ _ rfl) rfl))) rfl) (fun w _ => (fed_c 3988292390#32 w).mono fun _ _ h => ⟨h.1.trans (congrArg Ending.returned (by kernel_rfl)), h.2⟩) rfl rfl rfl (w_n rfl) ?_
  refine TL_q (.int .u32 1994146195) (fun _ _ hρ _ => r_assign (hρ _ _ rfl)) rfl rfl rfl (w_n rfl) ?_
  refine TL_nil ?_
  refine p_blk_n ?_
  refine p_seq ?_
  refine T_region ?_
  refine TL_q (.int .i64 2) (fun _ _ hρ _ => r_as (r_add (hρ _ _ rfl) (hρ _ _ rfl)) (by rfl)) rfl rfl rfl (w_n rfl) ?_
  refine TL_q (.int .i64 2) (fun _ _ hρ _ => r_move (hρ _ _ rfl)) rfl rfl rfl (w_n rfl) ?_
  refine TL_nil ?_
  refine p_round ?_
  refine TR_succ ?_
  refine T_seq (T_region ?_)
  refine TL_q (.bool true) (fun _ _ hρ _ => r_as (r_lss (hρ _ _ rfl) (hρ _ _ rfl)) (by rfl)) rfl rfl rfl (w_n rfl) ?_
  refine TL_seq ?_
  refine T_seq ?_
  refine T_cond_t rfl ?_
  refine T_skip' ?_
  refine p_seq ?_
  refine T_seq ?_
  refine T_block ?_
  refine T_region ?_
  refine TL_q (.int .u32 1994146195) (fun _ _ hρ _ => r_move (hρ _ _ rfl)) rfl rfl rfl (w_n rfl) ?_
  refine TL_call (.int .u32 3604390889) (fun _ _ hρ _ => r_call (args := [.int .u32 1994146195, .int .u32 0]) (enters_of Try.func147 (by kernel_rfl) rfl) (hρ _ _ rfl) ((cons2 (hρ _ _ rfl) (cons2 (hρ _ _ rfl) rfl))) rfl) (fun w _ => (fed_c 1994146195#32 w).mono fun _ _ h => ⟨h.1.trans (congrArg Ending.returned (by kernel_rfl)), h.2⟩) rfl rfl rfl (w_n rfl) ?_
  refine TL_q (.int .u32 3604390889) (fun _ _ hρ _ => r_assign (hρ _ _ rfl)) rfl rfl rfl (w_n rfl) ?_
  refine TL_nil ?_
  refine p_blk_n ?_
  refine p_seq ?_
  refine T_region ?_
  refine TL_q (.int .i64 3) (fun _ _ hρ _ => r_as (r_add (hρ _ _ rfl) (hρ _ _ rfl)) (by rfl)) rfl rfl rfl (w_n rfl) ?_
  refine TL_q (.int .i64 3) (fun _ _ hρ _ => r_move (hρ _ _ rfl)) rfl rfl rfl (w_n rfl) ?_
  refine TL_nil ?_
  refine p_round ?_
  refine TR_succ ?_
  refine T_seq (T_region ?_)
  refine TL_q (.bool true) (fun _ _ hρ _ => r_as (r_lss (hρ _ _ rfl) (hρ _ _ rfl)) (by rfl)) rfl rfl rfl (w_n rfl) ?_
  refine TL_seq ?_
  refine T_seq ?_
  refine T_cond_t rfl ?_
  refine T_skip' ?_
  refine p_seq ?_
  refine T_seq ?_
  refine T_block ?_
  refine T_region ?_
  refine TL_q (.int .u32 3604390889) (fun _ _ hρ _ => r_move (hρ _ _ rfl)) rfl rfl rfl (w_n rfl) ?_
  refine TL_call (.int .u32 2262029012) (fun _ _ hρ _ => r_call (args := [.int .u32 3604390889, .int .u32 0]) (enters_of Try.func147 (by kernel_rfl) rfl) (hρ _ _ rfl) ((cons2 (hρ _ _ rfl) (cons2 (hρ _ _ rfl) rfl))) rfl) (fun w _ => (fed_c 3604390889#32 w).mono fun _ _ h => ⟨h.1.trans (congrArg Ending.returned (by kernel_rfl)), h.2⟩) rfl rfl rfl (w_n rfl) ?_
  refine TL_q (.int .u32 2262029012) (fun _ _ hρ _ => r_assign (hρ _ _ rfl)) rfl rfl rfl (w_n rfl) ?_
  refine TL_nil ?_
  refine p_blk_n ?_
  refine p_seq ?_
  refine T_region ?_
  refine TL_q (.int .i64 4) (fun _ _ hρ _ => r_as (r_add (hρ _ _ rfl) (hρ _ _ rfl)) (by rfl)) rfl rfl rfl (w_n rfl) ?_
  refine TL_q (.int .i64 4) (fun _ _ hρ _ => r_move (hρ _ _ rfl)) rfl rfl rfl (w_n rfl) ?_
  refine TL_nil ?_
  refine p_round ?_
  refine TR_succ ?_
  refine T_seq (T_region ?_)
  refine TL_q (.bool false) (fun _ _ hρ _ => r_as (r_lss (hρ _ _ rfl) (hρ _ _ rfl)) (by rfl)) rfl rfl rfl (w_n rfl) ?_
  refine TL_seq ?_
  refine T_seq ?_
  refine T_cond_f rfl ?_
  refine T_exit' ?_
  refine p_then_x ?_
  refine p_then_x ?_
  refine p_blk_x ?_
  refine p_seq ?_
  refine T_region ?_
  refine TL_q (.pointer (some ⟨B, 0, none⟩)) (fun _ _ hρ hm => r_load ag171 (hρ _ _ rfl) (hm.at 901 rfl) rfl) rfl rfl rfl (w_n rfl) ?_
  refine TL_q (.int .i64 13) (fun _ _ hρ _ => r_move (hρ _ _ rfl)) rfl rfl rfl (w_n rfl) ?_
  refine TL_q (.int .u32 2262029012) (fun _ _ hρ _ => r_move (hρ _ _ rfl)) rfl rfl rfl (w_n rfl) ?_
  refine TL_q (.pointer (some ⟨B, 0, none⟩)) (fun _ _ hρ _ => r_nilCheck (hρ _ _ rfl) rfl) rfl rfl rfl (w_n rfl) ?_
  refine TL_q (.pointer (some ⟨B, 3, none⟩)) (fun _ _ hρ _ => r_fieldAddr fl190_1 sz188 (hρ _ _ rfl)) rfl rfl rfl (w_n rfl) ?_
  refine TL_q (.pointer (some ⟨B, 16, none⟩)) (fun _ _ hρ _ => r_indexAddrA (i := 13) ar188 sz46 (hρ _ _ rfl) (hρ _ _ rfl) (by decide)) rfl rfl rfl (w_n rfl) ?_
  refine TL_store 900 (.cells #[.int .u32 0, .int .i32 1, .int .u32 0, .int .u32 0, .int .u32 498536548, .int .u32 997073096, .int .u32 651767980, .int .u32 1994146192, .int .u32 1802195444, .int .u32 1303535960, .int .u32 1342533948, .int .u32 3988292384, .int .u32 4027552580, .int .u32 3604390888, .int .u32 3412177804, .int .u32 2607071920, .int .u32 2262029012, .int .u32 0, .int .u32 0] 190) rfl (fun _ _ hρ hm => r_store sz46 (hρ _ _ rfl) (hρ _ _ rfl) (hm.at 900 rfl) rfl rfl rfl rfl) rfl rfl (w_n rfl) ?_
  refine TL_nil ?_
  refine p_blk_n ?_
  refine p_seq ?_
  refine T_region ?_
  refine TL_q (.int .i64 14) (fun _ _ hρ _ => r_as (r_add (hρ _ _ rfl) (hρ _ _ rfl)) (by rfl)) rfl rfl rfl (w_n rfl) ?_
  refine TL_q (.int .i64 14) (fun _ _ hρ _ => r_move (hρ _ _ rfl)) rfl rfl rfl (w_n rfl) ?_
  refine TL_nil ?_
  refine p_round ?_
  refine TR_succ ?_
  refine T_seq (T_region ?_)
  refine TL_q (.bool true) (fun _ _ hρ _ => r_as (r_lss (hρ _ _ rfl) (hρ _ _ rfl)) (by rfl)) rfl rfl rfl (w_n rfl) ?_
  refine TL_seq ?_
  refine T_seq ?_
  refine T_cond_t rfl ?_
  refine T_skip' ?_
  refine p_seq ?_
  refine T_seq ?_
  refine T_block ?_
  refine T_seq (T_region ?_)
  refine TL_q (.int .i64 14) (fun _ _ hρ _ => r_move (hρ _ _ rfl)) rfl rfl rfl (w_n rfl) ?_
  refine TL_q (.int .i64 14) (fun _ _ hρ _ => r_assign (hρ _ _ rfl)) rfl rfl rfl (w_n rfl) ?_
  refine TL_seq ?_
  refine T_seq (T_region ?_)
  refine TL_q (.int .i64 14) (fun _ _ hρ _ => r_move (hρ _ _ rfl)) rfl rfl rfl (w_n rfl) ?_
  refine TL_q (.int .u32 14) (fun _ _ hρ _ => r_as (r_conv un3 io46 (hρ _ _ rfl)) (by rfl)) rfl rfl rfl (w_n rfl) ?_
  refine TL_q (.int .u32 14) (fun _ _ hρ _ => r_assign (hρ _ _ rfl)) rfl rfl rfl (w_n rfl) ?_
  refine TL_seq ?_
  refine T_seq ?_
  refine T_seq (T_region ?_)
  refine TL_q (.int .i64 0) (fun _ _ hρ _ => r_move (hρ _ _ rfl)) rfl rfl rfl (w_n rfl) ?_
  refine TL_seq ?_
  refine T_block ?_
  refine T_rounds 5 ?_
  refine TR_succ ?_
  refine T_seq (T_region ?_)
  refine TL_q (.bool true) (fun _ _ hρ _ => r_as (r_lss (hρ _ _ rfl) (hρ _ _ rfl)) (by rfl)) rfl rfl rfl (w_n rfl) ?_
  refine TL_seq ?_
  refine T_seq ?_
  refine T_cond_t rfl ?_
  refine T_skip' ?_
  refine p_seq ?_
  refine T_seq ?_
  refine T_block ?_
  refine T_region ?_
  refine TL_q (.int .u32 14) (fun _ _ hρ _ => r_move (hρ _ _ rfl)) rfl rfl rfl (w_n rfl) ?_
  refine TL_call (.int .u32 7) (fun _ _ hρ _ => r_call (args := [.int .u32 14, .int .u32 0]) (enters_of Try.func147 (by kernel_rfl) rfl) (hρ _ _ rfl) ((cons2 (hρ _ _ rfl) (cons2 (hρ _ _ rfl) rfl))) rfl) (fun w _ => (fed_c 14#32 w).mono fun _ _ h => ⟨h.1.trans (congrArg Ending.returned (by kernel_rfl)), h.2⟩) rfl rfl rfl (w_n rfl) ?_
  refine TL_q (.int .u32 7) (fun _ _ hρ _ => r_assign (hρ _ _ rfl)) rfl rfl rfl (w_n rfl) ?_
  refine TL_nil ?_
  refine p_blk_n ?_
  refine p_seq ?_
  refine T_region ?_
  refine TL_q (.int .i64 1) (fun _ _ hρ _ => r_as (r_add (hρ _ _ rfl) (hρ _ _ rfl)) (by rfl)) rfl rfl rfl (w_n rfl) ?_
  refine TL_q (.int .i64 1) (fun _ _ hρ _ => r_move (hρ _ _ rfl)) rfl rfl rfl (w_n rfl) ?_
  refine TL_nil ?_
  refine p_round ?_
  refine TR_succ ?_
  refine T_seq (T_region ?_)
  refine TL_q (.bool true) (fun _ _ hρ _ => r_as (r_lss (hρ _ _ rfl) (hρ _ _ rfl)) (by rfl)) rfl rfl rfl (w_n rfl) ?_
  refine TL_seq ?_
  refine T_seq ?_
  refine T_cond_t rfl ?_
  refine T_skip' ?_
  refine p_seq ?_
  refine T_seq ?_
  refine T_block ?_
  refine T_region ?_
  refine TL_q (.int .u32 7) (fun _ _ hρ _ => r_move (hρ _ _ rfl)) rfl rfl rfl (w_n rfl) ?_
  refine TL_call (.int .u32 3988292387) (fun _ _ hρ _ => r_call (args := [.int .u32 7, .int .u32 0]) (enters_of Try.func147 (by kernel_rfl) rfl) (hρ _ _ rfl) ((cons2 (hρ _ _ rfl) (cons2 (hρ _ _ rfl) rfl))) rfl) (fun w _ => (fed_c 7#32 w).mono fun _ _ h => ⟨h.1.trans (congrArg Ending.returned (by kernel_rfl)), h.2⟩) rfl rfl rfl (w_n rfl) ?_
  refine TL_q (.int .u32 3988292387) (fun _ _ hρ _ => r_assign (hρ _ _ rfl)) rfl rfl rfl (w_n rfl) ?_
  refine TL_nil ?_
  refine p_blk_n ?_
  refine p_seq ?_
  refine T_region ?_
  refine TL_q (.int .i64 2) (fun _ _ hρ _ => r_as (r_add (hρ _ _ rfl) (hρ _ _ rfl)) (by rfl)) rfl rfl rfl (w_n rfl) ?_
  refine TL_q (.int .i64 2) (fun _ _ hρ _ => r_move (hρ _ _ rfl)) rfl rfl rfl (w_n rfl) ?_
  refine TL_nil ?_
  refine p_round ?_
  refine TR_succ ?_
  refine T_seq (T_region ?_)
  refine TL_q (.bool true) (fun _ _ hρ _ => r_as (r_lss (hρ _ _ rfl) (hρ _ _ rfl)) (by rfl)) rfl rfl rfl (w_n rfl) ?_
  refine TL_seq ?_
  refine T_seq ?_
  refine T_cond_t rfl ?_
  refine T_skip' ?_
  refine p_seq ?_
  refine T_seq ?_
  refine T_block ?_
  refine T_region ?_
  refine TL_q (.int .u32 3988292387) (fun _ _ hρ _ => r_move (hρ _ _ rfl)) rfl rfl rfl (w_n rfl) ?_
  refine TL_call (.int .u32 2607071921) (fun _ _ hρ _ => r_call (args := [.int .u32 3988292387, .int .u32 0]) (enters_of Try.func147 (by kernel_rfl) rfl) (hρ _ _ rfl) ((cons2 (hρ _ _ rfl) (cons2 (hρ _ _ rfl) rfl))) rfl) (fun w _ => (fed_c 3988292387#32 w).mono fun _ _ h => ⟨h.1.trans (congrArg Ending.returned (by kernel_rfl)), h.2⟩) rfl rfl rfl (w_n rfl) ?_
  refine TL_q (.int .u32 2607071921) (fun _ _ hρ _ => r_assign (hρ _ _ rfl)) rfl rfl rfl (w_n rfl) ?_
  refine TL_nil ?_
  refine p_blk_n ?_
  refine p_seq ?_
  refine T_region ?_
  refine TL_q (.int .i64 3) (fun _ _ hρ _ => r_as (r_add (hρ _ _ rfl) (hρ _ _ rfl)) (by rfl)) rfl rfl rfl (w_n rfl) ?_
  refine TL_q (.int .i64 3) (fun _ _ hρ _ => r_move (hρ _ _ rfl)) rfl rfl rfl (w_n rfl) ?_
  refine TL_nil ?_
  refine p_round ?_
  refine TR_succ ?_
  refine T_seq (T_region ?_)
  refine TL_q (.bool true) (fun _ _ hρ _ => r_as (r_lss (hρ _ _ rfl) (hρ _ _ rfl)) (by rfl)) rfl rfl rfl (w_n rfl) ?_
  refine TL_seq ?_
  refine T_seq ?_
  refine T_cond_t rfl ?_
  refine T_skip' ?_
  refine p_seq ?_
  refine T_seq ?_
  refine T_block ?_
  refine T_region ?_
  refine TL_q (.int .u32 2607071921) (fun _ _ hρ _ => r_move (hρ _ _ rfl)) rfl rfl rfl (w_n rfl) ?_
  refine TL_call (.int .u32 2685067896) (fun _ _ hρ _ => r_call (args := [.int .u32 2607071921, .int .u32 0]) (enters_of Try.func147 (by kernel_rfl) rfl) (hρ _ _ rfl) ((cons2 (hρ _ _ rfl) (cons2 (hρ _ _ rfl) rfl))) rfl) (fun w _ => (fed_c 2607071921#32 w).mono fun _ _ h => ⟨h.1.trans (congrArg Ending.returned (by kernel_rfl)), h.2⟩) rfl rfl rfl (w_n rfl) ?_
  refine TL_q (.int .u32 2685067896) (fun _ _ hρ _ => r_assign (hρ _ _ rfl)) rfl rfl rfl (w_n rfl) ?_
  refine TL_nil ?_
  refine p_blk_n ?_
  refine p_seq ?_
  refine T_region ?_
  refine TL_q (.int .i64 4) (fun _ _ hρ _ => r_as (r_add (hρ _ _ rfl) (hρ _ _ rfl)) (by rfl)) rfl rfl rfl (w_n rfl) ?_
  refine TL_q (.int .i64 4) (fun _ _ hρ _ => r_move (hρ _ _ rfl)) rfl rfl rfl (w_n rfl) ?_
  refine TL_nil ?_
  refine p_round ?_
  refine TR_succ ?_
  refine T_seq (T_region ?_)
  refine TL_q (.bool false) (fun _ _ hρ _ => r_as (r_lss (hρ _ _ rfl) (hρ _ _ rfl)) (by rfl)) rfl rfl rfl (w_n rfl) ?_
  refine TL_seq ?_
  refine T_seq ?_
  refine T_cond_f rfl ?_
  refine T_exit' ?_
  refine p_then_x ?_
  refine p_then_x ?_
  refine p_blk_x ?_
  refine p_seq ?_
  refine T_region ?_
  refine TL_q (.pointer (some ⟨B, 0, none⟩)) (fun _ _ hρ hm => r_load ag171 (hρ _ _ rfl) (hm.at 901 rfl) rfl) rfl rfl rfl (w_n rfl) ?_
  refine TL_q (.int .i64 14) (fun _ _ hρ _ => r_move (hρ _ _ rfl)) rfl rfl rfl (w_n rfl) ?_
  refine TL_q (.int .u32 2685067896) (fun _ _ hρ _ => r_move (hρ _ _ rfl)) rfl rfl rfl (w_n rfl) ?_
  refine TL_q (.pointer (some ⟨B, 0, none⟩)) (fun _ _ hρ _ => r_nilCheck (hρ _ _ rfl) rfl) rfl rfl rfl (w_n rfl) ?_
  refine TL_q (.pointer (some ⟨B, 3, none⟩)) (fun _ _ hρ _ => r_fieldAddr fl190_1 sz188 (hρ _ _ rfl)) rfl rfl rfl (w_n rfl) ?_
  refine TL_q (.pointer (some ⟨B, 17, none⟩)) (fun _ _ hρ _ => r_indexAddrA (i := 14) ar188 sz46 (hρ _ _ rfl) (hρ _ _ rfl) (by decide)) rfl rfl rfl (w_n rfl) ?_
  refine TL_store 900 (.cells #[.int .u32 0, .int .i32 1, .int .u32 0, .int .u32 0, .int .u32 498536548, .int .u32 997073096, .int .u32 651767980, .int .u32 1994146192, .int .u32 1802195444, .int .u32 1303535960, .int .u32 1342533948, .int .u32 3988292384, .int .u32 4027552580, .int .u32 3604390888, .int .u32 3412177804, .int .u32 2607071920, .int .u32 2262029012, .int .u32 2685067896, .int .u32 0] 190) rfl (fun _ _ hρ hm => r_store sz46 (hρ _ _ rfl) (hρ _ _ rfl) (hm.at 900 rfl) rfl rfl rfl rfl) rfl rfl (w_n rfl) ?_
  refine TL_nil ?_
  refine p_blk_n ?_
  refine p_seq ?_
  refine T_region ?_
  refine TL_q (.int .i64 15) (fun _ _ hρ _ => r_as (r_add (hρ _ _ rfl) (hρ _ _ rfl)) (by rfl)) rfl rfl rfl (w_n rfl) ?_
  refine TL_q (.int .i64 15) (fun _ _ hρ _ => r_move (hρ _ _ rfl)) rfl rfl rfl (w_n rfl) ?_
  refine TL_nil ?_
  refine p_round ?_
  refine TR_succ ?_
  refine T_seq (T_region ?_)
  refine TL_q (.bool true) (fun _ _ hρ _ => r_as (r_lss (hρ _ _ rfl) (hρ _ _ rfl)) (by rfl)) rfl rfl rfl (w_n rfl) ?_
  refine TL_seq ?_
  refine T_seq ?_
  refine T_cond_t rfl ?_
  refine T_skip' ?_
  refine p_seq ?_
  refine T_seq ?_
  refine T_block ?_
  refine T_seq (T_region ?_)
  refine TL_q (.int .i64 15) (fun _ _ hρ _ => r_move (hρ _ _ rfl)) rfl rfl rfl (w_n rfl) ?_
  refine TL_q (.int .i64 15) (fun _ _ hρ _ => r_assign (hρ _ _ rfl)) rfl rfl rfl (w_n rfl) ?_
  refine TL_seq ?_
  refine T_seq (T_region ?_)
  refine TL_q (.int .i64 15) (fun _ _ hρ _ => r_move (hρ _ _ rfl)) rfl rfl rfl (w_n rfl) ?_
  refine TL_q (.int .u32 15) (fun _ _ hρ _ => r_as (r_conv un3 io46 (hρ _ _ rfl)) (by rfl)) rfl rfl rfl (w_n rfl) ?_
  refine TL_q (.int .u32 15) (fun _ _ hρ _ => r_assign (hρ _ _ rfl)) rfl rfl rfl (w_n rfl) ?_
  refine TL_seq ?_
  refine T_seq ?_
  refine T_seq (T_region ?_)
  refine TL_q (.int .i64 0) (fun _ _ hρ _ => r_move (hρ _ _ rfl)) rfl rfl rfl (w_n rfl) ?_
  refine TL_seq ?_
  refine T_block ?_
  refine T_rounds 5 ?_
  refine TR_succ ?_
  refine T_seq (T_region ?_)
  refine TL_q (.bool true) (fun _ _ hρ _ => r_as (r_lss (hρ _ _ rfl) (hρ _ _ rfl)) (by rfl)) rfl rfl rfl (w_n rfl) ?_
  refine TL_seq ?_
  refine T_seq ?_
  refine T_cond_t rfl ?_
  refine T_skip' ?_
  refine p_seq ?_
  refine T_seq ?_
  refine T_block ?_
  refine T_region ?_
  refine TL_q (.int .u32 15) (fun _ _ hρ _ => r_move (hρ _ _ rfl)) rfl rfl rfl (w_n rfl) ?_
  refine TL_call (.int .u32 3988292391) (fun _ _ hρ _ => r_call (args := [.int .u32 15, .int .u32 0]) (enters_of Try.func147 (by kernel_rfl) rfl) (hρ _ _ rfl) ((cons2 (hρ _ _ rfl) (cons2 (hρ _ _ rfl) rfl))) rfl) (fun w _ => (fed_c 15#32 w).mono fun _ _ h => ⟨h.1.trans (congrArg Ending.returned (by kernel_rfl)), h.2⟩) rfl rfl rfl (w_n rfl) ?_
  refine TL_q (.int .u32 3988292391) (fun _ _ hρ _ => r_assign (hρ _ _ rfl)) rfl rfl rfl (w_n rfl) ?_
  refine TL_nil ?_
  refine p_blk_n ?_
  refine p_seq ?_
  refine T_region ?_
  refine TL_q (.int .i64 1) (fun _ _ hρ _ => r_as (r_add (hρ _ _ rfl) (hρ _ _ rfl)) (by rfl)) rfl rfl rfl (w_n rfl) ?_
  refine TL_q (.int .i64 1) (fun _ _ hρ _ => r_move (hρ _ _ rfl)) rfl rfl rfl (w_n rfl) ?_
  refine TL_nil ?_
  refine p_round ?_
  refine TR_succ ?_
  refine T_seq (T_region ?_)
  refine TL_q (.bool true) (fun _ _ hρ _ => r_as (r_lss (hρ _ _ rfl) (hρ _ _ rfl)) (by rfl)) rfl rfl rfl (w_n rfl) ?_
  refine TL_seq ?_
  refine T_seq ?_
  refine T_cond_t rfl ?_
  refine T_skip' ?_
  refine p_seq ?_
  refine T_seq ?_
  refine T_block ?_
  refine T_region ?_
  refine TL_q (.int .u32 3988292391) (fun _ _ hρ _ => r_move (hρ _ _ rfl)) rfl rfl rfl (w_n rfl) ?_
  refine TL_call (.int .u32 2607071923) (fun _ _ hρ _ => r_call (args := [.int .u32 3988292391, .int .u32 0]) (enters_of Try.func147 (by kernel_rfl) rfl) (hρ _ _ rfl) ((cons2 (hρ _ _ rfl) (cons2 (hρ _ _ rfl) rfl))) rfl) (fun w _ => (fed_c 3988292391#32 w).mono fun _ _ h => ⟨h.1.trans (congrArg Ending.returned (by kernel_rfl)), h.2⟩) rfl rfl rfl (w_n rfl) ?_
  refine TL_q (.int .u32 2607071923) (fun _ _ hρ _ => r_assign (hρ _ _ rfl)) rfl rfl rfl (w_n rfl) ?_
  refine TL_nil ?_
  refine p_blk_n ?_
  refine p_seq ?_
  refine T_region ?_
  refine TL_q (.int .i64 2) (fun _ _ hρ _ => r_as (r_add (hρ _ _ rfl) (hρ _ _ rfl)) (by rfl)) rfl rfl rfl (w_n rfl) ?_
  refine TL_q (.int .i64 2) (fun _ _ hρ _ => r_move (hρ _ _ rfl)) rfl rfl rfl (w_n rfl) ?_
  refine TL_nil ?_
  refine p_round ?_
  refine TR_succ ?_
  refine T_seq (T_region ?_)
  refine TL_q (.bool true) (fun _ _ hρ _ => r_as (r_lss (hρ _ _ rfl) (hρ _ _ rfl)) (by rfl)) rfl rfl rfl (w_n rfl) ?_
  refine TL_seq ?_
  refine T_seq ?_
  refine T_cond_t rfl ?_
  refine T_skip' ?_
  refine p_seq ?_
  refine T_seq ?_
  refine T_block ?_
  refine T_region ?_
  refine TL_q (.int .u32 2607071923) (fun _ _ hρ _ => r_move (hρ _ _ rfl)) rfl rfl rfl (w_n rfl) ?_
  refine TL_call (.int .u32 2685067897) (fun _ _ hρ _ => r_call (args := [.int .u32 2607071923, .int .u32 0]) (enters_of Try.func147 (by kernel_rfl) rfl) (hρ _ _ rfl) ((cons2 (hρ _ _ rfl) (cons2 (hρ _ _ rfl) rfl))) rfl) (fun w _ => (fed_c 2607071923#32 w).mono fun _ _ h => ⟨h.1.trans (congrArg Ending.returned (by kernel_rfl)), h.2⟩) rfl rfl rfl (w_n rfl) ?_
  refine TL_q (.int .u32 2685067897) (fun _ _ hρ _ => r_assign (hρ _ _ rfl)) rfl rfl rfl (w_n rfl) ?_
  refine TL_nil ?_
  refine p_blk_n ?_
  refine p_seq ?_
  refine T_region ?_
  refine TL_q (.int .i64 3) (fun _ _ hρ _ => r_as (r_add (hρ _ _ rfl) (hρ _ _ rfl)) (by rfl)) rfl rfl rfl (w_n rfl) ?_
  refine TL_q (.int .i64 3) (fun _ _ hρ _ => r_move (hρ _ _ rfl)) rfl rfl rfl (w_n rfl) ?_
  refine TL_nil ?_
  refine p_round ?_
  refine TR_succ ?_
  refine T_seq (T_region ?_)
  refine TL_q (.bool true) (fun _ _ hρ _ => r_as (r_lss (hρ _ _ rfl) (hρ _ _ rfl)) (by rfl)) rfl rfl rfl (w_n rfl) ?_
  refine TL_seq ?_
  refine T_seq ?_
  refine T_cond_t rfl ?_
  refine T_skip' ?_
  refine p_seq ?_
  refine T_seq ?_
  refine T_block ?_
  refine T_region ?_
  refine TL_q (.int .u32 2685067897) (fun _ _ hρ _ => r_move (hρ _ _ rfl)) rfl rfl rfl (w_n rfl) ?_
  refine TL_call (.int .u32 3183342108) (fun _ _ hρ _ => r_call (args := [.int .u32 2685067897, .int .u32 0]) (enters_of Try.func147 (by kernel_rfl) rfl) (hρ _ _ rfl) ((cons2 (hρ _ _ rfl) (cons2 (hρ _ _ rfl) rfl))) rfl) (fun w _ => (fed_c 2685067897#32 w).mono fun _ _ h => ⟨h.1.trans (congrArg Ending.returned (by kernel_rfl)), h.2⟩) rfl rfl rfl (w_n rfl) ?_
  refine TL_q (.int .u32 3183342108) (fun _ _ hρ _ => r_assign (hρ _ _ rfl)) rfl rfl rfl (w_n rfl) ?_
  refine TL_nil ?_
  refine p_blk_n ?_
  refine p_seq ?_
  refine T_region ?_
  refine TL_q (.int .i64 4) (fun _ _ hρ _ => r_as (r_add (hρ _ _ rfl) (hρ _ _ rfl)) (by rfl)) rfl rfl rfl (w_n rfl) ?_
  refine TL_q (.int .i64 4) (fun _ _ hρ _ => r_move (hρ _ _ rfl)) rfl rfl rfl (w_n rfl) ?_
  refine TL_nil ?_
  refine p_round ?_
  refine TR_succ ?_
  refine T_seq (T_region ?_)
  refine TL_q (.bool false) (fun _ _ hρ _ => r_as (r_lss (hρ _ _ rfl) (hρ _ _ rfl)) (by rfl)) rfl rfl rfl (w_n rfl) ?_
  refine TL_seq ?_
  refine T_seq ?_
  refine T_cond_f rfl ?_
  refine T_exit' ?_
  refine p_then_x ?_
  refine p_then_x ?_
  refine p_blk_x ?_
  refine p_seq ?_
  refine T_region ?_
  refine TL_q (.pointer (some ⟨B, 0, none⟩)) (fun _ _ hρ hm => r_load ag171 (hρ _ _ rfl) (hm.at 901 rfl) rfl) rfl rfl rfl (w_n rfl) ?_
  refine TL_q (.int .i64 15) (fun _ _ hρ _ => r_move (hρ _ _ rfl)) rfl rfl rfl (w_n rfl) ?_
  refine TL_q (.int .u32 3183342108) (fun _ _ hρ _ => r_move (hρ _ _ rfl)) rfl rfl rfl (w_n rfl) ?_
  refine TL_q (.pointer (some ⟨B, 0, none⟩)) (fun _ _ hρ _ => r_nilCheck (hρ _ _ rfl) rfl) rfl rfl rfl (w_n rfl) ?_
  refine TL_q (.pointer (some ⟨B, 3, none⟩)) (fun _ _ hρ _ => r_fieldAddr fl190_1 sz188 (hρ _ _ rfl)) rfl rfl rfl (w_n rfl) ?_
  refine TL_q (.pointer (some ⟨B, 18, none⟩)) (fun _ _ hρ _ => r_indexAddrA (i := 15) ar188 sz46 (hρ _ _ rfl) (hρ _ _ rfl) (by decide)) rfl rfl rfl (w_n rfl) ?_
  refine TL_store 900 (.cells #[.int .u32 0, .int .i32 1, .int .u32 0, .int .u32 0, .int .u32 498536548, .int .u32 997073096, .int .u32 651767980, .int .u32 1994146192, .int .u32 1802195444, .int .u32 1303535960, .int .u32 1342533948, .int .u32 3988292384, .int .u32 4027552580, .int .u32 3604390888, .int .u32 3412177804, .int .u32 2607071920, .int .u32 2262029012, .int .u32 2685067896, .int .u32 3183342108] 190) rfl (fun _ _ hρ hm => r_store sz46 (hρ _ _ rfl) (hρ _ _ rfl) (hm.at 900 rfl) rfl rfl rfl rfl) rfl rfl (w_n rfl) ?_
  refine TL_nil ?_
  refine p_blk_n ?_
  refine p_seq ?_
  refine T_region ?_
  refine TL_q (.int .i64 16) (fun _ _ hρ _ => r_as (r_add (hρ _ _ rfl) (hρ _ _ rfl)) (by rfl)) rfl rfl rfl (w_n rfl) ?_
  refine TL_q (.int .i64 16) (fun _ _ hρ _ => r_move (hρ _ _ rfl)) rfl rfl rfl (w_n rfl) ?_
  refine TL_nil ?_
  refine p_round ?_
  refine TR_succ ?_
  refine T_seq (T_region ?_)
  refine TL_q (.bool false) (fun _ _ hρ _ => r_as (r_lss (hρ _ _ rfl) (hρ _ _ rfl)) (by rfl)) rfl rfl rfl (w_n rfl) ?_
  refine TL_seq ?_
  refine T_seq ?_
  refine T_cond_f rfl ?_
  refine T_exit' ?_
  refine p_then_x ?_
  refine p_then_x ?_
  refine p_blk_x ?_
  refine p_end ?_
  refine ret_of rfl (.tuple #[]) (fun tmps w hk hm => results_none rfl _ _ _) (fun w hm => ?_)
  refine ⟨(), trivial, rfl, ?_⟩
  refine hm.of (fun k q hk => ?_)
  by_cases e900 : 900 = k
  · subst e900; exact hk
  have f900 : ∀ (K : Heap) (v : Res), lk ((900, v) :: K) k = lk K k := fun K v => lk_cons_other K v e900
  by_cases e901 : 901 = k
  · subst e901; exact h901.symm.trans hk
  have f901 : ∀ (K : Heap) (v : Res), lk ((901, v) :: K) k = lk K k := fun K v => lk_cons_other K v e901
  simp only [f900, f901] at hk ⊢
  exact hk

theorem slow_ht (w₀ : World) (L : Heap) (B Cc : Nat) (hi : lk L 900 = some (.blk B (.cells tbZ 190))) (h901 : lk L 901 = some (.blk Cc (.cells #[.pointer (some ⟨B, 0, none⟩)] 171))) : ∀ w, MemOk w₀ L w → Calls Try.prog 150 #[.pointer (some ⟨B, 0, none⟩), .func (.func 146) #[] #[.pointer (some ⟨Cc, 0, none⟩)]] w (HAns w₀ (fun _ : Unit => True) (fun _ => .tuple #[]) (fun _ => (900, .blk B (.cells tbE 190)) :: L)) := by
  refine ht_of_TD (l := [.pointer (some ⟨B, 0, none⟩), .func (.func 146) #[] #[.pointer (some ⟨Cc, 0, none⟩)]]) (L := L) 21 Try.func150 rfl rfl rfl ?_
  refine T_mem ((900, .blk B (.cells #[.int .u32 0, .int .i32 0, .int .u32 0, .int .u32 0, .int .u32 0, .int .u32 0, .int .u32 0, .int .u32 0, .int .u32 0, .int .u32 0, .int .u32 0, .int .u32 0, .int .u32 0, .int .u32 0, .int .u32 0, .int .u32 0, .int .u32 0, .int .u32 0, .int .u32 0] 190)) :: (901, .blk Cc (.cells #[.pointer (some ⟨B, 0, none⟩)] 171)) :: L) (fun _ hm => (hm.of (lk_dup h901)).of (lk_dup (show lk ((901, _) :: L) 900 = _ from (lk_cons_other _ _ (by decide)).trans hi))) ?_
  show T _ _ _ [(0, .pointer (some ⟨B, 0, none⟩)), (1, .func (.func 146) #[] #[.pointer (some ⟨Cc, 0, none⟩)])] ((900, .blk B (.cells #[.int .u32 0, .int .i32 0, .int .u32 0, .int .u32 0, .int .u32 0, .int .u32 0, .int .u32 0, .int .u32 0, .int .u32 0, .int .u32 0, .int .u32 0, .int .u32 0, .int .u32 0, .int .u32 0, .int .u32 0, .int .u32 0, .int .u32 0, .int .u32 0, .int .u32 0] 190)) :: (901, .blk Cc (.cells #[.pointer (some ⟨B, 0, none⟩)] 171)) :: L)
  refine T_seq (T_region ?_)
  refine TL_q (.pointer (some ⟨B, 0, none⟩)) (fun _ _ hρ _ => r_move (hρ _ _ rfl)) rfl rfl rfl (w_n rfl) ?_
  refine TL_q (.pointer (some ⟨B, 0, none⟩)) (fun _ _ hρ _ => r_nilCheck (hρ _ _ rfl) rfl) rfl rfl rfl (w_n rfl) ?_
  refine TL_q (.pointer (some ⟨B, 1, none⟩)) (fun _ _ hρ _ => r_fieldAddr fl187_2 sz185 (hρ _ _ rfl)) rfl rfl rfl (w_n rfl) ?_
  refine TL_callH _ _ _ (fun _ _ hρ _ => r_call (args := [.pointer (some ⟨B, 1, none⟩)]) (enters_of Try.func152 (by kernel_rfl) rfl) (hρ _ _ rfl) ((cons2 (hρ _ _ rfl) rfl)) rfl) (fun w hm => lock_ht _ _ B rfl w hm) rfl rfl rfl (w_n rfl) ?_
  intro _ _
  refine TL_seq ?_
  refine T_seq (T_region ?_)
  refine TL_q (.pointer (some ⟨B, 0, none⟩)) (fun _ _ hρ _ => r_move (hρ _ _ rfl)) rfl rfl rfl (w_n rfl) ?_
  refine TL_q (.pointer (some ⟨B, 0, none⟩)) (fun _ _ hρ _ => r_nilCheck (hρ _ _ rfl) rfl) rfl rfl rfl (w_n rfl) ?_
  refine TL_q (.pointer (some ⟨B, 1, none⟩)) (fun _ _ hρ _ => r_fieldAddr fl187_2 sz185 (hρ _ _ rfl)) rfl rfl rfl (w_n rfl) ?_
  refine TL_defer ({ target := .fn (.func 153) #[], args := #[.pointer (some ⟨B, 1, none⟩)] }) rfl (fun _ _ hρ _ => r_defer (args := [.pointer (some ⟨B, 1, none⟩)]) (hρ _ _ rfl) ((cons2 (hρ _ _ rfl) rfl)) rfl) rfl (w_n rfl) ?_
  refine TL_seq ?_
  refine T_seq (T_region ?_)
  refine TL_q (.pointer (some ⟨B, 0, none⟩)) (fun _ _ hρ _ => r_move (hρ _ _ rfl)) rfl rfl rfl (w_n rfl) ?_
  refine TL_q (.pointer (some ⟨B, 0, none⟩)) (fun _ _ hρ _ => r_nilCheck (hρ _ _ rfl) rfl) rfl rfl rfl (w_n rfl) ?_
  refine TL_q (.pointer (some ⟨B, 0, none⟩)) (fun _ _ hρ _ => r_fieldAddr fl187_1 sz181 (hρ _ _ rfl)) rfl rfl rfl (w_n rfl) ?_
  refine TL_callH _ _ _ (fun _ _ hρ _ => r_call (args := [.pointer (some ⟨B, 0, none⟩)]) (enters_of Try.func149 (by kernel_rfl) rfl) (hρ _ _ rfl) ((cons2 (hρ _ _ rfl) rfl)) rfl) (fun w hm => load_tbL _ _ B rfl w hm) rfl rfl rfl (w_n rfl) ?_
  intro _ _
  refine TL_q (.bool true) (fun _ _ hρ _ => r_not (b := false) (hρ _ _ rfl)) rfl rfl rfl (w_n rfl) ?_
  refine TL_seq ?_
  refine T_cond_t rfl ?_
  refine T_seq (T_region ?_)
  refine TL_q (.pointer (some ⟨B, 0, none⟩)) (fun _ _ hρ _ => r_move (hρ _ _ rfl)) rfl rfl rfl (w_n rfl) ?_
  refine TL_q (.pointer (some ⟨B, 0, none⟩)) (fun _ _ hρ _ => r_nilCheck (hρ _ _ rfl) rfl) rfl rfl rfl (w_n rfl) ?_
  refine TL_q (.pointer (some ⟨B, 0, none⟩)) (fun _ _ hρ _ => r_fieldAddr fl187_1 sz181 (hρ _ _ rfl)) rfl rfl rfl (w_n rfl) ?_
  refine TL_defer ({ target := .fn (.func 154) #[], args := #[.pointer (some ⟨B, 0, none⟩), .bool true] }) rfl (fun _ _ hρ _ => r_defer (args := [.pointer (some ⟨B, 0, none⟩), .bool true]) (hρ _ _ rfl) ((cons2 (hρ _ _ rfl) (cons2 (hρ _ _ rfl) rfl))) rfl) rfl (w_n rfl) ?_
  refine TL_seq ?_
  refine T_region ?_
  refine TL_q (.func (.func 146) #[] #[.pointer (some ⟨Cc, 0, none⟩)]) (fun _ _ hρ _ => r_move (hρ _ _ rfl)) rfl rfl rfl (w_n rfl) ?_
  refine TL_callH _ _ _ (fun _ _ hρ _ => r_call (args := []) (enters_of Try.func146 (by kernel_rfl) rfl) (hρ _ _ rfl) (by rfl) rfl) (fun w hm => rows_ht _ _ B Cc rfl rfl w hm) rfl rfl rfl (w_n rfl) ?_
  intro _ _
  refine TL_nil ?_
  refine p_endD ?_
  refine ret_ofD [{ target := .fn (.func 154) #[], args := #[.pointer (some ⟨B, 0, none⟩), .bool true] }, { target := .fn (.func 153) #[], args := #[.pointer (some ⟨B, 1, none⟩)] }] rfl (fun tmps hk => ?_)
  refine leavesH_cons (enters_of Try.func154 (by kernel_rfl) rfl) (fun w hm => store_d _ _ B rfl w hm) ?_
  refine leavesH_cons (enters_of Try.func153 (by kernel_rfl) rfl) (fun w hm => unlock_d _ _ B rfl w hm) ?_
  refine leavesH_nil (.tuple #[]) (fun _ _ => results_none rfl _ _ _) (fun w hm => ?_)
  refine ⟨(), trivial, rfl, ?_⟩
  refine hm.of (fun k q hk => ?_)
  by_cases e900 : 900 = k
  · subst e900; exact hk
  have f900 : ∀ (K : Heap) (v : Res), lk ((900, v) :: K) k = lk K k := fun K v => lk_cons_other K v e900
  by_cases e901 : 901 = k
  · subst e901; exact h901.symm.trans hk
  have f901 : ∀ (K : Heap) (v : Res), lk ((901, v) :: K) k = lk K k := fun K v => lk_cons_other K v e901
  simp only [f900, f901] at hk ⊢
  exact hk

theorem do0_ht (w₀ : World) (L : Heap) (B Cc : Nat) (hi : lk L 900 = some (.blk B (.cells tbZ 190))) (h901 : lk L 901 = some (.blk Cc (.cells #[.pointer (some ⟨B, 0, none⟩)] 171))) : ∀ w, MemOk w₀ L w → Calls Try.prog 145 #[.pointer (some ⟨B, 0, none⟩), .func (.func 146) #[] #[.pointer (some ⟨Cc, 0, none⟩)]] w (HAns w₀ (fun _ : Unit => True) (fun _ => .tuple #[]) (fun _ => (900, .blk B (.cells tbE 190)) :: L)) := by
  refine ht_of_T (l := [.pointer (some ⟨B, 0, none⟩), .func (.func 146) #[] #[.pointer (some ⟨Cc, 0, none⟩)]]) (L := L) 12 Try.func145 rfl rfl rfl ?_
  refine T_mem ((900, .blk B (.cells #[.int .u32 0, .int .i32 0, .int .u32 0, .int .u32 0, .int .u32 0, .int .u32 0, .int .u32 0, .int .u32 0, .int .u32 0, .int .u32 0, .int .u32 0, .int .u32 0, .int .u32 0, .int .u32 0, .int .u32 0, .int .u32 0, .int .u32 0, .int .u32 0, .int .u32 0] 190)) :: (901, .blk Cc (.cells #[.pointer (some ⟨B, 0, none⟩)] 171)) :: L) (fun _ hm => (hm.of (lk_dup h901)).of (lk_dup (show lk ((901, _) :: L) 900 = _ from (lk_cons_other _ _ (by decide)).trans hi))) ?_
  show T _ _ _ [(0, .pointer (some ⟨B, 0, none⟩)), (1, .func (.func 146) #[] #[.pointer (some ⟨Cc, 0, none⟩)])] ((900, .blk B (.cells #[.int .u32 0, .int .i32 0, .int .u32 0, .int .u32 0, .int .u32 0, .int .u32 0, .int .u32 0, .int .u32 0, .int .u32 0, .int .u32 0, .int .u32 0, .int .u32 0, .int .u32 0, .int .u32 0, .int .u32 0, .int .u32 0, .int .u32 0, .int .u32 0, .int .u32 0] 190)) :: (901, .blk Cc (.cells #[.pointer (some ⟨B, 0, none⟩)] 171)) :: L)
  refine T_seq (T_region ?_)
  refine TL_q (.pointer (some ⟨B, 0, none⟩)) (fun _ _ hρ _ => r_move (hρ _ _ rfl)) rfl rfl rfl (w_n rfl) ?_
  refine TL_q (.pointer (some ⟨B, 0, none⟩)) (fun _ _ hρ _ => r_nilCheck (hρ _ _ rfl) rfl) rfl rfl rfl (w_n rfl) ?_
  refine TL_q (.pointer (some ⟨B, 0, none⟩)) (fun _ _ hρ _ => r_fieldAddr fl187_1 sz181 (hρ _ _ rfl)) rfl rfl rfl (w_n rfl) ?_
  refine TL_callH _ _ _ (fun _ _ hρ _ => r_call (args := [.pointer (some ⟨B, 0, none⟩)]) (enters_of Try.func149 (by kernel_rfl) rfl) (hρ _ _ rfl) ((cons2 (hρ _ _ rfl) rfl)) rfl) (fun w hm => load_tbZ _ _ B rfl w hm) rfl rfl rfl (w_n rfl) ?_
  intro _ _
  refine TL_q (.bool true) (fun _ _ hρ _ => r_not (b := false) (hρ _ _ rfl)) rfl rfl rfl (w_n rfl) ?_
  refine TL_seq ?_
  refine T_cond_t rfl ?_
  refine T_region ?_
  refine TL_q (.pointer (some ⟨B, 0, none⟩)) (fun _ _ hρ _ => r_move (hρ _ _ rfl)) rfl rfl rfl (w_n rfl) ?_
  refine TL_q (.func (.func 146) #[] #[.pointer (some ⟨Cc, 0, none⟩)]) (fun _ _ hρ _ => r_move (hρ _ _ rfl)) rfl rfl rfl (w_n rfl) ?_
  refine TL_callH _ _ _ (fun _ _ hρ _ => r_call (args := [.pointer (some ⟨B, 0, none⟩), .func (.func 146) #[] #[.pointer (some ⟨Cc, 0, none⟩)]]) (enters_of Try.func150 (by kernel_rfl) rfl) (hρ _ _ rfl) ((cons2 (hρ _ _ rfl) (cons2 (hρ _ _ rfl) rfl))) rfl) (fun w hm => slow_ht _ _ B Cc rfl rfl w hm) rfl rfl rfl (w_n rfl) ?_
  intro _ _
  refine TL_nil ?_
  refine p_end ?_
  refine ret_of rfl (.tuple #[]) (fun tmps w hk hm => results_none rfl _ _ _) (fun w hm => ?_)
  refine ⟨(), trivial, rfl, ?_⟩
  refine hm.of (fun k q hk => ?_)
  by_cases e900 : 900 = k
  · subst e900; exact hk
  have f900 : ∀ (K : Heap) (v : Res), lk ((900, v) :: K) k = lk K k := fun K v => lk_cons_other K v e900
  by_cases e901 : 901 = k
  · subst e901; exact h901.symm.trans hk
  have f901 : ∀ (K : Heap) (v : Res), lk ((901, v) :: K) k = lk K k := fun K v => lk_cons_other K v e901
  simp only [f900, f901] at hk ⊢
  exact hk

theorem do1_ht (w₀ : World) (L : Heap) (B Cc : Nat) (hi : lk L 900 = some (.blk B (.cells tbE 190))) (h901 : lk L 901 = some (.blk Cc (.cells #[.pointer (some ⟨B, 0, none⟩)] 171))) : ∀ w, MemOk w₀ L w → Calls Try.prog 145 #[.pointer (some ⟨B, 0, none⟩), .func (.func 146) #[] #[.pointer (some ⟨Cc, 0, none⟩)]] w (HAns w₀ (fun _ : Unit => True) (fun _ => .tuple #[]) (fun _ => (900, .blk B (.cells tbE 190)) :: L)) := by
  refine ht_of_T (l := [.pointer (some ⟨B, 0, none⟩), .func (.func 146) #[] #[.pointer (some ⟨Cc, 0, none⟩)]]) (L := L) 12 Try.func145 rfl rfl rfl ?_
  refine T_mem ((900, .blk B (.cells #[.int .u32 1, .int .i32 0, .int .u32 0, .int .u32 0, .int .u32 498536548, .int .u32 997073096, .int .u32 651767980, .int .u32 1994146192, .int .u32 1802195444, .int .u32 1303535960, .int .u32 1342533948, .int .u32 3988292384, .int .u32 4027552580, .int .u32 3604390888, .int .u32 3412177804, .int .u32 2607071920, .int .u32 2262029012, .int .u32 2685067896, .int .u32 3183342108] 190)) :: (901, .blk Cc (.cells #[.pointer (some ⟨B, 0, none⟩)] 171)) :: L) (fun _ hm => (hm.of (lk_dup h901)).of (lk_dup (show lk ((901, _) :: L) 900 = _ from (lk_cons_other _ _ (by decide)).trans hi))) ?_
  show T _ _ _ [(0, .pointer (some ⟨B, 0, none⟩)), (1, .func (.func 146) #[] #[.pointer (some ⟨Cc, 0, none⟩)])] ((900, .blk B (.cells #[.int .u32 1, .int .i32 0, .int .u32 0, .int .u32 0, .int .u32 498536548, .int .u32 997073096, .int .u32 651767980, .int .u32 1994146192, .int .u32 1802195444, .int .u32 1303535960, .int .u32 1342533948, .int .u32 3988292384, .int .u32 4027552580, .int .u32 3604390888, .int .u32 3412177804, .int .u32 2607071920, .int .u32 2262029012, .int .u32 2685067896, .int .u32 3183342108] 190)) :: (901, .blk Cc (.cells #[.pointer (some ⟨B, 0, none⟩)] 171)) :: L)
  refine T_seq (T_region ?_)
  refine TL_q (.pointer (some ⟨B, 0, none⟩)) (fun _ _ hρ _ => r_move (hρ _ _ rfl)) rfl rfl rfl (w_n rfl) ?_
  refine TL_q (.pointer (some ⟨B, 0, none⟩)) (fun _ _ hρ _ => r_nilCheck (hρ _ _ rfl) rfl) rfl rfl rfl (w_n rfl) ?_
  refine TL_q (.pointer (some ⟨B, 0, none⟩)) (fun _ _ hρ _ => r_fieldAddr fl187_1 sz181 (hρ _ _ rfl)) rfl rfl rfl (w_n rfl) ?_
  refine TL_callH _ _ _ (fun _ _ hρ _ => r_call (args := [.pointer (some ⟨B, 0, none⟩)]) (enters_of Try.func149 (by kernel_rfl) rfl) (hρ _ _ rfl) ((cons2 (hρ _ _ rfl) rfl)) rfl) (fun w hm => load_tbE _ _ B rfl w hm) rfl rfl rfl (w_n rfl) ?_
  intro _ _
  refine TL_q (.bool false) (fun _ _ hρ _ => r_not (b := true) (hρ _ _ rfl)) rfl rfl rfl (w_n rfl) ?_
  refine TL_seq ?_
  refine T_cond_f rfl ?_
  refine T_skip' ?_
  refine p_end ?_
  refine ret_of rfl (.tuple #[]) (fun tmps w hk hm => results_none rfl _ _ _) (fun w hm => ?_)
  refine ⟨(), trivial, rfl, ?_⟩
  refine hm.of (fun k q hk => ?_)
  by_cases e900 : 900 = k
  · subst e900; exact hk
  have f900 : ∀ (K : Heap) (v : Res), lk ((900, v) :: K) k = lk K k := fun K v => lk_cons_other K v e900
  by_cases e901 : 901 = k
  · subst e901; exact h901.symm.trans hk
  have f901 : ∀ (K : Heap) (v : Res), lk ((901, v) :: K) k = lk K k := fun K v => lk_cons_other K v e901
  simp only [f900, f901] at hk ⊢
  exact hk

theorem at0_ht (w₀ : World) (L : Heap) (B : Nat) (x : Wd) (hx : x.toNat < 16) (hi : lk L 900 = some (.blk B (.cells tbZ 190))) (hf : lk L 901 = none) : ∀ w, MemOk w₀ L w → Calls Try.prog 141 #[.pointer (some ⟨B, 0, none⟩), .int .u32 (x.toNat : Int)] w (HAns w₀ (fun _ : Unit => True) (fun _ => .int .u32 ((fedN 4 x).toNat : Int)) (fun _ => (900, .blk B (.cells tbE 190)) :: L)) := by
  refine ht_of_T (l := [.pointer (some ⟨B, 0, none⟩), .int .u32 ((x).toNat : Int)]) (L := L) 16 Try.func141 rfl rfl rfl ?_
  refine T_mem ((900, .blk B (.cells #[.int .u32 0, .int .i32 0, .int .u32 0, .int .u32 0, .int .u32 0, .int .u32 0, .int .u32 0, .int .u32 0, .int .u32 0, .int .u32 0, .int .u32 0, .int .u32 0, .int .u32 0, .int .u32 0, .int .u32 0, .int .u32 0, .int .u32 0, .int .u32 0, .int .u32 0] 190)) :: L) (fun _ hm => hm.of (lk_dup hi)) ?_
  show T _ _ _ [(0, .pointer (some ⟨B, 0, none⟩)), (1, .int .u32 ((x).toNat : Int))] ((900, .blk B (.cells #[.int .u32 0, .int .i32 0, .int .u32 0, .int .u32 0, .int .u32 0, .int .u32 0, .int .u32 0, .int .u32 0, .int .u32 0, .int .u32 0, .int .u32 0, .int .u32 0, .int .u32 0, .int .u32 0, .int .u32 0, .int .u32 0, .int .u32 0, .int .u32 0, .int .u32 0] 190)) :: L)
  refine T_seq (T_region ?_)
  refine TL_new 901 (.cells #[.pointer (some ⟨B, 0, none⟩)] 171) (fun B => .pointer (some ⟨B, 0, none⟩)) (fun _ _ hρ _ => r_box (hρ _ _ rfl) rfl) rfl rfl rfl (w_n rfl) ?_
  intro B1
  refine TL_q (.int .u32 0) (fun _ _ hρ _ => r_assign (hρ _ _ rfl)) rfl rfl rfl (w_n rfl) ?_
  refine TL_seq ?_
  refine T_seq (T_region ?_)
  refine TL_q (.pointer (some ⟨B, 0, none⟩)) (fun _ _ hρ hm => r_load ag171 (hρ _ _ rfl) (hm.at 901 rfl) rfl) rfl rfl rfl (w_n rfl) ?_
  refine TL_q (.pointer (some ⟨B, 0, none⟩)) (fun _ _ hρ _ => r_nilCheck (hρ _ _ rfl) rfl) rfl rfl rfl (w_n rfl) ?_
  refine TL_q (.pointer (some ⟨B, 0, none⟩)) (fun _ _ hρ _ => r_fieldAddr fl190_0 sz187 (hρ _ _ rfl)) rfl rfl rfl (w_n rfl) ?_
  refine TL_q (.func (.func 146) #[] #[.pointer (some ⟨B1, 0, none⟩)]) (fun _ _ hρ _ => r_makeFunc (by simp) (map_arr (cons2 (hρ _ _ rfl) rfl))) rfl rfl rfl (w_n rfl) ?_
  refine TL_callH _ _ _ (fun _ _ hρ _ => r_call (args := [.pointer (some ⟨B, 0, none⟩), .func (.func 146) #[] #[.pointer (some ⟨B1, 0, none⟩)]]) (enters_of Try.func145 (by kernel_rfl) rfl) (hρ _ _ rfl) ((cons2 (hρ _ _ rfl) (cons2 (hρ _ _ rfl) rfl))) rfl) (fun w hm => do0_ht _ _ B B1 rfl rfl w hm) rfl rfl rfl (w_n rfl) ?_
  intro _ _
  refine TL_seq ?_
  refine T_seq (T_region ?_)
  refine TL_q (.pointer (some ⟨B, 0, none⟩)) (fun _ _ hρ hm => r_load ag171 (hρ _ _ rfl) (hm.at 901 rfl) rfl) rfl rfl rfl (w_n rfl) ?_
  refine TL_q (.int .u32 ((x).toNat : Int)) (fun _ _ hρ _ => r_move (hρ _ _ rfl)) rfl rfl rfl (w_n rfl) ?_
  refine TL_q (.pointer (some ⟨B, 0, none⟩)) (fun _ _ hρ _ => r_nilCheck (hρ _ _ rfl) rfl) rfl rfl rfl (w_n rfl) ?_
  refine TL_q (.pointer (some ⟨B, 3, none⟩)) (fun _ _ hρ _ => r_fieldAddr fl190_1 sz188 (hρ _ _ rfl)) rfl rfl rfl (w_n rfl) ?_
  refine TL_q (.pointer (some ⟨B, 3 + ((x).toNat) * 1, none⟩)) (fun _ _ hρ _ => r_indexAddrA (i := (x).toNat) ar188 sz46 (hρ _ _ rfl) (hρ _ _ rfl) (by omega)) rfl rfl rfl (w_n rfl) ?_
  refine TL_q (.int .u32 ((fedN 4 x).toNat : Int)) (fun _ _ hρ hm => r_load ag46 (hρ _ _ rfl) (hm.at 900 rfl) (tbE_at x hx)) rfl rfl rfl (w_n rfl) ?_
  refine TL_q (.int .u32 ((fedN 4 x).toNat : Int)) (fun _ _ hρ _ => r_assign (hρ _ _ rfl)) rfl rfl rfl (w_n rfl) ?_
  refine TL_seq ?_
  refine T_ret' ?_
  refine ret_of rfl (.int .u32 ((fedN 4 x).toNat : Int)) (fun tmps w hk hm => res1 rfl (res_tmp (hk 4 _ rfl))) (fun w hm => ?_)
  refine ⟨(), trivial, rfl, ?_⟩
  refine hm.of (fun k q hk => ?_)
  by_cases e900 : 900 = k
  · subst e900; exact hk
  have f900 : ∀ (K : Heap) (v : Res), lk ((900, v) :: K) k = lk K k := fun K v => lk_cons_other K v e900
  by_cases e901 : 901 = k
  · subst e901; exact absurd (hf.symm.trans hk) (by simp)
  have f901 : ∀ (K : Heap) (v : Res), lk ((901, v) :: K) k = lk K k := fun K v => lk_cons_other K v e901
  simp only [f900, f901] at hk ⊢
  exact hk

theorem at1_ht (w₀ : World) (L : Heap) (B : Nat) (x : Wd) (hx : x.toNat < 16) (hi : lk L 900 = some (.blk B (.cells tbE 190))) (hf : lk L 901 = none) : ∀ w, MemOk w₀ L w → Calls Try.prog 141 #[.pointer (some ⟨B, 0, none⟩), .int .u32 (x.toNat : Int)] w (HAns w₀ (fun _ : Unit => True) (fun _ => .int .u32 ((fedN 4 x).toNat : Int)) (fun _ => (900, .blk B (.cells tbE 190)) :: L)) := by
  refine ht_of_T (l := [.pointer (some ⟨B, 0, none⟩), .int .u32 ((x).toNat : Int)]) (L := L) 16 Try.func141 rfl rfl rfl ?_
  refine T_mem ((900, .blk B (.cells #[.int .u32 1, .int .i32 0, .int .u32 0, .int .u32 0, .int .u32 498536548, .int .u32 997073096, .int .u32 651767980, .int .u32 1994146192, .int .u32 1802195444, .int .u32 1303535960, .int .u32 1342533948, .int .u32 3988292384, .int .u32 4027552580, .int .u32 3604390888, .int .u32 3412177804, .int .u32 2607071920, .int .u32 2262029012, .int .u32 2685067896, .int .u32 3183342108] 190)) :: L) (fun _ hm => hm.of (lk_dup hi)) ?_
  show T _ _ _ [(0, .pointer (some ⟨B, 0, none⟩)), (1, .int .u32 ((x).toNat : Int))] ((900, .blk B (.cells #[.int .u32 1, .int .i32 0, .int .u32 0, .int .u32 0, .int .u32 498536548, .int .u32 997073096, .int .u32 651767980, .int .u32 1994146192, .int .u32 1802195444, .int .u32 1303535960, .int .u32 1342533948, .int .u32 3988292384, .int .u32 4027552580, .int .u32 3604390888, .int .u32 3412177804, .int .u32 2607071920, .int .u32 2262029012, .int .u32 2685067896, .int .u32 3183342108] 190)) :: L)
  refine T_seq (T_region ?_)
  refine TL_new 901 (.cells #[.pointer (some ⟨B, 0, none⟩)] 171) (fun B => .pointer (some ⟨B, 0, none⟩)) (fun _ _ hρ _ => r_box (hρ _ _ rfl) rfl) rfl rfl rfl (w_n rfl) ?_
  intro B1
  refine TL_q (.int .u32 0) (fun _ _ hρ _ => r_assign (hρ _ _ rfl)) rfl rfl rfl (w_n rfl) ?_
  refine TL_seq ?_
  refine T_seq (T_region ?_)
  refine TL_q (.pointer (some ⟨B, 0, none⟩)) (fun _ _ hρ hm => r_load ag171 (hρ _ _ rfl) (hm.at 901 rfl) rfl) rfl rfl rfl (w_n rfl) ?_
  refine TL_q (.pointer (some ⟨B, 0, none⟩)) (fun _ _ hρ _ => r_nilCheck (hρ _ _ rfl) rfl) rfl rfl rfl (w_n rfl) ?_
  refine TL_q (.pointer (some ⟨B, 0, none⟩)) (fun _ _ hρ _ => r_fieldAddr fl190_0 sz187 (hρ _ _ rfl)) rfl rfl rfl (w_n rfl) ?_
  refine TL_q (.func (.func 146) #[] #[.pointer (some ⟨B1, 0, none⟩)]) (fun _ _ hρ _ => r_makeFunc (by simp) (map_arr (cons2 (hρ _ _ rfl) rfl))) rfl rfl rfl (w_n rfl) ?_
  refine TL_callH _ _ _ (fun _ _ hρ _ => r_call (args := [.pointer (some ⟨B, 0, none⟩), .func (.func 146) #[] #[.pointer (some ⟨B1, 0, none⟩)]]) (enters_of Try.func145 (by kernel_rfl) rfl) (hρ _ _ rfl) ((cons2 (hρ _ _ rfl) (cons2 (hρ _ _ rfl) rfl))) rfl) (fun w hm => do1_ht _ _ B B1 rfl rfl w hm) rfl rfl rfl (w_n rfl) ?_
  intro _ _
  refine TL_seq ?_
  refine T_seq (T_region ?_)
  refine TL_q (.pointer (some ⟨B, 0, none⟩)) (fun _ _ hρ hm => r_load ag171 (hρ _ _ rfl) (hm.at 901 rfl) rfl) rfl rfl rfl (w_n rfl) ?_
  refine TL_q (.int .u32 ((x).toNat : Int)) (fun _ _ hρ _ => r_move (hρ _ _ rfl)) rfl rfl rfl (w_n rfl) ?_
  refine TL_q (.pointer (some ⟨B, 0, none⟩)) (fun _ _ hρ _ => r_nilCheck (hρ _ _ rfl) rfl) rfl rfl rfl (w_n rfl) ?_
  refine TL_q (.pointer (some ⟨B, 3, none⟩)) (fun _ _ hρ _ => r_fieldAddr fl190_1 sz188 (hρ _ _ rfl)) rfl rfl rfl (w_n rfl) ?_
  refine TL_q (.pointer (some ⟨B, 3 + ((x).toNat) * 1, none⟩)) (fun _ _ hρ _ => r_indexAddrA (i := (x).toNat) ar188 sz46 (hρ _ _ rfl) (hρ _ _ rfl) (by omega)) rfl rfl rfl (w_n rfl) ?_
  refine TL_q (.int .u32 ((fedN 4 x).toNat : Int)) (fun _ _ hρ hm => r_load ag46 (hρ _ _ rfl) (hm.at 900 rfl) (tbE_at x hx)) rfl rfl rfl (w_n rfl) ?_
  refine TL_q (.int .u32 ((fedN 4 x).toNat : Int)) (fun _ _ hρ _ => r_assign (hρ _ _ rfl)) rfl rfl rfl (w_n rfl) ?_
  refine TL_seq ?_
  refine T_ret' ?_
  refine ret_of rfl (.int .u32 ((fedN 4 x).toNat : Int)) (fun tmps w hk hm => res1 rfl (res_tmp (hk 4 _ rfl))) (fun w hm => ?_)
  refine ⟨(), trivial, rfl, ?_⟩
  refine hm.of (fun k q hk => ?_)
  by_cases e900 : 900 = k
  · subst e900; exact hk
  have f900 : ∀ (K : Heap) (v : Res), lk ((900, v) :: K) k = lk K k := fun K v => lk_cons_other K v e900
  by_cases e901 : 901 = k
  · subst e901; exact absurd (hf.symm.trans hk) (by simp)
  have f901 : ∀ (K : Heap) (v : Res), lk ((901, v) :: K) k = lk K k := fun K v => lk_cons_other K v e901
  simp only [f900, f901] at hk ⊢
  exact hk

theorem at_ht (w₀ : World) (L : Heap) (B : Nat) (x : Wd) (hx : x.toNat < 16) (d : Bool) (hi : lk L 900 = some (.blk B (.cells (tbS d) 190))) (hf : lk L 901 = none) : ∀ w, MemOk w₀ L w → Calls Try.prog 141 #[.pointer (some ⟨B, 0, none⟩), .int .u32 (x.toNat : Int)] w (HAns w₀ (fun _ : Unit => True) (fun _ => .int .u32 ((fedN 4 x).toNat : Int)) (fun _ => (900, .blk B (.cells tbE 190)) :: L)) := by
  cases d with
  | false => exact at0_ht w₀ L B x hx hi hf
  | true => exact at1_ht w₀ L B x hx hi hf

theorem feed_ht (w₀ : World) (L : Heap) (B R : Nat) (r : Wd) (b : By) (d : Bool) (hi : lk L 900 = some (.blk B (.cells (tbS d) 190))) (h902 : lk L 902 = some (.blk R (.cells #[.pointer (some ⟨B, 0, none⟩), .int .u32 ((r).toNat : Int)] 173))) (hf : lk L 901 = none) :
    ∀ w, MemOk w₀ L w → Calls Try.prog 134 #[.pointer (some ⟨R, 0, none⟩), .int .u8 (b.toNat : Int)] w (HAns w₀ (fun _ : Unit => True) (fun _ => .tuple #[]) (fun _ => (900, .blk B (.cells tbE 190)) :: (902, .blk R (.cells #[.pointer (some ⟨B, 0, none⟩), .int .u32 ((step r b).toNat : Int)] 173)) :: L)) := by
  refine ht_of_T (l := [.pointer (some ⟨R, 0, none⟩), .int .u8 ((b).toNat : Int)]) (L := L) 35 Try.func134 rfl rfl rfl ?_
  refine T_mem ((900, .blk B (.cells (tbS d) 190)) :: (902, .blk R (.cells #[.pointer (some ⟨B, 0, none⟩), .int .u32 ((r).toNat : Int)] 173)) :: L) (fun _ hm => (hm.of (lk_dup h902)).of (lk_dup (show lk ((902, _) :: L) 900 = _ from (lk_cons_other _ _ (by decide)).trans hi))) ?_
  show T _ _ _ [(0, .pointer (some ⟨R, 0, none⟩)), (1, .int .u8 ((b).toNat : Int))] ((900, .blk B (.cells (tbS d) 190)) :: (902, .blk R (.cells #[.pointer (some ⟨B, 0, none⟩), .int .u32 ((r).toNat : Int)] 173)) :: L)
  refine T_seq (T_region ?_)
  refine TL_q (.pointer (some ⟨R, 0, none⟩)) (fun _ _ hρ _ => r_move (hρ _ _ rfl)) rfl rfl rfl (w_n rfl) ?_
  refine TL_q (.pointer (some ⟨R, 0, none⟩)) (fun _ _ hρ _ => r_nilCheck (hρ _ _ rfl) rfl) rfl rfl rfl (w_n rfl) ?_
  refine TL_q (.pointer (some ⟨R, 1, none⟩)) (fun _ _ hρ _ => r_fieldAddr fl173_1 sz46 (hρ _ _ rfl)) rfl rfl rfl (w_n rfl) ?_
  refine TL_q (.int .u32 ((r).toNat : Int)) (fun _ _ hρ hm => r_load ag46 (hρ _ _ rfl) (hm.at 902 rfl) rfl) rfl rfl rfl (w_n rfl) ?_
  refine TL_q (.int .u8 ((b).toNat : Int)) (fun _ _ hρ _ => r_move (hρ _ _ rfl)) rfl rfl rfl (w_n rfl) ?_
  refine TL_q (.int .u32 ((b.setWidth 32).toNat : Int)) (fun _ _ hρ _ => r_convB (k := .u8) (k' := .u32) (a := b) un5 io46 rfl (hρ _ _ rfl)) rfl rfl rfl (w_n rfl) ?_
  refine TL_q (.int .u32 ((r ^^^ (b.setWidth 32)).toNat : Int)) (fun _ _ hρ _ => r_xorB (k := .u32) (a := r) (b := (b.setWidth 32)) rfl (hρ _ _ rfl) (hρ _ _ rfl)) rfl rfl rfl (w_n rfl) ?_
  refine TL_q (.pointer (some ⟨R, 0, none⟩)) (fun _ _ hρ _ => r_nilCheck (hρ _ _ rfl) rfl) rfl rfl rfl (w_n rfl) ?_
  refine TL_q (.pointer (some ⟨R, 1, none⟩)) (fun _ _ hρ _ => r_fieldAddr fl173_1 sz46 (hρ _ _ rfl)) rfl rfl rfl (w_n rfl) ?_
  refine TL_store 902 (.cells #[.pointer (some ⟨B, 0, none⟩), .int .u32 ((r ^^^ (b.setWidth 32)).toNat : Int)] 173) rfl (fun _ _ hρ hm => r_store sz46 (hρ _ _ rfl) (hρ _ _ rfl) (hm.at 902 rfl) rfl rfl rfl rfl) rfl rfl (w_n rfl) ?_
  refine TL_seq ?_
  refine T_seq (T_region ?_)
  refine TL_q (.int .i64 0) (fun _ _ hρ _ => r_move (hρ _ _ rfl)) rfl rfl rfl (w_n rfl) ?_
  refine TL_seq ?_
  refine T_block ?_
  refine T_rounds 3 ?_
  refine TR_succ ?_
  refine T_seq (T_region ?_)
  refine TL_q (.bool true) (fun _ _ hρ _ => r_as (r_lss (hρ _ _ rfl) (hρ _ _ rfl)) (by rfl)) rfl rfl rfl (w_n rfl) ?_
  refine TL_seq ?_
  refine T_seq ?_
  refine T_cond_t rfl ?_
  refine T_skip' ?_
  refine p_seq ?_
  refine T_seq ?_
  refine T_block ?_
  refine T_draw (V := [(0, .pointer (some ⟨R, 0, none⟩)), (1, .pointer (some ⟨R, 0, none⟩)), (2, .pointer (some ⟨R, 0, none⟩)), (3, .pointer (some ⟨R, 1, none⟩)), (4, .int .u32 ((r ^^^ (b.setWidth 32)).toNat : Int)), (5, .int .u32 (((r ^^^ (b.setWidth 32)) >>> 4).toNat : Int)), (6, .pointer (some ⟨R, 0, none⟩)), (7, .pointer (some ⟨R, 0, none⟩)), (8, .pointer (some ⟨R, 0, none⟩)), (9, .pointer (some ⟨B, 0, none⟩)), (10, .pointer (some ⟨R, 0, none⟩)), (11, .pointer (some ⟨R, 0, none⟩)), (12, .pointer (some ⟨R, 1, none⟩)), (13, .int .u32 ((r ^^^ (b.setWidth 32)).toNat : Int)), (14, .int .u32 (((r ^^^ (b.setWidth 32)) &&& (15#32)).toNat : Int))]) [0, 0, 2, 6, 14, 30, 0, 64, 192, 448, 0, 1024, 3072, 7168, 15360, 32704, 65534, 131071, 262143, 524287] [[(0, none)], [(0, none)], [(16, some 1)], [(17, some 2)], [(18, some 3)], [(19, some 4)], [(0, none)], [(21, some 6)], [(22, some 7)], [(23, some 8)], [(0, none)], [(25, some 10)], [(26, some 11)], [(27, some 12)], [(28, some 13)], [(24, some 9), (29, some 14)], [(20, some 5), (30, some 15)], [(15, some 0)], [(32, some 17)], [(33, some 18), (31, some 16)]] 557056 mixed (by kernel_rfl) ?_
  refine G_step [0, 1, 2, 3, 4, 5, 6, 7, 8, 9, 10, 11, 12, 13, 14] 15 [] (by kernel_rfl) (allM (all_cons (q_run (.pointer (some ⟨R, 0, none⟩)) rfl rfl (wv_n rfl) rfl (fun _ _ hρ _ => r_move (hρ _ _ rfl))) (all_cons (q_run (.pointer (some ⟨R, 0, none⟩)) rfl rfl (wv_n rfl) rfl (fun _ _ hρ _ => r_move (hρ _ _ rfl))) (all_cons (q_run (.pointer (some ⟨R, 0, none⟩)) rfl rfl (wv_n rfl) rfl (fun _ _ hρ _ => r_nilCheck (hρ _ _ rfl) rfl)) (all_cons (q_run (.pointer (some ⟨R, 1, none⟩)) rfl rfl (wv_n rfl) rfl (fun _ _ hρ _ => r_fieldAddr fl173_1 sz46 (hρ _ _ rfl))) (all_cons (q_run (.int .u32 ((r ^^^ (b.setWidth 32)).toNat : Int)) rfl rfl (wv_n rfl) rfl (fun _ _ hρ hm => r_load ag46 (hρ _ _ rfl) (hm.at 902 rfl) rfl)) (all_cons (q_run (.int .u32 (((r ^^^ (b.setWidth 32)) >>> 4).toNat : Int)) rfl rfl (wv_n rfl) rfl (fun _ _ hρ _ => r_shrB (k := .u32) (a := (r ^^^ (b.setWidth 32))) (n := 4) (by decide) (hρ _ _ rfl) (hρ _ _ rfl))) (all_cons (q_run (.pointer (some ⟨R, 0, none⟩)) rfl rfl (wv_n rfl) rfl (fun _ _ hρ _ => r_move (hρ _ _ rfl))) (all_cons (q_run (.pointer (some ⟨R, 0, none⟩)) rfl rfl (wv_n rfl) rfl (fun _ _ hρ _ => r_nilCheck (hρ _ _ rfl) rfl)) (all_cons (q_run (.pointer (some ⟨R, 0, none⟩)) rfl rfl (wv_n rfl) rfl (fun _ _ hρ _ => r_fieldAddr fl173_0 sz171 (hρ _ _ rfl))) (all_cons (q_run (.pointer (some ⟨B, 0, none⟩)) rfl rfl (wv_n rfl) rfl (fun _ _ hρ hm => r_load ag171 (hρ _ _ rfl) (hm.at 902 rfl) rfl)) (all_cons (q_run (.pointer (some ⟨R, 0, none⟩)) rfl rfl (wv_n rfl) rfl (fun _ _ hρ _ => r_move (hρ _ _ rfl))) (all_cons (q_run (.pointer (some ⟨R, 0, none⟩)) rfl rfl (wv_n rfl) rfl (fun _ _ hρ _ => r_nilCheck (hρ _ _ rfl) rfl)) (all_cons (q_run (.pointer (some ⟨R, 1, none⟩)) rfl rfl (wv_n rfl) rfl (fun _ _ hρ _ => r_fieldAddr fl173_1 sz46 (hρ _ _ rfl))) (all_cons (q_run (.int .u32 ((r ^^^ (b.setWidth 32)).toNat : Int)) rfl rfl (wv_n rfl) rfl (fun _ _ hρ hm => r_load ag46 (hρ _ _ rfl) (hm.at 902 rfl) rfl)) (all_cons (q_run (.int .u32 (((r ^^^ (b.setWidth 32)) &&& (15#32)).toNat : Int)) rfl rfl (wv_n rfl) rfl (fun _ _ hρ _ => r_andB (k := .u32) (a := (r ^^^ (b.setWidth 32))) (b := (15#32)) rfl (hρ _ _ rfl) (hρ _ _ rfl))) all_nil)))))))))))))))) (allM (all_cons ?_ all_nil))
  refine LOb_callH _ _ _ (fun _ => [(16, .int .u32 ((((r ^^^ (b.setWidth 32)) >>> 4) ^^^ (fedN 4 ((r ^^^ (b.setWidth 32)) &&& (15#32)))).toNat : Int)), (17, .pointer (some ⟨R, 0, none⟩)), (18, .pointer (some ⟨R, 1, none⟩))]) rfl (wv_n rfl) rfl rfl (fun _ _ hρ _ => r_call (args := [.pointer (some ⟨B, 0, none⟩), .int .u32 (((r ^^^ (b.setWidth 32)) &&& (15#32)).toNat : Int)]) (enters_of Try.func141 (by kernel_rfl) rfl) (hρ _ _ rfl) ((cons2 (hρ _ _ rfl) (cons2 (hρ _ _ rfl) rfl))) rfl) (fun w hm => at_ht _ _ B ((r ^^^ (b.setWidth 32)) &&& (15#32)) (and15 _) d rfl (by exact hf) w hm) (fun _ => by kernel_rfl) ?_
  intro _ _
  refine G_step [0, 1, 2, 3, 4, 5, 16, 17, 18] 19 [] (by kernel_rfl) (allM (all_cons (q_run (.pointer (some ⟨R, 0, none⟩)) rfl rfl (wv_n rfl) rfl (fun _ _ hρ _ => r_move (hρ _ _ rfl))) (all_cons (q_run (.pointer (some ⟨R, 0, none⟩)) rfl rfl (wv_n rfl) rfl (fun _ _ hρ _ => r_move (hρ _ _ rfl))) (all_cons (q_run (.pointer (some ⟨R, 0, none⟩)) rfl rfl (wv_n rfl) rfl (fun _ _ hρ _ => r_nilCheck (hρ _ _ rfl) rfl)) (all_cons (q_run (.pointer (some ⟨R, 1, none⟩)) rfl rfl (wv_n rfl) rfl (fun _ _ hρ _ => r_fieldAddr fl173_1 sz46 (hρ _ _ rfl))) (all_cons (q_run (.int .u32 ((r ^^^ (b.setWidth 32)).toNat : Int)) rfl rfl (wv_n rfl) rfl (fun _ _ hρ hm => r_load ag46 (hρ _ _ rfl) (hm.at 902 rfl) rfl)) (all_cons (q_run (.int .u32 (((r ^^^ (b.setWidth 32)) >>> 4).toNat : Int)) rfl rfl (wv_n rfl) rfl (fun _ _ hρ _ => r_shrB (k := .u32) (a := (r ^^^ (b.setWidth 32))) (n := 4) (by decide) (hρ _ _ rfl) (hρ _ _ rfl))) (all_cons (q_run (.int .u32 ((((r ^^^ (b.setWidth 32)) >>> 4) ^^^ (fedN 4 ((r ^^^ (b.setWidth 32)) &&& (15#32)))).toNat : Int)) rfl rfl (wv_n rfl) rfl (fun _ _ hρ _ => r_xorB (k := .u32) (a := ((r ^^^ (b.setWidth 32)) >>> 4)) (b := (fedN 4 ((r ^^^ (b.setWidth 32)) &&& (15#32)))) rfl (hρ _ _ rfl) (hρ _ _ rfl))) (all_cons (q_run (.pointer (some ⟨R, 0, none⟩)) rfl rfl (wv_n rfl) rfl (fun _ _ hρ _ => r_nilCheck (hρ _ _ rfl) rfl)) (all_cons (q_run (.pointer (some ⟨R, 1, none⟩)) rfl rfl (wv_n rfl) rfl (fun _ _ hρ _ => r_fieldAddr fl173_1 sz46 (hρ _ _ rfl))) all_nil)))))))))) (allM (all_cons ?_ all_nil))
  refine LOb_store 902 (.cells #[.pointer (some ⟨B, 0, none⟩), .int .u32 ((((r ^^^ (b.setWidth 32)) >>> 4) ^^^ (fedN 4 ((r ^^^ (b.setWidth 32)) &&& (15#32)))).toNat : Int)] 173) [] rfl (wv_n rfl) rfl rfl rfl (fun _ _ hρ hm => r_store sz46 (hρ _ _ rfl) (hρ _ _ rfl) (hm.at 902 rfl) rfl rfl rfl rfl) (by kernel_rfl) ?_
  refine G_lastQ [] [(0, .pointer (some ⟨R, 0, none⟩)), (13, .int .i64 0), (14, .bool true), (15, .pointer (some ⟨R, 0, none⟩)), (16, .pointer (some ⟨R, 0, none⟩)), (17, .pointer (some ⟨R, 0, none⟩)), (18, .pointer (some ⟨R, 1, none⟩)), (19, .int .u32 ((r ^^^ (b.setWidth 32)).toNat : Int)), (20, .int .u32 (((r ^^^ (b.setWidth 32)) >>> 4).toNat : Int)), (21, .pointer (some ⟨R, 0, none⟩)), (22, .pointer (some ⟨R, 0, none⟩)), (23, .pointer (some ⟨R, 0, none⟩)), (24, .pointer (some ⟨B, 0, none⟩)), (25, .pointer (some ⟨R, 0, none⟩)), (26, .pointer (some ⟨R, 0, none⟩)), (27, .pointer (some ⟨R, 1, none⟩)), (28, .int .u32 ((r ^^^ (b.setWidth 32)).toNat : Int)), (29, .int .u32 (((r ^^^ (b.setWidth 32)) &&& (15#32)).toNat : Int)), (30, .int .u32 ((fedN 4 ((r ^^^ (b.setWidth 32)) &&& (15#32))).toNat : Int)), (31, .int .u32 ((((r ^^^ (b.setWidth 32)) >>> 4) ^^^ (fedN 4 ((r ^^^ (b.setWidth 32)) &&& (15#32)))).toNat : Int)), (32, .pointer (some ⟨R, 0, none⟩)), (33, .pointer (some ⟨R, 1, none⟩))] (by kernel_rfl) (allM all_nil) (end_old rfl rfl (end_old rfl rfl (end_old rfl rfl (end_new 0 rfl rfl (end_new 1 rfl rfl (end_new 2 rfl rfl (end_new 3 rfl rfl (end_new 4 rfl rfl (end_new 5 rfl rfl (end_new 6 rfl rfl (end_new 7 rfl rfl (end_new 8 rfl rfl (end_new 9 rfl rfl (end_new 10 rfl rfl (end_new 11 rfl rfl (end_new 12 rfl rfl (end_new 13 rfl rfl (end_new 14 rfl rfl (end_new 15 rfl rfl (end_new 16 rfl rfl (end_new 17 rfl rfl (end_new 18 rfl rfl end_nil)))))))))))))))))))))) ?_
  refine p_blk_n ?_
  refine p_seq ?_
  refine T_region ?_
  refine TL_q (.int .i64 1) (fun _ _ hρ _ => r_as (r_add (hρ _ _ rfl) (hρ _ _ rfl)) (by rfl)) rfl rfl rfl (w_n rfl) ?_
  refine TL_q (.int .i64 1) (fun _ _ hρ _ => r_move (hρ _ _ rfl)) rfl rfl rfl (w_n rfl) ?_
  refine TL_nil ?_
  refine p_round ?_
  refine TR_succ ?_
  refine T_seq (T_region ?_)
  refine TL_q (.bool true) (fun _ _ hρ _ => r_as (r_lss (hρ _ _ rfl) (hρ _ _ rfl)) (by rfl)) rfl rfl rfl (w_n rfl) ?_
  refine TL_seq ?_
  refine T_seq ?_
  refine T_cond_t rfl ?_
  refine T_skip' ?_
  refine p_seq ?_
  refine T_seq ?_
  refine T_block ?_
  refine T_draw (V := [(0, .pointer (some ⟨R, 0, none⟩)), (1, .pointer (some ⟨R, 0, none⟩)), (2, .pointer (some ⟨R, 0, none⟩)), (3, .pointer (some ⟨R, 1, none⟩)), (4, .int .u32 ((((r ^^^ (b.setWidth 32)) >>> 4) ^^^ (fedN 4 ((r ^^^ (b.setWidth 32)) &&& (15#32)))).toNat : Int)), (5, .int .u32 (((((r ^^^ (b.setWidth 32)) >>> 4) ^^^ (fedN 4 ((r ^^^ (b.setWidth 32)) &&& (15#32)))) >>> 4).toNat : Int)), (6, .pointer (some ⟨R, 0, none⟩)), (7, .pointer (some ⟨R, 0, none⟩)), (8, .pointer (some ⟨R, 0, none⟩)), (9, .pointer (some ⟨B, 0, none⟩)), (10, .pointer (some ⟨R, 0, none⟩)), (11, .pointer (some ⟨R, 0, none⟩)), (12, .pointer (some ⟨R, 1, none⟩)), (13, .int .u32 ((((r ^^^ (b.setWidth 32)) >>> 4) ^^^ (fedN 4 ((r ^^^ (b.setWidth 32)) &&& (15#32)))).toNat : Int)), (14, .int .u32 (((((r ^^^ (b.setWidth 32)) >>> 4) ^^^ (fedN 4 ((r ^^^ (b.setWidth 32)) &&& (15#32)))) &&& (15#32)).toNat : Int))]) [0, 0, 2, 6, 14, 30, 0, 64, 192, 448, 0, 1024, 3072, 7168, 15360, 32704, 65534, 131071, 262143, 524287] [[(0, none)], [(0, none)], [(16, some 1)], [(17, some 2)], [(18, some 3)], [(19, some 4)], [(0, none)], [(21, some 6)], [(22, some 7)], [(23, some 8)], [(0, none)], [(25, some 10)], [(26, some 11)], [(27, some 12)], [(28, some 13)], [(24, some 9), (29, some 14)], [(20, some 5), (30, some 15)], [(15, some 0)], [(32, some 17)], [(33, some 18), (31, some 16)]] 557056 mixed (by kernel_rfl) ?_
  refine G_step [0, 1, 2, 3, 4, 5, 6, 7, 8, 9, 10, 11, 12, 13, 14] 15 [] (by kernel_rfl) (allM (all_cons (q_run (.pointer (some ⟨R, 0, none⟩)) rfl rfl (wv_n rfl) rfl (fun _ _ hρ _ => r_move (hρ _ _ rfl))) (all_cons (q_run (.pointer (some ⟨R, 0, none⟩)) rfl rfl (wv_n rfl) rfl (fun _ _ hρ _ => r_move (hρ _ _ rfl))) (all_cons (q_run (.pointer (some ⟨R, 0, none⟩)) rfl rfl (wv_n rfl) rfl (fun _ _ hρ _ => r_nilCheck (hρ _ _ rfl) rfl)) (all_cons (q_run (.pointer (some ⟨R, 1, none⟩)) rfl rfl (wv_n rfl) rfl (fun _ _ hρ _ => r_fieldAddr fl173_1 sz46 (hρ _ _ rfl))) (all_cons (q_run (.int .u32 ((((r ^^^ (b.setWidth 32)) >>> 4) ^^^ (fedN 4 ((r ^^^ (b.setWidth 32)) &&& (15#32)))).toNat : Int)) rfl rfl (wv_n rfl) rfl (fun _ _ hρ hm => r_load ag46 (hρ _ _ rfl) (hm.at 902 rfl) rfl)) (all_cons (q_run (.int .u32 (((((r ^^^ (b.setWidth 32)) >>> 4) ^^^ (fedN 4 ((r ^^^ (b.setWidth 32)) &&& (15#32)))) >>> 4).toNat : Int)) rfl rfl (wv_n rfl) rfl (fun _ _ hρ _ => r_shrB (k := .u32) (a := (((r ^^^ (b.setWidth 32)) >>> 4) ^^^ (fedN 4 ((r ^^^ (b.setWidth 32)) &&& (15#32))))) (n := 4) (by decide) (hρ _ _ rfl) (hρ _ _ rfl))) (all_cons (q_run (.pointer (some ⟨R, 0, none⟩)) rfl rfl (wv_n rfl) rfl (fun _ _ hρ _ => r_move (hρ _ _ rfl))) (all_cons (q_run (.pointer (some ⟨R, 0, none⟩)) rfl rfl (wv_n rfl) rfl (fun _ _ hρ _ => r_nilCheck (hρ _ _ rfl) rfl)) (all_cons (q_run (.pointer (some ⟨R, 0, none⟩)) rfl rfl (wv_n rfl) rfl (fun _ _ hρ _ => r_fieldAddr fl173_0 sz171 (hρ _ _ rfl))) (all_cons (q_run (.pointer (some ⟨B, 0, none⟩)) rfl rfl (wv_n rfl) rfl (fun _ _ hρ hm => r_load ag171 (hρ _ _ rfl) (hm.at 902 rfl) rfl)) (all_cons (q_run (.pointer (some ⟨R, 0, none⟩)) rfl rfl (wv_n rfl) rfl (fun _ _ hρ _ => r_move (hρ _ _ rfl))) (all_cons (q_run (.pointer (some ⟨R, 0, none⟩)) rfl rfl (wv_n rfl) rfl (fun _ _ hρ _ => r_nilCheck (hρ _ _ rfl) rfl)) (all_cons (q_run (.pointer (some ⟨R, 1, none⟩)) rfl rfl (wv_n rfl) rfl (fun _ _ hρ _ => r_fieldAddr fl173_1 sz46 (hρ _ _ rfl))) (all_cons (q_run (.int .u32 ((((r ^^^ (b.setWidth 32)) >>> 4) ^^^ (fedN 4 ((r ^^^ (b.setWidth 32)) &&& (15#32)))).toNat : Int)) rfl rfl (wv_n rfl) rfl (fun _ _ hρ hm => r_load ag46 (hρ _ _ rfl) (hm.at 902 rfl) rfl)) (all_cons (q_run (.int .u32 (((((r ^^^ (b.setWidth 32)) >>> 4) ^^^ (fedN 4 ((r ^^^ (b.setWidth 32)) &&& (15#32)))) &&& (15#32)).toNat : Int)) rfl rfl (wv_n rfl) rfl (fun _ _ hρ _ => r_andB (k := .u32) (a := (((r ^^^ (b.setWidth 32)) >>> 4) ^^^ (fedN 4 ((r ^^^ (b.setWidth 32)) &&& (15#32))))) (b := (15#32)) rfl (hρ _ _ rfl) (hρ _ _ rfl))) all_nil)))))))))))))))) (allM (all_cons ?_ all_nil))
  refine LOb_callH _ _ _ (fun _ => [(16, .int .u32 ((((((r ^^^ (b.setWidth 32)) >>> 4) ^^^ (fedN 4 ((r ^^^ (b.setWidth 32)) &&& (15#32)))) >>> 4) ^^^ (fedN 4 ((((r ^^^ (b.setWidth 32)) >>> 4) ^^^ (fedN 4 ((r ^^^ (b.setWidth 32)) &&& (15#32)))) &&& (15#32)))).toNat : Int)), (17, .pointer (some ⟨R, 0, none⟩)), (18, .pointer (some ⟨R, 1, none⟩))]) rfl (wv_n rfl) rfl rfl (fun _ _ hρ _ => r_call (args := [.pointer (some ⟨B, 0, none⟩), .int .u32 (((((r ^^^ (b.setWidth 32)) >>> 4) ^^^ (fedN 4 ((r ^^^ (b.setWidth 32)) &&& (15#32)))) &&& (15#32)).toNat : Int)]) (enters_of Try.func141 (by kernel_rfl) rfl) (hρ _ _ rfl) ((cons2 (hρ _ _ rfl) (cons2 (hρ _ _ rfl) rfl))) rfl) (fun w hm => at_ht _ _ B ((((r ^^^ (b.setWidth 32)) >>> 4) ^^^ (fedN 4 ((r ^^^ (b.setWidth 32)) &&& (15#32)))) &&& (15#32)) (and15 _) true rfl (by exact hf) w hm) (fun _ => by kernel_rfl) ?_
  intro _ _
  refine G_step [0, 1, 2, 3, 4, 5, 16, 17, 18] 19 [] (by kernel_rfl) (allM (all_cons (q_run (.pointer (some ⟨R, 0, none⟩)) rfl rfl (wv_n rfl) rfl (fun _ _ hρ _ => r_move (hρ _ _ rfl))) (all_cons (q_run (.pointer (some ⟨R, 0, none⟩)) rfl rfl (wv_n rfl) rfl (fun _ _ hρ _ => r_move (hρ _ _ rfl))) (all_cons (q_run (.pointer (some ⟨R, 0, none⟩)) rfl rfl (wv_n rfl) rfl (fun _ _ hρ _ => r_nilCheck (hρ _ _ rfl) rfl)) (all_cons (q_run (.pointer (some ⟨R, 1, none⟩)) rfl rfl (wv_n rfl) rfl (fun _ _ hρ _ => r_fieldAddr fl173_1 sz46 (hρ _ _ rfl))) (all_cons (q_run (.int .u32 ((((r ^^^ (b.setWidth 32)) >>> 4) ^^^ (fedN 4 ((r ^^^ (b.setWidth 32)) &&& (15#32)))).toNat : Int)) rfl rfl (wv_n rfl) rfl (fun _ _ hρ hm => r_load ag46 (hρ _ _ rfl) (hm.at 902 rfl) rfl)) (all_cons (q_run (.int .u32 (((((r ^^^ (b.setWidth 32)) >>> 4) ^^^ (fedN 4 ((r ^^^ (b.setWidth 32)) &&& (15#32)))) >>> 4).toNat : Int)) rfl rfl (wv_n rfl) rfl (fun _ _ hρ _ => r_shrB (k := .u32) (a := (((r ^^^ (b.setWidth 32)) >>> 4) ^^^ (fedN 4 ((r ^^^ (b.setWidth 32)) &&& (15#32))))) (n := 4) (by decide) (hρ _ _ rfl) (hρ _ _ rfl))) (all_cons (q_run (.int .u32 ((((((r ^^^ (b.setWidth 32)) >>> 4) ^^^ (fedN 4 ((r ^^^ (b.setWidth 32)) &&& (15#32)))) >>> 4) ^^^ (fedN 4 ((((r ^^^ (b.setWidth 32)) >>> 4) ^^^ (fedN 4 ((r ^^^ (b.setWidth 32)) &&& (15#32)))) &&& (15#32)))).toNat : Int)) rfl rfl (wv_n rfl) rfl (fun _ _ hρ _ => r_xorB (k := .u32) (a := ((((r ^^^ (b.setWidth 32)) >>> 4) ^^^ (fedN 4 ((r ^^^ (b.setWidth 32)) &&& (15#32)))) >>> 4)) (b := (fedN 4 ((((r ^^^ (b.setWidth 32)) >>> 4) ^^^ (fedN 4 ((r ^^^ (b.setWidth 32)) &&& (15#32)))) &&& (15#32)))) rfl (hρ _ _ rfl) (hρ _ _ rfl))) (all_cons (q_run (.pointer (some ⟨R, 0, none⟩)) rfl rfl (wv_n rfl) rfl (fun _ _ hρ _ => r_nilCheck (hρ _ _ rfl) rfl)) (all_cons (q_run (.pointer (some ⟨R, 1, none⟩)) rfl rfl (wv_n rfl) rfl (fun _ _ hρ _ => r_fieldAddr fl173_1 sz46 (hρ _ _ rfl))) all_nil)))))))))) (allM (all_cons ?_ all_nil))
  refine LOb_store 902 (.cells #[.pointer (some ⟨B, 0, none⟩), .int .u32 ((((((r ^^^ (b.setWidth 32)) >>> 4) ^^^ (fedN 4 ((r ^^^ (b.setWidth 32)) &&& (15#32)))) >>> 4) ^^^ (fedN 4 ((((r ^^^ (b.setWidth 32)) >>> 4) ^^^ (fedN 4 ((r ^^^ (b.setWidth 32)) &&& (15#32)))) &&& (15#32)))).toNat : Int)] 173) [] rfl (wv_n rfl) rfl rfl rfl (fun _ _ hρ hm => r_store sz46 (hρ _ _ rfl) (hρ _ _ rfl) (hm.at 902 rfl) rfl rfl rfl rfl) (by kernel_rfl) ?_
  refine G_lastQ [] [(0, .pointer (some ⟨R, 0, none⟩)), (34, .int .i64 1), (13, .int .i64 1), (14, .bool true), (15, .pointer (some ⟨R, 0, none⟩)), (16, .pointer (some ⟨R, 0, none⟩)), (17, .pointer (some ⟨R, 0, none⟩)), (18, .pointer (some ⟨R, 1, none⟩)), (19, .int .u32 ((((r ^^^ (b.setWidth 32)) >>> 4) ^^^ (fedN 4 ((r ^^^ (b.setWidth 32)) &&& (15#32)))).toNat : Int)), (20, .int .u32 (((((r ^^^ (b.setWidth 32)) >>> 4) ^^^ (fedN 4 ((r ^^^ (b.setWidth 32)) &&& (15#32)))) >>> 4).toNat : Int)), (21, .pointer (some ⟨R, 0, none⟩)), (22, .pointer (some ⟨R, 0, none⟩)), (23, .pointer (some ⟨R, 0, none⟩)), (24, .pointer (some ⟨B, 0, none⟩)), (25, .pointer (some ⟨R, 0, none⟩)), (26, .pointer (some ⟨R, 0, none⟩)), (27, .pointer (some ⟨R, 1, none⟩)), (28, .int .u32 ((((r ^^^ (b.setWidth 32)) >>> 4) ^^^ (fedN 4 ((r ^^^ (b.setWidth 32)) &&& (15#32)))).toNat : Int)), (29, .int .u32 (((((r ^^^ (b.setWidth 32)) >>> 4) ^^^ (fedN 4 ((r ^^^ (b.setWidth 32)) &&& (15#32)))) &&& (15#32)).toNat : Int)), (30, .int .u32 ((fedN 4 ((((r ^^^ (b.setWidth 32)) >>> 4) ^^^ (fedN 4 ((r ^^^ (b.setWidth 32)) &&& (15#32)))) &&& (15#32))).toNat : Int)), (31, .int .u32 ((((((r ^^^ (b.setWidth 32)) >>> 4) ^^^ (fedN 4 ((r ^^^ (b.setWidth 32)) &&& (15#32)))) >>> 4) ^^^ (fedN 4 ((((r ^^^ (b.setWidth 32)) >>> 4) ^^^ (fedN 4 ((r ^^^ (b.setWidth 32)) &&& (15#32)))) &&& (15#32)))).toNat : Int)), (32, .pointer (some ⟨R, 0, none⟩)), (33, .pointer (some ⟨R, 1, none⟩))] (by kernel_rfl) (allM all_nil) (end_old rfl rfl (end_old rfl rfl (end_old rfl rfl (end_old rfl rfl (end_new 0 rfl rfl (end_new 1 rfl rfl (end_new 2 rfl rfl (end_new 3 rfl rfl (end_new 4 rfl rfl (end_new 5 rfl rfl (end_new 6 rfl rfl (end_new 7 rfl rfl (end_new 8 rfl rfl (end_new 9 rfl rfl (end_new 10 rfl rfl (end_new 11 rfl rfl (end_new 12 rfl rfl (end_new 13 rfl rfl (end_new 14 rfl rfl (end_new 15 rfl rfl (end_new 16 rfl rfl (end_new 17 rfl rfl (end_new 18 rfl rfl end_nil))))))))))))))))))))))) ?_
  refine p_blk_n ?_
  refine p_seq ?_
  refine T_region ?_
  refine TL_q (.int .i64 2) (fun _ _ hρ _ => r_as (r_add (hρ _ _ rfl) (hρ _ _ rfl)) (by rfl)) rfl rfl rfl (w_n rfl) ?_
  refine TL_q (.int .i64 2) (fun _ _ hρ _ => r_move (hρ _ _ rfl)) rfl rfl rfl (w_n rfl) ?_
  refine TL_nil ?_
  refine p_round ?_
  refine TR_succ ?_
  refine T_seq (T_region ?_)
  refine TL_q (.bool false) (fun _ _ hρ _ => r_as (r_lss (hρ _ _ rfl) (hρ _ _ rfl)) (by rfl)) rfl rfl rfl (w_n rfl) ?_
  refine TL_seq ?_
  refine T_seq ?_
  refine T_cond_f rfl ?_
  refine T_exit' ?_
  refine p_then_x ?_
  refine p_then_x ?_
  refine p_blk_x ?_
  refine p_end ?_
  refine ret_of rfl (.tuple #[]) (fun tmps w hk hm => results_none rfl _ _ _) (fun w hm => ?_)
  refine ⟨(), trivial, rfl, ?_⟩
  rw [← step_two]
  refine hm.of (fun k q hk => ?_)
  by_cases e900 : 900 = k
  · subst e900; exact hk
  have f900 : ∀ (K : Heap) (v : Res), lk ((900, v) :: K) k = lk K k := fun K v => lk_cons_other K v e900
  by_cases e902 : 902 = k
  · subst e902; exact hk
  have f902 : ∀ (K : Heap) (v : Res), lk ((902, v) :: K) k = lk K k := fun K v => lk_cons_other K v e902
  simp only [f900, f902] at hk ⊢
  exact hk
end Go.Proofs.Ytcidgbjgeegepaa
/- crc: rows of bytes. Printed by a program of this seat's prover. -/
namespace Go.Proofs.Ytcidgbjgeegepaa
open Go Go.RowKit
set_option maxRecDepth 10000
abbrev byc (b : By) : List Value := [.int .u8 (b.toNat : Int)]
theorem byc_len (b : By) : (byc b).length = 1 := rfl
/-- A row of bytes, as a slice. -/
structure RowV where
  a : Option Addr
  cap : Nat
  l : List By
abbrev RowV.cells (r : RowV) : List Value := [.slice r.a r.l.length r.cap]
theorem RowV.cells_len (r : RowV) : r.cells.length = 1 := rfl
abbrev RowV.okR (w : World) (r : RowV) : Prop := SliceAt w r.a r.cap 1 byc r.l
def posR (rows : List RowV) (i : Nat) : Nat := ((rows.take i).flatMap RowV.l).length
theorem posR_succ {rows : List RowV} {i : Nat} {r : RowV} (h : rows[i]? = some r) : posR rows (i + 1) = posR rows i + r.l.length := by
  unfold posR
  rw [List.take_add_one, h, List.flatMap_append, List.length_append]; simp
theorem posR_end (rows : List RowV) : posR rows rows.length = (rows.flatMap RowV.l).length := by
  unfold posR; rw [List.take_length]
theorem flatR {rows : List RowV} {i j : Nat} {r : RowV} {b : By} (h : rows[i]? = some r) (hb : r.l[j]? = some b) : (rows.flatMap RowV.l)[posR rows i + j]? = some b := by
  obtain ⟨hi, hr⟩ := List.getElem?_eq_some_iff.1 h
  have e : rows = rows.take i ++ r :: rows.drop (i + 1) := by
    rw [← hr, List.getElem_cons_drop, List.take_append_drop]
  have hp : posR rows i = ((rows.take i).flatMap RowV.l).length := rfl
  generalize posR rows i = n at hp ⊢
  conv => lhs; rw [e]
  rw [List.flatMap_append, List.flatMap_cons, hp]
  have hj := (List.getElem?_eq_some_iff.1 hb).1
  rw [List.getElem?_append_right (by omega), Nat.add_sub_cancel_left, List.getElem?_append_left hj, hb]
theorem reg_snoc (r : Wd) {l : List By} {k : Nat} {b : By} (h : l[k]? = some b) : step (regL r (l.take k)) b = regL r (l.take (k + 1)) := by
  unfold regL
  rw [List.take_add_one, h, List.foldl_append]; rfl
theorem NewOk.mem {w w' : World} {L : Heap} (h : MemOk w L w') : NewOk w w' L := ⟨h.own, h.sep⟩
abbrev encB (b : By) : List Value := [.int .u8 (b.toNat : Int)]

theorem of_c (r : Wd) (w : World) : Calls Try.prog 133 #[.int .u32 (r.toNat : Int)] w (Ans (fun _ : Nat × Nat => True) (fun z => .pointer (some ⟨z.1, 0, none⟩)) (fun z => [(902, .blk z.1 (.cells #[.pointer (some ⟨z.2, 0, none⟩), .int .u32 (r.toNat : Int)] 173)), (900, .blk z.2 (.cells tbZ 190))]) w) := by
  refine calls_of_T (l := [.int .u32 ((r).toNat : Int)]) 8 Try.func133 rfl rfl rfl ?_
  show T _ _ _ [(0, .int .u32 ((r).toNat : Int))] []
  refine T_seq (T_region ?_)
  refine TL_q (.pointer none) (fun _ _ hρ _ => r_assign (hρ _ _ rfl)) rfl rfl rfl (w_n rfl) ?_
  refine TL_seq ?_
  refine T_seq (T_region ?_)
  refine TL_q (.agg #[.int .u32 0, .int .i32 0, .int .u32 0, .int .u32 0, .int .u32 0, .int .u32 0, .int .u32 0, .int .u32 0, .int .u32 0, .int .u32 0, .int .u32 0, .int .u32 0, .int .u32 0, .int .u32 0, .int .u32 0, .int .u32 0, .int .u32 0, .int .u32 0, .int .u32 0]) (fun _ _ _ _ => r_build (vs := []) (by kernel_rfl) rfl) rfl rfl rfl (w_n rfl) ?_
  refine TL_new 900 (.cells #[.int .u32 0, .int .i32 0, .int .u32 0, .int .u32 0, .int .u32 0, .int .u32 0, .int .u32 0, .int .u32 0, .int .u32 0, .int .u32 0, .int .u32 0, .int .u32 0, .int .u32 0, .int .u32 0, .int .u32 0, .int .u32 0, .int .u32 0, .int .u32 0, .int .u32 0] 190) (fun B => .pointer (some ⟨B, 0, none⟩)) (fun _ _ hρ _ => r_box (hρ _ _ rfl) rfl) rfl rfl rfl (w_n rfl) ?_
  intro B1
  refine TL_q (.int .u32 ((r).toNat : Int)) (fun _ _ hρ _ => r_move (hρ _ _ rfl)) rfl rfl rfl (w_n rfl) ?_
  refine TL_q (.agg #[.pointer (some ⟨B1, 0, none⟩), .int .u32 ((r).toNat : Int)]) (fun _ _ hρ _ => r_build (vs := [(0, .pointer (some ⟨B1, 0, none⟩)), (1, .int .u32 ((r).toNat : Int))]) (by kernel_rfl) (cons2 (pair2 (hρ _ _ rfl)) (cons2 (pair2 (hρ _ _ rfl)) rfl))) rfl rfl rfl (w_n rfl) ?_
  refine TL_new 902 (.cells #[.pointer (some ⟨B1, 0, none⟩), .int .u32 ((r).toNat : Int)] 173) (fun B => .pointer (some ⟨B, 0, none⟩)) (fun _ _ hρ _ => r_box (hρ _ _ rfl) rfl) rfl rfl rfl (w_n rfl) ?_
  intro B2
  refine TL_q (.pointer (some ⟨B2, 0, none⟩)) (fun _ _ hρ _ => r_assign (hρ _ _ rfl)) rfl rfl rfl (w_n rfl) ?_
  refine TL_seq ?_
  refine T_ret' ?_
  refine ret_of rfl (.pointer (some ⟨B2, 0, none⟩)) (fun tmps w hk hm => res1 rfl (res_tmp (hk 2 _ rfl))) (fun w hm => ?_)
  exact ⟨(B2, B1), trivial, rfl, hm.ext, (NewOk.mem hm)⟩

theorem each_c (a : Option Addr) (n cap : Nat) (w : World) : Calls Try.prog 135 #[.slice a n cap] w (Ans (fun _ : Nat => True) (fun z => .func (.func 142) #[] #[.pointer (some ⟨z, 0, none⟩)]) (fun z => [(903, .blk z (.cells #[.slice a n cap] 63))]) w) := by
  refine calls_of_T (l := [.slice a n cap]) 4 Try.func135 rfl rfl rfl ?_
  show T _ _ _ [(0, .slice a n cap)] []
  refine T_seq (T_region ?_)
  refine TL_new 903 (.cells #[.slice a n cap] 63) (fun B => .pointer (some ⟨B, 0, none⟩)) (fun _ _ hρ _ => r_box (hρ _ _ rfl) rfl) rfl rfl rfl (w_n rfl) ?_
  intro B1
  refine TL_q (.nilFunc) (fun _ _ hρ _ => r_assign (hρ _ _ rfl)) rfl rfl rfl (w_n rfl) ?_
  refine TL_seq ?_
  refine T_seq (T_region ?_)
  refine TL_q (.func (.func 142) #[] #[.pointer (some ⟨B1, 0, none⟩)]) (fun _ _ hρ _ => r_makeFunc (by simp) (map_arr (cons2 (hρ _ _ rfl) rfl))) rfl rfl rfl (w_n rfl) ?_
  refine TL_q (.func (.func 142) #[] #[.pointer (some ⟨B1, 0, none⟩)]) (fun _ _ hρ _ => r_assign (hρ _ _ rfl)) rfl rfl rfl (w_n rfl) ?_
  refine TL_seq ?_
  refine T_ret' ?_
  refine ret_of rfl (.func (.func 142) #[] #[.pointer (some ⟨B1, 0, none⟩)]) (fun tmps w hk hm => res1 rfl (res_tmp (hk 2 _ rfl))) (fun w hm => ?_)
  exact ⟨B1, trivial, rfl, hm.ext, (NewOk.mem hm)⟩

theorem each_iter {ι : Type} (w₀ : World) (rows : List RowV) (a : Option Addr) (cap Cc : Nat) (hv : SliceAt w₀ a cap 1 RowV.cells rows) (hr : ∀ r ∈ rows, r.okR w₀) (hcp : ∀ r ∈ rows, r.cap ≤ Go.maxLen) (hcap : cap ≤ Go.maxLen) (p : Nat → ι → Prop) (LJ : Nat → ι → Heap) (hc : ∀ k i, lk (LJ k i) 903 = some (.blk Cc (.cells #[.slice a rows.length cap] 63))) :
    IterAt Try.prog w₀ 142 #[.pointer (some ⟨Cc, 0, none⟩)] encB (rows.flatMap RowV.l) p LJ := by
  intro l κ pX LX hY i₀ W hp0 hm0
  have hvl := hv.1
  unfold Go.maxLen at hcap
  have hp0 : p (posR rows 0) i₀ := hp0
  show Calls Try.prog 142 #[.func (.yield l) #[] #[], .pointer (some ⟨Cc, 0, none⟩)] W _
  refine ht_of_T (l := [.func (.yield l) #[] #[], .pointer (some ⟨Cc, 0, none⟩)]) (L := LJ 0 i₀) 25 Try.func142 rfl rfl rfl ?_ W hm0
  show T _ _ _ [(0, .func (.yield l) #[] #[]), (1, .pointer (some ⟨Cc, 0, none⟩))] (LJ 0 i₀)
  refine T_scope ?_
  refine T_label ?_
  refine T_mem ((903, .blk Cc (.cells #[.slice a rows.length cap] 63)) :: LJ 0 i₀) (fun _ hm => hm.of (lk_dup (hc 0 i₀))) ?_
  refine T_seq (T_region ?_)
  refine TL_q (.slice a rows.length cap) (fun _ _ hρ hm => r_load ag63 (hρ _ _ rfl) (hm.at 903 rfl) rfl) rfl rfl rfl (w_n rfl) ?_
  refine TL_q (.int .i64 ((rows.length : Nat) : Int)) (fun _ _ hρ _ => r_len sl63 (hρ _ _ rfl)) rfl rfl rfl (w_n rfl) ?_
  refine TL_q (.int .i64 0) (fun _ _ hρ _ => r_move (hρ _ _ rfl)) rfl rfl rfl (w_n rfl) ?_
  refine TL_seq ?_
  refine T_block ?_
  refine T_mem (LJ 0 i₀) (fun _ hm => hm.of (lk_into (hc 0 i₀))) ?_
  refine T_loopE (ι := Nat × ι) (fun (z : Nat × ι) => match z with | (i, z) => i ≤ rows.length ∧ p (posR rows i) z) (fun (z : Nat × ι) => match z with | (i, z) => [(0, .func (.yield l) #[] #[]), (7, .slice a rows.length cap), (8, .int .i64 ((rows.length : Nat) : Int)), (9, .int .i64 ((i : Nat) : Int))]) (fun (z : Nat × ι) => match z with | (i, z) => (LJ (posR rows i) z)) (fun (z : Nat × ι) => match z with | (i, z) => rows.length - i) (0, i₀) ⟨Nat.zero_le _, hp0⟩ (sub_cons rfl (sub_cons rfl (sub_cons rfl (sub_cons rfl sub_nil)))) rfl ?_
  rintro ⟨i, z⟩ hp
  obtain ⟨hi, hpz⟩ := hp
  show T _ _ _ [(0, .func (.yield l) #[] #[]), (7, .slice a rows.length cap), (8, .int .i64 ((rows.length : Nat) : Int)), (9, .int .i64 ((i : Nat) : Int))] (LJ (posR rows i) z)
  refine T_seq (T_region ?_)
  refine TL_q (.bool (decide (((i : Nat) : Int) < ((rows.length : Nat) : Int)))) (fun _ _ hρ _ => r_lss (hρ _ _ rfl) (hρ _ _ rfl)) rfl rfl rfl (w_n rfl) ?_
  refine TL_seq ?_
  refine T_seq ?_
  refine T_cond rfl (fun h1 => ?_) (fun h1 => ?_)
  · replace h1 := of_decide_eq_true h1
    refine T_skip' ?_
    refine p_seq ?_
    refine T_seq ?_
    refine T_block ?_
    obtain ⟨x, hx⟩ : ∃ x, rows[i]? = some x := ⟨_, List.getElem?_eq_getElem (by omega)⟩
    have hxr := hr x (List.mem_of_getElem? hx)
    have hxl := hxr.1
    have hxc := hcp x (List.mem_of_getElem? hx)
    unfold Go.maxLen at hxc
    obtain ⟨b1, of1, cs1, T1, fz1, ha1, hq1, hr1⟩ := hv.open (i := i) (by omega)
    subst ha1
    refine T_seq (T_region ?_)
    refine TL_q (.pointer (some ⟨b1, of1 + i * 1, none⟩)) (fun _ _ hρ _ => r_indexAddrS (i := i) sl63 sz34 (hρ _ _ rfl) (hρ _ _ rfl) (by omega)) rfl rfl rfl (w_n rfl) ?_
    refine TL_q (.slice x.a x.l.length x.cap) (fun _ _ hρ hm => r_loadRow1 (f := RowV.cells) (u := x) ag34 (hρ _ _ rfl) (hm.old hq1) hr1 hx rfl) rfl rfl rfl (w_n rfl) ?_
    refine TL_q (.slice x.a x.l.length x.cap) (fun _ _ hρ _ => r_assign (hρ _ _ rfl)) rfl rfl rfl (w_n rfl) ?_
    refine TL_seq ?_
    refine T_seq (T_region ?_)
    refine TL_q (.slice x.a x.l.length x.cap) (fun _ _ hρ _ => r_move (hρ _ _ rfl)) rfl rfl rfl (w_n rfl) ?_
    refine TL_q (.int .i64 ((x.l.length : Nat) : Int)) (fun _ _ hρ _ => r_len sl34 (hρ _ _ rfl)) rfl rfl rfl (w_n rfl) ?_
    refine TL_q (.int .i64 0) (fun _ _ hρ _ => r_move (hρ _ _ rfl)) rfl rfl rfl (w_n rfl) ?_
    refine TL_seq ?_
    refine T_block ?_
    refine T_loopE (ι := Nat × ι) (fun (z : Nat × ι) => match z with | (j, z2) => j ≤ x.l.length ∧ p (posR rows i + j) z2) (fun (z : Nat × ι) => match z with | (j, z2) => [(0, .func (.yield l) #[] #[]), (7, .slice (some ⟨b1, of1, none⟩) rows.length cap), (8, .int .i64 ((rows.length : Nat) : Int)), (9, .int .i64 ((i : Nat) : Int)), (10, .bool (decide (((i : Nat) : Int) < ((rows.length : Nat) : Int)))), (11, .pointer (some ⟨b1, of1 + i * 1, none⟩)), (12, .slice x.a x.l.length x.cap), (4, .slice x.a x.l.length x.cap), (13, .slice x.a x.l.length x.cap), (14, .int .i64 ((x.l.length : Nat) : Int)), (15, .int .i64 ((j : Nat) : Int))]) (fun (z : Nat × ι) => match z with | (j, z2) => (LJ (posR rows i + j) z2)) (fun (z : Nat × ι) => match z with | (j, z2) => x.l.length - j) (0, z) ⟨Nat.zero_le _, hpz⟩ (sub_cons rfl (sub_cons rfl (sub_cons rfl (sub_cons rfl (sub_cons rfl (sub_cons rfl (sub_cons rfl (sub_cons rfl (sub_cons rfl (sub_cons rfl (sub_cons rfl sub_nil))))))))))) rfl ?_
    rintro ⟨j, z2⟩ hp
    obtain ⟨hj, hp2⟩ := hp
    show T _ _ _ [(0, .func (.yield l) #[] #[]), (7, .slice (some ⟨b1, of1, none⟩) rows.length cap), (8, .int .i64 ((rows.length : Nat) : Int)), (9, .int .i64 ((i : Nat) : Int)), (10, .bool (decide (((i : Nat) : Int) < ((rows.length : Nat) : Int)))), (11, .pointer (some ⟨b1, of1 + i * 1, none⟩)), (12, .slice x.a x.l.length x.cap), (4, .slice x.a x.l.length x.cap), (13, .slice x.a x.l.length x.cap), (14, .int .i64 ((x.l.length : Nat) : Int)), (15, .int .i64 ((j : Nat) : Int))] (LJ (posR rows i + j) z2)
    refine T_seq (T_region ?_)
    refine TL_q (.bool (decide (((j : Nat) : Int) < ((x.l.length : Nat) : Int)))) (fun _ _ hρ _ => r_lss (hρ _ _ rfl) (hρ _ _ rfl)) rfl rfl rfl (w_n rfl) ?_
    refine TL_seq ?_
    refine T_seq ?_
    refine T_cond rfl (fun h2 => ?_) (fun h2 => ?_)
    · replace h2 := of_decide_eq_true h2
      refine T_skip' ?_
      refine p_seq ?_
      refine T_seq ?_
      refine T_block ?_
      obtain ⟨y, hy⟩ : ∃ y, x.l[j]? = some y := ⟨_, List.getElem?_eq_getElem (by omega)⟩
      obtain ⟨b2, of2, cs2, T2, fz2, ha2, hq2, hr2⟩ := hxr.open (i := j) (by omega)
      rw [ha2]
      refine T_seq (T_region ?_)
      refine TL_q (.pointer (some ⟨b2, of2 + j * 1, none⟩)) (fun _ _ hρ _ => r_indexAddrS (i := j) sl34 sz5 (hρ _ _ rfl) (hρ _ _ rfl) (by omega)) rfl rfl rfl (w_n rfl) ?_
      refine TL_q (.int .u8 ((y).toNat : Int)) (fun _ _ hρ hm => r_loadRow1 (f := byc) (u := y) ag5 (hρ _ _ rfl) (hm.old hq2) hr2 hy rfl) rfl rfl rfl (w_n rfl) ?_
      refine TL_q (.int .u8 ((y).toNat : Int)) (fun _ _ hρ _ => r_assign (hρ _ _ rfl)) rfl rfl rfl (w_n rfl) ?_
      refine TL_seq ?_
      refine T_seq (T_region ?_)
      refine TL_q (.func (.yield l) #[] #[]) (fun _ _ hρ _ => r_move (hρ _ _ rfl)) rfl rfl rfl (w_n rfl) ?_
      refine TL_q (.int .u8 ((y).toNat : Int)) (fun _ _ hρ _ => r_move (hρ _ _ rfl)) rfl rfl rfl (w_n rfl) ?_
      refine TL_yieldB (fun z3 => p (posR rows i + j + 1) z3) (fun z3 => LJ (posR rows i + j + 1) z3) pX LX rfl (fun _ _ hρ _ => r_yield (hρ _ _ rfl) ((cons2 (hρ _ _ rfl) rfl))) (fun W hm => hY (posR rows i + j) y z2 W (flatR hx hy) hp2 hm) rfl rfl rfl (w_n rfl) ?_
      intro yx3 hyx3
      refine TL_q (.bool (!yx3.isLeft)) (fun _ _ hρ _ => r_not (b := yx3.isLeft) (hρ _ _ rfl)) rfl rfl rfl (w_n rfl) ?_
      refine TL_seq ?_
      refine T_cond rfl (fun h3 => ?_) (fun h3 => ?_)
      · replace h3 := bnot_t h3
        obtain ⟨j1, rfl⟩ := isR h3
        refine T_exit' ?_
        refine p_blk_o rfl ?_
        refine p_then_x ?_
        refine p_then_x ?_
        refine p_blk_o rfl ?_
        refine p_blk_o rfl ?_
        refine p_then_x ?_
        refine p_then_x ?_
        refine p_blk_x ?_
        refine p_ng_n ?_
        refine p_end ?_
        refine ret_of rfl (.tuple #[]) (fun tmps w hk hm => results_none rfl _ _ _) (fun w hm => ?_)
        first
          | exact ⟨⟨_, rfl⟩, .inr ⟨j1, hyx3, hm⟩⟩
          | (have hil : i = rows.length := (by omega); subst hil; rw [posR_end] at hpz hm; exact ⟨⟨_, rfl⟩, .inl ⟨z, hpz, hm⟩⟩)
      · replace h3 := bnot_f h3
        obtain ⟨i1, rfl⟩ := isL h3
        refine T_skip' ?_
        refine p_blk_n ?_
        refine p_seq ?_
        refine T_region ?_
        refine TL_q (.int .i64 ((j + 1 : Nat) : Int)) (fun _ _ hρ _ => r_as (r_add (hρ _ _ rfl) (hρ _ _ rfl)) (int_as ((wrap64 (by omega) (by omega)).trans (by omega)))) rfl rfl rfl (w_n rfl) ?_
        refine TL_q (.int .i64 ((j + 1 : Nat) : Int)) (fun _ _ hρ _ => r_move (hρ _ _ rfl)) rfl rfl rfl (w_n rfl) ?_
        refine TL_nil ?_
        exact p_atE (j + 1, i1) ⟨⟨by omega, hyx3⟩, by dsimp only; omega⟩ (sub_cons rfl (sub_cons rfl (sub_cons rfl (sub_cons rfl (sub_cons rfl (sub_cons rfl (sub_cons rfl (sub_cons rfl (sub_cons rfl (sub_cons rfl (sub_cons rfl sub_nil))))))))))) rfl
    · replace h2 := of_decide_eq_false h2
      refine T_exit' ?_
      refine p_then_x ?_
      refine p_then_x ?_
      refine p_blk_x ?_
      refine p_blk_n ?_
      refine p_seq ?_
      refine T_region ?_
      refine TL_q (.int .i64 ((i + 1 : Nat) : Int)) (fun _ _ hρ _ => r_as (r_add (hρ _ _ rfl) (hρ _ _ rfl)) (int_as ((wrap64 (by omega) (by omega)).trans (by omega)))) rfl rfl rfl (w_n rfl) ?_
      refine TL_q (.int .i64 ((i + 1 : Nat) : Int)) (fun _ _ hρ _ => r_move (hρ _ _ rfl)) rfl rfl rfl (w_n rfl) ?_
      refine TL_nil ?_
      exact p_atE (i + 1, z2) ⟨⟨by omega, by rw [posR_succ hx, ← show j = x.l.length by omega]; exact hp2⟩, by dsimp only; omega⟩ (sub_cons rfl (sub_cons rfl (sub_cons rfl (sub_cons rfl sub_nil)))) (congrArg (fun q => LJ q z2) (by rw [posR_succ hx]; omega))
  · replace h1 := of_decide_eq_false h1
    refine T_exit' ?_
    refine p_then_x ?_
    refine p_then_x ?_
    refine p_blk_x ?_
    refine p_ng_n ?_
    refine p_end ?_
    refine ret_of rfl (.tuple #[]) (fun tmps w hk hm => results_none rfl _ _ _) (fun w hm => ?_)
    first
      | exact ⟨⟨_, rfl⟩, .inr ⟨j1, hyx3, hm⟩⟩
      | (have hil : i = rows.length := (by omega); subst hil; rw [posR_end] at hpz hm; exact ⟨⟨_, rfl⟩, .inl ⟨z, hpz, hm⟩⟩)
end Go.Proofs.Ytcidgbjgeegepaa
/- crc: sums, and the tail. Printed by a program of this seat's prover. -/
namespace Go.Proofs.Ytcidgbjgeegepaa
open Go Go.RowKit
set_option maxRecDepth 10000
theorem more_c (s : Wd) (rows : List RowV) (a : Option Addr) (cap : Nat) (w : World) (hv : SliceAt w a cap 1 RowV.cells rows) (hr : ∀ r ∈ rows, r.okR w) (hcp : ∀ r ∈ rows, r.cap ≤ Go.maxLen) (hcap : cap ≤ Go.maxLen) : Calls Try.prog 118 #[.int .u32 (s.toNat : Int), .slice a rows.length cap] w fun e w' => e = .returned (.int .u32 ((sumC s (rows.flatMap RowV.l)).toNat : Int)) ∧ Below w.heap.size w w' := by
  refine calls_of_T (l := [.int .u32 ((s).toNat : Int), .slice a rows.length cap]) 24 Try.func118 rfl rfl rfl ?_
  show T _ _ _ [(0, .int .u32 ((s).toNat : Int)), (1, .slice a rows.length cap)] []
  refine T_seq (T_region ?_)
  refine TL_q (.int .u32 0) (fun _ _ hρ _ => r_assign (hρ _ _ rfl)) rfl rfl rfl (w_n rfl) ?_
  refine TL_seq ?_
  refine T_seq (T_region ?_)
  refine TL_q (.int .u32 ((s).toNat : Int)) (fun _ _ hρ _ => r_move (hρ _ _ rfl)) rfl rfl rfl (w_n rfl) ?_
  refine TL_q (.int .u32 ((~~~s).toNat : Int)) (fun _ _ hρ _ => r_notW (k := .u32) (a := s) rfl (hρ _ _ rfl)) rfl rfl rfl (w_n rfl) ?_
  refine TL_callN (fun (_ : Nat × Nat) => True) (fun (R1, T1) => .pointer (some ⟨R1, 0, none⟩)) (fun (R1, T1) => [(902, .blk R1 (.cells #[.pointer (some ⟨T1, 0, none⟩), .int .u32 ((~~~s).toNat : Int)] 173)), (900, .blk T1 (.cells #[.int .u32 0, .int .i32 0, .int .u32 0, .int .u32 0, .int .u32 0, .int .u32 0, .int .u32 0, .int .u32 0, .int .u32 0, .int .u32 0, .int .u32 0, .int .u32 0, .int .u32 0, .int .u32 0, .int .u32 0, .int .u32 0, .int .u32 0, .int .u32 0, .int .u32 0] 190))]) (fun _ _ hρ _ => r_call (args := [.int .u32 ((~~~s).toNat : Int)]) (enters_of Try.func133 (by kernel_rfl) rfl) (hρ _ _ rfl) ((cons2 (hρ _ _ rfl) rfl)) rfl) (fun w _ => of_c (~~~s) w) rfl rfl rfl (w_n rfl) ?_
  rintro ⟨R1, T1⟩ -
  refine TL_q (.pointer (some ⟨R1, 0, none⟩)) (fun _ _ hρ _ => r_assign (hρ _ _ rfl)) rfl rfl rfl (w_n rfl) ?_
  refine TL_seq ?_
  refine T_seq (T_region ?_)
  refine TL_q (.pointer (some ⟨R1, 0, none⟩)) (fun _ _ hρ _ => r_move (hρ _ _ rfl)) rfl rfl rfl (w_n rfl) ?_
  refine TL_q (.func (.func 134) #[.pointer (some ⟨R1, 0, none⟩)] #[]) (fun _ _ hρ _ => r_makeFunc (map_arr (cons2 (hρ _ _ rfl) rfl)) (by simp)) rfl rfl rfl (w_n rfl) ?_
  refine TL_new 1 (.cells #[.nilFunc] 167) (fun B => .pointer (some ⟨B, 0, none⟩)) (fun _ _ _ _ => r_alloc (v := .nilFunc) (by kernel_rfl) rfl) rfl rfl rfl (w_n rfl) ?_
  intro B2
  refine TL_store 1 (.cells #[.func (.func 134) #[.pointer (some ⟨R1, 0, none⟩)] #[]] 167) rfl (fun _ _ hρ hm => r_store sz167 (hρ _ _ rfl) (hρ _ _ rfl) (hm.at 1 rfl) rfl rfl rfl rfl) rfl rfl (w_n rfl) ?_
  refine TL_seq ?_
  refine T_seq ?_
  refine T_seq (T_region ?_)
  refine TL_q (.slice a rows.length cap) (fun _ _ hρ _ => r_move (hρ _ _ rfl)) rfl rfl rfl (w_n rfl) ?_
  refine TL_callN (fun (_ : Nat) => True) (fun C3 => .func (.func 142) #[] #[.pointer (some ⟨C3, 0, none⟩)]) (fun C3 => [(903, .blk C3 (.cells #[.slice a rows.length cap] 63))]) (fun _ _ hρ _ => r_call (args := [.slice a rows.length cap]) (enters_of Try.func135 (by kernel_rfl) rfl) (hρ _ _ rfl) ((cons2 (hρ _ _ rfl) rfl)) rfl) (fun w _ => each_c a rows.length cap w) rfl rfl rfl (w_n rfl) ?_
  rintro C3 -
  refine TL_seq ?_
  refine T_block ?_
  refine T_sub [(4, .int .u32 0), (5, .pointer (some ⟨R1, 0, none⟩)), (6, .pointer (some ⟨B2, 0, none⟩)), (14, .func (.func 142) #[] #[.pointer (some ⟨C3, 0, none⟩)])] [(903, .blk C3 (.cells #[.slice a rows.length cap] 63)), (902, .blk R1 (.cells #[.pointer (some ⟨T1, 0, none⟩), .int .u32 ((~~~s).toNat : Int)] 173)), (900, .blk T1 (.cells #[.int .u32 0, .int .i32 0, .int .u32 0, .int .u32 0, .int .u32 0, .int .u32 0, .int .u32 0, .int .u32 0, .int .u32 0, .int .u32 0, .int .u32 0, .int .u32 0, .int .u32 0, .int .u32 0, .int .u32 0, .int .u32 0, .int .u32 0, .int .u32 0, .int .u32 0] 190)), (1, .blk B2 (.cells #[.func (.func 134) #[.pointer (some ⟨R1, 0, none⟩)] #[]] 167))] (sub_cons rfl (sub_cons rfl (sub_cons rfl (sub_cons rfl sub_nil)))) (sub_cons rfl (sub_cons rfl (sub_cons rfl (sub_cons rfl sub_nil)))) ?_
  refine T_range (ι := Bool) (encs := encB) (xs := (rows.flatMap RowV.l)) rfl rfl (enters_of Try.func142 (by kernel_rfl) rfl) (fun _ => rfl) rfl 801 802 rfl (fun (k : Nat) (d : Bool) => True) (fun (k : Nat) (d : Bool) => [(903, .blk C3 (.cells #[.slice a rows.length cap] 63)), (1, .blk B2 (.cells #[.func (.func 134) #[.pointer (some ⟨R1, 0, none⟩)] #[]] 167)), (902, .blk R1 (.cells #[.pointer (some ⟨T1, 0, none⟩), .int .u32 ((regL (~~~s) ((rows.flatMap RowV.l).take k)).toNat : Int)] 173)), (900, .blk T1 (.cells (tbS d) 190))]) (fun _ _ => False) (fun _ => []) (fun x => [(4, .int .u32 0), (5, .pointer (some ⟨R1, 0, none⟩)), (6, .pointer (some ⟨B2, 0, none⟩)), (14, .func (.func 142) #[] #[.pointer (some ⟨C3, 0, none⟩)]), (7, .int .u8 ((x).toNat : Int))]) (fun D l rec => each_iter _ rows a cap C3 hv hr hcp hcap _ _ (fun _ _ => rfl)) (fun _ _ => ⟨rfl, rfl⟩) (fun _ => ⟨rfl, rfl⟩) false trivial (sub_cons rfl (sub_cons rfl (sub_cons rfl (sub_cons rfl sub_nil)))) ?_ ?_ ?_ (fun _ _ _ h => h.elim)
  · intro D1 l1 rec1 k x d hx1 hp1
    refine T_sub [(4, .int .u32 0), (5, .pointer (some ⟨R1, 0, none⟩)), (6, .pointer (some ⟨B2, 0, none⟩)), (14, .func (.func 142) #[] #[.pointer (some ⟨C3, 0, none⟩)]), (15, .int .u8 ((x).toNat : Int))] [(801, .blk D1 (.deferred (some []))), (802, .blk l1 (.loop rec1)), (903, .blk C3 (.cells #[.slice a rows.length cap] 63)), (1, .blk B2 (.cells #[.func (.func 134) #[.pointer (some ⟨R1, 0, none⟩)] #[]] 167)), (902, .blk R1 (.cells #[.pointer (some ⟨T1, 0, none⟩), .int .u32 ((regL (~~~s) ((rows.flatMap RowV.l).take k)).toNat : Int)] 173)), (900, .blk T1 (.cells (tbS d) 190))] (sub_cons rfl (sub_cons rfl (sub_cons rfl (sub_cons rfl (sub_cons rfl sub_nil))))) (sub_cons rfl (sub_cons rfl (sub_cons rfl (sub_cons rfl (sub_cons rfl (sub_cons rfl sub_nil)))))) ?_
    refine T_region ?_
    refine TL_q (.int .u8 ((x).toNat : Int)) (fun _ _ hρ _ => r_assign (hρ _ _ rfl)) rfl rfl rfl (w_n rfl) ?_
    refine TL_nil ?_
    exact p_at () trivial (sub_cons rfl (sub_cons rfl (sub_cons rfl (sub_cons rfl (sub_cons rfl sub_nil))))) (sub_cons rfl (sub_cons rfl (sub_cons rfl (sub_cons rfl (sub_cons rfl (sub_cons rfl sub_nil))))))
  · intro D1 l1 rec1 k x d hx1 hp1
    show T _ _ _ [(4, .int .u32 0), (5, .pointer (some ⟨R1, 0, none⟩)), (6, .pointer (some ⟨B2, 0, none⟩)), (14, .func (.func 142) #[] #[.pointer (some ⟨C3, 0, none⟩)]), (7, .int .u8 ((x).toNat : Int))] [(801, .blk D1 (.deferred (some []))), (802, .blk l1 (.loop { rec1 with state := .busy })), (903, .blk C3 (.cells #[.slice a rows.length cap] 63)), (1, .blk B2 (.cells #[.func (.func 134) #[.pointer (some ⟨R1, 0, none⟩)] #[]] 167)), (902, .blk R1 (.cells #[.pointer (some ⟨T1, 0, none⟩), .int .u32 ((regL (~~~s) ((rows.flatMap RowV.l).take k)).toNat : Int)] 173)), (900, .blk T1 (.cells (tbS d) 190))]
    refine T_block ?_
    refine T_region ?_
    refine TL_q (.func (.func 134) #[.pointer (some ⟨R1, 0, none⟩)] #[]) (fun _ _ hρ hm => r_load ag167 (hρ _ _ rfl) (hm.at 1 rfl) rfl) rfl rfl rfl (w_n rfl) ?_
    refine TL_q (.int .u8 ((x).toNat : Int)) (fun _ _ hρ _ => r_move (hρ _ _ rfl)) rfl rfl rfl (w_n rfl) ?_
    refine TL_callH _ _ _ (fun _ _ hρ _ => r_call (args := [.int .u8 ((x).toNat : Int)]) (enters_of Try.func134 (by kernel_rfl) rfl) (hρ _ _ rfl) ((cons2 (hρ _ _ rfl) rfl)) rfl) (fun w hm => feed_ht _ _ T1 R1 (regL (~~~s) ((rows.flatMap RowV.l).take k)) x d rfl rfl rfl w hm) rfl rfl rfl (w_n rfl) ?_
    intro _ _
    refine TL_nil ?_
    refine p_blk_n ?_
    rw [reg_snoc _ hx1]
    exact p_round_n true trivial (sub_cons rfl (sub_cons rfl (sub_cons rfl (sub_cons rfl (sub_cons rfl (sub_cons rfl sub_nil))))))
  · intro D1 d hp1
    refine p_sub [(4, .int .u32 0), (5, .pointer (some ⟨R1, 0, none⟩)), (6, .pointer (some ⟨B2, 0, none⟩)), (14, .func (.func 142) #[] #[.pointer (some ⟨C3, 0, none⟩)])] [(801, .blk D1 (.deferred (some []))), (903, .blk C3 (.cells #[.slice a rows.length cap] 63)), (1, .blk B2 (.cells #[.func (.func 134) #[.pointer (some ⟨R1, 0, none⟩)] #[]] 167)), (902, .blk R1 (.cells #[.pointer (some ⟨T1, 0, none⟩), .int .u32 ((regL (~~~s) ((rows.flatMap RowV.l).take (rows.flatMap RowV.l).length)).toNat : Int)] 173)), (900, .blk T1 (.cells (tbS d) 190))] (sub_cons rfl (sub_cons rfl (sub_cons rfl (sub_cons rfl sub_nil)))) (sub_cons rfl (sub_cons rfl (sub_cons rfl (sub_cons rfl (sub_cons rfl sub_nil))))) ?_
    refine p_blk_n ?_
    refine p_seq ?_
    refine T_seq (T_region ?_)
    refine TL_q (.pointer (some ⟨R1, 0, none⟩)) (fun _ _ hρ _ => r_move (hρ _ _ rfl)) rfl rfl rfl (w_n rfl) ?_
    refine TL_q (.pointer (some ⟨R1, 0, none⟩)) (fun _ _ hρ _ => r_nilCheck (hρ _ _ rfl) rfl) rfl rfl rfl (w_n rfl) ?_
    refine TL_q (.pointer (some ⟨R1, 1, none⟩)) (fun _ _ hρ _ => r_fieldAddr fl173_1 sz46 (hρ _ _ rfl)) rfl rfl rfl (w_n rfl) ?_
    refine TL_q (.int .u32 ((regL (~~~s) ((rows.flatMap RowV.l).take (rows.flatMap RowV.l).length)).toNat : Int)) (fun _ _ hρ hm => r_load ag46 (hρ _ _ rfl) (hm.at 902 rfl) rfl) rfl rfl rfl (w_n rfl) ?_
    refine TL_q (.int .u32 ((~~~(regL (~~~s) ((rows.flatMap RowV.l).take (rows.flatMap RowV.l).length))).toNat : Int)) (fun _ _ hρ _ => r_notW (k := .u32) (a := (regL (~~~s) ((rows.flatMap RowV.l).take (rows.flatMap RowV.l).length))) rfl (hρ _ _ rfl)) rfl rfl rfl (w_n rfl) ?_
    refine TL_q (.int .u32 ((~~~(regL (~~~s) ((rows.flatMap RowV.l).take (rows.flatMap RowV.l).length))).toNat : Int)) (fun _ _ hρ _ => r_assign (hρ _ _ rfl)) rfl rfl rfl (w_n rfl) ?_
    refine TL_seq ?_
    refine T_ret' ?_
    refine ret_of1 801 D1 rfl rfl (.int .u32 ((~~~(regL (~~~s) ((rows.flatMap RowV.l).take (rows.flatMap RowV.l).length))).toNat : Int)) (fun tmps w hk hm => res1 rfl (res_tmp (hk 4 _ rfl))) (fun w hm => ?_)
    refine ⟨?_, hm.ext⟩
    rw [List.take_length]; rfl

theorem sum_c (rows : List RowV) (a : Option Addr) (cap : Nat) (w : World) (hv : SliceAt w a cap 1 RowV.cells rows) (hr : ∀ r ∈ rows, r.okR w) (hcp : ∀ r ∈ rows, r.cap ≤ Go.maxLen) (hcap : cap ≤ Go.maxLen) : Calls Try.prog 96 #[.slice a rows.length cap] w fun e w' => e = .returned (.int .u32 ((sumC 0#32 (rows.flatMap RowV.l)).toNat : Int)) ∧ Below w.heap.size w w' := by
  refine calls_of_T (l := [.slice a rows.length cap]) 5 Try.func96 rfl rfl rfl ?_
  show T _ _ _ [(0, .slice a rows.length cap)] []
  refine T_seq (T_region ?_)
  refine TL_q (.int .u32 0) (fun _ _ hρ _ => r_assign (hρ _ _ rfl)) rfl rfl rfl (w_n rfl) ?_
  refine TL_seq ?_
  refine T_seq (T_region ?_)
  refine TL_q (.slice a rows.length cap) (fun _ _ hρ _ => r_move (hρ _ _ rfl)) rfl rfl rfl (w_n rfl) ?_
  refine TL_call (.int .u32 ((sumC (0#32) (rows.flatMap RowV.l)).toNat : Int)) (fun _ _ hρ _ => r_call (args := [.int .u32 0, .slice a rows.length cap]) (enters_of Try.func118 (by kernel_rfl) rfl) (hρ _ _ rfl) ((cons2 (hρ _ _ rfl) (cons2 (hρ _ _ rfl) rfl))) rfl) (fun w hm => more_c (0#32) rows a cap w (hv.keep hm.ext) (fun r h => (hr r h).keep hm.ext) hcp hcap) rfl rfl rfl (w_n rfl) ?_
  refine TL_q (.int .u32 ((sumC (0#32) (rows.flatMap RowV.l)).toNat : Int)) (fun _ _ hρ _ => r_assign (hρ _ _ rfl)) rfl rfl rfl (w_n rfl) ?_
  refine TL_seq ?_
  refine T_ret' ?_
  refine ret_of rfl (.int .u32 ((sumC (0#32) (rows.flatMap RowV.l)).toNat : Int)) (fun tmps w hk hm => res1 rfl (res_tmp (hk 2 _ rfl))) (fun w hm => ?_)
  exact ⟨rfl, hm.ext⟩

abbrev fourV (x : Wd) : Value := .agg #[.int .u8 ((x.setWidth 8).toNat : Int), .int .u8 (((x >>> 8).setWidth 8).toNat : Int), .int .u8 (((x >>> 16).setWidth 8).toNat : Int), .int .u8 (((x >>> 24).setWidth 8).toNat : Int)]

theorem four_c (x : Wd) (w : World) : Calls Try.prog 95 #[.int .u32 (x.toNat : Int)] w fun e w' => e = .returned (fourV x) ∧ Below w.heap.size w w' := by
  refine calls_of_T (l := [.int .u32 ((x).toNat : Int)]) 15 Try.func95 rfl rfl rfl ?_
  show T _ _ _ [(0, .int .u32 ((x).toNat : Int))] []
  refine T_seq (T_region ?_)
  refine TL_new 1 (.cells #[.int .u8 0, .int .u8 0, .int .u8 0, .int .u8 0] 130) (fun B => .pointer (some ⟨B, 0, none⟩)) (fun _ _ _ _ => r_alloc (v := .agg #[.int .u8 0, .int .u8 0, .int .u8 0, .int .u8 0]) (by kernel_rfl) rfl) rfl rfl rfl (w_n rfl) ?_
  intro B1
  refine TL_seq ?_
  refine T_seq (T_region ?_)
  refine TL_q (.int .u32 ((x).toNat : Int)) (fun _ _ hρ _ => r_move (hρ _ _ rfl)) rfl rfl rfl (w_n rfl) ?_
  refine TL_q (.int .u8 ((x.setWidth 8).toNat : Int)) (fun _ _ hρ _ => r_convB (k := .u32) (k' := .u8) (a := x) un46 io5 rfl (hρ _ _ rfl)) rfl rfl rfl (w_n rfl) ?_
  refine TL_q (.int .u32 ((x).toNat : Int)) (fun _ _ hρ _ => r_move (hρ _ _ rfl)) rfl rfl rfl (w_n rfl) ?_
  refine TL_q (.int .u32 ((x >>> 8).toNat : Int)) (fun _ _ hρ _ => r_shrB (k := .u32) (a := x) (n := 8) (by decide) (hρ _ _ rfl) (hρ _ _ rfl)) rfl rfl rfl (w_n rfl) ?_
  refine TL_q (.int .u8 (((x >>> 8).setWidth 8).toNat : Int)) (fun _ _ hρ _ => r_convB (k := .u32) (k' := .u8) (a := (x >>> 8)) un46 io5 rfl (hρ _ _ rfl)) rfl rfl rfl (w_n rfl) ?_
  refine TL_q (.int .u32 ((x).toNat : Int)) (fun _ _ hρ _ => r_move (hρ _ _ rfl)) rfl rfl rfl (w_n rfl) ?_
  refine TL_q (.int .u32 ((x >>> 16).toNat : Int)) (fun _ _ hρ _ => r_shrB (k := .u32) (a := x) (n := 16) (by decide) (hρ _ _ rfl) (hρ _ _ rfl)) rfl rfl rfl (w_n rfl) ?_
  refine TL_q (.int .u8 (((x >>> 16).setWidth 8).toNat : Int)) (fun _ _ hρ _ => r_convB (k := .u32) (k' := .u8) (a := (x >>> 16)) un46 io5 rfl (hρ _ _ rfl)) rfl rfl rfl (w_n rfl) ?_
  refine TL_q (.int .u32 ((x).toNat : Int)) (fun _ _ hρ _ => r_move (hρ _ _ rfl)) rfl rfl rfl (w_n rfl) ?_
  refine TL_q (.int .u32 ((x >>> 24).toNat : Int)) (fun _ _ hρ _ => r_shrB (k := .u32) (a := x) (n := 24) (by decide) (hρ _ _ rfl) (hρ _ _ rfl)) rfl rfl rfl (w_n rfl) ?_
  refine TL_q (.int .u8 (((x >>> 24).setWidth 8).toNat : Int)) (fun _ _ hρ _ => r_convB (k := .u32) (k' := .u8) (a := (x >>> 24)) un46 io5 rfl (hρ _ _ rfl)) rfl rfl rfl (w_n rfl) ?_
  refine TL_q (.agg #[.int .u8 ((x.setWidth 8).toNat : Int), .int .u8 (((x >>> 8).setWidth 8).toNat : Int), .int .u8 (((x >>> 16).setWidth 8).toNat : Int), .int .u8 (((x >>> 24).setWidth 8).toNat : Int)]) (fun _ _ hρ _ => r_build (vs := [(0, .int .u8 ((x.setWidth 8).toNat : Int)), (1, .int .u8 (((x >>> 8).setWidth 8).toNat : Int)), (2, .int .u8 (((x >>> 16).setWidth 8).toNat : Int)), (3, .int .u8 (((x >>> 24).setWidth 8).toNat : Int))]) (by kernel_rfl) (cons2 (pair2 (hρ _ _ rfl)) (cons2 (pair2 (hρ _ _ rfl)) (cons2 (pair2 (hρ _ _ rfl)) (cons2 (pair2 (hρ _ _ rfl)) rfl))))) rfl rfl rfl (w_n rfl) ?_
  refine TL_store 1 (.cells #[.int .u8 ((x.setWidth 8).toNat : Int), .int .u8 (((x >>> 8).setWidth 8).toNat : Int), .int .u8 (((x >>> 16).setWidth 8).toNat : Int), .int .u8 (((x >>> 24).setWidth 8).toNat : Int)] 130) rfl (fun _ _ hρ hm => r_store sz130 (hρ _ _ rfl) (hρ _ _ rfl) (hm.at 1 rfl) rfl rfl rfl rfl) rfl rfl (w_n rfl) ?_
  refine TL_seq ?_
  refine T_ret' ?_
  refine ret_of rfl (.agg #[.int .u8 ((x.setWidth 8).toNat : Int), .int .u8 (((x >>> 8).setWidth 8).toNat : Int), .int .u8 (((x >>> 16).setWidth 8).toNat : Int), .int .u8 (((x >>> 24).setWidth 8).toNat : Int)]) (fun tmps w hk hm => res1 rfl (res_cell (hk 2 _ rfl) (run_loadVar_agg ag130 sz130 (hm.at 1 rfl) (Nat.le_of_ble_eq_true rfl) rfl))) (fun w hm => ?_)
  exact ⟨rfl, hm.ext⟩

end Go.Proofs.Ytcidgbjgeegepaa
/- crc: sums bit by bit, what is sealed, what is spoilt; plainly. -/
namespace Go.Proofs.Ytcidgbjgeegepaa
def bw (c : Bool) : Wd := if c = true then 1#32 else 0#32
theorem bw_bit (c : Bool) (i : Nat) : (bw c).getLsbD i = (c && decide (i = 0)) := by
  cases c
  · simp [bw]
  · show (1#32).getLsbD i = _
    rw [BitVec.getLsbD_one]; simp
/-- A register behind bits. -/
def regF (r : Wd) (f : Nat → Bool) : Nat → Wd
  | 0 => r
  | n + 1 => fed0 (regF r f n ^^^ bw (f n))
theorem regF_congr {r : Wd} {f g : Nat → Bool} : ∀ {n : Nat}, (∀ i, i < n → f i = g i) → regF r f n = regF r g n
  | 0, _ => rfl
  | n + 1, h => by
    show fed0 (regF r f n ^^^ bw (f n)) = fed0 (regF r g n ^^^ bw (g n))
    rw [regF_congr (fun i hi => h i (by omega)), h n (by omega)]
theorem regF_add (r : Wd) (f : Nat → Bool) (m : Nat) : ∀ n, regF r f (m + n) = regF (regF r f m) (fun i => f (m + i)) n
  | 0 => rfl
  | n + 1 => by
    show fed0 (regF r f (m + n) ^^^ bw (f (m + n))) = _
    rw [regF_add r f m n]; rfl
/-- The low bits of a word. -/
def lowW (k : Nat) (x : Wd) : Wd := x ^^^ ((x >>> k) <<< k)
theorem lowW_bit (k : Nat) (x : Wd) (i : Nat) : (lowW k x).getLsbD i = (decide (i < k) && x.getLsbD i) := by
  unfold lowW
  rw [BitVec.getLsbD_xor, BitVec.getLsbD_shiftLeft, BitVec.getLsbD_ushiftRight]
  by_cases h : i < k
  · simp [h]
  · by_cases h32 : i < 32
    · rw [show k + (i - k) = i by omega]; simp [h, h32]
    · rw [BitVec.getLsbD_of_ge x i (by omega)]; simp [h32]
theorem lowW_all (x : Wd) : lowW 32 x = x := by
  apply BitVec.eq_of_getLsbD_eq
  intro i hi
  rw [lowW_bit]; simp [hi]
theorem lowW_zero (x : Wd) : lowW 0 x = 0#32 := by
  apply BitVec.eq_of_getLsbD_eq
  intro i hi
  rw [lowW_bit]; simp
theorem lowW_succ (k : Nat) (x : Wd) (hk : k < 32) : lowW (k + 1) x = lowW k x ^^^ (bw (x.getLsbD k) <<< k) := by
  apply BitVec.eq_of_getLsbD_eq
  intro i hi
  rw [BitVec.getLsbD_xor, lowW_bit, lowW_bit, BitVec.getLsbD_shiftLeft, bw_bit]
  by_cases e : i = k
  · subst e; simp [hi]
  · by_cases h : i < k
    · simp [h, show i < k + 1 by omega]
    · simp [h, show ¬ i < k + 1 by omega, show ¬ i - k = 0 by omega]
theorem bw_back (c : Bool) (k : Nat) (hk : k < 32) : fedN k (bw c <<< k) = bw c := by
  rw [fedN_low k _ (fun i hi => by rw [BitVec.getLsbD_shiftLeft]; simp [hi])]
  apply BitVec.eq_of_getLsbD_eq
  intro i hi
  rw [BitVec.getLsbD_ushiftRight, BitVec.getLsbD_shiftLeft, bw_bit, bw_bit, show k + i - k = i by omega]
  by_cases e : i = 0
  · subst e; simp [hk]
  · simp [e]
theorem regF_word (r x : Wd) : ∀ k, k ≤ 32 → regF r (fun i => x.getLsbD i) k = fedN k (r ^^^ lowW k x)
  | 0, _ => by rw [lowW_zero, BitVec.xor_zero]; rfl
  | k + 1, h => by
    show fed0 (regF r _ k ^^^ bw (x.getLsbD k)) = fed0 (fedN k _)
    rw [regF_word r x k (by omega), lowW_succ k x (by omega), ← BitVec.xor_assoc, fedN_xor k (r ^^^ lowW k x), bw_back _ k (by omega)]
theorem lowW_byte (b : By) : lowW 8 (b.setWidth 32) = b.setWidth 32 := by
  apply BitVec.eq_of_getLsbD_eq
  intro i hi
  rw [lowW_bit, BitVec.getLsbD_setWidth]
  by_cases h : i < 8
  · simp [h]
  · rw [BitVec.getLsbD_of_ge b i (by omega)]; simp
theorem step_regF (r : Wd) (b : By) : step r b = regF r (fun i => b.getLsbD i) 8 := by
  have h := regF_word r (b.setWidth 32) 8 (by decide)
  rw [lowW_byte] at h
  refine h.symm.trans (regF_congr fun i hi => ?_)
  rw [BitVec.getLsbD_setWidth]; simp [show i < 32 by omega]
/-- A bit of bytes. -/
def bitA (l : List By) (n : Nat) : Bool := (l[n / 8]?.getD 0#8).getLsbD (n % 8)
theorem regL_take (r : Wd) (l : List By) : ∀ k, k ≤ l.length → regL r (l.take k) = regF r (bitA l) (8 * k)
  | 0, _ => rfl
  | k + 1, h => by
    have hx : l[k]? = some l[k] := List.getElem?_eq_getElem (by omega)
    have e : regL r (l.take (k + 1)) = step (regL r (l.take k)) l[k] := by
      unfold regL; rw [List.take_add_one, hx, List.foldl_append]; rfl
    rw [e, regL_take r l k (by omega), show 8 * (k + 1) = 8 * k + 8 by omega, regF_add, step_regF]
    refine regF_congr fun i hi => ?_
    unfold bitA
    rw [show (8 * k + i) / 8 = k by omega, show (8 * k + i) % 8 = i by omega, hx]; rfl
theorem regL_bits (r : Wd) (l : List By) : regL r l = regF r (bitA l) (8 * l.length) := by
  have := regL_take r l l.length (Nat.le_refl _)
  rwa [List.take_length] at this
theorem four_len (x : Wd) : (four x).length = 4 := rfl
/-! ### what is sealed -/
def sealP (l : List By) : List By := l ++ four (sumC 0#32 l)
def openP (l : List By) : Option (List By) := if 4 ≤ l.length ∧ l.drop (l.length - 4) = four (sumC 0#32 (l.take (l.length - 4))) then some (l.take (l.length - 4)) else none
theorem open_seal (l : List By) : openP (sealP l) = some l := by
  unfold openP sealP
  have e : (l ++ four (sumC 0#32 l)).length - 4 = l.length := by rw [List.length_append, four_len]; omega
  rw [e, List.take_left, List.drop_left, if_pos ⟨by rw [List.length_append, four_len]; omega, rfl⟩]
end Go.Proofs.Ytcidgbjgeegepaa
/- Words of bits: sums, products, quotients, rests. Over any program. -/
namespace Go.Proofs.Ytcidgbjgeegepaa
open Go Go.RowKit
section
variable {P : Program} {w : World} {ρ : Operand → Value} {d : Option Tmp} {ty : TypeId} {ps : String} {af : Array Edge} {g : Option (Nat × Bool)} {x y : Operand} {k : IntKind} {a b : BitVec k.bits} {t t' : TypeId}
theorem wrap_of {k : IntKind} (hs : k.signed = false) (z : Int) {x : BitVec k.bits} (h : BitVec.ofInt k.bits z = x) : k.wrap z = (x.toNat : Int) := by
  subst h
  rw [wrap_uns hs, BitVec.toNat_ofInt]
  have h2 : (0 : Int) < ((2 ^ k.bits : Nat) : Int) := by exact_mod_cast Nat.two_pow_pos k.bits
  have := Int.emod_nonneg z (Int.ne_of_gt h2)
  rw [show (2 ^ k.bits : Int) = ((2 ^ k.bits : Nat) : Int) by simp]
  omega
theorem r_addB (hs : k.signed = false) (hx : ρ x = .int k (a.toNat : Int)) (hy : ρ y = .int k (b.toNat : Int)) : (execOp ρ (mk d (.binOp .add t x y t') ty ps af g)).run P w = .ok (.value (.int k ((a + b).toNat : Int))) w := by
  rw [r_add hx hy, wrap_of hs _ (x := a + b) (by rw [BitVec.ofInt_add, ofInt_nat, ofInt_nat])]
theorem r_mulB (hs : k.signed = false) (hx : ρ x = .int k (a.toNat : Int)) (hy : ρ y = .int k (b.toNat : Int)) : (execOp ρ (mk d (.binOp .mul t x y t') ty ps af g)).run P w = .ok (.value (.int k ((a * b).toNat : Int))) w := by
  rw [r_mul hx hy, wrap_of hs _ (x := a * b) (by rw [BitVec.ofInt_mul, ofInt_nat, ofInt_nat])]
theorem r_subB (hs : k.signed = false) (hx : ρ x = .int k (a.toNat : Int)) (hy : ρ y = .int k (b.toNat : Int)) : (execOp ρ (mk d (.binOp .sub t x y t') ty ps af g)).run P w = .ok (.value (.int k ((a - b).toNat : Int))) w := by
  rw [r_sub hx hy, wrap_of hs _ (x := a - b) (by rw [Int.sub_eq_add_neg, BitVec.ofInt_add, BitVec.ofInt_neg, ofInt_nat, ofInt_nat, BitVec.sub_eq_add_neg])]
theorem r_quoB (hs : k.signed = false) (hb : Nat.blt 0 b.toNat = true) (hx : ρ x = .int k (a.toNat : Int)) (hy : ρ y = .int k (b.toNat : Int)) : (execOp ρ (mk d (.binOp .quo t x y t') ty ps af g)).run P w = .ok (.value (.int k ((a / b).toNat : Int))) w := by
  have h0 : (b.toNat : Int) ≠ 0 := fun e => by rw [Int.natCast_eq_zero.1 e] at hb; cases hb
  rw [r_quo hx hy h0, Int.tdiv_eq_ediv_of_nonneg (Int.natCast_nonneg _), show (a.toNat : Int) / (b.toNat : Int) = ((a / b).toNat : Int) by rw [BitVec.toNat_udiv]; simp, wrap_nat hs]
theorem r_remB (hb : Nat.blt 0 b.toNat = true) (hx : ρ x = .int k (a.toNat : Int)) (hy : ρ y = .int k (b.toNat : Int)) : (execOp ρ (mk d (.binOp .rem t x y t') ty ps af g)).run P w = .ok (.value (.int k ((a % b).toNat : Int))) w := by
  have h0 : (b.toNat : Int) ≠ 0 := fun e => by rw [Int.natCast_eq_zero.1 e] at hb; cases hb
  rw [r_rem hx hy h0, Int.tmod_eq_emod_of_nonneg (Int.natCast_nonneg _), show (a.toNat : Int) % (b.toNat : Int) = ((a % b).toNat : Int) by rw [BitVec.toNat_umod]; simp]
end
theorem half_b {n : Nat} (x : BitVec (n + 2)) : x / 2#(n + 2) = x >>> 1 := by
  apply BitVec.eq_of_toNat_eq
  have h4 : 4 ≤ 2 ^ (n + 2) := by have := Nat.two_pow_pos n; rw [Nat.pow_add]; omega
  rw [BitVec.toNat_udiv, BitVec.toNat_ushiftRight, BitVec.toNat_ofNat, Nat.mod_eq_of_lt (by omega), Nat.shiftRight_eq_div_pow]
theorem odd_b {n : Nat} (x : BitVec (n + 2)) : x % 2#(n + 2) = if x.getLsbD 0 = true then 1#(n + 2) else 0#(n + 2) := by
  apply BitVec.eq_of_toNat_eq
  have h4 : 4 ≤ 2 ^ (n + 2) := by have := Nat.two_pow_pos n; rw [Nat.pow_add]; omega
  rw [BitVec.toNat_umod, BitVec.toNat_ofNat, Nat.mod_eq_of_lt (a := 2) (by omega)]
  have hb : x.getLsbD 0 = decide (x.toNat % 2 = 1) := by unfold BitVec.getLsbD; rw [Nat.testBit_zero]
  rw [hb]
  by_cases h : x.toNat % 2 = 1
  · rw [h, decide_eq_true rfl, if_pos rfl, BitVec.toNat_ofNat, Nat.mod_eq_of_lt (by omega)]
  · rw [decide_eq_false h, if_neg (by decide), BitVec.toNat_ofNat]; simp; omega
end Go.Proofs.Ytcidgbjgeegepaa
