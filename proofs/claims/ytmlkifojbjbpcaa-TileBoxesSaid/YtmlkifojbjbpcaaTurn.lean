/- tile: Turn, and its reference. Printed by a program of this seat's prover. -/
import Derived.Test.YtmlkifojbjbpcaaNewRef
import Derived.Test.YtmlkifojbjbpcaaJmp
namespace Go.Proofs.Ytmlkifojbjbpcaa
open Go Go.RowKit
set_option maxRecDepth 10000
def turnN (l : List C4) : Nat → List C4
  | 0 => l
  | k + 1 => turnL (turnN l k)
theorem turnN_len {l : List C4} (hl : l.length = 64) : ∀ k, (turnN l k).length = 64
  | 0 => hl
  | _ + 1 => turnL_len _
theorem tm_bd (k : Int) : -4 < Int.tmod k 4 ∧ Int.tmod k 4 < 4 := by
  rcases Int.lt_or_le k 0 with h | h
  · have e : Int.tmod k 4 = -(Int.tmod (-k) 4) := by rw [Int.neg_tmod]; omega
    rw [e, Int.tmod_eq_emod_of_nonneg (by omega)]; omega
  · rw [Int.tmod_eq_emod_of_nonneg h]; omega
def times (k : Int) : Nat := (k % 4).toNat
theorem tm_times (k : Int) : Int.tmod (Int.tmod k 4 + 4) 4 = ((times k : Nat) : Int) := by
  have hb := tm_bd k
  rw [Int.tmod_eq_emod_of_nonneg (by omega)]
  unfold times
  rcases Int.lt_or_le k 0 with h | h
  · have e : Int.tmod k 4 = -(Int.tmod (-k) 4) := by rw [Int.neg_tmod]; omega
    rw [e, Int.tmod_eq_emod_of_nonneg (by omega)]; omega
  · rw [Int.tmod_eq_emod_of_nonneg h]; omega
theorem times_lt (k : Int) : times k < 4 := by unfold times; omega

theorem turns_ref (l : List C4) (k : Int) (w : World) (hl : l.length = 64) : Calls Try.prog 24 #[til l, .int .i64 k] w fun e w' => e = .returned (til (turnN l (times k))) ∧ Below w.heap.size w w' := by
  have hb := tm_bd k
  have ht := times_lt k
  refine calls_of_T (l := [.agg (lst C4.cells l), .int .i64 k]) 15 Try.func24 rfl rfl rfl ?_
  show T _ _ _ [(0, .agg (lst C4.cells l)), (1, .int .i64 k)] []
  refine T_seq (T_region ?_)
  refine TL_new 1 (.cells (lst C4.cells l) 25) (fun B => .pointer (some ⟨B, 0, none⟩)) (fun _ _ hρ _ => r_box (hρ _ _ rfl) rfl) rfl rfl rfl (w_n rfl) ?_
  intro B1
  refine TL_new 2 (.cells (lst C4.cells zero64) 25) (fun B => .pointer (some ⟨B, 0, none⟩)) (fun _ _ _ _ => r_alloc (v := .agg (lst C4.cells zero64)) (by kernel_rfl) rfl) rfl rfl rfl (w_n rfl) ?_
  intro B2
  refine TL_seq ?_
  refine T_seq ?_
  refine T_seq (T_region ?_)
  refine TL_q (.int .i64 k) (fun _ _ hρ _ => r_move (hρ _ _ rfl)) rfl rfl rfl (w_n rfl) ?_
  refine TL_q (.int .i64 (Int.tmod k 4)) (fun _ _ hρ _ => r_rem (hρ _ _ rfl) (hρ _ _ rfl) (by decide)) rfl rfl rfl (w_n rfl) ?_
  refine TL_q (.int .i64 (Int.tmod k 4 + 4)) (fun _ _ hρ _ => r_as (r_add (hρ _ _ rfl) (hρ _ _ rfl)) (int_as (wrap64 (by omega) (by omega)))) rfl rfl rfl (w_n rfl) ?_
  refine TL_q (.int .i64 ((times k : Nat) : Int)) (fun _ _ hρ _ => r_as (r_rem (hρ _ _ rfl) (hρ _ _ rfl) (by decide)) (int_as (tm_times k))) rfl rfl rfl (w_n rfl) ?_
  refine TL_q (.int .i64 0) (fun _ _ hρ _ => r_move (hρ _ _ rfl)) rfl rfl rfl (w_n rfl) ?_
  refine TL_seq ?_
  refine T_block ?_
  refine T_loop (ι := Nat) (fun (j : Nat) => j ≤ times k) (fun (j : Nat) => [(2, .pointer (some ⟨B1, 0, none⟩)), (4, .pointer (some ⟨B2, 0, none⟩)), (8, .int .i64 ((times k : Nat) : Int)), (9, .int .i64 ((j : Nat) : Int))]) (fun (j : Nat) => [(2, .blk B2 (.cells (lst C4.cells zero64) 25)), (1, .blk B1 (.cells (lst C4.cells (turnN l j)) 25))]) (fun (j : Nat) => times k - j) 0 (Nat.zero_le _) (sub_cons rfl (sub_cons rfl (sub_cons rfl (sub_cons rfl sub_nil)))) (sub_cons rfl (sub_cons rfl sub_nil)) ?_
  rintro j hp
  show T _ _ _ [(2, .pointer (some ⟨B1, 0, none⟩)), (4, .pointer (some ⟨B2, 0, none⟩)), (8, .int .i64 ((times k : Nat) : Int)), (9, .int .i64 ((j : Nat) : Int))] [(2, .blk B2 (.cells (lst C4.cells zero64) 25)), (1, .blk B1 (.cells (lst C4.cells (turnN l j)) 25))]
  refine T_seq (T_region ?_)
  refine TL_q (.bool (decide (((j : Nat) : Int) < ((times k : Nat) : Int)))) (fun _ _ hρ _ => r_lss (hρ _ _ rfl) (hρ _ _ rfl)) rfl rfl rfl (w_n rfl) ?_
  refine TL_seq ?_
  refine T_seq ?_
  refine T_cond rfl (fun h1 => ?_) (fun h1 => ?_)
  · replace h1 := of_decide_eq_true h1
    refine T_skip' ?_
    refine p_seq ?_
    refine T_seq ?_
    refine T_block ?_
    refine T_region ?_
    refine TL_q (.agg (lst C4.cells (turnN l j))) (fun _ _ hρ hm => r_loadW ag25 sz25 (hρ _ _ rfl) (hm.at 1 rfl) (tsz (turnN_len hl _))) rfl rfl rfl (w_n rfl) ?_
    refine TL_call (.agg (lst C4.cells (turnL (turnN l j)))) (fun _ _ hρ _ => r_call (args := [.agg (lst C4.cells (turnN l j))]) (enters_of Try.func44 (by kernel_rfl) rfl) (hρ _ _ rfl) ((cons2 (hρ _ _ rfl) rfl)) rfl) (fun w _ => turn_ref (turnN l j) w (turnN_len hl _)) rfl rfl rfl (w_n rfl) ?_
    refine TL_store 1 (.cells (lst C4.cells (turnL (turnN l j))) 25) rfl (fun _ _ hρ hm => r_storeAll sz25 (hρ _ _ rfl) (hρ _ _ rfl) (hm.at 1 rfl) (tsz (turnN_len hl _)) (tsz (turnL_len _)) (lst_one C4.cells_all _)) rfl rfl (w_n rfl) ?_
    refine TL_nil ?_
    refine p_blk_n ?_
    refine p_seq ?_
    refine T_region ?_
    refine TL_q (.int .i64 ((j + 1 : Nat) : Int)) (fun _ _ hρ _ => r_as (r_add (hρ _ _ rfl) (hρ _ _ rfl)) (int_as ((wrap64 (by omega) (by omega)).trans (by omega)))) rfl rfl rfl (w_n rfl) ?_
    refine TL_q (.int .i64 ((j + 1 : Nat) : Int)) (fun _ _ hρ _ => r_move (hρ _ _ rfl)) rfl rfl rfl (w_n rfl) ?_
    refine TL_nil ?_
    exact p_at (j + 1) ⟨by omega, by omega⟩ (sub_cons rfl (sub_cons rfl (sub_cons rfl (sub_cons rfl sub_nil)))) (sub_cons rfl (sub_cons rfl sub_nil))
  · replace h1 := of_decide_eq_false h1
    refine T_exit' ?_
    refine p_then_x ?_
    refine p_then_x ?_
    refine p_blk_x ?_
    refine p_seq ?_
    refine T_seq (T_region ?_)
    refine TL_q (.agg (lst C4.cells (turnN l j))) (fun _ _ hρ hm => r_loadW ag25 sz25 (hρ _ _ rfl) (hm.at 1 rfl) (tsz (turnN_len hl _))) rfl rfl rfl (w_n rfl) ?_
    refine TL_store 2 (.cells (lst C4.cells (turnN l j)) 25) rfl (fun _ _ hρ hm => r_storeAll sz25 (hρ _ _ rfl) (hρ _ _ rfl) (hm.at 2 rfl) (tsz zero64_len) (tsz (turnN_len hl _)) (lst_one C4.cells_all _)) rfl rfl (w_n rfl) ?_
    refine TL_seq ?_
    refine T_ret' ?_
    refine ret_of rfl (.agg (lst C4.cells (turnN l j))) (fun tmps w hk hm => res1 rfl (res_cell (hk 4 _ rfl) (run_loadVar_agg ag25 sz25 (hm.at 2 rfl) (le64 (turnN_len hl _)) (ex64 (turnN_len hl _))))) (fun w hm => ?_)
    have hjk : j = times k := by omega
    subst hjk
    exact ⟨rfl, hm.ext⟩

theorem turn_c (l : List C4) (k : Int) (w : World) (hl : l.length = 64) : Calls Try.prog 23 #[til l, .int .i64 k] w fun e w' => e = .returned (til (turnN l (times k))) ∧ Below w.heap.size w w' := by
  have hb := tm_bd k
  have ht := times_lt k
  refine calls_of_T (l := [.agg (lst C4.cells l), .int .i64 k]) 18 Try.func23 rfl rfl rfl ?_
  show T _ _ _ [(0, .agg (lst C4.cells l)), (1, .int .i64 k)] []
  refine T_seq (T_region ?_)
  refine TL_new 1 (.cells (lst C4.cells l) 25) (fun B => .pointer (some ⟨B, 0, none⟩)) (fun _ _ hρ _ => r_box (hρ _ _ rfl) rfl) rfl rfl rfl (w_n rfl) ?_
  intro B1
  refine TL_new 2 (.cells (lst C4.cells zero64) 25) (fun B => .pointer (some ⟨B, 0, none⟩)) (fun _ _ _ _ => r_alloc (v := .agg (lst C4.cells zero64)) (by kernel_rfl) rfl) rfl rfl rfl (w_n rfl) ?_
  intro B2
  refine TL_seq ?_
  refine T_jumps (ι := Nat) 0 (fun (j : Nat) => j ≤ times k) (fun (j : Nat) => [(2, .pointer (some ⟨B1, 0, none⟩)), (4, .pointer (some ⟨B2, 0, none⟩)), (5, .int .i64 (((times k : Nat) : Int) - ((j : Nat) : Int)))]) (fun (j : Nat) => [(2, .blk B2 (.cells (lst C4.cells zero64) 25)), (1, .blk B1 (.cells (lst C4.cells (turnN l j)) 25))]) (fun (j : Nat) => times k - j) rfl rfl ?_ ?_
  · skip
    refine T_seq (T_region ?_)
    refine TL_q (.int .i64 k) (fun _ _ hρ _ => r_move (hρ _ _ rfl)) rfl rfl rfl (w_n rfl) ?_
    refine TL_q (.int .i64 (Int.tmod k 4)) (fun _ _ hρ _ => r_rem (hρ _ _ rfl) (hρ _ _ rfl) (by decide)) rfl rfl rfl (w_n rfl) ?_
    refine TL_q (.int .i64 (Int.tmod k 4 + 4)) (fun _ _ hρ _ => r_as (r_add (hρ _ _ rfl) (hρ _ _ rfl)) (int_as (wrap64 (by omega) (by omega)))) rfl rfl rfl (w_n rfl) ?_
    refine TL_q (.int .i64 ((times k : Nat) : Int)) (fun _ _ hρ _ => r_as (r_rem (hρ _ _ rfl) (hρ _ _ rfl) (by decide)) (int_as (tm_times k))) rfl rfl rfl (w_n rfl) ?_
    refine TL_q (.int .i64 ((times k : Nat) : Int)) (fun _ _ hρ _ => r_assign (hρ _ _ rfl)) rfl rfl rfl (w_n rfl) ?_
    refine TL_seq ?_
    refine T_label ?_
    refine T_seq ?_
    refine T_seq (T_region ?_)
    refine TL_q (.int .i64 ((times k : Nat) : Int)) (fun _ _ hρ _ => r_move (hρ _ _ rfl)) rfl rfl rfl (w_n rfl) ?_
    refine TL_q (.bool (decide ((0 : Int) < ((times k : Nat) : Int)))) (fun _ _ hρ _ => r_gtr (hρ _ _ rfl) (hρ _ _ rfl)) rfl rfl rfl (w_n rfl) ?_
    refine TL_seq ?_
    refine T_cond rfl (fun h1 => ?_) (fun h1 => ?_)
    · replace h1 := of_decide_eq_true h1
      refine T_seq (T_region ?_)
      refine TL_q (.agg (lst C4.cells l)) (fun _ _ hρ hm => r_loadW ag25 sz25 (hρ _ _ rfl) (hm.at 1 rfl) (tsz hl)) rfl rfl rfl (w_n rfl) ?_
      refine TL_q (.agg #[.int .u8 0, .int .u8 0, .int .u8 0, .int .u8 0]) (fun _ _ _ _ => r_build (vs := []) (by kernel_rfl) rfl) rfl rfl rfl (w_n rfl) ?_
      refine TL_call (.agg (lst C4.cells (movedL turnF l zeroC))) (fun _ _ hρ _ => r_call (args := [.agg (lst C4.cells l), .agg #[.int .u8 0, .int .u8 0, .int .u8 0, .int .u8 0], .func (.func 43) #[] #[]]) (enters_of Try.func41 (by kernel_rfl) rfl) (hρ _ _ rfl) ((cons2 (hρ _ _ rfl) (cons2 (hρ _ _ rfl) (cons2 (hρ _ _ rfl) rfl)))) rfl) (fun w _ => moved_c l zeroC 43 #[] turnF w hl (enters_of Try.func43 (by kernel_rfl) rfl) (fun w' _ px py hx hy => turn1_c px py w' hx hy)) rfl rfl rfl (w_n rfl) ?_
      refine TL_store 1 (.cells (lst C4.cells (movedL turnF l zeroC)) 25) rfl (fun _ _ hρ hm => r_storeAll sz25 (hρ _ _ rfl) (hρ _ _ rfl) (hm.at 1 rfl) (tsz hl) (tsz (movedL_len _ _ _)) (lst_one C4.cells_all _)) rfl rfl (w_n rfl) ?_
      refine TL_seq ?_
      refine T_seq (T_region ?_)
      refine TL_q (.int .i64 ((times k : Nat) : Int)) (fun _ _ hρ _ => r_move (hρ _ _ rfl)) rfl rfl rfl (w_n rfl) ?_
      refine TL_q (.int .i64 (((times k : Nat) : Int) - 1)) (fun _ _ hρ _ => r_as (r_sub (hρ _ _ rfl) (hρ _ _ rfl)) (int_as (wrap64 (by omega) (by omega)))) rfl rfl rfl (w_n rfl) ?_
      refine TL_q (.int .i64 (((times k : Nat) : Int) - 1)) (fun _ _ hρ _ => r_assign (hρ _ _ rfl)) rfl rfl rfl (w_n rfl) ?_
      refine TL_seq ?_
      refine T_goto ?_
      refine p_then_g ?_
      rw [turn_eq l]
      exact p_jmp 1 (by omega) (sub_cons rfl (sub_cons rfl (sub_cons (congrArg (fun z : Int => some (Value.int .i64 z)) (by omega)) sub_nil))) (sub_cons rfl (sub_cons rfl sub_nil))
    · replace h1 := of_decide_eq_false h1
      refine T_skip' ?_
      refine p_seq ?_
      refine T_seq (T_region ?_)
      refine TL_q (.agg (lst C4.cells l)) (fun _ _ hρ hm => r_loadW ag25 sz25 (hρ _ _ rfl) (hm.at 1 rfl) (tsz hl)) rfl rfl rfl (w_n rfl) ?_
      refine TL_store 2 (.cells (lst C4.cells l) 25) rfl (fun _ _ hρ hm => r_storeAll sz25 (hρ _ _ rfl) (hρ _ _ rfl) (hm.at 2 rfl) (tsz zero64_len) (tsz hl) (lst_one C4.cells_all _)) rfl rfl (w_n rfl) ?_
      refine TL_seq ?_
      refine T_ret' ?_
      refine p_j_r ?_
      refine ret_of rfl (.agg (lst C4.cells l)) (fun tmps w hk hm => res1 rfl (res_cell (hk 4 _ rfl) (run_loadVar_agg ag25 sz25 (hm.at 2 rfl) (le64 hl) (ex64 hl)))) (fun w hm => ?_)
      have hz : times k = 0 := by omega
      exact ⟨by rw [hz]; rfl, hm.ext⟩
  · rintro j hp
    show T _ _ _ [(2, .pointer (some ⟨B1, 0, none⟩)), (4, .pointer (some ⟨B2, 0, none⟩)), (5, .int .i64 (((times k : Nat) : Int) - ((j : Nat) : Int)))] [(2, .blk B2 (.cells (lst C4.cells zero64) 25)), (1, .blk B1 (.cells (lst C4.cells (turnN l j)) 25))]
    refine T_seq ?_
    refine T_skip' ?_
    refine p_seq ?_
    refine T_seq ?_
    refine T_seq (T_region ?_)
    refine TL_q (.int .i64 (((times k : Nat) : Int) - ((j : Nat) : Int))) (fun _ _ hρ _ => r_move (hρ _ _ rfl)) rfl rfl rfl (w_n rfl) ?_
    refine TL_q (.bool (decide ((0 : Int) < ((times k : Nat) : Int) - ((j : Nat) : Int)))) (fun _ _ hρ _ => r_gtr (hρ _ _ rfl) (hρ _ _ rfl)) rfl rfl rfl (w_n rfl) ?_
    refine TL_seq ?_
    refine T_cond rfl (fun h2 => ?_) (fun h2 => ?_)
    · replace h2 := of_decide_eq_true h2
      refine T_seq (T_region ?_)
      refine TL_q (.agg (lst C4.cells (turnN l j))) (fun _ _ hρ hm => r_loadW ag25 sz25 (hρ _ _ rfl) (hm.at 1 rfl) (tsz (turnN_len hl _))) rfl rfl rfl (w_n rfl) ?_
      refine TL_q (.agg #[.int .u8 0, .int .u8 0, .int .u8 0, .int .u8 0]) (fun _ _ _ _ => r_build (vs := []) (by kernel_rfl) rfl) rfl rfl rfl (w_n rfl) ?_
      refine TL_call (.agg (lst C4.cells (movedL turnF (turnN l j) zeroC))) (fun _ _ hρ _ => r_call (args := [.agg (lst C4.cells (turnN l j)), .agg #[.int .u8 0, .int .u8 0, .int .u8 0, .int .u8 0], .func (.func 43) #[] #[]]) (enters_of Try.func41 (by kernel_rfl) rfl) (hρ _ _ rfl) ((cons2 (hρ _ _ rfl) (cons2 (hρ _ _ rfl) (cons2 (hρ _ _ rfl) rfl)))) rfl) (fun w _ => moved_c (turnN l j) zeroC 43 #[] turnF w (turnN_len hl _) (enters_of Try.func43 (by kernel_rfl) rfl) (fun w' _ px py hx hy => turn1_c px py w' hx hy)) rfl rfl rfl (w_n rfl) ?_
      refine TL_store 1 (.cells (lst C4.cells (movedL turnF (turnN l j) zeroC)) 25) rfl (fun _ _ hρ hm => r_storeAll sz25 (hρ _ _ rfl) (hρ _ _ rfl) (hm.at 1 rfl) (tsz (turnN_len hl _)) (tsz (movedL_len _ _ _)) (lst_one C4.cells_all _)) rfl rfl (w_n rfl) ?_
      refine TL_seq ?_
      refine T_seq (T_region ?_)
      refine TL_q (.int .i64 (((times k : Nat) : Int) - ((j : Nat) : Int))) (fun _ _ hρ _ => r_move (hρ _ _ rfl)) rfl rfl rfl (w_n rfl) ?_
      refine TL_q (.int .i64 (((times k : Nat) : Int) - ((j : Nat) : Int) - 1)) (fun _ _ hρ _ => r_as (r_sub (hρ _ _ rfl) (hρ _ _ rfl)) (int_as (wrap64 (by omega) (by omega)))) rfl rfl rfl (w_n rfl) ?_
      refine TL_q (.int .i64 (((times k : Nat) : Int) - ((j : Nat) : Int) - 1)) (fun _ _ hρ _ => r_assign (hρ _ _ rfl)) rfl rfl rfl (w_n rfl) ?_
      refine TL_seq ?_
      refine T_goto ?_
      refine p_then_g ?_
      rw [turn_eq (turnN l j)]
      exact p_jmp (j + 1) ⟨by omega, by omega⟩ (sub_cons rfl (sub_cons rfl (sub_cons (congrArg (fun z : Int => some (Value.int .i64 z)) (by omega)) sub_nil))) (sub_cons rfl (sub_cons rfl sub_nil))
    · replace h2 := of_decide_eq_false h2
      refine T_skip' ?_
      refine p_seq ?_
      refine T_seq (T_region ?_)
      refine TL_q (.agg (lst C4.cells (turnN l j))) (fun _ _ hρ hm => r_loadW ag25 sz25 (hρ _ _ rfl) (hm.at 1 rfl) (tsz (turnN_len hl _))) rfl rfl rfl (w_n rfl) ?_
      refine TL_store 2 (.cells (lst C4.cells (turnN l j)) 25) rfl (fun _ _ hρ hm => r_storeAll sz25 (hρ _ _ rfl) (hρ _ _ rfl) (hm.at 2 rfl) (tsz zero64_len) (tsz (turnN_len hl _)) (lst_one C4.cells_all _)) rfl rfl (w_n rfl) ?_
      refine TL_seq ?_
      refine T_ret' ?_
      refine p_j_r ?_
      refine ret_of rfl (.agg (lst C4.cells (turnN l j))) (fun tmps w hk hm => res1 rfl (res_cell (hk 4 _ rfl) (run_loadVar_agg ag25 sz25 (hm.at 2 rfl) (le64 (turnN_len hl _)) (ex64 (turnN_len hl _))))) (fun w hm => ?_)
      have hjk : j = times k := by omega
      subst hjk
      exact ⟨rfl, hm.ext⟩
end Go.Proofs.Ytmlkifojbjbpcaa
