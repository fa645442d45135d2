/- tile: the references of Count and Runs. Printed by a program of this seat's prover. -/
import Derived.Test.YtmlkifojbjbpcaaWith
namespace Go.Proofs.Ytmlkifojbjbpcaa
open Go Go.RowKit
set_option maxRecDepth 10000
theorem eqC (x y : C4) : eqI x.cells.toArray y.cells.toArray [(0, .u8), (1, .u8), (2, .u8), (3, .u8)] = decide (x = y) := by
  show (decide (x.r = y.r) && (decide (x.g = y.g) && (decide (x.b = y.b) && (decide (x.a = y.a) && true)))) = decide (x = y)
  by_cases h : x = y
  · subst h; simp
  · rw [decide_eq_false h]
    refine Bool.eq_false_iff.2 fun e => h ?_
    simp only [Bool.and_eq_true, decide_eq_true_eq] at e
    exact c4_ext e.1 e.2.1 e.2.2.1 e.2.2.2.1
/-- How many of the first k are c. -/
def cntN (l : List C4) (c : C4) : Nat → Nat
  | 0 => 0
  | k + 1 => if get l k = c then cntN l c k + 1 else cntN l c k
theorem cnt_le (l : List C4) (c : C4) : ∀ k, cntN l c k ≤ k
  | 0 => Nat.le_refl _
  | k + 1 => by
    have := cnt_le l c k
    unfold cntN
    split <;> omega
theorem cnt_t {l : List C4} {c : C4} {k : Nat} (h : get l k = c) : cntN l c (k + 1) = cntN l c k + 1 := if_pos h
theorem cnt_f {l : List C4} {c : C4} {k : Nat} (h : ¬ get l k = c) : cntN l c (k + 1) = cntN l c k := if_neg h
/-- How many runs the first k + 1 are. -/
def runN (l : List C4) : Nat → Nat
  | 0 => 1
  | k + 1 => if get l (k + 1) = get l k then runN l k else runN l k + 1
theorem run_le (l : List C4) : ∀ k, runN l k ≤ k + 1
  | 0 => Nat.le_refl _
  | k + 1 => by
    have := run_le l k
    unfold runN
    split <;> omega
theorem run_t {l : List C4} {k : Nat} (h : get l (k + 1) = get l k) : runN l (k + 1) = runN l k := if_pos h
theorem run_f {l : List C4} {k : Nat} (h : ¬ get l (k + 1) = get l k) : runN l (k + 1) = runN l k + 1 := if_neg h

theorem count_ref (l : List C4) (c : C4) (w : World) (hl : l.length = 64) : Calls Try.prog 16 #[til l, c.v] w fun e w' => e = .returned (.int .i64 (cntN l c 64)) ∧ Below w.heap.size w w' := by
  refine calls_of_T (l := [.agg (lst C4.cells l), .agg #[.int .u8 c.r, .int .u8 c.g, .int .u8 c.b, .int .u8 c.a]]) 19 Try.func16 rfl rfl rfl ?_
  show T _ _ _ [(0, .agg (lst C4.cells l)), (1, .agg #[.int .u8 c.r, .int .u8 c.g, .int .u8 c.b, .int .u8 c.a])] []
  refine T_seq (T_region ?_)
  refine TL_new 1 (.cells (lst C4.cells l) 25) (fun B => .pointer (some ⟨B, 0, none⟩)) (fun _ _ hρ _ => r_box (hρ _ _ rfl) rfl) rfl rfl rfl (w_n rfl) ?_
  intro B1
  refine TL_new 2 (.cells #[.int .u8 c.r, .int .u8 c.g, .int .u8 c.b, .int .u8 c.a] 23) (fun B => .pointer (some ⟨B, 0, none⟩)) (fun _ _ hρ _ => r_box (hρ _ _ rfl) rfl) rfl rfl rfl (w_n rfl) ?_
  intro B2
  refine TL_q (.int .i64 0) (fun _ _ hρ _ => r_assign (hρ _ _ rfl)) rfl rfl rfl (w_n rfl) ?_
  refine TL_seq ?_
  refine T_seq (T_region ?_)
  refine TL_q (.int .i64 0) (fun _ _ hρ _ => r_assign (hρ _ _ rfl)) rfl rfl rfl (w_n rfl) ?_
  refine TL_seq ?_
  refine T_seq ?_
  refine T_seq (T_region ?_)
  refine TL_q (.agg (lst C4.cells l)) (fun _ _ hρ hm => r_loadW ag25 sz25 (hρ _ _ rfl) (hm.at 1 rfl) (tsz hl)) rfl rfl rfl (w_n rfl) ?_
  refine TL_q (.int .i64 0) (fun _ _ hρ _ => r_move (hρ _ _ rfl)) rfl rfl rfl (w_n rfl) ?_
  refine TL_seq ?_
  refine T_block ?_
  refine T_loop (ι := Nat) (fun (k : Nat) => k ≤ 64) (fun (k : Nat) => [(3, .pointer (some ⟨B2, 0, none⟩)), (4, .int .i64 0), (8, .agg (lst C4.cells l)), (5, .int .i64 ((cntN l c k : Nat) : Int)), (9, .int .i64 ((k : Nat) : Int))]) (fun (k : Nat) => [(1, .blk B1 (.cells (lst C4.cells l) 25)), (2, .blk B2 (.cells #[.int .u8 c.r, .int .u8 c.g, .int .u8 c.b, .int .u8 c.a] 23))]) (fun (k : Nat) => 64 - k) 0 (Nat.zero_le _) (sub_cons rfl (sub_cons rfl (sub_cons rfl (sub_cons rfl (sub_cons rfl sub_nil))))) (sub_cons rfl (sub_cons rfl sub_nil)) ?_
  rintro k hp
  have hck := cnt_le l c k
  show T _ _ _ [(3, .pointer (some ⟨B2, 0, none⟩)), (4, .int .i64 0), (8, .agg (lst C4.cells l)), (5, .int .i64 ((cntN l c k : Nat) : Int)), (9, .int .i64 ((k : Nat) : Int))] [(1, .blk B1 (.cells (lst C4.cells l) 25)), (2, .blk B2 (.cells #[.int .u8 c.r, .int .u8 c.g, .int .u8 c.b, .int .u8 c.a] 23))]
  refine T_seq (T_region ?_)
  refine TL_q (.bool (decide (((k : Nat) : Int) < 64))) (fun _ _ hρ _ => r_lss (hρ _ _ rfl) (hρ _ _ rfl)) rfl rfl rfl (w_n rfl) ?_
  refine TL_seq ?_
  refine T_seq ?_
  refine T_cond rfl (fun h1 => ?_) (fun h1 => ?_)
  · replace h1 := of_decide_eq_true h1
    refine T_skip' ?_
    refine p_seq ?_
    refine T_seq ?_
    refine T_block ?_
    refine T_seq (T_region ?_)
    refine TL_q (.agg #[.int .u8 ((get l k).r), .int .u8 ((get l k).g), .int .u8 ((get l k).b), .int .u8 ((get l k).a)]) (fun _ _ hρ _ => r_indexLst (f := C4.cells) (i := k) (u := (get l k)) ar25 sz23 ag23 (hρ _ _ rfl) (hρ _ _ rfl) C4.cells_len (by omega) (get_some hl (by omega))) rfl rfl rfl (w_n rfl) ?_
    refine TL_new 3 (.cells #[.int .u8 0, .int .u8 0, .int .u8 0, .int .u8 0] 23) (fun B => .pointer (some ⟨B, 0, none⟩)) (fun _ _ _ _ => r_alloc (v := .agg #[.int .u8 0, .int .u8 0, .int .u8 0, .int .u8 0]) (by kernel_rfl) rfl) rfl rfl rfl (w_n rfl) ?_
    intro B3
    refine TL_store 3 (.cells #[.int .u8 ((get l k).r), .int .u8 ((get l k).g), .int .u8 ((get l k).b), .int .u8 ((get l k).a)] 23) rfl (fun _ _ hρ hm => r_store sz23 (hρ _ _ rfl) (hρ _ _ rfl) (hm.at 3 rfl) rfl rfl rfl rfl) rfl rfl (w_n rfl) ?_
    refine TL_seq ?_
    refine T_seq (T_region ?_)
    refine TL_q (.agg #[.int .u8 ((get l k).r), .int .u8 ((get l k).g), .int .u8 ((get l k).b), .int .u8 ((get l k).a)]) (fun _ _ hρ hm => r_loadA ag23 sz23 (hρ _ _ rfl) (hm.at 3 rfl) rfl rfl) rfl rfl rfl (w_n rfl) ?_
    refine TL_q (.agg #[.int .u8 c.r, .int .u8 c.g, .int .u8 c.b, .int .u8 c.a]) (fun _ _ hρ hm => r_loadA ag23 sz23 (hρ _ _ rfl) (hm.at 2 rfl) rfl rfl) rfl rfl rfl (w_n rfl) ?_
    refine TL_q (.bool (decide ((get l k) = c))) (fun _ _ hρ _ => r_as (r_eqlA (by kernel_rfl) (hρ _ _ rfl) (hρ _ _ rfl) (run_equalI (l := [(0, .u8), (1, .u8), (2, .u8), (3, .u8)]) (by kernel_rfl) rfl rfl)) (bool_as (eqC (get l k) c))) rfl rfl rfl (w_n rfl) ?_
    refine TL_seq ?_
    refine T_cond rfl (fun h2 => ?_) (fun h2 => ?_)
    · replace h2 := of_decide_eq_true h2
      refine T_region ?_
      refine TL_q (.int .i64 ((cntN l c k : Nat) : Int)) (fun _ _ hρ _ => r_move (hρ _ _ rfl)) rfl rfl rfl (w_n rfl) ?_
      refine TL_q (.int .i64 ((cntN l c k + 1 : Nat) : Int)) (fun _ _ hρ _ => r_as (r_add (hρ _ _ rfl) (hρ _ _ rfl)) (int_as ((wrap64 (by omega) (by omega)).trans (by omega)))) rfl rfl rfl (w_n rfl) ?_
      refine TL_q (.int .i64 ((cntN l c k + 1 : Nat) : Int)) (fun _ _ hρ _ => r_assign (hρ _ _ rfl)) rfl rfl rfl (w_n rfl) ?_
      refine TL_nil ?_
      refine p_blk_n ?_
      refine p_seq ?_
      refine T_region ?_
      refine TL_q (.int .i64 ((k + 1 : Nat) : Int)) (fun _ _ hρ _ => r_as (r_add (hρ _ _ rfl) (hρ _ _ rfl)) (int_as ((wrap64 (by omega) (by omega)).trans (by omega)))) rfl rfl rfl (w_n rfl) ?_
      refine TL_q (.int .i64 ((k + 1 : Nat) : Int)) (fun _ _ hρ _ => r_move (hρ _ _ rfl)) rfl rfl rfl (w_n rfl) ?_
      refine TL_nil ?_
      exact p_at (k + 1) ⟨by omega, by omega⟩ (sub_cons rfl (sub_cons rfl (sub_cons rfl (sub_cons (congrArg (fun z : Nat => some (Value.int .i64 z)) (cnt_t h2).symm) (sub_cons rfl sub_nil))))) (sub_cons rfl (sub_cons rfl sub_nil))
    · replace h2 := of_decide_eq_false h2
      refine T_skip' ?_
      refine p_blk_n ?_
      refine p_seq ?_
      refine T_region ?_
      refine TL_q (.int .i64 ((k + 1 : Nat) : Int)) (fun _ _ hρ _ => r_as (r_add (hρ _ _ rfl) (hρ _ _ rfl)) (int_as ((wrap64 (by omega) (by omega)).trans (by omega)))) rfl rfl rfl (w_n rfl) ?_
      refine TL_q (.int .i64 ((k + 1 : Nat) : Int)) (fun _ _ hρ _ => r_move (hρ _ _ rfl)) rfl rfl rfl (w_n rfl) ?_
      refine TL_nil ?_
      exact p_at (k + 1) ⟨by omega, by omega⟩ (sub_cons rfl (sub_cons rfl (sub_cons rfl (sub_cons (congrArg (fun z : Nat => some (Value.int .i64 z)) (cnt_f h2).symm) (sub_cons rfl sub_nil))))) (sub_cons rfl (sub_cons rfl sub_nil))
  · replace h1 := of_decide_eq_false h1
    refine T_exit' ?_
    refine p_then_x ?_
    refine p_then_x ?_
    refine p_blk_x ?_
    refine p_seq ?_
    refine T_seq (T_region ?_)
    refine TL_q (.int .i64 ((cntN l c k : Nat) : Int)) (fun _ _ hρ _ => r_move (hρ _ _ rfl)) rfl rfl rfl (w_n rfl) ?_
    refine TL_q (.int .i64 ((cntN l c k : Nat) : Int)) (fun _ _ hρ _ => r_assign (hρ _ _ rfl)) rfl rfl rfl (w_n rfl) ?_
    refine TL_seq ?_
    refine T_ret' ?_
    refine ret_of rfl (.int .i64 ((cntN l c k : Nat) : Int)) (fun tmps w hk hm => res1 rfl (res_tmp (hk 4 _ rfl))) (fun w hm => ?_)
    have hk64 : k = 64 := by omega
    subst hk64
    exact ⟨rfl, hm.ext⟩

theorem runs_ref (l : List C4) (w : World) (hl : l.length = 64) : Calls Try.prog 14 #[til l] w fun e w' => e = .returned (.int .i64 (runN l 63)) ∧ Below w.heap.size w w' := by
  refine calls_of_T (l := [.agg (lst C4.cells l)]) 20 Try.func14 rfl rfl rfl ?_
  show T _ _ _ [(0, .agg (lst C4.cells l))] []
  refine T_seq (T_region ?_)
  refine TL_new 1 (.cells (lst C4.cells l) 25) (fun B => .pointer (some ⟨B, 0, none⟩)) (fun _ _ hρ _ => r_box (hρ _ _ rfl) rfl) rfl rfl rfl (w_n rfl) ?_
  intro B1
  refine TL_q (.int .i64 0) (fun _ _ hρ _ => r_assign (hρ _ _ rfl)) rfl rfl rfl (w_n rfl) ?_
  refine TL_seq ?_
  refine T_seq (T_region ?_)
  refine TL_q (.int .i64 1) (fun _ _ hρ _ => r_assign (hρ _ _ rfl)) rfl rfl rfl (w_n rfl) ?_
  refine TL_seq ?_
  refine T_seq ?_
  refine T_seq (T_region ?_)
  refine TL_q (.int .i64 1) (fun _ _ hρ _ => r_assign (hρ _ _ rfl)) rfl rfl rfl (w_n rfl) ?_
  refine TL_seq ?_
  refine T_block ?_
  refine T_loop (ι := Nat) (fun (k : Nat) => k ≤ 63) (fun (k : Nat) => [(1, .pointer (some ⟨B1, 0, none⟩)), (2, .int .i64 0), (3, .int .i64 ((runN l k : Nat) : Int)), (4, .int .i64 ((k + 1 : Nat) : Int))]) (fun (k : Nat) => [(1, .blk B1 (.cells (lst C4.cells l) 25))]) (fun (k : Nat) => 63 - k) 0 (Nat.zero_le _) (sub_cons rfl (sub_cons rfl (sub_cons rfl (sub_cons rfl sub_nil)))) (sub_cons rfl sub_nil) ?_
  rintro k hp
  have hrk := run_le l k
  show T _ _ _ [(1, .pointer (some ⟨B1, 0, none⟩)), (2, .int .i64 0), (3, .int .i64 ((runN l k : Nat) : Int)), (4, .int .i64 ((k + 1 : Nat) : Int))] [(1, .blk B1 (.cells (lst C4.cells l) 25))]
  refine T_seq ?_
  refine T_seq (T_region ?_)
  refine TL_q (.int .i64 ((k + 1 : Nat) : Int)) (fun _ _ hρ _ => r_move (hρ _ _ rfl)) rfl rfl rfl (w_n rfl) ?_
  refine TL_q (.bool (decide (((k + 1 : Nat) : Int) < 64))) (fun _ _ hρ _ => r_lss (hρ _ _ rfl) (hρ _ _ rfl)) rfl rfl rfl (w_n rfl) ?_
  refine TL_seq ?_
  refine T_cond rfl (fun h1 => ?_) (fun h1 => ?_)
  · replace h1 := of_decide_eq_true h1
    refine T_skip' ?_
    refine p_seq ?_
    refine T_seq ?_
    refine T_block ?_
    refine T_seq (T_draw (V := [(0, .int .i64 ((k + 1 : Nat) : Int)), (1, .pointer (some ⟨B1, 0 + (k + 1) * 4, none⟩)), (2, .agg #[.int .u8 ((get l (k + 1)).r), .int .u8 ((get l (k + 1)).g), .int .u8 ((get l (k + 1)).b), .int .u8 ((get l (k + 1)).a)]), (3, .int .i64 ((k + 1 : Nat) : Int)), (4, .int .i64 ((k : Nat) : Int)), (5, .pointer (some ⟨B1, 0 + k * 4, none⟩)), (6, .agg #[.int .u8 ((get l k).r), .int .u8 ((get l k).g), .int .u8 ((get l k).b), .int .u8 ((get l k).a)]), (7, .bool (!decide ((get l (k + 1)) = (get l k))))]) [0, 1, 3, 0, 8, 24, 56, 127] [[(4, none)], [(1, none), (9, some 0)], [(10, some 1)], [(4, none)], [(12, some 3)], [(1, none), (13, some 4)], [(14, some 5)], [(11, some 2), (15, some 6)]] 0 mixed (by kernel_rfl) ?_)
    refine G_last [0, 1, 2, 3, 4, 5, 6, 7] [(1, .pointer (some ⟨B1, 0, none⟩)), (2, .int .i64 0), (3, .int .i64 ((runN l k : Nat) : Int)), (4, .int .i64 ((k + 1 : Nat) : Int)), (5, .int .i64 ((k + 1 : Nat) : Int)), (6, .bool (decide (((k + 1 : Nat) : Int) < 64))), (9, .int .i64 ((k + 1 : Nat) : Int)), (10, .pointer (some ⟨B1, 0 + (k + 1) * 4, none⟩)), (11, .agg #[.int .u8 ((get l (k + 1)).r), .int .u8 ((get l (k + 1)).g), .int .u8 ((get l (k + 1)).b), .int .u8 ((get l (k + 1)).a)]), (12, .int .i64 ((k + 1 : Nat) : Int)), (13, .int .i64 ((k : Nat) : Int)), (14, .pointer (some ⟨B1, 0 + k * 4, none⟩)), (15, .agg #[.int .u8 ((get l k).r), .int .u8 ((get l k).g), .int .u8 ((get l k).b), .int .u8 ((get l k).a)]), (16, .bool (!decide ((get l (k + 1)) = (get l k))))] (by kernel_rfl) (allM (all_cons (q_run (.int .i64 ((k + 1 : Nat) : Int)) rfl rfl (wv_n rfl) rfl (fun _ _ hρ _ => r_move (hρ _ _ rfl))) (all_cons (q_run (.pointer (some ⟨B1, 0 + (k + 1) * 4, none⟩)) rfl rfl (wv_n rfl) rfl (fun _ _ hρ _ => r_indexAddrA (i := k + 1) ar25 sz23 (hρ _ _ rfl) (hρ _ _ rfl) (by omega))) (all_cons (q_run (.agg #[.int .u8 ((get l (k + 1)).r), .int .u8 ((get l (k + 1)).g), .int .u8 ((get l (k + 1)).b), .int .u8 ((get l (k + 1)).a)]) rfl rfl (wv_n rfl) rfl (fun _ _ hρ hm => r_loadRow (f := C4.cells) (u := (get l (k + 1))) ag23 sz23 (hρ _ _ rfl) (hm.at 1 rfl) (row_lst C4.cells_len _) (get_some hl (by omega)))) (all_cons (q_run (.int .i64 ((k + 1 : Nat) : Int)) rfl rfl (wv_n rfl) rfl (fun _ _ hρ _ => r_move (hρ _ _ rfl))) (all_cons (q_run (.int .i64 ((k : Nat) : Int)) rfl rfl (wv_n rfl) rfl (fun _ _ hρ _ => r_as (r_sub (hρ _ _ rfl) (hρ _ _ rfl)) (int_as ((wrap64 (by omega) (by omega)).trans (by omega))))) (all_cons (q_run (.pointer (some ⟨B1, 0 + k * 4, none⟩)) rfl rfl (wv_n rfl) rfl (fun _ _ hρ _ => r_indexAddrA (i := k) ar25 sz23 (hρ _ _ rfl) (hρ _ _ rfl) (by omega))) (all_cons (q_run (.agg #[.int .u8 ((get l k).r), .int .u8 ((get l k).g), .int .u8 ((get l k).b), .int .u8 ((get l k).a)]) rfl rfl (wv_n rfl) rfl (fun _ _ hρ hm => r_loadRow (f := C4.cells) (u := (get l k)) ag23 sz23 (hρ _ _ rfl) (hm.at 1 rfl) (row_lst C4.cells_len _) (get_some hl (by omega)))) (all_cons (q_run (.bool (!decide ((get l (k + 1)) = (get l k)))) rfl rfl (wv_n rfl) rfl (fun _ _ hρ _ => r_as (r_neqA (by kernel_rfl) (hρ _ _ rfl) (hρ _ _ rfl) (run_equalI (l := [(0, .u8), (1, .u8), (2, .u8), (3, .u8)]) (by kernel_rfl) rfl rfl)) (bool_as (congrArg (fun b => !b) (eqC (get l (k + 1)) (get l k)))))) all_nil))))))))) (end_old rfl rfl (end_old rfl rfl (end_old rfl rfl (end_old rfl rfl (end_old rfl rfl (end_old rfl rfl (end_new 0 rfl rfl (end_new 1 rfl rfl (end_new 2 rfl rfl (end_new 3 rfl rfl (end_new 4 rfl rfl (end_new 5 rfl rfl (end_new 6 rfl rfl (end_new 7 rfl rfl end_nil)))))))))))))) ?_
    refine T_cond rfl (fun h2 => ?_) (fun h2 => ?_)
    · replace h2 := of_decide_eq_false (bnot_t h2)
      refine T_region ?_
      refine TL_q (.int .i64 ((runN l k : Nat) : Int)) (fun _ _ hρ _ => r_move (hρ _ _ rfl)) rfl rfl rfl (w_n rfl) ?_
      refine TL_q (.int .i64 ((runN l k + 1 : Nat) : Int)) (fun _ _ hρ _ => r_as (r_add (hρ _ _ rfl) (hρ _ _ rfl)) (int_as ((wrap64 (by omega) (by omega)).trans (by omega)))) rfl rfl rfl (w_n rfl) ?_
      refine TL_q (.int .i64 ((runN l k + 1 : Nat) : Int)) (fun _ _ hρ _ => r_assign (hρ _ _ rfl)) rfl rfl rfl (w_n rfl) ?_
      refine TL_nil ?_
      refine p_blk_n ?_
      refine p_seq ?_
      refine T_region ?_
      refine TL_q (.int .i64 ((k + 1 : Nat) : Int)) (fun _ _ hρ _ => r_move (hρ _ _ rfl)) rfl rfl rfl (w_n rfl) ?_
      refine TL_q (.int .i64 ((k + 1 + 1 : Nat) : Int)) (fun _ _ hρ _ => r_as (r_add (hρ _ _ rfl) (hρ _ _ rfl)) (int_as ((wrap64 (by omega) (by omega)).trans (by omega)))) rfl rfl rfl (w_n rfl) ?_
      refine TL_q (.int .i64 ((k + 1 + 1 : Nat) : Int)) (fun _ _ hρ _ => r_assign (hρ _ _ rfl)) rfl rfl rfl (w_n rfl) ?_
      refine TL_nil ?_
      exact p_at (k + 1) ⟨by omega, by omega⟩ (sub_cons rfl (sub_cons rfl (sub_cons (congrArg (fun z : Nat => some (Value.int .i64 z)) (run_f h2).symm) (sub_cons rfl sub_nil)))) (sub_cons rfl sub_nil)
    · replace h2 := of_decide_eq_true (bnot_f h2)
      refine T_skip' ?_
      refine p_blk_n ?_
      refine p_seq ?_
      refine T_region ?_
      refine TL_q (.int .i64 ((k + 1 : Nat) : Int)) (fun _ _ hρ _ => r_move (hρ _ _ rfl)) rfl rfl rfl (w_n rfl) ?_
      refine TL_q (.int .i64 ((k + 1 + 1 : Nat) : Int)) (fun _ _ hρ _ => r_as (r_add (hρ _ _ rfl) (hρ _ _ rfl)) (int_as ((wrap64 (by omega) (by omega)).trans (by omega)))) rfl rfl rfl (w_n rfl) ?_
      refine TL_q (.int .i64 ((k + 1 + 1 : Nat) : Int)) (fun _ _ hρ _ => r_assign (hρ _ _ rfl)) rfl rfl rfl (w_n rfl) ?_
      refine TL_nil ?_
      exact p_at (k + 1) ⟨by omega, by omega⟩ (sub_cons rfl (sub_cons rfl (sub_cons (congrArg (fun z : Nat => some (Value.int .i64 z)) (run_t h2).symm) (sub_cons rfl sub_nil)))) (sub_cons rfl sub_nil)
  · replace h1 := of_decide_eq_false h1
    refine T_exit' ?_
    refine p_then_x ?_
    refine p_then_x ?_
    refine p_blk_x ?_
    refine p_seq ?_
    refine T_seq (T_region ?_)
    refine TL_q (.int .i64 ((runN l k : Nat) : Int)) (fun _ _ hρ _ => r_move (hρ _ _ rfl)) rfl rfl rfl (w_n rfl) ?_
    refine TL_q (.int .i64 ((runN l k : Nat) : Int)) (fun _ _ hρ _ => r_assign (hρ _ _ rfl)) rfl rfl rfl (w_n rfl) ?_
    refine TL_seq ?_
    refine T_ret' ?_
    refine ret_of rfl (.int .i64 ((runN l k : Nat) : Int)) (fun tmps w hk hm => res1 rfl (res_tmp (hk 2 _ rfl))) (fun w hm => ?_)
    have hk63 : k = 63 := by omega
    subst hk63
    exact ⟨rfl, hm.ext⟩
end Go.Proofs.Ytmlkifojbjbpcaa
