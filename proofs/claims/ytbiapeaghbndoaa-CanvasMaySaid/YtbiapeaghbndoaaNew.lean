/- canvas: New. Printed by a program of this seat's prover. -/
import Derived.Test.YtbiapeaghbndoaaAt
import Derived.Test.YtbiapeaghbndoaaTls
namespace Go.Proofs.Ytbiapeaghbndoaa
open Go Go.RowKit
set_option maxRecDepth 10000
theorem rep_set {n k : Nat} {x : Option Nat} (hk : k < n) : (List.replicate k x ++ List.replicate (n - k) none).set k x = List.replicate (k + 1) x ++ List.replicate (n - (k + 1)) none := by
  rw [List.set_append_right _ _ (by simp), List.length_replicate, Nat.sub_self, show n - k = (n - (k + 1)) + 1 by omega, List.replicate_succ, List.set_cons_zero, List.replicate_succ', List.append_assoc]; rfl

theorem new_c (m n : Nat) (w : World) (hm4 : 1 ≤ m ∧ m ≤ 4) (hn4 : 1 ≤ n ∧ n ≤ 4) : Calls Try.prog 29 #[.int .i64 (m : Int), .int .i64 (n : Int)] w fun e w' => ∃ c : Cv, e = .returned (.tuple #[.pointer (some ⟨c.p, 0, none⟩), .int .i64 0]) ∧ CvNew w w' [] c ∧ c.wd = m ∧ c.hg = n ∧ c.ts = List.replicate (m * n) zeroT := by
  have h16 := size4 hm4 hn4
  refine calls_of_T (l := [.int .i64 ((m : Nat) : Int), .int .i64 ((n : Nat) : Int)]) 42 Try.func29 rfl rfl rfl ?_
  show T _ _ _ [(0, .int .i64 ((m : Nat) : Int)), (1, .int .i64 ((n : Nat) : Int))] []
  refine T_seq (T_region ?_)
  refine TL_q (.pointer none) (fun _ _ hρ _ => r_assign (hρ _ _ rfl)) rfl rfl rfl (w_n rfl) ?_
  refine TL_q (.int .i64 0) (fun _ _ hρ _ => r_assign (hρ _ _ rfl)) rfl rfl rfl (w_n rfl) ?_
  refine TL_seq ?_
  refine T_seq (T_region ?_)
  refine TL_q (.int .i64 ((m : Nat) : Int)) (fun _ _ hρ _ => r_move (hρ _ _ rfl)) rfl rfl rfl (w_n rfl) ?_
  refine TL_q (.int .i64 ((n : Nat) : Int)) (fun _ _ hρ _ => r_move (hρ _ _ rfl)) rfl rfl rfl (w_n rfl) ?_
  refine TL_q (.agg #[.int .i64 ((m : Nat) : Int), .int .i64 ((n : Nat) : Int)]) (fun _ _ hρ _ => r_build (vs := [(0, .int .i64 ((m : Nat) : Int)), (1, .int .i64 ((n : Nat) : Int))]) (by kernel_rfl) (cons2 (pair2 (hρ _ _ rfl)) (cons2 (pair2 (hρ _ _ rfl)) rfl))) rfl rfl rfl (w_n rfl) ?_
  refine TL_new 1 (.cells #[.int .i64 0, .int .i64 0] 109) (fun B => .pointer (some ⟨B, 0, none⟩)) (fun _ _ _ _ => r_alloc (v := .agg #[.int .i64 0, .int .i64 0]) (by kernel_rfl) rfl) rfl rfl rfl (w_n rfl) ?_
  intro B1
  refine TL_store 1 (.cells #[.int .i64 ((m : Nat) : Int), .int .i64 ((n : Nat) : Int)] 109) rfl (fun _ _ hρ hm => r_store sz109 (hρ _ _ rfl) (hρ _ _ rfl) (hm.at 1 rfl) rfl rfl rfl rfl) rfl rfl (w_n rfl) ?_
  refine TL_seq ?_
  refine T_seq ?_
  refine T_seq (T_region ?_)
  refine TL_q (.agg #[.int .i64 ((m : Nat) : Int), .int .i64 ((n : Nat) : Int)]) (fun _ _ hρ hm => r_loadA ag109 sz109 (hρ _ _ rfl) (hm.at 1 rfl) rfl rfl) rfl rfl rfl (w_n rfl) ?_
  refine TL_call (.bool true) (fun _ _ hρ _ => r_call (args := [.agg #[.int .i64 ((m : Nat) : Int), .int .i64 ((n : Nat) : Int)]]) (enters_of Try.func77 (by kernel_rfl) rfl) (hρ _ _ rfl) ((cons2 (hρ _ _ rfl) rfl)) rfl) (fun w _ => (may_c ((m : Nat) : Int) ((n : Nat) : Int) w).mono fun _ _ h => ⟨h.1.trans (congrArg Ending.returned (bool_as (mayI_of hm4 hn4))), h.2⟩) rfl rfl rfl (w_n rfl) ?_
  refine TL_q (.bool false) (fun _ _ hρ _ => r_not (b := true) (hρ _ _ rfl)) rfl rfl rfl (w_n rfl) ?_
  refine TL_seq ?_
  refine T_cond_f rfl ?_
  refine T_skip' ?_
  refine p_seq ?_
  refine T_seq (T_draw (V := [(0, .agg #[.int .i64 ((m : Nat) : Int), .int .i64 ((n : Nat) : Int)]), (1, .int .i64 ((m : Nat) : Int)), (2, .int .i64 ((n : Nat) : Int)), (3, .int .i64 ((m * n : Nat) : Int))]) [0, 0, 0, 6, 14, 31, 63, 127] [[(6, none)], [(0, none)], [(1, none)], [(17, some 1), (18, some 2)], [(19, some 3)], [(16, some 0), (20, some 4)], [(21, some 5)], [(22, some 6)]] 80 mixed (by kernel_rfl) ?_)
  refine G_step [0, 1, 2, 3] 4 [] (by kernel_rfl) (allM (all_cons (q_run (.agg #[.int .i64 ((m : Nat) : Int), .int .i64 ((n : Nat) : Int)]) rfl rfl (wv_n rfl) rfl (fun _ _ hρ hm => r_loadA ag109 sz109 (hρ _ _ rfl) (hm.at 1 rfl) rfl rfl)) (all_cons (q_run (.int .i64 ((m : Nat) : Int)) rfl rfl (wv_n rfl) rfl (fun _ _ hρ _ => r_move (hρ _ _ rfl))) (all_cons (q_run (.int .i64 ((n : Nat) : Int)) rfl rfl (wv_n rfl) rfl (fun _ _ hρ _ => r_move (hρ _ _ rfl))) (all_cons (q_run (.int .i64 ((m * n : Nat) : Int)) rfl rfl (wv_n rfl) rfl (fun _ _ hρ _ => r_as (r_mul (hρ _ _ rfl) (hρ _ _ rfl)) (int_as ((wrap64 (by omega) (by omega)).trans (by omega))))) all_nil))))) (allM (all_cons ?_ all_nil))
  refine LOb_op (ι := Nat) (fun B => .slice (some ⟨B, 0, none⟩) (m * n) (m * n)) _ (fun B => [(5, .agg #[.int .i64 ((m : Nat) : Int), .int .i64 ((n : Nat) : Int), .slice (some ⟨B, 0, none⟩) (m * n) (m * n)])]) rfl (wv_n rfl) rfl rfl (fun _ _ hρ hm => o_make (n := m * n) (cap := m * n) (z := .pointer none) (f := optc) (u := none) 901 rfl (hρ _ _ rfl) (hρ _ _ rfl) sl104 by106 sz106 rfl (by kernel_rfl) rfl optc_len (by omega) (by omega) (by omega) hm) (fun B => by kernel_rfl) ?_
  intro B2
  refine G_step [0, 5] 6 [] (by kernel_rfl) (allM (all_cons (q_run (.agg #[.int .i64 ((m : Nat) : Int), .int .i64 ((n : Nat) : Int)]) rfl rfl (wv_n rfl) rfl (fun _ _ hρ hm => r_loadA ag109 sz109 (hρ _ _ rfl) (hm.at 1 rfl) rfl rfl)) (all_cons (q_run (.agg #[.int .i64 ((m : Nat) : Int), .int .i64 ((n : Nat) : Int), .slice (some ⟨B2, 0, none⟩) (m * n) (m * n)]) rfl rfl (wv_n rfl) rfl (fun _ _ hρ _ => r_build (vs := [(0, .agg #[.int .i64 ((m : Nat) : Int), .int .i64 ((n : Nat) : Int)]), (1, .slice (some ⟨B2, 0, none⟩) (m * n) (m * n))]) (by kernel_rfl) (cons2 (pair2 (hρ _ _ rfl)) (cons2 (pair2 (hρ _ _ rfl)) rfl)))) all_nil))) (allM (all_cons ?_ all_nil))
  refine LOb_new 902 (.cells #[.int .i64 ((m : Nat) : Int), .int .i64 ((n : Nat) : Int), .slice (some ⟨B2, 0, none⟩) (m * n) (m * n)] 111) (fun B => .pointer (some ⟨B, 0, none⟩)) (fun B => [(7, .pointer (some ⟨B, 0, none⟩))]) rfl (wv_n rfl) rfl rfl (fun _ _ hρ _ => r_box (hρ _ _ rfl) rfl) (fun B => by kernel_rfl) ?_
  intro B3
  refine G_last [7] [(4, .pointer none), (5, .int .i64 0), (7, .pointer (some ⟨B3, 0, none⟩))] (by kernel_rfl) (allM (all_cons (q_run (.pointer (some ⟨B3, 0, none⟩)) rfl rfl (wv_n rfl) rfl (fun _ _ hρ _ => r_assign (hρ _ _ rfl))) all_nil)) (end_old rfl rfl (end_old rfl rfl (end_new 7 rfl rfl end_nil))) ?_
  refine T_seq (T_region ?_)
  refine TL_q (.agg (lst C4.cells zero64)) (fun _ _ _ _ => r_build (vs := []) (by kernel_rfl) rfl) rfl rfl rfl (w_n rfl) ?_
  refine TL_new 903 (.cells (lst C4.cells zero64) 39) (fun B => .pointer (some ⟨B, 0, none⟩)) (fun _ _ hρ _ => r_box (hρ _ _ rfl) rfl) rfl rfl rfl (w_n rfl) ?_
  intro B4
  refine TL_q (.pointer (some ⟨B4, 0, none⟩)) (fun _ _ hρ _ => r_assign (hρ _ _ rfl)) rfl rfl rfl (w_n rfl) ?_
  refine TL_seq ?_
  refine T_seq ?_
  refine T_seq (T_region ?_)
  refine TL_q (.pointer (some ⟨B3, 0, none⟩)) (fun _ _ hρ _ => r_move (hρ _ _ rfl)) rfl rfl rfl (w_n rfl) ?_
  refine TL_q (.pointer (some ⟨B3, 0, none⟩)) (fun _ _ hρ _ => r_nilCheck (hρ _ _ rfl) rfl) rfl rfl rfl (w_n rfl) ?_
  refine TL_q (.pointer (some ⟨B3, 2, none⟩)) (fun _ _ hρ _ => r_fieldAddr fl111_1 sz104 (hρ _ _ rfl)) rfl rfl rfl (w_n rfl) ?_
  refine TL_q (.slice (some ⟨B2, 0, none⟩) (m * n) (m * n)) (fun _ _ hρ hm => r_load ag104 (hρ _ _ rfl) (hm.at 902 rfl) rfl) rfl rfl rfl (w_n rfl) ?_
  refine TL_q (.int .i64 ((m * n : Nat) : Int)) (fun _ _ hρ _ => r_len sl104 (hρ _ _ rfl)) rfl rfl rfl (w_n rfl) ?_
  refine TL_q (.int .i64 0) (fun _ _ hρ _ => r_move (hρ _ _ rfl)) rfl rfl rfl (w_n rfl) ?_
  refine TL_seq ?_
  refine T_block ?_
  refine T_loop (ι := Nat) (fun (k : Nat) => k ≤ m * n) (fun (k : Nat) => [(4, .pointer none), (5, .int .i64 0), (7, .pointer (some ⟨B3, 0, none⟩)), (8, .pointer (some ⟨B4, 0, none⟩)), (29, .int .i64 ((m * n : Nat) : Int)), (30, .int .i64 ((k : Nat) : Int))]) (fun (k : Nat) => [(1, .blk B1 (.cells #[.int .i64 ((m : Nat) : Int), .int .i64 ((n : Nat) : Int)] 109)), (902, .blk B3 (.cells #[.int .i64 ((m : Nat) : Int), .int .i64 ((n : Nat) : Int), .slice (some ⟨B2, 0, none⟩) (m * n) (m * n)] 111)), (903, .blk B4 (.cells (lst C4.cells zero64) 39)), (901, .row (.slice (some ⟨B2, 0, none⟩) (m * n) (m * n)) 106 1 (m * n) ((List.replicate k (some B4) ++ List.replicate (m * n - k) none).flatMap optc))]) (fun (k : Nat) => m * n - k) 0 (Nat.zero_le _) (sub_cons rfl (sub_cons rfl (sub_cons rfl (sub_cons rfl (sub_cons rfl (sub_cons rfl sub_nil)))))) (sub_cons rfl (sub_cons rfl (sub_cons rfl (sub_cons rfl sub_nil)))) ?_
  rintro k hp
  show T _ _ _ [(4, .pointer none), (5, .int .i64 0), (7, .pointer (some ⟨B3, 0, none⟩)), (8, .pointer (some ⟨B4, 0, none⟩)), (29, .int .i64 ((m * n : Nat) : Int)), (30, .int .i64 ((k : Nat) : Int))] [(1, .blk B1 (.cells #[.int .i64 ((m : Nat) : Int), .int .i64 ((n : Nat) : Int)] 109)), (902, .blk B3 (.cells #[.int .i64 ((m : Nat) : Int), .int .i64 ((n : Nat) : Int), .slice (some ⟨B2, 0, none⟩) (m * n) (m * n)] 111)), (903, .blk B4 (.cells (lst C4.cells zero64) 39)), (901, .row (.slice (some ⟨B2, 0, none⟩) (m * n) (m * n)) 106 1 (m * n) ((List.replicate k (some B4) ++ List.replicate (m * n - k) none).flatMap optc))]
  refine T_seq (T_region ?_)
  refine TL_q (.bool (decide (((k : Nat) : Int) < ((m * n : Nat) : Int)))) (fun _ _ hρ _ => r_lss (hρ _ _ rfl) (hρ _ _ rfl)) rfl rfl rfl (w_n rfl) ?_
  refine TL_seq ?_
  refine T_seq ?_
  refine T_cond rfl (fun h1 => ?_) (fun h1 => ?_)
  · replace h1 := of_decide_eq_true h1
    refine T_skip' ?_
    refine p_seq ?_
    refine T_seq ?_
    refine T_block ?_
    refine T_seq (T_region ?_)
    refine TL_q (.int .i64 ((k : Nat) : Int)) (fun _ _ hρ _ => r_move (hρ _ _ rfl)) rfl rfl rfl (w_n rfl) ?_
    refine TL_q (.int .i64 ((k : Nat) : Int)) (fun _ _ hρ _ => r_assign (hρ _ _ rfl)) rfl rfl rfl (w_n rfl) ?_
    refine TL_seq ?_
    refine T_region ?_
    refine TL_q (.pointer (some ⟨B3, 0, none⟩)) (fun _ _ hρ _ => r_move (hρ _ _ rfl)) rfl rfl rfl (w_n rfl) ?_
    refine TL_q (.pointer (some ⟨B3, 0, none⟩)) (fun _ _ hρ _ => r_nilCheck (hρ _ _ rfl) rfl) rfl rfl rfl (w_n rfl) ?_
    refine TL_q (.pointer (some ⟨B3, 2, none⟩)) (fun _ _ hρ _ => r_fieldAddr fl111_1 sz104 (hρ _ _ rfl)) rfl rfl rfl (w_n rfl) ?_
    refine TL_q (.slice (some ⟨B2, 0, none⟩) (m * n) (m * n)) (fun _ _ hρ hm => r_load ag104 (hρ _ _ rfl) (hm.at 902 rfl) rfl) rfl rfl rfl (w_n rfl) ?_
    refine TL_q (.int .i64 ((k : Nat) : Int)) (fun _ _ hρ _ => r_move (hρ _ _ rfl)) rfl rfl rfl (w_n rfl) ?_
    refine TL_q (.pointer (some ⟨B4, 0, none⟩)) (fun _ _ hρ _ => r_move (hρ _ _ rfl)) rfl rfl rfl (w_n rfl) ?_
    refine TL_q (.pointer (some ⟨B2, 0 + k * 1, none⟩)) (fun _ _ hρ _ => r_indexAddrS (i := k) sl104 sz106 (hρ _ _ rfl) (hρ _ _ rfl) (by omega)) rfl rfl rfl (w_n rfl) ?_
    refine TL_storeRow (f := optc) (l := (List.replicate k (some B4) ++ List.replicate (m * n - k) none)) (u := (some B4)) 901 rfl (by simp; omega) rfl rfl sz106 optc_len (by simp; omega) rfl rfl (w_n rfl) ?_
    refine TL_nil ?_
    refine p_blk_n ?_
    refine p_seq ?_
    refine T_region ?_
    refine TL_q (.int .i64 ((k + 1 : Nat) : Int)) (fun _ _ hρ _ => r_as (r_add (hρ _ _ rfl) (hρ _ _ rfl)) (int_as ((wrap64 (by omega) (by omega)).trans (by omega)))) rfl rfl rfl (w_n rfl) ?_
    refine TL_q (.int .i64 ((k + 1 : Nat) : Int)) (fun _ _ hρ _ => r_move (hρ _ _ rfl)) rfl rfl rfl (w_n rfl) ?_
    refine TL_nil ?_
    rw [rep_set (n := m * n) (k := k) (x := some B4) (by omega)]
    exact p_at (k + 1) ⟨by omega, by omega⟩ (sub_cons rfl (sub_cons rfl (sub_cons rfl (sub_cons rfl (sub_cons rfl (sub_cons rfl sub_nil)))))) (sub_cons rfl (sub_cons rfl (sub_cons rfl (sub_cons rfl sub_nil))))
  · replace h1 := of_decide_eq_false h1
    refine T_exit' ?_
    refine p_then_x ?_
    refine p_then_x ?_
    refine p_blk_x ?_
    refine p_seq ?_
    refine T_seq (T_region ?_)
    refine TL_q (.pointer (some ⟨B3, 0, none⟩)) (fun _ _ hρ _ => r_move (hρ _ _ rfl)) rfl rfl rfl (w_n rfl) ?_
    refine TL_q (.pointer (some ⟨B3, 0, none⟩)) (fun _ _ hρ _ => r_assign (hρ _ _ rfl)) rfl rfl rfl (w_n rfl) ?_
    refine TL_q (.int .i64 0) (fun _ _ hρ _ => r_assign (hρ _ _ rfl)) rfl rfl rfl (w_n rfl) ?_
    refine TL_seq ?_
    refine T_ret' ?_
    refine ret_of rfl (.tuple #[.pointer (some ⟨B3, 0, none⟩), .int .i64 0]) (fun tmps w hk hm => res2 rfl (res_tmp (hk 4 _ rfl)) (res_tmp (hk 5 _ rfl))) (fun w hm => ?_)
    have hk : k = m * n := by omega
    subst hk
    have hrow := hm.row 901 rfl
    rw [Nat.sub_self, List.replicate_zero, List.append_nil, show List.replicate (m * n) (some B4) = (List.replicate (m * n) B4).map some from (List.map_replicate).symm, ptr_flat] at hrow
    have h16 := size4 hm4 hn4
    refine ⟨⟨B3, some ⟨B2, 0, none⟩, m * n, List.replicate (m * n) B4, m, n, List.replicate (m * n) zeroT⟩, rfl, ⟨hm.ext, ⟨?_, ?_, ?_, ?_, ?_, ?_, hm4, hn4⟩, ?_⟩, rfl, rfl, rfl⟩
    · have := hm.at 902 rfl; simpa using this
    · exact SliceAt.own ptrc_len hrow (by simp) rfl
    · show m * n ≤ Go.maxLen; unfold Go.maxLen; omega
    · intro i x t hx ht
      have h1 := List.mem_of_getElem? hx; have h2 := List.mem_of_getElem? ht
      have h1 := (List.mem_replicate.1 h1).2; have h2 := (List.mem_replicate.1 h2).2
      rw [h1, h2]
      exact hm.at 903 rfl
    · simp
    · simp
    · rintro b (rfl | ⟨x, hx, rfl⟩ | hb)
      · exact .inl (hm.own 902 _ rfl).1
      · cases hx; exact .inl (Res.low (hm.own 901 _ rfl) (rfl : (Value.slice (some ⟨B2, 0, none⟩) (m * n) (m * n)).ownBlock = some B2)).1
      · rw [(List.mem_replicate.1 hb).2]; exact .inl (hm.own 903 _ rfl).1

theorem new_no (x y : Int) (w : World) (hno : ¬ mayI x y = true) : Calls Try.prog 29 #[.int .i64 x, .int .i64 y] w fun e w' => e = .returned (.tuple #[.pointer none, .int .i64 2]) ∧ Below w.heap.size w w' := by
  refine calls_of_T (l := [.int .i64 x, .int .i64 y]) 42 Try.func29 rfl rfl rfl ?_
  show T _ _ _ [(0, .int .i64 x), (1, .int .i64 y)] []
  refine T_seq (T_region ?_)
  refine TL_q (.pointer none) (fun _ _ hρ _ => r_assign (hρ _ _ rfl)) rfl rfl rfl (w_n rfl) ?_
  refine TL_q (.int .i64 0) (fun _ _ hρ _ => r_assign (hρ _ _ rfl)) rfl rfl rfl (w_n rfl) ?_
  refine TL_seq ?_
  refine T_seq (T_region ?_)
  refine TL_q (.int .i64 x) (fun _ _ hρ _ => r_move (hρ _ _ rfl)) rfl rfl rfl (w_n rfl) ?_
  refine TL_q (.int .i64 y) (fun _ _ hρ _ => r_move (hρ _ _ rfl)) rfl rfl rfl (w_n rfl) ?_
  refine TL_q (.agg #[.int .i64 x, .int .i64 y]) (fun _ _ hρ _ => r_build (vs := [(0, .int .i64 x), (1, .int .i64 y)]) (by kernel_rfl) (cons2 (pair2 (hρ _ _ rfl)) (cons2 (pair2 (hρ _ _ rfl)) rfl))) rfl rfl rfl (w_n rfl) ?_
  refine TL_new 1 (.cells #[.int .i64 0, .int .i64 0] 109) (fun B => .pointer (some ⟨B, 0, none⟩)) (fun _ _ _ _ => r_alloc (v := .agg #[.int .i64 0, .int .i64 0]) (by kernel_rfl) rfl) rfl rfl rfl (w_n rfl) ?_
  intro B1
  refine TL_store 1 (.cells #[.int .i64 x, .int .i64 y] 109) rfl (fun _ _ hρ hm => r_store sz109 (hρ _ _ rfl) (hρ _ _ rfl) (hm.at 1 rfl) rfl rfl rfl rfl) rfl rfl (w_n rfl) ?_
  refine TL_seq ?_
  refine T_seq ?_
  refine T_seq (T_region ?_)
  refine TL_q (.agg #[.int .i64 x, .int .i64 y]) (fun _ _ hρ hm => r_loadA ag109 sz109 (hρ _ _ rfl) (hm.at 1 rfl) rfl rfl) rfl rfl rfl (w_n rfl) ?_
  refine TL_call (.bool false) (fun _ _ hρ _ => r_call (args := [.agg #[.int .i64 x, .int .i64 y]]) (enters_of Try.func77 (by kernel_rfl) rfl) (hρ _ _ rfl) ((cons2 (hρ _ _ rfl) rfl)) rfl) (fun w _ => (may_c x y w).mono fun _ _ h => ⟨h.1.trans (congrArg Ending.returned (bool_as (eq_false_of_ne_true hno))), h.2⟩) rfl rfl rfl (w_n rfl) ?_
  refine TL_q (.bool true) (fun _ _ hρ _ => r_not (b := false) (hρ _ _ rfl)) rfl rfl rfl (w_n rfl) ?_
  refine TL_seq ?_
  refine T_cond_t rfl ?_
  refine T_seq (T_region ?_)
  refine TL_q (.pointer none) (fun _ _ hρ _ => r_assign (hρ _ _ rfl)) rfl rfl rfl (w_n rfl) ?_
  refine TL_q (.int .i64 2) (fun _ _ hρ _ => r_assign (hρ _ _ rfl)) rfl rfl rfl (w_n rfl) ?_
  refine TL_seq ?_
  refine T_ret' ?_
  refine p_then_r ?_
  refine ret_of rfl (.tuple #[.pointer none, .int .i64 2]) (fun tmps w hk hm => res2 rfl (res_tmp (hk 4 _ rfl)) (res_tmp (hk 5 _ rfl))) (fun w hm => ?_)
  exact ⟨rfl, hm.ext⟩
end Go.Proofs.Ytbiapeaghbndoaa
