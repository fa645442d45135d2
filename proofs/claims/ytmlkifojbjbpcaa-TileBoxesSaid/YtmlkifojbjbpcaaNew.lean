/- tile: New, moved. Printed by a program of this seat's prover. -/
import Derived.Test.YtmlkifojbjbpcaaPut
namespace Go.Proofs.Ytmlkifojbjbpcaa
open Go Go.RowKit
set_option maxRecDepth 10000
theorem each_c (w : World) : Calls Try.prog 38 #[] w fun e w' => e = .returned (.func (.func 47) #[] #[]) ∧ Below w.heap.size w w' := by
  refine calls_of_T (l := []) 1 Try.func38 rfl rfl rfl ?_
  show T _ _ _ [] []
  refine T_seq (T_region ?_)
  refine TL_q (.nilFunc) (fun _ _ hρ _ => r_assign (hρ _ _ rfl)) rfl rfl rfl (w_n rfl) ?_
  refine TL_seq ?_
  refine T_seq (T_region ?_)
  refine TL_q (.func (.func 47) #[] #[]) (fun _ _ hρ _ => r_assign (hρ _ _ rfl)) rfl rfl rfl (w_n rfl) ?_
  refine TL_seq ?_
  refine T_ret' ?_
  refine ret_of rfl (.func (.func 47) #[] #[]) (fun tmps w hk hm => res1 rfl (res_tmp (hk 0 _ rfl))) (fun w hm => ?_)
  exact ⟨rfl, hm.ext⟩

theorem new_put {c : C4} {k : Nat} {x : Int × Int} (hx : pts[k]? = some x) : putL (gridN (newG c) zero64 k) x.1 x.2 c = gridN (newG c) zero64 (k + 1) := by
  have hk : k < 64 := by have := (List.getElem?_eq_some_iff.1 hx).1; simpa [pts] using this
  have h := pts_at (x := k % 8) (y := k / 8) (by omega) (by omega)
  rw [show 8 * (k / 8) + k % 8 = k by omega, hx] at h
  cases h
  dsimp only
  rw [putL_at (by omega) (by omega)]
  show _ = (gridN (newG c) zero64 k).set (8 * (k / 8) + k % 8) c
  rw [Nat.mul_comm]

theorem new_c (c : C4) (w : World) : Calls Try.prog 31 #[c.v] w fun e w' => e = .returned (til (newL c)) ∧ Below w.heap.size w w' := by
  refine calls_of_T (l := [.agg #[.int .u8 c.r, .int .u8 c.g, .int .u8 c.b, .int .u8 c.a]]) 20 Try.func31 rfl rfl rfl ?_
  show T _ _ _ [(0, .agg #[.int .u8 c.r, .int .u8 c.g, .int .u8 c.b, .int .u8 c.a])] []
  refine T_seq (T_region ?_)
  refine TL_new 1 (.cells #[.int .u8 c.r, .int .u8 c.g, .int .u8 c.b, .int .u8 c.a] 23) (fun B => .pointer (some ⟨B, 0, none⟩)) (fun _ _ hρ _ => r_box (hρ _ _ rfl) rfl) rfl rfl rfl (w_n rfl) ?_
  intro B1
  refine TL_new 2 (.cells (lst C4.cells zero64) 25) (fun B => .pointer (some ⟨B, 0, none⟩)) (fun _ _ _ _ => r_alloc (v := .agg (lst C4.cells zero64)) (by kernel_rfl) rfl) rfl rfl rfl (w_n rfl) ?_
  intro B2
  refine TL_seq ?_
  refine T_seq (T_region ?_)
  refine TL_q (.agg (lst C4.cells zero64)) (fun _ _ _ _ => r_build (vs := []) (by kernel_rfl) rfl) rfl rfl rfl (w_n rfl) ?_
  refine TL_new 900 (.cells (lst C4.cells zero64) 69) (fun B => .pointer (some ⟨B, 0, none⟩)) (fun _ _ hρ _ => r_box (hρ _ _ rfl) rfl) rfl rfl rfl (w_n rfl) ?_
  intro B3
  refine TL_new 3 (.cells #[.pointer none] 67) (fun B => .pointer (some ⟨B, 0, none⟩)) (fun _ _ _ _ => r_alloc (v := .pointer none) (by kernel_rfl) rfl) rfl rfl rfl (w_n rfl) ?_
  intro B4
  refine TL_store 3 (.cells #[.pointer (some ⟨B3, 0, none⟩)] 67) rfl (fun _ _ hρ hm => r_store sz67 (hρ _ _ rfl) (hρ _ _ rfl) (hm.at 3 rfl) rfl rfl rfl rfl) rfl rfl (w_n rfl) ?_
  refine TL_seq ?_
  refine T_seq ?_
  refine T_seq (T_region ?_)
  refine TL_call (.func (.func 47) #[] #[]) (fun _ _ hρ _ => r_call (args := []) (enters_of Try.func38 (by kernel_rfl) rfl) (hρ _ _ rfl) (by rfl) rfl) (fun w _ => each_c w) rfl rfl rfl (w_n rfl) ?_
  refine TL_seq ?_
  refine T_block ?_
  refine T_sub [(1, .pointer (some ⟨B1, 0, none⟩)), (2, .pointer (some ⟨B2, 0, none⟩)), (3, .pointer (some ⟨B4, 0, none⟩)), (8, .func (.func 47) #[] #[])] [(1, .blk B1 (.cells #[.int .u8 c.r, .int .u8 c.g, .int .u8 c.b, .int .u8 c.a] 23)), (2, .blk B2 (.cells (lst C4.cells zero64) 25)), (900, .blk B3 (.cells (lst C4.cells zero64) 69)), (3, .blk B4 (.cells #[.pointer (some ⟨B3, 0, none⟩)] 67))] (sub_cons rfl (sub_cons rfl (sub_cons rfl (sub_cons rfl sub_nil)))) (sub_cons rfl (sub_cons rfl (sub_cons rfl (sub_cons rfl sub_nil)))) ?_
  refine T_range (ι := Unit) (encs := encP) (xs := pts) rfl rfl (enters_of Try.func47 (by kernel_rfl) rfl) (fun _ => rfl) rfl 801 802 rfl (fun (k : Nat) (_u : Unit) => True) (fun (k : Nat) (_u : Unit) => [(1, .blk B1 (.cells #[.int .u8 c.r, .int .u8 c.g, .int .u8 c.b, .int .u8 c.a] 23)), (2, .blk B2 (.cells (lst C4.cells zero64) 25)), (3, .blk B4 (.cells #[.pointer (some ⟨B3, 0, none⟩)] 67)), (900, .blk B3 (.cells (lst C4.cells (gridN (newG c) zero64 k)) 69))]) (fun _ _ => False) (fun _ => []) (fun x => [(1, .pointer (some ⟨B1, 0, none⟩)), (2, .pointer (some ⟨B2, 0, none⟩)), (3, .pointer (some ⟨B4, 0, none⟩)), (8, .func (.func 47) #[] #[]), (4, .int .i64 x.1), (5, .int .i64 x.2)]) (fun D l rec => each_iter _ _ _) (fun _ _ => ⟨rfl, rfl⟩) (fun _ => ⟨rfl, rfl⟩) () trivial (sub_cons rfl (sub_cons rfl (sub_cons rfl (sub_cons rfl sub_nil)))) ?_ ?_ ?_ (fun _ _ _ h => h.elim)
  · intro D1 l1 rec1 k x _u hx1 hp1
    refine T_sub [(1, .pointer (some ⟨B1, 0, none⟩)), (2, .pointer (some ⟨B2, 0, none⟩)), (3, .pointer (some ⟨B4, 0, none⟩)), (8, .func (.func 47) #[] #[]), (9, .int .i64 x.1), (10, .int .i64 x.2)] [(801, .blk D1 (.deferred (some []))), (802, .blk l1 (.loop rec1)), (1, .blk B1 (.cells #[.int .u8 c.r, .int .u8 c.g, .int .u8 c.b, .int .u8 c.a] 23)), (2, .blk B2 (.cells (lst C4.cells zero64) 25)), (3, .blk B4 (.cells #[.pointer (some ⟨B3, 0, none⟩)] 67)), (900, .blk B3 (.cells (lst C4.cells (gridN (newG c) zero64 k)) 69))] (sub_cons rfl (sub_cons rfl (sub_cons rfl (sub_cons rfl (sub_cons rfl (sub_cons rfl sub_nil)))))) (sub_cons rfl (sub_cons rfl (sub_cons rfl (sub_cons rfl (sub_cons rfl (sub_cons rfl sub_nil)))))) ?_
    refine T_seq (T_region ?_)
    refine TL_q (.int .i64 x.1) (fun _ _ hρ _ => r_assign (hρ _ _ rfl)) rfl rfl rfl (w_n rfl) ?_
    refine TL_seq ?_
    refine T_region ?_
    refine TL_q (.int .i64 x.2) (fun _ _ hρ _ => r_assign (hρ _ _ rfl)) rfl rfl rfl (w_n rfl) ?_
    refine TL_nil ?_
    exact p_at () trivial (sub_cons rfl (sub_cons rfl (sub_cons rfl (sub_cons rfl (sub_cons rfl (sub_cons rfl sub_nil)))))) (sub_cons rfl (sub_cons rfl (sub_cons rfl (sub_cons rfl (sub_cons rfl (sub_cons rfl sub_nil))))))
  · intro D1 l1 rec1 k x _u hx1 hp1
    show T _ _ _ [(1, .pointer (some ⟨B1, 0, none⟩)), (2, .pointer (some ⟨B2, 0, none⟩)), (3, .pointer (some ⟨B4, 0, none⟩)), (8, .func (.func 47) #[] #[]), (4, .int .i64 x.1), (5, .int .i64 x.2)] [(801, .blk D1 (.deferred (some []))), (802, .blk l1 (.loop { rec1 with state := .busy })), (1, .blk B1 (.cells #[.int .u8 c.r, .int .u8 c.g, .int .u8 c.b, .int .u8 c.a] 23)), (2, .blk B2 (.cells (lst C4.cells zero64) 25)), (3, .blk B4 (.cells #[.pointer (some ⟨B3, 0, none⟩)] 67)), (900, .blk B3 (.cells (lst C4.cells (gridN (newG c) zero64 k)) 69))]
    refine T_block ?_
    refine T_region ?_
    refine TL_q (.pointer (some ⟨B3, 0, none⟩)) (fun _ _ hρ hm => r_load ag67 (hρ _ _ rfl) (hm.at 3 rfl) rfl) rfl rfl rfl (w_n rfl) ?_
    refine TL_q (.int .i64 x.1) (fun _ _ hρ _ => r_move (hρ _ _ rfl)) rfl rfl rfl (w_n rfl) ?_
    refine TL_q (.int .i64 x.2) (fun _ _ hρ _ => r_move (hρ _ _ rfl)) rfl rfl rfl (w_n rfl) ?_
    refine TL_q (.agg #[.int .u8 c.r, .int .u8 c.g, .int .u8 c.b, .int .u8 c.a]) (fun _ _ hρ hm => r_loadA ag23 sz23 (hρ _ _ rfl) (hm.at 1 rfl) rfl rfl) rfl rfl rfl (w_n rfl) ?_
    refine TL_callH _ _ _ (fun _ _ hρ _ => r_call (args := [.pointer (some ⟨B3, 0, none⟩), .int .i64 x.1, .int .i64 x.2, .agg #[.int .u8 c.r, .int .u8 c.g, .int .u8 c.b, .int .u8 c.a]]) (enters_of Try.func40 (by kernel_rfl) rfl) (hρ _ _ rfl) ((cons2 (hρ _ _ rfl) (cons2 (hρ _ _ rfl) (cons2 (hρ _ _ rfl) (cons2 (hρ _ _ rfl) rfl))))) rfl) (fun w hm => put_ht _ _ B3 (gridN (newG c) zero64 k) x.1 x.2 c (grid_len (newG_len _) zero64_len _) rfl rfl w hm) rfl rfl rfl (w_n rfl) ?_
    intro _ _
    refine TL_nil ?_
    refine p_blk_n ?_
    rw [show putL (gridN (newG c) zero64 k) x.1 x.2 c = gridN (newG c) zero64 (k + 1) from new_put hx1]
    exact p_round_n () trivial (sub_cons rfl (sub_cons rfl (sub_cons rfl (sub_cons rfl (sub_cons rfl (sub_cons rfl sub_nil))))))
  · intro D1 _u hp1
    refine p_sub [(1, .pointer (some ⟨B1, 0, none⟩)), (2, .pointer (some ⟨B2, 0, none⟩)), (3, .pointer (some ⟨B4, 0, none⟩)), (8, .func (.func 47) #[] #[])] [(801, .blk D1 (.deferred (some []))), (1, .blk B1 (.cells #[.int .u8 c.r, .int .u8 c.g, .int .u8 c.b, .int .u8 c.a] 23)), (2, .blk B2 (.cells (lst C4.cells zero64) 25)), (3, .blk B4 (.cells #[.pointer (some ⟨B3, 0, none⟩)] 67)), (900, .blk B3 (.cells (lst C4.cells (gridN (newG c) zero64 64)) 69))] (sub_cons rfl (sub_cons rfl (sub_cons rfl (sub_cons rfl sub_nil)))) (sub_cons rfl (sub_cons rfl (sub_cons rfl (sub_cons rfl (sub_cons rfl sub_nil))))) ?_
    refine p_blk_n ?_
    refine p_seq ?_
    refine T_seq (T_region ?_)
    refine TL_q (.pointer (some ⟨B3, 0, none⟩)) (fun _ _ hρ hm => r_load ag67 (hρ _ _ rfl) (hm.at 3 rfl) rfl) rfl rfl rfl (w_n rfl) ?_
    refine TL_q (.pointer (some ⟨B3, 0, none⟩)) (fun _ _ hρ _ => r_nilCheck (hρ _ _ rfl) rfl) rfl rfl rfl (w_n rfl) ?_
    refine TL_q (.pointer (some ⟨B3, 0, none⟩)) (fun _ _ hρ _ => r_fieldAddr fl69_0 sz25 (hρ _ _ rfl)) rfl rfl rfl (w_n rfl) ?_
    refine TL_q (.agg (lst C4.cells (gridN (newG c) zero64 64))) (fun _ _ hρ hm => r_loadW ag25 sz25 (hρ _ _ rfl) (hm.at 900 rfl) (tsz (grid_len (newG_len _) zero64_len _))) rfl rfl rfl (w_n rfl) ?_
    refine TL_store 2 (.cells (lst C4.cells (gridN (newG c) zero64 64)) 25) rfl (fun _ _ hρ hm => r_storeAll sz25 (hρ _ _ rfl) (hρ _ _ rfl) (hm.at 2 rfl) (tsz zero64_len) (tsz (grid_len (newG_len _) zero64_len _)) (lst_one C4.cells_all _)) rfl rfl (w_n rfl) ?_
    refine TL_seq ?_
    refine T_ret' ?_
    refine ret_of1 801 D1 rfl rfl (.agg (lst C4.cells (gridN (newG c) zero64 64))) (fun tmps w hk hm => res1 rfl (res_cell (hk 2 _ rfl) (run_loadVar_agg ag25 sz25 (hm.at 2 rfl) (le64 (grid_len (newG_len _) zero64_len _)) (ex64 (grid_len (newG_len _) zero64_len _))))) (fun w hm => ?_)
    exact ⟨rfl, hm.ext⟩
end Go.Proofs.Ytmlkifojbjbpcaa
