/- tile: Count and Runs. Printed by a program of this seat's prover. -/
import Derived.Test.YtmlkifojbjbpcaaMany
namespace Go.Proofs.Ytmlkifojbjbpcaa
open Go Go.RowKit
set_option maxRecDepth 10000
theorem cnt_num (l : List C4) (c : C4) : ∀ k, numN (fun k => decide (get l k = c)) k = cntN l c k
  | 0 => rfl
  | k + 1 => by
    unfold numN cntN
    rw [cnt_num l c k]
    by_cases h : get l k = c
    · rw [if_pos h, if_pos (decide_eq_true h)]
    · rw [if_neg h, if_neg (by simpa using h)]
def lastN (l : List C4) : Nat → C4
  | 0 => get l 0
  | k + 1 => get l k
def oth (l : List C4) (k : Nat) : Bool := !decide (get l k = lastN l k)
theorem run_num (l : List C4) : ∀ k, 1 + numN (oth l) (k + 1) = runN l k
  | 0 => by
    have h : oth l 0 = false := by unfold oth; rw [decide_eq_true (show get l 0 = lastN l 0 from rfl)]; rfl
    unfold numN runN
    rw [if_neg (by rw [h]; decide)]; rfl
  | k + 1 => by
    have ih := run_num l k
    by_cases h : get l (k + 1) = get l k
    · have e : oth l (k + 1) = false := by unfold oth; rw [decide_eq_true (show get l (k + 1) = lastN l (k + 1) from h)]; rfl
      rw [num_f e, run_t h]; exact ih
    · have e : oth l (k + 1) = true := by unfold oth; rw [decide_eq_false (show ¬ get l (k + 1) = lastN l (k + 1) from h)]; rfl
      rw [num_t e, run_f h]; omega

theorem count_c (l : List C4) (c : C4) (w : World) (hl : l.length = 64) : Calls Try.prog 15 #[til l, c.v] w fun e w' => e = .returned (.int .i64 (cntN l c 64)) ∧ Below w.heap.size w w' := by
  refine calls_of_T (l := [.agg (lst C4.cells l), .agg #[.int .u8 c.r, .int .u8 c.g, .int .u8 c.b, .int .u8 c.a]]) 8 Try.func15 rfl rfl rfl ?_
  show T _ _ _ [(0, .agg (lst C4.cells l)), (1, .agg #[.int .u8 c.r, .int .u8 c.g, .int .u8 c.b, .int .u8 c.a])] []
  refine T_seq (T_region ?_)
  refine TL_new 900 (.cells (lst C4.cells l) 25) (fun B => .pointer (some ⟨B, 0, none⟩)) (fun _ _ hρ _ => r_box (hρ _ _ rfl) rfl) rfl rfl rfl (w_n rfl) ?_
  intro B1
  refine TL_new 901 (.cells #[.int .u8 c.r, .int .u8 c.g, .int .u8 c.b, .int .u8 c.a] 23) (fun B => .pointer (some ⟨B, 0, none⟩)) (fun _ _ hρ _ => r_box (hρ _ _ rfl) rfl) rfl rfl rfl (w_n rfl) ?_
  intro B2
  refine TL_q (.int .i64 0) (fun _ _ hρ _ => r_assign (hρ _ _ rfl)) rfl rfl rfl (w_n rfl) ?_
  refine TL_seq ?_
  refine T_seq (T_region ?_)
  refine TL_q (.slice (some ⟨B1, 0, none⟩) 64 64) (fun _ _ hρ _ => r_sliceA ar25 sz23 (by decide) (hρ _ _ rfl)) rfl rfl rfl (w_n rfl) ?_
  refine TL_q (.func (.func 37) #[] #[.pointer (some ⟨B2, 0, none⟩)]) (fun _ _ hρ _ => r_makeFunc (by simp) (map_arr (cons2 (hρ _ _ rfl) rfl))) rfl rfl rfl (w_n rfl) ?_
  refine TL_callH _ _ _ (fun _ _ hρ _ => r_call (args := [.slice (some ⟨B1, 0, none⟩) 64 64, .func (.func 37) #[] #[.pointer (some ⟨B2, 0, none⟩)]]) (enters_of Try.func35 (by kernel_rfl) rfl) (hρ _ _ rfl) ((cons2 (hρ _ _ rfl) (cons2 (hρ _ _ rfl) rfl))) rfl) (fun w hm => many_ht _ l B1 37 #[.pointer (some ⟨B2, 0, none⟩)] (fun k => decide (get l k = c)) (fun _ => [(900, .blk B1 (.cells (lst C4.cells l) 25)), (901, .blk B2 (.cells #[.int .u8 c.r, .int .u8 c.g, .int .u8 c.b, .int .u8 c.a] 23))]) hl (enters_of Try.func37 (by kernel_rfl) rfl) (fun _ => rfl) (fun _ => rfl) (fun k w hk hm => count1_ht _ _ B2 _ c rfl rfl w hm) w (hm.sub (sub_cons rfl (sub_cons rfl sub_nil)))) rfl rfl rfl (w_n rfl) ?_
  intro _ _
  refine TL_q (.int .i64 ((numN (fun k => decide (get l k = c)) 64 : Nat) : Int)) (fun _ _ hρ _ => r_assign (hρ _ _ rfl)) rfl rfl rfl (w_n rfl) ?_
  refine TL_seq ?_
  refine T_ret' ?_
  refine ret_of rfl (.int .i64 ((numN (fun k => decide (get l k = c)) 64 : Nat) : Int)) (fun tmps w hk hm => res1 rfl (res_tmp (hk 4 _ rfl))) (fun w hm => ?_)
  exact ⟨congrArg (fun z : Nat => Ending.returned (.int .i64 z)) (cnt_num l c 64), hm.ext⟩

theorem runs_c (l : List C4) (w : World) (hl : l.length = 64) : Calls Try.prog 13 #[til l] w fun e w' => e = .returned (.int .i64 (runN l 63)) ∧ Below w.heap.size w w' := by
  refine calls_of_T (l := [.agg (lst C4.cells l)]) 10 Try.func13 rfl rfl rfl ?_
  show T _ _ _ [(0, .agg (lst C4.cells l))] []
  refine T_seq (T_region ?_)
  refine TL_new 900 (.cells (lst C4.cells l) 25) (fun B => .pointer (some ⟨B, 0, none⟩)) (fun _ _ hρ _ => r_box (hρ _ _ rfl) rfl) rfl rfl rfl (w_n rfl) ?_
  intro B1
  refine TL_q (.int .i64 0) (fun _ _ hρ _ => r_assign (hρ _ _ rfl)) rfl rfl rfl (w_n rfl) ?_
  refine TL_seq ?_
  refine T_seq (T_region ?_)
  refine TL_q (.pointer (some ⟨B1, 0 + 0 * 4, none⟩)) (fun _ _ hρ _ => r_indexAddrA (i := 0) ar25 sz23 (hρ _ _ rfl) (hρ _ _ rfl) (by decide)) rfl rfl rfl (w_n rfl) ?_
  refine TL_q (.agg #[.int .u8 ((get l 0).r), .int .u8 ((get l 0).g), .int .u8 ((get l 0).b), .int .u8 ((get l 0).a)]) (fun _ _ hρ hm => r_loadRow (f := C4.cells) (u := (get l 0)) ag23 sz23 (hρ _ _ rfl) (hm.at 900 rfl) (row_lst C4.cells_len _) (get_some hl (by omega))) rfl rfl rfl (w_n rfl) ?_
  refine TL_new 901 (.cells #[.int .u8 0, .int .u8 0, .int .u8 0, .int .u8 0] 23) (fun B => .pointer (some ⟨B, 0, none⟩)) (fun _ _ _ _ => r_alloc (v := .agg #[.int .u8 0, .int .u8 0, .int .u8 0, .int .u8 0]) (by kernel_rfl) rfl) rfl rfl rfl (w_n rfl) ?_
  intro B2
  refine TL_store 901 (.cells #[.int .u8 ((get l 0).r), .int .u8 ((get l 0).g), .int .u8 ((get l 0).b), .int .u8 ((get l 0).a)] 23) rfl (fun _ _ hρ hm => r_store sz23 (hρ _ _ rfl) (hρ _ _ rfl) (hm.at 901 rfl) rfl rfl rfl rfl) rfl rfl (w_n rfl) ?_
  refine TL_seq ?_
  refine T_seq (T_region ?_)
  refine TL_q (.slice (some ⟨B1, 0, none⟩) 64 64) (fun _ _ hρ _ => r_sliceA ar25 sz23 (by decide) (hρ _ _ rfl)) rfl rfl rfl (w_n rfl) ?_
  refine TL_q (.func (.func 36) #[] #[.pointer (some ⟨B2, 0, none⟩)]) (fun _ _ hρ _ => r_makeFunc (by simp) (map_arr (cons2 (hρ _ _ rfl) rfl))) rfl rfl rfl (w_n rfl) ?_
  refine TL_callH _ _ _ (fun _ _ hρ _ => r_call (args := [.slice (some ⟨B1, 0, none⟩) 64 64, .func (.func 36) #[] #[.pointer (some ⟨B2, 0, none⟩)]]) (enters_of Try.func35 (by kernel_rfl) rfl) (hρ _ _ rfl) ((cons2 (hρ _ _ rfl) (cons2 (hρ _ _ rfl) rfl))) rfl) (fun w hm => many_ht _ l B1 36 #[.pointer (some ⟨B2, 0, none⟩)] (oth l) (fun k => [(900, .blk B1 (.cells (lst C4.cells l) 25)), (901, .blk B2 (.cells #[.int .u8 (lastN l k).r, .int .u8 (lastN l k).g, .int .u8 (lastN l k).b, .int .u8 (lastN l k).a] 23))]) hl (enters_of Try.func36 (by kernel_rfl) rfl) (fun _ => rfl) (fun _ => rfl) (fun k w hk hm => (runs1_ht _ _ B2 _ _ rfl rfl w hm).mono fun _ _ ⟨x, hx, he, hm2⟩ => ⟨x, hx, he, hm2.sub (sub_cons rfl (sub_cons rfl sub_nil))⟩) w (hm.sub (sub_cons rfl (sub_cons rfl sub_nil)))) rfl rfl rfl (w_n rfl) ?_
  intro _ _
  have hnum := num_le (oth l) 64
  refine TL_q (.int .i64 ((1 + (numN (oth l) 64) : Nat) : Int)) (fun _ _ hρ _ => r_as (r_add (hρ _ _ rfl) (hρ _ _ rfl)) (int_as ((wrap64 (by omega) (by omega)).trans (by omega)))) rfl rfl rfl (w_n rfl) ?_
  refine TL_q (.int .i64 ((1 + (numN (oth l) 64) : Nat) : Int)) (fun _ _ hρ _ => r_assign (hρ _ _ rfl)) rfl rfl rfl (w_n rfl) ?_
  refine TL_seq ?_
  refine T_ret' ?_
  refine ret_of rfl (.int .i64 ((1 + (numN (oth l) 64) : Nat) : Int)) (fun tmps w hk hm => res1 rfl (res_tmp (hk 2 _ rfl))) (fun w hm => ?_)
  exact ⟨congrArg (fun z : Nat => Ending.returned (.int .i64 z)) (run_num l 63), hm.ext⟩
end Go.Proofs.Ytmlkifojbjbpcaa
