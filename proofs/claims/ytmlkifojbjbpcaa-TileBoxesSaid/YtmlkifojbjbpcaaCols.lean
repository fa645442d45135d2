/- tile: Colors and its reference. Printed by a program of this seat's prover. -/
import Derived.Test.YtmlkifojbjbpcaaBox
import Derived.Test.YtmlkifojbjbpcaaMap
namespace Go.Proofs.Ytmlkifojbjbpcaa
open Go Go.RowKit
set_option maxRecDepth 10000
theorem mp61 : mapOf Try.prog 61 = some (23, 3) := by kernel_rfl
theorem keyC : KeyOk Try.prog 23 C4.v where
  und := ⟨_, rfl, .inl fun _ _ => rfl⟩
  eq x y w := (run_equalI (l := [(0, .u8), (1, .u8), (2, .u8), (3, .u8)]) (by kernel_rfl) rfl rfl).trans (congrArg (fun b => Result.ok b w) (eqC x y))
  chk b x w := by kernel_rfl
  same x := by
    show ((#[Value.int .u8 x.r, .int .u8 x.g, .int .u8 x.b, .int .u8 x.a].toList.zip [Value.int .u8 x.r, .int .u8 x.g, .int .u8 x.b, .int .u8 x.a]).all fun (x, y) => Instr.sameBits 9999 x y) = true
    simp [Instr.sameBits]
abbrev natV (n : Nat) : Value := .int .i64 n
/-- The colours of the first k, each once. -/
def colsN (l : List C4) : Nat → List C4
  | 0 => []
  | k + 1 => if cntN l (get l k) k = 0 then colsN l k ++ [get l k] else colsN l k
theorem cols_t {l : List C4} {k : Nat} (h : cntN l (get l k) k = 0) : colsN l (k + 1) = colsN l k ++ [get l k] := if_pos h
theorem cols_f {l : List C4} {k : Nat} (h : ¬ cntN l (get l k) k = 0) : colsN l (k + 1) = colsN l k := if_neg h
theorem cols_le (l : List C4) : ∀ k, (colsN l k).length ≤ k
  | 0 => Nat.le_refl _
  | k + 1 => by
    have := cols_le l k
    unfold colsN
    split
    · rw [List.length_append, List.length_singleton]; omega
    · omega
theorem met_step {l : List C4} {k : Nat} {mm : List (C4 × Nat)} (h : ∀ c, getM 0 c mm = cntN l c k) : ∀ c, getM 0 c (putM (get l k) (cntN l (get l k) k + 1) mm) = cntN l c (k + 1) := fun c => by
  rw [get_put]
  by_cases e : c = get l k
  · rw [if_pos e, e, cnt_t rfl]
  · rw [if_neg e, h, cnt_f (fun h2 => e h2.symm)]
theorem flat1 (l : List C4) (c : C4) : l.flatMap C4.cells ++ [.int .u8 c.r, .int .u8 c.g, .int .u8 c.b, .int .u8 c.a] = (l ++ [c]).flatMap C4.cells := by simp [C4.cells]
theorem len1 (l : List C4) (c : C4) : l.length + 1 = (l ++ [c]).length := by simp

theorem colors_c (l : List C4) (w : World) (hl : l.length = 64) : Calls Try.prog 11 #[til l] w fun e w' => ∃ a' cap', e = .returned (.slice a' (colsN l 64).length cap') ∧ Below w.heap.size w w' ∧ w'.ownsRow w.heap.size 23 4 (.slice a' (colsN l 64).length cap') (colsN l 64).length ((colsN l 64).flatMap C4.cells) := by
  refine calls_of_T (l := [.agg (lst C4.cells l)]) 28 Try.func11 rfl rfl rfl ?_
  show T _ _ _ [(0, .agg (lst C4.cells l))] []
  refine T_seq (T_region ?_)
  refine TL_new 1 (.cells (lst C4.cells l) 25) (fun B => .pointer (some ⟨B, 0, none⟩)) (fun _ _ hρ _ => r_box (hρ _ _ rfl) rfl) rfl rfl rfl (w_n rfl) ?_
  intro B1
  refine TL_q (.slice none 0 0) (fun _ _ hρ _ => r_assign (hρ _ _ rfl)) rfl rfl rfl (w_n rfl) ?_
  refine TL_seq ?_
  refine T_seq (T_region ?_)
  refine TL_new 2 ((mapO C4.v natV [])) (fun B => .map (some B)) (fun _ _ _ _ => r_makeMap) rfl rfl rfl (w_n rfl) ?_
  intro B2
  refine TL_q (.map (some B2)) (fun _ _ hρ _ => r_assign (hρ _ _ rfl)) rfl rfl rfl (w_n rfl) ?_
  refine TL_seq ?_
  refine T_seq (T_region ?_)
  refine TL_q (.slice none 0 0) (fun _ _ hρ _ => r_assign (hρ _ _ rfl)) rfl rfl rfl (w_n rfl) ?_
  refine TL_seq ?_
  refine T_seq ?_
  refine T_seq (T_region ?_)
  refine TL_q (.agg (lst C4.cells l)) (fun _ _ hρ hm => r_loadW ag25 sz25 (hρ _ _ rfl) (hm.at 1 rfl) (tsz hl)) rfl rfl rfl (w_n rfl) ?_
  refine TL_q (.int .i64 0) (fun _ _ hρ _ => r_move (hρ _ _ rfl)) rfl rfl rfl (w_n rfl) ?_
  refine TL_seq ?_
  refine T_block ?_
  refine T_mem (_ :: _) (fun _ hm => hm.nilRow 3 23 4) ?_
  refine T_loop (ι := Nat × List (C4 × Nat) × Option Addr × Nat) (fun (z : Nat × List (C4 × Nat) × Option Addr × Nat) => match z with | (k, mm, a, cap) => k ≤ 64 ∧ ∀ c, getM 0 c mm = cntN l c k) (fun (z : Nat × List (C4 × Nat) × Option Addr × Nat) => match z with | (k, mm, a, cap) => [(2, .slice none 0 0), (3, .map (some B2)), (8, .agg (lst C4.cells l)), (9, .int .i64 ((k : Nat) : Int)), (4, .slice a ((colsN l k).length) cap)]) (fun (z : Nat × List (C4 × Nat) × Option Addr × Nat) => match z with | (k, mm, a, cap) => [(1, .blk B1 (.cells (lst C4.cells l) 25)), (2, .blk B2 ((mapO C4.v natV mm))), (3, .row (.slice a ((colsN l k).length) cap) 23 4 ((colsN l k).length) ((colsN l k).flatMap C4.cells))]) (fun (z : Nat × List (C4 × Nat) × Option Addr × Nat) => match z with | (k, mm, a, cap) => 64 - k) (0, [], none, 0) ⟨Nat.zero_le _, fun _ => rfl⟩ (sub_cons rfl (sub_cons rfl (sub_cons rfl (sub_cons rfl (sub_cons rfl sub_nil))))) (sub_cons rfl (sub_cons rfl (sub_cons rfl sub_nil))) ?_
  rintro ⟨k, mm, a, cap⟩ hp
  obtain ⟨hk, hmm⟩ := hp
  have hck := cnt_le l (get l k) k
  have hcl := cols_le l k
  show T _ _ _ [(2, .slice none 0 0), (3, .map (some B2)), (8, .agg (lst C4.cells l)), (9, .int .i64 ((k : Nat) : Int)), (4, .slice a ((colsN l k).length) cap)] [(1, .blk B1 (.cells (lst C4.cells l) 25)), (2, .blk B2 ((mapO C4.v natV mm))), (3, .row (.slice a ((colsN l k).length) cap) 23 4 ((colsN l k).length) ((colsN l k).flatMap C4.cells))]
  refine T_seq (T_region ?_)
  refine TL_q (.bool (decide (((k : Nat) : Int) < 64))) (fun _ _ hρ _ => r_lss (hρ _ _ rfl) (hρ _ _ rfl)) rfl rfl rfl (w_n rfl) ?_
  refine TL_seq ?_
  refine T_seq ?_
  refine T_cond rfl (fun h1 => ?_) (fun h1 => ?_)
  · replace h1 := of_decide_eq_true h1
    refine T_skip' ?_
    refine p_seq ?_
    refine T_seq ?_
    refine T_block ?_
    refine T_seq (T_region ?_)
    refine TL_q (.agg #[.int .u8 ((get l k).r), .int .u8 ((get l k).g), .int .u8 ((get l k).b), .int .u8 ((get l k).a)]) (fun _ _ hρ _ => r_indexLst (f := C4.cells) (i := k) (u := (get l k)) ar25 sz23 ag23 (hρ _ _ rfl) (hρ _ _ rfl) C4.cells_len (by omega) (get_some hl (by omega))) rfl rfl rfl (w_n rfl) ?_
    refine TL_new 4 (.cells #[.int .u8 0, .int .u8 0, .int .u8 0, .int .u8 0] 23) (fun B => .pointer (some ⟨B, 0, none⟩)) (fun _ _ _ _ => r_alloc (v := .agg #[.int .u8 0, .int .u8 0, .int .u8 0, .int .u8 0]) (by kernel_rfl) rfl) rfl rfl rfl (w_n rfl) ?_
    intro B3
    refine TL_store 4 (.cells #[.int .u8 ((get l k).r), .int .u8 ((get l k).g), .int .u8 ((get l k).b), .int .u8 ((get l k).a)] 23) rfl (fun _ _ hρ hm => r_store sz23 (hρ _ _ rfl) (hρ _ _ rfl) (hm.at 4 rfl) rfl rfl rfl rfl) rfl rfl (w_n rfl) ?_
    refine TL_seq ?_
    refine T_seq (T_draw (V := [(0, .map (some B2)), (1, .agg #[.int .u8 ((get l k).r), .int .u8 ((get l k).g), .int .u8 ((get l k).b), .int .u8 ((get l k).a)]), (2, .int .i64 ((cntN l (get l k) k : Nat) : Int)), (3, .int .i64 (((cntN l (get l k) k) + 1 : Nat) : Int))]) [0, 0, 3, 7, 3, 19, 63] [[(3, none)], [(6, none)], [(12, some 0), (13, some 1)], [(14, some 2)], [(12, some 0), (13, some 1)], [(16, some 4)], [(12, some 0), (17, some 5), (15, some 3)]] 80 mixed (by kernel_rfl) ?_)
    refine G_step [0, 1, 2, 3] 4 [] (by kernel_rfl) (allM (all_cons (q_run (.map (some B2)) rfl rfl (wv_n rfl) rfl (fun _ _ hρ _ => r_move (hρ _ _ rfl))) (all_cons (q_run (.agg #[.int .u8 ((get l k).r), .int .u8 ((get l k).g), .int .u8 ((get l k).b), .int .u8 ((get l k).a)]) rfl rfl (wv_n rfl) rfl (fun _ _ hρ hm => r_loadA ag23 sz23 (hρ _ _ rfl) (hm.at 4 rfl) rfl rfl)) (all_cons (q_run (.int .i64 ((cntN l (get l k) k : Nat) : Int)) rfl rfl (wv_n rfl) rfl (fun _ _ hρ hm => r_as (r_lookup (fk := C4.v) (fv := natV) (c := (get l k)) (z := 0) (l := mm) keyC mp61 rfl (hρ _ _ rfl) (hρ _ _ rfl) (hm.at 2 rfl)) (congrArg natV (hmm (get l k))))) (all_cons (q_run (.int .i64 (((cntN l (get l k) k) + 1 : Nat) : Int)) rfl rfl (wv_n rfl) rfl (fun _ _ hρ _ => r_as (r_add (hρ _ _ rfl) (hρ _ _ rfl)) (int_as ((wrap64 (by omega) (by omega)).trans (by omega))))) all_nil))))) (allM (all_cons ?_ all_nil))
    refine LOb_upd 2 (.tuple #[(natV (getM 0 (get l k) mm)), .int .i64 ((idxM (get l k) mm : Nat) : Int)]) ((mapO C4.v natV (entM 0 (get l k) mm))) [(5, .int .i64 ((idxM (get l k) mm : Nat) : Int))] rfl (wv_n rfl) rfl rfl rfl (fun _ _ hρ hm => r_mapEntry (fk := C4.v) (fv := natV) (c := (get l k)) (z := 0) (l := mm) keyC mp61 rfl (hρ _ _ rfl) (hρ _ _ rfl) (hm.at 2 rfl)) (by kernel_rfl) ?_
    refine G_step [2, 3, 5] 6 [] (by kernel_rfl) (allM (all_cons (q_run (.int .i64 ((cntN l (get l k) k : Nat) : Int)) rfl rfl (wv_n rfl) rfl (fun _ _ hρ hm => r_as (r_lookup (fk := C4.v) (fv := natV) (c := (get l k)) (z := 0) (l := (entM 0 (get l k) mm)) keyC mp61 rfl (hρ _ _ rfl) (hρ _ _ rfl) (hm.at 2 rfl)) (congrArg natV ((get_ent _ _ _ _).trans (hmm (get l k)))))) (all_cons (q_run (.int .i64 (((cntN l (get l k) k) + 1 : Nat) : Int)) rfl rfl (wv_n rfl) rfl (fun _ _ hρ _ => r_as (r_add (hρ _ _ rfl) (hρ _ _ rfl)) (int_as ((wrap64 (by omega) (by omega)).trans (by omega))))) (all_cons (q_run (.int .i64 ((idxM (get l k) mm : Nat) : Int)) rfl rfl (wv_n rfl) rfl (fun _ _ hρ _ => r_extract (hρ _ _ rfl) rfl)) all_nil)))) (allM (all_cons ?_ all_nil))
    refine LOb_store 2 ((mapO C4.v natV (putM (get l k) ((cntN l (get l k) k) + 1) mm))) [] rfl (wv_n rfl) rfl rfl rfl (fun _ _ hρ hm => r_entryPut (fk := C4.v) (fv := natV) (c := (get l k)) (z := 0) (u := ((cntN l (get l k) k) + 1)) (l := mm) (hρ _ _ rfl) (hρ _ _ rfl) (hρ _ _ rfl) (hm.at 2 rfl)) (by kernel_rfl) ?_
    refine G_last [] [(2, .slice none 0 0), (3, .map (some B2)), (8, .agg (lst C4.cells l)), (9, .int .i64 ((k : Nat) : Int)), (4, .slice a ((colsN l k).length) cap), (10, .bool (decide (((k : Nat) : Int) < 64))), (11, .agg #[.int .u8 ((get l k).r), .int .u8 ((get l k).g), .int .u8 ((get l k).b), .int .u8 ((get l k).a)]), (6, .pointer (some ⟨B3, 0, none⟩)), (12, .map (some B2)), (13, .agg #[.int .u8 ((get l k).r), .int .u8 ((get l k).g), .int .u8 ((get l k).b), .int .u8 ((get l k).a)]), (14, .int .i64 ((cntN l (get l k) k : Nat) : Int)), (15, .int .i64 (((cntN l (get l k) k) + 1 : Nat) : Int)), (16, .tuple #[(natV (getM 0 (get l k) mm)), .int .i64 ((idxM (get l k) mm : Nat) : Int)]), (17, .int .i64 ((idxM (get l k) mm : Nat) : Int))] (by kernel_rfl) (allM all_nil) (end_old rfl rfl (end_old rfl rfl (end_old rfl rfl (end_old rfl rfl (end_old rfl rfl (end_old rfl rfl (end_old rfl rfl (end_old rfl rfl (end_new 0 rfl rfl (end_new 1 rfl rfl (end_new 2 rfl rfl (end_new 3 rfl rfl (end_new 4 rfl rfl (end_new 5 rfl rfl end_nil)))))))))))))) ?_
    refine T_seq (T_region ?_)
    refine TL_q (.map (some B2)) (fun _ _ hρ _ => r_move (hρ _ _ rfl)) rfl rfl rfl (w_n rfl) ?_
    refine TL_q (.agg #[.int .u8 ((get l k).r), .int .u8 ((get l k).g), .int .u8 ((get l k).b), .int .u8 ((get l k).a)]) (fun _ _ hρ hm => r_loadA ag23 sz23 (hρ _ _ rfl) (hm.at 4 rfl) rfl rfl) rfl rfl rfl (w_n rfl) ?_
    refine TL_q (.int .i64 (((cntN l (get l k) k) + 1 : Nat) : Int)) (fun _ _ hρ hm => r_as (r_lookup (fk := C4.v) (fv := natV) (c := (get l k)) (z := 0) (l := (putM (get l k) ((cntN l (get l k) k) + 1) mm)) keyC mp61 rfl (hρ _ _ rfl) (hρ _ _ rfl) (hm.at 2 rfl)) (congrArg natV ((get_put _ _ _ _ _).trans (if_pos rfl)))) rfl rfl rfl (w_n rfl) ?_
    refine TL_q (.bool (decide ((((cntN l (get l k) k) + 1 : Nat) : Int) = 1))) (fun _ _ hρ _ => r_eql (hρ _ _ rfl) (hρ _ _ rfl)) rfl rfl rfl (w_n rfl) ?_
    refine TL_seq ?_
    refine T_cond rfl (fun h2 => ?_) (fun h2 => ?_)
    · replace h2 := of_decide_eq_true h2
      refine T_region ?_
      refine TL_q (.slice a ((colsN l k).length) cap) (fun _ _ hρ _ => r_move (hρ _ _ rfl)) rfl rfl rfl (w_n rfl) ?_
      refine TL_q (.agg #[.int .u8 ((get l k).r), .int .u8 ((get l k).g), .int .u8 ((get l k).b), .int .u8 ((get l k).a)]) (fun _ _ hρ hm => r_loadA ag23 sz23 (hρ _ _ rfl) (hm.at 4 rfl) rfl rfl) rfl rfl rfl (w_n rfl) ?_
      refine TL_new 5 (.cells #[.int .u8 ((get l k).r), .int .u8 ((get l k).g), .int .u8 ((get l k).b), .int .u8 ((get l k).a)] 23) (fun B => .slice (some ⟨B, 0, none⟩) 1 1) (fun _ _ hρ _ => r_buildSlice (vs := [(0, .agg #[.int .u8 ((get l k).r), .int .u8 ((get l k).g), .int .u8 ((get l k).b), .int .u8 ((get l k).a)])]) (by kernel_rfl) (cons2 (pair2 (hρ _ _ rfl)) rfl)) rfl rfl rfl (w_n rfl) ?_
      intro B4
      refine TL_append (n := (colsN l k).length) (m := 1) (xs := ((colsN l k).flatMap C4.cells)) (news := [.int .u8 ((get l k).r), .int .u8 ((get l k).g), .int .u8 ((get l k).b), .int .u8 ((get l k).a)]) (z := .agg #[.int .u8 0, .int .u8 0, .int .u8 0, .int .u8 0]) 3 rfl rfl rfl sl26 sz23 by23 (by kernel_rfl) rfl rfl (.inl rfl) (fun _ hm => src_blk (news := [.int .u8 ((get l k).r), .int .u8 ((get l k).g), .int .u8 ((get l k).b), .int .u8 ((get l k).a)]) (hm.at 5 rfl) rfl) (by simp [Value.oneCell']) (by omega) (by omega) rfl (w_n rfl) ?_
      intro a5 cap5
      refine TL_q (.slice a5 ((colsN l k).length + 1) cap5) (fun _ _ hρ _ => r_assign (hρ _ _ rfl)) rfl rfl rfl (w_n rfl) ?_
      refine TL_nil ?_
      refine p_blk_n ?_
      refine p_seq ?_
      refine T_region ?_
      refine TL_q (.int .i64 ((k + 1 : Nat) : Int)) (fun _ _ hρ _ => r_as (r_add (hρ _ _ rfl) (hρ _ _ rfl)) (int_as ((wrap64 (by omega) (by omega)).trans (by omega)))) rfl rfl rfl (w_n rfl) ?_
      refine TL_q (.int .i64 ((k + 1 : Nat) : Int)) (fun _ _ hρ _ => r_move (hρ _ _ rfl)) rfl rfl rfl (w_n rfl) ?_
      refine TL_nil ?_
      rw [flat1, len1, ← cols_t (by omega)]
      exact p_at (k + 1, putM (get l k) ((cntN l (get l k) k) + 1) mm, a5, cap5) ⟨⟨by omega, met_step hmm⟩, by dsimp only; omega⟩ (sub_cons rfl (sub_cons rfl (sub_cons rfl (sub_cons rfl (sub_cons rfl sub_nil))))) (sub_cons rfl (sub_cons rfl (sub_cons rfl sub_nil)))
    · replace h2 := of_decide_eq_false h2
      refine T_skip' ?_
      refine p_blk_n ?_
      refine p_seq ?_
      refine T_region ?_
      refine TL_q (.int .i64 ((k + 1 : Nat) : Int)) (fun _ _ hρ _ => r_as (r_add (hρ _ _ rfl) (hρ _ _ rfl)) (int_as ((wrap64 (by omega) (by omega)).trans (by omega)))) rfl rfl rfl (w_n rfl) ?_
      refine TL_q (.int .i64 ((k + 1 : Nat) : Int)) (fun _ _ hρ _ => r_move (hρ _ _ rfl)) rfl rfl rfl (w_n rfl) ?_
      refine TL_nil ?_
      rw [show colsN l k = colsN l (k + 1) from (cols_f (by omega)).symm]
      exact p_at (k + 1, putM (get l k) ((cntN l (get l k) k) + 1) mm, a, cap) ⟨⟨by omega, met_step hmm⟩, by dsimp only; omega⟩ (sub_cons rfl (sub_cons rfl (sub_cons rfl (sub_cons rfl (sub_cons rfl sub_nil))))) (sub_cons rfl (sub_cons rfl (sub_cons rfl sub_nil)))
  · replace h1 := of_decide_eq_false h1
    refine T_exit' ?_
    refine p_then_x ?_
    refine p_then_x ?_
    refine p_blk_x ?_
    refine p_seq ?_
    refine T_seq (T_region ?_)
    refine TL_q (.slice a ((colsN l k).length) cap) (fun _ _ hρ _ => r_move (hρ _ _ rfl)) rfl rfl rfl (w_n rfl) ?_
    refine TL_q (.slice a ((colsN l k).length) cap) (fun _ _ hρ _ => r_assign (hρ _ _ rfl)) rfl rfl rfl (w_n rfl) ?_
    refine TL_seq ?_
    refine T_ret' ?_
    refine ret_of rfl (.slice a ((colsN l k).length) cap) (fun tmps w hk hm => res1 rfl (res_tmp (hk 2 _ rfl))) (fun w hm => ?_)
    have hk64 : k = 64 := by omega
    subst hk64
    exact ⟨a, cap, rfl, hm.ext, hm.row 3 rfl⟩

theorem colors_ref (l : List C4) (w : World) (hl : l.length = 64) : Calls Try.prog 12 #[til l] w fun e w' => ∃ a' cap', e = .returned (.slice a' (colsN l 64).length cap') ∧ Below w.heap.size w w' ∧ w'.ownsRow w.heap.size 23 4 (.slice a' (colsN l 64).length cap') (colsN l 64).length ((colsN l 64).flatMap C4.cells) := by
  refine calls_of_T (l := [.agg (lst C4.cells l)]) 32 Try.func12 rfl rfl rfl ?_
  show T _ _ _ [(0, .agg (lst C4.cells l))] []
  refine T_seq (T_region ?_)
  refine TL_new 1 (.cells (lst C4.cells l) 25) (fun B => .pointer (some ⟨B, 0, none⟩)) (fun _ _ hρ _ => r_box (hρ _ _ rfl) rfl) rfl rfl rfl (w_n rfl) ?_
  intro B1
  refine TL_q (.slice none 0 0) (fun _ _ hρ _ => r_assign (hρ _ _ rfl)) rfl rfl rfl (w_n rfl) ?_
  refine TL_seq ?_
  refine T_seq (T_region ?_)
  refine TL_q (.slice none 0 0) (fun _ _ hρ _ => r_assign (hρ _ _ rfl)) rfl rfl rfl (w_n rfl) ?_
  refine TL_seq ?_
  refine T_seq ?_
  refine T_seq (T_region ?_)
  refine TL_q (.agg (lst C4.cells l)) (fun _ _ hρ hm => r_loadW ag25 sz25 (hρ _ _ rfl) (hm.at 1 rfl) (tsz hl)) rfl rfl rfl (w_n rfl) ?_
  refine TL_q (.int .i64 0) (fun _ _ hρ _ => r_move (hρ _ _ rfl)) rfl rfl rfl (w_n rfl) ?_
  refine TL_seq ?_
  refine T_block ?_
  refine T_mem (_ :: _) (fun _ hm => hm.nilRow 2 23 4) ?_
  refine T_loop (ι := Nat × Option Addr × Nat) (fun (z : Nat × Option Addr × Nat) => match z with | (k, a, cap) => k ≤ 64) (fun (z : Nat × Option Addr × Nat) => match z with | (k, a, cap) => [(1, .pointer (some ⟨B1, 0, none⟩)), (2, .slice none 0 0), (9, .agg (lst C4.cells l)), (10, .int .i64 ((k : Nat) : Int)), (3, .slice a ((colsN l k).length) cap)]) (fun (z : Nat × Option Addr × Nat) => match z with | (k, a, cap) => [(1, .blk B1 (.cells (lst C4.cells l) 25)), (2, .row (.slice a ((colsN l k).length) cap) 23 4 ((colsN l k).length) ((colsN l k).flatMap C4.cells))]) (fun (z : Nat × Option Addr × Nat) => match z with | (k, a, cap) => 64 - k) (0, none, 0) (Nat.zero_le _) (sub_cons rfl (sub_cons rfl (sub_cons rfl (sub_cons rfl (sub_cons rfl sub_nil))))) (sub_cons rfl (sub_cons rfl sub_nil)) ?_
  rintro ⟨k, a, cap⟩ hp
  have hcl := cols_le l k
  show T _ _ _ [(1, .pointer (some ⟨B1, 0, none⟩)), (2, .slice none 0 0), (9, .agg (lst C4.cells l)), (10, .int .i64 ((k : Nat) : Int)), (3, .slice a ((colsN l k).length) cap)] [(1, .blk B1 (.cells (lst C4.cells l) 25)), (2, .row (.slice a ((colsN l k).length) cap) 23 4 ((colsN l k).length) ((colsN l k).flatMap C4.cells))]
  refine T_seq (T_region ?_)
  refine TL_q (.bool (decide (((k : Nat) : Int) < 64))) (fun _ _ hρ _ => r_lss (hρ _ _ rfl) (hρ _ _ rfl)) rfl rfl rfl (w_n rfl) ?_
  refine TL_seq ?_
  refine T_seq ?_
  refine T_cond rfl (fun h1 => ?_) (fun h1 => ?_)
  · replace h1 := of_decide_eq_true h1
    refine T_skip' ?_
    refine p_seq ?_
    refine T_seq ?_
    refine T_block ?_
    refine T_seq (T_region ?_)
    refine TL_q (.int .i64 ((k : Nat) : Int)) (fun _ _ hρ _ => r_move (hρ _ _ rfl)) rfl rfl rfl (w_n rfl) ?_
    refine TL_q (.agg #[.int .u8 ((get l k).r), .int .u8 ((get l k).g), .int .u8 ((get l k).b), .int .u8 ((get l k).a)]) (fun _ _ hρ _ => r_indexLst (f := C4.cells) (i := k) (u := (get l k)) ar25 sz23 ag23 (hρ _ _ rfl) (hρ _ _ rfl) C4.cells_len (by omega) (get_some hl (by omega))) rfl rfl rfl (w_n rfl) ?_
    refine TL_new 3 (.cells #[.int .u8 0, .int .u8 0, .int .u8 0, .int .u8 0] 23) (fun B => .pointer (some ⟨B, 0, none⟩)) (fun _ _ _ _ => r_alloc (v := .agg #[.int .u8 0, .int .u8 0, .int .u8 0, .int .u8 0]) (by kernel_rfl) rfl) rfl rfl rfl (w_n rfl) ?_
    intro B2
    refine TL_q (.int .i64 ((k : Nat) : Int)) (fun _ _ hρ _ => r_assign (hρ _ _ rfl)) rfl rfl rfl (w_n rfl) ?_
    refine TL_store 3 (.cells #[.int .u8 ((get l k).r), .int .u8 ((get l k).g), .int .u8 ((get l k).b), .int .u8 ((get l k).a)] 23) rfl (fun _ _ hρ hm => r_store sz23 (hρ _ _ rfl) (hρ _ _ rfl) (hm.at 3 rfl) rfl rfl rfl rfl) rfl rfl (w_n rfl) ?_
    refine TL_seq ?_
    refine T_seq (T_region ?_)
    refine TL_q (.bool true) (fun _ _ hρ _ => r_assign (hρ _ _ rfl)) rfl rfl rfl (w_n rfl) ?_
    refine TL_seq ?_
    refine T_seq ?_
    refine T_seq (T_region ?_)
    refine TL_q (.int .i64 ((k : Nat) : Int)) (fun _ _ hρ _ => r_move (hρ _ _ rfl)) rfl rfl rfl (w_n rfl) ?_
    refine TL_q (.slice (some ⟨B1, 0, none⟩) k 64) (fun _ _ hρ _ => r_sliceH ar25 sz23 (by decide) (hρ _ _ rfl) (hρ _ _ rfl) (by omega)) rfl rfl rfl (w_n rfl) ?_
    refine TL_q (.int .i64 ((k : Nat) : Int)) (fun _ _ hρ _ => r_len sl26 (hρ _ _ rfl)) rfl rfl rfl (w_n rfl) ?_
    refine TL_q (.int .i64 0) (fun _ _ hρ _ => r_move (hρ _ _ rfl)) rfl rfl rfl (w_n rfl) ?_
    refine TL_seq ?_
    refine T_block ?_
    refine T_loop (ι := Nat) (fun (j : Nat) => j ≤ k) (fun (j : Nat) => [(1, .pointer (some ⟨B1, 0, none⟩)), (2, .slice none 0 0), (9, .agg (lst C4.cells l)), (10, .int .i64 ((k : Nat) : Int)), (3, .slice a ((colsN l k).length) cap), (11, .bool (decide (((k : Nat) : Int) < 64))), (12, .int .i64 ((k : Nat) : Int)), (13, .agg #[.int .u8 ((get l k).r), .int .u8 ((get l k).g), .int .u8 ((get l k).b), .int .u8 ((get l k).a)]), (5, .pointer (some ⟨B2, 0, none⟩)), (4, .int .i64 ((k : Nat) : Int)), (14, .int .i64 ((k : Nat) : Int)), (15, .slice (some ⟨B1, 0, none⟩) k 64), (16, .int .i64 ((k : Nat) : Int)), (17, .int .i64 ((j : Nat) : Int)), (6, .bool (decide (cntN l (get l k) j = 0)))]) (fun (j : Nat) => [(1, .blk B1 (.cells (lst C4.cells l) 25)), (2, .row (.slice a ((colsN l k).length) cap) 23 4 ((colsN l k).length) ((colsN l k).flatMap C4.cells)), (3, .blk B2 (.cells #[.int .u8 ((get l k).r), .int .u8 ((get l k).g), .int .u8 ((get l k).b), .int .u8 ((get l k).a)] 23))]) (fun (j : Nat) => k - j) 0 (Nat.zero_le _) (sub_cons rfl (sub_cons rfl (sub_cons rfl (sub_cons rfl (sub_cons rfl (sub_cons rfl (sub_cons rfl (sub_cons rfl (sub_cons rfl (sub_cons rfl (sub_cons rfl (sub_cons rfl (sub_cons rfl (sub_cons rfl (sub_cons rfl sub_nil))))))))))))))) (sub_cons rfl (sub_cons rfl (sub_cons rfl sub_nil))) ?_
    rintro j hp
    show T _ _ _ [(1, .pointer (some ⟨B1, 0, none⟩)), (2, .slice none 0 0), (9, .agg (lst C4.cells l)), (10, .int .i64 ((k : Nat) : Int)), (3, .slice a ((colsN l k).length) cap), (11, .bool (decide (((k : Nat) : Int) < 64))), (12, .int .i64 ((k : Nat) : Int)), (13, .agg #[.int .u8 ((get l k).r), .int .u8 ((get l k).g), .int .u8 ((get l k).b), .int .u8 ((get l k).a)]), (5, .pointer (some ⟨B2, 0, none⟩)), (4, .int .i64 ((k : Nat) : Int)), (14, .int .i64 ((k : Nat) : Int)), (15, .slice (some ⟨B1, 0, none⟩) k 64), (16, .int .i64 ((k : Nat) : Int)), (17, .int .i64 ((j : Nat) : Int)), (6, .bool (decide (cntN l (get l k) j = 0)))] [(1, .blk B1 (.cells (lst C4.cells l) 25)), (2, .row (.slice a ((colsN l k).length) cap) 23 4 ((colsN l k).length) ((colsN l k).flatMap C4.cells)), (3, .blk B2 (.cells #[.int .u8 ((get l k).r), .int .u8 ((get l k).g), .int .u8 ((get l k).b), .int .u8 ((get l k).a)] 23))]
    refine T_seq (T_region ?_)
    refine TL_q (.bool (decide (((j : Nat) : Int) < ((k : Nat) : Int)))) (fun _ _ hρ _ => r_lss (hρ _ _ rfl) (hρ _ _ rfl)) rfl rfl rfl (w_n rfl) ?_
    refine TL_seq ?_
    refine T_seq ?_
    refine T_cond rfl (fun h2 => ?_) (fun h2 => ?_)
    · replace h2 := of_decide_eq_true h2
      refine T_skip' ?_
      refine p_seq ?_
      refine T_seq ?_
      refine T_block ?_
      refine T_seq (T_region ?_)
      refine TL_q (.pointer (some ⟨B1, 0 + j * 4, none⟩)) (fun _ _ hρ _ => r_indexAddrS (i := j) sl26 sz23 (hρ _ _ rfl) (hρ _ _ rfl) (by omega)) rfl rfl rfl (w_n rfl) ?_
      refine TL_q (.agg #[.int .u8 ((get l j).r), .int .u8 ((get l j).g), .int .u8 ((get l j).b), .int .u8 ((get l j).a)]) (fun _ _ hρ hm => r_loadRow (f := C4.cells) (u := (get l j)) ag23 sz23 (hρ _ _ rfl) (hm.at 1 rfl) (row_lst C4.cells_len _) (get_some hl (by omega))) rfl rfl rfl (w_n rfl) ?_
      refine TL_new 4 (.cells #[.int .u8 0, .int .u8 0, .int .u8 0, .int .u8 0] 23) (fun B => .pointer (some ⟨B, 0, none⟩)) (fun _ _ _ _ => r_alloc (v := .agg #[.int .u8 0, .int .u8 0, .int .u8 0, .int .u8 0]) (by kernel_rfl) rfl) rfl rfl rfl (w_n rfl) ?_
      intro B3
      refine TL_store 4 (.cells #[.int .u8 ((get l j).r), .int .u8 ((get l j).g), .int .u8 ((get l j).b), .int .u8 ((get l j).a)] 23) rfl (fun _ _ hρ hm => r_store sz23 (hρ _ _ rfl) (hρ _ _ rfl) (hm.at 4 rfl) rfl rfl rfl rfl) rfl rfl (w_n rfl) ?_
      refine TL_seq ?_
      refine T_seq (T_region ?_)
      refine TL_q (.agg #[.int .u8 ((get l j).r), .int .u8 ((get l j).g), .int .u8 ((get l j).b), .int .u8 ((get l j).a)]) (fun _ _ hρ hm => r_loadA ag23 sz23 (hρ _ _ rfl) (hm.at 4 rfl) rfl rfl) rfl rfl rfl (w_n rfl) ?_
      refine TL_q (.agg #[.int .u8 ((get l k).r), .int .u8 ((get l k).g), .int .u8 ((get l k).b), .int .u8 ((get l k).a)]) (fun _ _ hρ hm => r_loadA ag23 sz23 (hρ _ _ rfl) (hm.at 3 rfl) rfl rfl) rfl rfl rfl (w_n rfl) ?_
      refine TL_q (.bool (decide ((get l j) = (get l k)))) (fun _ _ hρ _ => r_as (r_eqlA (by kernel_rfl) (hρ _ _ rfl) (hρ _ _ rfl) (run_equalI (l := [(0, .u8), (1, .u8), (2, .u8), (3, .u8)]) (by kernel_rfl) rfl rfl)) (bool_as (eqC (get l j) (get l k)))) rfl rfl rfl (w_n rfl) ?_
      refine TL_seq ?_
      refine T_cond rfl (fun h3 => ?_) (fun h3 => ?_)
      · replace h3 := of_decide_eq_true h3
        refine T_region ?_
        refine TL_q (.bool false) (fun _ _ hρ _ => r_assign (hρ _ _ rfl)) rfl rfl rfl (w_n rfl) ?_
        refine TL_nil ?_
        refine p_blk_n ?_
        refine p_seq ?_
        refine T_region ?_
        refine TL_q (.int .i64 ((j + 1 : Nat) : Int)) (fun _ _ hρ _ => r_as (r_add (hρ _ _ rfl) (hρ _ _ rfl)) (int_as ((wrap64 (by omega) (by omega)).trans (by omega)))) rfl rfl rfl (w_n rfl) ?_
        refine TL_q (.int .i64 ((j + 1 : Nat) : Int)) (fun _ _ hρ _ => r_move (hρ _ _ rfl)) rfl rfl rfl (w_n rfl) ?_
        refine TL_nil ?_
        exact p_at (j + 1) ⟨by omega, by omega⟩ (sub_cons rfl (sub_cons rfl (sub_cons rfl (sub_cons rfl (sub_cons rfl (sub_cons rfl (sub_cons rfl (sub_cons rfl (sub_cons rfl (sub_cons rfl (sub_cons rfl (sub_cons rfl (sub_cons rfl (sub_cons rfl (sub_cons (congrArg (fun z : Bool => some (Value.bool z)) (decide_eq_false (by rw [cnt_t h3]; omega)).symm) sub_nil))))))))))))))) (sub_cons rfl (sub_cons rfl (sub_cons rfl sub_nil)))
      · replace h3 := of_decide_eq_false h3
        refine T_skip' ?_
        refine p_blk_n ?_
        refine p_seq ?_
        refine T_region ?_
        refine TL_q (.int .i64 ((j + 1 : Nat) : Int)) (fun _ _ hρ _ => r_as (r_add (hρ _ _ rfl) (hρ _ _ rfl)) (int_as ((wrap64 (by omega) (by omega)).trans (by omega)))) rfl rfl rfl (w_n rfl) ?_
        refine TL_q (.int .i64 ((j + 1 : Nat) : Int)) (fun _ _ hρ _ => r_move (hρ _ _ rfl)) rfl rfl rfl (w_n rfl) ?_
        refine TL_nil ?_
        exact p_at (j + 1) ⟨by omega, by omega⟩ (sub_cons rfl (sub_cons rfl (sub_cons rfl (sub_cons rfl (sub_cons rfl (sub_cons rfl (sub_cons rfl (sub_cons rfl (sub_cons rfl (sub_cons rfl (sub_cons rfl (sub_cons rfl (sub_cons rfl (sub_cons rfl (sub_cons (congrArg (fun z : Nat => some (Value.bool (decide (z = 0)))) (cnt_f h3).symm) sub_nil))))))))))))))) (sub_cons rfl (sub_cons rfl (sub_cons rfl sub_nil)))
    · replace h2 := of_decide_eq_false h2
      refine T_exit' ?_
      refine p_then_x ?_
      refine p_then_x ?_
      refine p_blk_x ?_
      refine p_seq ?_
      have hjk : j = k := by omega
      rw [hjk]
      refine T_seq (T_region ?_)
      refine TL_q (.bool (decide (cntN l (get l k) k = 0))) (fun _ _ hρ _ => r_move (hρ _ _ rfl)) rfl rfl rfl (w_n rfl) ?_
      refine TL_seq ?_
      refine T_cond rfl (fun h4 => ?_) (fun h4 => ?_)
      · replace h4 := of_decide_eq_true h4
        refine T_region ?_
        refine TL_q (.slice a ((colsN l k).length) cap) (fun _ _ hρ _ => r_move (hρ _ _ rfl)) rfl rfl rfl (w_n rfl) ?_
        refine TL_q (.agg #[.int .u8 ((get l k).r), .int .u8 ((get l k).g), .int .u8 ((get l k).b), .int .u8 ((get l k).a)]) (fun _ _ hρ hm => r_loadA ag23 sz23 (hρ _ _ rfl) (hm.at 3 rfl) rfl rfl) rfl rfl rfl (w_n rfl) ?_
        refine TL_new 5 (.cells #[.int .u8 ((get l k).r), .int .u8 ((get l k).g), .int .u8 ((get l k).b), .int .u8 ((get l k).a)] 23) (fun B => .slice (some ⟨B, 0, none⟩) 1 1) (fun _ _ hρ _ => r_buildSlice (vs := [(0, .agg #[.int .u8 ((get l k).r), .int .u8 ((get l k).g), .int .u8 ((get l k).b), .int .u8 ((get l k).a)])]) (by kernel_rfl) (cons2 (pair2 (hρ _ _ rfl)) rfl)) rfl rfl rfl (w_n rfl) ?_
        intro B4
        refine TL_append (n := (colsN l k).length) (m := 1) (xs := ((colsN l k).flatMap C4.cells)) (news := [.int .u8 ((get l k).r), .int .u8 ((get l k).g), .int .u8 ((get l k).b), .int .u8 ((get l k).a)]) (z := .agg #[.int .u8 0, .int .u8 0, .int .u8 0, .int .u8 0]) 2 rfl rfl rfl sl26 sz23 by23 (by kernel_rfl) rfl rfl (.inl rfl) (fun _ hm => src_blk (news := [.int .u8 ((get l k).r), .int .u8 ((get l k).g), .int .u8 ((get l k).b), .int .u8 ((get l k).a)]) (hm.at 5 rfl) rfl) (by simp [Value.oneCell']) (by omega) (by omega) rfl (w_n rfl) ?_
        intro a5 cap5
        refine TL_q (.slice a5 ((colsN l k).length + 1) cap5) (fun _ _ hρ _ => r_assign (hρ _ _ rfl)) rfl rfl rfl (w_n rfl) ?_
        refine TL_nil ?_
        refine p_blk_n ?_
        refine p_seq ?_
        refine T_region ?_
        refine TL_q (.int .i64 ((k + 1 : Nat) : Int)) (fun _ _ hρ _ => r_as (r_add (hρ _ _ rfl) (hρ _ _ rfl)) (int_as ((wrap64 (by omega) (by omega)).trans (by omega)))) rfl rfl rfl (w_n rfl) ?_
        refine TL_q (.int .i64 ((k + 1 : Nat) : Int)) (fun _ _ hρ _ => r_move (hρ _ _ rfl)) rfl rfl rfl (w_n rfl) ?_
        refine TL_nil ?_
        rw [flat1, len1, ← cols_t h4]
        exact p_at (k + 1, a5, cap5) ⟨by omega, by dsimp only; omega⟩ (sub_cons rfl (sub_cons rfl (sub_cons rfl (sub_cons rfl (sub_cons rfl sub_nil))))) (sub_cons rfl (sub_cons rfl sub_nil))
      · replace h4 := of_decide_eq_false h4
        refine T_skip' ?_
        refine p_blk_n ?_
        refine p_seq ?_
        refine T_region ?_
        refine TL_q (.int .i64 ((k + 1 : Nat) : Int)) (fun _ _ hρ _ => r_as (r_add (hρ _ _ rfl) (hρ _ _ rfl)) (int_as ((wrap64 (by omega) (by omega)).trans (by omega)))) rfl rfl rfl (w_n rfl) ?_
        refine TL_q (.int .i64 ((k + 1 : Nat) : Int)) (fun _ _ hρ _ => r_move (hρ _ _ rfl)) rfl rfl rfl (w_n rfl) ?_
        refine TL_nil ?_
        rw [show colsN l k = colsN l (k + 1) from (cols_f h4).symm]
        exact p_at (k + 1, a, cap) ⟨by omega, by dsimp only; omega⟩ (sub_cons rfl (sub_cons rfl (sub_cons rfl (sub_cons rfl (sub_cons rfl sub_nil))))) (sub_cons rfl (sub_cons rfl sub_nil))
  · replace h1 := of_decide_eq_false h1
    refine T_exit' ?_
    refine p_then_x ?_
    refine p_then_x ?_
    refine p_blk_x ?_
    refine p_seq ?_
    refine T_seq (T_region ?_)
    refine TL_q (.slice a ((colsN l k).length) cap) (fun _ _ hρ _ => r_move (hρ _ _ rfl)) rfl rfl rfl (w_n rfl) ?_
    refine TL_q (.slice a ((colsN l k).length) cap) (fun _ _ hρ _ => r_assign (hρ _ _ rfl)) rfl rfl rfl (w_n rfl) ?_
    refine TL_seq ?_
    refine T_ret' ?_
    refine ret_of rfl (.slice a ((colsN l k).length) cap) (fun tmps w hk hm => res1 rfl (res_tmp (hk 2 _ rfl))) (fun w hm => ?_)
    have hk64 : k = 64 := by omega
    subst hk64
    exact ⟨a, cap, rfl, hm.ext, hm.row 2 rfl⟩
end Go.Proofs.Ytmlkifojbjbpcaa
