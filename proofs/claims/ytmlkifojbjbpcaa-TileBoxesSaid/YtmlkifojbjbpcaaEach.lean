/- tile: the iterator over the points. Printed by a program of this seat's prover. -/
import Derived.Test.YtmlkifojbjbpcaaRef
namespace Go.Proofs.Ytmlkifojbjbpcaa
open Go Go.RowKit
set_option maxRecDepth 10000
def pts : List (Int × Int) := (List.range 64).map fun k => (((k % 8 : Nat) : Int), ((k / 8 : Nat) : Int))
theorem pts_at {x y : Nat} (hx : x < 8) (hy : y < 8) : pts[8 * y + x]? = some (((x : Nat) : Int), ((y : Nat) : Int)) := by
  unfold pts
  rw [List.getElem?_map, List.getElem?_range (by omega)]
  show some (((((8 * y + x) % 8 : Nat)) : Int), (((8 * y + x) / 8 : Nat) : Int)) = _
  rw [show (8 * y + x) % 8 = x by omega, show (8 * y + x) / 8 = y by omega]
abbrev encP (x : Int × Int) : List Value := [.int .i64 x.1, .int .i64 x.2]
theorem each_iter {ι : Type} (w₀ : World) (p : Nat → ι → Prop) (LJ : Nat → ι → Heap) : IterAt Try.prog w₀ 47 #[] encP pts p LJ := by
  intro l κ pX LX hY i₀ W hp0 hm0
  rw [Array.append_empty]
  refine ht_of_T (l := [.func (.yield l) #[] #[]]) (L := LJ 0 i₀) 17 Try.func47 rfl rfl rfl ?_ W hm0
  show T _ _ _ [(0, .func (.yield l) #[] #[])] (LJ 0 i₀)
  refine T_scope ?_
  refine T_label ?_
  refine T_seq (T_region ?_)
  refine TL_q (.int .i64 0) (fun _ _ hρ _ => r_move (hρ _ _ rfl)) rfl rfl rfl (w_n rfl) ?_
  refine TL_seq ?_
  refine T_block ?_
  refine T_loopE (ι := Nat × ι) (fun (z : Nat × ι) => match z with | (y, i) => y ≤ 8 ∧ p (8 * y) i) (fun (z : Nat × ι) => match z with | (y, i) => [(0, .func (.yield l) #[] #[]), (4, .int .i64 ((y : Nat) : Int))]) (fun (z : Nat × ι) => match z with | (y, i) => (LJ (8 * y) i)) (fun (z : Nat × ι) => match z with | (y, i) => 8 - y) (0, i₀) ⟨Nat.zero_le _, hp0⟩ (sub_cons rfl (sub_cons rfl sub_nil)) rfl ?_
  rintro ⟨y, i⟩ hp
  obtain ⟨hy, hpi⟩ := hp
  show T _ _ _ [(0, .func (.yield l) #[] #[]), (4, .int .i64 ((y : Nat) : Int))] (LJ (8 * y) i)
  refine T_seq (T_region ?_)
  refine TL_q (.bool (decide (((y : Nat) : Int) < 8))) (fun _ _ hρ _ => r_lss (hρ _ _ rfl) (hρ _ _ rfl)) rfl rfl rfl (w_n rfl) ?_
  refine TL_seq ?_
  refine T_seq ?_
  refine T_cond rfl (fun h1 => ?_) (fun h1 => ?_)
  · replace h1 := of_decide_eq_true h1
    refine T_skip' ?_
    refine p_seq ?_
    refine T_seq ?_
    refine T_block ?_
    refine T_seq (T_region ?_)
    refine TL_q (.int .i64 ((y : Nat) : Int)) (fun _ _ hρ _ => r_move (hρ _ _ rfl)) rfl rfl rfl (w_n rfl) ?_
    refine TL_q (.int .i64 ((y : Nat) : Int)) (fun _ _ hρ _ => r_assign (hρ _ _ rfl)) rfl rfl rfl (w_n rfl) ?_
    refine TL_seq ?_
    refine T_seq (T_region ?_)
    refine TL_q (.int .i64 0) (fun _ _ hρ _ => r_move (hρ _ _ rfl)) rfl rfl rfl (w_n rfl) ?_
    refine TL_seq ?_
    refine T_block ?_
    refine T_loopE (ι := Nat × ι) (fun (z : Nat × ι) => match z with | (x, i) => x ≤ 8 ∧ p (8 * y + x) i) (fun (z : Nat × ι) => match z with | (x, i) => [(0, .func (.yield l) #[] #[]), (4, .int .i64 ((y : Nat) : Int)), (5, .bool (decide (((y : Nat) : Int) < 8))), (6, .int .i64 ((y : Nat) : Int)), (2, .int .i64 ((y : Nat) : Int)), (7, .int .i64 ((x : Nat) : Int))]) (fun (z : Nat × ι) => match z with | (x, i) => (LJ (8 * y + x) i)) (fun (z : Nat × ι) => match z with | (x, i) => 8 - x) (0, i) ⟨Nat.zero_le _, hpi⟩ (sub_cons rfl (sub_cons rfl (sub_cons rfl (sub_cons rfl (sub_cons rfl (sub_cons rfl sub_nil)))))) rfl ?_
    rintro ⟨x, i⟩ hp
    obtain ⟨hx, hp2⟩ := hp
    show T _ _ _ [(0, .func (.yield l) #[] #[]), (4, .int .i64 ((y : Nat) : Int)), (5, .bool (decide (((y : Nat) : Int) < 8))), (6, .int .i64 ((y : Nat) : Int)), (2, .int .i64 ((y : Nat) : Int)), (7, .int .i64 ((x : Nat) : Int))] (LJ (8 * y + x) i)
    refine T_seq (T_region ?_)
    refine TL_q (.bool (decide (((x : Nat) : Int) < 8))) (fun _ _ hρ _ => r_lss (hρ _ _ rfl) (hρ _ _ rfl)) rfl rfl rfl (w_n rfl) ?_
    refine TL_seq ?_
    refine T_seq ?_
    refine T_cond rfl (fun h2 => ?_) (fun h2 => ?_)
    · replace h2 := of_decide_eq_true h2
      refine T_skip' ?_
      refine p_seq ?_
      refine T_seq ?_
      refine T_block ?_
      refine T_seq (T_region ?_)
      refine TL_q (.int .i64 ((x : Nat) : Int)) (fun _ _ hρ _ => r_move (hρ _ _ rfl)) rfl rfl rfl (w_n rfl) ?_
      refine TL_q (.int .i64 ((x : Nat) : Int)) (fun _ _ hρ _ => r_assign (hρ _ _ rfl)) rfl rfl rfl (w_n rfl) ?_
      refine TL_seq ?_
      refine T_seq (T_region ?_)
      refine TL_q (.func (.yield l) #[] #[]) (fun _ _ hρ _ => r_move (hρ _ _ rfl)) rfl rfl rfl (w_n rfl) ?_
      refine TL_q (.int .i64 ((x : Nat) : Int)) (fun _ _ hρ _ => r_move (hρ _ _ rfl)) rfl rfl rfl (w_n rfl) ?_
      refine TL_q (.int .i64 ((y : Nat) : Int)) (fun _ _ hρ _ => r_move (hρ _ _ rfl)) rfl rfl rfl (w_n rfl) ?_
      refine TL_yieldB (fun i => p (8 * y + x + 1) i) (fun i => LJ (8 * y + x + 1) i) pX LX rfl (fun _ _ hρ _ => r_yield (hρ _ _ rfl) ((cons2 (hρ _ _ rfl) (cons2 (hρ _ _ rfl) rfl)))) (fun W hm => hY (8 * y + x) (((x : Nat) : Int), ((y : Nat) : Int)) i W (pts_at (by omega) (by omega)) hp2 hm) rfl rfl rfl (w_n rfl) ?_
      intro yx1 hyx1
      refine TL_q (.bool (!yx1.isLeft)) (fun _ _ hρ _ => r_not (b := yx1.isLeft) (hρ _ _ rfl)) rfl rfl rfl (w_n rfl) ?_
      refine TL_seq ?_
      refine T_cond rfl (fun h3 => ?_) (fun h3 => ?_)
      · replace h3 := bnot_t h3
        obtain ⟨j, rfl⟩ := isR h3
        refine T_exit' ?_
        refine p_blk_o rfl ?_
        refine p_then_x ?_
        refine p_then_x ?_
        refine p_blk_o rfl ?_
        refine p_blk_o rfl ?_
        refine p_then_x ?_
        refine p_then_x ?_
        refine p_blk_x ?_
        refine p_ng_n ?_
        refine p_end ?_
        refine ret_of rfl (.tuple #[]) (fun tmps w hk hm => results_none rfl _ _ _) (fun w hm => ?_)
        first
          | exact ⟨⟨_, rfl⟩, .inr ⟨j, hyx1, hm⟩⟩
          | (have hy8 : y = 8 := (by omega); subst hy8; exact ⟨⟨_, rfl⟩, .inl ⟨i, hpi, hm⟩⟩)
      · replace h3 := bnot_f h3
        obtain ⟨i1, rfl⟩ := isL h3
        refine T_skip' ?_
        refine p_blk_n ?_
        refine p_seq ?_
        refine T_region ?_
        refine TL_q (.int .i64 ((x + 1 : Nat) : Int)) (fun _ _ hρ _ => r_as (r_add (hρ _ _ rfl) (hρ _ _ rfl)) (int_as ((wrap64 (by omega) (by omega)).trans (by omega)))) rfl rfl rfl (w_n rfl) ?_
        refine TL_q (.int .i64 ((x + 1 : Nat) : Int)) (fun _ _ hρ _ => r_move (hρ _ _ rfl)) rfl rfl rfl (w_n rfl) ?_
        refine TL_nil ?_
        exact p_atE (x + 1, i1) ⟨⟨by omega, hyx1⟩, by dsimp only; omega⟩ (sub_cons rfl (sub_cons rfl (sub_cons rfl (sub_cons rfl (sub_cons rfl (sub_cons rfl sub_nil)))))) rfl
    · replace h2 := of_decide_eq_false h2
      refine T_exit' ?_
      refine p_then_x ?_
      refine p_then_x ?_
      refine p_blk_x ?_
      refine p_blk_n ?_
      refine p_seq ?_
      have hx8 : x = 8 := by omega
      subst hx8
      refine T_region ?_
      refine TL_q (.int .i64 ((y + 1 : Nat) : Int)) (fun _ _ hρ _ => r_as (r_add (hρ _ _ rfl) (hρ _ _ rfl)) (int_as ((wrap64 (by omega) (by omega)).trans (by omega)))) rfl rfl rfl (w_n rfl) ?_
      refine TL_q (.int .i64 ((y + 1 : Nat) : Int)) (fun _ _ hρ _ => r_move (hρ _ _ rfl)) rfl rfl rfl (w_n rfl) ?_
      refine TL_nil ?_
      exact p_atE (y + 1, i) ⟨⟨by omega, hp2⟩, by dsimp only; omega⟩ (sub_cons rfl (sub_cons rfl sub_nil)) rfl
  · replace h1 := of_decide_eq_false h1
    refine T_exit' ?_
    refine p_then_x ?_
    refine p_then_x ?_
    refine p_blk_x ?_
    refine p_ng_n ?_
    refine p_end ?_
    refine ret_of rfl (.tuple #[]) (fun tmps w hk hm => results_none rfl _ _ _) (fun w hm => ?_)
    first
      | exact ⟨⟨_, rfl⟩, .inr ⟨j, hyx1, hm⟩⟩
      | (have hy8 : y = 8 := (by omega); subst hy8; exact ⟨⟨_, rfl⟩, .inl ⟨i, hpi, hm⟩⟩)
end Go.Proofs.Ytmlkifojbjbpcaa
