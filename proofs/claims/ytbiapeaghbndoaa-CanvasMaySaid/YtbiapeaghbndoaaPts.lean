/- canvas: the points. Printed by a program of this seat's prover. -/
import Derived.Test.YtbiapeaghbndoaaSame
namespace Go.Proofs.Ytbiapeaghbndoaa
open Go Go.RowKit
set_option maxRecDepth 10000

/-- The points, row by row. -/
def ptsC (wd hg : Nat) : List (Nat × Nat) := (List.range (8 * hg * (8 * wd))).map fun k => (k % (8 * wd), k / (8 * wd))
theorem ptsC_len (wd hg : Nat) : (ptsC wd hg).length = 8 * hg * (8 * wd) := by simp [ptsC]
theorem row_in {x y W H : Nat} (hx : x < W) (hy : y < H) : y * W + x < H * W ∧ (y * W + x) % W = x ∧ (y * W + x) / W = y := by
  refine ⟨?_, ?_, ?_⟩
  · have := Nat.mul_le_mul_right W (show y + 1 ≤ H from hy)
    rw [Nat.add_mul, Nat.one_mul] at this; omega
  · rw [Nat.mul_comm, Nat.mul_add_mod]; exact Nat.mod_eq_of_lt hx
  · rw [Nat.mul_comm, Nat.mul_add_div (by omega), Nat.div_eq_of_lt hx]; omega
theorem row_end (y W : Nat) : y * W + W = (y + 1) * W := by rw [Nat.add_mul, Nat.one_mul]
theorem ptsC_at {x y wd hg : Nat} (hx : x < 8 * wd) (hy : y < 8 * hg) : (ptsC wd hg)[y * (8 * wd) + x]? = some (x, y) := by
  obtain ⟨h1, h2, h3⟩ := row_in hx hy
  unfold ptsC
  rw [List.getElem?_map, List.getElem?_range h1, Option.map_some, h2, h3]
theorem ptsC_in {k wd hg : Nat} {x : Nat × Nat} (h : (ptsC wd hg)[k]? = some x) : x.1 < 8 * wd ∧ x.2 < 8 * hg := by
  unfold ptsC at h
  rw [List.getElem?_map] at h
  obtain ⟨j, hj, rfl⟩ := Option.map_eq_some_iff.1 h
  have hk := (List.getElem?_eq_some_iff.1 hj).1
  rw [List.getElem?_range (by simpa using hk)] at hj
  cases hj
  rw [List.length_range] at hk
  have h0 : 0 < 8 * wd := by
    rcases Nat.eq_zero_or_pos (8 * wd) with e | e
    · rw [e, Nat.mul_zero] at hk; omega
    · exact e
  exact ⟨Nat.mod_lt _ h0, (Nat.div_lt_iff_lt_mul h0).2 hk⟩
abbrev encPt (x : Nat × Nat) : List Value := [.agg #[.int .i64 ((x.1 : Nat) : Int), .int .i64 ((x.2 : Nat) : Int)]]
theorem points_iter {ι : Type} (w₀ : World) (p : Nat → ι → Prop) (LJ : Nat → ι → Heap) (id bz wd hg : Nat) (hwd : 1 ≤ wd ∧ wd ≤ 4) (hhg : 1 ≤ hg ∧ hg ≤ 4) (hsz : ∀ k i, lk (LJ k i) id = some (.blk bz (.cells #[.int .i64 (wd : Int), .int .i64 (hg : Int)] 109))) :
    IterAt Try.prog w₀ 101 #[.pointer (some ⟨bz, 0, none⟩)] encPt (ptsC wd hg) p LJ := by
  intro l κ pX LX hY i₀ W hp0 hm0
  show Calls _ _ #[.func (.yield l) #[] #[], .pointer (some ⟨bz, 0, none⟩)] _ _
  refine ht_of_T (l := [.func (.yield l) #[] #[], .pointer (some ⟨bz, 0, none⟩)]) (L := LJ 0 i₀) 25 Try.func101 rfl rfl rfl ?_ W hm0
  show T _ _ _ [(0, .func (.yield l) #[] #[]), (1, .pointer (some ⟨bz, 0, none⟩))] (LJ 0 i₀)
  refine T_scope ?_
  refine T_label ?_
  refine T_seq (T_region ?_)
  refine TL_q (.pointer (some ⟨bz, 1, none⟩)) (fun _ _ hρ _ => r_fieldAddr fl109_1 sz3 (hρ _ _ rfl)) rfl rfl rfl (w_n rfl) ?_
  refine TL_q (.int .i64 ((hg : Nat) : Int)) (fun _ _ hρ hm => r_load ag3 (hρ _ _ rfl) (hm.at id (hsz _ _)) rfl) rfl rfl rfl (w_n rfl) ?_
  refine TL_q (.int .i64 ((8 * hg : Nat) : Int)) (fun _ _ hρ _ => r_as (r_mul (hρ _ _ rfl) (hρ _ _ rfl)) (int_as ((wrap64 (by omega) (by omega)).trans (by omega)))) rfl rfl rfl (w_n rfl) ?_
  refine TL_q (.int .i64 0) (fun _ _ hρ _ => r_move (hρ _ _ rfl)) rfl rfl rfl (w_n rfl) ?_
  refine TL_seq ?_
  refine T_block ?_
  refine T_loopE (ι := Nat × ι) (fun (z : Nat × ι) => match z with | (y, i) => y ≤ 8 * hg ∧ p (y * (8 * wd)) i) (fun (z : Nat × ι) => match z with | (y, i) => [(0, .func (.yield l) #[] #[]), (1, .pointer (some ⟨bz, 0, none⟩)), (7, .int .i64 ((8 * hg : Nat) : Int)), (8, .int .i64 ((y : Nat) : Int))]) (fun (z : Nat × ι) => match z with | (y, i) => (LJ (y * (8 * wd)) i)) (fun (z : Nat × ι) => match z with | (y, i) => 8 * hg - y) (0, i₀) ⟨Nat.zero_le _, by rw [Nat.zero_mul]; exact hp0⟩ (sub_cons rfl (sub_cons rfl (sub_cons rfl (sub_cons rfl sub_nil)))) (by dsimp only; rw [Nat.zero_mul]) ?_
  rintro ⟨y, i⟩ hp
  obtain ⟨hy, hpi⟩ := hp
  show T _ _ _ [(0, .func (.yield l) #[] #[]), (1, .pointer (some ⟨bz, 0, none⟩)), (7, .int .i64 ((8 * hg : Nat) : Int)), (8, .int .i64 ((y : Nat) : Int))] (LJ (y * (8 * wd)) i)
  refine T_seq (T_region ?_)
  refine TL_q (.bool (decide (((y : Nat) : Int) < ((8 * hg : Nat) : Int)))) (fun _ _ hρ _ => r_lss (hρ _ _ rfl) (hρ _ _ rfl)) rfl rfl rfl (w_n rfl) ?_
  refine TL_seq ?_
  refine T_seq ?_
  refine T_cond rfl (fun h1 => ?_) (fun h1 => ?_)
  · replace h1 := of_decide_eq_true h1
    refine T_skip' ?_
    refine p_seq ?_
    refine T_seq ?_
    refine T_block ?_
    refine T_seq (T_region ?_)
    refine TL_q (.int .i64 ((y : Nat) : Int)) (fun _ _ hρ _ => r_move (hρ _ _ rfl)) rfl rfl rfl (w_n rfl) ?_
    refine TL_q (.int .i64 ((y : Nat) : Int)) (fun _ _ hρ _ => r_assign (hρ _ _ rfl)) rfl rfl rfl (w_n rfl) ?_
    refine TL_seq ?_
    refine T_seq (T_region ?_)
    refine TL_q (.pointer (some ⟨bz, 0, none⟩)) (fun _ _ hρ _ => r_fieldAddr fl109_0 sz3 (hρ _ _ rfl)) rfl rfl rfl (w_n rfl) ?_
    refine TL_q (.int .i64 ((wd : Nat) : Int)) (fun _ _ hρ hm => r_load ag3 (hρ _ _ rfl) (hm.at id (hsz _ _)) rfl) rfl rfl rfl (w_n rfl) ?_
    refine TL_q (.int .i64 ((8 * wd : Nat) : Int)) (fun _ _ hρ _ => r_as (r_mul (hρ _ _ rfl) (hρ _ _ rfl)) (int_as ((wrap64 (by omega) (by omega)).trans (by omega)))) rfl rfl rfl (w_n rfl) ?_
    refine TL_q (.int .i64 0) (fun _ _ hρ _ => r_move (hρ _ _ rfl)) rfl rfl rfl (w_n rfl) ?_
    refine TL_seq ?_
    refine T_block ?_
    refine T_loopE (ι := Nat × ι) (fun (z : Nat × ι) => match z with | (x, i) => x ≤ 8 * wd ∧ p (y * (8 * wd) + x) i) (fun (z : Nat × ι) => match z with | (x, i) => [(0, .func (.yield l) #[] #[]), (1, .pointer (some ⟨bz, 0, none⟩)), (7, .int .i64 ((8 * hg : Nat) : Int)), (8, .int .i64 ((y : Nat) : Int)), (9, .bool (decide (((y : Nat) : Int) < ((8 * hg : Nat) : Int)))), (10, .int .i64 ((y : Nat) : Int)), (3, .int .i64 ((y : Nat) : Int)), (11, .pointer (some ⟨bz, 0, none⟩)), (12, .int .i64 ((wd : Nat) : Int)), (13, .int .i64 ((8 * wd : Nat) : Int)), (14, .int .i64 ((x : Nat) : Int))]) (fun (z : Nat × ι) => match z with | (x, i) => (LJ (y * (8 * wd) + x) i)) (fun (z : Nat × ι) => match z with | (x, i) => 8 * wd - x) (0, i) ⟨Nat.zero_le _, hpi⟩ (sub_cons rfl (sub_cons rfl (sub_cons rfl (sub_cons rfl (sub_cons rfl (sub_cons rfl (sub_cons rfl (sub_cons rfl (sub_cons rfl (sub_cons rfl (sub_cons rfl sub_nil))))))))))) rfl ?_
    rintro ⟨x, i⟩ hp
    obtain ⟨hx, hp2⟩ := hp
    show T _ _ _ [(0, .func (.yield l) #[] #[]), (1, .pointer (some ⟨bz, 0, none⟩)), (7, .int .i64 ((8 * hg : Nat) : Int)), (8, .int .i64 ((y : Nat) : Int)), (9, .bool (decide (((y : Nat) : Int) < ((8 * hg : Nat) : Int)))), (10, .int .i64 ((y : Nat) : Int)), (3, .int .i64 ((y : Nat) : Int)), (11, .pointer (some ⟨bz, 0, none⟩)), (12, .int .i64 ((wd : Nat) : Int)), (13, .int .i64 ((8 * wd : Nat) : Int)), (14, .int .i64 ((x : Nat) : Int))] (LJ (y * (8 * wd) + x) i)
    refine T_seq (T_region ?_)
    refine TL_q (.bool (decide (((x : Nat) : Int) < ((8 * wd : Nat) : Int)))) (fun _ _ hρ _ => r_lss (hρ _ _ rfl) (hρ _ _ rfl)) rfl rfl rfl (w_n rfl) ?_
    refine TL_seq ?_
    refine T_seq ?_
    refine T_cond rfl (fun h2 => ?_) (fun h2 => ?_)
    · replace h2 := of_decide_eq_true h2
      refine T_skip' ?_
      refine p_seq ?_
      refine T_seq ?_
      refine T_block ?_
      refine T_seq (T_region ?_)
      refine TL_q (.int .i64 ((x : Nat) : Int)) (fun _ _ hρ _ => r_move (hρ _ _ rfl)) rfl rfl rfl (w_n rfl) ?_
      refine TL_q (.int .i64 ((x : Nat) : Int)) (fun _ _ hρ _ => r_assign (hρ _ _ rfl)) rfl rfl rfl (w_n rfl) ?_
      refine TL_seq ?_
      refine T_seq (T_region ?_)
      refine TL_q (.func (.yield l) #[] #[]) (fun _ _ hρ _ => r_move (hρ _ _ rfl)) rfl rfl rfl (w_n rfl) ?_
      refine TL_q (.int .i64 ((x : Nat) : Int)) (fun _ _ hρ _ => r_move (hρ _ _ rfl)) rfl rfl rfl (w_n rfl) ?_
      refine TL_q (.int .i64 ((y : Nat) : Int)) (fun _ _ hρ _ => r_move (hρ _ _ rfl)) rfl rfl rfl (w_n rfl) ?_
      refine TL_q (.agg #[.int .i64 ((x : Nat) : Int), .int .i64 ((y : Nat) : Int)]) (fun _ _ hρ _ => r_build (vs := [(0, .int .i64 ((x : Nat) : Int)), (1, .int .i64 ((y : Nat) : Int))]) (by kernel_rfl) (cons2 (pair2 (hρ _ _ rfl)) (cons2 (pair2 (hρ _ _ rfl)) rfl))) rfl rfl rfl (w_n rfl) ?_
      refine TL_yieldB (fun i => p (y * (8 * wd) + x + 1) i) (fun i => LJ (y * (8 * wd) + x + 1) i) pX LX rfl (fun _ _ hρ _ => r_yield (hρ _ _ rfl) ((cons2 (hρ _ _ rfl) rfl))) (fun W hm => hY (y * (8 * wd) + x) (x, y) i W (ptsC_at (by omega) (by omega)) hp2 hm) rfl rfl rfl (w_n rfl) ?_
      intro yx1 hyx1
      refine TL_q (.bool (!yx1.isLeft)) (fun _ _ hρ _ => r_not (b := yx1.isLeft) (hρ _ _ rfl)) rfl rfl rfl (w_n rfl) ?_
      refine TL_seq ?_
      refine T_cond rfl (fun h3 => ?_) (fun h3 => ?_)
      · replace h3 := bnot_t h3
        obtain ⟨j, rfl⟩ := isR h3
        refine T_exit' ?_
        refine p_blk_o rfl ?_
        refine p_then_x ?_
        refine p_then_x ?_
        refine p_blk_o rfl ?_
        refine p_blk_o rfl ?_
        refine p_then_x ?_
        refine p_then_x ?_
        refine p_blk_x ?_
        refine p_ng_n ?_
        refine p_end ?_
        refine ret_of rfl (.tuple #[]) (fun tmps w hk hm => results_none rfl _ _ _) (fun w hm => ?_)
        first
          | exact ⟨⟨_, rfl⟩, .inr ⟨j, hyx1, hm⟩⟩
          | (have hy8 : y = 8 * hg := (by omega); subst hy8; exact ⟨⟨_, rfl⟩, .inl ⟨i, by rw [ptsC_len]; exact hpi, by rw [ptsC_len]; exact hm⟩⟩)
      · replace h3 := bnot_f h3
        obtain ⟨i1, rfl⟩ := isL h3
        refine T_skip' ?_
        refine p_blk_n ?_
        refine p_seq ?_
        refine T_region ?_
        refine TL_q (.int .i64 ((x + 1 : Nat) : Int)) (fun _ _ hρ _ => r_as (r_add (hρ _ _ rfl) (hρ _ _ rfl)) (int_as ((wrap64 (by omega) (by omega)).trans (by omega)))) rfl rfl rfl (w_n rfl) ?_
        refine TL_q (.int .i64 ((x + 1 : Nat) : Int)) (fun _ _ hρ _ => r_move (hρ _ _ rfl)) rfl rfl rfl (w_n rfl) ?_
        refine TL_nil ?_
        exact p_atE (x + 1, i1) ⟨⟨by omega, hyx1⟩, by dsimp only; omega⟩ (sub_cons rfl (sub_cons rfl (sub_cons rfl (sub_cons rfl (sub_cons rfl (sub_cons rfl (sub_cons rfl (sub_cons rfl (sub_cons rfl (sub_cons rfl (sub_cons rfl sub_nil))))))))))) rfl
    · replace h2 := of_decide_eq_false h2
      refine T_exit' ?_
      refine p_then_x ?_
      refine p_then_x ?_
      refine p_blk_x ?_
      refine p_blk_n ?_
      refine p_seq ?_
      have hx8 : x = 8 * wd := by omega
      subst hx8
      refine T_region ?_
      refine TL_q (.int .i64 ((y + 1 : Nat) : Int)) (fun _ _ hρ _ => r_as (r_add (hρ _ _ rfl) (hρ _ _ rfl)) (int_as ((wrap64 (by omega) (by omega)).trans (by omega)))) rfl rfl rfl (w_n rfl) ?_
      refine TL_q (.int .i64 ((y + 1 : Nat) : Int)) (fun _ _ hρ _ => r_move (hρ _ _ rfl)) rfl rfl rfl (w_n rfl) ?_
      refine TL_nil ?_
      have eW := row_end y (8 * wd)
      rw [eW] at hp2 ⊢
      exact p_atE (y + 1, i) ⟨⟨by omega, hp2⟩, by dsimp only; omega⟩ (sub_cons rfl (sub_cons rfl (sub_cons rfl (sub_cons rfl sub_nil)))) rfl
  · replace h1 := of_decide_eq_false h1
    refine T_exit' ?_
    refine p_then_x ?_
    refine p_then_x ?_
    refine p_blk_x ?_
    refine p_ng_n ?_
    refine p_end ?_
    refine ret_of rfl (.tuple #[]) (fun tmps w hk hm => results_none rfl _ _ _) (fun w hm => ?_)
    first
      | exact ⟨⟨_, rfl⟩, .inr ⟨j, hyx1, hm⟩⟩
      | (have hy8 : y = 8 * hg := (by omega); subst hy8; exact ⟨⟨_, rfl⟩, .inl ⟨i, by rw [ptsC_len]; exact hpi, by rw [ptsC_len]; exact hm⟩⟩)
end Go.Proofs.Ytbiapeaghbndoaa
