/- tile: many, and its closures. Printed by a program of this seat's prover. -/
import Derived.Test.YtmlkifojbjbpcaaCnt
namespace Go.Proofs.Ytmlkifojbjbpcaa
open Go Go.RowKit
set_option maxRecDepth 10000
theorem lk_into {L : Heap} {j : Nat} {r : Res} (hi : lk L j = some r) : ∀ k q, lk L k = some q → lk ((j, r) :: L) k = some q := fun k q hk => by
  by_cases e : j = k
  · subst e; rw [hi] at hk; rw [lk_cons_same]; exact hk
  · rwa [lk_cons_other _ _ e]
theorem lk_shadow {L : Heap} {j : Nat} {r s : Res} : ∀ k q, lk ((j, s) :: L) k = some q → lk ((j, s) :: (j, r) :: L) k = some q := fun k q hk => by
  by_cases e : j = k
  · subst e; rwa [lk_cons_same] at hk ⊢
  · rw [lk_cons_other _ _ e] at hk ⊢; rwa [lk_cons_other _ _ e]
/-- How many of the first k. -/
def numN (h : Nat → Bool) : Nat → Nat
  | 0 => 0
  | k + 1 => if h k = true then numN h k + 1 else numN h k
theorem num_le (h : Nat → Bool) : ∀ k, numN h k ≤ k
  | 0 => Nat.le_refl _
  | k + 1 => by
    have := num_le h k
    unfold numN
    split <;> omega
theorem num_t {h : Nat → Bool} {k : Nat} (e : h k = true) : numN h (k + 1) = numN h k + 1 := if_pos e
theorem num_f {h : Nat → Bool} {k : Nat} (e : h k = false) : numN h (k + 1) = numN h k := if_neg (by rw [e]; decide)

theorem many_ht (w₀ : World) (l : List C4) (B fid : Nat) (cap : Array Value) (hb : Nat → Bool) (L : Nat → Heap) (hl : l.length = 64) (hE : Enters Try.prog fid)
    (hi : ∀ k, lk (L k) 900 = some (.blk B (.cells (lst C4.cells l) 25))) (hf : ∀ k, lk (L k) 1001 = none)
    (hcl : ∀ k w, k < 64 → MemOk w₀ (L k) w → Calls Try.prog fid (#[] ++ [(get l k).v].toArray ++ cap) w (HAns w₀ (fun _ : Unit => True) (fun _ => .bool (hb k)) (fun _ => L (k + 1)))) :
    ∀ w, MemOk w₀ (L 0) w → Calls Try.prog 35 #[.slice (some ⟨B, 0, none⟩) 64 64, .func (.func fid) #[] cap] w (HAns w₀ (fun _ : Unit => True) (fun _ => .int .i64 (numN hb 64)) (fun _ => L 64)) := by
  refine ht_of_T (l := [.slice (some ⟨B, 0, none⟩) 64 64, .func (.func fid) #[] cap]) (L := (L 0)) 21 Try.func35 rfl rfl rfl ?_
  have hf900 : ∀ k, lk ((900, Res.blk B (.cells (lst C4.cells l) 25)) :: L k) 1001 = none := fun k => by rw [lk_cons_other _ _ (by decide)]; exact hf k
  show T _ _ _ [(0, .slice (some ⟨B, 0, none⟩) 64 64), (1, .func (.func fid) #[] cap)] (L 0)
  refine T_seq (T_region ?_)
  refine TL_q (.int .i64 0) (fun _ _ hρ _ => r_assign (hρ _ _ rfl)) rfl rfl rfl (w_n rfl) ?_
  refine TL_seq ?_
  refine T_seq (T_region ?_)
  refine TL_q (.int .i64 0) (fun _ _ hρ _ => r_assign (hρ _ _ rfl)) rfl rfl rfl (w_n rfl) ?_
  refine TL_seq ?_
  refine T_seq ?_
  refine T_seq (T_region ?_)
  refine TL_q (.slice (some ⟨B, 0, none⟩) 64 64) (fun _ _ hρ _ => r_move (hρ _ _ rfl)) rfl rfl rfl (w_n rfl) ?_
  refine TL_q (.int .i64 64) (fun _ _ hρ _ => r_len sl26 (hρ _ _ rfl)) rfl rfl rfl (w_n rfl) ?_
  refine TL_q (.int .i64 0) (fun _ _ hρ _ => r_move (hρ _ _ rfl)) rfl rfl rfl (w_n rfl) ?_
  refine TL_seq ?_
  refine T_block ?_
  refine T_loopE (ι := Nat) (fun (k : Nat) => k ≤ 64) (fun (k : Nat) => [(1, .func (.func fid) #[] cap), (4, .int .i64 0), (8, .slice (some ⟨B, 0, none⟩) 64 64), (9, .int .i64 64), (5, .int .i64 ((numN hb k : Nat) : Int)), (10, .int .i64 ((k : Nat) : Int))]) (fun (k : Nat) => (L k)) (fun (k : Nat) => 64 - k) 0 (Nat.zero_le _) (sub_cons rfl (sub_cons rfl (sub_cons rfl (sub_cons rfl (sub_cons rfl (sub_cons rfl sub_nil)))))) rfl ?_
  rintro k hp
  have hnk := num_le hb k
  show T _ _ _ [(1, .func (.func fid) #[] cap), (4, .int .i64 0), (8, .slice (some ⟨B, 0, none⟩) 64 64), (9, .int .i64 64), (5, .int .i64 ((numN hb k : Nat) : Int)), (10, .int .i64 ((k : Nat) : Int))] (L k)
  refine T_seq (T_region ?_)
  refine TL_q (.bool (decide (((k : Nat) : Int) < 64))) (fun _ _ hρ _ => r_lss (hρ _ _ rfl) (hρ _ _ rfl)) rfl rfl rfl (w_n rfl) ?_
  refine TL_seq ?_
  refine T_seq ?_
  refine T_cond rfl (fun h1 => ?_) (fun h1 => ?_)
  · replace h1 := of_decide_eq_true h1
    refine T_skip' ?_
    refine p_seq ?_
    refine T_seq ?_
    refine T_block ?_
    refine T_mem ((900, .blk B (.cells (lst C4.cells l) 25)) :: L k) (fun _ hm => hm.of (lk_dup (hi k))) ?_
    refine T_seq (T_region ?_)
    refine TL_q (.pointer (some ⟨B, 0 + k * 4, none⟩)) (fun _ _ hρ _ => r_indexAddrS (i := k) sl26 sz23 (hρ _ _ rfl) (hρ _ _ rfl) (by omega)) rfl rfl rfl (w_n rfl) ?_
    refine TL_q (.agg #[.int .u8 ((get l k).r), .int .u8 ((get l k).g), .int .u8 ((get l k).b), .int .u8 ((get l k).a)]) (fun _ _ hρ hm => r_loadRow (f := C4.cells) (u := (get l k)) ag23 sz23 (hρ _ _ rfl) (hm.at 900 rfl) (row_lst C4.cells_len _) (get_some hl (by omega))) rfl rfl rfl (w_n rfl) ?_
    refine TL_new 1001 (.cells #[.int .u8 0, .int .u8 0, .int .u8 0, .int .u8 0] 23) (fun B => .pointer (some ⟨B, 0, none⟩)) (fun _ _ _ _ => r_alloc (v := .agg #[.int .u8 0, .int .u8 0, .int .u8 0, .int .u8 0]) (by kernel_rfl) rfl) rfl rfl rfl (w_n rfl) ?_
    intro B1
    refine TL_store 1001 (.cells #[.int .u8 ((get l k).r), .int .u8 ((get l k).g), .int .u8 ((get l k).b), .int .u8 ((get l k).a)] 23) rfl (fun _ _ hρ hm => r_store sz23 (hρ _ _ rfl) (hρ _ _ rfl) (hm.at 1001 rfl) rfl rfl rfl rfl) rfl rfl (w_n rfl) ?_
    refine TL_seq ?_
    refine T_seq (T_region ?_)
    refine TL_q (.func (.func fid) #[] cap) (fun _ _ hρ _ => r_move (hρ _ _ rfl)) rfl rfl rfl (w_n rfl) ?_
    refine TL_q (.agg #[.int .u8 ((get l k).r), .int .u8 ((get l k).g), .int .u8 ((get l k).b), .int .u8 ((get l k).a)]) (fun _ _ hρ hm => r_loadA ag23 sz23 (hρ _ _ rfl) (hm.at 1001 rfl) rfl rfl) rfl rfl rfl (w_n rfl) ?_
    refine TL_callH _ _ _ (fun _ _ hρ _ => r_call (args := [.agg #[.int .u8 ((get l k).r), .int .u8 ((get l k).g), .int .u8 ((get l k).b), .int .u8 ((get l k).a)]]) hE (hρ _ _ rfl) ((cons2 (hρ _ _ rfl) rfl)) rfl) (fun w hm => hcl k w (by omega) (hm.of (fun j q hq => lk_shadow j q (lk_fresh (hf900 k) j q (lk_into (hi k) j q hq))))) rfl rfl rfl (w_n rfl) ?_
    intro _ _
    refine TL_seq ?_
    refine T_cond rfl (fun h2 => ?_) (fun h2 => ?_)
    · skip
      refine T_region ?_
      refine TL_q (.int .i64 ((numN hb k : Nat) : Int)) (fun _ _ hρ _ => r_move (hρ _ _ rfl)) rfl rfl rfl (w_n rfl) ?_
      refine TL_q (.int .i64 ((numN hb k + 1 : Nat) : Int)) (fun _ _ hρ _ => r_as (r_add (hρ _ _ rfl) (hρ _ _ rfl)) (int_as ((wrap64 (by omega) (by omega)).trans (by omega)))) rfl rfl rfl (w_n rfl) ?_
      refine TL_q (.int .i64 ((numN hb k + 1 : Nat) : Int)) (fun _ _ hρ _ => r_assign (hρ _ _ rfl)) rfl rfl rfl (w_n rfl) ?_
      refine TL_nil ?_
      refine p_blk_n ?_
      refine p_seq ?_
      refine T_region ?_
      refine TL_q (.int .i64 ((k + 1 : Nat) : Int)) (fun _ _ hρ _ => r_as (r_add (hρ _ _ rfl) (hρ _ _ rfl)) (int_as ((wrap64 (by omega) (by omega)).trans (by omega)))) rfl rfl rfl (w_n rfl) ?_
      refine TL_q (.int .i64 ((k + 1 : Nat) : Int)) (fun _ _ hρ _ => r_move (hρ _ _ rfl)) rfl rfl rfl (w_n rfl) ?_
      refine TL_nil ?_
      exact p_atE (k + 1) ⟨by omega, by omega⟩ (sub_cons rfl (sub_cons rfl (sub_cons rfl (sub_cons rfl (sub_cons (congrArg (fun z : Nat => some (Value.int .i64 z)) (num_t h2).symm) (sub_cons rfl sub_nil)))))) rfl
    · skip
      refine T_skip' ?_
      refine p_blk_n ?_
      refine p_seq ?_
      refine T_region ?_
      refine TL_q (.int .i64 ((k + 1 : Nat) : Int)) (fun _ _ hρ _ => r_as (r_add (hρ _ _ rfl) (hρ _ _ rfl)) (int_as ((wrap64 (by omega) (by omega)).trans (by omega)))) rfl rfl rfl (w_n rfl) ?_
      refine TL_q (.int .i64 ((k + 1 : Nat) : Int)) (fun _ _ hρ _ => r_move (hρ _ _ rfl)) rfl rfl rfl (w_n rfl) ?_
      refine TL_nil ?_
      exact p_atE (k + 1) ⟨by omega, by omega⟩ (sub_cons rfl (sub_cons rfl (sub_cons rfl (sub_cons rfl (sub_cons (congrArg (fun z : Nat => some (Value.int .i64 z)) (num_f (by simpa using h2)).symm) (sub_cons rfl sub_nil)))))) rfl
  · replace h1 := of_decide_eq_false h1
    refine T_exit' ?_
    refine p_then_x ?_
    refine p_then_x ?_
    refine p_blk_x ?_
    refine p_seq ?_
    refine T_seq (T_region ?_)
    refine TL_q (.int .i64 ((numN hb k : Nat) : Int)) (fun _ _ hρ _ => r_move (hρ _ _ rfl)) rfl rfl rfl (w_n rfl) ?_
    refine TL_q (.int .i64 ((numN hb k : Nat) : Int)) (fun _ _ hρ _ => r_assign (hρ _ _ rfl)) rfl rfl rfl (w_n rfl) ?_
    refine TL_seq ?_
    refine T_ret' ?_
    refine ret_of rfl (.int .i64 ((numN hb k : Nat) : Int)) (fun tmps w hk hm => res1 rfl (res_tmp (hk 4 _ rfl))) (fun w hm => ?_)
    have hk64 : k = 64 := by omega
    subst hk64
    exact ⟨(), trivial, rfl, hm⟩

theorem count1_ht (w₀ : World) (L : Heap) (C : Nat) (x c : C4) (hi : lk L 901 = some (.blk C (.cells #[.int .u8 c.r, .int .u8 c.g, .int .u8 c.b, .int .u8 c.a] 23))) (hf : lk L 1001 = none) :
    ∀ w, MemOk w₀ L w → Calls Try.prog 37 #[x.v, .pointer (some ⟨C, 0, none⟩)] w (HAns w₀ (fun _ : Unit => True) (fun _ => .bool (decide (x = c))) (fun _ => L)) := by
  refine ht_of_T (l := [.agg #[.int .u8 x.r, .int .u8 x.g, .int .u8 x.b, .int .u8 x.a], .pointer (some ⟨C, 0, none⟩)]) (L := L) 7 Try.func37 rfl rfl rfl ?_
  refine T_mem ((901, .blk C (.cells #[.int .u8 c.r, .int .u8 c.g, .int .u8 c.b, .int .u8 c.a] 23)) :: L) (fun _ hm => hm.of (lk_dup hi)) ?_
  show T _ _ _ [(0, .agg #[.int .u8 x.r, .int .u8 x.g, .int .u8 x.b, .int .u8 x.a]), (1, .pointer (some ⟨C, 0, none⟩))] ((901, .blk C (.cells #[.int .u8 c.r, .int .u8 c.g, .int .u8 c.b, .int .u8 c.a] 23)) :: L)
  refine T_seq (T_region ?_)
  refine TL_new 1001 (.cells #[.int .u8 x.r, .int .u8 x.g, .int .u8 x.b, .int .u8 x.a] 23) (fun B => .pointer (some ⟨B, 0, none⟩)) (fun _ _ hρ _ => r_box (hρ _ _ rfl) rfl) rfl rfl rfl (w_n rfl) ?_
  intro B1
  refine TL_q (.bool false) (fun _ _ hρ _ => r_assign (hρ _ _ rfl)) rfl rfl rfl (w_n rfl) ?_
  refine TL_seq ?_
  refine T_seq (T_region ?_)
  refine TL_q (.agg #[.int .u8 x.r, .int .u8 x.g, .int .u8 x.b, .int .u8 x.a]) (fun _ _ hρ hm => r_loadA ag23 sz23 (hρ _ _ rfl) (hm.at 1001 rfl) rfl rfl) rfl rfl rfl (w_n rfl) ?_
  refine TL_q (.agg #[.int .u8 c.r, .int .u8 c.g, .int .u8 c.b, .int .u8 c.a]) (fun _ _ hρ hm => r_loadA ag23 sz23 (hρ _ _ rfl) (hm.at 901 rfl) rfl rfl) rfl rfl rfl (w_n rfl) ?_
  refine TL_q (.bool (decide (x = c))) (fun _ _ hρ _ => r_as (r_eqlA (by kernel_rfl) (hρ _ _ rfl) (hρ _ _ rfl) (run_equalI (l := [(0, .u8), (1, .u8), (2, .u8), (3, .u8)]) (by kernel_rfl) rfl rfl)) (bool_as (eqC x c))) rfl rfl rfl (w_n rfl) ?_
  refine TL_q (.bool (decide (x = c))) (fun _ _ hρ _ => r_assign (hρ _ _ rfl)) rfl rfl rfl (w_n rfl) ?_
  refine TL_seq ?_
  refine T_ret' ?_
  refine ret_of rfl (.bool (decide (x = c))) (fun tmps w hk hm => res1 rfl (res_tmp (hk 3 _ rfl))) (fun w hm => ?_)
  exact ⟨(), trivial, rfl, hm.of (fun j q hq => lk_fresh ((lk_cons_other _ _ (by decide)).trans hf) j q (lk_into hi j q hq))⟩

theorem runs1_ht (w₀ : World) (L : Heap) (C : Nat) (x c : C4) (hi : lk L 901 = some (.blk C (.cells #[.int .u8 c.r, .int .u8 c.g, .int .u8 c.b, .int .u8 c.a] 23))) (hf : lk L 1001 = none) :
    ∀ w, MemOk w₀ L w → Calls Try.prog 36 #[x.v, .pointer (some ⟨C, 0, none⟩)] w (HAns w₀ (fun _ : Unit => True) (fun _ => .bool (!decide (x = c))) (fun _ => (901, .blk C (.cells #[.int .u8 x.r, .int .u8 x.g, .int .u8 x.b, .int .u8 x.a] 23)) :: L)) := by
  refine ht_of_T (l := [.agg #[.int .u8 x.r, .int .u8 x.g, .int .u8 x.b, .int .u8 x.a], .pointer (some ⟨C, 0, none⟩)]) (L := L) 10 Try.func36 rfl rfl rfl ?_
  refine T_mem ((901, .blk C (.cells #[.int .u8 c.r, .int .u8 c.g, .int .u8 c.b, .int .u8 c.a] 23)) :: L) (fun _ hm => hm.of (lk_dup hi)) ?_
  show T _ _ _ [(0, .agg #[.int .u8 x.r, .int .u8 x.g, .int .u8 x.b, .int .u8 x.a]), (1, .pointer (some ⟨C, 0, none⟩))] ((901, .blk C (.cells #[.int .u8 c.r, .int .u8 c.g, .int .u8 c.b, .int .u8 c.a] 23)) :: L)
  refine T_seq (T_region ?_)
  refine TL_new 1001 (.cells #[.int .u8 x.r, .int .u8 x.g, .int .u8 x.b, .int .u8 x.a] 23) (fun B => .pointer (some ⟨B, 0, none⟩)) (fun _ _ hρ _ => r_box (hρ _ _ rfl) rfl) rfl rfl rfl (w_n rfl) ?_
  intro B1
  refine TL_q (.bool false) (fun _ _ hρ _ => r_assign (hρ _ _ rfl)) rfl rfl rfl (w_n rfl) ?_
  refine TL_seq ?_
  refine T_seq (T_region ?_)
  refine TL_q (.agg #[.int .u8 x.r, .int .u8 x.g, .int .u8 x.b, .int .u8 x.a]) (fun _ _ hρ hm => r_loadA ag23 sz23 (hρ _ _ rfl) (hm.at 1001 rfl) rfl rfl) rfl rfl rfl (w_n rfl) ?_
  refine TL_q (.agg #[.int .u8 c.r, .int .u8 c.g, .int .u8 c.b, .int .u8 c.a]) (fun _ _ hρ hm => r_loadA ag23 sz23 (hρ _ _ rfl) (hm.at 901 rfl) rfl rfl) rfl rfl rfl (w_n rfl) ?_
  refine TL_q (.bool (!decide (x = c))) (fun _ _ hρ _ => r_as (r_neqA (by kernel_rfl) (hρ _ _ rfl) (hρ _ _ rfl) (run_equalI (l := [(0, .u8), (1, .u8), (2, .u8), (3, .u8)]) (by kernel_rfl) rfl rfl)) (bool_as (congrArg (fun b => !b) (eqC x c)))) rfl rfl rfl (w_n rfl) ?_
  refine TL_q (.bool (!decide (x = c))) (fun _ _ hρ _ => r_assign (hρ _ _ rfl)) rfl rfl rfl (w_n rfl) ?_
  refine TL_seq ?_
  refine T_seq (T_region ?_)
  refine TL_q (.agg #[.int .u8 x.r, .int .u8 x.g, .int .u8 x.b, .int .u8 x.a]) (fun _ _ hρ hm => r_loadA ag23 sz23 (hρ _ _ rfl) (hm.at 1001 rfl) rfl rfl) rfl rfl rfl (w_n rfl) ?_
  refine TL_store 901 (.cells #[.int .u8 x.r, .int .u8 x.g, .int .u8 x.b, .int .u8 x.a] 23) rfl (fun _ _ hρ hm => r_store sz23 (hρ _ _ rfl) (hρ _ _ rfl) (hm.at 901 rfl) rfl rfl rfl rfl) rfl rfl (w_n rfl) ?_
  refine TL_seq ?_
  refine T_seq (T_region ?_)
  refine TL_q (.bool (!decide (x = c))) (fun _ _ hρ _ => r_move (hρ _ _ rfl)) rfl rfl rfl (w_n rfl) ?_
  refine TL_q (.bool (!decide (x = c))) (fun _ _ hρ _ => r_assign (hρ _ _ rfl)) rfl rfl rfl (w_n rfl) ?_
  refine TL_seq ?_
  refine T_ret' ?_
  refine ret_of rfl (.bool (!decide (x = c))) (fun tmps w hk hm => res1 rfl (res_tmp (hk 3 _ rfl))) (fun w hm => ?_)
  exact ⟨(), trivial, rfl, hm.of (lk_put rfl hf)⟩
end Go.Proofs.Ytmlkifojbjbpcaa
