/- tile: slices.Index, slices.Contains. Printed by a program of this seat's prover. -/
import Derived.Test.YtmlkifojbjbpcaaStd
namespace Go.Proofs.Ytmlkifojbjbpcaa
open Go Go.RowKit
set_option maxRecDepth 10000
/-- Where c is first, from k on; -1 if it is not there. -/
def idxC : List C4 → C4 → Nat → Int
  | [], _, _ => -1
  | x :: r, c, k => if c = x then k else idxC r c (k + 1)
theorem idx_here {l : List C4} {c x : C4} {k : Nat} (h : l[k]? = some x) (e : c = x) (hi : idxC l c 0 = idxC (l.drop k) c k) : idxC l c 0 = k := by
  obtain ⟨hk, hx⟩ := List.getElem?_eq_some_iff.1 h
  rw [hi, List.drop_eq_getElem_cons hk, hx]
  exact if_pos e
theorem idx_next {l : List C4} {c x : C4} {k : Nat} (h : l[k]? = some x) (e : ¬ c = x) (hi : idxC l c 0 = idxC (l.drop k) c k) : idxC l c 0 = idxC (l.drop (k + 1)) c (k + 1) := by
  obtain ⟨hk, hx⟩ := List.getElem?_eq_some_iff.1 h
  rw [hi, List.drop_eq_getElem_cons hk, hx]
  exact if_neg e
theorem idx_end {l : List C4} {c : C4} {k : Nat} (h : k = l.length) (hi : idxC l c 0 = idxC (l.drop k) c k) : idxC l c 0 = -1 := by
  subst h; rw [hi, List.drop_length]; rfl
theorem idx_mem (c : C4) : ∀ (l : List C4) (k : Nat), decide (0 ≤ idxC l c k) = decide (c ∈ l)
  | [], k => by simp [idxC]
  | x :: r, k => by
    unfold idxC
    by_cases h : c = x
    · subst h; rw [if_pos rfl, decide_eq_true (show (0 : Int) ≤ (k : Int) by omega), decide_eq_true (List.mem_cons_self)]
    · rw [if_neg h, idx_mem c r (k + 1)]
      simp [h]

theorem index_col (l : List C4) (c : C4) (a : Option Addr) (cap : Nat) (w : World) (hv : SliceAt w a cap 4 C4.cells l) (hlen : l.length ≤ 4611686018427387904) :
    Calls Try.prog 46 #[.slice a l.length cap, c.v] w fun e w' => e = .returned (.int .i64 (idxC l c 0)) ∧ Below w.heap.size w w' := by
  refine calls_of_T (l := [.slice a l.length cap, .agg #[.int .u8 c.r, .int .u8 c.g, .int .u8 c.b, .int .u8 c.a]]) 19 Try.func46 rfl rfl rfl ?_
  show T _ _ _ [(0, .slice a l.length cap), (1, .agg #[.int .u8 c.r, .int .u8 c.g, .int .u8 c.b, .int .u8 c.a])] []
  refine T_seq (T_region ?_)
  refine TL_new 1 (.cells #[.int .u8 c.r, .int .u8 c.g, .int .u8 c.b, .int .u8 c.a] 23) (fun B => .pointer (some ⟨B, 0, none⟩)) (fun _ _ hρ _ => r_box (hρ _ _ rfl) rfl) rfl rfl rfl (w_n rfl) ?_
  intro B1
  refine TL_q (.int .i64 0) (fun _ _ hρ _ => r_assign (hρ _ _ rfl)) rfl rfl rfl (w_n rfl) ?_
  refine TL_seq ?_
  refine T_seq ?_
  refine T_seq (T_region ?_)
  refine TL_q (.slice a l.length cap) (fun _ _ hρ _ => r_move (hρ _ _ rfl)) rfl rfl rfl (w_n rfl) ?_
  refine TL_q (.int .i64 ((l.length : Nat) : Int)) (fun _ _ hρ _ => r_len sl26 (hρ _ _ rfl)) rfl rfl rfl (w_n rfl) ?_
  refine TL_q (.int .i64 0) (fun _ _ hρ _ => r_move (hρ _ _ rfl)) rfl rfl rfl (w_n rfl) ?_
  refine TL_seq ?_
  refine T_block ?_
  refine T_loop (ι := Nat) (fun (k : Nat) => k ≤ l.length ∧ idxC l c 0 = idxC (l.drop k) c k) (fun (k : Nat) => [(0, .slice a l.length cap), (3, .pointer (some ⟨B1, 0, none⟩)), (7, .int .i64 ((l.length : Nat) : Int)), (8, .int .i64 ((k : Nat) : Int))]) (fun (k : Nat) => [(1, .blk B1 (.cells #[.int .u8 c.r, .int .u8 c.g, .int .u8 c.b, .int .u8 c.a] 23))]) (fun (k : Nat) => l.length - k) 0 ⟨Nat.zero_le _, rfl⟩ (sub_cons rfl (sub_cons rfl (sub_cons rfl (sub_cons rfl sub_nil)))) (sub_cons rfl sub_nil) ?_
  rintro k hp
  obtain ⟨hk, hi⟩ := hp
  show T _ _ _ [(0, .slice a l.length cap), (3, .pointer (some ⟨B1, 0, none⟩)), (7, .int .i64 ((l.length : Nat) : Int)), (8, .int .i64 ((k : Nat) : Int))] [(1, .blk B1 (.cells #[.int .u8 c.r, .int .u8 c.g, .int .u8 c.b, .int .u8 c.a] 23))]
  refine T_seq (T_region ?_)
  refine TL_q (.bool (decide (((k : Nat) : Int) < ((l.length : Nat) : Int)))) (fun _ _ hρ _ => r_lss (hρ _ _ rfl) (hρ _ _ rfl)) rfl rfl rfl (w_n rfl) ?_
  refine TL_seq ?_
  refine T_seq ?_
  refine T_cond rfl (fun h1 => ?_) (fun h1 => ?_)
  · replace h1 := of_decide_eq_true h1
    refine T_skip' ?_
    refine p_seq ?_
    refine T_seq ?_
    refine T_block ?_
    refine T_seq (T_region ?_)
    refine TL_q (.int .i64 ((k : Nat) : Int)) (fun _ _ hρ _ => r_move (hρ _ _ rfl)) rfl rfl rfl (w_n rfl) ?_
    refine TL_q (.int .i64 ((k : Nat) : Int)) (fun _ _ hρ _ => r_assign (hρ _ _ rfl)) rfl rfl rfl (w_n rfl) ?_
    refine TL_seq ?_
    obtain ⟨x, hx⟩ : ∃ x, l[k]? = some x := ⟨_, List.getElem?_eq_getElem (by omega)⟩
    obtain ⟨b2, of2, cs2, T2, fz2, ha2, hq2, hr2⟩ := hv.open (i := k) (by omega)
    subst ha2
    refine T_seq (T_draw (V := [(0, .agg #[.int .u8 c.r, .int .u8 c.g, .int .u8 c.b, .int .u8 c.a]), (1, .slice (some ⟨b2, of2, none⟩) l.length cap), (2, .int .i64 ((k : Nat) : Int)), (3, .pointer (some ⟨b2, of2 + k * 4, none⟩)), (4, .agg #[.int .u8 x.r, .int .u8 x.g, .int .u8 x.b, .int .u8 x.a]), (5, .bool (decide (c = x)))]) [0, 0, 0, 6, 14, 31] [[(3, none)], [(0, none)], [(5, none)], [(12, some 1), (13, some 2)], [(14, some 3)], [(11, some 0), (15, some 4)]] 0 mixed (by kernel_rfl) ?_)
    refine G_last [0, 1, 2, 3, 4, 5] [(0, .slice (some ⟨b2, of2, none⟩) l.length cap), (3, .pointer (some ⟨B1, 0, none⟩)), (7, .int .i64 ((l.length : Nat) : Int)), (8, .int .i64 ((k : Nat) : Int)), (9, .bool (decide (((k : Nat) : Int) < ((l.length : Nat) : Int)))), (10, .int .i64 ((k : Nat) : Int)), (5, .int .i64 ((k : Nat) : Int)), (11, .agg #[.int .u8 c.r, .int .u8 c.g, .int .u8 c.b, .int .u8 c.a]), (12, .slice (some ⟨b2, of2, none⟩) l.length cap), (13, .int .i64 ((k : Nat) : Int)), (14, .pointer (some ⟨b2, of2 + k * 4, none⟩)), (15, .agg #[.int .u8 x.r, .int .u8 x.g, .int .u8 x.b, .int .u8 x.a]), (16, .bool (decide (c = x)))] (by kernel_rfl) (allM (all_cons (q_run (.agg #[.int .u8 c.r, .int .u8 c.g, .int .u8 c.b, .int .u8 c.a]) rfl rfl (wv_n rfl) rfl (fun _ _ hρ hm => r_loadA ag23 sz23 (hρ _ _ rfl) (hm.at 1 rfl) rfl rfl)) (all_cons (q_run (.slice (some ⟨b2, of2, none⟩) l.length cap) rfl rfl (wv_n rfl) rfl (fun _ _ hρ _ => r_move (hρ _ _ rfl))) (all_cons (q_run (.int .i64 ((k : Nat) : Int)) rfl rfl (wv_n rfl) rfl (fun _ _ hρ _ => r_move (hρ _ _ rfl))) (all_cons (q_run (.pointer (some ⟨b2, of2 + k * 4, none⟩)) rfl rfl (wv_n rfl) rfl (fun _ _ hρ _ => r_indexAddrS (i := k) sl26 sz23 (hρ _ _ rfl) (hρ _ _ rfl) (by omega))) (all_cons (q_run (.agg #[.int .u8 x.r, .int .u8 x.g, .int .u8 x.b, .int .u8 x.a]) rfl rfl (wv_n rfl) rfl (fun _ _ hρ hm => r_loadRow (f := C4.cells) (u := x) ag23 sz23 (hρ _ _ rfl) (hm.old hq2) hr2 hx)) (all_cons (q_run (.bool (decide (c = x))) rfl rfl (wv_n rfl) rfl (fun _ _ hρ _ => r_as (r_eqlA (by kernel_rfl) (hρ _ _ rfl) (hρ _ _ rfl) (run_equalI (l := [(0, .u8), (1, .u8), (2, .u8), (3, .u8)]) (by kernel_rfl) rfl rfl)) (bool_as (eqC c x)))) all_nil))))))) (end_old rfl rfl (end_old rfl rfl (end_old rfl rfl (end_old rfl rfl (end_old rfl rfl (end_old rfl rfl (end_old rfl rfl (end_new 0 rfl rfl (end_new 1 rfl rfl (end_new 2 rfl rfl (end_new 3 rfl rfl (end_new 4 rfl rfl (end_new 5 rfl rfl end_nil))))))))))))) ?_
    refine T_cond rfl (fun h2 => ?_) (fun h2 => ?_)
    · replace h2 := of_decide_eq_true h2
      refine T_seq (T_region ?_)
      refine TL_q (.int .i64 ((k : Nat) : Int)) (fun _ _ hρ _ => r_move (hρ _ _ rfl)) rfl rfl rfl (w_n rfl) ?_
      refine TL_q (.int .i64 ((k : Nat) : Int)) (fun _ _ hρ _ => r_assign (hρ _ _ rfl)) rfl rfl rfl (w_n rfl) ?_
      refine TL_seq ?_
      refine T_ret' ?_
      refine p_blk_r ?_
      refine p_then_r ?_
      refine p_then_r ?_
      refine p_blk_r ?_
      refine p_then_r ?_
      refine ret_of rfl (.int .i64 ((k : Nat) : Int)) (fun tmps w hk hm => res1 rfl (res_tmp (hk 4 _ rfl))) (fun w hm => ?_)
      exact ⟨by rw [idx_here hx h2 hi], hm.ext⟩
    · replace h2 := of_decide_eq_false h2
      refine T_skip' ?_
      refine p_blk_n ?_
      refine p_seq ?_
      refine T_region ?_
      refine TL_q (.int .i64 (((k : Nat) : Int) + 1)) (fun _ _ hρ _ => r_as (r_add (hρ _ _ rfl) (hρ _ _ rfl)) (int_as (wrap64 (by omega) (by omega)))) rfl rfl rfl (w_n rfl) ?_
      refine TL_q (.int .i64 (((k : Nat) : Int) + 1)) (fun _ _ hρ _ => r_move (hρ _ _ rfl)) rfl rfl rfl (w_n rfl) ?_
      refine TL_nil ?_
      exact p_at (k + 1) ⟨⟨by omega, idx_next hx h2 hi⟩, by omega⟩ (sub_cons rfl (sub_cons rfl (sub_cons rfl (sub_cons rfl sub_nil)))) (sub_cons rfl sub_nil)
  · replace h1 := of_decide_eq_false h1
    refine T_exit' ?_
    refine p_then_x ?_
    refine p_then_x ?_
    refine p_blk_x ?_
    refine p_seq ?_
    refine T_seq (T_region ?_)
    refine TL_q (.int .i64 (-1)) (fun _ _ hρ _ => r_assign (hρ _ _ rfl)) rfl rfl rfl (w_n rfl) ?_
    refine TL_seq ?_
    refine T_ret' ?_
    refine ret_of rfl (.int .i64 (-1)) (fun tmps w hk hm => res1 rfl (res_tmp (hk 4 _ rfl))) (fun w hm => ?_)
    exact ⟨by rw [idx_end (by omega) hi], hm.ext⟩

theorem contains_col (l : List C4) (c : C4) (a : Option Addr) (cap : Nat) (w : World) (hv : SliceAt w a cap 4 C4.cells l) (hlen : l.length ≤ 4611686018427387904) :
    Calls Try.prog 34 #[.slice a l.length cap, c.v] w fun e w' => e = .returned (.bool (decide (c ∈ l))) ∧ Below w.heap.size w w' := by
  refine calls_of_T (l := [.slice a l.length cap, .agg #[.int .u8 c.r, .int .u8 c.g, .int .u8 c.b, .int .u8 c.a]]) 9 Try.func34 rfl rfl rfl ?_
  show T _ _ _ [(0, .slice a l.length cap), (1, .agg #[.int .u8 c.r, .int .u8 c.g, .int .u8 c.b, .int .u8 c.a])] []
  refine T_seq (T_region ?_)
  refine TL_new 1 (.cells #[.int .u8 c.r, .int .u8 c.g, .int .u8 c.b, .int .u8 c.a] 23) (fun B => .pointer (some ⟨B, 0, none⟩)) (fun _ _ hρ _ => r_box (hρ _ _ rfl) rfl) rfl rfl rfl (w_n rfl) ?_
  intro B1
  refine TL_q (.bool false) (fun _ _ hρ _ => r_assign (hρ _ _ rfl)) rfl rfl rfl (w_n rfl) ?_
  refine TL_seq ?_
  refine T_seq (T_region ?_)
  refine TL_q (.slice a l.length cap) (fun _ _ hρ _ => r_move (hρ _ _ rfl)) rfl rfl rfl (w_n rfl) ?_
  refine TL_q (.agg #[.int .u8 c.r, .int .u8 c.g, .int .u8 c.b, .int .u8 c.a]) (fun _ _ hρ hm => r_loadA ag23 sz23 (hρ _ _ rfl) (hm.at 1 rfl) rfl rfl) rfl rfl rfl (w_n rfl) ?_
  refine TL_call (.int .i64 (idxC l c 0)) (fun _ _ hρ _ => r_call (args := [.slice a l.length cap, .agg #[.int .u8 c.r, .int .u8 c.g, .int .u8 c.b, .int .u8 c.a]]) (enters_of Try.func46 (by kernel_rfl) rfl) (hρ _ _ rfl) ((cons2 (hρ _ _ rfl) (cons2 (hρ _ _ rfl) rfl))) rfl) (fun w hm => index_col l c a cap w (hv.keep hm.ext) hlen) rfl rfl rfl (w_n rfl) ?_
  refine TL_q (.bool (decide ((0 : Int) ≤ idxC l c 0))) (fun _ _ hρ _ => r_geq (hρ _ _ rfl) (hρ _ _ rfl)) rfl rfl rfl (w_n rfl) ?_
  refine TL_q (.bool (decide ((0 : Int) ≤ idxC l c 0))) (fun _ _ hρ _ => r_assign (hρ _ _ rfl)) rfl rfl rfl (w_n rfl) ?_
  refine TL_seq ?_
  refine T_ret' ?_
  refine ret_of rfl (.bool (decide ((0 : Int) ≤ idxC l c 0))) (fun tmps w hk hm => res1 rfl (res_tmp (hk 4 _ rfl))) (fun w hm => ?_)
  exact ⟨congrArg Ending.returned (bool_as (idx_mem c l 0)), hm.ext⟩
end Go.Proofs.Ytmlkifojbjbpcaa
