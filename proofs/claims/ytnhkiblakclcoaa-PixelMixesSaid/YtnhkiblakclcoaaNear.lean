/- pixel: Layers and Nearest of all rows. Printed by a program of this seat's prover. -/
import Derived.Test.YtnhkiblakclcoaaPixW
namespace Go.Proofs.Ytnhkiblakclcoaa
open Go.RowKit
set_option maxRecDepth 10000
set_option maxHeartbeats 1000000 in
theorem layers_c (u : C4) (l : List C4) (a : Option Addr) (cap : Nat) (w : World) (hu : u.ok) (hl : ∀ c ∈ l, c.ok) (hv : SliceAt w a cap 4 C4.cells l) (hlen : l.length ≤ 4611686018427387904) :
    Calls Try.prog 23 #[u.v, .slice a l.length cap] w fun e w' => e = .returned (l.foldl overC u).v ∧ Below w.heap.size w w' := by
  refine calls_of_T (l := [.agg #[.int .u8 u.r, .int .u8 u.g, .int .u8 u.b, .int .u8 u.a], .slice a l.length cap]) 18 Try.func23 rfl rfl rfl ?_
  show T _ _ _ [(0, .agg #[.int .u8 u.r, .int .u8 u.g, .int .u8 u.b, .int .u8 u.a]), (1, .slice a l.length cap)] []
  refine T_seq (T_region ?_)
  refine TL_new 1 (.cells #[.int .u8 u.r, .int .u8 u.g, .int .u8 u.b, .int .u8 u.a] 27) (fun B => .pointer (some ⟨B, 0, none⟩)) (fun ρ w hρ hm => r_box (hρ _ _ rfl) rfl) rfl rfl rfl (w_n rfl) ?_
  intro B1
  refine TL_new 2 (.cells #[.int .u8 0, .int .u8 0, .int .u8 0, .int .u8 0] 27) (fun B => .pointer (some ⟨B, 0, none⟩)) (fun ρ w hρ hm => r_alloc (v := .agg #[.int .u8 0, .int .u8 0, .int .u8 0, .int .u8 0]) (by kernel_rfl) rfl) rfl rfl rfl (w_n rfl) ?_
  intro B2
  refine TL_seq ?_
  refine T_seq ?_
  refine T_seq (T_region ?_)
  refine TL_q (.slice a l.length cap) (fun ρ w hρ hm => r_move (hρ _ _ rfl)) rfl rfl rfl (w_n rfl) ?_
  refine TL_q (.int .i64 ((l.length : Nat) : Int)) (fun ρ w hρ hm => r_len sl22 (hρ _ _ rfl)) rfl rfl rfl (w_n rfl) ?_
  refine TL_q (.int .i64 0) (fun ρ w hρ hm => r_move (hρ _ _ rfl)) rfl rfl rfl (w_n rfl) ?_
  refine TL_seq ?_
  refine T_block ?_
  refine T_loop (ι := Nat × C4) (fun (z : Nat × C4) => match z with | (k, c) => k ≤ l.length ∧ (l.take k).foldl overC u = c ∧ c.ok) (fun (z : Nat × C4) => match z with | (k, c) => [(2, .pointer (some ⟨B1, 0, none⟩)), (4, .pointer (some ⟨B2, 0, none⟩)), (7, .slice a l.length cap), (8, .int .i64 ((l.length : Nat) : Int)), (9, .int .i64 ((k : Nat) : Int))]) (fun (z : Nat × C4) => match z with | (k, c) => [(2, .blk B2 (.cells #[.int .u8 0, .int .u8 0, .int .u8 0, .int .u8 0] 27)), (1, .blk B1 (.cells #[.int .u8 c.r, .int .u8 c.g, .int .u8 c.b, .int .u8 c.a] 27))]) (fun (z : Nat × C4) => match z with | (k, c) => l.length - k) (0, u) ⟨Nat.zero_le _, by simp, hu⟩ (sub_cons rfl (sub_cons rfl (sub_cons rfl (sub_cons rfl (sub_cons rfl sub_nil))))) (sub_cons rfl (sub_cons rfl sub_nil)) ?_
  rintro ⟨k, c⟩ hp
  obtain ⟨hk, hc, hco⟩ := hp
  show T _ _ _ [(2, .pointer (some ⟨B1, 0, none⟩)), (4, .pointer (some ⟨B2, 0, none⟩)), (7, .slice a l.length cap), (8, .int .i64 ((l.length : Nat) : Int)), (9, .int .i64 ((k : Nat) : Int))] [(2, .blk B2 (.cells #[.int .u8 0, .int .u8 0, .int .u8 0, .int .u8 0] 27)), (1, .blk B1 (.cells #[.int .u8 c.r, .int .u8 c.g, .int .u8 c.b, .int .u8 c.a] 27))]
  refine T_seq (T_region ?_)
  refine TL_q (.bool (decide (((k : Nat) : Int) < ((l.length : Nat) : Int)))) (fun ρ w hρ hm => r_lss (hρ _ _ rfl) (hρ _ _ rfl)) rfl rfl rfl (w_n rfl) ?_
  refine TL_seq ?_
  refine T_seq ?_
  refine T_cond rfl (fun h1 => ?_) (fun h1 => ?_)
  · try simp only [decide_eq_true_eq, decide_eq_false_iff_not, Bool.not_eq_true', Bool.not_eq_false', Bool.not_eq_eq_eq_not, Bool.not_true, Bool.not_false, Bool.and_true, Bool.and_eq_true, Bool.and_eq_false_iff, Bool.or_eq_true, Bool.or_eq_false_iff] at h1
    refine T_skip' ?_
    refine p_seq ?_
    refine T_seq ?_
    refine T_block ?_
    obtain ⟨x, hx⟩ : ∃ x, l[k]? = some x := ⟨_, List.getElem?_eq_getElem (by omega)⟩
    have kx : x.ok := hl x (List.mem_of_getElem? hx)
    obtain ⟨b3, of3, cs3, T3, fz3, ha3, hq3, hr3⟩ := hv.open (i := k) (by omega)
    subst ha3
    refine T_seq (T_region ?_)
    refine TL_q (.pointer (some ⟨b3, of3 + k * 4, none⟩)) (fun ρ w hρ hm => r_indexAddrS (i := k) sl22 sz27 (hρ _ _ rfl) (hρ _ _ rfl) (by omega)) rfl rfl rfl (w_n rfl) ?_
    refine TL_q (.agg #[.int .u8 x.r, .int .u8 x.g, .int .u8 x.b, .int .u8 x.a]) (fun ρ w hρ hm => r_loadRow (f := C4.cells) (u := x) ag27 sz27 (hρ _ _ rfl) (hm.old hq3) hr3 hx) rfl rfl rfl (w_n rfl) ?_
    refine TL_new 3 (.cells #[.int .u8 0, .int .u8 0, .int .u8 0, .int .u8 0] 27) (fun B => .pointer (some ⟨B, 0, none⟩)) (fun ρ w hρ hm => r_alloc (v := .agg #[.int .u8 0, .int .u8 0, .int .u8 0, .int .u8 0]) (by kernel_rfl) rfl) rfl rfl rfl (w_n rfl) ?_
    intro B4
    refine TL_store 3 (.cells #[.int .u8 x.r, .int .u8 x.g, .int .u8 x.b, .int .u8 x.a] 27) rfl (fun ρ w hρ hm => r_store sz27 (hρ _ _ rfl) (hρ _ _ rfl) (hm.at 3 rfl) rfl rfl rfl rfl) rfl rfl (w_n rfl) ?_
    refine TL_seq ?_
    refine T_region ?_
    refine TL_q (.agg #[.int .u8 c.r, .int .u8 c.g, .int .u8 c.b, .int .u8 c.a]) (fun ρ w hρ hm => r_loadA ag27 sz27 (hρ _ _ rfl) (hm.at 1 rfl) rfl rfl) rfl rfl rfl (w_n rfl) ?_
    refine TL_q (.agg #[.int .u8 x.r, .int .u8 x.g, .int .u8 x.b, .int .u8 x.a]) (fun ρ w hρ hm => r_loadA ag27 sz27 (hρ _ _ rfl) (hm.at 3 rfl) rfl rfl) rfl rfl rfl (w_n rfl) ?_
    refine TL_call (.agg #[.int .u8 ((overC c x).r), .int .u8 ((overC c x).g), .int .u8 ((overC c x).b), .int .u8 ((overC c x).a)]) (fun ρ w hρ hm => r_call (args := [.agg #[.int .u8 c.r, .int .u8 c.g, .int .u8 c.b, .int .u8 c.a], .agg #[.int .u8 x.r, .int .u8 x.g, .int .u8 x.b, .int .u8 x.a]]) (enters_of Try.func20 (by kernel_rfl) rfl) (hρ _ _ rfl) ((cons2 (hρ _ _ rfl) (cons2 (hρ _ _ rfl) rfl))) rfl) (fun w hm => over_c c x w hco kx) rfl rfl rfl (w_n rfl) ?_
    refine TL_store 1 (.cells #[.int .u8 ((overC c x).r), .int .u8 ((overC c x).g), .int .u8 ((overC c x).b), .int .u8 ((overC c x).a)] 27) rfl (fun ρ w hρ hm => r_store sz27 (hρ _ _ rfl) (hρ _ _ rfl) (hm.at 1 rfl) rfl rfl rfl rfl) rfl rfl (w_n rfl) ?_
    refine TL_nil ?_
    refine p_blk_n ?_
    refine p_seq ?_
    refine T_region ?_
    refine TL_q (.int .i64 (((k : Nat) : Int) + 1)) (fun ρ w hρ hm => r_as (r_add (hρ _ _ rfl) (hρ _ _ rfl)) (int_as (wrap64 (by omega) (by omega)))) rfl rfl rfl (w_n rfl) ?_
    refine TL_q (.int .i64 (((k : Nat) : Int) + 1)) (fun ρ w hρ hm => r_move (hρ _ _ rfl)) rfl rfl rfl (w_n rfl) ?_
    refine TL_nil ?_
    exact p_at (k + 1, overC c x) ⟨⟨by omega, by rw [List.take_add_one, hx, List.foldl_append, hc]; rfl, overC_ok hco kx⟩, by dsimp only; omega⟩ (sub_cons rfl (sub_cons rfl (sub_cons rfl (sub_cons rfl (sub_cons rfl sub_nil))))) (sub_cons rfl (sub_cons rfl sub_nil))
  · try simp only [decide_eq_true_eq, decide_eq_false_iff_not, Bool.not_eq_true', Bool.not_eq_false', Bool.not_eq_eq_eq_not, Bool.not_true, Bool.not_false, Bool.and_true, Bool.and_eq_true, Bool.and_eq_false_iff, Bool.or_eq_true, Bool.or_eq_false_iff] at h1
    refine T_exit' ?_
    refine p_then_x ?_
    refine p_then_x ?_
    refine p_blk_x ?_
    refine p_seq ?_
    refine T_seq (T_region ?_)
    refine TL_q (.agg #[.int .u8 c.r, .int .u8 c.g, .int .u8 c.b, .int .u8 c.a]) (fun ρ w hρ hm => r_loadA ag27 sz27 (hρ _ _ rfl) (hm.at 1 rfl) rfl rfl) rfl rfl rfl (w_n rfl) ?_
    refine TL_store 2 (.cells #[.int .u8 c.r, .int .u8 c.g, .int .u8 c.b, .int .u8 c.a] 27) rfl (fun ρ w hρ hm => r_store sz27 (hρ _ _ rfl) (hρ _ _ rfl) (hm.at 2 rfl) rfl rfl rfl rfl) rfl rfl (w_n rfl) ?_
    refine TL_seq ?_
    refine T_ret' ?_
    refine ret_of rfl (.agg #[.int .u8 c.r, .int .u8 c.g, .int .u8 c.b, .int .u8 c.a]) (fun tmps w hk hm => res1 rfl (res_cell (hk 4 _ rfl) (run_loadVar_agg ag27 sz27 (hm.at 2 rfl) (Nat.le_of_ble_eq_true rfl) rfl))) (fun w hm => ?_)
    have hkl : k = l.length := by omega
    subst hkl
    rw [List.take_length] at hc
    exact ⟨by rw [hc], hm.ext⟩

set_option maxHeartbeats 1000000 in
theorem nearest_c (c : C4) (l : List C4) (a : Option Addr) (cap : Nat) (w : World) (hc : c.ok) (hl : ∀ c ∈ l, c.ok) (hv : SliceAt w a cap 4 C4.cells l) (hlen : l.length ≤ 4611686018427387904) :
    Calls Try.prog 19 #[c.v, .slice a l.length cap] w fun e w' => e = .returned (.int .i64 (nearN c l l.length)) ∧ Below w.heap.size w w' := by
  refine calls_of_T (l := [.agg #[.int .u8 c.r, .int .u8 c.g, .int .u8 c.b, .int .u8 c.a], .slice a l.length cap]) 32 Try.func19 rfl rfl rfl ?_
  show T _ _ _ [(0, .agg #[.int .u8 c.r, .int .u8 c.g, .int .u8 c.b, .int .u8 c.a]), (1, .slice a l.length cap)] []
  refine T_seq (T_region ?_)
  refine TL_new 1 (.cells #[.int .u8 c.r, .int .u8 c.g, .int .u8 c.b, .int .u8 c.a] 27) (fun B => .pointer (some ⟨B, 0, none⟩)) (fun ρ w hρ hm => r_box (hρ _ _ rfl) rfl) rfl rfl rfl (w_n rfl) ?_
  intro B1
  refine TL_q (.int .i64 0) (fun ρ w hρ hm => r_assign (hρ _ _ rfl)) rfl rfl rfl (w_n rfl) ?_
  refine TL_seq ?_
  refine T_seq (T_region ?_)
  refine TL_q (.int .i64 (-1)) (fun ρ w hρ hm => r_assign (hρ _ _ rfl)) rfl rfl rfl (w_n rfl) ?_
  refine TL_seq ?_
  refine T_seq ?_
  refine T_seq (T_region ?_)
  refine TL_q (.slice a l.length cap) (fun ρ w hρ hm => r_move (hρ _ _ rfl)) rfl rfl rfl (w_n rfl) ?_
  refine TL_q (.int .i64 ((l.length : Nat) : Int)) (fun ρ w hρ hm => r_len sl22 (hρ _ _ rfl)) rfl rfl rfl (w_n rfl) ?_
  refine TL_q (.int .i64 0) (fun ρ w hρ hm => r_move (hρ _ _ rfl)) rfl rfl rfl (w_n rfl) ?_
  refine TL_seq ?_
  refine T_block ?_
  refine T_loop (ι := Nat × Int) (fun (z : Nat × Int) => match z with | (k, best) => k ≤ l.length ∧ best = nearN c l k ∧ -1 ≤ best ∧ best < k) (fun (z : Nat × Int) => match z with | (k, best) => [(1, .slice a l.length cap), (2, .pointer (some ⟨B1, 0, none⟩)), (4, .int .i64 0), (8, .slice a l.length cap), (9, .int .i64 ((l.length : Nat) : Int)), (10, .int .i64 ((k : Nat) : Int)), (5, .int .i64 best)]) (fun (z : Nat × Int) => match z with | (k, best) => [(1, .blk B1 (.cells #[.int .u8 c.r, .int .u8 c.g, .int .u8 c.b, .int .u8 c.a] 27))]) (fun (z : Nat × Int) => match z with | (k, best) => l.length - k) (0, (-1)) ⟨Nat.zero_le _, rfl, by omega, by omega⟩ (sub_cons rfl (sub_cons rfl (sub_cons rfl (sub_cons rfl (sub_cons rfl (sub_cons rfl (sub_cons rfl sub_nil))))))) (sub_cons rfl sub_nil) ?_
  rintro ⟨k, best⟩ hp
  obtain ⟨hk, hbest, hb1, hb2⟩ := hp
  show T _ _ _ [(1, .slice a l.length cap), (2, .pointer (some ⟨B1, 0, none⟩)), (4, .int .i64 0), (8, .slice a l.length cap), (9, .int .i64 ((l.length : Nat) : Int)), (10, .int .i64 ((k : Nat) : Int)), (5, .int .i64 best)] [(1, .blk B1 (.cells #[.int .u8 c.r, .int .u8 c.g, .int .u8 c.b, .int .u8 c.a] 27))]
  refine T_seq (T_region ?_)
  refine TL_q (.bool (decide (((k : Nat) : Int) < ((l.length : Nat) : Int)))) (fun ρ w hρ hm => r_lss (hρ _ _ rfl) (hρ _ _ rfl)) rfl rfl rfl (w_n rfl) ?_
  refine TL_seq ?_
  refine T_seq ?_
  refine T_cond rfl (fun h1 => ?_) (fun h1 => ?_)
  · try simp only [decide_eq_true_eq, decide_eq_false_iff_not, Bool.not_eq_true', Bool.not_eq_false', Bool.not_eq_eq_eq_not, Bool.not_true, Bool.not_false, Bool.and_true, Bool.and_eq_true, Bool.and_eq_false_iff, Bool.or_eq_true, Bool.or_eq_false_iff] at h1
    refine T_skip' ?_
    refine p_seq ?_
    refine T_seq ?_
    refine T_block ?_
    obtain ⟨x, hx⟩ : ∃ x, l[k]? = some x := ⟨_, List.getElem?_eq_getElem (by omega)⟩
    have kx : x.ok := hl x (List.mem_of_getElem? hx)
    obtain ⟨b2, of2, cs2, T2, fz2, ha2, hq2, hr2⟩ := hv.open (i := k) (by omega)
    subst ha2
    refine T_seq (T_region ?_)
    refine TL_q (.int .i64 ((k : Nat) : Int)) (fun ρ w hρ hm => r_move (hρ _ _ rfl)) rfl rfl rfl (w_n rfl) ?_
    refine TL_q (.pointer (some ⟨b2, of2 + k * 4, none⟩)) (fun ρ w hρ hm => r_indexAddrS (i := k) sl22 sz27 (hρ _ _ rfl) (hρ _ _ rfl) (by omega)) rfl rfl rfl (w_n rfl) ?_
    refine TL_q (.agg #[.int .u8 x.r, .int .u8 x.g, .int .u8 x.b, .int .u8 x.a]) (fun ρ w hρ hm => r_loadRow (f := C4.cells) (u := x) ag27 sz27 (hρ _ _ rfl) (hm.old hq2) hr2 hx) rfl rfl rfl (w_n rfl) ?_
    refine TL_new 2 (.cells #[.int .u8 0, .int .u8 0, .int .u8 0, .int .u8 0] 27) (fun B => .pointer (some ⟨B, 0, none⟩)) (fun ρ w hρ hm => r_alloc (v := .agg #[.int .u8 0, .int .u8 0, .int .u8 0, .int .u8 0]) (by kernel_rfl) rfl) rfl rfl rfl (w_n rfl) ?_
    intro B3
    refine TL_q (.int .i64 ((k : Nat) : Int)) (fun ρ w hρ hm => r_assign (hρ _ _ rfl)) rfl rfl rfl (w_n rfl) ?_
    refine TL_store 2 (.cells #[.int .u8 x.r, .int .u8 x.g, .int .u8 x.b, .int .u8 x.a] 27) rfl (fun ρ w hρ hm => r_store sz27 (hρ _ _ rfl) (hρ _ _ rfl) (hm.at 2 rfl) rfl rfl rfl rfl) rfl rfl (w_n rfl) ?_
    refine TL_seq ?_
    by_cases hneg : best < 0
    · skip
      refine T_seq (T_draw (V := [(0, .int .i64 best), (1, .bool true), (2, .bool true), (3, undef), (4, undef), (5, undef), (6, undef), (7, undef), (8, undef), (9, undef), (10, undef), (11, undef), (12, undef), (13, .bool true)]) [0, 1, 3, 7, 7, 31, 7, 7, 7, 391, 903, 2047, 4095, 8191] [[(5, none)], [(15, some 0)], [(16, some 1)], [(2, none)], [(7, none)], [(18, some 3), (19, some 4)], [(2, none)], [(1, none)], [(5, none)], [(22, some 7), (23, some 8)], [(24, some 9)], [(21, some 6), (25, some 10)], [(20, some 5), (26, some 11)], [(27, some 12), (17, some 2)]] 0 mixed (by kernel_rfl) ?_)
      refine G_last [0, 1, 2, 3, 4, 5, 6, 7, 8, 9, 10, 11, 12, 13] [(1, .slice (some ⟨b2, of2, none⟩) l.length cap), (2, .pointer (some ⟨B1, 0, none⟩)), (4, .int .i64 0), (8, .slice (some ⟨b2, of2, none⟩) l.length cap), (9, .int .i64 ((l.length : Nat) : Int)), (10, .int .i64 ((k : Nat) : Int)), (5, .int .i64 best), (11, .bool (decide (((k : Nat) : Int) < ((l.length : Nat) : Int)))), (12, .int .i64 ((k : Nat) : Int)), (13, .pointer (some ⟨b2, of2 + k * 4, none⟩)), (14, .agg #[.int .u8 x.r, .int .u8 x.g, .int .u8 x.b, .int .u8 x.a]), (7, .pointer (some ⟨B3, 0, none⟩)), (6, .int .i64 ((k : Nat) : Int)), (15, .int .i64 best), (16, .bool true), (17, .bool true), (18, undef), (19, undef), (20, undef), (21, undef), (22, undef), (23, undef), (24, undef), (25, undef), (26, undef), (27, undef), (28, .bool true)] (by kernel_rfl) (allM (all_cons (q_run (.int .i64 best) rfl rfl (wv_n rfl) rfl (fun ρ w hρ hm => r_move (hρ _ _ rfl))) (all_cons (q_run (.bool true) rfl rfl (wv_n rfl) rfl (fun ρ w hρ hm => r_as (r_lss (hρ _ _ rfl) (hρ _ _ rfl)) (bool_as (decide_eq_true hneg)))) (all_cons (q_run (.bool true) rfl rfl (wv_n rfl) rfl (fun ρ w hρ hm => r_move (hρ _ _ rfl))) (all_cons (q_no rfl rfl (wv_no rfl rfl)) (all_cons (q_no rfl rfl (wv_no rfl rfl)) (all_cons (q_no rfl rfl (wv_no rfl rfl)) (all_cons (q_no rfl rfl (wv_no rfl rfl)) (all_cons (q_no rfl rfl (wv_no rfl rfl)) (all_cons (q_no rfl rfl (wv_no rfl rfl)) (all_cons (q_no rfl rfl (wv_no rfl rfl)) (all_cons (q_no rfl rfl (wv_no rfl rfl)) (all_cons (q_no rfl rfl (wv_no rfl rfl)) (all_cons (q_no rfl rfl (wv_no rfl rfl)) (all_cons (q_run (.bool true) rfl rfl (wv_n rfl) rfl (fun ρ w hρ hm => r_pick_t (hρ _ _ rfl) (hρ _ _ rfl))) all_nil))))))))))))))) (end_old rfl rfl (end_old rfl rfl (end_old rfl rfl (end_old rfl rfl (end_old rfl rfl (end_old rfl rfl (end_old rfl rfl (end_old rfl rfl (end_old rfl rfl (end_old rfl rfl (end_old rfl rfl (end_old rfl rfl (end_old rfl rfl (end_new 0 rfl rfl (end_new 1 rfl rfl (end_new 2 rfl rfl (end_new 3 rfl rfl (end_new 4 rfl rfl (end_new 5 rfl rfl (end_new 6 rfl rfl (end_new 7 rfl rfl (end_new 8 rfl rfl (end_new 9 rfl rfl (end_new 10 rfl rfl (end_new 11 rfl rfl (end_new 12 rfl rfl (end_new 13 rfl rfl end_nil))))))))))))))))))))))))))) ?_
      refine T_cond_t rfl ?_
      refine T_region ?_
      refine TL_q (.int .i64 ((k : Nat) : Int)) (fun ρ w hρ hm => r_move (hρ _ _ rfl)) rfl rfl rfl (w_n rfl) ?_
      refine TL_q (.int .i64 ((k : Nat) : Int)) (fun ρ w hρ hm => r_assign (hρ _ _ rfl)) rfl rfl rfl (w_n rfl) ?_
      refine TL_nil ?_
      refine p_blk_n ?_
      refine p_seq ?_
      refine T_region ?_
      refine TL_q (.int .i64 (((k : Nat) : Int) + 1)) (fun ρ w hρ hm => r_as (r_add (hρ _ _ rfl) (hρ _ _ rfl)) (int_as (wrap64 (by omega) (by omega)))) rfl rfl rfl (w_n rfl) ?_
      refine TL_q (.int .i64 (((k : Nat) : Int) + 1)) (fun ρ w hρ hm => r_move (hρ _ _ rfl)) rfl rfl rfl (w_n rfl) ?_
      refine TL_nil ?_
      exact p_at (k + 1, ((k : Nat) : Int)) ⟨⟨by omega, by first | exact near_neg hbest.symm hneg | exact near_lt hbest.symm hx hy (by omega) | exact near_ge hbest.symm hx hy (by omega), by omega, by omega⟩, by dsimp only; omega⟩ (sub_cons rfl (sub_cons rfl (sub_cons rfl (sub_cons rfl (sub_cons rfl (sub_cons rfl (sub_cons rfl sub_nil))))))) (sub_cons rfl sub_nil)
    · skip
      obtain ⟨j, rfl⟩ : ∃ j : Nat, best = j := ⟨best.toNat, by omega⟩
      obtain ⟨y, hy⟩ : ∃ x, l[j]? = some x := ⟨_, List.getElem?_eq_getElem (by omega)⟩
      have ky : y.ok := hl y (List.mem_of_getElem? hy)
      refine T_seq (T_draw (V := [(0, .int .i64 ((j : Nat) : Int)), (1, .bool false), (2, .bool false), (3, .agg #[.int .u8 c.r, .int .u8 c.g, .int .u8 c.b, .int .u8 c.a]), (4, .agg #[.int .u8 x.r, .int .u8 x.g, .int .u8 x.b, .int .u8 x.a]), (6, .agg #[.int .u8 c.r, .int .u8 c.g, .int .u8 c.b, .int .u8 c.a]), (7, .slice (some ⟨b2, of2, none⟩) l.length cap), (8, .int .i64 ((j : Nat) : Int)), (9, .pointer (some ⟨b2, of2 + j * 4, none⟩)), (10, .agg #[.int .u8 y.r, .int .u8 y.g, .int .u8 y.b, .int .u8 y.a])]) [0, 1, 3, 7, 7, 31, 7, 7, 7, 391, 903, 2047, 4095, 8191] [[(5, none)], [(15, some 0)], [(16, some 1)], [(2, none)], [(7, none)], [(18, some 3), (19, some 4)], [(2, none)], [(1, none)], [(5, none)], [(22, some 7), (23, some 8)], [(24, some 9)], [(21, some 6), (25, some 10)], [(20, some 5), (26, some 11)], [(27, some 12), (17, some 2)]] 2080 mixed (by kernel_rfl) ?_)
      refine G_step [0, 1, 2, 3, 4, 6, 7, 8, 9, 10] 5 [] (by kernel_rfl) (allM (all_cons (q_run (.int .i64 ((j : Nat) : Int)) rfl rfl (wv_n rfl) rfl (fun ρ w hρ hm => r_move (hρ _ _ rfl))) (all_cons (q_run (.bool false) rfl rfl (wv_n rfl) rfl (fun ρ w hρ hm => r_as (r_lss (hρ _ _ rfl) (hρ _ _ rfl)) (bool_as (decide_eq_false hneg)))) (all_cons (q_run (.bool false) rfl rfl (wv_n rfl) rfl (fun ρ w hρ hm => r_move (hρ _ _ rfl))) (all_cons (q_run (.agg #[.int .u8 c.r, .int .u8 c.g, .int .u8 c.b, .int .u8 c.a]) rfl rfl (wv_y rfl rfl) rfl (fun ρ w hρ hm => r_loadA ag27 sz27 (hρ _ _ rfl) (hm.at 1 rfl) rfl rfl)) (all_cons (q_run (.agg #[.int .u8 x.r, .int .u8 x.g, .int .u8 x.b, .int .u8 x.a]) rfl rfl (wv_y rfl rfl) rfl (fun ρ w hρ hm => r_loadA ag27 sz27 (hρ _ _ rfl) (hm.at 2 rfl) rfl rfl)) (all_cons (q_run (.agg #[.int .u8 c.r, .int .u8 c.g, .int .u8 c.b, .int .u8 c.a]) rfl rfl (wv_y rfl rfl) rfl (fun ρ w hρ hm => r_loadA ag27 sz27 (hρ _ _ rfl) (hm.at 1 rfl) rfl rfl)) (all_cons (q_run (.slice (some ⟨b2, of2, none⟩) l.length cap) rfl rfl (wv_y rfl rfl) rfl (fun ρ w hρ hm => r_move (hρ _ _ rfl))) (all_cons (q_run (.int .i64 ((j : Nat) : Int)) rfl rfl (wv_y rfl rfl) rfl (fun ρ w hρ hm => r_move (hρ _ _ rfl))) (all_cons (q_run (.pointer (some ⟨b2, of2 + j * 4, none⟩)) rfl rfl (wv_y rfl rfl) rfl (fun ρ w hρ hm => r_indexAddrS (i := j) sl22 sz27 (hρ _ _ rfl) (hρ _ _ rfl) (by omega))) (all_cons (q_run (.agg #[.int .u8 y.r, .int .u8 y.g, .int .u8 y.b, .int .u8 y.a]) rfl rfl (wv_y rfl rfl) rfl (fun ρ w hρ hm => r_loadRow (f := C4.cells) (u := y) ag27 sz27 (hρ _ _ rfl) (hm.old hq2) hr2 hy)) all_nil))))))))))) (allM (all_cons ?_ all_nil))
      refine LOb_call (.int .i64 (farC c x)) [] rfl (wv_y rfl rfl) rfl rfl (fun ρ w hρ hm => r_call (args := [.agg #[.int .u8 c.r, .int .u8 c.g, .int .u8 c.b, .int .u8 c.a], .agg #[.int .u8 x.r, .int .u8 x.g, .int .u8 x.b, .int .u8 x.a]]) (enters_of Try.func17 (by kernel_rfl) rfl) (hρ _ _ rfl) ((cons2 (hρ _ _ rfl) (cons2 (hρ _ _ rfl) rfl))) rfl) (fun w hm => far_c c x w hc kx) (by kernel_rfl) ?_
      refine G_step [6, 7, 8, 9, 10] 11 [] (by kernel_rfl) (allM (all_cons (q_run (.agg #[.int .u8 c.r, .int .u8 c.g, .int .u8 c.b, .int .u8 c.a]) rfl rfl (wv_y rfl rfl) rfl (fun ρ w hρ hm => r_loadA ag27 sz27 (hρ _ _ rfl) (hm.at 1 rfl) rfl rfl)) (all_cons (q_run (.slice (some ⟨b2, of2, none⟩) l.length cap) rfl rfl (wv_y rfl rfl) rfl (fun ρ w hρ hm => r_move (hρ _ _ rfl))) (all_cons (q_run (.int .i64 ((j : Nat) : Int)) rfl rfl (wv_y rfl rfl) rfl (fun ρ w hρ hm => r_move (hρ _ _ rfl))) (all_cons (q_run (.pointer (some ⟨b2, of2 + j * 4, none⟩)) rfl rfl (wv_y rfl rfl) rfl (fun ρ w hρ hm => r_indexAddrS (i := j) sl22 sz27 (hρ _ _ rfl) (hρ _ _ rfl) (by omega))) (all_cons (q_run (.agg #[.int .u8 y.r, .int .u8 y.g, .int .u8 y.b, .int .u8 y.a]) rfl rfl (wv_y rfl rfl) rfl (fun ρ w hρ hm => r_loadRow (f := C4.cells) (u := y) ag27 sz27 (hρ _ _ rfl) (hm.old hq2) hr2 hy)) all_nil)))))) (allM (all_cons ?_ all_nil))
      refine LOb_call (.int .i64 (farC c y)) [(12, .bool (decide (farC c x < farC c y))), (13, .bool (decide (farC c x < farC c y)))] rfl (wv_y rfl rfl) rfl rfl (fun ρ w hρ hm => r_call (args := [.agg #[.int .u8 c.r, .int .u8 c.g, .int .u8 c.b, .int .u8 c.a], .agg #[.int .u8 y.r, .int .u8 y.g, .int .u8 y.b, .int .u8 y.a]]) (enters_of Try.func17 (by kernel_rfl) rfl) (hρ _ _ rfl) ((cons2 (hρ _ _ rfl) (cons2 (hρ _ _ rfl) rfl))) rfl) (fun w hm => far_c c y w hc ky) (by kernel_rfl) ?_
      refine G_last [12, 13] [(1, .slice (some ⟨b2, of2, none⟩) l.length cap), (2, .pointer (some ⟨B1, 0, none⟩)), (4, .int .i64 0), (8, .slice (some ⟨b2, of2, none⟩) l.length cap), (9, .int .i64 ((l.length : Nat) : Int)), (10, .int .i64 ((k : Nat) : Int)), (5, .int .i64 ((j : Nat) : Int)), (11, .bool (decide (((k : Nat) : Int) < ((l.length : Nat) : Int)))), (12, .int .i64 ((k : Nat) : Int)), (13, .pointer (some ⟨b2, of2 + k * 4, none⟩)), (14, .agg #[.int .u8 x.r, .int .u8 x.g, .int .u8 x.b, .int .u8 x.a]), (7, .pointer (some ⟨B3, 0, none⟩)), (6, .int .i64 ((k : Nat) : Int)), (15, .int .i64 ((j : Nat) : Int)), (16, .bool false), (17, .bool false), (18, .agg #[.int .u8 c.r, .int .u8 c.g, .int .u8 c.b, .int .u8 c.a]), (19, .agg #[.int .u8 x.r, .int .u8 x.g, .int .u8 x.b, .int .u8 x.a]), (20, .int .i64 (farC c x)), (21, .agg #[.int .u8 c.r, .int .u8 c.g, .int .u8 c.b, .int .u8 c.a]), (22, .slice (some ⟨b2, of2, none⟩) l.length cap), (23, .int .i64 ((j : Nat) : Int)), (24, .pointer (some ⟨b2, of2 + j * 4, none⟩)), (25, .agg #[.int .u8 y.r, .int .u8 y.g, .int .u8 y.b, .int .u8 y.a]), (26, .int .i64 (farC c y)), (27, .bool (decide (farC c x < farC c y))), (28, .bool (decide (farC c x < farC c y)))] (by kernel_rfl) (allM (all_cons (q_run (.bool (decide (farC c x < farC c y))) rfl rfl (wv_y rfl rfl) rfl (fun ρ w hρ hm => r_lss (hρ _ _ rfl) (hρ _ _ rfl))) (all_cons (q_run (.bool (decide (farC c x < farC c y))) rfl rfl (wv_n rfl) rfl (fun ρ w hρ hm => r_pick_f (hρ _ _ rfl) (hρ _ _ rfl))) all_nil))) (end_old rfl rfl (end_old rfl rfl (end_old rfl rfl (end_old rfl rfl (end_old rfl rfl (end_old rfl rfl (end_old rfl rfl (end_old rfl rfl (end_old rfl rfl (end_old rfl rfl (end_old rfl rfl (end_old rfl rfl (end_old rfl rfl (end_new 0 rfl rfl (end_new 1 rfl rfl (end_new 2 rfl rfl (end_new 3 rfl rfl (end_new 4 rfl rfl (end_new 5 rfl rfl (end_new 6 rfl rfl (end_new 7 rfl rfl (end_new 8 rfl rfl (end_new 9 rfl rfl (end_new 10 rfl rfl (end_new 11 rfl rfl (end_new 12 rfl rfl (end_new 13 rfl rfl end_nil))))))))))))))))))))))))))) ?_
      refine T_cond rfl (fun h2 => ?_) (fun h2 => ?_)
      · try simp only [decide_eq_true_eq, decide_eq_false_iff_not, Bool.not_eq_true', Bool.not_eq_false', Bool.not_eq_eq_eq_not, Bool.not_true, Bool.not_false, Bool.and_true, Bool.and_eq_true, Bool.and_eq_false_iff, Bool.or_eq_true, Bool.or_eq_false_iff] at h2
        refine T_region ?_
        refine TL_q (.int .i64 ((k : Nat) : Int)) (fun ρ w hρ hm => r_move (hρ _ _ rfl)) rfl rfl rfl (w_n rfl) ?_
        refine TL_q (.int .i64 ((k : Nat) : Int)) (fun ρ w hρ hm => r_assign (hρ _ _ rfl)) rfl rfl rfl (w_n rfl) ?_
        refine TL_nil ?_
        refine p_blk_n ?_
        refine p_seq ?_
        refine T_region ?_
        refine TL_q (.int .i64 (((k : Nat) : Int) + 1)) (fun ρ w hρ hm => r_as (r_add (hρ _ _ rfl) (hρ _ _ rfl)) (int_as (wrap64 (by omega) (by omega)))) rfl rfl rfl (w_n rfl) ?_
        refine TL_q (.int .i64 (((k : Nat) : Int) + 1)) (fun ρ w hρ hm => r_move (hρ _ _ rfl)) rfl rfl rfl (w_n rfl) ?_
        refine TL_nil ?_
        exact p_at (k + 1, ((k : Nat) : Int)) ⟨⟨by omega, by first | exact near_neg hbest.symm hneg | exact near_lt hbest.symm hx hy (by omega) | exact near_ge hbest.symm hx hy (by omega), by omega, by omega⟩, by dsimp only; omega⟩ (sub_cons rfl (sub_cons rfl (sub_cons rfl (sub_cons rfl (sub_cons rfl (sub_cons rfl (sub_cons rfl sub_nil))))))) (sub_cons rfl sub_nil)
      · try simp only [decide_eq_true_eq, decide_eq_false_iff_not, Bool.not_eq_true', Bool.not_eq_false', Bool.not_eq_eq_eq_not, Bool.not_true, Bool.not_false, Bool.and_true, Bool.and_eq_true, Bool.and_eq_false_iff, Bool.or_eq_true, Bool.or_eq_false_iff] at h2
        refine T_skip' ?_
        refine p_blk_n ?_
        refine p_seq ?_
        refine T_region ?_
        refine TL_q (.int .i64 (((k : Nat) : Int) + 1)) (fun ρ w hρ hm => r_as (r_add (hρ _ _ rfl) (hρ _ _ rfl)) (int_as (wrap64 (by omega) (by omega)))) rfl rfl rfl (w_n rfl) ?_
        refine TL_q (.int .i64 (((k : Nat) : Int) + 1)) (fun ρ w hρ hm => r_move (hρ _ _ rfl)) rfl rfl rfl (w_n rfl) ?_
        refine TL_nil ?_
        exact p_at (k + 1, (j : Int)) ⟨⟨by omega, by first | exact near_neg hbest.symm hneg | exact near_lt hbest.symm hx hy (by omega) | exact near_ge hbest.symm hx hy (by omega), by omega, by omega⟩, by dsimp only; omega⟩ (sub_cons rfl (sub_cons rfl (sub_cons rfl (sub_cons rfl (sub_cons rfl (sub_cons rfl (sub_cons rfl sub_nil))))))) (sub_cons rfl sub_nil)
  · try simp only [decide_eq_true_eq, decide_eq_false_iff_not, Bool.not_eq_true', Bool.not_eq_false', Bool.not_eq_eq_eq_not, Bool.not_true, Bool.not_false, Bool.and_true, Bool.and_eq_true, Bool.and_eq_false_iff, Bool.or_eq_true, Bool.or_eq_false_iff] at h1
    refine T_exit' ?_
    refine p_then_x ?_
    refine p_then_x ?_
    refine p_blk_x ?_
    refine p_seq ?_
    refine T_seq (T_region ?_)
    refine TL_q (.int .i64 best) (fun ρ w hρ hm => r_move (hρ _ _ rfl)) rfl rfl rfl (w_n rfl) ?_
    refine TL_q (.int .i64 best) (fun ρ w hρ hm => r_assign (hρ _ _ rfl)) rfl rfl rfl (w_n rfl) ?_
    refine TL_seq ?_
    refine T_ret' ?_
    refine ret_of rfl (.int .i64 best) (fun tmps w hk hm => res1 rfl (res_tmp (hk 4 _ rfl))) (fun w hm => ?_)
    have hkl : k = l.length := by omega
    subst hkl
    exact ⟨by rw [hbest], hm.ext⟩
end Go.Proofs.Ytnhkiblakclcoaa
