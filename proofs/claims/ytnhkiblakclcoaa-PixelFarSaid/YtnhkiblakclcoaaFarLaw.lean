/- pixel: the walk of PixelFar. Printed by a program of this seat's prover. -/
import Derived.Test.YtnhkiblakclcoaaNear
namespace Go.Proofs.Ytnhkiblakclcoaa
open Go.RowKit
set_option maxRecDepth 10000
set_option maxHeartbeats 4000000 in
theorem farlaw_any (c : C4) (x : List C4) (a : Option Addr) (cap : Nat) (t : Int) (w : World) (hc : c.ok) (hx : ∀ d ∈ x, d.ok) (hv : SliceAt w a cap 4 C4.cells x) (hcap : cap ≤ Go.maxLen) :
    Calls Try.prog 7 #[c.v, .slice a x.length cap, .int .i64 t] w fun e w' => e = .returned (.bool true) ∧ Below w.heap.size w w' := by
  have hxc := hv.1
  unfold Go.maxLen at hcap
  refine calls_of_T (l := [.agg #[.int .u8 c.r, .int .u8 c.g, .int .u8 c.b, .int .u8 c.a], .slice a x.length cap, .int .i64 t]) 72 Try.func7 rfl rfl rfl ?_
  show T _ _ _ [(0, .agg #[.int .u8 c.r, .int .u8 c.g, .int .u8 c.b, .int .u8 c.a]), (1, .slice a x.length cap), (2, .int .i64 t)] []
  refine T_seq (T_region ?_)
  refine TL_new 1 (.cells #[.int .u8 c.r, .int .u8 c.g, .int .u8 c.b, .int .u8 c.a] 27) (fun B => .pointer (some ⟨B, 0, none⟩)) (fun ρ w hρ hm => r_box (hρ _ _ rfl) rfl) rfl rfl rfl (w_n rfl) ?_
  intro B1
  refine TL_q (.bool false) (fun ρ w hρ hm => r_assign (hρ _ _ rfl)) rfl rfl rfl (w_n rfl) ?_
  refine TL_seq ?_
  refine T_seq ?_
  refine T_seq (T_region ?_)
  refine TL_call (.bool true) (fun ρ w hρ hm => r_call (args := []) (enters_of Try.func9 (by kernel_rfl) rfl) (hρ _ _ rfl) (by rfl) rfl) (fun w hm => wakes_any w) rfl rfl rfl (w_n rfl) ?_
  refine TL_q (.bool false) (fun ρ w hρ hm => r_not (b := true) (hρ _ _ rfl)) rfl rfl rfl (w_n rfl) ?_
  refine TL_seq ?_
  refine T_cond_f rfl ?_
  refine T_skip' ?_
  refine p_seq ?_
  refine T_seq (T_region ?_)
  refine TL_q (.slice a x.length cap) (fun ρ w hρ hm => r_move (hρ _ _ rfl)) rfl rfl rfl (w_n rfl) ?_
  refine TL_q (.slice a x.length cap) (fun ρ w hρ hm => r_move (hρ _ _ rfl)) rfl rfl rfl (w_n rfl) ?_
  refine TL_q (.int .i64 ((x.length : Nat) : Int)) (fun ρ w hρ hm => r_len sl22 (hρ _ _ rfl)) rfl rfl rfl (w_n rfl) ?_
  refine TL_q (.int .i64 ((min x.length 12 : Nat) : Int)) (fun ρ w hρ hm => r_as (r_min (hρ _ _ rfl) (hρ _ _ rfl)) (int_as (minI _ 12))) rfl rfl rfl (w_n rfl) ?_
  obtain ⟨l2, hl2, hn2⟩ : ∃ l, l = x.take (min x.length 12) ∧ l.length = min x.length 12 := ⟨_, rfl, by rw [List.length_take]; omega⟩
  have hs2 := SliceAt.front hv (n := min x.length 12) (m := cap) (by omega) (by omega) (by omega)
  rw [← hl2] at hs2
  refine TL_q (.slice a l2.length cap) (fun ρ w hρ hm => r_as (r_sliceO sl22 sz27 (hρ _ _ rfl) (bd_none ρ _) (bd_some (n := min x.length 12) (hρ _ _ rfl)) (bd_none ρ _) (by simp) (by omega) (by omega) (by omega)) (by rw [hn2]; exact slo_zero _ _ _ _)) rfl rfl rfl (w_n rfl) ?_
  refine TL_callN (fun (_ : Option Addr × Nat) => True) (fun (a3, cap3) => .slice a3 l2.length cap3) (fun (a3, cap3) => [(2, .row (.slice a3 l2.length cap3) 27 4 l2.length (l2.flatMap C4.cells))]) (fun ρ w hρ hm => r_call (args := [.slice a l2.length cap]) (enters_of Try.func24 (by kernel_rfl) rfl) (hρ _ _ rfl) ((cons2 (hρ _ _ rfl) rfl)) rfl) (fun w hm => (clone_col C4.cells C4.cells_len C4.cells_one l2 a cap w (hs2.keep hm.ext) (by omega)).mono fun e w' ⟨a', cap', he, hb, hr⟩ => ⟨(a', cap'), trivial, he, hb, newOk1 2 hr⟩) rfl rfl rfl (w_n rfl) ?_
  rintro ⟨a3, cap3⟩ -
  refine TL_q (.slice a3 l2.length cap3) (fun ρ w hρ hm => r_assign (hρ _ _ rfl)) rfl rfl rfl (w_n rfl) ?_
  refine TL_seq ?_
  have hl : ∀ d ∈ l2, d.ok := fun d hd => hx d (by rw [hl2] at hd; exact List.mem_of_mem_take hd)
  have hlen : l2.length ≤ 4611686018427387904 := by omega
  refine T_seq (T_region ?_)
  refine TL_q (.int .i64 (-1)) (fun ρ w hρ hm => r_assign (hρ _ _ rfl)) rfl rfl rfl (w_n rfl) ?_
  refine TL_seq ?_
  refine T_seq ?_
  refine T_seq (T_region ?_)
  refine TL_q (.slice a3 l2.length cap3) (fun ρ w hρ hm => r_move (hρ _ _ rfl)) rfl rfl rfl (w_n rfl) ?_
  refine TL_q (.int .i64 ((l2.length : Nat) : Int)) (fun ρ w hρ hm => r_len sl22 (hρ _ _ rfl)) rfl rfl rfl (w_n rfl) ?_
  refine TL_q (.int .i64 0) (fun ρ w hρ hm => r_move (hρ _ _ rfl)) rfl rfl rfl (w_n rfl) ?_
  refine TL_seq ?_
  refine T_block ?_
  refine T_loop (ι := Nat × Int) (fun (z : Nat × Int) => match z with | (k, best) => k ≤ l2.length ∧ best = nearN c l2 k ∧ -1 ≤ best ∧ best < k) (fun (z : Nat × Int) => match z with | (k, best) => [(1, .slice a x.length cap), (2, .int .i64 t), (3, .pointer (some ⟨B1, 0, none⟩)), (7, .slice a3 l2.length cap3), (20, .slice a3 l2.length cap3), (21, .int .i64 ((l2.length : Nat) : Int)), (22, .int .i64 ((k : Nat) : Int)), (8, .int .i64 best)]) (fun (z : Nat × Int) => match z with | (k, best) => [(2, .row (.slice a3 l2.length cap3) 27 4 l2.length (l2.flatMap C4.cells)), (1, .blk B1 (.cells #[.int .u8 c.r, .int .u8 c.g, .int .u8 c.b, .int .u8 c.a] 27))]) (fun (z : Nat × Int) => match z with | (k, best) => l2.length - k) (0, (-1)) ⟨Nat.zero_le _, rfl, by omega, by omega⟩ (sub_cons rfl (sub_cons rfl (sub_cons rfl (sub_cons rfl (sub_cons rfl (sub_cons rfl (sub_cons rfl (sub_cons rfl sub_nil)))))))) (sub_cons rfl (sub_cons rfl sub_nil)) ?_
  rintro ⟨k, best⟩ hp
  obtain ⟨hk, hbest, hb1, hb2⟩ := hp
  show T _ _ _ [(1, .slice a x.length cap), (2, .int .i64 t), (3, .pointer (some ⟨B1, 0, none⟩)), (7, .slice a3 l2.length cap3), (20, .slice a3 l2.length cap3), (21, .int .i64 ((l2.length : Nat) : Int)), (22, .int .i64 ((k : Nat) : Int)), (8, .int .i64 best)] [(2, .row (.slice a3 l2.length cap3) 27 4 l2.length (l2.flatMap C4.cells)), (1, .blk B1 (.cells #[.int .u8 c.r, .int .u8 c.g, .int .u8 c.b, .int .u8 c.a] 27))]
  refine T_seq (T_region ?_)
  refine TL_q (.bool (decide (((k : Nat) : Int) < ((l2.length : Nat) : Int)))) (fun ρ w hρ hm => r_lss (hρ _ _ rfl) (hρ _ _ rfl)) rfl rfl rfl (w_n rfl) ?_
  refine TL_seq ?_
  refine T_seq ?_
  refine T_cond rfl (fun h1 => ?_) (fun h1 => ?_)
  · try simp only [decide_eq_true_eq, decide_eq_false_iff_not, Bool.not_eq_true', Bool.not_eq_false', Bool.not_eq_eq_eq_not, Bool.not_true, Bool.not_false, Bool.and_true, Bool.and_eq_true, Bool.and_eq_false_iff, Bool.or_eq_true, Bool.or_eq_false_iff] at h1
    refine T_skip' ?_
    refine p_seq ?_
    refine T_seq ?_
    refine T_block ?_
    obtain ⟨d, hd⟩ : ∃ d, l2[k]? = some d := ⟨_, List.getElem?_eq_getElem (by omega)⟩
    have kd : d.ok := hl d (List.mem_of_getElem? hd)
    refine T_row 2 rfl (by omega) (fun g4 ha4 => ?_)
    subst ha4
    refine T_seq (T_region ?_)
    refine TL_q (.int .i64 ((k : Nat) : Int)) (fun ρ w hρ hm => r_move (hρ _ _ rfl)) rfl rfl rfl (w_n rfl) ?_
    refine TL_q (.pointer (some ⟨g4, 0 + k * 4, none⟩)) (fun ρ w hρ hm => r_indexAddrS (i := k) sl22 sz27 (hρ _ _ rfl) (hρ _ _ rfl) (by omega)) rfl rfl rfl (w_n rfl) ?_
    refine TL_q (.agg #[.int .u8 d.r, .int .u8 d.g, .int .u8 d.b, .int .u8 d.a]) (fun ρ w hρ hm => r_loadOwn (f := C4.cells) (u := d) (l := l2) ag27 sz27 (hρ _ _ rfl) (hm.row 2 rfl) rfl rfl C4.cells_len hd) rfl rfl rfl (w_n rfl) ?_
    refine TL_new 3 (.cells #[.int .u8 0, .int .u8 0, .int .u8 0, .int .u8 0] 27) (fun B => .pointer (some ⟨B, 0, none⟩)) (fun ρ w hρ hm => r_alloc (v := .agg #[.int .u8 0, .int .u8 0, .int .u8 0, .int .u8 0]) (by kernel_rfl) rfl) rfl rfl rfl (w_n rfl) ?_
    intro B5
    refine TL_q (.int .i64 ((k : Nat) : Int)) (fun ρ w hρ hm => r_assign (hρ _ _ rfl)) rfl rfl rfl (w_n rfl) ?_
    refine TL_store 3 (.cells #[.int .u8 d.r, .int .u8 d.g, .int .u8 d.b, .int .u8 d.a] 27) rfl (fun ρ w hρ hm => r_store sz27 (hρ _ _ rfl) (hρ _ _ rfl) (hm.at 3 rfl) rfl rfl rfl rfl) rfl rfl (w_n rfl) ?_
    refine TL_seq ?_
    refine T_seq (T_region ?_)
    refine TL_q (.agg #[.int .u8 c.r, .int .u8 c.g, .int .u8 c.b, .int .u8 c.a]) (fun ρ w hρ hm => r_loadA ag27 sz27 (hρ _ _ rfl) (hm.at 1 rfl) rfl rfl) rfl rfl rfl (w_n rfl) ?_
    refine TL_q (.agg #[.int .u8 d.r, .int .u8 d.g, .int .u8 d.b, .int .u8 d.a]) (fun ρ w hρ hm => r_loadA ag27 sz27 (hρ _ _ rfl) (hm.at 3 rfl) rfl rfl) rfl rfl rfl (w_n rfl) ?_
    refine TL_call (.int .i64 (farC c d)) (fun ρ w hρ hm => r_call (args := [.agg #[.int .u8 c.r, .int .u8 c.g, .int .u8 c.b, .int .u8 c.a], .agg #[.int .u8 d.r, .int .u8 d.g, .int .u8 d.b, .int .u8 d.a]]) (enters_of Try.func25 (by kernel_rfl) rfl) (hρ _ _ rfl) ((cons2 (hρ _ _ rfl) (cons2 (hρ _ _ rfl) rfl))) rfl) (fun w hm => far_ref c d w hc kd) rfl rfl rfl (w_n rfl) ?_
    refine TL_q (.int .i64 (farC c d)) (fun ρ w hρ hm => r_assign (hρ _ _ rfl)) rfl rfl rfl (w_n rfl) ?_
    refine TL_seq ?_
    refine T_seq ?_
    have e9 : farC c d = farC c d := rfl
    refine T_seq (T_region ?_)
    refine TL_q (.agg #[.int .u8 c.r, .int .u8 c.g, .int .u8 c.b, .int .u8 c.a]) (fun ρ w hρ hm => r_loadA ag27 sz27 (hρ _ _ rfl) (hm.at 1 rfl) rfl rfl) rfl rfl rfl (w_n rfl) ?_
    refine TL_q (.agg #[.int .u8 d.r, .int .u8 d.g, .int .u8 d.b, .int .u8 d.a]) (fun ρ w hρ hm => r_loadA ag27 sz27 (hρ _ _ rfl) (hm.at 3 rfl) rfl rfl) rfl rfl rfl (w_n rfl) ?_
    refine TL_call (.int .i64 (farC c d)) (fun ρ w hρ hm => r_call (args := [.agg #[.int .u8 c.r, .int .u8 c.g, .int .u8 c.b, .int .u8 c.a], .agg #[.int .u8 d.r, .int .u8 d.g, .int .u8 d.b, .int .u8 d.a]]) (enters_of Try.func17 (by kernel_rfl) rfl) (hρ _ _ rfl) ((cons2 (hρ _ _ rfl) (cons2 (hρ _ _ rfl) rfl))) rfl) (fun w hm => far_c c d w hc kd) rfl rfl rfl (w_n rfl) ?_
    refine TL_q (.int .i64 (farC c d)) (fun ρ w hρ hm => r_move (hρ _ _ rfl)) rfl rfl rfl (w_n rfl) ?_
    refine TL_q (.bool false) (fun ρ w hρ hm => r_as (r_neq (hρ _ _ rfl) (hρ _ _ rfl)) (bool_as (by simp))) rfl rfl rfl (w_n rfl) ?_
    refine TL_q (.bool false) (fun ρ w hρ hm => r_move (hρ _ _ rfl)) rfl rfl rfl (w_n rfl) ?_
    refine TL_q (.agg #[.int .u8 c.r, .int .u8 c.g, .int .u8 c.b, .int .u8 c.a]) (fun ρ w hρ hm => r_loadA ag27 sz27 (hρ _ _ rfl) (hm.at 1 rfl) rfl rfl) rfl rfl rfl (want_y 35 rfl rfl rfl) ?_
    refine TL_q (.agg #[.int .u8 d.r, .int .u8 d.g, .int .u8 d.b, .int .u8 d.a]) (fun ρ w hρ hm => r_loadA ag27 sz27 (hρ _ _ rfl) (hm.at 3 rfl) rfl rfl) rfl rfl rfl (want_y 35 rfl rfl rfl) ?_
    refine TL_q (.int .i64 t) (fun ρ w hρ hm => r_move (hρ _ _ rfl)) rfl rfl rfl (want_y 35 rfl rfl rfl) ?_
    refine TL_call (.bool (decide (farC c d ≤ t))) (fun ρ w hρ hm => r_call (args := [.agg #[.int .u8 c.r, .int .u8 c.g, .int .u8 c.b, .int .u8 c.a], .agg #[.int .u8 d.r, .int .u8 d.g, .int .u8 d.b, .int .u8 d.a], .int .i64 t]) (enters_of Try.func18 (by kernel_rfl) rfl) (hρ _ _ rfl) ((cons2 (hρ _ _ rfl) (cons2 (hρ _ _ rfl) (cons2 (hρ _ _ rfl) rfl)))) rfl) (fun w hm => near_c c d t w hc kd) rfl rfl rfl (want_y 35 rfl rfl rfl) ?_
    refine TL_q (.int .i64 (farC c d)) (fun ρ w hρ hm => r_move (hρ _ _ rfl)) rfl rfl rfl (want_y 35 rfl rfl rfl) ?_
    refine TL_q (.int .i64 t) (fun ρ w hρ hm => r_move (hρ _ _ rfl)) rfl rfl rfl (want_y 35 rfl rfl rfl) ?_
    refine TL_q (.bool (decide (farC c d ≤ t))) (fun ρ w hρ hm => r_leq (hρ _ _ rfl) (hρ _ _ rfl)) rfl rfl rfl (want_y 35 rfl rfl rfl) ?_
    refine TL_q (.bool false) (fun ρ w hρ hm => r_as (r_neqB (by kernel_rfl) (hρ _ _ rfl) (hρ _ _ rfl)) (bool_as (by simp))) rfl rfl rfl (want_y 35 rfl rfl rfl) ?_
    refine TL_q (.bool false) (fun ρ w hρ hm => r_pick_f (hρ _ _ rfl) (hρ _ _ rfl)) rfl rfl rfl (w_n rfl) ?_
    refine TL_seq ?_
    refine T_cond_f rfl ?_
    refine T_skip' ?_
    refine p_seq ?_
    by_cases hneg : best < 0
    · skip
      refine T_seq (T_draw (V := [(0, .int .i64 best), (1, .bool true), (2, .bool true), (3, undef), (4, undef), (5, undef), (6, undef), (7, undef), (8, undef), (9, undef), (10, undef), (11, .bool true)]) [0, 1, 3, 7, 7, 7, 7, 103, 231, 503, 1023, 2047] [[(8, none)], [(45, some 0)], [(46, some 1)], [(11, none)], [(3, none)], [(7, none)], [(8, none)], [(50, some 5), (51, some 6)], [(52, some 7)], [(49, some 4), (53, some 8)], [(48, some 3), (54, some 9)], [(55, some 10), (47, some 2)]] 0 mixed (by kernel_rfl) ?_)
      refine G_last [0, 1, 2, 3, 4, 5, 6, 7, 8, 9, 10, 11] [(1, .slice a x.length cap), (2, .int .i64 t), (3, .pointer (some ⟨B1, 0, none⟩)), (7, .slice (some ⟨g4, 0, none⟩) l2.length cap3), (20, .slice (some ⟨g4, 0, none⟩) l2.length cap3), (21, .int .i64 ((l2.length : Nat) : Int)), (22, .int .i64 ((k : Nat) : Int)), (8, .int .i64 best), (23, .bool (decide (((k : Nat) : Int) < ((l2.length : Nat) : Int)))), (24, .int .i64 ((k : Nat) : Int)), (25, .pointer (some ⟨g4, 0 + k * 4, none⟩)), (26, .agg #[.int .u8 d.r, .int .u8 d.g, .int .u8 d.b, .int .u8 d.a]), (10, .pointer (some ⟨B5, 0, none⟩)), (9, .int .i64 ((k : Nat) : Int)), (27, .agg #[.int .u8 c.r, .int .u8 c.g, .int .u8 c.b, .int .u8 c.a]), (28, .agg #[.int .u8 d.r, .int .u8 d.g, .int .u8 d.b, .int .u8 d.a]), (29, .int .i64 (farC c d)), (11, .int .i64 (farC c d)), (30, .agg #[.int .u8 c.r, .int .u8 c.g, .int .u8 c.b, .int .u8 c.a]), (31, .agg #[.int .u8 d.r, .int .u8 d.g, .int .u8 d.b, .int .u8 d.a]), (32, .int .i64 (farC c d)), (33, .int .i64 (farC c d)), (34, .bool false), (35, .bool false), (36, .agg #[.int .u8 c.r, .int .u8 c.g, .int .u8 c.b, .int .u8 c.a]), (37, .agg #[.int .u8 d.r, .int .u8 d.g, .int .u8 d.b, .int .u8 d.a]), (38, .int .i64 t), (39, .bool (decide (farC c d ≤ t))), (40, .int .i64 (farC c d)), (41, .int .i64 t), (42, .bool (decide (farC c d ≤ t))), (43, .bool false), (44, .bool false), (45, .int .i64 best), (46, .bool true), (47, .bool true), (48, undef), (49, undef), (50, undef), (51, undef), (52, undef), (53, undef), (54, undef), (55, undef), (56, .bool true)] (by kernel_rfl) (allM (all_cons (q_run (.int .i64 best) rfl rfl (wv_n rfl) rfl (fun ρ w hρ hm => r_move (hρ _ _ rfl))) (all_cons (q_run (.bool true) rfl rfl (wv_n rfl) rfl (fun ρ w hρ hm => r_as (r_lss (hρ _ _ rfl) (hρ _ _ rfl)) (bool_as (decide_eq_true hneg)))) (all_cons (q_run (.bool true) rfl rfl (wv_n rfl) rfl (fun ρ w hρ hm => r_move (hρ _ _ rfl))) (all_cons (q_no rfl rfl (wv_no rfl rfl)) (all_cons (q_no rfl rfl (wv_no rfl rfl)) (all_cons (q_no rfl rfl (wv_no rfl rfl)) (all_cons (q_no rfl rfl (wv_no rfl rfl)) (all_cons (q_no rfl rfl (wv_no rfl rfl)) (all_cons (q_no rfl rfl (wv_no rfl rfl)) (all_cons (q_no rfl rfl (wv_no rfl rfl)) (all_cons (q_no rfl rfl (wv_no rfl rfl)) (all_cons (q_run (.bool true) rfl rfl (wv_n rfl) rfl (fun ρ w hρ hm => r_pick_t (hρ _ _ rfl) (hρ _ _ rfl))) all_nil))))))))))))) (end_old rfl rfl (end_old rfl rfl (end_old rfl rfl (end_old rfl rfl (end_old rfl rfl (end_old rfl rfl (end_old rfl rfl (end_old rfl rfl (end_old rfl rfl (end_old rfl rfl (end_old rfl rfl (end_old rfl rfl (end_old rfl rfl (end_old rfl rfl (end_old rfl rfl (end_old rfl rfl (end_old rfl rfl (end_old rfl rfl (end_old rfl rfl (end_old rfl rfl (end_old rfl rfl (end_old rfl rfl (end_old rfl rfl (end_old rfl rfl (end_old rfl rfl (end_old rfl rfl (end_old rfl rfl (end_old rfl rfl (end_old rfl rfl (end_old rfl rfl (end_old rfl rfl (end_old rfl rfl (end_old rfl rfl (end_new 0 rfl rfl (end_new 1 rfl rfl (end_new 2 rfl rfl (end_new 3 rfl rfl (end_new 4 rfl rfl (end_new 5 rfl rfl (end_new 6 rfl rfl (end_new 7 rfl rfl (end_new 8 rfl rfl (end_new 9 rfl rfl (end_new 10 rfl rfl (end_new 11 rfl rfl end_nil))))))))))))))))))))))))))))))))))))))))))))) ?_
      refine T_cond_t rfl ?_
      refine T_region ?_
      refine TL_q (.int .i64 ((k : Nat) : Int)) (fun ρ w hρ hm => r_move (hρ _ _ rfl)) rfl rfl rfl (w_n rfl) ?_
      refine TL_q (.int .i64 ((k : Nat) : Int)) (fun ρ w hρ hm => r_assign (hρ _ _ rfl)) rfl rfl rfl (w_n rfl) ?_
      refine TL_nil ?_
      refine p_blk_n ?_
      refine p_seq ?_
      refine T_region ?_
      refine TL_q (.int .i64 (((k : Nat) : Int) + 1)) (fun ρ w hρ hm => r_as (r_add (hρ _ _ rfl) (hρ _ _ rfl)) (int_as (wrap64 (by omega) (by omega)))) rfl rfl rfl (w_n rfl) ?_
      refine TL_q (.int .i64 (((k : Nat) : Int) + 1)) (fun ρ w hρ hm => r_move (hρ _ _ rfl)) rfl rfl rfl (w_n rfl) ?_
      refine TL_nil ?_
      exact p_at (k + 1, ((k : Nat) : Int)) ⟨⟨by omega, by first | exact near_neg hbest.symm hneg | exact near_lt hbest.symm hd hy (by omega) | exact near_ge hbest.symm hd hy (by omega), by omega, by omega⟩, by dsimp only; omega⟩ (sub_cons rfl (sub_cons rfl (sub_cons rfl (sub_cons rfl (sub_cons rfl (sub_cons rfl (sub_cons rfl (sub_cons rfl sub_nil)))))))) (sub_cons rfl (sub_cons rfl sub_nil))
    · skip
      obtain ⟨j, rfl⟩ : ∃ j : Nat, best = j := ⟨best.toNat, by omega⟩
      obtain ⟨y, hy⟩ : ∃ y, l2[j]? = some y := ⟨_, List.getElem?_eq_getElem (by omega)⟩
      have ky : y.ok := hl y (List.mem_of_getElem? hy)
      refine T_seq (T_draw (V := [(0, .int .i64 ((j : Nat) : Int)), (1, .bool false), (2, .bool false), (3, .int .i64 (farC c d)), (4, .agg #[.int .u8 c.r, .int .u8 c.g, .int .u8 c.b, .int .u8 c.a]), (5, .slice (some ⟨g4, 0, none⟩) l2.length cap3), (6, .int .i64 ((j : Nat) : Int)), (7, .pointer (some ⟨g4, 0 + j * 4, none⟩)), (8, .agg #[.int .u8 y.r, .int .u8 y.g, .int .u8 y.b, .int .u8 y.a])]) [0, 1, 3, 7, 7, 7, 7, 103, 231, 503, 1023, 2047] [[(8, none)], [(45, some 0)], [(46, some 1)], [(11, none)], [(3, none)], [(7, none)], [(8, none)], [(50, some 5), (51, some 6)], [(52, some 7)], [(49, some 4), (53, some 8)], [(48, some 3), (54, some 9)], [(55, some 10), (47, some 2)]] 512 mixed (by kernel_rfl) ?_)
      refine G_step [0, 1, 2, 3, 4, 5, 6, 7, 8] 9 [] (by kernel_rfl) (allM (all_cons (q_run (.int .i64 ((j : Nat) : Int)) rfl rfl (wv_n rfl) rfl (fun ρ w hρ hm => r_move (hρ _ _ rfl))) (all_cons (q_run (.bool false) rfl rfl (wv_n rfl) rfl (fun ρ w hρ hm => r_as (r_lss (hρ _ _ rfl) (hρ _ _ rfl)) (bool_as (decide_eq_false hneg)))) (all_cons (q_run (.bool false) rfl rfl (wv_n rfl) rfl (fun ρ w hρ hm => r_move (hρ _ _ rfl))) (all_cons (q_run (.int .i64 (farC c d)) rfl rfl (wv_y rfl rfl) rfl (fun ρ w hρ hm => r_move (hρ _ _ rfl))) (all_cons (q_run (.agg #[.int .u8 c.r, .int .u8 c.g, .int .u8 c.b, .int .u8 c.a]) rfl rfl (wv_y rfl rfl) rfl (fun ρ w hρ hm => r_loadA ag27 sz27 (hρ _ _ rfl) (hm.at 1 rfl) rfl rfl)) (all_cons (q_run (.slice (some ⟨g4, 0, none⟩) l2.length cap3) rfl rfl (wv_y rfl rfl) rfl (fun ρ w hρ hm => r_move (hρ _ _ rfl))) (all_cons (q_run (.int .i64 ((j : Nat) : Int)) rfl rfl (wv_y rfl rfl) rfl (fun ρ w hρ hm => r_move (hρ _ _ rfl))) (all_cons (q_run (.pointer (some ⟨g4, 0 + j * 4, none⟩)) rfl rfl (wv_y rfl rfl) rfl (fun ρ w hρ hm => r_indexAddrS (i := j) sl22 sz27 (hρ _ _ rfl) (hρ _ _ rfl) (by omega))) (all_cons (q_run (.agg #[.int .u8 y.r, .int .u8 y.g, .int .u8 y.b, .int .u8 y.a]) rfl rfl (wv_y rfl rfl) rfl (fun ρ w hρ hm => r_loadOwn (f := C4.cells) (u := y) (l := l2) ag27 sz27 (hρ _ _ rfl) (hm.row 2 rfl) rfl rfl C4.cells_len hy)) all_nil)))))))))) (allM (all_cons ?_ all_nil))
      refine LOb_call (.int .i64 (farC c y)) [(10, .bool (decide (farC c d < farC c y))), (11, .bool (decide (farC c d < farC c y)))] rfl (wv_y rfl rfl) rfl rfl (fun ρ w hρ hm => r_call (args := [.agg #[.int .u8 c.r, .int .u8 c.g, .int .u8 c.b, .int .u8 c.a], .agg #[.int .u8 y.r, .int .u8 y.g, .int .u8 y.b, .int .u8 y.a]]) (enters_of Try.func25 (by kernel_rfl) rfl) (hρ _ _ rfl) ((cons2 (hρ _ _ rfl) (cons2 (hρ _ _ rfl) rfl))) rfl) (fun w hm => far_ref c y w hc ky) (by kernel_rfl) ?_
      refine G_last [3, 10, 11] [(1, .slice a x.length cap), (2, .int .i64 t), (3, .pointer (some ⟨B1, 0, none⟩)), (7, .slice (some ⟨g4, 0, none⟩) l2.length cap3), (20, .slice (some ⟨g4, 0, none⟩) l2.length cap3), (21, .int .i64 ((l2.length : Nat) : Int)), (22, .int .i64 ((k : Nat) : Int)), (8, .int .i64 ((j : Nat) : Int)), (23, .bool (decide (((k : Nat) : Int) < ((l2.length : Nat) : Int)))), (24, .int .i64 ((k : Nat) : Int)), (25, .pointer (some ⟨g4, 0 + k * 4, none⟩)), (26, .agg #[.int .u8 d.r, .int .u8 d.g, .int .u8 d.b, .int .u8 d.a]), (10, .pointer (some ⟨B5, 0, none⟩)), (9, .int .i64 ((k : Nat) : Int)), (27, .agg #[.int .u8 c.r, .int .u8 c.g, .int .u8 c.b, .int .u8 c.a]), (28, .agg #[.int .u8 d.r, .int .u8 d.g, .int .u8 d.b, .int .u8 d.a]), (29, .int .i64 (farC c d)), (11, .int .i64 (farC c d)), (30, .agg #[.int .u8 c.r, .int .u8 c.g, .int .u8 c.b, .int .u8 c.a]), (31, .agg #[.int .u8 d.r, .int .u8 d.g, .int .u8 d.b, .int .u8 d.a]), (32, .int .i64 (farC c d)), (33, .int .i64 (farC c d)), (34, .bool false), (35, .bool false), (36, .agg #[.int .u8 c.r, .int .u8 c.g, .int .u8 c.b, .int .u8 c.a]), (37, .agg #[.int .u8 d.r, .int .u8 d.g, .int .u8 d.b, .int .u8 d.a]), (38, .int .i64 t), (39, .bool (decide (farC c d ≤ t))), (40, .int .i64 (farC c d)), (41, .int .i64 t), (42, .bool (decide (farC c d ≤ t))), (43, .bool false), (44, .bool false), (45, .int .i64 ((j : Nat) : Int)), (46, .bool false), (47, .bool false), (48, .int .i64 (farC c d)), (49, .agg #[.int .u8 c.r, .int .u8 c.g, .int .u8 c.b, .int .u8 c.a]), (50, .slice (some ⟨g4, 0, none⟩) l2.length cap3), (51, .int .i64 ((j : Nat) : Int)), (52, .pointer (some ⟨g4, 0 + j * 4, none⟩)), (53, .agg #[.int .u8 y.r, .int .u8 y.g, .int .u8 y.b, .int .u8 y.a]), (54, .int .i64 (farC c y)), (55, .bool (decide (farC c d < farC c y))), (56, .bool (decide (farC c d < farC c y)))] (by kernel_rfl) (allM (all_cons (q_run (.int .i64 (farC c d)) rfl rfl (wv_y rfl rfl) rfl (fun ρ w hρ hm => r_move (hρ _ _ rfl))) (all_cons (q_run (.bool (decide (farC c d < farC c y))) rfl rfl (wv_y rfl rfl) rfl (fun ρ w hρ hm => r_lss (hρ _ _ rfl) (hρ _ _ rfl))) (all_cons (q_run (.bool (decide (farC c d < farC c y))) rfl rfl (wv_n rfl) rfl (fun ρ w hρ hm => r_pick_f (hρ _ _ rfl) (hρ _ _ rfl))) all_nil)))) (end_old rfl rfl (end_old rfl rfl (end_old rfl rfl (end_old rfl rfl (end_old rfl rfl (end_old rfl rfl (end_old rfl rfl (end_old rfl rfl (end_old rfl rfl (end_old rfl rfl (end_old rfl rfl (end_old rfl rfl (end_old rfl rfl (end_old rfl rfl (end_old rfl rfl (end_old rfl rfl (end_old rfl rfl (end_old rfl rfl (end_old rfl rfl (end_old rfl rfl (end_old rfl rfl (end_old rfl rfl (end_old rfl rfl (end_old rfl rfl (end_old rfl rfl (end_old rfl rfl (end_old rfl rfl (end_old rfl rfl (end_old rfl rfl (end_old rfl rfl (end_old rfl rfl (end_old rfl rfl (end_old rfl rfl (end_new 0 rfl rfl (end_new 1 rfl rfl (end_new 2 rfl rfl (end_new 3 rfl rfl (end_new 4 rfl rfl (end_new 5 rfl rfl (end_new 6 rfl rfl (end_new 7 rfl rfl (end_new 8 rfl rfl (end_new 9 rfl rfl (end_new 10 rfl rfl (end_new 11 rfl rfl end_nil))))))))))))))))))))))))))))))))))))))))))))) ?_
      refine T_cond rfl (fun h2 => ?_) (fun h2 => ?_)
      · try simp only [decide_eq_true_eq, decide_eq_false_iff_not, Bool.not_eq_true', Bool.not_eq_false', Bool.not_eq_eq_eq_not, Bool.not_true, Bool.not_false, Bool.and_true, Bool.and_eq_true, Bool.and_eq_false_iff, Bool.or_eq_true, Bool.or_eq_false_iff] at h2
        refine T_region ?_
        refine TL_q (.int .i64 ((k : Nat) : Int)) (fun ρ w hρ hm => r_move (hρ _ _ rfl)) rfl rfl rfl (w_n rfl) ?_
        refine TL_q (.int .i64 ((k : Nat) : Int)) (fun ρ w hρ hm => r_assign (hρ _ _ rfl)) rfl rfl rfl (w_n rfl) ?_
        refine TL_nil ?_
        refine p_blk_n ?_
        refine p_seq ?_
        refine T_region ?_
        refine TL_q (.int .i64 (((k : Nat) : Int) + 1)) (fun ρ w hρ hm => r_as (r_add (hρ _ _ rfl) (hρ _ _ rfl)) (int_as (wrap64 (by omega) (by omega)))) rfl rfl rfl (w_n rfl) ?_
        refine TL_q (.int .i64 (((k : Nat) : Int) + 1)) (fun ρ w hρ hm => r_move (hρ _ _ rfl)) rfl rfl rfl (w_n rfl) ?_
        refine TL_nil ?_
        exact p_at (k + 1, ((k : Nat) : Int)) ⟨⟨by omega, by first | exact near_neg hbest.symm hneg | exact near_lt hbest.symm hd hy (by omega) | exact near_ge hbest.symm hd hy (by omega), by omega, by omega⟩, by dsimp only; omega⟩ (sub_cons rfl (sub_cons rfl (sub_cons rfl (sub_cons rfl (sub_cons rfl (sub_cons rfl (sub_cons rfl (sub_cons rfl sub_nil)))))))) (sub_cons rfl (sub_cons rfl sub_nil))
      · try simp only [decide_eq_true_eq, decide_eq_false_iff_not, Bool.not_eq_true', Bool.not_eq_false', Bool.not_eq_eq_eq_not, Bool.not_true, Bool.not_false, Bool.and_true, Bool.and_eq_true, Bool.and_eq_false_iff, Bool.or_eq_true, Bool.or_eq_false_iff] at h2
        refine T_skip' ?_
        refine p_blk_n ?_
        refine p_seq ?_
        refine T_region ?_
        refine TL_q (.int .i64 (((k : Nat) : Int) + 1)) (fun ρ w hρ hm => r_as (r_add (hρ _ _ rfl) (hρ _ _ rfl)) (int_as (wrap64 (by omega) (by omega)))) rfl rfl rfl (w_n rfl) ?_
        refine TL_q (.int .i64 (((k : Nat) : Int) + 1)) (fun ρ w hρ hm => r_move (hρ _ _ rfl)) rfl rfl rfl (w_n rfl) ?_
        refine TL_nil ?_
        exact p_at (k + 1, (j : Int)) ⟨⟨by omega, by first | exact near_neg hbest.symm hneg | exact near_lt hbest.symm hd hy (by omega) | exact near_ge hbest.symm hd hy (by omega), by omega, by omega⟩, by dsimp only; omega⟩ (sub_cons rfl (sub_cons rfl (sub_cons rfl (sub_cons rfl (sub_cons rfl (sub_cons rfl (sub_cons rfl (sub_cons rfl sub_nil)))))))) (sub_cons rfl (sub_cons rfl sub_nil))
  · try simp only [decide_eq_true_eq, decide_eq_false_iff_not, Bool.not_eq_true', Bool.not_eq_false', Bool.not_eq_eq_eq_not, Bool.not_true, Bool.not_false, Bool.and_true, Bool.and_eq_true, Bool.and_eq_false_iff, Bool.or_eq_true, Bool.or_eq_false_iff] at h1
    refine T_exit' ?_
    refine p_then_x ?_
    refine p_then_x ?_
    refine p_blk_x ?_
    refine p_seq ?_
    have hkl : k = l2.length := by omega
    have hb14 : nearN c l2 l2.length = best := by rw [← hkl]; exact hbest.symm
    have e14 : nearN c l2 l2.length = best := hb14
    refine T_seq (T_region ?_)
    refine TL_q (.agg #[.int .u8 c.r, .int .u8 c.g, .int .u8 c.b, .int .u8 c.a]) (fun ρ w hρ hm => r_loadA ag27 sz27 (hρ _ _ rfl) (hm.at 1 rfl) rfl rfl) rfl rfl rfl (w_n rfl) ?_
    refine TL_q (.slice a3 l2.length cap3) (fun ρ w hρ hm => r_move (hρ _ _ rfl)) rfl rfl rfl (w_n rfl) ?_
    refine TL_call (.int .i64 (nearN c l2 l2.length)) (fun ρ w hρ hm => r_call (args := [.agg #[.int .u8 c.r, .int .u8 c.g, .int .u8 c.b, .int .u8 c.a], .slice a3 l2.length cap3]) (enters_of Try.func19 (by kernel_rfl) rfl) (hρ _ _ rfl) ((cons2 (hρ _ _ rfl) (cons2 (hρ _ _ rfl) rfl))) rfl) (fun w hm => nearest_c c l2 a3 cap3 w hc hl (SliceAt.own C4.cells_len (hm.row 2 rfl) rfl rfl) (by omega)) rfl rfl rfl (w_n rfl) ?_
    refine TL_q (.int .i64 best) (fun ρ w hρ hm => r_move (hρ _ _ rfl)) rfl rfl rfl (w_n rfl) ?_
    refine TL_q (.bool true) (fun ρ w hρ hm => r_as (r_eql (hρ _ _ rfl) (hρ _ _ rfl)) (bool_as (decide_eq_true e14))) rfl rfl rfl (w_n rfl) ?_
    refine TL_q (.bool true) (fun ρ w hρ hm => r_move (hρ _ _ rfl)) rfl rfl rfl (w_n rfl) ?_
    refine TL_q (.slice a3 l2.length cap3) (fun ρ w hρ hm => r_move (hρ _ _ rfl)) rfl rfl rfl (want_y 64 rfl rfl rfl) ?_
    refine TL_q (.slice a x.length cap) (fun ρ w hρ hm => r_move (hρ _ _ rfl)) rfl rfl rfl (want_y 64 rfl rfl rfl) ?_
    refine TL_q (.slice a3 l2.length cap3) (fun ρ w hρ hm => r_move (hρ _ _ rfl)) rfl rfl rfl (want_y 64 rfl rfl rfl) ?_
    refine TL_q (.int .i64 ((l2.length : Nat) : Int)) (fun ρ w hρ hm => r_len sl22 (hρ _ _ rfl)) rfl rfl rfl (want_y 64 rfl rfl rfl) ?_
    obtain ⟨l6, hl6, hn6⟩ : ∃ l, l = x.take l2.length ∧ l.length = l2.length := ⟨_, rfl, by rw [List.length_take]; omega⟩
    have hs6 := SliceAt.front hv (n := l2.length) (m := cap) (by omega) (by omega) (by omega)
    rw [← hl6] at hs6
    refine TL_q (.slice a l6.length cap) (fun ρ w hρ hm => r_as (r_sliceO sl22 sz27 (hρ _ _ rfl) (bd_none ρ _) (bd_some (n := l2.length) (hρ _ _ rfl)) (bd_none ρ _) (by simp) (by omega) (by omega) (by omega)) (by rw [hn6]; exact slo_zero _ _ _ _)) rfl rfl rfl (want_y 64 rfl rfl rfl) ?_
    refine TL_call (.bool (decide (l2 = l6))) (fun ρ w hρ hm => r_call (args := [.slice a3 l2.length cap3, .slice a l6.length cap]) (enters_of Try.func26 (by kernel_rfl) rfl) (hρ _ _ rfl) ((cons2 (hρ _ _ rfl) (cons2 (hρ _ _ rfl) rfl))) rfl) (fun w hm => equal_col l2 l6 a3 a cap3 cap w (SliceAt.own C4.cells_len (hm.row 2 rfl) rfl rfl) (hs6.keep hm.ext) (by omega) (by omega)) rfl rfl rfl (want_y 64 rfl rfl rfl) ?_
    refine TL_q (.bool (decide (l2 = l6))) (fun ρ w hρ hm => r_pick_t (hρ _ _ rfl) (hρ _ _ rfl)) rfl rfl rfl (w_n rfl) ?_
    refine TL_q (.bool (decide (l2 = l6))) (fun ρ w hρ hm => r_assign (hρ _ _ rfl)) rfl rfl rfl (w_n rfl) ?_
    refine TL_seq ?_
    refine T_ret' ?_
    refine ret_of rfl (.bool (decide (l2 = l6))) (fun tmps w hk hm => res1 rfl (res_tmp (hk 6 _ rfl))) (fun w hm => ?_)
    exact ⟨congrArg Ending.returned (bool_as (decide_eq_true (by rw [hl6, hn2]; exact hl2))), hm.ext⟩
end Go.Proofs.Ytnhkiblakclcoaa
