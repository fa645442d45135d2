/- pixel: the walk of PixelTexts. Printed by a program of this seat's prover. -/
import Derived.Test.YtnhkiblakclcoaaTxtLaw
import Derived.Test.YtnhkiblakclcoaaPixW
namespace Go.Proofs.Ytnhkiblakclcoaa
open Go.RowKit
set_option maxRecDepth 10000
abbrev u32c (x : Int) : List Value := [.int .u32 x]
theorem u32c_len (x : Int) : (u32c x).length = 1 := rfl
abbrev strc (x : ByteArray) : List Value := [.string x]
theorem strc_len (x : ByteArray) : (strc x).length = 1 := rfl
set_option maxHeartbeats 4000000 in
theorem texts_any (l : List C4) (a : Option Addr) (ca : Nat) (m : List Int) (b : Option Addr) (cb : Nat) (n : List ByteArray) (c : Option Addr) (cc : Nat) (w : World) (hl : ∀ x ∈ l, x.ok) (hv : SliceAt w a ca 4 C4.cells l) (hca : ca ≤ Go.maxLen)
    (hm1 : ∀ x ∈ m, 0 ≤ x ∧ x ≤ 4294967295) (hu : SliceAt w b cb 1 u32c m) (hcb : cb ≤ Go.maxLen) (hn1 : ∀ x ∈ n, x.size ≤ Go.maxLen) (ht : SliceAt w c cc 1 strc n) (hcc : cc ≤ Go.maxLen) :
    Calls Try.prog 3 #[.slice a l.length ca, .slice b m.length cb, .slice c n.length cc] w fun e w' => e = .returned (.bool true) ∧ Below w.heap.size w w' := by
  have l1 := hv.1
  have l2 := hu.1
  have l3 := ht.1
  unfold Go.maxLen at hca hcb hcc
  refine calls_of_T (l := [.slice a l.length ca, .slice b m.length cb, .slice c n.length cc]) 97 Try.func3 rfl rfl rfl ?_
  show T _ _ _ [(0, .slice a l.length ca), (1, .slice b m.length cb), (2, .slice c n.length cc)] []
  refine T_seq (T_region ?_)
  refine TL_q (.bool false) (fun _ _ hρ _ => r_assign (hρ _ _ rfl)) rfl rfl rfl (w_n rfl) ?_
  refine TL_seq ?_
  refine T_seq ?_
  refine T_seq (T_region ?_)
  refine TL_call (.bool true) (fun _ _ hρ _ => r_call (args := []) (enters_of Try.func9 (by kernel_rfl) rfl) (hρ _ _ rfl) (by rfl) rfl) (fun w _ => wakes_any w) rfl rfl rfl (w_n rfl) ?_
  refine TL_q (.bool false) (fun _ _ hρ _ => r_not (b := true) (hρ _ _ rfl)) rfl rfl rfl (w_n rfl) ?_
  refine TL_seq ?_
  refine T_cond_f rfl ?_
  refine T_skip' ?_
  refine p_seq ?_
  refine T_seq ?_
  refine T_seq (T_region ?_)
  refine TL_q (.slice a l.length ca) (fun _ _ hρ _ => r_move (hρ _ _ rfl)) rfl rfl rfl (w_n rfl) ?_
  refine TL_q (.int .i64 ((l.length : Nat) : Int)) (fun _ _ hρ _ => r_len sl22 (hρ _ _ rfl)) rfl rfl rfl (w_n rfl) ?_
  refine TL_q (.int .i64 0) (fun _ _ hρ _ => r_move (hρ _ _ rfl)) rfl rfl rfl (w_n rfl) ?_
  refine TL_seq ?_
  refine T_block ?_
  refine T_loop (ι := Nat) (fun (k : Nat) => k ≤ l.length) (fun (k : Nat) => [(1, .slice b m.length cb), (2, .slice c n.length cc), (19, .slice a l.length ca), (20, .int .i64 ((l.length : Nat) : Int)), (21, .int .i64 ((k : Nat) : Int))]) (fun (k : Nat) => []) (fun (k : Nat) => l.length - k) 0 (Nat.zero_le _) (sub_cons rfl (sub_cons rfl (sub_cons rfl (sub_cons rfl (sub_cons rfl sub_nil))))) sub_nil ?_
  rintro k hp
  show T _ _ _ [(1, .slice b m.length cb), (2, .slice c n.length cc), (19, .slice a l.length ca), (20, .int .i64 ((l.length : Nat) : Int)), (21, .int .i64 ((k : Nat) : Int))] []
  refine T_seq (T_region ?_)
  refine TL_q (.bool (decide (((k : Nat) : Int) < ((l.length : Nat) : Int)))) (fun _ _ hρ _ => r_lss (hρ _ _ rfl) (hρ _ _ rfl)) rfl rfl rfl (w_n rfl) ?_
  refine TL_seq ?_
  refine T_seq ?_
  refine T_cond rfl (fun h1 => ?_) (fun h1 => ?_)
  · replace h1 := of_decide_eq_true h1
    refine T_skip' ?_
    refine p_seq ?_
    refine T_seq ?_
    refine T_block ?_
    obtain ⟨x, hx⟩ : ∃ x, l[k]? = some x := ⟨_, List.getElem?_eq_getElem (by omega)⟩
    have kx := hl x (List.mem_of_getElem? hx)
    obtain ⟨b1, of1, cs1, T1, fz1, ha1, hq1, hr1⟩ := hv.open (i := k) (by omega)
    subst ha1
    refine T_seq (T_region ?_)
    refine TL_q (.int .i64 ((k : Nat) : Int)) (fun _ _ hρ _ => r_move (hρ _ _ rfl)) rfl rfl rfl (w_n rfl) ?_
    refine TL_q (.pointer (some ⟨b1, of1 + k * 4, none⟩)) (fun _ _ hρ _ => r_indexAddrS (i := k) sl22 sz27 (hρ _ _ rfl) (hρ _ _ rfl) (by omega)) rfl rfl rfl (w_n rfl) ?_
    refine TL_q (.agg #[.int .u8 x.r, .int .u8 x.g, .int .u8 x.b, .int .u8 x.a]) (fun _ _ hρ hm => r_loadRow (f := C4.cells) (u := x) ag27 sz27 (hρ _ _ rfl) (hm.old hq1) hr1 hx) rfl rfl rfl (w_n rfl) ?_
    refine TL_new 1 (.cells #[.int .u8 0, .int .u8 0, .int .u8 0, .int .u8 0] 27) (fun B => .pointer (some ⟨B, 0, none⟩)) (fun _ _ _ _ => r_alloc (v := .agg #[.int .u8 0, .int .u8 0, .int .u8 0, .int .u8 0]) (by kernel_rfl) rfl) rfl rfl rfl (w_n rfl) ?_
    intro B2
    refine TL_q (.int .i64 ((k : Nat) : Int)) (fun _ _ hρ _ => r_assign (hρ _ _ rfl)) rfl rfl rfl (w_n rfl) ?_
    refine TL_store 1 (.cells #[.int .u8 x.r, .int .u8 x.g, .int .u8 x.b, .int .u8 x.a] 27) rfl (fun _ _ hρ hm => r_store sz27 (hρ _ _ rfl) (hρ _ _ rfl) (hm.at 1 rfl) rfl rfl rfl rfl) rfl rfl (w_n rfl) ?_
    refine TL_seq ?_
    by_cases h12 : ((k : Nat) : Int) < 12
    · skip
      refine T_seq (T_draw (V := [(0, .int .i64 ((k : Nat) : Int)), (1, .bool true), (2, .bool true), (3, .agg #[.int .u8 x.r, .int .u8 x.g, .int .u8 x.b, .int .u8 x.a]), (5, .agg #[.int .u8 x.r, .int .u8 x.g, .int .u8 x.b, .int .u8 x.a])]) [0, 1, 3, 7, 15, 7, 63, 127, 255, 511, 1023, 511, 4095, 8191, 16383, 32767] [[(7, none)], [(26, some 0)], [(27, some 1)], [(8, none)], [(29, some 3)], [(8, none)], [(31, some 5)], [(30, some 4), (32, some 6)], [(33, some 7)], [(8, none)], [(35, some 9)], [(8, none)], [(37, some 11)], [(36, some 10), (38, some 12)], [(39, some 13), (34, some 8)], [(40, some 14), (28, some 2)]] 5200 mixed (by kernel_rfl) ?_)
      refine G_step [0, 1, 2, 3, 5] 4 [] (by kernel_rfl) (allM (all_cons (q_run (.int .i64 ((k : Nat) : Int)) rfl rfl (wv_n rfl) rfl (fun _ _ hρ _ => r_move (hρ _ _ rfl))) (all_cons (q_run (.bool true) rfl rfl (wv_n rfl) rfl (fun _ _ hρ _ => r_as (r_lss (hρ _ _ rfl) (hρ _ _ rfl)) (bool_as (decide_eq_true h12)))) (all_cons (q_run (.bool true) rfl rfl (wv_n rfl) rfl (fun _ _ hρ _ => r_move (hρ _ _ rfl))) (all_cons (q_run (.agg #[.int .u8 x.r, .int .u8 x.g, .int .u8 x.b, .int .u8 x.a]) rfl rfl (wv_y rfl rfl) rfl (fun _ _ hρ hm => r_loadA ag27 sz27 (hρ _ _ rfl) (hm.at 1 rfl) rfl rfl)) (all_cons (q_run (.agg #[.int .u8 x.r, .int .u8 x.g, .int .u8 x.b, .int .u8 x.a]) rfl rfl (wv_y rfl rfl) rfl (fun _ _ hρ hm => r_loadA ag27 sz27 (hρ _ _ rfl) (hm.at 1 rfl) rfl rfl)) all_nil)))))) (allM (all_cons ?_ all_nil))
      refine LOb_call (.int .u32 (packC x)) [] rfl (wv_y rfl rfl) rfl rfl (fun _ _ hρ _ => r_call (args := [.agg #[.int .u8 x.r, .int .u8 x.g, .int .u8 x.b, .int .u8 x.a]]) (enters_of Try.func10 (by kernel_rfl) rfl) (hρ _ _ rfl) ((cons2 (hρ _ _ rfl) rfl)) rfl) (fun w _ => pack_c x w kx) (by kernel_rfl) ?_
      refine G_step [5] 6 [] (by kernel_rfl) (allM (all_cons (q_run (.agg #[.int .u8 x.r, .int .u8 x.g, .int .u8 x.b, .int .u8 x.a]) rfl rfl (wv_y rfl rfl) rfl (fun _ _ hρ hm => r_loadA ag27 sz27 (hρ _ _ rfl) (hm.at 1 rfl) rfl rfl)) all_nil)) (allM (all_cons ?_ all_nil))
      refine LOb_call (.int .u32 (packC x)) [(7, .bool false), (8, .bool false), (9, .agg #[.int .u8 x.r, .int .u8 x.g, .int .u8 x.b, .int .u8 x.a]), (11, .agg #[.int .u8 x.r, .int .u8 x.g, .int .u8 x.b, .int .u8 x.a])] rfl (wv_y rfl rfl) rfl rfl (fun _ _ hρ _ => r_call (args := [.agg #[.int .u8 x.r, .int .u8 x.g, .int .u8 x.b, .int .u8 x.a]]) (enters_of Try.func11 (by kernel_rfl) rfl) (hρ _ _ rfl) ((cons2 (hρ _ _ rfl) rfl)) rfl) (fun w _ => pack_ref x w kx) (by kernel_rfl) ?_
      refine G_step [7, 8, 9, 11] 10 [] (by kernel_rfl) (allM (all_cons (q_run (.bool false) rfl rfl (wv_y rfl rfl) rfl (fun _ _ hρ _ => r_as (r_neq (hρ _ _ rfl) (hρ _ _ rfl)) (bool_as (by simp)))) (all_cons (q_run (.bool false) rfl rfl (wv_y rfl rfl) rfl (fun _ _ hρ _ => r_move (hρ _ _ rfl))) (all_cons (q_run (.agg #[.int .u8 x.r, .int .u8 x.g, .int .u8 x.b, .int .u8 x.a]) rfl rfl (wv_y rfl rfl) rfl (fun _ _ hρ hm => r_loadA ag27 sz27 (hρ _ _ rfl) (hm.at 1 rfl) rfl rfl)) (all_cons (q_run (.agg #[.int .u8 x.r, .int .u8 x.g, .int .u8 x.b, .int .u8 x.a]) rfl rfl (wv_y rfl rfl) rfl (fun _ _ hρ hm => r_loadA ag27 sz27 (hρ _ _ rfl) (hm.at 1 rfl) rfl rfl)) all_nil))))) (allM (all_cons ?_ all_nil))
      refine LOb_call (.string (textT x)) [] rfl (wv_y rfl rfl) rfl rfl (fun _ _ hρ _ => r_call (args := [.agg #[.int .u8 x.r, .int .u8 x.g, .int .u8 x.b, .int .u8 x.a]]) (enters_of Try.func12 (by kernel_rfl) rfl) (hρ _ _ rfl) ((cons2 (hρ _ _ rfl) rfl)) rfl) (fun w _ => text_c x w kx) (by kernel_rfl) ?_
      refine G_step [11] 12 [] (by kernel_rfl) (allM (all_cons (q_run (.agg #[.int .u8 x.r, .int .u8 x.g, .int .u8 x.b, .int .u8 x.a]) rfl rfl (wv_y rfl rfl) rfl (fun _ _ hρ hm => r_loadA ag27 sz27 (hρ _ _ rfl) (hm.at 1 rfl) rfl rfl)) all_nil)) (allM (all_cons ?_ all_nil))
      refine LOb_call (.string (textT x)) [(13, .bool false), (14, .bool false), (15, .bool false)] rfl (wv_y rfl rfl) rfl rfl (fun _ _ hρ _ => r_call (args := [.agg #[.int .u8 x.r, .int .u8 x.g, .int .u8 x.b, .int .u8 x.a]]) (enters_of Try.func13 (by kernel_rfl) rfl) (hρ _ _ rfl) ((cons2 (hρ _ _ rfl) rfl)) rfl) (fun w _ => text_ref x w kx) (by kernel_rfl) ?_
      refine G_last [13, 14, 15] [(1, .slice b m.length cb), (2, .slice c n.length cc), (19, .slice (some ⟨b1, of1, none⟩) l.length ca), (20, .int .i64 ((l.length : Nat) : Int)), (21, .int .i64 ((k : Nat) : Int)), (22, .bool (decide (((k : Nat) : Int) < ((l.length : Nat) : Int)))), (23, .int .i64 ((k : Nat) : Int)), (24, .pointer (some ⟨b1, of1 + k * 4, none⟩)), (25, .agg #[.int .u8 x.r, .int .u8 x.g, .int .u8 x.b, .int .u8 x.a]), (8, .pointer (some ⟨B2, 0, none⟩)), (7, .int .i64 ((k : Nat) : Int)), (26, .int .i64 ((k : Nat) : Int)), (27, .bool true), (28, .bool true), (29, .agg #[.int .u8 x.r, .int .u8 x.g, .int .u8 x.b, .int .u8 x.a]), (30, .int .u32 (packC x)), (31, .agg #[.int .u8 x.r, .int .u8 x.g, .int .u8 x.b, .int .u8 x.a]), (32, .int .u32 (packC x)), (33, .bool false), (34, .bool false), (35, .agg #[.int .u8 x.r, .int .u8 x.g, .int .u8 x.b, .int .u8 x.a]), (36, .string (textT x)), (37, .agg #[.int .u8 x.r, .int .u8 x.g, .int .u8 x.b, .int .u8 x.a]), (38, .string (textT x)), (39, .bool false), (40, .bool false), (41, .bool false)] (by kernel_rfl) (allM (all_cons (q_run (.bool false) rfl rfl (wv_y rfl rfl) rfl (fun _ _ hρ _ => r_as (r_neqS (hρ _ _ rfl) (hρ _ _ rfl)) (bool_as (by rw [beq_self_eq_true]; rfl)))) (all_cons (q_run (.bool false) rfl rfl (wv_y rfl rfl) rfl (fun _ _ hρ _ => r_pick_f (hρ _ _ rfl) (hρ _ _ rfl))) (all_cons (q_run (.bool false) rfl rfl (wv_n rfl) rfl (fun _ _ hρ _ => r_pick_t (hρ _ _ rfl) (hρ _ _ rfl))) all_nil)))) (end_old rfl rfl (end_old rfl rfl (end_old rfl rfl (end_old rfl rfl (end_old rfl rfl (end_old rfl rfl (end_old rfl rfl (end_old rfl rfl (end_old rfl rfl (end_old rfl rfl (end_old rfl rfl (end_new 0 rfl rfl (end_new 1 rfl rfl (end_new 2 rfl rfl (end_new 3 rfl rfl (end_new 4 rfl rfl (end_new 5 rfl rfl (end_new 6 rfl rfl (end_new 7 rfl rfl (end_new 8 rfl rfl (end_new 9 rfl rfl (end_new 10 rfl rfl (end_new 11 rfl rfl (end_new 12 rfl rfl (end_new 13 rfl rfl (end_new 14 rfl rfl (end_new 15 rfl rfl end_nil))))))))))))))))))))))))))) ?_
      refine T_cond_f rfl ?_
      refine T_skip' ?_
      refine p_blk_n ?_
      refine p_seq ?_
      refine T_region ?_
      refine TL_q (.int .i64 (((k : Nat) : Int) + 1)) (fun _ _ hρ _ => r_as (r_add (hρ _ _ rfl) (hρ _ _ rfl)) (int_as (wrap64 (by omega) (by omega)))) rfl rfl rfl (w_n rfl) ?_
      refine TL_q (.int .i64 (((k : Nat) : Int) + 1)) (fun _ _ hρ _ => r_move (hρ _ _ rfl)) rfl rfl rfl (w_n rfl) ?_
      refine TL_nil ?_
      exact p_at (k + 1) ⟨by omega, by omega⟩ (sub_cons rfl (sub_cons rfl (sub_cons rfl (sub_cons rfl (sub_cons rfl sub_nil))))) sub_nil
    · skip
      refine T_seq (T_draw (V := [(0, .int .i64 ((k : Nat) : Int)), (1, .bool false), (2, .bool false), (3, undef), (4, undef), (5, undef), (6, undef), (7, undef), (8, undef), (9, undef), (10, undef), (11, undef), (12, undef), (13, undef), (14, undef), (15, .bool false)]) [0, 1, 3, 7, 15, 7, 63, 127, 255, 511, 1023, 511, 4095, 8191, 16383, 32767] [[(7, none)], [(26, some 0)], [(27, some 1)], [(8, none)], [(29, some 3)], [(8, none)], [(31, some 5)], [(30, some 4), (32, some 6)], [(33, some 7)], [(8, none)], [(35, some 9)], [(8, none)], [(37, some 11)], [(36, some 10), (38, some 12)], [(39, some 13), (34, some 8)], [(40, some 14), (28, some 2)]] 0 mixed (by kernel_rfl) ?_)
      refine G_last [0, 1, 2, 3, 4, 5, 6, 7, 8, 9, 10, 11, 12, 13, 14, 15] [(1, .slice b m.length cb), (2, .slice c n.length cc), (19, .slice (some ⟨b1, of1, none⟩) l.length ca), (20, .int .i64 ((l.length : Nat) : Int)), (21, .int .i64 ((k : Nat) : Int)), (22, .bool (decide (((k : Nat) : Int) < ((l.length : Nat) : Int)))), (23, .int .i64 ((k : Nat) : Int)), (24, .pointer (some ⟨b1, of1 + k * 4, none⟩)), (25, .agg #[.int .u8 x.r, .int .u8 x.g, .int .u8 x.b, .int .u8 x.a]), (8, .pointer (some ⟨B2, 0, none⟩)), (7, .int .i64 ((k : Nat) : Int)), (26, .int .i64 ((k : Nat) : Int)), (27, .bool false), (28, .bool false), (29, undef), (30, undef), (31, undef), (32, undef), (33, undef), (34, undef), (35, undef), (36, undef), (37, undef), (38, undef), (39, undef), (40, undef), (41, .bool false)] (by kernel_rfl) (allM (all_cons (q_run (.int .i64 ((k : Nat) : Int)) rfl rfl (wv_n rfl) rfl (fun _ _ hρ _ => r_move (hρ _ _ rfl))) (all_cons (q_run (.bool false) rfl rfl (wv_n rfl) rfl (fun _ _ hρ _ => r_as (r_lss (hρ _ _ rfl) (hρ _ _ rfl)) (bool_as (decide_eq_false h12)))) (all_cons (q_run (.bool false) rfl rfl (wv_n rfl) rfl (fun _ _ hρ _ => r_move (hρ _ _ rfl))) (all_cons (q_no rfl rfl (wv_no rfl rfl)) (all_cons (q_no rfl rfl (wv_no rfl rfl)) (all_cons (q_no rfl rfl (wv_no rfl rfl)) (all_cons (q_no rfl rfl (wv_no rfl rfl)) (all_cons (q_no rfl rfl (wv_no rfl rfl)) (all_cons (q_no rfl rfl (wv_no rfl rfl)) (all_cons (q_no rfl rfl (wv_u rfl rfl)) (all_cons (q_no rfl rfl (wv_u rfl rfl)) (all_cons (q_no rfl rfl (wv_u rfl rfl)) (all_cons (q_no rfl rfl (wv_u rfl rfl)) (all_cons (q_no rfl rfl (wv_u rfl rfl)) (all_cons (q_no rfl rfl (wv_no rfl rfl)) (all_cons (q_run (.bool false) rfl rfl (wv_n rfl) rfl (fun _ _ hρ _ => r_pick_f (hρ _ _ rfl) (hρ _ _ rfl))) all_nil))))))))))))))))) (end_old rfl rfl (end_old rfl rfl (end_old rfl rfl (end_old rfl rfl (end_old rfl rfl (end_old rfl rfl (end_old rfl rfl (end_old rfl rfl (end_old rfl rfl (end_old rfl rfl (end_old rfl rfl (end_new 0 rfl rfl (end_new 1 rfl rfl (end_new 2 rfl rfl (end_new 3 rfl rfl (end_new 4 rfl rfl (end_new 5 rfl rfl (end_new 6 rfl rfl (end_new 7 rfl rfl (end_new 8 rfl rfl (end_new 9 rfl rfl (end_new 10 rfl rfl (end_new 11 rfl rfl (end_new 12 rfl rfl (end_new 13 rfl rfl (end_new 14 rfl rfl (end_new 15 rfl rfl end_nil))))))))))))))))))))))))))) ?_
      refine T_cond_f rfl ?_
      refine T_skip' ?_
      refine p_blk_n ?_
      refine p_seq ?_
      refine T_region ?_
      refine TL_q (.int .i64 (((k : Nat) : Int) + 1)) (fun _ _ hρ _ => r_as (r_add (hρ _ _ rfl) (hρ _ _ rfl)) (int_as (wrap64 (by omega) (by omega)))) rfl rfl rfl (w_n rfl) ?_
      refine TL_q (.int .i64 (((k : Nat) : Int) + 1)) (fun _ _ hρ _ => r_move (hρ _ _ rfl)) rfl rfl rfl (w_n rfl) ?_
      refine TL_nil ?_
      exact p_at (k + 1) ⟨by omega, by omega⟩ (sub_cons rfl (sub_cons rfl (sub_cons rfl (sub_cons rfl (sub_cons rfl sub_nil))))) sub_nil
  · replace h1 := of_decide_eq_false h1
    refine T_exit' ?_
    refine p_then_x ?_
    refine p_then_x ?_
    refine p_blk_x ?_
    refine p_seq ?_
    refine T_seq ?_
    refine T_seq (T_region ?_)
    refine TL_q (.slice b m.length cb) (fun _ _ hρ _ => r_move (hρ _ _ rfl)) rfl rfl rfl (w_n rfl) ?_
    refine TL_q (.int .i64 ((m.length : Nat) : Int)) (fun _ _ hρ _ => r_len sl23 (hρ _ _ rfl)) rfl rfl rfl (w_n rfl) ?_
    refine TL_q (.int .i64 0) (fun _ _ hρ _ => r_move (hρ _ _ rfl)) rfl rfl rfl (w_n rfl) ?_
    refine TL_seq ?_
    refine T_block ?_
    refine T_loop (ι := Nat) (fun (k : Nat) => k ≤ m.length) (fun (k : Nat) => [(2, .slice c n.length cc), (43, .slice b m.length cb), (44, .int .i64 ((m.length : Nat) : Int)), (45, .int .i64 ((k : Nat) : Int))]) (fun (k : Nat) => []) (fun (k : Nat) => m.length - k) 0 (Nat.zero_le _) (sub_cons rfl (sub_cons rfl (sub_cons rfl (sub_cons rfl sub_nil)))) sub_nil ?_
    rintro k hp
    show T _ _ _ [(2, .slice c n.length cc), (43, .slice b m.length cb), (44, .int .i64 ((m.length : Nat) : Int)), (45, .int .i64 ((k : Nat) : Int))] []
    refine T_seq (T_region ?_)
    refine TL_q (.bool (decide (((k : Nat) : Int) < ((m.length : Nat) : Int)))) (fun _ _ hρ _ => r_lss (hρ _ _ rfl) (hρ _ _ rfl)) rfl rfl rfl (w_n rfl) ?_
    refine TL_seq ?_
    refine T_seq ?_
    refine T_cond rfl (fun h2 => ?_) (fun h2 => ?_)
    · replace h2 := of_decide_eq_true h2
      refine T_skip' ?_
      refine p_seq ?_
      refine T_seq ?_
      refine T_block ?_
      obtain ⟨x, hx⟩ : ∃ x, m[k]? = some x := ⟨_, List.getElem?_eq_getElem (by omega)⟩
      have kx := hm1 x (List.mem_of_getElem? hx)
      obtain ⟨b3, of3, cs3, T3, fz3, ha3, hq3, hr3⟩ := hu.open (i := k) (by omega)
      subst ha3
      refine T_seq (T_region ?_)
      refine TL_q (.int .i64 ((k : Nat) : Int)) (fun _ _ hρ _ => r_move (hρ _ _ rfl)) rfl rfl rfl (w_n rfl) ?_
      refine TL_q (.pointer (some ⟨b3, of3 + k * 1, none⟩)) (fun _ _ hρ _ => r_indexAddrS (i := k) sl23 sz28 (hρ _ _ rfl) (hρ _ _ rfl) (by omega)) rfl rfl rfl (w_n rfl) ?_
      refine TL_q (.int .u32 x) (fun _ _ hρ hm => r_loadRow1 (f := u32c) (u := x) ag28 (hρ _ _ rfl) (hm.old hq3) hr3 hx rfl) rfl rfl rfl (w_n rfl) ?_
      refine TL_q (.int .i64 ((k : Nat) : Int)) (fun _ _ hρ _ => r_assign (hρ _ _ rfl)) rfl rfl rfl (w_n rfl) ?_
      refine TL_q (.int .u32 x) (fun _ _ hρ _ => r_assign (hρ _ _ rfl)) rfl rfl rfl (w_n rfl) ?_
      refine TL_seq ?_
      have hpk : packC (⟨x / 16777216, x / 65536 % 256, x / 256 % 256, x % 256⟩ : C4) = x := pack_un x kx.1 kx.2
      by_cases h12 : ((k : Nat) : Int) < 12
      · skip
        refine T_seq (T_region ?_)
        refine TL_q (.int .i64 ((k : Nat) : Int)) (fun _ _ hρ _ => r_move (hρ _ _ rfl)) rfl rfl rfl (w_n rfl) ?_
        refine TL_q (.bool true) (fun _ _ hρ _ => r_as (r_lss (hρ _ _ rfl) (hρ _ _ rfl)) (bool_as (decide_eq_true h12))) rfl rfl rfl (w_n rfl) ?_
        refine TL_q (.bool true) (fun _ _ hρ _ => r_move (hρ _ _ rfl)) rfl rfl rfl (w_n rfl) ?_
        refine TL_q (.int .u32 x) (fun _ _ hρ _ => r_move (hρ _ _ rfl)) rfl rfl rfl (want_y 52 rfl rfl rfl) ?_
        refine TL_call (.agg #[.int .u8 (x / 16777216), .int .u8 (x / 65536 % 256), .int .u8 (x / 256 % 256), .int .u8 (x % 256)]) (fun _ _ hρ _ => r_call (args := [.int .u32 x]) (enters_of Try.func14 (by kernel_rfl) rfl) (hρ _ _ rfl) ((cons2 (hρ _ _ rfl) rfl)) rfl) (fun w _ => unpack_any x w kx.1 kx.2) rfl rfl rfl (want_y 52 rfl rfl rfl) ?_
        refine TL_call (.int .u32 (packC (⟨x / 16777216, x / 65536 % 256, x / 256 % 256, x % 256⟩ : C4))) (fun _ _ hρ _ => r_call (args := [.agg #[.int .u8 (x / 16777216), .int .u8 (x / 65536 % 256), .int .u8 (x / 256 % 256), .int .u8 (x % 256)]]) (enters_of Try.func11 (by kernel_rfl) rfl) (hρ _ _ rfl) ((cons2 (hρ _ _ rfl) rfl)) rfl) (fun w _ => pack_ref (⟨x / 16777216, x / 65536 % 256, x / 256 % 256, x % 256⟩ : C4) w (un_ok x kx.1 kx.2)) rfl rfl rfl (want_y 52 rfl rfl rfl) ?_
        refine TL_q (.int .u32 x) (fun _ _ hρ _ => r_move (hρ _ _ rfl)) rfl rfl rfl (want_y 52 rfl rfl rfl) ?_
        refine TL_q (.bool false) (fun _ _ hρ _ => r_as (r_neq (hρ _ _ rfl) (hρ _ _ rfl)) (bool_as (by rw [decide_eq_true hpk]; rfl))) rfl rfl rfl (want_y 52 rfl rfl rfl) ?_
        refine TL_q (.bool false) (fun _ _ hρ _ => r_pick_t (hρ _ _ rfl) (hρ _ _ rfl)) rfl rfl rfl (w_n rfl) ?_
        refine TL_seq ?_
        refine T_cond_f rfl ?_
        refine T_skip' ?_
        refine p_blk_n ?_
        refine p_seq ?_
        refine T_region ?_
        refine TL_q (.int .i64 (((k : Nat) : Int) + 1)) (fun _ _ hρ _ => r_as (r_add (hρ _ _ rfl) (hρ _ _ rfl)) (int_as (wrap64 (by omega) (by omega)))) rfl rfl rfl (w_n rfl) ?_
        refine TL_q (.int .i64 (((k : Nat) : Int) + 1)) (fun _ _ hρ _ => r_move (hρ _ _ rfl)) rfl rfl rfl (w_n rfl) ?_
        refine TL_nil ?_
        exact p_at (k + 1) ⟨by omega, by omega⟩ (sub_cons rfl (sub_cons rfl (sub_cons rfl (sub_cons rfl sub_nil)))) sub_nil
      · skip
        refine T_seq (T_region ?_)
        refine TL_q (.int .i64 ((k : Nat) : Int)) (fun _ _ hρ _ => r_move (hρ _ _ rfl)) rfl rfl rfl (w_n rfl) ?_
        refine TL_q (.bool false) (fun _ _ hρ _ => r_as (r_lss (hρ _ _ rfl) (hρ _ _ rfl)) (bool_as (decide_eq_false h12))) rfl rfl rfl (w_n rfl) ?_
        refine TL_q (.bool false) (fun _ _ hρ _ => r_move (hρ _ _ rfl)) rfl rfl rfl (w_n rfl) ?_
        refine TL_no rfl rfl (want_n 52 rfl rfl rfl) ?_
        refine TL_no rfl rfl (want_n 52 rfl rfl rfl) ?_
        refine TL_no rfl rfl (want_n 52 rfl rfl rfl) ?_
        refine TL_no rfl rfl (want_n 52 rfl rfl rfl) ?_
        refine TL_no rfl rfl (want_n 52 rfl rfl rfl) ?_
        refine TL_q (.bool false) (fun _ _ hρ _ => r_pick_f (hρ _ _ rfl) (hρ _ _ rfl)) rfl rfl rfl (w_n rfl) ?_
        refine TL_seq ?_
        refine T_cond_f rfl ?_
        refine T_skip' ?_
        refine p_blk_n ?_
        refine p_seq ?_
        refine T_region ?_
        refine TL_q (.int .i64 (((k : Nat) : Int) + 1)) (fun _ _ hρ _ => r_as (r_add (hρ _ _ rfl) (hρ _ _ rfl)) (int_as (wrap64 (by omega) (by omega)))) rfl rfl rfl (w_n rfl) ?_
        refine TL_q (.int .i64 (((k : Nat) : Int) + 1)) (fun _ _ hρ _ => r_move (hρ _ _ rfl)) rfl rfl rfl (w_n rfl) ?_
        refine TL_nil ?_
        exact p_at (k + 1) ⟨by omega, by omega⟩ (sub_cons rfl (sub_cons rfl (sub_cons rfl (sub_cons rfl sub_nil)))) sub_nil
    · replace h2 := of_decide_eq_false h2
      refine T_exit' ?_
      refine p_then_x ?_
      refine p_then_x ?_
      refine p_blk_x ?_
      refine p_seq ?_
      refine T_seq ?_
      refine T_seq (T_region ?_)
      refine TL_q (.slice c n.length cc) (fun _ _ hρ _ => r_move (hρ _ _ rfl)) rfl rfl rfl (w_n rfl) ?_
      refine TL_q (.int .i64 ((n.length : Nat) : Int)) (fun _ _ hρ _ => r_len sl24 (hρ _ _ rfl)) rfl rfl rfl (w_n rfl) ?_
      refine TL_q (.int .i64 0) (fun _ _ hρ _ => r_move (hρ _ _ rfl)) rfl rfl rfl (w_n rfl) ?_
      refine TL_seq ?_
      refine T_block ?_
      refine T_loop (ι := Nat) (fun (k : Nat) => k ≤ n.length) (fun (k : Nat) => [(60, .slice c n.length cc), (61, .int .i64 ((n.length : Nat) : Int)), (62, .int .i64 ((k : Nat) : Int))]) (fun (k : Nat) => []) (fun (k : Nat) => n.length - k) 0 (Nat.zero_le _) (sub_cons rfl (sub_cons rfl (sub_cons rfl sub_nil))) sub_nil ?_
      rintro k hp
      show T _ _ _ [(60, .slice c n.length cc), (61, .int .i64 ((n.length : Nat) : Int)), (62, .int .i64 ((k : Nat) : Int))] []
      refine T_seq (T_region ?_)
      refine TL_q (.bool (decide (((k : Nat) : Int) < ((n.length : Nat) : Int)))) (fun _ _ hρ _ => r_lss (hρ _ _ rfl) (hρ _ _ rfl)) rfl rfl rfl (w_n rfl) ?_
      refine TL_seq ?_
      refine T_seq ?_
      refine T_cond rfl (fun h3 => ?_) (fun h3 => ?_)
      · replace h3 := of_decide_eq_true h3
        refine T_skip' ?_
        refine p_seq ?_
        refine T_seq ?_
        refine T_block ?_
        obtain ⟨x, hx⟩ : ∃ x, n[k]? = some x := ⟨_, List.getElem?_eq_getElem (by omega)⟩
        have kx := hn1 x (List.mem_of_getElem? hx)
        obtain ⟨b4, of4, cs4, T4, fz4, ha4, hq4, hr4⟩ := ht.open (i := k) (by omega)
        subst ha4
        refine T_seq (T_region ?_)
        refine TL_q (.int .i64 ((k : Nat) : Int)) (fun _ _ hρ _ => r_move (hρ _ _ rfl)) rfl rfl rfl (w_n rfl) ?_
        refine TL_q (.pointer (some ⟨b4, of4 + k * 1, none⟩)) (fun _ _ hρ _ => r_indexAddrS (i := k) sl24 sz9 (hρ _ _ rfl) (hρ _ _ rfl) (by omega)) rfl rfl rfl (w_n rfl) ?_
        refine TL_q (.string x) (fun _ _ hρ hm => r_loadRow1 (f := strc) (u := x) ag9 (hρ _ _ rfl) (hm.old hq4) hr4 hx rfl) rfl rfl rfl (w_n rfl) ?_
        refine TL_q (.int .i64 ((k : Nat) : Int)) (fun _ _ hρ _ => r_assign (hρ _ _ rfl)) rfl rfl rfl (w_n rfl) ?_
        refine TL_q (.string x) (fun _ _ hρ _ => r_assign (hρ _ _ rfl)) rfl rfl rfl (w_n rfl) ?_
        refine TL_seq ?_
        refine T_seq ?_
        by_cases h12 : ((k : Nat) : Int) = 12
        · skip
          refine T_seq (T_region ?_)
          refine TL_q (.int .i64 ((k : Nat) : Int)) (fun _ _ hρ _ => r_move (hρ _ _ rfl)) rfl rfl rfl (w_n rfl) ?_
          refine TL_q (.bool true) (fun _ _ hρ _ => r_as (r_eql (hρ _ _ rfl) (hρ _ _ rfl)) (bool_as (decide_eq_true h12))) rfl rfl rfl (w_n rfl) ?_
          refine TL_seq ?_
          refine T_cond_t rfl ?_
          refine T_exit' ?_
          refine p_then_x ?_
          refine p_blk_o rfl ?_
          refine p_then_x ?_
          refine p_then_x ?_
          refine p_blk_x ?_
          refine p_seq ?_
          refine T_seq (T_region ?_)
          refine TL_q (.bool true) (fun _ _ hρ _ => r_assign (hρ _ _ rfl)) rfl rfl rfl (w_n rfl) ?_
          refine TL_seq ?_
          refine T_ret' ?_
          refine ret_of rfl (.bool true) (fun tmps w hk hm => res1 rfl (res_tmp (hk 6 _ rfl))) (fun w hm => ?_)
          exact ⟨rfl, hm.ext⟩
        · skip
          refine T_seq (T_region ?_)
          refine TL_q (.int .i64 ((k : Nat) : Int)) (fun _ _ hρ _ => r_move (hρ _ _ rfl)) rfl rfl rfl (w_n rfl) ?_
          refine TL_q (.bool false) (fun _ _ hρ _ => r_as (r_eql (hρ _ _ rfl) (hρ _ _ rfl)) (bool_as (decide_eq_false h12))) rfl rfl rfl (w_n rfl) ?_
          refine TL_seq ?_
          refine T_cond_f rfl ?_
          refine T_skip' ?_
          refine p_seq ?_
          by_cases hok : okR x
          · skip
            refine T_seq (T_region ?_)
            refine TL_q (.string x) (fun _ _ hρ _ => r_move (hρ _ _ rfl)) rfl rfl rfl (w_n rfl) ?_
            refine TL_call (.tuple #[.agg #[.int .u8 ((valC x).r), .int .u8 ((valC x).g), .int .u8 ((valC x).b), .int .u8 ((valC x).a)], .int .i64 0]) (fun _ _ hρ _ => r_call (args := [.string x]) (enters_of Try.func15 (by kernel_rfl) rfl) (hρ _ _ rfl) ((cons2 (hρ _ _ rfl) rfl)) rfl) (fun w _ => read_yes x w hok) rfl rfl rfl (w_n rfl) ?_
            refine TL_q (.tuple #[.agg #[.int .u8 ((valC x).r), .int .u8 ((valC x).g), .int .u8 ((valC x).b), .int .u8 ((valC x).a)], .int .i64 0]) (fun _ _ hρ _ => r_move (hρ _ _ rfl)) rfl rfl rfl (w_n rfl) ?_
            refine TL_q (.agg #[.int .u8 ((valC x).r), .int .u8 ((valC x).g), .int .u8 ((valC x).b), .int .u8 ((valC x).a)]) (fun _ _ hρ _ => r_extract (hρ _ _ rfl) rfl) rfl rfl rfl (w_n rfl) ?_
            refine TL_q (.int .i64 0) (fun _ _ hρ _ => r_extract (hρ _ _ rfl) rfl) rfl rfl rfl (w_n rfl) ?_
            refine TL_new 2 (.cells #[.int .u8 0, .int .u8 0, .int .u8 0, .int .u8 0] 27) (fun B => .pointer (some ⟨B, 0, none⟩)) (fun _ _ _ _ => r_alloc (v := .agg #[.int .u8 0, .int .u8 0, .int .u8 0, .int .u8 0]) (by kernel_rfl) rfl) rfl rfl rfl (w_n rfl) ?_
            intro B5
            refine TL_store 2 (.cells #[.int .u8 ((valC x).r), .int .u8 ((valC x).g), .int .u8 ((valC x).b), .int .u8 ((valC x).a)] 27) rfl (fun _ _ hρ hm => r_store sz27 (hρ _ _ rfl) (hρ _ _ rfl) (hm.at 2 rfl) rfl rfl rfl rfl) rfl rfl (w_n rfl) ?_
            refine TL_q (.int .i64 0) (fun _ _ hρ _ => r_assign (hρ _ _ rfl)) rfl rfl rfl (w_n rfl) ?_
            refine TL_seq ?_
            refine T_seq (T_region ?_)
            refine TL_q (.string x) (fun _ _ hρ _ => r_move (hρ _ _ rfl)) rfl rfl rfl (w_n rfl) ?_
            refine TL_call (.tuple #[.agg #[.int .u8 ((valC x).r), .int .u8 ((valC x).g), .int .u8 ((valC x).b), .int .u8 ((valC x).a)], .bool true]) (fun _ _ hρ _ => r_call (args := [.string x]) (enters_of Try.func16 (by kernel_rfl) rfl) (hρ _ _ rfl) ((cons2 (hρ _ _ rfl) rfl)) rfl) (fun w _ => readR_c x w kx hok) rfl rfl rfl (w_n rfl) ?_
            refine TL_q (.tuple #[.agg #[.int .u8 ((valC x).r), .int .u8 ((valC x).g), .int .u8 ((valC x).b), .int .u8 ((valC x).a)], .bool true]) (fun _ _ hρ _ => r_move (hρ _ _ rfl)) rfl rfl rfl (w_n rfl) ?_
            refine TL_q (.agg #[.int .u8 ((valC x).r), .int .u8 ((valC x).g), .int .u8 ((valC x).b), .int .u8 ((valC x).a)]) (fun _ _ hρ _ => r_extract (hρ _ _ rfl) rfl) rfl rfl rfl (w_n rfl) ?_
            refine TL_q (.bool true) (fun _ _ hρ _ => r_extract (hρ _ _ rfl) rfl) rfl rfl rfl (w_n rfl) ?_
            refine TL_new 3 (.cells #[.int .u8 0, .int .u8 0, .int .u8 0, .int .u8 0] 27) (fun B => .pointer (some ⟨B, 0, none⟩)) (fun _ _ _ _ => r_alloc (v := .agg #[.int .u8 0, .int .u8 0, .int .u8 0, .int .u8 0]) (by kernel_rfl) rfl) rfl rfl rfl (w_n rfl) ?_
            intro B6
            refine TL_store 3 (.cells #[.int .u8 ((valC x).r), .int .u8 ((valC x).g), .int .u8 ((valC x).b), .int .u8 ((valC x).a)] 27) rfl (fun _ _ hρ hm => r_store sz27 (hρ _ _ rfl) (hρ _ _ rfl) (hm.at 3 rfl) rfl rfl rfl rfl) rfl rfl (w_n rfl) ?_
            refine TL_q (.bool true) (fun _ _ hρ _ => r_assign (hρ _ _ rfl)) rfl rfl rfl (w_n rfl) ?_
            refine TL_seq ?_
            refine T_seq (T_region ?_)
            refine TL_q (.agg #[.int .u8 ((valC x).r), .int .u8 ((valC x).g), .int .u8 ((valC x).b), .int .u8 ((valC x).a)]) (fun _ _ hρ hm => r_loadA ag27 sz27 (hρ _ _ rfl) (hm.at 2 rfl) rfl rfl) rfl rfl rfl (w_n rfl) ?_
            refine TL_q (.agg #[.int .u8 ((valC x).r), .int .u8 ((valC x).g), .int .u8 ((valC x).b), .int .u8 ((valC x).a)]) (fun _ _ hρ hm => r_loadA ag27 sz27 (hρ _ _ rfl) (hm.at 3 rfl) rfl rfl) rfl rfl rfl (w_n rfl) ?_
            refine TL_q (.bool false) (fun _ _ hρ _ => r_as (r_neqA (by kernel_rfl) (hρ _ _ rfl) (hρ _ _ rfl) (run_equalI (l := [(0, .u8), (1, .u8), (2, .u8), (3, .u8)]) (by kernel_rfl) rfl rfl)) (bool_as (by simp only [eqI_self]; rfl))) rfl rfl rfl (w_n rfl) ?_
            refine TL_q (.bool false) (fun _ _ hρ _ => r_move (hρ _ _ rfl)) rfl rfl rfl (w_n rfl) ?_
            refine TL_q (.int .i64 0) (fun _ _ hρ _ => r_move (hρ _ _ rfl)) rfl rfl rfl (want_y 82 rfl rfl rfl) ?_
            refine TL_q (.bool true) (fun _ _ hρ _ => r_as (r_eql (hρ _ _ rfl) (hρ _ _ rfl)) (by rfl)) rfl rfl rfl (want_y 82 rfl rfl rfl) ?_
            refine TL_q (.bool true) (fun _ _ hρ _ => r_move (hρ _ _ rfl)) rfl rfl rfl (want_y 82 rfl rfl rfl) ?_
            refine TL_q (.bool false) (fun _ _ hρ _ => r_as (r_neqB (by kernel_rfl) (hρ _ _ rfl) (hρ _ _ rfl)) (by rfl)) rfl rfl rfl (want_y 82 rfl rfl rfl) ?_
            refine TL_q (.bool false) (fun _ _ hρ _ => r_pick_f (hρ _ _ rfl) (hρ _ _ rfl)) rfl rfl rfl (w_n rfl) ?_
            refine TL_q (.bool false) (fun _ _ hρ _ => r_move (hρ _ _ rfl)) rfl rfl rfl (w_n rfl) ?_
            refine TL_q (.bool true) (fun _ _ hρ _ => r_move (hρ _ _ rfl)) rfl rfl rfl (want_y 88 rfl rfl rfl) ?_
            refine TL_q (.bool false) (fun _ _ hρ _ => r_not (b := true) (hρ _ _ rfl)) rfl rfl rfl (want_y 88 rfl rfl rfl) ?_
            refine TL_q (.bool false) (fun _ _ hρ _ => r_move (hρ _ _ rfl)) rfl rfl rfl (want_y 88 rfl rfl rfl) ?_
            refine TL_no rfl rfl (want_n 91 rfl rfl rfl) ?_
            refine TL_no rfl rfl (want_n 91 rfl rfl rfl) ?_
            refine TL_q (.bool false) (fun _ _ hρ _ => r_pick_f (hρ _ _ rfl) (hρ _ _ rfl)) rfl rfl rfl (want_y 88 rfl rfl rfl) ?_
            refine TL_q (.bool false) (fun _ _ hρ _ => r_pick_f (hρ _ _ rfl) (hρ _ _ rfl)) rfl rfl rfl (w_n rfl) ?_
            refine TL_seq ?_
            refine T_sub [(60, .slice (some ⟨b4, of4, none⟩) n.length cc), (61, .int .i64 ((n.length : Nat) : Int)), (62, .int .i64 ((k : Nat) : Int)), (63, .bool (decide (((k : Nat) : Int) < ((n.length : Nat) : Int)))), (64, .int .i64 ((k : Nat) : Int)), (65, .pointer (some ⟨b4, of4 + k * 1, none⟩)), (66, .string x), (11, .int .i64 ((k : Nat) : Int)), (12, .string x), (67, .int .i64 ((k : Nat) : Int)), (68, .bool false), (70, .string x), (71, .tuple #[.agg #[.int .u8 ((valC x).r), .int .u8 ((valC x).g), .int .u8 ((valC x).b), .int .u8 ((valC x).a)], .int .i64 0]), (69, .tuple #[.agg #[.int .u8 ((valC x).r), .int .u8 ((valC x).g), .int .u8 ((valC x).b), .int .u8 ((valC x).a)], .int .i64 0]), (72, .agg #[.int .u8 ((valC x).r), .int .u8 ((valC x).g), .int .u8 ((valC x).b), .int .u8 ((valC x).a)]), (73, .int .i64 0), (13, .pointer (some ⟨B5, 0, none⟩)), (14, .int .i64 0), (75, .string x), (76, .tuple #[.agg #[.int .u8 ((valC x).r), .int .u8 ((valC x).g), .int .u8 ((valC x).b), .int .u8 ((valC x).a)], .bool true]), (74, .tuple #[.agg #[.int .u8 ((valC x).r), .int .u8 ((valC x).g), .int .u8 ((valC x).b), .int .u8 ((valC x).a)], .bool true]), (77, .agg #[.int .u8 ((valC x).r), .int .u8 ((valC x).g), .int .u8 ((valC x).b), .int .u8 ((valC x).a)]), (78, .bool true), (15, .pointer (some ⟨B6, 0, none⟩)), (16, .bool true), (79, .agg #[.int .u8 ((valC x).r), .int .u8 ((valC x).g), .int .u8 ((valC x).b), .int .u8 ((valC x).a)]), (80, .agg #[.int .u8 ((valC x).r), .int .u8 ((valC x).g), .int .u8 ((valC x).b), .int .u8 ((valC x).a)]), (81, .bool false), (82, .bool false), (83, .int .i64 0), (84, .bool true), (85, .bool true), (86, .bool false), (87, .bool false), (88, .bool false), (89, .bool true), (90, .bool false), (91, .bool false), (92, undef), (93, undef), (94, .bool false), (95, .bool false)] [(2, .blk B5 (.cells #[.int .u8 ((valC x).r), .int .u8 ((valC x).g), .int .u8 ((valC x).b), .int .u8 ((valC x).a)] 27)), (3, .blk B6 (.cells #[.int .u8 ((valC x).r), .int .u8 ((valC x).g), .int .u8 ((valC x).b), .int .u8 ((valC x).a)] 27))] (sub_cons rfl (sub_cons rfl (sub_cons rfl (sub_cons rfl (sub_cons rfl (sub_cons rfl (sub_cons rfl (sub_cons rfl (sub_cons rfl (sub_cons rfl (sub_cons rfl (sub_cons rfl (sub_cons rfl (sub_cons rfl (sub_cons rfl (sub_cons rfl (sub_cons rfl (sub_cons rfl (sub_cons rfl (sub_cons rfl (sub_cons rfl (sub_cons rfl (sub_cons rfl (sub_cons rfl (sub_cons rfl (sub_cons rfl (sub_cons rfl (sub_cons rfl (sub_cons rfl (sub_cons rfl (sub_cons rfl (sub_cons rfl (sub_cons rfl (sub_cons rfl (sub_cons rfl (sub_cons rfl (sub_cons rfl (sub_cons rfl (sub_cons rfl (sub_cons rfl (sub_cons rfl (sub_cons rfl sub_nil)))))))))))))))))))))))))))))))))))))))))) (sub_cons rfl (sub_cons rfl sub_nil)) ?_
            refine T_cond_f rfl ?_
            refine T_skip' ?_
            refine p_blk_n ?_
            refine p_seq ?_
            refine T_region ?_
            refine TL_q (.int .i64 (((k : Nat) : Int) + 1)) (fun _ _ hρ _ => r_as (r_add (hρ _ _ rfl) (hρ _ _ rfl)) (int_as (wrap64 (by omega) (by omega)))) rfl rfl rfl (w_n rfl) ?_
            refine TL_q (.int .i64 (((k : Nat) : Int) + 1)) (fun _ _ hρ _ => r_move (hρ _ _ rfl)) rfl rfl rfl (w_n rfl) ?_
            refine TL_nil ?_
            exact p_at (k + 1) ⟨by omega, by omega⟩ (sub_cons rfl (sub_cons rfl (sub_cons rfl sub_nil))) sub_nil
          · skip
            refine T_seq (T_region ?_)
            refine TL_q (.string x) (fun _ _ hρ _ => r_move (hρ _ _ rfl)) rfl rfl rfl (w_n rfl) ?_
            refine TL_call (.tuple #[.agg #[.int .u8 0, .int .u8 0, .int .u8 0, .int .u8 0], .int .i64 130]) (fun _ _ hρ _ => r_call (args := [.string x]) (enters_of Try.func15 (by kernel_rfl) rfl) (hρ _ _ rfl) ((cons2 (hρ _ _ rfl) rfl)) rfl) (fun w _ => read_no x w kx hok) rfl rfl rfl (w_n rfl) ?_
            refine TL_q (.tuple #[.agg #[.int .u8 0, .int .u8 0, .int .u8 0, .int .u8 0], .int .i64 130]) (fun _ _ hρ _ => r_move (hρ _ _ rfl)) rfl rfl rfl (w_n rfl) ?_
            refine TL_q (.agg #[.int .u8 0, .int .u8 0, .int .u8 0, .int .u8 0]) (fun _ _ hρ _ => r_extract (hρ _ _ rfl) rfl) rfl rfl rfl (w_n rfl) ?_
            refine TL_q (.int .i64 130) (fun _ _ hρ _ => r_extract (hρ _ _ rfl) rfl) rfl rfl rfl (w_n rfl) ?_
            refine TL_new 4 (.cells #[.int .u8 0, .int .u8 0, .int .u8 0, .int .u8 0] 27) (fun B => .pointer (some ⟨B, 0, none⟩)) (fun _ _ _ _ => r_alloc (v := .agg #[.int .u8 0, .int .u8 0, .int .u8 0, .int .u8 0]) (by kernel_rfl) rfl) rfl rfl rfl (w_n rfl) ?_
            intro B7
            refine TL_store 4 (.cells #[.int .u8 0, .int .u8 0, .int .u8 0, .int .u8 0] 27) rfl (fun _ _ hρ hm => r_store sz27 (hρ _ _ rfl) (hρ _ _ rfl) (hm.at 4 rfl) rfl rfl rfl rfl) rfl rfl (w_n rfl) ?_
            refine TL_q (.int .i64 130) (fun _ _ hρ _ => r_assign (hρ _ _ rfl)) rfl rfl rfl (w_n rfl) ?_
            refine TL_seq ?_
            refine T_seq (T_region ?_)
            refine TL_q (.string x) (fun _ _ hρ _ => r_move (hρ _ _ rfl)) rfl rfl rfl (w_n rfl) ?_
            refine TL_call (.tuple #[.agg #[.int .u8 0, .int .u8 0, .int .u8 0, .int .u8 0], .bool false]) (fun _ _ hρ _ => r_call (args := [.string x]) (enters_of Try.func16 (by kernel_rfl) rfl) (hρ _ _ rfl) ((cons2 (hρ _ _ rfl) rfl)) rfl) (fun w _ => readR_n x w kx hok) rfl rfl rfl (w_n rfl) ?_
            refine TL_q (.tuple #[.agg #[.int .u8 0, .int .u8 0, .int .u8 0, .int .u8 0], .bool false]) (fun _ _ hρ _ => r_move (hρ _ _ rfl)) rfl rfl rfl (w_n rfl) ?_
            refine TL_q (.agg #[.int .u8 0, .int .u8 0, .int .u8 0, .int .u8 0]) (fun _ _ hρ _ => r_extract (hρ _ _ rfl) rfl) rfl rfl rfl (w_n rfl) ?_
            refine TL_q (.bool false) (fun _ _ hρ _ => r_extract (hρ _ _ rfl) rfl) rfl rfl rfl (w_n rfl) ?_
            refine TL_new 5 (.cells #[.int .u8 0, .int .u8 0, .int .u8 0, .int .u8 0] 27) (fun B => .pointer (some ⟨B, 0, none⟩)) (fun _ _ _ _ => r_alloc (v := .agg #[.int .u8 0, .int .u8 0, .int .u8 0, .int .u8 0]) (by kernel_rfl) rfl) rfl rfl rfl (w_n rfl) ?_
            intro B8
            refine TL_store 5 (.cells #[.int .u8 0, .int .u8 0, .int .u8 0, .int .u8 0] 27) rfl (fun _ _ hρ hm => r_store sz27 (hρ _ _ rfl) (hρ _ _ rfl) (hm.at 5 rfl) rfl rfl rfl rfl) rfl rfl (w_n rfl) ?_
            refine TL_q (.bool false) (fun _ _ hρ _ => r_assign (hρ _ _ rfl)) rfl rfl rfl (w_n rfl) ?_
            refine TL_seq ?_
            refine T_seq (T_region ?_)
            refine TL_q (.agg #[.int .u8 0, .int .u8 0, .int .u8 0, .int .u8 0]) (fun _ _ hρ hm => r_loadA ag27 sz27 (hρ _ _ rfl) (hm.at 4 rfl) rfl rfl) rfl rfl rfl (w_n rfl) ?_
            refine TL_q (.agg #[.int .u8 0, .int .u8 0, .int .u8 0, .int .u8 0]) (fun _ _ hρ hm => r_loadA ag27 sz27 (hρ _ _ rfl) (hm.at 5 rfl) rfl rfl) rfl rfl rfl (w_n rfl) ?_
            refine TL_q (.bool false) (fun _ _ hρ _ => r_as (r_neqA (by kernel_rfl) (hρ _ _ rfl) (hρ _ _ rfl) (run_equalI (l := [(0, .u8), (1, .u8), (2, .u8), (3, .u8)]) (by kernel_rfl) rfl rfl)) (bool_as (by simp only [eqI_self]; rfl))) rfl rfl rfl (w_n rfl) ?_
            refine TL_q (.bool false) (fun _ _ hρ _ => r_move (hρ _ _ rfl)) rfl rfl rfl (w_n rfl) ?_
            refine TL_q (.int .i64 130) (fun _ _ hρ _ => r_move (hρ _ _ rfl)) rfl rfl rfl (want_y 82 rfl rfl rfl) ?_
            refine TL_q (.bool false) (fun _ _ hρ _ => r_as (r_eql (hρ _ _ rfl) (hρ _ _ rfl)) (by rfl)) rfl rfl rfl (want_y 82 rfl rfl rfl) ?_
            refine TL_q (.bool false) (fun _ _ hρ _ => r_move (hρ _ _ rfl)) rfl rfl rfl (want_y 82 rfl rfl rfl) ?_
            refine TL_q (.bool false) (fun _ _ hρ _ => r_as (r_neqB (by kernel_rfl) (hρ _ _ rfl) (hρ _ _ rfl)) (by rfl)) rfl rfl rfl (want_y 82 rfl rfl rfl) ?_
            refine TL_q (.bool false) (fun _ _ hρ _ => r_pick_f (hρ _ _ rfl) (hρ _ _ rfl)) rfl rfl rfl (w_n rfl) ?_
            refine TL_q (.bool false) (fun _ _ hρ _ => r_move (hρ _ _ rfl)) rfl rfl rfl (w_n rfl) ?_
            refine TL_q (.bool false) (fun _ _ hρ _ => r_move (hρ _ _ rfl)) rfl rfl rfl (want_y 88 rfl rfl rfl) ?_
            refine TL_q (.bool true) (fun _ _ hρ _ => r_not (b := false) (hρ _ _ rfl)) rfl rfl rfl (want_y 88 rfl rfl rfl) ?_
            refine TL_q (.bool true) (fun _ _ hρ _ => r_move (hρ _ _ rfl)) rfl rfl rfl (want_y 88 rfl rfl rfl) ?_
            refine TL_q (.int .i64 130) (fun _ _ hρ _ => r_move (hρ _ _ rfl)) rfl rfl rfl (want_y 91 rfl rfl rfl) ?_
            refine TL_q (.bool false) (fun _ _ hρ _ => r_as (r_neq (hρ _ _ rfl) (hρ _ _ rfl)) (by rfl)) rfl rfl rfl (want_y 91 rfl rfl rfl) ?_
            refine TL_q (.bool false) (fun _ _ hρ _ => r_pick_t (hρ _ _ rfl) (hρ _ _ rfl)) rfl rfl rfl (want_y 88 rfl rfl rfl) ?_
            refine TL_q (.bool false) (fun _ _ hρ _ => r_pick_f (hρ _ _ rfl) (hρ _ _ rfl)) rfl rfl rfl (w_n rfl) ?_
            refine TL_seq ?_
            refine T_sub [(60, .slice (some ⟨b4, of4, none⟩) n.length cc), (61, .int .i64 ((n.length : Nat) : Int)), (62, .int .i64 ((k : Nat) : Int)), (63, .bool (decide (((k : Nat) : Int) < ((n.length : Nat) : Int)))), (64, .int .i64 ((k : Nat) : Int)), (65, .pointer (some ⟨b4, of4 + k * 1, none⟩)), (66, .string x), (11, .int .i64 ((k : Nat) : Int)), (12, .string x), (67, .int .i64 ((k : Nat) : Int)), (68, .bool false), (70, .string x), (71, .tuple #[.agg #[.int .u8 0, .int .u8 0, .int .u8 0, .int .u8 0], .int .i64 130]), (69, .tuple #[.agg #[.int .u8 0, .int .u8 0, .int .u8 0, .int .u8 0], .int .i64 130]), (72, .agg #[.int .u8 0, .int .u8 0, .int .u8 0, .int .u8 0]), (73, .int .i64 130), (13, .pointer (some ⟨B7, 0, none⟩)), (14, .int .i64 130), (75, .string x), (76, .tuple #[.agg #[.int .u8 0, .int .u8 0, .int .u8 0, .int .u8 0], .bool false]), (74, .tuple #[.agg #[.int .u8 0, .int .u8 0, .int .u8 0, .int .u8 0], .bool false]), (77, .agg #[.int .u8 0, .int .u8 0, .int .u8 0, .int .u8 0]), (78, .bool false), (15, .pointer (some ⟨B8, 0, none⟩)), (16, .bool false), (79, .agg #[.int .u8 0, .int .u8 0, .int .u8 0, .int .u8 0]), (80, .agg #[.int .u8 0, .int .u8 0, .int .u8 0, .int .u8 0]), (81, .bool false), (82, .bool false), (83, .int .i64 130), (84, .bool false), (85, .bool false), (86, .bool false), (87, .bool false), (88, .bool false), (89, .bool false), (90, .bool true), (91, .bool true), (92, .int .i64 130), (93, .bool false), (94, .bool false), (95, .bool false)] [(4, .blk B7 (.cells #[.int .u8 0, .int .u8 0, .int .u8 0, .int .u8 0] 27)), (5, .blk B8 (.cells #[.int .u8 0, .int .u8 0, .int .u8 0, .int .u8 0] 27))] (sub_cons rfl (sub_cons rfl (sub_cons rfl (sub_cons rfl (sub_cons rfl (sub_cons rfl (sub_cons rfl (sub_cons rfl (sub_cons rfl (sub_cons rfl (sub_cons rfl (sub_cons rfl (sub_cons rfl (sub_cons rfl (sub_cons rfl (sub_cons rfl (sub_cons rfl (sub_cons rfl (sub_cons rfl (sub_cons rfl (sub_cons rfl (sub_cons rfl (sub_cons rfl (sub_cons rfl (sub_cons rfl (sub_cons rfl (sub_cons rfl (sub_cons rfl (sub_cons rfl (sub_cons rfl (sub_cons rfl (sub_cons rfl (sub_cons rfl (sub_cons rfl (sub_cons rfl (sub_cons rfl (sub_cons rfl (sub_cons rfl (sub_cons rfl (sub_cons rfl (sub_cons rfl (sub_cons rfl sub_nil)))))))))))))))))))))))))))))))))))))))))) (sub_cons rfl (sub_cons rfl sub_nil)) ?_
            refine T_cond_f rfl ?_
            refine T_skip' ?_
            refine p_blk_n ?_
            refine p_seq ?_
            refine T_region ?_
            refine TL_q (.int .i64 (((k : Nat) : Int) + 1)) (fun _ _ hρ _ => r_as (r_add (hρ _ _ rfl) (hρ _ _ rfl)) (int_as (wrap64 (by omega) (by omega)))) rfl rfl rfl (w_n rfl) ?_
            refine TL_q (.int .i64 (((k : Nat) : Int) + 1)) (fun _ _ hρ _ => r_move (hρ _ _ rfl)) rfl rfl rfl (w_n rfl) ?_
            refine TL_nil ?_
            exact p_at (k + 1) ⟨by omega, by omega⟩ (sub_cons rfl (sub_cons rfl (sub_cons rfl sub_nil))) sub_nil
      · replace h3 := of_decide_eq_false h3
        refine T_exit' ?_
        refine p_then_x ?_
        refine p_then_x ?_
        refine p_blk_x ?_
        refine p_seq ?_
        refine T_seq (T_region ?_)
        refine TL_q (.bool true) (fun _ _ hρ _ => r_assign (hρ _ _ rfl)) rfl rfl rfl (w_n rfl) ?_
        refine TL_seq ?_
        refine T_ret' ?_
        refine ret_of rfl (.bool true) (fun tmps w hk hm => res1 rfl (res_tmp (hk 6 _ rfl))) (fun w hm => ?_)
        exact ⟨rfl, hm.ext⟩
end Go.Proofs.Ytnhkiblakclcoaa
