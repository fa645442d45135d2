/- tile: the walk of TileMoves. Printed by a program of this seat's prover. -/
import Derived.Test.YtmlkifojbjbpcaaWake
namespace Go.Proofs.Ytmlkifojbjbpcaa
open Go Go.RowKit
set_option maxRecDepth 10000
theorem row_cap {w : World} {base n s cap : Nat} {e : TypeId} {a : Option Addr} {xs : List Value} (h : w.ownsRow base e s (.slice a n cap) n xs) : cap ≤ Go.maxLen := by
  rcases h.2 with ⟨h1, _⟩ | ⟨g', cap', cur, h1, h2, h3, h4, h5, h6, h7⟩
  · cases h1; exact Nat.zero_le _
  · cases h1; exact h5
theorem at_out {l : List C4} {x y : Int} (h : ¬ isP x y = true) : Value.tuple #[(atC l x y).v, .int .i64 (atE x y)] = .tuple #[.agg #[.int .u8 0, .int .u8 0, .int .u8 0, .int .u8 0], .int .i64 140] := by
  unfold atC atE
  rw [if_neg h, if_neg h]
theorem at_refI (l : List C4) (x y : Int) (w : World) (hl : l.length = 64) (h : isP x y = true) : Calls Try.prog 29 #[til l, .int .i64 x, .int .i64 y] w fun e w' => e = .returned (atC l x y).v ∧ Below w.heap.size w w' := by
  obtain ⟨px, py, rfl, rfl, hx, hy⟩ := isP_nat h
  refine (at_ref l px py w hl hx hy).mono fun e w' ⟨he, hb⟩ => ⟨he.trans ?_, hb⟩
  unfold atC
  rw [if_pos h, show (8 * (py : Int) + px).toNat = 8 * py + px by omega]

set_option maxHeartbeats 4000000 in
theorem moves_any (l : List C4) (ps : List Pt) (a : Option Addr) (cap : Nat) (c : C4) (w : World) (hl : l.length = 64) (hv : SliceAt w a cap 2 Pt.cells ps) (hcap : cap ≤ Go.maxLen) :
    Calls Try.prog 5 #[til l, .slice a ps.length cap, c.v] w fun e w' => e = .returned (.bool true) ∧ Below w.heap.size w w' := by
  have hvl := hv.1
  unfold Go.maxLen at hcap
  refine calls_of_T (l := [.agg (lst C4.cells l), .slice a ps.length cap, .agg #[.int .u8 c.r, .int .u8 c.g, .int .u8 c.b, .int .u8 c.a]]) 52 Try.func5 rfl rfl rfl ?_
  show T _ _ _ [(0, .agg (lst C4.cells l)), (1, .slice a ps.length cap), (2, .agg #[.int .u8 c.r, .int .u8 c.g, .int .u8 c.b, .int .u8 c.a])] []
  refine T_seq (T_region ?_)
  refine TL_new 1 (.cells (lst C4.cells l) 25) (fun B => .pointer (some ⟨B, 0, none⟩)) (fun _ _ hρ _ => r_box (hρ _ _ rfl) rfl) rfl rfl rfl (w_n rfl) ?_
  intro B1
  refine TL_new 2 (.cells #[.int .u8 c.r, .int .u8 c.g, .int .u8 c.b, .int .u8 c.a] 23) (fun B => .pointer (some ⟨B, 0, none⟩)) (fun _ _ hρ _ => r_box (hρ _ _ rfl) rfl) rfl rfl rfl (w_n rfl) ?_
  intro B2
  refine TL_q (.bool false) (fun _ _ hρ _ => r_assign (hρ _ _ rfl)) rfl rfl rfl (w_n rfl) ?_
  refine TL_seq ?_
  refine T_seq ?_
  refine T_seq (T_region ?_)
  refine TL_call (.bool true) (fun _ _ hρ _ => r_call (args := []) (enters_of Try.func9 (by kernel_rfl) rfl) (hρ _ _ rfl) (by rfl) rfl) (fun w _ => wakes_any w) rfl rfl rfl (w_n rfl) ?_
  refine TL_q (.bool false) (fun _ _ hρ _ => r_not (b := true) (hρ _ _ rfl)) rfl rfl rfl (w_n rfl) ?_
  refine TL_seq ?_
  refine T_cond_f rfl ?_
  refine T_skip' ?_
  refine p_seq ?_
  refine T_seq ?_
  refine T_seq (T_draw (V := [(0, .agg (lst C4.cells l)), (2, .agg (lst C4.cells l))]) [0, 1, 0, 7, 15] [[(3, none)], [(11, some 0)], [(3, none)], [(13, some 2)], [(12, some 1), (14, some 3)]] 10 mixed (by kernel_rfl) ?_)
  refine G_step [0, 2] 1 [] (by kernel_rfl) (allM (all_cons (q_run (.agg (lst C4.cells l)) rfl rfl (wv_n rfl) rfl (fun _ _ hρ hm => r_loadW ag25 sz25 (hρ _ _ rfl) (hm.at 1 rfl) (tsz hl))) (all_cons (q_run (.agg (lst C4.cells l)) rfl rfl (wv_n rfl) rfl (fun _ _ hρ hm => r_loadW ag25 sz25 (hρ _ _ rfl) (hm.at 1 rfl) (tsz hl))) all_nil))) (allM (all_cons ?_ all_nil))
  refine LOb_call (.agg (lst C4.cells (flipL l))) [] rfl (wv_n rfl) rfl rfl (fun _ _ hρ _ => r_call (args := [.agg (lst C4.cells l)]) (enters_of Try.func21 (by kernel_rfl) rfl) (hρ _ _ rfl) ((cons2 (hρ _ _ rfl) rfl)) rfl) (fun w _ => flip_c l w hl) (by kernel_rfl) ?_
  refine G_step [2] 3 [] (by kernel_rfl) (allM (all_cons (q_run (.agg (lst C4.cells l)) rfl rfl (wv_n rfl) rfl (fun _ _ hρ hm => r_loadW ag25 sz25 (hρ _ _ rfl) (hm.at 1 rfl) (tsz hl))) all_nil)) (allM (all_cons ?_ all_nil))
  refine LOb_call (.agg (lst C4.cells (flipL l))) [(4, .bool false)] rfl (wv_n rfl) rfl rfl (fun _ _ hρ _ => r_call (args := [.agg (lst C4.cells l)]) (enters_of Try.func22 (by kernel_rfl) rfl) (hρ _ _ rfl) ((cons2 (hρ _ _ rfl) rfl)) rfl) (fun w _ => flip_ref l w hl) (by kernel_rfl) ?_
  refine G_last [4] [(1, .slice a ps.length cap), (3, .pointer (some ⟨B1, 0, none⟩)), (5, .pointer (some ⟨B2, 0, none⟩)), (6, .bool false), (15, .bool false)] (by kernel_rfl) (allM (all_cons (q_run (.bool false) rfl rfl (wv_n rfl) rfl (fun _ w hρ _ => r_as (r_neqA (by kernel_rfl) (hρ _ _ rfl) (hρ _ _ rfl) (eq_til (flipL_len _) (flipL_len _) w)) (bool_as (by rw [decide_eq_true rfl]; rfl)))) all_nil)) (end_old rfl rfl (end_old rfl rfl (end_old rfl rfl (end_old rfl rfl (end_new 4 rfl rfl end_nil))))) ?_
  refine T_cond_f rfl ?_
  refine T_skip' ?_
  refine p_seq ?_
  refine T_seq ?_
  refine T_seq (T_region ?_)
  refine TL_q (.slice a ps.length cap) (fun _ _ hρ _ => r_move (hρ _ _ rfl)) rfl rfl rfl (w_n rfl) ?_
  refine TL_q (.int .i64 ((ps.length : Nat) : Int)) (fun _ _ hρ _ => r_len sl45 (hρ _ _ rfl)) rfl rfl rfl (w_n rfl) ?_
  refine TL_q (.int .i64 0) (fun _ _ hρ _ => r_move (hρ _ _ rfl)) rfl rfl rfl (w_n rfl) ?_
  refine TL_seq ?_
  refine T_block ?_
  refine T_loop (ι := Nat) (fun (k : Nat) => k ≤ ps.length) (fun (k : Nat) => [(3, .pointer (some ⟨B1, 0, none⟩)), (5, .pointer (some ⟨B2, 0, none⟩)), (16, .slice a ps.length cap), (17, .int .i64 ((ps.length : Nat) : Int)), (18, .int .i64 ((k : Nat) : Int))]) (fun (k : Nat) => [(1, .blk B1 (.cells (lst C4.cells l) 25)), (2, .blk B2 (.cells #[.int .u8 c.r, .int .u8 c.g, .int .u8 c.b, .int .u8 c.a] 23))]) (fun (k : Nat) => ps.length - k) 0 (Nat.zero_le _) (sub_cons rfl (sub_cons rfl (sub_cons rfl (sub_cons rfl (sub_cons rfl sub_nil))))) (sub_cons rfl (sub_cons rfl sub_nil)) ?_
  rintro k hp
  show T _ _ _ [(3, .pointer (some ⟨B1, 0, none⟩)), (5, .pointer (some ⟨B2, 0, none⟩)), (16, .slice a ps.length cap), (17, .int .i64 ((ps.length : Nat) : Int)), (18, .int .i64 ((k : Nat) : Int))] [(1, .blk B1 (.cells (lst C4.cells l) 25)), (2, .blk B2 (.cells #[.int .u8 c.r, .int .u8 c.g, .int .u8 c.b, .int .u8 c.a] 23))]
  refine T_seq (T_region ?_)
  refine TL_q (.bool (decide (((k : Nat) : Int) < ((ps.length : Nat) : Int)))) (fun _ _ hρ _ => r_lss (hρ _ _ rfl) (hρ _ _ rfl)) rfl rfl rfl (w_n rfl) ?_
  refine TL_seq ?_
  refine T_seq ?_
  refine T_cond rfl (fun h1 => ?_) (fun h1 => ?_)
  · replace h1 := of_decide_eq_true h1
    refine T_skip' ?_
    refine p_seq ?_
    refine T_seq ?_
    refine T_block ?_
    obtain ⟨x, hx⟩ : ∃ x, ps[k]? = some x := ⟨_, List.getElem?_eq_getElem (by omega)⟩
    obtain ⟨b3, of3, cs3, T3, fz3, ha3, hq3, hr3⟩ := hv.open (i := k) (by omega)
    subst ha3
    refine T_seq (T_region ?_)
    refine TL_q (.int .i64 ((k : Nat) : Int)) (fun _ _ hρ _ => r_move (hρ _ _ rfl)) rfl rfl rfl (w_n rfl) ?_
    refine TL_q (.pointer (some ⟨b3, of3 + k * 2, none⟩)) (fun _ _ hρ _ => r_indexAddrS (i := k) sl45 sz43 (hρ _ _ rfl) (hρ _ _ rfl) (by omega)) rfl rfl rfl (w_n rfl) ?_
    refine TL_q (.agg #[.int .i64 x.x, .int .i64 x.y]) (fun _ _ hρ hm => r_loadRow (f := Pt.cells) (u := x) ag43 sz43 (hρ _ _ rfl) (hm.old hq3) hr3 hx) rfl rfl rfl (w_n rfl) ?_
    refine TL_new 3 (.cells #[.int .i64 0, .int .i64 0] 43) (fun B => .pointer (some ⟨B, 0, none⟩)) (fun _ _ _ _ => r_alloc (v := .agg #[.int .i64 0, .int .i64 0]) (by kernel_rfl) rfl) rfl rfl rfl (w_n rfl) ?_
    intro B4
    refine TL_q (.int .i64 ((k : Nat) : Int)) (fun _ _ hρ _ => r_assign (hρ _ _ rfl)) rfl rfl rfl (w_n rfl) ?_
    refine TL_store 3 (.cells #[.int .i64 x.x, .int .i64 x.y] 43) rfl (fun _ _ hρ hm => r_store sz43 (hρ _ _ rfl) (hρ _ _ rfl) (hm.at 3 rfl) rfl rfl rfl rfl) rfl rfl (w_n rfl) ?_
    refine TL_seq ?_
    refine T_seq ?_
    refine T_seq (T_region ?_)
    refine TL_q (.int .i64 ((k : Nat) : Int)) (fun _ _ hρ _ => r_move (hρ _ _ rfl)) rfl rfl rfl (w_n rfl) ?_
    refine TL_q (.bool (decide (((k : Nat) : Int) = 8))) (fun _ _ hρ _ => r_eql (hρ _ _ rfl) (hρ _ _ rfl)) rfl rfl rfl (w_n rfl) ?_
    refine TL_seq ?_
    refine T_cond rfl (fun h2 => ?_) (fun h2 => ?_)
    · replace h2 := of_decide_eq_true h2
      refine T_exit' ?_
      refine p_then_x ?_
      refine p_blk_o rfl ?_
      refine p_then_x ?_
      refine p_then_x ?_
      refine p_blk_x ?_
      refine p_seq ?_
      refine T_seq (T_region ?_)
      refine TL_q (.bool true) (fun _ _ hρ _ => r_assign (hρ _ _ rfl)) rfl rfl rfl (w_n rfl) ?_
      refine TL_seq ?_
      refine T_ret' ?_
      refine ret_of rfl (.bool true) (fun tmps w hk hm => res1 rfl (res_tmp (hk 6 _ rfl))) (fun w hm => ?_)
      exact ⟨rfl, hm.ext⟩
    · replace h2 := of_decide_eq_false h2
      refine T_skip' ?_
      refine p_seq ?_
      refine T_seq (T_draw (V := [(0, .agg (lst C4.cells l)), (1, .pointer (some ⟨B4, 0, none⟩)), (2, .int .i64 x.x), (4, .agg (lst C4.cells l)), (5, .pointer (some ⟨B4, 0, none⟩)), (6, .int .i64 x.x)]) [0, 0, 2, 7, 0, 0, 32, 127, 255, 511, 1023, 1023, 3071, 1023, 9215, 1023, 65535, 1023, 1023, 263167, 1023, 1049599, 1023, 8388607, 16777215, 33554431] [[(3, none)], [(8, none)], [(26, some 1)], [(25, some 0), (27, some 2)], [(3, none)], [(8, none)], [(30, some 5)], [(29, some 4), (31, some 6)], [(28, some 3), (32, some 7)], [(33, some 8)], [(3, none)], [(8, none)], [(36, some 11)], [(8, none)], [(38, some 13)], [(5, none)], [(35, some 10), (37, some 12), (39, some 14), (40, some 15)], [(3, none)], [(8, none)], [(43, some 18)], [(8, none)], [(45, some 20)], [(5, none)], [(42, some 17), (44, some 19), (46, some 21), (47, some 22)], [(41, some 16), (48, some 23)], [(49, some 24), (34, some 9)]] 8454280 mixed (by kernel_rfl) ?_)
      refine G_step [0, 1, 2, 4, 5, 6] 3 [] (by kernel_rfl) (allM (all_cons (q_run (.agg (lst C4.cells l)) rfl rfl (wv_n rfl) rfl (fun _ _ hρ hm => r_loadW ag25 sz25 (hρ _ _ rfl) (hm.at 1 rfl) (tsz hl))) (all_cons (q_run (.pointer (some ⟨B4, 0, none⟩)) rfl rfl (wv_n rfl) rfl (fun _ _ hρ _ => r_fieldAddr fl43_0 sz3 (hρ _ _ rfl))) (all_cons (q_run (.int .i64 x.x) rfl rfl (wv_n rfl) rfl (fun _ _ hρ hm => r_load ag3 (hρ _ _ rfl) (hm.at 3 rfl) rfl)) (all_cons (q_run (.agg (lst C4.cells l)) rfl rfl (wv_n rfl) rfl (fun _ _ hρ hm => r_loadW ag25 sz25 (hρ _ _ rfl) (hm.at 1 rfl) (tsz hl))) (all_cons (q_run (.pointer (some ⟨B4, 0, none⟩)) rfl rfl (wv_n rfl) rfl (fun _ _ hρ _ => r_fieldAddr fl43_0 sz3 (hρ _ _ rfl))) (all_cons (q_run (.int .i64 x.x) rfl rfl (wv_n rfl) rfl (fun _ _ hρ hm => r_load ag3 (hρ _ _ rfl) (hm.at 3 rfl) rfl)) all_nil))))))) (allM (all_cons ?_ all_nil))
      refine LOb_call (.agg (lst C4.cells (turnN l (times x.x)))) [] rfl (wv_n rfl) rfl rfl (fun _ _ hρ _ => r_call (args := [.agg (lst C4.cells l), .int .i64 x.x]) (enters_of Try.func23 (by kernel_rfl) rfl) (hρ _ _ rfl) ((cons2 (hρ _ _ rfl) (cons2 (hρ _ _ rfl) rfl))) rfl) (fun w _ => turn_c l x.x w hl) (by kernel_rfl) ?_
      refine G_step [4, 5, 6] 7 [] (by kernel_rfl) (allM (all_cons (q_run (.agg (lst C4.cells l)) rfl rfl (wv_n rfl) rfl (fun _ _ hρ hm => r_loadW ag25 sz25 (hρ _ _ rfl) (hm.at 1 rfl) (tsz hl))) (all_cons (q_run (.pointer (some ⟨B4, 0, none⟩)) rfl rfl (wv_n rfl) rfl (fun _ _ hρ _ => r_fieldAddr fl43_0 sz3 (hρ _ _ rfl))) (all_cons (q_run (.int .i64 x.x) rfl rfl (wv_n rfl) rfl (fun _ _ hρ hm => r_load ag3 (hρ _ _ rfl) (hm.at 3 rfl) rfl)) all_nil)))) (allM (all_cons ?_ all_nil))
      refine LOb_call (.agg (lst C4.cells (turnN l (times x.x)))) [(8, .bool false), (9, .bool false), (10, .agg (lst C4.cells l)), (11, .pointer (some ⟨B4, 0, none⟩)), (12, .int .i64 x.x), (13, .pointer (some ⟨B4, 1, none⟩)), (14, .int .i64 x.y), (15, .agg #[.int .u8 c.r, .int .u8 c.g, .int .u8 c.b, .int .u8 c.a]), (17, .agg (lst C4.cells l)), (18, .pointer (some ⟨B4, 0, none⟩)), (19, .int .i64 x.x), (20, .pointer (some ⟨B4, 1, none⟩)), (21, .int .i64 x.y), (22, .agg #[.int .u8 c.r, .int .u8 c.g, .int .u8 c.b, .int .u8 c.a])] rfl (wv_n rfl) rfl rfl (fun _ _ hρ _ => r_call (args := [.agg (lst C4.cells l), .int .i64 x.x]) (enters_of Try.func24 (by kernel_rfl) rfl) (hρ _ _ rfl) ((cons2 (hρ _ _ rfl) (cons2 (hρ _ _ rfl) rfl))) rfl) (fun w _ => turns_ref l x.x w hl) (by kernel_rfl) ?_
      refine G_step [8, 9, 10, 11, 12, 13, 14, 15, 17, 18, 19, 20, 21, 22] 16 [] (by kernel_rfl) (allM (all_cons (q_run (.bool false) rfl rfl (wv_n rfl) rfl (fun _ w hρ _ => r_as (r_neqA (by kernel_rfl) (hρ _ _ rfl) (hρ _ _ rfl) (eq_til (turnN_len hl _) (turnN_len hl _) w)) (bool_as (by rw [decide_eq_true rfl]; rfl)))) (all_cons (q_run (.bool false) rfl rfl (wv_n rfl) rfl (fun _ _ hρ _ => r_move (hρ _ _ rfl))) (all_cons (q_run (.agg (lst C4.cells l)) rfl rfl (wv_y rfl rfl) rfl (fun _ _ hρ hm => r_loadW ag25 sz25 (hρ _ _ rfl) (hm.at 1 rfl) (tsz hl))) (all_cons (q_run (.pointer (some ⟨B4, 0, none⟩)) rfl rfl (wv_y rfl rfl) rfl (fun _ _ hρ _ => r_fieldAddr fl43_0 sz3 (hρ _ _ rfl))) (all_cons (q_run (.int .i64 x.x) rfl rfl (wv_y rfl rfl) rfl (fun _ _ hρ hm => r_load ag3 (hρ _ _ rfl) (hm.at 3 rfl) rfl)) (all_cons (q_run (.pointer (some ⟨B4, 1, none⟩)) rfl rfl (wv_y rfl rfl) rfl (fun _ _ hρ _ => r_fieldAddr fl43_1 sz3 (hρ _ _ rfl))) (all_cons (q_run (.int .i64 x.y) rfl rfl (wv_y rfl rfl) rfl (fun _ _ hρ hm => r_load ag3 (hρ _ _ rfl) (hm.at 3 rfl) rfl)) (all_cons (q_run (.agg #[.int .u8 c.r, .int .u8 c.g, .int .u8 c.b, .int .u8 c.a]) rfl rfl (wv_y rfl rfl) rfl (fun _ _ hρ hm => r_loadA ag23 sz23 (hρ _ _ rfl) (hm.at 2 rfl) rfl rfl)) (all_cons (q_run (.agg (lst C4.cells l)) rfl rfl (wv_y rfl rfl) rfl (fun _ _ hρ hm => r_loadW ag25 sz25 (hρ _ _ rfl) (hm.at 1 rfl) (tsz hl))) (all_cons (q_run (.pointer (some ⟨B4, 0, none⟩)) rfl rfl (wv_y rfl rfl) rfl (fun _ _ hρ _ => r_fieldAddr fl43_0 sz3 (hρ _ _ rfl))) (all_cons (q_run (.int .i64 x.x) rfl rfl (wv_y rfl rfl) rfl (fun _ _ hρ hm => r_load ag3 (hρ _ _ rfl) (hm.at 3 rfl) rfl)) (all_cons (q_run (.pointer (some ⟨B4, 1, none⟩)) rfl rfl (wv_y rfl rfl) rfl (fun _ _ hρ _ => r_fieldAddr fl43_1 sz3 (hρ _ _ rfl))) (all_cons (q_run (.int .i64 x.y) rfl rfl (wv_y rfl rfl) rfl (fun _ _ hρ hm => r_load ag3 (hρ _ _ rfl) (hm.at 3 rfl) rfl)) (all_cons (q_run (.agg #[.int .u8 c.r, .int .u8 c.g, .int .u8 c.b, .int .u8 c.a]) rfl rfl (wv_y rfl rfl) rfl (fun _ _ hρ hm => r_loadA ag23 sz23 (hρ _ _ rfl) (hm.at 2 rfl) rfl rfl)) all_nil))))))))))))))) (allM (all_cons ?_ all_nil))
      refine LOb_call (.agg (lst C4.cells (shiftL l c x.x x.y))) [] rfl (wv_y rfl rfl) rfl rfl (fun _ _ hρ _ => r_call (args := [.agg (lst C4.cells l), .int .i64 x.x, .int .i64 x.y, .agg #[.int .u8 c.r, .int .u8 c.g, .int .u8 c.b, .int .u8 c.a]]) (enters_of Try.func25 (by kernel_rfl) rfl) (hρ _ _ rfl) ((cons2 (hρ _ _ rfl) (cons2 (hρ _ _ rfl) (cons2 (hρ _ _ rfl) (cons2 (hρ _ _ rfl) rfl))))) rfl) (fun w _ => shift_c l x.x x.y c w hl) (by kernel_rfl) ?_
      refine G_step [17, 18, 19, 20, 21, 22] 23 [] (by kernel_rfl) (allM (all_cons (q_run (.agg (lst C4.cells l)) rfl rfl (wv_y rfl rfl) rfl (fun _ _ hρ hm => r_loadW ag25 sz25 (hρ _ _ rfl) (hm.at 1 rfl) (tsz hl))) (all_cons (q_run (.pointer (some ⟨B4, 0, none⟩)) rfl rfl (wv_y rfl rfl) rfl (fun _ _ hρ _ => r_fieldAddr fl43_0 sz3 (hρ _ _ rfl))) (all_cons (q_run (.int .i64 x.x) rfl rfl (wv_y rfl rfl) rfl (fun _ _ hρ hm => r_load ag3 (hρ _ _ rfl) (hm.at 3 rfl) rfl)) (all_cons (q_run (.pointer (some ⟨B4, 1, none⟩)) rfl rfl (wv_y rfl rfl) rfl (fun _ _ hρ _ => r_fieldAddr fl43_1 sz3 (hρ _ _ rfl))) (all_cons (q_run (.int .i64 x.y) rfl rfl (wv_y rfl rfl) rfl (fun _ _ hρ hm => r_load ag3 (hρ _ _ rfl) (hm.at 3 rfl) rfl)) (all_cons (q_run (.agg #[.int .u8 c.r, .int .u8 c.g, .int .u8 c.b, .int .u8 c.a]) rfl rfl (wv_y rfl rfl) rfl (fun _ _ hρ hm => r_loadA ag23 sz23 (hρ _ _ rfl) (hm.at 2 rfl) rfl rfl)) all_nil))))))) (allM (all_cons ?_ all_nil))
      refine LOb_call (.agg (lst C4.cells (shiftL l c x.x x.y))) [(24, .bool false), (25, .bool false)] rfl (wv_y rfl rfl) rfl rfl (fun _ _ hρ _ => r_call (args := [.agg (lst C4.cells l), .int .i64 x.x, .int .i64 x.y, .agg #[.int .u8 c.r, .int .u8 c.g, .int .u8 c.b, .int .u8 c.a]]) (enters_of Try.func26 (by kernel_rfl) rfl) (hρ _ _ rfl) ((cons2 (hρ _ _ rfl) (cons2 (hρ _ _ rfl) (cons2 (hρ _ _ rfl) (cons2 (hρ _ _ rfl) rfl))))) rfl) (fun w _ => shift_ref l x.x x.y c w hl) (by kernel_rfl) ?_
      refine G_last [24, 25] [(3, .pointer (some ⟨B1, 0, none⟩)), (5, .pointer (some ⟨B2, 0, none⟩)), (16, .slice (some ⟨b3, of3, none⟩) ps.length cap), (17, .int .i64 ((ps.length : Nat) : Int)), (18, .int .i64 ((k : Nat) : Int)), (19, .bool (decide (((k : Nat) : Int) < ((ps.length : Nat) : Int)))), (20, .int .i64 ((k : Nat) : Int)), (21, .pointer (some ⟨b3, of3 + k * 2, none⟩)), (22, .agg #[.int .i64 x.x, .int .i64 x.y]), (8, .pointer (some ⟨B4, 0, none⟩)), (7, .int .i64 ((k : Nat) : Int)), (23, .int .i64 ((k : Nat) : Int)), (24, .bool (decide (((k : Nat) : Int) = 8))), (25, .agg (lst C4.cells l)), (26, .pointer (some ⟨B4, 0, none⟩)), (27, .int .i64 x.x), (28, .agg (lst C4.cells (turnN l (times x.x)))), (29, .agg (lst C4.cells l)), (30, .pointer (some ⟨B4, 0, none⟩)), (31, .int .i64 x.x), (32, .agg (lst C4.cells (turnN l (times x.x)))), (33, .bool false), (34, .bool false), (35, .agg (lst C4.cells l)), (36, .pointer (some ⟨B4, 0, none⟩)), (37, .int .i64 x.x), (38, .pointer (some ⟨B4, 1, none⟩)), (39, .int .i64 x.y), (40, .agg #[.int .u8 c.r, .int .u8 c.g, .int .u8 c.b, .int .u8 c.a]), (41, .agg (lst C4.cells (shiftL l c x.x x.y))), (42, .agg (lst C4.cells l)), (43, .pointer (some ⟨B4, 0, none⟩)), (44, .int .i64 x.x), (45, .pointer (some ⟨B4, 1, none⟩)), (46, .int .i64 x.y), (47, .agg #[.int .u8 c.r, .int .u8 c.g, .int .u8 c.b, .int .u8 c.a]), (48, .agg (lst C4.cells (shiftL l c x.x x.y))), (49, .bool false), (50, .bool false)] (by kernel_rfl) (allM (all_cons (q_run (.bool false) rfl rfl (wv_y rfl rfl) rfl (fun _ w hρ _ => r_as (r_neqA (by kernel_rfl) (hρ _ _ rfl) (hρ _ _ rfl) (eq_til (movedL_len _ _ _) (movedL_len _ _ _) w)) (bool_as (by rw [decide_eq_true rfl]; rfl)))) (all_cons (q_run (.bool false) rfl rfl (wv_n rfl) rfl (fun _ _ hρ _ => r_pick_f (hρ _ _ rfl) (hρ _ _ rfl))) all_nil))) (end_old rfl rfl (end_old rfl rfl (end_old rfl rfl (end_old rfl rfl (end_old rfl rfl (end_old rfl rfl (end_old rfl rfl (end_old rfl rfl (end_old rfl rfl (end_old rfl rfl (end_old rfl rfl (end_old rfl rfl (end_old rfl rfl (end_new 0 rfl rfl (end_new 1 rfl rfl (end_new 2 rfl rfl (end_new 3 rfl rfl (end_new 4 rfl rfl (end_new 5 rfl rfl (end_new 6 rfl rfl (end_new 7 rfl rfl (end_new 8 rfl rfl (end_new 9 rfl rfl (end_new 10 rfl rfl (end_new 11 rfl rfl (end_new 12 rfl rfl (end_new 13 rfl rfl (end_new 14 rfl rfl (end_new 15 rfl rfl (end_new 16 rfl rfl (end_new 17 rfl rfl (end_new 18 rfl rfl (end_new 19 rfl rfl (end_new 20 rfl rfl (end_new 21 rfl rfl (end_new 22 rfl rfl (end_new 23 rfl rfl (end_new 24 rfl rfl (end_new 25 rfl rfl end_nil))))))))))))))))))))))))))))))))))))))) ?_
      refine T_cond_f rfl ?_
      refine T_skip' ?_
      refine p_blk_n ?_
      refine p_seq ?_
      refine T_region ?_
      refine TL_q (.int .i64 ((k + 1 : Nat) : Int)) (fun _ _ hρ _ => r_as (r_add (hρ _ _ rfl) (hρ _ _ rfl)) (int_as ((wrap64 (by omega) (by omega)).trans (by omega)))) rfl rfl rfl (w_n rfl) ?_
      refine TL_q (.int .i64 ((k + 1 : Nat) : Int)) (fun _ _ hρ _ => r_move (hρ _ _ rfl)) rfl rfl rfl (w_n rfl) ?_
      refine TL_nil ?_
      exact p_at (k + 1) ⟨by omega, by omega⟩ (sub_cons rfl (sub_cons rfl (sub_cons rfl (sub_cons rfl (sub_cons rfl sub_nil))))) (sub_cons rfl (sub_cons rfl sub_nil))
  · replace h1 := of_decide_eq_false h1
    refine T_exit' ?_
    refine p_then_x ?_
    refine p_then_x ?_
    refine p_blk_x ?_
    refine p_seq ?_
    refine T_seq (T_region ?_)
    refine TL_q (.bool true) (fun _ _ hρ _ => r_assign (hρ _ _ rfl)) rfl rfl rfl (w_n rfl) ?_
    refine TL_seq ?_
    refine T_ret' ?_
    refine ret_of rfl (.bool true) (fun tmps w hk hm => res1 rfl (res_tmp (hk 6 _ rfl))) (fun w hm => ?_)
    exact ⟨rfl, hm.ext⟩

set_option maxHeartbeats 4000000 in
theorem places_any (l : List C4) (c : C4) (ps : List Pt) (a : Option Addr) (cap : Nat) (w : World) (hl : l.length = 64) (hv : SliceAt w a cap 2 Pt.cells ps) (hcap : cap ≤ Go.maxLen) :
    Calls Try.prog 7 #[til l, c.v, .slice a ps.length cap] w fun e w' => e = .returned (.bool true) ∧ Below w.heap.size w w' := by
  have hvl := hv.1
  unfold Go.maxLen at hcap
  refine calls_of_T (l := [.agg (lst C4.cells l), .agg #[.int .u8 c.r, .int .u8 c.g, .int .u8 c.b, .int .u8 c.a], .slice a ps.length cap]) 107 Try.func7 rfl rfl rfl ?_
  show T _ _ _ [(0, .agg (lst C4.cells l)), (1, .agg #[.int .u8 c.r, .int .u8 c.g, .int .u8 c.b, .int .u8 c.a]), (2, .slice a ps.length cap)] []
  refine T_seq (T_region ?_)
  refine TL_new 1 (.cells (lst C4.cells l) 25) (fun B => .pointer (some ⟨B, 0, none⟩)) (fun _ _ hρ _ => r_box (hρ _ _ rfl) rfl) rfl rfl rfl (w_n rfl) ?_
  intro B1
  refine TL_new 2 (.cells #[.int .u8 c.r, .int .u8 c.g, .int .u8 c.b, .int .u8 c.a] 23) (fun B => .pointer (some ⟨B, 0, none⟩)) (fun _ _ hρ _ => r_box (hρ _ _ rfl) rfl) rfl rfl rfl (w_n rfl) ?_
  intro B2
  refine TL_q (.bool false) (fun _ _ hρ _ => r_assign (hρ _ _ rfl)) rfl rfl rfl (w_n rfl) ?_
  refine TL_seq ?_
  refine T_seq ?_
  refine T_seq (T_region ?_)
  refine TL_call (.bool true) (fun _ _ hρ _ => r_call (args := []) (enters_of Try.func9 (by kernel_rfl) rfl) (hρ _ _ rfl) (by rfl) rfl) (fun w _ => wakes_any w) rfl rfl rfl (w_n rfl) ?_
  refine TL_q (.bool false) (fun _ _ hρ _ => r_not (b := true) (hρ _ _ rfl)) rfl rfl rfl (w_n rfl) ?_
  refine TL_seq ?_
  refine T_cond_f rfl ?_
  refine T_skip' ?_
  refine p_seq ?_
  refine T_seq (T_region ?_)
  refine TL_q (.slice a ps.length cap) (fun _ _ hρ _ => r_move (hρ _ _ rfl)) rfl rfl rfl (w_n rfl) ?_
  refine TL_q (.slice a ps.length cap) (fun _ _ hρ _ => r_move (hρ _ _ rfl)) rfl rfl rfl (w_n rfl) ?_
  refine TL_q (.int .i64 ((ps.length : Nat) : Int)) (fun _ _ hρ _ => r_len sl45 (hρ _ _ rfl)) rfl rfl rfl (w_n rfl) ?_
  refine TL_q (.int .i64 ((min ps.length 12 : Nat) : Int)) (fun _ _ hρ _ => r_as (r_min (hρ _ _ rfl) (hρ _ _ rfl)) (int_as (minI _ 12))) rfl rfl rfl (w_n rfl) ?_
  obtain ⟨l3, hl3, hn3⟩ : ∃ l, l = ps.take (min ps.length 12) ∧ l.length = min ps.length 12 := ⟨_, rfl, by rw [List.length_take]; omega⟩
  have hs3 := SliceAt.front hv (n := min ps.length 12) (m := cap) (by omega) (by omega) (by omega)
  rw [← hl3] at hs3
  refine TL_q (.slice a l3.length cap) (fun ρ _ hρ _ => r_as (r_sliceO sl45 sz43 (hρ _ _ rfl) (bd_none ρ _) (bd_some (n := min ps.length 12) (hρ _ _ rfl)) (bd_none ρ _) (by simp) (by omega) (by omega) (by omega)) (by rw [hn3]; exact slo_zero _ _ _ _)) rfl rfl rfl (w_n rfl) ?_
  refine TL_callN (fun (_ : Option Addr × Nat) => True) (fun (a4, cap4) => .slice a4 l3.length cap4) (fun (a4, cap4) => [(3, .row (.slice a4 l3.length cap4) 43 2 l3.length (l3.flatMap Pt.cells))]) (fun _ _ hρ _ => r_call (args := [.slice a l3.length cap]) (enters_of Try.func27 (by kernel_rfl) rfl) (hρ _ _ rfl) ((cons2 (hρ _ _ rfl) rfl)) rfl) (fun w hm => (clone_pts Pt.cells Pt.cells_len Pt.cells_one l3 a cap w ((hs3.keep hm.ext)) (by omega)).mono fun e w' ⟨a', cap', he, hb, hr⟩ => ⟨(a', cap'), trivial, he, hb, newOk1 3 hr⟩) rfl rfl rfl (w_n rfl) ?_
  rintro ⟨a4, cap4⟩ -
  refine TL_q (.slice a4 l3.length cap4) (fun _ _ hρ _ => r_assign (hρ _ _ rfl)) rfl rfl rfl (w_n rfl) ?_
  refine TL_seq ?_
  refine T_seq ?_
  refine T_seq (T_region ?_)
  refine TL_q (.slice a4 l3.length cap4) (fun _ _ hρ _ => r_move (hρ _ _ rfl)) rfl rfl rfl (w_n rfl) ?_
  refine TL_q (.int .i64 ((l3.length : Nat) : Int)) (fun _ _ hρ _ => r_len sl45 (hρ _ _ rfl)) rfl rfl rfl (w_n rfl) ?_
  refine TL_q (.int .i64 0) (fun _ _ hρ _ => r_move (hρ _ _ rfl)) rfl rfl rfl (w_n rfl) ?_
  refine TL_seq ?_
  refine T_block ?_
  refine T_loop (ι := Nat) (fun (k : Nat) => k ≤ l3.length) (fun (k : Nat) => [(2, .slice a ps.length cap), (3, .pointer (some ⟨B1, 0, none⟩)), (4, .pointer (some ⟨B2, 0, none⟩)), (7, .slice a4 l3.length cap4), (26, .slice a4 l3.length cap4), (27, .int .i64 ((l3.length : Nat) : Int)), (28, .int .i64 ((k : Nat) : Int))]) (fun (k : Nat) => [(3, .row (.slice a4 l3.length cap4) 43 2 l3.length (l3.flatMap Pt.cells)), (1, .blk B1 (.cells (lst C4.cells l) 25)), (2, .blk B2 (.cells #[.int .u8 c.r, .int .u8 c.g, .int .u8 c.b, .int .u8 c.a] 23))]) (fun (k : Nat) => l3.length - k) 0 (Nat.zero_le _) (sub_cons rfl (sub_cons rfl (sub_cons rfl (sub_cons rfl (sub_cons rfl (sub_cons rfl (sub_cons rfl sub_nil))))))) (sub_cons rfl (sub_cons rfl (sub_cons rfl sub_nil))) ?_
  rintro k hp
  show T _ _ _ [(2, .slice a ps.length cap), (3, .pointer (some ⟨B1, 0, none⟩)), (4, .pointer (some ⟨B2, 0, none⟩)), (7, .slice a4 l3.length cap4), (26, .slice a4 l3.length cap4), (27, .int .i64 ((l3.length : Nat) : Int)), (28, .int .i64 ((k : Nat) : Int))] [(3, .row (.slice a4 l3.length cap4) 43 2 l3.length (l3.flatMap Pt.cells)), (1, .blk B1 (.cells (lst C4.cells l) 25)), (2, .blk B2 (.cells #[.int .u8 c.r, .int .u8 c.g, .int .u8 c.b, .int .u8 c.a] 23))]
  refine T_seq (T_region ?_)
  refine TL_q (.bool (decide (((k : Nat) : Int) < ((l3.length : Nat) : Int)))) (fun _ _ hρ _ => r_lss (hρ _ _ rfl) (hρ _ _ rfl)) rfl rfl rfl (w_n rfl) ?_
  refine TL_seq ?_
  refine T_seq ?_
  refine T_cond rfl (fun h1 => ?_) (fun h1 => ?_)
  · replace h1 := of_decide_eq_true h1
    refine T_skip' ?_
    refine p_seq ?_
    refine T_seq ?_
    refine T_block ?_
    obtain ⟨x, hx⟩ : ∃ x, l3[k]? = some x := ⟨_, List.getElem?_eq_getElem (by omega)⟩
    refine T_row 3 rfl (by omega) (fun g5 ha5 => ?_)
    subst ha5
    refine T_seq (T_region ?_)
    refine TL_q (.pointer (some ⟨g5, 0 + k * 2, none⟩)) (fun _ _ hρ _ => r_indexAddrS (i := k) sl45 sz43 (hρ _ _ rfl) (hρ _ _ rfl) (by omega)) rfl rfl rfl (w_n rfl) ?_
    refine TL_q (.agg #[.int .i64 x.x, .int .i64 x.y]) (fun _ _ hρ hm => r_loadOwn (f := Pt.cells) (u := x) (l := l3) ag43 sz43 (hρ _ _ rfl) (hm.row 3 rfl) rfl rfl Pt.cells_len hx) rfl rfl rfl (w_n rfl) ?_
    refine TL_new 4 (.cells #[.int .i64 0, .int .i64 0] 43) (fun B => .pointer (some ⟨B, 0, none⟩)) (fun _ _ _ _ => r_alloc (v := .agg #[.int .i64 0, .int .i64 0]) (by kernel_rfl) rfl) rfl rfl rfl (w_n rfl) ?_
    intro B6
    refine TL_store 4 (.cells #[.int .i64 x.x, .int .i64 x.y] 43) rfl (fun _ _ hρ hm => r_store sz43 (hρ _ _ rfl) (hρ _ _ rfl) (hm.at 4 rfl) rfl rfl rfl rfl) rfl rfl (w_n rfl) ?_
    refine TL_seq ?_
    by_cases hP : isP x.x x.y = true
    · skip
      refine T_seq (T_region ?_)
      refine TL_q (.agg (lst C4.cells l)) (fun _ _ hρ hm => r_loadW ag25 sz25 (hρ _ _ rfl) (hm.at 1 rfl) (tsz hl)) rfl rfl rfl (w_n rfl) ?_
      refine TL_q (.pointer (some ⟨B6, 0, none⟩)) (fun _ _ hρ _ => r_fieldAddr fl43_0 sz3 (hρ _ _ rfl)) rfl rfl rfl (w_n rfl) ?_
      refine TL_q (.int .i64 x.x) (fun _ _ hρ hm => r_load ag3 (hρ _ _ rfl) (hm.at 4 rfl) rfl) rfl rfl rfl (w_n rfl) ?_
      refine TL_q (.pointer (some ⟨B6, 1, none⟩)) (fun _ _ hρ _ => r_fieldAddr fl43_1 sz3 (hρ _ _ rfl)) rfl rfl rfl (w_n rfl) ?_
      refine TL_q (.int .i64 x.y) (fun _ _ hρ hm => r_load ag3 (hρ _ _ rfl) (hm.at 4 rfl) rfl) rfl rfl rfl (w_n rfl) ?_
      refine TL_call (.tuple #[.agg #[.int .u8 ((atC l x.x x.y).r), .int .u8 ((atC l x.x x.y).g), .int .u8 ((atC l x.x x.y).b), .int .u8 ((atC l x.x x.y).a)], .int .i64 0]) (fun _ _ hρ _ => r_call (args := [.agg (lst C4.cells l), .int .i64 x.x, .int .i64 x.y]) (enters_of Try.func19 (by kernel_rfl) rfl) (hρ _ _ rfl) ((cons2 (hρ _ _ rfl) (cons2 (hρ _ _ rfl) (cons2 (hρ _ _ rfl) rfl)))) rfl) (fun w _ => (at_c l x.x x.y w hl).mono fun _ _ h => ⟨h.1.trans (congrArg Ending.returned (by rw [atE_in hP])), h.2⟩) rfl rfl rfl (w_n rfl) ?_
      refine TL_q (.tuple #[.agg #[.int .u8 ((atC l x.x x.y).r), .int .u8 ((atC l x.x x.y).g), .int .u8 ((atC l x.x x.y).b), .int .u8 ((atC l x.x x.y).a)], .int .i64 0]) (fun _ _ hρ _ => r_move (hρ _ _ rfl)) rfl rfl rfl (w_n rfl) ?_
      refine TL_q (.agg #[.int .u8 ((atC l x.x x.y).r), .int .u8 ((atC l x.x x.y).g), .int .u8 ((atC l x.x x.y).b), .int .u8 ((atC l x.x x.y).a)]) (fun _ _ hρ _ => r_extract (hρ _ _ rfl) rfl) rfl rfl rfl (w_n rfl) ?_
      refine TL_q (.int .i64 0) (fun _ _ hρ _ => r_extract (hρ _ _ rfl) rfl) rfl rfl rfl (w_n rfl) ?_
      refine TL_new 5 (.cells #[.int .u8 0, .int .u8 0, .int .u8 0, .int .u8 0] 23) (fun B => .pointer (some ⟨B, 0, none⟩)) (fun _ _ _ _ => r_alloc (v := .agg #[.int .u8 0, .int .u8 0, .int .u8 0, .int .u8 0]) (by kernel_rfl) rfl) rfl rfl rfl (w_n rfl) ?_
      intro B7
      refine TL_store 5 (.cells #[.int .u8 ((atC l x.x x.y).r), .int .u8 ((atC l x.x x.y).g), .int .u8 ((atC l x.x x.y).b), .int .u8 ((atC l x.x x.y).a)] 23) rfl (fun _ _ hρ hm => r_store sz23 (hρ _ _ rfl) (hρ _ _ rfl) (hm.at 5 rfl) rfl rfl rfl rfl) rfl rfl (w_n rfl) ?_
      refine TL_q (.int .i64 0) (fun _ _ hρ _ => r_assign (hρ _ _ rfl)) rfl rfl rfl (w_n rfl) ?_
      refine TL_seq ?_
      refine T_seq (T_region ?_)
      refine TL_q (.agg #[.int .u8 0, .int .u8 0, .int .u8 0, .int .u8 0]) (fun _ _ _ _ => r_build (vs := []) (by kernel_rfl) rfl) rfl rfl rfl (w_n rfl) ?_
      refine TL_new 6 (.cells #[.int .u8 0, .int .u8 0, .int .u8 0, .int .u8 0] 23) (fun B => .pointer (some ⟨B, 0, none⟩)) (fun _ _ _ _ => r_alloc (v := .agg #[.int .u8 0, .int .u8 0, .int .u8 0, .int .u8 0]) (by kernel_rfl) rfl) rfl rfl rfl (w_n rfl) ?_
      intro B8
      refine TL_store 6 (.cells #[.int .u8 0, .int .u8 0, .int .u8 0, .int .u8 0] 23) rfl (fun _ _ hρ hm => r_store sz23 (hρ _ _ rfl) (hρ _ _ rfl) (hm.at 6 rfl) rfl rfl rfl rfl) rfl rfl (w_n rfl) ?_
      refine TL_q (.int .i64 140) (fun _ _ hρ _ => r_assign (hρ _ _ rfl)) rfl rfl rfl (w_n rfl) ?_
      refine TL_seq ?_
      refine T_seq ?_
      refine T_seq (T_region ?_)
      refine TL_q (.pointer (some ⟨B6, 0, none⟩)) (fun _ _ hρ _ => r_fieldAddr fl43_0 sz3 (hρ _ _ rfl)) rfl rfl rfl (w_n rfl) ?_
      refine TL_q (.int .i64 x.x) (fun _ _ hρ hm => r_load ag3 (hρ _ _ rfl) (hm.at 4 rfl) rfl) rfl rfl rfl (w_n rfl) ?_
      refine TL_q (.pointer (some ⟨B6, 1, none⟩)) (fun _ _ hρ _ => r_fieldAddr fl43_1 sz3 (hρ _ _ rfl)) rfl rfl rfl (w_n rfl) ?_
      refine TL_q (.int .i64 x.y) (fun _ _ hρ hm => r_load ag3 (hρ _ _ rfl) (hm.at 4 rfl) rfl) rfl rfl rfl (w_n rfl) ?_
      refine TL_call (.bool true) (fun _ _ hρ _ => r_call (args := [.int .i64 x.x, .int .i64 x.y]) (enters_of Try.func28 (by kernel_rfl) rfl) (hρ _ _ rfl) ((cons2 (hρ _ _ rfl) (cons2 (hρ _ _ rfl) rfl))) rfl) (fun w _ => (is_ref x.x x.y w).mono fun _ _ h => ⟨h.1.trans (congrArg Ending.returned (bool_as hP)), h.2⟩) rfl rfl rfl (w_n rfl) ?_
      refine TL_seq ?_
      refine T_cond_t rfl ?_
      refine T_region ?_
      refine TL_q (.agg (lst C4.cells l)) (fun _ _ hρ hm => r_loadW ag25 sz25 (hρ _ _ rfl) (hm.at 1 rfl) (tsz hl)) rfl rfl rfl (w_n rfl) ?_
      refine TL_q (.pointer (some ⟨B6, 0, none⟩)) (fun _ _ hρ _ => r_fieldAddr fl43_0 sz3 (hρ _ _ rfl)) rfl rfl rfl (w_n rfl) ?_
      refine TL_q (.int .i64 x.x) (fun _ _ hρ hm => r_load ag3 (hρ _ _ rfl) (hm.at 4 rfl) rfl) rfl rfl rfl (w_n rfl) ?_
      refine TL_q (.pointer (some ⟨B6, 1, none⟩)) (fun _ _ hρ _ => r_fieldAddr fl43_1 sz3 (hρ _ _ rfl)) rfl rfl rfl (w_n rfl) ?_
      refine TL_q (.int .i64 x.y) (fun _ _ hρ hm => r_load ag3 (hρ _ _ rfl) (hm.at 4 rfl) rfl) rfl rfl rfl (w_n rfl) ?_
      refine TL_call (.agg #[.int .u8 ((atC l x.x x.y).r), .int .u8 ((atC l x.x x.y).g), .int .u8 ((atC l x.x x.y).b), .int .u8 ((atC l x.x x.y).a)]) (fun _ _ hρ _ => r_call (args := [.agg (lst C4.cells l), .int .i64 x.x, .int .i64 x.y]) (enters_of Try.func29 (by kernel_rfl) rfl) (hρ _ _ rfl) ((cons2 (hρ _ _ rfl) (cons2 (hρ _ _ rfl) (cons2 (hρ _ _ rfl) rfl)))) rfl) (fun w _ => at_refI l x.x x.y w hl hP) rfl rfl rfl (w_n rfl) ?_
      refine TL_store 6 (.cells #[.int .u8 ((atC l x.x x.y).r), .int .u8 ((atC l x.x x.y).g), .int .u8 ((atC l x.x x.y).b), .int .u8 ((atC l x.x x.y).a)] 23) rfl (fun _ _ hρ hm => r_store sz23 (hρ _ _ rfl) (hρ _ _ rfl) (hm.at 6 rfl) rfl rfl rfl rfl) rfl rfl (w_n rfl) ?_
      refine TL_q (.int .i64 0) (fun _ _ hρ _ => r_assign (hρ _ _ rfl)) rfl rfl rfl (w_n rfl) ?_
      refine TL_nil ?_
      refine p_seq ?_
      refine T_seq (T_region ?_)
      refine TL_q (.agg #[.int .u8 ((atC l x.x x.y).r), .int .u8 ((atC l x.x x.y).g), .int .u8 ((atC l x.x x.y).b), .int .u8 ((atC l x.x x.y).a)]) (fun _ _ hρ hm => r_loadA ag23 sz23 (hρ _ _ rfl) (hm.at 5 rfl) rfl rfl) rfl rfl rfl (w_n rfl) ?_
      refine TL_q (.agg #[.int .u8 ((atC l x.x x.y).r), .int .u8 ((atC l x.x x.y).g), .int .u8 ((atC l x.x x.y).b), .int .u8 ((atC l x.x x.y).a)]) (fun _ _ hρ hm => r_loadA ag23 sz23 (hρ _ _ rfl) (hm.at 6 rfl) rfl rfl) rfl rfl rfl (w_n rfl) ?_
      refine TL_q (.bool false) (fun _ _ hρ _ => r_as (r_neqA (by kernel_rfl) (hρ _ _ rfl) (hρ _ _ rfl) (run_equalI (l := [(0, .u8), (1, .u8), (2, .u8), (3, .u8)]) (by kernel_rfl) rfl rfl)) (bool_as (by simp only [eqI_self]; try rfl))) rfl rfl rfl (w_n rfl) ?_
      refine TL_q (.bool false) (fun _ _ hρ _ => r_move (hρ _ _ rfl)) rfl rfl rfl (w_n rfl) ?_
      refine TL_q (.int .i64 0) (fun _ _ hρ _ => r_move (hρ _ _ rfl)) rfl rfl rfl (want_y 56 rfl rfl rfl) ?_
      refine TL_q (.int .i64 0) (fun _ _ hρ _ => r_move (hρ _ _ rfl)) rfl rfl rfl (want_y 56 rfl rfl rfl) ?_
      refine TL_q (.bool false) (fun _ _ hρ _ => r_as (r_neq (hρ _ _ rfl) (hρ _ _ rfl)) (by rfl)) rfl rfl rfl (want_y 56 rfl rfl rfl) ?_
      refine TL_q (.bool false) (fun _ _ hρ _ => r_pick_f (hρ _ _ rfl) (hρ _ _ rfl)) rfl rfl rfl (w_n rfl) ?_
      refine TL_seq ?_
      refine T_sub [(2, .slice a ps.length cap), (3, .pointer (some ⟨B1, 0, none⟩)), (4, .pointer (some ⟨B2, 0, none⟩)), (7, .slice (some ⟨g5, 0, none⟩) l3.length cap4), (26, .slice (some ⟨g5, 0, none⟩) l3.length cap4), (27, .int .i64 ((l3.length : Nat) : Int)), (28, .int .i64 ((k : Nat) : Int)), (29, .bool (decide (((k : Nat) : Int) < ((l3.length : Nat) : Int)))), (30, .pointer (some ⟨g5, 0 + k * 2, none⟩)), (31, .agg #[.int .i64 x.x, .int .i64 x.y]), (9, .pointer (some ⟨B6, 0, none⟩)), (33, .agg (lst C4.cells l)), (34, .pointer (some ⟨B6, 0, none⟩)), (35, .int .i64 x.x), (36, .pointer (some ⟨B6, 1, none⟩)), (37, .int .i64 x.y), (38, .tuple #[.agg #[.int .u8 ((atC l x.x x.y).r), .int .u8 ((atC l x.x x.y).g), .int .u8 ((atC l x.x x.y).b), .int .u8 ((atC l x.x x.y).a)], .int .i64 0]), (32, .tuple #[.agg #[.int .u8 ((atC l x.x x.y).r), .int .u8 ((atC l x.x x.y).g), .int .u8 ((atC l x.x x.y).b), .int .u8 ((atC l x.x x.y).a)], .int .i64 0]), (39, .agg #[.int .u8 ((atC l x.x x.y).r), .int .u8 ((atC l x.x x.y).g), .int .u8 ((atC l x.x x.y).b), .int .u8 ((atC l x.x x.y).a)]), (40, .int .i64 0), (10, .pointer (some ⟨B7, 0, none⟩)), (11, .int .i64 0), (41, .agg #[.int .u8 0, .int .u8 0, .int .u8 0, .int .u8 0]), (12, .pointer (some ⟨B8, 0, none⟩)), (42, .pointer (some ⟨B6, 0, none⟩)), (43, .int .i64 x.x), (44, .pointer (some ⟨B6, 1, none⟩)), (45, .int .i64 x.y), (46, .bool true), (47, .agg (lst C4.cells l)), (48, .pointer (some ⟨B6, 0, none⟩)), (49, .int .i64 x.x), (50, .pointer (some ⟨B6, 1, none⟩)), (51, .int .i64 x.y), (52, .agg #[.int .u8 ((atC l x.x x.y).r), .int .u8 ((atC l x.x x.y).g), .int .u8 ((atC l x.x x.y).b), .int .u8 ((atC l x.x x.y).a)]), (13, .int .i64 0), (53, .agg #[.int .u8 ((atC l x.x x.y).r), .int .u8 ((atC l x.x x.y).g), .int .u8 ((atC l x.x x.y).b), .int .u8 ((atC l x.x x.y).a)]), (54, .agg #[.int .u8 ((atC l x.x x.y).r), .int .u8 ((atC l x.x x.y).g), .int .u8 ((atC l x.x x.y).b), .int .u8 ((atC l x.x x.y).a)]), (55, .bool false), (56, .bool false), (57, .int .i64 0), (58, .int .i64 0), (59, .bool false), (60, .bool false)] [(3, .row (.slice (some ⟨g5, 0, none⟩) l3.length cap4) 43 2 l3.length (l3.flatMap Pt.cells)), (1, .blk B1 (.cells (lst C4.cells l) 25)), (2, .blk B2 (.cells #[.int .u8 c.r, .int .u8 c.g, .int .u8 c.b, .int .u8 c.a] 23)), (4, .blk B6 (.cells #[.int .i64 x.x, .int .i64 x.y] 43)), (5, .blk B7 (.cells #[.int .u8 ((atC l x.x x.y).r), .int .u8 ((atC l x.x x.y).g), .int .u8 ((atC l x.x x.y).b), .int .u8 ((atC l x.x x.y).a)] 23)), (6, .blk B8 (.cells #[.int .u8 ((atC l x.x x.y).r), .int .u8 ((atC l x.x x.y).g), .int .u8 ((atC l x.x x.y).b), .int .u8 ((atC l x.x x.y).a)] 23))] (sub_cons rfl (sub_cons rfl (sub_cons rfl (sub_cons rfl (sub_cons rfl (sub_cons rfl (sub_cons rfl (sub_cons rfl (sub_cons rfl (sub_cons rfl (sub_cons rfl (sub_cons rfl (sub_cons rfl (sub_cons rfl (sub_cons rfl (sub_cons rfl (sub_cons rfl (sub_cons rfl (sub_cons rfl (sub_cons rfl (sub_cons rfl (sub_cons rfl (sub_cons rfl (sub_cons rfl (sub_cons rfl (sub_cons rfl (sub_cons rfl (sub_cons rfl (sub_cons rfl (sub_cons rfl (sub_cons rfl (sub_cons rfl (sub_cons rfl (sub_cons rfl (sub_cons rfl (sub_cons rfl (sub_cons rfl (sub_cons rfl (sub_cons rfl (sub_cons rfl (sub_cons rfl (sub_cons rfl (sub_cons rfl (sub_cons rfl sub_nil)))))))))))))))))))))))))))))))))))))))))))) (sub_cons rfl (sub_cons rfl (sub_cons rfl (sub_cons rfl (sub_cons rfl (sub_cons rfl sub_nil)))))) ?_
      refine T_cond_f rfl ?_
      refine T_skip' ?_
      refine p_blk_n ?_
      refine p_seq ?_
      refine T_region ?_
      refine TL_q (.int .i64 ((k + 1 : Nat) : Int)) (fun _ _ hρ _ => r_as (r_add (hρ _ _ rfl) (hρ _ _ rfl)) (int_as ((wrap64 (by omega) (by omega)).trans (by omega)))) rfl rfl rfl (w_n rfl) ?_
      refine TL_q (.int .i64 ((k + 1 : Nat) : Int)) (fun _ _ hρ _ => r_move (hρ _ _ rfl)) rfl rfl rfl (w_n rfl) ?_
      refine TL_nil ?_
      exact p_at (k + 1) ⟨by omega, by omega⟩ (sub_cons rfl (sub_cons rfl (sub_cons rfl (sub_cons rfl (sub_cons rfl (sub_cons rfl (sub_cons rfl sub_nil))))))) (sub_cons rfl (sub_cons rfl (sub_cons rfl sub_nil)))
    · skip
      refine T_seq (T_region ?_)
      refine TL_q (.agg (lst C4.cells l)) (fun _ _ hρ hm => r_loadW ag25 sz25 (hρ _ _ rfl) (hm.at 1 rfl) (tsz hl)) rfl rfl rfl (w_n rfl) ?_
      refine TL_q (.pointer (some ⟨B6, 0, none⟩)) (fun _ _ hρ _ => r_fieldAddr fl43_0 sz3 (hρ _ _ rfl)) rfl rfl rfl (w_n rfl) ?_
      refine TL_q (.int .i64 x.x) (fun _ _ hρ hm => r_load ag3 (hρ _ _ rfl) (hm.at 4 rfl) rfl) rfl rfl rfl (w_n rfl) ?_
      refine TL_q (.pointer (some ⟨B6, 1, none⟩)) (fun _ _ hρ _ => r_fieldAddr fl43_1 sz3 (hρ _ _ rfl)) rfl rfl rfl (w_n rfl) ?_
      refine TL_q (.int .i64 x.y) (fun _ _ hρ hm => r_load ag3 (hρ _ _ rfl) (hm.at 4 rfl) rfl) rfl rfl rfl (w_n rfl) ?_
      refine TL_call (.tuple #[.agg #[.int .u8 0, .int .u8 0, .int .u8 0, .int .u8 0], .int .i64 140]) (fun _ _ hρ _ => r_call (args := [.agg (lst C4.cells l), .int .i64 x.x, .int .i64 x.y]) (enters_of Try.func19 (by kernel_rfl) rfl) (hρ _ _ rfl) ((cons2 (hρ _ _ rfl) (cons2 (hρ _ _ rfl) (cons2 (hρ _ _ rfl) rfl)))) rfl) (fun w _ => (at_c l x.x x.y w hl).mono fun _ _ h => ⟨h.1.trans (congrArg Ending.returned (at_out hP)), h.2⟩) rfl rfl rfl (w_n rfl) ?_
      refine TL_q (.tuple #[.agg #[.int .u8 0, .int .u8 0, .int .u8 0, .int .u8 0], .int .i64 140]) (fun _ _ hρ _ => r_move (hρ _ _ rfl)) rfl rfl rfl (w_n rfl) ?_
      refine TL_q (.agg #[.int .u8 0, .int .u8 0, .int .u8 0, .int .u8 0]) (fun _ _ hρ _ => r_extract (hρ _ _ rfl) rfl) rfl rfl rfl (w_n rfl) ?_
      refine TL_q (.int .i64 140) (fun _ _ hρ _ => r_extract (hρ _ _ rfl) rfl) rfl rfl rfl (w_n rfl) ?_
      refine TL_new 7 (.cells #[.int .u8 0, .int .u8 0, .int .u8 0, .int .u8 0] 23) (fun B => .pointer (some ⟨B, 0, none⟩)) (fun _ _ _ _ => r_alloc (v := .agg #[.int .u8 0, .int .u8 0, .int .u8 0, .int .u8 0]) (by kernel_rfl) rfl) rfl rfl rfl (w_n rfl) ?_
      intro B9
      refine TL_store 7 (.cells #[.int .u8 0, .int .u8 0, .int .u8 0, .int .u8 0] 23) rfl (fun _ _ hρ hm => r_store sz23 (hρ _ _ rfl) (hρ _ _ rfl) (hm.at 7 rfl) rfl rfl rfl rfl) rfl rfl (w_n rfl) ?_
      refine TL_q (.int .i64 140) (fun _ _ hρ _ => r_assign (hρ _ _ rfl)) rfl rfl rfl (w_n rfl) ?_
      refine TL_seq ?_
      refine T_seq (T_region ?_)
      refine TL_q (.agg #[.int .u8 0, .int .u8 0, .int .u8 0, .int .u8 0]) (fun _ _ _ _ => r_build (vs := []) (by kernel_rfl) rfl) rfl rfl rfl (w_n rfl) ?_
      refine TL_new 8 (.cells #[.int .u8 0, .int .u8 0, .int .u8 0, .int .u8 0] 23) (fun B => .pointer (some ⟨B, 0, none⟩)) (fun _ _ _ _ => r_alloc (v := .agg #[.int .u8 0, .int .u8 0, .int .u8 0, .int .u8 0]) (by kernel_rfl) rfl) rfl rfl rfl (w_n rfl) ?_
      intro B10
      refine TL_store 8 (.cells #[.int .u8 0, .int .u8 0, .int .u8 0, .int .u8 0] 23) rfl (fun _ _ hρ hm => r_store sz23 (hρ _ _ rfl) (hρ _ _ rfl) (hm.at 8 rfl) rfl rfl rfl rfl) rfl rfl (w_n rfl) ?_
      refine TL_q (.int .i64 140) (fun _ _ hρ _ => r_assign (hρ _ _ rfl)) rfl rfl rfl (w_n rfl) ?_
      refine TL_seq ?_
      refine T_seq ?_
      refine T_seq (T_region ?_)
      refine TL_q (.pointer (some ⟨B6, 0, none⟩)) (fun _ _ hρ _ => r_fieldAddr fl43_0 sz3 (hρ _ _ rfl)) rfl rfl rfl (w_n rfl) ?_
      refine TL_q (.int .i64 x.x) (fun _ _ hρ hm => r_load ag3 (hρ _ _ rfl) (hm.at 4 rfl) rfl) rfl rfl rfl (w_n rfl) ?_
      refine TL_q (.pointer (some ⟨B6, 1, none⟩)) (fun _ _ hρ _ => r_fieldAddr fl43_1 sz3 (hρ _ _ rfl)) rfl rfl rfl (w_n rfl) ?_
      refine TL_q (.int .i64 x.y) (fun _ _ hρ hm => r_load ag3 (hρ _ _ rfl) (hm.at 4 rfl) rfl) rfl rfl rfl (w_n rfl) ?_
      refine TL_call (.bool false) (fun _ _ hρ _ => r_call (args := [.int .i64 x.x, .int .i64 x.y]) (enters_of Try.func28 (by kernel_rfl) rfl) (hρ _ _ rfl) ((cons2 (hρ _ _ rfl) (cons2 (hρ _ _ rfl) rfl))) rfl) (fun w _ => (is_ref x.x x.y w).mono fun _ _ h => ⟨h.1.trans (congrArg Ending.returned (bool_as (Bool.eq_false_iff.2 hP))), h.2⟩) rfl rfl rfl (w_n rfl) ?_
      refine TL_seq ?_
      refine T_cond_f rfl ?_
      refine T_skip' ?_
      refine p_seq ?_
      refine T_seq (T_region ?_)
      refine TL_q (.agg #[.int .u8 0, .int .u8 0, .int .u8 0, .int .u8 0]) (fun _ _ hρ hm => r_loadA ag23 sz23 (hρ _ _ rfl) (hm.at 7 rfl) rfl rfl) rfl rfl rfl (w_n rfl) ?_
      refine TL_q (.agg #[.int .u8 0, .int .u8 0, .int .u8 0, .int .u8 0]) (fun _ _ hρ hm => r_loadA ag23 sz23 (hρ _ _ rfl) (hm.at 8 rfl) rfl rfl) rfl rfl rfl (w_n rfl) ?_
      refine TL_q (.bool false) (fun _ _ hρ _ => r_as (r_neqA (by kernel_rfl) (hρ _ _ rfl) (hρ _ _ rfl) (run_equalI (l := [(0, .u8), (1, .u8), (2, .u8), (3, .u8)]) (by kernel_rfl) rfl rfl)) (bool_as (by simp only [eqI_self]; try rfl))) rfl rfl rfl (w_n rfl) ?_
      refine TL_q (.bool false) (fun _ _ hρ _ => r_move (hρ _ _ rfl)) rfl rfl rfl (w_n rfl) ?_
      refine TL_q (.int .i64 140) (fun _ _ hρ _ => r_move (hρ _ _ rfl)) rfl rfl rfl (want_y 56 rfl rfl rfl) ?_
      refine TL_q (.int .i64 140) (fun _ _ hρ _ => r_move (hρ _ _ rfl)) rfl rfl rfl (want_y 56 rfl rfl rfl) ?_
      refine TL_q (.bool false) (fun _ _ hρ _ => r_as (r_neq (hρ _ _ rfl) (hρ _ _ rfl)) (by rfl)) rfl rfl rfl (want_y 56 rfl rfl rfl) ?_
      refine TL_q (.bool false) (fun _ _ hρ _ => r_pick_f (hρ _ _ rfl) (hρ _ _ rfl)) rfl rfl rfl (w_n rfl) ?_
      refine TL_seq ?_
      refine T_sub [(2, .slice a ps.length cap), (3, .pointer (some ⟨B1, 0, none⟩)), (4, .pointer (some ⟨B2, 0, none⟩)), (7, .slice (some ⟨g5, 0, none⟩) l3.length cap4), (26, .slice (some ⟨g5, 0, none⟩) l3.length cap4), (27, .int .i64 ((l3.length : Nat) : Int)), (28, .int .i64 ((k : Nat) : Int)), (29, .bool (decide (((k : Nat) : Int) < ((l3.length : Nat) : Int)))), (30, .pointer (some ⟨g5, 0 + k * 2, none⟩)), (31, .agg #[.int .i64 x.x, .int .i64 x.y]), (9, .pointer (some ⟨B6, 0, none⟩)), (33, .agg (lst C4.cells l)), (34, .pointer (some ⟨B6, 0, none⟩)), (35, .int .i64 x.x), (36, .pointer (some ⟨B6, 1, none⟩)), (37, .int .i64 x.y), (38, .tuple #[.agg #[.int .u8 0, .int .u8 0, .int .u8 0, .int .u8 0], .int .i64 140]), (32, .tuple #[.agg #[.int .u8 0, .int .u8 0, .int .u8 0, .int .u8 0], .int .i64 140]), (39, .agg #[.int .u8 0, .int .u8 0, .int .u8 0, .int .u8 0]), (40, .int .i64 140), (10, .pointer (some ⟨B9, 0, none⟩)), (11, .int .i64 140), (41, .agg #[.int .u8 0, .int .u8 0, .int .u8 0, .int .u8 0]), (12, .pointer (some ⟨B10, 0, none⟩)), (13, .int .i64 140), (42, .pointer (some ⟨B6, 0, none⟩)), (43, .int .i64 x.x), (44, .pointer (some ⟨B6, 1, none⟩)), (45, .int .i64 x.y), (46, .bool false), (53, .agg #[.int .u8 0, .int .u8 0, .int .u8 0, .int .u8 0]), (54, .agg #[.int .u8 0, .int .u8 0, .int .u8 0, .int .u8 0]), (55, .bool false), (56, .bool false), (57, .int .i64 140), (58, .int .i64 140), (59, .bool false), (60, .bool false)] [(3, .row (.slice (some ⟨g5, 0, none⟩) l3.length cap4) 43 2 l3.length (l3.flatMap Pt.cells)), (1, .blk B1 (.cells (lst C4.cells l) 25)), (2, .blk B2 (.cells #[.int .u8 c.r, .int .u8 c.g, .int .u8 c.b, .int .u8 c.a] 23)), (4, .blk B6 (.cells #[.int .i64 x.x, .int .i64 x.y] 43)), (7, .blk B9 (.cells #[.int .u8 0, .int .u8 0, .int .u8 0, .int .u8 0] 23)), (8, .blk B10 (.cells #[.int .u8 0, .int .u8 0, .int .u8 0, .int .u8 0] 23))] (sub_cons rfl (sub_cons rfl (sub_cons rfl (sub_cons rfl (sub_cons rfl (sub_cons rfl (sub_cons rfl (sub_cons rfl (sub_cons rfl (sub_cons rfl (sub_cons rfl (sub_cons rfl (sub_cons rfl (sub_cons rfl (sub_cons rfl (sub_cons rfl (sub_cons rfl (sub_cons rfl (sub_cons rfl (sub_cons rfl (sub_cons rfl (sub_cons rfl (sub_cons rfl (sub_cons rfl (sub_cons rfl (sub_cons rfl (sub_cons rfl (sub_cons rfl (sub_cons rfl (sub_cons rfl (sub_cons rfl (sub_cons rfl (sub_cons rfl (sub_cons rfl (sub_cons rfl (sub_cons rfl (sub_cons rfl (sub_cons rfl sub_nil)))))))))))))))))))))))))))))))))))))) (sub_cons rfl (sub_cons rfl (sub_cons rfl (sub_cons rfl (sub_cons rfl (sub_cons rfl sub_nil)))))) ?_
      refine T_cond_f rfl ?_
      refine T_skip' ?_
      refine p_blk_n ?_
      refine p_seq ?_
      refine T_region ?_
      refine TL_q (.int .i64 ((k + 1 : Nat) : Int)) (fun _ _ hρ _ => r_as (r_add (hρ _ _ rfl) (hρ _ _ rfl)) (int_as ((wrap64 (by omega) (by omega)).trans (by omega)))) rfl rfl rfl (w_n rfl) ?_
      refine TL_q (.int .i64 ((k + 1 : Nat) : Int)) (fun _ _ hρ _ => r_move (hρ _ _ rfl)) rfl rfl rfl (w_n rfl) ?_
      refine TL_nil ?_
      exact p_at (k + 1) ⟨by omega, by omega⟩ (sub_cons rfl (sub_cons rfl (sub_cons rfl (sub_cons rfl (sub_cons rfl (sub_cons rfl (sub_cons rfl sub_nil))))))) (sub_cons rfl (sub_cons rfl (sub_cons rfl sub_nil)))
  · replace h1 := of_decide_eq_false h1
    refine T_exit' ?_
    refine p_then_x ?_
    refine p_then_x ?_
    refine p_blk_x ?_
    refine p_seq ?_
    by_cases hA : l3.all Pt.inn = true
    · skip
      refine T_seq (T_region ?_)
      refine TL_q (.agg (lst C4.cells l)) (fun _ _ hρ hm => r_loadW ag25 sz25 (hρ _ _ rfl) (hm.at 1 rfl) (tsz hl)) rfl rfl rfl (w_n rfl) ?_
      refine TL_q (.agg #[.int .u8 c.r, .int .u8 c.g, .int .u8 c.b, .int .u8 c.a]) (fun _ _ hρ hm => r_loadA ag23 sz23 (hρ _ _ rfl) (hm.at 2 rfl) rfl rfl) rfl rfl rfl (w_n rfl) ?_
      refine TL_q (.slice a4 l3.length cap4) (fun _ _ hρ _ => r_move (hρ _ _ rfl)) rfl rfl rfl (w_n rfl) ?_
      refine TL_call (.tuple #[.agg (lst C4.cells (withL l c l3)), .int .i64 0]) (fun _ _ hρ _ => r_call (args := [.agg (lst C4.cells l), .agg #[.int .u8 c.r, .int .u8 c.g, .int .u8 c.b, .int .u8 c.a], .slice a4 l3.length cap4]) (enters_of Try.func20 (by kernel_rfl) rfl) (hρ _ _ rfl) ((cons2 (hρ _ _ rfl) (cons2 (hρ _ _ rfl) (cons2 (hρ _ _ rfl) rfl)))) rfl) (fun w hm => (with_c l c l3 a4 cap4 w hl ((SliceAt.own Pt.cells_len (hm.row 3 rfl) rfl rfl)) (row_cap (hm.row 3 rfl))).mono fun _ _ h => ⟨h.1.trans (congrArg Ending.returned (by rw [with_all hA]; rfl)), h.2⟩) rfl rfl rfl (w_n rfl) ?_
      refine TL_q (.tuple #[.agg (lst C4.cells (withL l c l3)), .int .i64 0]) (fun _ _ hρ _ => r_move (hρ _ _ rfl)) rfl rfl rfl (w_n rfl) ?_
      refine TL_q (.agg (lst C4.cells (withL l c l3))) (fun _ _ hρ _ => r_extract (hρ _ _ rfl) rfl) rfl rfl rfl (w_n rfl) ?_
      refine TL_q (.int .i64 0) (fun _ _ hρ _ => r_extract (hρ _ _ rfl) rfl) rfl rfl rfl (w_n rfl) ?_
      refine TL_new 9 (.cells (lst C4.cells zero64) 25) (fun B => .pointer (some ⟨B, 0, none⟩)) (fun _ _ _ _ => r_alloc (v := .agg (lst C4.cells zero64)) (by kernel_rfl) rfl) rfl rfl rfl (w_n rfl) ?_
      intro B11
      refine TL_store 9 (.cells (lst C4.cells (withL l c l3)) 25) rfl (fun _ _ hρ hm => r_storeAll sz25 (hρ _ _ rfl) (hρ _ _ rfl) (hm.at 9 rfl) (tsz zero64_len) (tsz (withL_len hl _)) (lst_one C4.cells_all _)) rfl rfl (w_n rfl) ?_
      refine TL_q (.int .i64 0) (fun _ _ hρ _ => r_assign (hρ _ _ rfl)) rfl rfl rfl (w_n rfl) ?_
      refine TL_seq ?_
      refine T_seq (T_region ?_)
      refine TL_q (.agg (lst C4.cells l)) (fun _ _ hρ hm => r_loadW ag25 sz25 (hρ _ _ rfl) (hm.at 1 rfl) (tsz hl)) rfl rfl rfl (w_n rfl) ?_
      refine TL_q (.agg #[.int .u8 c.r, .int .u8 c.g, .int .u8 c.b, .int .u8 c.a]) (fun _ _ hρ hm => r_loadA ag23 sz23 (hρ _ _ rfl) (hm.at 2 rfl) rfl rfl) rfl rfl rfl (w_n rfl) ?_
      refine TL_q (.slice a4 l3.length cap4) (fun _ _ hρ _ => r_move (hρ _ _ rfl)) rfl rfl rfl (w_n rfl) ?_
      refine TL_call (.tuple #[.agg (lst C4.cells (withL l c l3)), .bool true]) (fun _ _ hρ _ => r_call (args := [.agg (lst C4.cells l), .agg #[.int .u8 c.r, .int .u8 c.g, .int .u8 c.b, .int .u8 c.a], .slice a4 l3.length cap4]) (enters_of Try.func30 (by kernel_rfl) rfl) (hρ _ _ rfl) ((cons2 (hρ _ _ rfl) (cons2 (hρ _ _ rfl) (cons2 (hρ _ _ rfl) rfl)))) rfl) (fun w hm => (with_ref l c l3 a4 cap4 w hl ((SliceAt.own Pt.cells_len (hm.row 3 rfl) rfl rfl)) (row_cap (hm.row 3 rfl))).mono fun _ _ h => ⟨h.1.trans (congrArg Ending.returned (by rw [with_all hA]; rfl)), h.2⟩) rfl rfl rfl (w_n rfl) ?_
      refine TL_q (.tuple #[.agg (lst C4.cells (withL l c l3)), .bool true]) (fun _ _ hρ _ => r_move (hρ _ _ rfl)) rfl rfl rfl (w_n rfl) ?_
      refine TL_q (.agg (lst C4.cells (withL l c l3))) (fun _ _ hρ _ => r_extract (hρ _ _ rfl) rfl) rfl rfl rfl (w_n rfl) ?_
      refine TL_q (.bool true) (fun _ _ hρ _ => r_extract (hρ _ _ rfl) rfl) rfl rfl rfl (w_n rfl) ?_
      refine TL_new 10 (.cells (lst C4.cells zero64) 25) (fun B => .pointer (some ⟨B, 0, none⟩)) (fun _ _ _ _ => r_alloc (v := .agg (lst C4.cells zero64)) (by kernel_rfl) rfl) rfl rfl rfl (w_n rfl) ?_
      intro B12
      refine TL_store 10 (.cells (lst C4.cells (withL l c l3)) 25) rfl (fun _ _ hρ hm => r_storeAll sz25 (hρ _ _ rfl) (hρ _ _ rfl) (hm.at 10 rfl) (tsz zero64_len) (tsz (withL_len hl _)) (lst_one C4.cells_all _)) rfl rfl (w_n rfl) ?_
      refine TL_q (.bool true) (fun _ _ hρ _ => r_assign (hρ _ _ rfl)) rfl rfl rfl (w_n rfl) ?_
      refine TL_seq ?_
      obtain ⟨l13, hl13, hn13⟩ : ∃ l, l = ps.take l3.length ∧ l.length = l3.length := ⟨_, rfl, by rw [List.length_take]; omega⟩
      have hs13 := SliceAt.front hv (n := l3.length) (m := cap) (by omega) (by omega) (by omega)
      rw [← hl13] at hs13
      refine T_seq (T_draw (V := [(0, .agg (lst C4.cells (withL l c l3))), (1, .agg (lst C4.cells (withL l c l3))), (2, .bool true), (3, .bool true), (4, .int .i64 0), (5, .bool true), (6, .bool true), (7, .bool true), (8, .bool true), (9, .bool true), (10, .bool true), (11, .bool true), (12, undef), (13, undef), (14, .bool true), (15, .bool true), (16, .bool true), (17, .agg #[.int .u8 c.r, .int .u8 c.g, .int .u8 c.b, .int .u8 c.a]), (19, .agg #[.int .u8 c.r, .int .u8 c.g, .int .u8 c.b, .int .u8 c.a])]) [0, 0, 3, 7, 15, 31, 15, 127, 255, 511, 1023, 2047, 4095, 8191, 16383, 32767, 65535, 131071, 262143, 131071, 1048575, 2097151, 4194303, 8388607, 16777215, 16777215, 16777215, 83886079, 251658239, 536870911, 1073741823, 2147483647] [[(14, none)], [(16, none)], [(76, some 0), (77, some 1)], [(78, some 2)], [(15, none)], [(80, some 4)], [(17, none)], [(81, some 5), (82, some 6)], [(83, some 7), (79, some 3)], [(84, some 8)], [(17, none)], [(86, some 10)], [(15, none)], [(88, some 12)], [(89, some 13), (87, some 11)], [(90, some 14), (85, some 9)], [(91, some 15)], [(4, none)], [(93, some 17)], [(4, none)], [(95, some 19)], [(94, some 18), (96, some 20)], [(97, some 21), (92, some 16)], [(98, some 22)], [(7, none)], [(2, none)], [(7, none)], [(102, some 26)], [(101, some 25), (103, some 27)], [(100, some 24), (104, some 28)], [(105, some 29), (99, some 23)], [(106, some 30)]] 538181632 mixed (by kernel_rfl) ?_)
      refine G_step [0, 1, 2, 3, 4, 5, 6, 7, 8, 9, 10, 11, 12, 13, 14, 15, 16, 17, 19] 18 [] (by kernel_rfl) (allM (all_cons (q_run (.agg (lst C4.cells (withL l c l3))) rfl rfl (wv_n rfl) rfl (fun _ _ hρ hm => r_loadW ag25 sz25 (hρ _ _ rfl) (hm.at 9 rfl) (tsz (withL_len hl _)))) (all_cons (q_run (.agg (lst C4.cells (withL l c l3))) rfl rfl (wv_n rfl) rfl (fun _ _ hρ hm => r_loadW ag25 sz25 (hρ _ _ rfl) (hm.at 10 rfl) (tsz (withL_len hl _)))) (all_cons (q_run (.bool true) rfl rfl (wv_n rfl) rfl (fun _ w hρ _ => r_as (r_eqlA (by kernel_rfl) (hρ _ _ rfl) (hρ _ _ rfl) (eq_til (withL_len hl _) (withL_len hl _) w)) (bool_as (by rw [decide_eq_true rfl])))) (all_cons (q_run (.bool true) rfl rfl (wv_n rfl) rfl (fun _ _ hρ _ => r_move (hρ _ _ rfl))) (all_cons (q_run (.int .i64 0) rfl rfl (wv_y rfl rfl) rfl (fun _ _ hρ _ => r_move (hρ _ _ rfl))) (all_cons (q_run (.bool true) rfl rfl (wv_y rfl rfl) rfl (fun _ _ hρ _ => r_as (r_eql (hρ _ _ rfl) (hρ _ _ rfl)) (by rfl))) (all_cons (q_run (.bool true) rfl rfl (wv_y rfl rfl) rfl (fun _ _ hρ _ => r_move (hρ _ _ rfl))) (all_cons (q_run (.bool true) rfl rfl (wv_y rfl rfl) rfl (fun _ _ hρ _ => r_as (r_eqlB (by kernel_rfl) (hρ _ _ rfl) (hρ _ _ rfl)) (by rfl))) (all_cons (q_run (.bool true) rfl rfl (wv_n rfl) rfl (fun _ _ hρ _ => r_pick_t (hρ _ _ rfl) (hρ _ _ rfl))) (all_cons (q_run (.bool true) rfl rfl (wv_n rfl) rfl (fun _ _ hρ _ => r_move (hρ _ _ rfl))) (all_cons (q_run (.bool true) rfl rfl (wv_y rfl rfl) rfl (fun _ _ hρ _ => r_move (hρ _ _ rfl))) (all_cons (q_run (.bool true) rfl rfl (wv_y rfl rfl) rfl (fun _ _ hρ _ => r_move (hρ _ _ rfl))) (all_cons (q_no rfl rfl (wv_no rfl rfl)) (all_cons (q_no rfl rfl (wv_no rfl rfl)) (all_cons (q_run (.bool true) rfl rfl (wv_y rfl rfl) rfl (fun _ _ hρ _ => r_pick_t (hρ _ _ rfl) (hρ _ _ rfl))) (all_cons (q_run (.bool true) rfl rfl (wv_n rfl) rfl (fun _ _ hρ _ => r_pick_t (hρ _ _ rfl) (hρ _ _ rfl))) (all_cons (q_run (.bool true) rfl rfl (wv_n rfl) rfl (fun _ _ hρ _ => r_move (hρ _ _ rfl))) (all_cons (q_run (.agg #[.int .u8 c.r, .int .u8 c.g, .int .u8 c.b, .int .u8 c.a]) rfl rfl (wv_y rfl rfl) rfl (fun _ _ hρ hm => r_loadA ag23 sz23 (hρ _ _ rfl) (hm.at 2 rfl) rfl rfl)) (all_cons (q_run (.agg #[.int .u8 c.r, .int .u8 c.g, .int .u8 c.b, .int .u8 c.a]) rfl rfl (wv_y rfl rfl) rfl (fun _ _ hρ hm => r_loadA ag23 sz23 (hρ _ _ rfl) (hm.at 2 rfl) rfl rfl)) all_nil)))))))))))))))))))) (allM (all_cons ?_ all_nil))
      refine LOb_call (.agg (lst C4.cells (newL c))) [] rfl (wv_y rfl rfl) rfl rfl (fun _ _ hρ _ => r_call (args := [.agg #[.int .u8 c.r, .int .u8 c.g, .int .u8 c.b, .int .u8 c.a]]) (enters_of Try.func31 (by kernel_rfl) rfl) (hρ _ _ rfl) ((cons2 (hρ _ _ rfl) rfl)) rfl) (fun w _ => new_c c w) (by kernel_rfl) ?_
      refine G_step [19] 20 [] (by kernel_rfl) (allM (all_cons (q_run (.agg #[.int .u8 c.r, .int .u8 c.g, .int .u8 c.b, .int .u8 c.a]) rfl rfl (wv_y rfl rfl) rfl (fun _ _ hρ hm => r_loadA ag23 sz23 (hρ _ _ rfl) (hm.at 2 rfl) rfl rfl)) all_nil)) (allM (all_cons ?_ all_nil))
      refine LOb_call (.agg (lst C4.cells (newL c))) [(21, .bool true), (22, .bool true), (23, .bool true), (24, .slice a4 l3.length cap4), (25, .slice a ps.length cap), (26, .slice a4 l3.length cap4), (27, .int .i64 ((l3.length : Nat) : Int)), (28, .slice a l13.length cap)] rfl (wv_y rfl rfl) rfl rfl (fun _ _ hρ _ => r_call (args := [.agg #[.int .u8 c.r, .int .u8 c.g, .int .u8 c.b, .int .u8 c.a]]) (enters_of Try.func32 (by kernel_rfl) rfl) (hρ _ _ rfl) ((cons2 (hρ _ _ rfl) rfl)) rfl) (fun w _ => new_ref c w) (by kernel_rfl) ?_
      refine G_step [21, 22, 23, 24, 25, 26, 27, 28] 29 [] (by kernel_rfl) (allM (all_cons (q_run (.bool true) rfl rfl (wv_y rfl rfl) rfl (fun _ w hρ _ => r_as (r_eqlA (by kernel_rfl) (hρ _ _ rfl) (hρ _ _ rfl) (eq_til (newL_len _) (newL_len _) w)) (bool_as (by rw [decide_eq_true rfl])))) (all_cons (q_run (.bool true) rfl rfl (wv_n rfl) rfl (fun _ _ hρ _ => r_pick_t (hρ _ _ rfl) (hρ _ _ rfl))) (all_cons (q_run (.bool true) rfl rfl (wv_n rfl) rfl (fun _ _ hρ _ => r_move (hρ _ _ rfl))) (all_cons (q_run (.slice a4 l3.length cap4) rfl rfl (wv_y rfl rfl) rfl (fun _ _ hρ _ => r_move (hρ _ _ rfl))) (all_cons (q_run (.slice a ps.length cap) rfl rfl (wv_y rfl rfl) rfl (fun _ _ hρ _ => r_move (hρ _ _ rfl))) (all_cons (q_run (.slice a4 l3.length cap4) rfl rfl (wv_y rfl rfl) rfl (fun _ _ hρ _ => r_move (hρ _ _ rfl))) (all_cons (q_run (.int .i64 ((l3.length : Nat) : Int)) rfl rfl (wv_y rfl rfl) rfl (fun _ _ hρ _ => r_len sl45 (hρ _ _ rfl))) (all_cons (q_run (.slice a l13.length cap) rfl rfl (wv_y rfl rfl) rfl (fun ρ _ hρ _ => r_as (r_sliceO sl45 sz43 (hρ _ _ rfl) (bd_none ρ _) (bd_some (n := l3.length) (hρ _ _ rfl)) (bd_none ρ _) (by simp) (by omega) (by omega) (by omega)) (by rw [hn13]; exact slo_zero _ _ _ _))) all_nil))))))))) (allM (all_cons ?_ all_nil))
      refine LOb_call (.bool true) [(30, .bool true), (31, .bool true)] rfl (wv_y rfl rfl) rfl rfl (fun _ _ hρ _ => r_call (args := [.slice a4 l3.length cap4, .slice a l13.length cap]) (enters_of Try.func33 (by kernel_rfl) rfl) (hρ _ _ rfl) ((cons2 (hρ _ _ rfl) (cons2 (hρ _ _ rfl) rfl))) rfl) (fun w hm => (equal_pts l3 l13 a4 a cap4 cap w ((SliceAt.own Pt.cells_len (hm.row 3 rfl) rfl rfl)) ((hs13.keep hm.ext)) (by omega) (by omega)).mono fun _ _ h => ⟨h.1.trans (congrArg Ending.returned (bool_as (decide_eq_true (by rw [hl13, hn3]; exact hl3)))), h.2⟩) (by kernel_rfl) ?_
      refine G_last [30, 31] [(6, .bool true)] (by kernel_rfl) (allM (all_cons (q_run (.bool true) rfl rfl (wv_n rfl) rfl (fun _ _ hρ _ => r_pick_t (hρ _ _ rfl) (hρ _ _ rfl))) (all_cons (q_run (.bool true) rfl rfl (wv_n rfl) rfl (fun _ _ hρ _ => r_assign (hρ _ _ rfl))) all_nil))) (end_new 31 rfl rfl end_nil) ?_
      refine T_ret' ?_
      refine ret_of rfl (.bool true) (fun tmps w hk hm => res1 rfl (res_tmp (hk 6 _ rfl))) (fun w hm => ?_)
      exact ⟨rfl, hm.ext⟩
    · skip
      refine T_seq (T_region ?_)
      refine TL_q (.agg (lst C4.cells l)) (fun _ _ hρ hm => r_loadW ag25 sz25 (hρ _ _ rfl) (hm.at 1 rfl) (tsz hl)) rfl rfl rfl (w_n rfl) ?_
      refine TL_q (.agg #[.int .u8 c.r, .int .u8 c.g, .int .u8 c.b, .int .u8 c.a]) (fun _ _ hρ hm => r_loadA ag23 sz23 (hρ _ _ rfl) (hm.at 2 rfl) rfl rfl) rfl rfl rfl (w_n rfl) ?_
      refine TL_q (.slice a4 l3.length cap4) (fun _ _ hρ _ => r_move (hρ _ _ rfl)) rfl rfl rfl (w_n rfl) ?_
      refine TL_call (.tuple #[.agg (lst C4.cells zero64), .int .i64 140]) (fun _ _ hρ _ => r_call (args := [.agg (lst C4.cells l), .agg #[.int .u8 c.r, .int .u8 c.g, .int .u8 c.b, .int .u8 c.a], .slice a4 l3.length cap4]) (enters_of Try.func20 (by kernel_rfl) rfl) (hρ _ _ rfl) ((cons2 (hρ _ _ rfl) (cons2 (hρ _ _ rfl) (cons2 (hρ _ _ rfl) rfl)))) rfl) (fun w hm => (with_c l c l3 a4 cap4 w hl ((SliceAt.own Pt.cells_len (hm.row 3 rfl) rfl rfl)) (row_cap (hm.row 3 rfl))).mono fun _ _ h => ⟨h.1.trans (congrArg Ending.returned (by rw [show withR l c l3 = none from if_neg hA]; rfl)), h.2⟩) rfl rfl rfl (w_n rfl) ?_
      refine TL_q (.tuple #[.agg (lst C4.cells zero64), .int .i64 140]) (fun _ _ hρ _ => r_move (hρ _ _ rfl)) rfl rfl rfl (w_n rfl) ?_
      refine TL_q (.agg (lst C4.cells zero64)) (fun _ _ hρ _ => r_extract (hρ _ _ rfl) rfl) rfl rfl rfl (w_n rfl) ?_
      refine TL_q (.int .i64 140) (fun _ _ hρ _ => r_extract (hρ _ _ rfl) rfl) rfl rfl rfl (w_n rfl) ?_
      refine TL_new 11 (.cells (lst C4.cells zero64) 25) (fun B => .pointer (some ⟨B, 0, none⟩)) (fun _ _ _ _ => r_alloc (v := .agg (lst C4.cells zero64)) (by kernel_rfl) rfl) rfl rfl rfl (w_n rfl) ?_
      intro B14
      refine TL_store 11 (.cells (lst C4.cells zero64) 25) rfl (fun _ _ hρ hm => r_storeAll sz25 (hρ _ _ rfl) (hρ _ _ rfl) (hm.at 11 rfl) (tsz zero64_len) (tsz zero64_len) (lst_one C4.cells_all _)) rfl rfl (w_n rfl) ?_
      refine TL_q (.int .i64 140) (fun _ _ hρ _ => r_assign (hρ _ _ rfl)) rfl rfl rfl (w_n rfl) ?_
      refine TL_seq ?_
      refine T_seq (T_region ?_)
      refine TL_q (.agg (lst C4.cells l)) (fun _ _ hρ hm => r_loadW ag25 sz25 (hρ _ _ rfl) (hm.at 1 rfl) (tsz hl)) rfl rfl rfl (w_n rfl) ?_
      refine TL_q (.agg #[.int .u8 c.r, .int .u8 c.g, .int .u8 c.b, .int .u8 c.a]) (fun _ _ hρ hm => r_loadA ag23 sz23 (hρ _ _ rfl) (hm.at 2 rfl) rfl rfl) rfl rfl rfl (w_n rfl) ?_
      refine TL_q (.slice a4 l3.length cap4) (fun _ _ hρ _ => r_move (hρ _ _ rfl)) rfl rfl rfl (w_n rfl) ?_
      refine TL_call (.tuple #[.agg (lst C4.cells zero64), .bool false]) (fun _ _ hρ _ => r_call (args := [.agg (lst C4.cells l), .agg #[.int .u8 c.r, .int .u8 c.g, .int .u8 c.b, .int .u8 c.a], .slice a4 l3.length cap4]) (enters_of Try.func30 (by kernel_rfl) rfl) (hρ _ _ rfl) ((cons2 (hρ _ _ rfl) (cons2 (hρ _ _ rfl) (cons2 (hρ _ _ rfl) rfl)))) rfl) (fun w hm => (with_ref l c l3 a4 cap4 w hl ((SliceAt.own Pt.cells_len (hm.row 3 rfl) rfl rfl)) (row_cap (hm.row 3 rfl))).mono fun _ _ h => ⟨h.1.trans (congrArg Ending.returned (by rw [show withR l c l3 = none from if_neg hA]; rfl)), h.2⟩) rfl rfl rfl (w_n rfl) ?_
      refine TL_q (.tuple #[.agg (lst C4.cells zero64), .bool false]) (fun _ _ hρ _ => r_move (hρ _ _ rfl)) rfl rfl rfl (w_n rfl) ?_
      refine TL_q (.agg (lst C4.cells zero64)) (fun _ _ hρ _ => r_extract (hρ _ _ rfl) rfl) rfl rfl rfl (w_n rfl) ?_
      refine TL_q (.bool false) (fun _ _ hρ _ => r_extract (hρ _ _ rfl) rfl) rfl rfl rfl (w_n rfl) ?_
      refine TL_new 12 (.cells (lst C4.cells zero64) 25) (fun B => .pointer (some ⟨B, 0, none⟩)) (fun _ _ _ _ => r_alloc (v := .agg (lst C4.cells zero64)) (by kernel_rfl) rfl) rfl rfl rfl (w_n rfl) ?_
      intro B15
      refine TL_store 12 (.cells (lst C4.cells zero64) 25) rfl (fun _ _ hρ hm => r_storeAll sz25 (hρ _ _ rfl) (hρ _ _ rfl) (hm.at 12 rfl) (tsz zero64_len) (tsz zero64_len) (lst_one C4.cells_all _)) rfl rfl (w_n rfl) ?_
      refine TL_q (.bool false) (fun _ _ hρ _ => r_assign (hρ _ _ rfl)) rfl rfl rfl (w_n rfl) ?_
      refine TL_seq ?_
      obtain ⟨l16, hl16, hn16⟩ : ∃ l, l = ps.take l3.length ∧ l.length = l3.length := ⟨_, rfl, by rw [List.length_take]; omega⟩
      have hs16 := SliceAt.front hv (n := l3.length) (m := cap) (by omega) (by omega) (by omega)
      rw [← hl16] at hs16
      refine T_seq (T_draw (V := [(0, .agg (lst C4.cells zero64)), (1, .agg (lst C4.cells zero64)), (2, .bool true), (3, .bool true), (4, .int .i64 140), (5, .bool false), (6, .bool false), (7, .bool true), (8, .bool true), (9, .bool true), (10, .bool false), (11, .bool false), (12, .int .i64 140), (13, .bool true), (14, .bool true), (15, .bool true), (16, .bool true), (17, .agg #[.int .u8 c.r, .int .u8 c.g, .int .u8 c.b, .int .u8 c.a]), (19, .agg #[.int .u8 c.r, .int .u8 c.g, .int .u8 c.b, .int .u8 c.a])]) [0, 0, 3, 7, 15, 31, 15, 127, 255, 511, 1023, 2047, 4095, 8191, 16383, 32767, 65535, 131071, 262143, 131071, 1048575, 2097151, 4194303, 8388607, 16777215, 16777215, 16777215, 83886079, 251658239, 536870911, 1073741823, 2147483647] [[(14, none)], [(16, none)], [(76, some 0), (77, some 1)], [(78, some 2)], [(15, none)], [(80, some 4)], [(17, none)], [(81, some 5), (82, some 6)], [(83, some 7), (79, some 3)], [(84, some 8)], [(17, none)], [(86, some 10)], [(15, none)], [(88, some 12)], [(89, some 13), (87, some 11)], [(90, some 14), (85, some 9)], [(91, some 15)], [(4, none)], [(93, some 17)], [(4, none)], [(95, some 19)], [(94, some 18), (96, some 20)], [(97, some 21), (92, some 16)], [(98, some 22)], [(7, none)], [(2, none)], [(7, none)], [(102, some 26)], [(101, some 25), (103, some 27)], [(100, some 24), (104, some 28)], [(105, some 29), (99, some 23)], [(106, some 30)]] 538181632 mixed (by kernel_rfl) ?_)
      refine G_step [0, 1, 2, 3, 4, 5, 6, 7, 8, 9, 10, 11, 12, 13, 14, 15, 16, 17, 19] 18 [] (by kernel_rfl) (allM (all_cons (q_run (.agg (lst C4.cells zero64)) rfl rfl (wv_n rfl) rfl (fun _ _ hρ hm => r_loadW ag25 sz25 (hρ _ _ rfl) (hm.at 11 rfl) (tsz zero64_len))) (all_cons (q_run (.agg (lst C4.cells zero64)) rfl rfl (wv_n rfl) rfl (fun _ _ hρ hm => r_loadW ag25 sz25 (hρ _ _ rfl) (hm.at 12 rfl) (tsz zero64_len))) (all_cons (q_run (.bool true) rfl rfl (wv_n rfl) rfl (fun _ w hρ _ => r_as (r_eqlA (by kernel_rfl) (hρ _ _ rfl) (hρ _ _ rfl) (eq_til zero64_len zero64_len w)) (bool_as (by rw [decide_eq_true rfl])))) (all_cons (q_run (.bool true) rfl rfl (wv_n rfl) rfl (fun _ _ hρ _ => r_move (hρ _ _ rfl))) (all_cons (q_run (.int .i64 140) rfl rfl (wv_y rfl rfl) rfl (fun _ _ hρ _ => r_move (hρ _ _ rfl))) (all_cons (q_run (.bool false) rfl rfl (wv_y rfl rfl) rfl (fun _ _ hρ _ => r_as (r_eql (hρ _ _ rfl) (hρ _ _ rfl)) (by rfl))) (all_cons (q_run (.bool false) rfl rfl (wv_y rfl rfl) rfl (fun _ _ hρ _ => r_move (hρ _ _ rfl))) (all_cons (q_run (.bool true) rfl rfl (wv_y rfl rfl) rfl (fun _ _ hρ _ => r_as (r_eqlB (by kernel_rfl) (hρ _ _ rfl) (hρ _ _ rfl)) (by rfl))) (all_cons (q_run (.bool true) rfl rfl (wv_n rfl) rfl (fun _ _ hρ _ => r_pick_t (hρ _ _ rfl) (hρ _ _ rfl))) (all_cons (q_run (.bool true) rfl rfl (wv_n rfl) rfl (fun _ _ hρ _ => r_move (hρ _ _ rfl))) (all_cons (q_run (.bool false) rfl rfl (wv_y rfl rfl) rfl (fun _ _ hρ _ => r_move (hρ _ _ rfl))) (all_cons (q_run (.bool false) rfl rfl (wv_y rfl rfl) rfl (fun _ _ hρ _ => r_move (hρ _ _ rfl))) (all_cons (q_run (.int .i64 140) rfl rfl (wv_y rfl rfl) rfl (fun _ _ hρ _ => r_move (hρ _ _ rfl))) (all_cons (q_run (.bool true) rfl rfl (wv_y rfl rfl) rfl (fun _ _ hρ _ => r_as (r_eql (hρ _ _ rfl) (hρ _ _ rfl)) (by rfl))) (all_cons (q_run (.bool true) rfl rfl (wv_y rfl rfl) rfl (fun _ _ hρ _ => r_pick_f (hρ _ _ rfl) (hρ _ _ rfl))) (all_cons (q_run (.bool true) rfl rfl (wv_n rfl) rfl (fun _ _ hρ _ => r_pick_t (hρ _ _ rfl) (hρ _ _ rfl))) (all_cons (q_run (.bool true) rfl rfl (wv_n rfl) rfl (fun _ _ hρ _ => r_move (hρ _ _ rfl))) (all_cons (q_run (.agg #[.int .u8 c.r, .int .u8 c.g, .int .u8 c.b, .int .u8 c.a]) rfl rfl (wv_y rfl rfl) rfl (fun _ _ hρ hm => r_loadA ag23 sz23 (hρ _ _ rfl) (hm.at 2 rfl) rfl rfl)) (all_cons (q_run (.agg #[.int .u8 c.r, .int .u8 c.g, .int .u8 c.b, .int .u8 c.a]) rfl rfl (wv_y rfl rfl) rfl (fun _ _ hρ hm => r_loadA ag23 sz23 (hρ _ _ rfl) (hm.at 2 rfl) rfl rfl)) all_nil)))))))))))))))))))) (allM (all_cons ?_ all_nil))
      refine LOb_call (.agg (lst C4.cells (newL c))) [] rfl (wv_y rfl rfl) rfl rfl (fun _ _ hρ _ => r_call (args := [.agg #[.int .u8 c.r, .int .u8 c.g, .int .u8 c.b, .int .u8 c.a]]) (enters_of Try.func31 (by kernel_rfl) rfl) (hρ _ _ rfl) ((cons2 (hρ _ _ rfl) rfl)) rfl) (fun w _ => new_c c w) (by kernel_rfl) ?_
      refine G_step [19] 20 [] (by kernel_rfl) (allM (all_cons (q_run (.agg #[.int .u8 c.r, .int .u8 c.g, .int .u8 c.b, .int .u8 c.a]) rfl rfl (wv_y rfl rfl) rfl (fun _ _ hρ hm => r_loadA ag23 sz23 (hρ _ _ rfl) (hm.at 2 rfl) rfl rfl)) all_nil)) (allM (all_cons ?_ all_nil))
      refine LOb_call (.agg (lst C4.cells (newL c))) [(21, .bool true), (22, .bool true), (23, .bool true), (24, .slice a4 l3.length cap4), (25, .slice a ps.length cap), (26, .slice a4 l3.length cap4), (27, .int .i64 ((l3.length : Nat) : Int)), (28, .slice a l16.length cap)] rfl (wv_y rfl rfl) rfl rfl (fun _ _ hρ _ => r_call (args := [.agg #[.int .u8 c.r, .int .u8 c.g, .int .u8 c.b, .int .u8 c.a]]) (enters_of Try.func32 (by kernel_rfl) rfl) (hρ _ _ rfl) ((cons2 (hρ _ _ rfl) rfl)) rfl) (fun w _ => new_ref c w) (by kernel_rfl) ?_
      refine G_step [21, 22, 23, 24, 25, 26, 27, 28] 29 [] (by kernel_rfl) (allM (all_cons (q_run (.bool true) rfl rfl (wv_y rfl rfl) rfl (fun _ w hρ _ => r_as (r_eqlA (by kernel_rfl) (hρ _ _ rfl) (hρ _ _ rfl) (eq_til (newL_len _) (newL_len _) w)) (bool_as (by rw [decide_eq_true rfl])))) (all_cons (q_run (.bool true) rfl rfl (wv_n rfl) rfl (fun _ _ hρ _ => r_pick_t (hρ _ _ rfl) (hρ _ _ rfl))) (all_cons (q_run (.bool true) rfl rfl (wv_n rfl) rfl (fun _ _ hρ _ => r_move (hρ _ _ rfl))) (all_cons (q_run (.slice a4 l3.length cap4) rfl rfl (wv_y rfl rfl) rfl (fun _ _ hρ _ => r_move (hρ _ _ rfl))) (all_cons (q_run (.slice a ps.length cap) rfl rfl (wv_y rfl rfl) rfl (fun _ _ hρ _ => r_move (hρ _ _ rfl))) (all_cons (q_run (.slice a4 l3.length cap4) rfl rfl (wv_y rfl rfl) rfl (fun _ _ hρ _ => r_move (hρ _ _ rfl))) (all_cons (q_run (.int .i64 ((l3.length : Nat) : Int)) rfl rfl (wv_y rfl rfl) rfl (fun _ _ hρ _ => r_len sl45 (hρ _ _ rfl))) (all_cons (q_run (.slice a l16.length cap) rfl rfl (wv_y rfl rfl) rfl (fun ρ _ hρ _ => r_as (r_sliceO sl45 sz43 (hρ _ _ rfl) (bd_none ρ _) (bd_some (n := l3.length) (hρ _ _ rfl)) (bd_none ρ _) (by simp) (by omega) (by omega) (by omega)) (by rw [hn16]; exact slo_zero _ _ _ _))) all_nil))))))))) (allM (all_cons ?_ all_nil))
      refine LOb_call (.bool true) [(30, .bool true), (31, .bool true)] rfl (wv_y rfl rfl) rfl rfl (fun _ _ hρ _ => r_call (args := [.slice a4 l3.length cap4, .slice a l16.length cap]) (enters_of Try.func33 (by kernel_rfl) rfl) (hρ _ _ rfl) ((cons2 (hρ _ _ rfl) (cons2 (hρ _ _ rfl) rfl))) rfl) (fun w hm => (equal_pts l3 l16 a4 a cap4 cap w ((SliceAt.own Pt.cells_len (hm.row 3 rfl) rfl rfl)) ((hs16.keep hm.ext)) (by omega) (by omega)).mono fun _ _ h => ⟨h.1.trans (congrArg Ending.returned (bool_as (decide_eq_true (by rw [hl16, hn3]; exact hl3)))), h.2⟩) (by kernel_rfl) ?_
      refine G_last [30, 31] [(6, .bool true)] (by kernel_rfl) (allM (all_cons (q_run (.bool true) rfl rfl (wv_n rfl) rfl (fun _ _ hρ _ => r_pick_t (hρ _ _ rfl) (hρ _ _ rfl))) (all_cons (q_run (.bool true) rfl rfl (wv_n rfl) rfl (fun _ _ hρ _ => r_assign (hρ _ _ rfl))) all_nil))) (end_new 31 rfl rfl end_nil) ?_
      refine T_ret' ?_
      refine ret_of rfl (.bool true) (fun tmps w hk hm => res1 rfl (res_tmp (hk 6 _ rfl))) (fun w hm => ?_)
      exact ⟨rfl, hm.ext⟩
end Go.Proofs.Ytmlkifojbjbpcaa
