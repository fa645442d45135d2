/- Texts of this seat, merged: part 4. -/
import Derived.Test.YtbiapeaghbndoaaMg3
/- canvas: Turn. Printed by a program of this seat's prover. -/
namespace Go.Proofs.Ytbiapeaghbndoaa
open Go Go.RowKit
set_option maxRecDepth 10000
set_option maxHeartbeats 1000000 in
theorem turn1_ok (S R p q : Nat) (qn : Int) (px : List C4) (a : Option Addr) (cap : Nat) (w : World) (hS : hp w S = some (.cells #[.int .i64 (p : Int), .int .i64 (q : Int), .slice a px.length cap] 75)) (hR : hp w R = some (.cells #[.int .i64 qn] 3)) (hv : SliceAt w a cap 4 C4.cells px) (hcap : cap ≤ Go.maxLen) (hp : 1 ≤ p ∧ p ≤ 8) (hq : 1 ≤ q ∧ q ≤ 8) (hlen : px.length = p * q) : Calls Try.prog 84 #[.pointer (some ⟨S, 0, none⟩), .pointer (some ⟨R, 0, none⟩)] w fun e w' => ∃ a' cap', e = .returned (.agg #[.int .i64 ((turnS (q4 qn) p q px).1 : Int), .int .i64 ((turnS (q4 qn) p q px).2.1 : Int), .slice a' ((turnS (q4 qn) p q px).2.2).length cap']) ∧ Below w.heap.size w w' ∧ w'.ownsRow w.heap.size 37 4 (.slice a' ((turnS (q4 qn) p q px).2.2).length cap') ((turnS (q4 qn) p q px).2.2).length (((turnS (q4 qn) p q px).2.2).flatMap C4.cells) := by
  have hp8 := hp
  have hvl := hv.1
  have h64 := size8 hp hq
  have hqn := tmod_bd qn (n := 4) (by decide)
  have hq4 := q4_lt qn
  unfold Go.maxLen at hcap
  refine calls_of_T (l := [.pointer (some ⟨S, 0, none⟩), .pointer (some ⟨R, 0, none⟩)]) 54 Try.func84 rfl rfl rfl ?_
  show T _ _ _ [(0, .pointer (some ⟨S, 0, none⟩)), (1, .pointer (some ⟨R, 0, none⟩))] []
  refine T_seq (T_region ?_)
  refine TL_new 1 (.cells #[.int .i64 0, .int .i64 0, .slice none 0 0] 75) (fun B => .pointer (some ⟨B, 0, none⟩)) (fun _ _ _ _ => r_alloc (v := .agg #[.int .i64 0, .int .i64 0, .slice none 0 0]) (by kernel_rfl) rfl) rfl rfl rfl (w_n rfl) ?_
  intro B1
  refine TL_seq ?_
  refine T_jumps (ι := Nat × Nat × Option Addr × Nat) 0 (fun (z : Nat × Nat × Option Addr × Nat) => match z with | (i, P, ar, cr) => i ≤ q4 qn) (fun (z : Nat × Nat × Option Addr × Nat) => match z with | (i, P, ar, cr) => [(2, .pointer (some ⟨B1, 0, none⟩)), (3, .pointer (some ⟨P, 0, none⟩)), (4, .int .i64 ((q4 qn - i : Nat) : Int))]) (fun (z : Nat × Nat × Option Addr × Nat) => match z with | (i, P, ar, cr) => [(1, .blk B1 (.cells #[.int .i64 0, .int .i64 0, .slice none 0 0] 75)), (940, .row (.slice ar ((turnS i p q px).2.2.length) cr) 37 4 ((turnS i p q px).2.2.length) ((turnS i p q px).2.2.flatMap C4.cells)), (941, .blk P (.cells #[.int .i64 (((turnS i p q px).1 : Nat) : Int), .int .i64 (((turnS i p q px).2.1 : Nat) : Int), .slice ar ((turnS i p q px).2.2.length) cr] 138))]) (fun (z : Nat × Nat × Option Addr × Nat) => match z with | (i, P, ar, cr) => q4 qn - i) rfl rfl ?_ ?_
  · skip
    refine T_seq (T_region ?_)
    refine TL_q (.agg #[.int .i64 ((p : Nat) : Int), .int .i64 ((q : Nat) : Int), .slice a px.length cap]) (fun _ _ hρ hm => r_loadA ag75 sz75 (hρ _ _ rfl) (hm.old hS) rfl rfl) rfl rfl rfl (w_n rfl) ?_
    refine TL_callN (fun (_ : Nat) => True) (fun P2 => .pointer (some ⟨P2, 0, none⟩)) (fun P2 => [(2, .blk P2 (.cells #[.int .i64 ((p : Nat) : Int), .int .i64 ((q : Nat) : Int), .slice a px.length cap] 138))]) (fun _ _ hρ _ => r_call (args := [.agg #[.int .i64 ((p : Nat) : Int), .int .i64 ((q : Nat) : Int), .slice a px.length cap]]) (enters_of Try.func85 (by kernel_rfl) rfl) (hρ _ _ rfl) ((cons2 (hρ _ _ rfl) rfl)) rfl) (fun w _ => (pof_ok ((p : Nat) : Int) ((q : Nat) : Int) a px.length cap w (rightS_of hp hq hlen)).mono fun e w' ⟨q, he, hb, hr⟩ => ⟨q, trivial, he, hb, newOk1 2 hr⟩) rfl rfl rfl (w_n rfl) ?_
    intro P2 _
    refine TL_q (.pointer (some ⟨P2, 0, none⟩)) (fun _ _ hρ _ => r_assign (hρ _ _ rfl)) rfl rfl rfl (w_n rfl) ?_
    refine TL_seq ?_
    refine T_seq (T_region ?_)
    refine TL_q (.int .i64 qn) (fun _ _ hρ hm => r_load ag3 (hρ _ _ rfl) (hm.old hR) rfl) rfl rfl rfl (w_n rfl) ?_
    refine TL_q (.int .i64 (qn.tmod 4)) (fun _ _ hρ _ => r_rem (hρ _ _ rfl) (hρ _ _ rfl) (by omega)) rfl rfl rfl (w_n rfl) ?_
    refine TL_q (.int .i64 ((qn.tmod 4) + 4)) (fun _ _ hρ _ => r_as (r_add (hρ _ _ rfl) (hρ _ _ rfl)) (int_as (wrap64 (by omega) (by omega)))) rfl rfl rfl (w_n rfl) ?_
    refine TL_q (.int .i64 ((q4 qn : Nat) : Int)) (fun _ _ hρ _ => r_as (r_rem (hρ _ _ rfl) (hρ _ _ rfl) (by omega)) (int_as (q4_eq qn))) rfl rfl rfl (w_n rfl) ?_
    refine TL_q (.int .i64 ((q4 qn : Nat) : Int)) (fun _ _ hρ _ => r_assign (hρ _ _ rfl)) rfl rfl rfl (w_n rfl) ?_
    refine TL_seq ?_
    refine T_seq (T_draw (V := [(0, .pointer (some ⟨P2, 0, none⟩)), (1, .pointer (some ⟨P2, 0, none⟩)), (2, .pointer (some ⟨P2, 0, none⟩)), (3, .pointer (some ⟨P2, 0, none⟩)), (4, .pointer (some ⟨P2, 0, none⟩)), (5, .int .i64 ((p : Nat) : Int)), (6, .pointer (some ⟨P2, 0, none⟩)), (7, .pointer (some ⟨P2, 0, none⟩)), (8, .pointer (some ⟨P2, 0, none⟩)), (9, .pointer (some ⟨P2, 1, none⟩)), (10, .int .i64 ((q : Nat) : Int))]) [0, 0, 2, 6, 14, 30, 0, 64, 192, 448, 960, 2047, 4095, 8191, 16383] [[(3, none)], [(3, none)], [(13, some 1)], [(14, some 2)], [(15, some 3)], [(16, some 4)], [(3, none)], [(18, some 6)], [(19, some 7)], [(20, some 8)], [(21, some 9)], [(12, some 0), (17, some 5), (22, some 10)], [(23, some 11)], [(24, some 12)], [(25, some 13)]] 10240 mixed (by kernel_rfl) ?_)
    refine G_step [0, 1, 2, 3, 4, 5, 6, 7, 8, 9, 10] 11 [] (by kernel_rfl) (allM (all_cons (q_run (.pointer (some ⟨P2, 0, none⟩)) rfl rfl (wv_n rfl) rfl (fun _ _ hρ _ => r_move (hρ _ _ rfl))) (all_cons (q_run (.pointer (some ⟨P2, 0, none⟩)) rfl rfl (wv_n rfl) rfl (fun _ _ hρ _ => r_move (hρ _ _ rfl))) (all_cons (q_run (.pointer (some ⟨P2, 0, none⟩)) rfl rfl (wv_n rfl) rfl (fun _ _ hρ _ => r_nilCheck (hρ _ _ rfl) rfl)) (all_cons (q_run (.pointer (some ⟨P2, 0, none⟩)) rfl rfl (wv_n rfl) rfl (fun _ _ hρ _ => r_fieldAddr fl138_0 sz75 (hρ _ _ rfl))) (all_cons (q_run (.pointer (some ⟨P2, 0, none⟩)) rfl rfl (wv_n rfl) rfl (fun _ _ hρ _ => r_fieldAddr fl75_0 sz3 (hρ _ _ rfl))) (all_cons (q_run (.int .i64 ((p : Nat) : Int)) rfl rfl (wv_n rfl) rfl (fun _ _ hρ hm => r_load ag3 (hρ _ _ rfl) (hm.at 2 rfl) rfl)) (all_cons (q_run (.pointer (some ⟨P2, 0, none⟩)) rfl rfl (wv_n rfl) rfl (fun _ _ hρ _ => r_move (hρ _ _ rfl))) (all_cons (q_run (.pointer (some ⟨P2, 0, none⟩)) rfl rfl (wv_n rfl) rfl (fun _ _ hρ _ => r_nilCheck (hρ _ _ rfl) rfl)) (all_cons (q_run (.pointer (some ⟨P2, 0, none⟩)) rfl rfl (wv_n rfl) rfl (fun _ _ hρ _ => r_fieldAddr fl138_0 sz75 (hρ _ _ rfl))) (all_cons (q_run (.pointer (some ⟨P2, 1, none⟩)) rfl rfl (wv_n rfl) rfl (fun _ _ hρ _ => r_fieldAddr fl75_1 sz3 (hρ _ _ rfl))) (all_cons (q_run (.int .i64 ((q : Nat) : Int)) rfl rfl (wv_n rfl) rfl (fun _ _ hρ hm => r_load ag3 (hρ _ _ rfl) (hm.at 2 rfl) rfl)) all_nil)))))))))))) (allM (all_cons ?_ all_nil))
    refine LOb_callN (fun (_ : Option Addr × Nat) => True) (fun (ar4, cr4) => .agg #[.int .i64 ((p : Nat) : Int), .int .i64 ((q : Nat) : Int), .slice ar4 ((px).length) cr4]) (fun (ar4, cr4) => [(940, .row (.slice ar4 ((px).length) cr4) 37 4 ((px).length) ((px).flatMap C4.cells))]) (fun (ar4, cr4) => [(12, .agg #[.int .i64 ((p : Nat) : Int), .int .i64 ((q : Nat) : Int), .slice ar4 ((px).length) cr4])]) rfl (wv_n rfl) rfl rfl (fun _ _ hρ _ => r_call (args := [.pointer (some ⟨P2, 0, none⟩), .int .i64 ((p : Nat) : Int), .int .i64 ((q : Nat) : Int), .func (.func 87) #[] #[]]) (enters_of Try.func86 (by kernel_rfl) rfl) (hρ _ _ rfl) ((cons2 (hρ _ _ rfl) (cons2 (hρ _ _ rfl) (cons2 (hρ _ _ rfl) (cons2 (hρ _ _ rfl) rfl))))) rfl) (fun w hm => (moved_id P2 p q px a cap w (hm.at 2 rfl) (hv.keep hm.ext) hcap hp hq hlen).mono fun e w' ⟨a', cap', he, hb, hr⟩ => ⟨(a', cap'), trivial, he, hb, newOk1 940 hr⟩) (fun (ar4, cr4) => by kernel_rfl) ?_
    rintro ⟨ar4, cr4⟩ -
    refine G_step [12] 13 [] (by kernel_rfl) (allM (all_cons (q_run (.agg #[.int .i64 ((p : Nat) : Int), .int .i64 ((q : Nat) : Int), .slice ar4 ((px).length) cr4]) rfl rfl (wv_n rfl) rfl (fun _ _ hρ _ => r_build (vs := [(0, .agg #[.int .i64 ((p : Nat) : Int), .int .i64 ((q : Nat) : Int), .slice ar4 ((px).length) cr4])]) (by kernel_rfl) (cons2 (pair2 (hρ _ _ rfl)) rfl))) all_nil)) (allM (all_cons ?_ all_nil))
    refine LOb_new 941 (.cells #[.int .i64 ((p : Nat) : Int), .int .i64 ((q : Nat) : Int), .slice ar4 ((px).length) cr4] 138) (fun B => .pointer (some ⟨B, 0, none⟩)) (fun B => [(14, .pointer (some ⟨B, 0, none⟩))]) rfl (wv_n rfl) rfl rfl (fun _ _ hρ _ => r_box (hρ _ _ rfl) rfl) (fun B => by kernel_rfl) ?_
    intro B5
    refine G_last [14] [(2, .pointer (some ⟨B1, 0, none⟩)), (4, .int .i64 ((q4 qn : Nat) : Int)), (3, .pointer (some ⟨B5, 0, none⟩))] (by kernel_rfl) (allM (all_cons (q_run (.pointer (some ⟨B5, 0, none⟩)) rfl rfl (wv_n rfl) rfl (fun _ _ hρ _ => r_assign (hρ _ _ rfl))) all_nil)) (end_old rfl rfl (end_old rfl rfl (end_new 14 rfl rfl end_nil))) ?_
    refine T_label ?_
    refine T_seq ?_
    refine T_seq (T_region ?_)
    refine TL_q (.int .i64 ((q4 qn : Nat) : Int)) (fun _ _ hρ _ => r_move (hρ _ _ rfl)) rfl rfl rfl (w_n rfl) ?_
    refine TL_q (.bool (decide ((0 : Int) < ((q4 qn : Nat) : Int)))) (fun _ _ hρ _ => r_gtr (hρ _ _ rfl) (hρ _ _ rfl)) rfl rfl rfl (w_n rfl) ?_
    refine TL_seq ?_
    refine T_cond rfl (fun h1 => ?_) (fun h1 => ?_)
    · replace h1 := of_decide_eq_true h1
      refine T_seq (T_region ?_)
      refine TL_q (.pointer (some ⟨B5, 0, none⟩)) (fun _ _ hρ _ => r_move (hρ _ _ rfl)) rfl rfl rfl (w_n rfl) ?_
      refine TL_q (.pointer (some ⟨B5, 0, none⟩)) (fun _ _ hρ _ => r_nilCheck (hρ _ _ rfl) rfl) rfl rfl rfl (w_n rfl) ?_
      refine TL_q (.pointer (some ⟨B5, 0, none⟩)) (fun _ _ hρ _ => r_fieldAddr fl138_0 sz75 (hρ _ _ rfl)) rfl rfl rfl (w_n rfl) ?_
      refine TL_q (.pointer (some ⟨B5, 1, none⟩)) (fun _ _ hρ _ => r_fieldAddr fl75_1 sz3 (hρ _ _ rfl)) rfl rfl rfl (w_n rfl) ?_
      refine TL_q (.int .i64 ((q : Nat) : Int)) (fun _ _ hρ hm => r_load ag3 (hρ _ _ rfl) (hm.at 941 rfl) rfl) rfl rfl rfl (w_n rfl) ?_
      refine TL_new 3 (.cells #[.int .i64 0] 3) (fun B => .pointer (some ⟨B, 0, none⟩)) (fun _ _ _ _ => r_alloc (v := .int .i64 0) (by kernel_rfl) rfl) rfl rfl rfl (w_n rfl) ?_
      intro B6
      refine TL_store 3 (.cells #[.int .i64 ((q : Nat) : Int)] 3) rfl (fun _ _ hρ hm => r_store sz3 (hρ _ _ rfl) (hρ _ _ rfl) (hm.at 3 rfl) rfl rfl rfl rfl) rfl rfl (w_n rfl) ?_
      refine TL_seq ?_
      refine T_seq (T_draw (V := [(0, .pointer (some ⟨B5, 0, none⟩)), (1, .pointer (some ⟨B5, 0, none⟩)), (2, .pointer (some ⟨B5, 0, none⟩)), (3, .pointer (some ⟨B5, 0, none⟩)), (4, .pointer (some ⟨B5, 1, none⟩)), (5, .int .i64 ((q : Nat) : Int)), (6, .pointer (some ⟨B5, 0, none⟩)), (7, .pointer (some ⟨B5, 0, none⟩)), (8, .pointer (some ⟨B5, 0, none⟩)), (9, .pointer (some ⟨B5, 0, none⟩)), (10, .int .i64 ((p : Nat) : Int)), (11, .func (.func 88) #[] #[.pointer (some ⟨B6, 0, none⟩)])]) [0, 0, 2, 6, 14, 30, 0, 64, 192, 448, 960, 0, 4095, 8191, 16383, 32767] [[(3, none)], [(3, none)], [(34, some 1)], [(35, some 2)], [(36, some 3)], [(37, some 4)], [(3, none)], [(39, some 6)], [(40, some 7)], [(41, some 8)], [(42, some 9)], [(5, none)], [(33, some 0), (38, some 5), (43, some 10), (44, some 11)], [(45, some 12)], [(46, some 13)], [(47, some 14)]] 20480 mixed (by kernel_rfl) ?_)
      refine G_step [0, 1, 2, 3, 4, 5, 6, 7, 8, 9, 10, 11] 12 [] (by kernel_rfl) (allM (all_cons (q_run (.pointer (some ⟨B5, 0, none⟩)) rfl rfl (wv_n rfl) rfl (fun _ _ hρ _ => r_move (hρ _ _ rfl))) (all_cons (q_run (.pointer (some ⟨B5, 0, none⟩)) rfl rfl (wv_n rfl) rfl (fun _ _ hρ _ => r_move (hρ _ _ rfl))) (all_cons (q_run (.pointer (some ⟨B5, 0, none⟩)) rfl rfl (wv_n rfl) rfl (fun _ _ hρ _ => r_nilCheck (hρ _ _ rfl) rfl)) (all_cons (q_run (.pointer (some ⟨B5, 0, none⟩)) rfl rfl (wv_n rfl) rfl (fun _ _ hρ _ => r_fieldAddr fl138_0 sz75 (hρ _ _ rfl))) (all_cons (q_run (.pointer (some ⟨B5, 1, none⟩)) rfl rfl (wv_n rfl) rfl (fun _ _ hρ _ => r_fieldAddr fl75_1 sz3 (hρ _ _ rfl))) (all_cons (q_run (.int .i64 ((q : Nat) : Int)) rfl rfl (wv_n rfl) rfl (fun _ _ hρ hm => r_load ag3 (hρ _ _ rfl) (hm.at 941 rfl) rfl)) (all_cons (q_run (.pointer (some ⟨B5, 0, none⟩)) rfl rfl (wv_n rfl) rfl (fun _ _ hρ _ => r_move (hρ _ _ rfl))) (all_cons (q_run (.pointer (some ⟨B5, 0, none⟩)) rfl rfl (wv_n rfl) rfl (fun _ _ hρ _ => r_nilCheck (hρ _ _ rfl) rfl)) (all_cons (q_run (.pointer (some ⟨B5, 0, none⟩)) rfl rfl (wv_n rfl) rfl (fun _ _ hρ _ => r_fieldAddr fl138_0 sz75 (hρ _ _ rfl))) (all_cons (q_run (.pointer (some ⟨B5, 0, none⟩)) rfl rfl (wv_n rfl) rfl (fun _ _ hρ _ => r_fieldAddr fl75_0 sz3 (hρ _ _ rfl))) (all_cons (q_run (.int .i64 ((p : Nat) : Int)) rfl rfl (wv_n rfl) rfl (fun _ _ hρ hm => r_load ag3 (hρ _ _ rfl) (hm.at 941 rfl) rfl)) (all_cons (q_run (.func (.func 88) #[] #[.pointer (some ⟨B6, 0, none⟩)]) rfl rfl (wv_n rfl) rfl (fun _ _ hρ _ => r_makeFunc (by simp) (map_arr (cons2 (hρ _ _ rfl) rfl)))) all_nil))))))))))))) (allM (all_cons ?_ all_nil))
      refine LOb_callN (fun (_ : Option Addr × Nat) => True) (fun (ar8, cr8) => .agg #[.int .i64 ((q : Nat) : Int), .int .i64 ((p : Nat) : Int), .slice ar8 ((quarL p q px).length) cr8]) (fun (ar8, cr8) => [(940, .row (.slice ar8 ((quarL p q px).length) cr8) 37 4 ((quarL p q px).length) ((quarL p q px).flatMap C4.cells))]) (fun (ar8, cr8) => [(13, .agg #[.int .i64 ((q : Nat) : Int), .int .i64 ((p : Nat) : Int), .slice ar8 ((quarL p q px).length) cr8])]) rfl (wv_n rfl) rfl rfl (fun _ _ hρ _ => r_call (args := [.pointer (some ⟨B5, 0, none⟩), .int .i64 ((q : Nat) : Int), .int .i64 ((p : Nat) : Int), .func (.func 88) #[] #[.pointer (some ⟨B6, 0, none⟩)]]) (enters_of Try.func86 (by kernel_rfl) rfl) (hρ _ _ rfl) ((cons2 (hρ _ _ rfl) (cons2 (hρ _ _ rfl) (cons2 (hρ _ _ rfl) (cons2 (hρ _ _ rfl) rfl))))) rfl) (fun w hm => (moved_q B5 p q px ar4 cr4 w (hm.at 941 rfl) B6 (hm.at 3 rfl) (SliceAt.own C4.cells_len (hm.row 940 rfl) rfl rfl) (row_cap (hm.row 940 rfl)) hp8 hq hlen).mono fun e w' ⟨a', cap', he, hb, hr⟩ => ⟨(a', cap'), trivial, he, hb, newOk1 940 hr⟩) (fun (ar8, cr8) => by kernel_rfl) ?_
      rintro ⟨ar8, cr8⟩ -
      refine G_step [13] 14 [] (by kernel_rfl) (allM (all_cons (q_run (.agg #[.int .i64 ((q : Nat) : Int), .int .i64 ((p : Nat) : Int), .slice ar8 ((quarL p q px).length) cr8]) rfl rfl (wv_n rfl) rfl (fun _ _ hρ _ => r_build (vs := [(0, .agg #[.int .i64 ((q : Nat) : Int), .int .i64 ((p : Nat) : Int), .slice ar8 ((quarL p q px).length) cr8])]) (by kernel_rfl) (cons2 (pair2 (hρ _ _ rfl)) rfl))) all_nil)) (allM (all_cons ?_ all_nil))
      refine LOb_new 941 (.cells #[.int .i64 ((q : Nat) : Int), .int .i64 ((p : Nat) : Int), .slice ar8 ((quarL p q px).length) cr8] 138) (fun B => .pointer (some ⟨B, 0, none⟩)) (fun B => [(15, .pointer (some ⟨B, 0, none⟩))]) rfl (wv_n rfl) rfl rfl (fun _ _ hρ _ => r_box (hρ _ _ rfl) rfl) (fun B => by kernel_rfl) ?_
      intro B9
      refine G_last [15] [(2, .pointer (some ⟨B1, 0, none⟩)), (4, .int .i64 ((q4 qn : Nat) : Int)), (26, .int .i64 ((q4 qn : Nat) : Int)), (27, .bool (decide ((0 : Int) < ((q4 qn : Nat) : Int)))), (28, .pointer (some ⟨B5, 0, none⟩)), (29, .pointer (some ⟨B5, 0, none⟩)), (30, .pointer (some ⟨B5, 0, none⟩)), (31, .pointer (some ⟨B5, 1, none⟩)), (32, .int .i64 ((q : Nat) : Int)), (5, .pointer (some ⟨B6, 0, none⟩)), (33, .pointer (some ⟨B5, 0, none⟩)), (34, .pointer (some ⟨B5, 0, none⟩)), (35, .pointer (some ⟨B5, 0, none⟩)), (36, .pointer (some ⟨B5, 0, none⟩)), (37, .pointer (some ⟨B5, 1, none⟩)), (38, .int .i64 ((q : Nat) : Int)), (39, .pointer (some ⟨B5, 0, none⟩)), (40, .pointer (some ⟨B5, 0, none⟩)), (41, .pointer (some ⟨B5, 0, none⟩)), (42, .pointer (some ⟨B5, 0, none⟩)), (43, .int .i64 ((p : Nat) : Int)), (44, .func (.func 88) #[] #[.pointer (some ⟨B6, 0, none⟩)]), (45, .agg #[.int .i64 ((q : Nat) : Int), .int .i64 ((p : Nat) : Int), .slice ar8 ((quarL p q px).length) cr8]), (46, .agg #[.int .i64 ((q : Nat) : Int), .int .i64 ((p : Nat) : Int), .slice ar8 ((quarL p q px).length) cr8]), (47, .pointer (some ⟨B9, 0, none⟩)), (3, .pointer (some ⟨B9, 0, none⟩))] (by kernel_rfl) (allM (all_cons (q_run (.pointer (some ⟨B9, 0, none⟩)) rfl rfl (wv_n rfl) rfl (fun _ _ hρ _ => r_assign (hρ _ _ rfl))) all_nil)) (end_old rfl rfl (end_old rfl rfl (end_old rfl rfl (end_old rfl rfl (end_old rfl rfl (end_old rfl rfl (end_old rfl rfl (end_old rfl rfl (end_old rfl rfl (end_old rfl rfl (end_new 0 rfl rfl (end_new 1 rfl rfl (end_new 2 rfl rfl (end_new 3 rfl rfl (end_new 4 rfl rfl (end_new 5 rfl rfl (end_new 6 rfl rfl (end_new 7 rfl rfl (end_new 8 rfl rfl (end_new 9 rfl rfl (end_new 10 rfl rfl (end_new 11 rfl rfl (end_new 12 rfl rfl (end_new 13 rfl rfl (end_new 14 rfl rfl (end_new 15 rfl rfl end_nil)))))))))))))))))))))))))) ?_
      refine T_seq (T_region ?_)
      refine TL_q (.int .i64 ((q4 qn : Nat) : Int)) (fun _ _ hρ _ => r_move (hρ _ _ rfl)) rfl rfl rfl (w_n rfl) ?_
      refine TL_q (.int .i64 ((q4 qn - 1 : Nat) : Int)) (fun _ _ hρ _ => r_as (r_sub (hρ _ _ rfl) (hρ _ _ rfl)) (int_as ((wrap64 (by omega) (by omega)).trans (by omega)))) rfl rfl rfl (w_n rfl) ?_
      refine TL_q (.int .i64 ((q4 qn - 1 : Nat) : Int)) (fun _ _ hρ _ => r_assign (hρ _ _ rfl)) rfl rfl rfl (w_n rfl) ?_
      refine TL_seq ?_
      refine T_goto ?_
      refine p_then_g ?_
      exact p_jmp (1, B9, ar8, cr8) (by show 1 ≤ q4 qn; omega) (sub_cons rfl (sub_cons rfl (sub_cons rfl sub_nil))) (sub_cons rfl (sub_cons rfl (sub_cons rfl sub_nil)))
    · replace h1 := of_decide_eq_false h1
      refine T_skip' ?_
      refine p_seq ?_
      refine T_seq (T_region ?_)
      refine TL_q (.pointer (some ⟨B5, 0, none⟩)) (fun _ _ hρ _ => r_move (hρ _ _ rfl)) rfl rfl rfl (w_n rfl) ?_
      refine TL_q (.pointer (some ⟨B5, 0, none⟩)) (fun _ _ hρ _ => r_nilCheck (hρ _ _ rfl) rfl) rfl rfl rfl (w_n rfl) ?_
      refine TL_q (.pointer (some ⟨B5, 0, none⟩)) (fun _ _ hρ _ => r_fieldAddr fl138_0 sz75 (hρ _ _ rfl)) rfl rfl rfl (w_n rfl) ?_
      refine TL_q (.agg #[.int .i64 ((p : Nat) : Int), .int .i64 ((q : Nat) : Int), .slice ar4 ((px).length) cr4]) (fun _ _ hρ hm => r_loadA ag75 sz75 (hρ _ _ rfl) (hm.at 941 rfl) rfl rfl) rfl rfl rfl (w_n rfl) ?_
      refine TL_store 1 (.cells #[.int .i64 ((p : Nat) : Int), .int .i64 ((q : Nat) : Int), .slice ar4 ((px).length) cr4] 75) rfl (fun _ _ hρ hm => r_store sz75 (hρ _ _ rfl) (hρ _ _ rfl) (hm.at 1 rfl) rfl rfl rfl rfl) rfl rfl (w_n rfl) ?_
      refine TL_seq ?_
      refine T_ret' ?_
      refine p_j_r ?_
      refine ret_of rfl (.agg #[.int .i64 ((p : Nat) : Int), .int .i64 ((q : Nat) : Int), .slice ar4 ((px).length) cr4]) (fun tmps w hk hm => res1 rfl (res_cell (hk 2 _ rfl) (run_loadVar_agg ag75 sz75 (hm.at 1 rfl) (Nat.le_of_ble_eq_true rfl) rfl))) (fun w hm => ?_)
      have h0 : q4 qn = 0 := by omega
      rw [h0]
      exact ⟨ar4, cr4, rfl, hm.ext, hm.row 940 rfl⟩
  · rintro ⟨i, P, ar, cr⟩ hp
    have hts := turnS_ok hp8 hq hlen i
    show T _ _ _ [(2, .pointer (some ⟨B1, 0, none⟩)), (3, .pointer (some ⟨P, 0, none⟩)), (4, .int .i64 ((q4 qn - i : Nat) : Int))] [(1, .blk B1 (.cells #[.int .i64 0, .int .i64 0, .slice none 0 0] 75)), (940, .row (.slice ar ((turnS i p q px).2.2.length) cr) 37 4 ((turnS i p q px).2.2.length) ((turnS i p q px).2.2.flatMap C4.cells)), (941, .blk P (.cells #[.int .i64 (((turnS i p q px).1 : Nat) : Int), .int .i64 (((turnS i p q px).2.1 : Nat) : Int), .slice ar ((turnS i p q px).2.2.length) cr] 138))]
    refine T_seq ?_
    refine T_skip' ?_
    refine p_seq ?_
    refine T_seq ?_
    refine T_seq (T_region ?_)
    refine TL_q (.int .i64 ((q4 qn - i : Nat) : Int)) (fun _ _ hρ _ => r_move (hρ _ _ rfl)) rfl rfl rfl (w_n rfl) ?_
    refine TL_q (.bool (decide ((0 : Int) < ((q4 qn - i : Nat) : Int)))) (fun _ _ hρ _ => r_gtr (hρ _ _ rfl) (hρ _ _ rfl)) rfl rfl rfl (w_n rfl) ?_
    refine TL_seq ?_
    refine T_cond rfl (fun h2 => ?_) (fun h2 => ?_)
    · replace h2 := of_decide_eq_true h2
      refine T_seq (T_region ?_)
      refine TL_q (.pointer (some ⟨P, 0, none⟩)) (fun _ _ hρ _ => r_move (hρ _ _ rfl)) rfl rfl rfl (w_n rfl) ?_
      refine TL_q (.pointer (some ⟨P, 0, none⟩)) (fun _ _ hρ _ => r_nilCheck (hρ _ _ rfl) rfl) rfl rfl rfl (w_n rfl) ?_
      refine TL_q (.pointer (some ⟨P, 0, none⟩)) (fun _ _ hρ _ => r_fieldAddr fl138_0 sz75 (hρ _ _ rfl)) rfl rfl rfl (w_n rfl) ?_
      refine TL_q (.pointer (some ⟨P, 1, none⟩)) (fun _ _ hρ _ => r_fieldAddr fl75_1 sz3 (hρ _ _ rfl)) rfl rfl rfl (w_n rfl) ?_
      refine TL_q (.int .i64 (((turnS i p q px).2.1 : Nat) : Int)) (fun _ _ hρ hm => r_load ag3 (hρ _ _ rfl) (hm.at 941 rfl) rfl) rfl rfl rfl (w_n rfl) ?_
      refine TL_new 4 (.cells #[.int .i64 0] 3) (fun B => .pointer (some ⟨B, 0, none⟩)) (fun _ _ _ _ => r_alloc (v := .int .i64 0) (by kernel_rfl) rfl) rfl rfl rfl (w_n rfl) ?_
      intro B10
      refine TL_store 4 (.cells #[.int .i64 (((turnS i p q px).2.1 : Nat) : Int)] 3) rfl (fun _ _ hρ hm => r_store sz3 (hρ _ _ rfl) (hρ _ _ rfl) (hm.at 4 rfl) rfl rfl rfl rfl) rfl rfl (w_n rfl) ?_
      refine TL_seq ?_
      refine T_seq (T_draw (V := [(0, .pointer (some ⟨P, 0, none⟩)), (1, .pointer (some ⟨P, 0, none⟩)), (2, .pointer (some ⟨P, 0, none⟩)), (3, .pointer (some ⟨P, 0, none⟩)), (4, .pointer (some ⟨P, 1, none⟩)), (5, .int .i64 (((turnS i p q px).2.1 : Nat) : Int)), (6, .pointer (some ⟨P, 0, none⟩)), (7, .pointer (some ⟨P, 0, none⟩)), (8, .pointer (some ⟨P, 0, none⟩)), (9, .pointer (some ⟨P, 0, none⟩)), (10, .int .i64 (((turnS i p q px).1 : Nat) : Int)), (11, .func (.func 88) #[] #[.pointer (some ⟨B10, 0, none⟩)])]) [0, 0, 2, 6, 14, 30, 0, 64, 192, 448, 960, 0, 4095, 8191, 16383, 32767] [[(3, none)], [(3, none)], [(34, some 1)], [(35, some 2)], [(36, some 3)], [(37, some 4)], [(3, none)], [(39, some 6)], [(40, some 7)], [(41, some 8)], [(42, some 9)], [(5, none)], [(33, some 0), (38, some 5), (43, some 10), (44, some 11)], [(45, some 12)], [(46, some 13)], [(47, some 14)]] 20480 mixed (by kernel_rfl) ?_)
      refine G_step [0, 1, 2, 3, 4, 5, 6, 7, 8, 9, 10, 11] 12 [] (by kernel_rfl) (allM (all_cons (q_run (.pointer (some ⟨P, 0, none⟩)) rfl rfl (wv_n rfl) rfl (fun _ _ hρ _ => r_move (hρ _ _ rfl))) (all_cons (q_run (.pointer (some ⟨P, 0, none⟩)) rfl rfl (wv_n rfl) rfl (fun _ _ hρ _ => r_move (hρ _ _ rfl))) (all_cons (q_run (.pointer (some ⟨P, 0, none⟩)) rfl rfl (wv_n rfl) rfl (fun _ _ hρ _ => r_nilCheck (hρ _ _ rfl) rfl)) (all_cons (q_run (.pointer (some ⟨P, 0, none⟩)) rfl rfl (wv_n rfl) rfl (fun _ _ hρ _ => r_fieldAddr fl138_0 sz75 (hρ _ _ rfl))) (all_cons (q_run (.pointer (some ⟨P, 1, none⟩)) rfl rfl (wv_n rfl) rfl (fun _ _ hρ _ => r_fieldAddr fl75_1 sz3 (hρ _ _ rfl))) (all_cons (q_run (.int .i64 (((turnS i p q px).2.1 : Nat) : Int)) rfl rfl (wv_n rfl) rfl (fun _ _ hρ hm => r_load ag3 (hρ _ _ rfl) (hm.at 941 rfl) rfl)) (all_cons (q_run (.pointer (some ⟨P, 0, none⟩)) rfl rfl (wv_n rfl) rfl (fun _ _ hρ _ => r_move (hρ _ _ rfl))) (all_cons (q_run (.pointer (some ⟨P, 0, none⟩)) rfl rfl (wv_n rfl) rfl (fun _ _ hρ _ => r_nilCheck (hρ _ _ rfl) rfl)) (all_cons (q_run (.pointer (some ⟨P, 0, none⟩)) rfl rfl (wv_n rfl) rfl (fun _ _ hρ _ => r_fieldAddr fl138_0 sz75 (hρ _ _ rfl))) (all_cons (q_run (.pointer (some ⟨P, 0, none⟩)) rfl rfl (wv_n rfl) rfl (fun _ _ hρ _ => r_fieldAddr fl75_0 sz3 (hρ _ _ rfl))) (all_cons (q_run (.int .i64 (((turnS i p q px).1 : Nat) : Int)) rfl rfl (wv_n rfl) rfl (fun _ _ hρ hm => r_load ag3 (hρ _ _ rfl) (hm.at 941 rfl) rfl)) (all_cons (q_run (.func (.func 88) #[] #[.pointer (some ⟨B10, 0, none⟩)]) rfl rfl (wv_n rfl) rfl (fun _ _ hρ _ => r_makeFunc (by simp) (map_arr (cons2 (hρ _ _ rfl) rfl)))) all_nil))))))))))))) (allM (all_cons ?_ all_nil))
      refine LOb_callN (fun (_ : Option Addr × Nat) => True) (fun (ar12, cr12) => .agg #[.int .i64 (((turnS i p q px).2.1 : Nat) : Int), .int .i64 (((turnS i p q px).1 : Nat) : Int), .slice ar12 ((quarL ((turnS i p q px).1) ((turnS i p q px).2.1) ((turnS i p q px).2.2)).length) cr12]) (fun (ar12, cr12) => [(940, .row (.slice ar12 ((quarL ((turnS i p q px).1) ((turnS i p q px).2.1) ((turnS i p q px).2.2)).length) cr12) 37 4 ((quarL ((turnS i p q px).1) ((turnS i p q px).2.1) ((turnS i p q px).2.2)).length) ((quarL ((turnS i p q px).1) ((turnS i p q px).2.1) ((turnS i p q px).2.2)).flatMap C4.cells))]) (fun (ar12, cr12) => [(13, .agg #[.int .i64 (((turnS i p q px).2.1 : Nat) : Int), .int .i64 (((turnS i p q px).1 : Nat) : Int), .slice ar12 ((quarL ((turnS i p q px).1) ((turnS i p q px).2.1) ((turnS i p q px).2.2)).length) cr12])]) rfl (wv_n rfl) rfl rfl (fun _ _ hρ _ => r_call (args := [.pointer (some ⟨P, 0, none⟩), .int .i64 (((turnS i p q px).2.1 : Nat) : Int), .int .i64 (((turnS i p q px).1 : Nat) : Int), .func (.func 88) #[] #[.pointer (some ⟨B10, 0, none⟩)]]) (enters_of Try.func86 (by kernel_rfl) rfl) (hρ _ _ rfl) ((cons2 (hρ _ _ rfl) (cons2 (hρ _ _ rfl) (cons2 (hρ _ _ rfl) (cons2 (hρ _ _ rfl) rfl))))) rfl) (fun w hm => (moved_q P ((turnS i p q px).1) ((turnS i p q px).2.1) ((turnS i p q px).2.2) ar cr w (hm.at 941 rfl) B10 (hm.at 4 rfl) (SliceAt.own C4.cells_len (hm.row 940 rfl) rfl rfl) (row_cap (hm.row 940 rfl)) (turnS_ok hp8 hq hlen i).1 (turnS_ok hp8 hq hlen i).2.1 (turnS_ok hp8 hq hlen i).2.2).mono fun e w' ⟨a', cap', he, hb, hr⟩ => ⟨(a', cap'), trivial, he, hb, newOk1 940 hr⟩) (fun (ar12, cr12) => by kernel_rfl) ?_
      rintro ⟨ar12, cr12⟩ -
      refine G_step [13] 14 [] (by kernel_rfl) (allM (all_cons (q_run (.agg #[.int .i64 (((turnS i p q px).2.1 : Nat) : Int), .int .i64 (((turnS i p q px).1 : Nat) : Int), .slice ar12 ((quarL ((turnS i p q px).1) ((turnS i p q px).2.1) ((turnS i p q px).2.2)).length) cr12]) rfl rfl (wv_n rfl) rfl (fun _ _ hρ _ => r_build (vs := [(0, .agg #[.int .i64 (((turnS i p q px).2.1 : Nat) : Int), .int .i64 (((turnS i p q px).1 : Nat) : Int), .slice ar12 ((quarL ((turnS i p q px).1) ((turnS i p q px).2.1) ((turnS i p q px).2.2)).length) cr12])]) (by kernel_rfl) (cons2 (pair2 (hρ _ _ rfl)) rfl))) all_nil)) (allM (all_cons ?_ all_nil))
      refine LOb_new 941 (.cells #[.int .i64 (((turnS i p q px).2.1 : Nat) : Int), .int .i64 (((turnS i p q px).1 : Nat) : Int), .slice ar12 ((quarL ((turnS i p q px).1) ((turnS i p q px).2.1) ((turnS i p q px).2.2)).length) cr12] 138) (fun B => .pointer (some ⟨B, 0, none⟩)) (fun B => [(15, .pointer (some ⟨B, 0, none⟩))]) rfl (wv_n rfl) rfl rfl (fun _ _ hρ _ => r_box (hρ _ _ rfl) rfl) (fun B => by kernel_rfl) ?_
      intro B13
      refine G_last [15] [(2, .pointer (some ⟨B1, 0, none⟩)), (4, .int .i64 ((q4 qn - i : Nat) : Int)), (26, .int .i64 ((q4 qn - i : Nat) : Int)), (27, .bool (decide ((0 : Int) < ((q4 qn - i : Nat) : Int)))), (28, .pointer (some ⟨P, 0, none⟩)), (29, .pointer (some ⟨P, 0, none⟩)), (30, .pointer (some ⟨P, 0, none⟩)), (31, .pointer (some ⟨P, 1, none⟩)), (32, .int .i64 (((turnS i p q px).2.1 : Nat) : Int)), (5, .pointer (some ⟨B10, 0, none⟩)), (33, .pointer (some ⟨P, 0, none⟩)), (34, .pointer (some ⟨P, 0, none⟩)), (35, .pointer (some ⟨P, 0, none⟩)), (36, .pointer (some ⟨P, 0, none⟩)), (37, .pointer (some ⟨P, 1, none⟩)), (38, .int .i64 (((turnS i p q px).2.1 : Nat) : Int)), (39, .pointer (some ⟨P, 0, none⟩)), (40, .pointer (some ⟨P, 0, none⟩)), (41, .pointer (some ⟨P, 0, none⟩)), (42, .pointer (some ⟨P, 0, none⟩)), (43, .int .i64 (((turnS i p q px).1 : Nat) : Int)), (44, .func (.func 88) #[] #[.pointer (some ⟨B10, 0, none⟩)]), (45, .agg #[.int .i64 (((turnS i p q px).2.1 : Nat) : Int), .int .i64 (((turnS i p q px).1 : Nat) : Int), .slice ar12 ((quarL ((turnS i p q px).1) ((turnS i p q px).2.1) ((turnS i p q px).2.2)).length) cr12]), (46, .agg #[.int .i64 (((turnS i p q px).2.1 : Nat) : Int), .int .i64 (((turnS i p q px).1 : Nat) : Int), .slice ar12 ((quarL ((turnS i p q px).1) ((turnS i p q px).2.1) ((turnS i p q px).2.2)).length) cr12]), (47, .pointer (some ⟨B13, 0, none⟩)), (3, .pointer (some ⟨B13, 0, none⟩))] (by kernel_rfl) (allM (all_cons (q_run (.pointer (some ⟨B13, 0, none⟩)) rfl rfl (wv_n rfl) rfl (fun _ _ hρ _ => r_assign (hρ _ _ rfl))) all_nil)) (end_old rfl rfl (end_old rfl rfl (end_old rfl rfl (end_old rfl rfl (end_old rfl rfl (end_old rfl rfl (end_old rfl rfl (end_old rfl rfl (end_old rfl rfl (end_old rfl rfl (end_new 0 rfl rfl (end_new 1 rfl rfl (end_new 2 rfl rfl (end_new 3 rfl rfl (end_new 4 rfl rfl (end_new 5 rfl rfl (end_new 6 rfl rfl (end_new 7 rfl rfl (end_new 8 rfl rfl (end_new 9 rfl rfl (end_new 10 rfl rfl (end_new 11 rfl rfl (end_new 12 rfl rfl (end_new 13 rfl rfl (end_new 14 rfl rfl (end_new 15 rfl rfl end_nil)))))))))))))))))))))))))) ?_
      refine T_seq (T_region ?_)
      refine TL_q (.int .i64 ((q4 qn - i : Nat) : Int)) (fun _ _ hρ _ => r_move (hρ _ _ rfl)) rfl rfl rfl (w_n rfl) ?_
      refine TL_q (.int .i64 (((q4 qn - i) - 1 : Nat) : Int)) (fun _ _ hρ _ => r_as (r_sub (hρ _ _ rfl) (hρ _ _ rfl)) (int_as ((wrap64 (by omega) (by omega)).trans (by omega)))) rfl rfl rfl (w_n rfl) ?_
      refine TL_q (.int .i64 (((q4 qn - i) - 1 : Nat) : Int)) (fun _ _ hρ _ => r_assign (hρ _ _ rfl)) rfl rfl rfl (w_n rfl) ?_
      refine TL_seq ?_
      refine T_goto ?_
      refine p_then_g ?_
      exact p_jmp (i + 1, B13, ar12, cr12) ⟨by omega, by dsimp only; omega⟩ (sub_cons rfl (sub_cons rfl (sub_cons (congrArg (fun n : Nat => some (Value.int .i64 (n : Int))) (by omega)) sub_nil))) (sub_cons rfl (sub_cons rfl (sub_cons rfl sub_nil)))
    · replace h2 := of_decide_eq_false h2
      refine T_skip' ?_
      refine p_seq ?_
      refine T_seq (T_region ?_)
      refine TL_q (.pointer (some ⟨P, 0, none⟩)) (fun _ _ hρ _ => r_move (hρ _ _ rfl)) rfl rfl rfl (w_n rfl) ?_
      refine TL_q (.pointer (some ⟨P, 0, none⟩)) (fun _ _ hρ _ => r_nilCheck (hρ _ _ rfl) rfl) rfl rfl rfl (w_n rfl) ?_
      refine TL_q (.pointer (some ⟨P, 0, none⟩)) (fun _ _ hρ _ => r_fieldAddr fl138_0 sz75 (hρ _ _ rfl)) rfl rfl rfl (w_n rfl) ?_
      refine TL_q (.agg #[.int .i64 (((turnS i p q px).1 : Nat) : Int), .int .i64 (((turnS i p q px).2.1 : Nat) : Int), .slice ar ((turnS i p q px).2.2.length) cr]) (fun _ _ hρ hm => r_loadA ag75 sz75 (hρ _ _ rfl) (hm.at 941 rfl) rfl rfl) rfl rfl rfl (w_n rfl) ?_
      refine TL_store 1 (.cells #[.int .i64 (((turnS i p q px).1 : Nat) : Int), .int .i64 (((turnS i p q px).2.1 : Nat) : Int), .slice ar ((turnS i p q px).2.2.length) cr] 75) rfl (fun _ _ hρ hm => r_store sz75 (hρ _ _ rfl) (hρ _ _ rfl) (hm.at 1 rfl) rfl rfl rfl rfl) rfl rfl (w_n rfl) ?_
      refine TL_seq ?_
      refine T_ret' ?_
      refine p_j_r ?_
      refine ret_of rfl (.agg #[.int .i64 (((turnS i p q px).1 : Nat) : Int), .int .i64 (((turnS i p q px).2.1 : Nat) : Int), .slice ar ((turnS i p q px).2.2.length) cr]) (fun tmps w hk hm => res1 rfl (res_cell (hk 2 _ rfl) (run_loadVar_agg ag75 sz75 (hm.at 1 rfl) (Nat.le_of_ble_eq_true rfl) rfl))) (fun w hm => ?_)
      have hi : i = q4 qn := by omega
      subst hi
      exact ⟨ar, cr, rfl, hm.ext, hm.row 940 rfl⟩

theorem turn_ok (p q : Nat) (qn : Int) (px : List C4) (a : Option Addr) (cap : Nat) (w : World) (hv : SliceAt w a cap 4 C4.cells px) (hcap : cap ≤ Go.maxLen) (hp : 1 ≤ p ∧ p ≤ 8) (hq : 1 ≤ q ∧ q ≤ 8) (hlen : px.length = p * q) : Calls Try.prog 48 #[.agg #[.int .i64 (p : Int), .int .i64 (q : Int), .slice a px.length cap], .int .i64 qn] w fun e w' => ∃ a' cap', e = .returned (.tuple #[.agg #[.int .i64 ((turnS (q4 qn) p q px).1 : Int), .int .i64 ((turnS (q4 qn) p q px).2.1 : Int), .slice a' ((turnS (q4 qn) p q px).2.2).length cap'], .int .i64 0]) ∧ Below w.heap.size w w' ∧ w'.ownsRow w.heap.size 37 4 (.slice a' ((turnS (q4 qn) p q px).2.2).length cap') ((turnS (q4 qn) p q px).2.2).length (((turnS (q4 qn) p q px).2.2).flatMap C4.cells) := by
  have hvl := hv.1
  have h64 := size8 hp hq
  refine calls_of_T (l := [.agg #[.int .i64 ((p : Nat) : Int), .int .i64 ((q : Nat) : Int), .slice a px.length cap], .int .i64 qn]) 10 Try.func48 rfl rfl rfl ?_
  show T _ _ _ [(0, .agg #[.int .i64 ((p : Nat) : Int), .int .i64 ((q : Nat) : Int), .slice a px.length cap]), (1, .int .i64 qn)] []
  refine T_seq (T_region ?_)
  refine TL_new 1 (.cells #[.int .i64 ((p : Nat) : Int), .int .i64 ((q : Nat) : Int), .slice a px.length cap] 75) (fun B => .pointer (some ⟨B, 0, none⟩)) (fun _ _ hρ _ => r_box (hρ _ _ rfl) rfl) rfl rfl rfl (w_n rfl) ?_
  intro B1
  refine TL_new 2 (.cells #[.int .i64 qn] 3) (fun B => .pointer (some ⟨B, 0, none⟩)) (fun _ _ hρ _ => r_box (hρ _ _ rfl) rfl) rfl rfl rfl (w_n rfl) ?_
  intro B2
  refine TL_new 3 (.cells #[.int .i64 0, .int .i64 0, .slice none 0 0] 75) (fun B => .pointer (some ⟨B, 0, none⟩)) (fun _ _ _ _ => r_alloc (v := .agg #[.int .i64 0, .int .i64 0, .slice none 0 0]) (by kernel_rfl) rfl) rfl rfl rfl (w_n rfl) ?_
  intro B3
  refine TL_q (.int .i64 0) (fun _ _ hρ _ => r_assign (hρ _ _ rfl)) rfl rfl rfl (w_n rfl) ?_
  refine TL_seq ?_
  refine T_seq (T_region ?_)
  refine TL_q (.func (.func 84) #[] #[.pointer (some ⟨B1, 0, none⟩), .pointer (some ⟨B2, 0, none⟩)]) (fun _ _ hρ _ => r_makeFunc (by simp) (map_arr (cons2 (hρ _ _ rfl) (cons2 (hρ _ _ rfl) rfl)))) rfl rfl rfl (w_n rfl) ?_
  refine TL_callN (fun (_ : Option Addr × Nat) => True) (fun (ar4, cr4) => .tuple #[.agg #[.int .i64 (((turnS (q4 qn) p q px).1 : Nat) : Int), .int .i64 (((turnS (q4 qn) p q px).2.1 : Nat) : Int), .slice ar4 (((turnS (q4 qn) p q px).2.2).length) cr4], .int .i64 0]) (fun (ar4, cr4) => [(4, .row (.slice ar4 (((turnS (q4 qn) p q px).2.2).length) cr4) 37 4 (((turnS (q4 qn) p q px).2.2).length) (((turnS (q4 qn) p q px).2.2).flatMap C4.cells))]) (fun _ _ hρ _ => r_call (args := [.func (.func 84) #[] #[.pointer (some ⟨B1, 0, none⟩), .pointer (some ⟨B2, 0, none⟩)]]) (enters_of Try.func83 (by kernel_rfl) rfl) (hρ _ _ rfl) ((cons2 (hρ _ _ rfl) rfl)) rfl) (fun w hm => trSW_ok 84 #[.pointer (some ⟨B1, 0, none⟩), .pointer (some ⟨B2, 0, none⟩)] (fun (_ : Option Addr × Nat) => True) (fun _ => (((turnS (q4 qn) p q px).1 : Nat) : Int)) (fun _ => (((turnS (q4 qn) p q px).2.1 : Nat) : Int)) (fun z => z.1) (fun _ => ((turnS (q4 qn) p q px).2.2).length) (fun z => z.2) (fun z => [(4, .row (.slice z.1 (((turnS (q4 qn) p q px).2.2).length) z.2) 37 4 (((turnS (q4 qn) p q px).2.2).length) (((turnS (q4 qn) p q px).2.2).flatMap C4.cells))]) w (enters_of Try.func84 (by kernel_rfl) rfl) (fun _ => rfl) (fun _ => rfl) (fun w2 hb => (turn1_ok B1 B2 p q qn px a cap w2 (kept hb (hm.at 1 rfl)) (kept hb (hm.at 2 rfl)) ((hv.keep hm.ext).keep hb) hcap hp hq hlen).mono fun e w' ⟨a', cap', he, hb2, hr⟩ => ⟨(a', cap'), trivial, he, hb2, newOk1 4 hr⟩)) rfl rfl rfl (w_n rfl) ?_
  rintro ⟨ar4, cr4⟩ -
  refine TL_q (.agg #[.int .i64 (((turnS (q4 qn) p q px).1 : Nat) : Int), .int .i64 (((turnS (q4 qn) p q px).2.1 : Nat) : Int), .slice ar4 (((turnS (q4 qn) p q px).2.2).length) cr4]) (fun _ _ hρ _ => r_extract (hρ _ _ rfl) rfl) rfl rfl rfl (w_n rfl) ?_
  refine TL_q (.int .i64 0) (fun _ _ hρ _ => r_extract (hρ _ _ rfl) rfl) rfl rfl rfl (w_n rfl) ?_
  refine TL_store 3 (.cells #[.int .i64 (((turnS (q4 qn) p q px).1 : Nat) : Int), .int .i64 (((turnS (q4 qn) p q px).2.1 : Nat) : Int), .slice ar4 (((turnS (q4 qn) p q px).2.2).length) cr4] 75) rfl (fun _ _ hρ hm => r_store sz75 (hρ _ _ rfl) (hρ _ _ rfl) (hm.at 3 rfl) rfl rfl rfl rfl) rfl rfl (w_n rfl) ?_
  refine TL_q (.int .i64 0) (fun _ _ hρ _ => r_assign (hρ _ _ rfl)) rfl rfl rfl (w_n rfl) ?_
  refine TL_seq ?_
  refine T_ret' ?_
  refine ret_of rfl (.tuple #[.agg #[.int .i64 (((turnS (q4 qn) p q px).1 : Nat) : Int), .int .i64 (((turnS (q4 qn) p q px).2.1 : Nat) : Int), .slice ar4 (((turnS (q4 qn) p q px).2.2).length) cr4], .int .i64 0]) (fun tmps w hk hm => res2 rfl (res_cell (hk 4 _ rfl) (run_loadVar_agg ag75 sz75 (hm.at 3 rfl) (Nat.le_of_ble_eq_true rfl) rfl)) (res_tmp (hk 5 _ rfl))) (fun w hm => ?_)
  exact ⟨ar4, cr4, rfl, hm.ext, hm.row 4 rfl⟩

end Go.Proofs.Ytbiapeaghbndoaa
/- stamp: what is cut out of a canvas. -/
namespace Go.Proofs.Ytbiapeaghbndoaa
open Go Go.RowKit
/-- The first k of n pixels. -/
def fillL (h : Nat → C4) (n k : Nat) : List C4 := (List.range n).map fun i => if i < k then h i else zeroC
theorem fillL_len (h : Nat → C4) (n k : Nat) : (fillL h n k).length = n := by simp [fillL]
theorem fillL_get {h : Nat → C4} {n k i : Nat} (hi : i < n) : (fillL h n k)[i]? = some (if i < k then h i else zeroC) := by
  unfold fillL
  rw [List.getElem?_map, List.getElem?_range hi]; rfl
theorem fillL_zero (h : Nat → C4) (n : Nat) : fillL h n 0 = List.replicate n zeroC := by
  apply List.ext_getElem?
  intro i
  by_cases hi : i < n
  · rw [fillL_get hi, if_neg (by omega), List.getElem?_replicate, if_pos hi]
  · rw [List.getElem?_eq_none (by rw [fillL_len]; omega), List.getElem?_eq_none (by simp; omega)]
theorem fillL_step {h : Nat → C4} {n k : Nat} (hk : k < n) : (fillL h n k).set k (h k) = fillL h n (k + 1) := by
  apply List.ext_getElem?
  intro i
  by_cases hi : i < n
  · rw [fillL_get hi, List.getElem?_set, fillL_len]
    by_cases e : k = i
    · subst e; rw [if_pos rfl, if_pos hk, if_pos (by omega)]
    · rw [if_neg e, fillL_get hi]
      by_cases e2 : i < k
      · rw [if_pos e2, if_pos (by omega)]
      · rw [if_neg e2, if_neg (by omega)]
  · rw [List.getElem?_eq_none (by rw [List.length_set, fillL_len]; omega), List.getElem?_eq_none (by rw [fillL_len]; omega)]
/-- A canvas's pixels of a rectangle. -/
def cutI (wd : Nat) (ts : List T64) (u v p : Nat) (k : Nat) : C4 := colAt wd ts (u + k % p) (v + k / p)
def cutL (wd : Nat) (ts : List T64) (u v p q : Nat) : List C4 := (List.range (p * q)).map (cutI wd ts u v p)
theorem cut_all (wd : Nat) (ts : List T64) (u v p q : Nat) : fillL (cutI wd ts u v p) (p * q) (q * p) = cutL wd ts u v p q := by
  unfold fillL cutL
  apply List.map_congr_left
  intro i hi
  rw [List.mem_range] at hi
  rw [Nat.mul_comm] at hi
  rw [if_pos hi]
theorem cut_step {wd u v p q k : Nat} {ts : List T64} {x : Nat × Nat} (hx : (ptsG p q)[k]? = some x) : (fillL (cutI wd ts u v p) (p * q) k).set (x.2 * p + x.1) (colAt wd ts (u + x.1) (v + x.2)) = fillL (cutI wd ts u v p) (p * q) (k + 1) := by
  obtain ⟨h1, h2, h3, h4⟩ := ptsG_in hx
  obtain ⟨h5, h6⟩ := dm2 (x := x.1) (y := x.2) (W := p) h1
  rw [h3] at h5 h6 ⊢
  rw [← fillL_step (by rw [Nat.mul_comm]; exact h4)]
  congr 1
  unfold cutI
  rw [h5, h6]
end Go.Proofs.Ytbiapeaghbndoaa
/- stamp: a colour over another one. -/
namespace Go.Proofs.Ytbiapeaghbndoaa
open Go Go.RowKit
def C4.ok (c : C4) : Prop := ok8 c.r ∧ ok8 c.g ∧ ok8 c.b ∧ ok8 c.a
def overC (u o : C4) : C4 := ⟨shareI u.r o.r o.a, shareI u.g o.g o.a, shareI u.b o.b o.a, o.a + shareI u.a 0 o.a⟩
theorem over_a {a a' : Int} (ha : ok8 a) (ha' : ok8 a') : ok8 (a' + shareI a 0 a') := by
  obtain ⟨a1, a2⟩ := ha
  obtain ⟨a1', a2'⟩ := ha'
  obtain ⟨h1, h2, h3, h4, h5⟩ := shareI_bd a 0 a' a1 a2 (by omega) (by omega) a1' a2'
  have : 0 ≤ (255 - a) * (255 - a') := Int.mul_nonneg (by omega) (by omega)
  rw [Int.sub_mul] at this
  unfold ok8 shareI
  omega
theorem overC_ok {u o : C4} (hu : u.ok) (ho : o.ok) : (overC u o).ok :=
  ⟨shareI_range hu.1 ho.1 ho.2.2.2, shareI_range hu.2.1 ho.2.1 ho.2.2.2, shareI_range hu.2.2.1 ho.2.2.1 ho.2.2.2, over_a hu.2.2.2 ho.2.2.2⟩
theorem zeroC_ok : zeroC.ok := by unfold C4.ok ok8; decide
theorem over_c (x y : C4) (w : World) (hx : x.ok) (hy : y.ok) : Calls Try.prog 98 #[x.v, y.v] w fun e w' => e = .returned (overC x y).v ∧ Below w.heap.size w w' :=
  over_any _ _ _ _ _ _ _ _ w hx.1 hx.2.1 hx.2.2.1 hx.2.2.2 hy.1 hy.2.1 hy.2.2.1 hy.2.2.2
end Go.Proofs.Ytbiapeaghbndoaa
/- canvas: Cut. Printed by a program of this seat's prover. -/
namespace Go.Proofs.Ytbiapeaghbndoaa
open Go Go.RowKit
set_option maxRecDepth 10000
set_option maxHeartbeats 1000000 in
theorem cut1_ok (c : Cv) (C Wb Hb Xb Yb p q u v : Nat) (w : World) (hc : CvAt w c) (hC : hp w C = some (.cells #[.pointer (some ⟨c.p, 0, none⟩)] 28)) (hW : hp w Wb = some (.cells #[.int .i64 ((p : Nat) : Int)] 3)) (hH : hp w Hb = some (.cells #[.int .i64 ((q : Nat) : Int)] 3)) (hX : hp w Xb = some (.cells #[.int .i64 ((u : Nat) : Int)] 3)) (hY : hp w Yb = some (.cells #[.int .i64 ((v : Nat) : Int)] 3)) (hp8 : 1 ≤ p ∧ p ≤ 8) (hq8 : 1 ≤ q ∧ q ≤ 8) (hu : u + p ≤ 8 * c.wd) (hv : v + q ≤ 8 * c.hg) : Calls Try.prog 93 #[.pointer (some ⟨C, 0, none⟩), .pointer (some ⟨Wb, 0, none⟩), .pointer (some ⟨Hb, 0, none⟩), .pointer (some ⟨Xb, 0, none⟩), .pointer (some ⟨Yb, 0, none⟩)] w fun e w' => ∃ a' cap', e = .returned (.agg #[.int .i64 (p : Int), .int .i64 (q : Int), .slice a' (cutL c.wd c.ts u v p q).length cap']) ∧ Below w.heap.size w w' ∧ w'.ownsRow w.heap.size 37 4 (.slice a' (cutL c.wd c.ts u v p q).length cap') (cutL c.wd c.ts u v p q).length ((cutL c.wd c.ts u v p q).flatMap C4.cells) := by
  have hwd4 := hc.wd4
  have hhg4 := hc.hg4
  have h64 := size8 hp8 hq8
  refine calls_of_T (l := [.pointer (some ⟨C, 0, none⟩), .pointer (some ⟨Wb, 0, none⟩), .pointer (some ⟨Hb, 0, none⟩), .pointer (some ⟨Xb, 0, none⟩), .pointer (some ⟨Yb, 0, none⟩)]) 96 Try.func93 rfl rfl rfl ?_
  show T _ _ _ [(0, .pointer (some ⟨C, 0, none⟩)), (1, .pointer (some ⟨Wb, 0, none⟩)), (2, .pointer (some ⟨Hb, 0, none⟩)), (3, .pointer (some ⟨Xb, 0, none⟩)), (4, .pointer (some ⟨Yb, 0, none⟩))] []
  refine T_seq (T_region ?_)
  refine TL_new 1 (.cells #[.int .i64 0, .int .i64 0, .slice none 0 0] 75) (fun B => .pointer (some ⟨B, 0, none⟩)) (fun _ _ _ _ => r_alloc (v := .agg #[.int .i64 0, .int .i64 0, .slice none 0 0]) (by kernel_rfl) rfl) rfl rfl rfl (w_n rfl) ?_
  intro B1
  refine TL_seq ?_
  refine T_seq (T_region ?_)
  refine TL_q (.pointer (some ⟨c.p, 0, none⟩)) (fun _ _ hρ hm => r_load ag28 (hρ _ _ rfl) (hm.old hC) rfl) rfl rfl rfl (w_n rfl) ?_
  refine TL_q (.bool true) (fun _ _ hρ _ => r_as (r_neqPn po28 (hρ _ _ rfl) (hρ _ _ rfl)) (by rfl)) rfl rfl rfl (w_n rfl) ?_
  refine TL_call (.tuple #[]) (fun _ _ hρ _ => r_call (args := [.bool true, .int .i64 1]) (enters_of Try.func94 (by kernel_rfl) rfl) (hρ _ _ rfl) ((cons2 (hρ _ _ rfl) (cons2 (hρ _ _ rfl) rfl))) rfl) (fun w _ => need_ok_st 1 w) rfl rfl rfl (w_n rfl) ?_
  refine TL_seq ?_
  refine T_seq (T_region ?_)
  refine TL_q (.pointer (some ⟨c.p, 0, none⟩)) (fun _ _ hρ hm => r_load ag28 (hρ _ _ rfl) (hm.old hC) rfl) rfl rfl rfl (w_n rfl) ?_
  refine TL_call (.tuple #[.int .i64 ((8 * c.wd : Nat) : Int), .int .i64 ((8 * c.hg : Nat) : Int)]) (fun _ _ hρ _ => r_call (args := [.pointer (some ⟨c.p, 0, none⟩)]) (enters_of Try.func32 (by kernel_rfl) rfl) (hρ _ _ rfl) ((cons2 (hρ _ _ rfl) rfl)) rfl) (fun w hm => size_c c w (hc.below hm.ext)) rfl rfl rfl (w_n rfl) ?_
  refine TL_q (.tuple #[.int .i64 ((8 * c.wd : Nat) : Int), .int .i64 ((8 * c.hg : Nat) : Int)]) (fun _ _ hρ _ => r_move (hρ _ _ rfl)) rfl rfl rfl (w_n rfl) ?_
  refine TL_q (.int .i64 ((8 * c.wd : Nat) : Int)) (fun _ _ hρ _ => r_extract (hρ _ _ rfl) rfl) rfl rfl rfl (w_n rfl) ?_
  refine TL_q (.int .i64 ((8 * c.hg : Nat) : Int)) (fun _ _ hρ _ => r_extract (hρ _ _ rfl) rfl) rfl rfl rfl (w_n rfl) ?_
  refine TL_q (.int .i64 ((8 * c.wd : Nat) : Int)) (fun _ _ hρ _ => r_assign (hρ _ _ rfl)) rfl rfl rfl (w_n rfl) ?_
  refine TL_q (.int .i64 ((8 * c.hg : Nat) : Int)) (fun _ _ hρ _ => r_assign (hρ _ _ rfl)) rfl rfl rfl (w_n rfl) ?_
  refine TL_seq ?_
  refine T_seq (T_region ?_)
  refine TL_q (.int .i64 ((p : Nat) : Int)) (fun _ _ hρ hm => r_load ag3 (hρ _ _ rfl) (hm.old hW) rfl) rfl rfl rfl (w_n rfl) ?_
  refine TL_call (.bool true) (fun _ _ hρ _ => r_call (args := [.int .i64 ((p : Nat) : Int)]) (enters_of Try.func81 (by kernel_rfl) rfl) (hρ _ _ rfl) ((cons2 (hρ _ _ rfl) rfl)) rfl) (fun w _ => (side_c ((p : Nat) : Int) w).mono fun _ _ h => ⟨h.1.trans (congrArg Ending.returned (bool_as (sideI_of hp8))), h.2⟩) rfl rfl rfl (w_n rfl) ?_
  refine TL_q (.bool true) (fun _ _ hρ _ => r_move (hρ _ _ rfl)) rfl rfl rfl (w_n rfl) ?_
  refine TL_q (.int .i64 ((q : Nat) : Int)) (fun _ _ hρ hm => r_load ag3 (hρ _ _ rfl) (hm.old hH) rfl) rfl rfl rfl (want_y 22 rfl rfl rfl) ?_
  refine TL_call (.bool true) (fun _ _ hρ _ => r_call (args := [.int .i64 ((q : Nat) : Int)]) (enters_of Try.func81 (by kernel_rfl) rfl) (hρ _ _ rfl) ((cons2 (hρ _ _ rfl) rfl)) rfl) (fun w _ => (side_c ((q : Nat) : Int) w).mono fun _ _ h => ⟨h.1.trans (congrArg Ending.returned (bool_as (sideI_of hq8))), h.2⟩) rfl rfl rfl (want_y 22 rfl rfl rfl) ?_
  refine TL_q (.bool true) (fun _ _ hρ _ => r_pick_t (hρ _ _ rfl) (hρ _ _ rfl)) rfl rfl rfl (w_n rfl) ?_
  refine TL_q (.bool true) (fun _ _ hρ _ => r_move (hρ _ _ rfl)) rfl rfl rfl (w_n rfl) ?_
  refine TL_q (.int .i64 ((u : Nat) : Int)) (fun _ _ hρ hm => r_load ag3 (hρ _ _ rfl) (hm.old hX) rfl) rfl rfl rfl (want_y 26 rfl rfl rfl) ?_
  refine TL_q (.bool true) (fun _ _ hρ _ => r_as (r_geq (hρ _ _ rfl) (hρ _ _ rfl)) (bool_as (decide_eq_true (by omega)))) rfl rfl rfl (want_y 26 rfl rfl rfl) ?_
  refine TL_q (.bool true) (fun _ _ hρ _ => r_pick_t (hρ _ _ rfl) (hρ _ _ rfl)) rfl rfl rfl (w_n rfl) ?_
  refine TL_q (.bool true) (fun _ _ hρ _ => r_move (hρ _ _ rfl)) rfl rfl rfl (w_n rfl) ?_
  refine TL_q (.int .i64 ((v : Nat) : Int)) (fun _ _ hρ hm => r_load ag3 (hρ _ _ rfl) (hm.old hY) rfl) rfl rfl rfl (want_y 30 rfl rfl rfl) ?_
  refine TL_q (.bool true) (fun _ _ hρ _ => r_as (r_geq (hρ _ _ rfl) (hρ _ _ rfl)) (bool_as (decide_eq_true (by omega)))) rfl rfl rfl (want_y 30 rfl rfl rfl) ?_
  refine TL_q (.bool true) (fun _ _ hρ _ => r_pick_t (hρ _ _ rfl) (hρ _ _ rfl)) rfl rfl rfl (w_n rfl) ?_
  refine TL_q (.bool true) (fun _ _ hρ _ => r_move (hρ _ _ rfl)) rfl rfl rfl (w_n rfl) ?_
  refine TL_q (.int .i64 ((u : Nat) : Int)) (fun _ _ hρ hm => r_load ag3 (hρ _ _ rfl) (hm.old hX) rfl) rfl rfl rfl (want_y 34 rfl rfl rfl) ?_
  refine TL_q (.int .i64 ((8 * c.wd : Nat) : Int)) (fun _ _ hρ _ => r_move (hρ _ _ rfl)) rfl rfl rfl (want_y 34 rfl rfl rfl) ?_
  refine TL_q (.int .i64 ((p : Nat) : Int)) (fun _ _ hρ hm => r_load ag3 (hρ _ _ rfl) (hm.old hW) rfl) rfl rfl rfl (want_y 34 rfl rfl rfl) ?_
  refine TL_q (.int .i64 ((8 * c.wd - p : Nat) : Int)) (fun _ _ hρ _ => r_as (r_sub (hρ _ _ rfl) (hρ _ _ rfl)) (int_as ((wrap64 (by omega) (by omega)).trans (by omega)))) rfl rfl rfl (want_y 34 rfl rfl rfl) ?_
  refine TL_q (.bool true) (fun _ _ hρ _ => r_as (r_leq (hρ _ _ rfl) (hρ _ _ rfl)) (bool_as (decide_eq_true (by omega)))) rfl rfl rfl (want_y 34 rfl rfl rfl) ?_
  refine TL_q (.bool true) (fun _ _ hρ _ => r_pick_t (hρ _ _ rfl) (hρ _ _ rfl)) rfl rfl rfl (w_n rfl) ?_
  refine TL_q (.bool true) (fun _ _ hρ _ => r_move (hρ _ _ rfl)) rfl rfl rfl (w_n rfl) ?_
  refine TL_q (.int .i64 ((v : Nat) : Int)) (fun _ _ hρ hm => r_load ag3 (hρ _ _ rfl) (hm.old hY) rfl) rfl rfl rfl (want_y 41 rfl rfl rfl) ?_
  refine TL_q (.int .i64 ((8 * c.hg : Nat) : Int)) (fun _ _ hρ _ => r_move (hρ _ _ rfl)) rfl rfl rfl (want_y 41 rfl rfl rfl) ?_
  refine TL_q (.int .i64 ((q : Nat) : Int)) (fun _ _ hρ hm => r_load ag3 (hρ _ _ rfl) (hm.old hH) rfl) rfl rfl rfl (want_y 41 rfl rfl rfl) ?_
  refine TL_q (.int .i64 ((8 * c.hg - q : Nat) : Int)) (fun _ _ hρ _ => r_as (r_sub (hρ _ _ rfl) (hρ _ _ rfl)) (int_as ((wrap64 (by omega) (by omega)).trans (by omega)))) rfl rfl rfl (want_y 41 rfl rfl rfl) ?_
  refine TL_q (.bool true) (fun _ _ hρ _ => r_as (r_leq (hρ _ _ rfl) (hρ _ _ rfl)) (bool_as (decide_eq_true (by omega)))) rfl rfl rfl (want_y 41 rfl rfl rfl) ?_
  refine TL_q (.bool true) (fun _ _ hρ _ => r_pick_t (hρ _ _ rfl) (hρ _ _ rfl)) rfl rfl rfl (w_n rfl) ?_
  refine TL_call (.tuple #[]) (fun _ _ hρ _ => r_call (args := [.bool true, .int .i64 2]) (enters_of Try.func94 (by kernel_rfl) rfl) (hρ _ _ rfl) ((cons2 (hρ _ _ rfl) (cons2 (hρ _ _ rfl) rfl))) rfl) (fun w _ => need_ok_st 2 w) rfl rfl rfl (w_n rfl) ?_
  refine TL_seq ?_
  refine T_sub [(0, .pointer (some ⟨C, 0, none⟩)), (1, .pointer (some ⟨Wb, 0, none⟩)), (2, .pointer (some ⟨Hb, 0, none⟩)), (3, .pointer (some ⟨Xb, 0, none⟩)), (4, .pointer (some ⟨Yb, 0, none⟩)), (5, .pointer (some ⟨B1, 0, none⟩))] [(1, .blk B1 (.cells #[.int .i64 0, .int .i64 0, .slice none 0 0] 75))] (sub_cons rfl (sub_cons rfl (sub_cons rfl (sub_cons rfl (sub_cons rfl (sub_cons rfl sub_nil)))))) (sub_cons rfl sub_nil) ?_
  refine T_seq (T_region ?_)
  refine TL_q (.int .i64 ((p : Nat) : Int)) (fun _ _ hρ hm => r_load ag3 (hρ _ _ rfl) (hm.old hW) rfl) rfl rfl rfl (w_n rfl) ?_
  refine TL_q (.int .i64 ((q : Nat) : Int)) (fun _ _ hρ hm => r_load ag3 (hρ _ _ rfl) (hm.old hH) rfl) rfl rfl rfl (w_n rfl) ?_
  refine TL_q (.agg #[.int .u8 0, .int .u8 0, .int .u8 0, .int .u8 0]) (fun _ _ _ _ => r_build (vs := []) (by kernel_rfl) rfl) rfl rfl rfl (w_n rfl) ?_
  refine TL_callN (fun (_ : Option Addr × Nat) => True) (fun (ar2, cr2) => .tuple #[.agg #[.int .i64 ((p : Nat) : Int), .int .i64 ((q : Nat) : Int), .slice ar2 ((List.replicate (p * q) zeroC).length) cr2], .int .i64 0]) (fun (ar2, cr2) => [(2, .row (.slice ar2 ((List.replicate (p * q) zeroC).length) cr2) 37 4 ((List.replicate (p * q) zeroC).length) ((List.replicate (p * q) zeroC).flatMap C4.cells))]) (fun _ _ hρ _ => r_call (args := [.int .i64 ((p : Nat) : Int), .int .i64 ((q : Nat) : Int), .agg #[.int .u8 0, .int .u8 0, .int .u8 0, .int .u8 0]]) (enters_of Try.func41 (by kernel_rfl) rfl) (hρ _ _ rfl) ((cons2 (hρ _ _ rfl) (cons2 (hρ _ _ rfl) (cons2 (hρ _ _ rfl) rfl)))) rfl) (fun w _ => (snew_ok p q zeroC w hp8 hq8).mono fun e w' ⟨a', cap', he, hb, hr⟩ => ⟨(a', cap'), trivial, he, hb, newOk1 2 hr⟩) rfl rfl rfl (w_n rfl) ?_
  rintro ⟨ar2, cr2⟩ -
  refine TL_q (.tuple #[.agg #[.int .i64 ((p : Nat) : Int), .int .i64 ((q : Nat) : Int), .slice ar2 ((List.replicate (p * q) zeroC).length) cr2], .int .i64 0]) (fun _ _ hρ _ => r_move (hρ _ _ rfl)) rfl rfl rfl (w_n rfl) ?_
  refine TL_q (.agg #[.int .i64 ((p : Nat) : Int), .int .i64 ((q : Nat) : Int), .slice ar2 ((List.replicate (p * q) zeroC).length) cr2]) (fun _ _ hρ _ => r_extract (hρ _ _ rfl) rfl) rfl rfl rfl (w_n rfl) ?_
  refine TL_q (.int .i64 0) (fun _ _ hρ _ => r_extract (hρ _ _ rfl) rfl) rfl rfl rfl (w_n rfl) ?_
  refine TL_new 3 (.cells #[.int .i64 0, .int .i64 0, .slice none 0 0] 75) (fun B => .pointer (some ⟨B, 0, none⟩)) (fun _ _ _ _ => r_alloc (v := .agg #[.int .i64 0, .int .i64 0, .slice none 0 0]) (by kernel_rfl) rfl) rfl rfl rfl (w_n rfl) ?_
  intro B3
  refine TL_store 3 (.cells #[.int .i64 ((p : Nat) : Int), .int .i64 ((q : Nat) : Int), .slice ar2 ((List.replicate (p * q) zeroC).length) cr2] 75) rfl (fun _ _ hρ hm => r_store sz75 (hρ _ _ rfl) (hρ _ _ rfl) (hm.at 3 rfl) rfl rfl rfl rfl) rfl rfl (w_n rfl) ?_
  refine TL_q (.int .i64 0) (fun _ _ hρ _ => r_assign (hρ _ _ rfl)) rfl rfl rfl (w_n rfl) ?_
  refine TL_seq ?_
  refine T_seq (T_region ?_)
  refine TL_q (.int .i64 0) (fun _ _ hρ _ => r_move (hρ _ _ rfl)) rfl rfl rfl (w_n rfl) ?_
  refine TL_q (.bool true) (fun _ _ hρ _ => r_as (r_eql (hρ _ _ rfl) (hρ _ _ rfl)) (by rfl)) rfl rfl rfl (w_n rfl) ?_
  refine TL_q (.int .i64 0) (fun _ _ hρ _ => r_move (hρ _ _ rfl)) rfl rfl rfl (w_n rfl) ?_
  refine TL_call (.tuple #[]) (fun _ _ hρ _ => r_call (args := [.bool true, .int .i64 0]) (enters_of Try.func94 (by kernel_rfl) rfl) (hρ _ _ rfl) ((cons2 (hρ _ _ rfl) (cons2 (hρ _ _ rfl) rfl))) rfl) (fun w _ => need_ok_st 0 w) rfl rfl rfl (w_n rfl) ?_
  refine TL_seq ?_
  refine T_seq (T_region ?_)
  refine TL_q (.agg #[.int .i64 ((p : Nat) : Int), .int .i64 ((q : Nat) : Int), .slice ar2 ((List.replicate (p * q) zeroC).length) cr2]) (fun _ _ hρ hm => r_loadA ag75 sz75 (hρ _ _ rfl) (hm.at 3 rfl) rfl rfl) rfl rfl rfl (w_n rfl) ?_
  refine TL_q (.agg #[.int .i64 ((p : Nat) : Int), .int .i64 ((q : Nat) : Int), .slice ar2 ((List.replicate (p * q) zeroC).length) cr2]) (fun _ _ hρ _ => r_build (vs := [(0, .agg #[.int .i64 ((p : Nat) : Int), .int .i64 ((q : Nat) : Int), .slice ar2 ((List.replicate (p * q) zeroC).length) cr2])]) (by kernel_rfl) (cons2 (pair2 (hρ _ _ rfl)) rfl)) rfl rfl rfl (w_n rfl) ?_
  refine TL_new 4 (.cells #[.int .i64 ((p : Nat) : Int), .int .i64 ((q : Nat) : Int), .slice ar2 ((List.replicate (p * q) zeroC).length) cr2] 138) (fun B => .pointer (some ⟨B, 0, none⟩)) (fun _ _ hρ _ => r_box (hρ _ _ rfl) rfl) rfl rfl rfl (w_n rfl) ?_
  intro B4
  refine TL_new 5 (.cells #[.pointer none] 134) (fun B => .pointer (some ⟨B, 0, none⟩)) (fun _ _ _ _ => r_alloc (v := .pointer none) (by kernel_rfl) rfl) rfl rfl rfl (w_n rfl) ?_
  intro B5
  refine TL_store 5 (.cells #[.pointer (some ⟨B4, 0, none⟩)] 134) rfl (fun _ _ hρ hm => r_store sz134 (hρ _ _ rfl) (hρ _ _ rfl) (hm.at 5 rfl) rfl rfl rfl rfl) rfl rfl (w_n rfl) ?_
  refine TL_seq ?_
  refine T_seq ?_
  refine T_seq (T_region ?_)
  refine TL_q (.pointer (some ⟨B4, 0, none⟩)) (fun _ _ hρ hm => r_load ag134 (hρ _ _ rfl) (hm.at 5 rfl) rfl) rfl rfl rfl (w_n rfl) ?_
  refine TL_callN (fun (_ : Nat) => True) (fun q6 => .func (.func 105) #[] #[.pointer (some ⟨q6, 0, none⟩)]) (fun q6 => [(6, .blk q6 (.cells #[.pointer (some ⟨B4, 0, none⟩)] 134))]) (fun _ _ hρ _ => r_call (args := [.pointer (some ⟨B4, 0, none⟩)]) (enters_of Try.func95 (by kernel_rfl) rfl) (hρ _ _ rfl) ((cons2 (hρ _ _ rfl) rfl)) rfl) (fun w _ => (places_c B4 w).mono fun e w' ⟨q, he, hb, hr⟩ => ⟨q, trivial, he, hb, newOk1 6 hr⟩) rfl rfl rfl (w_n rfl) ?_
  intro q6 _
  refine TL_seq ?_
  refine T_block ?_
  rw [← fillL_zero (cutI c.wd c.ts u v p) (p * q)]
  rw [fillL_len]
  refine T_row 2 rfl (by omega) (fun g7 ha7 => ?_)
  subst ha7
  refine T_rowcap 2 rfl (fun hrc7 => ?_)
  refine T_sub [(0, .pointer (some ⟨C, 0, none⟩)), (1, .pointer (some ⟨Wb, 0, none⟩)), (3, .pointer (some ⟨Xb, 0, none⟩)), (4, .pointer (some ⟨Yb, 0, none⟩)), (5, .pointer (some ⟨B1, 0, none⟩)), (10, .pointer (some ⟨B5, 0, none⟩)), (64, .func (.func 105) #[] #[.pointer (some ⟨q6, 0, none⟩)])] [(6, .blk q6 (.cells #[.pointer (some ⟨B4, 0, none⟩)] 134)), (2, .row (.slice (some ⟨g7, 0, none⟩) (p * q) cr2) 37 4 (p * q) ((fillL (cutI c.wd c.ts u v p) (p * q) 0).flatMap C4.cells)), (1, .blk B1 (.cells #[.int .i64 0, .int .i64 0, .slice none 0 0] 75)), (3, .blk B3 (.cells #[.int .i64 ((p : Nat) : Int), .int .i64 ((q : Nat) : Int), .slice (some ⟨g7, 0, none⟩) (p * q) cr2] 75)), (4, .blk B4 (.cells #[.int .i64 ((p : Nat) : Int), .int .i64 ((q : Nat) : Int), .slice (some ⟨g7, 0, none⟩) (p * q) cr2] 138)), (5, .blk B5 (.cells #[.pointer (some ⟨B4, 0, none⟩)] 134))] (sub_cons rfl (sub_cons rfl (sub_cons rfl (sub_cons rfl (sub_cons rfl (sub_cons rfl (sub_cons rfl sub_nil))))))) (sub_cons rfl (sub_cons rfl (sub_cons rfl (sub_cons rfl (sub_cons rfl (sub_cons rfl sub_nil)))))) ?_
  refine T_rangeB (ι := Unit) (ζ := Nat) (encs := encPt) (xs := ptsG p q) rfl rfl (enters_of Try.func105 (by kernel_rfl) rfl) (fun _ => rfl) rfl 801 802 rfl (fun (k : Nat) (_u : Unit) => True) (fun (k : Nat) (_u : Unit) => [(2, .row (.slice (some ⟨g7, 0, none⟩) (p * q) cr2) 37 4 (p * q) ((fillL (cutI c.wd c.ts u v p) (p * q) k).flatMap C4.cells)), (4, .blk B4 (.cells #[.int .i64 ((p : Nat) : Int), .int .i64 ((q : Nat) : Int), .slice (some ⟨g7, 0, none⟩) (p * q) cr2] 138)), (6, .blk q6 (.cells #[.pointer (some ⟨B4, 0, none⟩)] 134)), (1, .blk B1 (.cells #[.int .i64 0, .int .i64 0, .slice none 0 0] 75)), (3, .blk B3 (.cells #[.int .i64 ((p : Nat) : Int), .int .i64 ((q : Nat) : Int), .slice (some ⟨g7, 0, none⟩) (p * q) cr2] 75)), (5, .blk B5 (.cells #[.pointer (some ⟨B4, 0, none⟩)] 134))]) (fun _ _ => False) (fun _ => []) (fun x Bz => [(0, .pointer (some ⟨C, 0, none⟩)), (1, .pointer (some ⟨Wb, 0, none⟩)), (3, .pointer (some ⟨Xb, 0, none⟩)), (4, .pointer (some ⟨Yb, 0, none⟩)), (5, .pointer (some ⟨B1, 0, none⟩)), (10, .pointer (some ⟨B5, 0, none⟩)), (64, .func (.func 105) #[] #[.pointer (some ⟨q6, 0, none⟩)]), (11, .pointer (some ⟨Bz, 0, none⟩))]) (fun x Bz => [(11, .blk Bz (.cells #[.int .i64 ((x.1 : Nat) : Int), .int .i64 ((x.2 : Nat) : Int)] 47))]) (fun D l rec => places_iter _ _ _ 6 q6 B4 p q _ (by omega) (by omega) (fun _ _ => rfl) (fun _ _ _ hm => hm.at 4 rfl)) (fun _ _ => ⟨rfl, rfl⟩) (fun _ => ⟨rfl, rfl⟩) () trivial (sub_cons rfl (sub_cons rfl (sub_cons rfl (sub_cons rfl (sub_cons rfl (sub_cons rfl sub_nil)))))) ?_ ?_ ?_ (fun _ _ _ h => h.elim)
  · intro D1 l1 rec1 k x _u hx1 hp1
    refine T_sub [(0, .pointer (some ⟨C, 0, none⟩)), (1, .pointer (some ⟨Wb, 0, none⟩)), (3, .pointer (some ⟨Xb, 0, none⟩)), (4, .pointer (some ⟨Yb, 0, none⟩)), (5, .pointer (some ⟨B1, 0, none⟩)), (10, .pointer (some ⟨B5, 0, none⟩)), (64, .func (.func 105) #[] #[.pointer (some ⟨q6, 0, none⟩)]), (65, .agg #[.int .i64 ((x.1 : Nat) : Int), .int .i64 ((x.2 : Nat) : Int)])] [(801, .blk D1 (.deferred (some []))), (802, .blk l1 (.loop rec1)), (2, .row (.slice (some ⟨g7, 0, none⟩) (p * q) cr2) 37 4 (p * q) ((fillL (cutI c.wd c.ts u v p) (p * q) k).flatMap C4.cells)), (4, .blk B4 (.cells #[.int .i64 ((p : Nat) : Int), .int .i64 ((q : Nat) : Int), .slice (some ⟨g7, 0, none⟩) (p * q) cr2] 138)), (6, .blk q6 (.cells #[.pointer (some ⟨B4, 0, none⟩)] 134)), (1, .blk B1 (.cells #[.int .i64 0, .int .i64 0, .slice none 0 0] 75)), (3, .blk B3 (.cells #[.int .i64 ((p : Nat) : Int), .int .i64 ((q : Nat) : Int), .slice (some ⟨g7, 0, none⟩) (p * q) cr2] 75)), (5, .blk B5 (.cells #[.pointer (some ⟨B4, 0, none⟩)] 134))] (sub_cons rfl (sub_cons rfl (sub_cons rfl (sub_cons rfl (sub_cons rfl (sub_cons rfl (sub_cons rfl (sub_cons rfl sub_nil)))))))) (sub_cons rfl (sub_cons rfl (sub_cons rfl (sub_cons rfl (sub_cons rfl (sub_cons rfl (sub_cons rfl (sub_cons rfl sub_nil)))))))) ?_
    refine T_region ?_
    refine TL_new 11 (.cells #[.int .i64 0, .int .i64 0] 47) (fun B => .pointer (some ⟨B, 0, none⟩)) (fun _ _ _ _ => r_alloc (v := .agg #[.int .i64 0, .int .i64 0]) (by kernel_rfl) rfl) rfl rfl rfl (w_n rfl) ?_
    intro B8
    refine TL_store 11 (.cells #[.int .i64 ((x.1 : Nat) : Int), .int .i64 ((x.2 : Nat) : Int)] 47) rfl (fun _ _ hρ hm => r_store sz47 (hρ _ _ rfl) (hρ _ _ rfl) (hm.at 11 rfl) rfl rfl rfl rfl) rfl rfl (w_n rfl) ?_
    refine TL_nil ?_
    exact p_at B8 trivial (sub_cons rfl (sub_cons rfl (sub_cons rfl (sub_cons rfl (sub_cons rfl (sub_cons rfl (sub_cons rfl (sub_cons rfl sub_nil)))))))) (sub_cons rfl (sub_cons rfl (sub_cons rfl (sub_cons rfl (sub_cons rfl (sub_cons rfl (sub_cons rfl (sub_cons rfl (sub_cons rfl sub_nil)))))))))
  · intro D1 l1 rec1 k x _u Bz hx1 hp1
    show T _ _ _ [(0, .pointer (some ⟨C, 0, none⟩)), (1, .pointer (some ⟨Wb, 0, none⟩)), (3, .pointer (some ⟨Xb, 0, none⟩)), (4, .pointer (some ⟨Yb, 0, none⟩)), (5, .pointer (some ⟨B1, 0, none⟩)), (10, .pointer (some ⟨B5, 0, none⟩)), (64, .func (.func 105) #[] #[.pointer (some ⟨q6, 0, none⟩)]), (11, .pointer (some ⟨Bz, 0, none⟩))] [(801, .blk D1 (.deferred (some []))), (802, .blk l1 (.loop { rec1 with state := .busy })), (11, .blk Bz (.cells #[.int .i64 ((x.1 : Nat) : Int), .int .i64 ((x.2 : Nat) : Int)] 47)), (2, .row (.slice (some ⟨g7, 0, none⟩) (p * q) cr2) 37 4 (p * q) ((fillL (cutI c.wd c.ts u v p) (p * q) k).flatMap C4.cells)), (4, .blk B4 (.cells #[.int .i64 ((p : Nat) : Int), .int .i64 ((q : Nat) : Int), .slice (some ⟨g7, 0, none⟩) (p * q) cr2] 138)), (6, .blk q6 (.cells #[.pointer (some ⟨B4, 0, none⟩)] 134)), (1, .blk B1 (.cells #[.int .i64 0, .int .i64 0, .slice none 0 0] 75)), (3, .blk B3 (.cells #[.int .i64 ((p : Nat) : Int), .int .i64 ((q : Nat) : Int), .slice (some ⟨g7, 0, none⟩) (p * q) cr2] 75)), (5, .blk B5 (.cells #[.pointer (some ⟨B4, 0, none⟩)] 134))]
    have hxi := ptsG_in hx1
    have hdl := fillL_len (cutI c.wd c.ts u v p) (p * q) k
    have hti := in_px hxi.1 hxi.2.1
    refine T_block ?_
    refine T_draw (V := [(0, .pointer (some ⟨B4, 0, none⟩)), (1, .pointer (some ⟨B4, 0, none⟩)), (2, .pointer (some ⟨B4, 0, none⟩)), (3, .pointer (some ⟨B4, 2, none⟩)), (4, .slice (some ⟨g7, 0, none⟩) (p * q) cr2), (5, .pointer (some ⟨Bz, 1, none⟩)), (6, .int .i64 ((x.2 : Nat) : Int)), (7, .int .i64 ((p : Nat) : Int)), (8, .int .i64 ((x.2 * p : Nat) : Int)), (9, .pointer (some ⟨Bz, 0, none⟩)), (10, .int .i64 ((x.1 : Nat) : Int)), (11, .int .i64 ((x.2 * p + x.1 : Nat) : Int)), (12, .pointer (some ⟨c.p, 0, none⟩)), (13, .int .i64 ((u : Nat) : Int)), (14, .pointer (some ⟨Bz, 0, none⟩)), (15, .int .i64 ((x.1 : Nat) : Int)), (16, .int .i64 ((u + x.1 : Nat) : Int)), (17, .int .i64 ((v : Nat) : Int)), (18, .pointer (some ⟨Bz, 1, none⟩)), (19, .int .i64 ((x.2 : Nat) : Int)), (20, .int .i64 ((v + x.2 : Nat) : Int))]) [0, 1, 3, 7, 15, 0, 32, 0, 224, 0, 512, 2016, 0, 0, 0, 16384, 57344, 0, 0, 262144, 917504, 2093056, 4190208, 8384512, 8384512, 16777215, 50331647] [[(10, none)], [(67, some 0)], [(68, some 1)], [(69, some 2)], [(70, some 3)], [(11, none)], [(72, some 5)], [(1, none)], [(73, some 6), (74, some 7)], [(11, none)], [(76, some 9)], [(75, some 8), (77, some 10)], [(0, none)], [(3, none)], [(11, none)], [(81, some 14)], [(80, some 13), (82, some 15)], [(4, none)], [(11, none)], [(85, some 18)], [(84, some 17), (86, some 19)], [(79, some 12), (83, some 16), (87, some 20)], [(88, some 21)], [(66, some 22)], [(66, some 22)], [(71, some 4), (78, some 11)], [(91, some 25), (89, some 23)]] 69206016 mixed (by kernel_rfl) ?_
    refine G_step [0, 1, 2, 3, 4, 5, 6, 7, 8, 9, 10, 11, 12, 13, 14, 15, 16, 17, 18, 19, 20] 21 [] (by kernel_rfl) (allM (all_cons (q_run (.pointer (some ⟨B4, 0, none⟩)) rfl rfl (wv_n rfl) rfl (fun _ _ hρ hm => r_load ag134 (hρ _ _ rfl) (hm.at 5 rfl) rfl)) (all_cons (q_run (.pointer (some ⟨B4, 0, none⟩)) rfl rfl (wv_n rfl) rfl (fun _ _ hρ _ => r_nilCheck (hρ _ _ rfl) rfl)) (all_cons (q_run (.pointer (some ⟨B4, 0, none⟩)) rfl rfl (wv_n rfl) rfl (fun _ _ hρ _ => r_fieldAddr fl138_0 sz75 (hρ _ _ rfl))) (all_cons (q_run (.pointer (some ⟨B4, 2, none⟩)) rfl rfl (wv_n rfl) rfl (fun _ _ hρ _ => r_fieldAddr fl75_2 sz71 (hρ _ _ rfl))) (all_cons (q_run (.slice (some ⟨g7, 0, none⟩) (p * q) cr2) rfl rfl (wv_n rfl) rfl (fun _ _ hρ hm => r_load ag71 (hρ _ _ rfl) (hm.at 4 rfl) rfl)) (all_cons (q_run (.pointer (some ⟨Bz, 1, none⟩)) rfl rfl (wv_n rfl) rfl (fun _ _ hρ _ => r_fieldAddr fl47_1 sz3 (hρ _ _ rfl))) (all_cons (q_run (.int .i64 ((x.2 : Nat) : Int)) rfl rfl (wv_n rfl) rfl (fun _ _ hρ hm => r_load ag3 (hρ _ _ rfl) (hm.at 11 rfl) rfl)) (all_cons (q_run (.int .i64 ((p : Nat) : Int)) rfl rfl (wv_n rfl) rfl (fun _ _ hρ hm => r_load ag3 (hρ _ _ rfl) (hm.old hW) rfl)) (all_cons (q_run (.int .i64 ((x.2 * p : Nat) : Int)) rfl rfl (wv_n rfl) rfl (fun _ _ hρ _ => r_as (r_mul (hρ _ _ rfl) (hρ _ _ rfl)) (int_as ((wrap64 (by omega) (by omega)).trans (by omega))))) (all_cons (q_run (.pointer (some ⟨Bz, 0, none⟩)) rfl rfl (wv_n rfl) rfl (fun _ _ hρ _ => r_fieldAddr fl47_0 sz3 (hρ _ _ rfl))) (all_cons (q_run (.int .i64 ((x.1 : Nat) : Int)) rfl rfl (wv_n rfl) rfl (fun _ _ hρ hm => r_load ag3 (hρ _ _ rfl) (hm.at 11 rfl) rfl)) (all_cons (q_run (.int .i64 ((x.2 * p + x.1 : Nat) : Int)) rfl rfl (wv_n rfl) rfl (fun _ _ hρ _ => r_as (r_add (hρ _ _ rfl) (hρ _ _ rfl)) (int_as ((wrap64 (by omega) (by omega)).trans (by omega))))) (all_cons (q_run (.pointer (some ⟨c.p, 0, none⟩)) rfl rfl (wv_n rfl) rfl (fun _ _ hρ hm => r_load ag28 (hρ _ _ rfl) (hm.old hC) rfl)) (all_cons (q_run (.int .i64 ((u : Nat) : Int)) rfl rfl (wv_n rfl) rfl (fun _ _ hρ hm => r_load ag3 (hρ _ _ rfl) (hm.old hX) rfl)) (all_cons (q_run (.pointer (some ⟨Bz, 0, none⟩)) rfl rfl (wv_n rfl) rfl (fun _ _ hρ _ => r_fieldAddr fl47_0 sz3 (hρ _ _ rfl))) (all_cons (q_run (.int .i64 ((x.1 : Nat) : Int)) rfl rfl (wv_n rfl) rfl (fun _ _ hρ hm => r_load ag3 (hρ _ _ rfl) (hm.at 11 rfl) rfl)) (all_cons (q_run (.int .i64 ((u + x.1 : Nat) : Int)) rfl rfl (wv_n rfl) rfl (fun _ _ hρ _ => r_as (r_add (hρ _ _ rfl) (hρ _ _ rfl)) (int_as ((wrap64 (by omega) (by omega)).trans (by omega))))) (all_cons (q_run (.int .i64 ((v : Nat) : Int)) rfl rfl (wv_n rfl) rfl (fun _ _ hρ hm => r_load ag3 (hρ _ _ rfl) (hm.old hY) rfl)) (all_cons (q_run (.pointer (some ⟨Bz, 1, none⟩)) rfl rfl (wv_n rfl) rfl (fun _ _ hρ _ => r_fieldAddr fl47_1 sz3 (hρ _ _ rfl))) (all_cons (q_run (.int .i64 ((x.2 : Nat) : Int)) rfl rfl (wv_n rfl) rfl (fun _ _ hρ hm => r_load ag3 (hρ _ _ rfl) (hm.at 11 rfl) rfl)) (all_cons (q_run (.int .i64 ((v + x.2 : Nat) : Int)) rfl rfl (wv_n rfl) rfl (fun _ _ hρ _ => r_as (r_add (hρ _ _ rfl) (hρ _ _ rfl)) (int_as ((wrap64 (by omega) (by omega)).trans (by omega))))) all_nil)))))))))))))))))))))) (allM (all_cons ?_ all_nil))
    refine LOb_call (.tuple #[.agg #[.int .u8 ((colAt c.wd c.ts (u + x.1) (v + x.2)).r), .int .u8 ((colAt c.wd c.ts (u + x.1) (v + x.2)).g), .int .u8 ((colAt c.wd c.ts (u + x.1) (v + x.2)).b), .int .u8 ((colAt c.wd c.ts (u + x.1) (v + x.2)).a)], .bool true]) [(22, .tuple #[.agg #[.int .u8 ((colAt c.wd c.ts (u + x.1) (v + x.2)).r), .int .u8 ((colAt c.wd c.ts (u + x.1) (v + x.2)).g), .int .u8 ((colAt c.wd c.ts (u + x.1) (v + x.2)).b), .int .u8 ((colAt c.wd c.ts (u + x.1) (v + x.2)).a)], .bool true]), (23, .agg #[.int .u8 ((colAt c.wd c.ts (u + x.1) (v + x.2)).r), .int .u8 ((colAt c.wd c.ts (u + x.1) (v + x.2)).g), .int .u8 ((colAt c.wd c.ts (u + x.1) (v + x.2)).b), .int .u8 ((colAt c.wd c.ts (u + x.1) (v + x.2)).a)]), (24, .bool true), (25, .pointer (some ⟨g7, 0 + (x.2 * p + x.1) * 4, none⟩))] rfl (wv_n rfl) rfl rfl (fun _ _ hρ _ => r_call (args := [.pointer (some ⟨c.p, 0, none⟩), .int .i64 ((u + x.1 : Nat) : Int), .int .i64 ((v + x.2 : Nat) : Int)]) (enters_of Try.func23 (by kernel_rfl) rfl) (hρ _ _ rfl) ((cons2 (hρ _ _ rfl) (cons2 (hρ _ _ rfl) (cons2 (hρ _ _ rfl) rfl)))) rfl) (fun w hm => cat_in c (u + x.1) (v + x.2) w (hc.below hm.ext) (show u + x.1 < 8 * c.wd by omega) (show v + x.2 < 8 * c.hg by omega)) (by kernel_rfl) ?_
    refine G_step [0, 1, 2, 3, 4, 5, 6, 7, 8, 9, 10, 11, 22, 23, 24, 25] 26 [] (by kernel_rfl) (allM (all_cons (q_run (.pointer (some ⟨B4, 0, none⟩)) rfl rfl (wv_n rfl) rfl (fun _ _ hρ hm => r_load ag134 (hρ _ _ rfl) (hm.at 5 rfl) rfl)) (all_cons (q_run (.pointer (some ⟨B4, 0, none⟩)) rfl rfl (wv_n rfl) rfl (fun _ _ hρ _ => r_nilCheck (hρ _ _ rfl) rfl)) (all_cons (q_run (.pointer (some ⟨B4, 0, none⟩)) rfl rfl (wv_n rfl) rfl (fun _ _ hρ _ => r_fieldAddr fl138_0 sz75 (hρ _ _ rfl))) (all_cons (q_run (.pointer (some ⟨B4, 2, none⟩)) rfl rfl (wv_n rfl) rfl (fun _ _ hρ _ => r_fieldAddr fl75_2 sz71 (hρ _ _ rfl))) (all_cons (q_run (.slice (some ⟨g7, 0, none⟩) (p * q) cr2) rfl rfl (wv_n rfl) rfl (fun _ _ hρ hm => r_load ag71 (hρ _ _ rfl) (hm.at 4 rfl) rfl)) (all_cons (q_run (.pointer (some ⟨Bz, 1, none⟩)) rfl rfl (wv_n rfl) rfl (fun _ _ hρ _ => r_fieldAddr fl47_1 sz3 (hρ _ _ rfl))) (all_cons (q_run (.int .i64 ((x.2 : Nat) : Int)) rfl rfl (wv_n rfl) rfl (fun _ _ hρ hm => r_load ag3 (hρ _ _ rfl) (hm.at 11 rfl) rfl)) (all_cons (q_run (.int .i64 ((p : Nat) : Int)) rfl rfl (wv_n rfl) rfl (fun _ _ hρ hm => r_load ag3 (hρ _ _ rfl) (hm.old hW) rfl)) (all_cons (q_run (.int .i64 ((x.2 * p : Nat) : Int)) rfl rfl (wv_n rfl) rfl (fun _ _ hρ _ => r_as (r_mul (hρ _ _ rfl) (hρ _ _ rfl)) (int_as ((wrap64 (by omega) (by omega)).trans (by omega))))) (all_cons (q_run (.pointer (some ⟨Bz, 0, none⟩)) rfl rfl (wv_n rfl) rfl (fun _ _ hρ _ => r_fieldAddr fl47_0 sz3 (hρ _ _ rfl))) (all_cons (q_run (.int .i64 ((x.1 : Nat) : Int)) rfl rfl (wv_n rfl) rfl (fun _ _ hρ hm => r_load ag3 (hρ _ _ rfl) (hm.at 11 rfl) rfl)) (all_cons (q_run (.int .i64 ((x.2 * p + x.1 : Nat) : Int)) rfl rfl (wv_n rfl) rfl (fun _ _ hρ _ => r_as (r_add (hρ _ _ rfl) (hρ _ _ rfl)) (int_as ((wrap64 (by omega) (by omega)).trans (by omega))))) (all_cons (q_run (.tuple #[.agg #[.int .u8 ((colAt c.wd c.ts (u + x.1) (v + x.2)).r), .int .u8 ((colAt c.wd c.ts (u + x.1) (v + x.2)).g), .int .u8 ((colAt c.wd c.ts (u + x.1) (v + x.2)).b), .int .u8 ((colAt c.wd c.ts (u + x.1) (v + x.2)).a)], .bool true]) rfl rfl (wv_n rfl) rfl (fun _ _ hρ _ => r_move (hρ _ _ rfl))) (all_cons (q_run (.agg #[.int .u8 ((colAt c.wd c.ts (u + x.1) (v + x.2)).r), .int .u8 ((colAt c.wd c.ts (u + x.1) (v + x.2)).g), .int .u8 ((colAt c.wd c.ts (u + x.1) (v + x.2)).b), .int .u8 ((colAt c.wd c.ts (u + x.1) (v + x.2)).a)]) rfl rfl (wv_n rfl) rfl (fun _ _ hρ _ => r_extract (hρ _ _ rfl) rfl)) (all_cons (q_run (.bool true) rfl rfl (wv_n rfl) rfl (fun _ _ hρ _ => r_extract (hρ _ _ rfl) rfl)) (all_cons (q_run (.pointer (some ⟨g7, 0 + (x.2 * p + x.1) * 4, none⟩)) rfl rfl (wv_n rfl) rfl (fun _ _ hρ _ => r_indexAddrS (i := x.2 * p + x.1) sl71 sz37 (hρ _ _ rfl) (hρ _ _ rfl) (by omega))) all_nil))))))))))))))))) (allM (all_cons ?_ all_nil))
    refine LOb_storeRow (f := C4.cells) (l := (fillL (cutI c.wd c.ts u v p) (p * q) k)) (u := (colAt c.wd c.ts (u + x.1) (v + x.2))) (k := (x.2 * p + x.1)) 2 [] rfl (fillL_len _ _ _).symm rfl (wv_n rfl) rfl rfl sz37 C4.cells_len (by omega) rfl rfl (by kernel_rfl) ?_
    refine G_lastQ [24] [(5, .pointer (some ⟨B1, 0, none⟩))] (by kernel_rfl) (allM (all_cons (q_run (.bool true) rfl rfl (wv_n rfl) rfl (fun _ _ hρ _ => r_extract (hρ _ _ rfl) rfl)) all_nil)) (end_old rfl rfl end_nil) ?_
    refine p_blk_n ?_
    rw [cut_step hx1]
    exact p_round_n () trivial (sub_cons rfl (sub_cons rfl (sub_cons rfl (sub_cons rfl (sub_cons rfl (sub_cons rfl (sub_cons rfl (sub_cons rfl sub_nil))))))))
  · intro D1 _u hp1
    rw [ptsG_len]
    refine p_sub [(0, .pointer (some ⟨C, 0, none⟩)), (1, .pointer (some ⟨Wb, 0, none⟩)), (3, .pointer (some ⟨Xb, 0, none⟩)), (4, .pointer (some ⟨Yb, 0, none⟩)), (5, .pointer (some ⟨B1, 0, none⟩)), (10, .pointer (some ⟨B5, 0, none⟩)), (64, .func (.func 105) #[] #[.pointer (some ⟨q6, 0, none⟩)])] [(801, .blk D1 (.deferred (some []))), (6, .blk q6 (.cells #[.pointer (some ⟨B4, 0, none⟩)] 134)), (1, .blk B1 (.cells #[.int .i64 0, .int .i64 0, .slice none 0 0] 75)), (3, .blk B3 (.cells #[.int .i64 ((p : Nat) : Int), .int .i64 ((q : Nat) : Int), .slice (some ⟨g7, 0, none⟩) (p * q) cr2] 75)), (5, .blk B5 (.cells #[.pointer (some ⟨B4, 0, none⟩)] 134)), (2, .row (.slice (some ⟨g7, 0, none⟩) (p * q) cr2) 37 4 (p * q) ((fillL (cutI c.wd c.ts u v p) (p * q) (q * p)).flatMap C4.cells)), (4, .blk B4 (.cells #[.int .i64 ((p : Nat) : Int), .int .i64 ((q : Nat) : Int), .slice (some ⟨g7, 0, none⟩) (p * q) cr2] 138))] (sub_cons rfl (sub_cons rfl (sub_cons rfl (sub_cons rfl (sub_cons rfl (sub_cons rfl (sub_cons rfl sub_nil))))))) (sub_cons rfl (sub_cons rfl (sub_cons rfl (sub_cons rfl (sub_cons rfl (sub_cons rfl (sub_cons rfl sub_nil))))))) ?_
    refine p_blk_n ?_
    refine p_seq ?_
    refine T_seq (T_region ?_)
    refine TL_q (.pointer (some ⟨B4, 0, none⟩)) (fun _ _ hρ hm => r_load ag134 (hρ _ _ rfl) (hm.at 5 rfl) rfl) rfl rfl rfl (w_n rfl) ?_
    refine TL_q (.pointer (some ⟨B4, 0, none⟩)) (fun _ _ hρ _ => r_nilCheck (hρ _ _ rfl) rfl) rfl rfl rfl (w_n rfl) ?_
    refine TL_q (.pointer (some ⟨B4, 0, none⟩)) (fun _ _ hρ _ => r_fieldAddr fl138_0 sz75 (hρ _ _ rfl)) rfl rfl rfl (w_n rfl) ?_
    refine TL_q (.agg #[.int .i64 ((p : Nat) : Int), .int .i64 ((q : Nat) : Int), .slice (some ⟨g7, 0, none⟩) (p * q) cr2]) (fun _ _ hρ hm => r_loadA ag75 sz75 (hρ _ _ rfl) (hm.at 4 rfl) rfl rfl) rfl rfl rfl (w_n rfl) ?_
    refine TL_store 1 (.cells #[.int .i64 ((p : Nat) : Int), .int .i64 ((q : Nat) : Int), .slice (some ⟨g7, 0, none⟩) (p * q) cr2] 75) rfl (fun _ _ hρ hm => r_store sz75 (hρ _ _ rfl) (hρ _ _ rfl) (hm.at 1 rfl) rfl rfl rfl rfl) rfl rfl (w_n rfl) ?_
    refine TL_seq ?_
    refine T_ret' ?_
    refine ret_of1 801 D1 rfl rfl (.agg #[.int .i64 ((p : Nat) : Int), .int .i64 ((q : Nat) : Int), .slice (some ⟨g7, 0, none⟩) (p * q) cr2]) (fun tmps w hk hm => res1 rfl (res_cell (hk 5 _ rfl) (run_loadVar_agg ag75 sz75 (hm.at 1 rfl) (Nat.le_of_ble_eq_true rfl) rfl))) (fun w hm => ?_)
    have hrow := hm.row 2 rfl
    rw [cut_all] at hrow
    exact ⟨(some ⟨g7, 0, none⟩), cr2, by rw [show (cutL c.wd c.ts u v p q).length = p * q from by simp [cutL]], hm.ext, by rw [show (cutL c.wd c.ts u v p q).length = p * q from by simp [cutL]]; exact hrow⟩

set_option maxHeartbeats 1000000 in
theorem cut1_no (c : Cv) (C Wb Hb Xb Yb : Nat) (wi hi xi yi : Int) (w : World) (hc : CvAt w c) (hC : hp w C = some (.cells #[.pointer (some ⟨c.p, 0, none⟩)] 28)) (hW : hp w Wb = some (.cells #[.int .i64 wi] 3)) (hH : hp w Hb = some (.cells #[.int .i64 hi] 3)) (hX : hp w Xb = some (.cells #[.int .i64 xi] 3)) (hY : hp w Yb = some (.cells #[.int .i64 yi] 3)) (hno : ¬ (sideI wi = true ∧ sideI hi = true ∧ 0 ≤ xi ∧ 0 ≤ yi ∧ xi ≤ ((8 * c.wd : Nat) : Int) - wi ∧ yi ≤ ((8 * c.hg : Nat) : Int) - hi)) : Calls Try.prog 93 #[.pointer (some ⟨C, 0, none⟩), .pointer (some ⟨Wb, 0, none⟩), .pointer (some ⟨Hb, 0, none⟩), .pointer (some ⟨Xb, 0, none⟩), .pointer (some ⟨Yb, 0, none⟩)] w fun e w' => e = .panicked [{ v := .iface 29 (.int .i64 2), recovered := false }] ∧ Below w.heap.size w w' := by
  have hwd4 := hc.wd4
  have hhg4 := hc.hg4
  refine calls_of_T (l := [.pointer (some ⟨C, 0, none⟩), .pointer (some ⟨Wb, 0, none⟩), .pointer (some ⟨Hb, 0, none⟩), .pointer (some ⟨Xb, 0, none⟩), .pointer (some ⟨Yb, 0, none⟩)]) 96 Try.func93 rfl rfl rfl ?_
  show T _ _ _ [(0, .pointer (some ⟨C, 0, none⟩)), (1, .pointer (some ⟨Wb, 0, none⟩)), (2, .pointer (some ⟨Hb, 0, none⟩)), (3, .pointer (some ⟨Xb, 0, none⟩)), (4, .pointer (some ⟨Yb, 0, none⟩))] []
  refine T_seq (T_region ?_)
  refine TL_new 1 (.cells #[.int .i64 0, .int .i64 0, .slice none 0 0] 75) (fun B => .pointer (some ⟨B, 0, none⟩)) (fun _ _ _ _ => r_alloc (v := .agg #[.int .i64 0, .int .i64 0, .slice none 0 0]) (by kernel_rfl) rfl) rfl rfl rfl (w_n rfl) ?_
  intro B1
  refine TL_seq ?_
  refine T_seq (T_region ?_)
  refine TL_q (.pointer (some ⟨c.p, 0, none⟩)) (fun _ _ hρ hm => r_load ag28 (hρ _ _ rfl) (hm.old hC) rfl) rfl rfl rfl (w_n rfl) ?_
  refine TL_q (.bool true) (fun _ _ hρ _ => r_as (r_neqPn po28 (hρ _ _ rfl) (hρ _ _ rfl)) (by rfl)) rfl rfl rfl (w_n rfl) ?_
  refine TL_call (.tuple #[]) (fun _ _ hρ _ => r_call (args := [.bool true, .int .i64 1]) (enters_of Try.func94 (by kernel_rfl) rfl) (hρ _ _ rfl) ((cons2 (hρ _ _ rfl) (cons2 (hρ _ _ rfl) rfl))) rfl) (fun w _ => need_ok_st 1 w) rfl rfl rfl (w_n rfl) ?_
  refine TL_seq ?_
  refine T_seq (T_region ?_)
  refine TL_q (.pointer (some ⟨c.p, 0, none⟩)) (fun _ _ hρ hm => r_load ag28 (hρ _ _ rfl) (hm.old hC) rfl) rfl rfl rfl (w_n rfl) ?_
  refine TL_call (.tuple #[.int .i64 ((8 * c.wd : Nat) : Int), .int .i64 ((8 * c.hg : Nat) : Int)]) (fun _ _ hρ _ => r_call (args := [.pointer (some ⟨c.p, 0, none⟩)]) (enters_of Try.func32 (by kernel_rfl) rfl) (hρ _ _ rfl) ((cons2 (hρ _ _ rfl) rfl)) rfl) (fun w hm => size_c c w (hc.below hm.ext)) rfl rfl rfl (w_n rfl) ?_
  refine TL_q (.tuple #[.int .i64 ((8 * c.wd : Nat) : Int), .int .i64 ((8 * c.hg : Nat) : Int)]) (fun _ _ hρ _ => r_move (hρ _ _ rfl)) rfl rfl rfl (w_n rfl) ?_
  refine TL_q (.int .i64 ((8 * c.wd : Nat) : Int)) (fun _ _ hρ _ => r_extract (hρ _ _ rfl) rfl) rfl rfl rfl (w_n rfl) ?_
  refine TL_q (.int .i64 ((8 * c.hg : Nat) : Int)) (fun _ _ hρ _ => r_extract (hρ _ _ rfl) rfl) rfl rfl rfl (w_n rfl) ?_
  refine TL_q (.int .i64 ((8 * c.wd : Nat) : Int)) (fun _ _ hρ _ => r_assign (hρ _ _ rfl)) rfl rfl rfl (w_n rfl) ?_
  refine TL_q (.int .i64 ((8 * c.hg : Nat) : Int)) (fun _ _ hρ _ => r_assign (hρ _ _ rfl)) rfl rfl rfl (w_n rfl) ?_
  refine TL_seq ?_
  by_cases s1 : sideI wi = true
  · skip
    by_cases s2 : sideI hi = true
    · skip
      by_cases s3 : (0 : Int) ≤ xi
      · skip
        by_cases s4 : (0 : Int) ≤ yi
        · skip
          by_cases s5 : xi ≤ ((8 * c.wd : Nat) : Int) - wi
          · skip
            have s1b := of_decide_eq_true s1
            have s2b := of_decide_eq_true s2
            have s6 : ¬ yi ≤ ((8 * c.hg : Nat) : Int) - hi := fun e => hno ⟨s1, s2, s3, s4, s5, e⟩
            refine T_seq (T_region ?_)
            refine TL_q (.int .i64 wi) (fun _ _ hρ hm => r_load ag3 (hρ _ _ rfl) (hm.old hW) rfl) rfl rfl rfl (w_n rfl) ?_
            refine TL_call (.bool true) (fun _ _ hρ _ => r_call (args := [.int .i64 wi]) (enters_of Try.func81 (by kernel_rfl) rfl) (hρ _ _ rfl) ((cons2 (hρ _ _ rfl) rfl)) rfl) (fun w _ => (side_c wi w).mono fun _ _ h => ⟨h.1.trans (congrArg Ending.returned (bool_as s1)), h.2⟩) rfl rfl rfl (w_n rfl) ?_
            refine TL_q (.bool true) (fun _ _ hρ _ => r_move (hρ _ _ rfl)) rfl rfl rfl (w_n rfl) ?_
            refine TL_q (.int .i64 hi) (fun _ _ hρ hm => r_load ag3 (hρ _ _ rfl) (hm.old hH) rfl) rfl rfl rfl (want_y 22 rfl rfl rfl) ?_
            refine TL_call (.bool true) (fun _ _ hρ _ => r_call (args := [.int .i64 hi]) (enters_of Try.func81 (by kernel_rfl) rfl) (hρ _ _ rfl) ((cons2 (hρ _ _ rfl) rfl)) rfl) (fun w _ => (side_c hi w).mono fun _ _ h => ⟨h.1.trans (congrArg Ending.returned (bool_as s2)), h.2⟩) rfl rfl rfl (want_y 22 rfl rfl rfl) ?_
            refine TL_q (.bool true) (fun _ _ hρ _ => r_pick_t (hρ _ _ rfl) (hρ _ _ rfl)) rfl rfl rfl (w_n rfl) ?_
            refine TL_q (.bool true) (fun _ _ hρ _ => r_move (hρ _ _ rfl)) rfl rfl rfl (w_n rfl) ?_
            refine TL_q (.int .i64 xi) (fun _ _ hρ hm => r_load ag3 (hρ _ _ rfl) (hm.old hX) rfl) rfl rfl rfl (want_y 26 rfl rfl rfl) ?_
            refine TL_q (.bool true) (fun _ _ hρ _ => r_as (r_geq (hρ _ _ rfl) (hρ _ _ rfl)) (bool_as (decide_eq_true s3))) rfl rfl rfl (want_y 26 rfl rfl rfl) ?_
            refine TL_q (.bool true) (fun _ _ hρ _ => r_pick_t (hρ _ _ rfl) (hρ _ _ rfl)) rfl rfl rfl (w_n rfl) ?_
            refine TL_q (.bool true) (fun _ _ hρ _ => r_move (hρ _ _ rfl)) rfl rfl rfl (w_n rfl) ?_
            refine TL_q (.int .i64 yi) (fun _ _ hρ hm => r_load ag3 (hρ _ _ rfl) (hm.old hY) rfl) rfl rfl rfl (want_y 30 rfl rfl rfl) ?_
            refine TL_q (.bool true) (fun _ _ hρ _ => r_as (r_geq (hρ _ _ rfl) (hρ _ _ rfl)) (bool_as (decide_eq_true s4))) rfl rfl rfl (want_y 30 rfl rfl rfl) ?_
            refine TL_q (.bool true) (fun _ _ hρ _ => r_pick_t (hρ _ _ rfl) (hρ _ _ rfl)) rfl rfl rfl (w_n rfl) ?_
            refine TL_q (.bool true) (fun _ _ hρ _ => r_move (hρ _ _ rfl)) rfl rfl rfl (w_n rfl) ?_
            refine TL_q (.int .i64 xi) (fun _ _ hρ hm => r_load ag3 (hρ _ _ rfl) (hm.old hX) rfl) rfl rfl rfl (want_y 34 rfl rfl rfl) ?_
            refine TL_q (.int .i64 ((8 * c.wd : Nat) : Int)) (fun _ _ hρ _ => r_move (hρ _ _ rfl)) rfl rfl rfl (want_y 34 rfl rfl rfl) ?_
            refine TL_q (.int .i64 wi) (fun _ _ hρ hm => r_load ag3 (hρ _ _ rfl) (hm.old hW) rfl) rfl rfl rfl (want_y 34 rfl rfl rfl) ?_
            refine TL_q (.int .i64 (((8 * c.wd : Nat) : Int) - wi)) (fun _ _ hρ _ => r_as (r_sub (hρ _ _ rfl) (hρ _ _ rfl)) (int_as (wrap64 (by omega) (by omega)))) rfl rfl rfl (want_y 34 rfl rfl rfl) ?_
            refine TL_q (.bool true) (fun _ _ hρ _ => r_as (r_leq (hρ _ _ rfl) (hρ _ _ rfl)) (bool_as (decide_eq_true s5))) rfl rfl rfl (want_y 34 rfl rfl rfl) ?_
            refine TL_q (.bool true) (fun _ _ hρ _ => r_pick_t (hρ _ _ rfl) (hρ _ _ rfl)) rfl rfl rfl (w_n rfl) ?_
            refine TL_q (.bool true) (fun _ _ hρ _ => r_move (hρ _ _ rfl)) rfl rfl rfl (w_n rfl) ?_
            refine TL_q (.int .i64 yi) (fun _ _ hρ hm => r_load ag3 (hρ _ _ rfl) (hm.old hY) rfl) rfl rfl rfl (want_y 41 rfl rfl rfl) ?_
            refine TL_q (.int .i64 ((8 * c.hg : Nat) : Int)) (fun _ _ hρ _ => r_move (hρ _ _ rfl)) rfl rfl rfl (want_y 41 rfl rfl rfl) ?_
            refine TL_q (.int .i64 hi) (fun _ _ hρ hm => r_load ag3 (hρ _ _ rfl) (hm.old hH) rfl) rfl rfl rfl (want_y 41 rfl rfl rfl) ?_
            refine TL_q (.int .i64 (((8 * c.hg : Nat) : Int) - hi)) (fun _ _ hρ _ => r_as (r_sub (hρ _ _ rfl) (hρ _ _ rfl)) (int_as (wrap64 (by omega) (by omega)))) rfl rfl rfl (want_y 41 rfl rfl rfl) ?_
            refine TL_q (.bool false) (fun _ _ hρ _ => r_as (r_leq (hρ _ _ rfl) (hρ _ _ rfl)) (bool_as (decide_eq_false s6))) rfl rfl rfl (want_y 41 rfl rfl rfl) ?_
            refine TL_q (.bool false) (fun _ _ hρ _ => r_pick_t (hρ _ _ rfl) (hρ _ _ rfl)) rfl rfl rfl (w_n rfl) ?_
            refine TL_callQ (v := .iface 29 (.int .i64 2)) (fun _ _ hρ _ => r_call (args := [.bool false, .int .i64 2]) (enters_of Try.func94 (by kernel_rfl) rfl) (hρ _ _ rfl) ((cons2 (hρ _ _ rfl) (cons2 (hρ _ _ rfl) rfl))) rfl) (fun w _ => need_no_st 2 w) rfl (w_n rfl) ?_
            refine p_then_p ?_
            refine p_pan rfl (fun w hm => ?_)
            exact ⟨rfl, hm.ext⟩
          · skip
            have s1b := of_decide_eq_true s1
            have s2b := of_decide_eq_true s2
            refine T_seq (T_region ?_)
            refine TL_q (.int .i64 wi) (fun _ _ hρ hm => r_load ag3 (hρ _ _ rfl) (hm.old hW) rfl) rfl rfl rfl (w_n rfl) ?_
            refine TL_call (.bool true) (fun _ _ hρ _ => r_call (args := [.int .i64 wi]) (enters_of Try.func81 (by kernel_rfl) rfl) (hρ _ _ rfl) ((cons2 (hρ _ _ rfl) rfl)) rfl) (fun w _ => (side_c wi w).mono fun _ _ h => ⟨h.1.trans (congrArg Ending.returned (bool_as s1)), h.2⟩) rfl rfl rfl (w_n rfl) ?_
            refine TL_q (.bool true) (fun _ _ hρ _ => r_move (hρ _ _ rfl)) rfl rfl rfl (w_n rfl) ?_
            refine TL_q (.int .i64 hi) (fun _ _ hρ hm => r_load ag3 (hρ _ _ rfl) (hm.old hH) rfl) rfl rfl rfl (want_y 22 rfl rfl rfl) ?_
            refine TL_call (.bool true) (fun _ _ hρ _ => r_call (args := [.int .i64 hi]) (enters_of Try.func81 (by kernel_rfl) rfl) (hρ _ _ rfl) ((cons2 (hρ _ _ rfl) rfl)) rfl) (fun w _ => (side_c hi w).mono fun _ _ h => ⟨h.1.trans (congrArg Ending.returned (bool_as s2)), h.2⟩) rfl rfl rfl (want_y 22 rfl rfl rfl) ?_
            refine TL_q (.bool true) (fun _ _ hρ _ => r_pick_t (hρ _ _ rfl) (hρ _ _ rfl)) rfl rfl rfl (w_n rfl) ?_
            refine TL_q (.bool true) (fun _ _ hρ _ => r_move (hρ _ _ rfl)) rfl rfl rfl (w_n rfl) ?_
            refine TL_q (.int .i64 xi) (fun _ _ hρ hm => r_load ag3 (hρ _ _ rfl) (hm.old hX) rfl) rfl rfl rfl (want_y 26 rfl rfl rfl) ?_
            refine TL_q (.bool true) (fun _ _ hρ _ => r_as (r_geq (hρ _ _ rfl) (hρ _ _ rfl)) (bool_as (decide_eq_true s3))) rfl rfl rfl (want_y 26 rfl rfl rfl) ?_
            refine TL_q (.bool true) (fun _ _ hρ _ => r_pick_t (hρ _ _ rfl) (hρ _ _ rfl)) rfl rfl rfl (w_n rfl) ?_
            refine TL_q (.bool true) (fun _ _ hρ _ => r_move (hρ _ _ rfl)) rfl rfl rfl (w_n rfl) ?_
            refine TL_q (.int .i64 yi) (fun _ _ hρ hm => r_load ag3 (hρ _ _ rfl) (hm.old hY) rfl) rfl rfl rfl (want_y 30 rfl rfl rfl) ?_
            refine TL_q (.bool true) (fun _ _ hρ _ => r_as (r_geq (hρ _ _ rfl) (hρ _ _ rfl)) (bool_as (decide_eq_true s4))) rfl rfl rfl (want_y 30 rfl rfl rfl) ?_
            refine TL_q (.bool true) (fun _ _ hρ _ => r_pick_t (hρ _ _ rfl) (hρ _ _ rfl)) rfl rfl rfl (w_n rfl) ?_
            refine TL_q (.bool true) (fun _ _ hρ _ => r_move (hρ _ _ rfl)) rfl rfl rfl (w_n rfl) ?_
            refine TL_q (.int .i64 xi) (fun _ _ hρ hm => r_load ag3 (hρ _ _ rfl) (hm.old hX) rfl) rfl rfl rfl (want_y 34 rfl rfl rfl) ?_
            refine TL_q (.int .i64 ((8 * c.wd : Nat) : Int)) (fun _ _ hρ _ => r_move (hρ _ _ rfl)) rfl rfl rfl (want_y 34 rfl rfl rfl) ?_
            refine TL_q (.int .i64 wi) (fun _ _ hρ hm => r_load ag3 (hρ _ _ rfl) (hm.old hW) rfl) rfl rfl rfl (want_y 34 rfl rfl rfl) ?_
            refine TL_q (.int .i64 (((8 * c.wd : Nat) : Int) - wi)) (fun _ _ hρ _ => r_as (r_sub (hρ _ _ rfl) (hρ _ _ rfl)) (int_as (wrap64 (by omega) (by omega)))) rfl rfl rfl (want_y 34 rfl rfl rfl) ?_
            refine TL_q (.bool false) (fun _ _ hρ _ => r_as (r_leq (hρ _ _ rfl) (hρ _ _ rfl)) (bool_as (decide_eq_false s5))) rfl rfl rfl (want_y 34 rfl rfl rfl) ?_
            refine TL_q (.bool false) (fun _ _ hρ _ => r_pick_t (hρ _ _ rfl) (hρ _ _ rfl)) rfl rfl rfl (w_n rfl) ?_
            refine TL_q (.bool false) (fun _ _ hρ _ => r_move (hρ _ _ rfl)) rfl rfl rfl (w_n rfl) ?_
            refine TL_no rfl rfl (want_n 41 rfl rfl rfl) ?_
            refine TL_no rfl rfl (want_n 41 rfl rfl rfl) ?_
            refine TL_no rfl rfl (want_n 41 rfl rfl rfl) ?_
            refine TL_no rfl rfl (want_n 41 rfl rfl rfl) ?_
            refine TL_no rfl rfl (want_n 41 rfl rfl rfl) ?_
            refine TL_q (.bool false) (fun _ _ hρ _ => r_pick_f (hρ _ _ rfl) (hρ _ _ rfl)) rfl rfl rfl (w_n rfl) ?_
            refine TL_callQ (v := .iface 29 (.int .i64 2)) (fun _ _ hρ _ => r_call (args := [.bool false, .int .i64 2]) (enters_of Try.func94 (by kernel_rfl) rfl) (hρ _ _ rfl) ((cons2 (hρ _ _ rfl) (cons2 (hρ _ _ rfl) rfl))) rfl) (fun w _ => need_no_st 2 w) rfl (w_n rfl) ?_
            refine p_then_p ?_
            refine p_pan rfl (fun w hm => ?_)
            exact ⟨rfl, hm.ext⟩
        · skip
          have s1b := of_decide_eq_true s1
          have s2b := of_decide_eq_true s2
          refine T_seq (T_region ?_)
          refine TL_q (.int .i64 wi) (fun _ _ hρ hm => r_load ag3 (hρ _ _ rfl) (hm.old hW) rfl) rfl rfl rfl (w_n rfl) ?_
          refine TL_call (.bool true) (fun _ _ hρ _ => r_call (args := [.int .i64 wi]) (enters_of Try.func81 (by kernel_rfl) rfl) (hρ _ _ rfl) ((cons2 (hρ _ _ rfl) rfl)) rfl) (fun w _ => (side_c wi w).mono fun _ _ h => ⟨h.1.trans (congrArg Ending.returned (bool_as s1)), h.2⟩) rfl rfl rfl (w_n rfl) ?_
          refine TL_q (.bool true) (fun _ _ hρ _ => r_move (hρ _ _ rfl)) rfl rfl rfl (w_n rfl) ?_
          refine TL_q (.int .i64 hi) (fun _ _ hρ hm => r_load ag3 (hρ _ _ rfl) (hm.old hH) rfl) rfl rfl rfl (want_y 22 rfl rfl rfl) ?_
          refine TL_call (.bool true) (fun _ _ hρ _ => r_call (args := [.int .i64 hi]) (enters_of Try.func81 (by kernel_rfl) rfl) (hρ _ _ rfl) ((cons2 (hρ _ _ rfl) rfl)) rfl) (fun w _ => (side_c hi w).mono fun _ _ h => ⟨h.1.trans (congrArg Ending.returned (bool_as s2)), h.2⟩) rfl rfl rfl (want_y 22 rfl rfl rfl) ?_
          refine TL_q (.bool true) (fun _ _ hρ _ => r_pick_t (hρ _ _ rfl) (hρ _ _ rfl)) rfl rfl rfl (w_n rfl) ?_
          refine TL_q (.bool true) (fun _ _ hρ _ => r_move (hρ _ _ rfl)) rfl rfl rfl (w_n rfl) ?_
          refine TL_q (.int .i64 xi) (fun _ _ hρ hm => r_load ag3 (hρ _ _ rfl) (hm.old hX) rfl) rfl rfl rfl (want_y 26 rfl rfl rfl) ?_
          refine TL_q (.bool true) (fun _ _ hρ _ => r_as (r_geq (hρ _ _ rfl) (hρ _ _ rfl)) (bool_as (decide_eq_true s3))) rfl rfl rfl (want_y 26 rfl rfl rfl) ?_
          refine TL_q (.bool true) (fun _ _ hρ _ => r_pick_t (hρ _ _ rfl) (hρ _ _ rfl)) rfl rfl rfl (w_n rfl) ?_
          refine TL_q (.bool true) (fun _ _ hρ _ => r_move (hρ _ _ rfl)) rfl rfl rfl (w_n rfl) ?_
          refine TL_q (.int .i64 yi) (fun _ _ hρ hm => r_load ag3 (hρ _ _ rfl) (hm.old hY) rfl) rfl rfl rfl (want_y 30 rfl rfl rfl) ?_
          refine TL_q (.bool false) (fun _ _ hρ _ => r_as (r_geq (hρ _ _ rfl) (hρ _ _ rfl)) (bool_as (decide_eq_false s4))) rfl rfl rfl (want_y 30 rfl rfl rfl) ?_
          refine TL_q (.bool false) (fun _ _ hρ _ => r_pick_t (hρ _ _ rfl) (hρ _ _ rfl)) rfl rfl rfl (w_n rfl) ?_
          refine TL_q (.bool false) (fun _ _ hρ _ => r_move (hρ _ _ rfl)) rfl rfl rfl (w_n rfl) ?_
          refine TL_no rfl rfl (want_n 34 rfl rfl rfl) ?_
          refine TL_no rfl rfl (want_n 34 rfl rfl rfl) ?_
          refine TL_no rfl rfl (want_n 34 rfl rfl rfl) ?_
          refine TL_no rfl rfl (want_n 34 rfl rfl rfl) ?_
          refine TL_no rfl rfl (want_n 34 rfl rfl rfl) ?_
          refine TL_q (.bool false) (fun _ _ hρ _ => r_pick_f (hρ _ _ rfl) (hρ _ _ rfl)) rfl rfl rfl (w_n rfl) ?_
          refine TL_q (.bool false) (fun _ _ hρ _ => r_move (hρ _ _ rfl)) rfl rfl rfl (w_n rfl) ?_
          refine TL_no rfl rfl (want_n 41 rfl rfl rfl) ?_
          refine TL_no rfl rfl (want_n 41 rfl rfl rfl) ?_
          refine TL_no rfl rfl (want_n 41 rfl rfl rfl) ?_
          refine TL_no rfl rfl (want_n 41 rfl rfl rfl) ?_
          refine TL_no rfl rfl (want_n 41 rfl rfl rfl) ?_
          refine TL_q (.bool false) (fun _ _ hρ _ => r_pick_f (hρ _ _ rfl) (hρ _ _ rfl)) rfl rfl rfl (w_n rfl) ?_
          refine TL_callQ (v := .iface 29 (.int .i64 2)) (fun _ _ hρ _ => r_call (args := [.bool false, .int .i64 2]) (enters_of Try.func94 (by kernel_rfl) rfl) (hρ _ _ rfl) ((cons2 (hρ _ _ rfl) (cons2 (hρ _ _ rfl) rfl))) rfl) (fun w _ => need_no_st 2 w) rfl (w_n rfl) ?_
          refine p_then_p ?_
          refine p_pan rfl (fun w hm => ?_)
          exact ⟨rfl, hm.ext⟩
      · skip
        have s1b := of_decide_eq_true s1
        have s2b := of_decide_eq_true s2
        refine T_seq (T_region ?_)
        refine TL_q (.int .i64 wi) (fun _ _ hρ hm => r_load ag3 (hρ _ _ rfl) (hm.old hW) rfl) rfl rfl rfl (w_n rfl) ?_
        refine TL_call (.bool true) (fun _ _ hρ _ => r_call (args := [.int .i64 wi]) (enters_of Try.func81 (by kernel_rfl) rfl) (hρ _ _ rfl) ((cons2 (hρ _ _ rfl) rfl)) rfl) (fun w _ => (side_c wi w).mono fun _ _ h => ⟨h.1.trans (congrArg Ending.returned (bool_as s1)), h.2⟩) rfl rfl rfl (w_n rfl) ?_
        refine TL_q (.bool true) (fun _ _ hρ _ => r_move (hρ _ _ rfl)) rfl rfl rfl (w_n rfl) ?_
        refine TL_q (.int .i64 hi) (fun _ _ hρ hm => r_load ag3 (hρ _ _ rfl) (hm.old hH) rfl) rfl rfl rfl (want_y 22 rfl rfl rfl) ?_
        refine TL_call (.bool true) (fun _ _ hρ _ => r_call (args := [.int .i64 hi]) (enters_of Try.func81 (by kernel_rfl) rfl) (hρ _ _ rfl) ((cons2 (hρ _ _ rfl) rfl)) rfl) (fun w _ => (side_c hi w).mono fun _ _ h => ⟨h.1.trans (congrArg Ending.returned (bool_as s2)), h.2⟩) rfl rfl rfl (want_y 22 rfl rfl rfl) ?_
        refine TL_q (.bool true) (fun _ _ hρ _ => r_pick_t (hρ _ _ rfl) (hρ _ _ rfl)) rfl rfl rfl (w_n rfl) ?_
        refine TL_q (.bool true) (fun _ _ hρ _ => r_move (hρ _ _ rfl)) rfl rfl rfl (w_n rfl) ?_
        refine TL_q (.int .i64 xi) (fun _ _ hρ hm => r_load ag3 (hρ _ _ rfl) (hm.old hX) rfl) rfl rfl rfl (want_y 26 rfl rfl rfl) ?_
        refine TL_q (.bool false) (fun _ _ hρ _ => r_as (r_geq (hρ _ _ rfl) (hρ _ _ rfl)) (bool_as (decide_eq_false s3))) rfl rfl rfl (want_y 26 rfl rfl rfl) ?_
        refine TL_q (.bool false) (fun _ _ hρ _ => r_pick_t (hρ _ _ rfl) (hρ _ _ rfl)) rfl rfl rfl (w_n rfl) ?_
        refine TL_q (.bool false) (fun _ _ hρ _ => r_move (hρ _ _ rfl)) rfl rfl rfl (w_n rfl) ?_
        refine TL_no rfl rfl (want_n 30 rfl rfl rfl) ?_
        refine TL_no rfl rfl (want_n 30 rfl rfl rfl) ?_
        refine TL_q (.bool false) (fun _ _ hρ _ => r_pick_f (hρ _ _ rfl) (hρ _ _ rfl)) rfl rfl rfl (w_n rfl) ?_
        refine TL_q (.bool false) (fun _ _ hρ _ => r_move (hρ _ _ rfl)) rfl rfl rfl (w_n rfl) ?_
        refine TL_no rfl rfl (want_n 34 rfl rfl rfl) ?_
        refine TL_no rfl rfl (want_n 34 rfl rfl rfl) ?_
        refine TL_no rfl rfl (want_n 34 rfl rfl rfl) ?_
        refine TL_no rfl rfl (want_n 34 rfl rfl rfl) ?_
        refine TL_no rfl rfl (want_n 34 rfl rfl rfl) ?_
        refine TL_q (.bool false) (fun _ _ hρ _ => r_pick_f (hρ _ _ rfl) (hρ _ _ rfl)) rfl rfl rfl (w_n rfl) ?_
        refine TL_q (.bool false) (fun _ _ hρ _ => r_move (hρ _ _ rfl)) rfl rfl rfl (w_n rfl) ?_
        refine TL_no rfl rfl (want_n 41 rfl rfl rfl) ?_
        refine TL_no rfl rfl (want_n 41 rfl rfl rfl) ?_
        refine TL_no rfl rfl (want_n 41 rfl rfl rfl) ?_
        refine TL_no rfl rfl (want_n 41 rfl rfl rfl) ?_
        refine TL_no rfl rfl (want_n 41 rfl rfl rfl) ?_
        refine TL_q (.bool false) (fun _ _ hρ _ => r_pick_f (hρ _ _ rfl) (hρ _ _ rfl)) rfl rfl rfl (w_n rfl) ?_
        refine TL_callQ (v := .iface 29 (.int .i64 2)) (fun _ _ hρ _ => r_call (args := [.bool false, .int .i64 2]) (enters_of Try.func94 (by kernel_rfl) rfl) (hρ _ _ rfl) ((cons2 (hρ _ _ rfl) (cons2 (hρ _ _ rfl) rfl))) rfl) (fun w _ => need_no_st 2 w) rfl (w_n rfl) ?_
        refine p_then_p ?_
        refine p_pan rfl (fun w hm => ?_)
        exact ⟨rfl, hm.ext⟩
    · skip
      have s1b := of_decide_eq_true s1
      refine T_seq (T_region ?_)
      refine TL_q (.int .i64 wi) (fun _ _ hρ hm => r_load ag3 (hρ _ _ rfl) (hm.old hW) rfl) rfl rfl rfl (w_n rfl) ?_
      refine TL_call (.bool true) (fun _ _ hρ _ => r_call (args := [.int .i64 wi]) (enters_of Try.func81 (by kernel_rfl) rfl) (hρ _ _ rfl) ((cons2 (hρ _ _ rfl) rfl)) rfl) (fun w _ => (side_c wi w).mono fun _ _ h => ⟨h.1.trans (congrArg Ending.returned (bool_as s1)), h.2⟩) rfl rfl rfl (w_n rfl) ?_
      refine TL_q (.bool true) (fun _ _ hρ _ => r_move (hρ _ _ rfl)) rfl rfl rfl (w_n rfl) ?_
      refine TL_q (.int .i64 hi) (fun _ _ hρ hm => r_load ag3 (hρ _ _ rfl) (hm.old hH) rfl) rfl rfl rfl (want_y 22 rfl rfl rfl) ?_
      refine TL_call (.bool false) (fun _ _ hρ _ => r_call (args := [.int .i64 hi]) (enters_of Try.func81 (by kernel_rfl) rfl) (hρ _ _ rfl) ((cons2 (hρ _ _ rfl) rfl)) rfl) (fun w _ => (side_c hi w).mono fun _ _ h => ⟨h.1.trans (congrArg Ending.returned (bool_as (eq_false_of_ne_true s2))), h.2⟩) rfl rfl rfl (want_y 22 rfl rfl rfl) ?_
      refine TL_q (.bool false) (fun _ _ hρ _ => r_pick_t (hρ _ _ rfl) (hρ _ _ rfl)) rfl rfl rfl (w_n rfl) ?_
      refine TL_q (.bool false) (fun _ _ hρ _ => r_move (hρ _ _ rfl)) rfl rfl rfl (w_n rfl) ?_
      refine TL_no rfl rfl (want_n 26 rfl rfl rfl) ?_
      refine TL_no rfl rfl (want_n 26 rfl rfl rfl) ?_
      refine TL_q (.bool false) (fun _ _ hρ _ => r_pick_f (hρ _ _ rfl) (hρ _ _ rfl)) rfl rfl rfl (w_n rfl) ?_
      refine TL_q (.bool false) (fun _ _ hρ _ => r_move (hρ _ _ rfl)) rfl rfl rfl (w_n rfl) ?_
      refine TL_no rfl rfl (want_n 30 rfl rfl rfl) ?_
      refine TL_no rfl rfl (want_n 30 rfl rfl rfl) ?_
      refine TL_q (.bool false) (fun _ _ hρ _ => r_pick_f (hρ _ _ rfl) (hρ _ _ rfl)) rfl rfl rfl (w_n rfl) ?_
      refine TL_q (.bool false) (fun _ _ hρ _ => r_move (hρ _ _ rfl)) rfl rfl rfl (w_n rfl) ?_
      refine TL_no rfl rfl (want_n 34 rfl rfl rfl) ?_
      refine TL_no rfl rfl (want_n 34 rfl rfl rfl) ?_
      refine TL_no rfl rfl (want_n 34 rfl rfl rfl) ?_
      refine TL_no rfl rfl (want_n 34 rfl rfl rfl) ?_
      refine TL_no rfl rfl (want_n 34 rfl rfl rfl) ?_
      refine TL_q (.bool false) (fun _ _ hρ _ => r_pick_f (hρ _ _ rfl) (hρ _ _ rfl)) rfl rfl rfl (w_n rfl) ?_
      refine TL_q (.bool false) (fun _ _ hρ _ => r_move (hρ _ _ rfl)) rfl rfl rfl (w_n rfl) ?_
      refine TL_no rfl rfl (want_n 41 rfl rfl rfl) ?_
      refine TL_no rfl rfl (want_n 41 rfl rfl rfl) ?_
      refine TL_no rfl rfl (want_n 41 rfl rfl rfl) ?_
      refine TL_no rfl rfl (want_n 41 rfl rfl rfl) ?_
      refine TL_no rfl rfl (want_n 41 rfl rfl rfl) ?_
      refine TL_q (.bool false) (fun _ _ hρ _ => r_pick_f (hρ _ _ rfl) (hρ _ _ rfl)) rfl rfl rfl (w_n rfl) ?_
      refine TL_callQ (v := .iface 29 (.int .i64 2)) (fun _ _ hρ _ => r_call (args := [.bool false, .int .i64 2]) (enters_of Try.func94 (by kernel_rfl) rfl) (hρ _ _ rfl) ((cons2 (hρ _ _ rfl) (cons2 (hρ _ _ rfl) rfl))) rfl) (fun w _ => need_no_st 2 w) rfl (w_n rfl) ?_
      refine p_then_p ?_
      refine p_pan rfl (fun w hm => ?_)
      exact ⟨rfl, hm.ext⟩
  · skip
    refine T_seq (T_region ?_)
    refine TL_q (.int .i64 wi) (fun _ _ hρ hm => r_load ag3 (hρ _ _ rfl) (hm.old hW) rfl) rfl rfl rfl (w_n rfl) ?_
    refine TL_call (.bool false) (fun _ _ hρ _ => r_call (args := [.int .i64 wi]) (enters_of Try.func81 (by kernel_rfl) rfl) (hρ _ _ rfl) ((cons2 (hρ _ _ rfl) rfl)) rfl) (fun w _ => (side_c wi w).mono fun _ _ h => ⟨h.1.trans (congrArg Ending.returned (bool_as (eq_false_of_ne_true s1))), h.2⟩) rfl rfl rfl (w_n rfl) ?_
    refine TL_q (.bool false) (fun _ _ hρ _ => r_move (hρ _ _ rfl)) rfl rfl rfl (w_n rfl) ?_
    refine TL_no rfl rfl (want_n 22 rfl rfl rfl) ?_
    refine TL_no rfl rfl (want_n 22 rfl rfl rfl) ?_
    refine TL_q (.bool false) (fun _ _ hρ _ => r_pick_f (hρ _ _ rfl) (hρ _ _ rfl)) rfl rfl rfl (w_n rfl) ?_
    refine TL_q (.bool false) (fun _ _ hρ _ => r_move (hρ _ _ rfl)) rfl rfl rfl (w_n rfl) ?_
    refine TL_no rfl rfl (want_n 26 rfl rfl rfl) ?_
    refine TL_no rfl rfl (want_n 26 rfl rfl rfl) ?_
    refine TL_q (.bool false) (fun _ _ hρ _ => r_pick_f (hρ _ _ rfl) (hρ _ _ rfl)) rfl rfl rfl (w_n rfl) ?_
    refine TL_q (.bool false) (fun _ _ hρ _ => r_move (hρ _ _ rfl)) rfl rfl rfl (w_n rfl) ?_
    refine TL_no rfl rfl (want_n 30 rfl rfl rfl) ?_
    refine TL_no rfl rfl (want_n 30 rfl rfl rfl) ?_
    refine TL_q (.bool false) (fun _ _ hρ _ => r_pick_f (hρ _ _ rfl) (hρ _ _ rfl)) rfl rfl rfl (w_n rfl) ?_
    refine TL_q (.bool false) (fun _ _ hρ _ => r_move (hρ _ _ rfl)) rfl rfl rfl (w_n rfl) ?_
    refine TL_no rfl rfl (want_n 34 rfl rfl rfl) ?_
    refine TL_no rfl rfl (want_n 34 rfl rfl rfl) ?_
    refine TL_no rfl rfl (want_n 34 rfl rfl rfl) ?_
    refine TL_no rfl rfl (want_n 34 rfl rfl rfl) ?_
    refine TL_no rfl rfl (want_n 34 rfl rfl rfl) ?_
    refine TL_q (.bool false) (fun _ _ hρ _ => r_pick_f (hρ _ _ rfl) (hρ _ _ rfl)) rfl rfl rfl (w_n rfl) ?_
    refine TL_q (.bool false) (fun _ _ hρ _ => r_move (hρ _ _ rfl)) rfl rfl rfl (w_n rfl) ?_
    refine TL_no rfl rfl (want_n 41 rfl rfl rfl) ?_
    refine TL_no rfl rfl (want_n 41 rfl rfl rfl) ?_
    refine TL_no rfl rfl (want_n 41 rfl rfl rfl) ?_
    refine TL_no rfl rfl (want_n 41 rfl rfl rfl) ?_
    refine TL_no rfl rfl (want_n 41 rfl rfl rfl) ?_
    refine TL_q (.bool false) (fun _ _ hρ _ => r_pick_f (hρ _ _ rfl) (hρ _ _ rfl)) rfl rfl rfl (w_n rfl) ?_
    refine TL_callQ (v := .iface 29 (.int .i64 2)) (fun _ _ hρ _ => r_call (args := [.bool false, .int .i64 2]) (enters_of Try.func94 (by kernel_rfl) rfl) (hρ _ _ rfl) ((cons2 (hρ _ _ rfl) (cons2 (hρ _ _ rfl) rfl))) rfl) (fun w _ => need_no_st 2 w) rfl (w_n rfl) ?_
    refine p_then_p ?_
    refine p_pan rfl (fun w hm => ?_)
    exact ⟨rfl, hm.ext⟩

theorem cut_ok (c : Cv) (u v p q : Nat) (w : World) (hc : CvAt w c) (hp8 : 1 ≤ p ∧ p ≤ 8) (hq8 : 1 ≤ q ∧ q ≤ 8) (hu : u + p ≤ 8 * c.wd) (hv : v + q ≤ 8 * c.hg) : Calls Try.prog 59 #[.pointer (some ⟨c.p, 0, none⟩), .int .i64 (u : Int), .int .i64 (v : Int), .int .i64 (p : Int), .int .i64 (q : Int)] w fun e w' => ∃ a' cap', e = .returned (.tuple #[.agg #[.int .i64 (p : Int), .int .i64 (q : Int), .slice a' (cutL c.wd c.ts u v p q).length cap'], .int .i64 0]) ∧ Below w.heap.size w w' ∧ w'.ownsRow w.heap.size 37 4 (.slice a' (cutL c.wd c.ts u v p q).length cap') (cutL c.wd c.ts u v p q).length ((cutL c.wd c.ts u v p q).flatMap C4.cells) := by
  refine calls_of_T (l := [.pointer (some ⟨c.p, 0, none⟩), .int .i64 ((u : Nat) : Int), .int .i64 ((v : Nat) : Int), .int .i64 ((p : Nat) : Int), .int .i64 ((q : Nat) : Int)]) 16 Try.func59 rfl rfl rfl ?_
  show T _ _ _ [(0, .pointer (some ⟨c.p, 0, none⟩)), (1, .int .i64 ((u : Nat) : Int)), (2, .int .i64 ((v : Nat) : Int)), (3, .int .i64 ((p : Nat) : Int)), (4, .int .i64 ((q : Nat) : Int))] []
  refine T_seq (T_region ?_)
  refine TL_new 1 (.cells #[.pointer (some ⟨c.p, 0, none⟩)] 28) (fun B => .pointer (some ⟨B, 0, none⟩)) (fun _ _ hρ _ => r_box (hρ _ _ rfl) rfl) rfl rfl rfl (w_n rfl) ?_
  intro B1
  refine TL_new 2 (.cells #[.int .i64 ((u : Nat) : Int)] 3) (fun B => .pointer (some ⟨B, 0, none⟩)) (fun _ _ hρ _ => r_box (hρ _ _ rfl) rfl) rfl rfl rfl (w_n rfl) ?_
  intro B2
  refine TL_new 3 (.cells #[.int .i64 ((v : Nat) : Int)] 3) (fun B => .pointer (some ⟨B, 0, none⟩)) (fun _ _ hρ _ => r_box (hρ _ _ rfl) rfl) rfl rfl rfl (w_n rfl) ?_
  intro B3
  refine TL_new 4 (.cells #[.int .i64 ((p : Nat) : Int)] 3) (fun B => .pointer (some ⟨B, 0, none⟩)) (fun _ _ hρ _ => r_box (hρ _ _ rfl) rfl) rfl rfl rfl (w_n rfl) ?_
  intro B4
  refine TL_new 5 (.cells #[.int .i64 ((q : Nat) : Int)] 3) (fun B => .pointer (some ⟨B, 0, none⟩)) (fun _ _ hρ _ => r_box (hρ _ _ rfl) rfl) rfl rfl rfl (w_n rfl) ?_
  intro B5
  refine TL_new 6 (.cells #[.int .i64 0, .int .i64 0, .slice none 0 0] 75) (fun B => .pointer (some ⟨B, 0, none⟩)) (fun _ _ _ _ => r_alloc (v := .agg #[.int .i64 0, .int .i64 0, .slice none 0 0]) (by kernel_rfl) rfl) rfl rfl rfl (w_n rfl) ?_
  intro B6
  refine TL_q (.int .i64 0) (fun _ _ hρ _ => r_assign (hρ _ _ rfl)) rfl rfl rfl (w_n rfl) ?_
  refine TL_seq ?_
  refine T_seq (T_region ?_)
  refine TL_q (.func (.func 93) #[] #[.pointer (some ⟨B1, 0, none⟩), .pointer (some ⟨B4, 0, none⟩), .pointer (some ⟨B5, 0, none⟩), .pointer (some ⟨B2, 0, none⟩), .pointer (some ⟨B3, 0, none⟩)]) (fun _ _ hρ _ => r_makeFunc (by simp) (map_arr (cons2 (hρ _ _ rfl) (cons2 (hρ _ _ rfl) (cons2 (hρ _ _ rfl) (cons2 (hρ _ _ rfl) (cons2 (hρ _ _ rfl) rfl))))))) rfl rfl rfl (w_n rfl) ?_
  refine TL_callN (fun (_ : Option Addr × Nat) => True) (fun (ar7, cr7) => .tuple #[.agg #[.int .i64 ((p : Nat) : Int), .int .i64 ((q : Nat) : Int), .slice ar7 ((cutL c.wd c.ts u v p q).length) cr7], .int .i64 0]) (fun (ar7, cr7) => [(7, .row (.slice ar7 ((cutL c.wd c.ts u v p q).length) cr7) 37 4 ((cutL c.wd c.ts u v p q).length) ((cutL c.wd c.ts u v p q).flatMap C4.cells))]) (fun _ _ hρ _ => r_call (args := [.func (.func 93) #[] #[.pointer (some ⟨B1, 0, none⟩), .pointer (some ⟨B4, 0, none⟩), .pointer (some ⟨B5, 0, none⟩), .pointer (some ⟨B2, 0, none⟩), .pointer (some ⟨B3, 0, none⟩)]]) (enters_of Try.func83 (by kernel_rfl) rfl) (hρ _ _ rfl) ((cons2 (hρ _ _ rfl) rfl)) rfl) (fun w hm => trSW_ok 93 #[.pointer (some ⟨B1, 0, none⟩), .pointer (some ⟨B4, 0, none⟩), .pointer (some ⟨B5, 0, none⟩), .pointer (some ⟨B2, 0, none⟩), .pointer (some ⟨B3, 0, none⟩)] (fun (_ : Option Addr × Nat) => True) (fun _ => ((p : Nat) : Int)) (fun _ => ((q : Nat) : Int)) (fun z => z.1) (fun _ => (cutL c.wd c.ts u v p q).length) (fun z => z.2) (fun z => [(7, .row (.slice z.1 ((cutL c.wd c.ts u v p q).length) z.2) 37 4 ((cutL c.wd c.ts u v p q).length) ((cutL c.wd c.ts u v p q).flatMap C4.cells))]) w (enters_of Try.func93 (by kernel_rfl) rfl) (fun _ => rfl) (fun _ => rfl) (fun w2 hb => (cut1_ok c B1 B4 B5 B2 B3 p q u v w2 ((hc.below hm.ext).below hb) (kept hb (hm.at 1 rfl)) (kept hb (hm.at 4 rfl)) (kept hb (hm.at 5 rfl)) (kept hb (hm.at 2 rfl)) (kept hb (hm.at 3 rfl)) hp8 hq8 hu hv).mono fun e w' ⟨a', cap', he, hb2, hr⟩ => ⟨(a', cap'), trivial, he, hb2, newOk1 7 hr⟩)) rfl rfl rfl (w_n rfl) ?_
  rintro ⟨ar7, cr7⟩ -
  refine TL_q (.agg #[.int .i64 ((p : Nat) : Int), .int .i64 ((q : Nat) : Int), .slice ar7 ((cutL c.wd c.ts u v p q).length) cr7]) (fun _ _ hρ _ => r_extract (hρ _ _ rfl) rfl) rfl rfl rfl (w_n rfl) ?_
  refine TL_q (.int .i64 0) (fun _ _ hρ _ => r_extract (hρ _ _ rfl) rfl) rfl rfl rfl (w_n rfl) ?_
  refine TL_store 6 (.cells #[.int .i64 ((p : Nat) : Int), .int .i64 ((q : Nat) : Int), .slice ar7 ((cutL c.wd c.ts u v p q).length) cr7] 75) rfl (fun _ _ hρ hm => r_store sz75 (hρ _ _ rfl) (hρ _ _ rfl) (hm.at 6 rfl) rfl rfl rfl rfl) rfl rfl (w_n rfl) ?_
  refine TL_q (.int .i64 0) (fun _ _ hρ _ => r_assign (hρ _ _ rfl)) rfl rfl rfl (w_n rfl) ?_
  refine TL_seq ?_
  refine T_ret' ?_
  refine ret_of rfl (.tuple #[.agg #[.int .i64 ((p : Nat) : Int), .int .i64 ((q : Nat) : Int), .slice ar7 ((cutL c.wd c.ts u v p q).length) cr7], .int .i64 0]) (fun tmps w hk hm => res2 rfl (res_cell (hk 10 _ rfl) (run_loadVar_agg ag75 sz75 (hm.at 6 rfl) (Nat.le_of_ble_eq_true rfl) rfl)) (res_tmp (hk 11 _ rfl))) (fun w hm => ?_)
  exact ⟨ar7, cr7, rfl, hm.ext, hm.row 7 rfl⟩

theorem cut_no (c : Cv) (xi yi wi hi : Int) (w : World) (hc : CvAt w c) (hno : ¬ (sideI wi = true ∧ sideI hi = true ∧ 0 ≤ xi ∧ 0 ≤ yi ∧ xi ≤ ((8 * c.wd : Nat) : Int) - wi ∧ yi ≤ ((8 * c.hg : Nat) : Int) - hi)) : Calls Try.prog 59 #[.pointer (some ⟨c.p, 0, none⟩), .int .i64 xi, .int .i64 yi, .int .i64 wi, .int .i64 hi] w fun e w' => e = .returned (.tuple #[.agg #[.int .i64 0, .int .i64 0, .slice none 0 0], .int .i64 2]) ∧ Below w.heap.size w w' := by
  refine calls_of_T (l := [.pointer (some ⟨c.p, 0, none⟩), .int .i64 xi, .int .i64 yi, .int .i64 wi, .int .i64 hi]) 16 Try.func59 rfl rfl rfl ?_
  show T _ _ _ [(0, .pointer (some ⟨c.p, 0, none⟩)), (1, .int .i64 xi), (2, .int .i64 yi), (3, .int .i64 wi), (4, .int .i64 hi)] []
  refine T_seq (T_region ?_)
  refine TL_new 1 (.cells #[.pointer (some ⟨c.p, 0, none⟩)] 28) (fun B => .pointer (some ⟨B, 0, none⟩)) (fun _ _ hρ _ => r_box (hρ _ _ rfl) rfl) rfl rfl rfl (w_n rfl) ?_
  intro B1
  refine TL_new 2 (.cells #[.int .i64 xi] 3) (fun B => .pointer (some ⟨B, 0, none⟩)) (fun _ _ hρ _ => r_box (hρ _ _ rfl) rfl) rfl rfl rfl (w_n rfl) ?_
  intro B2
  refine TL_new 3 (.cells #[.int .i64 yi] 3) (fun B => .pointer (some ⟨B, 0, none⟩)) (fun _ _ hρ _ => r_box (hρ _ _ rfl) rfl) rfl rfl rfl (w_n rfl) ?_
  intro B3
  refine TL_new 4 (.cells #[.int .i64 wi] 3) (fun B => .pointer (some ⟨B, 0, none⟩)) (fun _ _ hρ _ => r_box (hρ _ _ rfl) rfl) rfl rfl rfl (w_n rfl) ?_
  intro B4
  refine TL_new 5 (.cells #[.int .i64 hi] 3) (fun B => .pointer (some ⟨B, 0, none⟩)) (fun _ _ hρ _ => r_box (hρ _ _ rfl) rfl) rfl rfl rfl (w_n rfl) ?_
  intro B5
  refine TL_new 6 (.cells #[.int .i64 0, .int .i64 0, .slice none 0 0] 75) (fun B => .pointer (some ⟨B, 0, none⟩)) (fun _ _ _ _ => r_alloc (v := .agg #[.int .i64 0, .int .i64 0, .slice none 0 0]) (by kernel_rfl) rfl) rfl rfl rfl (w_n rfl) ?_
  intro B6
  refine TL_q (.int .i64 0) (fun _ _ hρ _ => r_assign (hρ _ _ rfl)) rfl rfl rfl (w_n rfl) ?_
  refine TL_seq ?_
  refine T_seq (T_region ?_)
  refine TL_q (.func (.func 93) #[] #[.pointer (some ⟨B1, 0, none⟩), .pointer (some ⟨B4, 0, none⟩), .pointer (some ⟨B5, 0, none⟩), .pointer (some ⟨B2, 0, none⟩), .pointer (some ⟨B3, 0, none⟩)]) (fun _ _ hρ _ => r_makeFunc (by simp) (map_arr (cons2 (hρ _ _ rfl) (cons2 (hρ _ _ rfl) (cons2 (hρ _ _ rfl) (cons2 (hρ _ _ rfl) (cons2 (hρ _ _ rfl) rfl))))))) rfl rfl rfl (w_n rfl) ?_
  refine TL_call (.tuple #[.agg #[.int .i64 0, .int .i64 0, .slice none 0 0], .int .i64 2]) (fun _ _ hρ _ => r_call (args := [.func (.func 93) #[] #[.pointer (some ⟨B1, 0, none⟩), .pointer (some ⟨B4, 0, none⟩), .pointer (some ⟨B5, 0, none⟩), .pointer (some ⟨B2, 0, none⟩), .pointer (some ⟨B3, 0, none⟩)]]) (enters_of Try.func83 (by kernel_rfl) rfl) (hρ _ _ rfl) ((cons2 (hρ _ _ rfl) rfl)) rfl) (fun w hm => trSW_no 93 #[.pointer (some ⟨B1, 0, none⟩), .pointer (some ⟨B4, 0, none⟩), .pointer (some ⟨B5, 0, none⟩), .pointer (some ⟨B2, 0, none⟩), .pointer (some ⟨B3, 0, none⟩)] 2 w (enters_of Try.func93 (by kernel_rfl) rfl) (fun w2 hb => cut1_no c B1 B4 B5 B2 B3 wi hi xi yi w2 ((hc.below hm.ext).below hb) (kept hb (hm.at 1 rfl)) (kept hb (hm.at 4 rfl)) (kept hb (hm.at 5 rfl)) (kept hb (hm.at 2 rfl)) (kept hb (hm.at 3 rfl)) hno)) rfl rfl rfl (w_n rfl) ?_
  refine TL_q (.agg #[.int .i64 0, .int .i64 0, .slice none 0 0]) (fun _ _ hρ _ => r_extract (hρ _ _ rfl) rfl) rfl rfl rfl (w_n rfl) ?_
  refine TL_q (.int .i64 2) (fun _ _ hρ _ => r_extract (hρ _ _ rfl) rfl) rfl rfl rfl (w_n rfl) ?_
  refine TL_store 6 (.cells #[.int .i64 0, .int .i64 0, .slice none 0 0] 75) rfl (fun _ _ hρ hm => r_store sz75 (hρ _ _ rfl) (hρ _ _ rfl) (hm.at 6 rfl) rfl rfl rfl rfl) rfl rfl (w_n rfl) ?_
  refine TL_q (.int .i64 2) (fun _ _ hρ _ => r_assign (hρ _ _ rfl)) rfl rfl rfl (w_n rfl) ?_
  refine TL_seq ?_
  refine T_ret' ?_
  refine ret_of rfl (.tuple #[.agg #[.int .i64 0, .int .i64 0, .slice none 0 0], .int .i64 2]) (fun tmps w hk hm => res2 rfl (res_cell (hk 10 _ rfl) (run_loadVar_agg ag75 sz75 (hm.at 6 rfl) (Nat.le_of_ble_eq_true rfl) rfl)) (res_tmp (hk 11 _ rfl))) (fun w hm => ?_)
  exact ⟨rfl, hm.ext⟩

end Go.Proofs.Ytbiapeaghbndoaa
/- stamp: a canvas that is one's own but for what was there. -/
namespace Go.Proofs.Ytbiapeaghbndoaa
open Go Go.RowKit
/-- The canvas z, of which some blocks were there at w₀. -/
abbrev Res.cvO (w₀ : World) (z : Cv) : Res := .abs (fun b => z.foot b ∧ w₀.heap.size ≤ b) (fun w => ∀ w', (∀ b, z.foot b → w₀.heap.size ≤ b → hp w' b = hp w b) → (∀ b, b < w₀.heap.size → hp w' b = hp w₀ b) → CvAt w' z)
theorem cvO_keep {w₀ : World} {z : Cv} (w1 w2 : World) (h : ∀ w', (∀ b, z.foot b → w₀.heap.size ≤ b → hp w' b = hp w1 b) → (∀ b, b < w₀.heap.size → hp w' b = hp w₀ b) → CvAt w' z) (hb : ∀ b, z.foot b ∧ w₀.heap.size ≤ b → hp w2 b = hp w1 b) :
    ∀ w', (∀ b, z.foot b → w₀.heap.size ≤ b → hp w' b = hp w2 b) → (∀ b, b < w₀.heap.size → hp w' b = hp w₀ b) → CvAt w' z :=
  fun w' h1 h2 => h w' (fun b hf hn => (h1 b hf hn).trans (hb b ⟨hf, hn⟩)) h2
theorem MemOk.cvO0 {w₀ w : World} {L : Heap} (h : MemOk w₀ L w) (k : Nat) {c : Cv} (hc : CvAt w₀ c) : MemOk w₀ ((k, .cvO w₀ c) :: L) w := by
  refine h.set k _ h.ext ⟨fun w' _ h2 => hc.keep fun b hf => h2 b (hc.low hf), ?_, cvO_keep⟩ (fun _ _ _ _ b _ => ⟨rfl, ?_⟩)
  · rintro b ⟨hf, hn⟩
    have := hc.low hf
    omega
  · rintro ⟨hf, hn⟩
    have := hc.low hf
    omega
theorem MemOk.cvOat {w₀ w : World} {L : Heap} (h : MemOk w₀ L w) (k : Nat) {z : Cv} (hk : lk L k = some (.cvO w₀ z)) : CvAt w z := (h.own k _ hk).1 w (fun _ _ _ => rfl) (fun b hb => h.ext.block b hb)
theorem MemOk.cvOnew {w₀ w w' : World} {L : Heap} (h : MemOk w₀ L w) (k : Nat) {z d : Cv} (hk : lk L k = some (.cvO w₀ z)) (hd : CvNew w w' [z] d) : MemOk w₀ ((k, .cvO w₀ d) :: L) w' := by
  have hm := h.below hd.below
  have ok := h.own k _ hk
  have hfoot : ∀ b, d.foot b → w.heap.size ≤ b ∨ z.foot b := fun b hb => (hd.foot b hb).imp id fun ⟨c, hc, hcf⟩ => by rw [List.mem_singleton.1 hc] at hcf; exact hcf
  refine hm.set k _ hm.ext ⟨fun w2 h1 h2 => hd.at'.keep fun b hf => ?_, ?_, cvO_keep⟩ (fun i r hi hne b hr => ⟨rfl, ?_⟩)
  · rcases Nat.lt_or_ge b w₀.heap.size with hlt | hge
    · rw [h2 b hlt]; exact (hm.ext.block b hlt).symm
    · exact h1 b hf hge
  · rintro b ⟨hf, hn⟩
    exact ⟨hn, hd.at'.low hf⟩
  · rintro ⟨hf, hn⟩
    have hlt := (Res.low (h.own i r hi) hr).2
    rcases hfoot b hf with h1 | h1
    · omega
    · exact h.sep k i _ _ hk hi (Ne.symm hne) b ⟨h1, hn⟩ hr
/-- Each block of z is new, or c's. -/
def OldIn (w₀ : World) (c z : Cv) : Prop := ∀ b, z.foot b → w₀.heap.size ≤ b ∨ c.foot b
theorem OldIn.refl (w₀ : World) (c : Cv) : OldIn w₀ c c := fun _ h => .inr h
theorem OldIn.step {w₀ w w' : World} {c z d : Cv} (h : OldIn w₀ c z) (hw : w₀.heap.size ≤ w.heap.size) (hd : CvNew w w' [z] d) : OldIn w₀ c d := fun b hb => by
  rcases hd.foot b hb with h1 | ⟨e, he, hef⟩
  · exact .inl (Nat.le_trans hw h1)
  · rw [List.mem_singleton.1 he] at hef; exact h b hef
theorem MemOk.cvOend {w₀ w : World} {L : Heap} (h : MemOk w₀ L w) (k : Nat) {c z : Cv} (hk : lk L k = some (.cvO w₀ z)) (ho : OldIn w₀ c z) : CvNew w₀ w [c] z :=
  ⟨h.ext, h.cvOat k hk, fun b hb => (ho b hb).imp id fun hc => ⟨c, List.mem_singleton.2 rfl, hc⟩⟩
/-! ### what is laid -/
/-- The dots of the first k places of a stamp that is laid at a point. -/
def layF (wd hg : Nat) (ts : List T64) (p : Nat) (px : List C4) (X Y : Int) (x : Nat × Nat) : Option Dt :=
  if onC wd hg (X + x.1) (Y + x.2) then some ⟨X + x.1, Y + x.2, overC (colI wd hg ts (X + x.1) (Y + x.2)) (get px (x.2 * p + x.1))⟩ else none
def layD (wd hg : Nat) (ts : List T64) (p q : Nat) (px : List C4) (X Y : Int) (k : Nat) : List Dt := ((ptsG p q).take k).filterMap (layF wd hg ts p px X Y)
theorem layD_y {wd hg p q k : Nat} {ts : List T64} {px : List C4} {X Y : Int} {x : Nat × Nat} {c : C4} (hx : (ptsG p q)[k]? = some x) (hc : px[x.2 * p + x.1]? = some c) (ho : onC wd hg (X + x.1) (Y + x.2) = true) :
    layD wd hg ts p q px X Y (k + 1) = layD wd hg ts p q px X Y k ++ [⟨X + x.1, Y + x.2, overC (colI wd hg ts (X + x.1) (Y + x.2)) c⟩] := by
  unfold layD
  rw [List.take_add_one, hx, List.filterMap_append]
  simp [layF, ho, get_of hc]
theorem layD_n {wd hg p q k : Nat} {ts : List T64} {px : List C4} {X Y : Int} {x : Nat × Nat} (hx : (ptsG p q)[k]? = some x) (ho : ¬ onC wd hg (X + x.1) (Y + x.2) = true) : layD wd hg ts p q px X Y (k + 1) = layD wd hg ts p q px X Y k := by
  unfold layD
  rw [List.take_add_one, hx, List.filterMap_append]
  simp [layF, ho]
theorem layD_le (wd hg : Nat) (ts : List T64) (p q : Nat) (px : List C4) (X Y : Int) (k : Nat) : (layD wd hg ts p q px X Y k).length ≤ k := by
  unfold layD
  exact Nat.le_trans (List.length_filterMap_le _ _) (by rw [List.length_take]; omega)
/-- All colours have parts that may be. -/
def TsOk (ts : List T64) : Prop := ∀ t ∈ ts, ∀ c ∈ t.l, c.ok
theorem get_ok {l : List C4} (h : ∀ c ∈ l, c.ok) (i : Nat) : (get l i).ok := by
  unfold get
  rw [List.getD_eq_getElem?_getD]
  cases e : l[i]? with
  | none => exact zeroC_ok
  | some c => exact h c (List.mem_of_getElem? e)
theorem tileAt_ok {ts : List T64} (h : TsOk ts) (i : Nat) : ∀ c ∈ (tileAt ts i).l, c.ok := by
  unfold tileAt
  rw [List.getD_eq_getElem?_getD]
  cases e : ts[i]? with
  | none =>
    intro c hc
    have : c = zeroC := List.eq_of_mem_replicate hc
    rw [this]; exact zeroC_ok
  | some t => exact h t (List.mem_of_getElem? e)
theorem colI_ok {wd hg : Nat} {ts : List T64} (h : TsOk ts) (x y : Int) : (colI wd hg ts x y).ok := by
  unfold colI
  split
  · exact get_ok (tileAt_ok h _) _
  · exact zeroC_ok
theorem putD_ok {wd hg : Nat} {ts : List T64} (h : TsOk ts) {d : Dt} (hd : d.c.ok) : TsOk (putD wd hg ts d) := by
  unfold putD
  split
  · intro t ht
    rcases List.mem_or_eq_of_mem_set ht with h1 | rfl
    · exact h t h1
    · intro c hc
      rcases List.mem_or_eq_of_mem_set (show c ∈ (tileAt ts _).l.set _ d.c from hc) with h2 | rfl
      · exact tileAt_ok h _ c h2
      · exact hd
  · exact h
theorem putDs_ok {wd hg : Nat} {ds : List Dt} : ∀ {ts : List T64}, TsOk ts → (∀ d ∈ ds, d.c.ok) → TsOk (putDs wd hg ts ds) := by
  induction ds with
  | nil => exact fun h _ => h
  | cons d ds ih => exact fun h hd => ih (putD_ok h (hd d (by simp))) fun e he => hd e (by simp [he])
theorem layD_ok {wd hg p q k : Nat} {ts : List T64} {px : List C4} {X Y : Int} (h : TsOk ts) (hpx : ∀ c ∈ px, c.ok) : ∀ d ∈ layD wd hg ts p q px X Y k, d.c.ok := by
  intro d hd
  unfold layD at hd
  obtain ⟨x, -, hx⟩ := List.mem_filterMap.1 hd
  unfold layF at hx
  split at hx
  · cases hx
    exact overC_ok (colI_ok h _ _) (get_ok hpx _)
  · cases hx
/-- What a stamp that is laid at points, one behind the other, comes to. -/
def lay1 (wd hg p q : Nat) (px : List C4) (ts : List T64) (u : Pt) : List T64 := putDs wd hg ts (layD wd hg ts p q px u.x u.y (q * p))
def layN (wd hg p q : Nat) (px : List C4) (ts : List T64) (l : List Pt) : List T64 := l.foldl (lay1 wd hg p q px) ts
theorem layN_step {wd hg p q k : Nat} {px : List C4} {ts : List T64} {l : List Pt} {u : Pt} (h : l[k]? = some u) : layN wd hg p q px ts (l.take (k + 1)) = lay1 wd hg p q px (layN wd hg p q px ts (l.take k)) u := by
  unfold layN
  rw [List.take_add_one, h, List.foldl_append]; rfl
theorem lay1_ok {wd hg p q : Nat} {px : List C4} {ts : List T64} {u : Pt} (h : TsOk ts) (hpx : ∀ c ∈ px, c.ok) : TsOk (lay1 wd hg p q px ts u) := putDs_ok h (layD_ok h hpx)
theorem layN_ok {wd hg p q : Nat} {px : List C4} (hpx : ∀ c ∈ px, c.ok) : ∀ {l : List Pt} {ts : List T64}, TsOk ts → TsOk (layN wd hg p q px ts l) := by
  intro l
  induction l with
  | nil => exact fun h => h
  | cons u l ih => exact fun h => ih (lay1_ok h hpx)
theorem layD_far {wd hg p q : Nat} {ts : List T64} {px : List C4} {X Y : Int} (h : X ≤ -(p : Int) ∨ Y ≤ -(q : Int) ∨ ((8 * wd : Nat) : Int) ≤ X ∨ ((8 * hg : Nat) : Int) ≤ Y) (k : Nat) : layD wd hg ts p q px X Y k = [] := by
  unfold layD
  rw [List.filterMap_eq_nil_iff]
  intro x hx
  have hx2 := List.mem_of_mem_take hx
  obtain ⟨i, hi⟩ := List.getElem?_of_mem hx2
  obtain ⟨h1, h2, -, -⟩ := ptsG_in hi
  unfold layF
  rw [if_neg]
  intro ho
  have := of_decide_eq_true ho
  omega
theorem lay1_far {wd hg p q : Nat} {ts : List T64} {px : List C4} {u : Pt} (h : u.x ≤ -(p : Int) ∨ u.y ≤ -(q : Int) ∨ ((8 * wd : Nat) : Int) ≤ u.x ∨ ((8 * hg : Nat) : Int) ≤ u.y) : lay1 wd hg p q px ts u = ts := by
  unfold lay1
  rw [layD_far h]; rfl
end Go.Proofs.Ytbiapeaghbndoaa
/- Ranges over functions inside a loop: what they put off is collected, a block for each. Over any program. -/
namespace Go.Proofs.Ytbiapeaghbndoaa
open Go Go.RowKit
abbrev colD (D : Nat) : Deferred := { target := .collected D, args := #[] }
abbrev Res.gone : Res := .abs (fun _ => False) (fun _ => True)
/-- Blocks of which each holds nothing put off. -/
abbrev Res.dfs (ds : List Nat) : Res := .abs (fun b => b ∈ ds) (fun w => ds.Nodup ∧ ∀ D ∈ ds, hp w D = some (.deferred (some [])))
theorem dfs_keep {ds : List Nat} (w1 w2 : World) (h : ds.Nodup ∧ ∀ D ∈ ds, hp w1 D = some (.deferred (some []))) (hb : ∀ b, b ∈ ds → hp w2 b = hp w1 b) : ds.Nodup ∧ ∀ D ∈ ds, hp w2 D = some (.deferred (some [])) := ⟨h.1, fun D hD => (hb D hD).trans (h.2 D hD)⟩
theorem MemOk.dfs0 {w₀ w : World} {L : Heap} (h : MemOk w₀ L w) (k : Nat) : MemOk w₀ ((k, .dfs []) :: L) w :=
  h.set k _ h.ext ⟨⟨List.nodup_nil, fun _ hD => nomatch hD⟩, (fun _ hb => nomatch hb), dfs_keep⟩ (fun _ _ _ _ _ _ => ⟨rfl, fun hb => nomatch hb⟩)
theorem MemOk.dfsPush {w₀ w : World} {L : Heap} (h : MemOk w₀ L w) (k j : Nat) {ds : List Nat} {D : Nat} (hk : lk L k = some (.dfs ds)) (hj : lk L j = some (.blk D (.deferred (some [])))) (hne : Nat.beq k j = false) :
    MemOk w₀ ((k, .dfs (D :: ds)) :: (j, .gone) :: L) w := by
  have hkj : k ≠ j := fun e => by subst e; rw [Nat.beq_refl] at hne; cases hne
  have ok1 := h.own k _ hk
  have ok2 := h.own j _ hj
  have h0 : MemOk w₀ ((j, .gone) :: L) w := h.set j _ h.ext ⟨trivial, (fun _ hb => hb.elim), fun _ _ _ _ => trivial⟩ (fun _ _ _ _ b _ => ⟨rfl, id⟩)
  refine h0.set k _ h0.ext ⟨⟨List.nodup_cons.2 ⟨fun hD => h.sep k j _ _ hk hj hkj D hD rfl, ok1.1.1⟩, fun E hE => ?_⟩, fun E hE => ?_, dfs_keep⟩ (fun i r hi hne' b hb => ⟨rfl, fun hE => ?_⟩)
  · rcases List.mem_cons.1 hE with rfl | h1
    · exact ok2.2
    · exact ok1.1.2 E h1
  · rcases List.mem_cons.1 hE with rfl | h1
    · exact ⟨ok2.1, hp_lt ok2.2⟩
    · exact ok1.2.1 E h1
  · by_cases e : j = i
    · subst e; rw [lk_cons_same] at hi; cases hi; exact hb
    · rw [lk_cons_other _ _ e] at hi
      rcases List.mem_cons.1 hE with rfl | h1
      · exact h.sep j i _ _ hj hi e b rfl hb
      · exact h.sep k i _ _ hk hi (Ne.symm hne') b h1 hb
/-- Each of them taken. -/
def takeAll (ds : List Nat) (w : World) : World := ds.foldl (fun w D => w.putObj D (.deferred none)) w
theorem takeAll_other : ∀ (ds : List Nat) (w : World) (b : Nat), b ∉ ds → hp (takeAll ds w) b = hp w b
  | [], _, _, _ => rfl
  | D :: ds, w, b, h => by
    show hp (takeAll ds (w.putObj D (.deferred none))) b = _
    rw [takeAll_other ds _ b (fun e => h (List.mem_cons_of_mem _ e))]
    exact World.putObj_heap_other (fun e => h (by rw [e]; exact List.mem_cons_self))
theorem takeAll_same : ∀ (ds : List Nat) (w : World), (takeAll ds w).os = w.os ∧ (takeAll ds w).tape = w.tape ∧ (takeAll ds w).output = w.output ∧ (takeAll ds w).heap.size = w.heap.size
  | [], _ => ⟨rfl, rfl, rfl, rfl⟩
  | D :: ds, w => by
    obtain ⟨h1, h2, h3, h4⟩ := takeAll_same ds (w.putObj D (.deferred none))
    exact ⟨h1, h2, h3, h4.trans (by simp)⟩
theorem MemOk.taken {w₀ w : World} {L : Heap} (h : MemOk w₀ L w) (k : Nat) {ds : List Nat} (hk : lk L k = some (.dfs ds)) : MemOk w₀ ((k, .gone) :: L) (takeAll ds w) := by
  have ok := h.own k _ hk
  obtain ⟨h1, h2, h3, h4⟩ := takeAll_same ds w
  refine h.set k _ ⟨h1.trans h.ext.os, h2.trans h.ext.tape, h3.trans h.ext.output, by rw [h4]; exact h.ext.size, fun b hb => ?_⟩ ⟨trivial, (fun _ hb => hb.elim), fun _ _ _ _ => trivial⟩ (fun i r hi hne b hb => ⟨takeAll_other ds w b fun hd => h.sep k i _ _ hk hi (Ne.symm hne) b hd hb, id⟩)
  rw [← h.ext.block b hb]
  exact takeAll_other ds w b fun hd => by have := (ok.2.1 b hd).1; omega
theorem leaves_col {P : Program} {fn : Func} {tmps : Array Value} {R : Ending → World → Prop} {v : Value} : ∀ (ds : List Nat) (w : World), ds.Nodup → (∀ D ∈ ds, hp w D = some (.deferred (some []))) →
    (results fn tmps).run P (takeAll ds w) = .ok v (takeAll ds w) → R (.returned v) (takeAll ds w) → LeavesInM Fence.wide 9 P fn tmps R (ds.map colD) .returning w
  | [], w, _, _, hr, hR => ⟨v, hr, hR⟩
  | D :: ds, w, hn, hd, hr, hR => by
    obtain ⟨h1, h2⟩ := List.nodup_cons.1 hn
    refine ⟨by simp, .inl ⟨_, _, rfl, run_takeDeferred (hd D List.mem_cons_self), leaves_col ds _ h2 (fun E hE => ?_) hr hR⟩⟩
    have : E ≠ D := fun e => h1 (e ▸ hE)
    exact (World.putObj_heap_other this).trans (hd E (List.mem_cons_of_mem _ hE))
section
variable {C : Cx} {Q : Post} {K : List (Nat × Value)} {L : Heap}
theorem ret_ofL {fn : Func} {R : Ending → World → Prop} (k : Nat) (ds : List Nat) (hD : C.D = ds.map colD) (hk : lk L k = some (.dfs ds)) (v : Value)
    (hr : ∀ tmps w, (∀ t u, lk K t = some u → tmps.getD t undef = u) → MemOk C.w₀ ((k, .gone) :: L) w → (results fn tmps).run C.P w = .ok v w) (hR : ∀ w, MemOk C.w₀ ((k, .gone) :: L) w → R (.returned v) w) : POk C (bodyM C.P fn R) .ret K L := fun a w hf hm => by
  show LeavesInM _ _ _ _ _ _ _ _ _
  rw [hf.defers.trans hD]
  have ok := (hm.own k _ hk).1
  exact leaves_col ds w ok.1 ok.2 (hr _ _ hf.knows (hm.taken k hk)) (hR _ (hm.taken k hk))
abbrev Cx.at (C : Cx) (D : List Deferred) : Cx := ⟨C.P, C.w₀, C.N, D, C.ro⟩
/-- The frame and memory are as one of a family says; so is what was put off. -/
def AtD (C : Cx) {ι : Type} (p : ι → Prop) (DI : ι → List Deferred) (K : ι → List (Nat × Value)) (L : ι → Heap) (a : Act) (w : World) : Prop := ∃ i, p i ∧ FrOk C.N (DI i) (K i) a ∧ MemOk C.w₀ (L i) w
theorem T_loopD {ι : Type} (p : ι → Prop) (DI : ι → List Deferred) (KI : ι → List (Nat × Value)) (LI : ι → Heap) (μ : ι → Nat) (i₀ : ι) (hp : p i₀) (hD : C.D = DI i₀) (hK : SubK K (KI i₀)) (hL : SubK L (LI i₀)) {c : Code}
    (hround : ∀ i, p i → T (C.at (DI i)) c (Exit.then (AtD C (fun j => p j ∧ μ j < μ i) DI KI LI) Q) (KI i) (LI i)) : T C (.loop c) Q K L := by
  intro a w hf hm
  have key : ∀ m i, p i → μ i ≤ m → ∀ a w, FrOk C.N (DI i) (KI i) a → MemOk C.w₀ (LI i) w → Code.roundsIn (FW C.ro) 0 C.P c Q (m + 1) a w := by
    intro m
    induction m with
    | zero =>
      intro i hi hle a w hf hm
      refine wpIn_mono (hround i hi a w hf hm) ?_
      intro e a' w' hq
      cases e with
      | normal => obtain ⟨j, ⟨_, hlt⟩, _⟩ := hq; omega
      | exit id => exact hq
      | goto l => exact hq
      | ret => exact hq
      | panic ch => exact hq
      | outgrown => exact hq
    | succ m ih =>
      intro i hi hle a w hf hm
      refine wpIn_mono (hround i hi a w hf hm) ?_
      intro e a' w' hq
      cases e with
      | normal => obtain ⟨j, ⟨hj, hlt⟩, h1, h2⟩ := hq; exact ih j hj (by omega) a' w' h1 h2
      | exit id => exact hq
      | goto l => exact hq
      | ret => exact hq
      | panic ch => exact hq
      | outgrown => exact hq
  exact wpIn_loop_rounds _ (key (μ i₀) i₀ hp (Nat.le_refl _) a w (hD ▸ hf.sub hK) (hm.sub hL))
theorem p_atD {C' : Cx} {ι : Type} {p : ι → Prop} {DI : ι → List Deferred} {KJ : ι → List (Nat × Value)} {LJ : ι → Heap} (i : ι) (hp : p i) (hN : C'.N = C.N) (hw : C'.w₀ = C.w₀) (hD : C'.D = DI i) (hK : SubK K (KJ i)) (hL : SubK L (LJ i)) : POk C' (Exit.then (AtD C p DI KJ LJ) Q) .normal K L :=
  fun _ _ hf hm => ⟨i, hp, by rw [← hN, ← hD]; exact hf.sub hK, by rw [← hw]; exact hm.sub hL⟩
end
end Go.Proofs.Ytbiapeaghbndoaa
/- canvas: Lay. Printed by a program of this seat's prover. -/
namespace Go.Proofs.Ytbiapeaghbndoaa
open Go Go.RowKit
set_option maxRecDepth 10000
set_option maxHeartbeats 2000000 in
theorem lay1_ht (w₀ : World) (c : Cv) (hc : CvAt w₀ c) (A B C S Lb p q : Nat) (px : List C4) (a : Option Addr) (cap : Nat) (hv : SliceAt w₀ a cap 4 C4.cells px) (hcap : cap ≤ Go.maxLen) (l : List Pt) (al : Option Addr) (cl : Nat) (hl : SliceAt w₀ al cl 2 Pt.cells l) (hcl : cl ≤ Go.maxLen) (hp8 : 1 ≤ p ∧ p ≤ 8) (hq8 : 1 ≤ q ∧ q ≤ 8) (hlen : px.length = p * q) (hpx : ∀ c ∈ px, c.ok) (hcok : TsOk c.ts) : ∀ w, MemOk w₀ [(1901, .blk B (.cells #[.int .i64 0] 29)), (1900, .blk A (.cells #[.pointer none] 28)), (3, .blk Lb (.cells #[.slice al l.length cl] 44)), (2, .blk S (.cells #[.int .i64 ((p : Nat) : Int), .int .i64 ((q : Nat) : Int), .slice a px.length cap] 75)), (1, .blk C (.cells #[.pointer (some ⟨c.p, 0, none⟩)] 28))] w → Calls Try.prog 97 #[.pointer (some ⟨C, 0, none⟩), .pointer (some ⟨S, 0, none⟩), .pointer (some ⟨Lb, 0, none⟩)] w (HAns w₀ (fun z : Cv => z.wd = c.wd ∧ z.hg = c.hg ∧ z.ts = layN c.wd c.hg p q px c.ts l ∧ OldIn w₀ c z) (fun z => .pointer (some ⟨z.p, 0, none⟩)) (fun z => [(1, .blk C (.cells #[.pointer (some ⟨z.p, 0, none⟩)] 28)), (960, .cvO w₀ z)] ++ [(1901, .blk B (.cells #[.int .i64 0] 29)), (1900, .blk A (.cells #[.pointer none] 28)), (3, .blk Lb (.cells #[.slice al l.length cl] 44)), (2, .blk S (.cells #[.int .i64 ((p : Nat) : Int), .int .i64 ((q : Nat) : Int), .slice a px.length cap] 75)), (1, .blk C (.cells #[.pointer (some ⟨c.p, 0, none⟩)] 28))])) := by
  have hvl := hv.1
  have hll := hl.1
  have h64 := size8 hp8 hq8
  have hwd4 := hc.wd4
  have hhg4 := hc.hg4
  unfold Go.maxLen at hcap hcl
  refine ht_of_T (l := [.pointer (some ⟨C, 0, none⟩), .pointer (some ⟨S, 0, none⟩), .pointer (some ⟨Lb, 0, none⟩)]) (L := [(1901, .blk B (.cells #[.int .i64 0] 29)), (1900, .blk A (.cells #[.pointer none] 28)), (3, .blk Lb (.cells #[.slice al l.length cl] 44)), (2, .blk S (.cells #[.int .i64 ((p : Nat) : Int), .int .i64 ((q : Nat) : Int), .slice a px.length cap] 75)), (1, .blk C (.cells #[.pointer (some ⟨c.p, 0, none⟩)] 28))]) 104 Try.func97 rfl rfl rfl ?_
  show T _ _ _ [(0, .pointer (some ⟨C, 0, none⟩)), (1, .pointer (some ⟨S, 0, none⟩)), (2, .pointer (some ⟨Lb, 0, none⟩))] [(1901, .blk B (.cells #[.int .i64 0] 29)), (1900, .blk A (.cells #[.pointer none] 28)), (3, .blk Lb (.cells #[.slice al l.length cl] 44)), (2, .blk S (.cells #[.int .i64 ((p : Nat) : Int), .int .i64 ((q : Nat) : Int), .slice a px.length cap] 75)), (1, .blk C (.cells #[.pointer (some ⟨c.p, 0, none⟩)] 28))]
  refine T_mem (_ :: _ :: _) (fun _ hm => (hm.cvO0 960 hc).dfs0 970) ?_
  refine T_seq (T_region ?_)
  refine TL_q (.pointer none) (fun _ _ hρ _ => r_assign (hρ _ _ rfl)) rfl rfl rfl (w_n rfl) ?_
  refine TL_seq ?_
  refine T_seq (T_region ?_)
  refine TL_q (.pointer (some ⟨c.p, 0, none⟩)) (fun _ _ hρ hm => r_load ag28 (hρ _ _ rfl) (hm.at 1 rfl) rfl) rfl rfl rfl (w_n rfl) ?_
  refine TL_q (.bool true) (fun _ _ hρ _ => r_as (r_neqPn po28 (hρ _ _ rfl) (hρ _ _ rfl)) (by rfl)) rfl rfl rfl (w_n rfl) ?_
  refine TL_call (.tuple #[]) (fun _ _ hρ _ => r_call (args := [.bool true, .int .i64 1]) (enters_of Try.func94 (by kernel_rfl) rfl) (hρ _ _ rfl) ((cons2 (hρ _ _ rfl) (cons2 (hρ _ _ rfl) rfl))) rfl) (fun w _ => need_ok_st 1 w) rfl rfl rfl (w_n rfl) ?_
  refine TL_seq ?_
  refine T_seq (T_region ?_)
  refine TL_q (.agg #[.int .i64 ((p : Nat) : Int), .int .i64 ((q : Nat) : Int), .slice a px.length cap]) (fun _ _ hρ hm => r_loadA ag75 sz75 (hρ _ _ rfl) (hm.at 2 rfl) rfl rfl) rfl rfl rfl (w_n rfl) ?_
  refine TL_callN (fun (_ : Nat) => True) (fun P1 => .pointer (some ⟨P1, 0, none⟩)) (fun P1 => [(1001, .blk P1 (.cells #[.int .i64 ((p : Nat) : Int), .int .i64 ((q : Nat) : Int), .slice a px.length cap] 138))]) (fun _ _ hρ _ => r_call (args := [.agg #[.int .i64 ((p : Nat) : Int), .int .i64 ((q : Nat) : Int), .slice a px.length cap]]) (enters_of Try.func85 (by kernel_rfl) rfl) (hρ _ _ rfl) ((cons2 (hρ _ _ rfl) rfl)) rfl) (fun w _ => (pof_ok ((p : Nat) : Int) ((q : Nat) : Int) a px.length cap w (rightS_of hp8 hq8 hlen)).mono fun e w' ⟨q, he, hb, hr⟩ => ⟨q, trivial, he, hb, newOk1 1001 hr⟩) rfl rfl rfl (w_n rfl) ?_
  intro P1 _
  refine TL_new 1002 (.cells #[.pointer none] 134) (fun B => .pointer (some ⟨B, 0, none⟩)) (fun _ _ _ _ => r_alloc (v := .pointer none) (by kernel_rfl) rfl) rfl rfl rfl (w_n rfl) ?_
  intro B2
  refine TL_store 1002 (.cells #[.pointer (some ⟨P1, 0, none⟩)] 134) rfl (fun _ _ hρ hm => r_store sz134 (hρ _ _ rfl) (hρ _ _ rfl) (hm.at 1002 rfl) rfl rfl rfl rfl) rfl rfl (w_n rfl) ?_
  refine TL_seq ?_
  refine T_seq (T_region ?_)
  refine TL_q (.pointer (some ⟨c.p, 0, none⟩)) (fun _ _ hρ hm => r_load ag28 (hρ _ _ rfl) (hm.at 1 rfl) rfl) rfl rfl rfl (w_n rfl) ?_
  refine TL_call (.tuple #[.int .i64 ((8 * c.wd : Nat) : Int), .int .i64 ((8 * c.hg : Nat) : Int)]) (fun _ _ hρ _ => r_call (args := [.pointer (some ⟨c.p, 0, none⟩)]) (enters_of Try.func32 (by kernel_rfl) rfl) (hρ _ _ rfl) ((cons2 (hρ _ _ rfl) rfl)) rfl) (fun w hm => size_c c w (hm.cvOat 960 rfl)) rfl rfl rfl (w_n rfl) ?_
  refine TL_q (.tuple #[.int .i64 ((8 * c.wd : Nat) : Int), .int .i64 ((8 * c.hg : Nat) : Int)]) (fun _ _ hρ _ => r_move (hρ _ _ rfl)) rfl rfl rfl (w_n rfl) ?_
  refine TL_q (.int .i64 ((8 * c.wd : Nat) : Int)) (fun _ _ hρ _ => r_extract (hρ _ _ rfl) rfl) rfl rfl rfl (w_n rfl) ?_
  refine TL_q (.int .i64 ((8 * c.hg : Nat) : Int)) (fun _ _ hρ _ => r_extract (hρ _ _ rfl) rfl) rfl rfl rfl (w_n rfl) ?_
  refine TL_q (.int .i64 ((8 * c.wd : Nat) : Int)) (fun _ _ hρ _ => r_assign (hρ _ _ rfl)) rfl rfl rfl (w_n rfl) ?_
  refine TL_q (.int .i64 ((8 * c.hg : Nat) : Int)) (fun _ _ hρ _ => r_assign (hρ _ _ rfl)) rfl rfl rfl (w_n rfl) ?_
  refine TL_seq ?_
  refine T_seq ?_
  refine T_seq (T_region ?_)
  refine TL_q (.slice al l.length cl) (fun _ _ hρ hm => r_load ag44 (hρ _ _ rfl) (hm.at 3 rfl) rfl) rfl rfl rfl (w_n rfl) ?_
  refine TL_q (.int .i64 ((l.length : Nat) : Int)) (fun _ _ hρ _ => r_len sl44 (hρ _ _ rfl)) rfl rfl rfl (w_n rfl) ?_
  refine TL_q (.int .i64 0) (fun _ _ hρ _ => r_move (hρ _ _ rfl)) rfl rfl rfl (w_n rfl) ?_
  refine TL_seq ?_
  refine T_block ?_
  refine T_loopD (ι := Nat × Cv × List Nat) (fun (z : Nat × Cv × List Nat) => match z with | (kk, z, ds) => kk ≤ l.length ∧ z.wd = c.wd ∧ z.hg = c.hg ∧ z.ts = layN c.wd c.hg p q px c.ts (l.take kk) ∧ OldIn w₀ c z) (fun (z : Nat × Cv × List Nat) => match z with | (kk, z, ds) => ds.map colD) (fun (z : Nat × Cv × List Nat) => match z with | (kk, z, ds) => [(0, .pointer (some ⟨C, 0, none⟩)), (3, .pointer none), (4, .pointer (some ⟨B2, 0, none⟩)), (5, .int .i64 ((8 * c.wd : Nat) : Int)), (6, .int .i64 ((8 * c.hg : Nat) : Int)), (23, .slice al l.length cl), (24, .int .i64 ((l.length : Nat) : Int)), (25, .int .i64 ((kk : Nat) : Int))]) (fun (z : Nat × Cv × List Nat) => match z with | (kk, z, ds) => [(1001, .blk P1 (.cells #[.int .i64 ((p : Nat) : Int), .int .i64 ((q : Nat) : Int), .slice a px.length cap] 138)), (1901, .blk B (.cells #[.int .i64 0] 29)), (1900, .blk A (.cells #[.pointer none] 28)), (3, .blk Lb (.cells #[.slice al l.length cl] 44)), (2, .blk S (.cells #[.int .i64 ((p : Nat) : Int), .int .i64 ((q : Nat) : Int), .slice a px.length cap] 75)), (1002, .blk B2 (.cells #[.pointer (some ⟨P1, 0, none⟩)] 134)), (1, .blk C (.cells #[.pointer (some ⟨z.p, 0, none⟩)] 28)), (960, .cvO w₀ z), (970, .dfs ds)]) (fun (z : Nat × Cv × List Nat) => match z with | (kk, z, ds) => l.length - kk) (0, c, []) ⟨Nat.zero_le _, rfl, rfl, rfl, OldIn.refl _ _⟩ rfl (sub_cons rfl (sub_cons rfl (sub_cons rfl (sub_cons rfl (sub_cons rfl (sub_cons rfl (sub_cons rfl (sub_cons rfl sub_nil)))))))) (sub_cons rfl (sub_cons rfl (sub_cons rfl (sub_cons rfl (sub_cons rfl (sub_cons rfl (sub_cons rfl (sub_cons rfl (sub_cons rfl sub_nil))))))))) ?_
  rintro ⟨kk, z, ds⟩ hp
  obtain ⟨hk, hzw, hzh, hzt, hzo⟩ := hp
  have hzok : TsOk z.ts := by rw [hzt]; exact layN_ok hpx hcok
  show T _ _ _ [(0, .pointer (some ⟨C, 0, none⟩)), (3, .pointer none), (4, .pointer (some ⟨B2, 0, none⟩)), (5, .int .i64 ((8 * c.wd : Nat) : Int)), (6, .int .i64 ((8 * c.hg : Nat) : Int)), (23, .slice al l.length cl), (24, .int .i64 ((l.length : Nat) : Int)), (25, .int .i64 ((kk : Nat) : Int))] [(1001, .blk P1 (.cells #[.int .i64 ((p : Nat) : Int), .int .i64 ((q : Nat) : Int), .slice a px.length cap] 138)), (1901, .blk B (.cells #[.int .i64 0] 29)), (1900, .blk A (.cells #[.pointer none] 28)), (3, .blk Lb (.cells #[.slice al l.length cl] 44)), (2, .blk S (.cells #[.int .i64 ((p : Nat) : Int), .int .i64 ((q : Nat) : Int), .slice a px.length cap] 75)), (1002, .blk B2 (.cells #[.pointer (some ⟨P1, 0, none⟩)] 134)), (1, .blk C (.cells #[.pointer (some ⟨z.p, 0, none⟩)] 28)), (960, .cvO w₀ z), (970, .dfs ds)]
  refine T_seq (T_region ?_)
  refine TL_q (.bool (decide (((kk : Nat) : Int) < ((l.length : Nat) : Int)))) (fun _ _ hρ _ => r_lss (hρ _ _ rfl) (hρ _ _ rfl)) rfl rfl rfl (w_n rfl) ?_
  refine TL_seq ?_
  refine T_seq ?_
  refine T_cond rfl (fun h1 => ?_) (fun h1 => ?_)
  · replace h1 := of_decide_eq_true h1
    refine T_skip' ?_
    refine p_seq ?_
    refine T_seq ?_
    refine T_block ?_
    obtain ⟨u, hu⟩ : ∃ x, l[kk]? = some x := ⟨_, List.getElem?_eq_getElem (by omega)⟩
    obtain ⟨b3, of3, cs3, T3, fz3, ha3, hq3, hr3⟩ := hl.open (i := kk) (by omega)
    subst ha3
    refine T_seq (T_region ?_)
    refine TL_q (.pointer (some ⟨b3, of3 + kk * 2, none⟩)) (fun _ _ hρ _ => r_indexAddrS (i := kk) sl44 sz47 (hρ _ _ rfl) (hρ _ _ rfl) (by omega)) rfl rfl rfl (w_n rfl) ?_
    refine TL_q (.agg #[.int .i64 u.x, .int .i64 u.y]) (fun _ _ hρ hm => r_loadRow (f := Pt.cells) (u := u) ag47 sz47 (hρ _ _ rfl) (hm.old hq3) hr3 hu) rfl rfl rfl (w_n rfl) ?_
    refine TL_new 1003 (.cells #[.int .i64 0, .int .i64 0] 47) (fun B => .pointer (some ⟨B, 0, none⟩)) (fun _ _ _ _ => r_alloc (v := .agg #[.int .i64 0, .int .i64 0]) (by kernel_rfl) rfl) rfl rfl rfl (w_n rfl) ?_
    intro B4
    refine TL_store 1003 (.cells #[.int .i64 u.x, .int .i64 u.y] 47) rfl (fun _ _ hρ hm => r_store sz47 (hρ _ _ rfl) (hρ _ _ rfl) (hm.at 1003 rfl) rfl rfl rfl rfl) rfl rfl (w_n rfl) ?_
    refine TL_seq ?_
    refine T_seq ?_
    by_cases f1 : u.x ≤ -((p : Nat) : Int)
    · skip
      refine T_seq (T_draw (V := [(0, .pointer (some ⟨B4, 0, none⟩)), (1, .int .i64 u.x), (2, .pointer (some ⟨P1, 0, none⟩)), (3, .pointer (some ⟨P1, 0, none⟩)), (4, .pointer (some ⟨P1, 0, none⟩)), (5, .pointer (some ⟨P1, 0, none⟩)), (6, .int .i64 ((p : Nat) : Int)), (7, .int .i64 (-((p : Nat) : Int))), (8, .bool true), (9, .bool true), (10, undef), (11, undef), (12, undef), (13, undef), (14, undef), (15, undef), (16, undef), (17, undef), (18, undef), (19, .bool true), (20, .bool true), (21, undef), (22, undef), (23, undef), (24, undef), (25, .bool true), (26, .bool true), (27, undef), (28, undef), (29, undef), (30, undef), (31, .bool true)]) [0, 1, 0, 4, 12, 28, 60, 124, 255, 511, 1023, 2047, 1023, 5119, 13311, 29695, 62463, 127999, 262143, 524287, 1048575, 2097151, 4194303, 2097151, 16777215, 33554431, 67108863, 134217727, 268435455, 134217727, 1073741823, 2147483647] [[(8, none)], [(29, some 0)], [(4, none)], [(31, some 2)], [(32, some 3)], [(33, some 4)], [(34, some 5)], [(35, some 6)], [(30, some 1), (36, some 7)], [(37, some 8)], [(8, none)], [(39, some 10)], [(4, none)], [(41, some 12)], [(42, some 13)], [(43, some 14)], [(44, some 15)], [(45, some 16)], [(40, some 11), (46, some 17)], [(47, some 18), (38, some 9)], [(48, some 19)], [(8, none)], [(50, some 21)], [(5, none)], [(51, some 22), (52, some 23)], [(53, some 24), (49, some 20)], [(54, some 25)], [(8, none)], [(56, some 27)], [(6, none)], [(57, some 28), (58, some 29)], [(59, some 30), (55, some 26)]] 0 mixed (by kernel_rfl) ?_)
      refine G_last [0, 1, 2, 3, 4, 5, 6, 7, 8, 9, 10, 11, 12, 13, 14, 15, 16, 17, 18, 19, 20, 21, 22, 23, 24, 25, 26, 27, 28, 29, 30, 31] [(0, .pointer (some ⟨C, 0, none⟩)), (3, .pointer none), (4, .pointer (some ⟨B2, 0, none⟩)), (5, .int .i64 ((8 * c.wd : Nat) : Int)), (6, .int .i64 ((8 * c.hg : Nat) : Int)), (23, .slice (some ⟨b3, of3, none⟩) l.length cl), (24, .int .i64 ((l.length : Nat) : Int)), (25, .int .i64 ((kk : Nat) : Int)), (26, .bool (decide (((kk : Nat) : Int) < ((l.length : Nat) : Int)))), (27, .pointer (some ⟨b3, of3 + kk * 2, none⟩)), (28, .agg #[.int .i64 u.x, .int .i64 u.y]), (8, .pointer (some ⟨B4, 0, none⟩)), (29, .pointer (some ⟨B4, 0, none⟩)), (30, .int .i64 u.x), (31, .pointer (some ⟨P1, 0, none⟩)), (32, .pointer (some ⟨P1, 0, none⟩)), (33, .pointer (some ⟨P1, 0, none⟩)), (34, .pointer (some ⟨P1, 0, none⟩)), (35, .int .i64 ((p : Nat) : Int)), (36, .int .i64 (-((p : Nat) : Int))), (37, .bool true), (38, .bool true), (39, undef), (40, undef), (41, undef), (42, undef), (43, undef), (44, undef), (45, undef), (46, undef), (47, undef), (48, .bool true), (49, .bool true), (50, undef), (51, undef), (52, undef), (53, undef), (54, .bool true), (55, .bool true), (56, undef), (57, undef), (58, undef), (59, undef), (60, .bool true)] (by kernel_rfl) (allM (all_cons (q_run (.pointer (some ⟨B4, 0, none⟩)) rfl rfl (wv_n rfl) rfl (fun _ _ hρ _ => r_fieldAddr fl47_0 sz3 (hρ _ _ rfl))) (all_cons (q_run (.int .i64 u.x) rfl rfl (wv_n rfl) rfl (fun _ _ hρ hm => r_load ag3 (hρ _ _ rfl) (hm.at 1003 rfl) rfl)) (all_cons (q_run (.pointer (some ⟨P1, 0, none⟩)) rfl rfl (wv_n rfl) rfl (fun _ _ hρ hm => r_load ag134 (hρ _ _ rfl) (hm.at 1002 rfl) rfl)) (all_cons (q_run (.pointer (some ⟨P1, 0, none⟩)) rfl rfl (wv_n rfl) rfl (fun _ _ hρ _ => r_nilCheck (hρ _ _ rfl) rfl)) (all_cons (q_run (.pointer (some ⟨P1, 0, none⟩)) rfl rfl (wv_n rfl) rfl (fun _ _ hρ _ => r_fieldAddr fl138_0 sz75 (hρ _ _ rfl))) (all_cons (q_run (.pointer (some ⟨P1, 0, none⟩)) rfl rfl (wv_n rfl) rfl (fun _ _ hρ _ => r_fieldAddr fl75_0 sz3 (hρ _ _ rfl))) (all_cons (q_run (.int .i64 ((p : Nat) : Int)) rfl rfl (wv_n rfl) rfl (fun _ _ hρ hm => r_load ag3 (hρ _ _ rfl) (hm.at 1001 rfl) rfl)) (all_cons (q_run (.int .i64 (-((p : Nat) : Int))) rfl rfl (wv_n rfl) rfl (fun _ _ hρ _ => r_as (r_neg (hρ _ _ rfl)) (int_as ((wrap64 (by omega) (by omega)).trans (by omega))))) (all_cons (q_run (.bool true) rfl rfl (wv_n rfl) rfl (fun _ _ hρ _ => r_as (r_leq (hρ _ _ rfl) (hρ _ _ rfl)) (bool_as (decide_eq_true f1)))) (all_cons (q_run (.bool true) rfl rfl (wv_n rfl) rfl (fun _ _ hρ _ => r_move (hρ _ _ rfl))) (all_cons (q_no rfl rfl (wv_no rfl rfl)) (all_cons (q_no rfl rfl (wv_no rfl rfl)) (all_cons (q_no rfl rfl (wv_no rfl rfl)) (all_cons (q_no rfl rfl (wv_no rfl rfl)) (all_cons (q_no rfl rfl (wv_no rfl rfl)) (all_cons (q_no rfl rfl (wv_no rfl rfl)) (all_cons (q_no rfl rfl (wv_no rfl rfl)) (all_cons (q_no rfl rfl (wv_no rfl rfl)) (all_cons (q_no rfl rfl (wv_no rfl rfl)) (all_cons (q_run (.bool true) rfl rfl (wv_n rfl) rfl (fun _ _ hρ _ => r_pick_t (hρ _ _ rfl) (hρ _ _ rfl))) (all_cons (q_run (.bool true) rfl rfl (wv_n rfl) rfl (fun _ _ hρ _ => r_move (hρ _ _ rfl))) (all_cons (q_no rfl rfl (wv_no rfl rfl)) (all_cons (q_no rfl rfl (wv_no rfl rfl)) (all_cons (q_no rfl rfl (wv_no rfl rfl)) (all_cons (q_no rfl rfl (wv_no rfl rfl)) (all_cons (q_run (.bool true) rfl rfl (wv_n rfl) rfl (fun _ _ hρ _ => r_pick_t (hρ _ _ rfl) (hρ _ _ rfl))) (all_cons (q_run (.bool true) rfl rfl (wv_n rfl) rfl (fun _ _ hρ _ => r_move (hρ _ _ rfl))) (all_cons (q_no rfl rfl (wv_no rfl rfl)) (all_cons (q_no rfl rfl (wv_no rfl rfl)) (all_cons (q_no rfl rfl (wv_no rfl rfl)) (all_cons (q_no rfl rfl (wv_no rfl rfl)) (all_cons (q_run (.bool true) rfl rfl (wv_n rfl) rfl (fun _ _ hρ _ => r_pick_t (hρ _ _ rfl) (hρ _ _ rfl))) all_nil))))))))))))))))))))))))))))))))) (end_old rfl rfl (end_old rfl rfl (end_old rfl rfl (end_old rfl rfl (end_old rfl rfl (end_old rfl rfl (end_old rfl rfl (end_old rfl rfl (end_old rfl rfl (end_old rfl rfl (end_old rfl rfl (end_old rfl rfl (end_new 0 rfl rfl (end_new 1 rfl rfl (end_new 2 rfl rfl (end_new 3 rfl rfl (end_new 4 rfl rfl (end_new 5 rfl rfl (end_new 6 rfl rfl (end_new 7 rfl rfl (end_new 8 rfl rfl (end_new 9 rfl rfl (end_new 10 rfl rfl (end_new 11 rfl rfl (end_new 12 rfl rfl (end_new 13 rfl rfl (end_new 14 rfl rfl (end_new 15 rfl rfl (end_new 16 rfl rfl (end_new 17 rfl rfl (end_new 18 rfl rfl (end_new 19 rfl rfl (end_new 20 rfl rfl (end_new 21 rfl rfl (end_new 22 rfl rfl (end_new 23 rfl rfl (end_new 24 rfl rfl (end_new 25 rfl rfl (end_new 26 rfl rfl (end_new 27 rfl rfl (end_new 28 rfl rfl (end_new 29 rfl rfl (end_new 30 rfl rfl (end_new 31 rfl rfl end_nil)))))))))))))))))))))))))))))))))))))))))))) ?_
      refine T_cond_t rfl ?_
      refine T_exit' ?_
      refine p_then_x ?_
      refine p_blk_x ?_
      refine p_seq ?_
      refine T_region ?_
      refine TL_q (.int .i64 ((kk + 1 : Nat) : Int)) (fun _ _ hρ _ => r_as (r_add (hρ _ _ rfl) (hρ _ _ rfl)) (int_as ((wrap64 (by omega) (by omega)).trans (by omega)))) rfl rfl rfl (w_n rfl) ?_
      refine TL_q (.int .i64 ((kk + 1 : Nat) : Int)) (fun _ _ hρ _ => r_move (hρ _ _ rfl)) rfl rfl rfl (w_n rfl) ?_
      refine TL_nil ?_
      exact p_atD (kk + 1, z, ds) ⟨⟨by omega, hzw, hzh, by rw [layN_step hu, ← hzt, lay1_far (by omega)], hzo⟩, by dsimp only; omega⟩ rfl rfl rfl (sub_cons rfl (sub_cons rfl (sub_cons rfl (sub_cons rfl (sub_cons rfl (sub_cons rfl (sub_cons rfl (sub_cons rfl sub_nil)))))))) (sub_cons rfl (sub_cons rfl (sub_cons rfl (sub_cons rfl (sub_cons rfl (sub_cons rfl (sub_cons rfl (sub_cons rfl (sub_cons rfl sub_nil)))))))))
    · skip
      by_cases f2 : u.y ≤ -((q : Nat) : Int)
      · skip
        refine T_seq (T_draw (V := [(0, .pointer (some ⟨B4, 0, none⟩)), (1, .int .i64 u.x), (2, .pointer (some ⟨P1, 0, none⟩)), (3, .pointer (some ⟨P1, 0, none⟩)), (4, .pointer (some ⟨P1, 0, none⟩)), (5, .pointer (some ⟨P1, 0, none⟩)), (6, .int .i64 ((p : Nat) : Int)), (7, .int .i64 (-((p : Nat) : Int))), (8, .bool false), (9, .bool false), (10, .pointer (some ⟨B4, 1, none⟩)), (11, .int .i64 u.y), (12, .pointer (some ⟨P1, 0, none⟩)), (13, .pointer (some ⟨P1, 0, none⟩)), (14, .pointer (some ⟨P1, 0, none⟩)), (15, .pointer (some ⟨P1, 1, none⟩)), (16, .int .i64 ((q : Nat) : Int)), (17, .int .i64 (-((q : Nat) : Int))), (18, .bool true), (19, .bool true), (20, .bool true), (21, undef), (22, undef), (23, undef), (24, undef), (25, .bool true), (26, .bool true), (27, undef), (28, undef), (29, undef), (30, undef), (31, .bool true)]) [0, 1, 0, 4, 12, 28, 60, 124, 255, 511, 1023, 2047, 1023, 5119, 13311, 29695, 62463, 127999, 262143, 524287, 1048575, 2097151, 4194303, 2097151, 16777215, 33554431, 67108863, 134217727, 268435455, 134217727, 1073741823, 2147483647] [[(8, none)], [(29, some 0)], [(4, none)], [(31, some 2)], [(32, some 3)], [(33, some 4)], [(34, some 5)], [(35, some 6)], [(30, some 1), (36, some 7)], [(37, some 8)], [(8, none)], [(39, some 10)], [(4, none)], [(41, some 12)], [(42, some 13)], [(43, some 14)], [(44, some 15)], [(45, some 16)], [(40, some 11), (46, some 17)], [(47, some 18), (38, some 9)], [(48, some 19)], [(8, none)], [(50, some 21)], [(5, none)], [(51, some 22), (52, some 23)], [(53, some 24), (49, some 20)], [(54, some 25)], [(8, none)], [(56, some 27)], [(6, none)], [(57, some 28), (58, some 29)], [(59, some 30), (55, some 26)]] 0 mixed (by kernel_rfl) ?_)
        refine G_last [0, 1, 2, 3, 4, 5, 6, 7, 8, 9, 10, 11, 12, 13, 14, 15, 16, 17, 18, 19, 20, 21, 22, 23, 24, 25, 26, 27, 28, 29, 30, 31] [(0, .pointer (some ⟨C, 0, none⟩)), (3, .pointer none), (4, .pointer (some ⟨B2, 0, none⟩)), (5, .int .i64 ((8 * c.wd : Nat) : Int)), (6, .int .i64 ((8 * c.hg : Nat) : Int)), (23, .slice (some ⟨b3, of3, none⟩) l.length cl), (24, .int .i64 ((l.length : Nat) : Int)), (25, .int .i64 ((kk : Nat) : Int)), (26, .bool (decide (((kk : Nat) : Int) < ((l.length : Nat) : Int)))), (27, .pointer (some ⟨b3, of3 + kk * 2, none⟩)), (28, .agg #[.int .i64 u.x, .int .i64 u.y]), (8, .pointer (some ⟨B4, 0, none⟩)), (29, .pointer (some ⟨B4, 0, none⟩)), (30, .int .i64 u.x), (31, .pointer (some ⟨P1, 0, none⟩)), (32, .pointer (some ⟨P1, 0, none⟩)), (33, .pointer (some ⟨P1, 0, none⟩)), (34, .pointer (some ⟨P1, 0, none⟩)), (35, .int .i64 ((p : Nat) : Int)), (36, .int .i64 (-((p : Nat) : Int))), (37, .bool false), (38, .bool false), (39, .pointer (some ⟨B4, 1, none⟩)), (40, .int .i64 u.y), (41, .pointer (some ⟨P1, 0, none⟩)), (42, .pointer (some ⟨P1, 0, none⟩)), (43, .pointer (some ⟨P1, 0, none⟩)), (44, .pointer (some ⟨P1, 1, none⟩)), (45, .int .i64 ((q : Nat) : Int)), (46, .int .i64 (-((q : Nat) : Int))), (47, .bool true), (48, .bool true), (49, .bool true), (50, undef), (51, undef), (52, undef), (53, undef), (54, .bool true), (55, .bool true), (56, undef), (57, undef), (58, undef), (59, undef), (60, .bool true)] (by kernel_rfl) (allM (all_cons (q_run (.pointer (some ⟨B4, 0, none⟩)) rfl rfl (wv_n rfl) rfl (fun _ _ hρ _ => r_fieldAddr fl47_0 sz3 (hρ _ _ rfl))) (all_cons (q_run (.int .i64 u.x) rfl rfl (wv_n rfl) rfl (fun _ _ hρ hm => r_load ag3 (hρ _ _ rfl) (hm.at 1003 rfl) rfl)) (all_cons (q_run (.pointer (some ⟨P1, 0, none⟩)) rfl rfl (wv_n rfl) rfl (fun _ _ hρ hm => r_load ag134 (hρ _ _ rfl) (hm.at 1002 rfl) rfl)) (all_cons (q_run (.pointer (some ⟨P1, 0, none⟩)) rfl rfl (wv_n rfl) rfl (fun _ _ hρ _ => r_nilCheck (hρ _ _ rfl) rfl)) (all_cons (q_run (.pointer (some ⟨P1, 0, none⟩)) rfl rfl (wv_n rfl) rfl (fun _ _ hρ _ => r_fieldAddr fl138_0 sz75 (hρ _ _ rfl))) (all_cons (q_run (.pointer (some ⟨P1, 0, none⟩)) rfl rfl (wv_n rfl) rfl (fun _ _ hρ _ => r_fieldAddr fl75_0 sz3 (hρ _ _ rfl))) (all_cons (q_run (.int .i64 ((p : Nat) : Int)) rfl rfl (wv_n rfl) rfl (fun _ _ hρ hm => r_load ag3 (hρ _ _ rfl) (hm.at 1001 rfl) rfl)) (all_cons (q_run (.int .i64 (-((p : Nat) : Int))) rfl rfl (wv_n rfl) rfl (fun _ _ hρ _ => r_as (r_neg (hρ _ _ rfl)) (int_as ((wrap64 (by omega) (by omega)).trans (by omega))))) (all_cons (q_run (.bool false) rfl rfl (wv_n rfl) rfl (fun _ _ hρ _ => r_as (r_leq (hρ _ _ rfl) (hρ _ _ rfl)) (bool_as (decide_eq_false f1)))) (all_cons (q_run (.bool false) rfl rfl (wv_n rfl) rfl (fun _ _ hρ _ => r_move (hρ _ _ rfl))) (all_cons (q_run (.pointer (some ⟨B4, 1, none⟩)) rfl rfl (wv_y rfl rfl) rfl (fun _ _ hρ _ => r_fieldAddr fl47_1 sz3 (hρ _ _ rfl))) (all_cons (q_run (.int .i64 u.y) rfl rfl (wv_y rfl rfl) rfl (fun _ _ hρ hm => r_load ag3 (hρ _ _ rfl) (hm.at 1003 rfl) rfl)) (all_cons (q_run (.pointer (some ⟨P1, 0, none⟩)) rfl rfl (wv_y rfl rfl) rfl (fun _ _ hρ hm => r_load ag134 (hρ _ _ rfl) (hm.at 1002 rfl) rfl)) (all_cons (q_run (.pointer (some ⟨P1, 0, none⟩)) rfl rfl (wv_y rfl rfl) rfl (fun _ _ hρ _ => r_nilCheck (hρ _ _ rfl) rfl)) (all_cons (q_run (.pointer (some ⟨P1, 0, none⟩)) rfl rfl (wv_y rfl rfl) rfl (fun _ _ hρ _ => r_fieldAddr fl138_0 sz75 (hρ _ _ rfl))) (all_cons (q_run (.pointer (some ⟨P1, 1, none⟩)) rfl rfl (wv_y rfl rfl) rfl (fun _ _ hρ _ => r_fieldAddr fl75_1 sz3 (hρ _ _ rfl))) (all_cons (q_run (.int .i64 ((q : Nat) : Int)) rfl rfl (wv_y rfl rfl) rfl (fun _ _ hρ hm => r_load ag3 (hρ _ _ rfl) (hm.at 1001 rfl) rfl)) (all_cons (q_run (.int .i64 (-((q : Nat) : Int))) rfl rfl (wv_y rfl rfl) rfl (fun _ _ hρ _ => r_as (r_neg (hρ _ _ rfl)) (int_as ((wrap64 (by omega) (by omega)).trans (by omega))))) (all_cons (q_run (.bool true) rfl rfl (wv_y rfl rfl) rfl (fun _ _ hρ _ => r_as (r_leq (hρ _ _ rfl) (hρ _ _ rfl)) (bool_as (decide_eq_true f2)))) (all_cons (q_run (.bool true) rfl rfl (wv_n rfl) rfl (fun _ _ hρ _ => r_pick_f (hρ _ _ rfl) (hρ _ _ rfl))) (all_cons (q_run (.bool true) rfl rfl (wv_n rfl) rfl (fun _ _ hρ _ => r_move (hρ _ _ rfl))) (all_cons (q_no rfl rfl (wv_no rfl rfl)) (all_cons (q_no rfl rfl (wv_no rfl rfl)) (all_cons (q_no rfl rfl (wv_no rfl rfl)) (all_cons (q_no rfl rfl (wv_no rfl rfl)) (all_cons (q_run (.bool true) rfl rfl (wv_n rfl) rfl (fun _ _ hρ _ => r_pick_t (hρ _ _ rfl) (hρ _ _ rfl))) (all_cons (q_run (.bool true) rfl rfl (wv_n rfl) rfl (fun _ _ hρ _ => r_move (hρ _ _ rfl))) (all_cons (q_no rfl rfl (wv_no rfl rfl)) (all_cons (q_no rfl rfl (wv_no rfl rfl)) (all_cons (q_no rfl rfl (wv_no rfl rfl)) (all_cons (q_no rfl rfl (wv_no rfl rfl)) (all_cons (q_run (.bool true) rfl rfl (wv_n rfl) rfl (fun _ _ hρ _ => r_pick_t (hρ _ _ rfl) (hρ _ _ rfl))) all_nil))))))))))))))))))))))))))))))))) (end_old rfl rfl (end_old rfl rfl (end_old rfl rfl (end_old rfl rfl (end_old rfl rfl (end_old rfl rfl (end_old rfl rfl (end_old rfl rfl (end_old rfl rfl (end_old rfl rfl (end_old rfl rfl (end_old rfl rfl (end_new 0 rfl rfl (end_new 1 rfl rfl (end_new 2 rfl rfl (end_new 3 rfl rfl (end_new 4 rfl rfl (end_new 5 rfl rfl (end_new 6 rfl rfl (end_new 7 rfl rfl (end_new 8 rfl rfl (end_new 9 rfl rfl (end_new 10 rfl rfl (end_new 11 rfl rfl (end_new 12 rfl rfl (end_new 13 rfl rfl (end_new 14 rfl rfl (end_new 15 rfl rfl (end_new 16 rfl rfl (end_new 17 rfl rfl (end_new 18 rfl rfl (end_new 19 rfl rfl (end_new 20 rfl rfl (end_new 21 rfl rfl (end_new 22 rfl rfl (end_new 23 rfl rfl (end_new 24 rfl rfl (end_new 25 rfl rfl (end_new 26 rfl rfl (end_new 27 rfl rfl (end_new 28 rfl rfl (end_new 29 rfl rfl (end_new 30 rfl rfl (end_new 31 rfl rfl end_nil)))))))))))))))))))))))))))))))))))))))))))) ?_
        refine T_cond_t rfl ?_
        refine T_exit' ?_
        refine p_then_x ?_
        refine p_blk_x ?_
        refine p_seq ?_
        refine T_region ?_
        refine TL_q (.int .i64 ((kk + 1 : Nat) : Int)) (fun _ _ hρ _ => r_as (r_add (hρ _ _ rfl) (hρ _ _ rfl)) (int_as ((wrap64 (by omega) (by omega)).trans (by omega)))) rfl rfl rfl (w_n rfl) ?_
        refine TL_q (.int .i64 ((kk + 1 : Nat) : Int)) (fun _ _ hρ _ => r_move (hρ _ _ rfl)) rfl rfl rfl (w_n rfl) ?_
        refine TL_nil ?_
        exact p_atD (kk + 1, z, ds) ⟨⟨by omega, hzw, hzh, by rw [layN_step hu, ← hzt, lay1_far (by omega)], hzo⟩, by dsimp only; omega⟩ rfl rfl rfl (sub_cons rfl (sub_cons rfl (sub_cons rfl (sub_cons rfl (sub_cons rfl (sub_cons rfl (sub_cons rfl (sub_cons rfl sub_nil)))))))) (sub_cons rfl (sub_cons rfl (sub_cons rfl (sub_cons rfl (sub_cons rfl (sub_cons rfl (sub_cons rfl (sub_cons rfl (sub_cons rfl sub_nil)))))))))
      · skip
        by_cases f3 : ((8 * c.wd : Nat) : Int) ≤ u.x
        · skip
          refine T_seq (T_draw (V := [(0, .pointer (some ⟨B4, 0, none⟩)), (1, .int .i64 u.x), (2, .pointer (some ⟨P1, 0, none⟩)), (3, .pointer (some ⟨P1, 0, none⟩)), (4, .pointer (some ⟨P1, 0, none⟩)), (5, .pointer (some ⟨P1, 0, none⟩)), (6, .int .i64 ((p : Nat) : Int)), (7, .int .i64 (-((p : Nat) : Int))), (8, .bool false), (9, .bool false), (10, .pointer (some ⟨B4, 1, none⟩)), (11, .int .i64 u.y), (12, .pointer (some ⟨P1, 0, none⟩)), (13, .pointer (some ⟨P1, 0, none⟩)), (14, .pointer (some ⟨P1, 0, none⟩)), (15, .pointer (some ⟨P1, 1, none⟩)), (16, .int .i64 ((q : Nat) : Int)), (17, .int .i64 (-((q : Nat) : Int))), (18, .bool false), (19, .bool false), (20, .bool false), (21, .pointer (some ⟨B4, 0, none⟩)), (22, .int .i64 u.x), (23, .int .i64 ((8 * c.wd : Nat) : Int)), (24, .bool true), (25, .bool true), (26, .bool true), (27, undef), (28, undef), (29, undef), (30, undef), (31, .bool true)]) [0, 1, 0, 4, 12, 28, 60, 124, 255, 511, 1023, 2047, 1023, 5119, 13311, 29695, 62463, 127999, 262143, 524287, 1048575, 2097151, 4194303, 2097151, 16777215, 33554431, 67108863, 134217727, 268435455, 134217727, 1073741823, 2147483647] [[(8, none)], [(29, some 0)], [(4, none)], [(31, some 2)], [(32, some 3)], [(33, some 4)], [(34, some 5)], [(35, some 6)], [(30, some 1), (36, some 7)], [(37, some 8)], [(8, none)], [(39, some 10)], [(4, none)], [(41, some 12)], [(42, some 13)], [(43, some 14)], [(44, some 15)], [(45, some 16)], [(40, some 11), (46, some 17)], [(47, some 18), (38, some 9)], [(48, some 19)], [(8, none)], [(50, some 21)], [(5, none)], [(51, some 22), (52, some 23)], [(53, some 24), (49, some 20)], [(54, some 25)], [(8, none)], [(56, some 27)], [(6, none)], [(57, some 28), (58, some 29)], [(59, some 30), (55, some 26)]] 0 mixed (by kernel_rfl) ?_)
          refine G_last [0, 1, 2, 3, 4, 5, 6, 7, 8, 9, 10, 11, 12, 13, 14, 15, 16, 17, 18, 19, 20, 21, 22, 23, 24, 25, 26, 27, 28, 29, 30, 31] [(0, .pointer (some ⟨C, 0, none⟩)), (3, .pointer none), (4, .pointer (some ⟨B2, 0, none⟩)), (5, .int .i64 ((8 * c.wd : Nat) : Int)), (6, .int .i64 ((8 * c.hg : Nat) : Int)), (23, .slice (some ⟨b3, of3, none⟩) l.length cl), (24, .int .i64 ((l.length : Nat) : Int)), (25, .int .i64 ((kk : Nat) : Int)), (26, .bool (decide (((kk : Nat) : Int) < ((l.length : Nat) : Int)))), (27, .pointer (some ⟨b3, of3 + kk * 2, none⟩)), (28, .agg #[.int .i64 u.x, .int .i64 u.y]), (8, .pointer (some ⟨B4, 0, none⟩)), (29, .pointer (some ⟨B4, 0, none⟩)), (30, .int .i64 u.x), (31, .pointer (some ⟨P1, 0, none⟩)), (32, .pointer (some ⟨P1, 0, none⟩)), (33, .pointer (some ⟨P1, 0, none⟩)), (34, .pointer (some ⟨P1, 0, none⟩)), (35, .int .i64 ((p : Nat) : Int)), (36, .int .i64 (-((p : Nat) : Int))), (37, .bool false), (38, .bool false), (39, .pointer (some ⟨B4, 1, none⟩)), (40, .int .i64 u.y), (41, .pointer (some ⟨P1, 0, none⟩)), (42, .pointer (some ⟨P1, 0, none⟩)), (43, .pointer (some ⟨P1, 0, none⟩)), (44, .pointer (some ⟨P1, 1, none⟩)), (45, .int .i64 ((q : Nat) : Int)), (46, .int .i64 (-((q : Nat) : Int))), (47, .bool false), (48, .bool false), (49, .bool false), (50, .pointer (some ⟨B4, 0, none⟩)), (51, .int .i64 u.x), (52, .int .i64 ((8 * c.wd : Nat) : Int)), (53, .bool true), (54, .bool true), (55, .bool true), (56, undef), (57, undef), (58, undef), (59, undef), (60, .bool true)] (by kernel_rfl) (allM (all_cons (q_run (.pointer (some ⟨B4, 0, none⟩)) rfl rfl (wv_n rfl) rfl (fun _ _ hρ _ => r_fieldAddr fl47_0 sz3 (hρ _ _ rfl))) (all_cons (q_run (.int .i64 u.x) rfl rfl (wv_n rfl) rfl (fun _ _ hρ hm => r_load ag3 (hρ _ _ rfl) (hm.at 1003 rfl) rfl)) (all_cons (q_run (.pointer (some ⟨P1, 0, none⟩)) rfl rfl (wv_n rfl) rfl (fun _ _ hρ hm => r_load ag134 (hρ _ _ rfl) (hm.at 1002 rfl) rfl)) (all_cons (q_run (.pointer (some ⟨P1, 0, none⟩)) rfl rfl (wv_n rfl) rfl (fun _ _ hρ _ => r_nilCheck (hρ _ _ rfl) rfl)) (all_cons (q_run (.pointer (some ⟨P1, 0, none⟩)) rfl rfl (wv_n rfl) rfl (fun _ _ hρ _ => r_fieldAddr fl138_0 sz75 (hρ _ _ rfl))) (all_cons (q_run (.pointer (some ⟨P1, 0, none⟩)) rfl rfl (wv_n rfl) rfl (fun _ _ hρ _ => r_fieldAddr fl75_0 sz3 (hρ _ _ rfl))) (all_cons (q_run (.int .i64 ((p : Nat) : Int)) rfl rfl (wv_n rfl) rfl (fun _ _ hρ hm => r_load ag3 (hρ _ _ rfl) (hm.at 1001 rfl) rfl)) (all_cons (q_run (.int .i64 (-((p : Nat) : Int))) rfl rfl (wv_n rfl) rfl (fun _ _ hρ _ => r_as (r_neg (hρ _ _ rfl)) (int_as ((wrap64 (by omega) (by omega)).trans (by omega))))) (all_cons (q_run (.bool false) rfl rfl (wv_n rfl) rfl (fun _ _ hρ _ => r_as (r_leq (hρ _ _ rfl) (hρ _ _ rfl)) (bool_as (decide_eq_false f1)))) (all_cons (q_run (.bool false) rfl rfl (wv_n rfl) rfl (fun _ _ hρ _ => r_move (hρ _ _ rfl))) (all_cons (q_run (.pointer (some ⟨B4, 1, none⟩)) rfl rfl (wv_y rfl rfl) rfl (fun _ _ hρ _ => r_fieldAddr fl47_1 sz3 (hρ _ _ rfl))) (all_cons (q_run (.int .i64 u.y) rfl rfl (wv_y rfl rfl) rfl (fun _ _ hρ hm => r_load ag3 (hρ _ _ rfl) (hm.at 1003 rfl) rfl)) (all_cons (q_run (.pointer (some ⟨P1, 0, none⟩)) rfl rfl (wv_y rfl rfl) rfl (fun _ _ hρ hm => r_load ag134 (hρ _ _ rfl) (hm.at 1002 rfl) rfl)) (all_cons (q_run (.pointer (some ⟨P1, 0, none⟩)) rfl rfl (wv_y rfl rfl) rfl (fun _ _ hρ _ => r_nilCheck (hρ _ _ rfl) rfl)) (all_cons (q_run (.pointer (some ⟨P1, 0, none⟩)) rfl rfl (wv_y rfl rfl) rfl (fun _ _ hρ _ => r_fieldAddr fl138_0 sz75 (hρ _ _ rfl))) (all_cons (q_run (.pointer (some ⟨P1, 1, none⟩)) rfl rfl (wv_y rfl rfl) rfl (fun _ _ hρ _ => r_fieldAddr fl75_1 sz3 (hρ _ _ rfl))) (all_cons (q_run (.int .i64 ((q : Nat) : Int)) rfl rfl (wv_y rfl rfl) rfl (fun _ _ hρ hm => r_load ag3 (hρ _ _ rfl) (hm.at 1001 rfl) rfl)) (all_cons (q_run (.int .i64 (-((q : Nat) : Int))) rfl rfl (wv_y rfl rfl) rfl (fun _ _ hρ _ => r_as (r_neg (hρ _ _ rfl)) (int_as ((wrap64 (by omega) (by omega)).trans (by omega))))) (all_cons (q_run (.bool false) rfl rfl (wv_y rfl rfl) rfl (fun _ _ hρ _ => r_as (r_leq (hρ _ _ rfl) (hρ _ _ rfl)) (bool_as (decide_eq_false f2)))) (all_cons (q_run (.bool false) rfl rfl (wv_n rfl) rfl (fun _ _ hρ _ => r_pick_f (hρ _ _ rfl) (hρ _ _ rfl))) (all_cons (q_run (.bool false) rfl rfl (wv_n rfl) rfl (fun _ _ hρ _ => r_move (hρ _ _ rfl))) (all_cons (q_run (.pointer (some ⟨B4, 0, none⟩)) rfl rfl (wv_y rfl rfl) rfl (fun _ _ hρ _ => r_fieldAddr fl47_0 sz3 (hρ _ _ rfl))) (all_cons (q_run (.int .i64 u.x) rfl rfl (wv_y rfl rfl) rfl (fun _ _ hρ hm => r_load ag3 (hρ _ _ rfl) (hm.at 1003 rfl) rfl)) (all_cons (q_run (.int .i64 ((8 * c.wd : Nat) : Int)) rfl rfl (wv_y rfl rfl) rfl (fun _ _ hρ _ => r_move (hρ _ _ rfl))) (all_cons (q_run (.bool true) rfl rfl (wv_y rfl rfl) rfl (fun _ _ hρ _ => r_as (r_geq (hρ _ _ rfl) (hρ _ _ rfl)) (bool_as (decide_eq_true f3)))) (all_cons (q_run (.bool true) rfl rfl (wv_n rfl) rfl (fun _ _ hρ _ => r_pick_f (hρ _ _ rfl) (hρ _ _ rfl))) (all_cons (q_run (.bool true) rfl rfl (wv_n rfl) rfl (fun _ _ hρ _ => r_move (hρ _ _ rfl))) (all_cons (q_no rfl rfl (wv_no rfl rfl)) (all_cons (q_no rfl rfl (wv_no rfl rfl)) (all_cons (q_no rfl rfl (wv_no rfl rfl)) (all_cons (q_no rfl rfl (wv_no rfl rfl)) (all_cons (q_run (.bool true) rfl rfl (wv_n rfl) rfl (fun _ _ hρ _ => r_pick_t (hρ _ _ rfl) (hρ _ _ rfl))) all_nil))))))))))))))))))))))))))))))))) (end_old rfl rfl (end_old rfl rfl (end_old rfl rfl (end_old rfl rfl (end_old rfl rfl (end_old rfl rfl (end_old rfl rfl (end_old rfl rfl (end_old rfl rfl (end_old rfl rfl (end_old rfl rfl (end_old rfl rfl (end_new 0 rfl rfl (end_new 1 rfl rfl (end_new 2 rfl rfl (end_new 3 rfl rfl (end_new 4 rfl rfl (end_new 5 rfl rfl (end_new 6 rfl rfl (end_new 7 rfl rfl (end_new 8 rfl rfl (end_new 9 rfl rfl (end_new 10 rfl rfl (end_new 11 rfl rfl (end_new 12 rfl rfl (end_new 13 rfl rfl (end_new 14 rfl rfl (end_new 15 rfl rfl (end_new 16 rfl rfl (end_new 17 rfl rfl (end_new 18 rfl rfl (end_new 19 rfl rfl (end_new 20 rfl rfl (end_new 21 rfl rfl (end_new 22 rfl rfl (end_new 23 rfl rfl (end_new 24 rfl rfl (end_new 25 rfl rfl (end_new 26 rfl rfl (end_new 27 rfl rfl (end_new 28 rfl rfl (end_new 29 rfl rfl (end_new 30 rfl rfl (end_new 31 rfl rfl end_nil)))))))))))))))))))))))))))))))))))))))))))) ?_
          refine T_cond_t rfl ?_
          refine T_exit' ?_
          refine p_then_x ?_
          refine p_blk_x ?_
          refine p_seq ?_
          refine T_region ?_
          refine TL_q (.int .i64 ((kk + 1 : Nat) : Int)) (fun _ _ hρ _ => r_as (r_add (hρ _ _ rfl) (hρ _ _ rfl)) (int_as ((wrap64 (by omega) (by omega)).trans (by omega)))) rfl rfl rfl (w_n rfl) ?_
          refine TL_q (.int .i64 ((kk + 1 : Nat) : Int)) (fun _ _ hρ _ => r_move (hρ _ _ rfl)) rfl rfl rfl (w_n rfl) ?_
          refine TL_nil ?_
          exact p_atD (kk + 1, z, ds) ⟨⟨by omega, hzw, hzh, by rw [layN_step hu, ← hzt, lay1_far (by omega)], hzo⟩, by dsimp only; omega⟩ rfl rfl rfl (sub_cons rfl (sub_cons rfl (sub_cons rfl (sub_cons rfl (sub_cons rfl (sub_cons rfl (sub_cons rfl (sub_cons rfl sub_nil)))))))) (sub_cons rfl (sub_cons rfl (sub_cons rfl (sub_cons rfl (sub_cons rfl (sub_cons rfl (sub_cons rfl (sub_cons rfl (sub_cons rfl sub_nil)))))))))
        · skip
          by_cases f4 : ((8 * c.hg : Nat) : Int) ≤ u.y
          · skip
            refine T_seq (T_draw (V := [(0, .pointer (some ⟨B4, 0, none⟩)), (1, .int .i64 u.x), (2, .pointer (some ⟨P1, 0, none⟩)), (3, .pointer (some ⟨P1, 0, none⟩)), (4, .pointer (some ⟨P1, 0, none⟩)), (5, .pointer (some ⟨P1, 0, none⟩)), (6, .int .i64 ((p : Nat) : Int)), (7, .int .i64 (-((p : Nat) : Int))), (8, .bool false), (9, .bool false), (10, .pointer (some ⟨B4, 1, none⟩)), (11, .int .i64 u.y), (12, .pointer (some ⟨P1, 0, none⟩)), (13, .pointer (some ⟨P1, 0, none⟩)), (14, .pointer (some ⟨P1, 0, none⟩)), (15, .pointer (some ⟨P1, 1, none⟩)), (16, .int .i64 ((q : Nat) : Int)), (17, .int .i64 (-((q : Nat) : Int))), (18, .bool false), (19, .bool false), (20, .bool false), (21, .pointer (some ⟨B4, 0, none⟩)), (22, .int .i64 u.x), (23, .int .i64 ((8 * c.wd : Nat) : Int)), (24, .bool false), (25, .bool false), (26, .bool false), (27, .pointer (some ⟨B4, 1, none⟩)), (28, .int .i64 u.y), (29, .int .i64 ((8 * c.hg : Nat) : Int)), (30, .bool true), (31, .bool true)]) [0, 1, 0, 4, 12, 28, 60, 124, 255, 511, 1023, 2047, 1023, 5119, 13311, 29695, 62463, 127999, 262143, 524287, 1048575, 2097151, 4194303, 2097151, 16777215, 33554431, 67108863, 134217727, 268435455, 134217727, 1073741823, 2147483647] [[(8, none)], [(29, some 0)], [(4, none)], [(31, some 2)], [(32, some 3)], [(33, some 4)], [(34, some 5)], [(35, some 6)], [(30, some 1), (36, some 7)], [(37, some 8)], [(8, none)], [(39, some 10)], [(4, none)], [(41, some 12)], [(42, some 13)], [(43, some 14)], [(44, some 15)], [(45, some 16)], [(40, some 11), (46, some 17)], [(47, some 18), (38, some 9)], [(48, some 19)], [(8, none)], [(50, some 21)], [(5, none)], [(51, some 22), (52, some 23)], [(53, some 24), (49, some 20)], [(54, some 25)], [(8, none)], [(56, some 27)], [(6, none)], [(57, some 28), (58, some 29)], [(59, some 30), (55, some 26)]] 0 mixed (by kernel_rfl) ?_)
            refine G_last [0, 1, 2, 3, 4, 5, 6, 7, 8, 9, 10, 11, 12, 13, 14, 15, 16, 17, 18, 19, 20, 21, 22, 23, 24, 25, 26, 27, 28, 29, 30, 31] [(0, .pointer (some ⟨C, 0, none⟩)), (3, .pointer none), (4, .pointer (some ⟨B2, 0, none⟩)), (5, .int .i64 ((8 * c.wd : Nat) : Int)), (6, .int .i64 ((8 * c.hg : Nat) : Int)), (23, .slice (some ⟨b3, of3, none⟩) l.length cl), (24, .int .i64 ((l.length : Nat) : Int)), (25, .int .i64 ((kk : Nat) : Int)), (26, .bool (decide (((kk : Nat) : Int) < ((l.length : Nat) : Int)))), (27, .pointer (some ⟨b3, of3 + kk * 2, none⟩)), (28, .agg #[.int .i64 u.x, .int .i64 u.y]), (8, .pointer (some ⟨B4, 0, none⟩)), (29, .pointer (some ⟨B4, 0, none⟩)), (30, .int .i64 u.x), (31, .pointer (some ⟨P1, 0, none⟩)), (32, .pointer (some ⟨P1, 0, none⟩)), (33, .pointer (some ⟨P1, 0, none⟩)), (34, .pointer (some ⟨P1, 0, none⟩)), (35, .int .i64 ((p : Nat) : Int)), (36, .int .i64 (-((p : Nat) : Int))), (37, .bool false), (38, .bool false), (39, .pointer (some ⟨B4, 1, none⟩)), (40, .int .i64 u.y), (41, .pointer (some ⟨P1, 0, none⟩)), (42, .pointer (some ⟨P1, 0, none⟩)), (43, .pointer (some ⟨P1, 0, none⟩)), (44, .pointer (some ⟨P1, 1, none⟩)), (45, .int .i64 ((q : Nat) : Int)), (46, .int .i64 (-((q : Nat) : Int))), (47, .bool false), (48, .bool false), (49, .bool false), (50, .pointer (some ⟨B4, 0, none⟩)), (51, .int .i64 u.x), (52, .int .i64 ((8 * c.wd : Nat) : Int)), (53, .bool false), (54, .bool false), (55, .bool false), (56, .pointer (some ⟨B4, 1, none⟩)), (57, .int .i64 u.y), (58, .int .i64 ((8 * c.hg : Nat) : Int)), (59, .bool true), (60, .bool true)] (by kernel_rfl) (allM (all_cons (q_run (.pointer (some ⟨B4, 0, none⟩)) rfl rfl (wv_n rfl) rfl (fun _ _ hρ _ => r_fieldAddr fl47_0 sz3 (hρ _ _ rfl))) (all_cons (q_run (.int .i64 u.x) rfl rfl (wv_n rfl) rfl (fun _ _ hρ hm => r_load ag3 (hρ _ _ rfl) (hm.at 1003 rfl) rfl)) (all_cons (q_run (.pointer (some ⟨P1, 0, none⟩)) rfl rfl (wv_n rfl) rfl (fun _ _ hρ hm => r_load ag134 (hρ _ _ rfl) (hm.at 1002 rfl) rfl)) (all_cons (q_run (.pointer (some ⟨P1, 0, none⟩)) rfl rfl (wv_n rfl) rfl (fun _ _ hρ _ => r_nilCheck (hρ _ _ rfl) rfl)) (all_cons (q_run (.pointer (some ⟨P1, 0, none⟩)) rfl rfl (wv_n rfl) rfl (fun _ _ hρ _ => r_fieldAddr fl138_0 sz75 (hρ _ _ rfl))) (all_cons (q_run (.pointer (some ⟨P1, 0, none⟩)) rfl rfl (wv_n rfl) rfl (fun _ _ hρ _ => r_fieldAddr fl75_0 sz3 (hρ _ _ rfl))) (all_cons (q_run (.int .i64 ((p : Nat) : Int)) rfl rfl (wv_n rfl) rfl (fun _ _ hρ hm => r_load ag3 (hρ _ _ rfl) (hm.at 1001 rfl) rfl)) (all_cons (q_run (.int .i64 (-((p : Nat) : Int))) rfl rfl (wv_n rfl) rfl (fun _ _ hρ _ => r_as (r_neg (hρ _ _ rfl)) (int_as ((wrap64 (by omega) (by omega)).trans (by omega))))) (all_cons (q_run (.bool false) rfl rfl (wv_n rfl) rfl (fun _ _ hρ _ => r_as (r_leq (hρ _ _ rfl) (hρ _ _ rfl)) (bool_as (decide_eq_false f1)))) (all_cons (q_run (.bool false) rfl rfl (wv_n rfl) rfl (fun _ _ hρ _ => r_move (hρ _ _ rfl))) (all_cons (q_run (.pointer (some ⟨B4, 1, none⟩)) rfl rfl (wv_y rfl rfl) rfl (fun _ _ hρ _ => r_fieldAddr fl47_1 sz3 (hρ _ _ rfl))) (all_cons (q_run (.int .i64 u.y) rfl rfl (wv_y rfl rfl) rfl (fun _ _ hρ hm => r_load ag3 (hρ _ _ rfl) (hm.at 1003 rfl) rfl)) (all_cons (q_run (.pointer (some ⟨P1, 0, none⟩)) rfl rfl (wv_y rfl rfl) rfl (fun _ _ hρ hm => r_load ag134 (hρ _ _ rfl) (hm.at 1002 rfl) rfl)) (all_cons (q_run (.pointer (some ⟨P1, 0, none⟩)) rfl rfl (wv_y rfl rfl) rfl (fun _ _ hρ _ => r_nilCheck (hρ _ _ rfl) rfl)) (all_cons (q_run (.pointer (some ⟨P1, 0, none⟩)) rfl rfl (wv_y rfl rfl) rfl (fun _ _ hρ _ => r_fieldAddr fl138_0 sz75 (hρ _ _ rfl))) (all_cons (q_run (.pointer (some ⟨P1, 1, none⟩)) rfl rfl (wv_y rfl rfl) rfl (fun _ _ hρ _ => r_fieldAddr fl75_1 sz3 (hρ _ _ rfl))) (all_cons (q_run (.int .i64 ((q : Nat) : Int)) rfl rfl (wv_y rfl rfl) rfl (fun _ _ hρ hm => r_load ag3 (hρ _ _ rfl) (hm.at 1001 rfl) rfl)) (all_cons (q_run (.int .i64 (-((q : Nat) : Int))) rfl rfl (wv_y rfl rfl) rfl (fun _ _ hρ _ => r_as (r_neg (hρ _ _ rfl)) (int_as ((wrap64 (by omega) (by omega)).trans (by omega))))) (all_cons (q_run (.bool false) rfl rfl (wv_y rfl rfl) rfl (fun _ _ hρ _ => r_as (r_leq (hρ _ _ rfl) (hρ _ _ rfl)) (bool_as (decide_eq_false f2)))) (all_cons (q_run (.bool false) rfl rfl (wv_n rfl) rfl (fun _ _ hρ _ => r_pick_f (hρ _ _ rfl) (hρ _ _ rfl))) (all_cons (q_run (.bool false) rfl rfl (wv_n rfl) rfl (fun _ _ hρ _ => r_move (hρ _ _ rfl))) (all_cons (q_run (.pointer (some ⟨B4, 0, none⟩)) rfl rfl (wv_y rfl rfl) rfl (fun _ _ hρ _ => r_fieldAddr fl47_0 sz3 (hρ _ _ rfl))) (all_cons (q_run (.int .i64 u.x) rfl rfl (wv_y rfl rfl) rfl (fun _ _ hρ hm => r_load ag3 (hρ _ _ rfl) (hm.at 1003 rfl) rfl)) (all_cons (q_run (.int .i64 ((8 * c.wd : Nat) : Int)) rfl rfl (wv_y rfl rfl) rfl (fun _ _ hρ _ => r_move (hρ _ _ rfl))) (all_cons (q_run (.bool false) rfl rfl (wv_y rfl rfl) rfl (fun _ _ hρ _ => r_as (r_geq (hρ _ _ rfl) (hρ _ _ rfl)) (bool_as (decide_eq_false f3)))) (all_cons (q_run (.bool false) rfl rfl (wv_n rfl) rfl (fun _ _ hρ _ => r_pick_f (hρ _ _ rfl) (hρ _ _ rfl))) (all_cons (q_run (.bool false) rfl rfl (wv_n rfl) rfl (fun _ _ hρ _ => r_move (hρ _ _ rfl))) (all_cons (q_run (.pointer (some ⟨B4, 1, none⟩)) rfl rfl (wv_y rfl rfl) rfl (fun _ _ hρ _ => r_fieldAddr fl47_1 sz3 (hρ _ _ rfl))) (all_cons (q_run (.int .i64 u.y) rfl rfl (wv_y rfl rfl) rfl (fun _ _ hρ hm => r_load ag3 (hρ _ _ rfl) (hm.at 1003 rfl) rfl)) (all_cons (q_run (.int .i64 ((8 * c.hg : Nat) : Int)) rfl rfl (wv_y rfl rfl) rfl (fun _ _ hρ _ => r_move (hρ _ _ rfl))) (all_cons (q_run (.bool true) rfl rfl (wv_y rfl rfl) rfl (fun _ _ hρ _ => r_as (r_geq (hρ _ _ rfl) (hρ _ _ rfl)) (bool_as (decide_eq_true f4)))) (all_cons (q_run (.bool true) rfl rfl (wv_n rfl) rfl (fun _ _ hρ _ => r_pick_f (hρ _ _ rfl) (hρ _ _ rfl))) all_nil))))))))))))))))))))))))))))))))) (end_old rfl rfl (end_old rfl rfl (end_old rfl rfl (end_old rfl rfl (end_old rfl rfl (end_old rfl rfl (end_old rfl rfl (end_old rfl rfl (end_old rfl rfl (end_old rfl rfl (end_old rfl rfl (end_old rfl rfl (end_new 0 rfl rfl (end_new 1 rfl rfl (end_new 2 rfl rfl (end_new 3 rfl rfl (end_new 4 rfl rfl (end_new 5 rfl rfl (end_new 6 rfl rfl (end_new 7 rfl rfl (end_new 8 rfl rfl (end_new 9 rfl rfl (end_new 10 rfl rfl (end_new 11 rfl rfl (end_new 12 rfl rfl (end_new 13 rfl rfl (end_new 14 rfl rfl (end_new 15 rfl rfl (end_new 16 rfl rfl (end_new 17 rfl rfl (end_new 18 rfl rfl (end_new 19 rfl rfl (end_new 20 rfl rfl (end_new 21 rfl rfl (end_new 22 rfl rfl (end_new 23 rfl rfl (end_new 24 rfl rfl (end_new 25 rfl rfl (end_new 26 rfl rfl (end_new 27 rfl rfl (end_new 28 rfl rfl (end_new 29 rfl rfl (end_new 30 rfl rfl (end_new 31 rfl rfl end_nil)))))))))))))))))))))))))))))))))))))))))))) ?_
            refine T_cond_t rfl ?_
            refine T_exit' ?_
            refine p_then_x ?_
            refine p_blk_x ?_
            refine p_seq ?_
            refine T_region ?_
            refine TL_q (.int .i64 ((kk + 1 : Nat) : Int)) (fun _ _ hρ _ => r_as (r_add (hρ _ _ rfl) (hρ _ _ rfl)) (int_as ((wrap64 (by omega) (by omega)).trans (by omega)))) rfl rfl rfl (w_n rfl) ?_
            refine TL_q (.int .i64 ((kk + 1 : Nat) : Int)) (fun _ _ hρ _ => r_move (hρ _ _ rfl)) rfl rfl rfl (w_n rfl) ?_
            refine TL_nil ?_
            exact p_atD (kk + 1, z, ds) ⟨⟨by omega, hzw, hzh, by rw [layN_step hu, ← hzt, lay1_far (by omega)], hzo⟩, by dsimp only; omega⟩ rfl rfl rfl (sub_cons rfl (sub_cons rfl (sub_cons rfl (sub_cons rfl (sub_cons rfl (sub_cons rfl (sub_cons rfl (sub_cons rfl sub_nil)))))))) (sub_cons rfl (sub_cons rfl (sub_cons rfl (sub_cons rfl (sub_cons rfl (sub_cons rfl (sub_cons rfl (sub_cons rfl (sub_cons rfl sub_nil)))))))))
          · skip
            refine T_seq (T_draw (V := [(0, .pointer (some ⟨B4, 0, none⟩)), (1, .int .i64 u.x), (2, .pointer (some ⟨P1, 0, none⟩)), (3, .pointer (some ⟨P1, 0, none⟩)), (4, .pointer (some ⟨P1, 0, none⟩)), (5, .pointer (some ⟨P1, 0, none⟩)), (6, .int .i64 ((p : Nat) : Int)), (7, .int .i64 (-((p : Nat) : Int))), (8, .bool false), (9, .bool false), (10, .pointer (some ⟨B4, 1, none⟩)), (11, .int .i64 u.y), (12, .pointer (some ⟨P1, 0, none⟩)), (13, .pointer (some ⟨P1, 0, none⟩)), (14, .pointer (some ⟨P1, 0, none⟩)), (15, .pointer (some ⟨P1, 1, none⟩)), (16, .int .i64 ((q : Nat) : Int)), (17, .int .i64 (-((q : Nat) : Int))), (18, .bool false), (19, .bool false), (20, .bool false), (21, .pointer (some ⟨B4, 0, none⟩)), (22, .int .i64 u.x), (23, .int .i64 ((8 * c.wd : Nat) : Int)), (24, .bool false), (25, .bool false), (26, .bool false), (27, .pointer (some ⟨B4, 1, none⟩)), (28, .int .i64 u.y), (29, .int .i64 ((8 * c.hg : Nat) : Int)), (30, .bool false), (31, .bool false)]) [0, 1, 0, 4, 12, 28, 60, 124, 255, 511, 1023, 2047, 1023, 5119, 13311, 29695, 62463, 127999, 262143, 524287, 1048575, 2097151, 4194303, 2097151, 16777215, 33554431, 67108863, 134217727, 268435455, 134217727, 1073741823, 2147483647] [[(8, none)], [(29, some 0)], [(4, none)], [(31, some 2)], [(32, some 3)], [(33, some 4)], [(34, some 5)], [(35, some 6)], [(30, some 1), (36, some 7)], [(37, some 8)], [(8, none)], [(39, some 10)], [(4, none)], [(41, some 12)], [(42, some 13)], [(43, some 14)], [(44, some 15)], [(45, some 16)], [(40, some 11), (46, some 17)], [(47, some 18), (38, some 9)], [(48, some 19)], [(8, none)], [(50, some 21)], [(5, none)], [(51, some 22), (52, some 23)], [(53, some 24), (49, some 20)], [(54, some 25)], [(8, none)], [(56, some 27)], [(6, none)], [(57, some 28), (58, some 29)], [(59, some 30), (55, some 26)]] 0 mixed (by kernel_rfl) ?_)
            refine G_last [0, 1, 2, 3, 4, 5, 6, 7, 8, 9, 10, 11, 12, 13, 14, 15, 16, 17, 18, 19, 20, 21, 22, 23, 24, 25, 26, 27, 28, 29, 30, 31] [(0, .pointer (some ⟨C, 0, none⟩)), (3, .pointer none), (4, .pointer (some ⟨B2, 0, none⟩)), (5, .int .i64 ((8 * c.wd : Nat) : Int)), (6, .int .i64 ((8 * c.hg : Nat) : Int)), (23, .slice (some ⟨b3, of3, none⟩) l.length cl), (24, .int .i64 ((l.length : Nat) : Int)), (25, .int .i64 ((kk : Nat) : Int)), (26, .bool (decide (((kk : Nat) : Int) < ((l.length : Nat) : Int)))), (27, .pointer (some ⟨b3, of3 + kk * 2, none⟩)), (28, .agg #[.int .i64 u.x, .int .i64 u.y]), (8, .pointer (some ⟨B4, 0, none⟩)), (29, .pointer (some ⟨B4, 0, none⟩)), (30, .int .i64 u.x), (31, .pointer (some ⟨P1, 0, none⟩)), (32, .pointer (some ⟨P1, 0, none⟩)), (33, .pointer (some ⟨P1, 0, none⟩)), (34, .pointer (some ⟨P1, 0, none⟩)), (35, .int .i64 ((p : Nat) : Int)), (36, .int .i64 (-((p : Nat) : Int))), (37, .bool false), (38, .bool false), (39, .pointer (some ⟨B4, 1, none⟩)), (40, .int .i64 u.y), (41, .pointer (some ⟨P1, 0, none⟩)), (42, .pointer (some ⟨P1, 0, none⟩)), (43, .pointer (some ⟨P1, 0, none⟩)), (44, .pointer (some ⟨P1, 1, none⟩)), (45, .int .i64 ((q : Nat) : Int)), (46, .int .i64 (-((q : Nat) : Int))), (47, .bool false), (48, .bool false), (49, .bool false), (50, .pointer (some ⟨B4, 0, none⟩)), (51, .int .i64 u.x), (52, .int .i64 ((8 * c.wd : Nat) : Int)), (53, .bool false), (54, .bool false), (55, .bool false), (56, .pointer (some ⟨B4, 1, none⟩)), (57, .int .i64 u.y), (58, .int .i64 ((8 * c.hg : Nat) : Int)), (59, .bool false), (60, .bool false)] (by kernel_rfl) (allM (all_cons (q_run (.pointer (some ⟨B4, 0, none⟩)) rfl rfl (wv_n rfl) rfl (fun _ _ hρ _ => r_fieldAddr fl47_0 sz3 (hρ _ _ rfl))) (all_cons (q_run (.int .i64 u.x) rfl rfl (wv_n rfl) rfl (fun _ _ hρ hm => r_load ag3 (hρ _ _ rfl) (hm.at 1003 rfl) rfl)) (all_cons (q_run (.pointer (some ⟨P1, 0, none⟩)) rfl rfl (wv_n rfl) rfl (fun _ _ hρ hm => r_load ag134 (hρ _ _ rfl) (hm.at 1002 rfl) rfl)) (all_cons (q_run (.pointer (some ⟨P1, 0, none⟩)) rfl rfl (wv_n rfl) rfl (fun _ _ hρ _ => r_nilCheck (hρ _ _ rfl) rfl)) (all_cons (q_run (.pointer (some ⟨P1, 0, none⟩)) rfl rfl (wv_n rfl) rfl (fun _ _ hρ _ => r_fieldAddr fl138_0 sz75 (hρ _ _ rfl))) (all_cons (q_run (.pointer (some ⟨P1, 0, none⟩)) rfl rfl (wv_n rfl) rfl (fun _ _ hρ _ => r_fieldAddr fl75_0 sz3 (hρ _ _ rfl))) (all_cons (q_run (.int .i64 ((p : Nat) : Int)) rfl rfl (wv_n rfl) rfl (fun _ _ hρ hm => r_load ag3 (hρ _ _ rfl) (hm.at 1001 rfl) rfl)) (all_cons (q_run (.int .i64 (-((p : Nat) : Int))) rfl rfl (wv_n rfl) rfl (fun _ _ hρ _ => r_as (r_neg (hρ _ _ rfl)) (int_as ((wrap64 (by omega) (by omega)).trans (by omega))))) (all_cons (q_run (.bool false) rfl rfl (wv_n rfl) rfl (fun _ _ hρ _ => r_as (r_leq (hρ _ _ rfl) (hρ _ _ rfl)) (bool_as (decide_eq_false f1)))) (all_cons (q_run (.bool false) rfl rfl (wv_n rfl) rfl (fun _ _ hρ _ => r_move (hρ _ _ rfl))) (all_cons (q_run (.pointer (some ⟨B4, 1, none⟩)) rfl rfl (wv_y rfl rfl) rfl (fun _ _ hρ _ => r_fieldAddr fl47_1 sz3 (hρ _ _ rfl))) (all_cons (q_run (.int .i64 u.y) rfl rfl (wv_y rfl rfl) rfl (fun _ _ hρ hm => r_load ag3 (hρ _ _ rfl) (hm.at 1003 rfl) rfl)) (all_cons (q_run (.pointer (some ⟨P1, 0, none⟩)) rfl rfl (wv_y rfl rfl) rfl (fun _ _ hρ hm => r_load ag134 (hρ _ _ rfl) (hm.at 1002 rfl) rfl)) (all_cons (q_run (.pointer (some ⟨P1, 0, none⟩)) rfl rfl (wv_y rfl rfl) rfl (fun _ _ hρ _ => r_nilCheck (hρ _ _ rfl) rfl)) (all_cons (q_run (.pointer (some ⟨P1, 0, none⟩)) rfl rfl (wv_y rfl rfl) rfl (fun _ _ hρ _ => r_fieldAddr fl138_0 sz75 (hρ _ _ rfl))) (all_cons (q_run (.pointer (some ⟨P1, 1, none⟩)) rfl rfl (wv_y rfl rfl) rfl (fun _ _ hρ _ => r_fieldAddr fl75_1 sz3 (hρ _ _ rfl))) (all_cons (q_run (.int .i64 ((q : Nat) : Int)) rfl rfl (wv_y rfl rfl) rfl (fun _ _ hρ hm => r_load ag3 (hρ _ _ rfl) (hm.at 1001 rfl) rfl)) (all_cons (q_run (.int .i64 (-((q : Nat) : Int))) rfl rfl (wv_y rfl rfl) rfl (fun _ _ hρ _ => r_as (r_neg (hρ _ _ rfl)) (int_as ((wrap64 (by omega) (by omega)).trans (by omega))))) (all_cons (q_run (.bool false) rfl rfl (wv_y rfl rfl) rfl (fun _ _ hρ _ => r_as (r_leq (hρ _ _ rfl) (hρ _ _ rfl)) (bool_as (decide_eq_false f2)))) (all_cons (q_run (.bool false) rfl rfl (wv_n rfl) rfl (fun _ _ hρ _ => r_pick_f (hρ _ _ rfl) (hρ _ _ rfl))) (all_cons (q_run (.bool false) rfl rfl (wv_n rfl) rfl (fun _ _ hρ _ => r_move (hρ _ _ rfl))) (all_cons (q_run (.pointer (some ⟨B4, 0, none⟩)) rfl rfl (wv_y rfl rfl) rfl (fun _ _ hρ _ => r_fieldAddr fl47_0 sz3 (hρ _ _ rfl))) (all_cons (q_run (.int .i64 u.x) rfl rfl (wv_y rfl rfl) rfl (fun _ _ hρ hm => r_load ag3 (hρ _ _ rfl) (hm.at 1003 rfl) rfl)) (all_cons (q_run (.int .i64 ((8 * c.wd : Nat) : Int)) rfl rfl (wv_y rfl rfl) rfl (fun _ _ hρ _ => r_move (hρ _ _ rfl))) (all_cons (q_run (.bool false) rfl rfl (wv_y rfl rfl) rfl (fun _ _ hρ _ => r_as (r_geq (hρ _ _ rfl) (hρ _ _ rfl)) (bool_as (decide_eq_false f3)))) (all_cons (q_run (.bool false) rfl rfl (wv_n rfl) rfl (fun _ _ hρ _ => r_pick_f (hρ _ _ rfl) (hρ _ _ rfl))) (all_cons (q_run (.bool false) rfl rfl (wv_n rfl) rfl (fun _ _ hρ _ => r_move (hρ _ _ rfl))) (all_cons (q_run (.pointer (some ⟨B4, 1, none⟩)) rfl rfl (wv_y rfl rfl) rfl (fun _ _ hρ _ => r_fieldAddr fl47_1 sz3 (hρ _ _ rfl))) (all_cons (q_run (.int .i64 u.y) rfl rfl (wv_y rfl rfl) rfl (fun _ _ hρ hm => r_load ag3 (hρ _ _ rfl) (hm.at 1003 rfl) rfl)) (all_cons (q_run (.int .i64 ((8 * c.hg : Nat) : Int)) rfl rfl (wv_y rfl rfl) rfl (fun _ _ hρ _ => r_move (hρ _ _ rfl))) (all_cons (q_run (.bool false) rfl rfl (wv_y rfl rfl) rfl (fun _ _ hρ _ => r_as (r_geq (hρ _ _ rfl) (hρ _ _ rfl)) (bool_as (decide_eq_false f4)))) (all_cons (q_run (.bool false) rfl rfl (wv_n rfl) rfl (fun _ _ hρ _ => r_pick_f (hρ _ _ rfl) (hρ _ _ rfl))) all_nil))))))))))))))))))))))))))))))))) (end_old rfl rfl (end_old rfl rfl (end_old rfl rfl (end_old rfl rfl (end_old rfl rfl (end_old rfl rfl (end_old rfl rfl (end_old rfl rfl (end_old rfl rfl (end_old rfl rfl (end_old rfl rfl (end_old rfl rfl (end_new 0 rfl rfl (end_new 1 rfl rfl (end_new 2 rfl rfl (end_new 3 rfl rfl (end_new 4 rfl rfl (end_new 5 rfl rfl (end_new 6 rfl rfl (end_new 7 rfl rfl (end_new 8 rfl rfl (end_new 9 rfl rfl (end_new 10 rfl rfl (end_new 11 rfl rfl (end_new 12 rfl rfl (end_new 13 rfl rfl (end_new 14 rfl rfl (end_new 15 rfl rfl (end_new 16 rfl rfl (end_new 17 rfl rfl (end_new 18 rfl rfl (end_new 19 rfl rfl (end_new 20 rfl rfl (end_new 21 rfl rfl (end_new 22 rfl rfl (end_new 23 rfl rfl (end_new 24 rfl rfl (end_new 25 rfl rfl (end_new 26 rfl rfl (end_new 27 rfl rfl (end_new 28 rfl rfl (end_new 29 rfl rfl (end_new 30 rfl rfl (end_new 31 rfl rfl end_nil)))))))))))))))))))))))))))))))))))))))))))) ?_
            refine T_cond_f rfl ?_
            refine T_skip' ?_
            refine p_seq ?_
            refine T_seq (T_region ?_)
            refine TL_new 1004 (.cells #[.slice none 0 0] 25) (fun B => .pointer (some ⟨B, 0, none⟩)) (fun _ _ _ _ => r_alloc (v := .slice none 0 0) (by kernel_rfl) rfl) rfl rfl rfl (w_n rfl) ?_
            intro B5
            refine TL_seq ?_
            refine T_seq ?_
            refine T_seq (T_region ?_)
            refine TL_q (.pointer (some ⟨P1, 0, none⟩)) (fun _ _ hρ hm => r_load ag134 (hρ _ _ rfl) (hm.at 1002 rfl) rfl) rfl rfl rfl (w_n rfl) ?_
            refine TL_callN (fun (_ : Nat) => True) (fun q6 => .func (.func 105) #[] #[.pointer (some ⟨q6, 0, none⟩)]) (fun q6 => [(1005, .blk q6 (.cells #[.pointer (some ⟨P1, 0, none⟩)] 134))]) (fun _ _ hρ _ => r_call (args := [.pointer (some ⟨P1, 0, none⟩)]) (enters_of Try.func95 (by kernel_rfl) rfl) (hρ _ _ rfl) ((cons2 (hρ _ _ rfl) rfl)) rfl) (fun w _ => (places_c P1 w).mono fun e w' ⟨q, he, hb, hr⟩ => ⟨q, trivial, he, hb, newOk1 1005 hr⟩) rfl rfl rfl (w_n rfl) ?_
            intro q6 _
            refine TL_seq ?_
            refine T_block ?_
            refine T_mem (_ :: _) (fun _ hm => hm.nilRow 950 51 6) ?_
            refine T_sub [(0, .pointer (some ⟨C, 0, none⟩)), (3, .pointer none), (4, .pointer (some ⟨B2, 0, none⟩)), (5, .int .i64 ((8 * c.wd : Nat) : Int)), (6, .int .i64 ((8 * c.hg : Nat) : Int)), (23, .slice (some ⟨b3, of3, none⟩) l.length cl), (24, .int .i64 ((l.length : Nat) : Int)), (25, .int .i64 ((kk : Nat) : Int)), (26, .bool (decide (((kk : Nat) : Int) < ((l.length : Nat) : Int)))), (27, .pointer (some ⟨b3, of3 + kk * 2, none⟩)), (28, .agg #[.int .i64 u.x, .int .i64 u.y]), (8, .pointer (some ⟨B4, 0, none⟩)), (29, .pointer (some ⟨B4, 0, none⟩)), (30, .int .i64 u.x), (31, .pointer (some ⟨P1, 0, none⟩)), (32, .pointer (some ⟨P1, 0, none⟩)), (33, .pointer (some ⟨P1, 0, none⟩)), (34, .pointer (some ⟨P1, 0, none⟩)), (35, .int .i64 ((p : Nat) : Int)), (36, .int .i64 (-((p : Nat) : Int))), (37, .bool false), (38, .bool false), (39, .pointer (some ⟨B4, 1, none⟩)), (40, .int .i64 u.y), (41, .pointer (some ⟨P1, 0, none⟩)), (42, .pointer (some ⟨P1, 0, none⟩)), (43, .pointer (some ⟨P1, 0, none⟩)), (44, .pointer (some ⟨P1, 1, none⟩)), (45, .int .i64 ((q : Nat) : Int)), (46, .int .i64 (-((q : Nat) : Int))), (47, .bool false), (48, .bool false), (49, .bool false), (50, .pointer (some ⟨B4, 0, none⟩)), (51, .int .i64 u.x), (52, .int .i64 ((8 * c.wd : Nat) : Int)), (53, .bool false), (54, .bool false), (55, .bool false), (56, .pointer (some ⟨B4, 1, none⟩)), (57, .int .i64 u.y), (58, .int .i64 ((8 * c.hg : Nat) : Int)), (59, .bool false), (60, .bool false), (9, .pointer (some ⟨B5, 0, none⟩)), (61, .pointer (some ⟨P1, 0, none⟩)), (62, .func (.func 105) #[] #[.pointer (some ⟨q6, 0, none⟩)])] [(950, .row (.slice none 0 0) 51 6 0 []), (1005, .blk q6 (.cells #[.pointer (some ⟨P1, 0, none⟩)] 134)), (1001, .blk P1 (.cells #[.int .i64 ((p : Nat) : Int), .int .i64 ((q : Nat) : Int), .slice a px.length cap] 138)), (1901, .blk B (.cells #[.int .i64 0] 29)), (1900, .blk A (.cells #[.pointer none] 28)), (3, .blk Lb (.cells #[.slice (some ⟨b3, of3, none⟩) l.length cl] 44)), (2, .blk S (.cells #[.int .i64 ((p : Nat) : Int), .int .i64 ((q : Nat) : Int), .slice a px.length cap] 75)), (1002, .blk B2 (.cells #[.pointer (some ⟨P1, 0, none⟩)] 134)), (1, .blk C (.cells #[.pointer (some ⟨z.p, 0, none⟩)] 28)), (960, .cvO w₀ z), (970, .dfs ds), (1003, .blk B4 (.cells #[.int .i64 u.x, .int .i64 u.y] 47)), (1004, .blk B5 (.cells #[.slice none 0 0] 25))] (sub_cons rfl (sub_cons rfl (sub_cons rfl (sub_cons rfl (sub_cons rfl (sub_cons rfl (sub_cons rfl (sub_cons rfl (sub_cons rfl (sub_cons rfl (sub_cons rfl (sub_cons rfl (sub_cons rfl (sub_cons rfl (sub_cons rfl (sub_cons rfl (sub_cons rfl (sub_cons rfl (sub_cons rfl (sub_cons rfl (sub_cons rfl (sub_cons rfl (sub_cons rfl (sub_cons rfl (sub_cons rfl (sub_cons rfl (sub_cons rfl (sub_cons rfl (sub_cons rfl (sub_cons rfl (sub_cons rfl (sub_cons rfl (sub_cons rfl (sub_cons rfl (sub_cons rfl (sub_cons rfl (sub_cons rfl (sub_cons rfl (sub_cons rfl (sub_cons rfl (sub_cons rfl (sub_cons rfl (sub_cons rfl (sub_cons rfl (sub_cons rfl (sub_cons rfl (sub_cons rfl sub_nil))))))))))))))))))))))))))))))))))))))))))))))) (sub_cons rfl (sub_cons rfl (sub_cons rfl (sub_cons rfl (sub_cons rfl (sub_cons rfl (sub_cons rfl (sub_cons rfl (sub_cons rfl (sub_cons rfl (sub_cons rfl (sub_cons rfl (sub_cons rfl sub_nil))))))))))))) ?_
            refine T_rangeB (ι := Option Addr × Nat) (ζ := Nat) (encs := encPt) (xs := ptsG p q) rfl rfl (enters_of Try.func105 (by kernel_rfl) rfl) (fun _ => rfl) rfl 801 802 rfl (fun (k : Nat) (zz : Option Addr × Nat) => True) (fun (k : Nat) (zz : Option Addr × Nat) => [(1004, .blk B5 (.cells #[.slice zz.1 ((layD z.wd z.hg z.ts p q px u.x u.y k).length) zz.2] 25)), (950, .row (.slice zz.1 ((layD z.wd z.hg z.ts p q px u.x u.y k).length) zz.2) 51 6 ((layD z.wd z.hg z.ts p q px u.x u.y k).length) ((layD z.wd z.hg z.ts p q px u.x u.y k).flatMap Dt.cells)), (1005, .blk q6 (.cells #[.pointer (some ⟨P1, 0, none⟩)] 134)), (1001, .blk P1 (.cells #[.int .i64 ((p : Nat) : Int), .int .i64 ((q : Nat) : Int), .slice a px.length cap] 138)), (1901, .blk B (.cells #[.int .i64 0] 29)), (1900, .blk A (.cells #[.pointer none] 28)), (3, .blk Lb (.cells #[.slice (some ⟨b3, of3, none⟩) l.length cl] 44)), (2, .blk S (.cells #[.int .i64 ((p : Nat) : Int), .int .i64 ((q : Nat) : Int), .slice a px.length cap] 75)), (1002, .blk B2 (.cells #[.pointer (some ⟨P1, 0, none⟩)] 134)), (1, .blk C (.cells #[.pointer (some ⟨z.p, 0, none⟩)] 28)), (960, .cvO w₀ z), (970, .dfs ds), (1003, .blk B4 (.cells #[.int .i64 u.x, .int .i64 u.y] 47))]) (fun _ _ => False) (fun _ => []) (fun x Bz => [(0, .pointer (some ⟨C, 0, none⟩)), (3, .pointer none), (4, .pointer (some ⟨B2, 0, none⟩)), (5, .int .i64 ((8 * c.wd : Nat) : Int)), (6, .int .i64 ((8 * c.hg : Nat) : Int)), (23, .slice (some ⟨b3, of3, none⟩) l.length cl), (24, .int .i64 ((l.length : Nat) : Int)), (25, .int .i64 ((kk : Nat) : Int)), (26, .bool (decide (((kk : Nat) : Int) < ((l.length : Nat) : Int)))), (27, .pointer (some ⟨b3, of3 + kk * 2, none⟩)), (28, .agg #[.int .i64 u.x, .int .i64 u.y]), (8, .pointer (some ⟨B4, 0, none⟩)), (29, .pointer (some ⟨B4, 0, none⟩)), (30, .int .i64 u.x), (31, .pointer (some ⟨P1, 0, none⟩)), (32, .pointer (some ⟨P1, 0, none⟩)), (33, .pointer (some ⟨P1, 0, none⟩)), (34, .pointer (some ⟨P1, 0, none⟩)), (35, .int .i64 ((p : Nat) : Int)), (36, .int .i64 (-((p : Nat) : Int))), (37, .bool false), (38, .bool false), (39, .pointer (some ⟨B4, 1, none⟩)), (40, .int .i64 u.y), (41, .pointer (some ⟨P1, 0, none⟩)), (42, .pointer (some ⟨P1, 0, none⟩)), (43, .pointer (some ⟨P1, 0, none⟩)), (44, .pointer (some ⟨P1, 1, none⟩)), (45, .int .i64 ((q : Nat) : Int)), (46, .int .i64 (-((q : Nat) : Int))), (47, .bool false), (48, .bool false), (49, .bool false), (50, .pointer (some ⟨B4, 0, none⟩)), (51, .int .i64 u.x), (52, .int .i64 ((8 * c.wd : Nat) : Int)), (53, .bool false), (54, .bool false), (55, .bool false), (56, .pointer (some ⟨B4, 1, none⟩)), (57, .int .i64 u.y), (58, .int .i64 ((8 * c.hg : Nat) : Int)), (59, .bool false), (60, .bool false), (9, .pointer (some ⟨B5, 0, none⟩)), (61, .pointer (some ⟨P1, 0, none⟩)), (62, .func (.func 105) #[] #[.pointer (some ⟨q6, 0, none⟩)]), (10, .pointer (some ⟨Bz, 0, none⟩))]) (fun x Bz => [(1201, .blk Bz (.cells #[.int .i64 ((x.1 : Nat) : Int), .int .i64 ((x.2 : Nat) : Int)] 47))]) (fun D l rec => places_iter _ _ _ 1005 q6 P1 p q _ (by omega) (by omega) (fun _ _ => rfl) (fun _ _ _ hm => hm.at 1001 rfl)) (fun _ _ => ⟨rfl, rfl⟩) (fun _ => ⟨rfl, rfl⟩) (none, 0) trivial (sub_cons rfl (sub_cons rfl (sub_cons rfl (sub_cons rfl (sub_cons rfl (sub_cons rfl (sub_cons rfl (sub_cons rfl (sub_cons rfl (sub_cons rfl (sub_cons rfl (sub_cons rfl (sub_cons rfl sub_nil))))))))))))) ?_ ?_ ?_ (fun _ _ _ h => h.elim)
            · intro D1 l1 rec1 k x zz hx1 hp1
              refine T_sub [(0, .pointer (some ⟨C, 0, none⟩)), (3, .pointer none), (4, .pointer (some ⟨B2, 0, none⟩)), (5, .int .i64 ((8 * c.wd : Nat) : Int)), (6, .int .i64 ((8 * c.hg : Nat) : Int)), (23, .slice (some ⟨b3, of3, none⟩) l.length cl), (24, .int .i64 ((l.length : Nat) : Int)), (25, .int .i64 ((kk : Nat) : Int)), (26, .bool (decide (((kk : Nat) : Int) < ((l.length : Nat) : Int)))), (27, .pointer (some ⟨b3, of3 + kk * 2, none⟩)), (28, .agg #[.int .i64 u.x, .int .i64 u.y]), (8, .pointer (some ⟨B4, 0, none⟩)), (29, .pointer (some ⟨B4, 0, none⟩)), (30, .int .i64 u.x), (31, .pointer (some ⟨P1, 0, none⟩)), (32, .pointer (some ⟨P1, 0, none⟩)), (33, .pointer (some ⟨P1, 0, none⟩)), (34, .pointer (some ⟨P1, 0, none⟩)), (35, .int .i64 ((p : Nat) : Int)), (36, .int .i64 (-((p : Nat) : Int))), (37, .bool false), (38, .bool false), (39, .pointer (some ⟨B4, 1, none⟩)), (40, .int .i64 u.y), (41, .pointer (some ⟨P1, 0, none⟩)), (42, .pointer (some ⟨P1, 0, none⟩)), (43, .pointer (some ⟨P1, 0, none⟩)), (44, .pointer (some ⟨P1, 1, none⟩)), (45, .int .i64 ((q : Nat) : Int)), (46, .int .i64 (-((q : Nat) : Int))), (47, .bool false), (48, .bool false), (49, .bool false), (50, .pointer (some ⟨B4, 0, none⟩)), (51, .int .i64 u.x), (52, .int .i64 ((8 * c.wd : Nat) : Int)), (53, .bool false), (54, .bool false), (55, .bool false), (56, .pointer (some ⟨B4, 1, none⟩)), (57, .int .i64 u.y), (58, .int .i64 ((8 * c.hg : Nat) : Int)), (59, .bool false), (60, .bool false), (9, .pointer (some ⟨B5, 0, none⟩)), (61, .pointer (some ⟨P1, 0, none⟩)), (62, .func (.func 105) #[] #[.pointer (some ⟨q6, 0, none⟩)]), (63, .agg #[.int .i64 ((x.1 : Nat) : Int), .int .i64 ((x.2 : Nat) : Int)])] [(801, .blk D1 (.deferred (some []))), (802, .blk l1 (.loop rec1)), (1004, .blk B5 (.cells #[.slice zz.1 ((layD z.wd z.hg z.ts p q px u.x u.y k).length) zz.2] 25)), (950, .row (.slice zz.1 ((layD z.wd z.hg z.ts p q px u.x u.y k).length) zz.2) 51 6 ((layD z.wd z.hg z.ts p q px u.x u.y k).length) ((layD z.wd z.hg z.ts p q px u.x u.y k).flatMap Dt.cells)), (1005, .blk q6 (.cells #[.pointer (some ⟨P1, 0, none⟩)] 134)), (1001, .blk P1 (.cells #[.int .i64 ((p : Nat) : Int), .int .i64 ((q : Nat) : Int), .slice a px.length cap] 138)), (1901, .blk B (.cells #[.int .i64 0] 29)), (1900, .blk A (.cells #[.pointer none] 28)), (3, .blk Lb (.cells #[.slice (some ⟨b3, of3, none⟩) l.length cl] 44)), (2, .blk S (.cells #[.int .i64 ((p : Nat) : Int), .int .i64 ((q : Nat) : Int), .slice a px.length cap] 75)), (1002, .blk B2 (.cells #[.pointer (some ⟨P1, 0, none⟩)] 134)), (1, .blk C (.cells #[.pointer (some ⟨z.p, 0, none⟩)] 28)), (960, .cvO w₀ z), (970, .dfs ds), (1003, .blk B4 (.cells #[.int .i64 u.x, .int .i64 u.y] 47))] (sub_cons rfl (sub_cons rfl (sub_cons rfl (sub_cons rfl (sub_cons rfl (sub_cons rfl (sub_cons rfl (sub_cons rfl (sub_cons rfl (sub_cons rfl (sub_cons rfl (sub_cons rfl (sub_cons rfl (sub_cons rfl (sub_cons rfl (sub_cons rfl (sub_cons rfl (sub_cons rfl (sub_cons rfl (sub_cons rfl (sub_cons rfl (sub_cons rfl (sub_cons rfl (sub_cons rfl (sub_cons rfl (sub_cons rfl (sub_cons rfl (sub_cons rfl (sub_cons rfl (sub_cons rfl (sub_cons rfl (sub_cons rfl (sub_cons rfl (sub_cons rfl (sub_cons rfl (sub_cons rfl (sub_cons rfl (sub_cons rfl (sub_cons rfl (sub_cons rfl (sub_cons rfl (sub_cons rfl (sub_cons rfl (sub_cons rfl (sub_cons rfl (sub_cons rfl (sub_cons rfl (sub_cons rfl sub_nil)))))))))))))))))))))))))))))))))))))))))))))))) (sub_cons rfl (sub_cons rfl (sub_cons rfl (sub_cons rfl (sub_cons rfl (sub_cons rfl (sub_cons rfl (sub_cons rfl (sub_cons rfl (sub_cons rfl (sub_cons rfl (sub_cons rfl (sub_cons rfl (sub_cons rfl (sub_cons rfl sub_nil))))))))))))))) ?_
              refine T_region ?_
              refine TL_new 1201 (.cells #[.int .i64 0, .int .i64 0] 47) (fun B => .pointer (some ⟨B, 0, none⟩)) (fun _ _ _ _ => r_alloc (v := .agg #[.int .i64 0, .int .i64 0]) (by kernel_rfl) rfl) rfl rfl rfl (w_n rfl) ?_
              intro B7
              refine TL_store 1201 (.cells #[.int .i64 ((x.1 : Nat) : Int), .int .i64 ((x.2 : Nat) : Int)] 47) rfl (fun _ _ hρ hm => r_store sz47 (hρ _ _ rfl) (hρ _ _ rfl) (hm.at 1201 rfl) rfl rfl rfl rfl) rfl rfl (w_n rfl) ?_
              refine TL_nil ?_
              exact p_at B7 trivial (sub_cons rfl (sub_cons rfl (sub_cons rfl (sub_cons rfl (sub_cons rfl (sub_cons rfl (sub_cons rfl (sub_cons rfl (sub_cons rfl (sub_cons rfl (sub_cons rfl (sub_cons rfl (sub_cons rfl (sub_cons rfl (sub_cons rfl (sub_cons rfl (sub_cons rfl (sub_cons rfl (sub_cons rfl (sub_cons rfl (sub_cons rfl (sub_cons rfl (sub_cons rfl (sub_cons rfl (sub_cons rfl (sub_cons rfl (sub_cons rfl (sub_cons rfl (sub_cons rfl (sub_cons rfl (sub_cons rfl (sub_cons rfl (sub_cons rfl (sub_cons rfl (sub_cons rfl (sub_cons rfl (sub_cons rfl (sub_cons rfl (sub_cons rfl (sub_cons rfl (sub_cons rfl (sub_cons rfl (sub_cons rfl (sub_cons rfl (sub_cons rfl (sub_cons rfl (sub_cons rfl (sub_cons rfl sub_nil)))))))))))))))))))))))))))))))))))))))))))))))) (sub_cons rfl (sub_cons rfl (sub_cons rfl (sub_cons rfl (sub_cons rfl (sub_cons rfl (sub_cons rfl (sub_cons rfl (sub_cons rfl (sub_cons rfl (sub_cons rfl (sub_cons rfl (sub_cons rfl (sub_cons rfl (sub_cons rfl (sub_cons rfl sub_nil))))))))))))))))
            · intro D1 l1 rec1 k x zz Bz hx1 hp1
              show T _ _ _ [(0, .pointer (some ⟨C, 0, none⟩)), (3, .pointer none), (4, .pointer (some ⟨B2, 0, none⟩)), (5, .int .i64 ((8 * c.wd : Nat) : Int)), (6, .int .i64 ((8 * c.hg : Nat) : Int)), (23, .slice (some ⟨b3, of3, none⟩) l.length cl), (24, .int .i64 ((l.length : Nat) : Int)), (25, .int .i64 ((kk : Nat) : Int)), (26, .bool (decide (((kk : Nat) : Int) < ((l.length : Nat) : Int)))), (27, .pointer (some ⟨b3, of3 + kk * 2, none⟩)), (28, .agg #[.int .i64 u.x, .int .i64 u.y]), (8, .pointer (some ⟨B4, 0, none⟩)), (29, .pointer (some ⟨B4, 0, none⟩)), (30, .int .i64 u.x), (31, .pointer (some ⟨P1, 0, none⟩)), (32, .pointer (some ⟨P1, 0, none⟩)), (33, .pointer (some ⟨P1, 0, none⟩)), (34, .pointer (some ⟨P1, 0, none⟩)), (35, .int .i64 ((p : Nat) : Int)), (36, .int .i64 (-((p : Nat) : Int))), (37, .bool false), (38, .bool false), (39, .pointer (some ⟨B4, 1, none⟩)), (40, .int .i64 u.y), (41, .pointer (some ⟨P1, 0, none⟩)), (42, .pointer (some ⟨P1, 0, none⟩)), (43, .pointer (some ⟨P1, 0, none⟩)), (44, .pointer (some ⟨P1, 1, none⟩)), (45, .int .i64 ((q : Nat) : Int)), (46, .int .i64 (-((q : Nat) : Int))), (47, .bool false), (48, .bool false), (49, .bool false), (50, .pointer (some ⟨B4, 0, none⟩)), (51, .int .i64 u.x), (52, .int .i64 ((8 * c.wd : Nat) : Int)), (53, .bool false), (54, .bool false), (55, .bool false), (56, .pointer (some ⟨B4, 1, none⟩)), (57, .int .i64 u.y), (58, .int .i64 ((8 * c.hg : Nat) : Int)), (59, .bool false), (60, .bool false), (9, .pointer (some ⟨B5, 0, none⟩)), (61, .pointer (some ⟨P1, 0, none⟩)), (62, .func (.func 105) #[] #[.pointer (some ⟨q6, 0, none⟩)]), (10, .pointer (some ⟨Bz, 0, none⟩))] [(801, .blk D1 (.deferred (some []))), (802, .blk l1 (.loop { rec1 with state := .busy })), (1201, .blk Bz (.cells #[.int .i64 ((x.1 : Nat) : Int), .int .i64 ((x.2 : Nat) : Int)] 47)), (1004, .blk B5 (.cells #[.slice zz.1 ((layD z.wd z.hg z.ts p q px u.x u.y k).length) zz.2] 25)), (950, .row (.slice zz.1 ((layD z.wd z.hg z.ts p q px u.x u.y k).length) zz.2) 51 6 ((layD z.wd z.hg z.ts p q px u.x u.y k).length) ((layD z.wd z.hg z.ts p q px u.x u.y k).flatMap Dt.cells)), (1005, .blk q6 (.cells #[.pointer (some ⟨P1, 0, none⟩)] 134)), (1001, .blk P1 (.cells #[.int .i64 ((p : Nat) : Int), .int .i64 ((q : Nat) : Int), .slice a px.length cap] 138)), (1901, .blk B (.cells #[.int .i64 0] 29)), (1900, .blk A (.cells #[.pointer none] 28)), (3, .blk Lb (.cells #[.slice (some ⟨b3, of3, none⟩) l.length cl] 44)), (2, .blk S (.cells #[.int .i64 ((p : Nat) : Int), .int .i64 ((q : Nat) : Int), .slice a px.length cap] 75)), (1002, .blk B2 (.cells #[.pointer (some ⟨P1, 0, none⟩)] 134)), (1, .blk C (.cells #[.pointer (some ⟨z.p, 0, none⟩)] 28)), (960, .cvO w₀ z), (970, .dfs ds), (1003, .blk B4 (.cells #[.int .i64 u.x, .int .i64 u.y] 47))]
              have hxi := ptsG_in hx1
              have hdl := layD_le z.wd z.hg z.ts p q px u.x u.y k
              have hk9 := hxi.2.2.2
              have hcm := Nat.mul_comm p q
              obtain ⟨e0, he0⟩ : ∃ c, px[x.2 * p + x.1]? = some c := ⟨_, List.getElem?_eq_getElem (by have := in_px hxi.1 hxi.2.1; omega)⟩
              refine T_block ?_
              refine T_seq (T_region ?_)
              refine TL_q (.pointer (some ⟨z.p, 0, none⟩)) (fun _ _ hρ hm => r_load ag28 (hρ _ _ rfl) (hm.at 1 rfl) rfl) rfl rfl rfl (w_n rfl) ?_
              refine TL_q (.pointer (some ⟨B4, 0, none⟩)) (fun _ _ hρ _ => r_fieldAddr fl47_0 sz3 (hρ _ _ rfl)) rfl rfl rfl (w_n rfl) ?_
              refine TL_q (.int .i64 u.x) (fun _ _ hρ hm => r_load ag3 (hρ _ _ rfl) (hm.at 1003 rfl) rfl) rfl rfl rfl (w_n rfl) ?_
              refine TL_q (.pointer (some ⟨Bz, 0, none⟩)) (fun _ _ hρ _ => r_fieldAddr fl47_0 sz3 (hρ _ _ rfl)) rfl rfl rfl (w_n rfl) ?_
              refine TL_q (.int .i64 ((x.1 : Nat) : Int)) (fun _ _ hρ hm => r_load ag3 (hρ _ _ rfl) (hm.at 1201 rfl) rfl) rfl rfl rfl (w_n rfl) ?_
              refine TL_q (.int .i64 (u.x + ((x.1 : Nat) : Int))) (fun _ _ hρ _ => r_as (r_add (hρ _ _ rfl) (hρ _ _ rfl)) (int_as (wrap64 (by omega) (by omega)))) rfl rfl rfl (w_n rfl) ?_
              refine TL_q (.pointer (some ⟨B4, 1, none⟩)) (fun _ _ hρ _ => r_fieldAddr fl47_1 sz3 (hρ _ _ rfl)) rfl rfl rfl (w_n rfl) ?_
              refine TL_q (.int .i64 u.y) (fun _ _ hρ hm => r_load ag3 (hρ _ _ rfl) (hm.at 1003 rfl) rfl) rfl rfl rfl (w_n rfl) ?_
              refine TL_q (.pointer (some ⟨Bz, 1, none⟩)) (fun _ _ hρ _ => r_fieldAddr fl47_1 sz3 (hρ _ _ rfl)) rfl rfl rfl (w_n rfl) ?_
              refine TL_q (.int .i64 ((x.2 : Nat) : Int)) (fun _ _ hρ hm => r_load ag3 (hρ _ _ rfl) (hm.at 1201 rfl) rfl) rfl rfl rfl (w_n rfl) ?_
              refine TL_q (.int .i64 (u.y + ((x.2 : Nat) : Int))) (fun _ _ hρ _ => r_as (r_add (hρ _ _ rfl) (hρ _ _ rfl)) (int_as (wrap64 (by omega) (by omega)))) rfl rfl rfl (w_n rfl) ?_
              refine TL_call (.tuple #[.agg #[.int .u8 ((colI z.wd z.hg z.ts (u.x + ((x.1 : Nat) : Int)) (u.y + ((x.2 : Nat) : Int))).r), .int .u8 ((colI z.wd z.hg z.ts (u.x + ((x.1 : Nat) : Int)) (u.y + ((x.2 : Nat) : Int))).g), .int .u8 ((colI z.wd z.hg z.ts (u.x + ((x.1 : Nat) : Int)) (u.y + ((x.2 : Nat) : Int))).b), .int .u8 ((colI z.wd z.hg z.ts (u.x + ((x.1 : Nat) : Int)) (u.y + ((x.2 : Nat) : Int))).a)], .bool (onC z.wd z.hg (u.x + ((x.1 : Nat) : Int)) (u.y + ((x.2 : Nat) : Int)))]) (fun _ _ hρ _ => r_call (args := [.pointer (some ⟨z.p, 0, none⟩), .int .i64 (u.x + ((x.1 : Nat) : Int)), .int .i64 (u.y + ((x.2 : Nat) : Int))]) (enters_of Try.func23 (by kernel_rfl) rfl) (hρ _ _ rfl) ((cons2 (hρ _ _ rfl) (cons2 (hρ _ _ rfl) (cons2 (hρ _ _ rfl) rfl)))) rfl) (fun w hm => cat_c z (u.x + ((x.1 : Nat) : Int)) (u.y + ((x.2 : Nat) : Int)) w (hm.cvOat 960 rfl)) rfl rfl rfl (w_n rfl) ?_
              refine TL_q (.tuple #[.agg #[.int .u8 ((colI z.wd z.hg z.ts (u.x + ((x.1 : Nat) : Int)) (u.y + ((x.2 : Nat) : Int))).r), .int .u8 ((colI z.wd z.hg z.ts (u.x + ((x.1 : Nat) : Int)) (u.y + ((x.2 : Nat) : Int))).g), .int .u8 ((colI z.wd z.hg z.ts (u.x + ((x.1 : Nat) : Int)) (u.y + ((x.2 : Nat) : Int))).b), .int .u8 ((colI z.wd z.hg z.ts (u.x + ((x.1 : Nat) : Int)) (u.y + ((x.2 : Nat) : Int))).a)], .bool (onC z.wd z.hg (u.x + ((x.1 : Nat) : Int)) (u.y + ((x.2 : Nat) : Int)))]) (fun _ _ hρ _ => r_move (hρ _ _ rfl)) rfl rfl rfl (w_n rfl) ?_
              refine TL_q (.agg #[.int .u8 ((colI z.wd z.hg z.ts (u.x + ((x.1 : Nat) : Int)) (u.y + ((x.2 : Nat) : Int))).r), .int .u8 ((colI z.wd z.hg z.ts (u.x + ((x.1 : Nat) : Int)) (u.y + ((x.2 : Nat) : Int))).g), .int .u8 ((colI z.wd z.hg z.ts (u.x + ((x.1 : Nat) : Int)) (u.y + ((x.2 : Nat) : Int))).b), .int .u8 ((colI z.wd z.hg z.ts (u.x + ((x.1 : Nat) : Int)) (u.y + ((x.2 : Nat) : Int))).a)]) (fun _ _ hρ _ => r_extract (hρ _ _ rfl) rfl) rfl rfl rfl (w_n rfl) ?_
              refine TL_q (.bool (onC z.wd z.hg (u.x + ((x.1 : Nat) : Int)) (u.y + ((x.2 : Nat) : Int)))) (fun _ _ hρ _ => r_extract (hρ _ _ rfl) rfl) rfl rfl rfl (w_n rfl) ?_
              refine TL_new 1202 (.cells #[.int .u8 0, .int .u8 0, .int .u8 0, .int .u8 0] 37) (fun B => .pointer (some ⟨B, 0, none⟩)) (fun _ _ _ _ => r_alloc (v := .agg #[.int .u8 0, .int .u8 0, .int .u8 0, .int .u8 0]) (by kernel_rfl) rfl) rfl rfl rfl (w_n rfl) ?_
              intro B8
              refine TL_store 1202 (.cells #[.int .u8 ((colI z.wd z.hg z.ts (u.x + ((x.1 : Nat) : Int)) (u.y + ((x.2 : Nat) : Int))).r), .int .u8 ((colI z.wd z.hg z.ts (u.x + ((x.1 : Nat) : Int)) (u.y + ((x.2 : Nat) : Int))).g), .int .u8 ((colI z.wd z.hg z.ts (u.x + ((x.1 : Nat) : Int)) (u.y + ((x.2 : Nat) : Int))).b), .int .u8 ((colI z.wd z.hg z.ts (u.x + ((x.1 : Nat) : Int)) (u.y + ((x.2 : Nat) : Int))).a)] 37) rfl (fun _ _ hρ hm => r_store sz37 (hρ _ _ rfl) (hρ _ _ rfl) (hm.at 1202 rfl) rfl rfl rfl rfl) rfl rfl (w_n rfl) ?_
              refine TL_q (.bool (onC z.wd z.hg (u.x + ((x.1 : Nat) : Int)) (u.y + ((x.2 : Nat) : Int)))) (fun _ _ hρ _ => r_assign (hρ _ _ rfl)) rfl rfl rfl (w_n rfl) ?_
              refine TL_seq ?_
              refine T_seq (T_region ?_)
              refine TL_q (.bool (onC z.wd z.hg (u.x + ((x.1 : Nat) : Int)) (u.y + ((x.2 : Nat) : Int)))) (fun _ _ hρ _ => r_move (hρ _ _ rfl)) rfl rfl rfl (w_n rfl) ?_
              refine TL_seq ?_
              refine T_cond rfl (fun h2 => ?_) (fun h2 => ?_)
              · skip
                refine T_draw (V := [(0, .slice zz.1 ((layD z.wd z.hg z.ts p q px u.x u.y k).length) zz.2), (1, .pointer (some ⟨B4, 0, none⟩)), (2, .int .i64 u.x), (3, .pointer (some ⟨Bz, 0, none⟩)), (4, .int .i64 ((x.1 : Nat) : Int)), (5, .int .i64 (u.x + ((x.1 : Nat) : Int))), (6, .pointer (some ⟨B4, 1, none⟩)), (7, .int .i64 u.y), (8, .pointer (some ⟨Bz, 1, none⟩)), (9, .int .i64 ((x.2 : Nat) : Int)), (10, .int .i64 (u.y + ((x.2 : Nat) : Int))), (11, .agg #[.int .u8 ((colI z.wd z.hg z.ts (u.x + ((x.1 : Nat) : Int)) (u.y + ((x.2 : Nat) : Int))).r), .int .u8 ((colI z.wd z.hg z.ts (u.x + ((x.1 : Nat) : Int)) (u.y + ((x.2 : Nat) : Int))).g), .int .u8 ((colI z.wd z.hg z.ts (u.x + ((x.1 : Nat) : Int)) (u.y + ((x.2 : Nat) : Int))).b), .int .u8 ((colI z.wd z.hg z.ts (u.x + ((x.1 : Nat) : Int)) (u.y + ((x.2 : Nat) : Int))).a)]), (12, .pointer (some ⟨P1, 0, none⟩)), (13, .agg #[.int .i64 ((x.1 : Nat) : Int), .int .i64 ((x.2 : Nat) : Int)])]) [0, 0, 2, 0, 8, 30, 0, 64, 0, 256, 960, 0, 0, 0, 12288, 30720, 65534, 131070, 262143, 524287] [[(9, none)], [(8, none)], [(81, some 1)], [(10, none)], [(83, some 3)], [(82, some 2), (84, some 4)], [(8, none)], [(86, some 6)], [(10, none)], [(88, some 8)], [(87, some 7), (89, some 9)], [(11, none)], [(4, none)], [(10, none)], [(92, some 12), (93, some 13)], [(91, some 11), (94, some 14)], [(85, some 5), (90, some 10), (95, some 15)], [(96, some 16)], [(80, some 0), (97, some 17)], [(9, none), (98, some 18)]] 966656 mixed (by kernel_rfl) ?_
                refine G_step [0, 1, 2, 3, 4, 5, 6, 7, 8, 9, 10, 11, 12, 13] 14 [] (by kernel_rfl) (allM (all_cons (q_run (.slice zz.1 ((layD z.wd z.hg z.ts p q px u.x u.y k).length) zz.2) rfl rfl (wv_n rfl) rfl (fun _ _ hρ hm => r_load ag25 (hρ _ _ rfl) (hm.at 1004 rfl) rfl)) (all_cons (q_run (.pointer (some ⟨B4, 0, none⟩)) rfl rfl (wv_n rfl) rfl (fun _ _ hρ _ => r_fieldAddr fl47_0 sz3 (hρ _ _ rfl))) (all_cons (q_run (.int .i64 u.x) rfl rfl (wv_n rfl) rfl (fun _ _ hρ hm => r_load ag3 (hρ _ _ rfl) (hm.at 1003 rfl) rfl)) (all_cons (q_run (.pointer (some ⟨Bz, 0, none⟩)) rfl rfl (wv_n rfl) rfl (fun _ _ hρ _ => r_fieldAddr fl47_0 sz3 (hρ _ _ rfl))) (all_cons (q_run (.int .i64 ((x.1 : Nat) : Int)) rfl rfl (wv_n rfl) rfl (fun _ _ hρ hm => r_load ag3 (hρ _ _ rfl) (hm.at 1201 rfl) rfl)) (all_cons (q_run (.int .i64 (u.x + ((x.1 : Nat) : Int))) rfl rfl (wv_n rfl) rfl (fun _ _ hρ _ => r_as (r_add (hρ _ _ rfl) (hρ _ _ rfl)) (int_as (wrap64 (by omega) (by omega))))) (all_cons (q_run (.pointer (some ⟨B4, 1, none⟩)) rfl rfl (wv_n rfl) rfl (fun _ _ hρ _ => r_fieldAddr fl47_1 sz3 (hρ _ _ rfl))) (all_cons (q_run (.int .i64 u.y) rfl rfl (wv_n rfl) rfl (fun _ _ hρ hm => r_load ag3 (hρ _ _ rfl) (hm.at 1003 rfl) rfl)) (all_cons (q_run (.pointer (some ⟨Bz, 1, none⟩)) rfl rfl (wv_n rfl) rfl (fun _ _ hρ _ => r_fieldAddr fl47_1 sz3 (hρ _ _ rfl))) (all_cons (q_run (.int .i64 ((x.2 : Nat) : Int)) rfl rfl (wv_n rfl) rfl (fun _ _ hρ hm => r_load ag3 (hρ _ _ rfl) (hm.at 1201 rfl) rfl)) (all_cons (q_run (.int .i64 (u.y + ((x.2 : Nat) : Int))) rfl rfl (wv_n rfl) rfl (fun _ _ hρ _ => r_as (r_add (hρ _ _ rfl) (hρ _ _ rfl)) (int_as (wrap64 (by omega) (by omega))))) (all_cons (q_run (.agg #[.int .u8 ((colI z.wd z.hg z.ts (u.x + ((x.1 : Nat) : Int)) (u.y + ((x.2 : Nat) : Int))).r), .int .u8 ((colI z.wd z.hg z.ts (u.x + ((x.1 : Nat) : Int)) (u.y + ((x.2 : Nat) : Int))).g), .int .u8 ((colI z.wd z.hg z.ts (u.x + ((x.1 : Nat) : Int)) (u.y + ((x.2 : Nat) : Int))).b), .int .u8 ((colI z.wd z.hg z.ts (u.x + ((x.1 : Nat) : Int)) (u.y + ((x.2 : Nat) : Int))).a)]) rfl rfl (wv_n rfl) rfl (fun _ _ hρ hm => r_loadA ag37 sz37 (hρ _ _ rfl) (hm.at 1202 rfl) rfl rfl)) (all_cons (q_run (.pointer (some ⟨P1, 0, none⟩)) rfl rfl (wv_n rfl) rfl (fun _ _ hρ hm => r_load ag134 (hρ _ _ rfl) (hm.at 1002 rfl) rfl)) (all_cons (q_run (.agg #[.int .i64 ((x.1 : Nat) : Int), .int .i64 ((x.2 : Nat) : Int)]) rfl rfl (wv_n rfl) rfl (fun _ _ hρ hm => r_loadA ag47 sz47 (hρ _ _ rfl) (hm.at 1201 rfl) rfl rfl)) all_nil))))))))))))))) (allM (all_cons ?_ all_nil))
                refine LOb_call (.agg #[.int .u8 e0.r, .int .u8 e0.g, .int .u8 e0.b, .int .u8 e0.a]) [] rfl (wv_n rfl) rfl rfl (fun _ _ hρ _ => r_call (args := [.pointer (some ⟨P1, 0, none⟩), .agg #[.int .i64 ((x.1 : Nat) : Int), .int .i64 ((x.2 : Nat) : Int)]]) (enters_of Try.func91 (by kernel_rfl) rfl) (hρ _ _ rfl) ((cons2 (hρ _ _ rfl) (cons2 (hρ _ _ rfl) rfl))) rfl) (fun w hm => sat_c P1 p q px a cap w (hm.at 1001 rfl) (hv.keep hm.ext) hcap hp8 hq8 hlen x.1 x.2 hxi.1 hxi.2.1 e0 he0) (by kernel_rfl) ?_
                refine G_step [0, 1, 2, 3, 4, 5, 6, 7, 8, 9, 10, 11] 15 [] (by kernel_rfl) (allM (all_cons (q_run (.slice zz.1 ((layD z.wd z.hg z.ts p q px u.x u.y k).length) zz.2) rfl rfl (wv_n rfl) rfl (fun _ _ hρ hm => r_load ag25 (hρ _ _ rfl) (hm.at 1004 rfl) rfl)) (all_cons (q_run (.pointer (some ⟨B4, 0, none⟩)) rfl rfl (wv_n rfl) rfl (fun _ _ hρ _ => r_fieldAddr fl47_0 sz3 (hρ _ _ rfl))) (all_cons (q_run (.int .i64 u.x) rfl rfl (wv_n rfl) rfl (fun _ _ hρ hm => r_load ag3 (hρ _ _ rfl) (hm.at 1003 rfl) rfl)) (all_cons (q_run (.pointer (some ⟨Bz, 0, none⟩)) rfl rfl (wv_n rfl) rfl (fun _ _ hρ _ => r_fieldAddr fl47_0 sz3 (hρ _ _ rfl))) (all_cons (q_run (.int .i64 ((x.1 : Nat) : Int)) rfl rfl (wv_n rfl) rfl (fun _ _ hρ hm => r_load ag3 (hρ _ _ rfl) (hm.at 1201 rfl) rfl)) (all_cons (q_run (.int .i64 (u.x + ((x.1 : Nat) : Int))) rfl rfl (wv_n rfl) rfl (fun _ _ hρ _ => r_as (r_add (hρ _ _ rfl) (hρ _ _ rfl)) (int_as (wrap64 (by omega) (by omega))))) (all_cons (q_run (.pointer (some ⟨B4, 1, none⟩)) rfl rfl (wv_n rfl) rfl (fun _ _ hρ _ => r_fieldAddr fl47_1 sz3 (hρ _ _ rfl))) (all_cons (q_run (.int .i64 u.y) rfl rfl (wv_n rfl) rfl (fun _ _ hρ hm => r_load ag3 (hρ _ _ rfl) (hm.at 1003 rfl) rfl)) (all_cons (q_run (.pointer (some ⟨Bz, 1, none⟩)) rfl rfl (wv_n rfl) rfl (fun _ _ hρ _ => r_fieldAddr fl47_1 sz3 (hρ _ _ rfl))) (all_cons (q_run (.int .i64 ((x.2 : Nat) : Int)) rfl rfl (wv_n rfl) rfl (fun _ _ hρ hm => r_load ag3 (hρ _ _ rfl) (hm.at 1201 rfl) rfl)) (all_cons (q_run (.int .i64 (u.y + ((x.2 : Nat) : Int))) rfl rfl (wv_n rfl) rfl (fun _ _ hρ _ => r_as (r_add (hρ _ _ rfl) (hρ _ _ rfl)) (int_as (wrap64 (by omega) (by omega))))) (all_cons (q_run (.agg #[.int .u8 ((colI z.wd z.hg z.ts (u.x + ((x.1 : Nat) : Int)) (u.y + ((x.2 : Nat) : Int))).r), .int .u8 ((colI z.wd z.hg z.ts (u.x + ((x.1 : Nat) : Int)) (u.y + ((x.2 : Nat) : Int))).g), .int .u8 ((colI z.wd z.hg z.ts (u.x + ((x.1 : Nat) : Int)) (u.y + ((x.2 : Nat) : Int))).b), .int .u8 ((colI z.wd z.hg z.ts (u.x + ((x.1 : Nat) : Int)) (u.y + ((x.2 : Nat) : Int))).a)]) rfl rfl (wv_n rfl) rfl (fun _ _ hρ hm => r_loadA ag37 sz37 (hρ _ _ rfl) (hm.at 1202 rfl) rfl rfl)) all_nil))))))))))))) (allM (all_cons ?_ all_nil))
                refine LOb_call (.agg #[.int .u8 ((overC (colI z.wd z.hg z.ts (u.x + ((x.1 : Nat) : Int)) (u.y + ((x.2 : Nat) : Int))) e0).r), .int .u8 ((overC (colI z.wd z.hg z.ts (u.x + ((x.1 : Nat) : Int)) (u.y + ((x.2 : Nat) : Int))) e0).g), .int .u8 ((overC (colI z.wd z.hg z.ts (u.x + ((x.1 : Nat) : Int)) (u.y + ((x.2 : Nat) : Int))) e0).b), .int .u8 ((overC (colI z.wd z.hg z.ts (u.x + ((x.1 : Nat) : Int)) (u.y + ((x.2 : Nat) : Int))) e0).a)]) [(16, .agg #[.int .i64 (u.x + ((x.1 : Nat) : Int)), .int .i64 (u.y + ((x.2 : Nat) : Int)), .int .u8 ((overC (colI z.wd z.hg z.ts (u.x + ((x.1 : Nat) : Int)) (u.y + ((x.2 : Nat) : Int))) e0).r), .int .u8 ((overC (colI z.wd z.hg z.ts (u.x + ((x.1 : Nat) : Int)) (u.y + ((x.2 : Nat) : Int))) e0).g), .int .u8 ((overC (colI z.wd z.hg z.ts (u.x + ((x.1 : Nat) : Int)) (u.y + ((x.2 : Nat) : Int))) e0).b), .int .u8 ((overC (colI z.wd z.hg z.ts (u.x + ((x.1 : Nat) : Int)) (u.y + ((x.2 : Nat) : Int))) e0).a)])] rfl (wv_n rfl) rfl rfl (fun _ _ hρ _ => r_call (args := [.agg #[.int .u8 ((colI z.wd z.hg z.ts (u.x + ((x.1 : Nat) : Int)) (u.y + ((x.2 : Nat) : Int))).r), .int .u8 ((colI z.wd z.hg z.ts (u.x + ((x.1 : Nat) : Int)) (u.y + ((x.2 : Nat) : Int))).g), .int .u8 ((colI z.wd z.hg z.ts (u.x + ((x.1 : Nat) : Int)) (u.y + ((x.2 : Nat) : Int))).b), .int .u8 ((colI z.wd z.hg z.ts (u.x + ((x.1 : Nat) : Int)) (u.y + ((x.2 : Nat) : Int))).a)], .agg #[.int .u8 e0.r, .int .u8 e0.g, .int .u8 e0.b, .int .u8 e0.a]]) (enters_of Try.func98 (by kernel_rfl) rfl) (hρ _ _ rfl) ((cons2 (hρ _ _ rfl) (cons2 (hρ _ _ rfl) rfl))) rfl) (fun w _ => over_c (colI z.wd z.hg z.ts (u.x + ((x.1 : Nat) : Int)) (u.y + ((x.2 : Nat) : Int))) e0 w (colI_ok hzok _ _) (hpx e0 (List.mem_of_getElem? he0))) (by kernel_rfl) ?_
                refine G_step [0, 1, 2, 3, 4, 5, 6, 7, 8, 9, 10, 16] 17 [] (by kernel_rfl) (allM (all_cons (q_run (.slice zz.1 ((layD z.wd z.hg z.ts p q px u.x u.y k).length) zz.2) rfl rfl (wv_n rfl) rfl (fun _ _ hρ hm => r_load ag25 (hρ _ _ rfl) (hm.at 1004 rfl) rfl)) (all_cons (q_run (.pointer (some ⟨B4, 0, none⟩)) rfl rfl (wv_n rfl) rfl (fun _ _ hρ _ => r_fieldAddr fl47_0 sz3 (hρ _ _ rfl))) (all_cons (q_run (.int .i64 u.x) rfl rfl (wv_n rfl) rfl (fun _ _ hρ hm => r_load ag3 (hρ _ _ rfl) (hm.at 1003 rfl) rfl)) (all_cons (q_run (.pointer (some ⟨Bz, 0, none⟩)) rfl rfl (wv_n rfl) rfl (fun _ _ hρ _ => r_fieldAddr fl47_0 sz3 (hρ _ _ rfl))) (all_cons (q_run (.int .i64 ((x.1 : Nat) : Int)) rfl rfl (wv_n rfl) rfl (fun _ _ hρ hm => r_load ag3 (hρ _ _ rfl) (hm.at 1201 rfl) rfl)) (all_cons (q_run (.int .i64 (u.x + ((x.1 : Nat) : Int))) rfl rfl (wv_n rfl) rfl (fun _ _ hρ _ => r_as (r_add (hρ _ _ rfl) (hρ _ _ rfl)) (int_as (wrap64 (by omega) (by omega))))) (all_cons (q_run (.pointer (some ⟨B4, 1, none⟩)) rfl rfl (wv_n rfl) rfl (fun _ _ hρ _ => r_fieldAddr fl47_1 sz3 (hρ _ _ rfl))) (all_cons (q_run (.int .i64 u.y) rfl rfl (wv_n rfl) rfl (fun _ _ hρ hm => r_load ag3 (hρ _ _ rfl) (hm.at 1003 rfl) rfl)) (all_cons (q_run (.pointer (some ⟨Bz, 1, none⟩)) rfl rfl (wv_n rfl) rfl (fun _ _ hρ _ => r_fieldAddr fl47_1 sz3 (hρ _ _ rfl))) (all_cons (q_run (.int .i64 ((x.2 : Nat) : Int)) rfl rfl (wv_n rfl) rfl (fun _ _ hρ hm => r_load ag3 (hρ _ _ rfl) (hm.at 1201 rfl) rfl)) (all_cons (q_run (.int .i64 (u.y + ((x.2 : Nat) : Int))) rfl rfl (wv_n rfl) rfl (fun _ _ hρ _ => r_as (r_add (hρ _ _ rfl) (hρ _ _ rfl)) (int_as (wrap64 (by omega) (by omega))))) (all_cons (q_run (.agg #[.int .i64 (u.x + ((x.1 : Nat) : Int)), .int .i64 (u.y + ((x.2 : Nat) : Int)), .int .u8 ((overC (colI z.wd z.hg z.ts (u.x + ((x.1 : Nat) : Int)) (u.y + ((x.2 : Nat) : Int))) e0).r), .int .u8 ((overC (colI z.wd z.hg z.ts (u.x + ((x.1 : Nat) : Int)) (u.y + ((x.2 : Nat) : Int))) e0).g), .int .u8 ((overC (colI z.wd z.hg z.ts (u.x + ((x.1 : Nat) : Int)) (u.y + ((x.2 : Nat) : Int))) e0).b), .int .u8 ((overC (colI z.wd z.hg z.ts (u.x + ((x.1 : Nat) : Int)) (u.y + ((x.2 : Nat) : Int))) e0).a)]) rfl rfl (wv_n rfl) rfl (fun _ _ hρ _ => r_build (vs := [(0, .int .i64 (u.x + ((x.1 : Nat) : Int))), (1, .int .i64 (u.y + ((x.2 : Nat) : Int))), (2, .agg #[.int .u8 ((overC (colI z.wd z.hg z.ts (u.x + ((x.1 : Nat) : Int)) (u.y + ((x.2 : Nat) : Int))) e0).r), .int .u8 ((overC (colI z.wd z.hg z.ts (u.x + ((x.1 : Nat) : Int)) (u.y + ((x.2 : Nat) : Int))) e0).g), .int .u8 ((overC (colI z.wd z.hg z.ts (u.x + ((x.1 : Nat) : Int)) (u.y + ((x.2 : Nat) : Int))) e0).b), .int .u8 ((overC (colI z.wd z.hg z.ts (u.x + ((x.1 : Nat) : Int)) (u.y + ((x.2 : Nat) : Int))) e0).a)])]) (by kernel_rfl) (cons2 (pair2 (hρ _ _ rfl)) (cons2 (pair2 (hρ _ _ rfl)) (cons2 (pair2 (hρ _ _ rfl)) rfl))))) all_nil))))))))))))) (allM (all_cons ?_ all_nil))
                refine LOb_new 1203 (.cells #[.int .i64 (u.x + ((x.1 : Nat) : Int)), .int .i64 (u.y + ((x.2 : Nat) : Int)), .int .u8 ((overC (colI z.wd z.hg z.ts (u.x + ((x.1 : Nat) : Int)) (u.y + ((x.2 : Nat) : Int))) e0).r), .int .u8 ((overC (colI z.wd z.hg z.ts (u.x + ((x.1 : Nat) : Int)) (u.y + ((x.2 : Nat) : Int))) e0).g), .int .u8 ((overC (colI z.wd z.hg z.ts (u.x + ((x.1 : Nat) : Int)) (u.y + ((x.2 : Nat) : Int))) e0).b), .int .u8 ((overC (colI z.wd z.hg z.ts (u.x + ((x.1 : Nat) : Int)) (u.y + ((x.2 : Nat) : Int))) e0).a)] 51) (fun B => .slice (some ⟨B, 0, none⟩) 1 1) (fun B => []) rfl (wv_n rfl) rfl rfl (fun _ _ hρ _ => r_buildSlice (vs := [(0, .agg #[.int .i64 (u.x + ((x.1 : Nat) : Int)), .int .i64 (u.y + ((x.2 : Nat) : Int)), .int .u8 ((overC (colI z.wd z.hg z.ts (u.x + ((x.1 : Nat) : Int)) (u.y + ((x.2 : Nat) : Int))) e0).r), .int .u8 ((overC (colI z.wd z.hg z.ts (u.x + ((x.1 : Nat) : Int)) (u.y + ((x.2 : Nat) : Int))) e0).g), .int .u8 ((overC (colI z.wd z.hg z.ts (u.x + ((x.1 : Nat) : Int)) (u.y + ((x.2 : Nat) : Int))) e0).b), .int .u8 ((overC (colI z.wd z.hg z.ts (u.x + ((x.1 : Nat) : Int)) (u.y + ((x.2 : Nat) : Int))) e0).a)])]) (by kernel_rfl) (cons2 (pair2 (hρ _ _ rfl)) rfl)) (fun B => by kernel_rfl) ?_
                intro B9
                refine G_step [0] 18 [] (by kernel_rfl) (allM (all_cons (q_run (.slice zz.1 ((layD z.wd z.hg z.ts p q px u.x u.y k).length) zz.2) rfl rfl (wv_n rfl) rfl (fun _ _ hρ hm => r_load ag25 (hρ _ _ rfl) (hm.at 1004 rfl) rfl)) all_nil)) (allM (all_cons ?_ all_nil))
                refine LOb_append (n := (layD z.wd z.hg z.ts p q px u.x u.y k).length) (m := 1) (xs := ((layD z.wd z.hg z.ts p q px u.x u.y k).flatMap Dt.cells)) (news := [.int .i64 (u.x + ((x.1 : Nat) : Int)), .int .i64 (u.y + ((x.2 : Nat) : Int)), .int .u8 ((overC (colI z.wd z.hg z.ts (u.x + ((x.1 : Nat) : Int)) (u.y + ((x.2 : Nat) : Int))) e0).r), .int .u8 ((overC (colI z.wd z.hg z.ts (u.x + ((x.1 : Nat) : Int)) (u.y + ((x.2 : Nat) : Int))) e0).g), .int .u8 ((overC (colI z.wd z.hg z.ts (u.x + ((x.1 : Nat) : Int)) (u.y + ((x.2 : Nat) : Int))) e0).b), .int .u8 ((overC (colI z.wd z.hg z.ts (u.x + ((x.1 : Nat) : Int)) (u.y + ((x.2 : Nat) : Int))) e0).a)]) (z := .agg #[.int .i64 0, .int .i64 0, .int .u8 0, .int .u8 0, .int .u8 0, .int .u8 0]) 950 (fun a cap => []) rfl (wv_n rfl) rfl rfl rfl sl25 sz51 by51 (by kernel_rfl) rfl rfl (.inl rfl) (fun _ hm => src_blk (news := [.int .i64 (u.x + ((x.1 : Nat) : Int)), .int .i64 (u.y + ((x.2 : Nat) : Int)), .int .u8 ((overC (colI z.wd z.hg z.ts (u.x + ((x.1 : Nat) : Int)) (u.y + ((x.2 : Nat) : Int))) e0).r), .int .u8 ((overC (colI z.wd z.hg z.ts (u.x + ((x.1 : Nat) : Int)) (u.y + ((x.2 : Nat) : Int))) e0).g), .int .u8 ((overC (colI z.wd z.hg z.ts (u.x + ((x.1 : Nat) : Int)) (u.y + ((x.2 : Nat) : Int))) e0).b), .int .u8 ((overC (colI z.wd z.hg z.ts (u.x + ((x.1 : Nat) : Int)) (u.y + ((x.2 : Nat) : Int))) e0).a)]) (hm.at 1203 rfl) rfl) (by first | exact T64.cells_one _ | simp [Value.oneCell']) (by omega) (by omega) (fun a cap => by kernel_rfl) ?_
                intro a10 cap10
                refine G_step [] 19 [] (by kernel_rfl) (allM all_nil) (allM (all_cons ?_ all_nil))
                refine LOb_store 1004 (.cells #[.slice a10 ((layD z.wd z.hg z.ts p q px u.x u.y k).length + 1) cap10] 25) [] rfl (wv_n rfl) rfl rfl rfl (fun _ _ hρ hm => r_store sz25 (hρ _ _ rfl) (hρ _ _ rfl) (hm.at 1004 rfl) rfl rfl rfl rfl) (by kernel_rfl) ?_
                refine G_lastQ [] [(3, .pointer none)] (by kernel_rfl) (allM all_nil) (end_old rfl rfl end_nil) ?_
                refine p_blk_n ?_
                have hdt := layD_y (ts := z.ts) hx1 he0 h2
                rw [show ((layD z.wd z.hg z.ts p q px u.x u.y k).length + 1) = (layD z.wd z.hg z.ts p q px u.x u.y (k + 1)).length from by rw [hdt]; simp, show (((layD z.wd z.hg z.ts p q px u.x u.y k).flatMap Dt.cells) ++ [.int .i64 (u.x + ((x.1 : Nat) : Int)), .int .i64 (u.y + ((x.2 : Nat) : Int)), .int .u8 ((overC (colI z.wd z.hg z.ts (u.x + ((x.1 : Nat) : Int)) (u.y + ((x.2 : Nat) : Int))) e0).r), .int .u8 ((overC (colI z.wd z.hg z.ts (u.x + ((x.1 : Nat) : Int)) (u.y + ((x.2 : Nat) : Int))) e0).g), .int .u8 ((overC (colI z.wd z.hg z.ts (u.x + ((x.1 : Nat) : Int)) (u.y + ((x.2 : Nat) : Int))) e0).b), .int .u8 ((overC (colI z.wd z.hg z.ts (u.x + ((x.1 : Nat) : Int)) (u.y + ((x.2 : Nat) : Int))) e0).a)]) = (layD z.wd z.hg z.ts p q px u.x u.y (k + 1)).flatMap Dt.cells from by rw [hdt]; simp [Dt.cells]]
                exact p_round_n (a10, cap10) trivial (sub_cons rfl (sub_cons rfl (sub_cons rfl (sub_cons rfl (sub_cons rfl (sub_cons rfl (sub_cons rfl (sub_cons rfl (sub_cons rfl (sub_cons rfl (sub_cons rfl (sub_cons rfl (sub_cons rfl (sub_cons rfl (sub_cons rfl sub_nil)))))))))))))))
              · skip
                refine T_skip' ?_
                refine p_blk_n ?_
                have hdf := layD_n (wd := z.wd) (hg := z.hg) (ts := z.ts) (px := px) hx1 (by rw [h2]; simp)
                rw [← hdf]
                exact p_round_n zz trivial (sub_cons rfl (sub_cons rfl (sub_cons rfl (sub_cons rfl (sub_cons rfl (sub_cons rfl (sub_cons rfl (sub_cons rfl (sub_cons rfl (sub_cons rfl (sub_cons rfl (sub_cons rfl (sub_cons rfl (sub_cons rfl (sub_cons rfl sub_nil)))))))))))))))
            · intro D1 zz hp1
              rw [ptsG_len]
              refine p_sub [(0, .pointer (some ⟨C, 0, none⟩)), (3, .pointer none), (4, .pointer (some ⟨B2, 0, none⟩)), (5, .int .i64 ((8 * c.wd : Nat) : Int)), (6, .int .i64 ((8 * c.hg : Nat) : Int)), (23, .slice (some ⟨b3, of3, none⟩) l.length cl), (24, .int .i64 ((l.length : Nat) : Int)), (25, .int .i64 ((kk : Nat) : Int)), (26, .bool (decide (((kk : Nat) : Int) < ((l.length : Nat) : Int)))), (27, .pointer (some ⟨b3, of3 + kk * 2, none⟩)), (28, .agg #[.int .i64 u.x, .int .i64 u.y]), (8, .pointer (some ⟨B4, 0, none⟩)), (29, .pointer (some ⟨B4, 0, none⟩)), (30, .int .i64 u.x), (31, .pointer (some ⟨P1, 0, none⟩)), (32, .pointer (some ⟨P1, 0, none⟩)), (33, .pointer (some ⟨P1, 0, none⟩)), (34, .pointer (some ⟨P1, 0, none⟩)), (35, .int .i64 ((p : Nat) : Int)), (36, .int .i64 (-((p : Nat) : Int))), (37, .bool false), (38, .bool false), (39, .pointer (some ⟨B4, 1, none⟩)), (40, .int .i64 u.y), (41, .pointer (some ⟨P1, 0, none⟩)), (42, .pointer (some ⟨P1, 0, none⟩)), (43, .pointer (some ⟨P1, 0, none⟩)), (44, .pointer (some ⟨P1, 1, none⟩)), (45, .int .i64 ((q : Nat) : Int)), (46, .int .i64 (-((q : Nat) : Int))), (47, .bool false), (48, .bool false), (49, .bool false), (50, .pointer (some ⟨B4, 0, none⟩)), (51, .int .i64 u.x), (52, .int .i64 ((8 * c.wd : Nat) : Int)), (53, .bool false), (54, .bool false), (55, .bool false), (56, .pointer (some ⟨B4, 1, none⟩)), (57, .int .i64 u.y), (58, .int .i64 ((8 * c.hg : Nat) : Int)), (59, .bool false), (60, .bool false), (9, .pointer (some ⟨B5, 0, none⟩)), (61, .pointer (some ⟨P1, 0, none⟩)), (62, .func (.func 105) #[] #[.pointer (some ⟨q6, 0, none⟩)])] [(801, .blk D1 (.deferred (some []))), (1005, .blk q6 (.cells #[.pointer (some ⟨P1, 0, none⟩)] 134)), (1001, .blk P1 (.cells #[.int .i64 ((p : Nat) : Int), .int .i64 ((q : Nat) : Int), .slice a px.length cap] 138)), (1901, .blk B (.cells #[.int .i64 0] 29)), (1900, .blk A (.cells #[.pointer none] 28)), (3, .blk Lb (.cells #[.slice (some ⟨b3, of3, none⟩) l.length cl] 44)), (2, .blk S (.cells #[.int .i64 ((p : Nat) : Int), .int .i64 ((q : Nat) : Int), .slice a px.length cap] 75)), (1002, .blk B2 (.cells #[.pointer (some ⟨P1, 0, none⟩)] 134)), (1, .blk C (.cells #[.pointer (some ⟨z.p, 0, none⟩)] 28)), (960, .cvO w₀ z), (970, .dfs ds), (1003, .blk B4 (.cells #[.int .i64 u.x, .int .i64 u.y] 47)), (1004, .blk B5 (.cells #[.slice zz.1 ((layD z.wd z.hg z.ts p q px u.x u.y (q * p)).length) zz.2] 25)), (950, .row (.slice zz.1 ((layD z.wd z.hg z.ts p q px u.x u.y (q * p)).length) zz.2) 51 6 ((layD z.wd z.hg z.ts p q px u.x u.y (q * p)).length) ((layD z.wd z.hg z.ts p q px u.x u.y (q * p)).flatMap Dt.cells))] (sub_cons rfl (sub_cons rfl (sub_cons rfl (sub_cons rfl (sub_cons rfl (sub_cons rfl (sub_cons rfl (sub_cons rfl (sub_cons rfl (sub_cons rfl (sub_cons rfl (sub_cons rfl (sub_cons rfl (sub_cons rfl (sub_cons rfl (sub_cons rfl (sub_cons rfl (sub_cons rfl (sub_cons rfl (sub_cons rfl (sub_cons rfl (sub_cons rfl (sub_cons rfl (sub_cons rfl (sub_cons rfl (sub_cons rfl (sub_cons rfl (sub_cons rfl (sub_cons rfl (sub_cons rfl (sub_cons rfl (sub_cons rfl (sub_cons rfl (sub_cons rfl (sub_cons rfl (sub_cons rfl (sub_cons rfl (sub_cons rfl (sub_cons rfl (sub_cons rfl (sub_cons rfl (sub_cons rfl (sub_cons rfl (sub_cons rfl (sub_cons rfl (sub_cons rfl (sub_cons rfl sub_nil))))))))))))))))))))))))))))))))))))))))))))))) (sub_cons rfl (sub_cons rfl (sub_cons rfl (sub_cons rfl (sub_cons rfl (sub_cons rfl (sub_cons rfl (sub_cons rfl (sub_cons rfl (sub_cons rfl (sub_cons rfl (sub_cons rfl (sub_cons rfl (sub_cons rfl sub_nil)))))))))))))) ?_
              refine p_blk_n ?_
              refine p_seq ?_
              refine T_region ?_
              refine TL_q (.pointer (some ⟨z.p, 0, none⟩)) (fun _ _ hρ hm => r_load ag28 (hρ _ _ rfl) (hm.at 1 rfl) rfl) rfl rfl rfl (w_n rfl) ?_
              refine TL_q (.slice zz.1 ((layD z.wd z.hg z.ts p q px u.x u.y (q * p)).length) zz.2) (fun _ _ hρ hm => r_load ag25 (hρ _ _ rfl) (hm.at 1004 rfl) rfl) rfl rfl rfl (w_n rfl) ?_
              refine TL_callX (ι := Cv) (fun (d9 : Cv) e w w' => e = .returned (.pointer (some ⟨d9.p, 0, none⟩)) ∧ CvNew w w' [z] d9 ∧ w₀.heap.size ≤ w.heap.size ∧ d9.wd = z.wd ∧ d9.hg = z.hg ∧ d9.ts = putDs z.wd z.hg z.ts (layD z.wd z.hg z.ts p q px u.x u.y (q * p))) (fun d9 => .pointer (some ⟨d9.p, 0, none⟩)) _ (fun _ _ hρ _ => r_call (args := [.pointer (some ⟨z.p, 0, none⟩), .slice zz.1 ((layD z.wd z.hg z.ts p q px u.x u.y (q * p)).length) zz.2]) (enters_of Try.func17 (by kernel_rfl) rfl) (hρ _ _ rfl) ((cons2 (hρ _ _ rfl) (cons2 (hρ _ _ rfl) rfl))) rfl) (fun w hm => (with_canvas z (layD z.wd z.hg z.ts p q px u.x u.y (q * p)) zz.1 zz.2 w (hm.cvOat 960 rfl) (SliceAt.own Dt.cells_len (hm.row 950 rfl) rfl rfl) (by first | exact row_cap (hm.row 950 rfl) | omega)).mono fun e w' ⟨d, he, hn, h1, h2, h3, _⟩ => ⟨d, he, hn, hm.ext.size, h1, h2, h3⟩) (fun _ e w w' hm h => ⟨h.1, hm.cvOnew 960 rfl h.2.1⟩) rfl rfl rfl (w_n rfl) ?_
              rintro d9 ⟨_, w1_d, w2_d, _, hn_d, hsz_d, hwd_d, hhg_d, hts_d⟩
              refine TL_store 1 (.cells #[.pointer (some ⟨d9.p, 0, none⟩)] 28) rfl (fun _ _ hρ hm => r_store sz28 (hρ _ _ rfl) (hρ _ _ rfl) (hm.at 1 rfl) rfl rfl rfl rfl) rfl rfl (w_n rfl) ?_
              refine TL_nil ?_
              refine p_blk_n ?_
              refine p_seq ?_
              refine T_region ?_
              refine TL_q (.int .i64 ((kk + 1 : Nat) : Int)) (fun _ _ hρ _ => r_as (r_add (hρ _ _ rfl) (hρ _ _ rfl)) (int_as ((wrap64 (by omega) (by omega)).trans (by omega)))) rfl rfl rfl (w_n rfl) ?_
              refine TL_q (.int .i64 ((kk + 1 : Nat) : Int)) (fun _ _ hρ _ => r_move (hρ _ _ rfl)) rfl rfl rfl (w_n rfl) ?_
              refine TL_nil ?_
              refine p_mem (_ :: _ :: _) (fun _ hm => hm.dfsPush 970 801 rfl rfl rfl) ?_
              exact p_atD (kk + 1, d9, D1 :: ds) ⟨⟨by omega, hwd_d.trans hzw, hhg_d.trans hzh, by rw [layN_step hu, ← hzt, hts_d, hzw, hzh]; rfl, hzo.step hsz_d hn_d⟩, by dsimp only; omega⟩ rfl rfl rfl (sub_cons rfl (sub_cons rfl (sub_cons rfl (sub_cons rfl (sub_cons rfl (sub_cons rfl (sub_cons rfl (sub_cons rfl sub_nil)))))))) (sub_cons rfl (sub_cons rfl (sub_cons rfl (sub_cons rfl (sub_cons rfl (sub_cons rfl (sub_cons rfl (sub_cons rfl (sub_cons rfl sub_nil)))))))))
  · replace h1 := of_decide_eq_false h1
    refine T_exit' ?_
    refine p_then_x ?_
    refine p_then_x ?_
    refine p_blk_x ?_
    refine p_seq ?_
    refine T_seq (T_region ?_)
    refine TL_q (.pointer (some ⟨z.p, 0, none⟩)) (fun _ _ hρ hm => r_load ag28 (hρ _ _ rfl) (hm.at 1 rfl) rfl) rfl rfl rfl (w_n rfl) ?_
    refine TL_q (.pointer (some ⟨z.p, 0, none⟩)) (fun _ _ hρ _ => r_assign (hρ _ _ rfl)) rfl rfl rfl (w_n rfl) ?_
    refine TL_seq ?_
    refine T_ret' ?_
    refine ret_ofL 970 ds rfl rfl (.pointer (some ⟨z.p, 0, none⟩)) (fun tmps w hk hm => res1 rfl (res_tmp (hk 3 _ rfl))) (fun w hm => ?_)
    have hke : kk = l.length := by omega
    subst hke
    rw [List.take_length] at hzt
    exact ⟨z, ⟨hzw, hzh, hzt, hzo⟩, rfl, (hm.sub (sub_cons rfl (sub_cons rfl (sub_cons rfl (sub_cons rfl (sub_cons rfl (sub_cons rfl sub_nil)))))) : MemOk w₀ [(1, .blk C (.cells #[.pointer (some ⟨z.p, 0, none⟩)] 28)), (960, .cvO w₀ z), (1901, .blk B (.cells #[.int .i64 0] 29)), (1900, .blk A (.cells #[.pointer none] 28)), (3, .blk Lb (.cells #[.slice al l.length cl] 44)), (2, .blk S (.cells #[.int .i64 ((p : Nat) : Int), .int .i64 ((q : Nat) : Int), .slice a px.length cap] 75))] w).of (lk_last (X := [(1, .blk C (.cells #[.pointer (some ⟨z.p, 0, none⟩)] 28)), (960, .cvO w₀ z), (1901, .blk B (.cells #[.int .i64 0] 29)), (1900, .blk A (.cells #[.pointer none] 28)), (3, .blk Lb (.cells #[.slice al l.length cl] 44)), (2, .blk S (.cells #[.int .i64 ((p : Nat) : Int), .int .i64 ((q : Nat) : Int), .slice a px.length cap] 75))]) (i := 1) rfl)⟩
end Go.Proofs.Ytbiapeaghbndoaa
/- canvas: Lay, the function. Printed by a program of this seat's prover. -/
namespace Go.Proofs.Ytbiapeaghbndoaa
open Go Go.RowKit
set_option maxRecDepth 10000
theorem lay_ok (c : Cv) (p q : Nat) (px : List C4) (a : Option Addr) (cap : Nat) (l : List Pt) (al : Option Addr) (cl : Nat) (w0 : World) (hc : CvAt w0 c) (hv : SliceAt w0 a cap 4 C4.cells px) (hcap : cap ≤ Go.maxLen) (hl : SliceAt w0 al cl 2 Pt.cells l) (hcl : cl ≤ Go.maxLen) (hp8 : 1 ≤ p ∧ p ≤ 8) (hq8 : 1 ≤ q ∧ q ≤ 8) (hlen : px.length = p * q) (hpx : ∀ c ∈ px, c.ok) (hcok : TsOk c.ts) : Calls Try.prog 60 #[.pointer (some ⟨c.p, 0, none⟩), .agg #[.int .i64 (p : Int), .int .i64 (q : Int), .slice a px.length cap], .slice al l.length cl] w0 fun e w' => ∃ d : Cv, e = .returned (.tuple #[.pointer (some ⟨d.p, 0, none⟩), .int .i64 0]) ∧ CvNew w0 w' [c] d ∧ d.wd = c.wd ∧ d.hg = c.hg ∧ d.ts = layN c.wd c.hg p q px c.ts l := by
  refine calls_of_T (l := [.pointer (some ⟨c.p, 0, none⟩), .agg #[.int .i64 ((p : Nat) : Int), .int .i64 ((q : Nat) : Int), .slice a px.length cap], .slice al l.length cl]) 12 Try.func60 rfl rfl rfl ?_
  show T _ _ _ [(0, .pointer (some ⟨c.p, 0, none⟩)), (1, .agg #[.int .i64 ((p : Nat) : Int), .int .i64 ((q : Nat) : Int), .slice a px.length cap]), (2, .slice al l.length cl)] []
  refine T_seq (T_region ?_)
  refine TL_new 1 (.cells #[.pointer (some ⟨c.p, 0, none⟩)] 28) (fun B => .pointer (some ⟨B, 0, none⟩)) (fun _ _ hρ _ => r_box (hρ _ _ rfl) rfl) rfl rfl rfl (w_n rfl) ?_
  intro B1
  refine TL_new 2 (.cells #[.int .i64 ((p : Nat) : Int), .int .i64 ((q : Nat) : Int), .slice a px.length cap] 75) (fun B => .pointer (some ⟨B, 0, none⟩)) (fun _ _ hρ _ => r_box (hρ _ _ rfl) rfl) rfl rfl rfl (w_n rfl) ?_
  intro B2
  refine TL_new 3 (.cells #[.slice al l.length cl] 44) (fun B => .pointer (some ⟨B, 0, none⟩)) (fun _ _ hρ _ => r_box (hρ _ _ rfl) rfl) rfl rfl rfl (w_n rfl) ?_
  intro B3
  refine TL_q (.pointer none) (fun _ _ hρ _ => r_assign (hρ _ _ rfl)) rfl rfl rfl (w_n rfl) ?_
  refine TL_q (.int .i64 0) (fun _ _ hρ _ => r_assign (hρ _ _ rfl)) rfl rfl rfl (w_n rfl) ?_
  refine TL_seq ?_
  refine T_seq (T_region ?_)
  refine TL_q (.func (.func 97) #[] #[.pointer (some ⟨B1, 0, none⟩), .pointer (some ⟨B2, 0, none⟩), .pointer (some ⟨B3, 0, none⟩)]) (fun _ _ hρ _ => r_makeFunc (by simp) (map_arr (cons2 (hρ _ _ rfl) (cons2 (hρ _ _ rfl) (cons2 (hρ _ _ rfl) rfl))))) rfl rfl rfl (w_n rfl) ?_
  refine TL_callH _ _ _ (fun _ _ hρ _ => r_call (args := [.func (.func 97) #[] #[.pointer (some ⟨B1, 0, none⟩), .pointer (some ⟨B2, 0, none⟩), .pointer (some ⟨B3, 0, none⟩)]]) (enters_of Try.func96 (by kernel_rfl) rfl) (hρ _ _ rfl) ((cons2 (hρ _ _ rfl) rfl)) rfl) (fun w hm => trC_ok (w₀ := w0) 97 #[.pointer (some ⟨B1, 0, none⟩), .pointer (some ⟨B2, 0, none⟩), .pointer (some ⟨B3, 0, none⟩)] (fun z : Cv => z.wd = c.wd ∧ z.hg = c.hg ∧ z.ts = layN c.wd c.hg p q px c.ts l ∧ OldIn w0 c z) (fun z => some ⟨z.p, 0, none⟩) (fun z => [(1, .blk B1 (.cells #[.pointer (some ⟨z.p, 0, none⟩)] 28)), (960, .cvO w0 z)]) (enters_of Try.func97 (by kernel_rfl) rfl) rfl rfl (fun _ => rfl) (fun _ => rfl) (fun A B w2 hm2 => lay1_ht w0 c hc A B B1 B2 B3 p q px a cap hv hcap l al cl hl hcl hp8 hq8 hlen hpx hcok w2 hm2) w hm) rfl rfl rfl (w_n rfl) ?_
  intro z hz
  refine TL_q (.pointer (some ⟨z.p, 0, none⟩)) (fun _ _ hρ _ => r_extract (hρ _ _ rfl) rfl) rfl rfl rfl (w_n rfl) ?_
  refine TL_q (.int .i64 0) (fun _ _ hρ _ => r_extract (hρ _ _ rfl) rfl) rfl rfl rfl (w_n rfl) ?_
  refine TL_q (.pointer (some ⟨z.p, 0, none⟩)) (fun _ _ hρ _ => r_assign (hρ _ _ rfl)) rfl rfl rfl (w_n rfl) ?_
  refine TL_q (.int .i64 0) (fun _ _ hρ _ => r_assign (hρ _ _ rfl)) rfl rfl rfl (w_n rfl) ?_
  refine TL_seq ?_
  refine T_ret' ?_
  refine ret_of rfl (.tuple #[.pointer (some ⟨z.p, 0, none⟩), .int .i64 0]) (fun tmps w hk hm => res2 rfl (res_tmp (hk 6 _ rfl)) (res_tmp (hk 7 _ rfl))) (fun w hm => ?_)
  exact ⟨z, rfl, hm.cvOend 960 rfl hz.2.2.2, hz.1, hz.2.1, hz.2.2.1⟩

end Go.Proofs.Ytbiapeaghbndoaa
/- canvas: wakes. Printed by a program of this seat's prover. -/
namespace Go.Proofs.Ytbiapeaghbndoaa
open Go Go.RowKit
set_option maxRecDepth 10000
theorem MemOk.cvUnder {w₀ w : World} {L : Heap} (h : MemOk w₀ L w) (k : Nat) {l : List Cv} (hk : lk L k = some (.cvs l)) : ∀ x ∈ l, ∀ q ∈ x.ps, q < w.heap.size := fun _ hx _ hq => (h.cv k hk hx).low (.inr (.inr hq))
end Go.Proofs.Ytbiapeaghbndoaa
/- canvas: the plain law. -/
namespace Go.Proofs.Ytbiapeaghbndoaa
open Go Go.RowKit
theorem idx_inj {w a b c d : Nat} (ha : a < w) (hc : c < w) (h : b * w + a = d * w + c) : a = c ∧ b = d := by
  obtain ⟨_, h1, h2⟩ := row_in (x := a) (y := b) (H := b + 1) ha (Nat.lt_succ_self b)
  obtain ⟨_, h3, h4⟩ := row_in (x := c) (y := d) (H := d + 1) hc (Nat.lt_succ_self d)
  rw [h] at h1 h2
  exact ⟨h1.symm.trans h3, h2.symm.trans h4⟩
theorem get_set (l : List C4) (i j : Nat) (c : C4) (hi : i < l.length) : get (l.set i c) j = if i = j then c else get l j := by
  unfold get
  rw [List.getD_eq_getElem?_getD, List.getElem?_set, List.getD_eq_getElem?_getD]
  by_cases h : i = j
  · rw [if_pos h, if_pos h, if_pos hi]; rfl
  · rw [if_neg h, if_neg h]
/-- The colour at a point behind a dot. -/
theorem colAt_putD {wd hg : Nat} {ts : List T64} {d : Dt} {u v : Nat} (hl : ts.length = wd * hg) (hu : u < 8 * wd) (hv : v < 8 * hg) : colAt wd (putD wd hg ts d) u v = if d.x = (u : Int) ∧ d.y = (v : Int) then d.c else colAt wd ts u v := by
  unfold putD
  by_cases hon : onC wd hg d.x d.y = true
  · rw [if_pos hon]
    obtain ⟨p, q, hp, hq, hpx, hqy⟩ := onC_nat hon
    have ht : tix wd d.x d.y = q / 8 * wd + p / 8 := by unfold tix; rw [hp, hq]; rfl
    have hpos : tpos d.x d.y = q % 8 * 8 + p % 8 := by unfold tpos; rw [hp, hq]; rfl
    have hi : q / 8 * wd + p / 8 < ts.length := by rw [hl]; exact idx_lt hpx hqy
    have hpl := tpos_lt d.x d.y
    rw [ht, hp, hq]
    unfold colAt
    by_cases e : v / 8 * wd + u / 8 = q / 8 * wd + p / 8
    · obtain ⟨e1, e2⟩ := idx_inj (by omega) (by omega) e
      have e3 : tileAt (ts.set (q / 8 * wd + p / 8) ((tileAt ts (q / 8 * wd + p / 8)).set (tpos p q) d.c)) (v / 8 * wd + u / 8) = (tileAt ts (q / 8 * wd + p / 8)).set (tpos p q) d.c := by
        rw [e]
        exact tileAt_some (List.getElem?_set_self hi)
      rw [e3, e]
      show get ((tileAt ts (q / 8 * wd + p / 8)).l.set (tpos p q) d.c) _ = _
      have hpos2 : tpos (p : Int) (q : Int) = q % 8 * 8 + p % 8 := rfl
      rw [get_set _ _ _ _ (by rw [T64.h]; omega), hpos2]
      by_cases e4 : q % 8 * 8 + p % 8 = 8 * (v % 8) + u % 8
      · rw [if_pos e4, if_pos (by omega)]
      · rw [if_neg e4, if_neg (by omega)]
    · rw [if_neg (by
        rintro ⟨e1, e2⟩
        have e1 : p = u := by omega
        have e2 : q = v := by omega
        rw [e1, e2] at e; exact e rfl)]
      have e3 : tileAt (ts.set (q / 8 * wd + p / 8) ((tileAt ts (q / 8 * wd + p / 8)).set (tpos p q) d.c)) (v / 8 * wd + u / 8) = tileAt ts (v / 8 * wd + u / 8) := by
        show (ts.set _ _).getD _ _ = ts.getD _ _
        rw [List.getD_eq_getElem?_getD, List.getElem?_set_ne (Ne.symm e), ← List.getD_eq_getElem?_getD]
      rw [e3]
  · rw [if_neg hon, if_neg (by
      rintro ⟨e1, e2⟩
      exact hon (decide_eq_true ⟨by omega, by omega, by omega, by omega⟩))]
/-- The last dot there. -/
def lastD (ds : List Dt) (u v : Nat) : Option C4 := ds.foldl (fun o d => if d.x = (u : Int) ∧ d.y = (v : Int) then some d.c else o) none
theorem last_step {ds : List Dt} {k : Nat} {d : Dt} {u v : Nat} (h : ds[k]? = some d) : lastD (ds.take (k + 1)) u v = if d.x = (u : Int) ∧ d.y = (v : Int) then some d.c else lastD (ds.take k) u v := by
  unfold lastD
  rw [List.take_add_one, h, List.foldl_append]; rfl
theorem colAt_putDs {wd hg : Nat} {ts : List T64} {u v : Nat} (hl : ts.length = wd * hg) (hu : u < 8 * wd) (hv : v < 8 * hg) (ds : List Dt) : ∀ k, k ≤ ds.length → colAt wd (putDs wd hg ts (ds.take k)) u v = (lastD (ds.take k) u v).getD (colAt wd ts u v)
  | 0, _ => rfl
  | k + 1, hk => by
    have ih := colAt_putDs hl hu hv ds k (by omega)
    obtain ⟨d, hd⟩ : ∃ d, ds[k]? = some d := ⟨_, List.getElem?_eq_getElem (by omega)⟩
    rw [putDs_step hd, colAt_putD (by rw [putDs_len]; exact hl) hu hv, last_step hd]
    split
    · rfl
    · exact ih
theorem til_ne {t u : T64} (h : t ≠ u) : ∃ j, j < 64 ∧ get t.l j ≠ get u.l j := by
  refine Classical.byContradiction fun hn => h (t64_ext ?_)
  refine List.ext_getElem (by rw [t.h, u.h]) fun i h1 h2 => ?_
  have hi : i < 64 := by rw [t.h] at h1; exact h1
  have e : get t.l i = get u.l i := Classical.byContradiction fun e => hn ⟨i, hi, e⟩
  have a := get_some t.h hi
  have b := get_some u.h hi
  rw [List.getElem?_eq_getElem h1] at a
  rw [List.getElem?_eq_getElem h2] at b
  rw [Option.some.inj a, Option.some.inj b, e]
end Go.Proofs.Ytbiapeaghbndoaa
