/- Texts of this seat, merged: part 3. -/
import Derived.Test.YtmihoejecpcmjaaMg2
import Derived.Laws.Sem
import Derived.ScopeJumps
import Derived.Recover
import Derived.Laws.Build
import Derived.WideLaws
/- net and journal: Check, Rising. Printed by a program of this seat's prover. -/
namespace Go.Proofs.Ytmihoejecpcmjaa
open Go Go.RowKit
set_option maxRecDepth 10000
theorem check_c (ms : List Mk) (a : Option Addr) (cap : Nat) (w : World) (hv : SliceAt w a cap 4 Mk.cells ms) (hcap : cap ≤ Go.maxLen) : Calls Try.prog 14 #[.slice a ms.length cap] w fun e w' => e = .returned (.int .i64 (if marksB ms = true then 0 else 260)) ∧ Below w.heap.size w w' := by
  have hvl := hv.1
  unfold Go.maxLen at hcap
  refine calls_of_T (l := [.slice a ms.length cap]) 35 Try.func14 rfl rfl rfl ?_
  show T _ _ _ [(0, .slice a ms.length cap)] []
  refine T_seq (T_region ?_)
  refine TL_q (.int .i64 0) (fun _ _ hρ _ => r_assign (hρ _ _ rfl)) rfl rfl rfl (w_n rfl) ?_
  refine TL_seq ?_
  refine T_seq ?_
  refine T_seq (T_region ?_)
  refine TL_q (.slice a ms.length cap) (fun _ _ hρ _ => r_move (hρ _ _ rfl)) rfl rfl rfl (w_n rfl) ?_
  refine TL_q (.int .i64 ((ms.length : Nat) : Int)) (fun _ _ hρ _ => r_len sl25 (hρ _ _ rfl)) rfl rfl rfl (w_n rfl) ?_
  refine TL_q (.int .i64 0) (fun _ _ hρ _ => r_move (hρ _ _ rfl)) rfl rfl rfl (w_n rfl) ?_
  refine TL_seq ?_
  refine T_block ?_
  refine T_loop (ι := Nat) (fun (k : Nat) => k ≤ ms.length ∧ mkUp (ms.take k) = true) (fun (k : Nat) => [(0, .slice a ms.length cap), (5, .slice a ms.length cap), (6, .int .i64 ((ms.length : Nat) : Int)), (7, .int .i64 ((k : Nat) : Int))]) (fun (k : Nat) => []) (fun (k : Nat) => ms.length - k) 0 ⟨Nat.zero_le _, rfl⟩ (sub_cons rfl (sub_cons rfl (sub_cons rfl (sub_cons rfl sub_nil)))) sub_nil ?_
  rintro k hp
  obtain ⟨hk, hup⟩ := hp
  show T _ _ _ [(0, .slice a ms.length cap), (5, .slice a ms.length cap), (6, .int .i64 ((ms.length : Nat) : Int)), (7, .int .i64 ((k : Nat) : Int))] []
  refine T_seq (T_region ?_)
  refine TL_q (.bool (decide (((k : Nat) : Int) < ((ms.length : Nat) : Int)))) (fun _ _ hρ _ => r_lss (hρ _ _ rfl) (hρ _ _ rfl)) rfl rfl rfl (w_n rfl) ?_
  refine TL_seq ?_
  refine T_seq ?_
  refine T_cond rfl (fun h1 => ?_) (fun h1 => ?_)
  · replace h1 := of_decide_eq_true h1
    refine T_skip' ?_
    refine p_seq ?_
    refine T_seq ?_
    refine T_block ?_
    obtain ⟨m9, hm9⟩ : ∃ x, ms[k]? = some x := ⟨_, List.getElem?_eq_getElem (by omega)⟩
    obtain ⟨b1, of1, cs1, T1, fz1, ha1, hq1, hr1⟩ := hv.open (i := k) (by omega)
    subst ha1
    refine T_seq (T_region ?_)
    refine TL_q (.int .i64 ((k : Nat) : Int)) (fun _ _ hρ _ => r_move (hρ _ _ rfl)) rfl rfl rfl (w_n rfl) ?_
    refine TL_q (.pointer (some ⟨b1, of1 + k * 4, none⟩)) (fun _ _ hρ _ => r_indexAddrS (i := k) sl25 sz36 (hρ _ _ rfl) (hρ _ _ rfl) (by omega)) rfl rfl rfl (w_n rfl) ?_
    refine TL_q (.agg #[.int .u64 m9.i.t, .int .i64 m9.i.s, .int .u64 m9.i.q, .pointer m9.ptr]) (fun _ _ hρ hm => r_loadRow (f := Mk.cells) (u := m9) ag36 sz36 (hρ _ _ rfl) (hm.old hq1) hr1 hm9) rfl rfl rfl (w_n rfl) ?_
    refine TL_new 1 (.cells #[.int .u64 0, .int .i64 0, .int .u64 0, .pointer none] 36) (fun B => .pointer (some ⟨B, 0, none⟩)) (fun _ _ _ _ => r_alloc (v := .agg #[.int .u64 0, .int .i64 0, .int .u64 0, .pointer none]) (by kernel_rfl) rfl) rfl rfl rfl (w_n rfl) ?_
    intro B2
    refine TL_q (.int .i64 ((k : Nat) : Int)) (fun _ _ hρ _ => r_assign (hρ _ _ rfl)) rfl rfl rfl (w_n rfl) ?_
    refine TL_store 1 (.cells #[.int .u64 m9.i.t, .int .i64 m9.i.s, .int .u64 m9.i.q, .pointer m9.ptr] 36) rfl (fun _ _ hρ hm => r_store sz36 (hρ _ _ rfl) (hρ _ _ rfl) (hm.at 1 rfl) rfl rfl rfl rfl) rfl rfl (w_n rfl) ?_
    refine TL_seq ?_
    by_cases ho : okM m9 = true
    · skip
      by_cases hk0 : (0 : Int) < ((k : Nat) : Int)
      · skip
        obtain ⟨y9, hy9⟩ : ∃ x, ms[k - 1]? = some x := ⟨_, List.getElem?_eq_getElem (by omega)⟩
        by_cases hl : lessI y9.i m9.i = true
        · skip
          refine T_seq (T_draw (V := [(0, .agg #[.int .u64 m9.i.t, .int .i64 m9.i.s, .int .u64 m9.i.q, .pointer m9.ptr])]) [0, 1, 3, 7, 15, 31, 63, 127, 127, 383, 1023, 2047, 4095, 127, 8319, 32767, 65535, 131071, 262143] [[(4, none)], [(12, some 0)], [(13, some 1)], [(14, some 2)], [(3, none)], [(16, some 4)], [(17, some 5)], [(0, none)], [(3, none)], [(20, some 8)], [(19, some 7), (21, some 9)], [(22, some 10)], [(23, some 11)], [(4, none)], [(25, some 13)], [(24, some 12), (26, some 14)], [(27, some 15)], [(28, some 16), (18, some 6)], [(29, some 17), (15, some 3)]] 32770 mixed (by kernel_rfl) ?_)
          refine G_step [0] 1 [] (by kernel_rfl) (allM (all_cons (q_run (.agg #[.int .u64 m9.i.t, .int .i64 m9.i.s, .int .u64 m9.i.q, .pointer m9.ptr]) rfl rfl (wv_n rfl) rfl (fun _ _ hρ hm => r_loadA ag36 sz36 (hρ _ _ rfl) (hm.at 1 rfl) rfl rfl)) all_nil)) (allM (all_cons ?_ all_nil))
          refine LOb_call (.bool true) [(2, .bool false), (3, .bool false), (4, .int .i64 ((k : Nat) : Int)), (5, .bool true), (6, .bool true), (7, .slice (some ⟨b1, of1, none⟩) ms.length cap), (8, .int .i64 ((k : Nat) : Int)), (9, .int .i64 ((k - 1 : Nat) : Int)), (10, .pointer (some ⟨b1, of1 + (k - 1) * 4, none⟩)), (11, .pointer (some ⟨b1, of1 + (k - 1) * 4, none⟩)), (12, .agg #[.int .u64 y9.i.t, .int .i64 y9.i.s, .int .u64 y9.i.q]), (13, .pointer (some ⟨B2, 0, none⟩)), (14, .agg #[.int .u64 m9.i.t, .int .i64 m9.i.s, .int .u64 m9.i.q])] rfl (wv_n rfl) rfl rfl (fun _ _ hρ _ => r_call (args := [.agg #[.int .u64 m9.i.t, .int .i64 m9.i.s, .int .u64 m9.i.q, .pointer m9.ptr]]) (enters_of Try.func45 (by kernel_rfl) rfl) (hρ _ _ rfl) ((cons2 (hρ _ _ rfl) rfl)) rfl) (fun w _ => (right_c m9 w).mono fun _ _ h => ⟨h.1.trans (congrArg Ending.returned (bool_as ho)), h.2⟩) (by kernel_rfl) ?_
          refine G_step [2, 3, 4, 5, 6, 7, 8, 9, 10, 11, 12, 13, 14] 15 [] (by kernel_rfl) (allM (all_cons (q_run (.bool false) rfl rfl (wv_n rfl) rfl (fun _ _ hρ _ => r_not (b := true) (hρ _ _ rfl))) (all_cons (q_run (.bool false) rfl rfl (wv_n rfl) rfl (fun _ _ hρ _ => r_move (hρ _ _ rfl))) (all_cons (q_run (.int .i64 ((k : Nat) : Int)) rfl rfl (wv_y rfl rfl) rfl (fun _ _ hρ _ => r_move (hρ _ _ rfl))) (all_cons (q_run (.bool true) rfl rfl (wv_y rfl rfl) rfl (fun _ _ hρ _ => r_as (r_gtr (hρ _ _ rfl) (hρ _ _ rfl)) (bool_as (decide_eq_true hk0)))) (all_cons (q_run (.bool true) rfl rfl (wv_y rfl rfl) rfl (fun _ _ hρ _ => r_move (hρ _ _ rfl))) (all_cons (q_run (.slice (some ⟨b1, of1, none⟩) ms.length cap) rfl rfl (wv_y rfl rfl) rfl (fun _ _ hρ _ => r_move (hρ _ _ rfl))) (all_cons (q_run (.int .i64 ((k : Nat) : Int)) rfl rfl (wv_y rfl rfl) rfl (fun _ _ hρ _ => r_move (hρ _ _ rfl))) (all_cons (q_run (.int .i64 ((k - 1 : Nat) : Int)) rfl rfl (wv_y rfl rfl) rfl (fun _ _ hρ _ => r_as (r_sub (hρ _ _ rfl) (hρ _ _ rfl)) (int_as ((wrap64 (by omega) (by omega)).trans (by omega))))) (all_cons (q_run (.pointer (some ⟨b1, of1 + (k - 1) * 4, none⟩)) rfl rfl (wv_y rfl rfl) rfl (fun _ _ hρ _ => r_indexAddrS (i := k - 1) sl25 sz36 (hρ _ _ rfl) (hρ _ _ rfl) (by omega))) (all_cons (q_run (.pointer (some ⟨b1, of1 + (k - 1) * 4, none⟩)) rfl rfl (wv_y rfl rfl) rfl (fun _ _ hρ _ => r_fieldAddr (off := of1 + (k - 1) * 4) fl36_0 sz32 (hρ _ _ rfl))) (all_cons (q_run (.agg #[.int .u64 y9.i.t, .int .i64 y9.i.s, .int .u64 y9.i.q]) rfl rfl (wv_y rfl rfl) rfl (fun _ _ hρ hm => r_loadRowP (f := Mk.cells) (u := y9) ag32 sz32 (hρ _ _ rfl) (hm.old hq1) hr1 hy9 rfl rfl)) (all_cons (q_run (.pointer (some ⟨B2, 0, none⟩)) rfl rfl (wv_y rfl rfl) rfl (fun _ _ hρ _ => r_fieldAddr fl36_0 sz32 (hρ _ _ rfl))) (all_cons (q_run (.agg #[.int .u64 m9.i.t, .int .i64 m9.i.s, .int .u64 m9.i.q]) rfl rfl (wv_y rfl rfl) rfl (fun _ _ hρ hm => r_loadA ag32 sz32 (hρ _ _ rfl) (hm.at 1 rfl) rfl rfl)) all_nil)))))))))))))) (allM (all_cons ?_ all_nil))
          refine LOb_call (.bool true) [(16, .bool false), (17, .bool false), (18, .bool false)] rfl (wv_y rfl rfl) rfl rfl (fun _ _ hρ _ => r_call (args := [.agg #[.int .u64 y9.i.t, .int .i64 y9.i.s, .int .u64 y9.i.q], .agg #[.int .u64 m9.i.t, .int .i64 m9.i.s, .int .u64 m9.i.q]]) (enters_of Try.func12 (by kernel_rfl) rfl) (hρ _ _ rfl) ((cons2 (hρ _ _ rfl) (cons2 (hρ _ _ rfl) rfl))) rfl) (fun w _ => (less_c y9.i m9.i w).mono fun _ _ h => ⟨h.1.trans (congrArg Ending.returned (bool_as hl)), h.2⟩) (by kernel_rfl) ?_
          refine G_last [16, 17, 18] [(0, .slice (some ⟨b1, of1, none⟩) ms.length cap), (5, .slice (some ⟨b1, of1, none⟩) ms.length cap), (6, .int .i64 ((ms.length : Nat) : Int)), (7, .int .i64 ((k : Nat) : Int)), (8, .bool (decide (((k : Nat) : Int) < ((ms.length : Nat) : Int)))), (9, .int .i64 ((k : Nat) : Int)), (10, .pointer (some ⟨b1, of1 + k * 4, none⟩)), (11, .agg #[.int .u64 m9.i.t, .int .i64 m9.i.s, .int .u64 m9.i.q, .pointer m9.ptr]), (4, .pointer (some ⟨B2, 0, none⟩)), (3, .int .i64 ((k : Nat) : Int)), (12, .agg #[.int .u64 m9.i.t, .int .i64 m9.i.s, .int .u64 m9.i.q, .pointer m9.ptr]), (13, .bool true), (14, .bool false), (15, .bool false), (16, .int .i64 ((k : Nat) : Int)), (17, .bool true), (18, .bool true), (19, .slice (some ⟨b1, of1, none⟩) ms.length cap), (20, .int .i64 ((k : Nat) : Int)), (21, .int .i64 ((k - 1 : Nat) : Int)), (22, .pointer (some ⟨b1, of1 + (k - 1) * 4, none⟩)), (23, .pointer (some ⟨b1, of1 + (k - 1) * 4, none⟩)), (24, .agg #[.int .u64 y9.i.t, .int .i64 y9.i.s, .int .u64 y9.i.q]), (25, .pointer (some ⟨B2, 0, none⟩)), (26, .agg #[.int .u64 m9.i.t, .int .i64 m9.i.s, .int .u64 m9.i.q]), (27, .bool true), (28, .bool false), (29, .bool false), (30, .bool false)] (by kernel_rfl) (allM (all_cons (q_run (.bool false) rfl rfl (wv_y rfl rfl) rfl (fun _ _ hρ _ => r_not (b := true) (hρ _ _ rfl))) (all_cons (q_run (.bool false) rfl rfl (wv_y rfl rfl) rfl (fun _ _ hρ _ => r_pick_t (hρ _ _ rfl) (hρ _ _ rfl))) (all_cons (q_run (.bool false) rfl rfl (wv_n rfl) rfl (fun _ _ hρ _ => r_pick_f (hρ _ _ rfl) (hρ _ _ rfl))) all_nil)))) (end_old rfl rfl (end_old rfl rfl (end_old rfl rfl (end_old rfl rfl (end_old rfl rfl (end_old rfl rfl (end_old rfl rfl (end_old rfl rfl (end_old rfl rfl (end_old rfl rfl (end_new 0 rfl rfl (end_new 1 rfl rfl (end_new 2 rfl rfl (end_new 3 rfl rfl (end_new 4 rfl rfl (end_new 5 rfl rfl (end_new 6 rfl rfl (end_new 7 rfl rfl (end_new 8 rfl rfl (end_new 9 rfl rfl (end_new 10 rfl rfl (end_new 11 rfl rfl (end_new 12 rfl rfl (end_new 13 rfl rfl (end_new 14 rfl rfl (end_new 15 rfl rfl (end_new 16 rfl rfl (end_new 17 rfl rfl (end_new 18 rfl rfl end_nil))))))))))))))))))))))))))))) ?_
          refine T_cond_f rfl ?_
          refine T_skip' ?_
          refine p_blk_n ?_
          refine p_seq ?_
          refine T_region ?_
          refine TL_q (.int .i64 ((k + 1 : Nat) : Int)) (fun _ _ hρ _ => r_as (r_add (hρ _ _ rfl) (hρ _ _ rfl)) (int_as ((wrap64 (by omega) (by omega)).trans (by omega)))) rfl rfl rfl (w_n rfl) ?_
          refine TL_q (.int .i64 ((k + 1 : Nat) : Int)) (fun _ _ hρ _ => r_move (hρ _ _ rfl)) rfl rfl rfl (w_n rfl) ?_
          refine TL_nil ?_
          exact p_at (k + 1) ⟨⟨by omega, mk_step hup hm9 ho (fun z h9 hz9 => by rw [hy9] at hz9; cases hz9; exact hl)⟩, by omega⟩ (sub_cons rfl (sub_cons rfl (sub_cons rfl (sub_cons rfl sub_nil)))) sub_nil
        · skip
          refine T_seq (T_draw (V := [(0, .agg #[.int .u64 m9.i.t, .int .i64 m9.i.s, .int .u64 m9.i.q, .pointer m9.ptr])]) [0, 1, 3, 7, 15, 31, 63, 127, 127, 383, 1023, 2047, 4095, 127, 8319, 32767, 65535, 131071, 262143] [[(4, none)], [(12, some 0)], [(13, some 1)], [(14, some 2)], [(3, none)], [(16, some 4)], [(17, some 5)], [(0, none)], [(3, none)], [(20, some 8)], [(19, some 7), (21, some 9)], [(22, some 10)], [(23, some 11)], [(4, none)], [(25, some 13)], [(24, some 12), (26, some 14)], [(27, some 15)], [(28, some 16), (18, some 6)], [(29, some 17), (15, some 3)]] 32770 mixed (by kernel_rfl) ?_)
          refine G_step [0] 1 [] (by kernel_rfl) (allM (all_cons (q_run (.agg #[.int .u64 m9.i.t, .int .i64 m9.i.s, .int .u64 m9.i.q, .pointer m9.ptr]) rfl rfl (wv_n rfl) rfl (fun _ _ hρ hm => r_loadA ag36 sz36 (hρ _ _ rfl) (hm.at 1 rfl) rfl rfl)) all_nil)) (allM (all_cons ?_ all_nil))
          refine LOb_call (.bool true) [(2, .bool false), (3, .bool false), (4, .int .i64 ((k : Nat) : Int)), (5, .bool true), (6, .bool true), (7, .slice (some ⟨b1, of1, none⟩) ms.length cap), (8, .int .i64 ((k : Nat) : Int)), (9, .int .i64 ((k - 1 : Nat) : Int)), (10, .pointer (some ⟨b1, of1 + (k - 1) * 4, none⟩)), (11, .pointer (some ⟨b1, of1 + (k - 1) * 4, none⟩)), (12, .agg #[.int .u64 y9.i.t, .int .i64 y9.i.s, .int .u64 y9.i.q]), (13, .pointer (some ⟨B2, 0, none⟩)), (14, .agg #[.int .u64 m9.i.t, .int .i64 m9.i.s, .int .u64 m9.i.q])] rfl (wv_n rfl) rfl rfl (fun _ _ hρ _ => r_call (args := [.agg #[.int .u64 m9.i.t, .int .i64 m9.i.s, .int .u64 m9.i.q, .pointer m9.ptr]]) (enters_of Try.func45 (by kernel_rfl) rfl) (hρ _ _ rfl) ((cons2 (hρ _ _ rfl) rfl)) rfl) (fun w _ => (right_c m9 w).mono fun _ _ h => ⟨h.1.trans (congrArg Ending.returned (bool_as ho)), h.2⟩) (by kernel_rfl) ?_
          refine G_step [2, 3, 4, 5, 6, 7, 8, 9, 10, 11, 12, 13, 14] 15 [] (by kernel_rfl) (allM (all_cons (q_run (.bool false) rfl rfl (wv_n rfl) rfl (fun _ _ hρ _ => r_not (b := true) (hρ _ _ rfl))) (all_cons (q_run (.bool false) rfl rfl (wv_n rfl) rfl (fun _ _ hρ _ => r_move (hρ _ _ rfl))) (all_cons (q_run (.int .i64 ((k : Nat) : Int)) rfl rfl (wv_y rfl rfl) rfl (fun _ _ hρ _ => r_move (hρ _ _ rfl))) (all_cons (q_run (.bool true) rfl rfl (wv_y rfl rfl) rfl (fun _ _ hρ _ => r_as (r_gtr (hρ _ _ rfl) (hρ _ _ rfl)) (bool_as (decide_eq_true hk0)))) (all_cons (q_run (.bool true) rfl rfl (wv_y rfl rfl) rfl (fun _ _ hρ _ => r_move (hρ _ _ rfl))) (all_cons (q_run (.slice (some ⟨b1, of1, none⟩) ms.length cap) rfl rfl (wv_y rfl rfl) rfl (fun _ _ hρ _ => r_move (hρ _ _ rfl))) (all_cons (q_run (.int .i64 ((k : Nat) : Int)) rfl rfl (wv_y rfl rfl) rfl (fun _ _ hρ _ => r_move (hρ _ _ rfl))) (all_cons (q_run (.int .i64 ((k - 1 : Nat) : Int)) rfl rfl (wv_y rfl rfl) rfl (fun _ _ hρ _ => r_as (r_sub (hρ _ _ rfl) (hρ _ _ rfl)) (int_as ((wrap64 (by omega) (by omega)).trans (by omega))))) (all_cons (q_run (.pointer (some ⟨b1, of1 + (k - 1) * 4, none⟩)) rfl rfl (wv_y rfl rfl) rfl (fun _ _ hρ _ => r_indexAddrS (i := k - 1) sl25 sz36 (hρ _ _ rfl) (hρ _ _ rfl) (by omega))) (all_cons (q_run (.pointer (some ⟨b1, of1 + (k - 1) * 4, none⟩)) rfl rfl (wv_y rfl rfl) rfl (fun _ _ hρ _ => r_fieldAddr (off := of1 + (k - 1) * 4) fl36_0 sz32 (hρ _ _ rfl))) (all_cons (q_run (.agg #[.int .u64 y9.i.t, .int .i64 y9.i.s, .int .u64 y9.i.q]) rfl rfl (wv_y rfl rfl) rfl (fun _ _ hρ hm => r_loadRowP (f := Mk.cells) (u := y9) ag32 sz32 (hρ _ _ rfl) (hm.old hq1) hr1 hy9 rfl rfl)) (all_cons (q_run (.pointer (some ⟨B2, 0, none⟩)) rfl rfl (wv_y rfl rfl) rfl (fun _ _ hρ _ => r_fieldAddr fl36_0 sz32 (hρ _ _ rfl))) (all_cons (q_run (.agg #[.int .u64 m9.i.t, .int .i64 m9.i.s, .int .u64 m9.i.q]) rfl rfl (wv_y rfl rfl) rfl (fun _ _ hρ hm => r_loadA ag32 sz32 (hρ _ _ rfl) (hm.at 1 rfl) rfl rfl)) all_nil)))))))))))))) (allM (all_cons ?_ all_nil))
          refine LOb_call (.bool false) [(16, .bool true), (17, .bool true), (18, .bool true)] rfl (wv_y rfl rfl) rfl rfl (fun _ _ hρ _ => r_call (args := [.agg #[.int .u64 y9.i.t, .int .i64 y9.i.s, .int .u64 y9.i.q], .agg #[.int .u64 m9.i.t, .int .i64 m9.i.s, .int .u64 m9.i.q]]) (enters_of Try.func12 (by kernel_rfl) rfl) (hρ _ _ rfl) ((cons2 (hρ _ _ rfl) (cons2 (hρ _ _ rfl) rfl))) rfl) (fun w _ => (less_c y9.i m9.i w).mono fun _ _ h => ⟨h.1.trans (congrArg Ending.returned (bool_as (eq_false_of_ne_true hl))), h.2⟩) (by kernel_rfl) ?_
          refine G_last [16, 17, 18] [(0, .slice (some ⟨b1, of1, none⟩) ms.length cap), (5, .slice (some ⟨b1, of1, none⟩) ms.length cap), (6, .int .i64 ((ms.length : Nat) : Int)), (7, .int .i64 ((k : Nat) : Int)), (8, .bool (decide (((k : Nat) : Int) < ((ms.length : Nat) : Int)))), (9, .int .i64 ((k : Nat) : Int)), (10, .pointer (some ⟨b1, of1 + k * 4, none⟩)), (11, .agg #[.int .u64 m9.i.t, .int .i64 m9.i.s, .int .u64 m9.i.q, .pointer m9.ptr]), (4, .pointer (some ⟨B2, 0, none⟩)), (3, .int .i64 ((k : Nat) : Int)), (12, .agg #[.int .u64 m9.i.t, .int .i64 m9.i.s, .int .u64 m9.i.q, .pointer m9.ptr]), (13, .bool true), (14, .bool false), (15, .bool false), (16, .int .i64 ((k : Nat) : Int)), (17, .bool true), (18, .bool true), (19, .slice (some ⟨b1, of1, none⟩) ms.length cap), (20, .int .i64 ((k : Nat) : Int)), (21, .int .i64 ((k - 1 : Nat) : Int)), (22, .pointer (some ⟨b1, of1 + (k - 1) * 4, none⟩)), (23, .pointer (some ⟨b1, of1 + (k - 1) * 4, none⟩)), (24, .agg #[.int .u64 y9.i.t, .int .i64 y9.i.s, .int .u64 y9.i.q]), (25, .pointer (some ⟨B2, 0, none⟩)), (26, .agg #[.int .u64 m9.i.t, .int .i64 m9.i.s, .int .u64 m9.i.q]), (27, .bool false), (28, .bool true), (29, .bool true), (30, .bool true)] (by kernel_rfl) (allM (all_cons (q_run (.bool true) rfl rfl (wv_y rfl rfl) rfl (fun _ _ hρ _ => r_not (b := false) (hρ _ _ rfl))) (all_cons (q_run (.bool true) rfl rfl (wv_y rfl rfl) rfl (fun _ _ hρ _ => r_pick_t (hρ _ _ rfl) (hρ _ _ rfl))) (all_cons (q_run (.bool true) rfl rfl (wv_n rfl) rfl (fun _ _ hρ _ => r_pick_f (hρ _ _ rfl) (hρ _ _ rfl))) all_nil)))) (end_old rfl rfl (end_old rfl rfl (end_old rfl rfl (end_old rfl rfl (end_old rfl rfl (end_old rfl rfl (end_old rfl rfl (end_old rfl rfl (end_old rfl rfl (end_old rfl rfl (end_new 0 rfl rfl (end_new 1 rfl rfl (end_new 2 rfl rfl (end_new 3 rfl rfl (end_new 4 rfl rfl (end_new 5 rfl rfl (end_new 6 rfl rfl (end_new 7 rfl rfl (end_new 8 rfl rfl (end_new 9 rfl rfl (end_new 10 rfl rfl (end_new 11 rfl rfl (end_new 12 rfl rfl (end_new 13 rfl rfl (end_new 14 rfl rfl (end_new 15 rfl rfl (end_new 16 rfl rfl (end_new 17 rfl rfl (end_new 18 rfl rfl end_nil))))))))))))))))))))))))))))) ?_
          refine T_cond_t rfl ?_
          refine T_seq (T_region ?_)
          refine TL_q (.int .i64 260) (fun _ _ hρ _ => r_assign (hρ _ _ rfl)) rfl rfl rfl (w_n rfl) ?_
          refine TL_seq ?_
          refine T_ret' ?_
          refine p_blk_r ?_
          refine p_then_r ?_
          refine p_then_r ?_
          refine p_blk_r ?_
          refine p_then_r ?_
          refine ret_of rfl (.int .i64 260) (fun tmps w hk hm => res1 rfl (res_tmp (hk 2 _ rfl))) (fun w hm => ?_)
          exact ⟨by rw [mk_no2 (by omega) hy9 hm9 hl]; rfl, hm.ext⟩
      · skip
        refine T_seq (T_draw (V := [(0, .agg #[.int .u64 m9.i.t, .int .i64 m9.i.s, .int .u64 m9.i.q, .pointer m9.ptr])]) [0, 1, 3, 7, 15, 31, 63, 127, 127, 383, 1023, 2047, 4095, 127, 8319, 32767, 65535, 131071, 262143] [[(4, none)], [(12, some 0)], [(13, some 1)], [(14, some 2)], [(3, none)], [(16, some 4)], [(17, some 5)], [(0, none)], [(3, none)], [(20, some 8)], [(19, some 7), (21, some 9)], [(22, some 10)], [(23, some 11)], [(4, none)], [(25, some 13)], [(24, some 12), (26, some 14)], [(27, some 15)], [(28, some 16), (18, some 6)], [(29, some 17), (15, some 3)]] 2 mixed (by kernel_rfl) ?_)
        refine G_step [0] 1 [] (by kernel_rfl) (allM (all_cons (q_run (.agg #[.int .u64 m9.i.t, .int .i64 m9.i.s, .int .u64 m9.i.q, .pointer m9.ptr]) rfl rfl (wv_n rfl) rfl (fun _ _ hρ hm => r_loadA ag36 sz36 (hρ _ _ rfl) (hm.at 1 rfl) rfl rfl)) all_nil)) (allM (all_cons ?_ all_nil))
        refine LOb_call (.bool true) [(2, .bool false), (3, .bool false), (4, .int .i64 ((k : Nat) : Int)), (5, .bool false), (6, .bool false), (7, undef), (8, undef), (9, undef), (10, undef), (11, undef), (12, undef), (13, undef), (14, undef), (15, undef), (16, undef), (17, .bool false), (18, .bool false)] rfl (wv_n rfl) rfl rfl (fun _ _ hρ _ => r_call (args := [.agg #[.int .u64 m9.i.t, .int .i64 m9.i.s, .int .u64 m9.i.q, .pointer m9.ptr]]) (enters_of Try.func45 (by kernel_rfl) rfl) (hρ _ _ rfl) ((cons2 (hρ _ _ rfl) rfl)) rfl) (fun w _ => (right_c m9 w).mono fun _ _ h => ⟨h.1.trans (congrArg Ending.returned (bool_as ho)), h.2⟩) (by kernel_rfl) ?_
        refine G_last [2, 3, 4, 5, 6, 7, 8, 9, 10, 11, 12, 13, 14, 15, 16, 17, 18] [(0, .slice (some ⟨b1, of1, none⟩) ms.length cap), (5, .slice (some ⟨b1, of1, none⟩) ms.length cap), (6, .int .i64 ((ms.length : Nat) : Int)), (7, .int .i64 ((k : Nat) : Int)), (8, .bool (decide (((k : Nat) : Int) < ((ms.length : Nat) : Int)))), (9, .int .i64 ((k : Nat) : Int)), (10, .pointer (some ⟨b1, of1 + k * 4, none⟩)), (11, .agg #[.int .u64 m9.i.t, .int .i64 m9.i.s, .int .u64 m9.i.q, .pointer m9.ptr]), (4, .pointer (some ⟨B2, 0, none⟩)), (3, .int .i64 ((k : Nat) : Int)), (12, .agg #[.int .u64 m9.i.t, .int .i64 m9.i.s, .int .u64 m9.i.q, .pointer m9.ptr]), (13, .bool true), (14, .bool false), (15, .bool false), (16, .int .i64 ((k : Nat) : Int)), (17, .bool false), (18, .bool false), (19, undef), (20, undef), (21, undef), (22, undef), (23, undef), (24, undef), (25, undef), (26, undef), (27, undef), (28, undef), (29, .bool false), (30, .bool false)] (by kernel_rfl) (allM (all_cons (q_run (.bool false) rfl rfl (wv_n rfl) rfl (fun _ _ hρ _ => r_not (b := true) (hρ _ _ rfl))) (all_cons (q_run (.bool false) rfl rfl (wv_n rfl) rfl (fun _ _ hρ _ => r_move (hρ _ _ rfl))) (all_cons (q_run (.int .i64 ((k : Nat) : Int)) rfl rfl (wv_y rfl rfl) rfl (fun _ _ hρ _ => r_move (hρ _ _ rfl))) (all_cons (q_run (.bool false) rfl rfl (wv_y rfl rfl) rfl (fun _ _ hρ _ => r_as (r_gtr (hρ _ _ rfl) (hρ _ _ rfl)) (bool_as (decide_eq_false hk0)))) (all_cons (q_run (.bool false) rfl rfl (wv_y rfl rfl) rfl (fun _ _ hρ _ => r_move (hρ _ _ rfl))) (all_cons (q_no rfl rfl (wv_no rfl rfl)) (all_cons (q_no rfl rfl (wv_no rfl rfl)) (all_cons (q_no rfl rfl (wv_no rfl rfl)) (all_cons (q_no rfl rfl (wv_no rfl rfl)) (all_cons (q_no rfl rfl (wv_no rfl rfl)) (all_cons (q_no rfl rfl (wv_no rfl rfl)) (all_cons (q_no rfl rfl (wv_no rfl rfl)) (all_cons (q_no rfl rfl (wv_no rfl rfl)) (all_cons (q_no rfl rfl (wv_no rfl rfl)) (all_cons (q_no rfl rfl (wv_no rfl rfl)) (all_cons (q_run (.bool false) rfl rfl (wv_y rfl rfl) rfl (fun _ _ hρ _ => r_pick_f (hρ _ _ rfl) (hρ _ _ rfl))) (all_cons (q_run (.bool false) rfl rfl (wv_n rfl) rfl (fun _ _ hρ _ => r_pick_f (hρ _ _ rfl) (hρ _ _ rfl))) all_nil)))))))))))))))))) (end_old rfl rfl (end_old rfl rfl (end_old rfl rfl (end_old rfl rfl (end_old rfl rfl (end_old rfl rfl (end_old rfl rfl (end_old rfl rfl (end_old rfl rfl (end_old rfl rfl (end_new 0 rfl rfl (end_new 1 rfl rfl (end_new 2 rfl rfl (end_new 3 rfl rfl (end_new 4 rfl rfl (end_new 5 rfl rfl (end_new 6 rfl rfl (end_new 7 rfl rfl (end_new 8 rfl rfl (end_new 9 rfl rfl (end_new 10 rfl rfl (end_new 11 rfl rfl (end_new 12 rfl rfl (end_new 13 rfl rfl (end_new 14 rfl rfl (end_new 15 rfl rfl (end_new 16 rfl rfl (end_new 17 rfl rfl (end_new 18 rfl rfl end_nil))))))))))))))))))))))))))))) ?_
        refine T_cond_f rfl ?_
        refine T_skip' ?_
        refine p_blk_n ?_
        refine p_seq ?_
        refine T_region ?_
        refine TL_q (.int .i64 ((k + 1 : Nat) : Int)) (fun _ _ hρ _ => r_as (r_add (hρ _ _ rfl) (hρ _ _ rfl)) (int_as ((wrap64 (by omega) (by omega)).trans (by omega)))) rfl rfl rfl (w_n rfl) ?_
        refine TL_q (.int .i64 ((k + 1 : Nat) : Int)) (fun _ _ hρ _ => r_move (hρ _ _ rfl)) rfl rfl rfl (w_n rfl) ?_
        refine TL_nil ?_
        exact p_at (k + 1) ⟨⟨by omega, mk_step hup hm9 ho (fun z h9 hz9 => absurd h9 (by omega))⟩, by omega⟩ (sub_cons rfl (sub_cons rfl (sub_cons rfl (sub_cons rfl sub_nil)))) sub_nil
    · skip
      refine T_seq (T_draw (V := [(0, .agg #[.int .u64 m9.i.t, .int .i64 m9.i.s, .int .u64 m9.i.q, .pointer m9.ptr])]) [0, 1, 3, 7, 15, 31, 63, 127, 127, 383, 1023, 2047, 4095, 127, 8319, 32767, 65535, 131071, 262143] [[(4, none)], [(12, some 0)], [(13, some 1)], [(14, some 2)], [(3, none)], [(16, some 4)], [(17, some 5)], [(0, none)], [(3, none)], [(20, some 8)], [(19, some 7), (21, some 9)], [(22, some 10)], [(23, some 11)], [(4, none)], [(25, some 13)], [(24, some 12), (26, some 14)], [(27, some 15)], [(28, some 16), (18, some 6)], [(29, some 17), (15, some 3)]] 2 mixed (by kernel_rfl) ?_)
      refine G_step [0] 1 [] (by kernel_rfl) (allM (all_cons (q_run (.agg #[.int .u64 m9.i.t, .int .i64 m9.i.s, .int .u64 m9.i.q, .pointer m9.ptr]) rfl rfl (wv_n rfl) rfl (fun _ _ hρ hm => r_loadA ag36 sz36 (hρ _ _ rfl) (hm.at 1 rfl) rfl rfl)) all_nil)) (allM (all_cons ?_ all_nil))
      refine LOb_call (.bool false) [(2, .bool true), (3, .bool true), (4, undef), (5, undef), (6, undef), (7, undef), (8, undef), (9, undef), (10, undef), (11, undef), (12, undef), (13, undef), (14, undef), (15, undef), (16, undef), (17, undef), (18, .bool true)] rfl (wv_n rfl) rfl rfl (fun _ _ hρ _ => r_call (args := [.agg #[.int .u64 m9.i.t, .int .i64 m9.i.s, .int .u64 m9.i.q, .pointer m9.ptr]]) (enters_of Try.func45 (by kernel_rfl) rfl) (hρ _ _ rfl) ((cons2 (hρ _ _ rfl) rfl)) rfl) (fun w _ => (right_c m9 w).mono fun _ _ h => ⟨h.1.trans (congrArg Ending.returned (bool_as (eq_false_of_ne_true ho))), h.2⟩) (by kernel_rfl) ?_
      refine G_last [2, 3, 4, 5, 6, 7, 8, 9, 10, 11, 12, 13, 14, 15, 16, 17, 18] [(0, .slice (some ⟨b1, of1, none⟩) ms.length cap), (5, .slice (some ⟨b1, of1, none⟩) ms.length cap), (6, .int .i64 ((ms.length : Nat) : Int)), (7, .int .i64 ((k : Nat) : Int)), (8, .bool (decide (((k : Nat) : Int) < ((ms.length : Nat) : Int)))), (9, .int .i64 ((k : Nat) : Int)), (10, .pointer (some ⟨b1, of1 + k * 4, none⟩)), (11, .agg #[.int .u64 m9.i.t, .int .i64 m9.i.s, .int .u64 m9.i.q, .pointer m9.ptr]), (4, .pointer (some ⟨B2, 0, none⟩)), (3, .int .i64 ((k : Nat) : Int)), (12, .agg #[.int .u64 m9.i.t, .int .i64 m9.i.s, .int .u64 m9.i.q, .pointer m9.ptr]), (13, .bool false), (14, .bool true), (15, .bool true), (16, undef), (17, undef), (18, undef), (19, undef), (20, undef), (21, undef), (22, undef), (23, undef), (24, undef), (25, undef), (26, undef), (27, undef), (28, undef), (29, undef), (30, .bool true)] (by kernel_rfl) (allM (all_cons (q_run (.bool true) rfl rfl (wv_n rfl) rfl (fun _ _ hρ _ => r_not (b := false) (hρ _ _ rfl))) (all_cons (q_run (.bool true) rfl rfl (wv_n rfl) rfl (fun _ _ hρ _ => r_move (hρ _ _ rfl))) (all_cons (q_no rfl rfl (wv_no rfl rfl)) (all_cons (q_no rfl rfl (wv_no rfl rfl)) (all_cons (q_no rfl rfl (wv_no rfl rfl)) (all_cons (q_no rfl rfl (wv_u rfl rfl)) (all_cons (q_no rfl rfl (wv_u rfl rfl)) (all_cons (q_no rfl rfl (wv_u rfl rfl)) (all_cons (q_no rfl rfl (wv_u rfl rfl)) (all_cons (q_no rfl rfl (wv_u rfl rfl)) (all_cons (q_no rfl rfl (wv_u rfl rfl)) (all_cons (q_no rfl rfl (wv_u rfl rfl)) (all_cons (q_no rfl rfl (wv_u rfl rfl)) (all_cons (q_no rfl rfl (wv_u rfl rfl)) (all_cons (q_no rfl rfl (wv_u rfl rfl)) (all_cons (q_no rfl rfl (wv_no rfl rfl)) (all_cons (q_run (.bool true) rfl rfl (wv_n rfl) rfl (fun _ _ hρ _ => r_pick_t (hρ _ _ rfl) (hρ _ _ rfl))) all_nil)))))))))))))))))) (end_old rfl rfl (end_old rfl rfl (end_old rfl rfl (end_old rfl rfl (end_old rfl rfl (end_old rfl rfl (end_old rfl rfl (end_old rfl rfl (end_old rfl rfl (end_old rfl rfl (end_new 0 rfl rfl (end_new 1 rfl rfl (end_new 2 rfl rfl (end_new 3 rfl rfl (end_new 4 rfl rfl (end_new 5 rfl rfl (end_new 6 rfl rfl (end_new 7 rfl rfl (end_new 8 rfl rfl (end_new 9 rfl rfl (end_new 10 rfl rfl (end_new 11 rfl rfl (end_new 12 rfl rfl (end_new 13 rfl rfl (end_new 14 rfl rfl (end_new 15 rfl rfl (end_new 16 rfl rfl (end_new 17 rfl rfl (end_new 18 rfl rfl end_nil))))))))))))))))))))))))))))) ?_
      refine T_cond_t rfl ?_
      refine T_seq (T_region ?_)
      refine TL_q (.int .i64 260) (fun _ _ hρ _ => r_assign (hρ _ _ rfl)) rfl rfl rfl (w_n rfl) ?_
      refine TL_seq ?_
      refine T_ret' ?_
      refine p_blk_r ?_
      refine p_then_r ?_
      refine p_then_r ?_
      refine p_blk_r ?_
      refine p_then_r ?_
      refine ret_of rfl (.int .i64 260) (fun tmps w hk hm => res1 rfl (res_tmp (hk 2 _ rfl))) (fun w hm => ?_)
      exact ⟨by rw [mk_no1 hm9 ho]; rfl, hm.ext⟩
  · replace h1 := of_decide_eq_false h1
    refine T_exit' ?_
    refine p_then_x ?_
    refine p_then_x ?_
    refine p_blk_x ?_
    refine p_seq ?_
    refine T_seq ?_
    refine T_seq (T_region ?_)
    refine TL_q (.slice a ms.length cap) (fun _ _ hρ _ => r_move (hρ _ _ rfl)) rfl rfl rfl (w_n rfl) ?_
    refine TL_q (.int .i64 ((ms.length : Nat) : Int)) (fun _ _ hρ _ => r_len sl25 (hρ _ _ rfl)) rfl rfl rfl (w_n rfl) ?_
    refine TL_q (.bool (decide ((6 : Int) < ((ms.length : Nat) : Int)))) (fun _ _ hρ _ => r_gtr (hρ _ _ rfl) (hρ _ _ rfl)) rfl rfl rfl (w_n rfl) ?_
    refine TL_seq ?_
    refine T_cond rfl (fun h2 => ?_) (fun h2 => ?_)
    · replace h2 := of_decide_eq_true h2
      refine T_seq (T_region ?_)
      refine TL_q (.int .i64 260) (fun _ _ hρ _ => r_assign (hρ _ _ rfl)) rfl rfl rfl (w_n rfl) ?_
      refine TL_seq ?_
      refine T_ret' ?_
      refine p_then_r ?_
      refine ret_of rfl (.int .i64 260) (fun tmps w hk hm => res1 rfl (res_tmp (hk 2 _ rfl))) (fun w hm => ?_)
      exact ⟨by rw [mk_no3 (by omega)]; rfl, hm.ext⟩
    · replace h2 := of_decide_eq_false h2
      refine T_skip' ?_
      refine p_seq ?_
      refine T_seq (T_region ?_)
      refine TL_q (.int .i64 0) (fun _ _ hρ _ => r_assign (hρ _ _ rfl)) rfl rfl rfl (w_n rfl) ?_
      refine TL_seq ?_
      refine T_ret' ?_
      refine ret_of rfl (.int .i64 0) (fun tmps w hk hm => res1 rfl (res_tmp (hk 2 _ rfl))) (fun w hm => ?_)
      exact ⟨by rw [mk_yes hup (by omega) (by omega)]; rfl, hm.ext⟩

theorem rrises_c (l : List Tid) (a : Option Addr) (cap : Nat) (w : World) (hv : SliceAt w a cap 3 Tid.cells l) (hcap : cap ≤ Go.maxLen) : Calls Try.prog 31 #[.slice a l.length cap] w fun e w' => e = .returned (.bool (risesB l)) ∧ Below w.heap.size w w' := by
  have hvl := hv.1
  unfold Go.maxLen at hcap
  refine calls_of_T (l := [.slice a l.length cap]) 30 Try.func31 rfl rfl rfl ?_
  show T _ _ _ [(0, .slice a l.length cap)] []
  refine T_seq (T_region ?_)
  refine TL_q (.bool false) (fun _ _ hρ _ => r_assign (hρ _ _ rfl)) rfl rfl rfl (w_n rfl) ?_
  refine TL_seq ?_
  refine T_seq ?_
  refine T_seq (T_region ?_)
  refine TL_q (.slice a l.length cap) (fun _ _ hρ _ => r_move (hρ _ _ rfl)) rfl rfl rfl (w_n rfl) ?_
  refine TL_q (.int .i64 ((l.length : Nat) : Int)) (fun _ _ hρ _ => r_len sl22 (hρ _ _ rfl)) rfl rfl rfl (w_n rfl) ?_
  refine TL_q (.int .i64 0) (fun _ _ hρ _ => r_move (hρ _ _ rfl)) rfl rfl rfl (w_n rfl) ?_
  refine TL_seq ?_
  refine T_block ?_
  refine T_loop (ι := Nat) (fun (k : Nat) => k ≤ l.length ∧ risesB (l.take k) = true) (fun (k : Nat) => [(0, .slice a l.length cap), (5, .slice a l.length cap), (6, .int .i64 ((l.length : Nat) : Int)), (7, .int .i64 ((k : Nat) : Int))]) (fun (k : Nat) => []) (fun (k : Nat) => l.length - k) 0 ⟨Nat.zero_le _, rfl⟩ (sub_cons rfl (sub_cons rfl (sub_cons rfl (sub_cons rfl sub_nil)))) sub_nil ?_
  rintro k hp
  obtain ⟨hk, hup⟩ := hp
  show T _ _ _ [(0, .slice a l.length cap), (5, .slice a l.length cap), (6, .int .i64 ((l.length : Nat) : Int)), (7, .int .i64 ((k : Nat) : Int))] []
  refine T_seq (T_region ?_)
  refine TL_q (.bool (decide (((k : Nat) : Int) < ((l.length : Nat) : Int)))) (fun _ _ hρ _ => r_lss (hρ _ _ rfl) (hρ _ _ rfl)) rfl rfl rfl (w_n rfl) ?_
  refine TL_seq ?_
  refine T_seq ?_
  refine T_cond rfl (fun h1 => ?_) (fun h1 => ?_)
  · replace h1 := of_decide_eq_true h1
    refine T_skip' ?_
    refine p_seq ?_
    refine T_seq ?_
    refine T_block ?_
    obtain ⟨m9, hm9⟩ : ∃ x, l[k]? = some x := ⟨_, List.getElem?_eq_getElem (by omega)⟩
    obtain ⟨b1, of1, cs1, T1, fz1, ha1, hq1, hr1⟩ := hv.open (i := k) (by omega)
    subst ha1
    refine T_seq (T_region ?_)
    refine TL_q (.int .i64 ((k : Nat) : Int)) (fun _ _ hρ _ => r_move (hρ _ _ rfl)) rfl rfl rfl (w_n rfl) ?_
    refine TL_q (.pointer (some ⟨b1, of1 + k * 3, none⟩)) (fun _ _ hρ _ => r_indexAddrS (i := k) sl22 sz32 (hρ _ _ rfl) (hρ _ _ rfl) (by omega)) rfl rfl rfl (w_n rfl) ?_
    refine TL_q (.agg #[.int .u64 m9.t, .int .i64 m9.s, .int .u64 m9.q]) (fun _ _ hρ hm => r_loadRow (f := Tid.cells) (u := m9) ag32 sz32 (hρ _ _ rfl) (hm.old hq1) hr1 hm9) rfl rfl rfl (w_n rfl) ?_
    refine TL_new 1 (.cells #[.int .u64 0, .int .i64 0, .int .u64 0] 32) (fun B => .pointer (some ⟨B, 0, none⟩)) (fun _ _ _ _ => r_alloc (v := .agg #[.int .u64 0, .int .i64 0, .int .u64 0]) (by kernel_rfl) rfl) rfl rfl rfl (w_n rfl) ?_
    intro B2
    refine TL_q (.int .i64 ((k : Nat) : Int)) (fun _ _ hρ _ => r_assign (hρ _ _ rfl)) rfl rfl rfl (w_n rfl) ?_
    refine TL_store 1 (.cells #[.int .u64 m9.t, .int .i64 m9.s, .int .u64 m9.q] 32) rfl (fun _ _ hρ hm => r_store sz32 (hρ _ _ rfl) (hρ _ _ rfl) (hm.at 1 rfl) rfl rfl rfl rfl) rfl rfl (w_n rfl) ?_
    refine TL_seq ?_
    by_cases ho : okI m9 = true
    · skip
      by_cases hk0 : (0 : Int) < ((k : Nat) : Int)
      · skip
        obtain ⟨y9, hy9⟩ : ∃ x, l[k - 1]? = some x := ⟨_, List.getElem?_eq_getElem (by omega)⟩
        by_cases hl : lessI y9 m9 = true
        · skip
          refine T_seq (T_draw (V := [(0, .agg #[.int .u64 m9.t, .int .i64 m9.s, .int .u64 m9.q])]) [0, 1, 3, 7, 15, 31, 63, 127, 127, 383, 1023, 2047, 127, 8191, 16383, 32767, 65535] [[(4, none)], [(12, some 0)], [(13, some 1)], [(14, some 2)], [(3, none)], [(16, some 4)], [(17, some 5)], [(0, none)], [(3, none)], [(20, some 8)], [(19, some 7), (21, some 9)], [(22, some 10)], [(4, none)], [(23, some 11), (24, some 12)], [(25, some 13)], [(26, some 14), (18, some 6)], [(27, some 15), (15, some 3)]] 8194 mixed (by kernel_rfl) ?_)
          refine G_step [0] 1 [] (by kernel_rfl) (allM (all_cons (q_run (.agg #[.int .u64 m9.t, .int .i64 m9.s, .int .u64 m9.q]) rfl rfl (wv_n rfl) rfl (fun _ _ hρ hm => r_loadA ag32 sz32 (hρ _ _ rfl) (hm.at 1 rfl) rfl rfl)) all_nil)) (allM (all_cons ?_ all_nil))
          refine LOb_call (.bool true) [(2, .bool false), (3, .bool false), (4, .int .i64 ((k : Nat) : Int)), (5, .bool true), (6, .bool true), (7, .slice (some ⟨b1, of1, none⟩) l.length cap), (8, .int .i64 ((k : Nat) : Int)), (9, .int .i64 ((k - 1 : Nat) : Int)), (10, .pointer (some ⟨b1, of1 + (k - 1) * 3, none⟩)), (11, .agg #[.int .u64 y9.t, .int .i64 y9.s, .int .u64 y9.q]), (12, .agg #[.int .u64 m9.t, .int .i64 m9.s, .int .u64 m9.q])] rfl (wv_n rfl) rfl rfl (fun _ _ hρ _ => r_call (args := [.agg #[.int .u64 m9.t, .int .i64 m9.s, .int .u64 m9.q]]) (enters_of Try.func19 (by kernel_rfl) rfl) (hρ _ _ rfl) ((cons2 (hρ _ _ rfl) rfl)) rfl) (fun w _ => (rright_c m9 w).mono fun _ _ h => ⟨h.1.trans (congrArg Ending.returned (bool_as ho)), h.2⟩) (by kernel_rfl) ?_
          refine G_step [2, 3, 4, 5, 6, 7, 8, 9, 10, 11, 12] 13 [] (by kernel_rfl) (allM (all_cons (q_run (.bool false) rfl rfl (wv_n rfl) rfl (fun _ _ hρ _ => r_not (b := true) (hρ _ _ rfl))) (all_cons (q_run (.bool false) rfl rfl (wv_n rfl) rfl (fun _ _ hρ _ => r_move (hρ _ _ rfl))) (all_cons (q_run (.int .i64 ((k : Nat) : Int)) rfl rfl (wv_y rfl rfl) rfl (fun _ _ hρ _ => r_move (hρ _ _ rfl))) (all_cons (q_run (.bool true) rfl rfl (wv_y rfl rfl) rfl (fun _ _ hρ _ => r_as (r_gtr (hρ _ _ rfl) (hρ _ _ rfl)) (bool_as (decide_eq_true hk0)))) (all_cons (q_run (.bool true) rfl rfl (wv_y rfl rfl) rfl (fun _ _ hρ _ => r_move (hρ _ _ rfl))) (all_cons (q_run (.slice (some ⟨b1, of1, none⟩) l.length cap) rfl rfl (wv_y rfl rfl) rfl (fun _ _ hρ _ => r_move (hρ _ _ rfl))) (all_cons (q_run (.int .i64 ((k : Nat) : Int)) rfl rfl (wv_y rfl rfl) rfl (fun _ _ hρ _ => r_move (hρ _ _ rfl))) (all_cons (q_run (.int .i64 ((k - 1 : Nat) : Int)) rfl rfl (wv_y rfl rfl) rfl (fun _ _ hρ _ => r_as (r_sub (hρ _ _ rfl) (hρ _ _ rfl)) (int_as ((wrap64 (by omega) (by omega)).trans (by omega))))) (all_cons (q_run (.pointer (some ⟨b1, of1 + (k - 1) * 3, none⟩)) rfl rfl (wv_y rfl rfl) rfl (fun _ _ hρ _ => r_indexAddrS (i := k - 1) sl22 sz32 (hρ _ _ rfl) (hρ _ _ rfl) (by omega))) (all_cons (q_run (.agg #[.int .u64 y9.t, .int .i64 y9.s, .int .u64 y9.q]) rfl rfl (wv_y rfl rfl) rfl (fun _ _ hρ hm => r_loadRow (f := Tid.cells) (u := y9) ag32 sz32 (hρ _ _ rfl) (hm.old hq1) hr1 hy9)) (all_cons (q_run (.agg #[.int .u64 m9.t, .int .i64 m9.s, .int .u64 m9.q]) rfl rfl (wv_y rfl rfl) rfl (fun _ _ hρ hm => r_loadA ag32 sz32 (hρ _ _ rfl) (hm.at 1 rfl) rfl rfl)) all_nil)))))))))))) (allM (all_cons ?_ all_nil))
          refine LOb_call (.bool true) [(14, .bool false), (15, .bool false), (16, .bool false)] rfl (wv_y rfl rfl) rfl rfl (fun _ _ hρ _ => r_call (args := [.agg #[.int .u64 y9.t, .int .i64 y9.s, .int .u64 y9.q], .agg #[.int .u64 m9.t, .int .i64 m9.s, .int .u64 m9.q]]) (enters_of Try.func62 (by kernel_rfl) rfl) (hρ _ _ rfl) ((cons2 (hρ _ _ rfl) (cons2 (hρ _ _ rfl) rfl))) rfl) (fun w _ => (rless_c y9 m9 w).mono fun _ _ h => ⟨h.1.trans (congrArg Ending.returned (bool_as hl)), h.2⟩) (by kernel_rfl) ?_
          refine G_last [14, 15, 16] [(0, .slice (some ⟨b1, of1, none⟩) l.length cap), (5, .slice (some ⟨b1, of1, none⟩) l.length cap), (6, .int .i64 ((l.length : Nat) : Int)), (7, .int .i64 ((k : Nat) : Int)), (8, .bool (decide (((k : Nat) : Int) < ((l.length : Nat) : Int)))), (9, .int .i64 ((k : Nat) : Int)), (10, .pointer (some ⟨b1, of1 + k * 3, none⟩)), (11, .agg #[.int .u64 m9.t, .int .i64 m9.s, .int .u64 m9.q]), (4, .pointer (some ⟨B2, 0, none⟩)), (3, .int .i64 ((k : Nat) : Int)), (12, .agg #[.int .u64 m9.t, .int .i64 m9.s, .int .u64 m9.q]), (13, .bool true), (14, .bool false), (15, .bool false), (16, .int .i64 ((k : Nat) : Int)), (17, .bool true), (18, .bool true), (19, .slice (some ⟨b1, of1, none⟩) l.length cap), (20, .int .i64 ((k : Nat) : Int)), (21, .int .i64 ((k - 1 : Nat) : Int)), (22, .pointer (some ⟨b1, of1 + (k - 1) * 3, none⟩)), (23, .agg #[.int .u64 y9.t, .int .i64 y9.s, .int .u64 y9.q]), (24, .agg #[.int .u64 m9.t, .int .i64 m9.s, .int .u64 m9.q]), (25, .bool true), (26, .bool false), (27, .bool false), (28, .bool false)] (by kernel_rfl) (allM (all_cons (q_run (.bool false) rfl rfl (wv_y rfl rfl) rfl (fun _ _ hρ _ => r_not (b := true) (hρ _ _ rfl))) (all_cons (q_run (.bool false) rfl rfl (wv_y rfl rfl) rfl (fun _ _ hρ _ => r_pick_t (hρ _ _ rfl) (hρ _ _ rfl))) (all_cons (q_run (.bool false) rfl rfl (wv_n rfl) rfl (fun _ _ hρ _ => r_pick_f (hρ _ _ rfl) (hρ _ _ rfl))) all_nil)))) (end_old rfl rfl (end_old rfl rfl (end_old rfl rfl (end_old rfl rfl (end_old rfl rfl (end_old rfl rfl (end_old rfl rfl (end_old rfl rfl (end_old rfl rfl (end_old rfl rfl (end_new 0 rfl rfl (end_new 1 rfl rfl (end_new 2 rfl rfl (end_new 3 rfl rfl (end_new 4 rfl rfl (end_new 5 rfl rfl (end_new 6 rfl rfl (end_new 7 rfl rfl (end_new 8 rfl rfl (end_new 9 rfl rfl (end_new 10 rfl rfl (end_new 11 rfl rfl (end_new 12 rfl rfl (end_new 13 rfl rfl (end_new 14 rfl rfl (end_new 15 rfl rfl (end_new 16 rfl rfl end_nil))))))))))))))))))))))))))) ?_
          refine T_cond_f rfl ?_
          refine T_skip' ?_
          refine p_blk_n ?_
          refine p_seq ?_
          refine T_region ?_
          refine TL_q (.int .i64 ((k + 1 : Nat) : Int)) (fun _ _ hρ _ => r_as (r_add (hρ _ _ rfl) (hρ _ _ rfl)) (int_as ((wrap64 (by omega) (by omega)).trans (by omega)))) rfl rfl rfl (w_n rfl) ?_
          refine TL_q (.int .i64 ((k + 1 : Nat) : Int)) (fun _ _ hρ _ => r_move (hρ _ _ rfl)) rfl rfl rfl (w_n rfl) ?_
          refine TL_nil ?_
          exact p_at (k + 1) ⟨⟨by omega, rises_step hup hm9 ho (fun z h9 hz9 => by rw [hy9] at hz9; cases hz9; exact hl)⟩, by omega⟩ (sub_cons rfl (sub_cons rfl (sub_cons rfl (sub_cons rfl sub_nil)))) sub_nil
        · skip
          refine T_seq (T_draw (V := [(0, .agg #[.int .u64 m9.t, .int .i64 m9.s, .int .u64 m9.q])]) [0, 1, 3, 7, 15, 31, 63, 127, 127, 383, 1023, 2047, 127, 8191, 16383, 32767, 65535] [[(4, none)], [(12, some 0)], [(13, some 1)], [(14, some 2)], [(3, none)], [(16, some 4)], [(17, some 5)], [(0, none)], [(3, none)], [(20, some 8)], [(19, some 7), (21, some 9)], [(22, some 10)], [(4, none)], [(23, some 11), (24, some 12)], [(25, some 13)], [(26, some 14), (18, some 6)], [(27, some 15), (15, some 3)]] 8194 mixed (by kernel_rfl) ?_)
          refine G_step [0] 1 [] (by kernel_rfl) (allM (all_cons (q_run (.agg #[.int .u64 m9.t, .int .i64 m9.s, .int .u64 m9.q]) rfl rfl (wv_n rfl) rfl (fun _ _ hρ hm => r_loadA ag32 sz32 (hρ _ _ rfl) (hm.at 1 rfl) rfl rfl)) all_nil)) (allM (all_cons ?_ all_nil))
          refine LOb_call (.bool true) [(2, .bool false), (3, .bool false), (4, .int .i64 ((k : Nat) : Int)), (5, .bool true), (6, .bool true), (7, .slice (some ⟨b1, of1, none⟩) l.length cap), (8, .int .i64 ((k : Nat) : Int)), (9, .int .i64 ((k - 1 : Nat) : Int)), (10, .pointer (some ⟨b1, of1 + (k - 1) * 3, none⟩)), (11, .agg #[.int .u64 y9.t, .int .i64 y9.s, .int .u64 y9.q]), (12, .agg #[.int .u64 m9.t, .int .i64 m9.s, .int .u64 m9.q])] rfl (wv_n rfl) rfl rfl (fun _ _ hρ _ => r_call (args := [.agg #[.int .u64 m9.t, .int .i64 m9.s, .int .u64 m9.q]]) (enters_of Try.func19 (by kernel_rfl) rfl) (hρ _ _ rfl) ((cons2 (hρ _ _ rfl) rfl)) rfl) (fun w _ => (rright_c m9 w).mono fun _ _ h => ⟨h.1.trans (congrArg Ending.returned (bool_as ho)), h.2⟩) (by kernel_rfl) ?_
          refine G_step [2, 3, 4, 5, 6, 7, 8, 9, 10, 11, 12] 13 [] (by kernel_rfl) (allM (all_cons (q_run (.bool false) rfl rfl (wv_n rfl) rfl (fun _ _ hρ _ => r_not (b := true) (hρ _ _ rfl))) (all_cons (q_run (.bool false) rfl rfl (wv_n rfl) rfl (fun _ _ hρ _ => r_move (hρ _ _ rfl))) (all_cons (q_run (.int .i64 ((k : Nat) : Int)) rfl rfl (wv_y rfl rfl) rfl (fun _ _ hρ _ => r_move (hρ _ _ rfl))) (all_cons (q_run (.bool true) rfl rfl (wv_y rfl rfl) rfl (fun _ _ hρ _ => r_as (r_gtr (hρ _ _ rfl) (hρ _ _ rfl)) (bool_as (decide_eq_true hk0)))) (all_cons (q_run (.bool true) rfl rfl (wv_y rfl rfl) rfl (fun _ _ hρ _ => r_move (hρ _ _ rfl))) (all_cons (q_run (.slice (some ⟨b1, of1, none⟩) l.length cap) rfl rfl (wv_y rfl rfl) rfl (fun _ _ hρ _ => r_move (hρ _ _ rfl))) (all_cons (q_run (.int .i64 ((k : Nat) : Int)) rfl rfl (wv_y rfl rfl) rfl (fun _ _ hρ _ => r_move (hρ _ _ rfl))) (all_cons (q_run (.int .i64 ((k - 1 : Nat) : Int)) rfl rfl (wv_y rfl rfl) rfl (fun _ _ hρ _ => r_as (r_sub (hρ _ _ rfl) (hρ _ _ rfl)) (int_as ((wrap64 (by omega) (by omega)).trans (by omega))))) (all_cons (q_run (.pointer (some ⟨b1, of1 + (k - 1) * 3, none⟩)) rfl rfl (wv_y rfl rfl) rfl (fun _ _ hρ _ => r_indexAddrS (i := k - 1) sl22 sz32 (hρ _ _ rfl) (hρ _ _ rfl) (by omega))) (all_cons (q_run (.agg #[.int .u64 y9.t, .int .i64 y9.s, .int .u64 y9.q]) rfl rfl (wv_y rfl rfl) rfl (fun _ _ hρ hm => r_loadRow (f := Tid.cells) (u := y9) ag32 sz32 (hρ _ _ rfl) (hm.old hq1) hr1 hy9)) (all_cons (q_run (.agg #[.int .u64 m9.t, .int .i64 m9.s, .int .u64 m9.q]) rfl rfl (wv_y rfl rfl) rfl (fun _ _ hρ hm => r_loadA ag32 sz32 (hρ _ _ rfl) (hm.at 1 rfl) rfl rfl)) all_nil)))))))))))) (allM (all_cons ?_ all_nil))
          refine LOb_call (.bool false) [(14, .bool true), (15, .bool true), (16, .bool true)] rfl (wv_y rfl rfl) rfl rfl (fun _ _ hρ _ => r_call (args := [.agg #[.int .u64 y9.t, .int .i64 y9.s, .int .u64 y9.q], .agg #[.int .u64 m9.t, .int .i64 m9.s, .int .u64 m9.q]]) (enters_of Try.func62 (by kernel_rfl) rfl) (hρ _ _ rfl) ((cons2 (hρ _ _ rfl) (cons2 (hρ _ _ rfl) rfl))) rfl) (fun w _ => (rless_c y9 m9 w).mono fun _ _ h => ⟨h.1.trans (congrArg Ending.returned (bool_as (eq_false_of_ne_true hl))), h.2⟩) (by kernel_rfl) ?_
          refine G_last [14, 15, 16] [(0, .slice (some ⟨b1, of1, none⟩) l.length cap), (5, .slice (some ⟨b1, of1, none⟩) l.length cap), (6, .int .i64 ((l.length : Nat) : Int)), (7, .int .i64 ((k : Nat) : Int)), (8, .bool (decide (((k : Nat) : Int) < ((l.length : Nat) : Int)))), (9, .int .i64 ((k : Nat) : Int)), (10, .pointer (some ⟨b1, of1 + k * 3, none⟩)), (11, .agg #[.int .u64 m9.t, .int .i64 m9.s, .int .u64 m9.q]), (4, .pointer (some ⟨B2, 0, none⟩)), (3, .int .i64 ((k : Nat) : Int)), (12, .agg #[.int .u64 m9.t, .int .i64 m9.s, .int .u64 m9.q]), (13, .bool true), (14, .bool false), (15, .bool false), (16, .int .i64 ((k : Nat) : Int)), (17, .bool true), (18, .bool true), (19, .slice (some ⟨b1, of1, none⟩) l.length cap), (20, .int .i64 ((k : Nat) : Int)), (21, .int .i64 ((k - 1 : Nat) : Int)), (22, .pointer (some ⟨b1, of1 + (k - 1) * 3, none⟩)), (23, .agg #[.int .u64 y9.t, .int .i64 y9.s, .int .u64 y9.q]), (24, .agg #[.int .u64 m9.t, .int .i64 m9.s, .int .u64 m9.q]), (25, .bool false), (26, .bool true), (27, .bool true), (28, .bool true)] (by kernel_rfl) (allM (all_cons (q_run (.bool true) rfl rfl (wv_y rfl rfl) rfl (fun _ _ hρ _ => r_not (b := false) (hρ _ _ rfl))) (all_cons (q_run (.bool true) rfl rfl (wv_y rfl rfl) rfl (fun _ _ hρ _ => r_pick_t (hρ _ _ rfl) (hρ _ _ rfl))) (all_cons (q_run (.bool true) rfl rfl (wv_n rfl) rfl (fun _ _ hρ _ => r_pick_f (hρ _ _ rfl) (hρ _ _ rfl))) all_nil)))) (end_old rfl rfl (end_old rfl rfl (end_old rfl rfl (end_old rfl rfl (end_old rfl rfl (end_old rfl rfl (end_old rfl rfl (end_old rfl rfl (end_old rfl rfl (end_old rfl rfl (end_new 0 rfl rfl (end_new 1 rfl rfl (end_new 2 rfl rfl (end_new 3 rfl rfl (end_new 4 rfl rfl (end_new 5 rfl rfl (end_new 6 rfl rfl (end_new 7 rfl rfl (end_new 8 rfl rfl (end_new 9 rfl rfl (end_new 10 rfl rfl (end_new 11 rfl rfl (end_new 12 rfl rfl (end_new 13 rfl rfl (end_new 14 rfl rfl (end_new 15 rfl rfl (end_new 16 rfl rfl end_nil))))))))))))))))))))))))))) ?_
          refine T_cond_t rfl ?_
          refine T_seq (T_region ?_)
          refine TL_q (.bool false) (fun _ _ hρ _ => r_assign (hρ _ _ rfl)) rfl rfl rfl (w_n rfl) ?_
          refine TL_seq ?_
          refine T_ret' ?_
          refine p_blk_r ?_
          refine p_then_r ?_
          refine p_then_r ?_
          refine p_blk_r ?_
          refine p_then_r ?_
          refine ret_of rfl (.bool false) (fun tmps w hk hm => res1 rfl (res_tmp (hk 2 _ rfl))) (fun w hm => ?_)
          exact ⟨by rw [rises_no2 (by omega) hy9 hm9 hl], hm.ext⟩
      · skip
        refine T_seq (T_draw (V := [(0, .agg #[.int .u64 m9.t, .int .i64 m9.s, .int .u64 m9.q])]) [0, 1, 3, 7, 15, 31, 63, 127, 127, 383, 1023, 2047, 127, 8191, 16383, 32767, 65535] [[(4, none)], [(12, some 0)], [(13, some 1)], [(14, some 2)], [(3, none)], [(16, some 4)], [(17, some 5)], [(0, none)], [(3, none)], [(20, some 8)], [(19, some 7), (21, some 9)], [(22, some 10)], [(4, none)], [(23, some 11), (24, some 12)], [(25, some 13)], [(26, some 14), (18, some 6)], [(27, some 15), (15, some 3)]] 2 mixed (by kernel_rfl) ?_)
        refine G_step [0] 1 [] (by kernel_rfl) (allM (all_cons (q_run (.agg #[.int .u64 m9.t, .int .i64 m9.s, .int .u64 m9.q]) rfl rfl (wv_n rfl) rfl (fun _ _ hρ hm => r_loadA ag32 sz32 (hρ _ _ rfl) (hm.at 1 rfl) rfl rfl)) all_nil)) (allM (all_cons ?_ all_nil))
        refine LOb_call (.bool true) [(2, .bool false), (3, .bool false), (4, .int .i64 ((k : Nat) : Int)), (5, .bool false), (6, .bool false), (7, undef), (8, undef), (9, undef), (10, undef), (11, undef), (12, undef), (13, undef), (14, undef), (15, .bool false), (16, .bool false)] rfl (wv_n rfl) rfl rfl (fun _ _ hρ _ => r_call (args := [.agg #[.int .u64 m9.t, .int .i64 m9.s, .int .u64 m9.q]]) (enters_of Try.func19 (by kernel_rfl) rfl) (hρ _ _ rfl) ((cons2 (hρ _ _ rfl) rfl)) rfl) (fun w _ => (rright_c m9 w).mono fun _ _ h => ⟨h.1.trans (congrArg Ending.returned (bool_as ho)), h.2⟩) (by kernel_rfl) ?_
        refine G_last [2, 3, 4, 5, 6, 7, 8, 9, 10, 11, 12, 13, 14, 15, 16] [(0, .slice (some ⟨b1, of1, none⟩) l.length cap), (5, .slice (some ⟨b1, of1, none⟩) l.length cap), (6, .int .i64 ((l.length : Nat) : Int)), (7, .int .i64 ((k : Nat) : Int)), (8, .bool (decide (((k : Nat) : Int) < ((l.length : Nat) : Int)))), (9, .int .i64 ((k : Nat) : Int)), (10, .pointer (some ⟨b1, of1 + k * 3, none⟩)), (11, .agg #[.int .u64 m9.t, .int .i64 m9.s, .int .u64 m9.q]), (4, .pointer (some ⟨B2, 0, none⟩)), (3, .int .i64 ((k : Nat) : Int)), (12, .agg #[.int .u64 m9.t, .int .i64 m9.s, .int .u64 m9.q]), (13, .bool true), (14, .bool false), (15, .bool false), (16, .int .i64 ((k : Nat) : Int)), (17, .bool false), (18, .bool false), (19, undef), (20, undef), (21, undef), (22, undef), (23, undef), (24, undef), (25, undef), (26, undef), (27, .bool false), (28, .bool false)] (by kernel_rfl) (allM (all_cons (q_run (.bool false) rfl rfl (wv_n rfl) rfl (fun _ _ hρ _ => r_not (b := true) (hρ _ _ rfl))) (all_cons (q_run (.bool false) rfl rfl (wv_n rfl) rfl (fun _ _ hρ _ => r_move (hρ _ _ rfl))) (all_cons (q_run (.int .i64 ((k : Nat) : Int)) rfl rfl (wv_y rfl rfl) rfl (fun _ _ hρ _ => r_move (hρ _ _ rfl))) (all_cons (q_run (.bool false) rfl rfl (wv_y rfl rfl) rfl (fun _ _ hρ _ => r_as (r_gtr (hρ _ _ rfl) (hρ _ _ rfl)) (bool_as (decide_eq_false hk0)))) (all_cons (q_run (.bool false) rfl rfl (wv_y rfl rfl) rfl (fun _ _ hρ _ => r_move (hρ _ _ rfl))) (all_cons (q_no rfl rfl (wv_no rfl rfl)) (all_cons (q_no rfl rfl (wv_no rfl rfl)) (all_cons (q_no rfl rfl (wv_no rfl rfl)) (all_cons (q_no rfl rfl (wv_no rfl rfl)) (all_cons (q_no rfl rfl (wv_no rfl rfl)) (all_cons (q_no rfl rfl (wv_no rfl rfl)) (all_cons (q_no rfl rfl (wv_no rfl rfl)) (all_cons (q_no rfl rfl (wv_no rfl rfl)) (all_cons (q_run (.bool false) rfl rfl (wv_y rfl rfl) rfl (fun _ _ hρ _ => r_pick_f (hρ _ _ rfl) (hρ _ _ rfl))) (all_cons (q_run (.bool false) rfl rfl (wv_n rfl) rfl (fun _ _ hρ _ => r_pick_f (hρ _ _ rfl) (hρ _ _ rfl))) all_nil)))))))))))))))) (end_old rfl rfl (end_old rfl rfl (end_old rfl rfl (end_old rfl rfl (end_old rfl rfl (end_old rfl rfl (end_old rfl rfl (end_old rfl rfl (end_old rfl rfl (end_old rfl rfl (end_new 0 rfl rfl (end_new 1 rfl rfl (end_new 2 rfl rfl (end_new 3 rfl rfl (end_new 4 rfl rfl (end_new 5 rfl rfl (end_new 6 rfl rfl (end_new 7 rfl rfl (end_new 8 rfl rfl (end_new 9 rfl rfl (end_new 10 rfl rfl (end_new 11 rfl rfl (end_new 12 rfl rfl (end_new 13 rfl rfl (end_new 14 rfl rfl (end_new 15 rfl rfl (end_new 16 rfl rfl end_nil))))))))))))))))))))))))))) ?_
        refine T_cond_f rfl ?_
        refine T_skip' ?_
        refine p_blk_n ?_
        refine p_seq ?_
        refine T_region ?_
        refine TL_q (.int .i64 ((k + 1 : Nat) : Int)) (fun _ _ hρ _ => r_as (r_add (hρ _ _ rfl) (hρ _ _ rfl)) (int_as ((wrap64 (by omega) (by omega)).trans (by omega)))) rfl rfl rfl (w_n rfl) ?_
        refine TL_q (.int .i64 ((k + 1 : Nat) : Int)) (fun _ _ hρ _ => r_move (hρ _ _ rfl)) rfl rfl rfl (w_n rfl) ?_
        refine TL_nil ?_
        exact p_at (k + 1) ⟨⟨by omega, rises_step hup hm9 ho (fun z h9 hz9 => absurd h9 (by omega))⟩, by omega⟩ (sub_cons rfl (sub_cons rfl (sub_cons rfl (sub_cons rfl sub_nil)))) sub_nil
    · skip
      refine T_seq (T_draw (V := [(0, .agg #[.int .u64 m9.t, .int .i64 m9.s, .int .u64 m9.q])]) [0, 1, 3, 7, 15, 31, 63, 127, 127, 383, 1023, 2047, 127, 8191, 16383, 32767, 65535] [[(4, none)], [(12, some 0)], [(13, some 1)], [(14, some 2)], [(3, none)], [(16, some 4)], [(17, some 5)], [(0, none)], [(3, none)], [(20, some 8)], [(19, some 7), (21, some 9)], [(22, some 10)], [(4, none)], [(23, some 11), (24, some 12)], [(25, some 13)], [(26, some 14), (18, some 6)], [(27, some 15), (15, some 3)]] 2 mixed (by kernel_rfl) ?_)
      refine G_step [0] 1 [] (by kernel_rfl) (allM (all_cons (q_run (.agg #[.int .u64 m9.t, .int .i64 m9.s, .int .u64 m9.q]) rfl rfl (wv_n rfl) rfl (fun _ _ hρ hm => r_loadA ag32 sz32 (hρ _ _ rfl) (hm.at 1 rfl) rfl rfl)) all_nil)) (allM (all_cons ?_ all_nil))
      refine LOb_call (.bool false) [(2, .bool true), (3, .bool true), (4, undef), (5, undef), (6, undef), (7, undef), (8, undef), (9, undef), (10, undef), (11, undef), (12, undef), (13, undef), (14, undef), (15, undef), (16, .bool true)] rfl (wv_n rfl) rfl rfl (fun _ _ hρ _ => r_call (args := [.agg #[.int .u64 m9.t, .int .i64 m9.s, .int .u64 m9.q]]) (enters_of Try.func19 (by kernel_rfl) rfl) (hρ _ _ rfl) ((cons2 (hρ _ _ rfl) rfl)) rfl) (fun w _ => (rright_c m9 w).mono fun _ _ h => ⟨h.1.trans (congrArg Ending.returned (bool_as (eq_false_of_ne_true ho))), h.2⟩) (by kernel_rfl) ?_
      refine G_last [2, 3, 4, 5, 6, 7, 8, 9, 10, 11, 12, 13, 14, 15, 16] [(0, .slice (some ⟨b1, of1, none⟩) l.length cap), (5, .slice (some ⟨b1, of1, none⟩) l.length cap), (6, .int .i64 ((l.length : Nat) : Int)), (7, .int .i64 ((k : Nat) : Int)), (8, .bool (decide (((k : Nat) : Int) < ((l.length : Nat) : Int)))), (9, .int .i64 ((k : Nat) : Int)), (10, .pointer (some ⟨b1, of1 + k * 3, none⟩)), (11, .agg #[.int .u64 m9.t, .int .i64 m9.s, .int .u64 m9.q]), (4, .pointer (some ⟨B2, 0, none⟩)), (3, .int .i64 ((k : Nat) : Int)), (12, .agg #[.int .u64 m9.t, .int .i64 m9.s, .int .u64 m9.q]), (13, .bool false), (14, .bool true), (15, .bool true), (16, undef), (17, undef), (18, undef), (19, undef), (20, undef), (21, undef), (22, undef), (23, undef), (24, undef), (25, undef), (26, undef), (27, undef), (28, .bool true)] (by kernel_rfl) (allM (all_cons (q_run (.bool true) rfl rfl (wv_n rfl) rfl (fun _ _ hρ _ => r_not (b := false) (hρ _ _ rfl))) (all_cons (q_run (.bool true) rfl rfl (wv_n rfl) rfl (fun _ _ hρ _ => r_move (hρ _ _ rfl))) (all_cons (q_no rfl rfl (wv_no rfl rfl)) (all_cons (q_no rfl rfl (wv_no rfl rfl)) (all_cons (q_no rfl rfl (wv_no rfl rfl)) (all_cons (q_no rfl rfl (wv_u rfl rfl)) (all_cons (q_no rfl rfl (wv_u rfl rfl)) (all_cons (q_no rfl rfl (wv_u rfl rfl)) (all_cons (q_no rfl rfl (wv_u rfl rfl)) (all_cons (q_no rfl rfl (wv_u rfl rfl)) (all_cons (q_no rfl rfl (wv_u rfl rfl)) (all_cons (q_no rfl rfl (wv_u rfl rfl)) (all_cons (q_no rfl rfl (wv_u rfl rfl)) (all_cons (q_no rfl rfl (wv_no rfl rfl)) (all_cons (q_run (.bool true) rfl rfl (wv_n rfl) rfl (fun _ _ hρ _ => r_pick_t (hρ _ _ rfl) (hρ _ _ rfl))) all_nil)))))))))))))))) (end_old rfl rfl (end_old rfl rfl (end_old rfl rfl (end_old rfl rfl (end_old rfl rfl (end_old rfl rfl (end_old rfl rfl (end_old rfl rfl (end_old rfl rfl (end_old rfl rfl (end_new 0 rfl rfl (end_new 1 rfl rfl (end_new 2 rfl rfl (end_new 3 rfl rfl (end_new 4 rfl rfl (end_new 5 rfl rfl (end_new 6 rfl rfl (end_new 7 rfl rfl (end_new 8 rfl rfl (end_new 9 rfl rfl (end_new 10 rfl rfl (end_new 11 rfl rfl (end_new 12 rfl rfl (end_new 13 rfl rfl (end_new 14 rfl rfl (end_new 15 rfl rfl (end_new 16 rfl rfl end_nil))))))))))))))))))))))))))) ?_
      refine T_cond_t rfl ?_
      refine T_seq (T_region ?_)
      refine TL_q (.bool false) (fun _ _ hρ _ => r_assign (hρ _ _ rfl)) rfl rfl rfl (w_n rfl) ?_
      refine TL_seq ?_
      refine T_ret' ?_
      refine p_blk_r ?_
      refine p_then_r ?_
      refine p_then_r ?_
      refine p_blk_r ?_
      refine p_then_r ?_
      refine ret_of rfl (.bool false) (fun tmps w hk hm => res1 rfl (res_tmp (hk 2 _ rfl))) (fun w hm => ?_)
      exact ⟨by rw [rises_no1 hm9 ho], hm.ext⟩
  · replace h1 := of_decide_eq_false h1
    refine T_exit' ?_
    refine p_then_x ?_
    refine p_then_x ?_
    refine p_blk_x ?_
    refine p_seq ?_
    refine T_seq (T_region ?_)
    refine TL_q (.bool true) (fun _ _ hρ _ => r_assign (hρ _ _ rfl)) rfl rfl rfl (w_n rfl) ?_
    refine TL_seq ?_
    refine T_ret' ?_
    refine ret_of rfl (.bool true) (fun tmps w hk hm => res1 rfl (res_tmp (hk 2 _ rfl))) (fun w hm => ?_)
    have hke : k = l.length := by omega
    subst hke
    rw [List.take_length] at hup
    exact ⟨by rw [hup], hm.ext⟩

theorem rmay_c (l : List Tid) (a : Option Addr) (cap : Nat) (w : World) (hv : SliceAt w a cap 3 Tid.cells l) (hcap : cap ≤ Go.maxLen) : Calls Try.prog 17 #[.slice a l.length cap] w fun e w' => e = .returned (.bool (risesB l && decide (l.length ≤ 6))) ∧ Below w.heap.size w w' := by
  have hvl := hv.1
  unfold Go.maxLen at hcap
  refine calls_of_T (l := [.slice a l.length cap]) 10 Try.func17 rfl rfl rfl ?_
  show T _ _ _ [(0, .slice a l.length cap)] []
  refine T_seq (T_region ?_)
  refine TL_q (.bool false) (fun _ _ hρ _ => r_assign (hρ _ _ rfl)) rfl rfl rfl (w_n rfl) ?_
  refine TL_seq ?_
  by_cases hr8 : risesB l = true
  · skip
    refine T_seq (T_region ?_)
    refine TL_q (.slice a l.length cap) (fun _ _ hρ _ => r_move (hρ _ _ rfl)) rfl rfl rfl (w_n rfl) ?_
    refine TL_call (.bool true) (fun _ _ hρ _ => r_call (args := [.slice a l.length cap]) (enters_of Try.func31 (by kernel_rfl) rfl) (hρ _ _ rfl) ((cons2 (hρ _ _ rfl) rfl)) rfl) (fun w hm => (rrises_c l a cap w (hv.keep hm.ext) hcap).mono fun _ _ h => ⟨h.1.trans (congrArg Ending.returned (bool_as hr8)), h.2⟩) rfl rfl rfl (w_n rfl) ?_
    refine TL_q (.bool true) (fun _ _ hρ _ => r_move (hρ _ _ rfl)) rfl rfl rfl (w_n rfl) ?_
    refine TL_q (.slice a l.length cap) (fun _ _ hρ _ => r_move (hρ _ _ rfl)) rfl rfl rfl (want_y 5 rfl rfl rfl) ?_
    refine TL_q (.int .i64 ((l.length : Nat) : Int)) (fun _ _ hρ _ => r_len sl22 (hρ _ _ rfl)) rfl rfl rfl (want_y 5 rfl rfl rfl) ?_
    refine TL_q (.bool (decide (((l.length : Nat) : Int) ≤ 6))) (fun _ _ hρ _ => r_leq (hρ _ _ rfl) (hρ _ _ rfl)) rfl rfl rfl (want_y 5 rfl rfl rfl) ?_
    refine TL_q (.bool (decide (((l.length : Nat) : Int) ≤ 6))) (fun _ _ hρ _ => r_pick_t (hρ _ _ rfl) (hρ _ _ rfl)) rfl rfl rfl (w_n rfl) ?_
    refine TL_q (.bool (decide (((l.length : Nat) : Int) ≤ 6))) (fun _ _ hρ _ => r_assign (hρ _ _ rfl)) rfl rfl rfl (w_n rfl) ?_
    refine TL_seq ?_
    refine T_ret' ?_
    refine ret_of rfl (.bool (decide (((l.length : Nat) : Int) ≤ 6))) (fun tmps w hk hm => res1 rfl (res_tmp (hk 2 _ rfl))) (fun w hm => ?_)
    exact ⟨congrArg Ending.returned (bool_as (by rw [hr8]; exact decide_eq_decide.2 (by omega))), hm.ext⟩
  · skip
    refine T_seq (T_region ?_)
    refine TL_q (.slice a l.length cap) (fun _ _ hρ _ => r_move (hρ _ _ rfl)) rfl rfl rfl (w_n rfl) ?_
    refine TL_call (.bool false) (fun _ _ hρ _ => r_call (args := [.slice a l.length cap]) (enters_of Try.func31 (by kernel_rfl) rfl) (hρ _ _ rfl) ((cons2 (hρ _ _ rfl) rfl)) rfl) (fun w hm => (rrises_c l a cap w (hv.keep hm.ext) hcap).mono fun _ _ h => ⟨h.1.trans (congrArg Ending.returned (bool_as (eq_false_of_ne_true hr8))), h.2⟩) rfl rfl rfl (w_n rfl) ?_
    refine TL_q (.bool false) (fun _ _ hρ _ => r_move (hρ _ _ rfl)) rfl rfl rfl (w_n rfl) ?_
    refine TL_no rfl rfl (want_n 5 rfl rfl rfl) ?_
    refine TL_no rfl rfl (want_n 5 rfl rfl rfl) ?_
    refine TL_no rfl rfl (want_n 5 rfl rfl rfl) ?_
    refine TL_q (.bool false) (fun _ _ hρ _ => r_pick_f (hρ _ _ rfl) (hρ _ _ rfl)) rfl rfl rfl (w_n rfl) ?_
    refine TL_q (.bool false) (fun _ _ hρ _ => r_assign (hρ _ _ rfl)) rfl rfl rfl (w_n rfl) ?_
    refine TL_seq ?_
    refine T_ret' ?_
    refine ret_of rfl (.bool false) (fun tmps w hk hm => res1 rfl (res_tmp (hk 2 _ rfl))) (fun w hm => ?_)
    exact ⟨congrArg Ending.returned (bool_as (by rw [eq_false_of_ne_true hr8]; rfl)), hm.ext⟩

theorem pairs_iter {ι : Type} (w₀ : World) (p' : Nat → ι → Prop) (LJ : Nat → ι → Heap) (Q9 : Nat) (l : List Tid) (a : Option Addr) (cap : Nat) (hv : SliceAt w₀ a cap 3 Tid.cells l) (hcap : cap ≤ Go.maxLen)
    (hT1 : ∀ k i w, MemOk w₀ (LJ k i) w → hp w Q9 = some (.cells #[.slice a l.length cap] 22)) :
    IterAt Try.prog w₀ 79 #[.pointer (some ⟨Q9, 0, none⟩)] encP (prs l) p' LJ := by
  intro l9 κ pX LX hY i₀ W₁ hp0 hm0
  have hvl := hv.1
  unfold Go.maxLen at hcap
  show Calls _ _ #[.func (.yield l9) #[] #[], .pointer (some ⟨Q9, 0, none⟩)] _ _
  refine ht_of_T (l := [.func (.yield l9) #[] #[], .pointer (some ⟨Q9, 0, none⟩)]) (L := LJ 0 i₀) 26 Try.func79 rfl rfl rfl ?_ W₁ hm0
  show T _ _ _ [(0, .func (.yield l9) #[] #[]), (1, .pointer (some ⟨Q9, 0, none⟩))] (LJ 0 i₀)
  refine T_scope ?_
  refine T_label ?_
  refine T_seq (T_region ?_)
  refine TL_q (.slice a l.length cap) (fun _ _ hρ hm => r_load ag22 (hρ _ _ rfl) (hT1 _ _ _ hm) rfl) rfl rfl rfl (w_n rfl) ?_
  refine TL_q (.int .i64 ((l.length : Nat) : Int)) (fun _ _ hρ _ => r_len sl22 (hρ _ _ rfl)) rfl rfl rfl (w_n rfl) ?_
  refine TL_q (.int .i64 0) (fun _ _ hρ _ => r_move (hρ _ _ rfl)) rfl rfl rfl (w_n rfl) ?_
  refine TL_seq ?_
  refine T_block ?_
  refine T_loopE (ι := Nat × ι) (fun (z : Nat × ι) => match z with | (k, i) => k ≤ l.length ∧ p' (k - 1) i) (fun (z : Nat × ι) => match z with | (k, i) => [(0, .func (.yield l9) #[] #[]), (1, .pointer (some ⟨Q9, 0, none⟩)), (5, .int .i64 ((l.length : Nat) : Int)), (6, .int .i64 ((k : Nat) : Int))]) (fun (z : Nat × ι) => match z with | (k, i) => (LJ (k - 1) i)) (fun (z : Nat × ι) => match z with | (k, i) => l.length - k) (0, i₀) ⟨Nat.zero_le _, hp0⟩ (sub_cons rfl (sub_cons rfl (sub_cons rfl (sub_cons rfl sub_nil)))) rfl ?_
  rintro ⟨k, i⟩ hp
  obtain ⟨hk, hpi⟩ := hp
  show T _ _ _ [(0, .func (.yield l9) #[] #[]), (1, .pointer (some ⟨Q9, 0, none⟩)), (5, .int .i64 ((l.length : Nat) : Int)), (6, .int .i64 ((k : Nat) : Int))] (LJ (k - 1) i)
  refine T_seq (T_region ?_)
  refine TL_q (.bool (decide (((k : Nat) : Int) < ((l.length : Nat) : Int)))) (fun _ _ hρ _ => r_lss (hρ _ _ rfl) (hρ _ _ rfl)) rfl rfl rfl (w_n rfl) ?_
  refine TL_seq ?_
  refine T_seq ?_
  refine T_cond rfl (fun h1 => ?_) (fun h1 => ?_)
  · replace h1 := of_decide_eq_true h1
    refine T_skip' ?_
    refine p_seq ?_
    refine T_seq ?_
    refine T_block ?_
    obtain ⟨m9, hm9⟩ : ∃ x, l[k]? = some x := ⟨_, List.getElem?_eq_getElem (by omega)⟩
    obtain ⟨b1, of1, cs1, T1, fz1, ha1, hq1, hr1⟩ := hv.open (i := k) (by omega)
    subst ha1
    refine T_seq (T_region ?_)
    refine TL_q (.int .i64 ((k : Nat) : Int)) (fun _ _ hρ _ => r_move (hρ _ _ rfl)) rfl rfl rfl (w_n rfl) ?_
    refine TL_q (.int .i64 ((k : Nat) : Int)) (fun _ _ hρ _ => r_assign (hρ _ _ rfl)) rfl rfl rfl (w_n rfl) ?_
    refine TL_seq ?_
    by_cases hk0 : (0 : Int) < ((k : Nat) : Int)
    · skip
      obtain ⟨y9, hy9⟩ : ∃ x, l[k - 1]? = some x := ⟨_, List.getElem?_eq_getElem (by omega)⟩
      refine T_seq (T_draw (V := [(0, .int .i64 ((k : Nat) : Int)), (1, .bool true), (2, .bool true), (3, .func (.yield l9) #[] #[]), (4, .slice (some ⟨b1, of1, none⟩) l.length cap), (5, .int .i64 ((k : Nat) : Int)), (6, .int .i64 ((k - 1 : Nat) : Int)), (7, .pointer (some ⟨b1, of1 + (k - 1) * 3, none⟩)), (8, .agg #[.int .u64 y9.t, .int .i64 y9.s, .int .u64 y9.q]), (9, .slice (some ⟨b1, of1, none⟩) l.length cap), (10, .int .i64 ((k : Nat) : Int)), (11, .pointer (some ⟨b1, of1 + k * 3, none⟩)), (12, .agg #[.int .u64 m9.t, .int .i64 m9.s, .int .u64 m9.q])]) [0, 1, 3, 7, 7, 7, 39, 119, 247, 7, 7, 1543, 3591, 8191, 16383, 32767] [[(3, none)], [(9, some 0)], [(10, some 1)], [(0, none)], [(1, none)], [(3, none)], [(14, some 5)], [(13, some 4), (15, some 6)], [(16, some 7)], [(1, none)], [(3, none)], [(18, some 9), (19, some 10)], [(20, some 11)], [(17, some 8), (21, some 12), (12, some 3)], [(22, some 13)], [(23, some 14), (11, some 2)]] 8192 mixed (by kernel_rfl) ?_)
      refine G_step [0, 1, 2, 3, 4, 5, 6, 7, 8, 9, 10, 11, 12] 13 [] (by kernel_rfl) (allM (all_cons (q_run (.int .i64 ((k : Nat) : Int)) rfl rfl (wv_n rfl) rfl (fun _ _ hρ _ => r_move (hρ _ _ rfl))) (all_cons (q_run (.bool true) rfl rfl (wv_n rfl) rfl (fun _ _ hρ _ => r_as (r_gtr (hρ _ _ rfl) (hρ _ _ rfl)) (bool_as (decide_eq_true hk0)))) (all_cons (q_run (.bool true) rfl rfl (wv_n rfl) rfl (fun _ _ hρ _ => r_move (hρ _ _ rfl))) (all_cons (q_run (.func (.yield l9) #[] #[]) rfl rfl (wv_y rfl rfl) rfl (fun _ _ hρ _ => r_move (hρ _ _ rfl))) (all_cons (q_run (.slice (some ⟨b1, of1, none⟩) l.length cap) rfl rfl (wv_y rfl rfl) rfl (fun _ _ hρ hm => r_load ag22 (hρ _ _ rfl) (hT1 _ _ _ hm) rfl)) (all_cons (q_run (.int .i64 ((k : Nat) : Int)) rfl rfl (wv_y rfl rfl) rfl (fun _ _ hρ _ => r_move (hρ _ _ rfl))) (all_cons (q_run (.int .i64 ((k - 1 : Nat) : Int)) rfl rfl (wv_y rfl rfl) rfl (fun _ _ hρ _ => r_as (r_sub (hρ _ _ rfl) (hρ _ _ rfl)) (int_as ((wrap64 (by omega) (by omega)).trans (by omega))))) (all_cons (q_run (.pointer (some ⟨b1, of1 + (k - 1) * 3, none⟩)) rfl rfl (wv_y rfl rfl) rfl (fun _ _ hρ _ => r_indexAddrS (i := k - 1) sl22 sz32 (hρ _ _ rfl) (hρ _ _ rfl) (by omega))) (all_cons (q_run (.agg #[.int .u64 y9.t, .int .i64 y9.s, .int .u64 y9.q]) rfl rfl (wv_y rfl rfl) rfl (fun _ _ hρ hm => r_loadRow (f := Tid.cells) (u := y9) ag32 sz32 (hρ _ _ rfl) (hm.old hq1) hr1 hy9)) (all_cons (q_run (.slice (some ⟨b1, of1, none⟩) l.length cap) rfl rfl (wv_y rfl rfl) rfl (fun _ _ hρ hm => r_load ag22 (hρ _ _ rfl) (hT1 _ _ _ hm) rfl)) (all_cons (q_run (.int .i64 ((k : Nat) : Int)) rfl rfl (wv_y rfl rfl) rfl (fun _ _ hρ _ => r_move (hρ _ _ rfl))) (all_cons (q_run (.pointer (some ⟨b1, of1 + k * 3, none⟩)) rfl rfl (wv_y rfl rfl) rfl (fun _ _ hρ _ => r_indexAddrS (i := k) sl22 sz32 (hρ _ _ rfl) (hρ _ _ rfl) (by omega))) (all_cons (q_run (.agg #[.int .u64 m9.t, .int .i64 m9.s, .int .u64 m9.q]) rfl rfl (wv_y rfl rfl) rfl (fun _ _ hρ hm => r_loadRow (f := Tid.cells) (u := m9) ag32 sz32 (hρ _ _ rfl) (hm.old hq1) hr1 hm9)) all_nil)))))))))))))) (allM (all_cons ?_ all_nil))
      refine LOb_yieldB (fun i => p' (k - 1 + 1) i) (fun i => LJ (k - 1 + 1) i) pX LX (fun yx2 => [(14, .bool (!yx2.isLeft)), (15, .bool (!yx2.isLeft))]) rfl rfl (wv_y rfl rfl) rfl rfl (fun _ _ hρ _ => r_yield (hρ _ _ rfl) ((cons2 (hρ _ _ rfl) (cons2 (hρ _ _ rfl) rfl)))) (fun W hm => hY (k - 1) (y9, m9) i W (prs_at (by omega) hy9 hm9) hpi hm) (fun _ => by kernel_rfl) ?_
      intro yx2 hyx2
      refine G_last [14, 15] [(0, .func (.yield l9) #[] #[]), (1, .pointer (some ⟨Q9, 0, none⟩)), (5, .int .i64 ((l.length : Nat) : Int)), (6, .int .i64 ((k : Nat) : Int)), (7, .bool (decide (((k : Nat) : Int) < ((l.length : Nat) : Int)))), (8, .int .i64 ((k : Nat) : Int)), (3, .int .i64 ((k : Nat) : Int)), (9, .int .i64 ((k : Nat) : Int)), (10, .bool true), (11, .bool true), (12, .func (.yield l9) #[] #[]), (13, .slice (some ⟨b1, of1, none⟩) l.length cap), (14, .int .i64 ((k : Nat) : Int)), (15, .int .i64 ((k - 1 : Nat) : Int)), (16, .pointer (some ⟨b1, of1 + (k - 1) * 3, none⟩)), (17, .agg #[.int .u64 y9.t, .int .i64 y9.s, .int .u64 y9.q]), (18, .slice (some ⟨b1, of1, none⟩) l.length cap), (19, .int .i64 ((k : Nat) : Int)), (20, .pointer (some ⟨b1, of1 + k * 3, none⟩)), (21, .agg #[.int .u64 m9.t, .int .i64 m9.s, .int .u64 m9.q]), (22, .bool yx2.isLeft), (23, .bool (!yx2.isLeft)), (24, .bool (!yx2.isLeft))] (by kernel_rfl) (allM (all_cons (q_run (.bool (!yx2.isLeft)) rfl rfl (wv_y rfl rfl) rfl (fun _ _ hρ _ => r_not (b := yx2.isLeft) (hρ _ _ rfl))) (all_cons (q_run (.bool (!yx2.isLeft)) rfl rfl (wv_n rfl) rfl (fun _ _ hρ _ => r_pick_t (hρ _ _ rfl) (hρ _ _ rfl))) all_nil))) (end_old rfl rfl (end_old rfl rfl (end_old rfl rfl (end_old rfl rfl (end_old rfl rfl (end_old rfl rfl (end_old rfl rfl (end_new 0 rfl rfl (end_new 1 rfl rfl (end_new 2 rfl rfl (end_new 3 rfl rfl (end_new 4 rfl rfl (end_new 5 rfl rfl (end_new 6 rfl rfl (end_new 7 rfl rfl (end_new 8 rfl rfl (end_new 9 rfl rfl (end_new 10 rfl rfl (end_new 11 rfl rfl (end_new 12 rfl rfl (end_new 13 rfl rfl (end_new 14 rfl rfl (end_new 15 rfl rfl end_nil))))))))))))))))))))))) ?_
      refine T_cond rfl (fun h2 => ?_) (fun h2 => ?_)
      · replace h2 := bnot_t h2
        obtain ⟨j, rfl⟩ := isR (by simpa using h2)
        refine T_exit' ?_
        refine p_blk_o rfl ?_
        refine p_then_x ?_
        refine p_then_x ?_
        refine p_blk_x ?_
        refine p_ng_n ?_
        refine p_end ?_
        refine ret_of rfl (.tuple #[]) (fun tmps w hk hm => results_none rfl _ _ _) (fun w hm => ?_)
        first
          | exact ⟨⟨_, rfl⟩, .inr ⟨j, hyx2, hm⟩⟩
          | (have hk8 : k = l.length := (by omega); subst hk8; exact ⟨⟨_, rfl⟩, .inl ⟨i, by rw [prs_len]; exact hpi, by rw [prs_len]; exact hm⟩⟩)
      · replace h2 := bnot_f h2
        obtain ⟨i1, rfl⟩ := isL (by simpa using h2)
        refine T_skip' ?_
        refine p_blk_n ?_
        refine p_seq ?_
        refine T_region ?_
        refine TL_q (.int .i64 ((k + 1 : Nat) : Int)) (fun _ _ hρ _ => r_as (r_add (hρ _ _ rfl) (hρ _ _ rfl)) (int_as ((wrap64 (by omega) (by omega)).trans (by omega)))) rfl rfl rfl (w_n rfl) ?_
        refine TL_q (.int .i64 ((k + 1 : Nat) : Int)) (fun _ _ hρ _ => r_move (hρ _ _ rfl)) rfl rfl rfl (w_n rfl) ?_
        refine TL_nil ?_
        exact p_atE (k + 1, i1) ⟨⟨by omega, by have h9 := hyx2; rw [show k - 1 + 1 = k + 1 - 1 by omega] at h9; exact h9⟩, by dsimp only; omega⟩ (sub_cons rfl (sub_cons rfl (sub_cons rfl (sub_cons rfl sub_nil)))) (show LJ (k - 1 + 1) i1 = LJ (k + 1 - 1) i1 by rw [show k - 1 + 1 = k + 1 - 1 by omega])
    · skip
      refine T_seq (T_draw (V := [(0, .int .i64 ((k : Nat) : Int)), (1, .bool false), (2, .bool false), (3, undef), (4, undef), (5, undef), (6, undef), (7, undef), (8, undef), (9, undef), (10, undef), (11, undef), (12, undef), (13, undef), (14, undef), (15, .bool false)]) [0, 1, 3, 7, 7, 7, 39, 119, 247, 7, 7, 1543, 3591, 8191, 16383, 32767] [[(3, none)], [(9, some 0)], [(10, some 1)], [(0, none)], [(1, none)], [(3, none)], [(14, some 5)], [(13, some 4), (15, some 6)], [(16, some 7)], [(1, none)], [(3, none)], [(18, some 9), (19, some 10)], [(20, some 11)], [(17, some 8), (21, some 12), (12, some 3)], [(22, some 13)], [(23, some 14), (11, some 2)]] 0 mixed (by kernel_rfl) ?_)
      refine G_last [0, 1, 2, 3, 4, 5, 6, 7, 8, 9, 10, 11, 12, 13, 14, 15] [(0, .func (.yield l9) #[] #[]), (1, .pointer (some ⟨Q9, 0, none⟩)), (5, .int .i64 ((l.length : Nat) : Int)), (6, .int .i64 ((k : Nat) : Int)), (7, .bool (decide (((k : Nat) : Int) < ((l.length : Nat) : Int)))), (8, .int .i64 ((k : Nat) : Int)), (3, .int .i64 ((k : Nat) : Int)), (9, .int .i64 ((k : Nat) : Int)), (10, .bool false), (11, .bool false), (12, undef), (13, undef), (14, undef), (15, undef), (16, undef), (17, undef), (18, undef), (19, undef), (20, undef), (21, undef), (22, undef), (23, undef), (24, .bool false)] (by kernel_rfl) (allM (all_cons (q_run (.int .i64 ((k : Nat) : Int)) rfl rfl (wv_n rfl) rfl (fun _ _ hρ _ => r_move (hρ _ _ rfl))) (all_cons (q_run (.bool false) rfl rfl (wv_n rfl) rfl (fun _ _ hρ _ => r_as (r_gtr (hρ _ _ rfl) (hρ _ _ rfl)) (bool_as (decide_eq_false hk0)))) (all_cons (q_run (.bool false) rfl rfl (wv_n rfl) rfl (fun _ _ hρ _ => r_move (hρ _ _ rfl))) (all_cons (q_no rfl rfl (wv_no rfl rfl)) (all_cons (q_no rfl rfl (wv_no rfl rfl)) (all_cons (q_no rfl rfl (wv_no rfl rfl)) (all_cons (q_no rfl rfl (wv_no rfl rfl)) (all_cons (q_no rfl rfl (wv_no rfl rfl)) (all_cons (q_no rfl rfl (wv_no rfl rfl)) (all_cons (q_no rfl rfl (wv_no rfl rfl)) (all_cons (q_no rfl rfl (wv_no rfl rfl)) (all_cons (q_no rfl rfl (wv_no rfl rfl)) (all_cons (q_no rfl rfl (wv_no rfl rfl)) (all_cons (q_no rfl rfl (wv_no rfl rfl)) (all_cons (q_no rfl rfl (wv_no rfl rfl)) (all_cons (q_run (.bool false) rfl rfl (wv_n rfl) rfl (fun _ _ hρ _ => r_pick_f (hρ _ _ rfl) (hρ _ _ rfl))) all_nil))))))))))))))))) (end_old rfl rfl (end_old rfl rfl (end_old rfl rfl (end_old rfl rfl (end_old rfl rfl (end_old rfl rfl (end_old rfl rfl (end_new 0 rfl rfl (end_new 1 rfl rfl (end_new 2 rfl rfl (end_new 3 rfl rfl (end_new 4 rfl rfl (end_new 5 rfl rfl (end_new 6 rfl rfl (end_new 7 rfl rfl (end_new 8 rfl rfl (end_new 9 rfl rfl (end_new 10 rfl rfl (end_new 11 rfl rfl (end_new 12 rfl rfl (end_new 13 rfl rfl (end_new 14 rfl rfl (end_new 15 rfl rfl end_nil))))))))))))))))))))))) ?_
      refine T_cond_f rfl ?_
      refine T_skip' ?_
      refine p_blk_n ?_
      refine p_seq ?_
      refine T_region ?_
      refine TL_q (.int .i64 ((k + 1 : Nat) : Int)) (fun _ _ hρ _ => r_as (r_add (hρ _ _ rfl) (hρ _ _ rfl)) (int_as ((wrap64 (by omega) (by omega)).trans (by omega)))) rfl rfl rfl (w_n rfl) ?_
      refine TL_q (.int .i64 ((k + 1 : Nat) : Int)) (fun _ _ hρ _ => r_move (hρ _ _ rfl)) rfl rfl rfl (w_n rfl) ?_
      refine TL_nil ?_
      exact p_atE (k + 1, i) ⟨⟨by omega, by rw [show k - 1 = k + 1 - 1 by omega] at hpi; exact hpi⟩, by dsimp only; omega⟩ (sub_cons rfl (sub_cons rfl (sub_cons rfl (sub_cons rfl sub_nil)))) (show LJ (k - 1) i = LJ (k + 1 - 1) i by rw [show k - 1 = k + 1 - 1 by omega])
  · replace h1 := of_decide_eq_false h1
    refine T_exit' ?_
    refine p_then_x ?_
    refine p_then_x ?_
    refine p_blk_x ?_
    refine p_ng_n ?_
    refine p_end ?_
    refine ret_of rfl (.tuple #[]) (fun tmps w hk hm => results_none rfl _ _ _) (fun w hm => ?_)
    first
      | exact ⟨⟨_, rfl⟩, .inr ⟨j, hyx2, hm⟩⟩
      | (have hk8 : k = l.length := (by omega); subst hk8; exact ⟨⟨_, rfl⟩, .inl ⟨i, by rw [prs_len]; exact hpi, by rw [prs_len]; exact hm⟩⟩)
end Go.Proofs.Ytmihoejecpcmjaa
/- net and journal: Rising; rows gone through. Printed by a program of this seat's prover. -/
namespace Go.Proofs.Ytmihoejecpcmjaa
open Go Go.RowKit
set_option maxRecDepth 10000
theorem pairs_c (a : Option Addr) (n cap : Nat) (w : World) : Calls Try.prog 69 #[.slice a n cap] w fun e w' => ∃ q, e = .returned (.func (.func 79) #[] #[.pointer (some ⟨q, 0, none⟩)]) ∧ Below w.heap.size w w' ∧ (Res.blk q (.cells #[.slice a n cap] 22)).ok w.heap.size w' := by
  refine calls_of_T (l := [.slice a n cap]) 4 Try.func69 rfl rfl rfl ?_
  show T _ _ _ [(0, .slice a n cap)] []
  refine T_seq (T_region ?_)
  refine TL_new 1 (.cells #[.slice a n cap] 22) (fun B => .pointer (some ⟨B, 0, none⟩)) (fun _ _ hρ _ => r_box (hρ _ _ rfl) rfl) rfl rfl rfl (w_n rfl) ?_
  intro B1
  refine TL_q (.nilFunc) (fun _ _ hρ _ => r_assign (hρ _ _ rfl)) rfl rfl rfl (w_n rfl) ?_
  refine TL_seq ?_
  refine T_seq (T_region ?_)
  refine TL_q (.func (.func 79) #[] #[.pointer (some ⟨B1, 0, none⟩)]) (fun _ _ hρ _ => r_makeFunc (by simp) (map_arr (cons2 (hρ _ _ rfl) rfl))) rfl rfl rfl (w_n rfl) ?_
  refine TL_q (.func (.func 79) #[] #[.pointer (some ⟨B1, 0, none⟩)]) (fun _ _ hρ _ => r_assign (hρ _ _ rfl)) rfl rfl rfl (w_n rfl) ?_
  refine TL_seq ?_
  refine T_ret' ?_
  refine ret_of rfl (.func (.func 79) #[] #[.pointer (some ⟨B1, 0, none⟩)]) (fun tmps w hk hm => res1 rfl (res_tmp (hk 2 _ rfl))) (fun w hm => ?_)
  exact ⟨B1, rfl, hm.ext, hm.own 1 _ rfl⟩

theorem rising1_c (a b : Tid) (w : World) : Calls Try.prog 47 #[a.v, b.v] w fun e w' => e = .returned (.bool (lessI a b)) ∧ Below w.heap.size w w' := by
  refine calls_of_T (l := [.agg #[.int .u64 a.t, .int .i64 a.s, .int .u64 a.q], .agg #[.int .u64 b.t, .int .i64 b.s, .int .u64 b.q]]) 8 Try.func47 rfl rfl rfl ?_
  show T _ _ _ [(0, .agg #[.int .u64 a.t, .int .i64 a.s, .int .u64 a.q]), (1, .agg #[.int .u64 b.t, .int .i64 b.s, .int .u64 b.q])] []
  refine T_seq (T_region ?_)
  refine TL_new 1 (.cells #[.int .u64 a.t, .int .i64 a.s, .int .u64 a.q] 32) (fun B => .pointer (some ⟨B, 0, none⟩)) (fun _ _ hρ _ => r_box (hρ _ _ rfl) rfl) rfl rfl rfl (w_n rfl) ?_
  intro B1
  refine TL_new 2 (.cells #[.int .u64 b.t, .int .i64 b.s, .int .u64 b.q] 32) (fun B => .pointer (some ⟨B, 0, none⟩)) (fun _ _ hρ _ => r_box (hρ _ _ rfl) rfl) rfl rfl rfl (w_n rfl) ?_
  intro B2
  refine TL_q (.bool false) (fun _ _ hρ _ => r_assign (hρ _ _ rfl)) rfl rfl rfl (w_n rfl) ?_
  refine TL_seq ?_
  refine T_seq (T_region ?_)
  refine TL_q (.agg #[.int .u64 a.t, .int .i64 a.s, .int .u64 a.q]) (fun _ _ hρ hm => r_loadA ag32 sz32 (hρ _ _ rfl) (hm.at 1 rfl) rfl rfl) rfl rfl rfl (w_n rfl) ?_
  refine TL_q (.agg #[.int .u64 b.t, .int .i64 b.s, .int .u64 b.q]) (fun _ _ hρ hm => r_loadA ag32 sz32 (hρ _ _ rfl) (hm.at 2 rfl) rfl rfl) rfl rfl rfl (w_n rfl) ?_
  refine TL_call (.bool (lessI a b)) (fun _ _ hρ _ => r_call (args := [.agg #[.int .u64 a.t, .int .i64 a.s, .int .u64 a.q], .agg #[.int .u64 b.t, .int .i64 b.s, .int .u64 b.q]]) (enters_of Try.func12 (by kernel_rfl) rfl) (hρ _ _ rfl) ((cons2 (hρ _ _ rfl) (cons2 (hρ _ _ rfl) rfl))) rfl) (fun w _ => less_c a b w) rfl rfl rfl (w_n rfl) ?_
  refine TL_q (.bool (lessI a b)) (fun _ _ hρ _ => r_assign (hρ _ _ rfl)) rfl rfl rfl (w_n rfl) ?_
  refine TL_seq ?_
  refine T_ret' ?_
  refine ret_of rfl (.bool (lessI a b)) (fun tmps w hk hm => res1 rfl (res_tmp (hk 4 _ rfl))) (fun w hm => ?_)
  exact ⟨rfl, hm.ext⟩

theorem all_c (ts : List Tid) (a : Option Addr) (cap : Nat) (w : World) (hv : SliceAt w a cap 3 Tid.cells ts) (hcap : cap ≤ Go.maxLen) : Calls Try.prog 46 #[.slice a ts.length cap, .func (.func 47) #[] #[]] w fun e w' => e = .returned (.bool (upB ts)) ∧ Below w.heap.size w w' := by
  have hvl := hv.1
  unfold Go.maxLen at hcap
  refine calls_of_T (l := [.slice a ts.length cap, .func (.func 47) #[] #[]]) 16 Try.func46 rfl rfl rfl ?_
  show T _ _ _ [(0, .slice a ts.length cap), (1, .func (.func 47) #[] #[])] []
  refine T_seq (T_region ?_)
  refine TL_new 1 (.cells #[.func (.func 47) #[] #[]] 33) (fun B => .pointer (some ⟨B, 0, none⟩)) (fun _ _ hρ _ => r_box (hρ _ _ rfl) rfl) rfl rfl rfl (w_n rfl) ?_
  intro B1
  refine TL_new 2 (.cells #[.bool false] 4) (fun B => .pointer (some ⟨B, 0, none⟩)) (fun _ _ _ _ => r_alloc (v := .bool false) (by kernel_rfl) rfl) rfl rfl rfl (w_n rfl) ?_
  intro B2
  refine TL_seq ?_
  refine T_seq ?_
  refine T_seq (T_region ?_)
  refine TL_q (.slice a ts.length cap) (fun _ _ hρ _ => r_move (hρ _ _ rfl)) rfl rfl rfl (w_n rfl) ?_
  refine TL_callN (fun (_ : Nat) => True) (fun qp3 => .func (.func 79) #[] #[.pointer (some ⟨qp3, 0, none⟩)]) (fun qp3 => [(907, .blk qp3 (.cells #[.slice a ts.length cap] 22))]) (fun _ _ hρ _ => r_call (args := [.slice a ts.length cap]) (enters_of Try.func69 (by kernel_rfl) rfl) (hρ _ _ rfl) ((cons2 (hρ _ _ rfl) rfl)) rfl) (fun w _ => (pairs_c a ts.length cap w).mono fun e w' ⟨q, he, hb, r1⟩ => ⟨q, trivial, he, hb, newOk1 907 r1⟩) rfl rfl rfl (w_n rfl) ?_
  rintro qp3 -
  refine TL_seq ?_
  refine T_block ?_
  refine T_sub [(3, .pointer (some ⟨B1, 0, none⟩)), (4, .pointer (some ⟨B2, 0, none⟩)), (8, .func (.func 79) #[] #[.pointer (some ⟨qp3, 0, none⟩)])] [(907, .blk qp3 (.cells #[.slice a ts.length cap] 22)), (1, .blk B1 (.cells #[.func (.func 47) #[] #[]] 33)), (2, .blk B2 (.cells #[.bool false] 4))] (sub_cons rfl (sub_cons rfl (sub_cons rfl sub_nil))) (sub_cons rfl (sub_cons rfl (sub_cons rfl sub_nil))) ?_
  refine T_rangeB (ι := Unit) (ζ := Nat × Nat) (encs := encP) (xs := prs ts) rfl rfl (enters_of Try.func79 (by kernel_rfl) rfl) (fun _ => rfl) rfl 801 802 rfl (fun (k : Nat) (_u : Unit) => ∀ z ∈ (prs ts).take k, lessI z.1 z.2 = true) (fun (k : Nat) (_u : Unit) => [(2, .blk B2 (.cells #[.bool false] 4)), (907, .blk qp3 (.cells #[.slice a ts.length cap] 22)), (1, .blk B1 (.cells #[.func (.func 47) #[] #[]] 33))]) (fun c (_u : Unit) => c = .ret ∧ upB ts = false) (fun (_u : Unit) => [(907, .blk qp3 (.cells #[.slice a ts.length cap] 22)), (1, .blk B1 (.cells #[.func (.func 47) #[] #[]] 33)), (2, .blk B2 (.cells #[.bool false] 4))]) (fun x Bz => [(3, .pointer (some ⟨B1, 0, none⟩)), (4, .pointer (some ⟨B2, 0, none⟩)), (8, .func (.func 79) #[] #[.pointer (some ⟨qp3, 0, none⟩)]), (5, .pointer (some ⟨Bz.1, 0, none⟩)), (6, .pointer (some ⟨Bz.2, 0, none⟩))]) (fun x Bz => [(6, .blk Bz.1 (.cells #[.int .u64 x.1.t, .int .i64 x.1.s, .int .u64 x.1.q] 32)), (7, .blk Bz.2 (.cells #[.int .u64 x.2.t, .int .i64 x.2.s, .int .u64 x.2.q] 32))]) (fun D l rec => pairs_iter w (fun k (_ : Unit) => ∀ z ∈ (prs ts).take k, lessI z.1 z.2 = true) _ qp3 ts a cap hv hcap (fun _ _ w hm => hm.at 907 rfl)) (fun _ _ => ⟨rfl, rfl⟩) (fun _ => ⟨rfl, rfl⟩) () (fun _ h => nomatch h) (sub_cons rfl (sub_cons rfl (sub_cons rfl sub_nil))) ?_ ?_ ?_ ?_
  · intro D1 l1 rec1 k x _u hx1 hp1
    refine T_sub [(3, .pointer (some ⟨B1, 0, none⟩)), (4, .pointer (some ⟨B2, 0, none⟩)), (8, .func (.func 79) #[] #[.pointer (some ⟨qp3, 0, none⟩)]), (9, .agg #[.int .u64 x.1.t, .int .i64 x.1.s, .int .u64 x.1.q]), (10, .agg #[.int .u64 x.2.t, .int .i64 x.2.s, .int .u64 x.2.q])] [(801, .blk D1 (.deferred (some []))), (802, .blk l1 (.loop rec1)), (2, .blk B2 (.cells #[.bool false] 4)), (907, .blk qp3 (.cells #[.slice a ts.length cap] 22)), (1, .blk B1 (.cells #[.func (.func 47) #[] #[]] 33))] (sub_cons rfl (sub_cons rfl (sub_cons rfl (sub_cons rfl (sub_cons rfl sub_nil))))) (sub_cons rfl (sub_cons rfl (sub_cons rfl (sub_cons rfl (sub_cons rfl sub_nil))))) ?_
    refine T_seq (T_region ?_)
    refine TL_new 6 (.cells #[.int .u64 0, .int .i64 0, .int .u64 0] 32) (fun B => .pointer (some ⟨B, 0, none⟩)) (fun _ _ _ _ => r_alloc (v := .agg #[.int .u64 0, .int .i64 0, .int .u64 0]) (by kernel_rfl) rfl) rfl rfl rfl (w_n rfl) ?_
    intro B4
    refine TL_store 6 (.cells #[.int .u64 x.1.t, .int .i64 x.1.s, .int .u64 x.1.q] 32) rfl (fun _ _ hρ hm => r_store sz32 (hρ _ _ rfl) (hρ _ _ rfl) (hm.at 6 rfl) rfl rfl rfl rfl) rfl rfl (w_n rfl) ?_
    refine TL_seq ?_
    refine T_region ?_
    refine TL_new 7 (.cells #[.int .u64 0, .int .i64 0, .int .u64 0] 32) (fun B => .pointer (some ⟨B, 0, none⟩)) (fun _ _ _ _ => r_alloc (v := .agg #[.int .u64 0, .int .i64 0, .int .u64 0]) (by kernel_rfl) rfl) rfl rfl rfl (w_n rfl) ?_
    intro B5
    refine TL_store 7 (.cells #[.int .u64 x.2.t, .int .i64 x.2.s, .int .u64 x.2.q] 32) rfl (fun _ _ hρ hm => r_store sz32 (hρ _ _ rfl) (hρ _ _ rfl) (hm.at 7 rfl) rfl rfl rfl rfl) rfl rfl (w_n rfl) ?_
    refine TL_nil ?_
    exact p_at (B4, B5) trivial (sub_cons rfl (sub_cons rfl (sub_cons rfl (sub_cons rfl (sub_cons rfl sub_nil))))) (sub_cons rfl (sub_cons rfl (sub_cons rfl (sub_cons rfl (sub_cons rfl (sub_cons rfl (sub_cons rfl sub_nil)))))))
  · intro D1 l1 rec1 k x _u Bz hx1 hp1
    obtain ⟨Ba, Bb⟩ := Bz
    show T _ _ _ [(3, .pointer (some ⟨B1, 0, none⟩)), (4, .pointer (some ⟨B2, 0, none⟩)), (8, .func (.func 79) #[] #[.pointer (some ⟨qp3, 0, none⟩)]), (5, .pointer (some ⟨Ba, 0, none⟩)), (6, .pointer (some ⟨Bb, 0, none⟩))] [(801, .blk D1 (.deferred (some []))), (802, .blk l1 (.loop { rec1 with state := .busy })), (6, .blk Ba (.cells #[.int .u64 x.1.t, .int .i64 x.1.s, .int .u64 x.1.q] 32)), (7, .blk Bb (.cells #[.int .u64 x.2.t, .int .i64 x.2.s, .int .u64 x.2.q] 32)), (2, .blk B2 (.cells #[.bool false] 4)), (907, .blk qp3 (.cells #[.slice a ts.length cap] 22)), (1, .blk B1 (.cells #[.func (.func 47) #[] #[]] 33))]
    refine T_block ?_
    by_cases hl : lessI x.1 x.2 = true
    · skip
      refine T_seq (T_region ?_)
      refine TL_q (.func (.func 47) #[] #[]) (fun _ _ hρ hm => r_load ag33 (hρ _ _ rfl) (hm.at 1 rfl) rfl) rfl rfl rfl (w_n rfl) ?_
      refine TL_q (.agg #[.int .u64 x.1.t, .int .i64 x.1.s, .int .u64 x.1.q]) (fun _ _ hρ hm => r_loadA ag32 sz32 (hρ _ _ rfl) (hm.at 6 rfl) rfl rfl) rfl rfl rfl (w_n rfl) ?_
      refine TL_q (.agg #[.int .u64 x.2.t, .int .i64 x.2.s, .int .u64 x.2.q]) (fun _ _ hρ hm => r_loadA ag32 sz32 (hρ _ _ rfl) (hm.at 7 rfl) rfl rfl) rfl rfl rfl (w_n rfl) ?_
      refine TL_call (.bool true) (fun _ _ hρ _ => r_call (args := [.agg #[.int .u64 x.1.t, .int .i64 x.1.s, .int .u64 x.1.q], .agg #[.int .u64 x.2.t, .int .i64 x.2.s, .int .u64 x.2.q]]) (enters_of Try.func47 (by kernel_rfl) rfl) (hρ _ _ rfl) ((cons2 (hρ _ _ rfl) (cons2 (hρ _ _ rfl) rfl))) rfl) (fun w _ => (rising1_c x.1 x.2 w).mono fun _ _ h => ⟨h.1.trans (congrArg Ending.returned (bool_as hl)), h.2⟩) rfl rfl rfl (w_n rfl) ?_
      refine TL_q (.bool false) (fun _ _ hρ _ => r_not (b := true) (hρ _ _ rfl)) rfl rfl rfl (w_n rfl) ?_
      refine TL_seq ?_
      refine T_cond_f rfl ?_
      refine T_skip' ?_
      refine p_blk_n ?_
      exact p_round_n () (allP_step (φ := fun z : Tid × Tid => lessI z.1 z.2) hp1 hx1 hl) (sub_cons rfl (sub_cons rfl (sub_cons rfl (sub_cons rfl (sub_cons rfl sub_nil)))))
    · skip
      refine T_seq (T_region ?_)
      refine TL_q (.func (.func 47) #[] #[]) (fun _ _ hρ hm => r_load ag33 (hρ _ _ rfl) (hm.at 1 rfl) rfl) rfl rfl rfl (w_n rfl) ?_
      refine TL_q (.agg #[.int .u64 x.1.t, .int .i64 x.1.s, .int .u64 x.1.q]) (fun _ _ hρ hm => r_loadA ag32 sz32 (hρ _ _ rfl) (hm.at 6 rfl) rfl rfl) rfl rfl rfl (w_n rfl) ?_
      refine TL_q (.agg #[.int .u64 x.2.t, .int .i64 x.2.s, .int .u64 x.2.q]) (fun _ _ hρ hm => r_loadA ag32 sz32 (hρ _ _ rfl) (hm.at 7 rfl) rfl rfl) rfl rfl rfl (w_n rfl) ?_
      refine TL_call (.bool false) (fun _ _ hρ _ => r_call (args := [.agg #[.int .u64 x.1.t, .int .i64 x.1.s, .int .u64 x.1.q], .agg #[.int .u64 x.2.t, .int .i64 x.2.s, .int .u64 x.2.q]]) (enters_of Try.func47 (by kernel_rfl) rfl) (hρ _ _ rfl) ((cons2 (hρ _ _ rfl) (cons2 (hρ _ _ rfl) rfl))) rfl) (fun w _ => (rising1_c x.1 x.2 w).mono fun _ _ h => ⟨h.1.trans (congrArg Ending.returned (bool_as (eq_false_of_ne_true hl))), h.2⟩) rfl rfl rfl (w_n rfl) ?_
      refine TL_q (.bool true) (fun _ _ hρ _ => r_not (b := false) (hρ _ _ rfl)) rfl rfl rfl (w_n rfl) ?_
      refine TL_seq ?_
      refine T_cond_t rfl ?_
      refine T_seq (T_region ?_)
      refine TL_store 2 (.cells #[.bool false] 4) rfl (fun _ _ hρ hm => r_store sz4 (hρ _ _ rfl) (hρ _ _ rfl) (hm.at 2 rfl) rfl rfl rfl rfl) rfl rfl (w_n rfl) ?_
      refine TL_seq ?_
      refine T_ret' ?_
      refine p_blk_r ?_
      exact p_round_r () ⟨rfl, all_no (φ := fun z : Tid × Tid => lessI z.1 z.2) hx1 hl⟩ (sub_cons rfl (sub_cons rfl (sub_cons rfl (sub_cons rfl (sub_cons rfl sub_nil)))))
  · intro D1 _u hp1
    refine p_sub [(3, .pointer (some ⟨B1, 0, none⟩)), (4, .pointer (some ⟨B2, 0, none⟩)), (8, .func (.func 79) #[] #[.pointer (some ⟨qp3, 0, none⟩)])] [(801, .blk D1 (.deferred (some []))), (907, .blk qp3 (.cells #[.slice a ts.length cap] 22)), (1, .blk B1 (.cells #[.func (.func 47) #[] #[]] 33)), (2, .blk B2 (.cells #[.bool false] 4))] (sub_cons rfl (sub_cons rfl (sub_cons rfl sub_nil))) (sub_cons rfl (sub_cons rfl (sub_cons rfl (sub_cons rfl sub_nil)))) ?_
    have hup : upB ts = true := all_yes hp1
    refine p_blk_n ?_
    refine p_seq ?_
    refine T_seq (T_region ?_)
    refine TL_store 2 (.cells #[.bool true] 4) rfl (fun _ _ hρ hm => r_store sz4 (hρ _ _ rfl) (hρ _ _ rfl) (hm.at 2 rfl) rfl rfl rfl rfl) rfl rfl (w_n rfl) ?_
    refine TL_seq ?_
    refine T_ret' ?_
    refine ret_of1 801 D1 rfl rfl (.bool true) (fun tmps w hk hm => res1 rfl (res_cell (hk 4 _ rfl) (run_loadVar_one ag4 (hm.at 2 rfl) rfl))) (fun w hm => ?_)
    exact ⟨by rw [hup], hm.ext⟩
  · intro D1 c _u hc
    obtain ⟨rfl, hup⟩ := hc
    show T _ _ _ [(3, .pointer (some ⟨B1, 0, none⟩)), (4, .pointer (some ⟨B2, 0, none⟩)), (8, .func (.func 79) #[] #[.pointer (some ⟨qp3, 0, none⟩)])] [(801, .blk D1 (.deferred (some []))), (907, .blk qp3 (.cells #[.slice a ts.length cap] 22)), (1, .blk B1 (.cells #[.func (.func 47) #[] #[]] 33)), (2, .blk B2 (.cells #[.bool false] 4))]
    refine T_ret' ?_
    refine p_blk_r ?_
    refine p_then_r ?_
    refine ret_of1 801 D1 rfl rfl (.bool false) (fun tmps w hk hm => res1 rfl (res_cell (hk 4 _ rfl) (run_loadVar_one ag4 (hm.at 2 rfl) rfl))) (fun w hm => ?_)
    exact ⟨by rw [hup], hm.ext⟩

theorem rising_c (l : List Tid) (a : Option Addr) (cap : Nat) (w : World) (hv : SliceAt w a cap 3 Tid.cells l) (hcap : cap ≤ Go.maxLen) : Calls Try.prog 15 #[.slice a l.length cap] w fun e w' => e = .returned (.bool (upB l)) ∧ Below w.heap.size w w' := by
  have hvl := hv.1
  unfold Go.maxLen at hcap
  refine calls_of_T (l := [.slice a l.length cap]) 5 Try.func15 rfl rfl rfl ?_
  show T _ _ _ [(0, .slice a l.length cap)] []
  refine T_seq (T_region ?_)
  refine TL_q (.bool false) (fun _ _ hρ _ => r_assign (hρ _ _ rfl)) rfl rfl rfl (w_n rfl) ?_
  refine TL_seq ?_
  refine T_seq (T_region ?_)
  refine TL_q (.slice a l.length cap) (fun _ _ hρ _ => r_move (hρ _ _ rfl)) rfl rfl rfl (w_n rfl) ?_
  refine TL_call (.bool (upB l)) (fun _ _ hρ _ => r_call (args := [.slice a l.length cap, .func (.func 47) #[] #[]]) (enters_of Try.func46 (by kernel_rfl) rfl) (hρ _ _ rfl) ((cons2 (hρ _ _ rfl) (cons2 (hρ _ _ rfl) rfl))) rfl) (fun w hm => all_c l a cap w (hv.keep hm.ext) hcap) rfl rfl rfl (w_n rfl) ?_
  refine TL_q (.bool (upB l)) (fun _ _ hρ _ => r_assign (hρ _ _ rfl)) rfl rfl rfl (w_n rfl) ?_
  refine TL_seq ?_
  refine T_ret' ?_
  refine ret_of rfl (.bool (upB l)) (fun tmps w hk hm => res1 rfl (res_tmp (hk 2 _ rfl))) (fun w hm => ?_)
  exact ⟨rfl, hm.ext⟩

theorem iidx_c (l : List Tid) (a : Option Addr) (cap : Nat) (w : World) (hv : SliceAt w a cap 3 Tid.cells l) (hcap : cap ≤ Go.maxLen) (g : Nat) (cp : Array Value) (hE : Enters Try.prog g) (φ : Tid → Bool) (hto : ∀ w2, Below w.heap.size w w2 → ∀ x ∈ l, Calls Try.prog g (#[x.v] ++ cp) w2 fun e w3 => e = .returned (.bool (φ x)) ∧ Below w2.heap.size w2 w3) : Calls Try.prog 65 #[.slice a l.length cap, .func (.func g) #[] cp] w fun e w' => e = .returned (.int .i64 (idxI φ l)) ∧ Below w.heap.size w w' := by
  have hvl := hv.1
  unfold Go.maxLen at hcap
  refine calls_of_T (l := [.slice a l.length cap, .func (.func g) #[] cp]) 19 Try.func65 rfl rfl rfl ?_
  show T _ _ _ [(0, .slice a l.length cap), (1, .func (.func g) #[] cp)] []
  refine T_seq (T_region ?_)
  refine TL_q (.int .i64 0) (fun _ _ hρ _ => r_assign (hρ _ _ rfl)) rfl rfl rfl (w_n rfl) ?_
  refine TL_seq ?_
  refine T_seq ?_
  refine T_seq (T_region ?_)
  refine TL_q (.slice a l.length cap) (fun _ _ hρ _ => r_move (hρ _ _ rfl)) rfl rfl rfl (w_n rfl) ?_
  refine TL_q (.int .i64 ((l.length : Nat) : Int)) (fun _ _ hρ _ => r_len sl22 (hρ _ _ rfl)) rfl rfl rfl (w_n rfl) ?_
  refine TL_q (.int .i64 0) (fun _ _ hρ _ => r_move (hρ _ _ rfl)) rfl rfl rfl (w_n rfl) ?_
  refine TL_seq ?_
  refine T_block ?_
  refine T_loop (ι := Nat) (fun (k : Nat) => k ≤ l.length ∧ ∀ x ∈ l.take k, φ x = false) (fun (k : Nat) => [(0, .slice a l.length cap), (1, .func (.func g) #[] cp), (7, .int .i64 ((l.length : Nat) : Int)), (8, .int .i64 ((k : Nat) : Int))]) (fun (k : Nat) => []) (fun (k : Nat) => l.length - k) 0 ⟨Nat.zero_le _, fun _ h => nomatch h⟩ (sub_cons rfl (sub_cons rfl (sub_cons rfl (sub_cons rfl sub_nil)))) sub_nil ?_
  rintro k hp
  obtain ⟨hk, hno⟩ := hp
  show T _ _ _ [(0, .slice a l.length cap), (1, .func (.func g) #[] cp), (7, .int .i64 ((l.length : Nat) : Int)), (8, .int .i64 ((k : Nat) : Int))] []
  refine T_seq (T_region ?_)
  refine TL_q (.bool (decide (((k : Nat) : Int) < ((l.length : Nat) : Int)))) (fun _ _ hρ _ => r_lss (hρ _ _ rfl) (hρ _ _ rfl)) rfl rfl rfl (w_n rfl) ?_
  refine TL_seq ?_
  refine T_seq ?_
  refine T_cond rfl (fun h1 => ?_) (fun h1 => ?_)
  · replace h1 := of_decide_eq_true h1
    refine T_skip' ?_
    refine p_seq ?_
    refine T_seq ?_
    refine T_block ?_
    refine T_seq (T_region ?_)
    refine TL_q (.int .i64 ((k : Nat) : Int)) (fun _ _ hρ _ => r_move (hρ _ _ rfl)) rfl rfl rfl (w_n rfl) ?_
    refine TL_q (.int .i64 ((k : Nat) : Int)) (fun _ _ hρ _ => r_assign (hρ _ _ rfl)) rfl rfl rfl (w_n rfl) ?_
    refine TL_seq ?_
    obtain ⟨p9, hp9⟩ : ∃ x, l[k]? = some x := ⟨_, List.getElem?_eq_getElem (by omega)⟩
    obtain ⟨b1, of1, cs1, T1, fz1, ha1, hq1, hr1⟩ := hv.open (i := k) (by omega)
    subst ha1
    refine T_seq (T_region ?_)
    refine TL_q (.func (.func g) #[] cp) (fun _ _ hρ _ => r_move (hρ _ _ rfl)) rfl rfl rfl (w_n rfl) ?_
    refine TL_q (.slice (some ⟨b1, of1, none⟩) l.length cap) (fun _ _ hρ _ => r_move (hρ _ _ rfl)) rfl rfl rfl (w_n rfl) ?_
    refine TL_q (.int .i64 ((k : Nat) : Int)) (fun _ _ hρ _ => r_move (hρ _ _ rfl)) rfl rfl rfl (w_n rfl) ?_
    refine TL_q (.pointer (some ⟨b1, of1 + k * 3, none⟩)) (fun _ _ hρ _ => r_indexAddrS (i := k) sl22 sz32 (hρ _ _ rfl) (hρ _ _ rfl) (by omega)) rfl rfl rfl (w_n rfl) ?_
    refine TL_q (.agg #[.int .u64 p9.t, .int .i64 p9.s, .int .u64 p9.q]) (fun _ _ hρ hm => r_loadRow (f := Tid.cells) (u := p9) ag32 sz32 (hρ _ _ rfl) (hm.old hq1) hr1 hp9) rfl rfl rfl (w_n rfl) ?_
    refine TL_call (.bool (φ p9)) (fun _ _ hρ _ => r_call (args := [.agg #[.int .u64 p9.t, .int .i64 p9.s, .int .u64 p9.q]]) hE (hρ _ _ rfl) ((cons2 (hρ _ _ rfl) rfl)) (by simp)) (fun w hm => hto w hm.ext p9 (List.mem_of_getElem? hp9)) rfl rfl rfl (w_n rfl) ?_
    refine TL_seq ?_
    refine T_cond rfl (fun h2 => ?_) (fun h2 => ?_)
    · skip
      refine T_seq (T_region ?_)
      refine TL_q (.int .i64 ((k : Nat) : Int)) (fun _ _ hρ _ => r_move (hρ _ _ rfl)) rfl rfl rfl (w_n rfl) ?_
      refine TL_q (.int .i64 ((k : Nat) : Int)) (fun _ _ hρ _ => r_assign (hρ _ _ rfl)) rfl rfl rfl (w_n rfl) ?_
      refine TL_seq ?_
      refine T_ret' ?_
      refine p_blk_r ?_
      refine p_then_r ?_
      refine p_then_r ?_
      refine p_blk_r ?_
      refine p_then_r ?_
      refine ret_of rfl (.int .i64 ((k : Nat) : Int)) (fun tmps w hk hm => res1 rfl (res_tmp (hk 4 _ rfl))) (fun w hm => ?_)
      exact ⟨by rw [idx_some hp9 hno h2], hm.ext⟩
    · skip
      refine T_skip' ?_
      refine p_blk_n ?_
      refine p_seq ?_
      refine T_region ?_
      refine TL_q (.int .i64 ((k + 1 : Nat) : Int)) (fun _ _ hρ _ => r_as (r_add (hρ _ _ rfl) (hρ _ _ rfl)) (int_as ((wrap64 (by omega) (by omega)).trans (by omega)))) rfl rfl rfl (w_n rfl) ?_
      refine TL_q (.int .i64 ((k + 1 : Nat) : Int)) (fun _ _ hρ _ => r_move (hρ _ _ rfl)) rfl rfl rfl (w_n rfl) ?_
      refine TL_nil ?_
      exact p_at (k + 1) ⟨⟨by omega, no_step hno hp9 h2⟩, by omega⟩ (sub_cons rfl (sub_cons rfl (sub_cons rfl (sub_cons rfl sub_nil)))) sub_nil
  · replace h1 := of_decide_eq_false h1
    refine T_exit' ?_
    refine p_then_x ?_
    refine p_then_x ?_
    refine p_blk_x ?_
    refine p_seq ?_
    refine T_seq (T_region ?_)
    refine TL_q (.int .i64 (-1)) (fun _ _ hρ _ => r_assign (hρ _ _ rfl)) rfl rfl rfl (w_n rfl) ?_
    refine TL_seq ?_
    refine T_ret' ?_
    refine ret_of rfl (.int .i64 (-1)) (fun tmps w hk hm => res1 rfl (res_tmp (hk 4 _ rfl))) (fun w hm => ?_)
    have hke : k = l.length := by omega
    subst hke
    rw [List.take_length] at hno
    exact ⟨by rw [idx_none hno], hm.ext⟩

theorem icon_c (l : List Tid) (a : Option Addr) (cap : Nat) (w : World) (hv : SliceAt w a cap 3 Tid.cells l) (hcap : cap ≤ Go.maxLen) (g : Nat) (cp : Array Value) (hE : Enters Try.prog g) (φ : Tid → Bool) (hto : ∀ w2, Below w.heap.size w w2 → ∀ x ∈ l, Calls Try.prog g (#[x.v] ++ cp) w2 fun e w3 => e = .returned (.bool (φ x)) ∧ Below w2.heap.size w2 w3) : Calls Try.prog 41 #[.slice a l.length cap, .func (.func g) #[] cp] w fun e w' => e = .returned (.bool (l.any φ)) ∧ Below w.heap.size w w' := by
  have hvl := hv.1
  unfold Go.maxLen at hcap
  have hix := ixI_lt φ l
  have hiy := idx_ge φ l
  refine calls_of_T (l := [.slice a l.length cap, .func (.func g) #[] cp]) 9 Try.func41 rfl rfl rfl ?_
  show T _ _ _ [(0, .slice a l.length cap), (1, .func (.func g) #[] cp)] []
  refine T_seq (T_region ?_)
  refine TL_q (.bool false) (fun _ _ hρ _ => r_assign (hρ _ _ rfl)) rfl rfl rfl (w_n rfl) ?_
  refine TL_seq ?_
  refine T_seq (T_region ?_)
  refine TL_q (.slice a l.length cap) (fun _ _ hρ _ => r_move (hρ _ _ rfl)) rfl rfl rfl (w_n rfl) ?_
  refine TL_q (.func (.func g) #[] cp) (fun _ _ hρ _ => r_move (hρ _ _ rfl)) rfl rfl rfl (w_n rfl) ?_
  refine TL_call (.int .i64 (idxI φ l)) (fun _ _ hρ _ => r_call (args := [.slice a l.length cap, .func (.func g) #[] cp]) (enters_of Try.func65 (by kernel_rfl) rfl) (hρ _ _ rfl) ((cons2 (hρ _ _ rfl) (cons2 (hρ _ _ rfl) rfl))) rfl) (fun w hm => iidx_c l a cap w (hv.keep hm.ext) hcap g cp hE φ (fun w2 hb2 x hx => hto w2 (hm.ext.trans (hb2.mono hm.ext.size)) x hx)) rfl rfl rfl (w_n rfl) ?_
  refine TL_q (.bool (decide ((0 : Int) ≤ (idxI φ l)))) (fun _ _ hρ _ => r_geq (hρ _ _ rfl) (hρ _ _ rfl)) rfl rfl rfl (w_n rfl) ?_
  refine TL_q (.bool (decide ((0 : Int) ≤ (idxI φ l)))) (fun _ _ hρ _ => r_assign (hρ _ _ rfl)) rfl rfl rfl (w_n rfl) ?_
  refine TL_seq ?_
  refine T_ret' ?_
  refine ret_of rfl (.bool (decide ((0 : Int) ≤ (idxI φ l)))) (fun tmps w hk hm => res1 rfl (res_tmp (hk 4 _ rfl))) (fun w hm => ?_)
  exact ⟨congrArg Ending.returned (bool_as (idx_any φ l)), hm.ext⟩

theorem isift_c (l : List Tid) (a : Option Addr) (cap : Nat) (w : World) (hv : SliceAt w a cap 3 Tid.cells l) (hcap : cap ≤ Go.maxLen) (g : Nat) (cp : Array Value) (hE : Enters Try.prog g) (φ : Tid → Bool) (hto : ∀ w2, Below w.heap.size w w2 → ∀ x ∈ l, Calls Try.prog g (#[x.v] ++ cp) w2 fun e w3 => e = .returned (.bool (φ x)) ∧ Below w2.heap.size w2 w3) (hlen : l.length ≤ 100000) : Calls Try.prog 42 #[.slice a l.length cap, .func (.func g) #[] cp] w fun e w' => ∃ a' cap', e = .returned (.slice a' (l.filter φ).length cap') ∧ Below w.heap.size w w' ∧ w'.ownsRow w.heap.size 32 3 (.slice a' (l.filter φ).length cap') (l.filter φ).length ((l.filter φ).flatMap Tid.cells) := by
  have hvl := hv.1
  unfold Go.maxLen at hcap
  refine calls_of_T (l := [.slice a l.length cap, .func (.func g) #[] cp]) 23 Try.func42 rfl rfl rfl ?_
  show T _ _ _ [(0, .slice a l.length cap), (1, .func (.func g) #[] cp)] []
  refine T_seq (T_region ?_)
  refine TL_q (.slice none 0 0) (fun _ _ hρ _ => r_assign (hρ _ _ rfl)) rfl rfl rfl (w_n rfl) ?_
  refine TL_seq ?_
  refine T_seq (T_region ?_)
  refine TL_q (.slice none 0 0) (fun _ _ hρ _ => r_assign (hρ _ _ rfl)) rfl rfl rfl (w_n rfl) ?_
  refine TL_seq ?_
  refine T_seq ?_
  refine T_mem (_ :: _) (fun _ hm => hm.nilRow 950 32 3) ?_
  refine T_seq (T_region ?_)
  refine TL_q (.slice a l.length cap) (fun _ _ hρ _ => r_move (hρ _ _ rfl)) rfl rfl rfl (w_n rfl) ?_
  refine TL_q (.int .i64 ((l.length : Nat) : Int)) (fun _ _ hρ _ => r_len sl22 (hρ _ _ rfl)) rfl rfl rfl (w_n rfl) ?_
  refine TL_q (.int .i64 0) (fun _ _ hρ _ => r_move (hρ _ _ rfl)) rfl rfl rfl (w_n rfl) ?_
  refine TL_seq ?_
  refine T_block ?_
  refine T_loop (ι := Nat × List Tid × Option Addr × Nat) (fun (z : Nat × List Tid × Option Addr × Nat) => match z with | (k, os, oa, oc) => k ≤ l.length ∧ os = (l.take k).filter φ) (fun (z : Nat × List Tid × Option Addr × Nat) => match z with | (k, os, oa, oc) => [(1, .func (.func g) #[] cp), (4, .slice none 0 0), (8, .slice a l.length cap), (9, .int .i64 ((l.length : Nat) : Int)), (10, .int .i64 ((k : Nat) : Int)), (5, .slice oa os.length oc)]) (fun (z : Nat × List Tid × Option Addr × Nat) => match z with | (k, os, oa, oc) => [(950, .row (.slice oa os.length oc) 32 3 os.length (os.flatMap Tid.cells))]) (fun (z : Nat × List Tid × Option Addr × Nat) => match z with | (k, os, oa, oc) => l.length - k) (0, [], none, 0) ⟨Nat.zero_le _, rfl⟩ (sub_cons rfl (sub_cons rfl (sub_cons rfl (sub_cons rfl (sub_cons rfl (sub_cons rfl sub_nil)))))) (sub_cons rfl sub_nil) ?_
  rintro ⟨k, os, oa, oc⟩ hp
  obtain ⟨hk, hos⟩ := hp
  have hol : os.length ≤ k := by rw [hos]; exact Nat.le_trans (List.length_filter_le _ _) (by rw [List.length_take]; omega)
  show T _ _ _ [(1, .func (.func g) #[] cp), (4, .slice none 0 0), (8, .slice a l.length cap), (9, .int .i64 ((l.length : Nat) : Int)), (10, .int .i64 ((k : Nat) : Int)), (5, .slice oa os.length oc)] [(950, .row (.slice oa os.length oc) 32 3 os.length (os.flatMap Tid.cells))]
  refine T_seq (T_region ?_)
  refine TL_q (.bool (decide (((k : Nat) : Int) < ((l.length : Nat) : Int)))) (fun _ _ hρ _ => r_lss (hρ _ _ rfl) (hρ _ _ rfl)) rfl rfl rfl (w_n rfl) ?_
  refine TL_seq ?_
  refine T_seq ?_
  refine T_cond rfl (fun h1 => ?_) (fun h1 => ?_)
  · replace h1 := of_decide_eq_true h1
    refine T_skip' ?_
    refine p_seq ?_
    refine T_seq ?_
    refine T_block ?_
    obtain ⟨p9, hp9⟩ : ∃ x, l[k]? = some x := ⟨_, List.getElem?_eq_getElem (by omega)⟩
    obtain ⟨b1, of1, cs1, T1, fz1, ha1, hq1, hr1⟩ := hv.open (i := k) (by omega)
    subst ha1
    refine T_seq (T_region ?_)
    refine TL_q (.pointer (some ⟨b1, of1 + k * 3, none⟩)) (fun _ _ hρ _ => r_indexAddrS (i := k) sl22 sz32 (hρ _ _ rfl) (hρ _ _ rfl) (by omega)) rfl rfl rfl (w_n rfl) ?_
    refine TL_q (.agg #[.int .u64 p9.t, .int .i64 p9.s, .int .u64 p9.q]) (fun _ _ hρ hm => r_loadRow (f := Tid.cells) (u := p9) ag32 sz32 (hρ _ _ rfl) (hm.old hq1) hr1 hp9) rfl rfl rfl (w_n rfl) ?_
    refine TL_new 1 (.cells #[.int .u64 0, .int .i64 0, .int .u64 0] 32) (fun B => .pointer (some ⟨B, 0, none⟩)) (fun _ _ _ _ => r_alloc (v := .agg #[.int .u64 0, .int .i64 0, .int .u64 0]) (by kernel_rfl) rfl) rfl rfl rfl (w_n rfl) ?_
    intro B2
    refine TL_store 1 (.cells #[.int .u64 p9.t, .int .i64 p9.s, .int .u64 p9.q] 32) rfl (fun _ _ hρ hm => r_store sz32 (hρ _ _ rfl) (hρ _ _ rfl) (hm.at 1 rfl) rfl rfl rfl rfl) rfl rfl (w_n rfl) ?_
    refine TL_seq ?_
    by_cases hf9 : φ p9 = true
    · skip
      refine T_seq (T_region ?_)
      refine TL_q (.func (.func g) #[] cp) (fun _ _ hρ _ => r_move (hρ _ _ rfl)) rfl rfl rfl (w_n rfl) ?_
      refine TL_q (.agg #[.int .u64 p9.t, .int .i64 p9.s, .int .u64 p9.q]) (fun _ _ hρ hm => r_loadA ag32 sz32 (hρ _ _ rfl) (hm.at 1 rfl) rfl rfl) rfl rfl rfl (w_n rfl) ?_
      refine TL_call (.bool true) (fun _ _ hρ _ => r_call (args := [.agg #[.int .u64 p9.t, .int .i64 p9.s, .int .u64 p9.q]]) hE (hρ _ _ rfl) ((cons2 (hρ _ _ rfl) rfl)) (by simp)) (fun w hm => (hto w hm.ext p9 (List.mem_of_getElem? hp9)).mono fun _ _ h => ⟨h.1.trans (congrArg Ending.returned (bool_as hf9)), h.2⟩) rfl rfl rfl (w_n rfl) ?_
      refine TL_seq ?_
      refine T_cond_t rfl ?_
      refine T_region ?_
      refine TL_q (.slice oa os.length oc) (fun _ _ hρ _ => r_move (hρ _ _ rfl)) rfl rfl rfl (w_n rfl) ?_
      refine TL_q (.agg #[.int .u64 p9.t, .int .i64 p9.s, .int .u64 p9.q]) (fun _ _ hρ hm => r_loadA ag32 sz32 (hρ _ _ rfl) (hm.at 1 rfl) rfl rfl) rfl rfl rfl (w_n rfl) ?_
      refine TL_new 2 (.cells #[.int .u64 p9.t, .int .i64 p9.s, .int .u64 p9.q] 32) (fun B => .slice (some ⟨B, 0, none⟩) 1 1) (fun _ _ hρ _ => r_buildSlice (vs := [(0, .agg #[.int .u64 p9.t, .int .i64 p9.s, .int .u64 p9.q])]) (by kernel_rfl) (cons2 (pair2 (hρ _ _ rfl)) rfl)) rfl rfl rfl (w_n rfl) ?_
      intro B3
      refine TL_append (n := os.length) (m := 1) (xs := (os.flatMap Tid.cells)) (news := [.int .u64 p9.t, .int .i64 p9.s, .int .u64 p9.q]) (z := .agg #[.int .u64 0, .int .i64 0, .int .u64 0]) 950 rfl rfl rfl sl22 sz32 by32 (by kernel_rfl) rfl rfl (.inl rfl) (fun _ hm => src_blk (news := [.int .u64 p9.t, .int .i64 p9.s, .int .u64 p9.q]) (hm.at 2 rfl) rfl) (by simp [Value.oneCell']) (by omega) (by omega) rfl (w_n rfl) ?_
      intro a4 cap4
      refine TL_q (.slice a4 (os.length + 1) cap4) (fun _ _ hρ _ => r_assign (hρ _ _ rfl)) rfl rfl rfl (w_n rfl) ?_
      refine TL_nil ?_
      refine p_blk_n ?_
      refine p_seq ?_
      refine T_region ?_
      refine TL_q (.int .i64 ((k + 1 : Nat) : Int)) (fun _ _ hρ _ => r_as (r_add (hρ _ _ rfl) (hρ _ _ rfl)) (int_as ((wrap64 (by omega) (by omega)).trans (by omega)))) rfl rfl rfl (w_n rfl) ?_
      refine TL_q (.int .i64 ((k + 1 : Nat) : Int)) (fun _ _ hρ _ => r_move (hρ _ _ rfl)) rfl rfl rfl (w_n rfl) ?_
      refine TL_nil ?_
      have hn5 : (os.length + 1) = (os ++ [p9]).length := by simp
      have hx5 : ((os.flatMap Tid.cells) ++ [.int .u64 p9.t, .int .i64 p9.s, .int .u64 p9.q]) = (os ++ [p9]).flatMap Tid.cells := by simp [Tid.cells]
      rw [hx5, hn5]
      exact p_at (k + 1, os ++ [p9], a4, cap4) ⟨⟨by omega, by rw [sift_t hp9 hf9, ← hos]⟩, by dsimp only; omega⟩ (sub_cons rfl (sub_cons rfl (sub_cons rfl (sub_cons rfl (sub_cons rfl (sub_cons rfl sub_nil)))))) (sub_cons rfl sub_nil)
    · skip
      refine T_seq (T_region ?_)
      refine TL_q (.func (.func g) #[] cp) (fun _ _ hρ _ => r_move (hρ _ _ rfl)) rfl rfl rfl (w_n rfl) ?_
      refine TL_q (.agg #[.int .u64 p9.t, .int .i64 p9.s, .int .u64 p9.q]) (fun _ _ hρ hm => r_loadA ag32 sz32 (hρ _ _ rfl) (hm.at 1 rfl) rfl rfl) rfl rfl rfl (w_n rfl) ?_
      refine TL_call (.bool false) (fun _ _ hρ _ => r_call (args := [.agg #[.int .u64 p9.t, .int .i64 p9.s, .int .u64 p9.q]]) hE (hρ _ _ rfl) ((cons2 (hρ _ _ rfl) rfl)) (by simp)) (fun w hm => (hto w hm.ext p9 (List.mem_of_getElem? hp9)).mono fun _ _ h => ⟨h.1.trans (congrArg Ending.returned (bool_as (eq_false_of_ne_true hf9))), h.2⟩) rfl rfl rfl (w_n rfl) ?_
      refine TL_seq ?_
      refine T_cond_f rfl ?_
      refine T_skip' ?_
      refine p_blk_n ?_
      refine p_seq ?_
      refine T_region ?_
      refine TL_q (.int .i64 ((k + 1 : Nat) : Int)) (fun _ _ hρ _ => r_as (r_add (hρ _ _ rfl) (hρ _ _ rfl)) (int_as ((wrap64 (by omega) (by omega)).trans (by omega)))) rfl rfl rfl (w_n rfl) ?_
      refine TL_q (.int .i64 ((k + 1 : Nat) : Int)) (fun _ _ hρ _ => r_move (hρ _ _ rfl)) rfl rfl rfl (w_n rfl) ?_
      refine TL_nil ?_
      exact p_at (k + 1, os, oa, oc) ⟨⟨by omega, by rw [sift_f hp9 (eq_false_of_ne_true hf9)]; exact hos⟩, by dsimp only; omega⟩ (sub_cons rfl (sub_cons rfl (sub_cons rfl (sub_cons rfl (sub_cons rfl (sub_cons rfl sub_nil)))))) (sub_cons rfl sub_nil)
  · replace h1 := of_decide_eq_false h1
    refine T_exit' ?_
    refine p_then_x ?_
    refine p_then_x ?_
    refine p_blk_x ?_
    refine p_seq ?_
    refine T_seq (T_region ?_)
    refine TL_q (.slice oa os.length oc) (fun _ _ hρ _ => r_move (hρ _ _ rfl)) rfl rfl rfl (w_n rfl) ?_
    refine TL_q (.slice oa os.length oc) (fun _ _ hρ _ => r_assign (hρ _ _ rfl)) rfl rfl rfl (w_n rfl) ?_
    refine TL_seq ?_
    refine T_ret' ?_
    refine ret_of rfl (.slice oa os.length oc) (fun tmps w hk hm => res1 rfl (res_tmp (hk 4 _ rfl))) (fun w hm => ?_)
    have hke : k = l.length := by omega
    subst hke
    rw [List.take_length] at hos
    subst hos
    exact ⟨oa, oc, rfl, hm.ext, hm.row 950 rfl⟩

theorem midx_c (ms : List Mk) (a : Option Addr) (cap : Nat) (w : World) (hv : SliceAt w a cap 4 Mk.cells ms) (hcap : cap ≤ Go.maxLen) (g : Nat) (cp : Array Value) (hE : Enters Try.prog g) (φ : Mk → Bool) (hto : ∀ w2, Below w.heap.size w w2 → ∀ x ∈ ms, Calls Try.prog g (#[x.v] ++ cp) w2 fun e w3 => e = .returned (.bool (φ x)) ∧ Below w2.heap.size w2 w3) : Calls Try.prog 70 #[.slice a ms.length cap, .func (.func g) #[] cp] w fun e w' => e = .returned (.int .i64 (idxI φ ms)) ∧ Below w.heap.size w w' := by
  have hvl := hv.1
  unfold Go.maxLen at hcap
  refine calls_of_T (l := [.slice a ms.length cap, .func (.func g) #[] cp]) 19 Try.func70 rfl rfl rfl ?_
  show T _ _ _ [(0, .slice a ms.length cap), (1, .func (.func g) #[] cp)] []
  refine T_seq (T_region ?_)
  refine TL_q (.int .i64 0) (fun _ _ hρ _ => r_assign (hρ _ _ rfl)) rfl rfl rfl (w_n rfl) ?_
  refine TL_seq ?_
  refine T_seq ?_
  refine T_seq (T_region ?_)
  refine TL_q (.slice a ms.length cap) (fun _ _ hρ _ => r_move (hρ _ _ rfl)) rfl rfl rfl (w_n rfl) ?_
  refine TL_q (.int .i64 ((ms.length : Nat) : Int)) (fun _ _ hρ _ => r_len sl24 (hρ _ _ rfl)) rfl rfl rfl (w_n rfl) ?_
  refine TL_q (.int .i64 0) (fun _ _ hρ _ => r_move (hρ _ _ rfl)) rfl rfl rfl (w_n rfl) ?_
  refine TL_seq ?_
  refine T_block ?_
  refine T_loop (ι := Nat) (fun (k : Nat) => k ≤ ms.length ∧ ∀ x ∈ ms.take k, φ x = false) (fun (k : Nat) => [(0, .slice a ms.length cap), (1, .func (.func g) #[] cp), (7, .int .i64 ((ms.length : Nat) : Int)), (8, .int .i64 ((k : Nat) : Int))]) (fun (k : Nat) => []) (fun (k : Nat) => ms.length - k) 0 ⟨Nat.zero_le _, fun _ h => nomatch h⟩ (sub_cons rfl (sub_cons rfl (sub_cons rfl (sub_cons rfl sub_nil)))) sub_nil ?_
  rintro k hp
  obtain ⟨hk, hno⟩ := hp
  show T _ _ _ [(0, .slice a ms.length cap), (1, .func (.func g) #[] cp), (7, .int .i64 ((ms.length : Nat) : Int)), (8, .int .i64 ((k : Nat) : Int))] []
  refine T_seq (T_region ?_)
  refine TL_q (.bool (decide (((k : Nat) : Int) < ((ms.length : Nat) : Int)))) (fun _ _ hρ _ => r_lss (hρ _ _ rfl) (hρ _ _ rfl)) rfl rfl rfl (w_n rfl) ?_
  refine TL_seq ?_
  refine T_seq ?_
  refine T_cond rfl (fun h1 => ?_) (fun h1 => ?_)
  · replace h1 := of_decide_eq_true h1
    refine T_skip' ?_
    refine p_seq ?_
    refine T_seq ?_
    refine T_block ?_
    refine T_seq (T_region ?_)
    refine TL_q (.int .i64 ((k : Nat) : Int)) (fun _ _ hρ _ => r_move (hρ _ _ rfl)) rfl rfl rfl (w_n rfl) ?_
    refine TL_q (.int .i64 ((k : Nat) : Int)) (fun _ _ hρ _ => r_assign (hρ _ _ rfl)) rfl rfl rfl (w_n rfl) ?_
    refine TL_seq ?_
    obtain ⟨p9, hp9⟩ : ∃ x, ms[k]? = some x := ⟨_, List.getElem?_eq_getElem (by omega)⟩
    obtain ⟨b1, of1, cs1, T1, fz1, ha1, hq1, hr1⟩ := hv.open (i := k) (by omega)
    subst ha1
    refine T_seq (T_region ?_)
    refine TL_q (.func (.func g) #[] cp) (fun _ _ hρ _ => r_move (hρ _ _ rfl)) rfl rfl rfl (w_n rfl) ?_
    refine TL_q (.slice (some ⟨b1, of1, none⟩) ms.length cap) (fun _ _ hρ _ => r_move (hρ _ _ rfl)) rfl rfl rfl (w_n rfl) ?_
    refine TL_q (.int .i64 ((k : Nat) : Int)) (fun _ _ hρ _ => r_move (hρ _ _ rfl)) rfl rfl rfl (w_n rfl) ?_
    refine TL_q (.pointer (some ⟨b1, of1 + k * 4, none⟩)) (fun _ _ hρ _ => r_indexAddrS (i := k) sl24 sz36 (hρ _ _ rfl) (hρ _ _ rfl) (by omega)) rfl rfl rfl (w_n rfl) ?_
    refine TL_q (.agg #[.int .u64 p9.i.t, .int .i64 p9.i.s, .int .u64 p9.i.q, .pointer p9.ptr]) (fun _ _ hρ hm => r_loadRow (f := Mk.cells) (u := p9) ag36 sz36 (hρ _ _ rfl) (hm.old hq1) hr1 hp9) rfl rfl rfl (w_n rfl) ?_
    refine TL_call (.bool (φ p9)) (fun _ _ hρ _ => r_call (args := [.agg #[.int .u64 p9.i.t, .int .i64 p9.i.s, .int .u64 p9.i.q, .pointer p9.ptr]]) hE (hρ _ _ rfl) ((cons2 (hρ _ _ rfl) rfl)) (by simp)) (fun w hm => hto w hm.ext p9 (List.mem_of_getElem? hp9)) rfl rfl rfl (w_n rfl) ?_
    refine TL_seq ?_
    refine T_cond rfl (fun h2 => ?_) (fun h2 => ?_)
    · skip
      refine T_seq (T_region ?_)
      refine TL_q (.int .i64 ((k : Nat) : Int)) (fun _ _ hρ _ => r_move (hρ _ _ rfl)) rfl rfl rfl (w_n rfl) ?_
      refine TL_q (.int .i64 ((k : Nat) : Int)) (fun _ _ hρ _ => r_assign (hρ _ _ rfl)) rfl rfl rfl (w_n rfl) ?_
      refine TL_seq ?_
      refine T_ret' ?_
      refine p_blk_r ?_
      refine p_then_r ?_
      refine p_then_r ?_
      refine p_blk_r ?_
      refine p_then_r ?_
      refine ret_of rfl (.int .i64 ((k : Nat) : Int)) (fun tmps w hk hm => res1 rfl (res_tmp (hk 4 _ rfl))) (fun w hm => ?_)
      exact ⟨by rw [idx_some hp9 hno h2], hm.ext⟩
    · skip
      refine T_skip' ?_
      refine p_blk_n ?_
      refine p_seq ?_
      refine T_region ?_
      refine TL_q (.int .i64 ((k + 1 : Nat) : Int)) (fun _ _ hρ _ => r_as (r_add (hρ _ _ rfl) (hρ _ _ rfl)) (int_as ((wrap64 (by omega) (by omega)).trans (by omega)))) rfl rfl rfl (w_n rfl) ?_
      refine TL_q (.int .i64 ((k + 1 : Nat) : Int)) (fun _ _ hρ _ => r_move (hρ _ _ rfl)) rfl rfl rfl (w_n rfl) ?_
      refine TL_nil ?_
      exact p_at (k + 1) ⟨⟨by omega, no_step hno hp9 h2⟩, by omega⟩ (sub_cons rfl (sub_cons rfl (sub_cons rfl (sub_cons rfl sub_nil)))) sub_nil
  · replace h1 := of_decide_eq_false h1
    refine T_exit' ?_
    refine p_then_x ?_
    refine p_then_x ?_
    refine p_blk_x ?_
    refine p_seq ?_
    refine T_seq (T_region ?_)
    refine TL_q (.int .i64 (-1)) (fun _ _ hρ _ => r_assign (hρ _ _ rfl)) rfl rfl rfl (w_n rfl) ?_
    refine TL_seq ?_
    refine T_ret' ?_
    refine ret_of rfl (.int .i64 (-1)) (fun tmps w hk hm => res1 rfl (res_tmp (hk 4 _ rfl))) (fun w hm => ?_)
    have hke : k = ms.length := by omega
    subst hke
    rw [List.take_length] at hno
    exact ⟨by rw [idx_none hno], hm.ext⟩

theorem mcon_c (ms : List Mk) (a : Option Addr) (cap : Nat) (w : World) (hv : SliceAt w a cap 4 Mk.cells ms) (hcap : cap ≤ Go.maxLen) (g : Nat) (cp : Array Value) (hE : Enters Try.prog g) (φ : Mk → Bool) (hto : ∀ w2, Below w.heap.size w w2 → ∀ x ∈ ms, Calls Try.prog g (#[x.v] ++ cp) w2 fun e w3 => e = .returned (.bool (φ x)) ∧ Below w2.heap.size w2 w3) : Calls Try.prog 51 #[.slice a ms.length cap, .func (.func g) #[] cp] w fun e w' => e = .returned (.bool (ms.any φ)) ∧ Below w.heap.size w w' := by
  have hvl := hv.1
  unfold Go.maxLen at hcap
  have hix := ixI_lt φ ms
  have hiy := idx_ge φ ms
  refine calls_of_T (l := [.slice a ms.length cap, .func (.func g) #[] cp]) 9 Try.func51 rfl rfl rfl ?_
  show T _ _ _ [(0, .slice a ms.length cap), (1, .func (.func g) #[] cp)] []
  refine T_seq (T_region ?_)
  refine TL_q (.bool false) (fun _ _ hρ _ => r_assign (hρ _ _ rfl)) rfl rfl rfl (w_n rfl) ?_
  refine TL_seq ?_
  refine T_seq (T_region ?_)
  refine TL_q (.slice a ms.length cap) (fun _ _ hρ _ => r_move (hρ _ _ rfl)) rfl rfl rfl (w_n rfl) ?_
  refine TL_q (.func (.func g) #[] cp) (fun _ _ hρ _ => r_move (hρ _ _ rfl)) rfl rfl rfl (w_n rfl) ?_
  refine TL_call (.int .i64 (idxI φ ms)) (fun _ _ hρ _ => r_call (args := [.slice a ms.length cap, .func (.func g) #[] cp]) (enters_of Try.func70 (by kernel_rfl) rfl) (hρ _ _ rfl) ((cons2 (hρ _ _ rfl) (cons2 (hρ _ _ rfl) rfl))) rfl) (fun w hm => midx_c ms a cap w (hv.keep hm.ext) hcap g cp hE φ (fun w2 hb2 x hx => hto w2 (hm.ext.trans (hb2.mono hm.ext.size)) x hx)) rfl rfl rfl (w_n rfl) ?_
  refine TL_q (.bool (decide ((0 : Int) ≤ (idxI φ ms)))) (fun _ _ hρ _ => r_geq (hρ _ _ rfl) (hρ _ _ rfl)) rfl rfl rfl (w_n rfl) ?_
  refine TL_q (.bool (decide ((0 : Int) ≤ (idxI φ ms)))) (fun _ _ hρ _ => r_assign (hρ _ _ rfl)) rfl rfl rfl (w_n rfl) ?_
  refine TL_seq ?_
  refine T_ret' ?_
  refine ret_of rfl (.bool (decide ((0 : Int) ≤ (idxI φ ms)))) (fun tmps w hk hm => res1 rfl (res_tmp (hk 4 _ rfl))) (fun w hm => ?_)
  exact ⟨congrArg Ending.returned (bool_as (idx_any φ ms)), hm.ext⟩

theorem msift_c (ms : List Mk) (a : Option Addr) (cap : Nat) (w : World) (hv : SliceAt w a cap 4 Mk.cells ms) (hcap : cap ≤ Go.maxLen) (g : Nat) (cp : Array Value) (hE : Enters Try.prog g) (φ : Mk → Bool) (hto : ∀ w2, Below w.heap.size w w2 → ∀ x ∈ ms, Calls Try.prog g (#[x.v] ++ cp) w2 fun e w3 => e = .returned (.bool (φ x)) ∧ Below w2.heap.size w2 w3) (hlen : ms.length ≤ 100000) : Calls Try.prog 60 #[.slice a ms.length cap, .func (.func g) #[] cp] w fun e w' => ∃ a' cap', e = .returned (.slice a' (ms.filter φ).length cap') ∧ Below w.heap.size w w' ∧ w'.ownsRow w.heap.size 36 4 (.slice a' (ms.filter φ).length cap') (ms.filter φ).length ((ms.filter φ).flatMap Mk.cells) := by
  have hvl := hv.1
  unfold Go.maxLen at hcap
  refine calls_of_T (l := [.slice a ms.length cap, .func (.func g) #[] cp]) 23 Try.func60 rfl rfl rfl ?_
  show T _ _ _ [(0, .slice a ms.length cap), (1, .func (.func g) #[] cp)] []
  refine T_seq (T_region ?_)
  refine TL_q (.slice none 0 0) (fun _ _ hρ _ => r_assign (hρ _ _ rfl)) rfl rfl rfl (w_n rfl) ?_
  refine TL_seq ?_
  refine T_seq (T_region ?_)
  refine TL_q (.slice none 0 0) (fun _ _ hρ _ => r_assign (hρ _ _ rfl)) rfl rfl rfl (w_n rfl) ?_
  refine TL_seq ?_
  refine T_seq ?_
  refine T_mem (_ :: _) (fun _ hm => hm.nilRow 950 36 4) ?_
  refine T_seq (T_region ?_)
  refine TL_q (.slice a ms.length cap) (fun _ _ hρ _ => r_move (hρ _ _ rfl)) rfl rfl rfl (w_n rfl) ?_
  refine TL_q (.int .i64 ((ms.length : Nat) : Int)) (fun _ _ hρ _ => r_len sl24 (hρ _ _ rfl)) rfl rfl rfl (w_n rfl) ?_
  refine TL_q (.int .i64 0) (fun _ _ hρ _ => r_move (hρ _ _ rfl)) rfl rfl rfl (w_n rfl) ?_
  refine TL_seq ?_
  refine T_block ?_
  refine T_loop (ι := Nat × List Mk × Option Addr × Nat) (fun (z : Nat × List Mk × Option Addr × Nat) => match z with | (k, os, oa, oc) => k ≤ ms.length ∧ os = (ms.take k).filter φ) (fun (z : Nat × List Mk × Option Addr × Nat) => match z with | (k, os, oa, oc) => [(1, .func (.func g) #[] cp), (4, .slice none 0 0), (8, .slice a ms.length cap), (9, .int .i64 ((ms.length : Nat) : Int)), (10, .int .i64 ((k : Nat) : Int)), (5, .slice oa os.length oc)]) (fun (z : Nat × List Mk × Option Addr × Nat) => match z with | (k, os, oa, oc) => [(950, .row (.slice oa os.length oc) 36 4 os.length (os.flatMap Mk.cells))]) (fun (z : Nat × List Mk × Option Addr × Nat) => match z with | (k, os, oa, oc) => ms.length - k) (0, [], none, 0) ⟨Nat.zero_le _, rfl⟩ (sub_cons rfl (sub_cons rfl (sub_cons rfl (sub_cons rfl (sub_cons rfl (sub_cons rfl sub_nil)))))) (sub_cons rfl sub_nil) ?_
  rintro ⟨k, os, oa, oc⟩ hp
  obtain ⟨hk, hos⟩ := hp
  have hol : os.length ≤ k := by rw [hos]; exact Nat.le_trans (List.length_filter_le _ _) (by rw [List.length_take]; omega)
  show T _ _ _ [(1, .func (.func g) #[] cp), (4, .slice none 0 0), (8, .slice a ms.length cap), (9, .int .i64 ((ms.length : Nat) : Int)), (10, .int .i64 ((k : Nat) : Int)), (5, .slice oa os.length oc)] [(950, .row (.slice oa os.length oc) 36 4 os.length (os.flatMap Mk.cells))]
  refine T_seq (T_region ?_)
  refine TL_q (.bool (decide (((k : Nat) : Int) < ((ms.length : Nat) : Int)))) (fun _ _ hρ _ => r_lss (hρ _ _ rfl) (hρ _ _ rfl)) rfl rfl rfl (w_n rfl) ?_
  refine TL_seq ?_
  refine T_seq ?_
  refine T_cond rfl (fun h1 => ?_) (fun h1 => ?_)
  · replace h1 := of_decide_eq_true h1
    refine T_skip' ?_
    refine p_seq ?_
    refine T_seq ?_
    refine T_block ?_
    obtain ⟨p9, hp9⟩ : ∃ x, ms[k]? = some x := ⟨_, List.getElem?_eq_getElem (by omega)⟩
    obtain ⟨b1, of1, cs1, T1, fz1, ha1, hq1, hr1⟩ := hv.open (i := k) (by omega)
    subst ha1
    refine T_seq (T_region ?_)
    refine TL_q (.pointer (some ⟨b1, of1 + k * 4, none⟩)) (fun _ _ hρ _ => r_indexAddrS (i := k) sl24 sz36 (hρ _ _ rfl) (hρ _ _ rfl) (by omega)) rfl rfl rfl (w_n rfl) ?_
    refine TL_q (.agg #[.int .u64 p9.i.t, .int .i64 p9.i.s, .int .u64 p9.i.q, .pointer p9.ptr]) (fun _ _ hρ hm => r_loadRow (f := Mk.cells) (u := p9) ag36 sz36 (hρ _ _ rfl) (hm.old hq1) hr1 hp9) rfl rfl rfl (w_n rfl) ?_
    refine TL_new 1 (.cells #[.int .u64 0, .int .i64 0, .int .u64 0, .pointer none] 36) (fun B => .pointer (some ⟨B, 0, none⟩)) (fun _ _ _ _ => r_alloc (v := .agg #[.int .u64 0, .int .i64 0, .int .u64 0, .pointer none]) (by kernel_rfl) rfl) rfl rfl rfl (w_n rfl) ?_
    intro B2
    refine TL_store 1 (.cells #[.int .u64 p9.i.t, .int .i64 p9.i.s, .int .u64 p9.i.q, .pointer p9.ptr] 36) rfl (fun _ _ hρ hm => r_store sz36 (hρ _ _ rfl) (hρ _ _ rfl) (hm.at 1 rfl) rfl rfl rfl rfl) rfl rfl (w_n rfl) ?_
    refine TL_seq ?_
    by_cases hf9 : φ p9 = true
    · skip
      refine T_seq (T_region ?_)
      refine TL_q (.func (.func g) #[] cp) (fun _ _ hρ _ => r_move (hρ _ _ rfl)) rfl rfl rfl (w_n rfl) ?_
      refine TL_q (.agg #[.int .u64 p9.i.t, .int .i64 p9.i.s, .int .u64 p9.i.q, .pointer p9.ptr]) (fun _ _ hρ hm => r_loadA ag36 sz36 (hρ _ _ rfl) (hm.at 1 rfl) rfl rfl) rfl rfl rfl (w_n rfl) ?_
      refine TL_call (.bool true) (fun _ _ hρ _ => r_call (args := [.agg #[.int .u64 p9.i.t, .int .i64 p9.i.s, .int .u64 p9.i.q, .pointer p9.ptr]]) hE (hρ _ _ rfl) ((cons2 (hρ _ _ rfl) rfl)) (by simp)) (fun w hm => (hto w hm.ext p9 (List.mem_of_getElem? hp9)).mono fun _ _ h => ⟨h.1.trans (congrArg Ending.returned (bool_as hf9)), h.2⟩) rfl rfl rfl (w_n rfl) ?_
      refine TL_seq ?_
      refine T_cond_t rfl ?_
      refine T_region ?_
      refine TL_q (.slice oa os.length oc) (fun _ _ hρ _ => r_move (hρ _ _ rfl)) rfl rfl rfl (w_n rfl) ?_
      refine TL_q (.agg #[.int .u64 p9.i.t, .int .i64 p9.i.s, .int .u64 p9.i.q, .pointer p9.ptr]) (fun _ _ hρ hm => r_loadA ag36 sz36 (hρ _ _ rfl) (hm.at 1 rfl) rfl rfl) rfl rfl rfl (w_n rfl) ?_
      refine TL_new 2 (.cells #[.int .u64 p9.i.t, .int .i64 p9.i.s, .int .u64 p9.i.q, .pointer p9.ptr] 36) (fun B => .slice (some ⟨B, 0, none⟩) 1 1) (fun _ _ hρ _ => r_buildSlice (vs := [(0, .agg #[.int .u64 p9.i.t, .int .i64 p9.i.s, .int .u64 p9.i.q, .pointer p9.ptr])]) (by kernel_rfl) (cons2 (pair2 (hρ _ _ rfl)) rfl)) rfl rfl rfl (w_n rfl) ?_
      intro B3
      refine TL_append (n := os.length) (m := 1) (xs := (os.flatMap Mk.cells)) (news := [.int .u64 p9.i.t, .int .i64 p9.i.s, .int .u64 p9.i.q, .pointer p9.ptr]) (z := .agg #[.int .u64 0, .int .i64 0, .int .u64 0, .pointer none]) 950 rfl rfl rfl sl24 sz36 by36 (by kernel_rfl) rfl rfl (.inl rfl) (fun _ hm => src_blk (news := [.int .u64 p9.i.t, .int .i64 p9.i.s, .int .u64 p9.i.q, .pointer p9.ptr]) (hm.at 2 rfl) rfl) (by simp [Value.oneCell']) (by omega) (by omega) rfl (w_n rfl) ?_
      intro a4 cap4
      refine TL_q (.slice a4 (os.length + 1) cap4) (fun _ _ hρ _ => r_assign (hρ _ _ rfl)) rfl rfl rfl (w_n rfl) ?_
      refine TL_nil ?_
      refine p_blk_n ?_
      refine p_seq ?_
      refine T_region ?_
      refine TL_q (.int .i64 ((k + 1 : Nat) : Int)) (fun _ _ hρ _ => r_as (r_add (hρ _ _ rfl) (hρ _ _ rfl)) (int_as ((wrap64 (by omega) (by omega)).trans (by omega)))) rfl rfl rfl (w_n rfl) ?_
      refine TL_q (.int .i64 ((k + 1 : Nat) : Int)) (fun _ _ hρ _ => r_move (hρ _ _ rfl)) rfl rfl rfl (w_n rfl) ?_
      refine TL_nil ?_
      have hn5 : (os.length + 1) = (os ++ [p9]).length := by simp
      have hx5 : ((os.flatMap Mk.cells) ++ [.int .u64 p9.i.t, .int .i64 p9.i.s, .int .u64 p9.i.q, .pointer p9.ptr]) = (os ++ [p9]).flatMap Mk.cells := by simp [Mk.cells]
      rw [hx5, hn5]
      exact p_at (k + 1, os ++ [p9], a4, cap4) ⟨⟨by omega, by rw [sift_t hp9 hf9, ← hos]⟩, by dsimp only; omega⟩ (sub_cons rfl (sub_cons rfl (sub_cons rfl (sub_cons rfl (sub_cons rfl (sub_cons rfl sub_nil)))))) (sub_cons rfl sub_nil)
    · skip
      refine T_seq (T_region ?_)
      refine TL_q (.func (.func g) #[] cp) (fun _ _ hρ _ => r_move (hρ _ _ rfl)) rfl rfl rfl (w_n rfl) ?_
      refine TL_q (.agg #[.int .u64 p9.i.t, .int .i64 p9.i.s, .int .u64 p9.i.q, .pointer p9.ptr]) (fun _ _ hρ hm => r_loadA ag36 sz36 (hρ _ _ rfl) (hm.at 1 rfl) rfl rfl) rfl rfl rfl (w_n rfl) ?_
      refine TL_call (.bool false) (fun _ _ hρ _ => r_call (args := [.agg #[.int .u64 p9.i.t, .int .i64 p9.i.s, .int .u64 p9.i.q, .pointer p9.ptr]]) hE (hρ _ _ rfl) ((cons2 (hρ _ _ rfl) rfl)) (by simp)) (fun w hm => (hto w hm.ext p9 (List.mem_of_getElem? hp9)).mono fun _ _ h => ⟨h.1.trans (congrArg Ending.returned (bool_as (eq_false_of_ne_true hf9))), h.2⟩) rfl rfl rfl (w_n rfl) ?_
      refine TL_seq ?_
      refine T_cond_f rfl ?_
      refine T_skip' ?_
      refine p_blk_n ?_
      refine p_seq ?_
      refine T_region ?_
      refine TL_q (.int .i64 ((k + 1 : Nat) : Int)) (fun _ _ hρ _ => r_as (r_add (hρ _ _ rfl) (hρ _ _ rfl)) (int_as ((wrap64 (by omega) (by omega)).trans (by omega)))) rfl rfl rfl (w_n rfl) ?_
      refine TL_q (.int .i64 ((k + 1 : Nat) : Int)) (fun _ _ hρ _ => r_move (hρ _ _ rfl)) rfl rfl rfl (w_n rfl) ?_
      refine TL_nil ?_
      exact p_at (k + 1, os, oa, oc) ⟨⟨by omega, by rw [sift_f hp9 (eq_false_of_ne_true hf9)]; exact hos⟩, by dsimp only; omega⟩ (sub_cons rfl (sub_cons rfl (sub_cons rfl (sub_cons rfl (sub_cons rfl (sub_cons rfl sub_nil)))))) (sub_cons rfl sub_nil)
  · replace h1 := of_decide_eq_false h1
    refine T_exit' ?_
    refine p_then_x ?_
    refine p_then_x ?_
    refine p_blk_x ?_
    refine p_seq ?_
    refine T_seq (T_region ?_)
    refine TL_q (.slice oa os.length oc) (fun _ _ hρ _ => r_move (hρ _ _ rfl)) rfl rfl rfl (w_n rfl) ?_
    refine TL_q (.slice oa os.length oc) (fun _ _ hρ _ => r_assign (hρ _ _ rfl)) rfl rfl rfl (w_n rfl) ?_
    refine TL_seq ?_
    refine T_ret' ?_
    refine ret_of rfl (.slice oa os.length oc) (fun tmps w hk hm => res1 rfl (res_tmp (hk 4 _ rfl))) (fun w hm => ?_)
    have hke : k = ms.length := by omega
    subst hke
    rw [List.take_length] at hos
    subst hos
    exact ⟨oa, oc, rfl, hm.ext, hm.row 950 rfl⟩
end Go.Proofs.Ytmihoejecpcmjaa
/- net and journal: Marks gone through. Printed by a program of this seat's prover. -/
namespace Go.Proofs.Ytmihoejecpcmjaa
open Go Go.RowKit
set_option maxRecDepth 10000
theorem due1_c (i : Tid) (w : World) : Calls Try.prog 40 #[i.v] w fun e w' => e = .returned (.bool (!okI i)) ∧ Below w.heap.size w w' := by
  refine calls_of_T (l := [.agg #[.int .u64 i.t, .int .i64 i.s, .int .u64 i.q]]) 6 Try.func40 rfl rfl rfl ?_
  show T _ _ _ [(0, .agg #[.int .u64 i.t, .int .i64 i.s, .int .u64 i.q])] []
  refine T_seq (T_region ?_)
  refine TL_new 1 (.cells #[.int .u64 i.t, .int .i64 i.s, .int .u64 i.q] 32) (fun B => .pointer (some ⟨B, 0, none⟩)) (fun _ _ hρ _ => r_box (hρ _ _ rfl) rfl) rfl rfl rfl (w_n rfl) ?_
  intro B1
  refine TL_q (.bool false) (fun _ _ hρ _ => r_assign (hρ _ _ rfl)) rfl rfl rfl (w_n rfl) ?_
  refine TL_seq ?_
  by_cases ho : okI i = true
  · skip
    refine T_seq (T_region ?_)
    refine TL_q (.agg #[.int .u64 i.t, .int .i64 i.s, .int .u64 i.q]) (fun _ _ hρ hm => r_loadA ag32 sz32 (hρ _ _ rfl) (hm.at 1 rfl) rfl rfl) rfl rfl rfl (w_n rfl) ?_
    refine TL_call (.int .i64 0) (fun _ _ hρ _ => r_call (args := [.agg #[.int .u64 i.t, .int .i64 i.s, .int .u64 i.q]]) (enters_of Try.func16 (by kernel_rfl) rfl) (hρ _ _ rfl) ((cons2 (hρ _ _ rfl) rfl)) rfl) (fun w _ => (icheck_c i w).mono fun _ _ h => ⟨h.1.trans (congrArg Ending.returned (int_as (if_pos ho))), h.2⟩) rfl rfl rfl (w_n rfl) ?_
    refine TL_q (.bool false) (fun _ _ hρ _ => r_as (r_neq (hρ _ _ rfl) (hρ _ _ rfl)) (by rfl)) rfl rfl rfl (w_n rfl) ?_
    refine TL_q (.bool false) (fun _ _ hρ _ => r_assign (hρ _ _ rfl)) rfl rfl rfl (w_n rfl) ?_
    refine TL_seq ?_
    refine T_ret' ?_
    refine ret_of rfl (.bool false) (fun tmps w hk hm => res1 rfl (res_tmp (hk 2 _ rfl))) (fun w hm => ?_)
    exact ⟨by rw [ho]; rfl, hm.ext⟩
  · skip
    refine T_seq (T_region ?_)
    refine TL_q (.agg #[.int .u64 i.t, .int .i64 i.s, .int .u64 i.q]) (fun _ _ hρ hm => r_loadA ag32 sz32 (hρ _ _ rfl) (hm.at 1 rfl) rfl rfl) rfl rfl rfl (w_n rfl) ?_
    refine TL_call (.int .i64 210) (fun _ _ hρ _ => r_call (args := [.agg #[.int .u64 i.t, .int .i64 i.s, .int .u64 i.q]]) (enters_of Try.func16 (by kernel_rfl) rfl) (hρ _ _ rfl) ((cons2 (hρ _ _ rfl) rfl)) rfl) (fun w _ => (icheck_c i w).mono fun _ _ h => ⟨h.1.trans (congrArg Ending.returned (int_as (if_neg ho))), h.2⟩) rfl rfl rfl (w_n rfl) ?_
    refine TL_q (.bool true) (fun _ _ hρ _ => r_as (r_neq (hρ _ _ rfl) (hρ _ _ rfl)) (by rfl)) rfl rfl rfl (w_n rfl) ?_
    refine TL_q (.bool true) (fun _ _ hρ _ => r_assign (hρ _ _ rfl)) rfl rfl rfl (w_n rfl) ?_
    refine TL_seq ?_
    refine T_ret' ?_
    refine ret_of rfl (.bool true) (fun tmps w hk hm => res1 rfl (res_tmp (hk 2 _ rfl))) (fun w hm => ?_)
    exact ⟨by rw [eq_false_of_ne_true ho]; rfl, hm.ext⟩

theorem put1_c (m : Mk) (w : World) : Calls Try.prog 52 #[m.v] w fun e w' => e = .returned (.bool (!okM m)) ∧ Below w.heap.size w w' := by
  refine calls_of_T (l := [.agg #[.int .u64 m.i.t, .int .i64 m.i.s, .int .u64 m.i.q, .pointer m.ptr]]) 6 Try.func52 rfl rfl rfl ?_
  show T _ _ _ [(0, .agg #[.int .u64 m.i.t, .int .i64 m.i.s, .int .u64 m.i.q, .pointer m.ptr])] []
  refine T_seq (T_region ?_)
  refine TL_new 1 (.cells #[.int .u64 m.i.t, .int .i64 m.i.s, .int .u64 m.i.q, .pointer m.ptr] 36) (fun B => .pointer (some ⟨B, 0, none⟩)) (fun _ _ hρ _ => r_box (hρ _ _ rfl) rfl) rfl rfl rfl (w_n rfl) ?_
  intro B1
  refine TL_q (.bool false) (fun _ _ hρ _ => r_assign (hρ _ _ rfl)) rfl rfl rfl (w_n rfl) ?_
  refine TL_seq ?_
  by_cases ho : okM m = true
  · skip
    refine T_seq (T_region ?_)
    refine TL_q (.agg #[.int .u64 m.i.t, .int .i64 m.i.s, .int .u64 m.i.q, .pointer m.ptr]) (fun _ _ hρ hm => r_loadA ag36 sz36 (hρ _ _ rfl) (hm.at 1 rfl) rfl rfl) rfl rfl rfl (w_n rfl) ?_
    refine TL_call (.bool true) (fun _ _ hρ _ => r_call (args := [.agg #[.int .u64 m.i.t, .int .i64 m.i.s, .int .u64 m.i.q, .pointer m.ptr]]) (enters_of Try.func45 (by kernel_rfl) rfl) (hρ _ _ rfl) ((cons2 (hρ _ _ rfl) rfl)) rfl) (fun w _ => (right_c m w).mono fun _ _ h => ⟨h.1.trans (congrArg Ending.returned (bool_as ho)), h.2⟩) rfl rfl rfl (w_n rfl) ?_
    refine TL_q (.bool false) (fun _ _ hρ _ => r_not (b := true) (hρ _ _ rfl)) rfl rfl rfl (w_n rfl) ?_
    refine TL_q (.bool false) (fun _ _ hρ _ => r_assign (hρ _ _ rfl)) rfl rfl rfl (w_n rfl) ?_
    refine TL_seq ?_
    refine T_ret' ?_
    refine ret_of rfl (.bool false) (fun tmps w hk hm => res1 rfl (res_tmp (hk 2 _ rfl))) (fun w hm => ?_)
    exact ⟨by rw [ho]; rfl, hm.ext⟩
  · skip
    refine T_seq (T_region ?_)
    refine TL_q (.agg #[.int .u64 m.i.t, .int .i64 m.i.s, .int .u64 m.i.q, .pointer m.ptr]) (fun _ _ hρ hm => r_loadA ag36 sz36 (hρ _ _ rfl) (hm.at 1 rfl) rfl rfl) rfl rfl rfl (w_n rfl) ?_
    refine TL_call (.bool false) (fun _ _ hρ _ => r_call (args := [.agg #[.int .u64 m.i.t, .int .i64 m.i.s, .int .u64 m.i.q, .pointer m.ptr]]) (enters_of Try.func45 (by kernel_rfl) rfl) (hρ _ _ rfl) ((cons2 (hρ _ _ rfl) rfl)) rfl) (fun w _ => (right_c m w).mono fun _ _ h => ⟨h.1.trans (congrArg Ending.returned (bool_as (eq_false_of_ne_true ho))), h.2⟩) rfl rfl rfl (w_n rfl) ?_
    refine TL_q (.bool true) (fun _ _ hρ _ => r_not (b := false) (hρ _ _ rfl)) rfl rfl rfl (w_n rfl) ?_
    refine TL_q (.bool true) (fun _ _ hρ _ => r_assign (hρ _ _ rfl)) rfl rfl rfl (w_n rfl) ?_
    refine TL_seq ?_
    refine T_ret' ?_
    refine ret_of rfl (.bool true) (fun tmps w hk hm => res1 rfl (res_tmp (hk 2 _ rfl))) (fun w hm => ?_)
    exact ⟨by rw [eq_false_of_ne_true ho]; rfl, hm.ext⟩

theorem beh_last {ms : List Mk} {y x : _} (h : ms[ms.length - 1]? = some y) : behI (idsM ms) x = lessI y.i x := by
  unfold behI
  rw [List.getLast?_eq_getElem?, ids_len, ids_at h]
theorem due2_c (x : Tid) (Q9 : Nat) (ms : List Mk) (a : Option Addr) (cap : Nat) (w : World) (hv : SliceAt w a cap 4 Mk.cells ms) (hcap : cap ≤ Go.maxLen) (hQ : hp w Q9 = some (.cells #[.slice a ms.length cap] 25)) : Calls Try.prog 43 #[x.v, .pointer (some ⟨Q9, 0, none⟩)] w fun e w' => e = .returned (.bool (behI (idsM ms) x)) ∧ Below w.heap.size w w' := by
  have hvl := hv.1
  unfold Go.maxLen at hcap
  refine calls_of_T (l := [.agg #[.int .u64 x.t, .int .i64 x.s, .int .u64 x.q], .pointer (some ⟨Q9, 0, none⟩)]) 18 Try.func43 rfl rfl rfl ?_
  show T _ _ _ [(0, .agg #[.int .u64 x.t, .int .i64 x.s, .int .u64 x.q]), (1, .pointer (some ⟨Q9, 0, none⟩))] []
  refine T_seq (T_region ?_)
  refine TL_new 1 (.cells #[.int .u64 x.t, .int .i64 x.s, .int .u64 x.q] 32) (fun B => .pointer (some ⟨B, 0, none⟩)) (fun _ _ hρ _ => r_box (hρ _ _ rfl) rfl) rfl rfl rfl (w_n rfl) ?_
  intro B1
  refine TL_q (.bool false) (fun _ _ hρ _ => r_assign (hρ _ _ rfl)) rfl rfl rfl (w_n rfl) ?_
  refine TL_seq ?_
  by_cases hz : ((ms.length : Nat) : Int) = 0
  · skip
    refine T_seq (T_draw (V := [(0, .slice a ms.length cap), (1, .int .i64 ((ms.length : Nat) : Int)), (2, .bool true), (3, .bool true), (4, undef), (5, undef), (6, undef), (7, undef), (8, undef), (9, undef), (10, undef), (11, undef), (12, undef), (13, .bool true), (14, .bool true)]) [0, 1, 3, 7, 15, 15, 47, 111, 255, 511, 1023, 15, 4095, 8191, 16383] [[(1, none)], [(4, some 0)], [(5, some 1)], [(6, some 2)], [(1, none)], [(1, none)], [(9, some 5)], [(10, some 6)], [(8, some 4), (11, some 7)], [(12, some 8)], [(13, some 9)], [(2, none)], [(14, some 10), (15, some 11)], [(16, some 12), (7, some 3)], [(17, some 13)]] 0 mixed (by kernel_rfl) ?_)
    refine G_last [0, 1, 2, 3, 4, 5, 6, 7, 8, 9, 10, 11, 12, 13, 14] [(3, .bool true)] (by kernel_rfl) (allM (all_cons (q_run (.slice a ms.length cap) rfl rfl (wv_n rfl) rfl (fun _ _ hρ hm => r_load ag25 (hρ _ _ rfl) (hm.old hQ) rfl)) (all_cons (q_run (.int .i64 ((ms.length : Nat) : Int)) rfl rfl (wv_n rfl) rfl (fun _ _ hρ _ => r_len sl25 (hρ _ _ rfl))) (all_cons (q_run (.bool true) rfl rfl (wv_n rfl) rfl (fun _ _ hρ _ => r_as (r_eql (hρ _ _ rfl) (hρ _ _ rfl)) (bool_as (decide_eq_true hz)))) (all_cons (q_run (.bool true) rfl rfl (wv_n rfl) rfl (fun _ _ hρ _ => r_move (hρ _ _ rfl))) (all_cons (q_no rfl rfl (wv_no rfl rfl)) (all_cons (q_no rfl rfl (wv_no rfl rfl)) (all_cons (q_no rfl rfl (wv_no rfl rfl)) (all_cons (q_no rfl rfl (wv_no rfl rfl)) (all_cons (q_no rfl rfl (wv_no rfl rfl)) (all_cons (q_no rfl rfl (wv_no rfl rfl)) (all_cons (q_no rfl rfl (wv_no rfl rfl)) (all_cons (q_no rfl rfl (wv_no rfl rfl)) (all_cons (q_no rfl rfl (wv_no rfl rfl)) (all_cons (q_run (.bool true) rfl rfl (wv_n rfl) rfl (fun _ _ hρ _ => r_pick_t (hρ _ _ rfl) (hρ _ _ rfl))) (all_cons (q_run (.bool true) rfl rfl (wv_n rfl) rfl (fun _ _ hρ _ => r_assign (hρ _ _ rfl))) all_nil)))))))))))))))) (end_new 14 rfl rfl end_nil) ?_
    refine T_ret' ?_
    refine ret_of rfl (.bool true) (fun tmps w hk hm => res1 rfl (res_tmp (hk 3 _ rfl))) (fun w hm => ?_)
    have e0 : ms = [] := List.eq_nil_of_length_eq_zero (by omega)
    subst e0
    exact ⟨rfl, hm.ext⟩
  · skip
    obtain ⟨y9, hy9⟩ : ∃ x, ms[ms.length - 1]? = some x := ⟨_, List.getElem?_eq_getElem (by omega)⟩
    obtain ⟨b2, of2, cs2, T2, fz2, ha2, hq2, hr2⟩ := hv.open (i := ms.length - 1) (by omega)
    subst ha2
    refine T_seq (T_draw (V := [(0, .slice (some ⟨b2, of2, none⟩) ms.length cap), (1, .int .i64 ((ms.length : Nat) : Int)), (2, .bool false), (3, .bool false), (4, .slice (some ⟨b2, of2, none⟩) ms.length cap), (5, .slice (some ⟨b2, of2, none⟩) ms.length cap), (6, .int .i64 ((ms.length : Nat) : Int)), (7, .int .i64 ((ms.length - 1 : Nat) : Int)), (8, .pointer (some ⟨b2, of2 + (ms.length - 1) * 4, none⟩)), (9, .pointer (some ⟨b2, of2 + (ms.length - 1) * 4, none⟩)), (10, .agg #[.int .u64 y9.i.t, .int .i64 y9.i.s, .int .u64 y9.i.q]), (11, .agg #[.int .u64 x.t, .int .i64 x.s, .int .u64 x.q])]) [0, 1, 3, 7, 15, 15, 47, 111, 255, 511, 1023, 15, 4095, 8191, 16383] [[(1, none)], [(4, some 0)], [(5, some 1)], [(6, some 2)], [(1, none)], [(1, none)], [(9, some 5)], [(10, some 6)], [(8, some 4), (11, some 7)], [(12, some 8)], [(13, some 9)], [(2, none)], [(14, some 10), (15, some 11)], [(16, some 12), (7, some 3)], [(17, some 13)]] 4096 mixed (by kernel_rfl) ?_)
    refine G_step [0, 1, 2, 3, 4, 5, 6, 7, 8, 9, 10, 11] 12 [] (by kernel_rfl) (allM (all_cons (q_run (.slice (some ⟨b2, of2, none⟩) ms.length cap) rfl rfl (wv_n rfl) rfl (fun _ _ hρ hm => r_load ag25 (hρ _ _ rfl) (hm.old hQ) rfl)) (all_cons (q_run (.int .i64 ((ms.length : Nat) : Int)) rfl rfl (wv_n rfl) rfl (fun _ _ hρ _ => r_len sl25 (hρ _ _ rfl))) (all_cons (q_run (.bool false) rfl rfl (wv_n rfl) rfl (fun _ _ hρ _ => r_as (r_eql (hρ _ _ rfl) (hρ _ _ rfl)) (bool_as (decide_eq_false hz)))) (all_cons (q_run (.bool false) rfl rfl (wv_n rfl) rfl (fun _ _ hρ _ => r_move (hρ _ _ rfl))) (all_cons (q_run (.slice (some ⟨b2, of2, none⟩) ms.length cap) rfl rfl (wv_y rfl rfl) rfl (fun _ _ hρ hm => r_load ag25 (hρ _ _ rfl) (hm.old hQ) rfl)) (all_cons (q_run (.slice (some ⟨b2, of2, none⟩) ms.length cap) rfl rfl (wv_y rfl rfl) rfl (fun _ _ hρ hm => r_load ag25 (hρ _ _ rfl) (hm.old hQ) rfl)) (all_cons (q_run (.int .i64 ((ms.length : Nat) : Int)) rfl rfl (wv_y rfl rfl) rfl (fun _ _ hρ _ => r_len sl25 (hρ _ _ rfl))) (all_cons (q_run (.int .i64 ((ms.length - 1 : Nat) : Int)) rfl rfl (wv_y rfl rfl) rfl (fun _ _ hρ _ => r_as (r_sub (hρ _ _ rfl) (hρ _ _ rfl)) (int_as ((wrap64 (by omega) (by omega)).trans (by omega))))) (all_cons (q_run (.pointer (some ⟨b2, of2 + (ms.length - 1) * 4, none⟩)) rfl rfl (wv_y rfl rfl) rfl (fun _ _ hρ _ => r_indexAddrS (i := ms.length - 1) sl25 sz36 (hρ _ _ rfl) (hρ _ _ rfl) (by omega))) (all_cons (q_run (.pointer (some ⟨b2, of2 + (ms.length - 1) * 4, none⟩)) rfl rfl (wv_y rfl rfl) rfl (fun _ _ hρ _ => r_fieldAddr (off := of2 + (ms.length - 1) * 4) fl36_0 sz32 (hρ _ _ rfl))) (all_cons (q_run (.agg #[.int .u64 y9.i.t, .int .i64 y9.i.s, .int .u64 y9.i.q]) rfl rfl (wv_y rfl rfl) rfl (fun _ _ hρ hm => r_loadRowP (f := Mk.cells) (u := y9) ag32 sz32 (hρ _ _ rfl) (hm.old hq2) hr2 hy9 rfl rfl)) (all_cons (q_run (.agg #[.int .u64 x.t, .int .i64 x.s, .int .u64 x.q]) rfl rfl (wv_y rfl rfl) rfl (fun _ _ hρ hm => r_loadA ag32 sz32 (hρ _ _ rfl) (hm.at 1 rfl) rfl rfl)) all_nil))))))))))))) (allM (all_cons ?_ all_nil))
    refine LOb_call (.bool (lessI y9.i x)) [(13, .bool (lessI y9.i x)), (14, .bool (lessI y9.i x))] rfl (wv_y rfl rfl) rfl rfl (fun _ _ hρ _ => r_call (args := [.agg #[.int .u64 y9.i.t, .int .i64 y9.i.s, .int .u64 y9.i.q], .agg #[.int .u64 x.t, .int .i64 x.s, .int .u64 x.q]]) (enters_of Try.func12 (by kernel_rfl) rfl) (hρ _ _ rfl) ((cons2 (hρ _ _ rfl) (cons2 (hρ _ _ rfl) rfl))) rfl) (fun w _ => less_c y9.i x w) (by kernel_rfl) ?_
    refine G_last [13, 14] [(3, .bool (lessI y9.i x))] (by kernel_rfl) (allM (all_cons (q_run (.bool (lessI y9.i x)) rfl rfl (wv_n rfl) rfl (fun _ _ hρ _ => r_pick_f (hρ _ _ rfl) (hρ _ _ rfl))) (all_cons (q_run (.bool (lessI y9.i x)) rfl rfl (wv_n rfl) rfl (fun _ _ hρ _ => r_assign (hρ _ _ rfl))) all_nil))) (end_new 14 rfl rfl end_nil) ?_
    refine T_ret' ?_
    refine ret_of rfl (.bool (lessI y9.i x)) (fun tmps w hk hm => res1 rfl (res_tmp (hk 3 _ rfl))) (fun w hm => ?_)
    exact ⟨by rw [beh_last hy9], hm.ext⟩

theorem fold1_c (m : Mk) (Q9 : Nat) (t : Int) (w : World) (hQ : hp w Q9 = some (.cells #[.int .u64 t] 30)) : Calls Try.prog 61 #[m.v, .pointer (some ⟨Q9, 0, none⟩)] w fun e w' => e = .returned (.bool (decide (t < m.i.t))) ∧ Below w.heap.size w w' := by
  refine calls_of_T (l := [.agg #[.int .u64 m.i.t, .int .i64 m.i.s, .int .u64 m.i.q, .pointer m.ptr], .pointer (some ⟨Q9, 0, none⟩)]) 9 Try.func61 rfl rfl rfl ?_
  show T _ _ _ [(0, .agg #[.int .u64 m.i.t, .int .i64 m.i.s, .int .u64 m.i.q, .pointer m.ptr]), (1, .pointer (some ⟨Q9, 0, none⟩))] []
  refine T_seq (T_region ?_)
  refine TL_new 1 (.cells #[.int .u64 m.i.t, .int .i64 m.i.s, .int .u64 m.i.q, .pointer m.ptr] 36) (fun B => .pointer (some ⟨B, 0, none⟩)) (fun _ _ hρ _ => r_box (hρ _ _ rfl) rfl) rfl rfl rfl (w_n rfl) ?_
  intro B1
  refine TL_q (.bool false) (fun _ _ hρ _ => r_assign (hρ _ _ rfl)) rfl rfl rfl (w_n rfl) ?_
  refine TL_seq ?_
  refine T_seq (T_region ?_)
  refine TL_q (.pointer (some ⟨B1, 0, none⟩)) (fun _ _ hρ _ => r_fieldAddr fl36_0 sz32 (hρ _ _ rfl)) rfl rfl rfl (w_n rfl) ?_
  refine TL_q (.pointer (some ⟨B1, 0, none⟩)) (fun _ _ hρ _ => r_fieldAddr fl32_0 sz30 (hρ _ _ rfl)) rfl rfl rfl (w_n rfl) ?_
  refine TL_q (.int .u64 m.i.t) (fun _ _ hρ hm => r_load ag30 (hρ _ _ rfl) (hm.at 1 rfl) rfl) rfl rfl rfl (w_n rfl) ?_
  refine TL_q (.int .u64 t) (fun _ _ hρ hm => r_load ag30 (hρ _ _ rfl) (hm.old hQ) rfl) rfl rfl rfl (w_n rfl) ?_
  refine TL_q (.bool (decide (t < m.i.t))) (fun _ _ hρ _ => r_gtr (hρ _ _ rfl) (hρ _ _ rfl)) rfl rfl rfl (w_n rfl) ?_
  refine TL_q (.bool (decide (t < m.i.t))) (fun _ _ hρ _ => r_assign (hρ _ _ rfl)) rfl rfl rfl (w_n rfl) ?_
  refine TL_seq ?_
  refine T_ret' ?_
  refine ret_of rfl (.bool (decide (t < m.i.t))) (fun tmps w hk hm => res1 rfl (res_tmp (hk 3 _ rfl))) (fun w hm => ?_)
  exact ⟨rfl, hm.ext⟩

theorem clone_i {α : Type} (f : α → List Value) (hf : ∀ x, (f x).length = 3) (ho : ∀ x, ∀ u ∈ f x, u.oneCell' = true) (l : List α) (a : Option Addr) (cap : Nat) (w : World) (hv : SliceAt w a cap 3 f l) (hlen : l.length * 24 ≤ 140737488355328) :
    Calls Try.prog 39 #[.slice a l.length cap] w fun e w' => ∃ a' cap', e = .returned (.slice a' l.length cap') ∧ Below w.heap.size w w' ∧ w'.ownsRow w.heap.size 32 3 (.slice a' l.length cap') l.length (l.flatMap f) := by
  refine calls_of_T (l := [.slice a l.length cap]) 8 Try.func39 rfl rfl rfl ?_
  show T _ _ _ [(0, .slice a l.length cap)] []
  refine T_seq (T_region ?_)
  refine TL_q (.slice none 0 0) (fun _ _ hρ _ => r_assign (hρ _ _ rfl)) rfl rfl rfl (w_n rfl) ?_
  refine TL_seq ?_
  refine T_seq ?_
  refine T_seq (T_region ?_)
  refine TL_q (.slice a l.length cap) (fun _ _ hρ _ => r_move (hρ _ _ rfl)) rfl rfl rfl (w_n rfl) ?_
  refine TL_q (.bool a.isNone) (fun _ _ hρ _ => r_eqlSn sl22 (hρ _ _ rfl) (hρ _ _ rfl)) rfl rfl rfl (w_n rfl) ?_
  refine TL_seq ?_
  refine T_cond rfl (fun h1 => ?_) (fun h1 => ?_)
  · skip
    refine T_seq (T_region ?_)
    refine TL_q (.slice none 0 0) (fun _ _ hρ _ => r_assign (hρ _ _ rfl)) rfl rfl rfl (w_n rfl) ?_
    refine TL_seq ?_
    refine T_ret' ?_
    refine p_then_r ?_
    refine ret_of rfl (.slice none 0 0) (fun tmps w hk hm => res1 rfl (res_tmp (hk 2 _ rfl))) (fun w hm => ?_)
    have e0 : a = none := Option.isNone_iff_eq_none.1 h1
    subst e0
    have e1 : l = [] := by have := hv.2.1 rfl; have := hv.1; exact List.eq_nil_of_length_eq_zero (by omega)
    subst e1
    exact ⟨none, 0, rfl, hm.ext, World.ownsRow_nil _ _ _ _⟩
  · skip
    refine T_skip' ?_
    refine p_seq ?_
    refine T_seq (T_region ?_)
    refine TL_new 1 (.cells #[] 32) (fun B => .slice (some ⟨B, 0, none⟩) 0 0) (fun _ _ _ _ => r_buildSlice (vs := []) (by kernel_rfl) rfl) rfl rfl rfl (w_n rfl) ?_
    intro B1
    refine TL_q (.slice a l.length cap) (fun _ _ hρ _ => r_move (hρ _ _ rfl)) rfl rfl rfl (w_n rfl) ?_
    refine TL_mem ([(1, .row (.slice (some ⟨B1, 0, none⟩) 0 0) 32 3 0 [])]) (fun _ hm => MemOk.sub (hm.toRow (n := 0) (cap := 0) (s := 3) 1 rfl rfl (by omega) rfl _ rfl) (sub_cons rfl sub_nil)) ?_
    refine TL_append (n := 0) (m := l.length) (xs := []) (news := (l.flatMap f)) (z := .agg #[.int .u64 0, .int .i64 0, .int .u64 0]) 1 rfl rfl rfl sl22 sz32 by32 (by kernel_rfl) rfl rfl (.inl rfl) (fun _ hm => by have := src_of hf (hv.keep hm.ext); simpa using this) (by intro u hu; obtain ⟨x, _, hx⟩ := List.mem_flatMap.1 hu; exact ho x u hx) (by omega) (by omega) rfl (w_n rfl) ?_
    intro a2 cap2
    refine TL_q (.slice a2 (0 + l.length) cap2) (fun _ _ hρ _ => r_assign (hρ _ _ rfl)) rfl rfl rfl (w_n rfl) ?_
    refine TL_seq ?_
    refine T_ret' ?_
    refine ret_of rfl (.slice a2 (0 + l.length) cap2) (fun tmps w hk hm => res1 rfl (res_tmp (hk 2 _ rfl))) (fun w hm => ?_)
    have hrow := hm.row 1 rfl
    simp only [Nat.zero_add, List.nil_append] at hrow ⊢
    exact ⟨a2, cap2, rfl, hm.ext, hrow⟩

theorem equal_i (l m : List Tid) (a b : Option Addr) (ca cb : Nat) (w : World) (hv : SliceAt w a ca 3 Tid.cells l) (hu : SliceAt w b cb 3 Tid.cells m) (hl : l.length ≤ 4611686018427387904) (hl' : m.length ≤ 4611686018427387904) :
    Calls Try.prog 33 #[.slice a l.length ca, .slice b m.length cb] w fun e w' => e = .returned (.bool (decide (l = m))) ∧ Below w.heap.size w w' := by
  refine calls_of_T (l := [.slice a l.length ca, .slice b m.length cb]) 26 Try.func33 rfl rfl rfl ?_
  show T _ _ _ [(0, .slice a l.length ca), (1, .slice b m.length cb)] []
  refine T_seq (T_region ?_)
  refine TL_q (.bool false) (fun _ _ hρ _ => r_assign (hρ _ _ rfl)) rfl rfl rfl (w_n rfl) ?_
  refine TL_seq ?_
  refine T_seq ?_
  by_cases hlm : ((l.length : Nat) : Int) = ((m.length : Nat) : Int)
  · skip
    refine T_seq (T_region ?_)
    refine TL_q (.slice a l.length ca) (fun _ _ hρ _ => r_move (hρ _ _ rfl)) rfl rfl rfl (w_n rfl) ?_
    refine TL_q (.int .i64 ((l.length : Nat) : Int)) (fun _ _ hρ _ => r_len sl22 (hρ _ _ rfl)) rfl rfl rfl (w_n rfl) ?_
    refine TL_q (.slice b m.length cb) (fun _ _ hρ _ => r_move (hρ _ _ rfl)) rfl rfl rfl (w_n rfl) ?_
    refine TL_q (.int .i64 ((m.length : Nat) : Int)) (fun _ _ hρ _ => r_len sl22 (hρ _ _ rfl)) rfl rfl rfl (w_n rfl) ?_
    refine TL_q (.bool false) (fun _ _ hρ _ => r_as (r_neq (hρ _ _ rfl) (hρ _ _ rfl)) (bool_as (by rw [decide_eq_true hlm]; rfl))) rfl rfl rfl (w_n rfl) ?_
    refine TL_seq ?_
    refine T_cond_f rfl ?_
    refine T_skip' ?_
    refine p_seq ?_
    refine T_seq ?_
    refine T_seq (T_region ?_)
    refine TL_q (.slice a l.length ca) (fun _ _ hρ _ => r_move (hρ _ _ rfl)) rfl rfl rfl (w_n rfl) ?_
    refine TL_q (.int .i64 ((l.length : Nat) : Int)) (fun _ _ hρ _ => r_len sl22 (hρ _ _ rfl)) rfl rfl rfl (w_n rfl) ?_
    refine TL_q (.int .i64 0) (fun _ _ hρ _ => r_move (hρ _ _ rfl)) rfl rfl rfl (w_n rfl) ?_
    refine TL_seq ?_
    refine T_block ?_
    refine T_loop (ι := Nat) (fun (k : Nat) => k ≤ l.length ∧ l.take k = m.take k) (fun (k : Nat) => [(0, .slice a l.length ca), (1, .slice b m.length cb), (12, .int .i64 ((l.length : Nat) : Int)), (13, .int .i64 ((k : Nat) : Int))]) (fun (k : Nat) => []) (fun (k : Nat) => l.length - k) 0 ⟨Nat.zero_le _, by simp⟩ (sub_cons rfl (sub_cons rfl (sub_cons rfl (sub_cons rfl sub_nil)))) sub_nil ?_
    rintro k hp
    obtain ⟨hk1, hk2⟩ := hp
    show T _ _ _ [(0, .slice a l.length ca), (1, .slice b m.length cb), (12, .int .i64 ((l.length : Nat) : Int)), (13, .int .i64 ((k : Nat) : Int))] []
    refine T_seq (T_region ?_)
    refine TL_q (.bool (decide (((k : Nat) : Int) < ((l.length : Nat) : Int)))) (fun _ _ hρ _ => r_lss (hρ _ _ rfl) (hρ _ _ rfl)) rfl rfl rfl (w_n rfl) ?_
    refine TL_seq ?_
    refine T_seq ?_
    refine T_cond rfl (fun h1 => ?_) (fun h1 => ?_)
    · replace h1 := of_decide_eq_true h1
      refine T_skip' ?_
      refine p_seq ?_
      refine T_seq ?_
      refine T_block ?_
      obtain ⟨x, hx⟩ : ∃ x, l[k]? = some x := ⟨_, List.getElem?_eq_getElem (by omega)⟩
      obtain ⟨y, hy⟩ : ∃ y, m[k]? = some y := ⟨_, List.getElem?_eq_getElem (by omega)⟩
      obtain ⟨b1, of1, cs1, T1, fz1, ha1, hq1, hr1⟩ := hv.open (i := k) (by omega)
      subst ha1
      obtain ⟨b2, of2, cs2, T2, fz2, ha2, hq2, hr2⟩ := hu.open (i := k) (by omega)
      subst ha2
      refine T_seq (T_region ?_)
      refine TL_q (.int .i64 ((k : Nat) : Int)) (fun _ _ hρ _ => r_move (hρ _ _ rfl)) rfl rfl rfl (w_n rfl) ?_
      refine TL_q (.int .i64 ((k : Nat) : Int)) (fun _ _ hρ _ => r_assign (hρ _ _ rfl)) rfl rfl rfl (w_n rfl) ?_
      refine TL_seq ?_
      refine T_seq (T_draw (V := [(0, .slice (some ⟨b1, of1, none⟩) l.length ca), (1, .int .i64 ((k : Nat) : Int)), (2, .pointer (some ⟨b1, of1 + k * 3, none⟩)), (3, .agg #[.int .u64 x.t, .int .i64 x.s, .int .u64 x.q]), (4, .slice (some ⟨b2, of2, none⟩) m.length cb), (5, .int .i64 ((k : Nat) : Int)), (6, .pointer (some ⟨b2, of2 + k * 3, none⟩)), (7, .agg #[.int .u64 y.t, .int .i64 y.s, .int .u64 y.q]), (8, .bool (!decide (x = y)))]) [0, 0, 3, 7, 0, 0, 48, 112, 255] [[(0, none)], [(5, none)], [(16, some 0), (17, some 1)], [(18, some 2)], [(1, none)], [(5, none)], [(20, some 4), (21, some 5)], [(22, some 6)], [(19, some 3), (23, some 7)]] 0 mixed (by kernel_rfl) ?_)
      refine G_last [0, 1, 2, 3, 4, 5, 6, 7, 8] [(0, .slice (some ⟨b1, of1, none⟩) l.length ca), (1, .slice (some ⟨b2, of2, none⟩) m.length cb), (12, .int .i64 ((l.length : Nat) : Int)), (13, .int .i64 ((k : Nat) : Int)), (14, .bool (decide (((k : Nat) : Int) < ((l.length : Nat) : Int)))), (15, .int .i64 ((k : Nat) : Int)), (5, .int .i64 ((k : Nat) : Int)), (16, .slice (some ⟨b1, of1, none⟩) l.length ca), (17, .int .i64 ((k : Nat) : Int)), (18, .pointer (some ⟨b1, of1 + k * 3, none⟩)), (19, .agg #[.int .u64 x.t, .int .i64 x.s, .int .u64 x.q]), (20, .slice (some ⟨b2, of2, none⟩) m.length cb), (21, .int .i64 ((k : Nat) : Int)), (22, .pointer (some ⟨b2, of2 + k * 3, none⟩)), (23, .agg #[.int .u64 y.t, .int .i64 y.s, .int .u64 y.q]), (24, .bool (!decide (x = y)))] (by kernel_rfl) (allM (all_cons (q_run (.slice (some ⟨b1, of1, none⟩) l.length ca) rfl rfl (wv_n rfl) rfl (fun _ _ hρ _ => r_move (hρ _ _ rfl))) (all_cons (q_run (.int .i64 ((k : Nat) : Int)) rfl rfl (wv_n rfl) rfl (fun _ _ hρ _ => r_move (hρ _ _ rfl))) (all_cons (q_run (.pointer (some ⟨b1, of1 + k * 3, none⟩)) rfl rfl (wv_n rfl) rfl (fun _ _ hρ _ => r_indexAddrS (i := k) sl22 sz32 (hρ _ _ rfl) (hρ _ _ rfl) (by omega))) (all_cons (q_run (.agg #[.int .u64 x.t, .int .i64 x.s, .int .u64 x.q]) rfl rfl (wv_n rfl) rfl (fun _ _ hρ hm => r_loadRow (f := Tid.cells) (u := x) ag32 sz32 (hρ _ _ rfl) (hm.old hq1) hr1 hx)) (all_cons (q_run (.slice (some ⟨b2, of2, none⟩) m.length cb) rfl rfl (wv_n rfl) rfl (fun _ _ hρ _ => r_move (hρ _ _ rfl))) (all_cons (q_run (.int .i64 ((k : Nat) : Int)) rfl rfl (wv_n rfl) rfl (fun _ _ hρ _ => r_move (hρ _ _ rfl))) (all_cons (q_run (.pointer (some ⟨b2, of2 + k * 3, none⟩)) rfl rfl (wv_n rfl) rfl (fun _ _ hρ _ => r_indexAddrS (i := k) sl22 sz32 (hρ _ _ rfl) (hρ _ _ rfl) (by omega))) (all_cons (q_run (.agg #[.int .u64 y.t, .int .i64 y.s, .int .u64 y.q]) rfl rfl (wv_n rfl) rfl (fun _ _ hρ hm => r_loadRow (f := Tid.cells) (u := y) ag32 sz32 (hρ _ _ rfl) (hm.old hq2) hr2 hy)) (all_cons (q_run (.bool (!decide (x = y))) rfl rfl (wv_n rfl) rfl (fun _ _ hρ _ => r_as (r_neqA (by kernel_rfl) (hρ _ _ rfl) (hρ _ _ rfl) (run_equalI (l := [(0, .u64), (1, .i64), (2, .u64)]) (by kernel_rfl) rfl rfl)) (bool_as (congrArg (fun b => !b) (eqTid x y))))) all_nil)))))))))) (end_old rfl rfl (end_old rfl rfl (end_old rfl rfl (end_old rfl rfl (end_old rfl rfl (end_old rfl rfl (end_old rfl rfl (end_new 0 rfl rfl (end_new 1 rfl rfl (end_new 2 rfl rfl (end_new 3 rfl rfl (end_new 4 rfl rfl (end_new 5 rfl rfl (end_new 6 rfl rfl (end_new 7 rfl rfl (end_new 8 rfl rfl end_nil)))))))))))))))) ?_
      refine T_cond rfl (fun h2 => ?_) (fun h2 => ?_)
      · replace h2 := of_decide_eq_false (bnot_t h2)
        have hxy : ¬ x = y := by exact h2
        refine T_seq (T_region ?_)
        refine TL_q (.bool false) (fun _ _ hρ _ => r_assign (hρ _ _ rfl)) rfl rfl rfl (w_n rfl) ?_
        refine TL_seq ?_
        refine T_ret' ?_
        refine p_blk_r ?_
        refine p_then_r ?_
        refine p_then_r ?_
        refine p_blk_r ?_
        refine p_then_r ?_
        refine ret_of rfl (.bool false) (fun tmps w hk hm => res1 rfl (res_tmp (hk 4 _ rfl))) (fun w hm => ?_)
        exact ⟨congrArg Ending.returned (bool_as (decide_eq_false (fun e => hxy (by subst e; rw [hx] at hy; exact Option.some.inj hy))).symm), hm.ext⟩
      · replace h2 := of_decide_eq_true (bnot_f h2)
        refine T_skip' ?_
        refine p_blk_n ?_
        refine p_seq ?_
        have hxy : x = y := by exact h2
        refine T_region ?_
        refine TL_q (.int .i64 ((k + 1 : Nat) : Int)) (fun _ _ hρ _ => r_as (r_add (hρ _ _ rfl) (hρ _ _ rfl)) (int_as ((wrap64 (by omega) (by omega)).trans (by omega)))) rfl rfl rfl (w_n rfl) ?_
        refine TL_q (.int .i64 ((k + 1 : Nat) : Int)) (fun _ _ hρ _ => r_move (hρ _ _ rfl)) rfl rfl rfl (w_n rfl) ?_
        refine TL_nil ?_
        exact p_at (k + 1) ⟨⟨by omega, by rw [List.take_add_one, List.take_add_one, hx, hy, hk2, hxy]⟩, by omega⟩ (sub_cons rfl (sub_cons rfl (sub_cons rfl (sub_cons rfl sub_nil)))) sub_nil
    · replace h1 := of_decide_eq_false h1
      refine T_exit' ?_
      refine p_then_x ?_
      refine p_then_x ?_
      refine p_blk_x ?_
      refine p_seq ?_
      refine T_seq (T_region ?_)
      refine TL_q (.bool true) (fun _ _ hρ _ => r_assign (hρ _ _ rfl)) rfl rfl rfl (w_n rfl) ?_
      refine TL_seq ?_
      refine T_ret' ?_
      refine ret_of rfl (.bool true) (fun tmps w hk hm => res1 rfl (res_tmp (hk 4 _ rfl))) (fun w hm => ?_)
      exact ⟨congrArg Ending.returned (bool_as (decide_eq_true (by rw [← List.take_length (l := l), ← List.take_length (l := m), ← show k = l.length by omega, ← show k = m.length by omega]; exact hk2)).symm), hm.ext⟩
  · skip
    refine T_seq (T_region ?_)
    refine TL_q (.slice a l.length ca) (fun _ _ hρ _ => r_move (hρ _ _ rfl)) rfl rfl rfl (w_n rfl) ?_
    refine TL_q (.int .i64 ((l.length : Nat) : Int)) (fun _ _ hρ _ => r_len sl22 (hρ _ _ rfl)) rfl rfl rfl (w_n rfl) ?_
    refine TL_q (.slice b m.length cb) (fun _ _ hρ _ => r_move (hρ _ _ rfl)) rfl rfl rfl (w_n rfl) ?_
    refine TL_q (.int .i64 ((m.length : Nat) : Int)) (fun _ _ hρ _ => r_len sl22 (hρ _ _ rfl)) rfl rfl rfl (w_n rfl) ?_
    refine TL_q (.bool true) (fun _ _ hρ _ => r_as (r_neq (hρ _ _ rfl) (hρ _ _ rfl)) (bool_as (by rw [decide_eq_false hlm]; rfl))) rfl rfl rfl (w_n rfl) ?_
    refine TL_seq ?_
    refine T_cond_t rfl ?_
    refine T_seq (T_region ?_)
    refine TL_q (.bool false) (fun _ _ hρ _ => r_assign (hρ _ _ rfl)) rfl rfl rfl (w_n rfl) ?_
    refine TL_seq ?_
    refine T_ret' ?_
    refine p_then_r ?_
    refine ret_of rfl (.bool false) (fun tmps w hk hm => res1 rfl (res_tmp (hk 4 _ rfl))) (fun w hm => ?_)
    exact ⟨congrArg Ending.returned (bool_as (decide_eq_false (fun e => hlm (by rw [e]))).symm), hm.ext⟩

theorem minV (a n : Nat) : (if (n : Int) < (a : Int) then (n : Int) else (a : Int)) = ((min a n : Nat) : Int) := by split <;> omega
theorem take_min {α : Type} (l : List α) (n : Nat) : l.take (min l.length n) = l.take n := by
  rw [Nat.min_def]
  split
  · rw [List.take_length, List.take_of_length_le (by omega)]
  · rfl

theorem few_c (l : List Tid) (a : Option Addr) (cap : Nat) (n : Nat) (w : World) (hv : SliceAt w a cap 3 Tid.cells l) (hcap : cap ≤ Go.maxLen) (hn1000 : n ≤ 1000) : Calls Try.prog 10 #[.slice a l.length cap, .int .i64 (n : Int)] w fun e w' => ∃ a' cap', e = .returned (.slice a' (l.take n).length cap') ∧ Below w.heap.size w w' ∧ w'.ownsRow w.heap.size 32 3 (.slice a' (l.take n).length cap') (l.take n).length ((l.take n).flatMap Tid.cells) := by
  have hvl := hv.1
  unfold Go.maxLen at hcap
  refine calls_of_T (l := [.slice a l.length cap, .int .i64 ((n : Nat) : Int)]) 12 Try.func10 rfl rfl rfl ?_
  show T _ _ _ [(0, .slice a l.length cap), (1, .int .i64 ((n : Nat) : Int))] []
  refine T_seq (T_region ?_)
  refine TL_q (.slice none 0 0) (fun _ _ hρ _ => r_assign (hρ _ _ rfl)) rfl rfl rfl (w_n rfl) ?_
  refine TL_seq ?_
  refine T_seq (T_region ?_)
  refine TL_q (.slice a l.length cap) (fun _ _ hρ _ => r_move (hρ _ _ rfl)) rfl rfl rfl (w_n rfl) ?_
  refine TL_q (.slice a l.length cap) (fun _ _ hρ _ => r_move (hρ _ _ rfl)) rfl rfl rfl (w_n rfl) ?_
  refine TL_q (.int .i64 ((l.length : Nat) : Int)) (fun _ _ hρ _ => r_len sl22 (hρ _ _ rfl)) rfl rfl rfl (w_n rfl) ?_
  refine TL_q (.int .i64 ((n : Nat) : Int)) (fun _ _ hρ _ => r_move (hρ _ _ rfl)) rfl rfl rfl (w_n rfl) ?_
  refine TL_q (.int .i64 ((min l.length n : Nat) : Int)) (fun _ _ hρ _ => r_as (r_min (hρ _ _ rfl) (hρ _ _ rfl)) (int_as (minV _ _))) rfl rfl rfl (w_n rfl) ?_
  obtain ⟨l1, hl1, hn1⟩ : ∃ lz, lz = l.take (min l.length n) ∧ lz.length = min l.length n := ⟨_, rfl, by rw [List.length_take]; omega⟩
  have hs1 := SliceAt.front hv (n := min l.length n) (m := cap) (by omega) (by omega) (by omega)
  rw [← hl1] at hs1
  refine TL_q (.slice a l1.length cap) (fun ρ _ hρ _ => r_as (r_sliceO sl22 sz32 (hρ _ _ rfl) (bd_none ρ _) (bd_some (n := min l.length n) (hρ _ _ rfl)) (bd_none ρ _) (by simp) (by omega) (by omega) (by omega)) (by rw [hn1]; exact slo_zero _ _ _ _)) rfl rfl rfl (w_n rfl) ?_
  refine TL_callN (fun (_ : Option Addr × Nat) => True) (fun (ar2, cr2) => .slice ar2 ((l1).length) cr2) (fun (ar2, cr2) => [(1, .row (.slice ar2 ((l1).length) cr2) 32 3 ((l1).length) ((l1).flatMap Tid.cells))]) (fun _ _ hρ _ => r_call (args := [.slice a l1.length cap]) (enters_of Try.func39 (by kernel_rfl) rfl) (hρ _ _ rfl) ((cons2 (hρ _ _ rfl) rfl)) rfl) (fun w hm => (clone_i Tid.cells Tid.cells_len Tid.cells_one l1 a cap w (hs1.keep hm.ext) (by omega)).mono fun e w' ⟨a', cap', he, hb, hr⟩ => ⟨(a', cap'), trivial, he, hb, newOk1 1 hr⟩) rfl rfl rfl (w_n rfl) ?_
  rintro ⟨ar2, cr2⟩ -
  refine TL_q (.slice ar2 ((l1).length) cr2) (fun _ _ hρ _ => r_assign (hρ _ _ rfl)) rfl rfl rfl (w_n rfl) ?_
  refine TL_seq ?_
  refine T_ret' ?_
  refine ret_of rfl (.slice ar2 ((l1).length) cr2) (fun tmps w hk hm => res1 rfl (res_tmp (hk 4 _ rfl))) (fun w hm => ?_)
  have hrow := hm.row 1 rfl
  have e9 : l1 = l.take n := by rw [hl1, take_min]
  rw [e9] at hrow
  exact ⟨_, _, congrArg (fun z : List Tid => Ending.returned (.slice _ z.length _)) e9, hm.ext, hrow⟩
end Go.Proofs.Ytmihoejecpcmjaa
/- net and journal: Ids, Drop, Below, Fold, Due. Printed by a program of this seat's prover. -/
namespace Go.Proofs.Ytmihoejecpcmjaa
open Go Go.RowKit
set_option maxRecDepth 10000
def mk0 : Mk := ⟨⟨0, 0, 0⟩, none⟩
theorem mk_ones {l : List Mk} : ∀ u ∈ l.flatMap Mk.cells, u.oneCell' = true := fun u hu => by
  obtain ⟨x, _, hx⟩ := List.mem_flatMap.1 hu
  exact Mk.cells_one x u hx

theorem ids_ok (ms : List Mk) (a : Option Addr) (cap : Nat) (w : World) (hv : SliceAt w a cap 4 Mk.cells ms) (hcap : cap ≤ Go.maxLen) (hmk : marksB ms = true) : Calls Try.prog 34 #[.slice a ms.length cap] w fun e w' => ∃ a' cap', e = .returned (.slice a' (idsM ms).length cap') ∧ Below w.heap.size w w' ∧ w'.ownsRow w.heap.size 32 3 (.slice a' (idsM ms).length cap') (idsM ms).length ((idsM ms).flatMap Tid.cells) := by
  have hvl := hv.1
  unfold Go.maxLen at hcap
  have hm6 := (marksB_iff.1 hmk).2.2
  refine calls_of_T (l := [.slice a ms.length cap]) 22 Try.func34 rfl rfl rfl ?_
  show T _ _ _ [(0, .slice a ms.length cap)] []
  refine T_seq (T_region ?_)
  refine TL_q (.slice none 0 0) (fun _ _ hρ _ => r_assign (hρ _ _ rfl)) rfl rfl rfl (w_n rfl) ?_
  refine TL_seq ?_
  refine T_seq ?_
  refine T_seq (T_region ?_)
  refine TL_q (.slice a ms.length cap) (fun _ _ hρ _ => r_move (hρ _ _ rfl)) rfl rfl rfl (w_n rfl) ?_
  refine TL_call (.int .i64 0) (fun _ _ hρ _ => r_call (args := [.slice a ms.length cap]) (enters_of Try.func14 (by kernel_rfl) rfl) (hρ _ _ rfl) ((cons2 (hρ _ _ rfl) rfl)) rfl) (fun w hm => (check_c ms a cap w (hv.keep hm.ext) hcap).mono fun _ _ h => ⟨h.1.trans (congrArg Ending.returned (int_as (if_pos hmk))), h.2⟩) rfl rfl rfl (w_n rfl) ?_
  refine TL_q (.bool false) (fun _ _ hρ _ => r_as (r_neq (hρ _ _ rfl) (hρ _ _ rfl)) (by rfl)) rfl rfl rfl (w_n rfl) ?_
  refine TL_seq ?_
  refine T_cond_f rfl ?_
  refine T_skip' ?_
  refine p_seq ?_
  refine T_seq (T_region ?_)
  refine TL_q (.slice none 0 0) (fun _ _ hρ _ => r_assign (hρ _ _ rfl)) rfl rfl rfl (w_n rfl) ?_
  refine TL_seq ?_
  refine T_seq ?_
  refine T_mem (_ :: _) (fun _ hm => hm.nilRow 950 32 3) ?_
  refine T_seq (T_region ?_)
  refine TL_q (.slice a ms.length cap) (fun _ _ hρ _ => r_move (hρ _ _ rfl)) rfl rfl rfl (w_n rfl) ?_
  refine TL_q (.int .i64 ((ms.length : Nat) : Int)) (fun _ _ hρ _ => r_len sl25 (hρ _ _ rfl)) rfl rfl rfl (w_n rfl) ?_
  refine TL_q (.int .i64 0) (fun _ _ hρ _ => r_move (hρ _ _ rfl)) rfl rfl rfl (w_n rfl) ?_
  refine TL_seq ?_
  refine T_block ?_
  refine T_loop (ι := Nat × List Tid × Option Addr × Nat) (fun (z : Nat × List Tid × Option Addr × Nat) => match z with | (k, os, oa, oc) => k ≤ ms.length ∧ os = idsM (ms.take k)) (fun (z : Nat × List Tid × Option Addr × Nat) => match z with | (k, os, oa, oc) => [(2, .slice none 0 0), (9, .slice a ms.length cap), (10, .int .i64 ((ms.length : Nat) : Int)), (11, .int .i64 ((k : Nat) : Int)), (3, .slice oa os.length oc)]) (fun (z : Nat × List Tid × Option Addr × Nat) => match z with | (k, os, oa, oc) => [(950, .row (.slice oa os.length oc) 32 3 os.length (os.flatMap Tid.cells))]) (fun (z : Nat × List Tid × Option Addr × Nat) => match z with | (k, os, oa, oc) => ms.length - k) (0, [], none, 0) ⟨Nat.zero_le _, rfl⟩ (sub_cons rfl (sub_cons rfl (sub_cons rfl (sub_cons rfl (sub_cons rfl sub_nil))))) (sub_cons rfl sub_nil) ?_
  rintro ⟨k, os, oa, oc⟩ hp
  obtain ⟨hk, hos⟩ := hp
  have hol : os.length ≤ k := by rw [hos, ids_len, List.length_take]; omega
  show T _ _ _ [(2, .slice none 0 0), (9, .slice a ms.length cap), (10, .int .i64 ((ms.length : Nat) : Int)), (11, .int .i64 ((k : Nat) : Int)), (3, .slice oa os.length oc)] [(950, .row (.slice oa os.length oc) 32 3 os.length (os.flatMap Tid.cells))]
  refine T_seq (T_region ?_)
  refine TL_q (.bool (decide (((k : Nat) : Int) < ((ms.length : Nat) : Int)))) (fun _ _ hρ _ => r_lss (hρ _ _ rfl) (hρ _ _ rfl)) rfl rfl rfl (w_n rfl) ?_
  refine TL_seq ?_
  refine T_seq ?_
  refine T_cond rfl (fun h1 => ?_) (fun h1 => ?_)
  · replace h1 := of_decide_eq_true h1
    refine T_skip' ?_
    refine p_seq ?_
    refine T_seq ?_
    refine T_block ?_
    obtain ⟨p9, hp9⟩ : ∃ x, ms[k]? = some x := ⟨_, List.getElem?_eq_getElem (by omega)⟩
    obtain ⟨b1, of1, cs1, T1, fz1, ha1, hq1, hr1⟩ := hv.open (i := k) (by omega)
    subst ha1
    refine T_seq (T_region ?_)
    refine TL_q (.pointer (some ⟨b1, of1 + k * 4, none⟩)) (fun _ _ hρ _ => r_indexAddrS (i := k) sl25 sz36 (hρ _ _ rfl) (hρ _ _ rfl) (by omega)) rfl rfl rfl (w_n rfl) ?_
    refine TL_q (.agg #[.int .u64 p9.i.t, .int .i64 p9.i.s, .int .u64 p9.i.q, .pointer p9.ptr]) (fun _ _ hρ hm => r_loadRow (f := Mk.cells) (u := p9) ag36 sz36 (hρ _ _ rfl) (hm.old hq1) hr1 hp9) rfl rfl rfl (w_n rfl) ?_
    refine TL_new 1 (.cells #[.int .u64 0, .int .i64 0, .int .u64 0, .pointer none] 36) (fun B => .pointer (some ⟨B, 0, none⟩)) (fun _ _ _ _ => r_alloc (v := .agg #[.int .u64 0, .int .i64 0, .int .u64 0, .pointer none]) (by kernel_rfl) rfl) rfl rfl rfl (w_n rfl) ?_
    intro B2
    refine TL_store 1 (.cells #[.int .u64 p9.i.t, .int .i64 p9.i.s, .int .u64 p9.i.q, .pointer p9.ptr] 36) rfl (fun _ _ hρ hm => r_store sz36 (hρ _ _ rfl) (hρ _ _ rfl) (hm.at 1 rfl) rfl rfl rfl rfl) rfl rfl (w_n rfl) ?_
    refine TL_seq ?_
    refine T_region ?_
    refine TL_q (.slice oa os.length oc) (fun _ _ hρ _ => r_move (hρ _ _ rfl)) rfl rfl rfl (w_n rfl) ?_
    refine TL_q (.pointer (some ⟨B2, 0, none⟩)) (fun _ _ hρ _ => r_fieldAddr fl36_0 sz32 (hρ _ _ rfl)) rfl rfl rfl (w_n rfl) ?_
    refine TL_q (.agg #[.int .u64 p9.i.t, .int .i64 p9.i.s, .int .u64 p9.i.q]) (fun _ _ hρ hm => r_loadA ag32 sz32 (hρ _ _ rfl) (hm.at 1 rfl) rfl rfl) rfl rfl rfl (w_n rfl) ?_
    refine TL_new 2 (.cells #[.int .u64 p9.i.t, .int .i64 p9.i.s, .int .u64 p9.i.q] 32) (fun B => .slice (some ⟨B, 0, none⟩) 1 1) (fun _ _ hρ _ => r_buildSlice (vs := [(0, .agg #[.int .u64 p9.i.t, .int .i64 p9.i.s, .int .u64 p9.i.q])]) (by kernel_rfl) (cons2 (pair2 (hρ _ _ rfl)) rfl)) rfl rfl rfl (w_n rfl) ?_
    intro B3
    refine TL_append (n := os.length) (m := 1) (xs := (os.flatMap Tid.cells)) (news := [.int .u64 p9.i.t, .int .i64 p9.i.s, .int .u64 p9.i.q]) (z := .agg #[.int .u64 0, .int .i64 0, .int .u64 0]) 950 rfl rfl rfl sl22 sz32 by32 (by kernel_rfl) rfl rfl (.inl rfl) (fun _ hm => src_blk (news := [.int .u64 p9.i.t, .int .i64 p9.i.s, .int .u64 p9.i.q]) (hm.at 2 rfl) rfl) (by simp [Value.oneCell']) (by omega) (by omega) rfl (w_n rfl) ?_
    intro a4 cap4
    refine TL_q (.slice a4 (os.length + 1) cap4) (fun _ _ hρ _ => r_assign (hρ _ _ rfl)) rfl rfl rfl (w_n rfl) ?_
    refine TL_nil ?_
    refine p_blk_n ?_
    refine p_seq ?_
    refine T_region ?_
    refine TL_q (.int .i64 ((k + 1 : Nat) : Int)) (fun _ _ hρ _ => r_as (r_add (hρ _ _ rfl) (hρ _ _ rfl)) (int_as ((wrap64 (by omega) (by omega)).trans (by omega)))) rfl rfl rfl (w_n rfl) ?_
    refine TL_q (.int .i64 ((k + 1 : Nat) : Int)) (fun _ _ hρ _ => r_move (hρ _ _ rfl)) rfl rfl rfl (w_n rfl) ?_
    refine TL_nil ?_
    have hn5 : (os.length + 1) = (os ++ [p9.i]).length := by simp
    have hx5 : ((os.flatMap Tid.cells) ++ [.int .u64 p9.i.t, .int .i64 p9.i.s, .int .u64 p9.i.q]) = (os ++ [p9.i]).flatMap Tid.cells := by simp [Tid.cells]
    rw [hx5, hn5]
    exact p_at (k + 1, os ++ [p9.i], a4, cap4) ⟨⟨by omega, by rw [hos]; exact (map_step hp9).symm⟩, by dsimp only; omega⟩ (sub_cons rfl (sub_cons rfl (sub_cons rfl (sub_cons rfl (sub_cons rfl sub_nil))))) (sub_cons rfl sub_nil)
  · replace h1 := of_decide_eq_false h1
    refine T_exit' ?_
    refine p_then_x ?_
    refine p_then_x ?_
    refine p_blk_x ?_
    refine p_seq ?_
    refine T_seq (T_region ?_)
    refine TL_q (.slice oa os.length oc) (fun _ _ hρ _ => r_move (hρ _ _ rfl)) rfl rfl rfl (w_n rfl) ?_
    refine TL_q (.slice oa os.length oc) (fun _ _ hρ _ => r_assign (hρ _ _ rfl)) rfl rfl rfl (w_n rfl) ?_
    refine TL_seq ?_
    refine T_ret' ?_
    refine ret_of rfl (.slice oa os.length oc) (fun tmps w hk hm => res1 rfl (res_tmp (hk 2 _ rfl))) (fun w hm => ?_)
    have hke : k = ms.length := by omega
    subst hke
    rw [List.take_length] at hos
    subst hos
    exact ⟨oa, oc, rfl, hm.ext, hm.row 950 rfl⟩

theorem of_c (ms : List Mk) (a : Option Addr) (cap : Nat) (w : World) (hv : SliceAt w a cap 4 Mk.cells ms) (hcap : cap ≤ Go.maxLen) (hlen : ms.length ≤ 1000) : Calls Try.prog 53 #[.slice a ms.length cap] w fun e w' => ∃ q a', e = .returned (.pointer (some ⟨q, 0, none⟩)) ∧ Below w.heap.size w w' ∧ NewOk w w' [(0, .blk q (.cells #[.slice a' ms.length ms.length] 80)), (1, .row (.slice a' ms.length ms.length) 36 4 ms.length (ms.flatMap Mk.cells))] := by
  have hvl := hv.1
  unfold Go.maxLen at hcap
  refine calls_of_T (l := [.slice a ms.length cap]) 13 Try.func53 rfl rfl rfl ?_
  show T _ _ _ [(0, .slice a ms.length cap)] []
  refine T_seq (T_region ?_)
  refine TL_q (.pointer none) (fun _ _ hρ _ => r_assign (hρ _ _ rfl)) rfl rfl rfl (w_n rfl) ?_
  refine TL_seq ?_
  refine T_seq (T_region ?_)
  refine TL_q (.slice a ms.length cap) (fun _ _ hρ _ => r_move (hρ _ _ rfl)) rfl rfl rfl (w_n rfl) ?_
  refine TL_q (.int .i64 ((ms.length : Nat) : Int)) (fun _ _ hρ _ => r_len sl25 (hρ _ _ rfl)) rfl rfl rfl (w_n rfl) ?_
  refine TL_op (ι := Nat) (fun B => .slice (some ⟨B, 0, none⟩) ms.length ms.length) _ (fun _ _ hρ hm => o_make (n := ms.length) (cap := ms.length) (z := (.agg #[.int .u64 0, .int .i64 0, .int .u64 0, .pointer none] : Value)) (f := Mk.cells) (u := mk0) 940 rfl (hρ _ _ rfl) (hρ _ _ rfl) sl25 by36 sz36 rfl (by kernel_rfl) rfl Mk.cells_len (by omega) (by omega) (by omega) hm) rfl rfl rfl (w_n rfl) ?_
  intro B1
  refine TL_q (.slice (some ⟨B1, 0, none⟩) ms.length ms.length) (fun _ _ hρ _ => r_assign (hρ _ _ rfl)) rfl rfl rfl (w_n rfl) ?_
  refine TL_seq ?_
  refine T_seq (T_region ?_)
  refine TL_q (.slice (some ⟨B1, 0, none⟩) ms.length ms.length) (fun _ _ hρ _ => r_move (hρ _ _ rfl)) rfl rfl rfl (w_n rfl) ?_
  refine TL_q (.slice a ms.length cap) (fun _ _ hρ _ => r_move (hρ _ _ rfl)) rfl rfl rfl (w_n rfl) ?_
  refine TL_op1 (.int .i64 ((ms.length : Nat) : Int)) _ (fun _ _ hρ hm => o_copy (s := 4) (news := (ms.flatMap Mk.cells)) 940 rfl (hρ _ _ rfl) (hρ _ _ rfl) rfl sl25 sz36 (src_of Mk.cells_len (hv.keep hm.ext)) mk_ones hm) rfl rfl rfl (w_n rfl) ?_
  refine TL_seq ?_
  refine T_seq (T_region ?_)
  refine TL_q (.slice (some ⟨B1, 0, none⟩) ms.length ms.length) (fun _ _ hρ _ => r_move (hρ _ _ rfl)) rfl rfl rfl (w_n rfl) ?_
  refine TL_q (.agg #[.slice (some ⟨B1, 0, none⟩) ms.length ms.length]) (fun _ _ hρ _ => r_build (vs := [(0, .slice (some ⟨B1, 0, none⟩) ms.length ms.length)]) (by kernel_rfl) (cons2 (pair2 (hρ _ _ rfl)) rfl)) rfl rfl rfl (w_n rfl) ?_
  refine TL_new 1 (.cells #[.slice (some ⟨B1, 0, none⟩) ms.length ms.length] 80) (fun B => .pointer (some ⟨B, 0, none⟩)) (fun _ _ hρ _ => r_box (hρ _ _ rfl) rfl) rfl rfl rfl (w_n rfl) ?_
  intro B3
  refine TL_q (.pointer (some ⟨B3, 0, none⟩)) (fun _ _ hρ _ => r_assign (hρ _ _ rfl)) rfl rfl rfl (w_n rfl) ?_
  refine TL_seq ?_
  refine T_ret' ?_
  refine ret_of rfl (.pointer (some ⟨B3, 0, none⟩)) (fun tmps w hk hm => res1 rfl (res_tmp (hk 2 _ rfl))) (fun w hm => ?_)
  refine ⟨B3, _, rfl, hm.ext, newOk2 0 1 (hm.own 1 _ rfl) (hm.own 940 _ rfl) (hm.sep 1 940 _ _ rfl rfl (by decide))⟩

theorem ahead_c (ms : List Mk) (a : Option Addr) (cap : Nat) (i : Tid) (Q9 : Nat) (w : World) (hv : SliceAt w a cap 4 Mk.cells ms) (hcap : cap ≤ Go.maxLen) (hQ : hp w Q9 = some (.cells #[.slice a ms.length cap] 80)) : Calls Try.prog 59 #[.pointer (some ⟨Q9, 0, none⟩), i.v] w fun e w' => e = .returned (.int .i64 ((aheadL (idsM ms) i : Nat) : Int)) ∧ Below w.heap.size w w' := by
  have hvl := hv.1
  unfold Go.maxLen at hcap
  refine calls_of_T (l := [.pointer (some ⟨Q9, 0, none⟩), .agg #[.int .u64 i.t, .int .i64 i.s, .int .u64 i.q]]) 25 Try.func59 rfl rfl rfl ?_
  show T _ _ _ [(0, .pointer (some ⟨Q9, 0, none⟩)), (1, .agg #[.int .u64 i.t, .int .i64 i.s, .int .u64 i.q])] []
  refine T_seq (T_region ?_)
  refine TL_new 1 (.cells #[.int .u64 i.t, .int .i64 i.s, .int .u64 i.q] 32) (fun B => .pointer (some ⟨B, 0, none⟩)) (fun _ _ hρ _ => r_box (hρ _ _ rfl) rfl) rfl rfl rfl (w_n rfl) ?_
  intro B1
  refine TL_q (.int .i64 0) (fun _ _ hρ _ => r_assign (hρ _ _ rfl)) rfl rfl rfl (w_n rfl) ?_
  refine TL_seq ?_
  refine T_seq (T_region ?_)
  refine TL_q (.int .i64 0) (fun _ _ hρ _ => r_assign (hρ _ _ rfl)) rfl rfl rfl (w_n rfl) ?_
  refine TL_seq ?_
  refine T_seq ?_
  refine T_seq (T_region ?_)
  refine TL_q (.pointer (some ⟨Q9, 0, none⟩)) (fun _ _ hρ _ => r_move (hρ _ _ rfl)) rfl rfl rfl (w_n rfl) ?_
  refine TL_q (.pointer (some ⟨Q9, 0, none⟩)) (fun _ _ hρ _ => r_nilCheck (hρ _ _ rfl) rfl) rfl rfl rfl (w_n rfl) ?_
  refine TL_q (.pointer (some ⟨Q9, 0, none⟩)) (fun _ _ hρ _ => r_fieldAddr fl80_0 sz25 (hρ _ _ rfl)) rfl rfl rfl (w_n rfl) ?_
  refine TL_q (.slice a ms.length cap) (fun _ _ hρ hm => r_load ag25 (hρ _ _ rfl) (hm.old hQ) rfl) rfl rfl rfl (w_n rfl) ?_
  refine TL_q (.int .i64 ((ms.length : Nat) : Int)) (fun _ _ hρ _ => r_len sl25 (hρ _ _ rfl)) rfl rfl rfl (w_n rfl) ?_
  refine TL_q (.int .i64 0) (fun _ _ hρ _ => r_move (hρ _ _ rfl)) rfl rfl rfl (w_n rfl) ?_
  refine TL_seq ?_
  refine T_block ?_
  refine T_loop (ι := Nat × Nat) (fun (z : Nat × Nat) => match z with | (k, c) => k ≤ ms.length ∧ c = aheadL ((idsM ms).take k) i) (fun (z : Nat × Nat) => match z with | (k, c) => [(3, .pointer (some ⟨B1, 0, none⟩)), (4, .int .i64 0), (11, .slice a ms.length cap), (12, .int .i64 ((ms.length : Nat) : Int)), (13, .int .i64 ((k : Nat) : Int)), (5, .int .i64 ((c : Nat) : Int))]) (fun (z : Nat × Nat) => match z with | (k, c) => [(1, .blk B1 (.cells #[.int .u64 i.t, .int .i64 i.s, .int .u64 i.q] 32))]) (fun (z : Nat × Nat) => match z with | (k, c) => ms.length - k) (0, 0) ⟨Nat.zero_le _, rfl⟩ (sub_cons rfl (sub_cons rfl (sub_cons rfl (sub_cons rfl (sub_cons rfl (sub_cons rfl sub_nil)))))) (sub_cons rfl sub_nil) ?_
  rintro ⟨k, c⟩ hp
  obtain ⟨hk, hc⟩ := hp
  have hck : c ≤ k := by rw [hc]; exact Nat.le_trans (ahead_le _ _) (by rw [List.length_take]; omega)
  show T _ _ _ [(3, .pointer (some ⟨B1, 0, none⟩)), (4, .int .i64 0), (11, .slice a ms.length cap), (12, .int .i64 ((ms.length : Nat) : Int)), (13, .int .i64 ((k : Nat) : Int)), (5, .int .i64 ((c : Nat) : Int))] [(1, .blk B1 (.cells #[.int .u64 i.t, .int .i64 i.s, .int .u64 i.q] 32))]
  refine T_seq (T_region ?_)
  refine TL_q (.bool (decide (((k : Nat) : Int) < ((ms.length : Nat) : Int)))) (fun _ _ hρ _ => r_lss (hρ _ _ rfl) (hρ _ _ rfl)) rfl rfl rfl (w_n rfl) ?_
  refine TL_seq ?_
  refine T_seq ?_
  refine T_cond rfl (fun h1 => ?_) (fun h1 => ?_)
  · replace h1 := of_decide_eq_true h1
    refine T_skip' ?_
    refine p_seq ?_
    refine T_seq ?_
    refine T_block ?_
    obtain ⟨p9, hp9⟩ : ∃ x, ms[k]? = some x := ⟨_, List.getElem?_eq_getElem (by omega)⟩
    obtain ⟨b2, of2, cs2, T2, fz2, ha2, hq2, hr2⟩ := hv.open (i := k) (by omega)
    subst ha2
    refine T_seq (T_region ?_)
    refine TL_q (.pointer (some ⟨b2, of2 + k * 4, none⟩)) (fun _ _ hρ _ => r_indexAddrS (i := k) sl25 sz36 (hρ _ _ rfl) (hρ _ _ rfl) (by omega)) rfl rfl rfl (w_n rfl) ?_
    refine TL_q (.agg #[.int .u64 p9.i.t, .int .i64 p9.i.s, .int .u64 p9.i.q, .pointer p9.ptr]) (fun _ _ hρ hm => r_loadRow (f := Mk.cells) (u := p9) ag36 sz36 (hρ _ _ rfl) (hm.old hq2) hr2 hp9) rfl rfl rfl (w_n rfl) ?_
    refine TL_new 2 (.cells #[.int .u64 0, .int .i64 0, .int .u64 0, .pointer none] 36) (fun B => .pointer (some ⟨B, 0, none⟩)) (fun _ _ _ _ => r_alloc (v := .agg #[.int .u64 0, .int .i64 0, .int .u64 0, .pointer none]) (by kernel_rfl) rfl) rfl rfl rfl (w_n rfl) ?_
    intro B3
    refine TL_store 2 (.cells #[.int .u64 p9.i.t, .int .i64 p9.i.s, .int .u64 p9.i.q, .pointer p9.ptr] 36) rfl (fun _ _ hρ hm => r_store sz36 (hρ _ _ rfl) (hρ _ _ rfl) (hm.at 2 rfl) rfl rfl rfl rfl) rfl rfl (w_n rfl) ?_
    refine TL_seq ?_
    by_cases hl9 : lessI p9.i i = true
    · skip
      refine T_seq (T_region ?_)
      refine TL_q (.pointer (some ⟨B3, 0, none⟩)) (fun _ _ hρ _ => r_fieldAddr fl36_0 sz32 (hρ _ _ rfl)) rfl rfl rfl (w_n rfl) ?_
      refine TL_q (.agg #[.int .u64 p9.i.t, .int .i64 p9.i.s, .int .u64 p9.i.q]) (fun _ _ hρ hm => r_loadA ag32 sz32 (hρ _ _ rfl) (hm.at 2 rfl) rfl rfl) rfl rfl rfl (w_n rfl) ?_
      refine TL_q (.agg #[.int .u64 i.t, .int .i64 i.s, .int .u64 i.q]) (fun _ _ hρ hm => r_loadA ag32 sz32 (hρ _ _ rfl) (hm.at 1 rfl) rfl rfl) rfl rfl rfl (w_n rfl) ?_
      refine TL_call (.bool true) (fun _ _ hρ _ => r_call (args := [.agg #[.int .u64 p9.i.t, .int .i64 p9.i.s, .int .u64 p9.i.q], .agg #[.int .u64 i.t, .int .i64 i.s, .int .u64 i.q]]) (enters_of Try.func12 (by kernel_rfl) rfl) (hρ _ _ rfl) ((cons2 (hρ _ _ rfl) (cons2 (hρ _ _ rfl) rfl))) rfl) (fun w _ => (less_c p9.i i w).mono fun _ _ h => ⟨h.1.trans (congrArg Ending.returned (bool_as hl9)), h.2⟩) rfl rfl rfl (w_n rfl) ?_
      refine TL_seq ?_
      refine T_cond_t rfl ?_
      refine T_region ?_
      refine TL_q (.int .i64 ((c : Nat) : Int)) (fun _ _ hρ _ => r_move (hρ _ _ rfl)) rfl rfl rfl (w_n rfl) ?_
      refine TL_q (.int .i64 ((c + 1 : Nat) : Int)) (fun _ _ hρ _ => r_as (r_add (hρ _ _ rfl) (hρ _ _ rfl)) (int_as ((wrap64 (by omega) (by omega)).trans (by omega)))) rfl rfl rfl (w_n rfl) ?_
      refine TL_q (.int .i64 ((c + 1 : Nat) : Int)) (fun _ _ hρ _ => r_assign (hρ _ _ rfl)) rfl rfl rfl (w_n rfl) ?_
      refine TL_nil ?_
      refine p_blk_n ?_
      refine p_seq ?_
      refine T_region ?_
      refine TL_q (.int .i64 ((k + 1 : Nat) : Int)) (fun _ _ hρ _ => r_as (r_add (hρ _ _ rfl) (hρ _ _ rfl)) (int_as ((wrap64 (by omega) (by omega)).trans (by omega)))) rfl rfl rfl (w_n rfl) ?_
      refine TL_q (.int .i64 ((k + 1 : Nat) : Int)) (fun _ _ hρ _ => r_move (hρ _ _ rfl)) rfl rfl rfl (w_n rfl) ?_
      refine TL_nil ?_
      exact p_at (k + 1, c + 1) ⟨⟨by omega, by rw [ahead_step (ids_at hp9), if_pos hl9, ← hc]⟩, by dsimp only; omega⟩ (sub_cons rfl (sub_cons rfl (sub_cons rfl (sub_cons rfl (sub_cons rfl (sub_cons rfl sub_nil)))))) (sub_cons rfl sub_nil)
    · skip
      refine T_seq (T_region ?_)
      refine TL_q (.pointer (some ⟨B3, 0, none⟩)) (fun _ _ hρ _ => r_fieldAddr fl36_0 sz32 (hρ _ _ rfl)) rfl rfl rfl (w_n rfl) ?_
      refine TL_q (.agg #[.int .u64 p9.i.t, .int .i64 p9.i.s, .int .u64 p9.i.q]) (fun _ _ hρ hm => r_loadA ag32 sz32 (hρ _ _ rfl) (hm.at 2 rfl) rfl rfl) rfl rfl rfl (w_n rfl) ?_
      refine TL_q (.agg #[.int .u64 i.t, .int .i64 i.s, .int .u64 i.q]) (fun _ _ hρ hm => r_loadA ag32 sz32 (hρ _ _ rfl) (hm.at 1 rfl) rfl rfl) rfl rfl rfl (w_n rfl) ?_
      refine TL_call (.bool false) (fun _ _ hρ _ => r_call (args := [.agg #[.int .u64 p9.i.t, .int .i64 p9.i.s, .int .u64 p9.i.q], .agg #[.int .u64 i.t, .int .i64 i.s, .int .u64 i.q]]) (enters_of Try.func12 (by kernel_rfl) rfl) (hρ _ _ rfl) ((cons2 (hρ _ _ rfl) (cons2 (hρ _ _ rfl) rfl))) rfl) (fun w _ => (less_c p9.i i w).mono fun _ _ h => ⟨h.1.trans (congrArg Ending.returned (bool_as (eq_false_of_ne_true hl9))), h.2⟩) rfl rfl rfl (w_n rfl) ?_
      refine TL_seq ?_
      refine T_cond_f rfl ?_
      refine T_skip' ?_
      refine p_blk_n ?_
      refine p_seq ?_
      refine T_region ?_
      refine TL_q (.int .i64 ((k + 1 : Nat) : Int)) (fun _ _ hρ _ => r_as (r_add (hρ _ _ rfl) (hρ _ _ rfl)) (int_as ((wrap64 (by omega) (by omega)).trans (by omega)))) rfl rfl rfl (w_n rfl) ?_
      refine TL_q (.int .i64 ((k + 1 : Nat) : Int)) (fun _ _ hρ _ => r_move (hρ _ _ rfl)) rfl rfl rfl (w_n rfl) ?_
      refine TL_nil ?_
      exact p_at (k + 1, c) ⟨⟨by omega, by rw [ahead_step (ids_at hp9), if_neg hl9, Nat.add_zero, ← hc]⟩, by dsimp only; omega⟩ (sub_cons rfl (sub_cons rfl (sub_cons rfl (sub_cons rfl (sub_cons rfl (sub_cons rfl sub_nil)))))) (sub_cons rfl sub_nil)
  · replace h1 := of_decide_eq_false h1
    refine T_exit' ?_
    refine p_then_x ?_
    refine p_then_x ?_
    refine p_blk_x ?_
    refine p_seq ?_
    refine T_seq (T_region ?_)
    refine TL_q (.int .i64 ((c : Nat) : Int)) (fun _ _ hρ _ => r_move (hρ _ _ rfl)) rfl rfl rfl (w_n rfl) ?_
    refine TL_q (.int .i64 ((c : Nat) : Int)) (fun _ _ hρ _ => r_assign (hρ _ _ rfl)) rfl rfl rfl (w_n rfl) ?_
    refine TL_seq ?_
    refine T_ret' ?_
    refine ret_of rfl (.int .i64 ((c : Nat) : Int)) (fun tmps w hk hm => res1 rfl (res_tmp (hk 4 _ rfl))) (fun w hm => ?_)
    have hke : k = ms.length := by omega
    subst hke
    rw [← ids_len, List.take_length] at hc
    exact ⟨by rw [hc], hm.ext⟩

theorem newOk_at {w w' : World} {r s : Res} (i j : Nat) (hij : ¬ i = j) (h : NewOk w w' [(0, r), (1, s)]) : NewOk w w' [(i, r), (j, s)] :=
  newOk2 i j (h.1 0 _ rfl) (h.1 1 _ rfl) (h.2 0 1 _ _ rfl rfl (by decide))

theorem drop_ok (ms : List Mk) (a : Option Addr) (cap : Nat) (i : Tid) (w : World) (hv : SliceAt w a cap 4 Mk.cells ms) (hcap : cap ≤ Go.maxLen) (hmk : marksB ms = true) : Calls Try.prog 27 #[.slice a ms.length cap, i.v] w fun e w' => ∃ a' cap', e = .returned (.slice a' (ms.take (aheadL (idsM ms) i)).length cap') ∧ Below w.heap.size w w' ∧ w'.ownsRow w.heap.size 36 4 (.slice a' (ms.take (aheadL (idsM ms) i)).length cap') (ms.take (aheadL (idsM ms) i)).length ((ms.take (aheadL (idsM ms) i)).flatMap Mk.cells) := by
  have hvl := hv.1
  unfold Go.maxLen at hcap
  have hm6 := (marksB_iff.1 hmk).2.2
  have hah := ahead_le (idsM ms) i
  rw [ids_len] at hah
  refine calls_of_T (l := [.slice a ms.length cap, .agg #[.int .u64 i.t, .int .i64 i.s, .int .u64 i.q]]) 22 Try.func27 rfl rfl rfl ?_
  show T _ _ _ [(0, .slice a ms.length cap), (1, .agg #[.int .u64 i.t, .int .i64 i.s, .int .u64 i.q])] []
  refine T_seq (T_region ?_)
  refine TL_new 1 (.cells #[.int .u64 i.t, .int .i64 i.s, .int .u64 i.q] 32) (fun B => .pointer (some ⟨B, 0, none⟩)) (fun _ _ hρ _ => r_box (hρ _ _ rfl) rfl) rfl rfl rfl (w_n rfl) ?_
  intro B1
  refine TL_q (.slice none 0 0) (fun _ _ hρ _ => r_assign (hρ _ _ rfl)) rfl rfl rfl (w_n rfl) ?_
  refine TL_seq ?_
  refine T_seq ?_
  refine T_seq (T_region ?_)
  refine TL_q (.slice a ms.length cap) (fun _ _ hρ _ => r_move (hρ _ _ rfl)) rfl rfl rfl (w_n rfl) ?_
  refine TL_call (.int .i64 0) (fun _ _ hρ _ => r_call (args := [.slice a ms.length cap]) (enters_of Try.func14 (by kernel_rfl) rfl) (hρ _ _ rfl) ((cons2 (hρ _ _ rfl) rfl)) rfl) (fun w hm => (check_c ms a cap w (hv.keep hm.ext) hcap).mono fun _ _ h => ⟨h.1.trans (congrArg Ending.returned (int_as (if_pos hmk))), h.2⟩) rfl rfl rfl (w_n rfl) ?_
  refine TL_q (.bool false) (fun _ _ hρ _ => r_as (r_neq (hρ _ _ rfl) (hρ _ _ rfl)) (by rfl)) rfl rfl rfl (w_n rfl) ?_
  refine TL_seq ?_
  refine T_cond_f rfl ?_
  refine T_skip' ?_
  refine p_seq ?_
  refine T_seq (T_region ?_)
  refine TL_q (.slice a ms.length cap) (fun _ _ hρ _ => r_move (hρ _ _ rfl)) rfl rfl rfl (w_n rfl) ?_
  refine TL_q (.agg #[.slice a ms.length cap]) (fun _ _ hρ _ => r_build (vs := [(0, .slice a ms.length cap)]) (by kernel_rfl) (cons2 (pair2 (hρ _ _ rfl)) rfl)) rfl rfl rfl (w_n rfl) ?_
  refine TL_new 2 (.cells #[.slice a ms.length cap] 80) (fun B => .pointer (some ⟨B, 0, none⟩)) (fun _ _ hρ _ => r_box (hρ _ _ rfl) rfl) rfl rfl rfl (w_n rfl) ?_
  intro B2
  refine TL_q (.agg #[.int .u64 i.t, .int .i64 i.s, .int .u64 i.q]) (fun _ _ hρ hm => r_loadA ag32 sz32 (hρ _ _ rfl) (hm.at 1 rfl) rfl rfl) rfl rfl rfl (w_n rfl) ?_
  refine TL_call (.int .i64 ((aheadL (idsM ms) i : Nat) : Int)) (fun _ _ hρ _ => r_call (args := [.pointer (some ⟨B2, 0, none⟩), .agg #[.int .u64 i.t, .int .i64 i.s, .int .u64 i.q]]) (enters_of Try.func59 (by kernel_rfl) rfl) (hρ _ _ rfl) ((cons2 (hρ _ _ rfl) (cons2 (hρ _ _ rfl) rfl))) rfl) (fun w hm => ahead_c ms a cap i B2 w (hv.keep hm.ext) hcap (hm.at 2 rfl)) rfl rfl rfl (w_n rfl) ?_
  refine TL_q (.int .i64 ((aheadL (idsM ms) i : Nat) : Int)) (fun _ _ hρ _ => r_assign (hρ _ _ rfl)) rfl rfl rfl (w_n rfl) ?_
  refine TL_seq ?_
  refine T_seq (T_region ?_)
  refine TL_q (.slice a ms.length cap) (fun _ _ hρ _ => r_move (hρ _ _ rfl)) rfl rfl rfl (w_n rfl) ?_
  refine TL_q (.int .i64 ((aheadL (idsM ms) i : Nat) : Int)) (fun _ _ hρ _ => r_move (hρ _ _ rfl)) rfl rfl rfl (w_n rfl) ?_
  refine TL_q (.int .i64 ((aheadL (idsM ms) i : Nat) : Int)) (fun _ _ hρ _ => r_move (hρ _ _ rfl)) rfl rfl rfl (w_n rfl) ?_
  obtain ⟨l3, hl3, hn3⟩ : ∃ lz, lz = ms.take (aheadL (idsM ms) i) ∧ lz.length = aheadL (idsM ms) i := ⟨_, rfl, by rw [List.length_take]; omega⟩
  have hs3 := SliceAt.front hv (n := aheadL (idsM ms) i) (m := aheadL (idsM ms) i) (by omega) (by omega) (by omega)
  rw [← hl3] at hs3
  refine TL_q (.slice a l3.length (aheadL (idsM ms) i)) (fun ρ _ hρ _ => r_as (r_sliceO sl25 sz36 (hρ _ _ rfl) (bd_some (n := aheadL (idsM ms) i) (hρ _ _ rfl)) (bd_some (n := aheadL (idsM ms) i) (hρ _ _ rfl)) (bd_none ρ _) (by simp) (by omega) (by omega) (by omega)) (by rw [hn3]; exact slo_zero _ _ _ _)) rfl rfl rfl (w_n rfl) ?_
  refine TL_callN (fun (_ : Nat × Option Addr) => True) (fun (qo4, ao4) => .pointer (some ⟨qo4, 0, none⟩)) (fun (qo4, ao4) => [(956, .blk qo4 (.cells #[.slice ao4 ((l3).length) ((l3).length)] 80)), (957, .row (.slice ao4 ((l3).length) ((l3).length)) 36 4 ((l3).length) ((l3).flatMap Mk.cells))]) (fun _ _ hρ _ => r_call (args := [.slice a l3.length (aheadL (idsM ms) i)]) (enters_of Try.func53 (by kernel_rfl) rfl) (hρ _ _ rfl) ((cons2 (hρ _ _ rfl) rfl)) rfl) (fun w hm => (of_c l3 a (aheadL (idsM ms) i) w (hs3.keep hm.ext) (by unfold Go.maxLen; omega) (by omega)).mono fun e w' ⟨q, a', he, hb, hn⟩ => ⟨(q, a'), trivial, he, hb, newOk_at 956 957 (by decide) hn⟩) rfl rfl rfl (w_n rfl) ?_
  rintro ⟨qo4, ao4⟩ -
  refine TL_q (.pointer (some ⟨qo4, 0, none⟩)) (fun _ _ hρ _ => r_nilCheck (hρ _ _ rfl) rfl) rfl rfl rfl (w_n rfl) ?_
  refine TL_q (.pointer (some ⟨qo4, 0, none⟩)) (fun _ _ hρ _ => r_fieldAddr fl80_0 sz25 (hρ _ _ rfl)) rfl rfl rfl (w_n rfl) ?_
  refine TL_q (.slice ao4 ((l3).length) ((l3).length)) (fun _ _ hρ hm => r_load ag25 (hρ _ _ rfl) (hm.at 956 rfl) rfl) rfl rfl rfl (w_n rfl) ?_
  refine TL_q (.slice ao4 ((l3).length) ((l3).length)) (fun _ _ hρ _ => r_assign (hρ _ _ rfl)) rfl rfl rfl (w_n rfl) ?_
  refine TL_seq ?_
  refine T_ret' ?_
  refine ret_of rfl (.slice ao4 ((l3).length) ((l3).length)) (fun tmps w hk hm => res1 rfl (res_tmp (hk 4 _ rfl))) (fun w hm => ?_)
  have e9 : l3 = ms.take (aheadL (idsM ms) i) := hl3
  have hrow := hm.row 957 rfl
  rw [e9] at hrow
  exact ⟨_, _, congrArg (fun z : List Mk => Ending.returned (.slice _ z.length z.length)) e9, hm.ext, hrow⟩

/-- The mark below an id. -/
def belM (ms : List Mk) (i : Tid) : Mk := ((ms.take (aheadL (idsM ms) i))[(ms.take (aheadL (idsM ms) i)).length - 1]?).getD mk0
theorem bel_some {ms : List Mk} {i : Tid} {y : Mk} (h : (ms.take (aheadL (idsM ms) i))[(ms.take (aheadL (idsM ms) i)).length - 1]? = some y) : belM ms i = y := by unfold belM; rw [h]; rfl
theorem bel_zero {ms : List Mk} {i : Tid} (h : (ms.take (aheadL (idsM ms) i)).length = 0) : belM ms i = mk0 := by unfold belM; rw [List.eq_nil_of_length_eq_zero h]; rfl
theorem bel_none {ms : List Mk} {i : Tid} (h : (ms.take (aheadL (idsM ms) i)).length = 0) : (Ending.returned (.tuple #[(belM ms i).v, .bool (decide (0 < (ms.take (aheadL (idsM ms) i)).length))]) : Ending) = .returned (.tuple #[mk0.v, .bool false]) := by rw [bel_zero h, h]; rfl
theorem dec_pos {p : Prop} [Decidable p] (h : p) : decide p = true := decide_eq_true h

theorem below_ok (ms : List Mk) (a : Option Addr) (cap : Nat) (i : Tid) (w : World) (hv : SliceAt w a cap 4 Mk.cells ms) (hcap : cap ≤ Go.maxLen) (hmk : marksB ms = true) : Calls Try.prog 26 #[.slice a ms.length cap, i.v] w fun e w' => e = .returned (.tuple #[(belM ms i).v, .bool (decide (0 < (ms.take (aheadL (idsM ms) i)).length))]) ∧ Below w.heap.size w w' := by
  have hvl := hv.1
  unfold Go.maxLen at hcap
  have hm6 := (marksB_iff.1 hmk).2.2
  have htl : (ms.take (aheadL (idsM ms) i)).length ≤ 6 := by rw [List.length_take]; omega
  refine calls_of_T (l := [.slice a ms.length cap, .agg #[.int .u64 i.t, .int .i64 i.s, .int .u64 i.q]]) 20 Try.func26 rfl rfl rfl ?_
  show T _ _ _ [(0, .slice a ms.length cap), (1, .agg #[.int .u64 i.t, .int .i64 i.s, .int .u64 i.q])] []
  refine T_seq (T_region ?_)
  refine TL_new 1 (.cells #[.int .u64 i.t, .int .i64 i.s, .int .u64 i.q] 32) (fun B => .pointer (some ⟨B, 0, none⟩)) (fun _ _ hρ _ => r_box (hρ _ _ rfl) rfl) rfl rfl rfl (w_n rfl) ?_
  intro B1
  refine TL_new 2 (.cells #[.int .u64 0, .int .i64 0, .int .u64 0, .pointer none] 36) (fun B => .pointer (some ⟨B, 0, none⟩)) (fun _ _ _ _ => r_alloc (v := .agg #[.int .u64 0, .int .i64 0, .int .u64 0, .pointer none]) (by kernel_rfl) rfl) rfl rfl rfl (w_n rfl) ?_
  intro B2
  refine TL_q (.bool false) (fun _ _ hρ _ => r_assign (hρ _ _ rfl)) rfl rfl rfl (w_n rfl) ?_
  refine TL_seq ?_
  refine T_seq (T_region ?_)
  refine TL_q (.slice a ms.length cap) (fun _ _ hρ _ => r_move (hρ _ _ rfl)) rfl rfl rfl (w_n rfl) ?_
  refine TL_q (.agg #[.int .u64 i.t, .int .i64 i.s, .int .u64 i.q]) (fun _ _ hρ hm => r_loadA ag32 sz32 (hρ _ _ rfl) (hm.at 1 rfl) rfl rfl) rfl rfl rfl (w_n rfl) ?_
  refine TL_callN (fun (_ : Option Addr × Nat) => True) (fun (ar3, cr3) => .slice ar3 ((ms.take (aheadL (idsM ms) i)).length) cr3) (fun (ar3, cr3) => [(3, .row (.slice ar3 ((ms.take (aheadL (idsM ms) i)).length) cr3) 36 4 ((ms.take (aheadL (idsM ms) i)).length) ((ms.take (aheadL (idsM ms) i)).flatMap Mk.cells))]) (fun _ _ hρ _ => r_call (args := [.slice a ms.length cap, .agg #[.int .u64 i.t, .int .i64 i.s, .int .u64 i.q]]) (enters_of Try.func27 (by kernel_rfl) rfl) (hρ _ _ rfl) ((cons2 (hρ _ _ rfl) (cons2 (hρ _ _ rfl) rfl))) rfl) (fun w hm => (drop_ok ms a cap i w (hv.keep hm.ext) hcap hmk).mono fun e w' ⟨a', cap', he, hb, hr⟩ => ⟨(a', cap'), trivial, he, hb, newOk1 3 hr⟩) rfl rfl rfl (w_n rfl) ?_
  rintro ⟨ar3, cr3⟩ -
  refine TL_q (.slice ar3 ((ms.take (aheadL (idsM ms) i)).length) cr3) (fun _ _ hρ _ => r_assign (hρ _ _ rfl)) rfl rfl rfl (w_n rfl) ?_
  refine TL_seq ?_
  refine T_seq ?_
  by_cases hz : (((ms.take (aheadL (idsM ms) i)).length : Nat) : Int) = 0
  · skip
    refine T_seq (T_region ?_)
    refine TL_q (.slice ar3 ((ms.take (aheadL (idsM ms) i)).length) cr3) (fun _ _ hρ _ => r_move (hρ _ _ rfl)) rfl rfl rfl (w_n rfl) ?_
    refine TL_q (.int .i64 (((ms.take (aheadL (idsM ms) i)).length : Nat) : Int)) (fun _ _ hρ _ => r_len sl25 (hρ _ _ rfl)) rfl rfl rfl (w_n rfl) ?_
    refine TL_q (.bool true) (fun _ _ hρ _ => r_as (r_eql (hρ _ _ rfl) (hρ _ _ rfl)) (bool_as (decide_eq_true hz))) rfl rfl rfl (w_n rfl) ?_
    refine TL_seq ?_
    refine T_cond_t rfl ?_
    refine T_seq (T_region ?_)
    refine TL_q (.agg #[.int .u64 0, .int .i64 0, .int .u64 0, .pointer none]) (fun _ _ _ _ => r_build (vs := []) (by kernel_rfl) rfl) rfl rfl rfl (w_n rfl) ?_
    refine TL_store 2 (.cells #[.int .u64 0, .int .i64 0, .int .u64 0, .pointer none] 36) rfl (fun _ _ hρ hm => r_store sz36 (hρ _ _ rfl) (hρ _ _ rfl) (hm.at 2 rfl) rfl rfl rfl rfl) rfl rfl (w_n rfl) ?_
    refine TL_q (.bool false) (fun _ _ hρ _ => r_assign (hρ _ _ rfl)) rfl rfl rfl (w_n rfl) ?_
    refine TL_seq ?_
    refine T_ret' ?_
    refine p_then_r ?_
    refine ret_of rfl (.tuple #[.agg #[.int .u64 0, .int .i64 0, .int .u64 0, .pointer none], .bool false]) (fun tmps w hk hm => res2 rfl (res_cell (hk 4 _ rfl) (run_loadVar_agg ag36 sz36 (hm.at 2 rfl) (Nat.le_of_ble_eq_true rfl) rfl)) (res_tmp (hk 5 _ rfl))) (fun w hm => ?_)
    exact ⟨by rw [bel_none (by omega)]; rfl, hm.ext⟩
  · skip
    obtain ⟨y9, hy9⟩ : ∃ x, (ms.take (aheadL (idsM ms) i))[(ms.take (aheadL (idsM ms) i)).length - 1]? = some x := ⟨_, List.getElem?_eq_getElem (by omega)⟩
    refine T_row 3 rfl (by omega) (fun g4 ha4 => ?_)
    subst ha4
    refine T_rowcap 3 rfl (fun hrc4 => ?_)
    refine T_seq (T_region ?_)
    refine TL_q (.slice (some ⟨g4, 0, none⟩) ((ms.take (aheadL (idsM ms) i)).length) cr3) (fun _ _ hρ _ => r_move (hρ _ _ rfl)) rfl rfl rfl (w_n rfl) ?_
    refine TL_q (.int .i64 (((ms.take (aheadL (idsM ms) i)).length : Nat) : Int)) (fun _ _ hρ _ => r_len sl25 (hρ _ _ rfl)) rfl rfl rfl (w_n rfl) ?_
    refine TL_q (.bool false) (fun _ _ hρ _ => r_as (r_eql (hρ _ _ rfl) (hρ _ _ rfl)) (bool_as (decide_eq_false hz))) rfl rfl rfl (w_n rfl) ?_
    refine TL_seq ?_
    refine T_cond_f rfl ?_
    refine T_skip' ?_
    refine p_seq ?_
    refine T_seq (T_region ?_)
    refine TL_q (.slice (some ⟨g4, 0, none⟩) ((ms.take (aheadL (idsM ms) i)).length) cr3) (fun _ _ hρ _ => r_move (hρ _ _ rfl)) rfl rfl rfl (w_n rfl) ?_
    refine TL_q (.slice (some ⟨g4, 0, none⟩) ((ms.take (aheadL (idsM ms) i)).length) cr3) (fun _ _ hρ _ => r_move (hρ _ _ rfl)) rfl rfl rfl (w_n rfl) ?_
    refine TL_q (.int .i64 (((ms.take (aheadL (idsM ms) i)).length : Nat) : Int)) (fun _ _ hρ _ => r_len sl25 (hρ _ _ rfl)) rfl rfl rfl (w_n rfl) ?_
    refine TL_q (.int .i64 ((((ms.take (aheadL (idsM ms) i)).length) - 1 : Nat) : Int)) (fun _ _ hρ _ => r_as (r_sub (hρ _ _ rfl) (hρ _ _ rfl)) (int_as ((wrap64 (by omega) (by omega)).trans (by omega)))) rfl rfl rfl (w_n rfl) ?_
    refine TL_q (.pointer (some ⟨g4, 0 + (((ms.take (aheadL (idsM ms) i)).length) - 1) * 4, none⟩)) (fun _ _ hρ _ => r_indexAddrS (i := ((ms.take (aheadL (idsM ms) i)).length) - 1) sl25 sz36 (hρ _ _ rfl) (hρ _ _ rfl) (by omega)) rfl rfl rfl (w_n rfl) ?_
    refine TL_q (.agg #[.int .u64 y9.i.t, .int .i64 y9.i.s, .int .u64 y9.i.q, .pointer y9.ptr]) (fun _ _ hρ hm => r_loadOwn (f := Mk.cells) (u := y9) (l := (ms.take (aheadL (idsM ms) i))) ag36 sz36 (hρ _ _ rfl) (hm.row 3 rfl) rfl rfl Mk.cells_len hy9) rfl rfl rfl (w_n rfl) ?_
    refine TL_store 2 (.cells #[.int .u64 y9.i.t, .int .i64 y9.i.s, .int .u64 y9.i.q, .pointer y9.ptr] 36) rfl (fun _ _ hρ hm => r_store sz36 (hρ _ _ rfl) (hρ _ _ rfl) (hm.at 2 rfl) rfl rfl rfl rfl) rfl rfl (w_n rfl) ?_
    refine TL_q (.bool true) (fun _ _ hρ _ => r_assign (hρ _ _ rfl)) rfl rfl rfl (w_n rfl) ?_
    refine TL_seq ?_
    refine T_ret' ?_
    refine ret_of rfl (.tuple #[.agg #[.int .u64 y9.i.t, .int .i64 y9.i.s, .int .u64 y9.i.q, .pointer y9.ptr], .bool true]) (fun tmps w hk hm => res2 rfl (res_cell (hk 4 _ rfl) (run_loadVar_agg ag36 sz36 (hm.at 2 rfl) (Nat.le_of_ble_eq_true rfl) rfl)) (res_tmp (hk 5 _ rfl))) (fun w hm => ?_)
    exact ⟨by rw [bel_some hy9, dec_pos (by omega)], hm.ext⟩

theorem fold_ok (ms : List Mk) (a : Option Addr) (cap : Nat) (t : Int) (w : World) (hv : SliceAt w a cap 4 Mk.cells ms) (hcap : cap ≤ Go.maxLen) (hmk : marksB ms = true) : Calls Try.prog 28 #[.slice a ms.length cap, .int .u64 t] w fun e w' => ∃ a' cap', e = .returned (.slice a' (ms.filter (fun x : Mk => decide (t < x.i.t))).length cap') ∧ Below w.heap.size w w' ∧ w'.ownsRow w.heap.size 36 4 (.slice a' (ms.filter (fun x : Mk => decide (t < x.i.t))).length cap') (ms.filter (fun x : Mk => decide (t < x.i.t))).length ((ms.filter (fun x : Mk => decide (t < x.i.t))).flatMap Mk.cells) := by
  have hvl := hv.1
  unfold Go.maxLen at hcap
  have hm6 := (marksB_iff.1 hmk).2.2
  refine calls_of_T (l := [.slice a ms.length cap, .int .u64 t]) 11 Try.func28 rfl rfl rfl ?_
  show T _ _ _ [(0, .slice a ms.length cap), (1, .int .u64 t)] []
  refine T_seq (T_region ?_)
  refine TL_new 1 (.cells #[.int .u64 t] 30) (fun B => .pointer (some ⟨B, 0, none⟩)) (fun _ _ hρ _ => r_box (hρ _ _ rfl) rfl) rfl rfl rfl (w_n rfl) ?_
  intro B1
  refine TL_q (.slice none 0 0) (fun _ _ hρ _ => r_assign (hρ _ _ rfl)) rfl rfl rfl (w_n rfl) ?_
  refine TL_seq ?_
  refine T_seq ?_
  refine T_seq (T_region ?_)
  refine TL_q (.slice a ms.length cap) (fun _ _ hρ _ => r_move (hρ _ _ rfl)) rfl rfl rfl (w_n rfl) ?_
  refine TL_call (.int .i64 0) (fun _ _ hρ _ => r_call (args := [.slice a ms.length cap]) (enters_of Try.func14 (by kernel_rfl) rfl) (hρ _ _ rfl) ((cons2 (hρ _ _ rfl) rfl)) rfl) (fun w hm => (check_c ms a cap w (hv.keep hm.ext) hcap).mono fun _ _ h => ⟨h.1.trans (congrArg Ending.returned (int_as (if_pos hmk))), h.2⟩) rfl rfl rfl (w_n rfl) ?_
  refine TL_q (.bool false) (fun _ _ hρ _ => r_as (r_neq (hρ _ _ rfl) (hρ _ _ rfl)) (by rfl)) rfl rfl rfl (w_n rfl) ?_
  refine TL_seq ?_
  refine T_cond_f rfl ?_
  refine T_skip' ?_
  refine p_seq ?_
  refine T_seq (T_region ?_)
  refine TL_q (.slice a ms.length cap) (fun _ _ hρ _ => r_move (hρ _ _ rfl)) rfl rfl rfl (w_n rfl) ?_
  refine TL_q (.func (.func 61) #[] #[.pointer (some ⟨B1, 0, none⟩)]) (fun _ _ hρ _ => r_makeFunc (by simp) (map_arr (cons2 (hρ _ _ rfl) rfl))) rfl rfl rfl (w_n rfl) ?_
  refine TL_callN (fun (_ : Option Addr × Nat) => True) (fun (ar2, cr2) => .slice ar2 ((ms.filter (fun x : Mk => decide (t < x.i.t))).length) cr2) (fun (ar2, cr2) => [(2, .row (.slice ar2 ((ms.filter (fun x : Mk => decide (t < x.i.t))).length) cr2) 36 4 ((ms.filter (fun x : Mk => decide (t < x.i.t))).length) ((ms.filter (fun x : Mk => decide (t < x.i.t))).flatMap Mk.cells))]) (fun _ _ hρ _ => r_call (args := [.slice a ms.length cap, .func (.func 61) #[] #[.pointer (some ⟨B1, 0, none⟩)]]) (enters_of Try.func60 (by kernel_rfl) rfl) (hρ _ _ rfl) ((cons2 (hρ _ _ rfl) (cons2 (hρ _ _ rfl) rfl))) rfl) (fun w hm => (msift_c ms a cap w (hv.keep hm.ext) hcap 61 #[.pointer (some ⟨B1, 0, none⟩)] (enters_of Try.func61 (by kernel_rfl) rfl) (fun x : Mk => decide (t < x.i.t)) (fun w2 hb2 x hx => fold1_c x B1 t w2 (kept hb2 (hm.at 1 rfl))) (by omega)).mono fun e w' ⟨a', cap', he, hb, hr⟩ => ⟨(a', cap'), trivial, he, hb, newOk1 2 hr⟩) rfl rfl rfl (w_n rfl) ?_
  rintro ⟨ar2, cr2⟩ -
  refine TL_q (.slice ar2 ((ms.filter (fun x : Mk => decide (t < x.i.t))).length) cr2) (fun _ _ hρ _ => r_assign (hρ _ _ rfl)) rfl rfl rfl (w_n rfl) ?_
  refine TL_seq ?_
  refine T_ret' ?_
  refine ret_of rfl (.slice ar2 ((ms.filter (fun x : Mk => decide (t < x.i.t))).length) cr2) (fun tmps w hk hm => res1 rfl (res_tmp (hk 4 _ rfl))) (fun w hm => ?_)
  exact ⟨ar2, cr2, rfl, hm.ext, hm.row 2 rfl⟩

theorem due_ok (n : Nat) (ms : List Mk) (a : Option Addr) (cap : Nat) (l : List Tid) (b : Option Addr) (capb : Nat) (w : World) (hv : SliceAt w a cap 4 Mk.cells ms) (hcap : cap ≤ Go.maxLen) (hu : SliceAt w b capb 3 Tid.cells l) (hcapb : capb ≤ Go.maxLen) (hlen : l.length ≤ 100000) (hmk : marksB ms = true) (hn1 : 1 ≤ n) (hn63 : n ≤ 9223372036854775807) (hup : upB l = true) (hok : l.all okI = true) : Calls Try.prog 11 #[.slice a ms.length cap, .slice b l.length capb, .int .i64 (n : Int)] w fun e w' => ∃ a' cap', e = .returned (.slice a' (dueI (idsM ms) l n).length cap') ∧ Below w.heap.size w w' ∧ w'.ownsRow w.heap.size 32 3 (.slice a' (dueI (idsM ms) l n).length cap') (dueI (idsM ms) l n).length ((dueI (idsM ms) l n).flatMap Tid.cells) := by
  have hvl := hv.1
  unfold Go.maxLen at hcap
  have hm6 := (marksB_iff.1 hmk).2.2
  have hul := hu.1
  unfold Go.maxLen at hcapb
  have han : ¬ (l.any (fun x : Tid => !okI x)) = true := fun e => by have := all_not okI l; rw [hok, e] at this; cases this
  have hbl : (l.filter (behI (idsM ms))).length ≤ l.length := List.length_filter_le _ _
  refine calls_of_T (l := [.slice a ms.length cap, .slice b l.length capb, .int .i64 ((n : Nat) : Int)]) 50 Try.func11 rfl rfl rfl ?_
  show T _ _ _ [(0, .slice a ms.length cap), (1, .slice b l.length capb), (2, .int .i64 ((n : Nat) : Int))] []
  refine T_seq (T_region ?_)
  refine TL_new 904 (.cells #[.slice a ms.length cap] 25) (fun B => .pointer (some ⟨B, 0, none⟩)) (fun _ _ hρ _ => r_box (hρ _ _ rfl) rfl) rfl rfl rfl (w_n rfl) ?_
  intro B1
  refine TL_q (.slice none 0 0) (fun _ _ hρ _ => r_assign (hρ _ _ rfl)) rfl rfl rfl (w_n rfl) ?_
  refine TL_seq ?_
  refine T_seq (T_region ?_)
  refine TL_q (.func (.func 40) #[] #[]) (fun _ _ hρ _ => r_assign (hρ _ _ rfl)) rfl rfl rfl (w_n rfl) ?_
  refine TL_seq ?_
  refine T_seq ?_
  refine T_seq (T_region ?_)
  refine TL_q (.slice a ms.length cap) (fun _ _ hρ hm => r_load ag25 (hρ _ _ rfl) (hm.at 904 rfl) rfl) rfl rfl rfl (w_n rfl) ?_
  refine TL_call (.int .i64 0) (fun _ _ hρ _ => r_call (args := [.slice a ms.length cap]) (enters_of Try.func14 (by kernel_rfl) rfl) (hρ _ _ rfl) ((cons2 (hρ _ _ rfl) rfl)) rfl) (fun w hm => (check_c ms a cap w (hv.keep hm.ext) hcap).mono fun _ _ h => ⟨h.1.trans (congrArg Ending.returned (int_as (if_pos hmk))), h.2⟩) rfl rfl rfl (w_n rfl) ?_
  refine TL_q (.bool false) (fun _ _ hρ _ => r_as (r_neq (hρ _ _ rfl) (hρ _ _ rfl)) (by rfl)) rfl rfl rfl (w_n rfl) ?_
  refine TL_q (.bool false) (fun _ _ hρ _ => r_move (hρ _ _ rfl)) rfl rfl rfl (w_n rfl) ?_
  refine TL_q (.int .i64 ((n : Nat) : Int)) (fun _ _ hρ _ => r_move (hρ _ _ rfl)) rfl rfl rfl (want_y 15 rfl rfl rfl) ?_
  refine TL_q (.bool false) (fun _ _ hρ _ => r_as (r_lss (hρ _ _ rfl) (hρ _ _ rfl)) (bool_as (decide_eq_false (by omega)))) rfl rfl rfl (want_y 15 rfl rfl rfl) ?_
  refine TL_q (.bool false) (fun _ _ hρ _ => r_pick_f (hρ _ _ rfl) (hρ _ _ rfl)) rfl rfl rfl (w_n rfl) ?_
  refine TL_q (.bool false) (fun _ _ hρ _ => r_move (hρ _ _ rfl)) rfl rfl rfl (w_n rfl) ?_
  refine TL_q (.slice b l.length capb) (fun _ _ hρ _ => r_move (hρ _ _ rfl)) rfl rfl rfl (want_y 19 rfl rfl rfl) ?_
  refine TL_call (.bool true) (fun _ _ hρ _ => r_call (args := [.slice b l.length capb]) (enters_of Try.func15 (by kernel_rfl) rfl) (hρ _ _ rfl) ((cons2 (hρ _ _ rfl) rfl)) rfl) (fun w hm => (rising_c l b capb w (hu.keep hm.ext) hcapb).mono fun _ _ h => ⟨h.1.trans (congrArg Ending.returned (bool_as hup)), h.2⟩) rfl rfl rfl (want_y 19 rfl rfl rfl) ?_
  refine TL_q (.bool false) (fun _ _ hρ _ => r_not (b := true) (hρ _ _ rfl)) rfl rfl rfl (want_y 19 rfl rfl rfl) ?_
  refine TL_q (.bool false) (fun _ _ hρ _ => r_pick_f (hρ _ _ rfl) (hρ _ _ rfl)) rfl rfl rfl (w_n rfl) ?_
  refine TL_q (.bool false) (fun _ _ hρ _ => r_move (hρ _ _ rfl)) rfl rfl rfl (w_n rfl) ?_
  refine TL_q (.slice b l.length capb) (fun _ _ hρ _ => r_move (hρ _ _ rfl)) rfl rfl rfl (want_y 24 rfl rfl rfl) ?_
  refine TL_q (.func (.func 40) #[] #[]) (fun _ _ hρ _ => r_move (hρ _ _ rfl)) rfl rfl rfl (want_y 24 rfl rfl rfl) ?_
  refine TL_call (.bool false) (fun _ _ hρ _ => r_call (args := [.slice b l.length capb, .func (.func 40) #[] #[]]) (enters_of Try.func41 (by kernel_rfl) rfl) (hρ _ _ rfl) ((cons2 (hρ _ _ rfl) (cons2 (hρ _ _ rfl) rfl))) rfl) (fun w hm => (icon_c l b capb w (hu.keep hm.ext) hcapb 40 #[] (enters_of Try.func40 (by kernel_rfl) rfl) (fun x : Tid => !okI x) (fun w2 hb2 x hx => due1_c x w2)).mono fun _ _ h => ⟨h.1.trans (congrArg Ending.returned (bool_as (eq_false_of_ne_true han))), h.2⟩) rfl rfl rfl (want_y 24 rfl rfl rfl) ?_
  refine TL_q (.bool false) (fun _ _ hρ _ => r_pick_f (hρ _ _ rfl) (hρ _ _ rfl)) rfl rfl rfl (w_n rfl) ?_
  refine TL_seq ?_
  refine T_cond_f rfl ?_
  refine T_skip' ?_
  refine p_seq ?_
  refine T_seq (T_region ?_)
  refine TL_q (.slice b l.length capb) (fun _ _ hρ _ => r_move (hρ _ _ rfl)) rfl rfl rfl (w_n rfl) ?_
  refine TL_q (.func (.func 43) #[] #[.pointer (some ⟨B1, 0, none⟩)]) (fun _ _ hρ _ => r_makeFunc (by simp) (map_arr (cons2 (hρ _ _ rfl) rfl))) rfl rfl rfl (w_n rfl) ?_
  refine TL_callN (fun (_ : Option Addr × Nat) => True) (fun (ar2, cr2) => .slice ar2 ((l.filter (behI (idsM ms))).length) cr2) (fun (ar2, cr2) => [(1, .row (.slice ar2 ((l.filter (behI (idsM ms))).length) cr2) 32 3 ((l.filter (behI (idsM ms))).length) ((l.filter (behI (idsM ms))).flatMap Tid.cells))]) (fun _ _ hρ _ => r_call (args := [.slice b l.length capb, .func (.func 43) #[] #[.pointer (some ⟨B1, 0, none⟩)]]) (enters_of Try.func42 (by kernel_rfl) rfl) (hρ _ _ rfl) ((cons2 (hρ _ _ rfl) (cons2 (hρ _ _ rfl) rfl))) rfl) (fun w hm => (isift_c l b capb w (hu.keep hm.ext) hcapb 43 #[.pointer (some ⟨B1, 0, none⟩)] (enters_of Try.func43 (by kernel_rfl) rfl) (behI (idsM ms)) (fun w2 hb2 x hx => due2_c x B1 ms a cap w2 (SliceAt.keep (hv.keep hm.ext) hb2) hcap (kept hb2 (hm.at 904 rfl))) (by omega)).mono fun e w' ⟨a', cap', he, hb, hr⟩ => ⟨(a', cap'), trivial, he, hb, newOk1 1 hr⟩) rfl rfl rfl (w_n rfl) ?_
  rintro ⟨ar2, cr2⟩ -
  refine TL_q (.slice ar2 ((l.filter (behI (idsM ms))).length) cr2) (fun _ _ hρ _ => r_assign (hρ _ _ rfl)) rfl rfl rfl (w_n rfl) ?_
  refine TL_seq ?_
  refine T_seq (T_region ?_)
  refine TL_q (.slice none 0 0) (fun _ _ hρ _ => r_assign (hρ _ _ rfl)) rfl rfl rfl (w_n rfl) ?_
  refine TL_seq ?_
  refine T_seq ?_
  refine T_mem (_ :: _) (fun _ hm => hm.nilRow 950 32 3) ?_
  refine T_seq (T_region ?_)
  refine TL_q (.slice ar2 ((l.filter (behI (idsM ms))).length) cr2) (fun _ _ hρ _ => r_move (hρ _ _ rfl)) rfl rfl rfl (w_n rfl) ?_
  refine TL_q (.int .i64 (((l.filter (behI (idsM ms))).length : Nat) : Int)) (fun _ _ hρ _ => r_len sl22 (hρ _ _ rfl)) rfl rfl rfl (w_n rfl) ?_
  refine TL_q (.int .i64 0) (fun _ _ hρ _ => r_move (hρ _ _ rfl)) rfl rfl rfl (w_n rfl) ?_
  refine TL_seq ?_
  refine T_block ?_
  refine T_loop (ι := Nat × List Tid × Option Addr × Nat) (fun (z : Nat × List Tid × Option Addr × Nat) => match z with | (k, os, oa, oc) => k ≤ (l.filter (behI (idsM ms))).length ∧ os = evN (l.filter (behI (idsM ms))) n k) (fun (z : Nat × List Tid × Option Addr × Nat) => match z with | (k, os, oa, oc) => [(2, .int .i64 ((n : Nat) : Int)), (6, .slice none 0 0), (32, .slice ar2 ((l.filter (behI (idsM ms))).length) cr2), (33, .int .i64 (((l.filter (behI (idsM ms))).length : Nat) : Int)), (34, .int .i64 ((k : Nat) : Int)), (9, .slice oa os.length oc)]) (fun (z : Nat × List Tid × Option Addr × Nat) => match z with | (k, os, oa, oc) => [(1, .row (.slice ar2 ((l.filter (behI (idsM ms))).length) cr2) 32 3 ((l.filter (behI (idsM ms))).length) ((l.filter (behI (idsM ms))).flatMap Tid.cells)), (904, .blk B1 (.cells #[.slice a ms.length cap] 25)), (950, .row (.slice oa os.length oc) 32 3 os.length (os.flatMap Tid.cells))]) (fun (z : Nat × List Tid × Option Addr × Nat) => match z with | (k, os, oa, oc) => (l.filter (behI (idsM ms))).length - k) (0, [], none, 0) ⟨Nat.zero_le _, rfl⟩ (sub_cons rfl (sub_cons rfl (sub_cons rfl (sub_cons rfl (sub_cons rfl (sub_cons rfl sub_nil)))))) (sub_cons rfl (sub_cons rfl (sub_cons rfl sub_nil))) ?_
  rintro ⟨k, os, oa, oc⟩ hp
  obtain ⟨hk, hos⟩ := hp
  have hol : os.length ≤ k := by rw [hos]; exact ev_len _ _ _
  show T _ _ _ [(2, .int .i64 ((n : Nat) : Int)), (6, .slice none 0 0), (32, .slice ar2 ((l.filter (behI (idsM ms))).length) cr2), (33, .int .i64 (((l.filter (behI (idsM ms))).length : Nat) : Int)), (34, .int .i64 ((k : Nat) : Int)), (9, .slice oa os.length oc)] [(1, .row (.slice ar2 ((l.filter (behI (idsM ms))).length) cr2) 32 3 ((l.filter (behI (idsM ms))).length) ((l.filter (behI (idsM ms))).flatMap Tid.cells)), (904, .blk B1 (.cells #[.slice a ms.length cap] 25)), (950, .row (.slice oa os.length oc) 32 3 os.length (os.flatMap Tid.cells))]
  refine T_seq (T_region ?_)
  refine TL_q (.bool (decide (((k : Nat) : Int) < (((l.filter (behI (idsM ms))).length : Nat) : Int)))) (fun _ _ hρ _ => r_lss (hρ _ _ rfl) (hρ _ _ rfl)) rfl rfl rfl (w_n rfl) ?_
  refine TL_seq ?_
  refine T_seq ?_
  refine T_cond rfl (fun h1 => ?_) (fun h1 => ?_)
  · replace h1 := of_decide_eq_true h1
    refine T_skip' ?_
    refine p_seq ?_
    refine T_seq ?_
    refine T_block ?_
    obtain ⟨p9, hp9⟩ : ∃ x, (l.filter (behI (idsM ms)))[k]? = some x := ⟨_, List.getElem?_eq_getElem (by omega)⟩
    refine T_row 1 rfl (by omega) (fun g3 ha3 => ?_)
    subst ha3
    refine T_rowcap 1 rfl (fun hrc3 => ?_)
    refine T_seq (T_region ?_)
    refine TL_q (.int .i64 ((k : Nat) : Int)) (fun _ _ hρ _ => r_move (hρ _ _ rfl)) rfl rfl rfl (w_n rfl) ?_
    refine TL_q (.pointer (some ⟨g3, 0 + k * 3, none⟩)) (fun _ _ hρ _ => r_indexAddrS (i := k) sl22 sz32 (hρ _ _ rfl) (hρ _ _ rfl) (by omega)) rfl rfl rfl (w_n rfl) ?_
    refine TL_q (.agg #[.int .u64 p9.t, .int .i64 p9.s, .int .u64 p9.q]) (fun _ _ hρ hm => r_loadOwn (f := Tid.cells) (u := p9) (l := (l.filter (behI (idsM ms)))) ag32 sz32 (hρ _ _ rfl) (hm.row 1 rfl) rfl rfl Tid.cells_len hp9) rfl rfl rfl (w_n rfl) ?_
    refine TL_new 2 (.cells #[.int .u64 0, .int .i64 0, .int .u64 0] 32) (fun B => .pointer (some ⟨B, 0, none⟩)) (fun _ _ _ _ => r_alloc (v := .agg #[.int .u64 0, .int .i64 0, .int .u64 0]) (by kernel_rfl) rfl) rfl rfl rfl (w_n rfl) ?_
    intro B4
    refine TL_q (.int .i64 ((k : Nat) : Int)) (fun _ _ hρ _ => r_assign (hρ _ _ rfl)) rfl rfl rfl (w_n rfl) ?_
    refine TL_store 2 (.cells #[.int .u64 p9.t, .int .i64 p9.s, .int .u64 p9.q] 32) rfl (fun _ _ hρ hm => r_store sz32 (hρ _ _ rfl) (hρ _ _ rfl) (hm.at 2 rfl) rfl rfl rfl rfl) rfl rfl (w_n rfl) ?_
    refine TL_seq ?_
    by_cases hz : (((k + 1) % n : Nat) : Int) = 0
    · skip
      refine T_seq (T_region ?_)
      refine TL_q (.int .i64 ((k : Nat) : Int)) (fun _ _ hρ _ => r_move (hρ _ _ rfl)) rfl rfl rfl (w_n rfl) ?_
      refine TL_q (.int .i64 ((k + 1 : Nat) : Int)) (fun _ _ hρ _ => r_as (r_add (hρ _ _ rfl) (hρ _ _ rfl)) (int_as ((wrap64 (by omega) (by omega)).trans (by omega)))) rfl rfl rfl (w_n rfl) ?_
      refine TL_q (.int .i64 ((n : Nat) : Int)) (fun _ _ hρ _ => r_move (hρ _ _ rfl)) rfl rfl rfl (w_n rfl) ?_
      refine TL_q (.int .i64 (((k + 1) % n : Nat) : Int)) (fun _ _ hρ _ => r_as (r_rem (hρ _ _ rfl) (hρ _ _ rfl) (by omega)) (int_as (Int.ofNat_tmod _ _).symm)) rfl rfl rfl (w_n rfl) ?_
      refine TL_q (.bool true) (fun _ _ hρ _ => r_as (r_eql (hρ _ _ rfl) (hρ _ _ rfl)) (bool_as (decide_eq_true hz))) rfl rfl rfl (w_n rfl) ?_
      refine TL_seq ?_
      refine T_cond_t rfl ?_
      refine T_region ?_
      refine TL_q (.slice oa os.length oc) (fun _ _ hρ _ => r_move (hρ _ _ rfl)) rfl rfl rfl (w_n rfl) ?_
      refine TL_q (.agg #[.int .u64 p9.t, .int .i64 p9.s, .int .u64 p9.q]) (fun _ _ hρ hm => r_loadA ag32 sz32 (hρ _ _ rfl) (hm.at 2 rfl) rfl rfl) rfl rfl rfl (w_n rfl) ?_
      refine TL_new 3 (.cells #[.int .u64 p9.t, .int .i64 p9.s, .int .u64 p9.q] 32) (fun B => .slice (some ⟨B, 0, none⟩) 1 1) (fun _ _ hρ _ => r_buildSlice (vs := [(0, .agg #[.int .u64 p9.t, .int .i64 p9.s, .int .u64 p9.q])]) (by kernel_rfl) (cons2 (pair2 (hρ _ _ rfl)) rfl)) rfl rfl rfl (w_n rfl) ?_
      intro B5
      refine TL_append (n := os.length) (m := 1) (xs := (os.flatMap Tid.cells)) (news := [.int .u64 p9.t, .int .i64 p9.s, .int .u64 p9.q]) (z := .agg #[.int .u64 0, .int .i64 0, .int .u64 0]) 950 rfl rfl rfl sl22 sz32 by32 (by kernel_rfl) rfl rfl (.inl rfl) (fun _ hm => src_blk (news := [.int .u64 p9.t, .int .i64 p9.s, .int .u64 p9.q]) (hm.at 3 rfl) rfl) (by simp [Value.oneCell']) (by omega) (by omega) rfl (w_n rfl) ?_
      intro a6 cap6
      refine TL_q (.slice a6 (os.length + 1) cap6) (fun _ _ hρ _ => r_assign (hρ _ _ rfl)) rfl rfl rfl (w_n rfl) ?_
      refine TL_nil ?_
      refine p_blk_n ?_
      refine p_seq ?_
      refine T_region ?_
      refine TL_q (.int .i64 ((k + 1 : Nat) : Int)) (fun _ _ hρ _ => r_as (r_add (hρ _ _ rfl) (hρ _ _ rfl)) (int_as ((wrap64 (by omega) (by omega)).trans (by omega)))) rfl rfl rfl (w_n rfl) ?_
      refine TL_q (.int .i64 ((k + 1 : Nat) : Int)) (fun _ _ hρ _ => r_move (hρ _ _ rfl)) rfl rfl rfl (w_n rfl) ?_
      refine TL_nil ?_
      have hn7 : (os.length + 1) = (os ++ [p9]).length := by simp
      have hx7 : ((os.flatMap Tid.cells) ++ [.int .u64 p9.t, .int .i64 p9.s, .int .u64 p9.q]) = (os ++ [p9]).flatMap Tid.cells := by simp [Tid.cells]
      rw [hx7, hn7]
      exact p_at (k + 1, os ++ [p9], a6, cap6) ⟨⟨by omega, by rw [ev_t hp9 (Int.natCast_eq_zero.1 hz), ← hos]⟩, by dsimp only; omega⟩ (sub_cons rfl (sub_cons rfl (sub_cons rfl (sub_cons rfl (sub_cons rfl (sub_cons rfl sub_nil)))))) (sub_cons rfl (sub_cons rfl (sub_cons rfl sub_nil)))
    · skip
      refine T_seq (T_region ?_)
      refine TL_q (.int .i64 ((k : Nat) : Int)) (fun _ _ hρ _ => r_move (hρ _ _ rfl)) rfl rfl rfl (w_n rfl) ?_
      refine TL_q (.int .i64 ((k + 1 : Nat) : Int)) (fun _ _ hρ _ => r_as (r_add (hρ _ _ rfl) (hρ _ _ rfl)) (int_as ((wrap64 (by omega) (by omega)).trans (by omega)))) rfl rfl rfl (w_n rfl) ?_
      refine TL_q (.int .i64 ((n : Nat) : Int)) (fun _ _ hρ _ => r_move (hρ _ _ rfl)) rfl rfl rfl (w_n rfl) ?_
      refine TL_q (.int .i64 (((k + 1) % n : Nat) : Int)) (fun _ _ hρ _ => r_as (r_rem (hρ _ _ rfl) (hρ _ _ rfl) (by omega)) (int_as (Int.ofNat_tmod _ _).symm)) rfl rfl rfl (w_n rfl) ?_
      refine TL_q (.bool false) (fun _ _ hρ _ => r_as (r_eql (hρ _ _ rfl) (hρ _ _ rfl)) (bool_as (decide_eq_false hz))) rfl rfl rfl (w_n rfl) ?_
      refine TL_seq ?_
      refine T_cond_f rfl ?_
      refine T_skip' ?_
      refine p_blk_n ?_
      refine p_seq ?_
      refine T_region ?_
      refine TL_q (.int .i64 ((k + 1 : Nat) : Int)) (fun _ _ hρ _ => r_as (r_add (hρ _ _ rfl) (hρ _ _ rfl)) (int_as ((wrap64 (by omega) (by omega)).trans (by omega)))) rfl rfl rfl (w_n rfl) ?_
      refine TL_q (.int .i64 ((k + 1 : Nat) : Int)) (fun _ _ hρ _ => r_move (hρ _ _ rfl)) rfl rfl rfl (w_n rfl) ?_
      refine TL_nil ?_
      exact p_at (k + 1, os, oa, oc) ⟨⟨by omega, by rw [ev_f (fun e => hz (Int.natCast_eq_zero.2 e))]; exact hos⟩, by dsimp only; omega⟩ (sub_cons rfl (sub_cons rfl (sub_cons rfl (sub_cons rfl (sub_cons rfl (sub_cons rfl sub_nil)))))) (sub_cons rfl (sub_cons rfl (sub_cons rfl sub_nil)))
  · replace h1 := of_decide_eq_false h1
    refine T_exit' ?_
    refine p_then_x ?_
    refine p_then_x ?_
    refine p_blk_x ?_
    refine p_seq ?_
    refine T_seq (T_region ?_)
    refine TL_q (.slice oa os.length oc) (fun _ _ hρ _ => r_move (hρ _ _ rfl)) rfl rfl rfl (w_n rfl) ?_
    refine TL_q (.slice oa os.length oc) (fun _ _ hρ _ => r_assign (hρ _ _ rfl)) rfl rfl rfl (w_n rfl) ?_
    refine TL_seq ?_
    refine T_ret' ?_
    refine ret_of rfl (.slice oa os.length oc) (fun tmps w hk hm => res1 rfl (res_tmp (hk 6 _ rfl))) (fun w hm => ?_)
    have hke : k = (l.filter (behI (idsM ms))).length := by omega
    subst hke
    subst hos
    exact ⟨oa, oc, rfl, hm.ext, hm.row 950 rfl⟩

end Go.Proofs.Ytmihoejecpcmjaa
/- marks: what becomes of a row's cells when something is put in or taken out (plainly). -/
namespace Go.Proofs.Ytmihoejecpcmjaa
open Go Go.RowKit
section
variable {α : Type} {f : α → List Value}
theorem copy_at {A B C X : List Value} {n : Nat} (h1 : A.length = n) (h2 : B.length = X.length) : (A ++ B ++ C).take n ++ X ++ (A ++ B ++ C).drop (n + X.length) = A ++ X ++ C := by
  subst h1
  have e1 : (A ++ B ++ C).take A.length = A := by rw [List.append_assoc, List.take_left' rfl]
  have e2 : (A ++ B ++ C).drop (A.length + X.length) = C := by rw [← h2, ← List.length_append, List.drop_left' rfl]
  rw [e1, e2]
theorem flat_take {s : Nat} (hf : ∀ x, (f x).length = s) (l : List α) {i : Nat} (hi : i ≤ l.length) : (l.flatMap f).take (i * s) = (l.take i).flatMap f := by
  have h : (l.take i).flatMap f ++ (l.drop i).flatMap f = l.flatMap f := by rw [← List.flatMap_append, List.take_append_drop]
  rw [← h]
  exact List.take_left' (by rw [flat_length hf, List.length_take, Nat.min_eq_left hi])
theorem flat_cut (l : List α) (i : Nat) : l.flatMap f = (l.take i).flatMap f ++ (l.drop i).flatMap f := by rw [← List.flatMap_append, List.take_append_drop]
theorem zs_len {s : Nat} (z : List Value) (hz : z.length = s) : ∀ k, ((List.replicate k z).flatten).length = k * s
  | 0 => by simp
  | k + 1 => by rw [List.replicate_succ, List.flatten_cons, List.length_append, zs_len z hz k, hz, Nat.add_mul, Nat.one_mul, Nat.add_comm]
variable {m : α} {ms : List α} {i : Nat} {z ys : List Value}
theorem grow1 (hf : ∀ x, (f x).length = 4) (hz : z.length = 4) (hi : i ≤ ms.length) :
    ((ms.flatMap f).take (i * 4) ++ (List.replicate ((ms.length + 1) - i) z).flatten).take (i * 4) ++ f m ++ ((ms.flatMap f).take (i * 4) ++ (List.replicate ((ms.length + 1) - i) z).flatten).drop (i * 4 + (f m).length) = (ms.take i).flatMap f ++ f m ++ (List.replicate (ms.length - i) z).flatten := by
  rw [show (ms.length + 1) - i = (ms.length - i) + 1 by omega, List.replicate_succ, List.flatten_cons, ← List.append_assoc, flat_take hf ms hi]
  exact copy_at (by rw [flat_length hf, List.length_take, Nat.min_eq_left hi]) (by rw [hz, hf])
theorem grow2 (hf : ∀ x, (f x).length = 4) (hz : z.length = 4) (hi : i ≤ ms.length) :
    ((ms.take i).flatMap f ++ f m ++ (List.replicate (ms.length - i) z).flatten).take ((i + 1) * 4) ++ (ms.drop i).flatMap f ++ ((ms.take i).flatMap f ++ f m ++ (List.replicate (ms.length - i) z).flatten).drop ((i + 1) * 4 + ((ms.drop i).flatMap f).length) = (ms.take i ++ m :: ms.drop i).flatMap f := by
  have h := copy_at (A := (ms.take i).flatMap f ++ f m) (B := (List.replicate (ms.length - i) z).flatten) (C := []) (X := (ms.drop i).flatMap f) (n := (i + 1) * 4)
    (by rw [List.length_append, flat_length hf, List.length_take, Nat.min_eq_left hi, hf]; omega) (by rw [zs_len z hz, flat_length hf, List.length_drop])
  rw [List.append_nil, List.append_nil] at h
  rw [h, List.flatMap_append, List.flatMap_cons, List.append_assoc]
theorem room1 (hf : ∀ x, (f x).length = 4) (hy : ys.length = 4) (hi : i ≤ ms.length) :
    (ms.flatMap f ++ ys).take ((i + 1) * 4) ++ (ms.drop i).flatMap f ++ (ms.flatMap f ++ ys).drop ((i + 1) * 4 + ((ms.drop i).flatMap f).length) = (ms.take i).flatMap f ++ ((ms.drop i).flatMap f ++ ys).take 4 ++ (ms.drop i).flatMap f := by
  have hl : ((ms.drop i).flatMap f).length = (ms.length - i) * 4 := by rw [flat_length hf, List.length_drop]
  have hA : ((ms.take i).flatMap f).length = i * 4 := by rw [flat_length hf, List.length_take, Nat.min_eq_left hi]
  have e0 : ms.flatMap f ++ ys = (ms.take i).flatMap f ++ ((ms.drop i).flatMap f ++ ys) := by rw [flat_cut ms i, List.append_assoc]
  have e1 : ((ms.take i).flatMap f ++ ((ms.drop i).flatMap f ++ ys)).take ((i + 1) * 4) = (ms.take i).flatMap f ++ ((ms.drop i).flatMap f ++ ys).take 4 := by
    rw [List.take_append, List.take_of_length_le (l := (ms.take i).flatMap f) (by omega), hA, show (i + 1) * 4 - i * 4 = 4 by omega]
  have e2 : ((ms.take i).flatMap f ++ ((ms.drop i).flatMap f ++ ys)).drop ((i + 1) * 4 + ((ms.drop i).flatMap f).length) = [] := List.drop_of_length_le (by rw [List.length_append, List.length_append, hA, hl, hy]; omega)
  rw [e0, e1, e2, List.append_nil]
theorem room2 (hf : ∀ x, (f x).length = 4) (hy : ys.length = 4) (hi : i ≤ ms.length) :
    ((ms.take i).flatMap f ++ ((ms.drop i).flatMap f ++ ys).take 4 ++ (ms.drop i).flatMap f).take (i * 4) ++ f m ++ ((ms.take i).flatMap f ++ ((ms.drop i).flatMap f ++ ys).take 4 ++ (ms.drop i).flatMap f).drop (i * 4 + (f m).length) = (ms.take i ++ m :: ms.drop i).flatMap f := by
  have h := copy_at (A := (ms.take i).flatMap f) (B := ((ms.drop i).flatMap f ++ ys).take 4) (C := (ms.drop i).flatMap f) (X := f m) (n := i * 4)
    (by rw [flat_length hf, List.length_take, Nat.min_eq_left hi]) (by rw [hf, List.length_take, List.length_append, hy]; omega)
  rw [h, List.flatMap_append, List.flatMap_cons, List.append_assoc]
theorem del1 (hf : ∀ x, (f x).length = 4) {j : Nat} (hj : j < ms.length) : (ms.flatMap f).take (j * 4) ++ (ms.flatMap f).drop ((j + 1) * 4) = (ms.eraseIdx j).flatMap f := by
  rw [flat_take hf ms (Nat.le_of_lt hj), flat_drop hf, List.eraseIdx_eq_take_drop_succ, List.flatMap_append]
theorem app_left {l r : List Value} {k : Nat} {u : Value} (h : l[k]? = some u) : (l ++ r)[k]? = some u := by
  rw [List.getElem?_append_left (List.getElem?_eq_some_iff.1 h).1]; exact h
theorem ins_len (hi : i ≤ ms.length) : (ms.take i ++ m :: ms.drop i).length = ms.length + 1 := by
  rw [List.length_append, List.length_cons, List.length_take, List.length_drop]; omega
theorem ins_end : ms.take ms.length ++ m :: ms.drop ms.length = ms ++ [m] := by rw [List.take_length, List.drop_length]
end
end Go.Proofs.Ytmihoejecpcmjaa
/- append onto a slice of a type of its own: what is appended may be of another slice type. -/
namespace Go.Proofs.Ytmihoejecpcmjaa
open Go Go.RowKit
section
variable {P : Program} {w w₀ : World} {ρ : Operand → Value} {d : Option Tmp} {ty : TypeId} {ps : String} {af : Array Edge} {g : Option (Nat × Bool)} {L : Heap}
theorem run_append_tt {t t2 ty e e2 : TypeId} (ht : sliOf P t = some e) (ht2 : sliOf P t2 = some e2) (a : Option Addr) (n c : Nat) (v2 : Value) (w : World) :
    (Builtin.append_ #[t, t2] ty #[.slice a n c, v2]).run P w = (Builtin.append_ #[t, t] ty #[.slice a n c, v2]).run P w := by
  unfold Builtin.append_
  simp only [List.getElem?_toArray, List.getElem?_cons_zero, List.getElem?_cons_succ]
  rw [run_underlying (und_sli ht), run_underlying (und_sli ht)]
  dsimp only
  rw [Sem.run_bind, Sem.run_bind]
  cases (sizeOf e).run P w with
  | ok s w' =>
    show Sem.run P _ w' = Sem.run P _ w'
    rw [run_underlying (und_sli ht2), run_underlying (und_sli ht)]
  | _ => rfl
theorem o_appT {x y : Operand} {ats : Array TypeId} {t t2 e e2 : TypeId} {s by' n m cap : Nat} {a : Option Addr} {z v2 : Value} {xs news : List Value} (i : Nat) (hi : lk L i = some (.row (.slice a n cap) e s n xs)) (hat : ats = #[t, t2]) (hx : ρ x = .slice a n cap) (hy : ρ y = v2) (ht : sliOf P t = some e) (ht2 : sliOf P t2 = some e2)
    (hs : szOf P e = some s) (hby : byOf P e = some by') (hz : zeroOf P e = some z) (hzs : z.cells.size = s) (hsp : Nat.blt 0 s = true) (hsrc : Src w v2 s m news) (hone : ∀ u ∈ news, u.oneCell' = true) (h63 : n + m ≤ 4611686018427387904) (hb : (n + m) * by' ≤ 140737488355328) (hm : MemOk w₀ L w) :
    ∃ (c : Option Addr × Nat) (w' : World), (execOp ρ (mk d (.call { callee := .builtin .append, args := #[x, y], argTypes := ats }) ty ps af g)).run P w = .ok (.value (.slice c.1 (n + m) c.2)) w' ∧ MemOk w₀ ((i, .row (.slice c.1 (n + m) c.2) e s (n + m) (xs ++ news)) :: L) w' := by
  subst hat
  obtain ⟨a', cap', w', hr, hm'⟩ := run_appendX (P := P) (ty := ty) hm i ht hs hby hz hzs hsp (.inl hi) hsrc hone h63 hb
  refine ⟨(a', cap'), w', ?_, hm'⟩
  rw [run_builtin]
  simp only [List.map_toArray, List.map_cons, List.map_nil, hx, hy]
  exact run_v ((run_append_tt ht ht2 a n cap v2 w).trans hr)
end
section
variable {C : Cx} {ops : Array Oper} {os : List Oper} {Q : Post} {K : List (Nat × Value)} {L : Heap} {o : Oper}
/-- An operation whose answer goes nowhere. -/
theorem TL_opV (L' : Heap) (hr : ∀ ρ w, Rd K ρ → MemOk C.w₀ L w → ∃ w', (execOp ρ o).run C.P w = .ok (.value (.tuple #[])) w' ∧ MemOk C.w₀ L' w') (hd : o.dst = none) (hn : isDefer o.op = false) (hw : Want ops K o true)
    (h : TL C ops os Q K L') : TL C ops (o :: os) Q K L := by
  intro a w hf hm
  unfold wpListIn
  rw [hw.is hf, if_pos rfl]
  obtain ⟨w', h1, h2⟩ := hr _ _ hf.rd hm
  refine step_val hn h1 ?_
  rw [hd]
  exact h _ _ hf h2
end
end Go.Proofs.Ytmihoejecpcmjaa
/- Contracts over an open list of what is known of memory: numbers that are free, entries told again. Over any program. -/
namespace Go.Proofs.Ytmihoejecpcmjaa
open Go Go.RowKit
/-- No entry bears a number from a on, below b. -/
def NoIds (L : Heap) (a b : Nat) : Prop := ∀ k, a ≤ k → k < b → lk L k = none
theorem NoIds.sub {L : Heap} {a b c d : Nat} (h : NoIds L a b) (h1 : Nat.ble a c = true) (h2 : Nat.ble d b = true) : NoIds L c d := fun k hk hk2 => h k (Nat.le_trans (Nat.le_of_ble_eq_true h1) hk) (Nat.lt_of_lt_of_le hk2 (Nat.le_of_ble_eq_true h2))
/-- A thing under another number. -/
theorem MemOk.move {w₀ w : World} {L : Heap} (h : MemOk w₀ L w) (i j : Nat) {r : Res} (hj : lk L j = some r) (hne : Nat.beq i j = false) : MemOk w₀ ((i, r) :: (j, .no) :: L) w := by
  have hij : i ≠ j := fun e => by subst e; rw [Nat.beq_refl] at hne; cases hne
  have h0 : MemOk w₀ ((j, .no) :: L) w := h.set j _ h.ext ⟨trivial, (fun _ hb => hb.elim), fun _ _ _ _ => trivial⟩ (fun _ _ _ _ b _ => ⟨rfl, id⟩)
  refine h0.set i r h0.ext (h.own j r hj) (fun k q hk hne' b hb => ⟨rfl, fun hr => ?_⟩)
  by_cases e2 : j = k
  · subst e2; rw [lk_cons_same] at hk; cases hk; exact hb
  · rw [lk_cons_other _ _ e2] at hk
    exact h.sep j k r q hj hk e2 b hr hb
section
variable {C : Cx} {Q : Post} {K : List (Nat × Value)} {L : Heap}
end
end Go.Proofs.Ytmihoejecpcmjaa
