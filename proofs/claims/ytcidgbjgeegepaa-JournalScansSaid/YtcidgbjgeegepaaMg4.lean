/- Texts of this seat, merged: part 4. -/
import Derived.Test.YtcidgbjgeegepaaMg3
/- net and journal: First, records. Printed by a program of this seat's prover. -/
namespace Go.Proofs.Ytcidgbjgeegepaa
open Go Go.RowKit
set_option maxRecDepth 10000
theorem first1_c (T0 : Nat) (l : List By) (a : Option Addr) (cap : Nat) (w : World) (hv : SliceAt w a cap 1 byc l) (hcap : cap ≤ Go.maxLen) (h0 : hp w T0 = some (.cells #[.slice a l.length cap] 34)) (h : firstE l = 0) : Calls Try.prog 91 #[.pointer (some ⟨T0, 0, none⟩)] w fun e w' => ∃ a' cap', e = .returned (.agg #[.slice a' (heldP l).length cap', .int .i64 (((heldP l).length + 8 : Nat) : Int)]) ∧ Below w.heap.size w w' ∧ (Res.sl a' cap' (heldP l)).ok w.heap.size w' := by
  refine calls_of_T (l := [.pointer (some ⟨T0, 0, none⟩)]) 4 Try.func91 rfl rfl rfl ?_
  show T _ _ _ [(0, .pointer (some ⟨T0, 0, none⟩))] []
  refine T_seq (T_region ?_)
  refine TL_new 1 (.cells #[.slice none 0 0, .int .i64 0] 121) (fun B => .pointer (some ⟨B, 0, none⟩)) (fun _ _ _ _ => r_alloc (v := .agg #[.slice none 0 0, .int .i64 0]) (by kernel_rfl) rfl) rfl rfl rfl (w_n rfl) ?_
  intro B1
  refine TL_seq ?_
  refine T_seq (T_region ?_)
  refine TL_q (.slice a l.length cap) (fun _ _ hρ hm => r_load ag34 (hρ _ _ rfl) (hm.old h0) rfl) rfl rfl rfl (w_n rfl) ?_
  refine TL_callN (fun (_ : Option Addr × Nat) => True) (fun (ah2, ch2) => .agg #[.slice ah2 ((heldP l).length) ch2, .int .i64 (((heldP l).length + 8 : Nat) : Int)]) (fun (ah2, ch2) => [(2, .sl ah2 ch2 (heldP l))]) (fun _ _ hρ _ => r_call (args := [.slice a l.length cap]) (enters_of Try.func92 (by kernel_rfl) rfl) (hρ _ _ rfl) ((cons2 (hρ _ _ rfl) rfl)) rfl) (fun w hm => (first_c l a cap w (hv.keep hm.ext) hcap h).mono fun e w' ⟨a', cap', he, hb, hr⟩ => ⟨(a', cap'), trivial, he, hb, newOk1 2 hr⟩) rfl rfl rfl (w_n rfl) ?_
  rintro ⟨ah2, ch2⟩ -
  refine TL_store 1 (.cells #[.slice ah2 ((heldP l).length) ch2, .int .i64 (((heldP l).length + 8 : Nat) : Int)] 121) rfl (fun _ _ hρ hm => r_store sz121 (hρ _ _ rfl) (hρ _ _ rfl) (hm.at 1 rfl) rfl rfl rfl rfl) rfl rfl (w_n rfl) ?_
  refine TL_seq ?_
  refine T_ret' ?_
  refine ret_of rfl (.agg #[.slice ah2 ((heldP l).length) ch2, .int .i64 (((heldP l).length + 8 : Nat) : Int)]) (fun tmps w hk hm => res1 rfl (res_cell (hk 1 _ rfl) (run_loadVar_agg ag121 sz121 (hm.at 1 rfl) (Nat.le_of_ble_eq_true rfl) rfl))) (fun w hm => ?_)
  exact ⟨ah2, ch2, rfl, hm.ext, hm.own 2 _ rfl⟩

theorem first1_p (T0 : Nat) (l : List By) (a : Option Addr) (cap : Nat) (w : World) (hv : SliceAt w a cap 1 byc l) (hcap : cap ≤ Go.maxLen) (h0 : hp w T0 = some (.cells #[.slice a l.length cap] 34)) (h : ¬ firstE l = 0) : Calls Try.prog 91 #[.pointer (some ⟨T0, 0, none⟩)] w fun e w' => e = .panicked [{ v := .iface 28 (.int .i64 (firstE l)), recovered := false }] ∧ Below w.heap.size w w' := by
  refine calls_of_T (l := [.pointer (some ⟨T0, 0, none⟩)]) 4 Try.func91 rfl rfl rfl ?_
  show T _ _ _ [(0, .pointer (some ⟨T0, 0, none⟩))] []
  refine T_seq (T_region ?_)
  refine TL_new 1 (.cells #[.slice none 0 0, .int .i64 0] 121) (fun B => .pointer (some ⟨B, 0, none⟩)) (fun _ _ _ _ => r_alloc (v := .agg #[.slice none 0 0, .int .i64 0]) (by kernel_rfl) rfl) rfl rfl rfl (w_n rfl) ?_
  intro B1
  refine TL_seq ?_
  refine T_seq (T_region ?_)
  refine TL_q (.slice a l.length cap) (fun _ _ hρ hm => r_load ag34 (hρ _ _ rfl) (hm.old h0) rfl) rfl rfl rfl (w_n rfl) ?_
  refine TL_callQ (v := .iface 28 (.int .i64 (firstE l))) (fun _ _ hρ _ => r_call (args := [.slice a l.length cap]) (enters_of Try.func92 (by kernel_rfl) rfl) (hρ _ _ rfl) ((cons2 (hρ _ _ rfl) rfl)) rfl) (fun w hm => first_p l a cap w (hv.keep hm.ext) hcap h) rfl (w_n rfl) ?_
  refine p_then_p ?_
  refine p_pan rfl (fun w hm => ?_)
  exact ⟨rfl, hm.ext⟩

theorem next1_c (T0 S at9 : Nat) (l : List By) (a : Option Addr) (cap : Nat) (w : World) (hv : SliceAt w a cap 1 byc l) (hcap : cap ≤ Go.maxLen) (h0 : hp w T0 = some (.cells #[.pointer (some ⟨S, 0, none⟩)] 146)) (hS : hp w S = some (.cells #[.slice a l.length cap, .int .i64 (at9 : Int)] 150)) (h : firstE l = 0) : Calls Try.prog 127 #[.pointer (some ⟨T0, 0, none⟩)] w fun e w' => ∃ a' cap', e = .returned (.agg #[.slice a' (heldP l).length cap', .int .i64 (((heldP l).length + 8 : Nat) : Int)]) ∧ Below w.heap.size w w' ∧ (Res.sl a' cap' (heldP l)).ok w.heap.size w' := by
  refine calls_of_T (l := [.pointer (some ⟨T0, 0, none⟩)]) 8 Try.func127 rfl rfl rfl ?_
  show T _ _ _ [(0, .pointer (some ⟨T0, 0, none⟩))] []
  refine T_seq (T_region ?_)
  refine TL_new 1 (.cells #[.slice none 0 0, .int .i64 0] 121) (fun B => .pointer (some ⟨B, 0, none⟩)) (fun _ _ _ _ => r_alloc (v := .agg #[.slice none 0 0, .int .i64 0]) (by kernel_rfl) rfl) rfl rfl rfl (w_n rfl) ?_
  intro B1
  refine TL_seq ?_
  refine T_seq (T_region ?_)
  refine TL_q (.pointer (some ⟨S, 0, none⟩)) (fun _ _ hρ hm => r_load ag146 (hρ _ _ rfl) (hm.old h0) rfl) rfl rfl rfl (w_n rfl) ?_
  refine TL_q (.pointer (some ⟨S, 0, none⟩)) (fun _ _ hρ _ => r_nilCheck (hρ _ _ rfl) rfl) rfl rfl rfl (w_n rfl) ?_
  refine TL_q (.pointer (some ⟨S, 0, none⟩)) (fun _ _ hρ _ => r_fieldAddr fl150_0 sz148 (hρ _ _ rfl)) rfl rfl rfl (w_n rfl) ?_
  refine TL_q (.pointer (some ⟨S, 0, none⟩)) (fun _ _ hρ _ => r_fieldAddr fl148_0 sz34 (hρ _ _ rfl)) rfl rfl rfl (w_n rfl) ?_
  refine TL_q (.slice a l.length cap) (fun _ _ hρ hm => r_load ag34 (hρ _ _ rfl) (hm.old hS) rfl) rfl rfl rfl (w_n rfl) ?_
  refine TL_callN (fun (_ : Option Addr × Nat) => True) (fun (ah2, ch2) => .agg #[.slice ah2 ((heldP l).length) ch2, .int .i64 (((heldP l).length + 8 : Nat) : Int)]) (fun (ah2, ch2) => [(2, .sl ah2 ch2 (heldP l))]) (fun _ _ hρ _ => r_call (args := [.slice a l.length cap]) (enters_of Try.func92 (by kernel_rfl) rfl) (hρ _ _ rfl) ((cons2 (hρ _ _ rfl) rfl)) rfl) (fun w hm => (first_c l a cap w (hv.keep hm.ext) hcap h).mono fun e w' ⟨a', cap', he, hb, hr⟩ => ⟨(a', cap'), trivial, he, hb, newOk1 2 hr⟩) rfl rfl rfl (w_n rfl) ?_
  rintro ⟨ah2, ch2⟩ -
  refine TL_store 1 (.cells #[.slice ah2 ((heldP l).length) ch2, .int .i64 (((heldP l).length + 8 : Nat) : Int)] 121) rfl (fun _ _ hρ hm => r_store sz121 (hρ _ _ rfl) (hρ _ _ rfl) (hm.at 1 rfl) rfl rfl rfl rfl) rfl rfl (w_n rfl) ?_
  refine TL_seq ?_
  refine T_ret' ?_
  refine ret_of rfl (.agg #[.slice ah2 ((heldP l).length) ch2, .int .i64 (((heldP l).length + 8 : Nat) : Int)]) (fun tmps w hk hm => res1 rfl (res_cell (hk 1 _ rfl) (run_loadVar_agg ag121 sz121 (hm.at 1 rfl) (Nat.le_of_ble_eq_true rfl) rfl))) (fun w hm => ?_)
  exact ⟨ah2, ch2, rfl, hm.ext, hm.own 2 _ rfl⟩

theorem next1_p (T0 S at9 : Nat) (l : List By) (a : Option Addr) (cap : Nat) (w : World) (hv : SliceAt w a cap 1 byc l) (hcap : cap ≤ Go.maxLen) (h0 : hp w T0 = some (.cells #[.pointer (some ⟨S, 0, none⟩)] 146)) (hS : hp w S = some (.cells #[.slice a l.length cap, .int .i64 (at9 : Int)] 150)) (h : ¬ firstE l = 0) : Calls Try.prog 127 #[.pointer (some ⟨T0, 0, none⟩)] w fun e w' => e = .panicked [{ v := .iface 28 (.int .i64 (firstE l)), recovered := false }] ∧ Below w.heap.size w w' := by
  refine calls_of_T (l := [.pointer (some ⟨T0, 0, none⟩)]) 8 Try.func127 rfl rfl rfl ?_
  show T _ _ _ [(0, .pointer (some ⟨T0, 0, none⟩))] []
  refine T_seq (T_region ?_)
  refine TL_new 1 (.cells #[.slice none 0 0, .int .i64 0] 121) (fun B => .pointer (some ⟨B, 0, none⟩)) (fun _ _ _ _ => r_alloc (v := .agg #[.slice none 0 0, .int .i64 0]) (by kernel_rfl) rfl) rfl rfl rfl (w_n rfl) ?_
  intro B1
  refine TL_seq ?_
  refine T_seq (T_region ?_)
  refine TL_q (.pointer (some ⟨S, 0, none⟩)) (fun _ _ hρ hm => r_load ag146 (hρ _ _ rfl) (hm.old h0) rfl) rfl rfl rfl (w_n rfl) ?_
  refine TL_q (.pointer (some ⟨S, 0, none⟩)) (fun _ _ hρ _ => r_nilCheck (hρ _ _ rfl) rfl) rfl rfl rfl (w_n rfl) ?_
  refine TL_q (.pointer (some ⟨S, 0, none⟩)) (fun _ _ hρ _ => r_fieldAddr fl150_0 sz148 (hρ _ _ rfl)) rfl rfl rfl (w_n rfl) ?_
  refine TL_q (.pointer (some ⟨S, 0, none⟩)) (fun _ _ hρ _ => r_fieldAddr fl148_0 sz34 (hρ _ _ rfl)) rfl rfl rfl (w_n rfl) ?_
  refine TL_q (.slice a l.length cap) (fun _ _ hρ hm => r_load ag34 (hρ _ _ rfl) (hm.old hS) rfl) rfl rfl rfl (w_n rfl) ?_
  refine TL_callQ (v := .iface 28 (.int .i64 (firstE l))) (fun _ _ hρ _ => r_call (args := [.slice a l.length cap]) (enters_of Try.func92 (by kernel_rfl) rfl) (hρ _ _ rfl) ((cons2 (hρ _ _ rfl) rfl)) rfl) (fun w hm => first_p l a cap w (hv.keep hm.ext) hcap h) rfl (w_n rfl) ?_
  refine p_then_p ?_
  refine p_pan rfl (fun w hm => ?_)
  exact ⟨rfl, hm.ext⟩

theorem jfirst_c (l : List By) (a : Option Addr) (cap : Nat) (w : World) (hv : SliceAt w a cap 1 byc l) (hcap : cap ≤ Go.maxLen) (h : firstE l = 0) : Calls Try.prog 52 #[.slice a l.length cap] w fun e w' => ∃ a' cap', e = .returned (.tuple #[.slice a' (heldP l).length cap', .int .i64 (((heldP l).length + 8 : Nat) : Int), .int .i64 0]) ∧ Below w.heap.size w w' ∧ w'.ownsRow w.heap.size 5 1 (.slice a' (heldP l).length cap') (heldP l).length ((heldP l).flatMap byc) := by
  have hvl := hv.1
  have hcp := hcap
  unfold Go.maxLen at hcp
  have hhl := heldP_len h
  have c2 := (first_ok h).2.1
  refine calls_of_T (l := [.slice a l.length cap]) 18 Try.func52 rfl rfl rfl ?_
  show T _ _ _ [(0, .slice a l.length cap)] []
  refine T_seq (T_region ?_)
  refine TL_new 1 (.cells #[.slice a l.length cap] 34) (fun B => .pointer (some ⟨B, 0, none⟩)) (fun _ _ hρ _ => r_box (hρ _ _ rfl) rfl) rfl rfl rfl (w_n rfl) ?_
  intro B1
  refine TL_q (.slice none 0 0) (fun _ _ hρ _ => r_assign (hρ _ _ rfl)) rfl rfl rfl (w_n rfl) ?_
  refine TL_q (.int .i64 0) (fun _ _ hρ _ => r_assign (hρ _ _ rfl)) rfl rfl rfl (w_n rfl) ?_
  refine TL_q (.int .i64 0) (fun _ _ hρ _ => r_assign (hρ _ _ rfl)) rfl rfl rfl (w_n rfl) ?_
  refine TL_seq ?_
  refine T_seq (T_region ?_)
  refine TL_q (.func (.func 91) #[] #[.pointer (some ⟨B1, 0, none⟩)]) (fun _ _ hρ _ => r_makeFunc (by simp) (map_arr (cons2 (hρ _ _ rfl) rfl))) rfl rfl rfl (w_n rfl) ?_
  refine TL_callN (fun (_ : Option Addr × Nat) => True) (fun (ah2, ch2) => .tuple #[.agg #[.slice ah2 ((heldP l).length) ch2, .int .i64 (((heldP l).length + 8 : Nat) : Int)], .int .i64 0]) (fun (ah2, ch2) => [(2, .sl ah2 ch2 (heldP l))]) (fun _ _ hρ _ => r_call (args := [.func (.func 91) #[] #[.pointer (some ⟨B1, 0, none⟩)]]) (enters_of Try.func90 (by kernel_rfl) rfl) (hρ _ _ rfl) ((cons2 (hρ _ _ rfl) rfl)) rfl) (fun w hm => trFW_ok 91 #[.pointer (some ⟨B1, 0, none⟩)] (fun (_ : Option Addr × Nat) => True) (fun z => z.1) (fun _ => (heldP l).length) (fun z => z.2) (fun _ => (((heldP l).length + 8 : Nat) : Int)) (fun z => [(2, .sl z.1 z.2 (heldP l))]) w (enters_of Try.func91 (by kernel_rfl) rfl) (fun _ => rfl) (fun _ => rfl) (fun w2 hb2 => (first1_c B1 l a cap w2 (hv.keep (hm.ext.trans (hb2.mono hm.ext.size))) hcap (kept hb2 (hm.at 1 rfl)) h).mono fun e w' ⟨a', cap', he, hb, hr⟩ => ⟨(a', cap'), trivial, he, hb, newOk1 2 hr⟩)) rfl rfl rfl (w_n rfl) ?_
  rintro ⟨ah2, ch2⟩ -
  refine TL_q (.tuple #[.agg #[.slice ah2 ((heldP l).length) ch2, .int .i64 (((heldP l).length + 8 : Nat) : Int)], .int .i64 0]) (fun _ _ hρ _ => r_move (hρ _ _ rfl)) rfl rfl rfl (w_n rfl) ?_
  refine TL_q (.agg #[.slice ah2 ((heldP l).length) ch2, .int .i64 (((heldP l).length + 8 : Nat) : Int)]) (fun _ _ hρ _ => r_extract (hρ _ _ rfl) rfl) rfl rfl rfl (w_n rfl) ?_
  refine TL_q (.int .i64 0) (fun _ _ hρ _ => r_extract (hρ _ _ rfl) rfl) rfl rfl rfl (w_n rfl) ?_
  refine TL_new 3 (.cells #[.slice none 0 0, .int .i64 0] 121) (fun B => .pointer (some ⟨B, 0, none⟩)) (fun _ _ _ _ => r_alloc (v := .agg #[.slice none 0 0, .int .i64 0]) (by kernel_rfl) rfl) rfl rfl rfl (w_n rfl) ?_
  intro B3
  refine TL_store 3 (.cells #[.slice ah2 ((heldP l).length) ch2, .int .i64 (((heldP l).length + 8 : Nat) : Int)] 121) rfl (fun _ _ hρ hm => r_store sz121 (hρ _ _ rfl) (hρ _ _ rfl) (hm.at 3 rfl) rfl rfl rfl rfl) rfl rfl (w_n rfl) ?_
  refine TL_q (.int .i64 0) (fun _ _ hρ _ => r_assign (hρ _ _ rfl)) rfl rfl rfl (w_n rfl) ?_
  refine TL_seq ?_
  refine T_seq (T_draw (V := [(0, .pointer (some ⟨B3, 0, none⟩)), (1, .slice ah2 ((heldP l).length) ch2), (3, .pointer (some ⟨B3, 1, none⟩)), (4, .int .i64 (((heldP l).length + 8 : Nat) : Int)), (5, .int .i64 0)]) [0, 1, 3, 0, 8, 0, 7, 95, 255] [[(5, none)], [(12, some 0)], [(13, some 1)], [(5, none)], [(15, some 3)], [(6, none)], [(14, some 2)], [(16, some 4)], [(17, some 5)]] 4 mixed (by kernel_rfl) ?_)
  refine G_step [0, 1, 3, 4, 5] 2 [] (by kernel_rfl) (allM (all_cons (q_run (.pointer (some ⟨B3, 0, none⟩)) rfl rfl (wv_n rfl) rfl (fun _ _ hρ _ => r_fieldAddr fl121_0 sz34 (hρ _ _ rfl))) (all_cons (q_run (.slice ah2 ((heldP l).length) ch2) rfl rfl (wv_n rfl) rfl (fun _ _ hρ hm => r_load ag34 (hρ _ _ rfl) (hm.at 3 rfl) rfl)) (all_cons (q_run (.pointer (some ⟨B3, 1, none⟩)) rfl rfl (wv_n rfl) rfl (fun _ _ hρ _ => r_fieldAddr fl121_1 sz3 (hρ _ _ rfl))) (all_cons (q_run (.int .i64 (((heldP l).length + 8 : Nat) : Int)) rfl rfl (wv_n rfl) rfl (fun _ _ hρ hm => r_load ag3 (hρ _ _ rfl) (hm.at 3 rfl) rfl)) (all_cons (q_run (.int .i64 0) rfl rfl (wv_n rfl) rfl (fun _ _ hρ _ => r_move (hρ _ _ rfl))) all_nil)))))) (allM (all_cons ?_ all_nil))
  refine LOb_callN (fun (_ : Option Addr × Nat) => True) (fun (ar5, cr5) => .slice ar5 ((heldP l).length) cr5) (fun (ar5, cr5) => [(4, .row (.slice ar5 ((heldP l).length) cr5) 5 1 ((heldP l).length) ((heldP l).flatMap byc))]) (fun (ar5, cr5) => [(6, .slice ar5 ((heldP l).length) cr5), (7, .int .i64 (((heldP l).length + 8 : Nat) : Int)), (8, .int .i64 0)]) rfl (wv_n rfl) rfl rfl (fun _ _ hρ _ => r_call (args := [.slice ah2 ((heldP l).length) ch2]) (enters_of Try.func37 (by kernel_rfl) rfl) (hρ _ _ rfl) ((cons2 (hρ _ _ rfl) rfl)) rfl) (fun w hm => (clone_b byc byc_len byc_one (heldP l) ah2 ch2 w (hm.slAt 2 rfl) (by omega)).mono fun e w' ⟨a', cap', he, hb, hr⟩ => ⟨(a', cap'), trivial, he, hb, newOk1 4 hr⟩) (fun (ar5, cr5) => by kernel_rfl) ?_
  rintro ⟨ar5, cr5⟩ -
  refine G_last [3, 4, 5, 6, 7, 8] [(2, .slice ar5 ((heldP l).length) cr5), (3, .int .i64 (((heldP l).length + 8 : Nat) : Int)), (4, .int .i64 0)] (by kernel_rfl) (allM (all_cons (q_run (.pointer (some ⟨B3, 1, none⟩)) rfl rfl (wv_n rfl) rfl (fun _ _ hρ _ => r_fieldAddr fl121_1 sz3 (hρ _ _ rfl))) (all_cons (q_run (.int .i64 (((heldP l).length + 8 : Nat) : Int)) rfl rfl (wv_n rfl) rfl (fun _ _ hρ hm => r_load ag3 (hρ _ _ rfl) (hm.at 3 rfl) rfl)) (all_cons (q_run (.int .i64 0) rfl rfl (wv_n rfl) rfl (fun _ _ hρ _ => r_move (hρ _ _ rfl))) (all_cons (q_run (.slice ar5 ((heldP l).length) cr5) rfl rfl (wv_n rfl) rfl (fun _ _ hρ _ => r_assign (hρ _ _ rfl))) (all_cons (q_run (.int .i64 (((heldP l).length + 8 : Nat) : Int)) rfl rfl (wv_n rfl) rfl (fun _ _ hρ _ => r_assign (hρ _ _ rfl))) (all_cons (q_run (.int .i64 0) rfl rfl (wv_n rfl) rfl (fun _ _ hρ _ => r_assign (hρ _ _ rfl))) all_nil))))))) (end_new 6 rfl rfl (end_new 7 rfl rfl (end_new 8 rfl rfl end_nil))) ?_
  refine T_ret' ?_
  refine ret_of rfl (.tuple #[.slice ar5 ((heldP l).length) cr5, .int .i64 (((heldP l).length + 8 : Nat) : Int), .int .i64 0]) (fun tmps w hk hm => res3 rfl (res_tmp (hk 2 _ rfl)) (res_tmp (hk 3 _ rfl)) (res_tmp (hk 4 _ rfl))) (fun w hm => ?_)
  exact ⟨ar5, cr5, rfl, hm.ext, hm.row 4 rfl⟩

theorem jfirst_p (l : List By) (a : Option Addr) (cap : Nat) (w : World) (hv : SliceAt w a cap 1 byc l) (hcap : cap ≤ Go.maxLen) (h : ¬ firstE l = 0) : Calls Try.prog 52 #[.slice a l.length cap] w fun e w' => ∃ a' cap', e = .returned (.tuple #[.slice a' ([] : List By).length cap', .int .i64 0, .int .i64 (firstE l)]) ∧ Below w.heap.size w w' ∧ w'.ownsRow w.heap.size 5 1 (.slice a' ([] : List By).length cap') ([] : List By).length (([] : List By).flatMap byc) := by
  have hvl := hv.1
  have hcp := hcap
  unfold Go.maxLen at hcp
  refine calls_of_T (l := [.slice a l.length cap]) 18 Try.func52 rfl rfl rfl ?_
  show T _ _ _ [(0, .slice a l.length cap)] []
  refine T_seq (T_region ?_)
  refine TL_new 1 (.cells #[.slice a l.length cap] 34) (fun B => .pointer (some ⟨B, 0, none⟩)) (fun _ _ hρ _ => r_box (hρ _ _ rfl) rfl) rfl rfl rfl (w_n rfl) ?_
  intro B1
  refine TL_q (.slice none 0 0) (fun _ _ hρ _ => r_assign (hρ _ _ rfl)) rfl rfl rfl (w_n rfl) ?_
  refine TL_q (.int .i64 0) (fun _ _ hρ _ => r_assign (hρ _ _ rfl)) rfl rfl rfl (w_n rfl) ?_
  refine TL_q (.int .i64 0) (fun _ _ hρ _ => r_assign (hρ _ _ rfl)) rfl rfl rfl (w_n rfl) ?_
  refine TL_seq ?_
  refine T_seq (T_region ?_)
  refine TL_q (.func (.func 91) #[] #[.pointer (some ⟨B1, 0, none⟩)]) (fun _ _ hρ _ => r_makeFunc (by simp) (map_arr (cons2 (hρ _ _ rfl) rfl))) rfl rfl rfl (w_n rfl) ?_
  refine TL_call (.tuple #[.agg #[.slice none 0 0, .int .i64 0], .int .i64 (firstE l)]) (fun _ _ hρ _ => r_call (args := [.func (.func 91) #[] #[.pointer (some ⟨B1, 0, none⟩)]]) (enters_of Try.func90 (by kernel_rfl) rfl) (hρ _ _ rfl) ((cons2 (hρ _ _ rfl) rfl)) rfl) (fun w hm => trFW_no 91 #[.pointer (some ⟨B1, 0, none⟩)] (firstE l) w (enters_of Try.func91 (by kernel_rfl) rfl) (fun w2 hb2 => first1_p B1 l a cap w2 (hv.keep (hm.ext.trans (hb2.mono hm.ext.size))) hcap (kept hb2 (hm.at 1 rfl)) h)) rfl rfl rfl (w_n rfl) ?_
  refine TL_q (.tuple #[.agg #[.slice none 0 0, .int .i64 0], .int .i64 (firstE l)]) (fun _ _ hρ _ => r_move (hρ _ _ rfl)) rfl rfl rfl (w_n rfl) ?_
  refine TL_q (.agg #[.slice none 0 0, .int .i64 0]) (fun _ _ hρ _ => r_extract (hρ _ _ rfl) rfl) rfl rfl rfl (w_n rfl) ?_
  refine TL_q (.int .i64 (firstE l)) (fun _ _ hρ _ => r_extract (hρ _ _ rfl) rfl) rfl rfl rfl (w_n rfl) ?_
  refine TL_new 2 (.cells #[.slice none 0 0, .int .i64 0] 121) (fun B => .pointer (some ⟨B, 0, none⟩)) (fun _ _ _ _ => r_alloc (v := .agg #[.slice none 0 0, .int .i64 0]) (by kernel_rfl) rfl) rfl rfl rfl (w_n rfl) ?_
  intro B2
  refine TL_store 2 (.cells #[.slice none 0 0, .int .i64 0] 121) rfl (fun _ _ hρ hm => r_store sz121 (hρ _ _ rfl) (hρ _ _ rfl) (hm.at 2 rfl) rfl rfl rfl rfl) rfl rfl (w_n rfl) ?_
  refine TL_q (.int .i64 (firstE l)) (fun _ _ hρ _ => r_assign (hρ _ _ rfl)) rfl rfl rfl (w_n rfl) ?_
  refine TL_seq ?_
  refine T_seq (T_draw (V := [(0, .pointer (some ⟨B2, 0, none⟩)), (1, .slice none 0 0), (3, .pointer (some ⟨B2, 1, none⟩)), (4, .int .i64 0), (5, .int .i64 (firstE l))]) [0, 1, 3, 0, 8, 0, 7, 95, 255] [[(5, none)], [(12, some 0)], [(13, some 1)], [(5, none)], [(15, some 3)], [(6, none)], [(14, some 2)], [(16, some 4)], [(17, some 5)]] 4 mixed (by kernel_rfl) ?_)
  refine G_step [0, 1, 3, 4, 5] 2 [] (by kernel_rfl) (allM (all_cons (q_run (.pointer (some ⟨B2, 0, none⟩)) rfl rfl (wv_n rfl) rfl (fun _ _ hρ _ => r_fieldAddr fl121_0 sz34 (hρ _ _ rfl))) (all_cons (q_run (.slice none 0 0) rfl rfl (wv_n rfl) rfl (fun _ _ hρ hm => r_load ag34 (hρ _ _ rfl) (hm.at 2 rfl) rfl)) (all_cons (q_run (.pointer (some ⟨B2, 1, none⟩)) rfl rfl (wv_n rfl) rfl (fun _ _ hρ _ => r_fieldAddr fl121_1 sz3 (hρ _ _ rfl))) (all_cons (q_run (.int .i64 0) rfl rfl (wv_n rfl) rfl (fun _ _ hρ hm => r_load ag3 (hρ _ _ rfl) (hm.at 2 rfl) rfl)) (all_cons (q_run (.int .i64 (firstE l)) rfl rfl (wv_n rfl) rfl (fun _ _ hρ _ => r_move (hρ _ _ rfl))) all_nil)))))) (allM (all_cons ?_ all_nil))
  refine LOb_callN (fun (_ : Option Addr × Nat) => True) (fun (ar4, cr4) => .slice ar4 (([] : List By).length) cr4) (fun (ar4, cr4) => [(3, .row (.slice ar4 (([] : List By).length) cr4) 5 1 (([] : List By).length) (([] : List By).flatMap byc))]) (fun (ar4, cr4) => [(6, .slice ar4 (([] : List By).length) cr4), (7, .int .i64 0), (8, .int .i64 (firstE l))]) rfl (wv_n rfl) rfl rfl (fun _ _ hρ _ => r_call (args := [.slice none 0 0]) (enters_of Try.func37 (by kernel_rfl) rfl) (hρ _ _ rfl) ((cons2 (hρ _ _ rfl) rfl)) rfl) (fun w _ => (clone_b byc byc_len byc_one [] none 0 w (sliceNil w) (by decide)).mono fun e w' ⟨a', cap', he, hb, hr⟩ => ⟨(a', cap'), trivial, he, hb, newOk1 3 hr⟩) (fun (ar4, cr4) => by kernel_rfl) ?_
  rintro ⟨ar4, cr4⟩ -
  refine G_last [3, 4, 5, 6, 7, 8] [(2, .slice ar4 (([] : List By).length) cr4), (3, .int .i64 0), (4, .int .i64 (firstE l))] (by kernel_rfl) (allM (all_cons (q_run (.pointer (some ⟨B2, 1, none⟩)) rfl rfl (wv_n rfl) rfl (fun _ _ hρ _ => r_fieldAddr fl121_1 sz3 (hρ _ _ rfl))) (all_cons (q_run (.int .i64 0) rfl rfl (wv_n rfl) rfl (fun _ _ hρ hm => r_load ag3 (hρ _ _ rfl) (hm.at 2 rfl) rfl)) (all_cons (q_run (.int .i64 (firstE l)) rfl rfl (wv_n rfl) rfl (fun _ _ hρ _ => r_move (hρ _ _ rfl))) (all_cons (q_run (.slice ar4 (([] : List By).length) cr4) rfl rfl (wv_n rfl) rfl (fun _ _ hρ _ => r_assign (hρ _ _ rfl))) (all_cons (q_run (.int .i64 0) rfl rfl (wv_n rfl) rfl (fun _ _ hρ _ => r_assign (hρ _ _ rfl))) (all_cons (q_run (.int .i64 (firstE l)) rfl rfl (wv_n rfl) rfl (fun _ _ hρ _ => r_assign (hρ _ _ rfl))) all_nil))))))) (end_new 6 rfl rfl (end_new 7 rfl rfl (end_new 8 rfl rfl end_nil))) ?_
  refine T_ret' ?_
  refine ret_of rfl (.tuple #[.slice ar4 (([] : List By).length) cr4, .int .i64 0, .int .i64 (firstE l)]) (fun tmps w hk hm => res3 rfl (res_tmp (hk 2 _ rfl)) (res_tmp (hk 3 _ rfl)) (res_tmp (hk 4 _ rfl))) (fun w hm => ?_)
  exact ⟨ar4, cr4, rfl, hm.ext, hm.row 3 rfl⟩

theorem next_ok {w₀ : World} {L : Heap} (S : Nat) (l : List By) (a : Option Addr) (cap at9 : Nat) (hL : NoIds L 1701 1800) (hv : SliceAt w₀ a cap 1 byc l) (hcap : cap ≤ Go.maxLen) (ha9 : at9 + l.length ≤ 140737488355328) (h : firstE l = 0) : ∀ w, MemOk w₀ ((1700, .blk S (.cells #[.slice a l.length cap, .int .i64 ((at9 : Nat) : Int)] 150)) :: L) w → Calls Try.prog 115 #[.pointer (some ⟨S, 0, none⟩)] w (HAns w₀ (fun z : (Option Addr × Nat) × (Option Addr × Nat) => SliceAt w₀ z.2.1 z.2.2 1 byc (l.drop ((heldP l).length + 8)) ∧ z.2.2 ≤ Go.maxLen) (fun z => .tuple #[.agg #[.slice z.1.1 (heldP l).length z.1.2, .int .i64 (((heldP l).length + 8 : Nat) : Int)], .bool true]) (fun z => (1701, .sl z.1.1 z.1.2 (heldP l)) :: (1700, .blk S (.cells #[.slice z.2.1 (l.drop ((heldP l).length + 8)).length z.2.2, .int .i64 ((at9 + ((heldP l).length + 8) : Nat) : Int)] 150)) :: L)) := by
  have hvl := hv.1
  have hcp := hcap
  unfold Go.maxLen at hcp
  have hhl := heldP_len h
  have c2 := (first_ok h).2.1
  have c3 := (first_ok h).2.2.1
  refine ht_of_T (l := [.pointer (some ⟨S, 0, none⟩)]) (L := ((1700, .blk S (.cells #[.slice a l.length cap, .int .i64 ((at9 : Nat) : Int)] 150)) :: L)) 37 Try.func115 rfl rfl rfl ?_
  show T _ _ _ [(0, .pointer (some ⟨S, 0, none⟩))] ((1700, .blk S (.cells #[.slice a l.length cap, .int .i64 ((at9 : Nat) : Int)] 150)) :: L)
  refine T_seq (T_region ?_)
  refine TL_new 1711 (.cells #[.pointer (some ⟨S, 0, none⟩)] 146) (fun B => .pointer (some ⟨B, 0, none⟩)) (fun _ _ hρ _ => r_box (hρ _ _ rfl) rfl) rfl rfl rfl (w_n rfl) ?_
  intro B1
  refine TL_new 1712 (.cells #[.slice none 0 0, .int .i64 0] 121) (fun B => .pointer (some ⟨B, 0, none⟩)) (fun _ _ _ _ => r_alloc (v := .agg #[.slice none 0 0, .int .i64 0]) (by kernel_rfl) rfl) rfl rfl rfl (w_n rfl) ?_
  intro B2
  refine TL_q (.bool false) (fun _ _ hρ _ => r_assign (hρ _ _ rfl)) rfl rfl rfl (w_n rfl) ?_
  refine TL_seq ?_
  refine T_seq (T_region ?_)
  refine TL_q (.func (.func 127) #[] #[.pointer (some ⟨B1, 0, none⟩)]) (fun _ _ hρ _ => r_makeFunc (by simp) (map_arr (cons2 (hρ _ _ rfl) rfl))) rfl rfl rfl (w_n rfl) ?_
  refine TL_callN (fun (_ : Option Addr × Nat) => True) (fun (ah3, ch3) => .tuple #[.agg #[.slice ah3 ((heldP l).length) ch3, .int .i64 (((heldP l).length + 8 : Nat) : Int)], .int .i64 0]) (fun (ah3, ch3) => [(1701, .sl ah3 ch3 (heldP l))]) (fun _ _ hρ _ => r_call (args := [.func (.func 127) #[] #[.pointer (some ⟨B1, 0, none⟩)]]) (enters_of Try.func90 (by kernel_rfl) rfl) (hρ _ _ rfl) ((cons2 (hρ _ _ rfl) rfl)) rfl) (fun w hm => trFW_ok 127 #[.pointer (some ⟨B1, 0, none⟩)] (fun (_ : Option Addr × Nat) => True) (fun z => z.1) (fun _ => (heldP l).length) (fun z => z.2) (fun _ => (((heldP l).length + 8 : Nat) : Int)) (fun z => [(1701, .sl z.1 z.2 (heldP l))]) w (enters_of Try.func127 (by kernel_rfl) rfl) (fun _ => rfl) (fun _ => rfl) (fun w2 hb2 => (next1_c B1 S at9 l a cap w2 (hv.keep (hm.ext.trans (hb2.mono hm.ext.size))) hcap (kept hb2 (hm.at 1711 rfl)) (kept hb2 (hm.at 1700 rfl)) h).mono fun e w' ⟨a', cap', he, hb, hr⟩ => ⟨(a', cap'), trivial, he, hb, newOk1 1701 hr⟩)) rfl rfl rfl (w_n rfl) ?_
  rintro ⟨ah3, ch3⟩ -
  refine TL_q (.tuple #[.agg #[.slice ah3 ((heldP l).length) ch3, .int .i64 (((heldP l).length + 8 : Nat) : Int)], .int .i64 0]) (fun _ _ hρ _ => r_move (hρ _ _ rfl)) rfl rfl rfl (w_n rfl) ?_
  refine TL_q (.agg #[.slice ah3 ((heldP l).length) ch3, .int .i64 (((heldP l).length + 8 : Nat) : Int)]) (fun _ _ hρ _ => r_extract (hρ _ _ rfl) rfl) rfl rfl rfl (w_n rfl) ?_
  refine TL_q (.int .i64 0) (fun _ _ hρ _ => r_extract (hρ _ _ rfl) rfl) rfl rfl rfl (w_n rfl) ?_
  refine TL_new 1713 (.cells #[.slice none 0 0, .int .i64 0] 121) (fun B => .pointer (some ⟨B, 0, none⟩)) (fun _ _ _ _ => r_alloc (v := .agg #[.slice none 0 0, .int .i64 0]) (by kernel_rfl) rfl) rfl rfl rfl (w_n rfl) ?_
  intro B4
  refine TL_store 1713 (.cells #[.slice ah3 ((heldP l).length) ch3, .int .i64 (((heldP l).length + 8 : Nat) : Int)] 121) rfl (fun _ _ hρ hm => r_store sz121 (hρ _ _ rfl) (hρ _ _ rfl) (hm.at 1713 rfl) rfl rfl rfl rfl) rfl rfl (w_n rfl) ?_
  refine TL_q (.int .i64 0) (fun _ _ hρ _ => r_assign (hρ _ _ rfl)) rfl rfl rfl (w_n rfl) ?_
  refine TL_seq ?_
  refine T_seq ?_
  refine T_seq (T_region ?_)
  refine TL_q (.int .i64 0) (fun _ _ hρ _ => r_move (hρ _ _ rfl)) rfl rfl rfl (w_n rfl) ?_
  refine TL_q (.bool false) (fun _ _ hρ _ => r_as (r_neq (hρ _ _ rfl) (hρ _ _ rfl)) (by rfl)) rfl rfl rfl (w_n rfl) ?_
  refine TL_seq ?_
  refine T_cond_f rfl ?_
  refine T_skip' ?_
  refine p_seq ?_
  obtain ⟨l5, hl5, hn5⟩ : ∃ lz, lz = (l.drop ((heldP l).length + 8)).take (l.length - ((heldP l).length + 8)) ∧ lz.length = l.length - ((heldP l).length + 8) := ⟨_, rfl, by rw [List.length_take, List.length_drop]; omega⟩
  obtain ⟨a5, ha5⟩ : ∃ az : Option Addr, az = (if cap = (heldP l).length + 8 then a else Option.map (·.add (((heldP l).length + 8) * 1)) a) := ⟨_, rfl⟩
  have hs5 := SliceAt.part hv (lo := (heldP l).length + 8) (hi := l.length) (m := cap) (by omega) (by omega) (by omega) (by omega)
  rw [← hl5, ← ha5] at hs5
  refine T_seq (T_draw (V := [(0, .pointer (some ⟨S, 0, none⟩)), (1, .pointer (some ⟨S, 0, none⟩)), (2, .pointer (some ⟨S, 0, none⟩)), (3, .pointer (some ⟨S, 0, none⟩)), (4, .pointer (some ⟨S, 0, none⟩)), (5, .pointer (some ⟨S, 0, none⟩)), (6, .slice a l.length cap), (7, .pointer (some ⟨B4, 1, none⟩)), (8, .int .i64 (((heldP l).length + 8 : Nat) : Int)), (9, .slice a5 l5.length (cap - ((heldP l).length + 8))), (10, .pointer (some ⟨S, 0, none⟩)), (11, .pointer (some ⟨S, 0, none⟩)), (12, .pointer (some ⟨S, 1, none⟩)), (13, .int .i64 ((at9 : Nat) : Int)), (14, .pointer (some ⟨B4, 1, none⟩)), (15, .int .i64 (((heldP l).length + 8 : Nat) : Int)), (16, .int .i64 ((at9 + ((heldP l).length + 8) : Nat) : Int)), (17, .pointer (some ⟨S, 0, none⟩)), (18, .pointer (some ⟨S, 0, none⟩)), (19, .pointer (some ⟨S, 0, none⟩))]) [0, 0, 0, 4, 12, 28, 60, 0, 128, 508, 0, 1024, 3072, 7168, 0, 16384, 64512, 16381, 147453, 409597, 933885, 2097151, 4194303, 8388607] [[(1, none)], [(1, none)], [(1, none)], [(16, some 2)], [(17, some 3)], [(18, some 4)], [(19, some 5)], [(4, none)], [(21, some 7)], [(20, some 6), (22, some 8)], [(1, none)], [(24, some 10)], [(25, some 11)], [(26, some 12)], [(4, none)], [(28, some 14)], [(27, some 13), (29, some 15)], [(14, some 0)], [(31, some 17)], [(32, some 18)], [(33, some 19), (23, some 9)], [(15, some 1)], [(34, some 21)], [(35, some 22), (30, some 16)]] 9437184 mixed (by kernel_rfl) ?_)
  refine G_step [0, 1, 2, 3, 4, 5, 6, 7, 8, 9, 10, 11, 12, 13, 14, 15, 16, 17, 18, 19] 20 [] (by kernel_rfl) (allM (all_cons (q_run (.pointer (some ⟨S, 0, none⟩)) rfl rfl (wv_n rfl) rfl (fun _ _ hρ hm => r_load ag146 (hρ _ _ rfl) (hm.at 1711 rfl) rfl)) (all_cons (q_run (.pointer (some ⟨S, 0, none⟩)) rfl rfl (wv_n rfl) rfl (fun _ _ hρ hm => r_load ag146 (hρ _ _ rfl) (hm.at 1711 rfl) rfl)) (all_cons (q_run (.pointer (some ⟨S, 0, none⟩)) rfl rfl (wv_n rfl) rfl (fun _ _ hρ hm => r_load ag146 (hρ _ _ rfl) (hm.at 1711 rfl) rfl)) (all_cons (q_run (.pointer (some ⟨S, 0, none⟩)) rfl rfl (wv_n rfl) rfl (fun _ _ hρ _ => r_nilCheck (hρ _ _ rfl) rfl)) (all_cons (q_run (.pointer (some ⟨S, 0, none⟩)) rfl rfl (wv_n rfl) rfl (fun _ _ hρ _ => r_fieldAddr fl150_0 sz148 (hρ _ _ rfl))) (all_cons (q_run (.pointer (some ⟨S, 0, none⟩)) rfl rfl (wv_n rfl) rfl (fun _ _ hρ _ => r_fieldAddr fl148_0 sz34 (hρ _ _ rfl))) (all_cons (q_run (.slice a l.length cap) rfl rfl (wv_n rfl) rfl (fun _ _ hρ hm => r_load ag34 (hρ _ _ rfl) (hm.at 1700 rfl) rfl)) (all_cons (q_run (.pointer (some ⟨B4, 1, none⟩)) rfl rfl (wv_n rfl) rfl (fun _ _ hρ _ => r_fieldAddr fl121_1 sz3 (hρ _ _ rfl))) (all_cons (q_run (.int .i64 (((heldP l).length + 8 : Nat) : Int)) rfl rfl (wv_n rfl) rfl (fun _ _ hρ hm => r_load ag3 (hρ _ _ rfl) (hm.at 1713 rfl) rfl)) (all_cons (q_run (.slice a5 l5.length (cap - ((heldP l).length + 8))) rfl rfl (wv_n rfl) rfl (fun ρ _ hρ _ => r_as (r_sliceO sl34 sz5 (hρ _ _ rfl) (bd_none ρ _) (bd_none ρ _) (bd_some (n := (heldP l).length + 8) (hρ _ _ rfl)) (by simp) (by omega) (by omega) (by omega)) (by rw [hn5, ha5]))) (all_cons (q_run (.pointer (some ⟨S, 0, none⟩)) rfl rfl (wv_n rfl) rfl (fun _ _ hρ hm => r_load ag146 (hρ _ _ rfl) (hm.at 1711 rfl) rfl)) (all_cons (q_run (.pointer (some ⟨S, 0, none⟩)) rfl rfl (wv_n rfl) rfl (fun _ _ hρ _ => r_nilCheck (hρ _ _ rfl) rfl)) (all_cons (q_run (.pointer (some ⟨S, 1, none⟩)) rfl rfl (wv_n rfl) rfl (fun _ _ hρ _ => r_fieldAddr fl150_1 sz3 (hρ _ _ rfl))) (all_cons (q_run (.int .i64 ((at9 : Nat) : Int)) rfl rfl (wv_n rfl) rfl (fun _ _ hρ hm => r_load ag3 (hρ _ _ rfl) (hm.at 1700 rfl) rfl)) (all_cons (q_run (.pointer (some ⟨B4, 1, none⟩)) rfl rfl (wv_n rfl) rfl (fun _ _ hρ _ => r_fieldAddr fl121_1 sz3 (hρ _ _ rfl))) (all_cons (q_run (.int .i64 (((heldP l).length + 8 : Nat) : Int)) rfl rfl (wv_n rfl) rfl (fun _ _ hρ hm => r_load ag3 (hρ _ _ rfl) (hm.at 1713 rfl) rfl)) (all_cons (q_run (.int .i64 ((at9 + ((heldP l).length + 8) : Nat) : Int)) rfl rfl (wv_n rfl) rfl (fun _ _ hρ _ => r_as (r_add (hρ _ _ rfl) (hρ _ _ rfl)) (int_as ((wrap64 (by omega) (by omega)).trans (by omega))))) (all_cons (q_run (.pointer (some ⟨S, 0, none⟩)) rfl rfl (wv_n rfl) rfl (fun _ _ hρ _ => r_nilCheck (hρ _ _ rfl) rfl)) (all_cons (q_run (.pointer (some ⟨S, 0, none⟩)) rfl rfl (wv_n rfl) rfl (fun _ _ hρ _ => r_fieldAddr fl150_0 sz148 (hρ _ _ rfl))) (all_cons (q_run (.pointer (some ⟨S, 0, none⟩)) rfl rfl (wv_n rfl) rfl (fun _ _ hρ _ => r_fieldAddr fl148_0 sz34 (hρ _ _ rfl))) all_nil))))))))))))))))))))) (allM (all_cons ?_ all_nil))
  refine LOb_store 1700 (.cells #[.slice a5 l5.length (cap - ((heldP l).length + 8)), .int .i64 ((at9 : Nat) : Int)] 150) [(21, .pointer (some ⟨S, 0, none⟩)), (22, .pointer (some ⟨S, 1, none⟩))] rfl (wv_n rfl) rfl rfl rfl (fun _ _ hρ hm => r_store sz34 (hρ _ _ rfl) (hρ _ _ rfl) (hm.at 1700 rfl) rfl rfl rfl rfl) (by kernel_rfl) ?_
  refine G_step [1, 14, 15, 16, 21, 22] 23 [] (by kernel_rfl) (allM (all_cons (q_run (.pointer (some ⟨S, 0, none⟩)) rfl rfl (wv_n rfl) rfl (fun _ _ hρ hm => r_load ag146 (hρ _ _ rfl) (hm.at 1711 rfl) rfl)) (all_cons (q_run (.pointer (some ⟨B4, 1, none⟩)) rfl rfl (wv_n rfl) rfl (fun _ _ hρ _ => r_fieldAddr fl121_1 sz3 (hρ _ _ rfl))) (all_cons (q_run (.int .i64 (((heldP l).length + 8 : Nat) : Int)) rfl rfl (wv_n rfl) rfl (fun _ _ hρ hm => r_load ag3 (hρ _ _ rfl) (hm.at 1713 rfl) rfl)) (all_cons (q_run (.int .i64 ((at9 + ((heldP l).length + 8) : Nat) : Int)) rfl rfl (wv_n rfl) rfl (fun _ _ hρ _ => r_as (r_add (hρ _ _ rfl) (hρ _ _ rfl)) (int_as ((wrap64 (by omega) (by omega)).trans (by omega))))) (all_cons (q_run (.pointer (some ⟨S, 0, none⟩)) rfl rfl (wv_n rfl) rfl (fun _ _ hρ _ => r_nilCheck (hρ _ _ rfl) rfl)) (all_cons (q_run (.pointer (some ⟨S, 1, none⟩)) rfl rfl (wv_n rfl) rfl (fun _ _ hρ _ => r_fieldAddr fl150_1 sz3 (hρ _ _ rfl))) all_nil))))))) (allM (all_cons ?_ all_nil))
  refine LOb_store 1700 (.cells #[.slice a5 l5.length (cap - ((heldP l).length + 8)), .int .i64 ((at9 + ((heldP l).length + 8) : Nat) : Int)] 150) [] rfl (wv_n rfl) rfl rfl rfl (fun _ _ hρ hm => r_store sz3 (hρ _ _ rfl) (hρ _ _ rfl) (hm.at 1700 rfl) rfl rfl rfl rfl) (by kernel_rfl) ?_
  refine G_last [] [(2, .pointer (some ⟨B2, 0, none⟩)), (3, .bool false), (4, .pointer (some ⟨B4, 0, none⟩))] (by kernel_rfl) (allM all_nil) (end_old rfl rfl (end_old rfl rfl (end_old rfl rfl end_nil))) ?_
  refine T_seq (T_region ?_)
  refine TL_q (.agg #[.slice ah3 ((heldP l).length) ch3, .int .i64 (((heldP l).length + 8 : Nat) : Int)]) (fun _ _ hρ hm => r_loadA ag121 sz121 (hρ _ _ rfl) (hm.at 1713 rfl) rfl rfl) rfl rfl rfl (w_n rfl) ?_
  refine TL_store 1712 (.cells #[.slice ah3 ((heldP l).length) ch3, .int .i64 (((heldP l).length + 8 : Nat) : Int)] 121) rfl (fun _ _ hρ hm => r_store sz121 (hρ _ _ rfl) (hρ _ _ rfl) (hm.at 1712 rfl) rfl rfl rfl rfl) rfl rfl (w_n rfl) ?_
  refine TL_q (.bool true) (fun _ _ hρ _ => r_assign (hρ _ _ rfl)) rfl rfl rfl (w_n rfl) ?_
  refine TL_seq ?_
  refine T_ret' ?_
  refine ret_of rfl (.tuple #[.agg #[.slice ah3 ((heldP l).length) ch3, .int .i64 (((heldP l).length + 8 : Nat) : Int)], .bool true]) (fun tmps w hk hm => res2 rfl (res_cell (hk 2 _ rfl) (run_loadVar_agg ag121 sz121 (hm.at 1712 rfl) (Nat.le_of_ble_eq_true rfl) rfl)) (res_tmp (hk 3 _ rfl))) (fun w hm => ?_)
  have ez : l5 = (l.drop ((heldP l).length + 8)) := by rw [hl5]; exact List.take_of_length_le (by rw [List.length_drop]; exact Nat.le_refl _)
  subst ez
  refine ⟨((ah3, ch3), (a5, (cap - ((heldP l).length + 8)))), ⟨hs5, Nat.le_trans (Nat.sub_le _ _) hcap⟩, rfl, ?_⟩
  first | exact hm.of (lk_fin (F := [_, _, _, _, _]) (T := [(1701, .sl ah3 ch3 (heldP l)), (1700, .blk S (.cells #[.slice a5 (l.drop ((heldP l).length + 8)).length (cap - ((heldP l).length + 8)), .int .i64 ((at9 + ((heldP l).length + 8) : Nat) : Int)] 150))]) (sub_cons rfl (sub_cons rfl sub_nil)) rfl hL) | exact hm.of (lk_fin (F := [_, _, _, _, _, _]) (T := [(1701, .sl ah3 ch3 (heldP l)), (1700, .blk S (.cells #[.slice a5 (l.drop ((heldP l).length + 8)).length (cap - ((heldP l).length + 8)), .int .i64 ((at9 + ((heldP l).length + 8) : Nat) : Int)] 150))]) (sub_cons rfl (sub_cons rfl sub_nil)) rfl hL) | exact hm.of (lk_fin (F := [_, _, _, _, _, _, _]) (T := [(1701, .sl ah3 ch3 (heldP l)), (1700, .blk S (.cells #[.slice a5 (l.drop ((heldP l).length + 8)).length (cap - ((heldP l).length + 8)), .int .i64 ((at9 + ((heldP l).length + 8) : Nat) : Int)] 150))]) (sub_cons rfl (sub_cons rfl sub_nil)) rfl hL) | exact hm.of (lk_fin (F := [_, _, _, _, _, _, _, _]) (T := [(1701, .sl ah3 ch3 (heldP l)), (1700, .blk S (.cells #[.slice a5 (l.drop ((heldP l).length + 8)).length (cap - ((heldP l).length + 8)), .int .i64 ((at9 + ((heldP l).length + 8) : Nat) : Int)] 150))]) (sub_cons rfl (sub_cons rfl sub_nil)) rfl hL) | exact hm.of (lk_fin (F := [_, _, _, _, _, _, _, _, _]) (T := [(1701, .sl ah3 ch3 (heldP l)), (1700, .blk S (.cells #[.slice a5 (l.drop ((heldP l).length + 8)).length (cap - ((heldP l).length + 8)), .int .i64 ((at9 + ((heldP l).length + 8) : Nat) : Int)] 150))]) (sub_cons rfl (sub_cons rfl sub_nil)) rfl hL) | exact hm.of (lk_fin (F := [_, _, _, _, _, _, _, _, _, _]) (T := [(1701, .sl ah3 ch3 (heldP l)), (1700, .blk S (.cells #[.slice a5 (l.drop ((heldP l).length + 8)).length (cap - ((heldP l).length + 8)), .int .i64 ((at9 + ((heldP l).length + 8) : Nat) : Int)] 150))]) (sub_cons rfl (sub_cons rfl sub_nil)) rfl hL) | exact hm.of (lk_fin (F := [_, _, _, _, _, _, _, _, _, _, _]) (T := [(1701, .sl ah3 ch3 (heldP l)), (1700, .blk S (.cells #[.slice a5 (l.drop ((heldP l).length + 8)).length (cap - ((heldP l).length + 8)), .int .i64 ((at9 + ((heldP l).length + 8) : Nat) : Int)] 150))]) (sub_cons rfl (sub_cons rfl sub_nil)) rfl hL) | exact hm.of (lk_fin (F := [_, _, _, _, _, _, _, _, _, _, _, _]) (T := [(1701, .sl ah3 ch3 (heldP l)), (1700, .blk S (.cells #[.slice a5 (l.drop ((heldP l).length + 8)).length (cap - ((heldP l).length + 8)), .int .i64 ((at9 + ((heldP l).length + 8) : Nat) : Int)] 150))]) (sub_cons rfl (sub_cons rfl sub_nil)) rfl hL) | exact hm.of (lk_fin (F := [_, _, _, _, _, _, _, _, _, _, _, _, _]) (T := [(1701, .sl ah3 ch3 (heldP l)), (1700, .blk S (.cells #[.slice a5 (l.drop ((heldP l).length + 8)).length (cap - ((heldP l).length + 8)), .int .i64 ((at9 + ((heldP l).length + 8) : Nat) : Int)] 150))]) (sub_cons rfl (sub_cons rfl sub_nil)) rfl hL) | exact hm.of (lk_fin (F := [_, _, _, _, _, _, _, _, _, _, _, _, _, _]) (T := [(1701, .sl ah3 ch3 (heldP l)), (1700, .blk S (.cells #[.slice a5 (l.drop ((heldP l).length + 8)).length (cap - ((heldP l).length + 8)), .int .i64 ((at9 + ((heldP l).length + 8) : Nat) : Int)] 150))]) (sub_cons rfl (sub_cons rfl sub_nil)) rfl hL)

theorem next_no {w₀ : World} {L : Heap} (S : Nat) (l : List By) (a : Option Addr) (cap at9 : Nat) (hL : NoIds L 1701 1800) (hv : SliceAt w₀ a cap 1 byc l) (hcap : cap ≤ Go.maxLen) (ha9 : at9 + l.length ≤ 140737488355328) (h : ¬ firstE l = 0) : ∀ w, MemOk w₀ ((1700, .blk S (.cells #[.slice a l.length cap, .int .i64 ((at9 : Nat) : Int)] 150)) :: L) w → Calls Try.prog 115 #[.pointer (some ⟨S, 0, none⟩)] w (HAns w₀ (fun _ : Unit => True) (fun _ => .tuple #[.agg #[.slice none 0 0, .int .i64 0], .bool false]) (fun _ => (1700, .blk S (.cells #[.slice a l.length cap, .int .i64 ((at9 : Nat) : Int)] 150)) :: L)) := by
  have hvl := hv.1
  have hcp := hcap
  unfold Go.maxLen at hcp
  refine ht_of_T (l := [.pointer (some ⟨S, 0, none⟩)]) (L := ((1700, .blk S (.cells #[.slice a l.length cap, .int .i64 ((at9 : Nat) : Int)] 150)) :: L)) 37 Try.func115 rfl rfl rfl ?_
  show T _ _ _ [(0, .pointer (some ⟨S, 0, none⟩))] ((1700, .blk S (.cells #[.slice a l.length cap, .int .i64 ((at9 : Nat) : Int)] 150)) :: L)
  refine T_seq (T_region ?_)
  refine TL_new 1711 (.cells #[.pointer (some ⟨S, 0, none⟩)] 146) (fun B => .pointer (some ⟨B, 0, none⟩)) (fun _ _ hρ _ => r_box (hρ _ _ rfl) rfl) rfl rfl rfl (w_n rfl) ?_
  intro B1
  refine TL_new 1712 (.cells #[.slice none 0 0, .int .i64 0] 121) (fun B => .pointer (some ⟨B, 0, none⟩)) (fun _ _ _ _ => r_alloc (v := .agg #[.slice none 0 0, .int .i64 0]) (by kernel_rfl) rfl) rfl rfl rfl (w_n rfl) ?_
  intro B2
  refine TL_q (.bool false) (fun _ _ hρ _ => r_assign (hρ _ _ rfl)) rfl rfl rfl (w_n rfl) ?_
  refine TL_seq ?_
  refine T_seq (T_region ?_)
  refine TL_q (.func (.func 127) #[] #[.pointer (some ⟨B1, 0, none⟩)]) (fun _ _ hρ _ => r_makeFunc (by simp) (map_arr (cons2 (hρ _ _ rfl) rfl))) rfl rfl rfl (w_n rfl) ?_
  refine TL_call (.tuple #[.agg #[.slice none 0 0, .int .i64 0], .int .i64 (firstE l)]) (fun _ _ hρ _ => r_call (args := [.func (.func 127) #[] #[.pointer (some ⟨B1, 0, none⟩)]]) (enters_of Try.func90 (by kernel_rfl) rfl) (hρ _ _ rfl) ((cons2 (hρ _ _ rfl) rfl)) rfl) (fun w hm => trFW_no 127 #[.pointer (some ⟨B1, 0, none⟩)] (firstE l) w (enters_of Try.func127 (by kernel_rfl) rfl) (fun w2 hb2 => next1_p B1 S at9 l a cap w2 (hv.keep (hm.ext.trans (hb2.mono hm.ext.size))) hcap (kept hb2 (hm.at 1711 rfl)) (kept hb2 (hm.at 1700 rfl)) h)) rfl rfl rfl (w_n rfl) ?_
  refine TL_q (.tuple #[.agg #[.slice none 0 0, .int .i64 0], .int .i64 (firstE l)]) (fun _ _ hρ _ => r_move (hρ _ _ rfl)) rfl rfl rfl (w_n rfl) ?_
  refine TL_q (.agg #[.slice none 0 0, .int .i64 0]) (fun _ _ hρ _ => r_extract (hρ _ _ rfl) rfl) rfl rfl rfl (w_n rfl) ?_
  refine TL_q (.int .i64 (firstE l)) (fun _ _ hρ _ => r_extract (hρ _ _ rfl) rfl) rfl rfl rfl (w_n rfl) ?_
  refine TL_new 1713 (.cells #[.slice none 0 0, .int .i64 0] 121) (fun B => .pointer (some ⟨B, 0, none⟩)) (fun _ _ _ _ => r_alloc (v := .agg #[.slice none 0 0, .int .i64 0]) (by kernel_rfl) rfl) rfl rfl rfl (w_n rfl) ?_
  intro B3
  refine TL_store 1713 (.cells #[.slice none 0 0, .int .i64 0] 121) rfl (fun _ _ hρ hm => r_store sz121 (hρ _ _ rfl) (hρ _ _ rfl) (hm.at 1713 rfl) rfl rfl rfl rfl) rfl rfl (w_n rfl) ?_
  refine TL_q (.int .i64 (firstE l)) (fun _ _ hρ _ => r_assign (hρ _ _ rfl)) rfl rfl rfl (w_n rfl) ?_
  refine TL_seq ?_
  refine T_seq ?_
  refine T_seq (T_region ?_)
  refine TL_q (.int .i64 (firstE l)) (fun _ _ hρ _ => r_move (hρ _ _ rfl)) rfl rfl rfl (w_n rfl) ?_
  refine TL_q (.bool true) (fun _ _ hρ _ => r_as (r_neq (hρ _ _ rfl) (hρ _ _ rfl)) (bool_as (by rw [decide_eq_false h]; rfl))) rfl rfl rfl (w_n rfl) ?_
  refine TL_seq ?_
  refine T_cond_t rfl ?_
  refine T_seq (T_region ?_)
  refine TL_q (.agg #[.slice none 0 0, .int .i64 0]) (fun _ _ _ _ => r_build (vs := []) (by kernel_rfl) rfl) rfl rfl rfl (w_n rfl) ?_
  refine TL_store 1712 (.cells #[.slice none 0 0, .int .i64 0] 121) rfl (fun _ _ hρ hm => r_store sz121 (hρ _ _ rfl) (hρ _ _ rfl) (hm.at 1712 rfl) rfl rfl rfl rfl) rfl rfl (w_n rfl) ?_
  refine TL_q (.bool false) (fun _ _ hρ _ => r_assign (hρ _ _ rfl)) rfl rfl rfl (w_n rfl) ?_
  refine TL_seq ?_
  refine T_ret' ?_
  refine p_then_r ?_
  refine ret_of rfl (.tuple #[.agg #[.slice none 0 0, .int .i64 0], .bool false]) (fun tmps w hk hm => res2 rfl (res_cell (hk 2 _ rfl) (run_loadVar_agg ag121 sz121 (hm.at 1712 rfl) (Nat.le_of_ble_eq_true rfl) rfl)) (res_tmp (hk 3 _ rfl))) (fun w hm => ?_)
  refine ⟨(), trivial, rfl, ?_⟩
  first | exact hm.of (lk_fin (F := [_, _, _, _]) (T := [(1700, .blk S (.cells #[.slice a l.length cap, .int .i64 ((at9 : Nat) : Int)] 150))]) (sub_cons rfl sub_nil) rfl hL) | exact hm.of (lk_fin (F := [_, _, _, _, _]) (T := [(1700, .blk S (.cells #[.slice a l.length cap, .int .i64 ((at9 : Nat) : Int)] 150))]) (sub_cons rfl sub_nil) rfl hL) | exact hm.of (lk_fin (F := [_, _, _, _, _, _]) (T := [(1700, .blk S (.cells #[.slice a l.length cap, .int .i64 ((at9 : Nat) : Int)] 150))]) (sub_cons rfl sub_nil) rfl hL) | exact hm.of (lk_fin (F := [_, _, _, _, _, _, _]) (T := [(1700, .blk S (.cells #[.slice a l.length cap, .int .i64 ((at9 : Nat) : Int)] 150))]) (sub_cons rfl sub_nil) rfl hL) | exact hm.of (lk_fin (F := [_, _, _, _, _, _, _, _]) (T := [(1700, .blk S (.cells #[.slice a l.length cap, .int .i64 ((at9 : Nat) : Int)] 150))]) (sub_cons rfl sub_nil) rfl hL) | exact hm.of (lk_fin (F := [_, _, _, _, _, _, _, _, _]) (T := [(1700, .blk S (.cells #[.slice a l.length cap, .int .i64 ((at9 : Nat) : Int)] 150))]) (sub_cons rfl sub_nil) rfl hL) | exact hm.of (lk_fin (F := [_, _, _, _, _, _, _, _, _, _]) (T := [(1700, .blk S (.cells #[.slice a l.length cap, .int .i64 ((at9 : Nat) : Int)] 150))]) (sub_cons rfl sub_nil) rfl hL) | exact hm.of (lk_fin (F := [_, _, _, _, _, _, _, _, _, _, _]) (T := [(1700, .blk S (.cells #[.slice a l.length cap, .int .i64 ((at9 : Nat) : Int)] 150))]) (sub_cons rfl sub_nil) rfl hL) | exact hm.of (lk_fin (F := [_, _, _, _, _, _, _, _, _, _, _, _]) (T := [(1700, .blk S (.cells #[.slice a l.length cap, .int .i64 ((at9 : Nat) : Int)] 150))]) (sub_cons rfl sub_nil) rfl hL) | exact hm.of (lk_fin (F := [_, _, _, _, _, _, _, _, _, _, _, _, _]) (T := [(1700, .blk S (.cells #[.slice a l.length cap, .int .i64 ((at9 : Nat) : Int)] 150))]) (sub_cons rfl sub_nil) rfl hL)

theorem scanA_h {l : List By} (at' : Nat) (h : firstE l = 0) : scanA at' l = (at', heldP l) :: scanA (at' + ((heldP l).length + 8)) (l.drop ((heldP l).length + 8)) := by
  rw [heldP_len h]; exact scanA_t at' h
theorem drop_get {α : Type} {l t : List α} {k : Nat} {x : α} (h : l.drop k = x :: t) : l[k]? = some x := by
  have := congrArg (fun z => z[0]?) h
  rw [List.getElem?_drop] at this
  exact this
theorem drop_lt {α : Type} {l t : List α} {k : Nat} {x : α} (h : l.drop k = x :: t) : k + 1 ≤ l.length := (List.getElem?_eq_some_iff.1 (drop_get h)).1
theorem drop_next {α : Type} {l t : List α} {k : Nat} {x : α} (h : l.drop k = x :: t) : l.drop (k + 1) = t := by
  rw [← List.drop_drop, h]; rfl
theorem drop_none {α : Type} {l : List α} {k : Nat} (hk : k ≤ l.length) (h : l.drop k = []) : k = l.length := by
  have := congrArg List.length h
  rw [List.length_drop, List.length_nil] at this
  omega
/-- What the records' iterator hands over. -/
def encF (x : Nat × List By) (z : Option Addr × Nat) : List Value := [.int .i64 (x.1 : Int), .agg #[.slice z.1 x.2.length z.2, .int .i64 ((x.2.length + 8 : Nat) : Int)]]
abbrev EF (x : Nat × List By) (z : Option Addr × Nat) : Res := .sl z.1 z.2 x.2

theorem recs_iter {ι : Type} (w₀ : World) (p' : Nat → ι → Prop) (LJ : Nat → ι → Heap) (T1 : Nat) (l : List By) (a : Option Addr) (cap : Nat) (hv : SliceAt w₀ a cap 1 byc l) (hcap : cap ≤ Go.maxLen) (hl9 : l.length ≤ 140737488355328) (hfr7 : ∀ k i, NoIds (LJ k i) 1700 1800)
    (hT1 : ∀ i w, MemOk w₀ (LJ 0 i) w → hp w T1 = some (.cells #[.slice a l.length cap] 34)) :
    IterZ Try.prog w₀ 114 #[.pointer (some ⟨T1, 0, none⟩)] encF EF (scanA 0 l) p' LJ := by
  intro lY κ pX LX hY i₀ W₁ hp0 hm0
  have hfr : ∀ k i, NoIds (LJ k i) 1701 1800 := fun k i => (hfr7 k i).sub rfl rfl
  have hvl := hv.1
  show Calls _ _ #[.func (.yield lY) #[] #[], .pointer (some ⟨T1, 0, none⟩)] _ _
  refine ht_of_T (l := [.func (.yield lY) #[] #[], .pointer (some ⟨T1, 0, none⟩)]) (L := LJ 0 i₀) 30 Try.func114 rfl rfl rfl ?_ W₁ hm0
  show T _ _ _ [(0, .func (.yield lY) #[] #[]), (1, .pointer (some ⟨T1, 0, none⟩))] (LJ 0 i₀)
  refine T_jumpsV (ι := Nat × ι × List By × Option Addr × Nat × Nat × Nat) 0 (fun (z : Nat × ι × List By × Option Addr × Nat × Nat × Nat) => match z with | (k, i, r, ra, rc, at9, S9) => p' k i ∧ k ≤ (scanA 0 l).length ∧ (scanA 0 l).drop k = scanA at9 r ∧ SliceAt w₀ ra rc 1 byc r ∧ rc ≤ Go.maxLen ∧ at9 + r.length ≤ 140737488355328) (fun (z : Nat × ι × List By × Option Addr × Nat × Nat × Nat) => match z with | (k, i, r, ra, rc, at9, S9) => [(0, .func (.yield lY) #[] #[]), (3, .pointer (some ⟨S9, 0, none⟩)), (4, .func (.func 115) #[.pointer (some ⟨S9, 0, none⟩)] #[])]) (fun (z : Nat × ι × List By × Option Addr × Nat × Nat × Nat) => match z with | (k, i, r, ra, rc, at9, S9) => ((1700, .blk S9 (.cells #[.slice ra r.length rc, .int .i64 ((at9 : Nat) : Int)] 150)) :: (LJ k i))) (fun (z : Nat × ι × List By × Option Addr × Nat × Nat × Nat) => match z with | (k, i, r, ra, rc, at9, S9) => r.length) rfl rfl ?_ ?_
  · intro hps
    refine T_seq (T_region ?_)
    refine TL_q (.slice a l.length cap) (fun _ _ hρ hm => r_load ag34 (hρ _ _ rfl) (hT1 _ _ hm) rfl) rfl rfl rfl (w_n rfl) ?_
    refine TL_q (.agg #[.slice a l.length cap]) (fun _ _ hρ _ => r_build (vs := [(0, .slice a l.length cap)]) (by kernel_rfl) (cons2 (pair2 (hρ _ _ rfl)) rfl)) rfl rfl rfl (w_n rfl) ?_
    refine TL_q (.agg #[.slice a l.length cap, .int .i64 0]) (fun _ _ hρ _ => r_build (vs := [(0, .agg #[.slice a l.length cap])]) (by kernel_rfl) (cons2 (pair2 (hρ _ _ rfl)) rfl)) rfl rfl rfl (w_n rfl) ?_
    refine TL_new 1700 (.cells #[.slice a l.length cap, .int .i64 0] 150) (fun B => .pointer (some ⟨B, 0, none⟩)) (fun _ _ hρ _ => r_box (hρ _ _ rfl) rfl) rfl rfl rfl (w_n rfl) ?_
    intro B1
    refine TL_q (.pointer (some ⟨B1, 0, none⟩)) (fun _ _ hρ _ => r_assign (hρ _ _ rfl)) rfl rfl rfl (w_n rfl) ?_
    refine TL_seq ?_
    refine T_seq (T_region ?_)
    refine TL_q (.pointer (some ⟨B1, 0, none⟩)) (fun _ _ hρ _ => r_move (hρ _ _ rfl)) rfl rfl rfl (w_n rfl) ?_
    refine TL_q (.func (.func 115) #[.pointer (some ⟨B1, 0, none⟩)] #[]) (fun _ _ hρ _ => r_makeFunc (map_arr (cons2 (hρ _ _ rfl) rfl)) (by simp)) rfl rfl rfl (w_n rfl) ?_
    refine TL_q (.func (.func 115) #[.pointer (some ⟨B1, 0, none⟩)] #[]) (fun _ _ hρ _ => r_assign (hρ _ _ rfl)) rfl rfl rfl (w_n rfl) ?_
    refine TL_seq ?_
    refine T_label ?_
    exact T_into (hps (0, i₀, l, a, cap, 0, B1) ⟨hp0, Nat.zero_le _, rfl, hv, hcap, by omega⟩) (sub_cons rfl (sub_cons rfl (sub_cons rfl sub_nil))) (fun _ _ h => h)
  · rintro ⟨k, i, r, ra, rc, at9, S9⟩ hp
    obtain ⟨hpi, hk, hd, hv9, hcap9, ha9⟩ := hp
    have hrl := hv9.1
    show T _ _ _ [(0, .func (.yield lY) #[] #[]), (3, .pointer (some ⟨S9, 0, none⟩)), (4, .func (.func 115) #[.pointer (some ⟨S9, 0, none⟩)] #[])] ((1700, .blk S9 (.cells #[.slice ra r.length rc, .int .i64 ((at9 : Nat) : Int)] 150)) :: (LJ k i))
    refine T_seq (T_region ?_)
    refine TL_q (.pointer (some ⟨S9, 0, none⟩)) (fun _ _ hρ _ => r_move (hρ _ _ rfl)) rfl rfl rfl (w_n rfl) ?_
    refine TL_q (.pointer (some ⟨S9, 0, none⟩)) (fun _ _ hρ _ => r_nilCheck (hρ _ _ rfl) rfl) rfl rfl rfl (w_n rfl) ?_
    refine TL_q (.pointer (some ⟨S9, 1, none⟩)) (fun _ _ hρ _ => r_fieldAddr fl150_1 sz3 (hρ _ _ rfl)) rfl rfl rfl (w_n rfl) ?_
    refine TL_q (.int .i64 ((at9 : Nat) : Int)) (fun _ _ hρ hm => r_load ag3 (hρ _ _ rfl) (hm.at 1700 rfl) rfl) rfl rfl rfl (w_n rfl) ?_
    refine TL_q (.int .i64 ((at9 : Nat) : Int)) (fun _ _ hρ _ => r_assign (hρ _ _ rfl)) rfl rfl rfl (w_n rfl) ?_
    refine TL_seq ?_
    by_cases hz : firstE r = 0
    · skip
      have hhl := heldP_len hz
      have c2 := (first_ok hz).2.1
      have c3 := (first_ok hz).2.2.1
      have hd1x := hd.trans (scanA_h at9 hz)
      have hk1 := drop_lt hd1x
      have hd1 := drop_next hd1x
      refine T_seq (T_region ?_)
      refine TL_q (.func (.func 115) #[.pointer (some ⟨S9, 0, none⟩)] #[]) (fun _ _ hρ _ => r_move (hρ _ _ rfl)) rfl rfl rfl (w_n rfl) ?_
      refine TL_callH _ _ _ (fun _ _ hρ _ => r_call (args := []) (enters_of Try.func115 (by kernel_rfl) rfl) (hρ _ _ rfl) (by rfl) rfl) (fun w hm => next_ok S9 r ra rc at9 (hfr k i) hv9 hcap9 ha9 hz w hm) rfl rfl rfl (w_n rfl) ?_
      rintro ⟨⟨ha1, hc1⟩, ⟨ra2, rc2⟩⟩ ⟨hs2, hcap2⟩
      refine TL_q (.tuple #[.agg #[.slice ha1 ((heldP r).length) hc1, .int .i64 (((heldP r).length + 8 : Nat) : Int)], .bool true]) (fun _ _ hρ _ => r_move (hρ _ _ rfl)) rfl rfl rfl (w_n rfl) ?_
      refine TL_q (.agg #[.slice ha1 ((heldP r).length) hc1, .int .i64 (((heldP r).length + 8 : Nat) : Int)]) (fun _ _ hρ _ => r_extract (hρ _ _ rfl) rfl) rfl rfl rfl (w_n rfl) ?_
      refine TL_q (.bool true) (fun _ _ hρ _ => r_extract (hρ _ _ rfl) rfl) rfl rfl rfl (w_n rfl) ?_
      refine TL_new 1711 (.cells #[.slice none 0 0, .int .i64 0] 121) (fun B => .pointer (some ⟨B, 0, none⟩)) (fun _ _ _ _ => r_alloc (v := .agg #[.slice none 0 0, .int .i64 0]) (by kernel_rfl) rfl) rfl rfl rfl (w_n rfl) ?_
      intro B2
      refine TL_store 1711 (.cells #[.slice ha1 ((heldP r).length) hc1, .int .i64 (((heldP r).length + 8 : Nat) : Int)] 121) rfl (fun _ _ hρ hm => r_store sz121 (hρ _ _ rfl) (hρ _ _ rfl) (hm.at 1711 rfl) rfl rfl rfl rfl) rfl rfl (w_n rfl) ?_
      refine TL_q (.bool true) (fun _ _ hρ _ => r_assign (hρ _ _ rfl)) rfl rfl rfl (w_n rfl) ?_
      refine TL_seq ?_
      refine T_seq (T_region ?_)
      refine TL_q (.bool true) (fun _ _ hρ _ => r_move (hρ _ _ rfl)) rfl rfl rfl (w_n rfl) ?_
      refine TL_q (.bool true) (fun _ _ hρ _ => r_move (hρ _ _ rfl)) rfl rfl rfl (w_n rfl) ?_
      refine TL_q (.func (.yield lY) #[] #[]) (fun _ _ hρ _ => r_move (hρ _ _ rfl)) rfl rfl rfl (want_y 24 rfl rfl rfl) ?_
      refine TL_q (.int .i64 ((at9 : Nat) : Int)) (fun _ _ hρ _ => r_move (hρ _ _ rfl)) rfl rfl rfl (want_y 24 rfl rfl rfl) ?_
      refine TL_q (.agg #[.slice ha1 ((heldP r).length) hc1, .int .i64 (((heldP r).length + 8 : Nat) : Int)]) (fun _ _ hρ hm => r_loadA ag121 sz121 (hρ _ _ rfl) (hm.at 1711 rfl) rfl rfl) rfl rfl rfl (want_y 24 rfl rfl rfl) ?_
      refine TL_yieldB (fun i => p' (k + 1) i) (fun i => (1700, (.blk S9 (.cells #[.slice ra2 (r.drop ((heldP r).length + 8)).length rc2, .int .i64 ((at9 + ((heldP r).length + 8) : Nat) : Int)] 150))) :: LJ (k + 1) i) pX LX rfl (fun _ _ hρ _ => r_yield (hρ _ _ rfl) ((cons2 (hρ _ _ rfl) (cons2 (hρ _ _ rfl) rfl)))) (fun W hm => hY (.blk S9 (.cells #[.slice ra2 (r.drop ((heldP r).length + 8)).length rc2, .int .i64 ((at9 + ((heldP r).length + 8) : Nat) : Int)] 150)) k (at9, heldP r) (ha1, hc1) i W (drop_get hd1x) hpi (by first | exact hm.of (lk_fin (F := [_, _, _]) (T := [(1700, (.blk S9 (.cells #[.slice ra2 (r.drop ((heldP r).length + 8)).length rc2, .int .i64 ((at9 + ((heldP r).length + 8) : Nat) : Int)] 150))), (1701, .sl ha1 hc1 (heldP r))]) (sub_cons rfl (sub_cons rfl sub_nil)) rfl (hfr k i)) | exact hm.of (lk_fin (F := [_, _, _, _]) (T := [(1700, (.blk S9 (.cells #[.slice ra2 (r.drop ((heldP r).length + 8)).length rc2, .int .i64 ((at9 + ((heldP r).length + 8) : Nat) : Int)] 150))), (1701, .sl ha1 hc1 (heldP r))]) (sub_cons rfl (sub_cons rfl sub_nil)) rfl (hfr k i)) | exact hm.of (lk_fin (F := [_, _, _, _, _]) (T := [(1700, (.blk S9 (.cells #[.slice ra2 (r.drop ((heldP r).length + 8)).length rc2, .int .i64 ((at9 + ((heldP r).length + 8) : Nat) : Int)] 150))), (1701, .sl ha1 hc1 (heldP r))]) (sub_cons rfl (sub_cons rfl sub_nil)) rfl (hfr k i)) | exact hm.of (lk_fin (F := [_, _, _, _, _, _]) (T := [(1700, (.blk S9 (.cells #[.slice ra2 (r.drop ((heldP r).length + 8)).length rc2, .int .i64 ((at9 + ((heldP r).length + 8) : Nat) : Int)] 150))), (1701, .sl ha1 hc1 (heldP r))]) (sub_cons rfl (sub_cons rfl sub_nil)) rfl (hfr k i)) | exact hm.of (lk_fin (F := [_, _, _, _, _, _, _]) (T := [(1700, (.blk S9 (.cells #[.slice ra2 (r.drop ((heldP r).length + 8)).length rc2, .int .i64 ((at9 + ((heldP r).length + 8) : Nat) : Int)] 150))), (1701, .sl ha1 hc1 (heldP r))]) (sub_cons rfl (sub_cons rfl sub_nil)) rfl (hfr k i)) | exact hm.of (lk_fin (F := [_, _, _, _, _, _, _, _]) (T := [(1700, (.blk S9 (.cells #[.slice ra2 (r.drop ((heldP r).length + 8)).length rc2, .int .i64 ((at9 + ((heldP r).length + 8) : Nat) : Int)] 150))), (1701, .sl ha1 hc1 (heldP r))]) (sub_cons rfl (sub_cons rfl sub_nil)) rfl (hfr k i)) | exact hm.of (lk_fin (F := [_, _, _, _, _, _, _, _, _]) (T := [(1700, (.blk S9 (.cells #[.slice ra2 (r.drop ((heldP r).length + 8)).length rc2, .int .i64 ((at9 + ((heldP r).length + 8) : Nat) : Int)] 150))), (1701, .sl ha1 hc1 (heldP r))]) (sub_cons rfl (sub_cons rfl sub_nil)) rfl (hfr k i)) | exact hm.of (lk_fin (F := [_, _, _, _, _, _, _, _, _, _]) (T := [(1700, (.blk S9 (.cells #[.slice ra2 (r.drop ((heldP r).length + 8)).length rc2, .int .i64 ((at9 + ((heldP r).length + 8) : Nat) : Int)] 150))), (1701, .sl ha1 hc1 (heldP r))]) (sub_cons rfl (sub_cons rfl sub_nil)) rfl (hfr k i)))) rfl rfl rfl (want_y 24 rfl rfl rfl) ?_
      intro yx3 hyx3
      refine TL_q (.bool yx3.isLeft) (fun _ _ hρ _ => r_pick_t (hρ _ _ rfl) (hρ _ _ rfl)) rfl rfl rfl (w_n rfl) ?_
      refine TL_seq ?_
      refine T_cond rfl (fun h1 => ?_) (fun h1 => ?_)
      · skip
        obtain ⟨i1, rfl⟩ := isL (by simpa using h1)
        refine T_goto ?_
        exact p_jmpT (k + 1, i1, r.drop ((heldP r).length + 8), ra2, rc2, at9 + ((heldP r).length + 8), S9) ⟨⟨hyx3, hk1, hd1, hs2, hcap2, by rw [List.length_drop]; omega⟩, by dsimp only; rw [List.length_drop]; omega⟩ (sub_cons rfl (sub_cons rfl (sub_cons rfl sub_nil))) (fun _ _ h => h)
      · skip
        obtain ⟨j, rfl⟩ := isR (by simpa using h1)
        refine T_skip' ?_
        refine p_j_n ?_
        refine p_end ?_
        refine ret_of rfl (.tuple #[]) (fun tmps w hk hm => results_none rfl _ _ _) (fun w hm => ?_)
        exact ⟨⟨_, rfl⟩, .inr ⟨j, hyx3, hm⟩⟩
    · skip
      refine T_seq (T_region ?_)
      refine TL_q (.func (.func 115) #[.pointer (some ⟨S9, 0, none⟩)] #[]) (fun _ _ hρ _ => r_move (hρ _ _ rfl)) rfl rfl rfl (w_n rfl) ?_
      refine TL_callH _ _ _ (fun _ _ hρ _ => r_call (args := []) (enters_of Try.func115 (by kernel_rfl) rfl) (hρ _ _ rfl) (by rfl) rfl) (fun w hm => next_no S9 r ra rc at9 (hfr k i) hv9 hcap9 ha9 hz w hm) rfl rfl rfl (w_n rfl) ?_
      rintro ⟨⟩ -
      refine TL_q (.tuple #[.agg #[.slice none 0 0, .int .i64 0], .bool false]) (fun _ _ hρ _ => r_move (hρ _ _ rfl)) rfl rfl rfl (w_n rfl) ?_
      refine TL_q (.agg #[.slice none 0 0, .int .i64 0]) (fun _ _ hρ _ => r_extract (hρ _ _ rfl) rfl) rfl rfl rfl (w_n rfl) ?_
      refine TL_q (.bool false) (fun _ _ hρ _ => r_extract (hρ _ _ rfl) rfl) rfl rfl rfl (w_n rfl) ?_
      refine TL_new 1712 (.cells #[.slice none 0 0, .int .i64 0] 121) (fun B => .pointer (some ⟨B, 0, none⟩)) (fun _ _ _ _ => r_alloc (v := .agg #[.slice none 0 0, .int .i64 0]) (by kernel_rfl) rfl) rfl rfl rfl (w_n rfl) ?_
      intro B4
      refine TL_store 1712 (.cells #[.slice none 0 0, .int .i64 0] 121) rfl (fun _ _ hρ hm => r_store sz121 (hρ _ _ rfl) (hρ _ _ rfl) (hm.at 1712 rfl) rfl rfl rfl rfl) rfl rfl (w_n rfl) ?_
      refine TL_q (.bool false) (fun _ _ hρ _ => r_assign (hρ _ _ rfl)) rfl rfl rfl (w_n rfl) ?_
      refine TL_seq ?_
      refine T_seq (T_region ?_)
      refine TL_q (.bool false) (fun _ _ hρ _ => r_move (hρ _ _ rfl)) rfl rfl rfl (w_n rfl) ?_
      refine TL_q (.bool false) (fun _ _ hρ _ => r_move (hρ _ _ rfl)) rfl rfl rfl (w_n rfl) ?_
      refine TL_no rfl rfl (want_n 24 rfl rfl rfl) ?_
      refine TL_no rfl rfl (want_n 24 rfl rfl rfl) ?_
      refine TL_no rfl rfl (want_n 24 rfl rfl rfl) ?_
      refine TL_no rfl rfl (want_n 24 rfl rfl rfl) ?_
      refine TL_q (.bool false) (fun _ _ hρ _ => r_pick_f (hρ _ _ rfl) (hρ _ _ rfl)) rfl rfl rfl (w_n rfl) ?_
      refine TL_seq ?_
      refine T_cond_f rfl ?_
      refine T_skip' ?_
      refine p_j_n ?_
      refine p_end ?_
      refine ret_of rfl (.tuple #[]) (fun tmps w hk hm => results_none rfl _ _ _) (fun w hm => ?_)
      have hke : k = (scanA 0 l).length := drop_none hk (hd.trans (scanA_f at9 hz))
      subst hke
      exact ⟨⟨_, rfl⟩, .inl ⟨i, hpi, by first | exact hm.of (lk_fin (F := [_]) (T := []) sub_nil rfl (hfr7 _ i)) | exact hm.of (lk_fin (F := [_, _]) (T := []) sub_nil rfl (hfr7 _ i)) | exact hm.of (lk_fin (F := [_, _, _]) (T := []) sub_nil rfl (hfr7 _ i)) | exact hm.of (lk_fin (F := [_, _, _, _]) (T := []) sub_nil rfl (hfr7 _ i)) | exact hm.of (lk_fin (F := [_, _, _, _, _]) (T := []) sub_nil rfl (hfr7 _ i)) | exact hm.of (lk_fin (F := [_, _, _, _, _, _]) (T := []) sub_nil rfl (hfr7 _ i)) | exact hm.of (lk_fin (F := [_, _, _, _, _, _, _]) (T := []) sub_nil rfl (hfr7 _ i)) | exact hm.of (lk_fin (F := [_, _, _, _, _, _, _, _]) (T := []) sub_nil rfl (hfr7 _ i)) | exact hm.of (lk_fin (F := [_, _, _, _, _, _, _, _, _]) (T := []) sub_nil rfl (hfr7 _ i)) | exact hm.of (lk_fin (F := [_, _, _, _, _, _, _, _, _, _]) (T := []) sub_nil rfl (hfr7 _ i)) | exact hm.of (lk_fin (F := [_, _, _, _, _, _, _, _, _, _, _]) (T := []) sub_nil rfl (hfr7 _ i))⟩⟩

theorem recs_c (a : Option Addr) (n cap : Nat) (w : World) : Calls Try.prog 87 #[.slice a n cap] w fun e w' => ∃ q, e = .returned (.func (.func 114) #[] #[.pointer (some ⟨q, 0, none⟩)]) ∧ Below w.heap.size w w' ∧ (Res.blk q (.cells #[.slice a n cap] 34)).ok w.heap.size w' := by
  refine calls_of_T (l := [.slice a n cap]) 4 Try.func87 rfl rfl rfl ?_
  show T _ _ _ [(0, .slice a n cap)] []
  refine T_seq (T_region ?_)
  refine TL_new 1 (.cells #[.slice a n cap] 34) (fun B => .pointer (some ⟨B, 0, none⟩)) (fun _ _ hρ _ => r_box (hρ _ _ rfl) rfl) rfl rfl rfl (w_n rfl) ?_
  intro B1
  refine TL_q (.nilFunc) (fun _ _ hρ _ => r_assign (hρ _ _ rfl)) rfl rfl rfl (w_n rfl) ?_
  refine TL_seq ?_
  refine T_seq (T_region ?_)
  refine TL_q (.func (.func 114) #[] #[.pointer (some ⟨B1, 0, none⟩)]) (fun _ _ hρ _ => r_makeFunc (by simp) (map_arr (cons2 (hρ _ _ rfl) rfl))) rfl rfl rfl (w_n rfl) ?_
  refine TL_q (.func (.func 114) #[] #[.pointer (some ⟨B1, 0, none⟩)]) (fun _ _ hρ _ => r_assign (hρ _ _ rfl)) rfl rfl rfl (w_n rfl) ?_
  refine TL_seq ?_
  refine T_ret' ?_
  refine ret_of rfl (.func (.func 114) #[] #[.pointer (some ⟨B1, 0, none⟩)]) (fun tmps w hk hm => res1 rfl (res_tmp (hk 2 _ rfl))) (fun w hm => ?_)
  exact ⟨B1, rfl, hm.ext, hm.own 1 _ rfl⟩
end Go.Proofs.Ytcidgbjgeegepaa
/- net and journal: Scan, Places, Cut, Why, Append. Printed by a program of this seat's prover. -/
namespace Go.Proofs.Ytcidgbjgeegepaa
open Go Go.RowKit
set_option maxRecDepth 10000
abbrev nic (n : Nat) : List Value := [.int .i64 (n : Int)]
theorem nic_len (n : Nat) : (nic n).length = 1 := rfl
abbrev rowR (n : RowG (RowG By)) : Res := .row (.slice n.a n.l.length n.cap) 34 1 n.l.length (n.l.flatMap RowG.cells)
theorem scan_bound : ∀ (n at' : Nat) (l : List By), l.length ≤ n → ∀ x ∈ scanA at' l, at' ≤ x.1 ∧ x.1 + (x.2.length + 8) ≤ at' + l.length := by
  intro n
  induction n with
  | zero =>
    intro at' l h x hx
    have e : l = [] := List.eq_nil_of_length_eq_zero (by omega)
    subst e
    cases hx
  | succ n ih =>
    intro at' l h x hx
    by_cases e : firstE l = 0
    · obtain ⟨h1, h2, h3, _⟩ := first_ok e
      have hl := heldP_len e
      rw [scanA_t at' e] at hx
      rcases List.mem_cons.1 hx with rfl | hx
      · exact ⟨Nat.le_refl _, by dsimp only; omega⟩
      · have := ih _ _ (by rw [List.length_drop]; omega) x hx
        rw [List.length_drop] at this
        omega
    · rw [scanA_f at' e] at hx; cases hx
theorem scan_many : ∀ (n at' : Nat) (l : List By), l.length ≤ n → (scanA at' l).length ≤ l.length := by
  intro n
  induction n with
  | zero =>
    intro at' l h
    have e : l = [] := List.eq_nil_of_length_eq_zero (by omega)
    subst e; exact Nat.le_refl _
  | succ n ih =>
    intro at' l h
    by_cases e : firstE l = 0
    · obtain ⟨h1, h2, h3, _⟩ := first_ok e
      rw [scanA_t at' e]
      have := ih (at' + (numP l + 8)) (l.drop (numP l + 8)) (by rw [List.length_drop]; omega)
      rw [List.length_drop] at this
      rw [List.length_cons]; omega
    · rw [scanA_f at' e]; exact Nat.zero_le _
theorem scan_cnt {l : List By} {α : Type} {f : Nat × List By → α} {m : List α} {k : Nat} (h : m = ((scanA 0 l).take k).map f) : m.length ≤ l.length := by
  have h2 := scan_many l.length 0 l (Nat.le_refl _)
  rw [h, List.length_map, List.length_take]; omega
theorem rls_len (l : List (RowG By)) : (rls l).length = l.length := List.length_map _
theorem endS_at {xs : List (Nat × List By)} {k : Nat} {x : Nat × List By} (h : xs[k]? = some x) : endS (xs.take (k + 1)) 0 = x.1 + (x.2.length + 8) := by
  rw [List.take_add_one, h]; exact endS_snoc _ _ _
theorem scan_step {ss : List (RowG By)} {xs : List (Nat × List By)} {k : Nat} {x : Nat × List By} {a : Option Addr} {c : Nat} (h : rls ss = (xs.take k).map (·.2)) (hx : xs[k]? = some x) : rls (ss ++ [⟨a, c, x.2⟩]) = (xs.take (k + 1)).map (·.2) := by
  unfold rls at h ⊢
  rw [List.map_append, h, List.take_add_one, hx, List.map_append]; rfl
theorem place_step {ss : List Nat} {xs : List (Nat × List By)} {k : Nat} {x : Nat × List By} (h : ss = (xs.take k).map (·.1)) (hx : xs[k]? = some x) : ss ++ [x.1] = (xs.take (k + 1)).map (·.1) := by
  rw [h, List.take_add_one, hx, List.map_append]; rfl
theorem scan_all {xs : List (Nat × List By)} {α : Type} {m : List α} {f : Nat × List By → α} (h : m = (xs.take xs.length).map f) : m = xs.map f := by rw [h, List.take_length]

theorem scan_c (l : List By) (a : Option Addr) (cap : Nat) (w : World) (hv : SliceAt w a cap 1 byc l) (hcap : cap ≤ Go.maxLen) (hl9 : l.length ≤ 1000000) : Calls Try.prog 46 #[.slice a l.length cap] w fun e w' => ∃ n : RowG (RowG By), rls n.l = heldsV l ∧ e = .returned (.tuple #[.slice n.a n.l.length n.cap, .int .i64 (sizeV l : Int)]) ∧ Below w.heap.size w w' ∧ (rowR n).ok w.heap.size w' ∧ (Res.pool 5 1 byc n.l).ok w.heap.size w' ∧ ∀ b, (rowR n).foot b → ¬ (Res.pool 5 1 byc n.l).foot b := by
  have hvl := hv.1
  have hcp := hcap
  unfold Go.maxLen at hcp
  refine calls_of_T (l := [.slice a l.length cap]) 31 Try.func46 rfl rfl rfl ?_
  show T _ _ _ [(0, .slice a l.length cap)] []
  refine T_seq (T_region ?_)
  refine TL_q (.slice none 0 0) (fun _ _ hρ _ => r_assign (hρ _ _ rfl)) rfl rfl rfl (w_n rfl) ?_
  refine TL_q (.int .i64 0) (fun _ _ hρ _ => r_assign (hρ _ _ rfl)) rfl rfl rfl (w_n rfl) ?_
  refine TL_seq ?_
  refine T_seq (T_region ?_)
  refine TL_new 1 (.cells #[.slice none 0 0] 63) (fun B => .pointer (some ⟨B, 0, none⟩)) (fun _ _ _ _ => r_alloc (v := .slice none 0 0) (by kernel_rfl) rfl) rfl rfl rfl (w_n rfl) ?_
  intro B1
  refine TL_seq ?_
  refine T_seq (T_region ?_)
  refine TL_new 2 (.cells #[.int .i64 0] 3) (fun B => .pointer (some ⟨B, 0, none⟩)) (fun _ _ _ _ => r_alloc (v := .int .i64 0) (by kernel_rfl) rfl) rfl rfl rfl (w_n rfl) ?_
  intro B2
  refine TL_store 2 (.cells #[.int .i64 0] 3) rfl (fun _ _ hρ hm => r_store sz3 (hρ _ _ rfl) (hρ _ _ rfl) (hm.at 2 rfl) rfl rfl rfl rfl) rfl rfl (w_n rfl) ?_
  refine TL_seq ?_
  refine T_seq ?_
  refine T_mem (_ :: _ :: _) (fun _ hm => (hm.nilRow 963 34 1).pool0 964 5 1 byc) ?_
  refine T_seq (T_region ?_)
  refine TL_q (.slice a l.length cap) (fun _ _ hρ _ => r_move (hρ _ _ rfl)) rfl rfl rfl (w_n rfl) ?_
  refine TL_callN (fun (_ : Nat) => True) (fun qr3 => .func (.func 114) #[] #[.pointer (some ⟨qr3, 0, none⟩)]) (fun qr3 => [(908, .blk qr3 (.cells #[.slice a l.length cap] 34))]) (fun _ _ hρ _ => r_call (args := [.slice a l.length cap]) (enters_of Try.func87 (by kernel_rfl) rfl) (hρ _ _ rfl) ((cons2 (hρ _ _ rfl) rfl)) rfl) (fun w _ => (recs_c a l.length cap w).mono fun e w' ⟨q, he, hb, hr⟩ => ⟨q, trivial, he, hb, newOk1 908 hr⟩) rfl rfl rfl (w_n rfl) ?_
  rintro qr3 -
  refine TL_seq ?_
  refine T_block ?_
  refine T_sub [(2, .slice none 0 0), (3, .int .i64 0), (4, .pointer (some ⟨B1, 0, none⟩)), (5, .pointer (some ⟨B2, 0, none⟩)), (10, .func (.func 114) #[] #[.pointer (some ⟨qr3, 0, none⟩)])] [(908, .blk qr3 (.cells #[.slice a l.length cap] 34)), (964, .pool 5 1 byc []), (963, .row (.slice none 0 0) 34 1 0 []), (1, .blk B1 (.cells #[.slice none 0 0] 63)), (2, .blk B2 (.cells #[.int .i64 0] 3))] (sub_cons rfl (sub_cons rfl (sub_cons rfl (sub_cons rfl (sub_cons rfl sub_nil))))) (sub_cons rfl (sub_cons rfl (sub_cons rfl (sub_cons rfl (sub_cons rfl sub_nil))))) ?_
  refine T_rangeZ (ι := RowG (RowG By)) (ζ := Option Addr × Nat) (ζ' := Nat) (encs := encF) (E := EF) (xs := (scanA 0 l)) rfl rfl (enters_of Try.func114 (by kernel_rfl) rfl) (fun _ _ => rfl) rfl 801 802 rfl rfl rfl (fun (k : Nat) (n9 : RowG (RowG By)) => rls n9.l = ((scanA 0 l).take k).map (·.2)) (fun (k : Nat) (n9 : RowG (RowG By)) => [(1, .blk B1 (.cells #[.slice n9.a n9.l.length n9.cap] 63)), (2, .blk B2 (.cells #[.int .i64 ((endS ((scanA 0 l).take k) 0 : Nat) : Int)] 3)), (963, .row (.slice n9.a n9.l.length n9.cap) 34 1 n9.l.length (n9.l.flatMap RowG.cells)), (964, .pool 5 1 byc n9.l), (908, .blk qr3 (.cells #[.slice a l.length cap] 34))]) (fun _ _ => False) (fun _ => []) (fun x z Bz => [(2, .slice none 0 0), (3, .int .i64 0), (4, .pointer (some ⟨B1, 0, none⟩)), (5, .pointer (some ⟨B2, 0, none⟩)), (10, .func (.func 114) #[] #[.pointer (some ⟨qr3, 0, none⟩)]), (6, .int .i64 ((x.1 : Nat) : Int)), (7, .pointer (some ⟨Bz, 0, none⟩))]) (fun x z Bz => [(1801, .blk Bz (.cells #[.slice z.1 x.2.length z.2, .int .i64 ((x.2.length + 8 : Nat) : Int)] 121)), (1701, .sl z.1 z.2 x.2)]) (fun D l9 rec => recs_iter w _ _ qr3 l a cap hv hcap (by omega) (fun _ _ => by repeat (first | exact noIds_nil _ _ | refine noIds_cons rfl ?_)) (fun _ _ hm => hm.at 908 rfl)) (fun _ _ => ⟨rfl, rfl⟩) (fun _ => ⟨rfl, rfl⟩) ⟨none, 0, []⟩ rfl (sub_cons rfl (sub_cons rfl (sub_cons rfl (sub_cons rfl (sub_cons rfl sub_nil))))) ?_ ?_ ?_ (fun _ _ _ h => h.elim)
  · intro D1 l1 rec1 R1 k x z n9 hx1 hp1
    refine T_sub [(2, .slice none 0 0), (3, .int .i64 0), (4, .pointer (some ⟨B1, 0, none⟩)), (5, .pointer (some ⟨B2, 0, none⟩)), (10, .func (.func 114) #[] #[.pointer (some ⟨qr3, 0, none⟩)]), (11, .int .i64 ((x.1 : Nat) : Int)), (12, .agg #[.slice z.1 x.2.length z.2, .int .i64 ((x.2.length + 8 : Nat) : Int)])] [(801, .blk D1 (.deferred (some []))), (802, .blk l1 (.loop rec1)), (1700, R1), (1701, .sl z.1 z.2 x.2), (1, .blk B1 (.cells #[.slice n9.a n9.l.length n9.cap] 63)), (2, .blk B2 (.cells #[.int .i64 ((endS ((scanA 0 l).take k) 0 : Nat) : Int)] 3)), (963, .row (.slice n9.a n9.l.length n9.cap) 34 1 n9.l.length (n9.l.flatMap RowG.cells)), (964, .pool 5 1 byc n9.l), (908, .blk qr3 (.cells #[.slice a l.length cap] 34))] (sub_cons rfl (sub_cons rfl (sub_cons rfl (sub_cons rfl (sub_cons rfl (sub_cons rfl (sub_cons rfl sub_nil))))))) (sub_cons rfl (sub_cons rfl (sub_cons rfl (sub_cons rfl (sub_cons rfl (sub_cons rfl (sub_cons rfl (sub_cons rfl (sub_cons rfl sub_nil))))))))) ?_
    refine T_seq (T_region ?_)
    refine TL_q (.int .i64 ((x.1 : Nat) : Int)) (fun _ _ hρ _ => r_assign (hρ _ _ rfl)) rfl rfl rfl (w_n rfl) ?_
    refine TL_seq ?_
    refine T_region ?_
    refine TL_new 1801 (.cells #[.slice none 0 0, .int .i64 0] 121) (fun B => .pointer (some ⟨B, 0, none⟩)) (fun _ _ _ _ => r_alloc (v := .agg #[.slice none 0 0, .int .i64 0]) (by kernel_rfl) rfl) rfl rfl rfl (w_n rfl) ?_
    intro B4
    refine TL_store 1801 (.cells #[.slice z.1 x.2.length z.2, .int .i64 ((x.2.length + 8 : Nat) : Int)] 121) rfl (fun _ _ hρ hm => r_store sz121 (hρ _ _ rfl) (hρ _ _ rfl) (hm.at 1801 rfl) rfl rfl rfl rfl) rfl rfl (w_n rfl) ?_
    refine TL_nil ?_
    exact p_at B4 trivial (sub_cons rfl (sub_cons rfl (sub_cons rfl (sub_cons rfl (sub_cons rfl (sub_cons rfl (sub_cons rfl sub_nil))))))) (sub_cons rfl (sub_cons rfl (sub_cons rfl (sub_cons rfl (sub_cons rfl (sub_cons rfl (sub_cons rfl (sub_cons rfl (sub_cons rfl (sub_cons rfl sub_nil))))))))))
  · intro D1 l1 rec1 R1 k x z n9 Bz hx1 hp1
    show T _ _ _ [(2, .slice none 0 0), (3, .int .i64 0), (4, .pointer (some ⟨B1, 0, none⟩)), (5, .pointer (some ⟨B2, 0, none⟩)), (10, .func (.func 114) #[] #[.pointer (some ⟨qr3, 0, none⟩)]), (6, .int .i64 ((x.1 : Nat) : Int)), (7, .pointer (some ⟨Bz, 0, none⟩))] [(801, .blk D1 (.deferred (some []))), (802, .blk l1 (.loop { rec1 with state := .busy })), (1700, R1), (1801, .blk Bz (.cells #[.slice z.1 x.2.length z.2, .int .i64 ((x.2.length + 8 : Nat) : Int)] 121)), (1701, .sl z.1 z.2 x.2), (1, .blk B1 (.cells #[.slice n9.a n9.l.length n9.cap] 63)), (2, .blk B2 (.cells #[.int .i64 ((endS ((scanA 0 l).take k) 0 : Nat) : Int)] 3)), (963, .row (.slice n9.a n9.l.length n9.cap) 34 1 n9.l.length (n9.l.flatMap RowG.cells)), (964, .pool 5 1 byc n9.l), (908, .blk qr3 (.cells #[.slice a l.length cap] 34))]
    have hbd := scan_bound l.length 0 l (Nat.le_refl _) x (List.mem_of_getElem? hx1)
    have hcn := scan_cnt hp1
    rw [rls_len] at hcn
    refine T_block ?_
    refine T_seq (T_region ?_)
    refine TL_q (.pointer (some ⟨Bz, 0, none⟩)) (fun _ _ hρ _ => r_fieldAddr fl121_0 sz34 (hρ _ _ rfl)) rfl rfl rfl (w_n rfl) ?_
    refine TL_q (.slice z.1 x.2.length z.2) (fun _ _ hρ hm => r_load ag34 (hρ _ _ rfl) (hm.at 1801 rfl) rfl) rfl rfl rfl (w_n rfl) ?_
    refine TL_q (.int .i64 ((x.2.length : Nat) : Int)) (fun _ _ hρ _ => r_len sl34 (hρ _ _ rfl)) rfl rfl rfl (w_n rfl) ?_
    refine TL_op (ι := Nat) (fun B => .slice (some ⟨B, 0, none⟩) x.2.length x.2.length) _ (fun _ _ hρ hm => o_make (n := x.2.length) (cap := x.2.length) (z := .int .u8 0) (f := byc) (u := 0#8) 1802 rfl (hρ _ _ rfl) (hρ _ _ rfl) sl34 by5 sz5 rfl (by kernel_rfl) rfl byc_len (by omega) (by omega) (by omega) hm) rfl rfl rfl (w_n rfl) ?_
    intro B5
    refine TL_q (.slice (some ⟨B5, 0, none⟩) x.2.length x.2.length) (fun _ _ hρ _ => r_assign (hρ _ _ rfl)) rfl rfl rfl (w_n rfl) ?_
    refine TL_seq ?_
    refine T_seq (T_region ?_)
    refine TL_q (.slice (some ⟨B5, 0, none⟩) x.2.length x.2.length) (fun _ _ hρ _ => r_move (hρ _ _ rfl)) rfl rfl rfl (w_n rfl) ?_
    refine TL_q (.pointer (some ⟨Bz, 0, none⟩)) (fun _ _ hρ _ => r_fieldAddr fl121_0 sz34 (hρ _ _ rfl)) rfl rfl rfl (w_n rfl) ?_
    refine TL_q (.slice z.1 x.2.length z.2) (fun _ _ hρ hm => r_load ag34 (hρ _ _ rfl) (hm.at 1801 rfl) rfl) rfl rfl rfl (w_n rfl) ?_
    refine TL_op1 (.int .i64 ((x.2.length : Nat) : Int)) _ (fun _ _ hρ hm => o_copy (s := 1) (news := (x.2.flatMap byc)) 1802 rfl (hρ _ _ rfl) (hρ _ _ rfl) rfl sl34 sz5 (src_of byc_len (hm.slAt 1701 rfl)) byc_oneL hm) rfl rfl rfl (w_n rfl) ?_
    refine TL_seq ?_
    refine T_draw (V := [(0, .slice n9.a n9.l.length n9.cap), (1, .slice (some ⟨B5, 0, none⟩) x.2.length x.2.length), (4, .int .i64 ((x.1 : Nat) : Int)), (5, .pointer (some ⟨Bz, 1, none⟩)), (6, .int .i64 ((x.2.length + 8 : Nat) : Int)), (7, .int .i64 ((x.1 + (x.2.length + 8) : Nat) : Int))]) [0, 0, 2, 7, 0, 0, 32, 112, 15, 511] [[(4, none)], [(8, none)], [(22, some 1)], [(21, some 0), (23, some 2)], [(6, none)], [(7, none)], [(26, some 5)], [(25, some 4), (27, some 6)], [(4, none), (24, some 3)], [(5, none), (28, some 7)]] 780 mixed (by kernel_rfl) ?_
    refine G_step [0, 1, 4, 5, 6, 7] 2 [] (by kernel_rfl) (allM (all_cons (q_run (.slice n9.a n9.l.length n9.cap) rfl rfl (wv_n rfl) rfl (fun _ _ hρ hm => r_load ag63 (hρ _ _ rfl) (hm.at 1 rfl) rfl)) (all_cons (q_run (.slice (some ⟨B5, 0, none⟩) x.2.length x.2.length) rfl rfl (wv_n rfl) rfl (fun _ _ hρ _ => r_move (hρ _ _ rfl))) (all_cons (q_run (.int .i64 ((x.1 : Nat) : Int)) rfl rfl (wv_n rfl) rfl (fun _ _ hρ _ => r_move (hρ _ _ rfl))) (all_cons (q_run (.pointer (some ⟨Bz, 1, none⟩)) rfl rfl (wv_n rfl) rfl (fun _ _ hρ _ => r_fieldAddr fl121_1 sz3 (hρ _ _ rfl))) (all_cons (q_run (.int .i64 ((x.2.length + 8 : Nat) : Int)) rfl rfl (wv_n rfl) rfl (fun _ _ hρ hm => r_load ag3 (hρ _ _ rfl) (hm.at 1801 rfl) rfl)) (all_cons (q_run (.int .i64 ((x.1 + (x.2.length + 8) : Nat) : Int)) rfl rfl (wv_n rfl) rfl (fun _ _ hρ _ => r_as (r_add (hρ _ _ rfl) (hρ _ _ rfl)) (int_as ((wrap64 (by omega) (by omega)).trans (by omega))))) all_nil))))))) (allM (all_cons ?_ all_nil))
    refine LOb_new 1803 (.cells #[.slice (some ⟨B5, 0, none⟩) x.2.length x.2.length] 34) (fun B => .slice (some ⟨B, 0, none⟩) 1 1) (fun B => []) rfl (wv_n rfl) rfl rfl (fun _ _ hρ _ => r_buildSlice (vs := [(0, .slice (some ⟨B5, 0, none⟩) x.2.length x.2.length)]) (by kernel_rfl) (cons2 (pair2 (hρ _ _ rfl)) rfl)) (fun B => by kernel_rfl) ?_
    intro B7
    refine G_step [0, 4, 5, 6, 7] 3 [] (by kernel_rfl) (allM (all_cons (q_run (.slice n9.a n9.l.length n9.cap) rfl rfl (wv_n rfl) rfl (fun _ _ hρ hm => r_load ag63 (hρ _ _ rfl) (hm.at 1 rfl) rfl)) (all_cons (q_run (.int .i64 ((x.1 : Nat) : Int)) rfl rfl (wv_n rfl) rfl (fun _ _ hρ _ => r_move (hρ _ _ rfl))) (all_cons (q_run (.pointer (some ⟨Bz, 1, none⟩)) rfl rfl (wv_n rfl) rfl (fun _ _ hρ _ => r_fieldAddr fl121_1 sz3 (hρ _ _ rfl))) (all_cons (q_run (.int .i64 ((x.2.length + 8 : Nat) : Int)) rfl rfl (wv_n rfl) rfl (fun _ _ hρ hm => r_load ag3 (hρ _ _ rfl) (hm.at 1801 rfl) rfl)) (all_cons (q_run (.int .i64 ((x.1 + (x.2.length + 8) : Nat) : Int)) rfl rfl (wv_n rfl) rfl (fun _ _ hρ _ => r_as (r_add (hρ _ _ rfl) (hρ _ _ rfl)) (int_as ((wrap64 (by omega) (by omega)).trans (by omega))))) all_nil)))))) (allM (all_cons ?_ all_nil))
    refine LOb_append (n := n9.l.length) (m := 1) (xs := (n9.l.flatMap RowG.cells)) (news := [.slice (some ⟨B5, 0, none⟩) x.2.length x.2.length]) (z := .slice none 0 0) 963 (fun a cap => []) rfl (wv_n rfl) rfl rfl rfl sl63 sz34 by34 (by kernel_rfl) rfl rfl (.inl rfl) (fun _ hm => src_blk (news := [.slice (some ⟨B5, 0, none⟩) x.2.length x.2.length]) (hm.at 1803 rfl) rfl) (by simp [Value.oneCell']) (by omega) (by omega) (fun a cap => by kernel_rfl) ?_
    intro a8 cap8
    refine G_step [4, 5, 6, 7] 8 [] (by kernel_rfl) (allM (all_cons (q_run (.int .i64 ((x.1 : Nat) : Int)) rfl rfl (wv_n rfl) rfl (fun _ _ hρ _ => r_move (hρ _ _ rfl))) (all_cons (q_run (.pointer (some ⟨Bz, 1, none⟩)) rfl rfl (wv_n rfl) rfl (fun _ _ hρ _ => r_fieldAddr fl121_1 sz3 (hρ _ _ rfl))) (all_cons (q_run (.int .i64 ((x.2.length + 8 : Nat) : Int)) rfl rfl (wv_n rfl) rfl (fun _ _ hρ hm => r_load ag3 (hρ _ _ rfl) (hm.at 1801 rfl) rfl)) (all_cons (q_run (.int .i64 ((x.1 + (x.2.length + 8) : Nat) : Int)) rfl rfl (wv_n rfl) rfl (fun _ _ hρ _ => r_as (r_add (hρ _ _ rfl) (hρ _ _ rfl)) (int_as ((wrap64 (by omega) (by omega)).trans (by omega))))) all_nil))))) (allM (all_cons ?_ all_nil))
    refine LOb_store 1 (.cells #[.slice a8 (n9.l.length + 1) cap8] 63) [] rfl (wv_n rfl) rfl rfl rfl (fun _ _ hρ hm => r_store sz63 (hρ _ _ rfl) (hρ _ _ rfl) (hm.at 1 rfl) rfl rfl rfl rfl) (by kernel_rfl) ?_
    refine G_step [4, 5, 6, 7] 9 [] (by kernel_rfl) (allM (all_cons (q_run (.int .i64 ((x.1 : Nat) : Int)) rfl rfl (wv_n rfl) rfl (fun _ _ hρ _ => r_move (hρ _ _ rfl))) (all_cons (q_run (.pointer (some ⟨Bz, 1, none⟩)) rfl rfl (wv_n rfl) rfl (fun _ _ hρ _ => r_fieldAddr fl121_1 sz3 (hρ _ _ rfl))) (all_cons (q_run (.int .i64 ((x.2.length + 8 : Nat) : Int)) rfl rfl (wv_n rfl) rfl (fun _ _ hρ hm => r_load ag3 (hρ _ _ rfl) (hm.at 1801 rfl) rfl)) (all_cons (q_run (.int .i64 ((x.1 + (x.2.length + 8) : Nat) : Int)) rfl rfl (wv_n rfl) rfl (fun _ _ hρ _ => r_as (r_add (hρ _ _ rfl) (hρ _ _ rfl)) (int_as ((wrap64 (by omega) (by omega)).trans (by omega))))) all_nil))))) (allM (all_cons ?_ all_nil))
    refine LOb_store 2 (.cells #[.int .i64 ((x.1 + (x.2.length + 8) : Nat) : Int)] 3) [] rfl (wv_n rfl) rfl rfl rfl (fun _ _ hρ hm => r_store sz3 (hρ _ _ rfl) (hρ _ _ rfl) (hm.at 2 rfl) rfl rfl rfl rfl) (by kernel_rfl) ?_
    refine G_lastQ [] [(2, .slice none 0 0), (3, .int .i64 0)] (by kernel_rfl) (allM all_nil) (end_old rfl rfl (end_old rfl rfl end_nil)) ?_
    refine p_blk_n ?_
    have hn9 : (n9.l.length + 1) = (n9.l ++ [(⟨(some ⟨B5, 0, none⟩), x.2.length, x.2⟩ : RowG By)]).length := by simp
    have hx9 : ((n9.l.flatMap RowG.cells) ++ [.slice (some ⟨B5, 0, none⟩) x.2.length x.2.length]) = (n9.l ++ [(⟨(some ⟨B5, 0, none⟩), x.2.length, x.2⟩ : RowG By)]).flatMap RowG.cells := by simp [RowG.cells]
    rw [hx9, hn9]
    refine p_mem (_ :: _ :: _) (fun _ hm => hm.poolPush 964 1802 rfl rfl rfl rfl) ?_
    rw [← endS_at hx1]
    exact p_round_n ⟨a8, cap8, n9.l ++ [(⟨(some ⟨B5, 0, none⟩), x.2.length, x.2⟩ : RowG By)]⟩ (scan_step hp1 hx1) (sub_cons rfl (sub_cons rfl (sub_cons rfl (sub_cons rfl (sub_cons rfl (sub_cons rfl (sub_cons rfl (sub_cons rfl sub_nil))))))))
  · intro D1 n9 hp1
    refine p_sub [(2, .slice none 0 0), (3, .int .i64 0), (4, .pointer (some ⟨B1, 0, none⟩)), (5, .pointer (some ⟨B2, 0, none⟩)), (10, .func (.func 114) #[] #[.pointer (some ⟨qr3, 0, none⟩)])] [(801, .blk D1 (.deferred (some []))), (908, .blk qr3 (.cells #[.slice a l.length cap] 34)), (1, .blk B1 (.cells #[.slice n9.a n9.l.length n9.cap] 63)), (2, .blk B2 (.cells #[.int .i64 ((endS ((scanA 0 l).take (scanA 0 l).length) 0 : Nat) : Int)] 3)), (963, .row (.slice n9.a n9.l.length n9.cap) 34 1 n9.l.length (n9.l.flatMap RowG.cells)), (964, .pool 5 1 byc n9.l)] (sub_cons rfl (sub_cons rfl (sub_cons rfl (sub_cons rfl (sub_cons rfl sub_nil))))) (sub_cons rfl (sub_cons rfl (sub_cons rfl (sub_cons rfl (sub_cons rfl (sub_cons rfl sub_nil)))))) ?_
    refine p_blk_n ?_
    refine p_seq ?_
    refine T_seq (T_draw (V := [(0, .slice n9.a n9.l.length n9.cap), (1, .int .i64 ((endS ((scanA 0 l).take (scanA 0 l).length) 0 : Nat) : Int)), (2, .slice n9.a n9.l.length n9.cap), (3, .int .i64 ((endS ((scanA 0 l).take (scanA 0 l).length) 0 : Nat) : Int))]) [0, 0, 1, 7] [[(4, none)], [(5, none)], [(29, some 0)], [(30, some 1)]] 0 mixed (by kernel_rfl) ?_)
    refine G_last [0, 1, 2, 3] [(2, .slice n9.a n9.l.length n9.cap), (3, .int .i64 ((endS ((scanA 0 l).take (scanA 0 l).length) 0 : Nat) : Int))] (by kernel_rfl) (allM (all_cons (q_run (.slice n9.a n9.l.length n9.cap) rfl rfl (wv_n rfl) rfl (fun _ _ hρ hm => r_load ag63 (hρ _ _ rfl) (hm.at 1 rfl) rfl)) (all_cons (q_run (.int .i64 ((endS ((scanA 0 l).take (scanA 0 l).length) 0 : Nat) : Int)) rfl rfl (wv_n rfl) rfl (fun _ _ hρ hm => r_load ag3 (hρ _ _ rfl) (hm.at 2 rfl) rfl)) (all_cons (q_run (.slice n9.a n9.l.length n9.cap) rfl rfl (wv_n rfl) rfl (fun _ _ hρ _ => r_assign (hρ _ _ rfl))) (all_cons (q_run (.int .i64 ((endS ((scanA 0 l).take (scanA 0 l).length) 0 : Nat) : Int)) rfl rfl (wv_n rfl) rfl (fun _ _ hρ _ => r_assign (hρ _ _ rfl))) all_nil))))) (end_new 2 rfl rfl (end_new 3 rfl rfl end_nil)) ?_
    refine T_ret' ?_
    refine ret_of1 801 D1 rfl rfl (.tuple #[.slice n9.a n9.l.length n9.cap, .int .i64 ((endS ((scanA 0 l).take (scanA 0 l).length) 0 : Nat) : Int)]) (fun tmps w hk hm => res2 rfl (res_tmp (hk 2 _ rfl)) (res_tmp (hk 3 _ rfl))) (fun w hm => ?_)
    rw [List.take_length] at hp1
    exact ⟨n9, hp1, by rw [List.take_length], hm.ext, hm.own 963 _ rfl, hm.own 964 _ rfl, hm.sep 963 964 _ _ rfl rfl (by decide)⟩

theorem places_c (l : List By) (a : Option Addr) (cap : Nat) (w : World) (hv : SliceAt w a cap 1 byc l) (hcap : cap ≤ Go.maxLen) (hl9 : l.length ≤ 1000000) : Calls Try.prog 49 #[.slice a l.length cap] w fun e w' => ∃ a' cap', e = .returned (.slice a' (placesV l).length cap') ∧ Below w.heap.size w w' ∧ w'.ownsRow w.heap.size 3 1 (.slice a' (placesV l).length cap') (placesV l).length ((placesV l).flatMap nic) := by
  have hvl := hv.1
  have hcp := hcap
  unfold Go.maxLen at hcp
  refine calls_of_T (l := [.slice a l.length cap]) 18 Try.func49 rfl rfl rfl ?_
  show T _ _ _ [(0, .slice a l.length cap)] []
  refine T_seq (T_region ?_)
  refine TL_new 1 (.cells #[.slice a l.length cap] 34) (fun B => .pointer (some ⟨B, 0, none⟩)) (fun _ _ hρ _ => r_box (hρ _ _ rfl) rfl) rfl rfl rfl (w_n rfl) ?_
  intro B1
  refine TL_q (.slice none 0 0) (fun _ _ hρ _ => r_assign (hρ _ _ rfl)) rfl rfl rfl (w_n rfl) ?_
  refine TL_seq ?_
  refine T_scope ?_
  refine T_seq (T_region ?_)
  refine TL_new 2 (.cells #[.slice none 0 0] 71) (fun B => .pointer (some ⟨B, 0, none⟩)) (fun _ _ _ _ => r_alloc (v := .slice none 0 0) (by kernel_rfl) rfl) rfl rfl rfl (w_n rfl) ?_
  intro B2
  refine TL_seq ?_
  refine T_label ?_
  refine T_seq ?_
  refine T_mem (_ :: _) (fun _ hm => hm.nilRow 963 3 1) ?_
  refine T_seq (T_region ?_)
  refine TL_q (.slice a l.length cap) (fun _ _ hρ hm => r_load ag34 (hρ _ _ rfl) (hm.at 1 rfl) rfl) rfl rfl rfl (w_n rfl) ?_
  refine TL_callN (fun (_ : Nat) => True) (fun qr3 => .func (.func 114) #[] #[.pointer (some ⟨qr3, 0, none⟩)]) (fun qr3 => [(908, .blk qr3 (.cells #[.slice a l.length cap] 34))]) (fun _ _ hρ _ => r_call (args := [.slice a l.length cap]) (enters_of Try.func87 (by kernel_rfl) rfl) (hρ _ _ rfl) ((cons2 (hρ _ _ rfl) rfl)) rfl) (fun w _ => (recs_c a l.length cap w).mono fun e w' ⟨q, he, hb, hr⟩ => ⟨q, trivial, he, hb, newOk1 908 hr⟩) rfl rfl rfl (w_n rfl) ?_
  rintro qr3 -
  refine TL_seq ?_
  refine T_block ?_
  refine T_sub [(1, .pointer (some ⟨B1, 0, none⟩)), (2, .slice none 0 0), (3, .pointer (some ⟨B2, 0, none⟩)), (6, .func (.func 114) #[] #[.pointer (some ⟨qr3, 0, none⟩)])] [(908, .blk qr3 (.cells #[.slice a l.length cap] 34)), (963, .row (.slice none 0 0) 3 1 0 []), (1, .blk B1 (.cells #[.slice a l.length cap] 34)), (2, .blk B2 (.cells #[.slice none 0 0] 71))] (sub_cons rfl (sub_cons rfl (sub_cons rfl (sub_cons rfl sub_nil)))) (sub_cons rfl (sub_cons rfl (sub_cons rfl (sub_cons rfl sub_nil)))) ?_
  refine T_rangeZ (ι := RowG Nat) (ζ := Option Addr × Nat) (ζ' := Unit) (encs := encF) (E := EF) (xs := (scanA 0 l)) rfl rfl (enters_of Try.func114 (by kernel_rfl) rfl) (fun _ _ => rfl) rfl 801 802 rfl rfl rfl (fun (k : Nat) (n9 : RowG Nat) => n9.l = ((scanA 0 l).take k).map (·.1)) (fun (k : Nat) (n9 : RowG Nat) => [(2, .blk B2 (.cells #[.slice n9.a n9.l.length n9.cap] 71)), (963, .row (.slice n9.a n9.l.length n9.cap) 3 1 n9.l.length (n9.l.flatMap nic)), (908, .blk qr3 (.cells #[.slice a l.length cap] 34)), (1, .blk B1 (.cells #[.slice a l.length cap] 34))]) (fun _ _ => False) (fun _ => []) (fun x z _u => [(1, .pointer (some ⟨B1, 0, none⟩)), (2, .slice none 0 0), (3, .pointer (some ⟨B2, 0, none⟩)), (6, .func (.func 114) #[] #[.pointer (some ⟨qr3, 0, none⟩)]), (4, .int .i64 ((x.1 : Nat) : Int))]) (fun x z _u => []) (fun D l9 rec => recs_iter w _ _ qr3 l a cap hv hcap (by omega) (fun _ _ => by repeat (first | exact noIds_nil _ _ | refine noIds_cons rfl ?_)) (fun _ _ hm => hm.at 908 rfl)) (fun _ _ => ⟨rfl, rfl⟩) (fun _ => ⟨rfl, rfl⟩) ⟨none, 0, []⟩ rfl (sub_cons rfl (sub_cons rfl (sub_cons rfl (sub_cons rfl sub_nil)))) ?_ ?_ ?_ (fun _ _ _ h => h.elim)
  · intro D1 l1 rec1 R1 k x z n9 hx1 hp1
    refine T_sub [(1, .pointer (some ⟨B1, 0, none⟩)), (2, .slice none 0 0), (3, .pointer (some ⟨B2, 0, none⟩)), (6, .func (.func 114) #[] #[.pointer (some ⟨qr3, 0, none⟩)]), (7, .int .i64 ((x.1 : Nat) : Int)), (8, .agg #[.slice z.1 x.2.length z.2, .int .i64 ((x.2.length + 8 : Nat) : Int)])] [(801, .blk D1 (.deferred (some []))), (802, .blk l1 (.loop rec1)), (1700, R1), (1701, .sl z.1 z.2 x.2), (2, .blk B2 (.cells #[.slice n9.a n9.l.length n9.cap] 71)), (963, .row (.slice n9.a n9.l.length n9.cap) 3 1 n9.l.length (n9.l.flatMap nic)), (908, .blk qr3 (.cells #[.slice a l.length cap] 34)), (1, .blk B1 (.cells #[.slice a l.length cap] 34))] (sub_cons rfl (sub_cons rfl (sub_cons rfl (sub_cons rfl (sub_cons rfl (sub_cons rfl sub_nil)))))) (sub_cons rfl (sub_cons rfl (sub_cons rfl (sub_cons rfl (sub_cons rfl (sub_cons rfl (sub_cons rfl (sub_cons rfl sub_nil)))))))) ?_
    refine T_region ?_
    refine TL_q (.int .i64 ((x.1 : Nat) : Int)) (fun _ _ hρ _ => r_assign (hρ _ _ rfl)) rfl rfl rfl (w_n rfl) ?_
    refine TL_nil ?_
    exact p_at () trivial (sub_cons rfl (sub_cons rfl (sub_cons rfl (sub_cons rfl (sub_cons rfl sub_nil))))) (sub_cons rfl (sub_cons rfl (sub_cons rfl (sub_cons rfl (sub_cons rfl (sub_cons rfl (sub_cons rfl sub_nil)))))))
  · intro D1 l1 rec1 R1 k x z n9 _u hx1 hp1
    show T _ _ _ [(1, .pointer (some ⟨B1, 0, none⟩)), (2, .slice none 0 0), (3, .pointer (some ⟨B2, 0, none⟩)), (6, .func (.func 114) #[] #[.pointer (some ⟨qr3, 0, none⟩)]), (4, .int .i64 ((x.1 : Nat) : Int))] [(801, .blk D1 (.deferred (some []))), (802, .blk l1 (.loop { rec1 with state := .busy })), (1700, R1), (2, .blk B2 (.cells #[.slice n9.a n9.l.length n9.cap] 71)), (963, .row (.slice n9.a n9.l.length n9.cap) 3 1 n9.l.length (n9.l.flatMap nic)), (908, .blk qr3 (.cells #[.slice a l.length cap] 34)), (1, .blk B1 (.cells #[.slice a l.length cap] 34))]
    have hbd := scan_bound l.length 0 l (Nat.le_refl _) x (List.mem_of_getElem? hx1)
    have hcn := scan_cnt hp1
    refine T_block ?_
    refine T_seq (T_region ?_)
    refine TL_q (.slice n9.a n9.l.length n9.cap) (fun _ _ hρ hm => r_load ag71 (hρ _ _ rfl) (hm.at 2 rfl) rfl) rfl rfl rfl (w_n rfl) ?_
    refine TL_q (.int .i64 ((x.1 : Nat) : Int)) (fun _ _ hρ _ => r_move (hρ _ _ rfl)) rfl rfl rfl (w_n rfl) ?_
    refine TL_new 3 (.cells #[.int .i64 ((x.1 : Nat) : Int)] 3) (fun B => .slice (some ⟨B, 0, none⟩) 1 1) (fun _ _ hρ _ => r_buildSlice (vs := [(0, .int .i64 ((x.1 : Nat) : Int))]) (by kernel_rfl) (cons2 (pair2 (hρ _ _ rfl)) rfl)) rfl rfl rfl (w_n rfl) ?_
    intro B4
    refine TL_append (n := n9.l.length) (m := 1) (xs := (n9.l.flatMap nic)) (news := [.int .i64 ((x.1 : Nat) : Int)]) (z := .int .i64 0) 963 rfl rfl rfl sl71 sz3 by3 (by kernel_rfl) rfl rfl (.inl rfl) (fun _ hm => src_blk (news := [.int .i64 ((x.1 : Nat) : Int)]) (hm.at 3 rfl) rfl) (by simp [Value.oneCell']) (by omega) (by omega) rfl (w_n rfl) ?_
    intro a5 cap5
    refine TL_store 2 (.cells #[.slice a5 (n9.l.length + 1) cap5] 71) rfl (fun _ _ hρ hm => r_store sz71 (hρ _ _ rfl) (hρ _ _ rfl) (hm.at 2 rfl) rfl rfl rfl rfl) rfl rfl (w_n rfl) ?_
    refine TL_seq ?_
    refine T_seq (T_region ?_)
    refine TL_q (.int .i64 ((x.1 : Nat) : Int)) (fun _ _ hρ _ => r_move (hρ _ _ rfl)) rfl rfl rfl (w_n rfl) ?_
    refine TL_q (.slice a l.length cap) (fun _ _ hρ hm => r_load ag34 (hρ _ _ rfl) (hm.at 1 rfl) rfl) rfl rfl rfl (w_n rfl) ?_
    refine TL_q (.int .i64 ((l.length : Nat) : Int)) (fun _ _ hρ _ => r_len sl34 (hρ _ _ rfl)) rfl rfl rfl (w_n rfl) ?_
    refine TL_q (.bool false) (fun _ _ hρ _ => r_as (r_geq (hρ _ _ rfl) (hρ _ _ rfl)) (bool_as (decide_eq_false (by omega)))) rfl rfl rfl (w_n rfl) ?_
    refine TL_seq ?_
    refine T_cond_f rfl ?_
    refine T_skip' ?_
    refine p_blk_n ?_
    have hn6 : (n9.l.length + 1) = (n9.l ++ [x.1]).length := by simp
    have hx6 : ((n9.l.flatMap nic) ++ [.int .i64 ((x.1 : Nat) : Int)]) = (n9.l ++ [x.1]).flatMap nic := by simp [nic]
    rw [hx6, hn6]
    exact p_round_n ⟨a5, cap5, n9.l ++ [x.1]⟩ (place_step hp1 hx1) (sub_cons rfl (sub_cons rfl (sub_cons rfl (sub_cons rfl (sub_cons rfl (sub_cons rfl (sub_cons rfl sub_nil)))))))
  · intro D1 n9 hp1
    refine p_sub [(1, .pointer (some ⟨B1, 0, none⟩)), (2, .slice none 0 0), (3, .pointer (some ⟨B2, 0, none⟩)), (6, .func (.func 114) #[] #[.pointer (some ⟨qr3, 0, none⟩)])] [(801, .blk D1 (.deferred (some []))), (908, .blk qr3 (.cells #[.slice a l.length cap] 34)), (1, .blk B1 (.cells #[.slice a l.length cap] 34)), (2, .blk B2 (.cells #[.slice n9.a n9.l.length n9.cap] 71)), (963, .row (.slice n9.a n9.l.length n9.cap) 3 1 n9.l.length (n9.l.flatMap nic))] (sub_cons rfl (sub_cons rfl (sub_cons rfl (sub_cons rfl sub_nil)))) (sub_cons rfl (sub_cons rfl (sub_cons rfl (sub_cons rfl (sub_cons rfl sub_nil))))) ?_
    refine p_blk_n ?_
    refine p_seq ?_
    refine T_seq (T_region ?_)
    refine TL_q (.slice n9.a n9.l.length n9.cap) (fun _ _ hρ hm => r_load ag71 (hρ _ _ rfl) (hm.at 2 rfl) rfl) rfl rfl rfl (w_n rfl) ?_
    refine TL_q (.slice n9.a n9.l.length n9.cap) (fun _ _ hρ _ => r_assign (hρ _ _ rfl)) rfl rfl rfl (w_n rfl) ?_
    refine TL_seq ?_
    refine T_ret' ?_
    refine p_ng_r ?_
    refine ret_of1 801 D1 rfl rfl (.slice n9.a n9.l.length n9.cap) (fun tmps w hk hm => res1 rfl (res_tmp (hk 2 _ rfl))) (fun w hm => ?_)
    have hpl := scan_all hp1
    have hrow := hm.row 963 rfl
    obtain ⟨na, nc, nl⟩ := n9
    dsimp only at hpl hrow
    subst hpl
    exact ⟨na, nc, rfl, hm.ext, hrow⟩

theorem cut_c (l : List By) (a : Option Addr) (cap : Nat) (w : World) (hv : SliceAt w a cap 1 byc l) (hcap : cap ≤ Go.maxLen) (hl9 : l.length ≤ 1000000) : Calls Try.prog 50 #[.slice a l.length cap] w fun e w' => ∃ a' cap', e = .returned (.slice a' (l.take (sizeV l)).length cap') ∧ Below w.heap.size w w' ∧ w'.ownsRow w.heap.size 5 1 (.slice a' (l.take (sizeV l)).length cap') (l.take (sizeV l)).length ((l.take (sizeV l)).flatMap byc) := by
  have hvl := hv.1
  have hcp := hcap
  unfold Go.maxLen at hcp
  have hsz := size_le l
  refine calls_of_T (l := [.slice a l.length cap]) 14 Try.func50 rfl rfl rfl ?_
  show T _ _ _ [(0, .slice a l.length cap)] []
  refine T_seq (T_region ?_)
  refine TL_q (.slice none 0 0) (fun _ _ hρ _ => r_assign (hρ _ _ rfl)) rfl rfl rfl (w_n rfl) ?_
  refine TL_seq ?_
  refine T_seq (T_region ?_)
  refine TL_q (.slice a l.length cap) (fun _ _ hρ _ => r_move (hρ _ _ rfl)) rfl rfl rfl (w_n rfl) ?_
  refine TL_callN (fun ((na1, nc1, nl1) : Option Addr × Nat × List (RowG By)) => rls nl1 = heldsV l) (fun (na1, nc1, nl1) => .tuple #[.slice na1 nl1.length nc1, .int .i64 ((sizeV l : Nat) : Int)]) (fun (na1, nc1, nl1) => [(1, .row (.slice na1 nl1.length nc1) 34 1 nl1.length (nl1.flatMap RowG.cells)), (2, .pool 5 1 byc nl1)]) (fun _ _ hρ _ => r_call (args := [.slice a l.length cap]) (enters_of Try.func46 (by kernel_rfl) rfl) (hρ _ _ rfl) ((cons2 (hρ _ _ rfl) rfl)) rfl) (fun w hm => (scan_c l a cap w (hv.keep hm.ext) hcap (by omega)).mono fun e w' ⟨n, hf, he, hb, r1, r2, hs⟩ => ⟨(n.a, n.cap, n.l), hf, he, hb, newOk2 1 2 r1 r2 hs⟩) rfl rfl rfl (w_n rfl) ?_
  rintro ⟨na1, nc1, nl1⟩ hsc1
  refine TL_q (.tuple #[.slice na1 nl1.length nc1, .int .i64 ((sizeV l : Nat) : Int)]) (fun _ _ hρ _ => r_move (hρ _ _ rfl)) rfl rfl rfl (w_n rfl) ?_
  refine TL_q (.slice na1 nl1.length nc1) (fun _ _ hρ _ => r_extract (hρ _ _ rfl) rfl) rfl rfl rfl (w_n rfl) ?_
  refine TL_q (.int .i64 ((sizeV l : Nat) : Int)) (fun _ _ hρ _ => r_extract (hρ _ _ rfl) rfl) rfl rfl rfl (w_n rfl) ?_
  refine TL_q (.slice na1 nl1.length nc1) (fun _ _ hρ _ => r_assign (hρ _ _ rfl)) rfl rfl rfl (w_n rfl) ?_
  refine TL_q (.int .i64 ((sizeV l : Nat) : Int)) (fun _ _ hρ _ => r_assign (hρ _ _ rfl)) rfl rfl rfl (w_n rfl) ?_
  refine TL_seq ?_
  refine T_seq (T_region ?_)
  refine TL_q (.slice a l.length cap) (fun _ _ hρ _ => r_move (hρ _ _ rfl)) rfl rfl rfl (w_n rfl) ?_
  refine TL_q (.int .i64 ((sizeV l : Nat) : Int)) (fun _ _ hρ _ => r_move (hρ _ _ rfl)) rfl rfl rfl (w_n rfl) ?_
  obtain ⟨l2, hl2, hn2⟩ : ∃ lz, lz = l.take (sizeV l) ∧ lz.length = sizeV l := ⟨_, rfl, by rw [List.length_take]; omega⟩
  have hs2 := SliceAt.front hv (n := sizeV l) (m := cap) (by omega) (by omega) (by omega)
  rw [← hl2] at hs2
  refine TL_q (.slice a l2.length cap) (fun ρ _ hρ _ => r_as (r_sliceO sl34 sz5 (hρ _ _ rfl) (bd_none ρ _) (bd_some (n := sizeV l) (hρ _ _ rfl)) (bd_none ρ _) (by simp) (by omega) (by omega) (by omega)) (by rw [hn2]; exact slo_zero _ _ _ _)) rfl rfl rfl (w_n rfl) ?_
  refine TL_callN (fun (_ : Option Addr × Nat) => True) (fun (ar3, cr3) => .slice ar3 ((l2).length) cr3) (fun (ar3, cr3) => [(3, .row (.slice ar3 ((l2).length) cr3) 5 1 ((l2).length) ((l2).flatMap byc))]) (fun _ _ hρ _ => r_call (args := [.slice a l2.length cap]) (enters_of Try.func37 (by kernel_rfl) rfl) (hρ _ _ rfl) ((cons2 (hρ _ _ rfl) rfl)) rfl) (fun w hm => (clone_b byc byc_len byc_one l2 a cap w (hs2.keep hm.ext) (by omega)).mono fun e w' ⟨a', cap', he, hb, hr⟩ => ⟨(a', cap'), trivial, he, hb, newOk1 3 hr⟩) rfl rfl rfl (w_n rfl) ?_
  rintro ⟨ar3, cr3⟩ -
  refine TL_q (.slice ar3 ((l2).length) cr3) (fun _ _ hρ _ => r_assign (hρ _ _ rfl)) rfl rfl rfl (w_n rfl) ?_
  refine TL_seq ?_
  refine T_ret' ?_
  refine ret_of rfl (.slice ar3 ((l2).length) cr3) (fun tmps w hk hm => res1 rfl (res_tmp (hk 2 _ rfl))) (fun w hm => ?_)
  have hrow := hm.row 3 rfl
  rw [hl2] at hrow ⊢
  exact ⟨ar3, cr3, rfl, hm.ext, hrow⟩

theorem why_c (l : List By) (a : Option Addr) (cap : Nat) (w : World) (hv : SliceAt w a cap 1 byc l) (hcap : cap ≤ Go.maxLen) (hl9 : l.length ≤ 1000000) : Calls Try.prog 47 #[.slice a l.length cap] w fun e w' => e = .returned (.tuple #[.int .i64 (sizeV l : Int), .int .i64 (whyE l)]) ∧ Below w.heap.size w w' := by
  have hvl := hv.1
  have hcp := hcap
  unfold Go.maxLen at hcp
  have hsz := size_le l
  refine calls_of_T (l := [.slice a l.length cap]) 29 Try.func47 rfl rfl rfl ?_
  show T _ _ _ [(0, .slice a l.length cap)] []
  refine T_seq (T_region ?_)
  refine TL_q (.int .i64 0) (fun _ _ hρ _ => r_assign (hρ _ _ rfl)) rfl rfl rfl (w_n rfl) ?_
  refine TL_q (.int .i64 0) (fun _ _ hρ _ => r_assign (hρ _ _ rfl)) rfl rfl rfl (w_n rfl) ?_
  refine TL_seq ?_
  refine T_seq (T_region ?_)
  refine TL_q (.slice a l.length cap) (fun _ _ hρ _ => r_move (hρ _ _ rfl)) rfl rfl rfl (w_n rfl) ?_
  refine TL_callN (fun ((na1, nc1, nl1) : Option Addr × Nat × List (RowG By)) => rls nl1 = heldsV l) (fun (na1, nc1, nl1) => .tuple #[.slice na1 nl1.length nc1, .int .i64 ((sizeV l : Nat) : Int)]) (fun (na1, nc1, nl1) => [(1, .row (.slice na1 nl1.length nc1) 34 1 nl1.length (nl1.flatMap RowG.cells)), (2, .pool 5 1 byc nl1)]) (fun _ _ hρ _ => r_call (args := [.slice a l.length cap]) (enters_of Try.func46 (by kernel_rfl) rfl) (hρ _ _ rfl) ((cons2 (hρ _ _ rfl) rfl)) rfl) (fun w hm => (scan_c l a cap w (hv.keep hm.ext) hcap (by omega)).mono fun e w' ⟨n, hf, he, hb, r1, r2, hs⟩ => ⟨(n.a, n.cap, n.l), hf, he, hb, newOk2 1 2 r1 r2 hs⟩) rfl rfl rfl (w_n rfl) ?_
  rintro ⟨na1, nc1, nl1⟩ hsc1
  refine TL_q (.tuple #[.slice na1 nl1.length nc1, .int .i64 ((sizeV l : Nat) : Int)]) (fun _ _ hρ _ => r_move (hρ _ _ rfl)) rfl rfl rfl (w_n rfl) ?_
  refine TL_q (.slice na1 nl1.length nc1) (fun _ _ hρ _ => r_extract (hρ _ _ rfl) rfl) rfl rfl rfl (w_n rfl) ?_
  refine TL_q (.int .i64 ((sizeV l : Nat) : Int)) (fun _ _ hρ _ => r_extract (hρ _ _ rfl) rfl) rfl rfl rfl (w_n rfl) ?_
  refine TL_q (.slice na1 nl1.length nc1) (fun _ _ hρ _ => r_assign (hρ _ _ rfl)) rfl rfl rfl (w_n rfl) ?_
  refine TL_q (.int .i64 ((sizeV l : Nat) : Int)) (fun _ _ hρ _ => r_assign (hρ _ _ rfl)) rfl rfl rfl (w_n rfl) ?_
  refine TL_seq ?_
  refine T_seq ?_
  by_cases hse : ((sizeV l : Nat) : Int) = ((l.length : Nat) : Int)
  · skip
    refine T_seq (T_region ?_)
    refine TL_q (.int .i64 ((sizeV l : Nat) : Int)) (fun _ _ hρ _ => r_move (hρ _ _ rfl)) rfl rfl rfl (w_n rfl) ?_
    refine TL_q (.slice a l.length cap) (fun _ _ hρ _ => r_move (hρ _ _ rfl)) rfl rfl rfl (w_n rfl) ?_
    refine TL_q (.int .i64 ((l.length : Nat) : Int)) (fun _ _ hρ _ => r_len sl34 (hρ _ _ rfl)) rfl rfl rfl (w_n rfl) ?_
    refine TL_q (.bool true) (fun _ _ hρ _ => r_as (r_eql (hρ _ _ rfl) (hρ _ _ rfl)) (bool_as (decide_eq_true hse))) rfl rfl rfl (w_n rfl) ?_
    refine TL_seq ?_
    refine T_cond_t rfl ?_
    refine T_seq (T_region ?_)
    refine TL_q (.int .i64 ((sizeV l : Nat) : Int)) (fun _ _ hρ _ => r_move (hρ _ _ rfl)) rfl rfl rfl (w_n rfl) ?_
    refine TL_q (.int .i64 ((sizeV l : Nat) : Int)) (fun _ _ hρ _ => r_assign (hρ _ _ rfl)) rfl rfl rfl (w_n rfl) ?_
    refine TL_q (.int .i64 0) (fun _ _ hρ _ => r_assign (hρ _ _ rfl)) rfl rfl rfl (w_n rfl) ?_
    refine TL_seq ?_
    refine T_ret' ?_
    refine p_then_r ?_
    refine ret_of rfl (.tuple #[.int .i64 ((sizeV l : Nat) : Int), .int .i64 0]) (fun tmps w hk hm => res2 rfl (res_tmp (hk 2 _ rfl)) (res_tmp (hk 3 _ rfl))) (fun w hm => ?_)
    exact ⟨by rw [show whyE l = 0 from if_pos (by omega)], hm.ext⟩
  · skip
    refine T_seq (T_region ?_)
    refine TL_q (.int .i64 ((sizeV l : Nat) : Int)) (fun _ _ hρ _ => r_move (hρ _ _ rfl)) rfl rfl rfl (w_n rfl) ?_
    refine TL_q (.slice a l.length cap) (fun _ _ hρ _ => r_move (hρ _ _ rfl)) rfl rfl rfl (w_n rfl) ?_
    refine TL_q (.int .i64 ((l.length : Nat) : Int)) (fun _ _ hρ _ => r_len sl34 (hρ _ _ rfl)) rfl rfl rfl (w_n rfl) ?_
    refine TL_q (.bool false) (fun _ _ hρ _ => r_as (r_eql (hρ _ _ rfl) (hρ _ _ rfl)) (bool_as (decide_eq_false hse))) rfl rfl rfl (w_n rfl) ?_
    refine TL_seq ?_
    refine T_cond_f rfl ?_
    refine T_skip' ?_
    refine p_seq ?_
    refine T_seq (T_region ?_)
    refine TL_q (.slice a l.length cap) (fun _ _ hρ _ => r_move (hρ _ _ rfl)) rfl rfl rfl (w_n rfl) ?_
    refine TL_q (.int .i64 ((sizeV l : Nat) : Int)) (fun _ _ hρ _ => r_move (hρ _ _ rfl)) rfl rfl rfl (w_n rfl) ?_
    obtain ⟨l2, hl2, hn2⟩ : ∃ lz, lz = (l.drop (sizeV l)).take (l.length - (sizeV l)) ∧ lz.length = l.length - (sizeV l) := ⟨_, rfl, by rw [List.length_take, List.length_drop]; omega⟩
    obtain ⟨a2, ha2⟩ : ∃ az : Option Addr, az = (if cap = sizeV l then a else Option.map (·.add ((sizeV l) * 1)) a) := ⟨_, rfl⟩
    have hs2 := SliceAt.part hv (lo := sizeV l) (hi := l.length) (m := cap) (by omega) (by omega) (by omega) (by omega)
    rw [← hl2, ← ha2] at hs2
    refine TL_q (.slice a2 l2.length (cap - (sizeV l))) (fun ρ _ hρ _ => r_as (r_sliceO sl34 sz5 (hρ _ _ rfl) (bd_none ρ _) (bd_none ρ _) (bd_some (n := sizeV l) (hρ _ _ rfl)) (by simp) (by omega) (by omega) (by omega)) (by rw [hn2, ha2])) rfl rfl rfl (w_n rfl) ?_
    have er2 : l2 = l.drop (sizeV l) := by rw [hl2]; exact List.take_of_length_le (by rw [List.length_drop]; exact Nat.le_refl _)
    refine TL_callN (fun (_ : Option Addr × Nat) => True) (fun (ar3, cr3) => .tuple #[.slice ar3 (([] : List By).length) cr3, .int .i64 0, .int .i64 (firstE l2)]) (fun (ar3, cr3) => [(3, .row (.slice ar3 (([] : List By).length) cr3) 5 1 (([] : List By).length) (([] : List By).flatMap byc))]) (fun _ _ hρ _ => r_call (args := [.slice a2 l2.length (cap - (sizeV l))]) (enters_of Try.func52 (by kernel_rfl) rfl) (hρ _ _ rfl) ((cons2 (hρ _ _ rfl) rfl)) rfl) (fun w hm => (jfirst_p l2 a2 (cap - (sizeV l)) w (hs2.keep hm.ext) (by omega) (by rw [er2]; exact size_rest l)).mono fun e w' ⟨a', cap', he, hb, hr⟩ => ⟨(a', cap'), trivial, he, hb, newOk1 3 hr⟩) rfl rfl rfl (w_n rfl) ?_
    rintro ⟨ar3, cr3⟩ -
    refine TL_q (.tuple #[.slice ar3 (([] : List By).length) cr3, .int .i64 0, .int .i64 (firstE l2)]) (fun _ _ hρ _ => r_move (hρ _ _ rfl)) rfl rfl rfl (w_n rfl) ?_
    refine TL_q (.slice ar3 (([] : List By).length) cr3) (fun _ _ hρ _ => r_extract (hρ _ _ rfl) rfl) rfl rfl rfl (w_n rfl) ?_
    refine TL_q (.int .i64 0) (fun _ _ hρ _ => r_extract (hρ _ _ rfl) rfl) rfl rfl rfl (w_n rfl) ?_
    refine TL_q (.int .i64 (firstE l2)) (fun _ _ hρ _ => r_extract (hρ _ _ rfl) rfl) rfl rfl rfl (w_n rfl) ?_
    refine TL_q (.slice ar3 (([] : List By).length) cr3) (fun _ _ hρ _ => r_assign (hρ _ _ rfl)) rfl rfl rfl (w_n rfl) ?_
    refine TL_q (.int .i64 0) (fun _ _ hρ _ => r_assign (hρ _ _ rfl)) rfl rfl rfl (w_n rfl) ?_
    refine TL_q (.int .i64 (firstE l2)) (fun _ _ hρ _ => r_assign (hρ _ _ rfl)) rfl rfl rfl (w_n rfl) ?_
    refine TL_seq ?_
    refine T_seq (T_region ?_)
    refine TL_q (.int .i64 ((sizeV l : Nat) : Int)) (fun _ _ hρ _ => r_move (hρ _ _ rfl)) rfl rfl rfl (w_n rfl) ?_
    refine TL_q (.int .i64 (firstE l2)) (fun _ _ hρ _ => r_move (hρ _ _ rfl)) rfl rfl rfl (w_n rfl) ?_
    refine TL_q (.int .i64 ((sizeV l : Nat) : Int)) (fun _ _ hρ _ => r_assign (hρ _ _ rfl)) rfl rfl rfl (w_n rfl) ?_
    refine TL_q (.int .i64 (firstE l2)) (fun _ _ hρ _ => r_assign (hρ _ _ rfl)) rfl rfl rfl (w_n rfl) ?_
    refine TL_seq ?_
    refine T_ret' ?_
    refine ret_of rfl (.tuple #[.int .i64 ((sizeV l : Nat) : Int), .int .i64 (firstE l2)]) (fun tmps w hk hm => res2 rfl (res_tmp (hk 2 _ rfl)) (res_tmp (hk 3 _ rfl))) (fun w hm => ?_)
    exact ⟨by rw [show whyE l = firstE l2 by rw [er2]; exact if_neg (by omega)], hm.ext⟩

theorem app1_arg (T0 T1 : Nat) (l : List By) (a : Option Addr) (cap : Nat) (w : World) (hv : SliceAt w a cap 1 byc l) (hcap : cap ≤ Go.maxLen) (rs : List (RowG By)) (b : Option Addr) (capb : Nat) (hu : SliceAt w b capb 1 RowG.cells rs) (hcapb : capb ≤ Go.maxLen) (hx : RowsIn w rs) (hl9 : l.length ≤ 400000) (hn : rs.length ≤ 8) (h0 : hp w T0 = some (.cells #[.slice a l.length cap] 34)) (h1 : hp w T1 = some (.cells #[.slice b rs.length capb] 63)) (hwy : ¬ whyE l = 0) : Calls Try.prog 83 #[.pointer (some ⟨T0, 0, none⟩), .pointer (some ⟨T1, 0, none⟩)] w fun e w' => e = .panicked [{ v := .iface 28 (.int .i64 2), recovered := false }] ∧ Below w.heap.size w w' := by
  have hvl := hv.1
  have hcp := hcap
  unfold Go.maxLen at hcp
  refine calls_of_T (l := [.pointer (some ⟨T0, 0, none⟩), .pointer (some ⟨T1, 0, none⟩)]) 18 Try.func83 rfl rfl rfl ?_
  show T _ _ _ [(0, .pointer (some ⟨T0, 0, none⟩)), (1, .pointer (some ⟨T1, 0, none⟩))] []
  refine T_seq (T_region ?_)
  refine TL_q (.slice none 0 0) (fun _ _ hρ _ => r_assign (hρ _ _ rfl)) rfl rfl rfl (w_n rfl) ?_
  refine TL_seq ?_
  refine T_seq (T_region ?_)
  refine TL_q (.slice a l.length cap) (fun _ _ hρ hm => r_load ag34 (hρ _ _ rfl) (hm.old h0) rfl) rfl rfl rfl (w_n rfl) ?_
  refine TL_call (.tuple #[.int .i64 ((sizeV l : Nat) : Int), .int .i64 (whyE l)]) (fun _ _ hρ _ => r_call (args := [.slice a l.length cap]) (enters_of Try.func47 (by kernel_rfl) rfl) (hρ _ _ rfl) ((cons2 (hρ _ _ rfl) rfl)) rfl) (fun w hm => why_c l a cap w (hv.keep hm.ext) hcap (by omega)) rfl rfl rfl (w_n rfl) ?_
  refine TL_q (.tuple #[.int .i64 ((sizeV l : Nat) : Int), .int .i64 (whyE l)]) (fun _ _ hρ _ => r_move (hρ _ _ rfl)) rfl rfl rfl (w_n rfl) ?_
  refine TL_q (.int .i64 ((sizeV l : Nat) : Int)) (fun _ _ hρ _ => r_extract (hρ _ _ rfl) rfl) rfl rfl rfl (w_n rfl) ?_
  refine TL_q (.int .i64 (whyE l)) (fun _ _ hρ _ => r_extract (hρ _ _ rfl) rfl) rfl rfl rfl (w_n rfl) ?_
  refine TL_q (.int .i64 ((sizeV l : Nat) : Int)) (fun _ _ hρ _ => r_assign (hρ _ _ rfl)) rfl rfl rfl (w_n rfl) ?_
  refine TL_q (.int .i64 (whyE l)) (fun _ _ hρ _ => r_assign (hρ _ _ rfl)) rfl rfl rfl (w_n rfl) ?_
  refine TL_seq ?_
  refine T_seq (T_region ?_)
  refine TL_q (.int .i64 (whyE l)) (fun _ _ hρ _ => r_move (hρ _ _ rfl)) rfl rfl rfl (w_n rfl) ?_
  refine TL_q (.bool false) (fun _ _ hρ _ => r_as (r_eql (hρ _ _ rfl) (hρ _ _ rfl)) (bool_as (decide_eq_false hwy))) rfl rfl rfl (w_n rfl) ?_
  refine TL_callQ (v := .iface 28 (.int .i64 2)) (fun _ _ hρ _ => r_call (args := [.bool false, .int .i64 2]) (enters_of Try.func84 (by kernel_rfl) rfl) (hρ _ _ rfl) ((cons2 (hρ _ _ rfl) (cons2 (hρ _ _ rfl) rfl))) rfl) (fun w _ => need_no_jrn 2 w) rfl (w_n rfl) ?_
  refine p_then_p ?_
  refine p_pan rfl (fun w hm => ?_)
  exact ⟨rfl, hm.ext⟩

theorem app_arg (l : List By) (a : Option Addr) (cap : Nat) (w : World) (hv : SliceAt w a cap 1 byc l) (hcap : cap ≤ Go.maxLen) (rs : List (RowG By)) (b : Option Addr) (capb : Nat) (hu : SliceAt w b capb 1 RowG.cells rs) (hcapb : capb ≤ Go.maxLen) (hx : RowsIn w rs) (hl9 : l.length ≤ 400000) (hn : rs.length ≤ 8) (hwy : ¬ whyE l = 0) : Calls Try.prog 43 #[.slice a l.length cap, .slice b rs.length capb] w fun e w' => e = .returned (.tuple #[.slice none 0 0, .int .i64 2]) ∧ Below w.heap.size w w' := by
  refine calls_of_T (l := [.slice a l.length cap, .slice b rs.length capb]) 10 Try.func43 rfl rfl rfl ?_
  show T _ _ _ [(0, .slice a l.length cap), (1, .slice b rs.length capb)] []
  refine T_seq (T_region ?_)
  refine TL_new 1 (.cells #[.slice a l.length cap] 34) (fun B => .pointer (some ⟨B, 0, none⟩)) (fun _ _ hρ _ => r_box (hρ _ _ rfl) rfl) rfl rfl rfl (w_n rfl) ?_
  intro B1
  refine TL_new 2 (.cells #[.slice b rs.length capb] 63) (fun B => .pointer (some ⟨B, 0, none⟩)) (fun _ _ hρ _ => r_box (hρ _ _ rfl) rfl) rfl rfl rfl (w_n rfl) ?_
  intro B2
  refine TL_q (.slice none 0 0) (fun _ _ hρ _ => r_assign (hρ _ _ rfl)) rfl rfl rfl (w_n rfl) ?_
  refine TL_q (.int .i64 0) (fun _ _ hρ _ => r_assign (hρ _ _ rfl)) rfl rfl rfl (w_n rfl) ?_
  refine TL_seq ?_
  refine T_seq (T_region ?_)
  refine TL_q (.func (.func 83) #[] #[.pointer (some ⟨B1, 0, none⟩), .pointer (some ⟨B2, 0, none⟩)]) (fun _ _ hρ _ => r_makeFunc (by simp) (map_arr (cons2 (hρ _ _ rfl) (cons2 (hρ _ _ rfl) rfl)))) rfl rfl rfl (w_n rfl) ?_
  refine TL_call (.tuple #[.slice none 0 0, .int .i64 2]) (fun _ _ hρ _ => r_call (args := [.func (.func 83) #[] #[.pointer (some ⟨B1, 0, none⟩), .pointer (some ⟨B2, 0, none⟩)]]) (enters_of Try.func76 (by kernel_rfl) rfl) (hρ _ _ rfl) ((cons2 (hρ _ _ rfl) rfl)) rfl) (fun w hm => trJW_no 83 #[.pointer (some ⟨B1, 0, none⟩), .pointer (some ⟨B2, 0, none⟩)] 2 w (enters_of Try.func83 (by kernel_rfl) rfl) (fun w2 hb2 => app1_arg B1 B2 l a cap w2 (hv.keep (hm.ext.trans (hb2.mono hm.ext.size))) hcap rs b capb (hu.keep (hm.ext.trans (hb2.mono hm.ext.size))) hcapb (hx.keep (hm.ext.trans (hb2.mono hm.ext.size))) hl9 hn (kept hb2 (hm.at 1 rfl)) (kept hb2 (hm.at 2 rfl)) hwy)) rfl rfl rfl (w_n rfl) ?_
  refine TL_q (.slice none 0 0) (fun _ _ hρ _ => r_extract (hρ _ _ rfl) rfl) rfl rfl rfl (w_n rfl) ?_
  refine TL_q (.int .i64 2) (fun _ _ hρ _ => r_extract (hρ _ _ rfl) rfl) rfl rfl rfl (w_n rfl) ?_
  refine TL_q (.slice none 0 0) (fun _ _ hρ _ => r_assign (hρ _ _ rfl)) rfl rfl rfl (w_n rfl) ?_
  refine TL_q (.int .i64 2) (fun _ _ hρ _ => r_assign (hρ _ _ rfl)) rfl rfl rfl (w_n rfl) ?_
  refine TL_seq ?_
  refine T_ret' ?_
  refine ret_of rfl (.tuple #[.slice none 0 0, .int .i64 2]) (fun tmps w hk hm => res2 rfl (res_tmp (hk 4 _ rfl)) (res_tmp (hk 5 _ rfl))) (fun w hm => ?_)
  exact ⟨rfl, hm.ext⟩

end Go.Proofs.Ytcidgbjgeegepaa
/- journal: rows of bytes to be read, many of them. -/
namespace Go.Proofs.Ytcidgbjgeegepaa
open Go Go.RowKit
def rowK : ShK (RowG By) where
  foot := fun r => slF r.a r.l
  At := fun w r => SliceAt w r.a r.cap 1 byc r.l ∧ r.cap ≤ Go.maxLen
  keep := fun h hb => ⟨h.1.keepF hb, h.2⟩
  low := fun h hb => h.1.lowF hb
abbrev Res.rows (l : List (RowG By)) : Res := .shelf rowK l
theorem MemOk.rowsAt {w₀ w : World} {L : Heap} (h : MemOk w₀ L w) (k : Nat) {l : List (RowG By)} (hk : lk L k = some (.rows l)) {r : RowG By} (hr : r ∈ l) : SliceAt w r.a r.cap 1 byc r.l ∧ r.cap ≤ Go.maxLen := (h.own k _ hk).1 r hr
theorem MemOk.rowsIn {w₀ w : World} {L : Heap} (h : MemOk w₀ L w) (k : Nat) {l : List (RowG By)} (hk : lk L k = some (.rows l)) : RowsIn w l := fun _ hr => h.rowsAt k hk hr
/-- One more of them. -/
theorem MemOk.rowsPush {w₀ w : World} {L : Heap} (h : MemOk w₀ L w) (k j : Nat) {rs : List (RowG By)} {a : Option Addr} {cap : Nat} {l : List By} (hk : lk L k = some (.rows rs)) (hj : lk L j = some (.sl a cap l)) (hne : Nat.beq k j = false) :
    MemOk w₀ ((k, .rows (rs ++ [⟨a, cap, l⟩])) :: (j, .no) :: L) w := by
  have hkj : k ≠ j := fun e => by subst e; rw [Nat.beq_refl] at hne; cases hne
  have ok1 := h.own k _ hk
  have ok2 := h.own j _ hj
  have h0 : MemOk w₀ ((j, .no) :: L) w := h.set j _ h.ext ⟨trivial, (fun _ hb => hb.elim), fun _ _ _ _ => trivial⟩ (fun _ _ _ _ b _ => ⟨rfl, id⟩)
  refine h0.set k _ h0.ext ⟨fun r hr => ?_, ?_, rowK.keeps⟩ (fun i r hi hne' b hb => ⟨rfl, ?_⟩)
  · rcases List.mem_append.1 hr with h1 | h1
    · exact ok1.1 r h1
    · rw [List.mem_singleton.1 h1]; exact ok2.1
  · rintro b ⟨r, hr, hb⟩
    rcases List.mem_append.1 hr with h1 | h1
    · exact ok1.2.1 b ⟨r, h1, hb⟩
    · rw [List.mem_singleton.1 h1] at hb; exact ok2.2.1 b hb
  · rintro ⟨q, hq, hqb⟩
    by_cases e2 : j = i
    · subst e2; rw [lk_cons_same] at hi; cases hi; exact hb
    · rw [lk_cons_other _ _ e2] at hi
      rcases List.mem_append.1 hq with h1 | h1
      · exact h.sep k i _ _ hk hi (Ne.symm hne') b ⟨q, h1, hqb⟩ hb
      · rw [List.mem_singleton.1 h1] at hqb
        exact h.sep j i _ _ hj hi e2 b hqb hb
/-! ### the references' numbers -/
def numR (l : List By) : BitVec 64 := l.foldl (fun n x => 256#64 * n + x.setWidth 64) 0#64
theorem numR_step {l : List By} {k : Nat} {x : By} (hx : l[k]? = some x) : numR (l.take (k + 1)) = 256#64 * numR (l.take k) + x.setWidth 64 := by
  unfold numR
  rw [List.take_add_one, hx, List.foldl_append]; rfl
theorem numR_both (l : List By) : ∀ k, k ≤ 4 → (numR (l.take k)).toNat = numN (l.take k)
  | 0, _ => rfl
  | k + 1, hk => by
    have h1 := numR_both l k (by omega)
    have h2 := (num_both l k (by omega)).2
    have h4 : 256 ^ k ≤ 256 ^ 3 := Nat.pow_le_pow_right (by decide) (by omega)
    cases hx : l[k]? with
    | none =>
      have e : l.length ≤ k := List.getElem?_eq_none_iff.1 hx
      rw [List.take_of_length_le (Nat.le_succ_of_le e)]
      rw [List.take_of_length_le e] at h1
      exact h1
    | some x =>
      have hb := x.isLt
      rw [numR_step hx, numN_step hx, BitVec.toNat_add, BitVec.toNat_mul, BitVec.toNat_setWidth, h1]
      show (256 * numN (l.take k) % 18446744073709551616 + x.toNat % 18446744073709551616) % 18446744073709551616 = _
      omega
theorem numR4 (l : List By) (h : l.length = 4) : (numR l).toNat = numN l := by
  have := numR_both l 4 (Nat.le_refl _)
  rw [List.take_of_length_le (by omega)] at this
  exact this
end Go.Proofs.Ytcidgbjgeegepaa
/- net and journal: the references. Printed by a program of this seat's prover. -/
namespace Go.Proofs.Ytcidgbjgeegepaa
open Go Go.RowKit
set_option maxRecDepth 10000
theorem rnumber_c (l : List By) (a : Option Addr) (cap : Nat) (w : World) (hv : SliceAt w a cap 1 byc l) (hcap : cap ≤ Go.maxLen) : Calls Try.prog 88 #[.slice a l.length cap] w fun e w' => e = .returned (.int .u64 ((numR l).toNat : Int)) ∧ Below w.heap.size w w' := by
  have hvl := hv.1
  have hcp := hcap
  unfold Go.maxLen at hcp
  refine calls_of_T (l := [.slice a l.length cap]) 19 Try.func88 rfl rfl rfl ?_
  show T _ _ _ [(0, .slice a l.length cap)] []
  refine T_seq (T_region ?_)
  refine TL_q (.int .u64 0) (fun _ _ hρ _ => r_assign (hρ _ _ rfl)) rfl rfl rfl (w_n rfl) ?_
  refine TL_seq ?_
  refine T_seq (T_region ?_)
  refine TL_q (.int .u64 0) (fun _ _ hρ _ => r_assign (hρ _ _ rfl)) rfl rfl rfl (w_n rfl) ?_
  refine TL_seq ?_
  refine T_seq ?_
  refine T_seq (T_region ?_)
  refine TL_q (.slice a l.length cap) (fun _ _ hρ _ => r_move (hρ _ _ rfl)) rfl rfl rfl (w_n rfl) ?_
  refine TL_q (.int .i64 ((l.length : Nat) : Int)) (fun _ _ hρ _ => r_len sl34 (hρ _ _ rfl)) rfl rfl rfl (w_n rfl) ?_
  refine TL_q (.int .i64 0) (fun _ _ hρ _ => r_move (hρ _ _ rfl)) rfl rfl rfl (w_n rfl) ?_
  refine TL_seq ?_
  refine T_block ?_
  refine T_loop (ι := Nat) (fun (k : Nat) => k ≤ l.length) (fun (k : Nat) => [(2, .int .u64 0), (6, .slice a l.length cap), (7, .int .i64 ((l.length : Nat) : Int)), (8, .int .i64 ((k : Nat) : Int)), (3, .int .u64 ((numR (l.take k)).toNat : Int))]) (fun (k : Nat) => []) (fun (k : Nat) => l.length - k) 0 (Nat.zero_le _) (sub_cons rfl (sub_cons rfl (sub_cons rfl (sub_cons rfl (sub_cons rfl sub_nil))))) sub_nil ?_
  rintro k hp
  have hk := hp
  show T _ _ _ [(2, .int .u64 0), (6, .slice a l.length cap), (7, .int .i64 ((l.length : Nat) : Int)), (8, .int .i64 ((k : Nat) : Int)), (3, .int .u64 ((numR (l.take k)).toNat : Int))] []
  refine T_seq (T_region ?_)
  refine TL_q (.bool (decide (((k : Nat) : Int) < ((l.length : Nat) : Int)))) (fun _ _ hρ _ => r_lss (hρ _ _ rfl) (hρ _ _ rfl)) rfl rfl rfl (w_n rfl) ?_
  refine TL_seq ?_
  refine T_seq ?_
  refine T_cond rfl (fun h1 => ?_) (fun h1 => ?_)
  · replace h1 := of_decide_eq_true h1
    refine T_skip' ?_
    refine p_seq ?_
    refine T_seq ?_
    refine T_block ?_
    obtain ⟨x, hx⟩ : ∃ x, l[k]? = some x := ⟨_, List.getElem?_eq_getElem (by omega)⟩
    obtain ⟨b1, of1, cs1, T1, fz1, ha1, hq1, hr1⟩ := hv.open (i := k) (by omega)
    subst ha1
    refine T_seq (T_region ?_)
    refine TL_q (.pointer (some ⟨b1, of1 + k * 1, none⟩)) (fun _ _ hρ _ => r_indexAddrS (i := k) sl34 sz5 (hρ _ _ rfl) (hρ _ _ rfl) (by omega)) rfl rfl rfl (w_n rfl) ?_
    refine TL_q (.int .u8 ((x).toNat : Int)) (fun _ _ hρ hm => r_loadRow1 (f := byc) (u := x) ag5 (hρ _ _ rfl) (hm.old hq1) hr1 hx rfl) rfl rfl rfl (w_n rfl) ?_
    refine TL_q (.int .u8 ((x).toNat : Int)) (fun _ _ hρ _ => r_assign (hρ _ _ rfl)) rfl rfl rfl (w_n rfl) ?_
    refine TL_seq ?_
    refine T_region ?_
    refine TL_q (.int .u64 ((numR (l.take k)).toNat : Int)) (fun _ _ hρ _ => r_move (hρ _ _ rfl)) rfl rfl rfl (w_n rfl) ?_
    refine TL_q (.int .u64 (((256#64) * (numR (l.take k))).toNat : Int)) (fun _ _ hρ _ => r_mulB (k := .u64) (a := (256#64)) (b := (numR (l.take k))) rfl (hρ _ _ rfl) (hρ _ _ rfl)) rfl rfl rfl (w_n rfl) ?_
    refine TL_q (.int .u8 ((x).toNat : Int)) (fun _ _ hρ _ => r_move (hρ _ _ rfl)) rfl rfl rfl (w_n rfl) ?_
    refine TL_q (.int .u64 ((x.setWidth 64).toNat : Int)) (fun _ _ hρ _ => r_convB (k := .u8) (k' := .u64) (a := x) un5 io25 rfl (hρ _ _ rfl)) rfl rfl rfl (w_n rfl) ?_
    refine TL_q (.int .u64 ((((256#64) * (numR (l.take k))) + (x.setWidth 64)).toNat : Int)) (fun _ _ hρ _ => r_addB (k := .u64) (a := ((256#64) * (numR (l.take k)))) (b := (x.setWidth 64)) rfl (hρ _ _ rfl) (hρ _ _ rfl)) rfl rfl rfl (w_n rfl) ?_
    refine TL_q (.int .u64 ((((256#64) * (numR (l.take k))) + (x.setWidth 64)).toNat : Int)) (fun _ _ hρ _ => r_assign (hρ _ _ rfl)) rfl rfl rfl (w_n rfl) ?_
    refine TL_nil ?_
    refine p_blk_n ?_
    refine p_seq ?_
    refine T_region ?_
    refine TL_q (.int .i64 ((k + 1 : Nat) : Int)) (fun _ _ hρ _ => r_as (r_add (hρ _ _ rfl) (hρ _ _ rfl)) (int_as ((wrap64 (by omega) (by omega)).trans (by omega)))) rfl rfl rfl (w_n rfl) ?_
    refine TL_q (.int .i64 ((k + 1 : Nat) : Int)) (fun _ _ hρ _ => r_move (hρ _ _ rfl)) rfl rfl rfl (w_n rfl) ?_
    refine TL_nil ?_
    rw [← numR_step hx]
    exact p_at (k + 1) ⟨by omega, by omega⟩ (sub_cons rfl (sub_cons rfl (sub_cons rfl (sub_cons rfl (sub_cons rfl sub_nil))))) sub_nil
  · replace h1 := of_decide_eq_false h1
    refine T_exit' ?_
    refine p_then_x ?_
    refine p_then_x ?_
    refine p_blk_x ?_
    refine p_seq ?_
    refine T_seq (T_region ?_)
    refine TL_q (.int .u64 ((numR (l.take k)).toNat : Int)) (fun _ _ hρ _ => r_move (hρ _ _ rfl)) rfl rfl rfl (w_n rfl) ?_
    refine TL_q (.int .u64 ((numR (l.take k)).toNat : Int)) (fun _ _ hρ _ => r_assign (hρ _ _ rfl)) rfl rfl rfl (w_n rfl) ?_
    refine TL_seq ?_
    refine T_ret' ?_
    refine ret_of rfl (.int .u64 ((numR (l.take k)).toNat : Int)) (fun tmps w hk hm => res1 rfl (res_tmp (hk 2 _ rfl))) (fun w hm => ?_)
    have hke : k = l.length := by omega
    subst hke
    rw [List.take_length]
    exact ⟨rfl, hm.ext⟩

end Go.Proofs.Ytcidgbjgeegepaa
/- net and journal: the references First, Scan; few, same. Printed by a program of this seat's prover. -/
namespace Go.Proofs.Ytcidgbjgeegepaa
open Go Go.RowKit
set_option maxRecDepth 10000
theorem openB_is (l : List By) : openB l = decide (openE l = 0) := by
  unfold openB openE
  cases openP l <;> rfl

theorem rfirst_c (l : List By) (a : Option Addr) (cap : Nat) (w : World) (hv : SliceAt w a cap 1 byc l) (hcap : cap ≤ Go.maxLen) (h : firstE l = 0) : Calls Try.prog 51 #[.slice a l.length cap] w fun e w' => ∃ a' cap', e = .returned (.tuple #[.slice a' (heldP l).length cap', .int .i64 0]) ∧ Below w.heap.size w w' ∧ (Res.sl a' cap' (heldP l)).ok w.heap.size w' := by
  have hvl := hv.1
  have hcp := hcap
  unfold Go.maxLen at hcp
  have hnl := numP_lt l
  have c1 := (first_ok h).1
  have c2 := (first_ok h).2.1
  have c3 := (first_ok h).2.2.1
  have hopE : openE (l.take (numP l + 8)) = 0 := (first_e4 c1 c2 c3).symm.trans h
  refine calls_of_T (l := [.slice a l.length cap]) 33 Try.func51 rfl rfl rfl ?_
  show T _ _ _ [(0, .slice a l.length cap)] []
  refine T_seq (T_region ?_)
  refine TL_q (.slice none 0 0) (fun _ _ hρ _ => r_assign (hρ _ _ rfl)) rfl rfl rfl (w_n rfl) ?_
  refine TL_q (.int .i64 0) (fun _ _ hρ _ => r_assign (hρ _ _ rfl)) rfl rfl rfl (w_n rfl) ?_
  refine TL_seq ?_
  refine T_seq ?_
  refine T_seq (T_region ?_)
  refine TL_q (.slice a l.length cap) (fun _ _ hρ _ => r_move (hρ _ _ rfl)) rfl rfl rfl (w_n rfl) ?_
  refine TL_q (.int .i64 ((l.length : Nat) : Int)) (fun _ _ hρ _ => r_len sl34 (hρ _ _ rfl)) rfl rfl rfl (w_n rfl) ?_
  refine TL_q (.bool false) (fun _ _ hρ _ => r_as (r_lss (hρ _ _ rfl) (hρ _ _ rfl)) (bool_as (decide_eq_false (by omega)))) rfl rfl rfl (w_n rfl) ?_
  refine TL_seq ?_
  refine T_cond_f rfl ?_
  refine T_skip' ?_
  refine p_seq ?_
  refine T_seq (T_region ?_)
  refine TL_q (.slice a l.length cap) (fun _ _ hρ _ => r_move (hρ _ _ rfl)) rfl rfl rfl (w_n rfl) ?_
  obtain ⟨l1, hl1, hn1⟩ : ∃ lz, lz = l.take 4 ∧ lz.length = 4 := ⟨_, rfl, by rw [List.length_take]; omega⟩
  have hs1 := SliceAt.front hv (n := 4) (m := cap) (by omega) (by omega) (by omega)
  rw [← hl1] at hs1
  refine TL_q (.slice a l1.length cap) (fun ρ _ hρ _ => r_as (r_sliceO sl34 sz5 (hρ _ _ rfl) (bd_none ρ _) (bd_some (n := 4) (hρ _ _ rfl)) (bd_none ρ _) (by simp) (by omega) (by omega) (by omega)) (by rw [hn1]; exact slo_zero _ _ _ _)) rfl rfl rfl (w_n rfl) ?_
  refine TL_call (.int .u64 ((numP l : Nat) : Int)) (fun _ _ hρ _ => r_call (args := [.slice a l1.length cap]) (enters_of Try.func88 (by kernel_rfl) rfl) (hρ _ _ rfl) ((cons2 (hρ _ _ rfl) rfl)) rfl) (fun w hm => (rnumber_c l1 a cap w (hs1.keep hm.ext) (by omega)).mono fun _ _ h => ⟨h.1.trans (congrArg Ending.returned (congrArg (fun n : Nat => Value.int .u64 (n : Int)) (show (numR l1).toNat = numP l by rw [numR4 l1 (by omega), hl1]; rfl))), h.2⟩) rfl rfl rfl (w_n rfl) ?_
  refine TL_q (.int .u64 ((numP l : Nat) : Int)) (fun _ _ hρ _ => r_assign (hρ _ _ rfl)) rfl rfl rfl (w_n rfl) ?_
  refine TL_seq ?_
  refine T_seq ?_
  refine T_seq (T_region ?_)
  refine TL_q (.int .u64 ((numP l : Nat) : Int)) (fun _ _ hρ _ => r_move (hρ _ _ rfl)) rfl rfl rfl (w_n rfl) ?_
  refine TL_q (.bool false) (fun _ _ hρ _ => r_as (r_gtr (hρ _ _ rfl) (hρ _ _ rfl)) (bool_as (decide_eq_false (by omega)))) rfl rfl rfl (w_n rfl) ?_
  refine TL_seq ?_
  refine T_cond_f rfl ?_
  refine T_skip' ?_
  refine p_seq ?_
  refine T_seq ?_
  refine T_seq (T_region ?_)
  refine TL_q (.slice a l.length cap) (fun _ _ hρ _ => r_move (hρ _ _ rfl)) rfl rfl rfl (w_n rfl) ?_
  refine TL_q (.int .i64 ((l.length : Nat) : Int)) (fun _ _ hρ _ => r_len sl34 (hρ _ _ rfl)) rfl rfl rfl (w_n rfl) ?_
  refine TL_q (.int .u64 ((l.length : Nat) : Int)) (fun _ _ hρ _ => r_as (r_conv un3 io25 (hρ _ _ rfl)) (int_as (wrap_u64 (by omega) (by omega)))) rfl rfl rfl (w_n rfl) ?_
  refine TL_q (.int .u64 ((numP l : Nat) : Int)) (fun _ _ hρ _ => r_move (hρ _ _ rfl)) rfl rfl rfl (w_n rfl) ?_
  refine TL_q (.int .u64 ((numP l + 8 : Nat) : Int)) (fun _ _ hρ _ => r_as (r_add (hρ _ _ rfl) (hρ _ _ rfl)) (int_as ((wrap_u64 (by omega) (by omega)).trans (by omega)))) rfl rfl rfl (w_n rfl) ?_
  refine TL_q (.bool false) (fun _ _ hρ _ => r_as (r_lss (hρ _ _ rfl) (hρ _ _ rfl)) (bool_as (decide_eq_false (by omega)))) rfl rfl rfl (w_n rfl) ?_
  refine TL_seq ?_
  refine T_cond_f rfl ?_
  refine T_skip' ?_
  refine p_seq ?_
  refine T_seq (T_region ?_)
  refine TL_q (.slice a l.length cap) (fun _ _ hρ _ => r_move (hρ _ _ rfl)) rfl rfl rfl (w_n rfl) ?_
  refine TL_q (.int .u64 ((numP l : Nat) : Int)) (fun _ _ hρ _ => r_move (hρ _ _ rfl)) rfl rfl rfl (w_n rfl) ?_
  refine TL_q (.int .u64 ((numP l + 8 : Nat) : Int)) (fun _ _ hρ _ => r_as (r_add (hρ _ _ rfl) (hρ _ _ rfl)) (int_as ((wrap_u64 (by omega) (by omega)).trans (by omega)))) rfl rfl rfl (w_n rfl) ?_
  obtain ⟨l2, hl2, hn2⟩ : ∃ lz, lz = l.take (numP l + 8) ∧ lz.length = numP l + 8 := ⟨_, rfl, by rw [List.length_take]; omega⟩
  have hs2 := SliceAt.front hv (n := numP l + 8) (m := cap) (by omega) (by omega) (by omega)
  rw [← hl2] at hs2
  refine TL_q (.slice a l2.length cap) (fun ρ _ hρ _ => r_as (r_sliceO sl34 sz5 (hρ _ _ rfl) (bd_none ρ _) (bd_some (n := numP l + 8) (hρ _ _ rfl)) (bd_none ρ _) (by simp) (by omega) (by omega) (by omega)) (by rw [hn2]; exact slo_zero _ _ _ _)) rfl rfl rfl (w_n rfl) ?_
  refine TL_callN (fun (_ : Option Addr × Nat) => True) (fun (ar3, cr3) => .tuple #[.slice ar3 ((openL l2).length) cr3, .bool true]) (fun (ar3, cr3) => [(1, .row (.slice ar3 ((openL l2).length) cr3) 5 1 ((openL l2).length) ((openL l2).flatMap byc))]) (fun _ _ hρ _ => r_call (args := [.slice a l2.length cap]) (enters_of Try.func89 (by kernel_rfl) rfl) (hρ _ _ rfl) ((cons2 (hρ _ _ rfl) rfl)) rfl) (fun w hm => (open_ref l2 a cap w (hs2.keep hm.ext) (by omega) (by omega)).mono fun e w' ⟨a', cap', he, hb, hr⟩ => ⟨(a', cap'), trivial, he.trans (by rw [show openB l2 = true by rw [openB_is, hl2]; exact decide_eq_true hopE]), hb, newOk1 1 hr⟩) rfl rfl rfl (w_n rfl) ?_
  rintro ⟨ar3, cr3⟩ -
  refine TL_q (.tuple #[.slice ar3 ((openL l2).length) cr3, .bool true]) (fun _ _ hρ _ => r_move (hρ _ _ rfl)) rfl rfl rfl (w_n rfl) ?_
  refine TL_q (.slice ar3 ((openL l2).length) cr3) (fun _ _ hρ _ => r_extract (hρ _ _ rfl) rfl) rfl rfl rfl (w_n rfl) ?_
  refine TL_q (.bool true) (fun _ _ hρ _ => r_extract (hρ _ _ rfl) rfl) rfl rfl rfl (w_n rfl) ?_
  refine TL_q (.slice ar3 ((openL l2).length) cr3) (fun _ _ hρ _ => r_assign (hρ _ _ rfl)) rfl rfl rfl (w_n rfl) ?_
  refine TL_q (.bool true) (fun _ _ hρ _ => r_assign (hρ _ _ rfl)) rfl rfl rfl (w_n rfl) ?_
  refine TL_seq ?_
  refine T_seq ?_
  refine T_rowcap 1 rfl (fun hrc => ?_)
  have hol := openL_len (l := l2) (by rw [hl2]; exact hopE)
  refine T_seq (T_region ?_)
  refine TL_q (.bool true) (fun _ _ hρ _ => r_move (hρ _ _ rfl)) rfl rfl rfl (w_n rfl) ?_
  refine TL_q (.bool false) (fun _ _ hρ _ => r_not (b := true) (hρ _ _ rfl)) rfl rfl rfl (w_n rfl) ?_
  refine TL_seq ?_
  refine T_cond_f rfl ?_
  refine T_skip' ?_
  refine p_seq ?_
  refine T_seq (T_region ?_)
  refine TL_q (.slice ar3 ((openL l2).length) cr3) (fun _ _ hρ _ => r_move (hρ _ _ rfl)) rfl rfl rfl (w_n rfl) ?_
  obtain ⟨l4, hl4, hn4⟩ : ∃ lz, lz = ((openL l2).drop 4).take ((openL l2).length - 4) ∧ lz.length = (openL l2).length - 4 := ⟨_, rfl, by rw [List.length_take, List.length_drop]; omega⟩
  obtain ⟨a4, ha4⟩ : ∃ az : Option Addr, az = (if cr3 = 4 then (ar3 : Option Addr) else Option.map (fun z : Addr => z.add (4 * 1)) (ar3 : Option Addr)) := ⟨_, rfl⟩
  refine TL_q (.slice a4 l4.length (cr3 - 4)) (fun ρ _ hρ _ => r_as (r_sliceO sl34 sz5 (hρ _ _ rfl) (bd_none ρ _) (bd_none ρ _) (bd_some (n := 4) (hρ _ _ rfl)) (by simp) (by omega) (by omega) (by omega)) (by rw [hn4, ha4])) rfl rfl rfl (w_n rfl) ?_
  refine TL_q (.slice a4 l4.length (cr3 - 4)) (fun _ _ hρ _ => r_assign (hρ _ _ rfl)) rfl rfl rfl (w_n rfl) ?_
  refine TL_q (.int .i64 0) (fun _ _ hρ _ => r_assign (hρ _ _ rfl)) rfl rfl rfl (w_n rfl) ?_
  refine TL_seq ?_
  refine T_sub [(2, .slice a4 l4.length (cr3 - 4)), (3, .int .i64 0)] [(1, .row (.slice ar3 ((openL l2).length) cr3) 5 1 ((openL l2).length) ((openL l2).flatMap byc))] (sub_cons rfl (sub_cons rfl sub_nil)) (sub_cons rfl sub_nil) ?_
  refine T_ret' ?_
  refine ret_of rfl (.tuple #[.slice a4 l4.length (cr3 - 4), .int .i64 0]) (fun tmps w hk hm => res2 rfl (res_tmp (hk 2 _ rfl)) (res_tmp (hk 3 _ rfl))) (fun w hm => ?_)
  have hrw := sl_ok (hm.row 1 rfl) rfl (lo := 4) (hi := (openL l2).length) (m := cr3) (by omega) (Nat.le_refl _) (by omega) (by omega)
  rw [← hl4, ← ha4] at hrw
  have hz : l4 = heldP l := by rw [hl4]; unfold heldP; rw [← hl2]; exact List.take_of_length_le (by rw [List.length_drop]; exact Nat.le_refl _)
  rw [hz] at hrw ⊢
  exact ⟨a4, (cr3 - 4), rfl, hm.ext, hrw⟩

theorem rfirst_p (l : List By) (a : Option Addr) (cap : Nat) (w : World) (hv : SliceAt w a cap 1 byc l) (hcap : cap ≤ Go.maxLen) (h : ¬ firstE l = 0) : Calls Try.prog 51 #[.slice a l.length cap] w fun e w' => e = .returned (.tuple #[.slice none 0 0, .int .i64 (firstE l)]) ∧ Below w.heap.size w w' := by
  have hvl := hv.1
  have hcp := hcap
  unfold Go.maxLen at hcp
  have hnl := numP_lt l
  refine calls_of_T (l := [.slice a l.length cap]) 33 Try.func51 rfl rfl rfl ?_
  show T _ _ _ [(0, .slice a l.length cap)] []
  refine T_seq (T_region ?_)
  refine TL_q (.slice none 0 0) (fun _ _ hρ _ => r_assign (hρ _ _ rfl)) rfl rfl rfl (w_n rfl) ?_
  refine TL_q (.int .i64 0) (fun _ _ hρ _ => r_assign (hρ _ _ rfl)) rfl rfl rfl (w_n rfl) ?_
  refine TL_seq ?_
  refine T_seq ?_
  by_cases c1 : ((l.length : Nat) : Int) < 4
  · skip
    refine T_seq (T_region ?_)
    refine TL_q (.slice a l.length cap) (fun _ _ hρ _ => r_move (hρ _ _ rfl)) rfl rfl rfl (w_n rfl) ?_
    refine TL_q (.int .i64 ((l.length : Nat) : Int)) (fun _ _ hρ _ => r_len sl34 (hρ _ _ rfl)) rfl rfl rfl (w_n rfl) ?_
    refine TL_q (.bool true) (fun _ _ hρ _ => r_as (r_lss (hρ _ _ rfl) (hρ _ _ rfl)) (bool_as (decide_eq_true c1))) rfl rfl rfl (w_n rfl) ?_
    refine TL_seq ?_
    refine T_cond_t rfl ?_
    refine T_seq (T_region ?_)
    refine TL_q (.slice none 0 0) (fun _ _ hρ _ => r_assign (hρ _ _ rfl)) rfl rfl rfl (w_n rfl) ?_
    refine TL_q (.int .i64 110) (fun _ _ hρ _ => r_assign (hρ _ _ rfl)) rfl rfl rfl (w_n rfl) ?_
    refine TL_seq ?_
    refine T_ret' ?_
    refine p_then_r ?_
    refine ret_of rfl (.tuple #[.slice none 0 0, .int .i64 110]) (fun tmps w hk hm => res2 rfl (res_tmp (hk 2 _ rfl)) (res_tmp (hk 3 _ rfl))) (fun w hm => ?_)
    exact ⟨by rw [first_e1 (by omega)], hm.ext⟩
  · skip
    refine T_seq (T_region ?_)
    refine TL_q (.slice a l.length cap) (fun _ _ hρ _ => r_move (hρ _ _ rfl)) rfl rfl rfl (w_n rfl) ?_
    refine TL_q (.int .i64 ((l.length : Nat) : Int)) (fun _ _ hρ _ => r_len sl34 (hρ _ _ rfl)) rfl rfl rfl (w_n rfl) ?_
    refine TL_q (.bool false) (fun _ _ hρ _ => r_as (r_lss (hρ _ _ rfl) (hρ _ _ rfl)) (bool_as (decide_eq_false c1))) rfl rfl rfl (w_n rfl) ?_
    refine TL_seq ?_
    refine T_cond_f rfl ?_
    refine T_skip' ?_
    refine p_seq ?_
    refine T_seq (T_region ?_)
    refine TL_q (.slice a l.length cap) (fun _ _ hρ _ => r_move (hρ _ _ rfl)) rfl rfl rfl (w_n rfl) ?_
    obtain ⟨l1, hl1, hn1⟩ : ∃ lz, lz = l.take 4 ∧ lz.length = 4 := ⟨_, rfl, by rw [List.length_take]; omega⟩
    have hs1 := SliceAt.front hv (n := 4) (m := cap) (by omega) (by omega) (by omega)
    rw [← hl1] at hs1
    refine TL_q (.slice a l1.length cap) (fun ρ _ hρ _ => r_as (r_sliceO sl34 sz5 (hρ _ _ rfl) (bd_none ρ _) (bd_some (n := 4) (hρ _ _ rfl)) (bd_none ρ _) (by simp) (by omega) (by omega) (by omega)) (by rw [hn1]; exact slo_zero _ _ _ _)) rfl rfl rfl (w_n rfl) ?_
    refine TL_call (.int .u64 ((numP l : Nat) : Int)) (fun _ _ hρ _ => r_call (args := [.slice a l1.length cap]) (enters_of Try.func88 (by kernel_rfl) rfl) (hρ _ _ rfl) ((cons2 (hρ _ _ rfl) rfl)) rfl) (fun w hm => (rnumber_c l1 a cap w (hs1.keep hm.ext) (by omega)).mono fun _ _ h => ⟨h.1.trans (congrArg Ending.returned (congrArg (fun n : Nat => Value.int .u64 (n : Int)) (show (numR l1).toNat = numP l by rw [numR4 l1 (by omega), hl1]; rfl))), h.2⟩) rfl rfl rfl (w_n rfl) ?_
    refine TL_q (.int .u64 ((numP l : Nat) : Int)) (fun _ _ hρ _ => r_assign (hρ _ _ rfl)) rfl rfl rfl (w_n rfl) ?_
    refine TL_seq ?_
    refine T_seq ?_
    by_cases c2 : (65536 : Int) < ((numP l : Nat) : Int)
    · skip
      refine T_seq (T_region ?_)
      refine TL_q (.int .u64 ((numP l : Nat) : Int)) (fun _ _ hρ _ => r_move (hρ _ _ rfl)) rfl rfl rfl (w_n rfl) ?_
      refine TL_q (.bool true) (fun _ _ hρ _ => r_as (r_gtr (hρ _ _ rfl) (hρ _ _ rfl)) (bool_as (decide_eq_true c2))) rfl rfl rfl (w_n rfl) ?_
      refine TL_seq ?_
      refine T_cond_t rfl ?_
      refine T_seq (T_region ?_)
      refine TL_q (.slice none 0 0) (fun _ _ hρ _ => r_assign (hρ _ _ rfl)) rfl rfl rfl (w_n rfl) ?_
      refine TL_q (.int .i64 3) (fun _ _ hρ _ => r_assign (hρ _ _ rfl)) rfl rfl rfl (w_n rfl) ?_
      refine TL_seq ?_
      refine T_ret' ?_
      refine p_then_r ?_
      refine ret_of rfl (.tuple #[.slice none 0 0, .int .i64 3]) (fun tmps w hk hm => res2 rfl (res_tmp (hk 2 _ rfl)) (res_tmp (hk 3 _ rfl))) (fun w hm => ?_)
      exact ⟨by rw [first_e2 (by omega) (by omega)], hm.ext⟩
    · skip
      refine T_seq (T_region ?_)
      refine TL_q (.int .u64 ((numP l : Nat) : Int)) (fun _ _ hρ _ => r_move (hρ _ _ rfl)) rfl rfl rfl (w_n rfl) ?_
      refine TL_q (.bool false) (fun _ _ hρ _ => r_as (r_gtr (hρ _ _ rfl) (hρ _ _ rfl)) (bool_as (decide_eq_false c2))) rfl rfl rfl (w_n rfl) ?_
      refine TL_seq ?_
      refine T_cond_f rfl ?_
      refine T_skip' ?_
      refine p_seq ?_
      refine T_seq ?_
      by_cases c3 : ((l.length : Nat) : Int) < ((numP l + 8 : Nat) : Int)
      · skip
        refine T_seq (T_region ?_)
        refine TL_q (.slice a l.length cap) (fun _ _ hρ _ => r_move (hρ _ _ rfl)) rfl rfl rfl (w_n rfl) ?_
        refine TL_q (.int .i64 ((l.length : Nat) : Int)) (fun _ _ hρ _ => r_len sl34 (hρ _ _ rfl)) rfl rfl rfl (w_n rfl) ?_
        refine TL_q (.int .u64 ((l.length : Nat) : Int)) (fun _ _ hρ _ => r_as (r_conv un3 io25 (hρ _ _ rfl)) (int_as (wrap_u64 (by omega) (by omega)))) rfl rfl rfl (w_n rfl) ?_
        refine TL_q (.int .u64 ((numP l : Nat) : Int)) (fun _ _ hρ _ => r_move (hρ _ _ rfl)) rfl rfl rfl (w_n rfl) ?_
        refine TL_q (.int .u64 ((numP l + 8 : Nat) : Int)) (fun _ _ hρ _ => r_as (r_add (hρ _ _ rfl) (hρ _ _ rfl)) (int_as ((wrap_u64 (by omega) (by omega)).trans (by omega)))) rfl rfl rfl (w_n rfl) ?_
        refine TL_q (.bool true) (fun _ _ hρ _ => r_as (r_lss (hρ _ _ rfl) (hρ _ _ rfl)) (bool_as (decide_eq_true c3))) rfl rfl rfl (w_n rfl) ?_
        refine TL_seq ?_
        refine T_cond_t rfl ?_
        refine T_seq (T_region ?_)
        refine TL_q (.slice none 0 0) (fun _ _ hρ _ => r_assign (hρ _ _ rfl)) rfl rfl rfl (w_n rfl) ?_
        refine TL_q (.int .i64 110) (fun _ _ hρ _ => r_assign (hρ _ _ rfl)) rfl rfl rfl (w_n rfl) ?_
        refine TL_seq ?_
        refine T_ret' ?_
        refine p_then_r ?_
        refine ret_of rfl (.tuple #[.slice none 0 0, .int .i64 110]) (fun tmps w hk hm => res2 rfl (res_tmp (hk 2 _ rfl)) (res_tmp (hk 3 _ rfl))) (fun w hm => ?_)
        exact ⟨by rw [first_e3 (by omega) (by omega) (by omega)], hm.ext⟩
      · skip
        refine T_seq (T_region ?_)
        refine TL_q (.slice a l.length cap) (fun _ _ hρ _ => r_move (hρ _ _ rfl)) rfl rfl rfl (w_n rfl) ?_
        refine TL_q (.int .i64 ((l.length : Nat) : Int)) (fun _ _ hρ _ => r_len sl34 (hρ _ _ rfl)) rfl rfl rfl (w_n rfl) ?_
        refine TL_q (.int .u64 ((l.length : Nat) : Int)) (fun _ _ hρ _ => r_as (r_conv un3 io25 (hρ _ _ rfl)) (int_as (wrap_u64 (by omega) (by omega)))) rfl rfl rfl (w_n rfl) ?_
        refine TL_q (.int .u64 ((numP l : Nat) : Int)) (fun _ _ hρ _ => r_move (hρ _ _ rfl)) rfl rfl rfl (w_n rfl) ?_
        refine TL_q (.int .u64 ((numP l + 8 : Nat) : Int)) (fun _ _ hρ _ => r_as (r_add (hρ _ _ rfl) (hρ _ _ rfl)) (int_as ((wrap_u64 (by omega) (by omega)).trans (by omega)))) rfl rfl rfl (w_n rfl) ?_
        refine TL_q (.bool false) (fun _ _ hρ _ => r_as (r_lss (hρ _ _ rfl) (hρ _ _ rfl)) (bool_as (decide_eq_false c3))) rfl rfl rfl (w_n rfl) ?_
        refine TL_seq ?_
        refine T_cond_f rfl ?_
        refine T_skip' ?_
        refine p_seq ?_
        by_cases hopE : openE (l.take (numP l + 8)) = 0
        · skip
          refine T_seq (T_region ?_)
          refine TL_q (.slice a l.length cap) (fun _ _ hρ _ => r_move (hρ _ _ rfl)) rfl rfl rfl (w_n rfl) ?_
          refine TL_q (.int .u64 ((numP l : Nat) : Int)) (fun _ _ hρ _ => r_move (hρ _ _ rfl)) rfl rfl rfl (w_n rfl) ?_
          refine TL_q (.int .u64 ((numP l + 8 : Nat) : Int)) (fun _ _ hρ _ => r_as (r_add (hρ _ _ rfl) (hρ _ _ rfl)) (int_as ((wrap_u64 (by omega) (by omega)).trans (by omega)))) rfl rfl rfl (w_n rfl) ?_
          obtain ⟨l2, hl2, hn2⟩ : ∃ lz, lz = l.take (numP l + 8) ∧ lz.length = numP l + 8 := ⟨_, rfl, by rw [List.length_take]; omega⟩
          have hs2 := SliceAt.front hv (n := numP l + 8) (m := cap) (by omega) (by omega) (by omega)
          rw [← hl2] at hs2
          refine TL_q (.slice a l2.length cap) (fun ρ _ hρ _ => r_as (r_sliceO sl34 sz5 (hρ _ _ rfl) (bd_none ρ _) (bd_some (n := numP l + 8) (hρ _ _ rfl)) (bd_none ρ _) (by simp) (by omega) (by omega) (by omega)) (by rw [hn2]; exact slo_zero _ _ _ _)) rfl rfl rfl (w_n rfl) ?_
          refine TL_callN (fun (_ : Option Addr × Nat) => True) (fun (ar3, cr3) => .tuple #[.slice ar3 ((openL l2).length) cr3, .bool true]) (fun (ar3, cr3) => [(1, .row (.slice ar3 ((openL l2).length) cr3) 5 1 ((openL l2).length) ((openL l2).flatMap byc))]) (fun _ _ hρ _ => r_call (args := [.slice a l2.length cap]) (enters_of Try.func89 (by kernel_rfl) rfl) (hρ _ _ rfl) ((cons2 (hρ _ _ rfl) rfl)) rfl) (fun w hm => (open_ref l2 a cap w (hs2.keep hm.ext) (by omega) (by omega)).mono fun e w' ⟨a', cap', he, hb, hr⟩ => ⟨(a', cap'), trivial, he.trans (by rw [show openB l2 = true by rw [openB_is, hl2]; exact decide_eq_true hopE]), hb, newOk1 1 hr⟩) rfl rfl rfl (w_n rfl) ?_
          rintro ⟨ar3, cr3⟩ -
          refine TL_q (.tuple #[.slice ar3 ((openL l2).length) cr3, .bool true]) (fun _ _ hρ _ => r_move (hρ _ _ rfl)) rfl rfl rfl (w_n rfl) ?_
          refine TL_q (.slice ar3 ((openL l2).length) cr3) (fun _ _ hρ _ => r_extract (hρ _ _ rfl) rfl) rfl rfl rfl (w_n rfl) ?_
          refine TL_q (.bool true) (fun _ _ hρ _ => r_extract (hρ _ _ rfl) rfl) rfl rfl rfl (w_n rfl) ?_
          refine TL_q (.slice ar3 ((openL l2).length) cr3) (fun _ _ hρ _ => r_assign (hρ _ _ rfl)) rfl rfl rfl (w_n rfl) ?_
          refine TL_q (.bool true) (fun _ _ hρ _ => r_assign (hρ _ _ rfl)) rfl rfl rfl (w_n rfl) ?_
          refine TL_seq ?_
          refine T_seq ?_
          refine T_rowcap 1 rfl (fun hrc => ?_)
          have hol := openL_len (l := l2) (by rw [hl2]; exact hopE)
          refine T_seq (T_region ?_)
          refine TL_q (.bool true) (fun _ _ hρ _ => r_move (hρ _ _ rfl)) rfl rfl rfl (w_n rfl) ?_
          refine TL_q (.bool false) (fun _ _ hρ _ => r_not (b := true) (hρ _ _ rfl)) rfl rfl rfl (w_n rfl) ?_
          refine TL_seq ?_
          refine T_cond_f rfl ?_
          refine T_skip' ?_
          refine p_seq ?_
          refine T_seq (T_region ?_)
          refine TL_q (.slice ar3 ((openL l2).length) cr3) (fun _ _ hρ _ => r_move (hρ _ _ rfl)) rfl rfl rfl (w_n rfl) ?_
          obtain ⟨l4, hl4, hn4⟩ : ∃ lz, lz = ((openL l2).drop 4).take ((openL l2).length - 4) ∧ lz.length = (openL l2).length - 4 := ⟨_, rfl, by rw [List.length_take, List.length_drop]; omega⟩
          obtain ⟨a4, ha4⟩ : ∃ az : Option Addr, az = (if cr3 = 4 then (ar3 : Option Addr) else Option.map (fun z : Addr => z.add (4 * 1)) (ar3 : Option Addr)) := ⟨_, rfl⟩
          refine TL_q (.slice a4 l4.length (cr3 - 4)) (fun ρ _ hρ _ => r_as (r_sliceO sl34 sz5 (hρ _ _ rfl) (bd_none ρ _) (bd_none ρ _) (bd_some (n := 4) (hρ _ _ rfl)) (by simp) (by omega) (by omega) (by omega)) (by rw [hn4, ha4])) rfl rfl rfl (w_n rfl) ?_
          refine TL_q (.slice a4 l4.length (cr3 - 4)) (fun _ _ hρ _ => r_assign (hρ _ _ rfl)) rfl rfl rfl (w_n rfl) ?_
          refine TL_q (.int .i64 0) (fun _ _ hρ _ => r_assign (hρ _ _ rfl)) rfl rfl rfl (w_n rfl) ?_
          refine TL_seq ?_
          refine T_sub [(2, .slice a4 l4.length (cr3 - 4)), (3, .int .i64 0)] [(1, .row (.slice ar3 ((openL l2).length) cr3) 5 1 ((openL l2).length) ((openL l2).flatMap byc))] (sub_cons rfl (sub_cons rfl sub_nil)) (sub_cons rfl sub_nil) ?_
          refine T_ret' ?_
          refine ret_of rfl (.tuple #[.slice a4 l4.length (cr3 - 4), .int .i64 0]) (fun tmps w hk hm => res2 rfl (res_tmp (hk 2 _ rfl)) (res_tmp (hk 3 _ rfl))) (fun w hm => ?_)
          exact absurd ((first_e4 (by omega) (by omega) (by omega)).trans hopE) h
        · skip
          refine T_seq (T_region ?_)
          refine TL_q (.slice a l.length cap) (fun _ _ hρ _ => r_move (hρ _ _ rfl)) rfl rfl rfl (w_n rfl) ?_
          refine TL_q (.int .u64 ((numP l : Nat) : Int)) (fun _ _ hρ _ => r_move (hρ _ _ rfl)) rfl rfl rfl (w_n rfl) ?_
          refine TL_q (.int .u64 ((numP l + 8 : Nat) : Int)) (fun _ _ hρ _ => r_as (r_add (hρ _ _ rfl) (hρ _ _ rfl)) (int_as ((wrap_u64 (by omega) (by omega)).trans (by omega)))) rfl rfl rfl (w_n rfl) ?_
          obtain ⟨l5, hl5, hn5⟩ : ∃ lz, lz = l.take (numP l + 8) ∧ lz.length = numP l + 8 := ⟨_, rfl, by rw [List.length_take]; omega⟩
          have hs5 := SliceAt.front hv (n := numP l + 8) (m := cap) (by omega) (by omega) (by omega)
          rw [← hl5] at hs5
          refine TL_q (.slice a l5.length cap) (fun ρ _ hρ _ => r_as (r_sliceO sl34 sz5 (hρ _ _ rfl) (bd_none ρ _) (bd_some (n := numP l + 8) (hρ _ _ rfl)) (bd_none ρ _) (by simp) (by omega) (by omega) (by omega)) (by rw [hn5]; exact slo_zero _ _ _ _)) rfl rfl rfl (w_n rfl) ?_
          refine TL_callN (fun (_ : Option Addr × Nat) => True) (fun (ar6, cr6) => .tuple #[.slice ar6 ((openL l5).length) cr6, .bool false]) (fun (ar6, cr6) => [(2, .row (.slice ar6 ((openL l5).length) cr6) 5 1 ((openL l5).length) ((openL l5).flatMap byc))]) (fun _ _ hρ _ => r_call (args := [.slice a l5.length cap]) (enters_of Try.func89 (by kernel_rfl) rfl) (hρ _ _ rfl) ((cons2 (hρ _ _ rfl) rfl)) rfl) (fun w hm => (open_ref l5 a cap w (hs5.keep hm.ext) (by omega) (by omega)).mono fun e w' ⟨a', cap', he, hb, hr⟩ => ⟨(a', cap'), trivial, he.trans (by rw [show openB l5 = false by rw [openB_is, hl5]; exact decide_eq_false hopE]), hb, newOk1 2 hr⟩) rfl rfl rfl (w_n rfl) ?_
          rintro ⟨ar6, cr6⟩ -
          refine TL_q (.tuple #[.slice ar6 ((openL l5).length) cr6, .bool false]) (fun _ _ hρ _ => r_move (hρ _ _ rfl)) rfl rfl rfl (w_n rfl) ?_
          refine TL_q (.slice ar6 ((openL l5).length) cr6) (fun _ _ hρ _ => r_extract (hρ _ _ rfl) rfl) rfl rfl rfl (w_n rfl) ?_
          refine TL_q (.bool false) (fun _ _ hρ _ => r_extract (hρ _ _ rfl) rfl) rfl rfl rfl (w_n rfl) ?_
          refine TL_q (.slice ar6 ((openL l5).length) cr6) (fun _ _ hρ _ => r_assign (hρ _ _ rfl)) rfl rfl rfl (w_n rfl) ?_
          refine TL_q (.bool false) (fun _ _ hρ _ => r_assign (hρ _ _ rfl)) rfl rfl rfl (w_n rfl) ?_
          refine TL_seq ?_
          refine T_seq ?_
          refine T_seq (T_region ?_)
          refine TL_q (.bool false) (fun _ _ hρ _ => r_move (hρ _ _ rfl)) rfl rfl rfl (w_n rfl) ?_
          refine TL_q (.bool true) (fun _ _ hρ _ => r_not (b := false) (hρ _ _ rfl)) rfl rfl rfl (w_n rfl) ?_
          refine TL_seq ?_
          refine T_cond_t rfl ?_
          refine T_seq (T_region ?_)
          refine TL_q (.slice none 0 0) (fun _ _ hρ _ => r_assign (hρ _ _ rfl)) rfl rfl rfl (w_n rfl) ?_
          refine TL_q (.int .i64 120) (fun _ _ hρ _ => r_assign (hρ _ _ rfl)) rfl rfl rfl (w_n rfl) ?_
          refine TL_seq ?_
          refine T_sub [(5, .slice ar6 ((openL l5).length) cr6), (2, .slice none 0 0), (3, .int .i64 120)] [(2, .row (.slice ar6 ((openL l5).length) cr6) 5 1 ((openL l5).length) ((openL l5).flatMap byc))] (sub_cons rfl (sub_cons rfl (sub_cons rfl sub_nil))) (sub_cons rfl sub_nil) ?_
          refine T_ret' ?_
          refine p_then_r ?_
          refine ret_of rfl (.tuple #[.slice none 0 0, .int .i64 120]) (fun tmps w hk hm => res2 rfl (res_tmp (hk 2 _ rfl)) (res_tmp (hk 3 _ rfl))) (fun w hm => ?_)
          exact ⟨by rw [first_e4 (by omega) (by omega) (by omega), openE_no hopE], hm.ext⟩

theorem rfirst_ok (l0 l : List By) (he : l = l0) (a : Option Addr) (cap : Nat) (w : World) (hv : SliceAt w a cap 1 byc l) (hcap : cap ≤ Go.maxLen) (h : firstE l0 = 0) : Calls Try.prog 51 #[.slice a l.length cap] w fun e w' => ∃ a' cap', e = .returned (.tuple #[.slice a' (heldP l0).length cap', .int .i64 0]) ∧ Below w.heap.size w w' ∧ (Res.sl a' cap' (heldP l0)).ok w.heap.size w' := by
  subst he; exact rfirst_c l a cap w hv hcap h
theorem rfirst_no (l0 l : List By) (he : l = l0) (a : Option Addr) (cap : Nat) (w : World) (hv : SliceAt w a cap 1 byc l) (hcap : cap ≤ Go.maxLen) (h : ¬ firstE l0 = 0) : Calls Try.prog 51 #[.slice a l.length cap] w fun e w' => e = .returned (.tuple #[.slice none 0 0, .int .i64 (firstE l0)]) ∧ Below w.heap.size w w' := by
  subst he; exact rfirst_p l a cap w hv hcap h
theorem rs_next {l : List By} {k at9 : Nat} (hd : (scanA 0 l).drop k = scanA at9 (l.drop at9)) (hz : firstE (l.drop at9) = 0) : (scanA 0 l).drop (k + 1) = scanA (at9 + (heldP (l.drop at9)).length + 8) (l.drop (at9 + (heldP (l.drop at9)).length + 8)) := by
  have := drop_next (hd.trans (scanA_h at9 hz))
  rw [this, List.drop_drop, Nat.add_assoc]

theorem rscan_c (l : List By) (a : Option Addr) (cap : Nat) (w : World) (hv : SliceAt w a cap 1 byc l) (hcap : cap ≤ Go.maxLen) (hl9 : l.length ≤ 1000000) : Calls Try.prog 42 #[.slice a l.length cap] w fun e w' => ∃ (n : RowG (RowG By)) (m : RowG Nat), rls n.l = heldsV l ∧ m.l = placesV l ∧ e = .returned (.tuple #[.slice n.a n.l.length n.cap, .slice m.a m.l.length m.cap, .int .i64 ((sizeV l : Nat) : Int)]) ∧ Below w.heap.size w w' ∧ NewOk w w' [(963, rowR n), (964, .rows n.l), (965, .row (.slice m.a m.l.length m.cap) 3 1 m.l.length (m.l.flatMap nic))] := by
  have hvl := hv.1
  have hcp := hcap
  unfold Go.maxLen at hcp
  refine calls_of_T (l := [.slice a l.length cap]) 35 Try.func42 rfl rfl rfl ?_
  show T _ _ _ [(0, .slice a l.length cap)] []
  refine T_seq (T_region ?_)
  refine TL_q (.slice none 0 0) (fun _ _ hρ _ => r_assign (hρ _ _ rfl)) rfl rfl rfl (w_n rfl) ?_
  refine TL_q (.slice none 0 0) (fun _ _ hρ _ => r_assign (hρ _ _ rfl)) rfl rfl rfl (w_n rfl) ?_
  refine TL_q (.int .i64 0) (fun _ _ hρ _ => r_assign (hρ _ _ rfl)) rfl rfl rfl (w_n rfl) ?_
  refine TL_seq ?_
  refine T_seq (T_region ?_)
  refine TL_q (.slice none 0 0) (fun _ _ hρ _ => r_assign (hρ _ _ rfl)) rfl rfl rfl (w_n rfl) ?_
  refine TL_seq ?_
  refine T_seq (T_region ?_)
  refine TL_q (.slice none 0 0) (fun _ _ hρ _ => r_assign (hρ _ _ rfl)) rfl rfl rfl (w_n rfl) ?_
  refine TL_seq ?_
  refine T_seq (T_region ?_)
  refine TL_q (.int .i64 0) (fun _ _ hρ _ => r_assign (hρ _ _ rfl)) rfl rfl rfl (w_n rfl) ?_
  refine TL_seq ?_
  refine T_block ?_
  refine T_mem (_ :: _ :: _ :: _) (fun _ hm => MemOk.nilRow (MemOk.shelf0 rowK (hm.nilRow 965 3 1) 964) 963 34 1) ?_
  refine T_loop (ι := Nat × Nat × RowG (RowG By) × RowG Nat) (fun (z : Nat × Nat × RowG (RowG By) × RowG Nat) => match z with | (k, at9, n8, m8) => k ≤ (scanA 0 l).length ∧ (scanA 0 l).drop k = scanA at9 (l.drop at9) ∧ at9 ≤ l.length ∧ rls n8.l = ((scanA 0 l).take k).map (·.2) ∧ m8.l = ((scanA 0 l).take k).map (·.1) ∧ at9 = endS ((scanA 0 l).take k) 0) (fun (z : Nat × Nat × RowG (RowG By) × RowG Nat) => match z with | (k, at9, n8, m8) => [(0, .slice a l.length cap), (5, .slice n8.a n8.l.length n8.cap), (6, .slice m8.a m8.l.length m8.cap), (7, .int .i64 ((at9 : Nat) : Int))]) (fun (z : Nat × Nat × RowG (RowG By) × RowG Nat) => match z with | (k, at9, n8, m8) => [(963, .row (.slice n8.a n8.l.length n8.cap) 34 1 n8.l.length (n8.l.flatMap RowG.cells)), (964, .rows n8.l), (965, .row (.slice m8.a m8.l.length m8.cap) 3 1 m8.l.length (m8.l.flatMap nic))]) (fun (z : Nat × Nat × RowG (RowG By) × RowG Nat) => match z with | (k, at9, n8, m8) => l.length - at9) (0, 0, ⟨none, 0, []⟩, ⟨none, 0, []⟩) ⟨Nat.zero_le _, rfl, Nat.zero_le _, rfl, rfl, rfl⟩ (sub_cons rfl (sub_cons rfl (sub_cons rfl (sub_cons rfl sub_nil)))) (sub_cons rfl (sub_cons rfl (sub_cons rfl sub_nil))) ?_
  rintro ⟨k, at9, n8, m8⟩ hp
  obtain ⟨hk, hd, hat, hnq, hmq, hsz⟩ := hp
  have hcn := scan_cnt hnq
  have hcm := scan_cnt hmq
  rw [rls_len] at hcn
  show T _ _ _ [(0, .slice a l.length cap), (5, .slice n8.a n8.l.length n8.cap), (6, .slice m8.a m8.l.length m8.cap), (7, .int .i64 ((at9 : Nat) : Int))] [(963, .row (.slice n8.a n8.l.length n8.cap) 34 1 n8.l.length (n8.l.flatMap RowG.cells)), (964, .rows n8.l), (965, .row (.slice m8.a m8.l.length m8.cap) 3 1 m8.l.length (m8.l.flatMap nic))]
  refine T_block ?_
  by_cases hz : firstE (l.drop at9) = 0
  · skip
    have hhl := heldP_len hz
    have c2 := (first_ok hz).2.1
    have c3 := (first_ok hz).2.2.1
    have hdl := List.length_drop (l := l) (i := at9)
    have hdx := hd.trans (scanA_h at9 hz)
    have hgx := drop_get hdx
    refine T_seq (T_region ?_)
    refine TL_q (.slice a l.length cap) (fun _ _ hρ _ => r_move (hρ _ _ rfl)) rfl rfl rfl (w_n rfl) ?_
    refine TL_q (.int .i64 ((at9 : Nat) : Int)) (fun _ _ hρ _ => r_move (hρ _ _ rfl)) rfl rfl rfl (w_n rfl) ?_
    obtain ⟨l1, hl1, hn1⟩ : ∃ lz, lz = (l.drop at9).take (l.length - at9) ∧ lz.length = l.length - at9 := ⟨_, rfl, by rw [List.length_take, List.length_drop]; omega⟩
    obtain ⟨a1, ha1⟩ : ∃ az : Option Addr, az = (if cap = at9 then a else Option.map (·.add (at9 * 1)) a) := ⟨_, rfl⟩
    have hs1 := SliceAt.part hv (lo := at9) (hi := l.length) (m := cap) (by omega) (by omega) (by omega) (by omega)
    rw [← hl1, ← ha1] at hs1
    refine TL_q (.slice a1 l1.length (cap - at9)) (fun ρ _ hρ _ => r_as (r_sliceO sl34 sz5 (hρ _ _ rfl) (bd_none ρ _) (bd_none ρ _) (bd_some (n := at9) (hρ _ _ rfl)) (by simp) (by omega) (by omega) (by omega)) (by rw [hn1, ha1])) rfl rfl rfl (w_n rfl) ?_
    refine TL_callN (fun (_ : Option Addr × Nat) => True) (fun (ag2, cg2) => .tuple #[.slice ag2 ((heldP (l.drop at9)).length) cg2, .int .i64 0]) (fun (ag2, cg2) => [(1, .sl ag2 cg2 (heldP (l.drop at9)))]) (fun _ _ hρ _ => r_call (args := [.slice a1 l1.length (cap - at9)]) (enters_of Try.func51 (by kernel_rfl) rfl) (hρ _ _ rfl) ((cons2 (hρ _ _ rfl) rfl)) rfl) (fun w hm => (rfirst_ok (l.drop at9) l1 (by rw [hl1]; exact List.take_of_length_le (by rw [List.length_drop]; exact Nat.le_refl _)) a1 (cap - at9) w (hs1.keep hm.ext) (by omega) hz).mono fun e w' ⟨a', cap', he, hb, hr⟩ => ⟨(a', cap'), trivial, he, hb, newOk1 1 hr⟩) rfl rfl rfl (w_n rfl) ?_
    rintro ⟨ag2, cg2⟩ -
    refine TL_q (.tuple #[.slice ag2 ((heldP (l.drop at9)).length) cg2, .int .i64 0]) (fun _ _ hρ _ => r_move (hρ _ _ rfl)) rfl rfl rfl (w_n rfl) ?_
    refine TL_q (.slice ag2 ((heldP (l.drop at9)).length) cg2) (fun _ _ hρ _ => r_extract (hρ _ _ rfl) rfl) rfl rfl rfl (w_n rfl) ?_
    refine TL_q (.int .i64 0) (fun _ _ hρ _ => r_extract (hρ _ _ rfl) rfl) rfl rfl rfl (w_n rfl) ?_
    refine TL_q (.slice ag2 ((heldP (l.drop at9)).length) cg2) (fun _ _ hρ _ => r_assign (hρ _ _ rfl)) rfl rfl rfl (w_n rfl) ?_
    refine TL_q (.int .i64 0) (fun _ _ hρ _ => r_assign (hρ _ _ rfl)) rfl rfl rfl (w_n rfl) ?_
    refine TL_seq ?_
    refine T_seq ?_
    refine T_seq (T_region ?_)
    refine TL_q (.int .i64 0) (fun _ _ hρ _ => r_move (hρ _ _ rfl)) rfl rfl rfl (w_n rfl) ?_
    refine TL_q (.bool false) (fun _ _ hρ _ => r_as (r_neq (hρ _ _ rfl) (hρ _ _ rfl)) (by rfl)) rfl rfl rfl (w_n rfl) ?_
    refine TL_seq ?_
    refine T_cond_f rfl ?_
    refine T_skip' ?_
    refine p_seq ?_
    refine T_seq (T_region ?_)
    refine TL_q (.slice n8.a n8.l.length n8.cap) (fun _ _ hρ _ => r_move (hρ _ _ rfl)) rfl rfl rfl (w_n rfl) ?_
    refine TL_q (.slice ag2 ((heldP (l.drop at9)).length) cg2) (fun _ _ hρ _ => r_move (hρ _ _ rfl)) rfl rfl rfl (w_n rfl) ?_
    refine TL_new 2 (.cells #[.slice ag2 ((heldP (l.drop at9)).length) cg2] 34) (fun B => .slice (some ⟨B, 0, none⟩) 1 1) (fun _ _ hρ _ => r_buildSlice (vs := [(0, .slice ag2 ((heldP (l.drop at9)).length) cg2)]) (by kernel_rfl) (cons2 (pair2 (hρ _ _ rfl)) rfl)) rfl rfl rfl (w_n rfl) ?_
    intro B3
    refine TL_append (n := n8.l.length) (m := 1) (xs := (n8.l.flatMap RowG.cells)) (news := [.slice ag2 ((heldP (l.drop at9)).length) cg2]) (z := .slice none 0 0) 963 rfl rfl rfl sl63 sz34 by34 (by kernel_rfl) rfl rfl (.inl rfl) (fun _ hm => src_blk (news := [.slice ag2 ((heldP (l.drop at9)).length) cg2]) (hm.at 2 rfl) rfl) (by simp [Value.oneCell']) (by omega) (by omega) rfl (w_n rfl) ?_
    intro a4 cap4
    refine TL_q (.slice m8.a m8.l.length m8.cap) (fun _ _ hρ _ => r_move (hρ _ _ rfl)) rfl rfl rfl (w_n rfl) ?_
    refine TL_q (.int .i64 ((at9 : Nat) : Int)) (fun _ _ hρ _ => r_move (hρ _ _ rfl)) rfl rfl rfl (w_n rfl) ?_
    refine TL_new 3 (.cells #[.int .i64 ((at9 : Nat) : Int)] 3) (fun B => .slice (some ⟨B, 0, none⟩) 1 1) (fun _ _ hρ _ => r_buildSlice (vs := [(0, .int .i64 ((at9 : Nat) : Int))]) (by kernel_rfl) (cons2 (pair2 (hρ _ _ rfl)) rfl)) rfl rfl rfl (w_n rfl) ?_
    intro B5
    refine TL_append (n := m8.l.length) (m := 1) (xs := (m8.l.flatMap nic)) (news := [.int .i64 ((at9 : Nat) : Int)]) (z := .int .i64 0) 965 rfl rfl rfl sl71 sz3 by3 (by kernel_rfl) rfl rfl (.inl rfl) (fun _ hm => src_blk (news := [.int .i64 ((at9 : Nat) : Int)]) (hm.at 3 rfl) rfl) (by simp [Value.oneCell']) (by omega) (by omega) rfl (w_n rfl) ?_
    intro a6 cap6
    refine TL_q (.slice a4 (n8.l.length + 1) cap4) (fun _ _ hρ _ => r_assign (hρ _ _ rfl)) rfl rfl rfl (w_n rfl) ?_
    refine TL_q (.slice a6 (m8.l.length + 1) cap6) (fun _ _ hρ _ => r_assign (hρ _ _ rfl)) rfl rfl rfl (w_n rfl) ?_
    refine TL_seq ?_
    refine T_region ?_
    refine TL_q (.int .i64 ((at9 : Nat) : Int)) (fun _ _ hρ _ => r_move (hρ _ _ rfl)) rfl rfl rfl (w_n rfl) ?_
    refine TL_q (.slice ag2 ((heldP (l.drop at9)).length) cg2) (fun _ _ hρ _ => r_move (hρ _ _ rfl)) rfl rfl rfl (w_n rfl) ?_
    refine TL_q (.int .i64 (((heldP (l.drop at9)).length : Nat) : Int)) (fun _ _ hρ _ => r_len sl34 (hρ _ _ rfl)) rfl rfl rfl (w_n rfl) ?_
    refine TL_q (.int .i64 ((at9 + ((heldP (l.drop at9)).length) : Nat) : Int)) (fun _ _ hρ _ => r_as (r_add (hρ _ _ rfl) (hρ _ _ rfl)) (int_as ((wrap64 (by omega) (by omega)).trans (by omega)))) rfl rfl rfl (w_n rfl) ?_
    refine TL_q (.int .i64 (((at9 + ((heldP (l.drop at9)).length)) + 8 : Nat) : Int)) (fun _ _ hρ _ => r_as (r_add (hρ _ _ rfl) (hρ _ _ rfl)) (int_as ((wrap64 (by omega) (by omega)).trans (by omega)))) rfl rfl rfl (w_n rfl) ?_
    refine TL_q (.int .i64 (((at9 + ((heldP (l.drop at9)).length)) + 8 : Nat) : Int)) (fun _ _ hρ _ => r_assign (hρ _ _ rfl)) rfl rfl rfl (w_n rfl) ?_
    refine TL_nil ?_
    refine p_blk_n ?_
    have hn7 : (n8.l.length + 1) = (n8.l ++ [(⟨ag2, cg2, (heldP (l.drop at9))⟩ : RowG By)]).length := by simp
    have hx7 : ((n8.l.flatMap RowG.cells) ++ [.slice ag2 ((heldP (l.drop at9)).length) cg2]) = (n8.l ++ [(⟨ag2, cg2, (heldP (l.drop at9))⟩ : RowG By)]).flatMap RowG.cells := by simp [RowG.cells]
    rw [hx7, hn7]
    have hn8 : (m8.l.length + 1) = (m8.l ++ [at9]).length := by simp
    have hx8 : ((m8.l.flatMap nic) ++ [.int .i64 ((at9 : Nat) : Int)]) = (m8.l ++ [at9]).flatMap nic := by simp [nic]
    rw [hx8, hn8]
    refine p_mem (_ :: _ :: _) (fun _ hm => hm.rowsPush 964 1 rfl rfl rfl) ?_
    exact p_at (k + 1, at9 + (heldP (l.drop at9)).length + 8, ⟨a4, cap4, n8.l ++ [(⟨ag2, cg2, (heldP (l.drop at9))⟩ : RowG By)]⟩, ⟨a6, cap6, m8.l ++ [at9]⟩) ⟨⟨drop_lt hdx, rs_next hd hz, by omega, scan_step hnq hgx, place_step hmq hgx, by rw [endS_at hgx]; exact (Nat.add_assoc _ _ _)⟩, by dsimp only; omega⟩ (sub_cons rfl (sub_cons rfl (sub_cons rfl (sub_cons rfl sub_nil)))) (sub_cons rfl (sub_cons rfl (sub_cons rfl sub_nil)))
  · skip
    refine T_seq (T_region ?_)
    refine TL_q (.slice a l.length cap) (fun _ _ hρ _ => r_move (hρ _ _ rfl)) rfl rfl rfl (w_n rfl) ?_
    refine TL_q (.int .i64 ((at9 : Nat) : Int)) (fun _ _ hρ _ => r_move (hρ _ _ rfl)) rfl rfl rfl (w_n rfl) ?_
    obtain ⟨l9, hl9, hn9⟩ : ∃ lz, lz = (l.drop at9).take (l.length - at9) ∧ lz.length = l.length - at9 := ⟨_, rfl, by rw [List.length_take, List.length_drop]; omega⟩
    obtain ⟨a9, ha9⟩ : ∃ az : Option Addr, az = (if cap = at9 then a else Option.map (·.add (at9 * 1)) a) := ⟨_, rfl⟩
    have hs9 := SliceAt.part hv (lo := at9) (hi := l.length) (m := cap) (by omega) (by omega) (by omega) (by omega)
    rw [← hl9, ← ha9] at hs9
    refine TL_q (.slice a9 l9.length (cap - at9)) (fun ρ _ hρ _ => r_as (r_sliceO sl34 sz5 (hρ _ _ rfl) (bd_none ρ _) (bd_none ρ _) (bd_some (n := at9) (hρ _ _ rfl)) (by simp) (by omega) (by omega) (by omega)) (by rw [hn9, ha9])) rfl rfl rfl (w_n rfl) ?_
    refine TL_call (.tuple #[.slice none 0 0, .int .i64 (firstE (l.drop at9))]) (fun _ _ hρ _ => r_call (args := [.slice a9 l9.length (cap - at9)]) (enters_of Try.func51 (by kernel_rfl) rfl) (hρ _ _ rfl) ((cons2 (hρ _ _ rfl) rfl)) rfl) (fun w hm => rfirst_no (l.drop at9) l9 (by rw [hl9]; exact List.take_of_length_le (by rw [List.length_drop]; exact Nat.le_refl _)) a9 (cap - at9) w (hs9.keep hm.ext) (by omega) hz) rfl rfl rfl (w_n rfl) ?_
    refine TL_q (.tuple #[.slice none 0 0, .int .i64 (firstE (l.drop at9))]) (fun _ _ hρ _ => r_move (hρ _ _ rfl)) rfl rfl rfl (w_n rfl) ?_
    refine TL_q (.slice none 0 0) (fun _ _ hρ _ => r_extract (hρ _ _ rfl) rfl) rfl rfl rfl (w_n rfl) ?_
    refine TL_q (.int .i64 (firstE (l.drop at9))) (fun _ _ hρ _ => r_extract (hρ _ _ rfl) rfl) rfl rfl rfl (w_n rfl) ?_
    refine TL_q (.slice none 0 0) (fun _ _ hρ _ => r_assign (hρ _ _ rfl)) rfl rfl rfl (w_n rfl) ?_
    refine TL_q (.int .i64 (firstE (l.drop at9))) (fun _ _ hρ _ => r_assign (hρ _ _ rfl)) rfl rfl rfl (w_n rfl) ?_
    refine TL_seq ?_
    refine T_seq ?_
    refine T_seq (T_region ?_)
    refine TL_q (.int .i64 (firstE (l.drop at9))) (fun _ _ hρ _ => r_move (hρ _ _ rfl)) rfl rfl rfl (w_n rfl) ?_
    refine TL_q (.bool true) (fun _ _ hρ _ => r_as (r_neq (hρ _ _ rfl) (hρ _ _ rfl)) (bool_as (by rw [decide_eq_false hz]; rfl))) rfl rfl rfl (w_n rfl) ?_
    refine TL_seq ?_
    refine T_cond_t rfl ?_
    refine T_seq (T_region ?_)
    refine TL_q (.slice n8.a n8.l.length n8.cap) (fun _ _ hρ _ => r_move (hρ _ _ rfl)) rfl rfl rfl (w_n rfl) ?_
    refine TL_q (.slice m8.a m8.l.length m8.cap) (fun _ _ hρ _ => r_move (hρ _ _ rfl)) rfl rfl rfl (w_n rfl) ?_
    refine TL_q (.int .i64 ((at9 : Nat) : Int)) (fun _ _ hρ _ => r_move (hρ _ _ rfl)) rfl rfl rfl (w_n rfl) ?_
    refine TL_q (.slice n8.a n8.l.length n8.cap) (fun _ _ hρ _ => r_assign (hρ _ _ rfl)) rfl rfl rfl (w_n rfl) ?_
    refine TL_q (.slice m8.a m8.l.length m8.cap) (fun _ _ hρ _ => r_assign (hρ _ _ rfl)) rfl rfl rfl (w_n rfl) ?_
    refine TL_q (.int .i64 ((at9 : Nat) : Int)) (fun _ _ hρ _ => r_assign (hρ _ _ rfl)) rfl rfl rfl (w_n rfl) ?_
    refine TL_seq ?_
    refine T_ret' ?_
    refine p_then_r ?_
    refine p_blk_r ?_
    refine p_then_r ?_
    refine p_blk_r ?_
    refine ret_of rfl (.tuple #[.slice n8.a n8.l.length n8.cap, .slice m8.a m8.l.length m8.cap, .int .i64 ((at9 : Nat) : Int)]) (fun tmps w hk hm => res3 rfl (res_tmp (hk 2 _ rfl)) (res_tmp (hk 3 _ rfl)) (res_tmp (hk 4 _ rfl))) (fun w hm => ?_)
    have hke := drop_none hk (hd.trans (scanA_f at9 hz))
    subst hke
    have hm2 := hm.sub (L' := [(963, rowR n8), (964, .rows n8.l), (965, .row (.slice m8.a m8.l.length m8.cap) 3 1 m8.l.length (m8.l.flatMap nic))]) (sub_cons rfl (sub_cons rfl (sub_cons rfl sub_nil)))
    rw [List.take_length] at hnq hmq hsz
    exact ⟨n8, m8, hnq, hmq, by rw [hsz], hm.ext, ⟨fun i r h => hm2.own i r h, fun i j r s h1 h2 => hm2.sep i j r s h1 h2⟩⟩

theorem rls_le {n : List (RowG By)} {m : Nat} {l : List (List By)} (h : rls n = l) (hl : ∀ r ∈ l, r.length ≤ m) : ∀ r ∈ n, r.l.length ≤ m := fun r hr => hl _ (by rw [← h]; exact List.mem_map.2 ⟨r, hr, rfl⟩)
theorem held_le (l : List By) : ∀ r ∈ heldsV l, r.length ≤ 65536 := fun r hr => by
  obtain ⟨x, hx, rfl⟩ := List.mem_map.1 hr
  have key : ∀ (n at' : Nat) (l : List By), l.length ≤ n → ∀ x ∈ scanA at' l, x.2.length ≤ 65536 := by
    intro n
    induction n with
    | zero =>
      intro at' l h x hx
      have e : l = [] := List.eq_nil_of_length_eq_zero (by omega)
      subst e; cases hx
    | succ n ih =>
      intro at' l h x hx
      by_cases e : firstE l = 0
      · obtain ⟨h1, h2, h3, _⟩ := first_ok e
        have hl := heldP_len e
        rw [scanA_t at' e] at hx
        rcases List.mem_cons.1 hx with rfl | hx
        · dsimp only; omega
        · exact ih _ _ (by rw [List.length_drop]; omega) x hx
      · rw [scanA_f at' e] at hx; cases hx
  exact key l.length 0 l (Nat.le_refl _) x hx
theorem held_many (l : List By) : (heldsV l).length ≤ l.length := by
  unfold heldsV
  rw [List.length_map]
  exact scan_many l.length 0 l (Nat.le_refl _)

theorem rls_step {ps qs : List (RowG By)} {k : Nat} {p q : RowG By} (h : rls (ps.take k) = rls (qs.take k)) (hp : ps[k]? = some p) (hq : qs[k]? = some q) (e : p.l = q.l) : rls (ps.take (k + 1)) = rls (qs.take (k + 1)) := by
  unfold rls at h ⊢
  rw [List.take_add_one, List.take_add_one, hp, hq, List.map_append, List.map_append, h]
  simp only [Option.toList_some, List.map_cons, List.map_nil, e]
theorem rls_at {ps qs : List (RowG By)} {k : Nat} {p q : RowG By} (h : rls ps = rls qs) (hp : ps[k]? = some p) (hq : qs[k]? = some q) : p.l = q.l := by
  have := congrArg (fun l => l[k]?) h
  simp only [List.getElem?_map, hp, hq, Option.map_some] at this
  exact Option.some.inj this

theorem same1_c (l m : List By) (a b : Option Addr) (cap capb : Nat) (w : World) (hv : SliceAt w a cap 1 byc l) (hu : SliceAt w b capb 1 byc m) (hl : l.length ≤ 1000000) (hl2 : m.length ≤ 1000000) : Calls Try.prog 86 #[.slice a l.length cap, .slice b m.length capb] w fun e w' => e = .returned (.bool (decide (l = m))) ∧ Below w.heap.size w w' := by
  refine calls_of_T (l := [.slice a l.length cap, .slice b m.length capb]) 8 Try.func86 rfl rfl rfl ?_
  show T _ _ _ [(0, .slice a l.length cap), (1, .slice b m.length capb)] []
  refine T_seq (T_region ?_)
  refine TL_q (.bool false) (fun _ _ hρ _ => r_assign (hρ _ _ rfl)) rfl rfl rfl (w_n rfl) ?_
  refine TL_seq ?_
  refine T_seq (T_region ?_)
  refine TL_q (.slice a l.length cap) (fun _ _ hρ _ => r_move (hρ _ _ rfl)) rfl rfl rfl (w_n rfl) ?_
  refine TL_q (.slice b m.length capb) (fun _ _ hρ _ => r_move (hρ _ _ rfl)) rfl rfl rfl (w_n rfl) ?_
  refine TL_call (.bool (decide (l = m))) (fun _ _ hρ _ => r_call (args := [.slice a l.length cap, .slice b m.length capb]) (enters_of Try.func16 (by kernel_rfl) rfl) (hρ _ _ rfl) ((cons2 (hρ _ _ rfl) (cons2 (hρ _ _ rfl) rfl))) rfl) (fun w hm => equal_b l m a b cap capb w (hv.keep hm.ext) (hu.keep hm.ext) (by omega) (by omega)) rfl rfl rfl (w_n rfl) ?_
  refine TL_q (.bool (decide (l = m))) (fun _ _ hρ _ => r_assign (hρ _ _ rfl)) rfl rfl rfl (w_n rfl) ?_
  refine TL_seq ?_
  refine T_ret' ?_
  refine ret_of rfl (.bool (decide (l = m))) (fun tmps w hk hm => res1 rfl (res_tmp (hk 4 _ rfl))) (fun w hm => ?_)
  exact ⟨rfl, hm.ext⟩

theorem eqf_c (ps : List (RowG By)) (a : Option Addr) (cap : Nat) (qs : List (RowG By)) (b : Option Addr) (capb : Nat) (w : World) (hv : SliceAt w a cap 1 RowG.cells ps) (hcap : cap ≤ Go.maxLen) (hx : RowsIn w ps) (hxb : ∀ r ∈ ps, r.l.length ≤ 1000000) (hu : SliceAt w b capb 1 RowG.cells qs) (hcapb : capb ≤ Go.maxLen) (hy : RowsIn w qs) (hyb : ∀ r ∈ qs, r.l.length ≤ 1000000) : Calls Try.prog 85 #[.slice a ps.length cap, .slice b qs.length capb, .func (.func 86) #[] #[]] w fun e w' => e = .returned (.bool (decide (rls ps = rls qs))) ∧ Below w.heap.size w w' := by
  have hvl := hv.1
  have hul := hu.1
  unfold Go.maxLen at hcap hcapb
  refine calls_of_T (l := [.slice a ps.length cap, .slice b qs.length capb, .func (.func 86) #[] #[]]) 32 Try.func85 rfl rfl rfl ?_
  show T _ _ _ [(0, .slice a ps.length cap), (1, .slice b qs.length capb), (2, .func (.func 86) #[] #[])] []
  refine T_seq (T_region ?_)
  refine TL_q (.bool false) (fun _ _ hρ _ => r_assign (hρ _ _ rfl)) rfl rfl rfl (w_n rfl) ?_
  refine TL_seq ?_
  refine T_seq ?_
  by_cases c1 : ((ps.length : Nat) : Int) = ((qs.length : Nat) : Int)
  · skip
    refine T_seq (T_region ?_)
    refine TL_q (.slice a ps.length cap) (fun _ _ hρ _ => r_move (hρ _ _ rfl)) rfl rfl rfl (w_n rfl) ?_
    refine TL_q (.int .i64 ((ps.length : Nat) : Int)) (fun _ _ hρ _ => r_len sl63 (hρ _ _ rfl)) rfl rfl rfl (w_n rfl) ?_
    refine TL_q (.slice b qs.length capb) (fun _ _ hρ _ => r_move (hρ _ _ rfl)) rfl rfl rfl (w_n rfl) ?_
    refine TL_q (.int .i64 ((qs.length : Nat) : Int)) (fun _ _ hρ _ => r_len sl63 (hρ _ _ rfl)) rfl rfl rfl (w_n rfl) ?_
    refine TL_q (.bool false) (fun _ _ hρ _ => r_as (r_neq (hρ _ _ rfl) (hρ _ _ rfl)) (bool_as (by rw [decide_eq_true c1]; rfl))) rfl rfl rfl (w_n rfl) ?_
    refine TL_seq ?_
    refine T_cond_f rfl ?_
    refine T_skip' ?_
    refine p_seq ?_
    refine T_seq ?_
    refine T_seq (T_region ?_)
    refine TL_q (.slice a ps.length cap) (fun _ _ hρ _ => r_move (hρ _ _ rfl)) rfl rfl rfl (w_n rfl) ?_
    refine TL_q (.int .i64 ((ps.length : Nat) : Int)) (fun _ _ hρ _ => r_len sl63 (hρ _ _ rfl)) rfl rfl rfl (w_n rfl) ?_
    refine TL_q (.int .i64 0) (fun _ _ hρ _ => r_move (hρ _ _ rfl)) rfl rfl rfl (w_n rfl) ?_
    refine TL_seq ?_
    refine T_block ?_
    refine T_loop (ι := Nat) (fun (k : Nat) => k ≤ ps.length ∧ rls (ps.take k) = rls (qs.take k)) (fun (k : Nat) => [(1, .slice b qs.length capb), (2, .func (.func 86) #[] #[]), (15, .slice a ps.length cap), (16, .int .i64 ((ps.length : Nat) : Int)), (17, .int .i64 ((k : Nat) : Int))]) (fun (k : Nat) => []) (fun (k : Nat) => ps.length - k) 0 ⟨Nat.zero_le _, by simp⟩ (sub_cons rfl (sub_cons rfl (sub_cons rfl (sub_cons rfl (sub_cons rfl sub_nil))))) sub_nil ?_
    rintro k hp
    obtain ⟨hk1, hk2⟩ := hp
    show T _ _ _ [(1, .slice b qs.length capb), (2, .func (.func 86) #[] #[]), (15, .slice a ps.length cap), (16, .int .i64 ((ps.length : Nat) : Int)), (17, .int .i64 ((k : Nat) : Int))] []
    refine T_seq (T_region ?_)
    refine TL_q (.bool (decide (((k : Nat) : Int) < ((ps.length : Nat) : Int)))) (fun _ _ hρ _ => r_lss (hρ _ _ rfl) (hρ _ _ rfl)) rfl rfl rfl (w_n rfl) ?_
    refine TL_seq ?_
    refine T_seq ?_
    refine T_cond rfl (fun h1 => ?_) (fun h1 => ?_)
    · replace h1 := of_decide_eq_true h1
      refine T_skip' ?_
      refine p_seq ?_
      refine T_seq ?_
      refine T_block ?_
      obtain ⟨p, hp⟩ : ∃ x, ps[k]? = some x := ⟨_, List.getElem?_eq_getElem (by omega)⟩
      have hokp := hx p (List.mem_of_getElem? hp)
      have hbdp := hxb p (List.mem_of_getElem? hp)
      obtain ⟨b1, of1, cs1, T1, fz1, ha1, hq1, hr1⟩ := hv.open (i := k) (by omega)
      subst ha1
      refine T_seq (T_region ?_)
      refine TL_q (.int .i64 ((k : Nat) : Int)) (fun _ _ hρ _ => r_move (hρ _ _ rfl)) rfl rfl rfl (w_n rfl) ?_
      refine TL_q (.pointer (some ⟨b1, of1 + k * 1, none⟩)) (fun _ _ hρ _ => r_indexAddrS (i := k) sl63 sz34 (hρ _ _ rfl) (hρ _ _ rfl) (by omega)) rfl rfl rfl (w_n rfl) ?_
      refine TL_q (.slice p.a p.l.length p.cap) (fun _ _ hρ hm => r_loadRow1 (f := RowG.cells) (u := p) ag34 (hρ _ _ rfl) (hm.old hq1) hr1 hp rfl) rfl rfl rfl (w_n rfl) ?_
      refine TL_q (.int .i64 ((k : Nat) : Int)) (fun _ _ hρ _ => r_assign (hρ _ _ rfl)) rfl rfl rfl (w_n rfl) ?_
      refine TL_q (.slice p.a p.l.length p.cap) (fun _ _ hρ _ => r_assign (hρ _ _ rfl)) rfl rfl rfl (w_n rfl) ?_
      refine TL_seq ?_
      obtain ⟨q, hq⟩ : ∃ x, qs[k]? = some x := ⟨_, List.getElem?_eq_getElem (by omega)⟩
      have hokq := hy q (List.mem_of_getElem? hq)
      have hbdq := hyb q (List.mem_of_getElem? hq)
      obtain ⟨b2, of2, cs2, T2, fz2, ha2, hq2, hr2⟩ := hu.open (i := k) (by omega)
      subst ha2
      refine T_seq (T_region ?_)
      refine TL_q (.slice (some ⟨b2, of2, none⟩) qs.length capb) (fun _ _ hρ _ => r_move (hρ _ _ rfl)) rfl rfl rfl (w_n rfl) ?_
      refine TL_q (.int .i64 ((k : Nat) : Int)) (fun _ _ hρ _ => r_move (hρ _ _ rfl)) rfl rfl rfl (w_n rfl) ?_
      refine TL_q (.pointer (some ⟨b2, of2 + k * 1, none⟩)) (fun _ _ hρ _ => r_indexAddrS (i := k) sl63 sz34 (hρ _ _ rfl) (hρ _ _ rfl) (by omega)) rfl rfl rfl (w_n rfl) ?_
      refine TL_q (.slice q.a q.l.length q.cap) (fun _ _ hρ hm => r_loadRow1 (f := RowG.cells) (u := q) ag34 (hρ _ _ rfl) (hm.old hq2) hr2 hq rfl) rfl rfl rfl (w_n rfl) ?_
      refine TL_q (.slice q.a q.l.length q.cap) (fun _ _ hρ _ => r_assign (hρ _ _ rfl)) rfl rfl rfl (w_n rfl) ?_
      refine TL_seq ?_
      by_cases he : p.l = q.l
      · skip
        refine T_seq (T_region ?_)
        refine TL_q (.func (.func 86) #[] #[]) (fun _ _ hρ _ => r_move (hρ _ _ rfl)) rfl rfl rfl (w_n rfl) ?_
        refine TL_q (.slice p.a p.l.length p.cap) (fun _ _ hρ _ => r_move (hρ _ _ rfl)) rfl rfl rfl (w_n rfl) ?_
        refine TL_q (.slice q.a q.l.length q.cap) (fun _ _ hρ _ => r_move (hρ _ _ rfl)) rfl rfl rfl (w_n rfl) ?_
        refine TL_call (.bool true) (fun _ _ hρ _ => r_call (args := [.slice p.a p.l.length p.cap, .slice q.a q.l.length q.cap]) (enters_of Try.func86 (by kernel_rfl) rfl) (hρ _ _ rfl) ((cons2 (hρ _ _ rfl) (cons2 (hρ _ _ rfl) rfl))) rfl) (fun w hm => (same1_c p.l q.l p.a q.a p.cap q.cap w (hokp.1.keep hm.ext) (hokq.1.keep hm.ext) hbdp hbdq).mono fun _ _ h => ⟨h.1.trans (congrArg Ending.returned (bool_as (decide_eq_true he))), h.2⟩) rfl rfl rfl (w_n rfl) ?_
        refine TL_q (.bool false) (fun _ _ hρ _ => r_not (b := true) (hρ _ _ rfl)) rfl rfl rfl (w_n rfl) ?_
        refine TL_seq ?_
        refine T_cond_f rfl ?_
        refine T_skip' ?_
        refine p_blk_n ?_
        refine p_seq ?_
        refine T_region ?_
        refine TL_q (.int .i64 ((k + 1 : Nat) : Int)) (fun _ _ hρ _ => r_as (r_add (hρ _ _ rfl) (hρ _ _ rfl)) (int_as ((wrap64 (by omega) (by omega)).trans (by omega)))) rfl rfl rfl (w_n rfl) ?_
        refine TL_q (.int .i64 ((k + 1 : Nat) : Int)) (fun _ _ hρ _ => r_move (hρ _ _ rfl)) rfl rfl rfl (w_n rfl) ?_
        refine TL_nil ?_
        exact p_at (k + 1) ⟨⟨by omega, rls_step hk2 hp hq he⟩, by omega⟩ (sub_cons rfl (sub_cons rfl (sub_cons rfl (sub_cons rfl (sub_cons rfl sub_nil))))) sub_nil
      · skip
        refine T_seq (T_region ?_)
        refine TL_q (.func (.func 86) #[] #[]) (fun _ _ hρ _ => r_move (hρ _ _ rfl)) rfl rfl rfl (w_n rfl) ?_
        refine TL_q (.slice p.a p.l.length p.cap) (fun _ _ hρ _ => r_move (hρ _ _ rfl)) rfl rfl rfl (w_n rfl) ?_
        refine TL_q (.slice q.a q.l.length q.cap) (fun _ _ hρ _ => r_move (hρ _ _ rfl)) rfl rfl rfl (w_n rfl) ?_
        refine TL_call (.bool false) (fun _ _ hρ _ => r_call (args := [.slice p.a p.l.length p.cap, .slice q.a q.l.length q.cap]) (enters_of Try.func86 (by kernel_rfl) rfl) (hρ _ _ rfl) ((cons2 (hρ _ _ rfl) (cons2 (hρ _ _ rfl) rfl))) rfl) (fun w hm => (same1_c p.l q.l p.a q.a p.cap q.cap w (hokp.1.keep hm.ext) (hokq.1.keep hm.ext) hbdp hbdq).mono fun _ _ h => ⟨h.1.trans (congrArg Ending.returned (bool_as (decide_eq_false he))), h.2⟩) rfl rfl rfl (w_n rfl) ?_
        refine TL_q (.bool true) (fun _ _ hρ _ => r_not (b := false) (hρ _ _ rfl)) rfl rfl rfl (w_n rfl) ?_
        refine TL_seq ?_
        refine T_cond_t rfl ?_
        refine T_seq (T_region ?_)
        refine TL_q (.bool false) (fun _ _ hρ _ => r_assign (hρ _ _ rfl)) rfl rfl rfl (w_n rfl) ?_
        refine TL_seq ?_
        refine T_ret' ?_
        refine p_blk_r ?_
        refine p_then_r ?_
        refine p_then_r ?_
        refine p_blk_r ?_
        refine p_then_r ?_
        refine ret_of rfl (.bool false) (fun tmps w hk hm => res1 rfl (res_tmp (hk 6 _ rfl))) (fun w hm => ?_)
        exact ⟨congrArg Ending.returned (bool_as (decide_eq_false (fun e => he (rls_at e hp hq))).symm), hm.ext⟩
    · replace h1 := of_decide_eq_false h1
      refine T_exit' ?_
      refine p_then_x ?_
      refine p_then_x ?_
      refine p_blk_x ?_
      refine p_seq ?_
      refine T_seq (T_region ?_)
      refine TL_q (.bool true) (fun _ _ hρ _ => r_assign (hρ _ _ rfl)) rfl rfl rfl (w_n rfl) ?_
      refine TL_seq ?_
      refine T_ret' ?_
      refine ret_of rfl (.bool true) (fun tmps w hk hm => res1 rfl (res_tmp (hk 6 _ rfl))) (fun w hm => ?_)
      have hke : k = ps.length := by omega
      subst hke
      rw [List.take_length, show ps.length = qs.length by omega, List.take_length] at hk2
      exact ⟨congrArg Ending.returned (bool_as (decide_eq_true hk2).symm), hm.ext⟩
  · skip
    refine T_seq (T_region ?_)
    refine TL_q (.slice a ps.length cap) (fun _ _ hρ _ => r_move (hρ _ _ rfl)) rfl rfl rfl (w_n rfl) ?_
    refine TL_q (.int .i64 ((ps.length : Nat) : Int)) (fun _ _ hρ _ => r_len sl63 (hρ _ _ rfl)) rfl rfl rfl (w_n rfl) ?_
    refine TL_q (.slice b qs.length capb) (fun _ _ hρ _ => r_move (hρ _ _ rfl)) rfl rfl rfl (w_n rfl) ?_
    refine TL_q (.int .i64 ((qs.length : Nat) : Int)) (fun _ _ hρ _ => r_len sl63 (hρ _ _ rfl)) rfl rfl rfl (w_n rfl) ?_
    refine TL_q (.bool true) (fun _ _ hρ _ => r_as (r_neq (hρ _ _ rfl) (hρ _ _ rfl)) (bool_as (by rw [decide_eq_false c1]; rfl))) rfl rfl rfl (w_n rfl) ?_
    refine TL_seq ?_
    refine T_cond_t rfl ?_
    refine T_seq (T_region ?_)
    refine TL_q (.bool false) (fun _ _ hρ _ => r_assign (hρ _ _ rfl)) rfl rfl rfl (w_n rfl) ?_
    refine TL_seq ?_
    refine T_ret' ?_
    refine p_then_r ?_
    refine ret_of rfl (.bool false) (fun tmps w hk hm => res1 rfl (res_tmp (hk 6 _ rfl))) (fun w hm => ?_)
    exact ⟨congrArg Ending.returned (bool_as (decide_eq_false (fun e => c1 (by have := congrArg List.length e; rw [rls_len, rls_len] at this; omega))).symm), hm.ext⟩

theorem same_c (ps : List (RowG By)) (a : Option Addr) (cap : Nat) (qs : List (RowG By)) (b : Option Addr) (capb : Nat) (w : World) (hv : SliceAt w a cap 1 RowG.cells ps) (hcap : cap ≤ Go.maxLen) (hx : RowsIn w ps) (hxb : ∀ r ∈ ps, r.l.length ≤ 1000000) (hu : SliceAt w b capb 1 RowG.cells qs) (hcapb : capb ≤ Go.maxLen) (hy : RowsIn w qs) (hyb : ∀ r ∈ qs, r.l.length ≤ 1000000) : Calls Try.prog 45 #[.slice a ps.length cap, .slice b qs.length capb] w fun e w' => e = .returned (.bool (decide (rls ps = rls qs))) ∧ Below w.heap.size w w' := by
  refine calls_of_T (l := [.slice a ps.length cap, .slice b qs.length capb]) 8 Try.func45 rfl rfl rfl ?_
  show T _ _ _ [(0, .slice a ps.length cap), (1, .slice b qs.length capb)] []
  refine T_seq (T_region ?_)
  refine TL_q (.bool false) (fun _ _ hρ _ => r_assign (hρ _ _ rfl)) rfl rfl rfl (w_n rfl) ?_
  refine TL_seq ?_
  refine T_seq (T_region ?_)
  refine TL_q (.slice a ps.length cap) (fun _ _ hρ _ => r_move (hρ _ _ rfl)) rfl rfl rfl (w_n rfl) ?_
  refine TL_q (.slice b qs.length capb) (fun _ _ hρ _ => r_move (hρ _ _ rfl)) rfl rfl rfl (w_n rfl) ?_
  refine TL_call (.bool (decide (rls ps = rls qs))) (fun _ _ hρ _ => r_call (args := [.slice a ps.length cap, .slice b qs.length capb, .func (.func 86) #[] #[]]) (enters_of Try.func85 (by kernel_rfl) rfl) (hρ _ _ rfl) ((cons2 (hρ _ _ rfl) (cons2 (hρ _ _ rfl) (cons2 (hρ _ _ rfl) rfl)))) rfl) (fun w hm => eqf_c ps a cap qs b capb w (hv.keep hm.ext) hcap (hx.keep hm.ext) hxb (hu.keep hm.ext) hcapb (hy.keep hm.ext) hyb) rfl rfl rfl (w_n rfl) ?_
  refine TL_q (.bool (decide (rls ps = rls qs))) (fun _ _ hρ _ => r_assign (hρ _ _ rfl)) rfl rfl rfl (w_n rfl) ?_
  refine TL_seq ?_
  refine T_ret' ?_
  refine ret_of rfl (.bool (decide (rls ps = rls qs))) (fun tmps w hk hm => res1 rfl (res_tmp (hk 4 _ rfl))) (fun w hm => ?_)
  exact ⟨rfl, hm.ext⟩
end Go.Proofs.Ytcidgbjgeegepaa
/- net and journal: wakes. Printed by a program of this seat's prover. -/
namespace Go.Proofs.Ytcidgbjgeegepaa
open Go Go.RowKit
set_option maxRecDepth 10000
abbrev WJ : List (List By) := [[5#8], [6#8, 7#8]]
theorem wk_h : ∀ r ∈ WJ, r.length ≤ 65536 := by decide
theorem wk_len : (joinP WJ).length = 19 := by
  show joinL WJ = 19
  rw [joinL_cons, joinL_cons]; rfl
theorem wk_1 : joinL [[5#8]] = 9 := by rw [joinL_cons]; rfl
theorem wk_many : manyJ WJ 18 = 1 := by decide
theorem wk_torn : heldsV ((joinP WJ).take 18) = [[5#8]] ∧ sizeV ((joinP WJ).take 18) = 9 ∧ whyE ((joinP WJ).take 18) ≠ 0 := by
  obtain ⟨h1, h2, h3, h4⟩ := torn (c := 18) wk_h (by show 18 ≤ (joinP WJ).length; rw [wk_len]; decide)
  rw [wk_many] at h1 h2 h3
  refine ⟨h1, h2.trans wk_1, fun e => ?_⟩
  have := h3.1 e
  rw [show WJ.take 1 = [[5#8]] from rfl, wk_1] at this
  cases this
theorem wk_more : sizeV (joinP WJ ++ [0#8]) = 19 ∧ whyE (joinP WJ ++ [0#8]) = 110 := by
  obtain ⟨_, h2, _⟩ := scan_join WJ 0 [0#8] wk_h (by decide)
  have hl : joinL WJ = 19 := wk_len
  rw [Nat.zero_add, hl] at h2
  refine ⟨h2, ?_⟩
  have h3 : sizeV (joinP WJ ++ [0#8]) = 19 := h2
  unfold whyE
  rw [h3, if_neg (by rw [List.length_append, wk_len]; decide), show (19 : Nat) = (joinP WJ).length from wk_len.symm, List.drop_append_of_le_length (Nat.le_refl _), List.drop_of_length_le (Nat.le_refl _)]
  rfl
theorem wk_f1 : firstE [0#8, 0#8, 0#8] = 110 := by decide
theorem wk_f2 : firstE [0#8, 1#8, 0#8, 1#8] = 3 := by decide +kernel
theorem wk_f3 : firstE [0#8, 0#8, 0#8, 0#8, 1#8, 1#8, 1#8, 1#8] = 120 := by decide +kernel

set_option maxHeartbeats 1000000 in
theorem jwakes_c (w : World) : Calls Try.prog 35 #[] w fun e w' => e = .returned (.bool true) ∧ Below w.heap.size w w' := by
  have hwl := wk_len
  have hrl := recP_len [5#8, 6#8]
  replace hrl : (recP [5#8, 6#8]).length = 10 := hrl
  refine calls_of_T (l := []) 124 Try.func35 rfl rfl rfl ?_
  show T _ _ _ [] []
  refine T_seq (T_region ?_)
  refine TL_q (.bool false) (fun _ _ hρ _ => r_assign (hρ _ _ rfl)) rfl rfl rfl (w_n rfl) ?_
  refine TL_seq ?_
  refine T_seq (T_region ?_)
  refine TL_new 1 (.cells #[.int .u8 5, .int .u8 6] 5) (fun B => .slice (some ⟨B, 0, none⟩) 2 2) (fun _ _ hρ _ => r_buildSlice (vs := [(0, .int .u8 5), (1, .int .u8 6)]) (by kernel_rfl) (cons2 (pair2 (hρ _ _ rfl)) (cons2 (pair2 (hρ _ _ rfl)) rfl))) rfl rfl rfl (w_n rfl) ?_
  intro B1
  refine TL_callN (fun (_ : Option Addr × Nat) => True) (fun (ar2, cr2) => .tuple #[.slice ar2 ((recP [5#8, 6#8]).length) cr2, .int .i64 0]) (fun (ar2, cr2) => [(2, .row (.slice ar2 ((recP [5#8, 6#8]).length) cr2) 5 1 ((recP [5#8, 6#8]).length) ((recP [5#8, 6#8]).flatMap byc))]) (fun _ _ hρ _ => r_call (args := [.slice (some ⟨B1, 0, none⟩) 2 2]) (enters_of Try.func40 (by kernel_rfl) rfl) (hρ _ _ rfl) ((cons2 (hρ _ _ rfl) rfl)) rfl) (fun w hm => (jrec_ok [5#8, 6#8] (some ⟨B1, 0, none⟩) 2 w ⟨Nat.le_of_ble_eq_true rfl, (fun e => by cases e), .inr ⟨_, 0, _, _, _, rfl, (hm.at 1 rfl), row_of_take (fun _ => rfl) rfl⟩⟩ (Nat.le_of_ble_eq_true rfl) (by decide)).mono fun e w' ⟨a', cap', he, hb, hr⟩ => ⟨(a', cap'), trivial, he, hb, newOk1 2 hr⟩) rfl rfl rfl (w_n rfl) ?_
  rintro ⟨ar2, cr2⟩ -
  refine TL_q (.tuple #[.slice ar2 ((recP [5#8, 6#8]).length) cr2, .int .i64 0]) (fun _ _ hρ _ => r_move (hρ _ _ rfl)) rfl rfl rfl (w_n rfl) ?_
  refine TL_q (.slice ar2 ((recP [5#8, 6#8]).length) cr2) (fun _ _ hρ _ => r_extract (hρ _ _ rfl) rfl) rfl rfl rfl (w_n rfl) ?_
  refine TL_q (.int .i64 0) (fun _ _ hρ _ => r_extract (hρ _ _ rfl) rfl) rfl rfl rfl (w_n rfl) ?_
  refine TL_q (.slice ar2 ((recP [5#8, 6#8]).length) cr2) (fun _ _ hρ _ => r_assign (hρ _ _ rfl)) rfl rfl rfl (w_n rfl) ?_
  refine TL_q (.int .i64 0) (fun _ _ hρ _ => r_assign (hρ _ _ rfl)) rfl rfl rfl (w_n rfl) ?_
  refine TL_seq ?_
  refine T_seq (T_region ?_)
  refine TL_new 3 (.cells #[.int .u8 5] 5) (fun B => .slice (some ⟨B, 0, none⟩) 1 1) (fun _ _ hρ _ => r_buildSlice (vs := [(0, .int .u8 5)]) (by kernel_rfl) (cons2 (pair2 (hρ _ _ rfl)) rfl)) rfl rfl rfl (w_n rfl) ?_
  intro B3
  refine TL_new 4 (.cells #[.int .u8 6, .int .u8 7] 5) (fun B => .slice (some ⟨B, 0, none⟩) 2 2) (fun _ _ hρ _ => r_buildSlice (vs := [(0, .int .u8 6), (1, .int .u8 7)]) (by kernel_rfl) (cons2 (pair2 (hρ _ _ rfl)) (cons2 (pair2 (hρ _ _ rfl)) rfl))) rfl rfl rfl (w_n rfl) ?_
  intro B4
  refine TL_new 5 (.cells #[.slice (some ⟨B3, 0, none⟩) 1 1, .slice (some ⟨B4, 0, none⟩) 2 2] 34) (fun B => .slice (some ⟨B, 0, none⟩) 2 2) (fun _ _ hρ _ => r_buildSlice (vs := [(0, .slice (some ⟨B3, 0, none⟩) 1 1), (1, .slice (some ⟨B4, 0, none⟩) 2 2)]) (by kernel_rfl) (cons2 (pair2 (hρ _ _ rfl)) (cons2 (pair2 (hρ _ _ rfl)) rfl))) rfl rfl rfl (w_n rfl) ?_
  intro B5
  refine TL_callN (fun (_ : Option Addr × Nat) => True) (fun (ar6, cr6) => .tuple #[.slice ar6 ((joinP WJ).length) cr6, .int .i64 0]) (fun (ar6, cr6) => [(6, .row (.slice ar6 ((joinP WJ).length) cr6) 5 1 ((joinP WJ).length) ((joinP WJ).flatMap byc))]) (fun _ _ hρ _ => r_call (args := [.slice (some ⟨B5, 0, none⟩) 2 2]) (enters_of Try.func38 (by kernel_rfl) rfl) (hρ _ _ rfl) ((cons2 (hρ _ _ rfl) rfl)) rfl) (fun w hm => (join_ok [(⟨(some ⟨B3, 0, none⟩), 1, [5#8]⟩ : RowG By), (⟨(some ⟨B4, 0, none⟩), 2, [6#8, 7#8]⟩ : RowG By)] (some ⟨B5, 0, none⟩) 2 w ⟨Nat.le_of_ble_eq_true rfl, (fun e => by cases e), .inr ⟨_, 0, _, _, _, rfl, (hm.at 5 rfl), row_of_take (fun _ => rfl) rfl⟩⟩ (Nat.le_of_ble_eq_true rfl) (List.forall_mem_cons.2 ⟨⟨⟨Nat.le_of_ble_eq_true rfl, (fun e => by cases e), .inr ⟨_, 0, _, _, _, rfl, (hm.at 3 rfl), row_of_take (fun _ => rfl) rfl⟩⟩, (Nat.le_of_ble_eq_true rfl)⟩, (List.forall_mem_cons.2 ⟨⟨⟨Nat.le_of_ble_eq_true rfl, (fun e => by cases e), .inr ⟨_, 0, _, _, _, rfl, (hm.at 4 rfl), row_of_take (fun _ => rfl) rfl⟩⟩, (Nat.le_of_ble_eq_true rfl)⟩, (fun _ h => nomatch h)⟩)⟩) (Nat.le_of_ble_eq_true rfl) (show ∀ r ∈ [(⟨(some ⟨B3, 0, none⟩), 1, [5#8]⟩ : RowG By), (⟨(some ⟨B4, 0, none⟩), 2, [6#8, 7#8]⟩ : RowG By)], r.l.length ≤ 65536 from List.forall_mem_cons.2 ⟨(show 1 ≤ 65536 by decide), List.forall_mem_cons.2 ⟨(show 2 ≤ 65536 by decide), fun _ h => nomatch h⟩⟩)).mono fun e w' ⟨a', cap', he, hb, hr⟩ => ⟨(a', cap'), trivial, he, hb, newOk1 6 hr⟩) rfl rfl rfl (w_n rfl) ?_
  rintro ⟨ar6, cr6⟩ -
  refine TL_q (.tuple #[.slice ar6 ((joinP WJ).length) cr6, .int .i64 0]) (fun _ _ hρ _ => r_move (hρ _ _ rfl)) rfl rfl rfl (w_n rfl) ?_
  refine TL_q (.slice ar6 ((joinP WJ).length) cr6) (fun _ _ hρ _ => r_extract (hρ _ _ rfl) rfl) rfl rfl rfl (w_n rfl) ?_
  refine TL_q (.int .i64 0) (fun _ _ hρ _ => r_extract (hρ _ _ rfl) rfl) rfl rfl rfl (w_n rfl) ?_
  refine TL_q (.slice ar6 ((joinP WJ).length) cr6) (fun _ _ hρ _ => r_assign (hρ _ _ rfl)) rfl rfl rfl (w_n rfl) ?_
  refine TL_q (.int .i64 0) (fun _ _ hρ _ => r_assign (hρ _ _ rfl)) rfl rfl rfl (w_n rfl) ?_
  refine TL_seq ?_
  refine T_seq ?_
  refine T_seq (T_region ?_)
  refine TL_q (.int .i64 0) (fun _ _ hρ _ => r_move (hρ _ _ rfl)) rfl rfl rfl (w_n rfl) ?_
  refine TL_q (.bool false) (fun _ _ hρ _ => r_as (r_neq (hρ _ _ rfl) (hρ _ _ rfl)) (by rfl)) rfl rfl rfl (w_n rfl) ?_
  refine TL_q (.bool false) (fun _ _ hρ _ => r_move (hρ _ _ rfl)) rfl rfl rfl (w_n rfl) ?_
  refine TL_q (.int .i64 0) (fun _ _ hρ _ => r_move (hρ _ _ rfl)) rfl rfl rfl (want_y 34 rfl rfl rfl) ?_
  refine TL_q (.bool false) (fun _ _ hρ _ => r_as (r_neq (hρ _ _ rfl) (hρ _ _ rfl)) (by rfl)) rfl rfl rfl (want_y 34 rfl rfl rfl) ?_
  refine TL_q (.bool false) (fun _ _ hρ _ => r_pick_f (hρ _ _ rfl) (hρ _ _ rfl)) rfl rfl rfl (w_n rfl) ?_
  refine TL_q (.bool false) (fun _ _ hρ _ => r_move (hρ _ _ rfl)) rfl rfl rfl (w_n rfl) ?_
  refine TL_q (.slice ar2 ((recP [5#8, 6#8]).length) cr2) (fun _ _ hρ _ => r_move (hρ _ _ rfl)) rfl rfl rfl (want_y 38 rfl rfl rfl) ?_
  refine TL_q (.int .i64 (((recP [5#8, 6#8]).length : Nat) : Int)) (fun _ _ hρ _ => r_len sl34 (hρ _ _ rfl)) rfl rfl rfl (want_y 38 rfl rfl rfl) ?_
  refine TL_q (.bool false) (fun _ _ hρ _ => r_as (r_neq (hρ _ _ rfl) (hρ _ _ rfl)) (bool_as (by rw [decide_eq_true (by omega)]; rfl))) rfl rfl rfl (want_y 38 rfl rfl rfl) ?_
  refine TL_q (.bool false) (fun _ _ hρ _ => r_pick_f (hρ _ _ rfl) (hρ _ _ rfl)) rfl rfl rfl (w_n rfl) ?_
  refine TL_q (.bool false) (fun _ _ hρ _ => r_move (hρ _ _ rfl)) rfl rfl rfl (w_n rfl) ?_
  refine TL_q (.slice ar6 ((joinP WJ).length) cr6) (fun _ _ hρ _ => r_move (hρ _ _ rfl)) rfl rfl rfl (want_y 43 rfl rfl rfl) ?_
  refine TL_q (.int .i64 (((joinP WJ).length : Nat) : Int)) (fun _ _ hρ _ => r_len sl34 (hρ _ _ rfl)) rfl rfl rfl (want_y 43 rfl rfl rfl) ?_
  refine TL_q (.bool false) (fun _ _ hρ _ => r_as (r_neq (hρ _ _ rfl) (hρ _ _ rfl)) (bool_as (by rw [decide_eq_true (by omega)]; rfl))) rfl rfl rfl (want_y 43 rfl rfl rfl) ?_
  refine TL_q (.bool false) (fun _ _ hρ _ => r_pick_f (hρ _ _ rfl) (hρ _ _ rfl)) rfl rfl rfl (w_n rfl) ?_
  refine TL_seq ?_
  refine T_sub [(0, .bool false), (3, .slice ar6 ((joinP WJ).length) cr6), (47, .bool false)] [(6, .row (.slice ar6 ((joinP WJ).length) cr6) 5 1 ((joinP WJ).length) ((joinP WJ).flatMap byc)), (2, .row (.slice ar2 ((recP [5#8, 6#8]).length) cr2) 5 1 ((recP [5#8, 6#8]).length) ((recP [5#8, 6#8]).flatMap byc)), (1, .blk B1 (.cells #[.int .u8 5, .int .u8 6] 5)), (3, .blk B3 (.cells #[.int .u8 5] 5)), (4, .blk B4 (.cells #[.int .u8 6, .int .u8 7] 5)), (5, .blk B5 (.cells #[.slice (some ⟨B3, 0, none⟩) 1 1, .slice (some ⟨B4, 0, none⟩) 2 2] 34))] (sub_cons rfl (sub_cons rfl (sub_cons rfl sub_nil))) (sub_cons rfl (sub_cons rfl (sub_cons rfl (sub_cons rfl (sub_cons rfl (sub_cons rfl sub_nil)))))) ?_
  refine T_cond_f rfl ?_
  refine T_skip' ?_
  refine p_seq ?_
  refine T_rowcap 6 rfl (fun hrc5 => ?_)
  refine T_seq (T_region ?_)
  refine TL_q (.slice ar6 ((joinP WJ).length) cr6) (fun _ _ hρ _ => r_move (hρ _ _ rfl)) rfl rfl rfl (w_n rfl) ?_
  obtain ⟨l7, hl7, hn7⟩ : ∃ lz, lz = (joinP WJ).take 18 ∧ lz.length = 18 := ⟨_, rfl, by rw [List.length_take]; omega⟩
  refine TL_q (.slice ar6 l7.length cr6) (fun ρ _ hρ _ => r_as (r_sliceO sl34 sz5 (hρ _ _ rfl) (bd_none ρ _) (bd_some (n := 18) (hρ _ _ rfl)) (bd_none ρ _) (by simp) (by omega) (by omega) (by omega)) (by rw [hn7]; exact slo_zero _ _ _ _)) rfl rfl rfl (w_n rfl) ?_
  refine TL_callN (fun ((na8, nc8, nl8) : Option Addr × Nat × List (RowG By)) => rls nl8 = heldsV l7) (fun (na8, nc8, nl8) => .tuple #[.slice na8 nl8.length nc8, .int .i64 ((sizeV l7 : Nat) : Int)]) (fun (na8, nc8, nl8) => [(7, .row (.slice na8 nl8.length nc8) 34 1 nl8.length (nl8.flatMap RowG.cells)), (8, .pool 5 1 byc nl8)]) (fun _ _ hρ _ => r_call (args := [.slice ar6 l7.length cr6]) (enters_of Try.func46 (by kernel_rfl) rfl) (hρ _ _ rfl) ((cons2 (hρ _ _ rfl) rfl)) rfl) (fun w hm => (scan_c l7 ar6 cr6 w (by have hs := SliceAt.front (l := (joinP WJ)) (SliceAt.own byc_len (hm.row 6 rfl) rfl rfl) (n := 18) (m := cr6) (by omega) (by omega) (by omega); rw [← hl7] at hs; exact hs) (row_cap (hm.row 6 rfl)) (by omega)).mono fun e w' ⟨n, hf, he, hb, r1, r2, hs⟩ => ⟨(n.a, n.cap, n.l), hf, he, hb, newOk2 7 8 r1 r2 hs⟩) rfl rfl rfl (w_n rfl) ?_
  rintro ⟨na8, nc8, nl8⟩ hsc8
  refine TL_q (.tuple #[.slice na8 nl8.length nc8, .int .i64 ((sizeV l7 : Nat) : Int)]) (fun _ _ hρ _ => r_move (hρ _ _ rfl)) rfl rfl rfl (w_n rfl) ?_
  refine TL_q (.slice na8 nl8.length nc8) (fun _ _ hρ _ => r_extract (hρ _ _ rfl) rfl) rfl rfl rfl (w_n rfl) ?_
  refine TL_q (.int .i64 ((sizeV l7 : Nat) : Int)) (fun _ _ hρ _ => r_extract (hρ _ _ rfl) rfl) rfl rfl rfl (w_n rfl) ?_
  refine TL_q (.slice na8 nl8.length nc8) (fun _ _ hρ _ => r_assign (hρ _ _ rfl)) rfl rfl rfl (w_n rfl) ?_
  refine TL_q (.int .i64 ((sizeV l7 : Nat) : Int)) (fun _ _ hρ _ => r_assign (hρ _ _ rfl)) rfl rfl rfl (w_n rfl) ?_
  refine TL_seq ?_
  refine T_seq (T_region ?_)
  refine TL_new 9 (.cells #[.int .u8 0, .int .u8 0, .int .u8 0] 5) (fun B => .slice (some ⟨B, 0, none⟩) 3 3) (fun _ _ hρ _ => r_buildSlice (vs := [(0, .int .u8 0), (1, .int .u8 0), (2, .int .u8 0)]) (by kernel_rfl) (cons2 (pair2 (hρ _ _ rfl)) (cons2 (pair2 (hρ _ _ rfl)) (cons2 (pair2 (hρ _ _ rfl)) rfl)))) rfl rfl rfl (w_n rfl) ?_
  intro B9
  refine TL_callN (fun (_ : Option Addr × Nat) => True) (fun (ar10, cr10) => .tuple #[.slice ar10 (([] : List By).length) cr10, .int .i64 0, .int .i64 110]) (fun (ar10, cr10) => [(10, .row (.slice ar10 (([] : List By).length) cr10) 5 1 (([] : List By).length) (([] : List By).flatMap byc))]) (fun _ _ hρ _ => r_call (args := [.slice (some ⟨B9, 0, none⟩) 3 3]) (enters_of Try.func52 (by kernel_rfl) rfl) (hρ _ _ rfl) ((cons2 (hρ _ _ rfl) rfl)) rfl) (fun w hm => (jfirst_p [0#8, 0#8, 0#8] (some ⟨B9, 0, none⟩) 3 w ⟨Nat.le_of_ble_eq_true rfl, (fun e => by cases e), .inr ⟨_, 0, _, _, _, rfl, (hm.at 9 rfl), row_of_take (fun _ => rfl) rfl⟩⟩ (Nat.le_of_ble_eq_true rfl) (by rw [wk_f1]; decide)).mono fun e w' ⟨a', cap', he, hb, hr⟩ => ⟨(a', cap'), trivial, he.trans (by rw [wk_f1]), hb, newOk1 10 hr⟩) rfl rfl rfl (w_n rfl) ?_
  rintro ⟨ar10, cr10⟩ -
  refine TL_q (.tuple #[.slice ar10 (([] : List By).length) cr10, .int .i64 0, .int .i64 110]) (fun _ _ hρ _ => r_move (hρ _ _ rfl)) rfl rfl rfl (w_n rfl) ?_
  refine TL_q (.slice ar10 (([] : List By).length) cr10) (fun _ _ hρ _ => r_extract (hρ _ _ rfl) rfl) rfl rfl rfl (w_n rfl) ?_
  refine TL_q (.int .i64 0) (fun _ _ hρ _ => r_extract (hρ _ _ rfl) rfl) rfl rfl rfl (w_n rfl) ?_
  refine TL_q (.int .i64 110) (fun _ _ hρ _ => r_extract (hρ _ _ rfl) rfl) rfl rfl rfl (w_n rfl) ?_
  refine TL_q (.slice ar10 (([] : List By).length) cr10) (fun _ _ hρ _ => r_assign (hρ _ _ rfl)) rfl rfl rfl (w_n rfl) ?_
  refine TL_q (.int .i64 0) (fun _ _ hρ _ => r_assign (hρ _ _ rfl)) rfl rfl rfl (w_n rfl) ?_
  refine TL_q (.int .i64 110) (fun _ _ hρ _ => r_assign (hρ _ _ rfl)) rfl rfl rfl (w_n rfl) ?_
  refine TL_seq ?_
  refine T_seq (T_region ?_)
  refine TL_new 11 (.cells #[.int .u8 0, .int .u8 1, .int .u8 0, .int .u8 1] 5) (fun B => .slice (some ⟨B, 0, none⟩) 4 4) (fun _ _ hρ _ => r_buildSlice (vs := [(0, .int .u8 0), (1, .int .u8 1), (2, .int .u8 0), (3, .int .u8 1)]) (by kernel_rfl) (cons2 (pair2 (hρ _ _ rfl)) (cons2 (pair2 (hρ _ _ rfl)) (cons2 (pair2 (hρ _ _ rfl)) (cons2 (pair2 (hρ _ _ rfl)) rfl))))) rfl rfl rfl (w_n rfl) ?_
  intro B11
  refine TL_callN (fun (_ : Option Addr × Nat) => True) (fun (ar12, cr12) => .tuple #[.slice ar12 (([] : List By).length) cr12, .int .i64 0, .int .i64 3]) (fun (ar12, cr12) => [(12, .row (.slice ar12 (([] : List By).length) cr12) 5 1 (([] : List By).length) (([] : List By).flatMap byc))]) (fun _ _ hρ _ => r_call (args := [.slice (some ⟨B11, 0, none⟩) 4 4]) (enters_of Try.func52 (by kernel_rfl) rfl) (hρ _ _ rfl) ((cons2 (hρ _ _ rfl) rfl)) rfl) (fun w hm => (jfirst_p [0#8, 1#8, 0#8, 1#8] (some ⟨B11, 0, none⟩) 4 w ⟨Nat.le_of_ble_eq_true rfl, (fun e => by cases e), .inr ⟨_, 0, _, _, _, rfl, (hm.at 11 rfl), row_of_take (fun _ => rfl) rfl⟩⟩ (Nat.le_of_ble_eq_true rfl) (by rw [wk_f2]; decide)).mono fun e w' ⟨a', cap', he, hb, hr⟩ => ⟨(a', cap'), trivial, he.trans (by rw [wk_f2]), hb, newOk1 12 hr⟩) rfl rfl rfl (w_n rfl) ?_
  rintro ⟨ar12, cr12⟩ -
  refine TL_q (.tuple #[.slice ar12 (([] : List By).length) cr12, .int .i64 0, .int .i64 3]) (fun _ _ hρ _ => r_move (hρ _ _ rfl)) rfl rfl rfl (w_n rfl) ?_
  refine TL_q (.slice ar12 (([] : List By).length) cr12) (fun _ _ hρ _ => r_extract (hρ _ _ rfl) rfl) rfl rfl rfl (w_n rfl) ?_
  refine TL_q (.int .i64 0) (fun _ _ hρ _ => r_extract (hρ _ _ rfl) rfl) rfl rfl rfl (w_n rfl) ?_
  refine TL_q (.int .i64 3) (fun _ _ hρ _ => r_extract (hρ _ _ rfl) rfl) rfl rfl rfl (w_n rfl) ?_
  refine TL_q (.slice ar12 (([] : List By).length) cr12) (fun _ _ hρ _ => r_assign (hρ _ _ rfl)) rfl rfl rfl (w_n rfl) ?_
  refine TL_q (.int .i64 0) (fun _ _ hρ _ => r_assign (hρ _ _ rfl)) rfl rfl rfl (w_n rfl) ?_
  refine TL_q (.int .i64 3) (fun _ _ hρ _ => r_assign (hρ _ _ rfl)) rfl rfl rfl (w_n rfl) ?_
  refine TL_seq ?_
  refine T_seq (T_region ?_)
  refine TL_new 13 (.cells #[.int .u8 0, .int .u8 0, .int .u8 0, .int .u8 0, .int .u8 1, .int .u8 1, .int .u8 1, .int .u8 1] 5) (fun B => .slice (some ⟨B, 0, none⟩) 8 8) (fun _ _ hρ _ => r_buildSlice (vs := [(0, .int .u8 0), (1, .int .u8 0), (2, .int .u8 0), (3, .int .u8 0), (4, .int .u8 1), (5, .int .u8 1), (6, .int .u8 1), (7, .int .u8 1)]) (by kernel_rfl) (cons2 (pair2 (hρ _ _ rfl)) (cons2 (pair2 (hρ _ _ rfl)) (cons2 (pair2 (hρ _ _ rfl)) (cons2 (pair2 (hρ _ _ rfl)) (cons2 (pair2 (hρ _ _ rfl)) (cons2 (pair2 (hρ _ _ rfl)) (cons2 (pair2 (hρ _ _ rfl)) (cons2 (pair2 (hρ _ _ rfl)) rfl))))))))) rfl rfl rfl (w_n rfl) ?_
  intro B13
  refine TL_callN (fun (_ : Option Addr × Nat) => True) (fun (ar14, cr14) => .tuple #[.slice ar14 (([] : List By).length) cr14, .int .i64 0, .int .i64 120]) (fun (ar14, cr14) => [(14, .row (.slice ar14 (([] : List By).length) cr14) 5 1 (([] : List By).length) (([] : List By).flatMap byc))]) (fun _ _ hρ _ => r_call (args := [.slice (some ⟨B13, 0, none⟩) 8 8]) (enters_of Try.func52 (by kernel_rfl) rfl) (hρ _ _ rfl) ((cons2 (hρ _ _ rfl) rfl)) rfl) (fun w hm => (jfirst_p [0#8, 0#8, 0#8, 0#8, 1#8, 1#8, 1#8, 1#8] (some ⟨B13, 0, none⟩) 8 w ⟨Nat.le_of_ble_eq_true rfl, (fun e => by cases e), .inr ⟨_, 0, _, _, _, rfl, (hm.at 13 rfl), row_of_take (fun _ => rfl) rfl⟩⟩ (Nat.le_of_ble_eq_true rfl) (by rw [wk_f3]; decide)).mono fun e w' ⟨a', cap', he, hb, hr⟩ => ⟨(a', cap'), trivial, he.trans (by rw [wk_f3]), hb, newOk1 14 hr⟩) rfl rfl rfl (w_n rfl) ?_
  rintro ⟨ar14, cr14⟩ -
  refine TL_q (.tuple #[.slice ar14 (([] : List By).length) cr14, .int .i64 0, .int .i64 120]) (fun _ _ hρ _ => r_move (hρ _ _ rfl)) rfl rfl rfl (w_n rfl) ?_
  refine TL_q (.slice ar14 (([] : List By).length) cr14) (fun _ _ hρ _ => r_extract (hρ _ _ rfl) rfl) rfl rfl rfl (w_n rfl) ?_
  refine TL_q (.int .i64 0) (fun _ _ hρ _ => r_extract (hρ _ _ rfl) rfl) rfl rfl rfl (w_n rfl) ?_
  refine TL_q (.int .i64 120) (fun _ _ hρ _ => r_extract (hρ _ _ rfl) rfl) rfl rfl rfl (w_n rfl) ?_
  refine TL_q (.slice ar14 (([] : List By).length) cr14) (fun _ _ hρ _ => r_assign (hρ _ _ rfl)) rfl rfl rfl (w_n rfl) ?_
  refine TL_q (.int .i64 0) (fun _ _ hρ _ => r_assign (hρ _ _ rfl)) rfl rfl rfl (w_n rfl) ?_
  refine TL_q (.int .i64 120) (fun _ _ hρ _ => r_assign (hρ _ _ rfl)) rfl rfl rfl (w_n rfl) ?_
  refine TL_seq ?_
  refine T_sub [(0, .bool false), (3, .slice ar6 ((joinP WJ).length) cr6), (5, .slice na8 nl8.length nc8), (6, .int .i64 ((sizeV l7 : Nat) : Int)), (9, .int .i64 110), (12, .int .i64 3), (15, .int .i64 120)] [(14, .row (.slice ar14 (([] : List By).length) cr14) 5 1 (([] : List By).length) (([] : List By).flatMap byc)), (12, .row (.slice ar12 (([] : List By).length) cr12) 5 1 (([] : List By).length) (([] : List By).flatMap byc)), (10, .row (.slice ar10 (([] : List By).length) cr10) 5 1 (([] : List By).length) (([] : List By).flatMap byc)), (7, .row (.slice na8 nl8.length nc8) 34 1 nl8.length (nl8.flatMap RowG.cells)), (8, .pool 5 1 byc nl8), (6, .row (.slice ar6 ((joinP WJ).length) cr6) 5 1 ((joinP WJ).length) ((joinP WJ).flatMap byc)), (2, .row (.slice ar2 ((recP [5#8, 6#8]).length) cr2) 5 1 ((recP [5#8, 6#8]).length) ((recP [5#8, 6#8]).flatMap byc)), (1, .blk B1 (.cells #[.int .u8 5, .int .u8 6] 5)), (3, .blk B3 (.cells #[.int .u8 5] 5)), (4, .blk B4 (.cells #[.int .u8 6, .int .u8 7] 5)), (5, .blk B5 (.cells #[.slice (some ⟨B3, 0, none⟩) 1 1, .slice (some ⟨B4, 0, none⟩) 2 2] 34)), (9, .blk B9 (.cells #[.int .u8 0, .int .u8 0, .int .u8 0] 5)), (11, .blk B11 (.cells #[.int .u8 0, .int .u8 1, .int .u8 0, .int .u8 1] 5)), (13, .blk B13 (.cells #[.int .u8 0, .int .u8 0, .int .u8 0, .int .u8 0, .int .u8 1, .int .u8 1, .int .u8 1, .int .u8 1] 5))] (sub_cons rfl (sub_cons rfl (sub_cons rfl (sub_cons rfl (sub_cons rfl (sub_cons rfl (sub_cons rfl sub_nil))))))) (sub_cons rfl (sub_cons rfl (sub_cons rfl (sub_cons rfl (sub_cons rfl (sub_cons rfl (sub_cons rfl (sub_cons rfl (sub_cons rfl (sub_cons rfl (sub_cons rfl (sub_cons rfl (sub_cons rfl (sub_cons rfl sub_nil)))))))))))))) ?_
  refine T_seq (T_region ?_)
  refine TL_q (.slice ar6 ((joinP WJ).length) cr6) (fun _ _ hρ _ => r_move (hρ _ _ rfl)) rfl rfl rfl (w_n rfl) ?_
  refine TL_callN (fun (_ : Option Addr × Nat) => True) (fun (ar15, cr15) => .slice ar15 ((joinP WJ).length) cr15) (fun (ar15, cr15) => [(15, .row (.slice ar15 ((joinP WJ).length) cr15) 5 1 ((joinP WJ).length) ((joinP WJ).flatMap byc))]) (fun _ _ hρ _ => r_call (args := [.slice ar6 ((joinP WJ).length) cr6]) (enters_of Try.func37 (by kernel_rfl) rfl) (hρ _ _ rfl) ((cons2 (hρ _ _ rfl) rfl)) rfl) (fun w hm => (clone_b byc byc_len byc_one (joinP WJ) ar6 cr6 w (SliceAt.own byc_len (hm.row 6 rfl) rfl rfl) (by omega)).mono fun e w' ⟨a', cap', he, hb, hr⟩ => ⟨(a', cap'), trivial, he, hb, newOk1 15 hr⟩) rfl rfl rfl (w_n rfl) ?_
  rintro ⟨ar15, cr15⟩ -
  refine TL_new 16 (.cells #[.int .u8 0] 5) (fun B => .slice (some ⟨B, 0, none⟩) 1 1) (fun _ _ hρ _ => r_buildSlice (vs := [(0, .int .u8 0)]) (by kernel_rfl) (cons2 (pair2 (hρ _ _ rfl)) rfl)) rfl rfl rfl (w_n rfl) ?_
  intro B16
  refine TL_append (n := (joinP WJ).length) (m := 1) (xs := ((joinP WJ).flatMap byc)) (news := [.int .u8 0]) (z := .int .u8 0) 15 rfl rfl rfl sl34 sz5 by5 (by kernel_rfl) rfl rfl (.inl rfl) (fun _ hm => src_blk (news := [.int .u8 0]) (hm.at 16 rfl) rfl) (by simp [Value.oneCell']) (by omega) (by omega) rfl (w_n rfl) ?_
  intro a17 cap17
  have hn18 : ((joinP WJ).length + 1) = (joinP WJ ++ [0#8]).length := by rw [List.length_append]; rfl
  have hx18 : (((joinP WJ).flatMap byc) ++ [.int .u8 0]) = (joinP WJ ++ [0#8]).flatMap byc := by rw [List.flatMap_append]; rfl
  rw [hx18, hn18]
  refine TL_call (.tuple #[.int .i64 19, .int .i64 110]) (fun _ _ hρ _ => r_call (args := [.slice a17 ((joinP WJ ++ [0#8]).length) cap17]) (enters_of Try.func47 (by kernel_rfl) rfl) (hρ _ _ rfl) ((cons2 (hρ _ _ rfl) rfl)) rfl) (fun w hm => (why_c (joinP WJ ++ [0#8]) a17 cap17 w (SliceAt.own byc_len (hm.row 15 rfl) rfl rfl) (row_cap (hm.row 15 rfl)) (by rw [List.length_append, wk_len]; decide)).mono fun _ _ h => ⟨h.1.trans (by rw [show sizeV (joinP WJ ++ [0#8]) = 19 from wk_more.1, show whyE (joinP WJ ++ [0#8]) = 110 from wk_more.2]; rfl), h.2⟩) rfl rfl rfl (w_n rfl) ?_
  refine TL_q (.tuple #[.int .i64 19, .int .i64 110]) (fun _ _ hρ _ => r_move (hρ _ _ rfl)) rfl rfl rfl (w_n rfl) ?_
  refine TL_q (.int .i64 19) (fun _ _ hρ _ => r_extract (hρ _ _ rfl) rfl) rfl rfl rfl (w_n rfl) ?_
  refine TL_q (.int .i64 110) (fun _ _ hρ _ => r_extract (hρ _ _ rfl) rfl) rfl rfl rfl (w_n rfl) ?_
  refine TL_q (.int .i64 19) (fun _ _ hρ _ => r_assign (hρ _ _ rfl)) rfl rfl rfl (w_n rfl) ?_
  refine TL_q (.int .i64 110) (fun _ _ hρ _ => r_assign (hρ _ _ rfl)) rfl rfl rfl (w_n rfl) ?_
  refine TL_seq ?_
  refine T_seq (T_region ?_)
  refine TL_q (.slice ar6 ((joinP WJ).length) cr6) (fun _ _ hρ _ => r_move (hρ _ _ rfl)) rfl rfl rfl (w_n rfl) ?_
  obtain ⟨l19, hl19, hn19⟩ : ∃ lz, lz = (joinP WJ).take 18 ∧ lz.length = 18 := ⟨_, rfl, by rw [List.length_take]; omega⟩
  refine TL_q (.slice ar6 l19.length cr6) (fun ρ _ hρ _ => r_as (r_sliceO sl34 sz5 (hρ _ _ rfl) (bd_none ρ _) (bd_some (n := 18) (hρ _ _ rfl)) (bd_none ρ _) (by simp) (by omega) (by omega) (by omega)) (by rw [hn19]; exact slo_zero _ _ _ _)) rfl rfl rfl (w_n rfl) ?_
  refine TL_call (.tuple #[.slice none 0 0, .int .i64 2]) (fun _ _ hρ _ => r_call (args := [.slice ar6 l19.length cr6, .slice none 0 0]) (enters_of Try.func43 (by kernel_rfl) rfl) (hρ _ _ rfl) ((cons2 (hρ _ _ rfl) (cons2 (hρ _ _ rfl) rfl))) rfl) (fun w hm => app_arg l19 ar6 cr6 w (by have hs := SliceAt.front (l := (joinP WJ)) (SliceAt.own byc_len (hm.row 6 rfl) rfl rfl) (n := 18) (m := cr6) (by omega) (by omega) (by omega); rw [← hl19] at hs; exact hs) (row_cap (hm.row 6 rfl)) [] none 0 (sliceNil w) (by decide) (fun _ h => nomatch h) (by omega) (by decide) (by rw [hl19]; exact wk_torn.2.2)) rfl rfl rfl (w_n rfl) ?_
  refine TL_q (.tuple #[.slice none 0 0, .int .i64 2]) (fun _ _ hρ _ => r_move (hρ _ _ rfl)) rfl rfl rfl (w_n rfl) ?_
  refine TL_q (.slice none 0 0) (fun _ _ hρ _ => r_extract (hρ _ _ rfl) rfl) rfl rfl rfl (w_n rfl) ?_
  refine TL_q (.int .i64 2) (fun _ _ hρ _ => r_extract (hρ _ _ rfl) rfl) rfl rfl rfl (w_n rfl) ?_
  refine TL_q (.slice none 0 0) (fun _ _ hρ _ => r_assign (hρ _ _ rfl)) rfl rfl rfl (w_n rfl) ?_
  refine TL_q (.int .i64 2) (fun _ _ hρ _ => r_assign (hρ _ _ rfl)) rfl rfl rfl (w_n rfl) ?_
  refine TL_seq ?_
  have hs1 : rls nl8 = [[5#8]] := by rw [hsc8, hl7]; exact wk_torn.1
  have hs2 : sizeV l7 = 9 := by rw [hl7]; exact wk_torn.2.1
  have hs3 : nl8.length = 1 := by have := congrArg List.length hs1; rw [rls_len] at this; exact this
  obtain ⟨p, hp⟩ : ∃ x, nl8[0]? = some x := ⟨_, List.getElem?_eq_getElem (by omega)⟩
  have hpl : p.l = [5#8] := by have := congrArg (fun z => z[0]?) hs1; simp only [List.getElem?_map, hp] at this; exact Option.some.inj this
  have hpm := List.mem_of_getElem? hp
  have hpb : p.l.length ≤ 10 := by rw [hpl]; decide
  refine T_row 7 rfl (by omega) (fun g20 ha20 => ?_)
  subst ha20
  refine T_rowcap 7 rfl (fun hrc20 => ?_)
  refine T_seq (T_region ?_)
  refine TL_q (.slice (some ⟨g20, 0, none⟩) nl8.length nc8) (fun _ _ hρ _ => r_move (hρ _ _ rfl)) rfl rfl rfl (w_n rfl) ?_
  refine TL_q (.int .i64 ((nl8.length : Nat) : Int)) (fun _ _ hρ _ => r_len sl63 (hρ _ _ rfl)) rfl rfl rfl (w_n rfl) ?_
  refine TL_q (.bool true) (fun _ _ hρ _ => r_as (r_eql (hρ _ _ rfl) (hρ _ _ rfl)) (bool_as (decide_eq_true (by omega)))) rfl rfl rfl (w_n rfl) ?_
  refine TL_q (.bool true) (fun _ _ hρ _ => r_move (hρ _ _ rfl)) rfl rfl rfl (w_n rfl) ?_
  refine TL_q (.slice (some ⟨g20, 0, none⟩) nl8.length nc8) (fun _ _ hρ _ => r_move (hρ _ _ rfl)) rfl rfl rfl (want_y 89 rfl rfl rfl) ?_
  refine TL_q (.pointer (some ⟨g20, 0, none⟩)) (fun _ _ hρ _ => r_indexAddrS (i := 0) sl63 sz34 (hρ _ _ rfl) (hρ _ _ rfl) (by omega)) rfl rfl rfl (want_y 89 rfl rfl rfl) ?_
  refine TL_q (.slice p.a p.l.length p.cap) (fun _ _ hρ hm => r_loadOwn1 (f := RowG.cells) (u := p) (l := nl8) (i := 0) (s := 1) ag34 (hρ _ _ rfl) (hm.row 7 rfl) rfl rfl RowG.cells_len hp rfl) rfl rfl rfl (want_y 89 rfl rfl rfl) ?_
  refine TL_new 17 (.cells #[.int .u8 5] 5) (fun B => .slice (some ⟨B, 0, none⟩) 1 1) (fun _ _ hρ _ => r_buildSlice (vs := [(0, .int .u8 5)]) (by kernel_rfl) (cons2 (pair2 (hρ _ _ rfl)) rfl)) rfl rfl rfl (want_y 89 rfl rfl rfl) ?_
  intro B21
  refine TL_call (.bool true) (fun _ _ hρ _ => r_call (args := [.slice p.a p.l.length p.cap, .slice (some ⟨B21, 0, none⟩) 1 1]) (enters_of Try.func16 (by kernel_rfl) rfl) (hρ _ _ rfl) ((cons2 (hρ _ _ rfl) (cons2 (hρ _ _ rfl) rfl))) rfl) (fun w hm => (equal_b p.l [5#8] p.a (some ⟨B21, 0, none⟩) p.cap 1 w (poolAt byc_len (hm.pool 8 rfl) hpm) ⟨Nat.le_of_ble_eq_true rfl, (fun e => by cases e), .inr ⟨_, 0, _, _, _, rfl, (hm.at 17 rfl), row_of_take (fun _ => rfl) rfl⟩⟩ (by omega) (Nat.le_of_ble_eq_true rfl)).mono fun _ _ h => ⟨h.1.trans (congrArg Ending.returned (bool_as (decide_eq_true hpl))), h.2⟩) rfl rfl rfl (want_y 89 rfl rfl rfl) ?_
  refine TL_q (.bool true) (fun _ _ hρ _ => r_pick_t (hρ _ _ rfl) (hρ _ _ rfl)) rfl rfl rfl (w_n rfl) ?_
  refine TL_q (.bool true) (fun _ _ hρ _ => r_move (hρ _ _ rfl)) rfl rfl rfl (w_n rfl) ?_
  refine TL_q (.int .i64 ((sizeV l7 : Nat) : Int)) (fun _ _ hρ _ => r_move (hρ _ _ rfl)) rfl rfl rfl (want_y 96 rfl rfl rfl) ?_
  refine TL_q (.bool true) (fun _ _ hρ _ => r_as (r_eql (hρ _ _ rfl) (hρ _ _ rfl)) (bool_as (decide_eq_true (by omega)))) rfl rfl rfl (want_y 96 rfl rfl rfl) ?_
  refine TL_q (.bool true) (fun _ _ hρ _ => r_pick_t (hρ _ _ rfl) (hρ _ _ rfl)) rfl rfl rfl (w_n rfl) ?_
  refine TL_q (.bool true) (fun _ _ hρ _ => r_move (hρ _ _ rfl)) rfl rfl rfl (w_n rfl) ?_
  refine TL_q (.int .i64 110) (fun _ _ hρ _ => r_move (hρ _ _ rfl)) rfl rfl rfl (want_y 100 rfl rfl rfl) ?_
  refine TL_q (.bool true) (fun _ _ hρ _ => r_as (r_eql (hρ _ _ rfl) (hρ _ _ rfl)) (by rfl)) rfl rfl rfl (want_y 100 rfl rfl rfl) ?_
  refine TL_q (.bool true) (fun _ _ hρ _ => r_pick_t (hρ _ _ rfl) (hρ _ _ rfl)) rfl rfl rfl (w_n rfl) ?_
  refine TL_q (.bool true) (fun _ _ hρ _ => r_move (hρ _ _ rfl)) rfl rfl rfl (w_n rfl) ?_
  refine TL_q (.int .i64 3) (fun _ _ hρ _ => r_move (hρ _ _ rfl)) rfl rfl rfl (want_y 104 rfl rfl rfl) ?_
  refine TL_q (.bool true) (fun _ _ hρ _ => r_as (r_eql (hρ _ _ rfl) (hρ _ _ rfl)) (by rfl)) rfl rfl rfl (want_y 104 rfl rfl rfl) ?_
  refine TL_q (.bool true) (fun _ _ hρ _ => r_pick_t (hρ _ _ rfl) (hρ _ _ rfl)) rfl rfl rfl (w_n rfl) ?_
  refine TL_q (.bool true) (fun _ _ hρ _ => r_move (hρ _ _ rfl)) rfl rfl rfl (w_n rfl) ?_
  refine TL_q (.int .i64 120) (fun _ _ hρ _ => r_move (hρ _ _ rfl)) rfl rfl rfl (want_y 108 rfl rfl rfl) ?_
  refine TL_q (.bool true) (fun _ _ hρ _ => r_as (r_eql (hρ _ _ rfl) (hρ _ _ rfl)) (by rfl)) rfl rfl rfl (want_y 108 rfl rfl rfl) ?_
  refine TL_q (.bool true) (fun _ _ hρ _ => r_pick_t (hρ _ _ rfl) (hρ _ _ rfl)) rfl rfl rfl (w_n rfl) ?_
  refine TL_q (.bool true) (fun _ _ hρ _ => r_move (hρ _ _ rfl)) rfl rfl rfl (w_n rfl) ?_
  refine TL_q (.int .i64 19) (fun _ _ hρ _ => r_move (hρ _ _ rfl)) rfl rfl rfl (want_y 112 rfl rfl rfl) ?_
  refine TL_q (.bool true) (fun _ _ hρ _ => r_as (r_eql (hρ _ _ rfl) (hρ _ _ rfl)) (by rfl)) rfl rfl rfl (want_y 112 rfl rfl rfl) ?_
  refine TL_q (.bool true) (fun _ _ hρ _ => r_pick_t (hρ _ _ rfl) (hρ _ _ rfl)) rfl rfl rfl (w_n rfl) ?_
  refine TL_q (.bool true) (fun _ _ hρ _ => r_move (hρ _ _ rfl)) rfl rfl rfl (w_n rfl) ?_
  refine TL_q (.int .i64 110) (fun _ _ hρ _ => r_move (hρ _ _ rfl)) rfl rfl rfl (want_y 116 rfl rfl rfl) ?_
  refine TL_q (.bool true) (fun _ _ hρ _ => r_as (r_eql (hρ _ _ rfl) (hρ _ _ rfl)) (by rfl)) rfl rfl rfl (want_y 116 rfl rfl rfl) ?_
  refine TL_q (.bool true) (fun _ _ hρ _ => r_pick_t (hρ _ _ rfl) (hρ _ _ rfl)) rfl rfl rfl (w_n rfl) ?_
  refine TL_q (.bool true) (fun _ _ hρ _ => r_move (hρ _ _ rfl)) rfl rfl rfl (w_n rfl) ?_
  refine TL_q (.int .i64 2) (fun _ _ hρ _ => r_move (hρ _ _ rfl)) rfl rfl rfl (want_y 120 rfl rfl rfl) ?_
  refine TL_q (.bool true) (fun _ _ hρ _ => r_as (r_eql (hρ _ _ rfl) (hρ _ _ rfl)) (by rfl)) rfl rfl rfl (want_y 120 rfl rfl rfl) ?_
  refine TL_q (.bool true) (fun _ _ hρ _ => r_pick_t (hρ _ _ rfl) (hρ _ _ rfl)) rfl rfl rfl (w_n rfl) ?_
  refine TL_q (.bool true) (fun _ _ hρ _ => r_assign (hρ _ _ rfl)) rfl rfl rfl (w_n rfl) ?_
  refine TL_seq ?_
  refine T_sub [(0, .bool true)] [(15, .row (.slice a17 ((joinP WJ ++ [0#8]).length) cap17) 5 1 ((joinP WJ ++ [0#8]).length) ((joinP WJ ++ [0#8]).flatMap byc)), (14, .row (.slice ar14 (([] : List By).length) cr14) 5 1 (([] : List By).length) (([] : List By).flatMap byc)), (12, .row (.slice ar12 (([] : List By).length) cr12) 5 1 (([] : List By).length) (([] : List By).flatMap byc)), (10, .row (.slice ar10 (([] : List By).length) cr10) 5 1 (([] : List By).length) (([] : List By).flatMap byc)), (7, .row (.slice (some ⟨g20, 0, none⟩) nl8.length nc8) 34 1 nl8.length (nl8.flatMap RowG.cells)), (8, .pool 5 1 byc nl8), (6, .row (.slice ar6 ((joinP WJ).length) cr6) 5 1 ((joinP WJ).length) ((joinP WJ).flatMap byc)), (2, .row (.slice ar2 ((recP [5#8, 6#8]).length) cr2) 5 1 ((recP [5#8, 6#8]).length) ((recP [5#8, 6#8]).flatMap byc)), (1, .blk B1 (.cells #[.int .u8 5, .int .u8 6] 5)), (3, .blk B3 (.cells #[.int .u8 5] 5)), (4, .blk B4 (.cells #[.int .u8 6, .int .u8 7] 5)), (5, .blk B5 (.cells #[.slice (some ⟨B3, 0, none⟩) 1 1, .slice (some ⟨B4, 0, none⟩) 2 2] 34)), (9, .blk B9 (.cells #[.int .u8 0, .int .u8 0, .int .u8 0] 5)), (11, .blk B11 (.cells #[.int .u8 0, .int .u8 1, .int .u8 0, .int .u8 1] 5)), (13, .blk B13 (.cells #[.int .u8 0, .int .u8 0, .int .u8 0, .int .u8 0, .int .u8 1, .int .u8 1, .int .u8 1, .int .u8 1] 5)), (16, .blk B16 (.cells #[.int .u8 0] 5)), (17, .blk B21 (.cells #[.int .u8 5] 5))] (sub_cons rfl sub_nil) (sub_cons rfl (sub_cons rfl (sub_cons rfl (sub_cons rfl (sub_cons rfl (sub_cons rfl (sub_cons rfl (sub_cons rfl (sub_cons rfl (sub_cons rfl (sub_cons rfl (sub_cons rfl (sub_cons rfl (sub_cons rfl (sub_cons rfl (sub_cons rfl (sub_cons rfl sub_nil))))))))))))))))) ?_
  refine T_ret' ?_
  refine ret_of rfl (.bool true) (fun tmps w hk hm => res1 rfl (res_tmp (hk 0 _ rfl))) (fun w hm => ?_)
  exact ⟨rfl, hm.ext⟩
end Go.Proofs.Ytcidgbjgeegepaa
/- Things of one's own taken together. Over any program. -/
namespace Go.Proofs.Ytcidgbjgeegepaa
open Go Go.RowKit
section
variable {α : Type} (K : ShK α)
end
section
variable {α : Type} {K : ShK α} {w₀ w w' : World} {L : Heap} {l : List α} {d : α}
end
/-- What is new in memory, told of two things. -/
theorem ShNew.same {α : Type} {K : ShK α} {w w' : World} {l : List α} {d : α} (hb : Below w.heap.size w w') (hd : K.At w d) (hl : d ∈ l) : ShNew K w w' l d := ⟨hb, K.below hd hb, fun b h => .inr ⟨d, hl, h⟩⟩
end Go.Proofs.Ytcidgbjgeegepaa
/- journal: rows that are written over; what is compared in the laws (plainly). -/
namespace Go.Proofs.Ytcidgbjgeegepaa
open Go Go.RowKit
def isB (v : Value) : Prop := ∃ b : By, v = .int .u8 (b.toNat : Int)
theorem isB_byc : ∀ x, ∀ v ∈ byc x, isB v := fun x v hv => ⟨x, List.mem_singleton.1 hv⟩
theorem o_loadB {P : Program} {w₀ w : World} {L : Heap} {ρ : Operand → Value} {ty : TypeId} {ps : String} {af : Array Edge} {g : Option (Nat × Bool)} {d : Option Tmp} {x : Operand} {t e : TypeId} {B i : Nat} {rs : List (RowG By)} (k : Nat) (hk : lk L k = some (.scr e 1 isB rs)) {r : RowG By} (hr : r ∈ rs) (ha : aggOf P t = some false) (hB : r.a = some ⟨B, 0, none⟩) (hi : i < r.l.length * 1) (hx : ρ x = .pointer (some ⟨B, i, none⟩)) (hm : MemOk w₀ L w) :
    ∃ (b : By) (w' : World), (execOp ρ (mk d (.load t x) ty ps af g)).run P w = .ok (.value (.int .u8 (b.toNat : Int))) w' ∧ MemOk w₀ L w' := by
  obtain ⟨v, ⟨b, rfl⟩, h⟩ := o_loadScr (P := P) (ty := ty) (ps := ps) (af := af) (g := g) (d := d) k hk hr ha hB hi hx hm
  exact ⟨b, w, h, hm⟩
theorem whyE_lt {l : List By} (h : sizeV l < l.length) : whyE l = firstE (l.drop (sizeV l)) := if_neg (by omega)
theorem whyE_ge {l : List By} (h : ¬ sizeV l < l.length) : whyE l = 0 := if_pos (by have := size_le l; omega)
end Go.Proofs.Ytcidgbjgeegepaa
/- Arguments that are slices of what lies in memory (slices of slices ..), read. Over any program. -/
namespace Go.Proofs.Ytcidgbjgeegepaa
open Go Go.RowKit Go.ChangeShapes Go.WideShapes Go.Deep
/-- Cells that are read at this type, in this memory, are those of some x. -/
def RdsAt (P : Program) (w : World) (t : TypeId) {α : Type} (f : α → List Value) (ok : α → Prop) : Prop :=
  ∀ (H : Type) (enc : TypeId × Value → H) (base : Nat) (spare : Nat → Bool) (held : Bool) (fuel : Nat) (cs : List Value) (x : DataW H × List MemPlace), DataW.trod enc P w base spare held fuel t cs = some x → ∃ a, cs = f a ∧ ok a
theorem Rds.at {P : Program} {t : TypeId} {α : Type} {f : α → List Value} {ok : α → Prop} (h : Rds P t f ok) (w : World) : RdsAt P w t f ok := fun H enc base spare held fuel cs x hx => h H enc w base spare held fuel cs x hx
theorem RdsAt.mapIf {P : Program} {w : World} {t : TypeId} {α β : Type} {f : α → List Value} {ok : α → Prop} (h : RdsAt P w t f ok) (g : α → β) {f' : β → List Value} {ok' : β → Prop} (hf : ∀ a, ok a → f a = f' (g a)) (ho : ∀ a, ok a → ok' (g a)) : RdsAt P w t f' ok' := by
  intro H enc base spare held fuel cs x hx
  obtain ⟨a, h1, h2⟩ := h H enc base spare held fuel cs x hx
  exact ⟨g a, by rw [h1, hf a h2], ho a h2⟩
/-- A slice that came in. -/
theorem read_sliceW {P : Program} {t e : TypeId} {s : Nat} {α : Type} {f : α → List Value} {ok : α → Prop} (ht : sliOf P t = some e) (hs : szOf P e = some s) (hf : ∀ x, (f x).length = s) (hsp : 0 < s) {w : World} (h : RdsAt P w e f ok)
    {H : Type} {enc : TypeId × Value → H} {base : Nat} {spare : Nat → Bool} {held : Bool} {fuel : Nat} {cs : List Value} {x : DataW H × List MemPlace} (hx : DataW.trod enc P w base spare held fuel t cs = some x) :
    ∃ (l : List α) (a : Option Addr) (cap : Nat), cs = [.slice a l.length cap] ∧ SliceAt w a cap s f l ∧ (∀ x ∈ l, ok x) ∧ cap ≤ Go.maxLen := by
  rcases open_slice (und_sli ht) hx with ⟨rfl, _⟩ | ⟨a, len, cap, m, n, D, Pl, rfl, hb, hl, hm, hmm, _, hi⟩
  · exact ⟨[], none, 0, rfl, sliceNil w, (fun x hx => by cases hx), by unfold Go.maxLen; omega⟩
  · have hlm : len ≤ m := by rw [hmm]; split <;> omega
    rw [cellsOf_sz hs] at hi
    by_cases h0 : len = 0
    · subst h0
      exact ⟨[], some a, cap, rfl, ⟨by simp, (fun e => by cases e), .inl rfl⟩, (fun x hx => by cases hx), hm⟩
    · obtain ⟨l, h1, h2⟩ := list_of (p := fun i y => (∀ j, j < s → w.cell? ((a.add (i * s)).add j) = (f y)[j]?) ∧ ok y) len (fun i hil => by
        obtain ⟨cs', hc, ht'⟩ := hi i (by omega)
        obtain ⟨y, hy, oy⟩ := h _ enc base spare held n _ _ ht'
        obtain ⟨_, _, hcell⟩ := World.cells?_some hc
        exact ⟨y, fun j hj => by rw [hcell j hj, hy], oy⟩)
      have hl0 : l[0]? = some (l[0]'(by omega)) := List.getElem?_eq_getElem (by omega)
      have hc0 := (h2 0 _ hl0).1 0 hsp
      rw [List.getElem?_eq_getElem (by rw [hf]; exact hsp)] at hc0
      simp only [Nat.zero_mul, Addr.add, if_true] at hc0
      obtain ⟨b, off, sp⟩ := a
      unfold World.cell? at hc0
      split at hc0
      · rename_i c T fz hheap
        split at hc0
        · cases hc0
        · rename_i hspot
          have hsp0 : sp = none := by simpa using hspot
          subst hsp0
          subst h1
          refine ⟨l, some ⟨b, off, none⟩, cap, rfl, ⟨hl, (fun e => by cases e), .inr ⟨b, off, c, T, fz, rfl, hheap, ?_⟩⟩, fun x hx => by obtain ⟨i, hi⟩ := List.getElem?_of_mem hx; exact (h2 i x hi).2, hm⟩
          intro i y hy
          have hcells : ∀ j, j < s → c[off + i * s + j]? = (f y)[j]? := fun j hj => by
            have := (h2 i y hy).1 j hj
            rw [addr_add, addr_add] at this
            simpa [World.cell?, hheap] using this
          have hsz : off + i * s + s ≤ c.size := by
            have := hcells (s - 1) (by omega)
            rw [List.getElem?_eq_getElem (by rw [hf]; omega)] at this
            have := (Array.getElem?_eq_some_iff.1 this).1
            omega
          refine ⟨hsz, ?_⟩
          apply Array.ext_getElem?
          intro j
          rw [Array.getElem?_extract]
          by_cases hj : j < s
          · rw [if_pos (by omega), hcells j hj]; simp
          · rw [if_neg (by omega)]
            rw [Array.getElem?_eq_none]
            simp [hf]; omega
      · cases hc0
section
variable {P : Program} {w : World} {r : Reach} {b0 : Nat} {t : TypeId} {v : Value} {H : Type} {enc : TypeId × Value → H} {base : Nat} {spare : Nat → Bool} {held : Bool} {d : DataW H} {ps : List MemPlace}
theorem param_sliceW {e : TypeId} {s : Nat} {α : Type} {f : α → List Value} {ok : α → Prop} (ht : sliOf P t = some e) (hs : szOf P e = some s) (hf : ∀ x, (f x).length = s) (hsp : 0 < s) (hr : RdsAt P w e f ok) (hv : Value.okWide P w r b0 t v) (h : DataW.Trod enc P w base spare held t v d ps) :
    ∃ (l : List α) (a : Option Addr) (cap : Nat), v = .slice a l.length cap ∧ SliceAt w a cap s f l ∧ (∀ x ∈ l, ok x) ∧ cap ≤ Go.maxLen := by
  obtain ⟨fuel, hf'⟩ := h
  obtain ⟨l, a, cap, h1, h2, h3, h4⟩ := read_sliceW ht hs hf hsp hr hf'
  refine ⟨l, a, cap, ?_, h2, h3, h4⟩
  unfold Value.okWide at hv
  rw [und_sli ht] at hv
  cases v with
  | agg cs => simp [Cell.okWide, und_sli ht, Cell.ok] at hv
  | _ => simp [Value.cells] at h1 <;> simp [h1]
end
end Go.Proofs.Ytcidgbjgeegepaa
/- journal: arguments of the laws, read. -/
namespace Go.Proofs.Ytcidgbjgeegepaa
open Go Go.RowKit Go.ChangeShapes Go.WideShapes
set_option maxRecDepth 10000
theorem Rds.mapIf {P : Program} {t : TypeId} {α β : Type} {f : α → List Value} {ok : α → Prop} (h : Rds P t f ok) (g : α → β) {f' : β → List Value} (hf : ∀ a, ok a → f a = f' (g a)) : Rds P t f' (fun _ => True) := by
  intro H enc w base spare held fuel cs x hx
  obtain ⟨a, h1, h2⟩ := h H enc w base spare held fuel cs x hx
  exact ⟨g a, by rw [h1, hf a h2], trivial⟩
theorem byte_back {n : Int} (h : (Lit.int .u8 n).wf = true) : ((BitVec.ofNat 8 n.toNat).toNat : Int) = n := by
  have := wf_u8 h
  rw [BitVec.toNat_ofNat]; omega
theorem rds_byte : Rds Try.prog 5 byc (fun _ => True) := (rds_int io5).mapIf (fun n => BitVec.ofNat 8 n.toNat) (fun n h => by show [Value.int .u8 n] = [Value.int .u8 _]; rw [byte_back h])
end Go.Proofs.Ytcidgbjgeegepaa
