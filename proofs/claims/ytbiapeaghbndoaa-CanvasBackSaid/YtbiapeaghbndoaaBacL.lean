/- canvas: the walk of CanvasBack. Printed by a program of this seat's prover. -/
import Derived.Test.YtbiapeaghbndoaaCanP
namespace Go.Proofs.Ytbiapeaghbndoaa
open Go Go.RowKit
set_option maxRecDepth 10000
theorem back_no (x y : Int) (ts : List T64) (a : Option Addr) (cap : Nat) (ys : List Dt) (ay : Option Addr) (cy : Nat) (w : World) (hv : SliceAt w a cap 256 T64.cells ts) (hcap : cap ≤ Go.maxLen) (hys : SliceAt w ay cy 6 Dt.cells ys) (hcys : cy ≤ Go.maxLen) (hno : ¬ rightI x y (ts.take 17).length = true) : Calls Try.prog 7 #[.agg #[.int .i64 x, .int .i64 y, .slice a ts.length cap], .slice ay ys.length cy] w fun e w' => e = .returned (.bool true) ∧ Below w.heap.size w w' := by
  have hvl := hv.1
  unfold Go.maxLen at hcap
  refine calls_of_T (l := [.agg #[.int .i64 x, .int .i64 y, .slice a ts.length cap], .slice ay ys.length cy]) 97 Try.func7 rfl rfl rfl ?_
  show T _ _ _ [(0, .agg #[.int .i64 x, .int .i64 y, .slice a ts.length cap]), (1, .slice ay ys.length cy)] []
  refine T_seq (T_region ?_)
  refine TL_new 1 (.cells #[.int .i64 x, .int .i64 y, .slice a ts.length cap] 24) (fun B => .pointer (some ⟨B, 0, none⟩)) (fun _ _ hρ _ => r_box (hρ _ _ rfl) rfl) rfl rfl rfl (w_n rfl) ?_
  intro B1
  refine TL_q (.bool false) (fun _ _ hρ _ => r_assign (hρ _ _ rfl)) rfl rfl rfl (w_n rfl) ?_
  refine TL_seq ?_
  refine T_seq ?_
  refine T_mem (_ :: _) (fun _ hm => hm.cvs0 960) ?_
  refine T_seq (T_region ?_)
  refine TL_call (.bool true) (fun _ _ hρ _ => r_call (args := []) (enters_of Try.func13 (by kernel_rfl) rfl) (hρ _ _ rfl) (by rfl) rfl) (fun w _ => wakes_c w) rfl rfl rfl (w_n rfl) ?_
  refine TL_q (.bool false) (fun _ _ hρ _ => r_not (b := true) (hρ _ _ rfl)) rfl rfl rfl (w_n rfl) ?_
  refine TL_seq ?_
  refine T_cond_f rfl ?_
  refine T_skip' ?_
  refine p_seq ?_
  refine T_seq (T_region ?_)
  refine TL_q (.agg #[.int .i64 x, .int .i64 y, .slice a ts.length cap]) (fun _ _ hρ hm => r_loadA ag24 sz24 (hρ _ _ rfl) (hm.at 1 rfl) rfl rfl) rfl rfl rfl (w_n rfl) ?_
  refine TL_callN (fun (_ : Option Addr × Nat) => True) (fun (ar2, cr2) => .agg #[.int .i64 x, .int .i64 y, .slice ar2 ((ts.take 17).length) cr2]) (fun (ar2, cr2) => [(2, .row (.slice ar2 ((ts.take 17).length) cr2) 39 256 ((ts.take 17).length) ((ts.take 17).flatMap T64.cells))]) (fun _ _ hρ _ => r_call (args := [.agg #[.int .i64 x, .int .i64 y, .slice a ts.length cap]]) (enters_of Try.func14 (by kernel_rfl) rfl) (hρ _ _ rfl) ((cons2 (hρ _ _ rfl) rfl)) rfl) (fun w hm => (own_c x y ts a cap w (hv.keep hm.ext) hcap).mono fun e w' ⟨a', cap', he, hb, hr⟩ => ⟨(a', cap'), trivial, he, hb, newOk1 2 hr⟩) rfl rfl rfl (w_n rfl) ?_
  rintro ⟨ar2, cr2⟩ -
  refine TL_call (.tuple #[.pointer none, .int .i64 150]) (fun _ _ hρ _ => r_call (args := [.agg #[.int .i64 x, .int .i64 y, .slice ar2 ((ts.take 17).length) cr2]]) (enters_of Try.func15 (by kernel_rfl) rfl) (hρ _ _ rfl) ((cons2 (hρ _ _ rfl) rfl)) rfl) (fun w _ => of_no x y ar2 ((ts.take 17).length) cr2 w hno) rfl rfl rfl (w_n rfl) ?_
  refine TL_q (.tuple #[.pointer none, .int .i64 150]) (fun _ _ hρ _ => r_move (hρ _ _ rfl)) rfl rfl rfl (w_n rfl) ?_
  refine TL_q (.pointer none) (fun _ _ hρ _ => r_extract (hρ _ _ rfl) rfl) rfl rfl rfl (w_n rfl) ?_
  refine TL_q (.int .i64 150) (fun _ _ hρ _ => r_extract (hρ _ _ rfl) rfl) rfl rfl rfl (w_n rfl) ?_
  refine TL_q (.pointer none) (fun _ _ hρ _ => r_assign (hρ _ _ rfl)) rfl rfl rfl (w_n rfl) ?_
  refine TL_q (.int .i64 150) (fun _ _ hρ _ => r_assign (hρ _ _ rfl)) rfl rfl rfl (w_n rfl) ?_
  refine TL_seq ?_
  refine T_seq ?_
  refine T_seq (T_region ?_)
  refine TL_q (.int .i64 150) (fun _ _ hρ _ => r_move (hρ _ _ rfl)) rfl rfl rfl (w_n rfl) ?_
  refine TL_q (.bool true) (fun _ _ hρ _ => r_as (r_neq (hρ _ _ rfl) (hρ _ _ rfl)) (by rfl)) rfl rfl rfl (w_n rfl) ?_
  refine TL_seq ?_
  refine T_cond_t rfl ?_
  refine T_seq (T_region ?_)
  refine TL_q (.pointer none) (fun _ _ hρ _ => r_move (hρ _ _ rfl)) rfl rfl rfl (w_n rfl) ?_
  refine TL_q (.bool true) (fun _ _ hρ _ => r_as (r_eqlPn po28 (hρ _ _ rfl) (hρ _ _ rfl)) (by rfl)) rfl rfl rfl (w_n rfl) ?_
  refine TL_q (.bool true) (fun _ _ hρ _ => r_assign (hρ _ _ rfl)) rfl rfl rfl (w_n rfl) ?_
  refine TL_seq ?_
  refine T_ret' ?_
  refine p_then_r ?_
  refine ret_of rfl (.bool true) (fun tmps w hk hm => res1 rfl (res_tmp (hk 4 _ rfl))) (fun w hm => ?_)
  exact ⟨rfl, hm.ext⟩

set_option maxHeartbeats 2000000 in
theorem back_ok (wd hg : Nat) (ts : List T64) (a : Option Addr) (cap : Nat) (ys : List Dt) (ay : Option Addr) (cy : Nat) (w : World) (hv : SliceAt w a cap 256 T64.cells ts) (hcap : cap ≤ Go.maxLen) (hys : SliceAt w ay cy 6 Dt.cells ys) (hcys : cy ≤ Go.maxLen) (hwd : 1 ≤ wd ∧ wd ≤ 4) (hhg : 1 ≤ hg ∧ hg ≤ 4) (hlen : (ts.take 17).length = wd * hg) : Calls Try.prog 7 #[.agg #[.int .i64 (wd : Int), .int .i64 (hg : Int), .slice a ts.length cap], .slice ay ys.length cy] w fun e w' => e = .returned (.bool true) ∧ Below w.heap.size w w' := by
  have hvl := hv.1
  unfold Go.maxLen at hcap
  have h16 := size4 hwd hhg
  have h17 : (ts.take 17).length ≤ 17 := by rw [List.length_take]; omega
  have h30 : (ys.take 30).length ≤ 30 := by rw [List.length_take]; omega
  refine calls_of_T (l := [.agg #[.int .i64 ((wd : Nat) : Int), .int .i64 ((hg : Nat) : Int), .slice a ts.length cap], .slice ay ys.length cy]) 97 Try.func7 rfl rfl rfl ?_
  show T _ _ _ [(0, .agg #[.int .i64 ((wd : Nat) : Int), .int .i64 ((hg : Nat) : Int), .slice a ts.length cap]), (1, .slice ay ys.length cy)] []
  refine T_seq (T_region ?_)
  refine TL_new 1 (.cells #[.int .i64 ((wd : Nat) : Int), .int .i64 ((hg : Nat) : Int), .slice a ts.length cap] 24) (fun B => .pointer (some ⟨B, 0, none⟩)) (fun _ _ hρ _ => r_box (hρ _ _ rfl) rfl) rfl rfl rfl (w_n rfl) ?_
  intro B1
  refine TL_q (.bool false) (fun _ _ hρ _ => r_assign (hρ _ _ rfl)) rfl rfl rfl (w_n rfl) ?_
  refine TL_seq ?_
  refine T_seq ?_
  refine T_mem (_ :: _) (fun _ hm => hm.cvs0 960) ?_
  refine T_seq (T_region ?_)
  refine TL_call (.bool true) (fun _ _ hρ _ => r_call (args := []) (enters_of Try.func13 (by kernel_rfl) rfl) (hρ _ _ rfl) (by rfl) rfl) (fun w _ => wakes_c w) rfl rfl rfl (w_n rfl) ?_
  refine TL_q (.bool false) (fun _ _ hρ _ => r_not (b := true) (hρ _ _ rfl)) rfl rfl rfl (w_n rfl) ?_
  refine TL_seq ?_
  refine T_cond_f rfl ?_
  refine T_skip' ?_
  refine p_seq ?_
  refine T_seq (T_region ?_)
  refine TL_q (.agg #[.int .i64 ((wd : Nat) : Int), .int .i64 ((hg : Nat) : Int), .slice a ts.length cap]) (fun _ _ hρ hm => r_loadA ag24 sz24 (hρ _ _ rfl) (hm.at 1 rfl) rfl rfl) rfl rfl rfl (w_n rfl) ?_
  refine TL_callN (fun (_ : Option Addr × Nat) => True) (fun (ar2, cr2) => .agg #[.int .i64 ((wd : Nat) : Int), .int .i64 ((hg : Nat) : Int), .slice ar2 ((ts.take 17).length) cr2]) (fun (ar2, cr2) => [(2, .row (.slice ar2 ((ts.take 17).length) cr2) 39 256 ((ts.take 17).length) ((ts.take 17).flatMap T64.cells))]) (fun _ _ hρ _ => r_call (args := [.agg #[.int .i64 ((wd : Nat) : Int), .int .i64 ((hg : Nat) : Int), .slice a ts.length cap]]) (enters_of Try.func14 (by kernel_rfl) rfl) (hρ _ _ rfl) ((cons2 (hρ _ _ rfl) rfl)) rfl) (fun w hm => (own_c ((wd : Nat) : Int) ((hg : Nat) : Int) ts a cap w (hv.keep hm.ext) hcap).mono fun e w' ⟨a', cap', he, hb, hr⟩ => ⟨(a', cap'), trivial, he, hb, newOk1 2 hr⟩) rfl rfl rfl (w_n rfl) ?_
  rintro ⟨ar2, cr2⟩ -
  refine TL_callX (ι := Cv) (fun (c1 : Cv) e w w' => e = .returned (.tuple #[.pointer (some ⟨c1.p, 0, none⟩), .int .i64 0]) ∧ CvNew w w' [] c1 ∧ (∀ x ∈ ([] : List Cv), ∀ q ∈ x.ps, q < w.heap.size) ∧ c1.wd = wd ∧ c1.hg = hg ∧ c1.ts = (ts.take 17)) (fun c1 => .tuple #[.pointer (some ⟨c1.p, 0, none⟩), .int .i64 0]) _ (fun _ _ hρ _ => r_call (args := [.agg #[.int .i64 ((wd : Nat) : Int), .int .i64 ((hg : Nat) : Int), .slice ar2 ((ts.take 17).length) cr2]]) (enters_of Try.func15 (by kernel_rfl) rfl) (hρ _ _ rfl) ((cons2 (hρ _ _ rfl) rfl)) rfl) (fun w hm => (of_ok wd hg (ts.take 17) ar2 cr2 w (SliceAt.own T64.cells_len (hm.row 2 rfl) rfl rfl) hwd hhg hlen).mono fun e w' ⟨d, he, hn, hf⟩ => ⟨d, he, hn, hm.cvUnder 960 rfl, hf⟩) (fun _ e w w' hm h => ⟨h.1, hm.cvGet 960 rfl h.2.1 (fun _ hx => nomatch hx)⟩) rfl rfl rfl (w_n rfl) ?_
  rintro c1 ⟨_, w1_c1, w2_c1, _, hn_c1, hu_c1, hwd_c1, hhg_c1, hts_c1⟩
  refine TL_q (.tuple #[.pointer (some ⟨c1.p, 0, none⟩), .int .i64 0]) (fun _ _ hρ _ => r_move (hρ _ _ rfl)) rfl rfl rfl (w_n rfl) ?_
  refine TL_q (.pointer (some ⟨c1.p, 0, none⟩)) (fun _ _ hρ _ => r_extract (hρ _ _ rfl) rfl) rfl rfl rfl (w_n rfl) ?_
  refine TL_q (.int .i64 0) (fun _ _ hρ _ => r_extract (hρ _ _ rfl) rfl) rfl rfl rfl (w_n rfl) ?_
  refine TL_q (.pointer (some ⟨c1.p, 0, none⟩)) (fun _ _ hρ _ => r_assign (hρ _ _ rfl)) rfl rfl rfl (w_n rfl) ?_
  refine TL_q (.int .i64 0) (fun _ _ hρ _ => r_assign (hρ _ _ rfl)) rfl rfl rfl (w_n rfl) ?_
  refine TL_seq ?_
  refine T_seq ?_
  refine T_seq (T_region ?_)
  refine TL_q (.int .i64 0) (fun _ _ hρ _ => r_move (hρ _ _ rfl)) rfl rfl rfl (w_n rfl) ?_
  refine TL_q (.bool false) (fun _ _ hρ _ => r_as (r_neq (hρ _ _ rfl) (hρ _ _ rfl)) (by rfl)) rfl rfl rfl (w_n rfl) ?_
  refine TL_seq ?_
  refine T_cond_f rfl ?_
  refine T_skip' ?_
  refine p_seq ?_
  refine T_seq (T_region ?_)
  refine TL_q (.pointer (some ⟨c1.p, 0, none⟩)) (fun _ _ hρ _ => r_move (hρ _ _ rfl)) rfl rfl rfl (w_n rfl) ?_
  refine TL_callN (fun (_ : Option Addr × Nat) => True) (fun (ar3, cr3) => .agg #[.int .i64 ((c1.wd : Nat) : Int), .int .i64 ((c1.hg : Nat) : Int), .slice ar3 ((c1.ts).length) cr3]) (fun (ar3, cr3) => [(3, .row (.slice ar3 ((c1.ts).length) cr3) 39 256 ((c1.ts).length) ((c1.ts).flatMap T64.cells))]) (fun _ _ hρ _ => r_call (args := [.pointer (some ⟨c1.p, 0, none⟩)]) (enters_of Try.func24 (by kernel_rfl) rfl) (hρ _ _ rfl) ((cons2 (hρ _ _ rfl) rfl)) rfl) (fun w hm => (show_c c1 w (hm.cv 960 rfl (List.Mem.head _))).mono fun e w' ⟨a', cap', he, hb, hr⟩ => ⟨(a', cap'), trivial, he, hb, newOk1 3 hr⟩) rfl rfl rfl (w_n rfl) ?_
  rintro ⟨ar3, cr3⟩ -
  refine TL_callX (ι := Cv) (fun (c2 : Cv) e w w' => e = .returned (.tuple #[.pointer (some ⟨c2.p, 0, none⟩), .int .i64 0]) ∧ CvNew w w' [] c2 ∧ (∀ x ∈ [c1], ∀ q ∈ x.ps, q < w.heap.size) ∧ c2.wd = c1.wd ∧ c2.hg = c1.hg ∧ c2.ts = c1.ts) (fun c2 => .tuple #[.pointer (some ⟨c2.p, 0, none⟩), .int .i64 0]) _ (fun _ _ hρ _ => r_call (args := [.agg #[.int .i64 ((c1.wd : Nat) : Int), .int .i64 ((c1.hg : Nat) : Int), .slice ar3 ((c1.ts).length) cr3]]) (enters_of Try.func15 (by kernel_rfl) rfl) (hρ _ _ rfl) ((cons2 (hρ _ _ rfl) rfl)) rfl) (fun w hm => (of_ok c1.wd c1.hg (c1.ts) ar3 cr3 w (SliceAt.own T64.cells_len (hm.row 3 rfl) rfl rfl) hn_c1.at'.wd4 hn_c1.at'.hg4 (hn_c1.at'.len2.trans hn_c1.at'.len)).mono fun e w' ⟨d, he, hn, hf⟩ => ⟨d, he, hn, hm.cvUnder 960 rfl, hf⟩) (fun _ e w w' hm h => ⟨h.1, hm.cvGet 960 rfl h.2.1 (fun _ hx => nomatch hx)⟩) rfl rfl rfl (w_n rfl) ?_
  rintro c2 ⟨_, w1_c2, w2_c2, _, hn_c2, hu_c2, hwd_c2, hhg_c2, hts_c2⟩
  refine TL_q (.tuple #[.pointer (some ⟨c2.p, 0, none⟩), .int .i64 0]) (fun _ _ hρ _ => r_move (hρ _ _ rfl)) rfl rfl rfl (w_n rfl) ?_
  refine TL_q (.pointer (some ⟨c2.p, 0, none⟩)) (fun _ _ hρ _ => r_extract (hρ _ _ rfl) rfl) rfl rfl rfl (w_n rfl) ?_
  refine TL_q (.int .i64 0) (fun _ _ hρ _ => r_extract (hρ _ _ rfl) rfl) rfl rfl rfl (w_n rfl) ?_
  refine TL_q (.pointer (some ⟨c2.p, 0, none⟩)) (fun _ _ hρ _ => r_assign (hρ _ _ rfl)) rfl rfl rfl (w_n rfl) ?_
  refine TL_q (.int .i64 0) (fun _ _ hρ _ => r_assign (hρ _ _ rfl)) rfl rfl rfl (w_n rfl) ?_
  refine TL_seq ?_
  refine T_seq ?_
  have g1 : c2.ts = c1.ts := hts_c2
  have g2 : c1.ts = c2.ts := hts_c2.symm
  have g3 : ((shN c2.ps c1.ps c2.ps.length : Nat) : Int) = 0 := congrArg Int.ofNat (sh_zero (cv_new hn_c2) (hu_c2 _ (List.Mem.head _)) _ (Nat.le_refl _))
  refine T_seq (T_region ?_)
  refine TL_q (.int .i64 0) (fun _ _ hρ _ => r_move (hρ _ _ rfl)) rfl rfl rfl (w_n rfl) ?_
  refine TL_q (.bool false) (fun _ _ hρ _ => r_as (r_neq (hρ _ _ rfl) (hρ _ _ rfl)) (by rfl)) rfl rfl rfl (w_n rfl) ?_
  refine TL_q (.bool false) (fun _ _ hρ _ => r_move (hρ _ _ rfl)) rfl rfl rfl (w_n rfl) ?_
  refine TL_q (.pointer (some ⟨c2.p, 0, none⟩)) (fun _ _ hρ _ => r_move (hρ _ _ rfl)) rfl rfl rfl (want_y 35 rfl rfl rfl) ?_
  refine TL_q (.pointer (some ⟨c1.p, 0, none⟩)) (fun _ _ hρ _ => r_move (hρ _ _ rfl)) rfl rfl rfl (want_y 35 rfl rfl rfl) ?_
  refine TL_call (.bool true) (fun _ _ hρ _ => r_call (args := [.pointer (some ⟨c2.p, 0, none⟩), .pointer (some ⟨c1.p, 0, none⟩)]) (enters_of Try.func25 (by kernel_rfl) rfl) (hρ _ _ rfl) ((cons2 (hρ _ _ rfl) (cons2 (hρ _ _ rfl) rfl))) rfl) (fun w hm => (same_eq c2 c1 w (hm.cv 960 rfl (List.Mem.head _)) (hm.cv 960 rfl (List.Mem.tail _ (List.Mem.head _))) hwd_c2 hhg_c2).mono fun _ _ h => ⟨h.1.trans (congrArg Ending.returned (bool_as (decide_eq_true g1))), h.2⟩) rfl rfl rfl (want_y 35 rfl rfl rfl) ?_
  refine TL_q (.bool false) (fun _ _ hρ _ => r_not (b := true) (hρ _ _ rfl)) rfl rfl rfl (want_y 35 rfl rfl rfl) ?_
  refine TL_q (.bool false) (fun _ _ hρ _ => r_pick_f (hρ _ _ rfl) (hρ _ _ rfl)) rfl rfl rfl (w_n rfl) ?_
  refine TL_q (.bool false) (fun _ _ hρ _ => r_move (hρ _ _ rfl)) rfl rfl rfl (w_n rfl) ?_
  refine TL_q (.pointer (some ⟨c1.p, 0, none⟩)) (fun _ _ hρ _ => r_move (hρ _ _ rfl)) rfl rfl rfl (want_y 41 rfl rfl rfl) ?_
  refine TL_q (.pointer (some ⟨c2.p, 0, none⟩)) (fun _ _ hρ _ => r_move (hρ _ _ rfl)) rfl rfl rfl (want_y 41 rfl rfl rfl) ?_
  refine TL_call (.bool true) (fun _ _ hρ _ => r_call (args := [.pointer (some ⟨c1.p, 0, none⟩), .pointer (some ⟨c2.p, 0, none⟩)]) (enters_of Try.func25 (by kernel_rfl) rfl) (hρ _ _ rfl) ((cons2 (hρ _ _ rfl) (cons2 (hρ _ _ rfl) rfl))) rfl) (fun w hm => (same_eq c1 c2 w (hm.cv 960 rfl (List.Mem.tail _ (List.Mem.head _))) (hm.cv 960 rfl (List.Mem.head _)) hwd_c2.symm hhg_c2.symm).mono fun _ _ h => ⟨h.1.trans (congrArg Ending.returned (bool_as (decide_eq_true g2))), h.2⟩) rfl rfl rfl (want_y 41 rfl rfl rfl) ?_
  refine TL_q (.bool false) (fun _ _ hρ _ => r_not (b := true) (hρ _ _ rfl)) rfl rfl rfl (want_y 41 rfl rfl rfl) ?_
  refine TL_q (.bool false) (fun _ _ hρ _ => r_pick_f (hρ _ _ rfl) (hρ _ _ rfl)) rfl rfl rfl (w_n rfl) ?_
  refine TL_q (.bool false) (fun _ _ hρ _ => r_move (hρ _ _ rfl)) rfl rfl rfl (w_n rfl) ?_
  refine TL_q (.pointer (some ⟨c2.p, 0, none⟩)) (fun _ _ hρ _ => r_move (hρ _ _ rfl)) rfl rfl rfl (want_y 47 rfl rfl rfl) ?_
  refine TL_q (.pointer (some ⟨c1.p, 0, none⟩)) (fun _ _ hρ _ => r_move (hρ _ _ rfl)) rfl rfl rfl (want_y 47 rfl rfl rfl) ?_
  refine TL_call (.int .i64 ((shN c2.ps c1.ps c2.ps.length : Nat) : Int)) (fun _ _ hρ _ => r_call (args := [.pointer (some ⟨c2.p, 0, none⟩), .pointer (some ⟨c1.p, 0, none⟩)]) (enters_of Try.func20 (by kernel_rfl) rfl) (hρ _ _ rfl) ((cons2 (hρ _ _ rfl) (cons2 (hρ _ _ rfl) rfl))) rfl) (fun w hm => shared_eq c2 c1 w (hm.cv 960 rfl (List.Mem.head _)) (hm.cv 960 rfl (List.Mem.tail _ (List.Mem.head _))) hwd_c2 hhg_c2) rfl rfl rfl (want_y 47 rfl rfl rfl) ?_
  refine TL_q (.bool false) (fun _ _ hρ _ => r_as (r_neq (hρ _ _ rfl) (hρ _ _ rfl)) (bool_as (by rw [decide_eq_true g3]; rfl))) rfl rfl rfl (want_y 47 rfl rfl rfl) ?_
  refine TL_q (.bool false) (fun _ _ hρ _ => r_pick_f (hρ _ _ rfl) (hρ _ _ rfl)) rfl rfl rfl (w_n rfl) ?_
  refine TL_seq ?_
  refine T_sub [(1, .slice ay ys.length cy), (4, .bool false), (5, .pointer (some ⟨c1.p, 0, none⟩)), (52, .bool false)] [(960, .cvs [c2, c1]), (3, .row (.slice ar3 ((c1.ts).length) cr3) 39 256 ((c1.ts).length) ((c1.ts).flatMap T64.cells)), (2, .row (.slice ar2 ((ts.take 17).length) cr2) 39 256 ((ts.take 17).length) ((ts.take 17).flatMap T64.cells)), (1, .blk B1 (.cells #[.int .i64 ((wd : Nat) : Int), .int .i64 ((hg : Nat) : Int), .slice a ts.length cap] 24))] (sub_cons rfl (sub_cons rfl (sub_cons rfl (sub_cons rfl sub_nil)))) (sub_cons rfl (sub_cons rfl (sub_cons rfl (sub_cons rfl sub_nil)))) ?_
  refine T_cond_f rfl ?_
  refine T_skip' ?_
  refine p_seq ?_
  refine T_seq (T_region ?_)
  refine TL_q (.pointer (some ⟨c1.p, 0, none⟩)) (fun _ _ hρ _ => r_move (hρ _ _ rfl)) rfl rfl rfl (w_n rfl) ?_
  refine TL_callN (fun (_ : Option Addr × Nat) => True) (fun (ar4, cr4) => .agg #[.int .i64 ((c1.wd : Nat) : Int), .int .i64 ((c1.hg : Nat) : Int), .slice ar4 ((c1.ts).length) cr4]) (fun (ar4, cr4) => [(4, .row (.slice ar4 ((c1.ts).length) cr4) 39 256 ((c1.ts).length) ((c1.ts).flatMap T64.cells))]) (fun _ _ hρ _ => r_call (args := [.pointer (some ⟨c1.p, 0, none⟩)]) (enters_of Try.func24 (by kernel_rfl) rfl) (hρ _ _ rfl) ((cons2 (hρ _ _ rfl) rfl)) rfl) (fun w hm => (show_c c1 w (hm.cv 960 rfl (List.Mem.tail _ (List.Mem.head _)))).mono fun e w' ⟨a', cap', he, hb, hr⟩ => ⟨(a', cap'), trivial, he, hb, newOk1 4 hr⟩) rfl rfl rfl (w_n rfl) ?_
  rintro ⟨ar4, cr4⟩ -
  refine TL_new 5 (.cells #[.int .i64 0, .int .i64 0, .slice none 0 0] 24) (fun B => .pointer (some ⟨B, 0, none⟩)) (fun _ _ _ _ => r_alloc (v := .agg #[.int .i64 0, .int .i64 0, .slice none 0 0]) (by kernel_rfl) rfl) rfl rfl rfl (w_n rfl) ?_
  intro B5
  refine TL_store 5 (.cells #[.int .i64 ((c1.wd : Nat) : Int), .int .i64 ((c1.hg : Nat) : Int), .slice ar4 ((c1.ts).length) cr4] 24) rfl (fun _ _ hρ hm => r_store sz24 (hρ _ _ rfl) (hρ _ _ rfl) (hm.at 5 rfl) rfl rfl rfl rfl) rfl rfl (w_n rfl) ?_
  refine TL_seq ?_
  refine T_seq (T_region ?_)
  refine TL_q (.pointer (some ⟨c1.p, 0, none⟩)) (fun _ _ hρ _ => r_move (hρ _ _ rfl)) rfl rfl rfl (w_n rfl) ?_
  refine TL_q (.pointer (some ⟨c1.p, 0, none⟩)) (fun _ _ hρ _ => r_assign (hρ _ _ rfl)) rfl rfl rfl (w_n rfl) ?_
  refine TL_seq ?_
  refine T_seq ?_
  refine T_seq (T_region ?_)
  refine TL_q (.slice ay ys.length cy) (fun _ _ hρ _ => r_move (hρ _ _ rfl)) rfl rfl rfl (w_n rfl) ?_
  refine TL_callN (fun (_ : Option Addr × Nat) => True) (fun (ar6, cr6) => .slice ar6 ((ys.take 30).length) cr6) (fun (ar6, cr6) => [(6, .row (.slice ar6 ((ys.take 30).length) cr6) 51 6 ((ys.take 30).length) ((ys.take 30).flatMap Dt.cells))]) (fun _ _ hρ _ => r_call (args := [.slice ay ys.length cy]) (enters_of Try.func18 (by kernel_rfl) rfl) (hρ _ _ rfl) ((cons2 (hρ _ _ rfl) rfl)) rfl) (fun w hm => (few_c ys ay cy w (hys.keep hm.ext) hcys).mono fun e w' ⟨a', cap', he, hb, hr⟩ => ⟨(a', cap'), trivial, he, hb, newOk1 6 hr⟩) rfl rfl rfl (w_n rfl) ?_
  rintro ⟨ar6, cr6⟩ -
  refine TL_q (.int .i64 (((ys.take 30).length : Nat) : Int)) (fun _ _ hρ _ => r_len sl25 (hρ _ _ rfl)) rfl rfl rfl (w_n rfl) ?_
  refine TL_q (.int .i64 0) (fun _ _ hρ _ => r_move (hρ _ _ rfl)) rfl rfl rfl (w_n rfl) ?_
  refine TL_seq ?_
  refine T_block ?_
  refine T_mem (_ :: _) (fun _ hm => hm.cvSub 960 (l' := [c1, c1]) rfl (fun x hx => by rcases List.mem_cons.1 hx with h | h; exact (by rw [h]; exact (List.Mem.tail _ (List.Mem.head _))); exact (by rw [List.mem_singleton.1 h]; exact (List.Mem.tail _ (List.Mem.head _))))) ?_
  refine T_loop (ι := Nat × Cv) (fun (z : Nat × Cv) => match z with | (k, ca) => k ≤ (ys.take 30).length ∧ ca.wd = c1.wd ∧ ca.hg = c1.hg ∧ ca.ts = putDs c1.wd c1.hg c1.ts ((ys.take 30).take k)) (fun (z : Nat × Cv) => match z with | (k, ca) => [(1, .slice ay ys.length cy), (5, .pointer (some ⟨c1.p, 0, none⟩)), (8, .pointer (some ⟨B5, 0, none⟩)), (57, .slice ar6 ((ys.take 30).length) cr6), (58, .int .i64 (((ys.take 30).length : Nat) : Int)), (59, .int .i64 ((k : Nat) : Int)), (9, .pointer (some ⟨ca.p, 0, none⟩))]) (fun (z : Nat × Cv) => match z with | (k, ca) => [(6, .row (.slice ar6 ((ys.take 30).length) cr6) 51 6 ((ys.take 30).length) ((ys.take 30).flatMap Dt.cells)), (4, .row (.slice ar4 ((c1.ts).length) cr4) 39 256 ((c1.ts).length) ((c1.ts).flatMap T64.cells)), (3, .row (.slice ar3 ((c1.ts).length) cr3) 39 256 ((c1.ts).length) ((c1.ts).flatMap T64.cells)), (2, .row (.slice ar2 ((ts.take 17).length) cr2) 39 256 ((ts.take 17).length) ((ts.take 17).flatMap T64.cells)), (1, .blk B1 (.cells #[.int .i64 ((wd : Nat) : Int), .int .i64 ((hg : Nat) : Int), .slice a ts.length cap] 24)), (5, .blk B5 (.cells #[.int .i64 ((c1.wd : Nat) : Int), .int .i64 ((c1.hg : Nat) : Int), .slice ar4 ((c1.ts).length) cr4] 24)), (960, .cvs [ca, c1])]) (fun (z : Nat × Cv) => match z with | (k, ca) => (ys.take 30).length - k) (0, c1) ⟨Nat.zero_le _, rfl, rfl, rfl⟩ (sub_cons rfl (sub_cons rfl (sub_cons rfl (sub_cons rfl (sub_cons rfl (sub_cons rfl (sub_cons rfl sub_nil))))))) (sub_cons rfl (sub_cons rfl (sub_cons rfl (sub_cons rfl (sub_cons rfl (sub_cons rfl (sub_cons rfl sub_nil))))))) ?_
  rintro ⟨k, ca⟩ hp
  obtain ⟨hk, hwa, hha, hta⟩ := hp
  show T _ _ _ [(1, .slice ay ys.length cy), (5, .pointer (some ⟨c1.p, 0, none⟩)), (8, .pointer (some ⟨B5, 0, none⟩)), (57, .slice ar6 ((ys.take 30).length) cr6), (58, .int .i64 (((ys.take 30).length : Nat) : Int)), (59, .int .i64 ((k : Nat) : Int)), (9, .pointer (some ⟨ca.p, 0, none⟩))] [(6, .row (.slice ar6 ((ys.take 30).length) cr6) 51 6 ((ys.take 30).length) ((ys.take 30).flatMap Dt.cells)), (4, .row (.slice ar4 ((c1.ts).length) cr4) 39 256 ((c1.ts).length) ((c1.ts).flatMap T64.cells)), (3, .row (.slice ar3 ((c1.ts).length) cr3) 39 256 ((c1.ts).length) ((c1.ts).flatMap T64.cells)), (2, .row (.slice ar2 ((ts.take 17).length) cr2) 39 256 ((ts.take 17).length) ((ts.take 17).flatMap T64.cells)), (1, .blk B1 (.cells #[.int .i64 ((wd : Nat) : Int), .int .i64 ((hg : Nat) : Int), .slice a ts.length cap] 24)), (5, .blk B5 (.cells #[.int .i64 ((c1.wd : Nat) : Int), .int .i64 ((c1.hg : Nat) : Int), .slice ar4 ((c1.ts).length) cr4] 24)), (960, .cvs [ca, c1])]
  refine T_seq (T_region ?_)
  refine TL_q (.bool (decide (((k : Nat) : Int) < (((ys.take 30).length : Nat) : Int)))) (fun _ _ hρ _ => r_lss (hρ _ _ rfl) (hρ _ _ rfl)) rfl rfl rfl (w_n rfl) ?_
  refine TL_seq ?_
  refine T_seq ?_
  refine T_cond rfl (fun h1 => ?_) (fun h1 => ?_)
  · replace h1 := of_decide_eq_true h1
    refine T_skip' ?_
    refine p_seq ?_
    refine T_seq ?_
    refine T_block ?_
    obtain ⟨u, hu⟩ : ∃ x, (ys.take 30)[k]? = some x := ⟨_, List.getElem?_eq_getElem (by omega)⟩
    refine T_row 6 rfl (by omega) (fun g7 ha7 => ?_)
    subst ha7
    refine T_rowcap 6 rfl (fun hrc7 => ?_)
    refine T_seq (T_region ?_)
    refine TL_q (.pointer (some ⟨g7, 0 + k * 6, none⟩)) (fun _ _ hρ _ => r_indexAddrS (i := k) sl25 sz51 (hρ _ _ rfl) (hρ _ _ rfl) (by omega)) rfl rfl rfl (w_n rfl) ?_
    refine TL_q (.agg #[.int .i64 u.x, .int .i64 u.y, .int .u8 u.c.r, .int .u8 u.c.g, .int .u8 u.c.b, .int .u8 u.c.a]) (fun _ _ hρ hm => r_loadOwn (f := Dt.cells) (u := u) (l := (ys.take 30)) ag51 sz51 (hρ _ _ rfl) (hm.row 6 rfl) rfl rfl Dt.cells_len hu) rfl rfl rfl (w_n rfl) ?_
    refine TL_new 7 (.cells #[.int .i64 0, .int .i64 0, .int .u8 0, .int .u8 0, .int .u8 0, .int .u8 0] 51) (fun B => .pointer (some ⟨B, 0, none⟩)) (fun _ _ _ _ => r_alloc (v := .agg #[.int .i64 0, .int .i64 0, .int .u8 0, .int .u8 0, .int .u8 0, .int .u8 0]) (by kernel_rfl) rfl) rfl rfl rfl (w_n rfl) ?_
    intro B8
    refine TL_store 7 (.cells #[.int .i64 u.x, .int .i64 u.y, .int .u8 u.c.r, .int .u8 u.c.g, .int .u8 u.c.b, .int .u8 u.c.a] 51) rfl (fun _ _ hρ hm => r_store sz51 (hρ _ _ rfl) (hρ _ _ rfl) (hm.at 7 rfl) rfl rfl rfl rfl) rfl rfl (w_n rfl) ?_
    refine TL_seq ?_
    refine T_seq (T_region ?_)
    refine TL_q (.pointer (some ⟨ca.p, 0, none⟩)) (fun _ _ hρ _ => r_move (hρ _ _ rfl)) rfl rfl rfl (w_n rfl) ?_
    refine TL_q (.agg #[.int .i64 u.x, .int .i64 u.y, .int .u8 u.c.r, .int .u8 u.c.g, .int .u8 u.c.b, .int .u8 u.c.a]) (fun _ _ hρ hm => r_loadA ag51 sz51 (hρ _ _ rfl) (hm.at 7 rfl) rfl rfl) rfl rfl rfl (w_n rfl) ?_
    refine TL_new 8 (.cells #[.int .i64 u.x, .int .i64 u.y, .int .u8 u.c.r, .int .u8 u.c.g, .int .u8 u.c.b, .int .u8 u.c.a] 51) (fun B => .slice (some ⟨B, 0, none⟩) 1 1) (fun _ _ hρ _ => r_buildSlice (vs := [(0, .agg #[.int .i64 u.x, .int .i64 u.y, .int .u8 u.c.r, .int .u8 u.c.g, .int .u8 u.c.b, .int .u8 u.c.a])]) (by kernel_rfl) (cons2 (pair2 (hρ _ _ rfl)) rfl)) rfl rfl rfl (w_n rfl) ?_
    intro B9
    refine TL_callX (ι := Cv) (fun (n1 : Cv) e w w' => e = .returned (.pointer (some ⟨n1.p, 0, none⟩)) ∧ CvNew w w' [ca] n1 ∧ (∀ x ∈ [ca, c1], ∀ q ∈ x.ps, q < w.heap.size) ∧ n1.wd = ca.wd ∧ n1.hg = ca.hg ∧ n1.ts = putDs ca.wd ca.hg ca.ts [(⟨u.x, u.y, u.c⟩ : Dt)] ∧ Shares w.heap.size ca n1) (fun n1 => .pointer (some ⟨n1.p, 0, none⟩)) _ (fun _ _ hρ _ => r_call (args := [.pointer (some ⟨ca.p, 0, none⟩), .slice (some ⟨B9, 0, none⟩) 1 1]) (enters_of Try.func17 (by kernel_rfl) rfl) (hρ _ _ rfl) ((cons2 (hρ _ _ rfl) (cons2 (hρ _ _ rfl) rfl))) rfl) (fun w hm => (with_canvas ca [(⟨u.x, u.y, u.c⟩ : Dt)] (some ⟨B9, 0, none⟩) 1 w (hm.cv 960 rfl (List.Mem.head _)) ⟨Nat.le_of_ble_eq_true rfl, (fun e => by cases e), .inr ⟨_, 0, _, _, _, rfl, (hm.at 8 rfl), row_of_take (fun _ => rfl) rfl⟩⟩ (Nat.le_of_ble_eq_true rfl)).mono fun e w' ⟨d, he, hn, hf⟩ => ⟨d, he, hn, hm.cvUnder 960 rfl, hf⟩) (fun _ e w w' hm h => ⟨h.1, hm.cvGet 960 rfl h.2.1 (fun x hx => by rw [List.mem_singleton.1 hx]; exact (List.Mem.head _))⟩) rfl rfl rfl (w_n rfl) ?_
    rintro n1 ⟨_, w1_n1, w2_n1, _, hn_n1, hu_n1, hwd_n1, hhg_n1, hts_n1, hsh_n1⟩
    refine TL_q (.pointer (some ⟨n1.p, 0, none⟩)) (fun _ _ hρ _ => r_assign (hρ _ _ rfl)) rfl rfl rfl (w_n rfl) ?_
    refine TL_seq ?_
    refine T_seq ?_
    have hln : ca.ts.length = ca.wd * ca.hg := by rw [hta, putDs_len, hwa, hha]; exact hn_c1.at'.len2.trans hn_c1.at'.len
    by_cases hon : onC n1.wd n1.hg u.x u.y = true
    · skip
      refine T_seq (T_region ?_)
      refine TL_q (.pointer (some ⟨n1.p, 0, none⟩)) (fun _ _ hρ _ => r_move (hρ _ _ rfl)) rfl rfl rfl (w_n rfl) ?_
      refine TL_q (.pointer (some ⟨B8, 0, none⟩)) (fun _ _ hρ _ => r_fieldAddr fl51_0 sz3 (hρ _ _ rfl)) rfl rfl rfl (w_n rfl) ?_
      refine TL_q (.int .i64 u.x) (fun _ _ hρ hm => r_load ag3 (hρ _ _ rfl) (hm.at 7 rfl) rfl) rfl rfl rfl (w_n rfl) ?_
      refine TL_q (.pointer (some ⟨B8, 1, none⟩)) (fun _ _ hρ _ => r_fieldAddr fl51_1 sz3 (hρ _ _ rfl)) rfl rfl rfl (w_n rfl) ?_
      refine TL_q (.int .i64 u.y) (fun _ _ hρ hm => r_load ag3 (hρ _ _ rfl) (hm.at 7 rfl) rfl) rfl rfl rfl (w_n rfl) ?_
      refine TL_call (.tuple #[.agg #[.int .u8 ((colI n1.wd n1.hg n1.ts u.x u.y).r), .int .u8 ((colI n1.wd n1.hg n1.ts u.x u.y).g), .int .u8 ((colI n1.wd n1.hg n1.ts u.x u.y).b), .int .u8 ((colI n1.wd n1.hg n1.ts u.x u.y).a)], .bool true]) (fun _ _ hρ _ => r_call (args := [.pointer (some ⟨n1.p, 0, none⟩), .int .i64 u.x, .int .i64 u.y]) (enters_of Try.func23 (by kernel_rfl) rfl) (hρ _ _ rfl) ((cons2 (hρ _ _ rfl) (cons2 (hρ _ _ rfl) (cons2 (hρ _ _ rfl) rfl)))) rfl) (fun w hm => (cat_c n1 u.x u.y w (hm.cv 960 rfl (List.Mem.head _))).mono fun _ _ h => ⟨h.1.trans (congrArg Ending.returned (by rw [hon])), h.2⟩) rfl rfl rfl (w_n rfl) ?_
      refine TL_q (.tuple #[.agg #[.int .u8 ((colI n1.wd n1.hg n1.ts u.x u.y).r), .int .u8 ((colI n1.wd n1.hg n1.ts u.x u.y).g), .int .u8 ((colI n1.wd n1.hg n1.ts u.x u.y).b), .int .u8 ((colI n1.wd n1.hg n1.ts u.x u.y).a)], .bool true]) (fun _ _ hρ _ => r_move (hρ _ _ rfl)) rfl rfl rfl (w_n rfl) ?_
      refine TL_q (.agg #[.int .u8 ((colI n1.wd n1.hg n1.ts u.x u.y).r), .int .u8 ((colI n1.wd n1.hg n1.ts u.x u.y).g), .int .u8 ((colI n1.wd n1.hg n1.ts u.x u.y).b), .int .u8 ((colI n1.wd n1.hg n1.ts u.x u.y).a)]) (fun _ _ hρ _ => r_extract (hρ _ _ rfl) rfl) rfl rfl rfl (w_n rfl) ?_
      refine TL_q (.bool true) (fun _ _ hρ _ => r_extract (hρ _ _ rfl) rfl) rfl rfl rfl (w_n rfl) ?_
      refine TL_new 9 (.cells #[.int .u8 0, .int .u8 0, .int .u8 0, .int .u8 0] 37) (fun B => .pointer (some ⟨B, 0, none⟩)) (fun _ _ _ _ => r_alloc (v := .agg #[.int .u8 0, .int .u8 0, .int .u8 0, .int .u8 0]) (by kernel_rfl) rfl) rfl rfl rfl (w_n rfl) ?_
      intro B10
      refine TL_store 9 (.cells #[.int .u8 ((colI n1.wd n1.hg n1.ts u.x u.y).r), .int .u8 ((colI n1.wd n1.hg n1.ts u.x u.y).g), .int .u8 ((colI n1.wd n1.hg n1.ts u.x u.y).b), .int .u8 ((colI n1.wd n1.hg n1.ts u.x u.y).a)] 37) rfl (fun _ _ hρ hm => r_store sz37 (hρ _ _ rfl) (hρ _ _ rfl) (hm.at 9 rfl) rfl rfl rfl rfl) rfl rfl (w_n rfl) ?_
      refine TL_q (.bool true) (fun _ _ hρ _ => r_assign (hρ _ _ rfl)) rfl rfl rfl (w_n rfl) ?_
      refine TL_seq ?_
      have g4 : (colI n1.wd n1.hg n1.ts u.x u.y) = u.c := by rw [hwd_n1, hhg_n1] at hon ⊢; rw [hts_n1]; exact colI_putD hln hon
      refine T_seq (T_region ?_)
      refine TL_q (.bool true) (fun _ _ hρ _ => r_move (hρ _ _ rfl)) rfl rfl rfl (w_n rfl) ?_
      refine TL_q (.bool true) (fun _ _ hρ _ => r_move (hρ _ _ rfl)) rfl rfl rfl (w_n rfl) ?_
      refine TL_q (.agg #[.int .u8 ((colI n1.wd n1.hg n1.ts u.x u.y).r), .int .u8 ((colI n1.wd n1.hg n1.ts u.x u.y).g), .int .u8 ((colI n1.wd n1.hg n1.ts u.x u.y).b), .int .u8 ((colI n1.wd n1.hg n1.ts u.x u.y).a)]) (fun _ _ hρ hm => r_loadA ag37 sz37 (hρ _ _ rfl) (hm.at 9 rfl) rfl rfl) rfl rfl rfl (want_y 77 rfl rfl rfl) ?_
      refine TL_q (.pointer (some ⟨B8, 2, none⟩)) (fun _ _ hρ _ => r_fieldAddr fl51_2 sz37 (hρ _ _ rfl)) rfl rfl rfl (want_y 77 rfl rfl rfl) ?_
      refine TL_q (.agg #[.int .u8 u.c.r, .int .u8 u.c.g, .int .u8 u.c.b, .int .u8 u.c.a]) (fun _ _ hρ hm => r_loadA ag37 sz37 (hρ _ _ rfl) (hm.at 7 rfl) rfl rfl) rfl rfl rfl (want_y 77 rfl rfl rfl) ?_
      refine TL_q (.bool false) (fun _ _ hρ _ => r_as (r_as (r_neqA (by kernel_rfl) (hρ _ _ rfl) (hρ _ _ rfl) (run_equalI (l := [(0, .u8), (1, .u8), (2, .u8), (3, .u8)]) (by kernel_rfl) rfl rfl)) (bool_as (congrArg (fun b => !b) (eqC (colI n1.wd n1.hg n1.ts u.x u.y) u.c)))) (bool_as (by rw [decide_eq_true g4]; rfl))) rfl rfl rfl (want_y 77 rfl rfl rfl) ?_
      refine TL_q (.bool false) (fun _ _ hρ _ => r_pick_t (hρ _ _ rfl) (hρ _ _ rfl)) rfl rfl rfl (w_n rfl) ?_
      refine TL_seq ?_
      refine T_cond_f rfl ?_
      refine T_skip' ?_
      refine p_seq ?_
      refine T_region ?_
      refine TL_q (.pointer (some ⟨n1.p, 0, none⟩)) (fun _ _ hρ _ => r_move (hρ _ _ rfl)) rfl rfl rfl (w_n rfl) ?_
      refine TL_q (.pointer (some ⟨n1.p, 0, none⟩)) (fun _ _ hρ _ => r_assign (hρ _ _ rfl)) rfl rfl rfl (w_n rfl) ?_
      refine TL_nil ?_
      refine p_blk_n ?_
      refine p_seq ?_
      refine T_region ?_
      refine TL_q (.int .i64 ((k + 1 : Nat) : Int)) (fun _ _ hρ _ => r_as (r_add (hρ _ _ rfl) (hρ _ _ rfl)) (int_as ((wrap64 (by omega) (by omega)).trans (by omega)))) rfl rfl rfl (w_n rfl) ?_
      refine TL_q (.int .i64 ((k + 1 : Nat) : Int)) (fun _ _ hρ _ => r_move (hρ _ _ rfl)) rfl rfl rfl (w_n rfl) ?_
      refine TL_nil ?_
      refine p_mem (_ :: _) (fun _ hm => hm.cvSub 960 (l' := [n1, c1]) rfl (fun x hx => by rcases List.mem_cons.1 hx with h | h; exact (by rw [h]; exact (List.Mem.head _)); exact (by rw [List.mem_singleton.1 h]; exact (List.Mem.tail _ (List.Mem.tail _ (List.Mem.head _)))))) ?_
      exact p_at (k + 1, n1) ⟨⟨by omega, by rw [hwd_n1]; exact hwa, by rw [hhg_n1]; exact hha, by rw [hts_n1, hwa, hha, hta]; exact (putDs_step hu).symm⟩, by dsimp only; omega⟩ (sub_cons rfl (sub_cons rfl (sub_cons rfl (sub_cons rfl (sub_cons rfl (sub_cons rfl (sub_cons rfl sub_nil))))))) (sub_cons rfl (sub_cons rfl (sub_cons rfl (sub_cons rfl (sub_cons rfl (sub_cons rfl (sub_cons rfl sub_nil)))))))
    · skip
      refine T_seq (T_region ?_)
      refine TL_q (.pointer (some ⟨n1.p, 0, none⟩)) (fun _ _ hρ _ => r_move (hρ _ _ rfl)) rfl rfl rfl (w_n rfl) ?_
      refine TL_q (.pointer (some ⟨B8, 0, none⟩)) (fun _ _ hρ _ => r_fieldAddr fl51_0 sz3 (hρ _ _ rfl)) rfl rfl rfl (w_n rfl) ?_
      refine TL_q (.int .i64 u.x) (fun _ _ hρ hm => r_load ag3 (hρ _ _ rfl) (hm.at 7 rfl) rfl) rfl rfl rfl (w_n rfl) ?_
      refine TL_q (.pointer (some ⟨B8, 1, none⟩)) (fun _ _ hρ _ => r_fieldAddr fl51_1 sz3 (hρ _ _ rfl)) rfl rfl rfl (w_n rfl) ?_
      refine TL_q (.int .i64 u.y) (fun _ _ hρ hm => r_load ag3 (hρ _ _ rfl) (hm.at 7 rfl) rfl) rfl rfl rfl (w_n rfl) ?_
      refine TL_call (.tuple #[.agg #[.int .u8 zeroC.r, .int .u8 zeroC.g, .int .u8 zeroC.b, .int .u8 zeroC.a], .bool false]) (fun _ _ hρ _ => r_call (args := [.pointer (some ⟨n1.p, 0, none⟩), .int .i64 u.x, .int .i64 u.y]) (enters_of Try.func23 (by kernel_rfl) rfl) (hρ _ _ rfl) ((cons2 (hρ _ _ rfl) (cons2 (hρ _ _ rfl) (cons2 (hρ _ _ rfl) rfl)))) rfl) (fun w hm => cat_out n1 u.x u.y w (hm.cv 960 rfl (List.Mem.head _)) hon) rfl rfl rfl (w_n rfl) ?_
      refine TL_q (.tuple #[.agg #[.int .u8 zeroC.r, .int .u8 zeroC.g, .int .u8 zeroC.b, .int .u8 zeroC.a], .bool false]) (fun _ _ hρ _ => r_move (hρ _ _ rfl)) rfl rfl rfl (w_n rfl) ?_
      refine TL_q (.agg #[.int .u8 zeroC.r, .int .u8 zeroC.g, .int .u8 zeroC.b, .int .u8 zeroC.a]) (fun _ _ hρ _ => r_extract (hρ _ _ rfl) rfl) rfl rfl rfl (w_n rfl) ?_
      refine TL_q (.bool false) (fun _ _ hρ _ => r_extract (hρ _ _ rfl) rfl) rfl rfl rfl (w_n rfl) ?_
      refine TL_new 10 (.cells #[.int .u8 0, .int .u8 0, .int .u8 0, .int .u8 0] 37) (fun B => .pointer (some ⟨B, 0, none⟩)) (fun _ _ _ _ => r_alloc (v := .agg #[.int .u8 0, .int .u8 0, .int .u8 0, .int .u8 0]) (by kernel_rfl) rfl) rfl rfl rfl (w_n rfl) ?_
      intro B11
      refine TL_store 10 (.cells #[.int .u8 zeroC.r, .int .u8 zeroC.g, .int .u8 zeroC.b, .int .u8 zeroC.a] 37) rfl (fun _ _ hρ hm => r_store sz37 (hρ _ _ rfl) (hρ _ _ rfl) (hm.at 10 rfl) rfl rfl rfl rfl) rfl rfl (w_n rfl) ?_
      refine TL_q (.bool false) (fun _ _ hρ _ => r_assign (hρ _ _ rfl)) rfl rfl rfl (w_n rfl) ?_
      refine TL_seq ?_
      refine T_seq (T_region ?_)
      refine TL_q (.bool false) (fun _ _ hρ _ => r_move (hρ _ _ rfl)) rfl rfl rfl (w_n rfl) ?_
      refine TL_q (.bool false) (fun _ _ hρ _ => r_move (hρ _ _ rfl)) rfl rfl rfl (w_n rfl) ?_
      refine TL_no rfl rfl (want_n 77 rfl rfl rfl) ?_
      refine TL_no rfl rfl (want_n 77 rfl rfl rfl) ?_
      refine TL_no rfl rfl (want_n 77 rfl rfl rfl) ?_
      refine TL_no rfl rfl (want_n 77 rfl rfl rfl) ?_
      refine TL_q (.bool false) (fun _ _ hρ _ => r_pick_f (hρ _ _ rfl) (hρ _ _ rfl)) rfl rfl rfl (w_n rfl) ?_
      refine TL_seq ?_
      refine T_cond_f rfl ?_
      refine T_skip' ?_
      refine p_seq ?_
      refine T_region ?_
      refine TL_q (.pointer (some ⟨n1.p, 0, none⟩)) (fun _ _ hρ _ => r_move (hρ _ _ rfl)) rfl rfl rfl (w_n rfl) ?_
      refine TL_q (.pointer (some ⟨n1.p, 0, none⟩)) (fun _ _ hρ _ => r_assign (hρ _ _ rfl)) rfl rfl rfl (w_n rfl) ?_
      refine TL_nil ?_
      refine p_blk_n ?_
      refine p_seq ?_
      refine T_region ?_
      refine TL_q (.int .i64 ((k + 1 : Nat) : Int)) (fun _ _ hρ _ => r_as (r_add (hρ _ _ rfl) (hρ _ _ rfl)) (int_as ((wrap64 (by omega) (by omega)).trans (by omega)))) rfl rfl rfl (w_n rfl) ?_
      refine TL_q (.int .i64 ((k + 1 : Nat) : Int)) (fun _ _ hρ _ => r_move (hρ _ _ rfl)) rfl rfl rfl (w_n rfl) ?_
      refine TL_nil ?_
      refine p_mem (_ :: _) (fun _ hm => hm.cvSub 960 (l' := [n1, c1]) rfl (fun x hx => by rcases List.mem_cons.1 hx with h | h; exact (by rw [h]; exact (List.Mem.head _)); exact (by rw [List.mem_singleton.1 h]; exact (List.Mem.tail _ (List.Mem.tail _ (List.Mem.head _)))))) ?_
      exact p_at (k + 1, n1) ⟨⟨by omega, by rw [hwd_n1]; exact hwa, by rw [hhg_n1]; exact hha, by rw [hts_n1, hwa, hha, hta]; exact (putDs_step hu).symm⟩, by dsimp only; omega⟩ (sub_cons rfl (sub_cons rfl (sub_cons rfl (sub_cons rfl (sub_cons rfl (sub_cons rfl (sub_cons rfl sub_nil))))))) (sub_cons rfl (sub_cons rfl (sub_cons rfl (sub_cons rfl (sub_cons rfl (sub_cons rfl (sub_cons rfl sub_nil)))))))
  · replace h1 := of_decide_eq_false h1
    refine T_exit' ?_
    refine p_then_x ?_
    refine p_then_x ?_
    refine p_blk_x ?_
    refine p_seq ?_
    have hk : k = (ys.take 30).length := by omega
    subst hk
    rw [List.take_length] at hta
    have m3 : c1.ts.length ≤ 64 := by rw [hts_c1]; omega
    refine T_seq (T_draw (V := [(0, .pointer (some ⟨c1.p, 0, none⟩)), (2, .agg #[.int .i64 ((c1.wd : Nat) : Int), .int .i64 ((c1.hg : Nat) : Int), .slice ar4 ((c1.ts).length) cr4])]) [0, 1, 0, 7, 15, 31, 31, 31, 159, 479, 1023, 2047, 4095] [[(5, none)], [(85, some 0)], [(8, none)], [(86, some 1), (87, some 2)], [(88, some 3)], [(9, none)], [(5, none)], [(1, none)], [(92, some 7)], [(91, some 6), (93, some 8)], [(90, some 5), (94, some 9)], [(95, some 10), (89, some 4)], [(96, some 11)]] 1802 mixed (by kernel_rfl) ?_)
    refine G_step [0, 2] 1 [] (by kernel_rfl) (allM (all_cons (q_run (.pointer (some ⟨c1.p, 0, none⟩)) rfl rfl (wv_n rfl) rfl (fun _ _ hρ _ => r_move (hρ _ _ rfl))) (all_cons (q_run (.agg #[.int .i64 ((c1.wd : Nat) : Int), .int .i64 ((c1.hg : Nat) : Int), .slice ar4 ((c1.ts).length) cr4]) rfl rfl (wv_n rfl) rfl (fun _ _ hρ hm => r_loadA ag24 sz24 (hρ _ _ rfl) (hm.at 5 rfl) rfl rfl)) all_nil))) (allM (all_cons ?_ all_nil))
    refine LOb_callN (fun (_ : Option Addr × Nat) => True) (fun (ar14, cr14) => .agg #[.int .i64 ((c1.wd : Nat) : Int), .int .i64 ((c1.hg : Nat) : Int), .slice ar14 ((c1.ts).length) cr14]) (fun (ar14, cr14) => [(11, .row (.slice ar14 ((c1.ts).length) cr14) 39 256 ((c1.ts).length) ((c1.ts).flatMap T64.cells))]) (fun (ar14, cr14) => []) rfl (wv_n rfl) rfl rfl (fun _ _ hρ _ => r_call (args := [.pointer (some ⟨c1.p, 0, none⟩)]) (enters_of Try.func24 (by kernel_rfl) rfl) (hρ _ _ rfl) ((cons2 (hρ _ _ rfl) rfl)) rfl) (fun w hm => (show_c c1 w (hm.cv 960 rfl (List.Mem.tail _ (List.Mem.head _)))).mono fun e w' ⟨a', cap', he, hb, hr⟩ => ⟨(a', cap'), trivial, he, hb, newOk1 11 hr⟩) (fun (ar14, cr14) => by kernel_rfl) ?_
    rintro ⟨ar14, cr14⟩ -
    refine G_step [2] 3 [] (by kernel_rfl) (allM (all_cons (q_run (.agg #[.int .i64 ((c1.wd : Nat) : Int), .int .i64 ((c1.hg : Nat) : Int), .slice ar4 ((c1.ts).length) cr4]) rfl rfl (wv_n rfl) rfl (fun _ _ hρ hm => r_loadA ag24 sz24 (hρ _ _ rfl) (hm.at 5 rfl) rfl rfl)) all_nil)) (allM (all_cons ?_ all_nil))
    refine LOb_call (.bool true) [(4, .bool true), (5, .pointer (some ⟨ca.p, 0, none⟩)), (6, .pointer (some ⟨c1.p, 0, none⟩)), (7, .slice ay ys.length cy)] rfl (wv_n rfl) rfl rfl (fun _ _ hρ _ => r_call (args := [.agg #[.int .i64 ((c1.wd : Nat) : Int), .int .i64 ((c1.hg : Nat) : Int), .slice ar14 ((c1.ts).length) cr14], .agg #[.int .i64 ((c1.wd : Nat) : Int), .int .i64 ((c1.hg : Nat) : Int), .slice ar4 ((c1.ts).length) cr4]]) (enters_of Try.func27 (by kernel_rfl) rfl) (hρ _ _ rfl) ((cons2 (hρ _ _ rfl) (cons2 (hρ _ _ rfl) rfl))) rfl) (fun w hm => (alike_c ((c1.wd : Nat) : Int) ((c1.hg : Nat) : Int) (c1.ts) ar14 cr14 w (SliceAt.own T64.cells_len (hm.row 11 rfl) rfl rfl) (row_cap (hm.row 11 rfl)) ((c1.wd : Nat) : Int) ((c1.hg : Nat) : Int) (c1.ts) ar4 cr4 (SliceAt.own T64.cells_len (hm.row 4 rfl) rfl rfl) (row_cap (hm.row 4 rfl)) (by omega) (by omega)).mono fun _ _ h => ⟨h.1.trans (congrArg Ending.returned (bool_as (decide_eq_true ⟨rfl, rfl, rfl⟩))), h.2⟩) (by kernel_rfl) ?_
    refine G_step [4, 5, 6, 7] 8 [] (by kernel_rfl) (allM (all_cons (q_run (.bool true) rfl rfl (wv_n rfl) rfl (fun _ _ hρ _ => r_move (hρ _ _ rfl))) (all_cons (q_run (.pointer (some ⟨ca.p, 0, none⟩)) rfl rfl (wv_y rfl rfl) rfl (fun _ _ hρ _ => r_move (hρ _ _ rfl))) (all_cons (q_run (.pointer (some ⟨c1.p, 0, none⟩)) rfl rfl (wv_y rfl rfl) rfl (fun _ _ hρ _ => r_move (hρ _ _ rfl))) (all_cons (q_run (.slice ay ys.length cy) rfl rfl (wv_y rfl rfl) rfl (fun _ _ hρ _ => r_move (hρ _ _ rfl))) all_nil))))) (allM (all_cons ?_ all_nil))
    refine LOb_callN (fun (_ : Option Addr × Nat) => True) (fun (ar15, cr15) => .slice ar15 ((ys.take 30).length) cr15) (fun (ar15, cr15) => [(12, .row (.slice ar15 ((ys.take 30).length) cr15) 51 6 ((ys.take 30).length) ((ys.take 30).flatMap Dt.cells))]) (fun (ar15, cr15) => []) rfl (wv_y rfl rfl) rfl rfl (fun _ _ hρ _ => r_call (args := [.slice ay ys.length cy]) (enters_of Try.func18 (by kernel_rfl) rfl) (hρ _ _ rfl) ((cons2 (hρ _ _ rfl) rfl)) rfl) (fun w hm => (few_c ys ay cy w (hys.keep hm.ext) hcys).mono fun e w' ⟨a', cap', he, hb, hr⟩ => ⟨(a', cap'), trivial, he, hb, newOk1 12 hr⟩) (fun (ar15, cr15) => by kernel_rfl) ?_
    rintro ⟨ar15, cr15⟩ -
    refine G_step [5, 6] 9 [] (by kernel_rfl) (allM (all_cons (q_run (.pointer (some ⟨ca.p, 0, none⟩)) rfl rfl (wv_y rfl rfl) rfl (fun _ _ hρ _ => r_move (hρ _ _ rfl))) (all_cons (q_run (.pointer (some ⟨c1.p, 0, none⟩)) rfl rfl (wv_y rfl rfl) rfl (fun _ _ hρ _ => r_move (hρ _ _ rfl))) all_nil))) (allM (all_cons ?_ all_nil))
    refine LOb_callX (ι := Cv) (fun (e1 : Cv) e w w' => e = .returned (.pointer (some ⟨e1.p, 0, none⟩)) ∧ CvNew w w' [c1] e1 ∧ (∀ x ∈ [ca, c1], ∀ q ∈ x.ps, q < w.heap.size) ∧ e1.wd = c1.wd ∧ e1.hg = c1.hg ∧ e1.ts = putDs c1.wd c1.hg c1.ts (ys.take 30) ∧ Shares w.heap.size c1 e1) (fun e1 => .pointer (some ⟨e1.p, 0, none⟩)) _ (fun e1 => []) rfl (wv_y rfl rfl) rfl rfl (fun _ _ hρ _ => r_call (args := [.pointer (some ⟨c1.p, 0, none⟩), .slice ar15 ((ys.take 30).length) cr15]) (enters_of Try.func17 (by kernel_rfl) rfl) (hρ _ _ rfl) ((cons2 (hρ _ _ rfl) (cons2 (hρ _ _ rfl) rfl))) rfl) (fun w hm => (with_canvas c1 (ys.take 30) ar15 cr15 w (hm.cv 960 rfl (List.Mem.tail _ (List.Mem.head _))) (SliceAt.own Dt.cells_len (hm.row 12 rfl) rfl rfl) (row_cap (hm.row 12 rfl))).mono fun e w' ⟨d, he, hn, hf⟩ => ⟨d, he, hn, hm.cvUnder 960 rfl, hf⟩) (fun _ e w w' hm h => ⟨h.1, hm.cvGet 960 rfl h.2.1 (fun x hx => by rw [List.mem_singleton.1 hx]; exact (List.Mem.tail _ (List.Mem.head _)))⟩) (fun e1 => by kernel_rfl) ?_
    rintro e1 ⟨_, w1_e1, w2_e1, _, hn_e1, hu_e1, hwd_e1, hhg_e1, hts_e1, hsh_e1⟩
    refine G_step [5] 10 [] (by kernel_rfl) (allM (all_cons (q_run (.pointer (some ⟨ca.p, 0, none⟩)) rfl rfl (wv_y rfl rfl) rfl (fun _ _ hρ _ => r_move (hρ _ _ rfl))) all_nil)) (allM (all_cons ?_ all_nil))
    refine LOb_call (.bool true) [(11, .bool true), (12, .bool true)] rfl (wv_y rfl rfl) rfl rfl (fun _ _ hρ _ => r_call (args := [.pointer (some ⟨ca.p, 0, none⟩), .pointer (some ⟨e1.p, 0, none⟩)]) (enters_of Try.func25 (by kernel_rfl) rfl) (hρ _ _ rfl) ((cons2 (hρ _ _ rfl) (cons2 (hρ _ _ rfl) rfl))) rfl) (fun w hm => (same_eq ca e1 w (hm.cv 960 rfl (List.Mem.tail _ (List.Mem.head _))) (hm.cv 960 rfl (List.Mem.head _)) (hwa.trans hwd_e1.symm) (hha.trans hhg_e1.symm)).mono fun _ _ h => ⟨h.1.trans (congrArg Ending.returned (bool_as (decide_eq_true (hta.trans hts_e1.symm)))), h.2⟩) (by kernel_rfl) ?_
    refine G_last [11, 12] [(4, .bool true)] (by kernel_rfl) (allM (all_cons (q_run (.bool true) rfl rfl (wv_n rfl) rfl (fun _ _ hρ _ => r_pick_t (hρ _ _ rfl) (hρ _ _ rfl))) (all_cons (q_run (.bool true) rfl rfl (wv_n rfl) rfl (fun _ _ hρ _ => r_assign (hρ _ _ rfl))) all_nil))) (end_new 12 rfl rfl end_nil) ?_
    refine T_ret' ?_
    refine ret_of rfl (.bool true) (fun tmps w hk hm => res1 rfl (res_tmp (hk 4 _ rfl))) (fun w hm => ?_)
    exact ⟨rfl, hm.ext⟩

theorem back_any (x y : Int) (ts : List T64) (a : Option Addr) (cap : Nat) (ys : List Dt) (ay : Option Addr) (cy : Nat) (w : World) (hv : SliceAt w a cap 256 T64.cells ts) (hcap : cap ≤ Go.maxLen) (hys : SliceAt w ay cy 6 Dt.cells ys) (hcys : cy ≤ Go.maxLen) : Calls Try.prog 7 #[.agg #[.int .i64 x, .int .i64 y, .slice a ts.length cap], .slice ay ys.length cy] w fun e w' => e = .returned (.bool true) ∧ Below w.heap.size w w' := by
  by_cases h : rightI x y (ts.take 17).length = true
  · obtain ⟨p, q, rfl, rfl, h1, h2, h3⟩ := rightI_nat h
    exact back_ok p q ts a cap ys ay cy w hv hcap hys hcys h1 h2 h3
  · exact back_no x y ts a cap ys ay cy w hv hcap hys hcys h
end Go.Proofs.Ytbiapeaghbndoaa
