/- Texts of this seat, merged: part 5. -/
import Derived.Test.YtmihoejecpcmjaaMg4
/- net and journal: MarksDue. Printed by a program of this seat's prover. -/
namespace Go.Proofs.Ytmihoejecpcmjaa
open Go Go.RowKit
set_option maxRecDepth 10000
theorem index_c (l : List Tid) (a : Option Addr) (cap : Nat) (x : Tid) (w : World) (hv : SliceAt w a cap 3 Tid.cells l) (hcap : cap ≤ Go.maxLen) : Calls Try.prog 13 #[.slice a l.length cap, x.v] w fun e w' => e = .returned (.int .i64 (idxI (fun y => decide (x = y)) l)) ∧ Below w.heap.size w w' := by
  have hvl := hv.1
  unfold Go.maxLen at hcap
  refine calls_of_T (l := [.slice a l.length cap, .agg #[.int .u64 x.t, .int .i64 x.s, .int .u64 x.q]]) 19 Try.func13 rfl rfl rfl ?_
  show T _ _ _ [(0, .slice a l.length cap), (1, .agg #[.int .u64 x.t, .int .i64 x.s, .int .u64 x.q])] []
  refine T_seq (T_region ?_)
  refine TL_new 1 (.cells #[.int .u64 x.t, .int .i64 x.s, .int .u64 x.q] 32) (fun B => .pointer (some ⟨B, 0, none⟩)) (fun _ _ hρ _ => r_box (hρ _ _ rfl) rfl) rfl rfl rfl (w_n rfl) ?_
  intro B1
  refine TL_q (.int .i64 0) (fun _ _ hρ _ => r_assign (hρ _ _ rfl)) rfl rfl rfl (w_n rfl) ?_
  refine TL_seq ?_
  refine T_seq ?_
  refine T_seq (T_region ?_)
  refine TL_q (.slice a l.length cap) (fun _ _ hρ _ => r_move (hρ _ _ rfl)) rfl rfl rfl (w_n rfl) ?_
  refine TL_q (.int .i64 ((l.length : Nat) : Int)) (fun _ _ hρ _ => r_len sl22 (hρ _ _ rfl)) rfl rfl rfl (w_n rfl) ?_
  refine TL_q (.int .i64 0) (fun _ _ hρ _ => r_move (hρ _ _ rfl)) rfl rfl rfl (w_n rfl) ?_
  refine TL_seq ?_
  refine T_block ?_
  refine T_loop (ι := Nat) (fun (k : Nat) => k ≤ l.length ∧ ∀ y ∈ l.take k, decide (x = y) = false) (fun (k : Nat) => [(0, .slice a l.length cap), (3, .pointer (some ⟨B1, 0, none⟩)), (7, .int .i64 ((l.length : Nat) : Int)), (8, .int .i64 ((k : Nat) : Int))]) (fun (k : Nat) => [(1, .blk B1 (.cells #[.int .u64 x.t, .int .i64 x.s, .int .u64 x.q] 32))]) (fun (k : Nat) => l.length - k) 0 ⟨Nat.zero_le _, fun _ h => nomatch h⟩ (sub_cons rfl (sub_cons rfl (sub_cons rfl (sub_cons rfl sub_nil)))) (sub_cons rfl sub_nil) ?_
  rintro k hp
  obtain ⟨hk, hno⟩ := hp
  show T _ _ _ [(0, .slice a l.length cap), (3, .pointer (some ⟨B1, 0, none⟩)), (7, .int .i64 ((l.length : Nat) : Int)), (8, .int .i64 ((k : Nat) : Int))] [(1, .blk B1 (.cells #[.int .u64 x.t, .int .i64 x.s, .int .u64 x.q] 32))]
  refine T_seq (T_region ?_)
  refine TL_q (.bool (decide (((k : Nat) : Int) < ((l.length : Nat) : Int)))) (fun _ _ hρ _ => r_lss (hρ _ _ rfl) (hρ _ _ rfl)) rfl rfl rfl (w_n rfl) ?_
  refine TL_seq ?_
  refine T_seq ?_
  refine T_cond rfl (fun h1 => ?_) (fun h1 => ?_)
  · replace h1 := of_decide_eq_true h1
    refine T_skip' ?_
    refine p_seq ?_
    refine T_seq ?_
    refine T_block ?_
    refine T_seq (T_region ?_)
    refine TL_q (.int .i64 ((k : Nat) : Int)) (fun _ _ hρ _ => r_move (hρ _ _ rfl)) rfl rfl rfl (w_n rfl) ?_
    refine TL_q (.int .i64 ((k : Nat) : Int)) (fun _ _ hρ _ => r_assign (hρ _ _ rfl)) rfl rfl rfl (w_n rfl) ?_
    refine TL_seq ?_
    obtain ⟨p9, hp9⟩ : ∃ x, l[k]? = some x := ⟨_, List.getElem?_eq_getElem (by omega)⟩
    obtain ⟨b2, of2, cs2, T2, fz2, ha2, hq2, hr2⟩ := hv.open (i := k) (by omega)
    subst ha2
    by_cases hxp : x = p9
    · skip
      refine T_seq (T_draw (V := [(0, .agg #[.int .u64 x.t, .int .i64 x.s, .int .u64 x.q]), (1, .slice (some ⟨b2, of2, none⟩) l.length cap), (2, .int .i64 ((k : Nat) : Int)), (3, .pointer (some ⟨b2, of2 + k * 3, none⟩)), (4, .agg #[.int .u64 p9.t, .int .i64 p9.s, .int .u64 p9.q]), (5, .bool true)]) [0, 0, 0, 6, 14, 31] [[(3, none)], [(0, none)], [(5, none)], [(12, some 1), (13, some 2)], [(14, some 3)], [(11, some 0), (15, some 4)]] 0 mixed (by kernel_rfl) ?_)
      refine G_last [0, 1, 2, 3, 4, 5] [(0, .slice (some ⟨b2, of2, none⟩) l.length cap), (3, .pointer (some ⟨B1, 0, none⟩)), (7, .int .i64 ((l.length : Nat) : Int)), (8, .int .i64 ((k : Nat) : Int)), (9, .bool (decide (((k : Nat) : Int) < ((l.length : Nat) : Int)))), (10, .int .i64 ((k : Nat) : Int)), (5, .int .i64 ((k : Nat) : Int)), (11, .agg #[.int .u64 x.t, .int .i64 x.s, .int .u64 x.q]), (12, .slice (some ⟨b2, of2, none⟩) l.length cap), (13, .int .i64 ((k : Nat) : Int)), (14, .pointer (some ⟨b2, of2 + k * 3, none⟩)), (15, .agg #[.int .u64 p9.t, .int .i64 p9.s, .int .u64 p9.q]), (16, .bool true)] (by kernel_rfl) (allM (all_cons (q_run (.agg #[.int .u64 x.t, .int .i64 x.s, .int .u64 x.q]) rfl rfl (wv_n rfl) rfl (fun _ _ hρ hm => r_loadA ag32 sz32 (hρ _ _ rfl) (hm.at 1 rfl) rfl rfl)) (all_cons (q_run (.slice (some ⟨b2, of2, none⟩) l.length cap) rfl rfl (wv_n rfl) rfl (fun _ _ hρ _ => r_move (hρ _ _ rfl))) (all_cons (q_run (.int .i64 ((k : Nat) : Int)) rfl rfl (wv_n rfl) rfl (fun _ _ hρ _ => r_move (hρ _ _ rfl))) (all_cons (q_run (.pointer (some ⟨b2, of2 + k * 3, none⟩)) rfl rfl (wv_n rfl) rfl (fun _ _ hρ _ => r_indexAddrS (i := k) sl22 sz32 (hρ _ _ rfl) (hρ _ _ rfl) (by omega))) (all_cons (q_run (.agg #[.int .u64 p9.t, .int .i64 p9.s, .int .u64 p9.q]) rfl rfl (wv_n rfl) rfl (fun _ _ hρ hm => r_loadRow (f := Tid.cells) (u := p9) ag32 sz32 (hρ _ _ rfl) (hm.old hq2) hr2 hp9)) (all_cons (q_run (.bool true) rfl rfl (wv_n rfl) rfl (fun _ _ hρ _ => r_as (r_as (r_eqlA (by kernel_rfl) (hρ _ _ rfl) (hρ _ _ rfl) (run_equalI (l := [(0, .u64), (1, .i64), (2, .u64)]) (by kernel_rfl) rfl rfl)) (bool_as (eqTid x p9))) (bool_as (decide_eq_true hxp)))) all_nil))))))) (end_old rfl rfl (end_old rfl rfl (end_old rfl rfl (end_old rfl rfl (end_old rfl rfl (end_old rfl rfl (end_old rfl rfl (end_new 0 rfl rfl (end_new 1 rfl rfl (end_new 2 rfl rfl (end_new 3 rfl rfl (end_new 4 rfl rfl (end_new 5 rfl rfl end_nil))))))))))))) ?_
      refine T_cond_t rfl ?_
      refine T_seq (T_region ?_)
      refine TL_q (.int .i64 ((k : Nat) : Int)) (fun _ _ hρ _ => r_move (hρ _ _ rfl)) rfl rfl rfl (w_n rfl) ?_
      refine TL_q (.int .i64 ((k : Nat) : Int)) (fun _ _ hρ _ => r_assign (hρ _ _ rfl)) rfl rfl rfl (w_n rfl) ?_
      refine TL_seq ?_
      refine T_ret' ?_
      refine p_blk_r ?_
      refine p_then_r ?_
      refine p_then_r ?_
      refine p_blk_r ?_
      refine p_then_r ?_
      refine ret_of rfl (.int .i64 ((k : Nat) : Int)) (fun tmps w hk hm => res1 rfl (res_tmp (hk 4 _ rfl))) (fun w hm => ?_)
      exact ⟨by rw [idx_some hp9 hno (decide_eq_true hxp)], hm.ext⟩
    · skip
      refine T_seq (T_draw (V := [(0, .agg #[.int .u64 x.t, .int .i64 x.s, .int .u64 x.q]), (1, .slice (some ⟨b2, of2, none⟩) l.length cap), (2, .int .i64 ((k : Nat) : Int)), (3, .pointer (some ⟨b2, of2 + k * 3, none⟩)), (4, .agg #[.int .u64 p9.t, .int .i64 p9.s, .int .u64 p9.q]), (5, .bool false)]) [0, 0, 0, 6, 14, 31] [[(3, none)], [(0, none)], [(5, none)], [(12, some 1), (13, some 2)], [(14, some 3)], [(11, some 0), (15, some 4)]] 0 mixed (by kernel_rfl) ?_)
      refine G_last [0, 1, 2, 3, 4, 5] [(0, .slice (some ⟨b2, of2, none⟩) l.length cap), (3, .pointer (some ⟨B1, 0, none⟩)), (7, .int .i64 ((l.length : Nat) : Int)), (8, .int .i64 ((k : Nat) : Int)), (9, .bool (decide (((k : Nat) : Int) < ((l.length : Nat) : Int)))), (10, .int .i64 ((k : Nat) : Int)), (5, .int .i64 ((k : Nat) : Int)), (11, .agg #[.int .u64 x.t, .int .i64 x.s, .int .u64 x.q]), (12, .slice (some ⟨b2, of2, none⟩) l.length cap), (13, .int .i64 ((k : Nat) : Int)), (14, .pointer (some ⟨b2, of2 + k * 3, none⟩)), (15, .agg #[.int .u64 p9.t, .int .i64 p9.s, .int .u64 p9.q]), (16, .bool false)] (by kernel_rfl) (allM (all_cons (q_run (.agg #[.int .u64 x.t, .int .i64 x.s, .int .u64 x.q]) rfl rfl (wv_n rfl) rfl (fun _ _ hρ hm => r_loadA ag32 sz32 (hρ _ _ rfl) (hm.at 1 rfl) rfl rfl)) (all_cons (q_run (.slice (some ⟨b2, of2, none⟩) l.length cap) rfl rfl (wv_n rfl) rfl (fun _ _ hρ _ => r_move (hρ _ _ rfl))) (all_cons (q_run (.int .i64 ((k : Nat) : Int)) rfl rfl (wv_n rfl) rfl (fun _ _ hρ _ => r_move (hρ _ _ rfl))) (all_cons (q_run (.pointer (some ⟨b2, of2 + k * 3, none⟩)) rfl rfl (wv_n rfl) rfl (fun _ _ hρ _ => r_indexAddrS (i := k) sl22 sz32 (hρ _ _ rfl) (hρ _ _ rfl) (by omega))) (all_cons (q_run (.agg #[.int .u64 p9.t, .int .i64 p9.s, .int .u64 p9.q]) rfl rfl (wv_n rfl) rfl (fun _ _ hρ hm => r_loadRow (f := Tid.cells) (u := p9) ag32 sz32 (hρ _ _ rfl) (hm.old hq2) hr2 hp9)) (all_cons (q_run (.bool false) rfl rfl (wv_n rfl) rfl (fun _ _ hρ _ => r_as (r_as (r_eqlA (by kernel_rfl) (hρ _ _ rfl) (hρ _ _ rfl) (run_equalI (l := [(0, .u64), (1, .i64), (2, .u64)]) (by kernel_rfl) rfl rfl)) (bool_as (eqTid x p9))) (bool_as (decide_eq_false hxp)))) all_nil))))))) (end_old rfl rfl (end_old rfl rfl (end_old rfl rfl (end_old rfl rfl (end_old rfl rfl (end_old rfl rfl (end_old rfl rfl (end_new 0 rfl rfl (end_new 1 rfl rfl (end_new 2 rfl rfl (end_new 3 rfl rfl (end_new 4 rfl rfl (end_new 5 rfl rfl end_nil))))))))))))) ?_
      refine T_cond_f rfl ?_
      refine T_skip' ?_
      refine p_blk_n ?_
      refine p_seq ?_
      refine T_region ?_
      refine TL_q (.int .i64 ((k + 1 : Nat) : Int)) (fun _ _ hρ _ => r_as (r_add (hρ _ _ rfl) (hρ _ _ rfl)) (int_as ((wrap64 (by omega) (by omega)).trans (by omega)))) rfl rfl rfl (w_n rfl) ?_
      refine TL_q (.int .i64 ((k + 1 : Nat) : Int)) (fun _ _ hρ _ => r_move (hρ _ _ rfl)) rfl rfl rfl (w_n rfl) ?_
      refine TL_nil ?_
      exact p_at (k + 1) ⟨⟨by omega, no_step hno hp9 (decide_eq_false hxp)⟩, by omega⟩ (sub_cons rfl (sub_cons rfl (sub_cons rfl (sub_cons rfl sub_nil)))) (sub_cons rfl sub_nil)
  · replace h1 := of_decide_eq_false h1
    refine T_exit' ?_
    refine p_then_x ?_
    refine p_then_x ?_
    refine p_blk_x ?_
    refine p_seq ?_
    refine T_seq (T_region ?_)
    refine TL_q (.int .i64 (-1)) (fun _ _ hρ _ => r_assign (hρ _ _ rfl)) rfl rfl rfl (w_n rfl) ?_
    refine TL_seq ?_
    refine T_ret' ?_
    refine ret_of rfl (.int .i64 (-1)) (fun tmps w hk hm => res1 rfl (res_tmp (hk 4 _ rfl))) (fun w hm => ?_)
    have hke : k = l.length := by omega
    subst hke
    rw [List.take_length] at hno
    exact ⟨by rw [idx_none hno], hm.ext⟩

set_option maxHeartbeats 4000000 in
theorem mdue_c (x : List Tid) (a : Option Addr) (capa : Nat) (y : List Tid) (b : Option Addr) (capb : Nat) (every : Int) (w : World) (hv : SliceAt w a capa 3 Tid.cells x) (hcapa : capa ≤ Go.maxLen) (hu : SliceAt w b capb 3 Tid.cells y) (hcapb : capb ≤ Go.maxLen) : Calls Try.prog 3 #[.slice a x.length capa, .slice b y.length capb, .int .i64 every] w fun e w' => e = .returned (.bool true) ∧ Below w.heap.size w w' := by
  have hvl := hv.1
  have hul := hu.1
  unfold Go.maxLen at hcapa hcapb
  refine calls_of_T (l := [.slice a x.length capa, .slice b y.length capb, .int .i64 every]) 122 Try.func3 rfl rfl rfl ?_
  show T _ _ _ [(0, .slice a x.length capa), (1, .slice b y.length capb), (2, .int .i64 every)] []
  refine T_seq (T_region ?_)
  refine TL_q (.bool false) (fun _ _ hρ _ => r_assign (hρ _ _ rfl)) rfl rfl rfl (w_n rfl) ?_
  refine TL_seq ?_
  refine T_seq ?_
  refine T_seq (T_region ?_)
  refine TL_call (.bool true) (fun _ _ hρ _ => r_call (args := []) (enters_of Try.func8 (by kernel_rfl) rfl) (hρ _ _ rfl) (by rfl) rfl) (fun w _ => wakes_c w) rfl rfl rfl (w_n rfl) ?_
  refine TL_q (.bool false) (fun _ _ hρ _ => r_not (b := true) (hρ _ _ rfl)) rfl rfl rfl (w_n rfl) ?_
  refine TL_seq ?_
  refine T_cond_f rfl ?_
  refine T_skip' ?_
  refine p_seq ?_
  refine T_seq (T_region ?_)
  refine TL_q (.slice a x.length capa) (fun _ _ hρ _ => r_move (hρ _ _ rfl)) rfl rfl rfl (w_n rfl) ?_
  refine TL_callN (fun (_ : Option Addr × Nat) => True) (fun (ar1, cr1) => .slice ar1 ((x.take 6).length) cr1) (fun (ar1, cr1) => [(951, .row (.slice ar1 ((x.take 6).length) cr1) 32 3 ((x.take 6).length) ((x.take 6).flatMap Tid.cells))]) (fun _ _ hρ _ => r_call (args := [.slice a x.length capa, .int .i64 6]) (enters_of Try.func10 (by kernel_rfl) rfl) (hρ _ _ rfl) ((cons2 (hρ _ _ rfl) (cons2 (hρ _ _ rfl) rfl))) rfl) (fun w hm => (few_c x a capa 6 w (hv.keep hm.ext) hcapa (by omega)).mono fun e w' ⟨a', cap', he, hb, hr⟩ => ⟨(a', cap'), trivial, he, hb, newOk1 951 hr⟩) rfl rfl rfl (w_n rfl) ?_
  rintro ⟨ar1, cr1⟩ -
  refine TL_callN (fun ((mr2, cs2, ar2, cr2) : List Mk × List Cv × Option Addr × Nat) => idsM mr2 = x.take 6 ∧ PaintOk mr2 cs2 0) (fun (mr2, cs2, ar2, cr2) => .slice ar2 mr2.length cr2) (fun (mr2, cs2, ar2, cr2) => [(952, .row (.slice ar2 mr2.length cr2) 36 4 mr2.length (mr2.flatMap Mk.cells)), (962, .cvs cs2)]) (fun _ _ hρ _ => r_call (args := [.slice ar1 ((x.take 6).length) cr1, .int .i64 0]) (enters_of Try.func9 (by kernel_rfl) rfl) (hρ _ _ rfl) ((cons2 (hρ _ _ rfl) (cons2 (hρ _ _ rfl) rfl))) rfl) (fun w hm => (row_c (x.take 6) ar1 cr1 0 w (SliceAt.own Tid.cells_len (hm.row 951 rfl) rfl rfl) (row_cap (hm.row 951 rfl)) (by omega) (by rw [List.length_take]; omega)).mono fun e w' ⟨m, c, a', cap', he, hb, hn, h1, h2⟩ => ⟨(m, c, a', cap'), ⟨h1, h2⟩, he, hb, newOk_at 952 962 (by decide) hn⟩) rfl rfl rfl (w_n rfl) ?_
  rintro ⟨mr2, cs2, ar2, cr2⟩ hr2
  refine TL_q (.slice b y.length capb) (fun _ _ hρ _ => r_move (hρ _ _ rfl)) rfl rfl rfl (w_n rfl) ?_
  refine TL_callN (fun (_ : Option Addr × Nat) => True) (fun (ar3, cr3) => .slice ar3 ((y.take 60).length) cr3) (fun (ar3, cr3) => [(953, .row (.slice ar3 ((y.take 60).length) cr3) 32 3 ((y.take 60).length) ((y.take 60).flatMap Tid.cells))]) (fun _ _ hρ _ => r_call (args := [.slice b y.length capb, .int .i64 60]) (enters_of Try.func10 (by kernel_rfl) rfl) (hρ _ _ rfl) ((cons2 (hρ _ _ rfl) (cons2 (hρ _ _ rfl) rfl))) rfl) (fun w hm => (few_c y b capb 60 w (hu.keep hm.ext) hcapb (by omega)).mono fun e w' ⟨a', cap', he, hb, hr⟩ => ⟨(a', cap'), trivial, he, hb, newOk1 953 hr⟩) rfl rfl rfl (w_n rfl) ?_
  rintro ⟨ar3, cr3⟩ -
  refine TL_q (.slice ar2 mr2.length cr2) (fun _ _ hρ _ => r_assign (hρ _ _ rfl)) rfl rfl rfl (w_n rfl) ?_
  refine TL_q (.slice ar3 ((y.take 60).length) cr3) (fun _ _ hρ _ => r_assign (hρ _ _ rfl)) rfl rfl rfl (w_n rfl) ?_
  refine TL_seq ?_
  obtain ⟨L, hL⟩ : ∃ z, z = y.take 60 := ⟨_, rfl⟩
  rw [← hL]
  have hLl : L.length ≤ 60 := by rw [hL, List.length_take]; omega
  have hMl : mr2.length ≤ 6 := by rw [← ids_len, hr2.1, List.length_take]; omega
  refine T_seq (T_region ?_)
  refine TL_q (.int .i64 every) (fun _ _ hρ _ => r_move (hρ _ _ rfl)) rfl rfl rfl (w_n rfl) ?_
  refine TL_q (.int .u64 (IntKind.wrap .u64 every)) (fun _ _ hρ _ => r_conv un3 io28 (hρ _ _ rfl)) rfl rfl rfl (w_n rfl) ?_
  obtain ⟨m9, hm9, he9⟩ := u7_of every
  refine TL_q (.int .u64 ((m9 : Nat) : Int)) (fun _ _ hρ _ => r_as (r_rem (hρ _ _ rfl) (hρ _ _ rfl) (by decide)) (int_as he9)) rfl rfl rfl (w_n rfl) ?_
  refine TL_q (.int .i64 ((m9 : Nat) : Int)) (fun _ _ hρ _ => r_as (r_conv un28 io3 (hρ _ _ rfl)) (int_as (wrap64 (by omega) (by omega)))) rfl rfl rfl (w_n rfl) ?_
  refine TL_q (.int .i64 ((1 + m9 : Nat) : Int)) (fun _ _ hρ _ => r_as (r_add (hρ _ _ rfl) (hρ _ _ rfl)) (int_as ((wrap64 (by omega) (by omega)).trans (by omega)))) rfl rfl rfl (w_n rfl) ?_
  refine TL_q (.int .i64 ((1 + m9 : Nat) : Int)) (fun _ _ hρ _ => r_assign (hρ _ _ rfl)) rfl rfl rfl (w_n rfl) ?_
  refine TL_seq ?_
  by_cases hdk : marksB mr2 = true ∧ upB L = true ∧ L.all okI = true
  · skip
    obtain ⟨c, hD⟩ := due_of (ms := idsM mr2) (l := L) (n := (1 + m9)) (upB_up hdk.2.1) (by omega)
    have hDn : (dueI (idsM mr2) L (1 + m9)).length ≤ 60 := by rw [hD.len]; exact Nat.le_trans (Nat.div_le_self _ _) (by omega)
    refine T_seq (T_region ?_)
    refine TL_q (.slice ar2 mr2.length cr2) (fun _ _ hρ _ => r_move (hρ _ _ rfl)) rfl rfl rfl (w_n rfl) ?_
    refine TL_q (.slice ar3 L.length cr3) (fun _ _ hρ _ => r_move (hρ _ _ rfl)) rfl rfl rfl (w_n rfl) ?_
    refine TL_q (.int .i64 ((1 + m9 : Nat) : Int)) (fun _ _ hρ _ => r_move (hρ _ _ rfl)) rfl rfl rfl (w_n rfl) ?_
    refine TL_callN (fun (_ : Option Addr × Nat) => True) (fun (ar4, cr4) => .slice ar4 ((dueI (idsM mr2) L (1 + m9)).length) cr4) (fun (ar4, cr4) => [(954, .row (.slice ar4 ((dueI (idsM mr2) L (1 + m9)).length) cr4) 32 3 ((dueI (idsM mr2) L (1 + m9)).length) ((dueI (idsM mr2) L (1 + m9)).flatMap Tid.cells))]) (fun _ _ hρ _ => r_call (args := [.slice ar2 mr2.length cr2, .slice ar3 L.length cr3, .int .i64 ((1 + m9 : Nat) : Int)]) (enters_of Try.func11 (by kernel_rfl) rfl) (hρ _ _ rfl) ((cons2 (hρ _ _ rfl) (cons2 (hρ _ _ rfl) (cons2 (hρ _ _ rfl) rfl)))) rfl) (fun w hm => (due_ok (1 + m9) mr2 ar2 cr2 L ar3 cr3 w (SliceAt.own Mk.cells_len (hm.row 952 rfl) rfl rfl) (row_cap (hm.row 952 rfl)) (SliceAt.own Tid.cells_len (hm.row 953 rfl) rfl rfl) (row_cap (hm.row 953 rfl)) (by omega) hdk.1 (by omega) (by omega) hdk.2.1 hdk.2.2).mono fun e w' ⟨a', cap', he, hb, hr⟩ => ⟨(a', cap'), trivial, he, hb, newOk1 954 hr⟩) rfl rfl rfl (w_n rfl) ?_
    rintro ⟨ar4, cr4⟩ -
    refine TL_q (.slice ar4 ((dueI (idsM mr2) L (1 + m9)).length) cr4) (fun _ _ hρ _ => r_assign (hρ _ _ rfl)) rfl rfl rfl (w_n rfl) ?_
    refine TL_seq ?_
    refine T_seq (T_region ?_)
    refine TL_q (.int .i64 (-1)) (fun _ _ hρ _ => r_assign (hρ _ _ rfl)) rfl rfl rfl (w_n rfl) ?_
    refine TL_seq ?_
    refine T_seq ?_
    refine T_seq (T_region ?_)
    refine TL_q (.slice ar3 L.length cr3) (fun _ _ hρ _ => r_move (hρ _ _ rfl)) rfl rfl rfl (w_n rfl) ?_
    refine TL_q (.int .i64 ((L.length : Nat) : Int)) (fun _ _ hρ _ => r_len sl22 (hρ _ _ rfl)) rfl rfl rfl (w_n rfl) ?_
    refine TL_q (.int .i64 0) (fun _ _ hρ _ => r_move (hρ _ _ rfl)) rfl rfl rfl (w_n rfl) ?_
    refine TL_seq ?_
    refine T_block ?_
    refine T_loop (ι := Nat × Int) (fun (z : Nat × Int) => match z with | (k, at1) => k ≤ L.length ∧ at1 = lastN (behI (idsM mr2)) L k) (fun (z : Nat × Int) => match z with | (k, at1) => [(6, .bool false), (7, .slice ar2 mr2.length cr2), (8, .slice ar3 L.length cr3), (2, .int .i64 ((1 + m9 : Nat) : Int)), (9, .slice ar4 ((dueI (idsM mr2) L (1 + m9)).length) cr4), (34, .slice ar3 L.length cr3), (35, .int .i64 ((L.length : Nat) : Int)), (36, .int .i64 ((k : Nat) : Int)), (10, .int .i64 at1)]) (fun (z : Nat × Int) => match z with | (k, at1) => [(954, .row (.slice ar4 ((dueI (idsM mr2) L (1 + m9)).length) cr4) 32 3 ((dueI (idsM mr2) L (1 + m9)).length) ((dueI (idsM mr2) L (1 + m9)).flatMap Tid.cells)), (953, .row (.slice ar3 L.length cr3) 32 3 L.length (L.flatMap Tid.cells)), (952, .row (.slice ar2 mr2.length cr2) 36 4 mr2.length (mr2.flatMap Mk.cells)), (962, .cvs cs2), (951, .row (.slice ar1 ((x.take 6).length) cr1) 32 3 ((x.take 6).length) ((x.take 6).flatMap Tid.cells))]) (fun (z : Nat × Int) => match z with | (k, at1) => L.length - k) (0, -1) ⟨Nat.zero_le _, rfl⟩ (sub_cons rfl (sub_cons rfl (sub_cons rfl (sub_cons rfl (sub_cons rfl (sub_cons rfl (sub_cons rfl (sub_cons rfl (sub_cons rfl sub_nil))))))))) (sub_cons rfl (sub_cons rfl (sub_cons rfl (sub_cons rfl (sub_cons rfl sub_nil))))) ?_
    rintro ⟨k, at1⟩ hp
    obtain ⟨hk, hat⟩ := hp
    show T _ _ _ [(6, .bool false), (7, .slice ar2 mr2.length cr2), (8, .slice ar3 L.length cr3), (2, .int .i64 ((1 + m9 : Nat) : Int)), (9, .slice ar4 ((dueI (idsM mr2) L (1 + m9)).length) cr4), (34, .slice ar3 L.length cr3), (35, .int .i64 ((L.length : Nat) : Int)), (36, .int .i64 ((k : Nat) : Int)), (10, .int .i64 at1)] [(954, .row (.slice ar4 ((dueI (idsM mr2) L (1 + m9)).length) cr4) 32 3 ((dueI (idsM mr2) L (1 + m9)).length) ((dueI (idsM mr2) L (1 + m9)).flatMap Tid.cells)), (953, .row (.slice ar3 L.length cr3) 32 3 L.length (L.flatMap Tid.cells)), (952, .row (.slice ar2 mr2.length cr2) 36 4 mr2.length (mr2.flatMap Mk.cells)), (962, .cvs cs2), (951, .row (.slice ar1 ((x.take 6).length) cr1) 32 3 ((x.take 6).length) ((x.take 6).flatMap Tid.cells))]
    refine T_seq (T_region ?_)
    refine TL_q (.bool (decide (((k : Nat) : Int) < ((L.length : Nat) : Int)))) (fun _ _ hρ _ => r_lss (hρ _ _ rfl) (hρ _ _ rfl)) rfl rfl rfl (w_n rfl) ?_
    refine TL_seq ?_
    refine T_seq ?_
    refine T_cond rfl (fun h1 => ?_) (fun h1 => ?_)
    · replace h1 := of_decide_eq_true h1
      refine T_skip' ?_
      refine p_seq ?_
      refine T_seq ?_
      refine T_block ?_
      obtain ⟨d9, hd9⟩ : ∃ x, L[k]? = some x := ⟨_, List.getElem?_eq_getElem (by omega)⟩
      refine T_row 953 rfl (by omega) (fun g5 ha5 => ?_)
      subst ha5
      refine T_rowcap 953 rfl (fun hrc5 => ?_)
      refine T_seq (T_region ?_)
      refine TL_q (.int .i64 ((k : Nat) : Int)) (fun _ _ hρ _ => r_move (hρ _ _ rfl)) rfl rfl rfl (w_n rfl) ?_
      refine TL_q (.pointer (some ⟨g5, 0 + k * 3, none⟩)) (fun _ _ hρ _ => r_indexAddrS (i := k) sl22 sz32 (hρ _ _ rfl) (hρ _ _ rfl) (by omega)) rfl rfl rfl (w_n rfl) ?_
      refine TL_q (.agg #[.int .u64 d9.t, .int .i64 d9.s, .int .u64 d9.q]) (fun _ _ hρ hm => r_loadOwn (f := Tid.cells) (u := d9) (l := L) ag32 sz32 (hρ _ _ rfl) (hm.row 953 rfl) rfl rfl Tid.cells_len hd9) rfl rfl rfl (w_n rfl) ?_
      refine TL_new 1 (.cells #[.int .u64 0, .int .i64 0, .int .u64 0] 32) (fun B => .pointer (some ⟨B, 0, none⟩)) (fun _ _ _ _ => r_alloc (v := .agg #[.int .u64 0, .int .i64 0, .int .u64 0]) (by kernel_rfl) rfl) rfl rfl rfl (w_n rfl) ?_
      intro B6
      refine TL_q (.int .i64 ((k : Nat) : Int)) (fun _ _ hρ _ => r_assign (hρ _ _ rfl)) rfl rfl rfl (w_n rfl) ?_
      refine TL_store 1 (.cells #[.int .u64 d9.t, .int .i64 d9.s, .int .u64 d9.q] 32) rfl (fun _ _ hρ hm => r_store sz32 (hρ _ _ rfl) (hρ _ _ rfl) (hm.at 1 rfl) rfl rfl rfl rfl) rfl rfl (w_n rfl) ?_
      refine TL_seq ?_
      by_cases hz : (0 : Int) < ((mr2.length : Nat) : Int)
      · skip
        obtain ⟨y9, hy9⟩ : ∃ x, mr2[mr2.length - 1]? = some x := ⟨_, List.getElem?_eq_getElem (by omega)⟩
        refine T_row 952 rfl (by omega) (fun g7 ha7 => ?_)
        subst ha7
        refine T_rowcap 952 rfl (fun hrc7 => ?_)
        by_cases hl : lessI y9.i d9 = true
        · skip
          refine T_seq (T_draw (V := [(0, .slice (some ⟨g7, 0, none⟩) mr2.length cr2), (1, .int .i64 ((mr2.length : Nat) : Int)), (2, .bool true), (3, .bool true), (4, .slice (some ⟨g7, 0, none⟩) mr2.length cr2), (5, .slice (some ⟨g7, 0, none⟩) mr2.length cr2), (6, .int .i64 ((mr2.length : Nat) : Int)), (7, .int .i64 ((mr2.length - 1 : Nat) : Int)), (8, .pointer (some ⟨g7, 0 + (mr2.length - 1) * 4, none⟩)), (9, .pointer (some ⟨g7, 0 + (mr2.length - 1) * 4, none⟩)), (10, .agg #[.int .u64 y9.i.t, .int .i64 y9.i.s, .int .u64 y9.i.q]), (11, .agg #[.int .u64 d9.t, .int .i64 d9.s, .int .u64 d9.q])]) [0, 1, 3, 7, 15, 15, 47, 111, 255, 511, 1023, 15, 4095, 8191, 16383] [[(7, none)], [(41, some 0)], [(42, some 1)], [(43, some 2)], [(7, none)], [(7, none)], [(46, some 5)], [(47, some 6)], [(45, some 4), (48, some 7)], [(49, some 8)], [(50, some 9)], [(12, none)], [(51, some 10), (52, some 11)], [(53, some 12)], [(54, some 13), (44, some 3)]] 4096 mixed (by kernel_rfl) ?_)
          refine G_step [0, 1, 2, 3, 4, 5, 6, 7, 8, 9, 10, 11] 12 [] (by kernel_rfl) (allM (all_cons (q_run (.slice (some ⟨g7, 0, none⟩) mr2.length cr2) rfl rfl (wv_n rfl) rfl (fun _ _ hρ _ => r_move (hρ _ _ rfl))) (all_cons (q_run (.int .i64 ((mr2.length : Nat) : Int)) rfl rfl (wv_n rfl) rfl (fun _ _ hρ _ => r_len sl25 (hρ _ _ rfl))) (all_cons (q_run (.bool true) rfl rfl (wv_n rfl) rfl (fun _ _ hρ _ => r_as (r_gtr (hρ _ _ rfl) (hρ _ _ rfl)) (bool_as (decide_eq_true hz)))) (all_cons (q_run (.bool true) rfl rfl (wv_n rfl) rfl (fun _ _ hρ _ => r_move (hρ _ _ rfl))) (all_cons (q_run (.slice (some ⟨g7, 0, none⟩) mr2.length cr2) rfl rfl (wv_y rfl rfl) rfl (fun _ _ hρ _ => r_move (hρ _ _ rfl))) (all_cons (q_run (.slice (some ⟨g7, 0, none⟩) mr2.length cr2) rfl rfl (wv_y rfl rfl) rfl (fun _ _ hρ _ => r_move (hρ _ _ rfl))) (all_cons (q_run (.int .i64 ((mr2.length : Nat) : Int)) rfl rfl (wv_y rfl rfl) rfl (fun _ _ hρ _ => r_len sl25 (hρ _ _ rfl))) (all_cons (q_run (.int .i64 ((mr2.length - 1 : Nat) : Int)) rfl rfl (wv_y rfl rfl) rfl (fun _ _ hρ _ => r_as (r_sub (hρ _ _ rfl) (hρ _ _ rfl)) (int_as ((wrap64 (by omega) (by omega)).trans (by omega))))) (all_cons (q_run (.pointer (some ⟨g7, 0 + (mr2.length - 1) * 4, none⟩)) rfl rfl (wv_y rfl rfl) rfl (fun _ _ hρ _ => r_indexAddrS (i := mr2.length - 1) sl25 sz36 (hρ _ _ rfl) (hρ _ _ rfl) (by omega))) (all_cons (q_run (.pointer (some ⟨g7, 0 + (mr2.length - 1) * 4, none⟩)) rfl rfl (wv_y rfl rfl) rfl (fun _ _ hρ _ => r_fieldAddr (off := 0 + (mr2.length - 1) * 4) fl36_0 sz32 (hρ _ _ rfl))) (all_cons (q_run (.agg #[.int .u64 y9.i.t, .int .i64 y9.i.s, .int .u64 y9.i.q]) rfl rfl (wv_y rfl rfl) rfl (fun _ _ hρ hm => r_loadOwnP (f := Mk.cells) (u := y9) (l := mr2) ag32 sz32 (hρ _ _ rfl) (hm.row 952 rfl) rfl rfl Mk.cells_len hy9 rfl rfl)) (all_cons (q_run (.agg #[.int .u64 d9.t, .int .i64 d9.s, .int .u64 d9.q]) rfl rfl (wv_y rfl rfl) rfl (fun _ _ hρ hm => r_loadA ag32 sz32 (hρ _ _ rfl) (hm.at 1 rfl) rfl rfl)) all_nil))))))))))))) (allM (all_cons ?_ all_nil))
          refine LOb_call (.bool true) [(13, .bool false), (14, .bool false)] rfl (wv_y rfl rfl) rfl rfl (fun _ _ hρ _ => r_call (args := [.agg #[.int .u64 y9.i.t, .int .i64 y9.i.s, .int .u64 y9.i.q], .agg #[.int .u64 d9.t, .int .i64 d9.s, .int .u64 d9.q]]) (enters_of Try.func12 (by kernel_rfl) rfl) (hρ _ _ rfl) ((cons2 (hρ _ _ rfl) (cons2 (hρ _ _ rfl) rfl))) rfl) (fun w _ => (less_c y9.i d9 w).mono fun _ _ h => ⟨h.1.trans (congrArg Ending.returned (bool_as hl)), h.2⟩) (by kernel_rfl) ?_
          refine G_last [13, 14] [(6, .bool false), (7, .slice (some ⟨g7, 0, none⟩) mr2.length cr2), (8, .slice (some ⟨g5, 0, none⟩) L.length cr3), (2, .int .i64 ((1 + m9 : Nat) : Int)), (9, .slice ar4 ((dueI (idsM mr2) L (1 + m9)).length) cr4), (34, .slice (some ⟨g5, 0, none⟩) L.length cr3), (35, .int .i64 ((L.length : Nat) : Int)), (36, .int .i64 ((k : Nat) : Int)), (10, .int .i64 at1), (37, .bool (decide (((k : Nat) : Int) < ((L.length : Nat) : Int)))), (38, .int .i64 ((k : Nat) : Int)), (39, .pointer (some ⟨g5, 0 + k * 3, none⟩)), (40, .agg #[.int .u64 d9.t, .int .i64 d9.s, .int .u64 d9.q]), (12, .pointer (some ⟨B6, 0, none⟩)), (11, .int .i64 ((k : Nat) : Int)), (41, .slice (some ⟨g7, 0, none⟩) mr2.length cr2), (42, .int .i64 ((mr2.length : Nat) : Int)), (43, .bool true), (44, .bool true), (45, .slice (some ⟨g7, 0, none⟩) mr2.length cr2), (46, .slice (some ⟨g7, 0, none⟩) mr2.length cr2), (47, .int .i64 ((mr2.length : Nat) : Int)), (48, .int .i64 ((mr2.length - 1 : Nat) : Int)), (49, .pointer (some ⟨g7, 0 + (mr2.length - 1) * 4, none⟩)), (50, .pointer (some ⟨g7, 0 + (mr2.length - 1) * 4, none⟩)), (51, .agg #[.int .u64 y9.i.t, .int .i64 y9.i.s, .int .u64 y9.i.q]), (52, .agg #[.int .u64 d9.t, .int .i64 d9.s, .int .u64 d9.q]), (53, .bool true), (54, .bool false), (55, .bool false)] (by kernel_rfl) (allM (all_cons (q_run (.bool false) rfl rfl (wv_y rfl rfl) rfl (fun _ _ hρ _ => r_not (b := true) (hρ _ _ rfl))) (all_cons (q_run (.bool false) rfl rfl (wv_n rfl) rfl (fun _ _ hρ _ => r_pick_t (hρ _ _ rfl) (hρ _ _ rfl))) all_nil))) (end_old rfl rfl (end_old rfl rfl (end_old rfl rfl (end_old rfl rfl (end_old rfl rfl (end_old rfl rfl (end_old rfl rfl (end_old rfl rfl (end_old rfl rfl (end_old rfl rfl (end_old rfl rfl (end_old rfl rfl (end_old rfl rfl (end_old rfl rfl (end_old rfl rfl (end_new 0 rfl rfl (end_new 1 rfl rfl (end_new 2 rfl rfl (end_new 3 rfl rfl (end_new 4 rfl rfl (end_new 5 rfl rfl (end_new 6 rfl rfl (end_new 7 rfl rfl (end_new 8 rfl rfl (end_new 9 rfl rfl (end_new 10 rfl rfl (end_new 11 rfl rfl (end_new 12 rfl rfl (end_new 13 rfl rfl (end_new 14 rfl rfl end_nil)))))))))))))))))))))))))))))) ?_
          refine T_cond_f rfl ?_
          refine T_skip' ?_
          refine p_blk_n ?_
          refine p_seq ?_
          refine T_region ?_
          refine TL_q (.int .i64 ((k + 1 : Nat) : Int)) (fun _ _ hρ _ => r_as (r_add (hρ _ _ rfl) (hρ _ _ rfl)) (int_as ((wrap64 (by omega) (by omega)).trans (by omega)))) rfl rfl rfl (w_n rfl) ?_
          refine TL_q (.int .i64 ((k + 1 : Nat) : Int)) (fun _ _ hρ _ => r_move (hρ _ _ rfl)) rfl rfl rfl (w_n rfl) ?_
          refine TL_nil ?_
          exact p_at (k + 1, at1) ⟨⟨by omega, by rw [last_t hd9 (beh_t hy9 hl)]; exact hat⟩, by dsimp only; omega⟩ (sub_cons rfl (sub_cons rfl (sub_cons rfl (sub_cons rfl (sub_cons rfl (sub_cons rfl (sub_cons rfl (sub_cons rfl (sub_cons rfl sub_nil))))))))) (sub_cons rfl (sub_cons rfl (sub_cons rfl (sub_cons rfl (sub_cons rfl sub_nil)))))
        · skip
          refine T_seq (T_draw (V := [(0, .slice (some ⟨g7, 0, none⟩) mr2.length cr2), (1, .int .i64 ((mr2.length : Nat) : Int)), (2, .bool true), (3, .bool true), (4, .slice (some ⟨g7, 0, none⟩) mr2.length cr2), (5, .slice (some ⟨g7, 0, none⟩) mr2.length cr2), (6, .int .i64 ((mr2.length : Nat) : Int)), (7, .int .i64 ((mr2.length - 1 : Nat) : Int)), (8, .pointer (some ⟨g7, 0 + (mr2.length - 1) * 4, none⟩)), (9, .pointer (some ⟨g7, 0 + (mr2.length - 1) * 4, none⟩)), (10, .agg #[.int .u64 y9.i.t, .int .i64 y9.i.s, .int .u64 y9.i.q]), (11, .agg #[.int .u64 d9.t, .int .i64 d9.s, .int .u64 d9.q])]) [0, 1, 3, 7, 15, 15, 47, 111, 255, 511, 1023, 15, 4095, 8191, 16383] [[(7, none)], [(41, some 0)], [(42, some 1)], [(43, some 2)], [(7, none)], [(7, none)], [(46, some 5)], [(47, some 6)], [(45, some 4), (48, some 7)], [(49, some 8)], [(50, some 9)], [(12, none)], [(51, some 10), (52, some 11)], [(53, some 12)], [(54, some 13), (44, some 3)]] 4096 mixed (by kernel_rfl) ?_)
          refine G_step [0, 1, 2, 3, 4, 5, 6, 7, 8, 9, 10, 11] 12 [] (by kernel_rfl) (allM (all_cons (q_run (.slice (some ⟨g7, 0, none⟩) mr2.length cr2) rfl rfl (wv_n rfl) rfl (fun _ _ hρ _ => r_move (hρ _ _ rfl))) (all_cons (q_run (.int .i64 ((mr2.length : Nat) : Int)) rfl rfl (wv_n rfl) rfl (fun _ _ hρ _ => r_len sl25 (hρ _ _ rfl))) (all_cons (q_run (.bool true) rfl rfl (wv_n rfl) rfl (fun _ _ hρ _ => r_as (r_gtr (hρ _ _ rfl) (hρ _ _ rfl)) (bool_as (decide_eq_true hz)))) (all_cons (q_run (.bool true) rfl rfl (wv_n rfl) rfl (fun _ _ hρ _ => r_move (hρ _ _ rfl))) (all_cons (q_run (.slice (some ⟨g7, 0, none⟩) mr2.length cr2) rfl rfl (wv_y rfl rfl) rfl (fun _ _ hρ _ => r_move (hρ _ _ rfl))) (all_cons (q_run (.slice (some ⟨g7, 0, none⟩) mr2.length cr2) rfl rfl (wv_y rfl rfl) rfl (fun _ _ hρ _ => r_move (hρ _ _ rfl))) (all_cons (q_run (.int .i64 ((mr2.length : Nat) : Int)) rfl rfl (wv_y rfl rfl) rfl (fun _ _ hρ _ => r_len sl25 (hρ _ _ rfl))) (all_cons (q_run (.int .i64 ((mr2.length - 1 : Nat) : Int)) rfl rfl (wv_y rfl rfl) rfl (fun _ _ hρ _ => r_as (r_sub (hρ _ _ rfl) (hρ _ _ rfl)) (int_as ((wrap64 (by omega) (by omega)).trans (by omega))))) (all_cons (q_run (.pointer (some ⟨g7, 0 + (mr2.length - 1) * 4, none⟩)) rfl rfl (wv_y rfl rfl) rfl (fun _ _ hρ _ => r_indexAddrS (i := mr2.length - 1) sl25 sz36 (hρ _ _ rfl) (hρ _ _ rfl) (by omega))) (all_cons (q_run (.pointer (some ⟨g7, 0 + (mr2.length - 1) * 4, none⟩)) rfl rfl (wv_y rfl rfl) rfl (fun _ _ hρ _ => r_fieldAddr (off := 0 + (mr2.length - 1) * 4) fl36_0 sz32 (hρ _ _ rfl))) (all_cons (q_run (.agg #[.int .u64 y9.i.t, .int .i64 y9.i.s, .int .u64 y9.i.q]) rfl rfl (wv_y rfl rfl) rfl (fun _ _ hρ hm => r_loadOwnP (f := Mk.cells) (u := y9) (l := mr2) ag32 sz32 (hρ _ _ rfl) (hm.row 952 rfl) rfl rfl Mk.cells_len hy9 rfl rfl)) (all_cons (q_run (.agg #[.int .u64 d9.t, .int .i64 d9.s, .int .u64 d9.q]) rfl rfl (wv_y rfl rfl) rfl (fun _ _ hρ hm => r_loadA ag32 sz32 (hρ _ _ rfl) (hm.at 1 rfl) rfl rfl)) all_nil))))))))))))) (allM (all_cons ?_ all_nil))
          refine LOb_call (.bool false) [(13, .bool true), (14, .bool true)] rfl (wv_y rfl rfl) rfl rfl (fun _ _ hρ _ => r_call (args := [.agg #[.int .u64 y9.i.t, .int .i64 y9.i.s, .int .u64 y9.i.q], .agg #[.int .u64 d9.t, .int .i64 d9.s, .int .u64 d9.q]]) (enters_of Try.func12 (by kernel_rfl) rfl) (hρ _ _ rfl) ((cons2 (hρ _ _ rfl) (cons2 (hρ _ _ rfl) rfl))) rfl) (fun w _ => (less_c y9.i d9 w).mono fun _ _ h => ⟨h.1.trans (congrArg Ending.returned (bool_as (eq_false_of_ne_true hl))), h.2⟩) (by kernel_rfl) ?_
          refine G_last [13, 14] [(6, .bool false), (7, .slice (some ⟨g7, 0, none⟩) mr2.length cr2), (8, .slice (some ⟨g5, 0, none⟩) L.length cr3), (2, .int .i64 ((1 + m9 : Nat) : Int)), (9, .slice ar4 ((dueI (idsM mr2) L (1 + m9)).length) cr4), (34, .slice (some ⟨g5, 0, none⟩) L.length cr3), (35, .int .i64 ((L.length : Nat) : Int)), (36, .int .i64 ((k : Nat) : Int)), (10, .int .i64 at1), (37, .bool (decide (((k : Nat) : Int) < ((L.length : Nat) : Int)))), (38, .int .i64 ((k : Nat) : Int)), (39, .pointer (some ⟨g5, 0 + k * 3, none⟩)), (40, .agg #[.int .u64 d9.t, .int .i64 d9.s, .int .u64 d9.q]), (12, .pointer (some ⟨B6, 0, none⟩)), (11, .int .i64 ((k : Nat) : Int)), (41, .slice (some ⟨g7, 0, none⟩) mr2.length cr2), (42, .int .i64 ((mr2.length : Nat) : Int)), (43, .bool true), (44, .bool true), (45, .slice (some ⟨g7, 0, none⟩) mr2.length cr2), (46, .slice (some ⟨g7, 0, none⟩) mr2.length cr2), (47, .int .i64 ((mr2.length : Nat) : Int)), (48, .int .i64 ((mr2.length - 1 : Nat) : Int)), (49, .pointer (some ⟨g7, 0 + (mr2.length - 1) * 4, none⟩)), (50, .pointer (some ⟨g7, 0 + (mr2.length - 1) * 4, none⟩)), (51, .agg #[.int .u64 y9.i.t, .int .i64 y9.i.s, .int .u64 y9.i.q]), (52, .agg #[.int .u64 d9.t, .int .i64 d9.s, .int .u64 d9.q]), (53, .bool false), (54, .bool true), (55, .bool true)] (by kernel_rfl) (allM (all_cons (q_run (.bool true) rfl rfl (wv_y rfl rfl) rfl (fun _ _ hρ _ => r_not (b := false) (hρ _ _ rfl))) (all_cons (q_run (.bool true) rfl rfl (wv_n rfl) rfl (fun _ _ hρ _ => r_pick_t (hρ _ _ rfl) (hρ _ _ rfl))) all_nil))) (end_old rfl rfl (end_old rfl rfl (end_old rfl rfl (end_old rfl rfl (end_old rfl rfl (end_old rfl rfl (end_old rfl rfl (end_old rfl rfl (end_old rfl rfl (end_old rfl rfl (end_old rfl rfl (end_old rfl rfl (end_old rfl rfl (end_old rfl rfl (end_old rfl rfl (end_new 0 rfl rfl (end_new 1 rfl rfl (end_new 2 rfl rfl (end_new 3 rfl rfl (end_new 4 rfl rfl (end_new 5 rfl rfl (end_new 6 rfl rfl (end_new 7 rfl rfl (end_new 8 rfl rfl (end_new 9 rfl rfl (end_new 10 rfl rfl (end_new 11 rfl rfl (end_new 12 rfl rfl (end_new 13 rfl rfl (end_new 14 rfl rfl end_nil)))))))))))))))))))))))))))))) ?_
          refine T_cond_t rfl ?_
          refine T_region ?_
          refine TL_q (.int .i64 ((k : Nat) : Int)) (fun _ _ hρ _ => r_move (hρ _ _ rfl)) rfl rfl rfl (w_n rfl) ?_
          refine TL_q (.int .i64 ((k : Nat) : Int)) (fun _ _ hρ _ => r_assign (hρ _ _ rfl)) rfl rfl rfl (w_n rfl) ?_
          refine TL_nil ?_
          refine p_blk_n ?_
          refine p_seq ?_
          refine T_region ?_
          refine TL_q (.int .i64 ((k + 1 : Nat) : Int)) (fun _ _ hρ _ => r_as (r_add (hρ _ _ rfl) (hρ _ _ rfl)) (int_as ((wrap64 (by omega) (by omega)).trans (by omega)))) rfl rfl rfl (w_n rfl) ?_
          refine TL_q (.int .i64 ((k + 1 : Nat) : Int)) (fun _ _ hρ _ => r_move (hρ _ _ rfl)) rfl rfl rfl (w_n rfl) ?_
          refine TL_nil ?_
          exact p_at (k + 1, ((k : Nat) : Int)) ⟨⟨by omega, (last_f hd9 (beh_f hy9 hl)).symm⟩, by dsimp only; omega⟩ (sub_cons rfl (sub_cons rfl (sub_cons rfl (sub_cons rfl (sub_cons rfl (sub_cons rfl (sub_cons rfl (sub_cons rfl (sub_cons rfl sub_nil))))))))) (sub_cons rfl (sub_cons rfl (sub_cons rfl (sub_cons rfl (sub_cons rfl sub_nil)))))
      · skip
        refine T_seq (T_draw (V := [(0, .slice ar2 mr2.length cr2), (1, .int .i64 ((mr2.length : Nat) : Int)), (2, .bool false), (3, .bool false), (4, undef), (5, undef), (6, undef), (7, undef), (8, undef), (9, undef), (10, undef), (11, undef), (12, undef), (13, undef), (14, .bool false)]) [0, 1, 3, 7, 15, 15, 47, 111, 255, 511, 1023, 15, 4095, 8191, 16383] [[(7, none)], [(41, some 0)], [(42, some 1)], [(43, some 2)], [(7, none)], [(7, none)], [(46, some 5)], [(47, some 6)], [(45, some 4), (48, some 7)], [(49, some 8)], [(50, some 9)], [(12, none)], [(51, some 10), (52, some 11)], [(53, some 12)], [(54, some 13), (44, some 3)]] 0 mixed (by kernel_rfl) ?_)
        refine G_last [0, 1, 2, 3, 4, 5, 6, 7, 8, 9, 10, 11, 12, 13, 14] [(6, .bool false), (7, .slice ar2 mr2.length cr2), (8, .slice (some ⟨g5, 0, none⟩) L.length cr3), (2, .int .i64 ((1 + m9 : Nat) : Int)), (9, .slice ar4 ((dueI (idsM mr2) L (1 + m9)).length) cr4), (34, .slice (some ⟨g5, 0, none⟩) L.length cr3), (35, .int .i64 ((L.length : Nat) : Int)), (36, .int .i64 ((k : Nat) : Int)), (10, .int .i64 at1), (37, .bool (decide (((k : Nat) : Int) < ((L.length : Nat) : Int)))), (38, .int .i64 ((k : Nat) : Int)), (39, .pointer (some ⟨g5, 0 + k * 3, none⟩)), (40, .agg #[.int .u64 d9.t, .int .i64 d9.s, .int .u64 d9.q]), (12, .pointer (some ⟨B6, 0, none⟩)), (11, .int .i64 ((k : Nat) : Int)), (41, .slice ar2 mr2.length cr2), (42, .int .i64 ((mr2.length : Nat) : Int)), (43, .bool false), (44, .bool false), (45, undef), (46, undef), (47, undef), (48, undef), (49, undef), (50, undef), (51, undef), (52, undef), (53, undef), (54, undef), (55, .bool false)] (by kernel_rfl) (allM (all_cons (q_run (.slice ar2 mr2.length cr2) rfl rfl (wv_n rfl) rfl (fun _ _ hρ _ => r_move (hρ _ _ rfl))) (all_cons (q_run (.int .i64 ((mr2.length : Nat) : Int)) rfl rfl (wv_n rfl) rfl (fun _ _ hρ _ => r_len sl25 (hρ _ _ rfl))) (all_cons (q_run (.bool false) rfl rfl (wv_n rfl) rfl (fun _ _ hρ _ => r_as (r_gtr (hρ _ _ rfl) (hρ _ _ rfl)) (bool_as (decide_eq_false hz)))) (all_cons (q_run (.bool false) rfl rfl (wv_n rfl) rfl (fun _ _ hρ _ => r_move (hρ _ _ rfl))) (all_cons (q_no rfl rfl (wv_no rfl rfl)) (all_cons (q_no rfl rfl (wv_no rfl rfl)) (all_cons (q_no rfl rfl (wv_no rfl rfl)) (all_cons (q_no rfl rfl (wv_no rfl rfl)) (all_cons (q_no rfl rfl (wv_no rfl rfl)) (all_cons (q_no rfl rfl (wv_no rfl rfl)) (all_cons (q_no rfl rfl (wv_no rfl rfl)) (all_cons (q_no rfl rfl (wv_no rfl rfl)) (all_cons (q_no rfl rfl (wv_no rfl rfl)) (all_cons (q_no rfl rfl (wv_no rfl rfl)) (all_cons (q_run (.bool false) rfl rfl (wv_n rfl) rfl (fun _ _ hρ _ => r_pick_f (hρ _ _ rfl) (hρ _ _ rfl))) all_nil)))))))))))))))) (end_old rfl rfl (end_old rfl rfl (end_old rfl rfl (end_old rfl rfl (end_old rfl rfl (end_old rfl rfl (end_old rfl rfl (end_old rfl rfl (end_old rfl rfl (end_old rfl rfl (end_old rfl rfl (end_old rfl rfl (end_old rfl rfl (end_old rfl rfl (end_old rfl rfl (end_new 0 rfl rfl (end_new 1 rfl rfl (end_new 2 rfl rfl (end_new 3 rfl rfl (end_new 4 rfl rfl (end_new 5 rfl rfl (end_new 6 rfl rfl (end_new 7 rfl rfl (end_new 8 rfl rfl (end_new 9 rfl rfl (end_new 10 rfl rfl (end_new 11 rfl rfl (end_new 12 rfl rfl (end_new 13 rfl rfl (end_new 14 rfl rfl end_nil)))))))))))))))))))))))))))))) ?_
        refine T_cond_f rfl ?_
        refine T_skip' ?_
        refine p_blk_n ?_
        refine p_seq ?_
        refine T_region ?_
        refine TL_q (.int .i64 ((k + 1 : Nat) : Int)) (fun _ _ hρ _ => r_as (r_add (hρ _ _ rfl) (hρ _ _ rfl)) (int_as ((wrap64 (by omega) (by omega)).trans (by omega)))) rfl rfl rfl (w_n rfl) ?_
        refine TL_q (.int .i64 ((k + 1 : Nat) : Int)) (fun _ _ hρ _ => r_move (hρ _ _ rfl)) rfl rfl rfl (w_n rfl) ?_
        refine TL_nil ?_
        exact p_at (k + 1, at1) ⟨⟨by omega, by rw [last_t hd9 (beh_z (by omega))]; exact hat⟩, by dsimp only; omega⟩ (sub_cons rfl (sub_cons rfl (sub_cons rfl (sub_cons rfl (sub_cons rfl (sub_cons rfl (sub_cons rfl (sub_cons rfl (sub_cons rfl sub_nil))))))))) (sub_cons rfl (sub_cons rfl (sub_cons rfl (sub_cons rfl (sub_cons rfl sub_nil)))))
    · replace h1 := of_decide_eq_false h1
      refine T_exit' ?_
      refine p_then_x ?_
      refine p_then_x ?_
      refine p_blk_x ?_
      refine p_seq ?_
      refine T_seq ?_
      have hkL : k = L.length := by omega
      have hli := last_in (behI (idsM mr2)) L k
      rw [← hat] at hli
      have hat0 : at1 = (c : Int) - 1 := by rw [hat, hkL, hD.last]
      have hDle := hD.le
      refine T_seq (T_region ?_)
      refine TL_q (.slice ar4 ((dueI (idsM mr2) L (1 + m9)).length) cr4) (fun _ _ hρ _ => r_move (hρ _ _ rfl)) rfl rfl rfl (w_n rfl) ?_
      refine TL_q (.int .i64 (((dueI (idsM mr2) L (1 + m9)).length : Nat) : Int)) (fun _ _ hρ _ => r_len sl22 (hρ _ _ rfl)) rfl rfl rfl (w_n rfl) ?_
      refine TL_q (.int .i64 0) (fun _ _ hρ _ => r_move (hρ _ _ rfl)) rfl rfl rfl (w_n rfl) ?_
      refine TL_seq ?_
      refine T_block ?_
      refine T_loop (ι := Nat × Int) (fun (z : Nat × Int) => match z with | (k2, at2) => k2 ≤ (dueI (idsM mr2) L (1 + m9)).length ∧ at2 = (c : Int) - 1 + ((k2 * (1 + m9) : Nat) : Int) ∧ at2 ≤ 60 ∧ -1 ≤ at2) (fun (z : Nat × Int) => match z with | (k2, at2) => [(7, .slice ar2 mr2.length cr2), (8, .slice ar3 L.length cr3), (2, .int .i64 ((1 + m9 : Nat) : Int)), (9, .slice ar4 ((dueI (idsM mr2) L (1 + m9)).length) cr4), (58, .slice ar4 ((dueI (idsM mr2) L (1 + m9)).length) cr4), (59, .int .i64 (((dueI (idsM mr2) L (1 + m9)).length : Nat) : Int)), (60, .int .i64 ((k2 : Nat) : Int)), (10, .int .i64 at2)]) (fun (z : Nat × Int) => match z with | (k2, at2) => [(954, .row (.slice ar4 ((dueI (idsM mr2) L (1 + m9)).length) cr4) 32 3 ((dueI (idsM mr2) L (1 + m9)).length) ((dueI (idsM mr2) L (1 + m9)).flatMap Tid.cells)), (953, .row (.slice ar3 L.length cr3) 32 3 L.length (L.flatMap Tid.cells)), (952, .row (.slice ar2 mr2.length cr2) 36 4 mr2.length (mr2.flatMap Mk.cells)), (962, .cvs cs2), (951, .row (.slice ar1 ((x.take 6).length) cr1) 32 3 ((x.take 6).length) ((x.take 6).flatMap Tid.cells))]) (fun (z : Nat × Int) => match z with | (k2, at2) => (dueI (idsM mr2) L (1 + m9)).length - k2) (0, at1) ⟨Nat.zero_le _, by rw [hat0, Nat.zero_mul]; omega, by omega, by omega⟩ (sub_cons rfl (sub_cons rfl (sub_cons rfl (sub_cons rfl (sub_cons rfl (sub_cons rfl (sub_cons rfl (sub_cons rfl sub_nil)))))))) (sub_cons rfl (sub_cons rfl (sub_cons rfl (sub_cons rfl (sub_cons rfl sub_nil))))) ?_
      rintro ⟨k2, at2⟩ hp
      obtain ⟨hk2, hat2, hab2, hac2⟩ := hp
      show T _ _ _ [(7, .slice ar2 mr2.length cr2), (8, .slice ar3 L.length cr3), (2, .int .i64 ((1 + m9 : Nat) : Int)), (9, .slice ar4 ((dueI (idsM mr2) L (1 + m9)).length) cr4), (58, .slice ar4 ((dueI (idsM mr2) L (1 + m9)).length) cr4), (59, .int .i64 (((dueI (idsM mr2) L (1 + m9)).length : Nat) : Int)), (60, .int .i64 ((k2 : Nat) : Int)), (10, .int .i64 at2)] [(954, .row (.slice ar4 ((dueI (idsM mr2) L (1 + m9)).length) cr4) 32 3 ((dueI (idsM mr2) L (1 + m9)).length) ((dueI (idsM mr2) L (1 + m9)).flatMap Tid.cells)), (953, .row (.slice ar3 L.length cr3) 32 3 L.length (L.flatMap Tid.cells)), (952, .row (.slice ar2 mr2.length cr2) 36 4 mr2.length (mr2.flatMap Mk.cells)), (962, .cvs cs2), (951, .row (.slice ar1 ((x.take 6).length) cr1) 32 3 ((x.take 6).length) ((x.take 6).flatMap Tid.cells))]
      refine T_seq (T_region ?_)
      refine TL_q (.bool (decide (((k2 : Nat) : Int) < (((dueI (idsM mr2) L (1 + m9)).length : Nat) : Int)))) (fun _ _ hρ _ => r_lss (hρ _ _ rfl) (hρ _ _ rfl)) rfl rfl rfl (w_n rfl) ?_
      refine TL_seq ?_
      refine T_seq ?_
      refine T_cond rfl (fun h2 => ?_) (fun h2 => ?_)
      · replace h2 := of_decide_eq_true h2
        refine T_skip' ?_
        refine p_seq ?_
        refine T_seq ?_
        refine T_block ?_
        obtain ⟨e9, he9⟩ : ∃ x, (dueI (idsM mr2) L (1 + m9))[k2]? = some x := ⟨_, List.getElem?_eq_getElem (by omega)⟩
        refine T_row 954 rfl (by omega) (fun g8 ha8 => ?_)
        subst ha8
        refine T_rowcap 954 rfl (fun hrc8 => ?_)
        refine T_seq (T_region ?_)
        refine TL_q (.pointer (some ⟨g8, 0 + k2 * 3, none⟩)) (fun _ _ hρ _ => r_indexAddrS (i := k2) sl22 sz32 (hρ _ _ rfl) (hρ _ _ rfl) (by omega)) rfl rfl rfl (w_n rfl) ?_
        refine TL_q (.agg #[.int .u64 e9.t, .int .i64 e9.s, .int .u64 e9.q]) (fun _ _ hρ hm => r_loadOwn (f := Tid.cells) (u := e9) (l := (dueI (idsM mr2) L (1 + m9))) ag32 sz32 (hρ _ _ rfl) (hm.row 954 rfl) rfl rfl Tid.cells_len he9) rfl rfl rfl (w_n rfl) ?_
        refine TL_new 2 (.cells #[.int .u64 0, .int .i64 0, .int .u64 0] 32) (fun B => .pointer (some ⟨B, 0, none⟩)) (fun _ _ _ _ => r_alloc (v := .agg #[.int .u64 0, .int .i64 0, .int .u64 0]) (by kernel_rfl) rfl) rfl rfl rfl (w_n rfl) ?_
        intro B9
        refine TL_store 2 (.cells #[.int .u64 e9.t, .int .i64 e9.s, .int .u64 e9.q] 32) rfl (fun _ _ hρ hm => r_store sz32 (hρ _ _ rfl) (hρ _ _ rfl) (hm.at 2 rfl) rfl rfl rfl rfl) rfl rfl (w_n rfl) ?_
        refine TL_seq ?_
        have hst := due_step hD (upB_up hdk.2.1) (by omega) he9
        have hnb : (k2 + 1) * (1 + m9) = k2 * (1 + m9) + (1 + m9) := by rw [Nat.add_mul, Nat.one_mul]
        have hst1 := hst.2.2
        rw [hnb] at hst1
        refine T_seq (T_region ?_)
        refine TL_q (.slice ar3 L.length cr3) (fun _ _ hρ _ => r_move (hρ _ _ rfl)) rfl rfl rfl (w_n rfl) ?_
        refine TL_q (.agg #[.int .u64 e9.t, .int .i64 e9.s, .int .u64 e9.q]) (fun _ _ hρ hm => r_loadA ag32 sz32 (hρ _ _ rfl) (hm.at 2 rfl) rfl rfl) rfl rfl rfl (w_n rfl) ?_
        refine TL_call (.int .i64 (at2 + (((1 + m9) : Nat) : Int))) (fun _ _ hρ _ => r_call (args := [.slice ar3 L.length cr3, .agg #[.int .u64 e9.t, .int .i64 e9.s, .int .u64 e9.q]]) (enters_of Try.func13 (by kernel_rfl) rfl) (hρ _ _ rfl) ((cons2 (hρ _ _ rfl) (cons2 (hρ _ _ rfl) rfl))) rfl) (fun w hm => (index_c L ar3 cr3 e9 w (SliceAt.own Tid.cells_len (hm.row 953 rfl) rfl rfl) (row_cap (hm.row 953 rfl))).mono fun _ _ h => ⟨h.1.trans (congrArg Ending.returned (int_as (by rw [hst.1, hnb, hat2]; omega))), h.2⟩) rfl rfl rfl (w_n rfl) ?_
        refine TL_q (.int .i64 (at2 + (((1 + m9) : Nat) : Int))) (fun _ _ hρ _ => r_assign (hρ _ _ rfl)) rfl rfl rfl (w_n rfl) ?_
        refine TL_seq ?_
        refine T_seq ?_
        by_cases hz : (0 : Int) < ((mr2.length : Nat) : Int)
        · skip
          obtain ⟨y9, hy9⟩ : ∃ x, mr2[mr2.length - 1]? = some x := ⟨_, List.getElem?_eq_getElem (by omega)⟩
          refine T_row 952 rfl (by omega) (fun g10 ha10 => ?_)
          subst ha10
          refine T_rowcap 952 rfl (fun hrc10 => ?_)
          have hl9 : lessI y9.i e9 = true := by have h := hst.2.1; rw [beh_last hy9] at h; exact h
          refine T_seq (T_draw (V := [(0, .int .i64 (at2 + (((1 + m9) : Nat) : Int))), (1, .int .i64 at2), (2, .int .i64 ((1 + m9 : Nat) : Int)), (3, .int .i64 (at2 + (((1 + m9) : Nat) : Int))), (4, .bool false), (5, .bool false), (6, .slice (some ⟨g10, 0, none⟩) mr2.length cr2), (7, .int .i64 ((mr2.length : Nat) : Int)), (8, .bool true), (9, .bool true), (10, .slice (some ⟨g10, 0, none⟩) mr2.length cr2), (11, .slice (some ⟨g10, 0, none⟩) mr2.length cr2), (12, .int .i64 ((mr2.length : Nat) : Int)), (13, .int .i64 ((mr2.length - 1 : Nat) : Int)), (14, .pointer (some ⟨g10, 0 + (mr2.length - 1) * 4, none⟩)), (15, .pointer (some ⟨g10, 0 + (mr2.length - 1) * 4, none⟩)), (16, .agg #[.int .u64 y9.i.t, .int .i64 y9.i.s, .int .u64 y9.i.q]), (17, .agg #[.int .u64 e9.t, .int .i64 e9.s, .int .u64 e9.q])]) [0, 0, 0, 6, 15, 31, 63, 127, 255, 511, 1023, 1023, 3071, 7167, 16383, 32767, 65535, 1023, 262143, 524287, 1048575, 2097151] [[(15, none)], [(10, none)], [(2, none)], [(68, some 1), (69, some 2)], [(67, some 0), (70, some 3)], [(71, some 4)], [(7, none)], [(73, some 6)], [(74, some 7)], [(75, some 8)], [(7, none)], [(7, none)], [(78, some 11)], [(79, some 12)], [(77, some 10), (80, some 13)], [(81, some 14)], [(82, some 15)], [(14, none)], [(83, some 16), (84, some 17)], [(85, some 18)], [(86, some 19), (76, some 9)], [(87, some 20), (72, some 5)]] 262144 mixed (by kernel_rfl) ?_)
          refine G_step [0, 1, 2, 3, 4, 5, 6, 7, 8, 9, 10, 11, 12, 13, 14, 15, 16, 17] 18 [] (by kernel_rfl) (allM (all_cons (q_run (.int .i64 (at2 + (((1 + m9) : Nat) : Int))) rfl rfl (wv_n rfl) rfl (fun _ _ hρ _ => r_move (hρ _ _ rfl))) (all_cons (q_run (.int .i64 at2) rfl rfl (wv_n rfl) rfl (fun _ _ hρ _ => r_move (hρ _ _ rfl))) (all_cons (q_run (.int .i64 ((1 + m9 : Nat) : Int)) rfl rfl (wv_n rfl) rfl (fun _ _ hρ _ => r_move (hρ _ _ rfl))) (all_cons (q_run (.int .i64 (at2 + (((1 + m9) : Nat) : Int))) rfl rfl (wv_n rfl) rfl (fun _ _ hρ _ => r_as (r_add (hρ _ _ rfl) (hρ _ _ rfl)) (int_as (wrap64 (by omega) (by omega))))) (all_cons (q_run (.bool false) rfl rfl (wv_n rfl) rfl (fun _ _ hρ _ => r_as (r_neq (hρ _ _ rfl) (hρ _ _ rfl)) (bool_as (by simp)))) (all_cons (q_run (.bool false) rfl rfl (wv_n rfl) rfl (fun _ _ hρ _ => r_move (hρ _ _ rfl))) (all_cons (q_run (.slice (some ⟨g10, 0, none⟩) mr2.length cr2) rfl rfl (wv_y rfl rfl) rfl (fun _ _ hρ _ => r_move (hρ _ _ rfl))) (all_cons (q_run (.int .i64 ((mr2.length : Nat) : Int)) rfl rfl (wv_y rfl rfl) rfl (fun _ _ hρ _ => r_len sl25 (hρ _ _ rfl))) (all_cons (q_run (.bool true) rfl rfl (wv_y rfl rfl) rfl (fun _ _ hρ _ => r_as (r_gtr (hρ _ _ rfl) (hρ _ _ rfl)) (bool_as (decide_eq_true hz)))) (all_cons (q_run (.bool true) rfl rfl (wv_y rfl rfl) rfl (fun _ _ hρ _ => r_move (hρ _ _ rfl))) (all_cons (q_run (.slice (some ⟨g10, 0, none⟩) mr2.length cr2) rfl rfl (wv_y rfl rfl) rfl (fun _ _ hρ _ => r_move (hρ _ _ rfl))) (all_cons (q_run (.slice (some ⟨g10, 0, none⟩) mr2.length cr2) rfl rfl (wv_y rfl rfl) rfl (fun _ _ hρ _ => r_move (hρ _ _ rfl))) (all_cons (q_run (.int .i64 ((mr2.length : Nat) : Int)) rfl rfl (wv_y rfl rfl) rfl (fun _ _ hρ _ => r_len sl25 (hρ _ _ rfl))) (all_cons (q_run (.int .i64 ((mr2.length - 1 : Nat) : Int)) rfl rfl (wv_y rfl rfl) rfl (fun _ _ hρ _ => r_as (r_sub (hρ _ _ rfl) (hρ _ _ rfl)) (int_as ((wrap64 (by omega) (by omega)).trans (by omega))))) (all_cons (q_run (.pointer (some ⟨g10, 0 + (mr2.length - 1) * 4, none⟩)) rfl rfl (wv_y rfl rfl) rfl (fun _ _ hρ _ => r_indexAddrS (i := mr2.length - 1) sl25 sz36 (hρ _ _ rfl) (hρ _ _ rfl) (by omega))) (all_cons (q_run (.pointer (some ⟨g10, 0 + (mr2.length - 1) * 4, none⟩)) rfl rfl (wv_y rfl rfl) rfl (fun _ _ hρ _ => r_fieldAddr (off := 0 + (mr2.length - 1) * 4) fl36_0 sz32 (hρ _ _ rfl))) (all_cons (q_run (.agg #[.int .u64 y9.i.t, .int .i64 y9.i.s, .int .u64 y9.i.q]) rfl rfl (wv_y rfl rfl) rfl (fun _ _ hρ hm => r_loadOwnP (f := Mk.cells) (u := y9) (l := mr2) ag32 sz32 (hρ _ _ rfl) (hm.row 952 rfl) rfl rfl Mk.cells_len hy9 rfl rfl)) (all_cons (q_run (.agg #[.int .u64 e9.t, .int .i64 e9.s, .int .u64 e9.q]) rfl rfl (wv_y rfl rfl) rfl (fun _ _ hρ hm => r_loadA ag32 sz32 (hρ _ _ rfl) (hm.at 2 rfl) rfl rfl)) all_nil))))))))))))))))))) (allM (all_cons ?_ all_nil))
          refine LOb_call (.bool true) [(19, .bool false), (20, .bool false), (21, .bool false)] rfl (wv_y rfl rfl) rfl rfl (fun _ _ hρ _ => r_call (args := [.agg #[.int .u64 y9.i.t, .int .i64 y9.i.s, .int .u64 y9.i.q], .agg #[.int .u64 e9.t, .int .i64 e9.s, .int .u64 e9.q]]) (enters_of Try.func12 (by kernel_rfl) rfl) (hρ _ _ rfl) ((cons2 (hρ _ _ rfl) (cons2 (hρ _ _ rfl) rfl))) rfl) (fun w _ => (less_c y9.i e9 w).mono fun _ _ h => ⟨h.1.trans (congrArg Ending.returned (bool_as hl9)), h.2⟩) (by kernel_rfl) ?_
          refine G_last [19, 20, 21] [(7, .slice (some ⟨g10, 0, none⟩) mr2.length cr2), (8, .slice ar3 L.length cr3), (2, .int .i64 ((1 + m9 : Nat) : Int)), (9, .slice (some ⟨g8, 0, none⟩) ((dueI (idsM mr2) L (1 + m9)).length) cr4), (58, .slice (some ⟨g8, 0, none⟩) ((dueI (idsM mr2) L (1 + m9)).length) cr4), (59, .int .i64 (((dueI (idsM mr2) L (1 + m9)).length : Nat) : Int)), (60, .int .i64 ((k2 : Nat) : Int)), (10, .int .i64 at2), (61, .bool (decide (((k2 : Nat) : Int) < (((dueI (idsM mr2) L (1 + m9)).length : Nat) : Int)))), (62, .pointer (some ⟨g8, 0 + k2 * 3, none⟩)), (63, .agg #[.int .u64 e9.t, .int .i64 e9.s, .int .u64 e9.q]), (14, .pointer (some ⟨B9, 0, none⟩)), (64, .slice ar3 L.length cr3), (65, .agg #[.int .u64 e9.t, .int .i64 e9.s, .int .u64 e9.q]), (66, .int .i64 (at2 + (((1 + m9) : Nat) : Int))), (15, .int .i64 (at2 + (((1 + m9) : Nat) : Int))), (67, .int .i64 (at2 + (((1 + m9) : Nat) : Int))), (68, .int .i64 at2), (69, .int .i64 ((1 + m9 : Nat) : Int)), (70, .int .i64 (at2 + (((1 + m9) : Nat) : Int))), (71, .bool false), (72, .bool false), (73, .slice (some ⟨g10, 0, none⟩) mr2.length cr2), (74, .int .i64 ((mr2.length : Nat) : Int)), (75, .bool true), (76, .bool true), (77, .slice (some ⟨g10, 0, none⟩) mr2.length cr2), (78, .slice (some ⟨g10, 0, none⟩) mr2.length cr2), (79, .int .i64 ((mr2.length : Nat) : Int)), (80, .int .i64 ((mr2.length - 1 : Nat) : Int)), (81, .pointer (some ⟨g10, 0 + (mr2.length - 1) * 4, none⟩)), (82, .pointer (some ⟨g10, 0 + (mr2.length - 1) * 4, none⟩)), (83, .agg #[.int .u64 y9.i.t, .int .i64 y9.i.s, .int .u64 y9.i.q]), (84, .agg #[.int .u64 e9.t, .int .i64 e9.s, .int .u64 e9.q]), (85, .bool true), (86, .bool false), (87, .bool false), (88, .bool false)] (by kernel_rfl) (allM (all_cons (q_run (.bool false) rfl rfl (wv_y rfl rfl) rfl (fun _ _ hρ _ => r_not (b := true) (hρ _ _ rfl))) (all_cons (q_run (.bool false) rfl rfl (wv_y rfl rfl) rfl (fun _ _ hρ _ => r_pick_t (hρ _ _ rfl) (hρ _ _ rfl))) (all_cons (q_run (.bool false) rfl rfl (wv_n rfl) rfl (fun _ _ hρ _ => r_pick_f (hρ _ _ rfl) (hρ _ _ rfl))) all_nil)))) (end_old rfl rfl (end_old rfl rfl (end_old rfl rfl (end_old rfl rfl (end_old rfl rfl (end_old rfl rfl (end_old rfl rfl (end_old rfl rfl (end_old rfl rfl (end_old rfl rfl (end_old rfl rfl (end_old rfl rfl (end_old rfl rfl (end_old rfl rfl (end_old rfl rfl (end_old rfl rfl (end_new 0 rfl rfl (end_new 1 rfl rfl (end_new 2 rfl rfl (end_new 3 rfl rfl (end_new 4 rfl rfl (end_new 5 rfl rfl (end_new 6 rfl rfl (end_new 7 rfl rfl (end_new 8 rfl rfl (end_new 9 rfl rfl (end_new 10 rfl rfl (end_new 11 rfl rfl (end_new 12 rfl rfl (end_new 13 rfl rfl (end_new 14 rfl rfl (end_new 15 rfl rfl (end_new 16 rfl rfl (end_new 17 rfl rfl (end_new 18 rfl rfl (end_new 19 rfl rfl (end_new 20 rfl rfl (end_new 21 rfl rfl end_nil)))))))))))))))))))))))))))))))))))))) ?_
          refine T_cond_f rfl ?_
          refine T_skip' ?_
          refine p_seq ?_
          refine T_region ?_
          refine TL_q (.int .i64 (at2 + (((1 + m9) : Nat) : Int))) (fun _ _ hρ _ => r_move (hρ _ _ rfl)) rfl rfl rfl (w_n rfl) ?_
          refine TL_q (.int .i64 (at2 + (((1 + m9) : Nat) : Int))) (fun _ _ hρ _ => r_assign (hρ _ _ rfl)) rfl rfl rfl (w_n rfl) ?_
          refine TL_nil ?_
          refine p_blk_n ?_
          refine p_seq ?_
          refine T_region ?_
          refine TL_q (.int .i64 ((k2 + 1 : Nat) : Int)) (fun _ _ hρ _ => r_as (r_add (hρ _ _ rfl) (hρ _ _ rfl)) (int_as ((wrap64 (by omega) (by omega)).trans (by omega)))) rfl rfl rfl (w_n rfl) ?_
          refine TL_q (.int .i64 ((k2 + 1 : Nat) : Int)) (fun _ _ hρ _ => r_move (hρ _ _ rfl)) rfl rfl rfl (w_n rfl) ?_
          refine TL_nil ?_
          exact p_at (k2 + 1, (at2 + (((1 + m9) : Nat) : Int))) ⟨⟨by omega, by rw [hat2, hnb]; omega, by omega, by omega⟩, by dsimp only; omega⟩ (sub_cons rfl (sub_cons rfl (sub_cons rfl (sub_cons rfl (sub_cons rfl (sub_cons rfl (sub_cons rfl (sub_cons rfl sub_nil)))))))) (sub_cons rfl (sub_cons rfl (sub_cons rfl (sub_cons rfl (sub_cons rfl sub_nil)))))
        · skip
          refine T_seq (T_draw (V := [(0, .int .i64 (at2 + (((1 + m9) : Nat) : Int))), (1, .int .i64 at2), (2, .int .i64 ((1 + m9 : Nat) : Int)), (3, .int .i64 (at2 + (((1 + m9) : Nat) : Int))), (4, .bool false), (5, .bool false), (6, .slice ar2 mr2.length cr2), (7, .int .i64 ((mr2.length : Nat) : Int)), (8, .bool false), (9, .bool false), (10, undef), (11, undef), (12, undef), (13, undef), (14, undef), (15, undef), (16, undef), (17, undef), (18, undef), (19, undef), (20, .bool false), (21, .bool false)]) [0, 0, 0, 6, 15, 31, 63, 127, 255, 511, 1023, 1023, 3071, 7167, 16383, 32767, 65535, 1023, 262143, 524287, 1048575, 2097151] [[(15, none)], [(10, none)], [(2, none)], [(68, some 1), (69, some 2)], [(67, some 0), (70, some 3)], [(71, some 4)], [(7, none)], [(73, some 6)], [(74, some 7)], [(75, some 8)], [(7, none)], [(7, none)], [(78, some 11)], [(79, some 12)], [(77, some 10), (80, some 13)], [(81, some 14)], [(82, some 15)], [(14, none)], [(83, some 16), (84, some 17)], [(85, some 18)], [(86, some 19), (76, some 9)], [(87, some 20), (72, some 5)]] 0 mixed (by kernel_rfl) ?_)
          refine G_last [0, 1, 2, 3, 4, 5, 6, 7, 8, 9, 10, 11, 12, 13, 14, 15, 16, 17, 18, 19, 20, 21] [(7, .slice ar2 mr2.length cr2), (8, .slice ar3 L.length cr3), (2, .int .i64 ((1 + m9 : Nat) : Int)), (9, .slice (some ⟨g8, 0, none⟩) ((dueI (idsM mr2) L (1 + m9)).length) cr4), (58, .slice (some ⟨g8, 0, none⟩) ((dueI (idsM mr2) L (1 + m9)).length) cr4), (59, .int .i64 (((dueI (idsM mr2) L (1 + m9)).length : Nat) : Int)), (60, .int .i64 ((k2 : Nat) : Int)), (10, .int .i64 at2), (61, .bool (decide (((k2 : Nat) : Int) < (((dueI (idsM mr2) L (1 + m9)).length : Nat) : Int)))), (62, .pointer (some ⟨g8, 0 + k2 * 3, none⟩)), (63, .agg #[.int .u64 e9.t, .int .i64 e9.s, .int .u64 e9.q]), (14, .pointer (some ⟨B9, 0, none⟩)), (64, .slice ar3 L.length cr3), (65, .agg #[.int .u64 e9.t, .int .i64 e9.s, .int .u64 e9.q]), (66, .int .i64 (at2 + (((1 + m9) : Nat) : Int))), (15, .int .i64 (at2 + (((1 + m9) : Nat) : Int))), (67, .int .i64 (at2 + (((1 + m9) : Nat) : Int))), (68, .int .i64 at2), (69, .int .i64 ((1 + m9 : Nat) : Int)), (70, .int .i64 (at2 + (((1 + m9) : Nat) : Int))), (71, .bool false), (72, .bool false), (73, .slice ar2 mr2.length cr2), (74, .int .i64 ((mr2.length : Nat) : Int)), (75, .bool false), (76, .bool false), (77, undef), (78, undef), (79, undef), (80, undef), (81, undef), (82, undef), (83, undef), (84, undef), (85, undef), (86, undef), (87, .bool false), (88, .bool false)] (by kernel_rfl) (allM (all_cons (q_run (.int .i64 (at2 + (((1 + m9) : Nat) : Int))) rfl rfl (wv_n rfl) rfl (fun _ _ hρ _ => r_move (hρ _ _ rfl))) (all_cons (q_run (.int .i64 at2) rfl rfl (wv_n rfl) rfl (fun _ _ hρ _ => r_move (hρ _ _ rfl))) (all_cons (q_run (.int .i64 ((1 + m9 : Nat) : Int)) rfl rfl (wv_n rfl) rfl (fun _ _ hρ _ => r_move (hρ _ _ rfl))) (all_cons (q_run (.int .i64 (at2 + (((1 + m9) : Nat) : Int))) rfl rfl (wv_n rfl) rfl (fun _ _ hρ _ => r_as (r_add (hρ _ _ rfl) (hρ _ _ rfl)) (int_as (wrap64 (by omega) (by omega))))) (all_cons (q_run (.bool false) rfl rfl (wv_n rfl) rfl (fun _ _ hρ _ => r_as (r_neq (hρ _ _ rfl) (hρ _ _ rfl)) (bool_as (by simp)))) (all_cons (q_run (.bool false) rfl rfl (wv_n rfl) rfl (fun _ _ hρ _ => r_move (hρ _ _ rfl))) (all_cons (q_run (.slice ar2 mr2.length cr2) rfl rfl (wv_y rfl rfl) rfl (fun _ _ hρ _ => r_move (hρ _ _ rfl))) (all_cons (q_run (.int .i64 ((mr2.length : Nat) : Int)) rfl rfl (wv_y rfl rfl) rfl (fun _ _ hρ _ => r_len sl25 (hρ _ _ rfl))) (all_cons (q_run (.bool false) rfl rfl (wv_y rfl rfl) rfl (fun _ _ hρ _ => r_as (r_gtr (hρ _ _ rfl) (hρ _ _ rfl)) (bool_as (decide_eq_false hz)))) (all_cons (q_run (.bool false) rfl rfl (wv_y rfl rfl) rfl (fun _ _ hρ _ => r_move (hρ _ _ rfl))) (all_cons (q_no rfl rfl (wv_no rfl rfl)) (all_cons (q_no rfl rfl (wv_no rfl rfl)) (all_cons (q_no rfl rfl (wv_no rfl rfl)) (all_cons (q_no rfl rfl (wv_no rfl rfl)) (all_cons (q_no rfl rfl (wv_no rfl rfl)) (all_cons (q_no rfl rfl (wv_no rfl rfl)) (all_cons (q_no rfl rfl (wv_no rfl rfl)) (all_cons (q_no rfl rfl (wv_no rfl rfl)) (all_cons (q_no rfl rfl (wv_no rfl rfl)) (all_cons (q_no rfl rfl (wv_no rfl rfl)) (all_cons (q_run (.bool false) rfl rfl (wv_y rfl rfl) rfl (fun _ _ hρ _ => r_pick_f (hρ _ _ rfl) (hρ _ _ rfl))) (all_cons (q_run (.bool false) rfl rfl (wv_n rfl) rfl (fun _ _ hρ _ => r_pick_f (hρ _ _ rfl) (hρ _ _ rfl))) all_nil))))))))))))))))))))))) (end_old rfl rfl (end_old rfl rfl (end_old rfl rfl (end_old rfl rfl (end_old rfl rfl (end_old rfl rfl (end_old rfl rfl (end_old rfl rfl (end_old rfl rfl (end_old rfl rfl (end_old rfl rfl (end_old rfl rfl (end_old rfl rfl (end_old rfl rfl (end_old rfl rfl (end_old rfl rfl (end_new 0 rfl rfl (end_new 1 rfl rfl (end_new 2 rfl rfl (end_new 3 rfl rfl (end_new 4 rfl rfl (end_new 5 rfl rfl (end_new 6 rfl rfl (end_new 7 rfl rfl (end_new 8 rfl rfl (end_new 9 rfl rfl (end_new 10 rfl rfl (end_new 11 rfl rfl (end_new 12 rfl rfl (end_new 13 rfl rfl (end_new 14 rfl rfl (end_new 15 rfl rfl (end_new 16 rfl rfl (end_new 17 rfl rfl (end_new 18 rfl rfl (end_new 19 rfl rfl (end_new 20 rfl rfl (end_new 21 rfl rfl end_nil)))))))))))))))))))))))))))))))))))))) ?_
          refine T_cond_f rfl ?_
          refine T_skip' ?_
          refine p_seq ?_
          refine T_region ?_
          refine TL_q (.int .i64 (at2 + (((1 + m9) : Nat) : Int))) (fun _ _ hρ _ => r_move (hρ _ _ rfl)) rfl rfl rfl (w_n rfl) ?_
          refine TL_q (.int .i64 (at2 + (((1 + m9) : Nat) : Int))) (fun _ _ hρ _ => r_assign (hρ _ _ rfl)) rfl rfl rfl (w_n rfl) ?_
          refine TL_nil ?_
          refine p_blk_n ?_
          refine p_seq ?_
          refine T_region ?_
          refine TL_q (.int .i64 ((k2 + 1 : Nat) : Int)) (fun _ _ hρ _ => r_as (r_add (hρ _ _ rfl) (hρ _ _ rfl)) (int_as ((wrap64 (by omega) (by omega)).trans (by omega)))) rfl rfl rfl (w_n rfl) ?_
          refine TL_q (.int .i64 ((k2 + 1 : Nat) : Int)) (fun _ _ hρ _ => r_move (hρ _ _ rfl)) rfl rfl rfl (w_n rfl) ?_
          refine TL_nil ?_
          exact p_at (k2 + 1, (at2 + (((1 + m9) : Nat) : Int))) ⟨⟨by omega, by rw [hat2, hnb]; omega, by omega, by omega⟩, by dsimp only; omega⟩ (sub_cons rfl (sub_cons rfl (sub_cons rfl (sub_cons rfl (sub_cons rfl (sub_cons rfl (sub_cons rfl (sub_cons rfl sub_nil)))))))) (sub_cons rfl (sub_cons rfl (sub_cons rfl (sub_cons rfl (sub_cons rfl sub_nil)))))
      · replace h2 := of_decide_eq_false h2
        refine T_exit' ?_
        refine p_then_x ?_
        refine p_then_x ?_
        refine p_blk_x ?_
        refine p_seq ?_
        refine T_seq ?_
        refine T_seq (T_region ?_)
        refine TL_q (.slice ar2 mr2.length cr2) (fun _ _ hρ _ => r_move (hρ _ _ rfl)) rfl rfl rfl (w_n rfl) ?_
        refine TL_call (.int .i64 0) (fun _ _ hρ _ => r_call (args := [.slice ar2 mr2.length cr2]) (enters_of Try.func14 (by kernel_rfl) rfl) (hρ _ _ rfl) ((cons2 (hρ _ _ rfl) rfl)) rfl) (fun w hm => (check_c mr2 ar2 cr2 w (SliceAt.own Mk.cells_len (hm.row 952 rfl) rfl rfl) (row_cap (hm.row 952 rfl))).mono fun _ _ h => ⟨h.1.trans (congrArg Ending.returned (int_as (if_pos hdk.1))), h.2⟩) rfl rfl rfl (w_n rfl) ?_
        refine TL_q (.bool false) (fun _ _ hρ _ => r_as (r_neq (hρ _ _ rfl) (hρ _ _ rfl)) (by rfl)) rfl rfl rfl (w_n rfl) ?_
        refine TL_q (.bool false) (fun _ _ hρ _ => r_move (hρ _ _ rfl)) rfl rfl rfl (w_n rfl) ?_
        refine TL_q (.slice ar3 L.length cr3) (fun _ _ hρ _ => r_move (hρ _ _ rfl)) rfl rfl rfl (want_y 94 rfl rfl rfl) ?_
        refine TL_call (.bool true) (fun _ _ hρ _ => r_call (args := [.slice ar3 L.length cr3]) (enters_of Try.func15 (by kernel_rfl) rfl) (hρ _ _ rfl) ((cons2 (hρ _ _ rfl) rfl)) rfl) (fun w hm => (rising_c L ar3 cr3 w (SliceAt.own Tid.cells_len (hm.row 953 rfl) rfl rfl) (row_cap (hm.row 953 rfl))).mono fun _ _ h => ⟨h.1.trans (congrArg Ending.returned (bool_as hdk.2.1)), h.2⟩) rfl rfl rfl (want_y 94 rfl rfl rfl) ?_
        refine TL_q (.bool false) (fun _ _ hρ _ => r_not (b := true) (hρ _ _ rfl)) rfl rfl rfl (want_y 94 rfl rfl rfl) ?_
        refine TL_q (.bool false) (fun _ _ hρ _ => r_pick_f (hρ _ _ rfl) (hρ _ _ rfl)) rfl rfl rfl (w_n rfl) ?_
        refine TL_seq ?_
        refine T_cond_f rfl ?_
        refine T_skip' ?_
        refine p_seq ?_
        refine T_seq ?_
        refine T_seq (T_region ?_)
        refine TL_q (.slice ar3 L.length cr3) (fun _ _ hρ _ => r_move (hρ _ _ rfl)) rfl rfl rfl (w_n rfl) ?_
        refine TL_q (.int .i64 ((L.length : Nat) : Int)) (fun _ _ hρ _ => r_len sl22 (hρ _ _ rfl)) rfl rfl rfl (w_n rfl) ?_
        refine TL_q (.int .i64 0) (fun _ _ hρ _ => r_move (hρ _ _ rfl)) rfl rfl rfl (w_n rfl) ?_
        refine TL_seq ?_
        refine T_block ?_
        refine T_loop (ι := Nat) (fun (k3 : Nat) => k3 ≤ L.length) (fun (k3 : Nat) => [(8, .slice ar3 L.length cr3), (2, .int .i64 ((1 + m9 : Nat) : Int)), (9, .slice ar4 ((dueI (idsM mr2) L (1 + m9)).length) cr4), (10, .int .i64 at2), (102, .slice ar3 L.length cr3), (103, .int .i64 ((L.length : Nat) : Int)), (104, .int .i64 ((k3 : Nat) : Int))]) (fun (k3 : Nat) => [(954, .row (.slice ar4 ((dueI (idsM mr2) L (1 + m9)).length) cr4) 32 3 ((dueI (idsM mr2) L (1 + m9)).length) ((dueI (idsM mr2) L (1 + m9)).flatMap Tid.cells)), (953, .row (.slice ar3 L.length cr3) 32 3 L.length (L.flatMap Tid.cells)), (952, .row (.slice ar2 mr2.length cr2) 36 4 mr2.length (mr2.flatMap Mk.cells)), (962, .cvs cs2), (951, .row (.slice ar1 ((x.take 6).length) cr1) 32 3 ((x.take 6).length) ((x.take 6).flatMap Tid.cells))]) (fun (k3 : Nat) => L.length - k3) 0 (Nat.zero_le _) (sub_cons rfl (sub_cons rfl (sub_cons rfl (sub_cons rfl (sub_cons rfl (sub_cons rfl (sub_cons rfl sub_nil))))))) (sub_cons rfl (sub_cons rfl (sub_cons rfl (sub_cons rfl (sub_cons rfl sub_nil))))) ?_
        rintro k3 hp
        have hk3 := hp
        show T _ _ _ [(8, .slice ar3 L.length cr3), (2, .int .i64 ((1 + m9 : Nat) : Int)), (9, .slice ar4 ((dueI (idsM mr2) L (1 + m9)).length) cr4), (10, .int .i64 at2), (102, .slice ar3 L.length cr3), (103, .int .i64 ((L.length : Nat) : Int)), (104, .int .i64 ((k3 : Nat) : Int))] [(954, .row (.slice ar4 ((dueI (idsM mr2) L (1 + m9)).length) cr4) 32 3 ((dueI (idsM mr2) L (1 + m9)).length) ((dueI (idsM mr2) L (1 + m9)).flatMap Tid.cells)), (953, .row (.slice ar3 L.length cr3) 32 3 L.length (L.flatMap Tid.cells)), (952, .row (.slice ar2 mr2.length cr2) 36 4 mr2.length (mr2.flatMap Mk.cells)), (962, .cvs cs2), (951, .row (.slice ar1 ((x.take 6).length) cr1) 32 3 ((x.take 6).length) ((x.take 6).flatMap Tid.cells))]
        refine T_seq (T_region ?_)
        refine TL_q (.bool (decide (((k3 : Nat) : Int) < ((L.length : Nat) : Int)))) (fun _ _ hρ _ => r_lss (hρ _ _ rfl) (hρ _ _ rfl)) rfl rfl rfl (w_n rfl) ?_
        refine TL_seq ?_
        refine T_seq ?_
        refine T_cond rfl (fun h3 => ?_) (fun h3 => ?_)
        · replace h3 := of_decide_eq_true h3
          refine T_skip' ?_
          refine p_seq ?_
          refine T_seq ?_
          refine T_block ?_
          obtain ⟨f9, hf9⟩ : ∃ x, L[k3]? = some x := ⟨_, List.getElem?_eq_getElem (by omega)⟩
          refine T_row 953 rfl (by omega) (fun g11 ha11 => ?_)
          subst ha11
          refine T_rowcap 953 rfl (fun hrc11 => ?_)
          refine T_seq (T_region ?_)
          refine TL_q (.pointer (some ⟨g11, 0 + k3 * 3, none⟩)) (fun _ _ hρ _ => r_indexAddrS (i := k3) sl22 sz32 (hρ _ _ rfl) (hρ _ _ rfl) (by omega)) rfl rfl rfl (w_n rfl) ?_
          refine TL_q (.agg #[.int .u64 f9.t, .int .i64 f9.s, .int .u64 f9.q]) (fun _ _ hρ hm => r_loadOwn (f := Tid.cells) (u := f9) (l := L) ag32 sz32 (hρ _ _ rfl) (hm.row 953 rfl) rfl rfl Tid.cells_len hf9) rfl rfl rfl (w_n rfl) ?_
          refine TL_new 3 (.cells #[.int .u64 0, .int .i64 0, .int .u64 0] 32) (fun B => .pointer (some ⟨B, 0, none⟩)) (fun _ _ _ _ => r_alloc (v := .agg #[.int .u64 0, .int .i64 0, .int .u64 0]) (by kernel_rfl) rfl) rfl rfl rfl (w_n rfl) ?_
          intro B12
          refine TL_store 3 (.cells #[.int .u64 f9.t, .int .i64 f9.s, .int .u64 f9.q] 32) rfl (fun _ _ hρ hm => r_store sz32 (hρ _ _ rfl) (hρ _ _ rfl) (hm.at 3 rfl) rfl rfl rfl rfl) rfl rfl (w_n rfl) ?_
          refine TL_seq ?_
          refine T_seq (T_region ?_)
          refine TL_q (.agg #[.int .u64 f9.t, .int .i64 f9.s, .int .u64 f9.q]) (fun _ _ hρ hm => r_loadA ag32 sz32 (hρ _ _ rfl) (hm.at 3 rfl) rfl rfl) rfl rfl rfl (w_n rfl) ?_
          refine TL_call (.int .i64 0) (fun _ _ hρ _ => r_call (args := [.agg #[.int .u64 f9.t, .int .i64 f9.s, .int .u64 f9.q]]) (enters_of Try.func16 (by kernel_rfl) rfl) (hρ _ _ rfl) ((cons2 (hρ _ _ rfl) rfl)) rfl) (fun w _ => (icheck_c f9 w).mono fun _ _ h => ⟨h.1.trans (congrArg Ending.returned (int_as (if_pos (List.all_eq_true.1 hdk.2.2 _ (List.mem_of_getElem? hf9))))), h.2⟩) rfl rfl rfl (w_n rfl) ?_
          refine TL_q (.bool false) (fun _ _ hρ _ => r_as (r_neq (hρ _ _ rfl) (hρ _ _ rfl)) (by rfl)) rfl rfl rfl (w_n rfl) ?_
          refine TL_seq ?_
          refine T_cond_f rfl ?_
          refine T_skip' ?_
          refine p_blk_n ?_
          refine p_seq ?_
          refine T_region ?_
          refine TL_q (.int .i64 ((k3 + 1 : Nat) : Int)) (fun _ _ hρ _ => r_as (r_add (hρ _ _ rfl) (hρ _ _ rfl)) (int_as ((wrap64 (by omega) (by omega)).trans (by omega)))) rfl rfl rfl (w_n rfl) ?_
          refine TL_q (.int .i64 ((k3 + 1 : Nat) : Int)) (fun _ _ hρ _ => r_move (hρ _ _ rfl)) rfl rfl rfl (w_n rfl) ?_
          refine TL_nil ?_
          exact p_at (k3 + 1) ⟨by omega, by omega⟩ (sub_cons rfl (sub_cons rfl (sub_cons rfl (sub_cons rfl (sub_cons rfl (sub_cons rfl (sub_cons rfl sub_nil))))))) (sub_cons rfl (sub_cons rfl (sub_cons rfl (sub_cons rfl (sub_cons rfl sub_nil)))))
        · replace h3 := of_decide_eq_false h3
          refine T_exit' ?_
          refine p_then_x ?_
          refine p_then_x ?_
          refine p_blk_x ?_
          refine p_seq ?_
          have hend := due_end hD (by omega)
          have hat9 : at2 = (c : Int) - 1 + (((dueI (idsM mr2) L (1 + m9)).length * (1 + m9) : Nat) : Int) := by rw [hat2, show k2 = (dueI (idsM mr2) L (1 + m9)).length by omega]
          rw [← hat9] at hend
          refine T_seq (T_region ?_)
          refine TL_q (.slice ar3 L.length cr3) (fun _ _ hρ _ => r_move (hρ _ _ rfl)) rfl rfl rfl (w_n rfl) ?_
          refine TL_q (.int .i64 ((L.length : Nat) : Int)) (fun _ _ hρ _ => r_len sl22 (hρ _ _ rfl)) rfl rfl rfl (w_n rfl) ?_
          refine TL_q (.int .i64 (((L.length : Nat) : Int) - 1)) (fun _ _ hρ _ => r_as (r_sub (hρ _ _ rfl) (hρ _ _ rfl)) (int_as (wrap64 (by omega) (by omega)))) rfl rfl rfl (w_n rfl) ?_
          refine TL_q (.int .i64 at2) (fun _ _ hρ _ => r_move (hρ _ _ rfl)) rfl rfl rfl (w_n rfl) ?_
          refine TL_q (.int .i64 (((L.length : Nat) : Int) - 1 - at2)) (fun _ _ hρ _ => r_as (r_sub (hρ _ _ rfl) (hρ _ _ rfl)) (int_as (wrap64 (by omega) (by omega)))) rfl rfl rfl (w_n rfl) ?_
          refine TL_q (.int .i64 ((1 + m9 : Nat) : Int)) (fun _ _ hρ _ => r_move (hρ _ _ rfl)) rfl rfl rfl (w_n rfl) ?_
          refine TL_q (.bool true) (fun _ _ hρ _ => r_as (r_lss (hρ _ _ rfl) (hρ _ _ rfl)) (bool_as (decide_eq_true (by omega)))) rfl rfl rfl (w_n rfl) ?_
          refine TL_q (.bool true) (fun _ _ hρ _ => r_assign (hρ _ _ rfl)) rfl rfl rfl (w_n rfl) ?_
          refine TL_seq ?_
          refine T_ret' ?_
          refine ret_of rfl (.bool true) (fun tmps w hk hm => res1 rfl (res_tmp (hk 6 _ rfl))) (fun w hm => ?_)
          exact ⟨rfl, hm.ext⟩
  · skip
    refine T_seq (T_region ?_)
    refine TL_q (.slice ar2 mr2.length cr2) (fun _ _ hρ _ => r_move (hρ _ _ rfl)) rfl rfl rfl (w_n rfl) ?_
    refine TL_q (.slice ar3 L.length cr3) (fun _ _ hρ _ => r_move (hρ _ _ rfl)) rfl rfl rfl (w_n rfl) ?_
    refine TL_q (.int .i64 ((1 + m9 : Nat) : Int)) (fun _ _ hρ _ => r_move (hρ _ _ rfl)) rfl rfl rfl (w_n rfl) ?_
    refine TL_call (.slice none 0 0) (fun _ _ hρ _ => r_call (args := [.slice ar2 mr2.length cr2, .slice ar3 L.length cr3, .int .i64 ((1 + m9 : Nat) : Int)]) (enters_of Try.func11 (by kernel_rfl) rfl) (hρ _ _ rfl) ((cons2 (hρ _ _ rfl) (cons2 (hρ _ _ rfl) (cons2 (hρ _ _ rfl) rfl)))) rfl) (fun w hm => due_no ((1 + m9 : Nat) : Int) mr2 ar2 cr2 L ar3 cr3 w (SliceAt.own Mk.cells_len (hm.row 952 rfl) rfl rfl) (row_cap (hm.row 952 rfl)) (SliceAt.own Tid.cells_len (hm.row 953 rfl) rfl rfl) (row_cap (hm.row 953 rfl)) (by omega) (fun h => hdk ⟨h.1, h.2.2.1, h.2.2.2⟩)) rfl rfl rfl (w_n rfl) ?_
    refine TL_q (.slice none 0 0) (fun _ _ hρ _ => r_assign (hρ _ _ rfl)) rfl rfl rfl (w_n rfl) ?_
    refine TL_seq ?_
    refine T_seq (T_region ?_)
    refine TL_q (.int .i64 (-1)) (fun _ _ hρ _ => r_assign (hρ _ _ rfl)) rfl rfl rfl (w_n rfl) ?_
    refine TL_seq ?_
    refine T_seq ?_
    refine T_seq (T_region ?_)
    refine TL_q (.slice ar3 L.length cr3) (fun _ _ hρ _ => r_move (hρ _ _ rfl)) rfl rfl rfl (w_n rfl) ?_
    refine TL_q (.int .i64 ((L.length : Nat) : Int)) (fun _ _ hρ _ => r_len sl22 (hρ _ _ rfl)) rfl rfl rfl (w_n rfl) ?_
    refine TL_q (.int .i64 0) (fun _ _ hρ _ => r_move (hρ _ _ rfl)) rfl rfl rfl (w_n rfl) ?_
    refine TL_seq ?_
    refine T_block ?_
    refine T_loop (ι := Nat × Int) (fun (z : Nat × Int) => match z with | (k, at1) => k ≤ L.length ∧ at1 = lastN (behI (idsM mr2)) L k) (fun (z : Nat × Int) => match z with | (k, at1) => [(6, .bool false), (7, .slice ar2 mr2.length cr2), (8, .slice ar3 L.length cr3), (2, .int .i64 ((1 + m9 : Nat) : Int)), (9, .slice none 0 0), (34, .slice ar3 L.length cr3), (35, .int .i64 ((L.length : Nat) : Int)), (36, .int .i64 ((k : Nat) : Int)), (10, .int .i64 at1)]) (fun (z : Nat × Int) => match z with | (k, at1) => [(953, .row (.slice ar3 L.length cr3) 32 3 L.length (L.flatMap Tid.cells)), (952, .row (.slice ar2 mr2.length cr2) 36 4 mr2.length (mr2.flatMap Mk.cells)), (962, .cvs cs2), (951, .row (.slice ar1 ((x.take 6).length) cr1) 32 3 ((x.take 6).length) ((x.take 6).flatMap Tid.cells))]) (fun (z : Nat × Int) => match z with | (k, at1) => L.length - k) (0, -1) ⟨Nat.zero_le _, rfl⟩ (sub_cons rfl (sub_cons rfl (sub_cons rfl (sub_cons rfl (sub_cons rfl (sub_cons rfl (sub_cons rfl (sub_cons rfl (sub_cons rfl sub_nil))))))))) (sub_cons rfl (sub_cons rfl (sub_cons rfl (sub_cons rfl sub_nil)))) ?_
    rintro ⟨k, at1⟩ hp
    obtain ⟨hk, hat⟩ := hp
    show T _ _ _ [(6, .bool false), (7, .slice ar2 mr2.length cr2), (8, .slice ar3 L.length cr3), (2, .int .i64 ((1 + m9 : Nat) : Int)), (9, .slice none 0 0), (34, .slice ar3 L.length cr3), (35, .int .i64 ((L.length : Nat) : Int)), (36, .int .i64 ((k : Nat) : Int)), (10, .int .i64 at1)] [(953, .row (.slice ar3 L.length cr3) 32 3 L.length (L.flatMap Tid.cells)), (952, .row (.slice ar2 mr2.length cr2) 36 4 mr2.length (mr2.flatMap Mk.cells)), (962, .cvs cs2), (951, .row (.slice ar1 ((x.take 6).length) cr1) 32 3 ((x.take 6).length) ((x.take 6).flatMap Tid.cells))]
    refine T_seq (T_region ?_)
    refine TL_q (.bool (decide (((k : Nat) : Int) < ((L.length : Nat) : Int)))) (fun _ _ hρ _ => r_lss (hρ _ _ rfl) (hρ _ _ rfl)) rfl rfl rfl (w_n rfl) ?_
    refine TL_seq ?_
    refine T_seq ?_
    refine T_cond rfl (fun h4 => ?_) (fun h4 => ?_)
    · replace h4 := of_decide_eq_true h4
      refine T_skip' ?_
      refine p_seq ?_
      refine T_seq ?_
      refine T_block ?_
      obtain ⟨d9, hd9⟩ : ∃ x, L[k]? = some x := ⟨_, List.getElem?_eq_getElem (by omega)⟩
      refine T_row 953 rfl (by omega) (fun g13 ha13 => ?_)
      subst ha13
      refine T_rowcap 953 rfl (fun hrc13 => ?_)
      refine T_seq (T_region ?_)
      refine TL_q (.int .i64 ((k : Nat) : Int)) (fun _ _ hρ _ => r_move (hρ _ _ rfl)) rfl rfl rfl (w_n rfl) ?_
      refine TL_q (.pointer (some ⟨g13, 0 + k * 3, none⟩)) (fun _ _ hρ _ => r_indexAddrS (i := k) sl22 sz32 (hρ _ _ rfl) (hρ _ _ rfl) (by omega)) rfl rfl rfl (w_n rfl) ?_
      refine TL_q (.agg #[.int .u64 d9.t, .int .i64 d9.s, .int .u64 d9.q]) (fun _ _ hρ hm => r_loadOwn (f := Tid.cells) (u := d9) (l := L) ag32 sz32 (hρ _ _ rfl) (hm.row 953 rfl) rfl rfl Tid.cells_len hd9) rfl rfl rfl (w_n rfl) ?_
      refine TL_new 4 (.cells #[.int .u64 0, .int .i64 0, .int .u64 0] 32) (fun B => .pointer (some ⟨B, 0, none⟩)) (fun _ _ _ _ => r_alloc (v := .agg #[.int .u64 0, .int .i64 0, .int .u64 0]) (by kernel_rfl) rfl) rfl rfl rfl (w_n rfl) ?_
      intro B14
      refine TL_q (.int .i64 ((k : Nat) : Int)) (fun _ _ hρ _ => r_assign (hρ _ _ rfl)) rfl rfl rfl (w_n rfl) ?_
      refine TL_store 4 (.cells #[.int .u64 d9.t, .int .i64 d9.s, .int .u64 d9.q] 32) rfl (fun _ _ hρ hm => r_store sz32 (hρ _ _ rfl) (hρ _ _ rfl) (hm.at 4 rfl) rfl rfl rfl rfl) rfl rfl (w_n rfl) ?_
      refine TL_seq ?_
      by_cases hz : (0 : Int) < ((mr2.length : Nat) : Int)
      · skip
        obtain ⟨y9, hy9⟩ : ∃ x, mr2[mr2.length - 1]? = some x := ⟨_, List.getElem?_eq_getElem (by omega)⟩
        refine T_row 952 rfl (by omega) (fun g15 ha15 => ?_)
        subst ha15
        refine T_rowcap 952 rfl (fun hrc15 => ?_)
        by_cases hl : lessI y9.i d9 = true
        · skip
          refine T_seq (T_draw (V := [(0, .slice (some ⟨g15, 0, none⟩) mr2.length cr2), (1, .int .i64 ((mr2.length : Nat) : Int)), (2, .bool true), (3, .bool true), (4, .slice (some ⟨g15, 0, none⟩) mr2.length cr2), (5, .slice (some ⟨g15, 0, none⟩) mr2.length cr2), (6, .int .i64 ((mr2.length : Nat) : Int)), (7, .int .i64 ((mr2.length - 1 : Nat) : Int)), (8, .pointer (some ⟨g15, 0 + (mr2.length - 1) * 4, none⟩)), (9, .pointer (some ⟨g15, 0 + (mr2.length - 1) * 4, none⟩)), (10, .agg #[.int .u64 y9.i.t, .int .i64 y9.i.s, .int .u64 y9.i.q]), (11, .agg #[.int .u64 d9.t, .int .i64 d9.s, .int .u64 d9.q])]) [0, 1, 3, 7, 15, 15, 47, 111, 255, 511, 1023, 15, 4095, 8191, 16383] [[(7, none)], [(41, some 0)], [(42, some 1)], [(43, some 2)], [(7, none)], [(7, none)], [(46, some 5)], [(47, some 6)], [(45, some 4), (48, some 7)], [(49, some 8)], [(50, some 9)], [(12, none)], [(51, some 10), (52, some 11)], [(53, some 12)], [(54, some 13), (44, some 3)]] 4096 mixed (by kernel_rfl) ?_)
          refine G_step [0, 1, 2, 3, 4, 5, 6, 7, 8, 9, 10, 11] 12 [] (by kernel_rfl) (allM (all_cons (q_run (.slice (some ⟨g15, 0, none⟩) mr2.length cr2) rfl rfl (wv_n rfl) rfl (fun _ _ hρ _ => r_move (hρ _ _ rfl))) (all_cons (q_run (.int .i64 ((mr2.length : Nat) : Int)) rfl rfl (wv_n rfl) rfl (fun _ _ hρ _ => r_len sl25 (hρ _ _ rfl))) (all_cons (q_run (.bool true) rfl rfl (wv_n rfl) rfl (fun _ _ hρ _ => r_as (r_gtr (hρ _ _ rfl) (hρ _ _ rfl)) (bool_as (decide_eq_true hz)))) (all_cons (q_run (.bool true) rfl rfl (wv_n rfl) rfl (fun _ _ hρ _ => r_move (hρ _ _ rfl))) (all_cons (q_run (.slice (some ⟨g15, 0, none⟩) mr2.length cr2) rfl rfl (wv_y rfl rfl) rfl (fun _ _ hρ _ => r_move (hρ _ _ rfl))) (all_cons (q_run (.slice (some ⟨g15, 0, none⟩) mr2.length cr2) rfl rfl (wv_y rfl rfl) rfl (fun _ _ hρ _ => r_move (hρ _ _ rfl))) (all_cons (q_run (.int .i64 ((mr2.length : Nat) : Int)) rfl rfl (wv_y rfl rfl) rfl (fun _ _ hρ _ => r_len sl25 (hρ _ _ rfl))) (all_cons (q_run (.int .i64 ((mr2.length - 1 : Nat) : Int)) rfl rfl (wv_y rfl rfl) rfl (fun _ _ hρ _ => r_as (r_sub (hρ _ _ rfl) (hρ _ _ rfl)) (int_as ((wrap64 (by omega) (by omega)).trans (by omega))))) (all_cons (q_run (.pointer (some ⟨g15, 0 + (mr2.length - 1) * 4, none⟩)) rfl rfl (wv_y rfl rfl) rfl (fun _ _ hρ _ => r_indexAddrS (i := mr2.length - 1) sl25 sz36 (hρ _ _ rfl) (hρ _ _ rfl) (by omega))) (all_cons (q_run (.pointer (some ⟨g15, 0 + (mr2.length - 1) * 4, none⟩)) rfl rfl (wv_y rfl rfl) rfl (fun _ _ hρ _ => r_fieldAddr (off := 0 + (mr2.length - 1) * 4) fl36_0 sz32 (hρ _ _ rfl))) (all_cons (q_run (.agg #[.int .u64 y9.i.t, .int .i64 y9.i.s, .int .u64 y9.i.q]) rfl rfl (wv_y rfl rfl) rfl (fun _ _ hρ hm => r_loadOwnP (f := Mk.cells) (u := y9) (l := mr2) ag32 sz32 (hρ _ _ rfl) (hm.row 952 rfl) rfl rfl Mk.cells_len hy9 rfl rfl)) (all_cons (q_run (.agg #[.int .u64 d9.t, .int .i64 d9.s, .int .u64 d9.q]) rfl rfl (wv_y rfl rfl) rfl (fun _ _ hρ hm => r_loadA ag32 sz32 (hρ _ _ rfl) (hm.at 4 rfl) rfl rfl)) all_nil))))))))))))) (allM (all_cons ?_ all_nil))
          refine LOb_call (.bool true) [(13, .bool false), (14, .bool false)] rfl (wv_y rfl rfl) rfl rfl (fun _ _ hρ _ => r_call (args := [.agg #[.int .u64 y9.i.t, .int .i64 y9.i.s, .int .u64 y9.i.q], .agg #[.int .u64 d9.t, .int .i64 d9.s, .int .u64 d9.q]]) (enters_of Try.func12 (by kernel_rfl) rfl) (hρ _ _ rfl) ((cons2 (hρ _ _ rfl) (cons2 (hρ _ _ rfl) rfl))) rfl) (fun w _ => (less_c y9.i d9 w).mono fun _ _ h => ⟨h.1.trans (congrArg Ending.returned (bool_as hl)), h.2⟩) (by kernel_rfl) ?_
          refine G_last [13, 14] [(6, .bool false), (7, .slice (some ⟨g15, 0, none⟩) mr2.length cr2), (8, .slice (some ⟨g13, 0, none⟩) L.length cr3), (2, .int .i64 ((1 + m9 : Nat) : Int)), (9, .slice none 0 0), (34, .slice (some ⟨g13, 0, none⟩) L.length cr3), (35, .int .i64 ((L.length : Nat) : Int)), (36, .int .i64 ((k : Nat) : Int)), (10, .int .i64 at1), (37, .bool (decide (((k : Nat) : Int) < ((L.length : Nat) : Int)))), (38, .int .i64 ((k : Nat) : Int)), (39, .pointer (some ⟨g13, 0 + k * 3, none⟩)), (40, .agg #[.int .u64 d9.t, .int .i64 d9.s, .int .u64 d9.q]), (12, .pointer (some ⟨B14, 0, none⟩)), (11, .int .i64 ((k : Nat) : Int)), (41, .slice (some ⟨g15, 0, none⟩) mr2.length cr2), (42, .int .i64 ((mr2.length : Nat) : Int)), (43, .bool true), (44, .bool true), (45, .slice (some ⟨g15, 0, none⟩) mr2.length cr2), (46, .slice (some ⟨g15, 0, none⟩) mr2.length cr2), (47, .int .i64 ((mr2.length : Nat) : Int)), (48, .int .i64 ((mr2.length - 1 : Nat) : Int)), (49, .pointer (some ⟨g15, 0 + (mr2.length - 1) * 4, none⟩)), (50, .pointer (some ⟨g15, 0 + (mr2.length - 1) * 4, none⟩)), (51, .agg #[.int .u64 y9.i.t, .int .i64 y9.i.s, .int .u64 y9.i.q]), (52, .agg #[.int .u64 d9.t, .int .i64 d9.s, .int .u64 d9.q]), (53, .bool true), (54, .bool false), (55, .bool false)] (by kernel_rfl) (allM (all_cons (q_run (.bool false) rfl rfl (wv_y rfl rfl) rfl (fun _ _ hρ _ => r_not (b := true) (hρ _ _ rfl))) (all_cons (q_run (.bool false) rfl rfl (wv_n rfl) rfl (fun _ _ hρ _ => r_pick_t (hρ _ _ rfl) (hρ _ _ rfl))) all_nil))) (end_old rfl rfl (end_old rfl rfl (end_old rfl rfl (end_old rfl rfl (end_old rfl rfl (end_old rfl rfl (end_old rfl rfl (end_old rfl rfl (end_old rfl rfl (end_old rfl rfl (end_old rfl rfl (end_old rfl rfl (end_old rfl rfl (end_old rfl rfl (end_old rfl rfl (end_new 0 rfl rfl (end_new 1 rfl rfl (end_new 2 rfl rfl (end_new 3 rfl rfl (end_new 4 rfl rfl (end_new 5 rfl rfl (end_new 6 rfl rfl (end_new 7 rfl rfl (end_new 8 rfl rfl (end_new 9 rfl rfl (end_new 10 rfl rfl (end_new 11 rfl rfl (end_new 12 rfl rfl (end_new 13 rfl rfl (end_new 14 rfl rfl end_nil)))))))))))))))))))))))))))))) ?_
          refine T_cond_f rfl ?_
          refine T_skip' ?_
          refine p_blk_n ?_
          refine p_seq ?_
          refine T_region ?_
          refine TL_q (.int .i64 ((k + 1 : Nat) : Int)) (fun _ _ hρ _ => r_as (r_add (hρ _ _ rfl) (hρ _ _ rfl)) (int_as ((wrap64 (by omega) (by omega)).trans (by omega)))) rfl rfl rfl (w_n rfl) ?_
          refine TL_q (.int .i64 ((k + 1 : Nat) : Int)) (fun _ _ hρ _ => r_move (hρ _ _ rfl)) rfl rfl rfl (w_n rfl) ?_
          refine TL_nil ?_
          exact p_at (k + 1, at1) ⟨⟨by omega, by rw [last_t hd9 (beh_t hy9 hl)]; exact hat⟩, by dsimp only; omega⟩ (sub_cons rfl (sub_cons rfl (sub_cons rfl (sub_cons rfl (sub_cons rfl (sub_cons rfl (sub_cons rfl (sub_cons rfl (sub_cons rfl sub_nil))))))))) (sub_cons rfl (sub_cons rfl (sub_cons rfl (sub_cons rfl sub_nil))))
        · skip
          refine T_seq (T_draw (V := [(0, .slice (some ⟨g15, 0, none⟩) mr2.length cr2), (1, .int .i64 ((mr2.length : Nat) : Int)), (2, .bool true), (3, .bool true), (4, .slice (some ⟨g15, 0, none⟩) mr2.length cr2), (5, .slice (some ⟨g15, 0, none⟩) mr2.length cr2), (6, .int .i64 ((mr2.length : Nat) : Int)), (7, .int .i64 ((mr2.length - 1 : Nat) : Int)), (8, .pointer (some ⟨g15, 0 + (mr2.length - 1) * 4, none⟩)), (9, .pointer (some ⟨g15, 0 + (mr2.length - 1) * 4, none⟩)), (10, .agg #[.int .u64 y9.i.t, .int .i64 y9.i.s, .int .u64 y9.i.q]), (11, .agg #[.int .u64 d9.t, .int .i64 d9.s, .int .u64 d9.q])]) [0, 1, 3, 7, 15, 15, 47, 111, 255, 511, 1023, 15, 4095, 8191, 16383] [[(7, none)], [(41, some 0)], [(42, some 1)], [(43, some 2)], [(7, none)], [(7, none)], [(46, some 5)], [(47, some 6)], [(45, some 4), (48, some 7)], [(49, some 8)], [(50, some 9)], [(12, none)], [(51, some 10), (52, some 11)], [(53, some 12)], [(54, some 13), (44, some 3)]] 4096 mixed (by kernel_rfl) ?_)
          refine G_step [0, 1, 2, 3, 4, 5, 6, 7, 8, 9, 10, 11] 12 [] (by kernel_rfl) (allM (all_cons (q_run (.slice (some ⟨g15, 0, none⟩) mr2.length cr2) rfl rfl (wv_n rfl) rfl (fun _ _ hρ _ => r_move (hρ _ _ rfl))) (all_cons (q_run (.int .i64 ((mr2.length : Nat) : Int)) rfl rfl (wv_n rfl) rfl (fun _ _ hρ _ => r_len sl25 (hρ _ _ rfl))) (all_cons (q_run (.bool true) rfl rfl (wv_n rfl) rfl (fun _ _ hρ _ => r_as (r_gtr (hρ _ _ rfl) (hρ _ _ rfl)) (bool_as (decide_eq_true hz)))) (all_cons (q_run (.bool true) rfl rfl (wv_n rfl) rfl (fun _ _ hρ _ => r_move (hρ _ _ rfl))) (all_cons (q_run (.slice (some ⟨g15, 0, none⟩) mr2.length cr2) rfl rfl (wv_y rfl rfl) rfl (fun _ _ hρ _ => r_move (hρ _ _ rfl))) (all_cons (q_run (.slice (some ⟨g15, 0, none⟩) mr2.length cr2) rfl rfl (wv_y rfl rfl) rfl (fun _ _ hρ _ => r_move (hρ _ _ rfl))) (all_cons (q_run (.int .i64 ((mr2.length : Nat) : Int)) rfl rfl (wv_y rfl rfl) rfl (fun _ _ hρ _ => r_len sl25 (hρ _ _ rfl))) (all_cons (q_run (.int .i64 ((mr2.length - 1 : Nat) : Int)) rfl rfl (wv_y rfl rfl) rfl (fun _ _ hρ _ => r_as (r_sub (hρ _ _ rfl) (hρ _ _ rfl)) (int_as ((wrap64 (by omega) (by omega)).trans (by omega))))) (all_cons (q_run (.pointer (some ⟨g15, 0 + (mr2.length - 1) * 4, none⟩)) rfl rfl (wv_y rfl rfl) rfl (fun _ _ hρ _ => r_indexAddrS (i := mr2.length - 1) sl25 sz36 (hρ _ _ rfl) (hρ _ _ rfl) (by omega))) (all_cons (q_run (.pointer (some ⟨g15, 0 + (mr2.length - 1) * 4, none⟩)) rfl rfl (wv_y rfl rfl) rfl (fun _ _ hρ _ => r_fieldAddr (off := 0 + (mr2.length - 1) * 4) fl36_0 sz32 (hρ _ _ rfl))) (all_cons (q_run (.agg #[.int .u64 y9.i.t, .int .i64 y9.i.s, .int .u64 y9.i.q]) rfl rfl (wv_y rfl rfl) rfl (fun _ _ hρ hm => r_loadOwnP (f := Mk.cells) (u := y9) (l := mr2) ag32 sz32 (hρ _ _ rfl) (hm.row 952 rfl) rfl rfl Mk.cells_len hy9 rfl rfl)) (all_cons (q_run (.agg #[.int .u64 d9.t, .int .i64 d9.s, .int .u64 d9.q]) rfl rfl (wv_y rfl rfl) rfl (fun _ _ hρ hm => r_loadA ag32 sz32 (hρ _ _ rfl) (hm.at 4 rfl) rfl rfl)) all_nil))))))))))))) (allM (all_cons ?_ all_nil))
          refine LOb_call (.bool false) [(13, .bool true), (14, .bool true)] rfl (wv_y rfl rfl) rfl rfl (fun _ _ hρ _ => r_call (args := [.agg #[.int .u64 y9.i.t, .int .i64 y9.i.s, .int .u64 y9.i.q], .agg #[.int .u64 d9.t, .int .i64 d9.s, .int .u64 d9.q]]) (enters_of Try.func12 (by kernel_rfl) rfl) (hρ _ _ rfl) ((cons2 (hρ _ _ rfl) (cons2 (hρ _ _ rfl) rfl))) rfl) (fun w _ => (less_c y9.i d9 w).mono fun _ _ h => ⟨h.1.trans (congrArg Ending.returned (bool_as (eq_false_of_ne_true hl))), h.2⟩) (by kernel_rfl) ?_
          refine G_last [13, 14] [(6, .bool false), (7, .slice (some ⟨g15, 0, none⟩) mr2.length cr2), (8, .slice (some ⟨g13, 0, none⟩) L.length cr3), (2, .int .i64 ((1 + m9 : Nat) : Int)), (9, .slice none 0 0), (34, .slice (some ⟨g13, 0, none⟩) L.length cr3), (35, .int .i64 ((L.length : Nat) : Int)), (36, .int .i64 ((k : Nat) : Int)), (10, .int .i64 at1), (37, .bool (decide (((k : Nat) : Int) < ((L.length : Nat) : Int)))), (38, .int .i64 ((k : Nat) : Int)), (39, .pointer (some ⟨g13, 0 + k * 3, none⟩)), (40, .agg #[.int .u64 d9.t, .int .i64 d9.s, .int .u64 d9.q]), (12, .pointer (some ⟨B14, 0, none⟩)), (11, .int .i64 ((k : Nat) : Int)), (41, .slice (some ⟨g15, 0, none⟩) mr2.length cr2), (42, .int .i64 ((mr2.length : Nat) : Int)), (43, .bool true), (44, .bool true), (45, .slice (some ⟨g15, 0, none⟩) mr2.length cr2), (46, .slice (some ⟨g15, 0, none⟩) mr2.length cr2), (47, .int .i64 ((mr2.length : Nat) : Int)), (48, .int .i64 ((mr2.length - 1 : Nat) : Int)), (49, .pointer (some ⟨g15, 0 + (mr2.length - 1) * 4, none⟩)), (50, .pointer (some ⟨g15, 0 + (mr2.length - 1) * 4, none⟩)), (51, .agg #[.int .u64 y9.i.t, .int .i64 y9.i.s, .int .u64 y9.i.q]), (52, .agg #[.int .u64 d9.t, .int .i64 d9.s, .int .u64 d9.q]), (53, .bool false), (54, .bool true), (55, .bool true)] (by kernel_rfl) (allM (all_cons (q_run (.bool true) rfl rfl (wv_y rfl rfl) rfl (fun _ _ hρ _ => r_not (b := false) (hρ _ _ rfl))) (all_cons (q_run (.bool true) rfl rfl (wv_n rfl) rfl (fun _ _ hρ _ => r_pick_t (hρ _ _ rfl) (hρ _ _ rfl))) all_nil))) (end_old rfl rfl (end_old rfl rfl (end_old rfl rfl (end_old rfl rfl (end_old rfl rfl (end_old rfl rfl (end_old rfl rfl (end_old rfl rfl (end_old rfl rfl (end_old rfl rfl (end_old rfl rfl (end_old rfl rfl (end_old rfl rfl (end_old rfl rfl (end_old rfl rfl (end_new 0 rfl rfl (end_new 1 rfl rfl (end_new 2 rfl rfl (end_new 3 rfl rfl (end_new 4 rfl rfl (end_new 5 rfl rfl (end_new 6 rfl rfl (end_new 7 rfl rfl (end_new 8 rfl rfl (end_new 9 rfl rfl (end_new 10 rfl rfl (end_new 11 rfl rfl (end_new 12 rfl rfl (end_new 13 rfl rfl (end_new 14 rfl rfl end_nil)))))))))))))))))))))))))))))) ?_
          refine T_cond_t rfl ?_
          refine T_region ?_
          refine TL_q (.int .i64 ((k : Nat) : Int)) (fun _ _ hρ _ => r_move (hρ _ _ rfl)) rfl rfl rfl (w_n rfl) ?_
          refine TL_q (.int .i64 ((k : Nat) : Int)) (fun _ _ hρ _ => r_assign (hρ _ _ rfl)) rfl rfl rfl (w_n rfl) ?_
          refine TL_nil ?_
          refine p_blk_n ?_
          refine p_seq ?_
          refine T_region ?_
          refine TL_q (.int .i64 ((k + 1 : Nat) : Int)) (fun _ _ hρ _ => r_as (r_add (hρ _ _ rfl) (hρ _ _ rfl)) (int_as ((wrap64 (by omega) (by omega)).trans (by omega)))) rfl rfl rfl (w_n rfl) ?_
          refine TL_q (.int .i64 ((k + 1 : Nat) : Int)) (fun _ _ hρ _ => r_move (hρ _ _ rfl)) rfl rfl rfl (w_n rfl) ?_
          refine TL_nil ?_
          exact p_at (k + 1, ((k : Nat) : Int)) ⟨⟨by omega, (last_f hd9 (beh_f hy9 hl)).symm⟩, by dsimp only; omega⟩ (sub_cons rfl (sub_cons rfl (sub_cons rfl (sub_cons rfl (sub_cons rfl (sub_cons rfl (sub_cons rfl (sub_cons rfl (sub_cons rfl sub_nil))))))))) (sub_cons rfl (sub_cons rfl (sub_cons rfl (sub_cons rfl sub_nil))))
      · skip
        refine T_seq (T_draw (V := [(0, .slice ar2 mr2.length cr2), (1, .int .i64 ((mr2.length : Nat) : Int)), (2, .bool false), (3, .bool false), (4, undef), (5, undef), (6, undef), (7, undef), (8, undef), (9, undef), (10, undef), (11, undef), (12, undef), (13, undef), (14, .bool false)]) [0, 1, 3, 7, 15, 15, 47, 111, 255, 511, 1023, 15, 4095, 8191, 16383] [[(7, none)], [(41, some 0)], [(42, some 1)], [(43, some 2)], [(7, none)], [(7, none)], [(46, some 5)], [(47, some 6)], [(45, some 4), (48, some 7)], [(49, some 8)], [(50, some 9)], [(12, none)], [(51, some 10), (52, some 11)], [(53, some 12)], [(54, some 13), (44, some 3)]] 0 mixed (by kernel_rfl) ?_)
        refine G_last [0, 1, 2, 3, 4, 5, 6, 7, 8, 9, 10, 11, 12, 13, 14] [(6, .bool false), (7, .slice ar2 mr2.length cr2), (8, .slice (some ⟨g13, 0, none⟩) L.length cr3), (2, .int .i64 ((1 + m9 : Nat) : Int)), (9, .slice none 0 0), (34, .slice (some ⟨g13, 0, none⟩) L.length cr3), (35, .int .i64 ((L.length : Nat) : Int)), (36, .int .i64 ((k : Nat) : Int)), (10, .int .i64 at1), (37, .bool (decide (((k : Nat) : Int) < ((L.length : Nat) : Int)))), (38, .int .i64 ((k : Nat) : Int)), (39, .pointer (some ⟨g13, 0 + k * 3, none⟩)), (40, .agg #[.int .u64 d9.t, .int .i64 d9.s, .int .u64 d9.q]), (12, .pointer (some ⟨B14, 0, none⟩)), (11, .int .i64 ((k : Nat) : Int)), (41, .slice ar2 mr2.length cr2), (42, .int .i64 ((mr2.length : Nat) : Int)), (43, .bool false), (44, .bool false), (45, undef), (46, undef), (47, undef), (48, undef), (49, undef), (50, undef), (51, undef), (52, undef), (53, undef), (54, undef), (55, .bool false)] (by kernel_rfl) (allM (all_cons (q_run (.slice ar2 mr2.length cr2) rfl rfl (wv_n rfl) rfl (fun _ _ hρ _ => r_move (hρ _ _ rfl))) (all_cons (q_run (.int .i64 ((mr2.length : Nat) : Int)) rfl rfl (wv_n rfl) rfl (fun _ _ hρ _ => r_len sl25 (hρ _ _ rfl))) (all_cons (q_run (.bool false) rfl rfl (wv_n rfl) rfl (fun _ _ hρ _ => r_as (r_gtr (hρ _ _ rfl) (hρ _ _ rfl)) (bool_as (decide_eq_false hz)))) (all_cons (q_run (.bool false) rfl rfl (wv_n rfl) rfl (fun _ _ hρ _ => r_move (hρ _ _ rfl))) (all_cons (q_no rfl rfl (wv_no rfl rfl)) (all_cons (q_no rfl rfl (wv_no rfl rfl)) (all_cons (q_no rfl rfl (wv_no rfl rfl)) (all_cons (q_no rfl rfl (wv_no rfl rfl)) (all_cons (q_no rfl rfl (wv_no rfl rfl)) (all_cons (q_no rfl rfl (wv_no rfl rfl)) (all_cons (q_no rfl rfl (wv_no rfl rfl)) (all_cons (q_no rfl rfl (wv_no rfl rfl)) (all_cons (q_no rfl rfl (wv_no rfl rfl)) (all_cons (q_no rfl rfl (wv_no rfl rfl)) (all_cons (q_run (.bool false) rfl rfl (wv_n rfl) rfl (fun _ _ hρ _ => r_pick_f (hρ _ _ rfl) (hρ _ _ rfl))) all_nil)))))))))))))))) (end_old rfl rfl (end_old rfl rfl (end_old rfl rfl (end_old rfl rfl (end_old rfl rfl (end_old rfl rfl (end_old rfl rfl (end_old rfl rfl (end_old rfl rfl (end_old rfl rfl (end_old rfl rfl (end_old rfl rfl (end_old rfl rfl (end_old rfl rfl (end_old rfl rfl (end_new 0 rfl rfl (end_new 1 rfl rfl (end_new 2 rfl rfl (end_new 3 rfl rfl (end_new 4 rfl rfl (end_new 5 rfl rfl (end_new 6 rfl rfl (end_new 7 rfl rfl (end_new 8 rfl rfl (end_new 9 rfl rfl (end_new 10 rfl rfl (end_new 11 rfl rfl (end_new 12 rfl rfl (end_new 13 rfl rfl (end_new 14 rfl rfl end_nil)))))))))))))))))))))))))))))) ?_
        refine T_cond_f rfl ?_
        refine T_skip' ?_
        refine p_blk_n ?_
        refine p_seq ?_
        refine T_region ?_
        refine TL_q (.int .i64 ((k + 1 : Nat) : Int)) (fun _ _ hρ _ => r_as (r_add (hρ _ _ rfl) (hρ _ _ rfl)) (int_as ((wrap64 (by omega) (by omega)).trans (by omega)))) rfl rfl rfl (w_n rfl) ?_
        refine TL_q (.int .i64 ((k + 1 : Nat) : Int)) (fun _ _ hρ _ => r_move (hρ _ _ rfl)) rfl rfl rfl (w_n rfl) ?_
        refine TL_nil ?_
        exact p_at (k + 1, at1) ⟨⟨by omega, by rw [last_t hd9 (beh_z (by omega))]; exact hat⟩, by dsimp only; omega⟩ (sub_cons rfl (sub_cons rfl (sub_cons rfl (sub_cons rfl (sub_cons rfl (sub_cons rfl (sub_cons rfl (sub_cons rfl (sub_cons rfl sub_nil))))))))) (sub_cons rfl (sub_cons rfl (sub_cons rfl (sub_cons rfl sub_nil))))
    · replace h4 := of_decide_eq_false h4
      refine T_exit' ?_
      refine p_then_x ?_
      refine p_then_x ?_
      refine p_blk_x ?_
      refine p_seq ?_
      refine T_seq ?_
      have hkL : k = L.length := by omega
      have hli := last_in (behI (idsM mr2)) L k
      rw [← hat] at hli
      refine T_seq (T_region ?_)
      refine TL_q (.slice none 0 0) (fun _ _ hρ _ => r_move (hρ _ _ rfl)) rfl rfl rfl (w_n rfl) ?_
      refine TL_q (.int .i64 0) (fun _ _ hρ _ => r_len sl22 (hρ _ _ rfl)) rfl rfl rfl (w_n rfl) ?_
      refine TL_q (.int .i64 0) (fun _ _ hρ _ => r_move (hρ _ _ rfl)) rfl rfl rfl (w_n rfl) ?_
      refine TL_seq ?_
      refine T_block ?_
      refine T_rounds 1 ?_
      refine TR_succ ?_
      refine T_seq (T_region ?_)
      refine TL_q (.bool false) (fun _ _ hρ _ => r_as (r_lss (hρ _ _ rfl) (hρ _ _ rfl)) (by rfl)) rfl rfl rfl (w_n rfl) ?_
      refine TL_seq ?_
      refine T_seq ?_
      refine T_cond_f rfl ?_
      refine T_exit' ?_
      refine p_then_x ?_
      refine p_then_x ?_
      refine p_blk_x ?_
      refine p_seq ?_
      refine T_seq ?_
      by_cases hk1 : marksB mr2 = true
      · skip
        by_cases hk2 : upB L = true
        · skip
          refine T_seq (T_region ?_)
          refine TL_q (.slice ar2 mr2.length cr2) (fun _ _ hρ _ => r_move (hρ _ _ rfl)) rfl rfl rfl (w_n rfl) ?_
          refine TL_call (.int .i64 0) (fun _ _ hρ _ => r_call (args := [.slice ar2 mr2.length cr2]) (enters_of Try.func14 (by kernel_rfl) rfl) (hρ _ _ rfl) ((cons2 (hρ _ _ rfl) rfl)) rfl) (fun w hm => (check_c mr2 ar2 cr2 w (SliceAt.own Mk.cells_len (hm.row 952 rfl) rfl rfl) (row_cap (hm.row 952 rfl))).mono fun _ _ h => ⟨h.1.trans (congrArg Ending.returned (int_as (if_pos hk1))), h.2⟩) rfl rfl rfl (w_n rfl) ?_
          refine TL_q (.bool false) (fun _ _ hρ _ => r_as (r_neq (hρ _ _ rfl) (hρ _ _ rfl)) (by rfl)) rfl rfl rfl (w_n rfl) ?_
          refine TL_q (.bool false) (fun _ _ hρ _ => r_move (hρ _ _ rfl)) rfl rfl rfl (w_n rfl) ?_
          refine TL_q (.slice ar3 L.length cr3) (fun _ _ hρ _ => r_move (hρ _ _ rfl)) rfl rfl rfl (want_y 94 rfl rfl rfl) ?_
          refine TL_call (.bool true) (fun _ _ hρ _ => r_call (args := [.slice ar3 L.length cr3]) (enters_of Try.func15 (by kernel_rfl) rfl) (hρ _ _ rfl) ((cons2 (hρ _ _ rfl) rfl)) rfl) (fun w hm => (rising_c L ar3 cr3 w (SliceAt.own Tid.cells_len (hm.row 953 rfl) rfl rfl) (row_cap (hm.row 953 rfl))).mono fun _ _ h => ⟨h.1.trans (congrArg Ending.returned (bool_as hk2)), h.2⟩) rfl rfl rfl (want_y 94 rfl rfl rfl) ?_
          refine TL_q (.bool false) (fun _ _ hρ _ => r_not (b := true) (hρ _ _ rfl)) rfl rfl rfl (want_y 94 rfl rfl rfl) ?_
          refine TL_q (.bool false) (fun _ _ hρ _ => r_pick_f (hρ _ _ rfl) (hρ _ _ rfl)) rfl rfl rfl (w_n rfl) ?_
          refine TL_seq ?_
          refine T_cond_f rfl ?_
          refine T_skip' ?_
          refine p_seq ?_
          refine T_seq ?_
          refine T_seq (T_region ?_)
          refine TL_q (.slice ar3 L.length cr3) (fun _ _ hρ _ => r_move (hρ _ _ rfl)) rfl rfl rfl (w_n rfl) ?_
          refine TL_q (.int .i64 ((L.length : Nat) : Int)) (fun _ _ hρ _ => r_len sl22 (hρ _ _ rfl)) rfl rfl rfl (w_n rfl) ?_
          refine TL_q (.int .i64 0) (fun _ _ hρ _ => r_move (hρ _ _ rfl)) rfl rfl rfl (w_n rfl) ?_
          refine TL_seq ?_
          refine T_block ?_
          refine T_loop (ι := Nat) (fun (k3 : Nat) => k3 ≤ L.length ∧ ∀ z ∈ L.take k3, okI z = true) (fun (k3 : Nat) => [(8, .slice ar3 L.length cr3), (2, .int .i64 ((1 + m9 : Nat) : Int)), (9, .slice none 0 0), (10, .int .i64 at1), (102, .slice ar3 L.length cr3), (103, .int .i64 ((L.length : Nat) : Int)), (104, .int .i64 ((k3 : Nat) : Int))]) (fun (k3 : Nat) => [(953, .row (.slice ar3 L.length cr3) 32 3 L.length (L.flatMap Tid.cells)), (952, .row (.slice ar2 mr2.length cr2) 36 4 mr2.length (mr2.flatMap Mk.cells)), (962, .cvs cs2), (951, .row (.slice ar1 ((x.take 6).length) cr1) 32 3 ((x.take 6).length) ((x.take 6).flatMap Tid.cells))]) (fun (k3 : Nat) => L.length - k3) 0 ⟨Nat.zero_le _, fun _ h => nomatch h⟩ (sub_cons rfl (sub_cons rfl (sub_cons rfl (sub_cons rfl (sub_cons rfl (sub_cons rfl (sub_cons rfl sub_nil))))))) (sub_cons rfl (sub_cons rfl (sub_cons rfl (sub_cons rfl sub_nil)))) ?_
          rintro k3 hp
          obtain ⟨hk3, hall⟩ := hp
          show T _ _ _ [(8, .slice ar3 L.length cr3), (2, .int .i64 ((1 + m9 : Nat) : Int)), (9, .slice none 0 0), (10, .int .i64 at1), (102, .slice ar3 L.length cr3), (103, .int .i64 ((L.length : Nat) : Int)), (104, .int .i64 ((k3 : Nat) : Int))] [(953, .row (.slice ar3 L.length cr3) 32 3 L.length (L.flatMap Tid.cells)), (952, .row (.slice ar2 mr2.length cr2) 36 4 mr2.length (mr2.flatMap Mk.cells)), (962, .cvs cs2), (951, .row (.slice ar1 ((x.take 6).length) cr1) 32 3 ((x.take 6).length) ((x.take 6).flatMap Tid.cells))]
          refine T_seq (T_region ?_)
          refine TL_q (.bool (decide (((k3 : Nat) : Int) < ((L.length : Nat) : Int)))) (fun _ _ hρ _ => r_lss (hρ _ _ rfl) (hρ _ _ rfl)) rfl rfl rfl (w_n rfl) ?_
          refine TL_seq ?_
          refine T_seq ?_
          refine T_cond rfl (fun h5 => ?_) (fun h5 => ?_)
          · replace h5 := of_decide_eq_true h5
            refine T_skip' ?_
            refine p_seq ?_
            refine T_seq ?_
            refine T_block ?_
            obtain ⟨f9, hf9⟩ : ∃ x, L[k3]? = some x := ⟨_, List.getElem?_eq_getElem (by omega)⟩
            refine T_row 953 rfl (by omega) (fun g16 ha16 => ?_)
            subst ha16
            refine T_rowcap 953 rfl (fun hrc16 => ?_)
            refine T_seq (T_region ?_)
            refine TL_q (.pointer (some ⟨g16, 0 + k3 * 3, none⟩)) (fun _ _ hρ _ => r_indexAddrS (i := k3) sl22 sz32 (hρ _ _ rfl) (hρ _ _ rfl) (by omega)) rfl rfl rfl (w_n rfl) ?_
            refine TL_q (.agg #[.int .u64 f9.t, .int .i64 f9.s, .int .u64 f9.q]) (fun _ _ hρ hm => r_loadOwn (f := Tid.cells) (u := f9) (l := L) ag32 sz32 (hρ _ _ rfl) (hm.row 953 rfl) rfl rfl Tid.cells_len hf9) rfl rfl rfl (w_n rfl) ?_
            refine TL_new 5 (.cells #[.int .u64 0, .int .i64 0, .int .u64 0] 32) (fun B => .pointer (some ⟨B, 0, none⟩)) (fun _ _ _ _ => r_alloc (v := .agg #[.int .u64 0, .int .i64 0, .int .u64 0]) (by kernel_rfl) rfl) rfl rfl rfl (w_n rfl) ?_
            intro B17
            refine TL_store 5 (.cells #[.int .u64 f9.t, .int .i64 f9.s, .int .u64 f9.q] 32) rfl (fun _ _ hρ hm => r_store sz32 (hρ _ _ rfl) (hρ _ _ rfl) (hm.at 5 rfl) rfl rfl rfl rfl) rfl rfl (w_n rfl) ?_
            refine TL_seq ?_
            by_cases ho9 : okI f9 = true
            · skip
              refine T_seq (T_region ?_)
              refine TL_q (.agg #[.int .u64 f9.t, .int .i64 f9.s, .int .u64 f9.q]) (fun _ _ hρ hm => r_loadA ag32 sz32 (hρ _ _ rfl) (hm.at 5 rfl) rfl rfl) rfl rfl rfl (w_n rfl) ?_
              refine TL_call (.int .i64 0) (fun _ _ hρ _ => r_call (args := [.agg #[.int .u64 f9.t, .int .i64 f9.s, .int .u64 f9.q]]) (enters_of Try.func16 (by kernel_rfl) rfl) (hρ _ _ rfl) ((cons2 (hρ _ _ rfl) rfl)) rfl) (fun w _ => (icheck_c f9 w).mono fun _ _ h => ⟨h.1.trans (congrArg Ending.returned (int_as (if_pos ho9))), h.2⟩) rfl rfl rfl (w_n rfl) ?_
              refine TL_q (.bool false) (fun _ _ hρ _ => r_as (r_neq (hρ _ _ rfl) (hρ _ _ rfl)) (by rfl)) rfl rfl rfl (w_n rfl) ?_
              refine TL_seq ?_
              refine T_cond_f rfl ?_
              refine T_skip' ?_
              refine p_blk_n ?_
              refine p_seq ?_
              refine T_region ?_
              refine TL_q (.int .i64 ((k3 + 1 : Nat) : Int)) (fun _ _ hρ _ => r_as (r_add (hρ _ _ rfl) (hρ _ _ rfl)) (int_as ((wrap64 (by omega) (by omega)).trans (by omega)))) rfl rfl rfl (w_n rfl) ?_
              refine TL_q (.int .i64 ((k3 + 1 : Nat) : Int)) (fun _ _ hρ _ => r_move (hρ _ _ rfl)) rfl rfl rfl (w_n rfl) ?_
              refine TL_nil ?_
              exact p_at (k3 + 1) ⟨⟨by omega, allP_step hall hf9 ho9⟩, by omega⟩ (sub_cons rfl (sub_cons rfl (sub_cons rfl (sub_cons rfl (sub_cons rfl (sub_cons rfl (sub_cons rfl sub_nil))))))) (sub_cons rfl (sub_cons rfl (sub_cons rfl (sub_cons rfl sub_nil))))
            · skip
              refine T_seq (T_region ?_)
              refine TL_q (.agg #[.int .u64 f9.t, .int .i64 f9.s, .int .u64 f9.q]) (fun _ _ hρ hm => r_loadA ag32 sz32 (hρ _ _ rfl) (hm.at 5 rfl) rfl rfl) rfl rfl rfl (w_n rfl) ?_
              refine TL_call (.int .i64 210) (fun _ _ hρ _ => r_call (args := [.agg #[.int .u64 f9.t, .int .i64 f9.s, .int .u64 f9.q]]) (enters_of Try.func16 (by kernel_rfl) rfl) (hρ _ _ rfl) ((cons2 (hρ _ _ rfl) rfl)) rfl) (fun w _ => (icheck_c f9 w).mono fun _ _ h => ⟨h.1.trans (congrArg Ending.returned (int_as (if_neg ho9))), h.2⟩) rfl rfl rfl (w_n rfl) ?_
              refine TL_q (.bool true) (fun _ _ hρ _ => r_as (r_neq (hρ _ _ rfl) (hρ _ _ rfl)) (by rfl)) rfl rfl rfl (w_n rfl) ?_
              refine TL_seq ?_
              refine T_cond_t rfl ?_
              refine T_seq (T_region ?_)
              refine TL_q (.slice none 0 0) (fun _ _ hρ _ => r_move (hρ _ _ rfl)) rfl rfl rfl (w_n rfl) ?_
              refine TL_q (.int .i64 0) (fun _ _ hρ _ => r_len sl22 (hρ _ _ rfl)) rfl rfl rfl (w_n rfl) ?_
              refine TL_q (.bool true) (fun _ _ hρ _ => r_as (r_eql (hρ _ _ rfl) (hρ _ _ rfl)) (by rfl)) rfl rfl rfl (w_n rfl) ?_
              refine TL_q (.bool true) (fun _ _ hρ _ => r_assign (hρ _ _ rfl)) rfl rfl rfl (w_n rfl) ?_
              refine TL_seq ?_
              refine T_ret' ?_
              refine p_blk_r ?_
              refine p_then_r ?_
              refine p_then_r ?_
              refine p_blk_r ?_
              refine p_then_r ?_
              refine ret_of rfl (.bool true) (fun tmps w hk hm => res1 rfl (res_tmp (hk 6 _ rfl))) (fun w hm => ?_)
              exact ⟨rfl, hm.ext⟩
          · replace h5 := of_decide_eq_false h5
            refine T_exit' ?_
            refine p_then_x ?_
            refine p_then_x ?_
            refine p_blk_x ?_
            refine p_seq ?_
            refine T_seq (T_region ?_)
            refine TL_q (.slice ar3 L.length cr3) (fun _ _ hρ _ => r_move (hρ _ _ rfl)) rfl rfl rfl (w_n rfl) ?_
            refine TL_q (.int .i64 ((L.length : Nat) : Int)) (fun _ _ hρ _ => r_len sl22 (hρ _ _ rfl)) rfl rfl rfl (w_n rfl) ?_
            refine TL_q (.int .i64 (((L.length : Nat) : Int) - 1)) (fun _ _ hρ _ => r_as (r_sub (hρ _ _ rfl) (hρ _ _ rfl)) (int_as (wrap64 (by omega) (by omega)))) rfl rfl rfl (w_n rfl) ?_
            refine TL_q (.int .i64 at1) (fun _ _ hρ _ => r_move (hρ _ _ rfl)) rfl rfl rfl (w_n rfl) ?_
            refine TL_q (.int .i64 (((L.length : Nat) : Int) - 1 - at1)) (fun _ _ hρ _ => r_as (r_sub (hρ _ _ rfl) (hρ _ _ rfl)) (int_as (wrap64 (by omega) (by omega)))) rfl rfl rfl (w_n rfl) ?_
            refine TL_q (.int .i64 ((1 + m9 : Nat) : Int)) (fun _ _ hρ _ => r_move (hρ _ _ rfl)) rfl rfl rfl (w_n rfl) ?_
            refine TL_q (.bool (decide ((((L.length : Nat) : Int) - 1 - at1) < ((1 + m9 : Nat) : Int)))) (fun _ _ hρ _ => r_lss (hρ _ _ rfl) (hρ _ _ rfl)) rfl rfl rfl (w_n rfl) ?_
            refine TL_q (.bool (decide ((((L.length : Nat) : Int) - 1 - at1) < ((1 + m9 : Nat) : Int)))) (fun _ _ hρ _ => r_assign (hρ _ _ rfl)) rfl rfl rfl (w_n rfl) ?_
            refine TL_seq ?_
            refine T_ret' ?_
            refine ret_of rfl (.bool (decide ((((L.length : Nat) : Int) - 1 - at1) < ((1 + m9 : Nat) : Int)))) (fun tmps w hk hm => res1 rfl (res_tmp (hk 6 _ rfl))) (fun w hm => ?_)
            exact absurd ⟨hk1, hk2, all_yes (by rw [show L.length = k3 by omega]; exact hall)⟩ hdk
        · skip
          refine T_seq (T_region ?_)
          refine TL_q (.slice ar2 mr2.length cr2) (fun _ _ hρ _ => r_move (hρ _ _ rfl)) rfl rfl rfl (w_n rfl) ?_
          refine TL_call (.int .i64 0) (fun _ _ hρ _ => r_call (args := [.slice ar2 mr2.length cr2]) (enters_of Try.func14 (by kernel_rfl) rfl) (hρ _ _ rfl) ((cons2 (hρ _ _ rfl) rfl)) rfl) (fun w hm => (check_c mr2 ar2 cr2 w (SliceAt.own Mk.cells_len (hm.row 952 rfl) rfl rfl) (row_cap (hm.row 952 rfl))).mono fun _ _ h => ⟨h.1.trans (congrArg Ending.returned (int_as (if_pos hk1))), h.2⟩) rfl rfl rfl (w_n rfl) ?_
          refine TL_q (.bool false) (fun _ _ hρ _ => r_as (r_neq (hρ _ _ rfl) (hρ _ _ rfl)) (by rfl)) rfl rfl rfl (w_n rfl) ?_
          refine TL_q (.bool false) (fun _ _ hρ _ => r_move (hρ _ _ rfl)) rfl rfl rfl (w_n rfl) ?_
          refine TL_q (.slice ar3 L.length cr3) (fun _ _ hρ _ => r_move (hρ _ _ rfl)) rfl rfl rfl (want_y 94 rfl rfl rfl) ?_
          refine TL_call (.bool false) (fun _ _ hρ _ => r_call (args := [.slice ar3 L.length cr3]) (enters_of Try.func15 (by kernel_rfl) rfl) (hρ _ _ rfl) ((cons2 (hρ _ _ rfl) rfl)) rfl) (fun w hm => (rising_c L ar3 cr3 w (SliceAt.own Tid.cells_len (hm.row 953 rfl) rfl rfl) (row_cap (hm.row 953 rfl))).mono fun _ _ h => ⟨h.1.trans (congrArg Ending.returned (bool_as (eq_false_of_ne_true hk2))), h.2⟩) rfl rfl rfl (want_y 94 rfl rfl rfl) ?_
          refine TL_q (.bool true) (fun _ _ hρ _ => r_not (b := false) (hρ _ _ rfl)) rfl rfl rfl (want_y 94 rfl rfl rfl) ?_
          refine TL_q (.bool true) (fun _ _ hρ _ => r_pick_f (hρ _ _ rfl) (hρ _ _ rfl)) rfl rfl rfl (w_n rfl) ?_
          refine TL_seq ?_
          refine T_cond_t rfl ?_
          refine T_seq (T_region ?_)
          refine TL_q (.slice none 0 0) (fun _ _ hρ _ => r_move (hρ _ _ rfl)) rfl rfl rfl (w_n rfl) ?_
          refine TL_q (.int .i64 0) (fun _ _ hρ _ => r_len sl22 (hρ _ _ rfl)) rfl rfl rfl (w_n rfl) ?_
          refine TL_q (.bool true) (fun _ _ hρ _ => r_as (r_eql (hρ _ _ rfl) (hρ _ _ rfl)) (by rfl)) rfl rfl rfl (w_n rfl) ?_
          refine TL_q (.bool true) (fun _ _ hρ _ => r_assign (hρ _ _ rfl)) rfl rfl rfl (w_n rfl) ?_
          refine TL_seq ?_
          refine T_ret' ?_
          refine p_then_r ?_
          refine ret_of rfl (.bool true) (fun tmps w hk hm => res1 rfl (res_tmp (hk 6 _ rfl))) (fun w hm => ?_)
          exact ⟨rfl, hm.ext⟩
      · skip
        refine T_seq (T_region ?_)
        refine TL_q (.slice ar2 mr2.length cr2) (fun _ _ hρ _ => r_move (hρ _ _ rfl)) rfl rfl rfl (w_n rfl) ?_
        refine TL_call (.int .i64 260) (fun _ _ hρ _ => r_call (args := [.slice ar2 mr2.length cr2]) (enters_of Try.func14 (by kernel_rfl) rfl) (hρ _ _ rfl) ((cons2 (hρ _ _ rfl) rfl)) rfl) (fun w hm => (check_c mr2 ar2 cr2 w (SliceAt.own Mk.cells_len (hm.row 952 rfl) rfl rfl) (row_cap (hm.row 952 rfl))).mono fun _ _ h => ⟨h.1.trans (congrArg Ending.returned (int_as (if_neg hk1))), h.2⟩) rfl rfl rfl (w_n rfl) ?_
        refine TL_q (.bool true) (fun _ _ hρ _ => r_as (r_neq (hρ _ _ rfl) (hρ _ _ rfl)) (by rfl)) rfl rfl rfl (w_n rfl) ?_
        refine TL_q (.bool true) (fun _ _ hρ _ => r_move (hρ _ _ rfl)) rfl rfl rfl (w_n rfl) ?_
        refine TL_no rfl rfl (want_n 94 rfl rfl rfl) ?_
        refine TL_no rfl rfl (want_n 94 rfl rfl rfl) ?_
        refine TL_no rfl rfl (want_n 94 rfl rfl rfl) ?_
        refine TL_q (.bool true) (fun _ _ hρ _ => r_pick_t (hρ _ _ rfl) (hρ _ _ rfl)) rfl rfl rfl (w_n rfl) ?_
        refine TL_seq ?_
        refine T_cond_t rfl ?_
        refine T_seq (T_region ?_)
        refine TL_q (.slice none 0 0) (fun _ _ hρ _ => r_move (hρ _ _ rfl)) rfl rfl rfl (w_n rfl) ?_
        refine TL_q (.int .i64 0) (fun _ _ hρ _ => r_len sl22 (hρ _ _ rfl)) rfl rfl rfl (w_n rfl) ?_
        refine TL_q (.bool true) (fun _ _ hρ _ => r_as (r_eql (hρ _ _ rfl) (hρ _ _ rfl)) (by rfl)) rfl rfl rfl (w_n rfl) ?_
        refine TL_q (.bool true) (fun _ _ hρ _ => r_assign (hρ _ _ rfl)) rfl rfl rfl (w_n rfl) ?_
        refine TL_seq ?_
        refine T_ret' ?_
        refine p_then_r ?_
        refine ret_of rfl (.bool true) (fun tmps w hk hm => res1 rfl (res_tmp (hk 6 _ rfl))) (fun w hm => ?_)
        exact ⟨rfl, hm.ext⟩
end Go.Proofs.Ytmihoejecpcmjaa
