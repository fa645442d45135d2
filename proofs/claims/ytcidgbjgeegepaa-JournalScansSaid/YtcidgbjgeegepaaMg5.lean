/- Texts of this seat, merged: part 5. -/
import Derived.Test.YtcidgbjgeegepaaMg4
/- net and journal: JournalScans. Printed by a program of this seat's prover. -/
namespace Go.Proofs.Ytcidgbjgeegepaa
open Go Go.RowKit
set_option maxRecDepth 10000
theorem equal_n (l m : List Nat) (a b : Option Addr) (ca cb : Nat) (w : World) (hv : SliceAt w a ca 1 nic l) (hu : SliceAt w b cb 1 nic m) (hl : l.length ≤ 4611686018427387904) (hl' : m.length ≤ 4611686018427387904) :
    Calls Try.prog 48 #[.slice a l.length ca, .slice b m.length cb] w fun e w' => e = .returned (.bool (decide (l = m))) ∧ Below w.heap.size w w' := by
  refine calls_of_T (l := [.slice a l.length ca, .slice b m.length cb]) 26 Try.func48 rfl rfl rfl ?_
  show T _ _ _ [(0, .slice a l.length ca), (1, .slice b m.length cb)] []
  refine T_seq (T_region ?_)
  refine TL_q (.bool false) (fun _ _ hρ _ => r_assign (hρ _ _ rfl)) rfl rfl rfl (w_n rfl) ?_
  refine TL_seq ?_
  refine T_seq ?_
  by_cases hlm : ((l.length : Nat) : Int) = ((m.length : Nat) : Int)
  · skip
    refine T_seq (T_region ?_)
    refine TL_q (.slice a l.length ca) (fun _ _ hρ _ => r_move (hρ _ _ rfl)) rfl rfl rfl (w_n rfl) ?_
    refine TL_q (.int .i64 ((l.length : Nat) : Int)) (fun _ _ hρ _ => r_len sl71 (hρ _ _ rfl)) rfl rfl rfl (w_n rfl) ?_
    refine TL_q (.slice b m.length cb) (fun _ _ hρ _ => r_move (hρ _ _ rfl)) rfl rfl rfl (w_n rfl) ?_
    refine TL_q (.int .i64 ((m.length : Nat) : Int)) (fun _ _ hρ _ => r_len sl71 (hρ _ _ rfl)) rfl rfl rfl (w_n rfl) ?_
    refine TL_q (.bool false) (fun _ _ hρ _ => r_as (r_neq (hρ _ _ rfl) (hρ _ _ rfl)) (bool_as (by rw [decide_eq_true hlm]; rfl))) rfl rfl rfl (w_n rfl) ?_
    refine TL_seq ?_
    refine T_cond_f rfl ?_
    refine T_skip' ?_
    refine p_seq ?_
    refine T_seq ?_
    refine T_seq (T_region ?_)
    refine TL_q (.slice a l.length ca) (fun _ _ hρ _ => r_move (hρ _ _ rfl)) rfl rfl rfl (w_n rfl) ?_
    refine TL_q (.int .i64 ((l.length : Nat) : Int)) (fun _ _ hρ _ => r_len sl71 (hρ _ _ rfl)) rfl rfl rfl (w_n rfl) ?_
    refine TL_q (.int .i64 0) (fun _ _ hρ _ => r_move (hρ _ _ rfl)) rfl rfl rfl (w_n rfl) ?_
    refine TL_seq ?_
    refine T_block ?_
    refine T_loop (ι := Nat) (fun (k : Nat) => k ≤ l.length ∧ l.take k = m.take k) (fun (k : Nat) => [(0, .slice a l.length ca), (1, .slice b m.length cb), (12, .int .i64 ((l.length : Nat) : Int)), (13, .int .i64 ((k : Nat) : Int))]) (fun (k : Nat) => []) (fun (k : Nat) => l.length - k) 0 ⟨Nat.zero_le _, by simp⟩ (sub_cons rfl (sub_cons rfl (sub_cons rfl (sub_cons rfl sub_nil)))) sub_nil ?_
    rintro k hp
    obtain ⟨hk1, hk2⟩ := hp
    show T _ _ _ [(0, .slice a l.length ca), (1, .slice b m.length cb), (12, .int .i64 ((l.length : Nat) : Int)), (13, .int .i64 ((k : Nat) : Int))] []
    refine T_seq (T_region ?_)
    refine TL_q (.bool (decide (((k : Nat) : Int) < ((l.length : Nat) : Int)))) (fun _ _ hρ _ => r_lss (hρ _ _ rfl) (hρ _ _ rfl)) rfl rfl rfl (w_n rfl) ?_
    refine TL_seq ?_
    refine T_seq ?_
    refine T_cond rfl (fun h1 => ?_) (fun h1 => ?_)
    · replace h1 := of_decide_eq_true h1
      refine T_skip' ?_
      refine p_seq ?_
      refine T_seq ?_
      refine T_block ?_
      obtain ⟨x, hx⟩ : ∃ x, l[k]? = some x := ⟨_, List.getElem?_eq_getElem (by omega)⟩
      obtain ⟨y, hy⟩ : ∃ y, m[k]? = some y := ⟨_, List.getElem?_eq_getElem (by omega)⟩
      obtain ⟨b1, of1, cs1, T1, fz1, ha1, hq1, hr1⟩ := hv.open (i := k) (by omega)
      subst ha1
      obtain ⟨b2, of2, cs2, T2, fz2, ha2, hq2, hr2⟩ := hu.open (i := k) (by omega)
      subst ha2
      refine T_seq (T_region ?_)
      refine TL_q (.int .i64 ((k : Nat) : Int)) (fun _ _ hρ _ => r_move (hρ _ _ rfl)) rfl rfl rfl (w_n rfl) ?_
      refine TL_q (.int .i64 ((k : Nat) : Int)) (fun _ _ hρ _ => r_assign (hρ _ _ rfl)) rfl rfl rfl (w_n rfl) ?_
      refine TL_seq ?_
      refine T_seq (T_draw (V := [(0, .slice (some ⟨b1, of1, none⟩) l.length ca), (1, .int .i64 ((k : Nat) : Int)), (2, .pointer (some ⟨b1, of1 + k * 1, none⟩)), (3, .int .i64 ((x : Nat) : Int)), (4, .slice (some ⟨b2, of2, none⟩) m.length cb), (5, .int .i64 ((k : Nat) : Int)), (6, .pointer (some ⟨b2, of2 + k * 1, none⟩)), (7, .int .i64 ((y : Nat) : Int)), (8, .bool (!decide (((x : Nat) : Int) = ((y : Nat) : Int))))]) [0, 0, 3, 7, 0, 0, 48, 112, 255] [[(0, none)], [(5, none)], [(16, some 0), (17, some 1)], [(18, some 2)], [(1, none)], [(5, none)], [(20, some 4), (21, some 5)], [(22, some 6)], [(19, some 3), (23, some 7)]] 0 mixed (by kernel_rfl) ?_)
      refine G_last [0, 1, 2, 3, 4, 5, 6, 7, 8] [(0, .slice (some ⟨b1, of1, none⟩) l.length ca), (1, .slice (some ⟨b2, of2, none⟩) m.length cb), (12, .int .i64 ((l.length : Nat) : Int)), (13, .int .i64 ((k : Nat) : Int)), (14, .bool (decide (((k : Nat) : Int) < ((l.length : Nat) : Int)))), (15, .int .i64 ((k : Nat) : Int)), (5, .int .i64 ((k : Nat) : Int)), (16, .slice (some ⟨b1, of1, none⟩) l.length ca), (17, .int .i64 ((k : Nat) : Int)), (18, .pointer (some ⟨b1, of1 + k * 1, none⟩)), (19, .int .i64 ((x : Nat) : Int)), (20, .slice (some ⟨b2, of2, none⟩) m.length cb), (21, .int .i64 ((k : Nat) : Int)), (22, .pointer (some ⟨b2, of2 + k * 1, none⟩)), (23, .int .i64 ((y : Nat) : Int)), (24, .bool (!decide (((x : Nat) : Int) = ((y : Nat) : Int))))] (by kernel_rfl) (allM (all_cons (q_run (.slice (some ⟨b1, of1, none⟩) l.length ca) rfl rfl (wv_n rfl) rfl (fun _ _ hρ _ => r_move (hρ _ _ rfl))) (all_cons (q_run (.int .i64 ((k : Nat) : Int)) rfl rfl (wv_n rfl) rfl (fun _ _ hρ _ => r_move (hρ _ _ rfl))) (all_cons (q_run (.pointer (some ⟨b1, of1 + k * 1, none⟩)) rfl rfl (wv_n rfl) rfl (fun _ _ hρ _ => r_indexAddrS (i := k) sl71 sz3 (hρ _ _ rfl) (hρ _ _ rfl) (by omega))) (all_cons (q_run (.int .i64 ((x : Nat) : Int)) rfl rfl (wv_n rfl) rfl (fun _ _ hρ hm => r_loadRow1 (f := nic) (u := x) ag3 (hρ _ _ rfl) (hm.old hq1) hr1 hx rfl)) (all_cons (q_run (.slice (some ⟨b2, of2, none⟩) m.length cb) rfl rfl (wv_n rfl) rfl (fun _ _ hρ _ => r_move (hρ _ _ rfl))) (all_cons (q_run (.int .i64 ((k : Nat) : Int)) rfl rfl (wv_n rfl) rfl (fun _ _ hρ _ => r_move (hρ _ _ rfl))) (all_cons (q_run (.pointer (some ⟨b2, of2 + k * 1, none⟩)) rfl rfl (wv_n rfl) rfl (fun _ _ hρ _ => r_indexAddrS (i := k) sl71 sz3 (hρ _ _ rfl) (hρ _ _ rfl) (by omega))) (all_cons (q_run (.int .i64 ((y : Nat) : Int)) rfl rfl (wv_n rfl) rfl (fun _ _ hρ hm => r_loadRow1 (f := nic) (u := y) ag3 (hρ _ _ rfl) (hm.old hq2) hr2 hy rfl)) (all_cons (q_run (.bool (!decide (((x : Nat) : Int) = ((y : Nat) : Int)))) rfl rfl (wv_n rfl) rfl (fun _ _ hρ _ => r_neq (hρ _ _ rfl) (hρ _ _ rfl))) all_nil)))))))))) (end_old rfl rfl (end_old rfl rfl (end_old rfl rfl (end_old rfl rfl (end_old rfl rfl (end_old rfl rfl (end_old rfl rfl (end_new 0 rfl rfl (end_new 1 rfl rfl (end_new 2 rfl rfl (end_new 3 rfl rfl (end_new 4 rfl rfl (end_new 5 rfl rfl (end_new 6 rfl rfl (end_new 7 rfl rfl (end_new 8 rfl rfl end_nil)))))))))))))))) ?_
      refine T_cond rfl (fun h2 => ?_) (fun h2 => ?_)
      · replace h2 := of_decide_eq_false (bnot_t h2)
        have hxy : ¬ x = y := by intro e; subst e; exact h2 rfl
        refine T_seq (T_region ?_)
        refine TL_q (.bool false) (fun _ _ hρ _ => r_assign (hρ _ _ rfl)) rfl rfl rfl (w_n rfl) ?_
        refine TL_seq ?_
        refine T_ret' ?_
        refine p_blk_r ?_
        refine p_then_r ?_
        refine p_then_r ?_
        refine p_blk_r ?_
        refine p_then_r ?_
        refine ret_of rfl (.bool false) (fun tmps w hk hm => res1 rfl (res_tmp (hk 4 _ rfl))) (fun w hm => ?_)
        exact ⟨congrArg Ending.returned (bool_as (decide_eq_false (fun e => hxy (by subst e; rw [hx] at hy; exact Option.some.inj hy))).symm), hm.ext⟩
      · replace h2 := of_decide_eq_true (bnot_f h2)
        refine T_skip' ?_
        refine p_blk_n ?_
        refine p_seq ?_
        have hxy : x = y := by omega
        refine T_region ?_
        refine TL_q (.int .i64 ((k + 1 : Nat) : Int)) (fun _ _ hρ _ => r_as (r_add (hρ _ _ rfl) (hρ _ _ rfl)) (int_as ((wrap64 (by omega) (by omega)).trans (by omega)))) rfl rfl rfl (w_n rfl) ?_
        refine TL_q (.int .i64 ((k + 1 : Nat) : Int)) (fun _ _ hρ _ => r_move (hρ _ _ rfl)) rfl rfl rfl (w_n rfl) ?_
        refine TL_nil ?_
        exact p_at (k + 1) ⟨⟨by omega, by rw [List.take_add_one, List.take_add_one, hx, hy, hk2, hxy]⟩, by omega⟩ (sub_cons rfl (sub_cons rfl (sub_cons rfl (sub_cons rfl sub_nil)))) sub_nil
    · replace h1 := of_decide_eq_false h1
      refine T_exit' ?_
      refine p_then_x ?_
      refine p_then_x ?_
      refine p_blk_x ?_
      refine p_seq ?_
      refine T_seq (T_region ?_)
      refine TL_q (.bool true) (fun _ _ hρ _ => r_assign (hρ _ _ rfl)) rfl rfl rfl (w_n rfl) ?_
      refine TL_seq ?_
      refine T_ret' ?_
      refine ret_of rfl (.bool true) (fun tmps w hk hm => res1 rfl (res_tmp (hk 4 _ rfl))) (fun w hm => ?_)
      exact ⟨congrArg Ending.returned (bool_as (decide_eq_true (by rw [← List.take_length (l := l), ← List.take_length (l := m), ← show k = l.length by omega, ← show k = m.length by omega]; exact hk2)).symm), hm.ext⟩
  · skip
    refine T_seq (T_region ?_)
    refine TL_q (.slice a l.length ca) (fun _ _ hρ _ => r_move (hρ _ _ rfl)) rfl rfl rfl (w_n rfl) ?_
    refine TL_q (.int .i64 ((l.length : Nat) : Int)) (fun _ _ hρ _ => r_len sl71 (hρ _ _ rfl)) rfl rfl rfl (w_n rfl) ?_
    refine TL_q (.slice b m.length cb) (fun _ _ hρ _ => r_move (hρ _ _ rfl)) rfl rfl rfl (w_n rfl) ?_
    refine TL_q (.int .i64 ((m.length : Nat) : Int)) (fun _ _ hρ _ => r_len sl71 (hρ _ _ rfl)) rfl rfl rfl (w_n rfl) ?_
    refine TL_q (.bool true) (fun _ _ hρ _ => r_as (r_neq (hρ _ _ rfl) (hρ _ _ rfl)) (bool_as (by rw [decide_eq_false hlm]; rfl))) rfl rfl rfl (w_n rfl) ?_
    refine TL_seq ?_
    refine T_cond_t rfl ?_
    refine T_seq (T_region ?_)
    refine TL_q (.bool false) (fun _ _ hρ _ => r_assign (hρ _ _ rfl)) rfl rfl rfl (w_n rfl) ?_
    refine TL_seq ?_
    refine T_ret' ?_
    refine p_then_r ?_
    refine ret_of rfl (.bool false) (fun tmps w hk hm => res1 rfl (res_tmp (hk 4 _ rfl))) (fun w hm => ?_)
    exact ⟨congrArg Ending.returned (bool_as (decide_eq_false (fun e => hlm (by rw [e]))).symm), hm.ext⟩

set_option maxHeartbeats 2000000 in
theorem jscans_c (l : List By) (a : Option Addr) (cap : Nat) (w : World) (hv : SliceAt w a cap 1 byc l) (hcap : cap ≤ Go.maxLen) : Calls Try.prog 8 #[.slice a l.length cap] w fun e w' => e = .returned (.bool true) ∧ Below w.heap.size w w' := by
  have hvl := hv.1
  have hcp := hcap
  unfold Go.maxLen at hcp
  refine calls_of_T (l := [.slice a l.length cap]) 147 Try.func8 rfl rfl rfl ?_
  show T _ _ _ [(0, .slice a l.length cap)] []
  refine T_seq (T_region ?_)
  refine TL_q (.bool false) (fun _ _ hρ _ => r_assign (hρ _ _ rfl)) rfl rfl rfl (w_n rfl) ?_
  refine TL_seq ?_
  refine T_seq ?_
  refine T_seq (T_region ?_)
  refine TL_call (.bool true) (fun _ _ hρ _ => r_call (args := []) (enters_of Try.func35 (by kernel_rfl) rfl) (hρ _ _ rfl) (by rfl) rfl) (fun w _ => jwakes_c w) rfl rfl rfl (w_n rfl) ?_
  refine TL_q (.bool false) (fun _ _ hρ _ => r_not (b := true) (hρ _ _ rfl)) rfl rfl rfl (w_n rfl) ?_
  refine TL_seq ?_
  refine T_cond_f rfl ?_
  refine T_skip' ?_
  refine p_seq ?_
  refine T_seq (T_region ?_)
  refine TL_q (.slice a l.length cap) (fun _ _ hρ _ => r_move (hρ _ _ rfl)) rfl rfl rfl (w_n rfl) ?_
  refine TL_q (.slice a l.length cap) (fun _ _ hρ _ => r_move (hρ _ _ rfl)) rfl rfl rfl (w_n rfl) ?_
  refine TL_q (.int .i64 ((l.length : Nat) : Int)) (fun _ _ hρ _ => r_len sl34 (hρ _ _ rfl)) rfl rfl rfl (w_n rfl) ?_
  refine TL_q (.int .i64 ((min l.length 3000 : Nat) : Int)) (fun _ _ hρ _ => r_as (r_min (hρ _ _ rfl) (hρ _ _ rfl)) (int_as (minI _ 3000))) rfl rfl rfl (w_n rfl) ?_
  obtain ⟨l1, hl1, hn1⟩ : ∃ lz, lz = l.take (min l.length 3000) ∧ lz.length = min l.length 3000 := ⟨_, rfl, by rw [List.length_take]; omega⟩
  have hs1 := SliceAt.front hv (n := min l.length 3000) (m := cap) (by omega) (by omega) (by omega)
  rw [← hl1] at hs1
  refine TL_q (.slice a l1.length cap) (fun ρ _ hρ _ => r_as (r_sliceO sl34 sz5 (hρ _ _ rfl) (bd_none ρ _) (bd_some (n := min l.length 3000) (hρ _ _ rfl)) (bd_none ρ _) (by simp) (by omega) (by omega) (by omega)) (by rw [hn1]; exact slo_zero _ _ _ _)) rfl rfl rfl (w_n rfl) ?_
  refine TL_callN (fun (_ : Option Addr × Nat) => True) (fun (ar2, cr2) => .slice ar2 ((l1).length) cr2) (fun (ar2, cr2) => [(1, .row (.slice ar2 ((l1).length) cr2) 5 1 ((l1).length) ((l1).flatMap byc))]) (fun _ _ hρ _ => r_call (args := [.slice a l1.length cap]) (enters_of Try.func37 (by kernel_rfl) rfl) (hρ _ _ rfl) ((cons2 (hρ _ _ rfl) rfl)) rfl) (fun w hm => (clone_b byc byc_len byc_one l1 a cap w (hs1.keep hm.ext) (by omega)).mono fun e w' ⟨a', cap', he, hb, hr⟩ => ⟨(a', cap'), trivial, he, hb, newOk1 1 hr⟩) rfl rfl rfl (w_n rfl) ?_
  rintro ⟨ar2, cr2⟩ -
  refine TL_q (.slice ar2 ((l1).length) cr2) (fun _ _ hρ _ => r_assign (hρ _ _ rfl)) rfl rfl rfl (w_n rfl) ?_
  refine TL_seq ?_
  refine T_rowcap 1 rfl (fun hrc1 => ?_)
  refine T_seq (T_region ?_)
  refine TL_q (.slice ar2 ((l1).length) cr2) (fun _ _ hρ _ => r_move (hρ _ _ rfl)) rfl rfl rfl (w_n rfl) ?_
  refine TL_callN (fun ((na3, nc3, nl3) : Option Addr × Nat × List (RowG By)) => rls nl3 = heldsV l1) (fun (na3, nc3, nl3) => .tuple #[.slice na3 nl3.length nc3, .int .i64 ((sizeV l1 : Nat) : Int)]) (fun (na3, nc3, nl3) => [(2, .row (.slice na3 nl3.length nc3) 34 1 nl3.length (nl3.flatMap RowG.cells)), (3, .pool 5 1 byc nl3)]) (fun _ _ hρ _ => r_call (args := [.slice ar2 ((l1).length) cr2]) (enters_of Try.func46 (by kernel_rfl) rfl) (hρ _ _ rfl) ((cons2 (hρ _ _ rfl) rfl)) rfl) (fun w hm => (scan_c l1 ar2 cr2 w (SliceAt.own byc_len (hm.row 1 rfl) rfl rfl) (row_cap (hm.row 1 rfl)) (by omega)).mono fun e w' ⟨n, hf, he, hb, r1, r2, hs⟩ => ⟨(n.a, n.cap, n.l), hf, he, hb, newOk2 2 3 r1 r2 hs⟩) rfl rfl rfl (w_n rfl) ?_
  rintro ⟨na3, nc3, nl3⟩ hsc3
  refine TL_q (.tuple #[.slice na3 nl3.length nc3, .int .i64 ((sizeV l1 : Nat) : Int)]) (fun _ _ hρ _ => r_move (hρ _ _ rfl)) rfl rfl rfl (w_n rfl) ?_
  refine TL_q (.slice na3 nl3.length nc3) (fun _ _ hρ _ => r_extract (hρ _ _ rfl) rfl) rfl rfl rfl (w_n rfl) ?_
  refine TL_q (.int .i64 ((sizeV l1 : Nat) : Int)) (fun _ _ hρ _ => r_extract (hρ _ _ rfl) rfl) rfl rfl rfl (w_n rfl) ?_
  refine TL_q (.slice na3 nl3.length nc3) (fun _ _ hρ _ => r_assign (hρ _ _ rfl)) rfl rfl rfl (w_n rfl) ?_
  refine TL_q (.int .i64 ((sizeV l1 : Nat) : Int)) (fun _ _ hρ _ => r_assign (hρ _ _ rfl)) rfl rfl rfl (w_n rfl) ?_
  refine TL_seq ?_
  refine T_seq (T_region ?_)
  refine TL_q (.slice ar2 ((l1).length) cr2) (fun _ _ hρ _ => r_move (hρ _ _ rfl)) rfl rfl rfl (w_n rfl) ?_
  refine TL_callN (fun ((va4, vc4, vl4, ma4, mc4, ml4) : Option Addr × Nat × List (RowG By) × Option Addr × Nat × List Nat) => rls vl4 = heldsV l1 ∧ ml4 = placesV l1) (fun (va4, vc4, vl4, ma4, mc4, ml4) => .tuple #[.slice va4 vl4.length vc4, .slice ma4 ml4.length mc4, .int .i64 ((sizeV l1 : Nat) : Int)]) (fun (va4, vc4, vl4, ma4, mc4, ml4) => [(963, .row (.slice va4 vl4.length vc4) 34 1 vl4.length (vl4.flatMap RowG.cells)), (964, .rows vl4), (965, .row (.slice ma4 ml4.length mc4) 3 1 ml4.length (ml4.flatMap nic))]) (fun _ _ hρ _ => r_call (args := [.slice ar2 ((l1).length) cr2]) (enters_of Try.func42 (by kernel_rfl) rfl) (hρ _ _ rfl) ((cons2 (hρ _ _ rfl) rfl)) rfl) (fun w hm => (rscan_c l1 ar2 cr2 w (SliceAt.own byc_len (hm.row 1 rfl) rfl rfl) (row_cap (hm.row 1 rfl)) (by omega)).mono fun e w' ⟨n, m, hf, hg, he, hb, hn⟩ => ⟨(n.a, n.cap, n.l, m.a, m.cap, m.l), ⟨hf, hg⟩, he, hb, hn⟩) rfl rfl rfl (w_n rfl) ?_
  rintro ⟨va4, vc4, vl4, ma4, mc4, ml4⟩ hrs4
  refine TL_q (.tuple #[.slice va4 vl4.length vc4, .slice ma4 ml4.length mc4, .int .i64 ((sizeV l1 : Nat) : Int)]) (fun _ _ hρ _ => r_move (hρ _ _ rfl)) rfl rfl rfl (w_n rfl) ?_
  refine TL_q (.slice va4 vl4.length vc4) (fun _ _ hρ _ => r_extract (hρ _ _ rfl) rfl) rfl rfl rfl (w_n rfl) ?_
  refine TL_q (.slice ma4 ml4.length mc4) (fun _ _ hρ _ => r_extract (hρ _ _ rfl) rfl) rfl rfl rfl (w_n rfl) ?_
  refine TL_q (.int .i64 ((sizeV l1 : Nat) : Int)) (fun _ _ hρ _ => r_extract (hρ _ _ rfl) rfl) rfl rfl rfl (w_n rfl) ?_
  refine TL_q (.slice va4 vl4.length vc4) (fun _ _ hρ _ => r_assign (hρ _ _ rfl)) rfl rfl rfl (w_n rfl) ?_
  refine TL_q (.slice ma4 ml4.length mc4) (fun _ _ hρ _ => r_assign (hρ _ _ rfl)) rfl rfl rfl (w_n rfl) ?_
  refine TL_q (.int .i64 ((sizeV l1 : Nat) : Int)) (fun _ _ hρ _ => r_assign (hρ _ _ rfl)) rfl rfl rfl (w_n rfl) ?_
  refine TL_seq ?_
  refine T_seq ?_
  have hnb : ∀ r ∈ nl3, r.l.length ≤ 65536 := rls_le hsc3 (held_le _)
  have hnc : nl3.length ≤ 3000 := by have := held_many l1; rw [← hsc3, rls_len] at this; omega
  have hsz := size_le l1
  have hct : (l1.take (sizeV l1)).length ≤ 3000 := by rw [List.length_take]; omega
  have hpc : (placesV l1).length ≤ 3000 := Nat.le_trans (by rw [List.length_map]; exact scan_many l1.length 0 l1 (Nat.le_refl _)) (by omega)
  obtain ⟨l7, hl7, hn7⟩ : ∃ lz, lz = (l1).take (sizeV l1) ∧ lz.length = sizeV l1 := ⟨_, rfl, by rw [List.length_take]; omega⟩
  refine T_seq (T_draw (V := [(0, .slice na3 nl3.length nc3), (1, .slice va4 vl4.length vc4)]) [0, 0, 3, 7, 15, 31, 31, 127, 255, 511, 1023, 2047, 1023, 8191, 16383, 32767, 65535, 131071, 262143, 131071, 131071, 1703935, 4194303, 8388607, 16777215] [[(4, none)], [(6, none)], [(40, some 0), (41, some 1)], [(42, some 2)], [(43, some 3)], [(5, none)], [(8, none)], [(45, some 5), (46, some 6)], [(47, some 7), (44, some 4)], [(48, some 8)], [(3, none)], [(50, some 10)], [(7, none)], [(51, some 11), (52, some 12)], [(53, some 13)], [(54, some 14), (49, some 9)], [(55, some 15)], [(3, none)], [(57, some 17)], [(3, none)], [(8, none)], [(59, some 19), (60, some 20)], [(58, some 18), (61, some 21)], [(62, some 22)], [(63, some 23), (56, some 16)]] 4466692 mixed (by kernel_rfl) ?_)
  refine G_step [0, 1] 2 [] (by kernel_rfl) (allM (all_cons (q_run (.slice na3 nl3.length nc3) rfl rfl (wv_n rfl) rfl (fun _ _ hρ _ => r_move (hρ _ _ rfl))) (all_cons (q_run (.slice va4 vl4.length vc4) rfl rfl (wv_n rfl) rfl (fun _ _ hρ _ => r_move (hρ _ _ rfl))) all_nil))) (allM (all_cons ?_ all_nil))
  refine LOb_call (.bool true) [(3, .bool false), (4, .bool false), (5, .int .i64 ((sizeV l1 : Nat) : Int)), (6, .int .i64 ((sizeV l1 : Nat) : Int)), (7, .bool false), (8, .bool false), (9, .bool false), (10, .slice ar2 ((l1).length) cr2), (12, .slice ma4 ml4.length mc4)] rfl (wv_n rfl) rfl rfl (fun _ _ hρ _ => r_call (args := [.slice na3 nl3.length nc3, .slice va4 vl4.length vc4]) (enters_of Try.func45 (by kernel_rfl) rfl) (hρ _ _ rfl) ((cons2 (hρ _ _ rfl) (cons2 (hρ _ _ rfl) rfl))) rfl) (fun w hm => (same_c nl3 na3 nc3 vl4 va4 vc4 w (SliceAt.own RowG.cells_len (hm.row 2 rfl) rfl rfl) (row_cap (hm.row 2 rfl)) (fun r hr => ⟨poolAt byc_len (hm.pool 3 rfl) hr, poolCap (hm.pool 3 rfl) hr⟩) (fun r hr => Nat.le_trans (rls_le hsc3 (held_le _) r hr) (by decide)) (SliceAt.own RowG.cells_len (hm.row 963 rfl) rfl rfl) (row_cap (hm.row 963 rfl)) (hm.rowsIn 964 rfl) (fun r hr => Nat.le_trans (rls_le hrs4.1 (held_le _) r hr) (by decide))).mono fun _ _ h => ⟨h.1.trans (congrArg Ending.returned (bool_as (decide_eq_true (hsc3.trans hrs4.1.symm)))), h.2⟩) (by kernel_rfl) ?_
  refine G_step [3, 4, 5, 6, 7, 8, 9, 10, 12] 11 [] (by kernel_rfl) (allM (all_cons (q_run (.bool false) rfl rfl (wv_n rfl) rfl (fun _ _ hρ _ => r_not (b := true) (hρ _ _ rfl))) (all_cons (q_run (.bool false) rfl rfl (wv_n rfl) rfl (fun _ _ hρ _ => r_move (hρ _ _ rfl))) (all_cons (q_run (.int .i64 ((sizeV l1 : Nat) : Int)) rfl rfl (wv_y rfl rfl) rfl (fun _ _ hρ _ => r_move (hρ _ _ rfl))) (all_cons (q_run (.int .i64 ((sizeV l1 : Nat) : Int)) rfl rfl (wv_y rfl rfl) rfl (fun _ _ hρ _ => r_move (hρ _ _ rfl))) (all_cons (q_run (.bool false) rfl rfl (wv_y rfl rfl) rfl (fun _ _ hρ _ => r_as (r_neq (hρ _ _ rfl) (hρ _ _ rfl)) (bool_as (by simp)))) (all_cons (q_run (.bool false) rfl rfl (wv_n rfl) rfl (fun _ _ hρ _ => r_pick_f (hρ _ _ rfl) (hρ _ _ rfl))) (all_cons (q_run (.bool false) rfl rfl (wv_n rfl) rfl (fun _ _ hρ _ => r_move (hρ _ _ rfl))) (all_cons (q_run (.slice ar2 ((l1).length) cr2) rfl rfl (wv_y rfl rfl) rfl (fun _ _ hρ _ => r_move (hρ _ _ rfl))) (all_cons (q_run (.slice ma4 ml4.length mc4) rfl rfl (wv_y rfl rfl) rfl (fun _ _ hρ _ => r_move (hρ _ _ rfl))) all_nil)))))))))) (allM (all_cons ?_ all_nil))
  refine LOb_callN (fun (_ : Option Addr × Nat) => True) (fun (ar8, cr8) => .slice ar8 ((placesV l1).length) cr8) (fun (ar8, cr8) => [(4, .row (.slice ar8 ((placesV l1).length) cr8) 3 1 ((placesV l1).length) ((placesV l1).flatMap nic))]) (fun (ar8, cr8) => []) rfl (wv_y rfl rfl) rfl rfl (fun _ _ hρ _ => r_call (args := [.slice ar2 ((l1).length) cr2]) (enters_of Try.func49 (by kernel_rfl) rfl) (hρ _ _ rfl) ((cons2 (hρ _ _ rfl) rfl)) rfl) (fun w hm => (places_c l1 ar2 cr2 w (SliceAt.own byc_len (hm.row 1 rfl) rfl rfl) (row_cap (hm.row 1 rfl)) (by omega)).mono fun e w' ⟨a', cap', he, hb, hr⟩ => ⟨(a', cap'), trivial, he, hb, newOk1 4 hr⟩) (fun (ar8, cr8) => by kernel_rfl) ?_
  rintro ⟨ar8, cr8⟩ -
  refine G_step [12] 13 [] (by kernel_rfl) (allM (all_cons (q_run (.slice ma4 ml4.length mc4) rfl rfl (wv_y rfl rfl) rfl (fun _ _ hρ _ => r_move (hρ _ _ rfl))) all_nil)) (allM (all_cons ?_ all_nil))
  refine LOb_call (.bool true) [(14, .bool false), (15, .bool false), (16, .bool false), (17, .slice ar2 ((l1).length) cr2), (19, .slice ar2 ((l1).length) cr2), (20, .int .i64 ((sizeV l1 : Nat) : Int)), (21, .slice ar2 l7.length cr2)] rfl (wv_y rfl rfl) rfl rfl (fun _ _ hρ _ => r_call (args := [.slice ar8 ((placesV l1).length) cr8, .slice ma4 ml4.length mc4]) (enters_of Try.func48 (by kernel_rfl) rfl) (hρ _ _ rfl) ((cons2 (hρ _ _ rfl) (cons2 (hρ _ _ rfl) rfl))) rfl) (fun w hm => (equal_n (placesV l1) ml4 ar8 ma4 cr8 mc4 w (SliceAt.own nic_len (hm.row 4 rfl) rfl rfl) (SliceAt.own nic_len (hm.row 965 rfl) rfl rfl) (by omega) (by rw [hrs4.2]; omega)).mono fun _ _ h => ⟨h.1.trans (congrArg Ending.returned (bool_as (decide_eq_true (hrs4.2.symm)))), h.2⟩) (by kernel_rfl) ?_
  refine G_step [14, 15, 16, 17, 19, 20, 21] 18 [] (by kernel_rfl) (allM (all_cons (q_run (.bool false) rfl rfl (wv_y rfl rfl) rfl (fun _ _ hρ _ => r_not (b := true) (hρ _ _ rfl))) (all_cons (q_run (.bool false) rfl rfl (wv_n rfl) rfl (fun _ _ hρ _ => r_pick_f (hρ _ _ rfl) (hρ _ _ rfl))) (all_cons (q_run (.bool false) rfl rfl (wv_n rfl) rfl (fun _ _ hρ _ => r_move (hρ _ _ rfl))) (all_cons (q_run (.slice ar2 ((l1).length) cr2) rfl rfl (wv_y rfl rfl) rfl (fun _ _ hρ _ => r_move (hρ _ _ rfl))) (all_cons (q_run (.slice ar2 ((l1).length) cr2) rfl rfl (wv_y rfl rfl) rfl (fun _ _ hρ _ => r_move (hρ _ _ rfl))) (all_cons (q_run (.int .i64 ((sizeV l1 : Nat) : Int)) rfl rfl (wv_y rfl rfl) rfl (fun _ _ hρ _ => r_move (hρ _ _ rfl))) (all_cons (q_run (.slice ar2 l7.length cr2) rfl rfl (wv_y rfl rfl) rfl (fun ρ _ hρ _ => r_as (r_sliceO sl34 sz5 (hρ _ _ rfl) (bd_none ρ _) (bd_some (n := sizeV l1) (hρ _ _ rfl)) (bd_none ρ _) (by simp) (by omega) (by omega) (by omega)) (by rw [hn7]; exact slo_zero _ _ _ _))) all_nil)))))))) (allM (all_cons ?_ all_nil))
  refine LOb_callN (fun (_ : Option Addr × Nat) => True) (fun (ar9, cr9) => .slice ar9 ((l1.take (sizeV l1)).length) cr9) (fun (ar9, cr9) => [(5, .row (.slice ar9 ((l1.take (sizeV l1)).length) cr9) 5 1 ((l1.take (sizeV l1)).length) ((l1.take (sizeV l1)).flatMap byc))]) (fun (ar9, cr9) => []) rfl (wv_y rfl rfl) rfl rfl (fun _ _ hρ _ => r_call (args := [.slice ar2 ((l1).length) cr2]) (enters_of Try.func50 (by kernel_rfl) rfl) (hρ _ _ rfl) ((cons2 (hρ _ _ rfl) rfl)) rfl) (fun w hm => (cut_c l1 ar2 cr2 w (SliceAt.own byc_len (hm.row 1 rfl) rfl rfl) (row_cap (hm.row 1 rfl)) (by omega)).mono fun e w' ⟨a', cap', he, hb, hr⟩ => ⟨(a', cap'), trivial, he, hb, newOk1 5 hr⟩) (fun (ar9, cr9) => by kernel_rfl) ?_
  rintro ⟨ar9, cr9⟩ -
  refine G_step [19, 20, 21] 22 [] (by kernel_rfl) (allM (all_cons (q_run (.slice ar2 ((l1).length) cr2) rfl rfl (wv_y rfl rfl) rfl (fun _ _ hρ _ => r_move (hρ _ _ rfl))) (all_cons (q_run (.int .i64 ((sizeV l1 : Nat) : Int)) rfl rfl (wv_y rfl rfl) rfl (fun _ _ hρ _ => r_move (hρ _ _ rfl))) (all_cons (q_run (.slice ar2 l7.length cr2) rfl rfl (wv_y rfl rfl) rfl (fun ρ _ hρ _ => r_as (r_sliceO sl34 sz5 (hρ _ _ rfl) (bd_none ρ _) (bd_some (n := sizeV l1) (hρ _ _ rfl)) (bd_none ρ _) (by simp) (by omega) (by omega) (by omega)) (by rw [hn7]; exact slo_zero _ _ _ _))) all_nil)))) (allM (all_cons ?_ all_nil))
  refine LOb_call (.bool true) [(23, .bool false), (24, .bool false)] rfl (wv_y rfl rfl) rfl rfl (fun _ _ hρ _ => r_call (args := [.slice ar9 ((l1.take (sizeV l1)).length) cr9, .slice ar2 l7.length cr2]) (enters_of Try.func16 (by kernel_rfl) rfl) (hρ _ _ rfl) ((cons2 (hρ _ _ rfl) (cons2 (hρ _ _ rfl) rfl))) rfl) (fun w hm => (equal_b (l1.take (sizeV l1)) l7 ar9 ar2 cr9 cr2 w (SliceAt.own byc_len (hm.row 5 rfl) rfl rfl) (by have hs := SliceAt.front (l := (l1)) (SliceAt.own byc_len (hm.row 1 rfl) rfl rfl) (n := sizeV l1) (m := cr2) (by omega) (by omega) (by omega); rw [← hl7] at hs; exact hs) (by omega) (by omega)).mono fun _ _ h => ⟨h.1.trans (congrArg Ending.returned (bool_as (decide_eq_true hl7.symm))), h.2⟩) (by kernel_rfl) ?_
  refine G_last [23, 24] [(0, .slice a l.length cap), (2, .bool false), (3, .slice ar2 ((l1).length) cr2), (4, .slice na3 nl3.length nc3), (8, .int .i64 ((sizeV l1 : Nat) : Int)), (64, .bool false)] (by kernel_rfl) (allM (all_cons (q_run (.bool false) rfl rfl (wv_y rfl rfl) rfl (fun _ _ hρ _ => r_not (b := true) (hρ _ _ rfl))) (all_cons (q_run (.bool false) rfl rfl (wv_n rfl) rfl (fun _ _ hρ _ => r_pick_f (hρ _ _ rfl) (hρ _ _ rfl))) all_nil))) (end_old rfl rfl (end_old rfl rfl (end_old rfl rfl (end_old rfl rfl (end_old rfl rfl (end_new 24 rfl rfl end_nil)))))) ?_
  refine T_cond_f rfl ?_
  refine T_skip' ?_
  refine p_seq ?_
  refine T_seq ?_
  refine T_mem (_ :: _) (fun _ hm => hm.poolScr 3 byc_len rfl isB_byc) ?_
  refine T_seq (T_region ?_)
  refine TL_q (.slice na3 nl3.length nc3) (fun _ _ hρ _ => r_move (hρ _ _ rfl)) rfl rfl rfl (w_n rfl) ?_
  refine TL_q (.int .i64 ((nl3.length : Nat) : Int)) (fun _ _ hρ _ => r_len sl63 (hρ _ _ rfl)) rfl rfl rfl (w_n rfl) ?_
  refine TL_q (.int .i64 0) (fun _ _ hρ _ => r_move (hρ _ _ rfl)) rfl rfl rfl (w_n rfl) ?_
  refine TL_seq ?_
  refine T_block ?_
  refine T_loop (ι := Nat) (fun (k : Nat) => k ≤ nl3.length) (fun (k : Nat) => [(0, .slice a l.length cap), (2, .bool false), (3, .slice ar2 ((l1).length) cr2), (8, .int .i64 ((sizeV l1 : Nat) : Int)), (65, .slice na3 nl3.length nc3), (66, .int .i64 ((nl3.length : Nat) : Int)), (67, .int .i64 ((k : Nat) : Int))]) (fun (k : Nat) => [(3, .scr 5 1 isB nl3), (5, .row (.slice ar9 ((l1.take (sizeV l1)).length) cr9) 5 1 ((l1.take (sizeV l1)).length) ((l1.take (sizeV l1)).flatMap byc)), (4, .row (.slice ar8 ((placesV l1).length) cr8) 3 1 ((placesV l1).length) ((placesV l1).flatMap nic)), (963, .row (.slice va4 vl4.length vc4) 34 1 vl4.length (vl4.flatMap RowG.cells)), (964, .rows vl4), (965, .row (.slice ma4 ml4.length mc4) 3 1 ml4.length (ml4.flatMap nic)), (2, .row (.slice na3 nl3.length nc3) 34 1 nl3.length (nl3.flatMap RowG.cells)), (1, .row (.slice ar2 ((l1).length) cr2) 5 1 ((l1).length) ((l1).flatMap byc))]) (fun (k : Nat) => nl3.length - k) 0 (Nat.zero_le _) (sub_cons rfl (sub_cons rfl (sub_cons rfl (sub_cons rfl (sub_cons rfl (sub_cons rfl (sub_cons rfl sub_nil))))))) (sub_cons rfl (sub_cons rfl (sub_cons rfl (sub_cons rfl (sub_cons rfl (sub_cons rfl (sub_cons rfl (sub_cons rfl sub_nil)))))))) ?_
  rintro k hp
  have hk := hp
  show T _ _ _ [(0, .slice a l.length cap), (2, .bool false), (3, .slice ar2 ((l1).length) cr2), (8, .int .i64 ((sizeV l1 : Nat) : Int)), (65, .slice na3 nl3.length nc3), (66, .int .i64 ((nl3.length : Nat) : Int)), (67, .int .i64 ((k : Nat) : Int))] [(3, .scr 5 1 isB nl3), (5, .row (.slice ar9 ((l1.take (sizeV l1)).length) cr9) 5 1 ((l1.take (sizeV l1)).length) ((l1.take (sizeV l1)).flatMap byc)), (4, .row (.slice ar8 ((placesV l1).length) cr8) 3 1 ((placesV l1).length) ((placesV l1).flatMap nic)), (963, .row (.slice va4 vl4.length vc4) 34 1 vl4.length (vl4.flatMap RowG.cells)), (964, .rows vl4), (965, .row (.slice ma4 ml4.length mc4) 3 1 ml4.length (ml4.flatMap nic)), (2, .row (.slice na3 nl3.length nc3) 34 1 nl3.length (nl3.flatMap RowG.cells)), (1, .row (.slice ar2 ((l1).length) cr2) 5 1 ((l1).length) ((l1).flatMap byc))]
  refine T_seq (T_region ?_)
  refine TL_q (.bool (decide (((k : Nat) : Int) < ((nl3.length : Nat) : Int)))) (fun _ _ hρ _ => r_lss (hρ _ _ rfl) (hρ _ _ rfl)) rfl rfl rfl (w_n rfl) ?_
  refine TL_seq ?_
  refine T_seq ?_
  refine T_cond rfl (fun h1 => ?_) (fun h1 => ?_)
  · replace h1 := of_decide_eq_true h1
    refine T_skip' ?_
    refine p_seq ?_
    refine T_seq ?_
    refine T_block ?_
    obtain ⟨p, hp9⟩ : ∃ x, nl3[k]? = some x := ⟨_, List.getElem?_eq_getElem (by omega)⟩
    have hin9 := List.mem_of_getElem? hp9
    have hpb := hnb p hin9
    refine T_row 2 rfl (by omega) (fun g10 ha10 => ?_)
    subst ha10
    refine T_rowcap 2 rfl (fun hrc10 => ?_)
    refine T_seq (T_region ?_)
    refine TL_q (.pointer (some ⟨g10, 0 + k * 1, none⟩)) (fun _ _ hρ _ => r_indexAddrS (i := k) sl63 sz34 (hρ _ _ rfl) (hρ _ _ rfl) (by omega)) rfl rfl rfl (w_n rfl) ?_
    refine TL_q (.slice p.a p.l.length p.cap) (fun _ _ hρ hm => r_loadOwn1 (f := RowG.cells) (u := p) (l := nl3) ag34 (hρ _ _ rfl) (hm.row 2 rfl) rfl rfl RowG.cells_len hp9 rfl) rfl rfl rfl (w_n rfl) ?_
    refine TL_q (.slice p.a p.l.length p.cap) (fun _ _ hρ _ => r_assign (hρ _ _ rfl)) rfl rfl rfl (w_n rfl) ?_
    refine TL_seq ?_
    refine T_seq (T_region ?_)
    refine TL_q (.slice p.a p.l.length p.cap) (fun _ _ hρ _ => r_move (hρ _ _ rfl)) rfl rfl rfl (w_n rfl) ?_
    refine TL_q (.int .i64 ((p.l.length : Nat) : Int)) (fun _ _ hρ _ => r_len sl34 (hρ _ _ rfl)) rfl rfl rfl (w_n rfl) ?_
    refine TL_q (.int .i64 0) (fun _ _ hρ _ => r_move (hρ _ _ rfl)) rfl rfl rfl (w_n rfl) ?_
    refine TL_seq ?_
    refine T_block ?_
    refine T_loop (ι := Nat) (fun (m : Nat) => m ≤ p.l.length) (fun (m : Nat) => [(0, .slice a l.length cap), (2, .bool false), (3, .slice ar2 ((l1).length) cr2), (8, .int .i64 ((sizeV l1 : Nat) : Int)), (65, .slice (some ⟨g10, 0, none⟩) nl3.length nc3), (66, .int .i64 ((nl3.length : Nat) : Int)), (67, .int .i64 ((k : Nat) : Int)), (68, .bool (decide (((k : Nat) : Int) < ((nl3.length : Nat) : Int)))), (69, .pointer (some ⟨g10, 0 + k * 1, none⟩)), (70, .slice p.a p.l.length p.cap), (10, .slice p.a p.l.length p.cap), (71, .slice p.a p.l.length p.cap), (72, .int .i64 ((p.l.length : Nat) : Int)), (73, .int .i64 ((m : Nat) : Int))]) (fun (m : Nat) => [(3, .scr 5 1 isB nl3), (5, .row (.slice ar9 ((l1.take (sizeV l1)).length) cr9) 5 1 ((l1.take (sizeV l1)).length) ((l1.take (sizeV l1)).flatMap byc)), (4, .row (.slice ar8 ((placesV l1).length) cr8) 3 1 ((placesV l1).length) ((placesV l1).flatMap nic)), (963, .row (.slice va4 vl4.length vc4) 34 1 vl4.length (vl4.flatMap RowG.cells)), (964, .rows vl4), (965, .row (.slice ma4 ml4.length mc4) 3 1 ml4.length (ml4.flatMap nic)), (2, .row (.slice (some ⟨g10, 0, none⟩) nl3.length nc3) 34 1 nl3.length (nl3.flatMap RowG.cells)), (1, .row (.slice ar2 ((l1).length) cr2) 5 1 ((l1).length) ((l1).flatMap byc))]) (fun (m : Nat) => p.l.length - m) 0 (Nat.zero_le _) (sub_cons rfl (sub_cons rfl (sub_cons rfl (sub_cons rfl (sub_cons rfl (sub_cons rfl (sub_cons rfl (sub_cons rfl (sub_cons rfl (sub_cons rfl (sub_cons rfl (sub_cons rfl (sub_cons rfl (sub_cons rfl sub_nil)))))))))))))) (sub_cons rfl (sub_cons rfl (sub_cons rfl (sub_cons rfl (sub_cons rfl (sub_cons rfl (sub_cons rfl (sub_cons rfl sub_nil)))))))) ?_
    rintro m hp
    have hmk := hp
    show T _ _ _ [(0, .slice a l.length cap), (2, .bool false), (3, .slice ar2 ((l1).length) cr2), (8, .int .i64 ((sizeV l1 : Nat) : Int)), (65, .slice (some ⟨g10, 0, none⟩) nl3.length nc3), (66, .int .i64 ((nl3.length : Nat) : Int)), (67, .int .i64 ((k : Nat) : Int)), (68, .bool (decide (((k : Nat) : Int) < ((nl3.length : Nat) : Int)))), (69, .pointer (some ⟨g10, 0 + k * 1, none⟩)), (70, .slice p.a p.l.length p.cap), (10, .slice p.a p.l.length p.cap), (71, .slice p.a p.l.length p.cap), (72, .int .i64 ((p.l.length : Nat) : Int)), (73, .int .i64 ((m : Nat) : Int))] [(3, .scr 5 1 isB nl3), (5, .row (.slice ar9 ((l1.take (sizeV l1)).length) cr9) 5 1 ((l1.take (sizeV l1)).length) ((l1.take (sizeV l1)).flatMap byc)), (4, .row (.slice ar8 ((placesV l1).length) cr8) 3 1 ((placesV l1).length) ((placesV l1).flatMap nic)), (963, .row (.slice va4 vl4.length vc4) 34 1 vl4.length (vl4.flatMap RowG.cells)), (964, .rows vl4), (965, .row (.slice ma4 ml4.length mc4) 3 1 ml4.length (ml4.flatMap nic)), (2, .row (.slice (some ⟨g10, 0, none⟩) nl3.length nc3) 34 1 nl3.length (nl3.flatMap RowG.cells)), (1, .row (.slice ar2 ((l1).length) cr2) 5 1 ((l1).length) ((l1).flatMap byc))]
    refine T_seq (T_region ?_)
    refine TL_q (.bool (decide (((m : Nat) : Int) < ((p.l.length : Nat) : Int)))) (fun _ _ hρ _ => r_lss (hρ _ _ rfl) (hρ _ _ rfl)) rfl rfl rfl (w_n rfl) ?_
    refine TL_seq ?_
    refine T_seq ?_
    refine T_cond rfl (fun h2 => ?_) (fun h2 => ?_)
    · replace h2 := of_decide_eq_true h2
      refine T_skip' ?_
      refine p_seq ?_
      refine T_seq ?_
      refine T_block ?_
      refine T_seq (T_region ?_)
      refine TL_q (.int .i64 ((m : Nat) : Int)) (fun _ _ hρ _ => r_move (hρ _ _ rfl)) rfl rfl rfl (w_n rfl) ?_
      refine TL_q (.int .i64 ((m : Nat) : Int)) (fun _ _ hρ _ => r_assign (hρ _ _ rfl)) rfl rfl rfl (w_n rfl) ?_
      refine TL_seq ?_
      refine T_scr 3 rfl hin9 (fun e => by have := congrArg List.length e; simp only [List.length_nil] at this; omega) (fun B9 hB9 => ?_)
      replace hB9 : p.a = some ⟨B9, 0, none⟩ := hB9
      rw [hB9]
      refine T_region ?_
      refine TL_q (.slice (some ⟨B9, 0, none⟩) p.l.length p.cap) (fun _ _ hρ _ => r_move (hρ _ _ rfl)) rfl rfl rfl (w_n rfl) ?_
      refine TL_q (.int .i64 ((m : Nat) : Int)) (fun _ _ hρ _ => r_move (hρ _ _ rfl)) rfl rfl rfl (w_n rfl) ?_
      refine TL_q (.pointer (some ⟨B9, 0 + m * 1, none⟩)) (fun _ _ hρ _ => r_indexAddrS (i := m) sl34 sz5 (hρ _ _ rfl) (hρ _ _ rfl) (by omega)) rfl rfl rfl (w_n rfl) ?_
      refine TL_op (ι := By) (fun B => .int .u8 ((B).toNat : Int)) _ (fun _ _ hρ hm => o_loadB (i := 0 + m * 1) 3 rfl hin9 ag5 hB9 (by omega) (hρ _ _ rfl) hm) rfl rfl rfl (w_n rfl) ?_
      intro B11
      refine TL_q (.int .u8 ((B11 + (1#8)).toNat : Int)) (fun _ _ hρ _ => r_addB (k := .u8) (a := B11) (b := (1#8)) rfl (hρ _ _ rfl) (hρ _ _ rfl)) rfl rfl rfl (w_n rfl) ?_
      refine TL_q (.pointer (some ⟨B9, 0 + m * 1, none⟩)) (fun _ _ hρ _ => r_indexAddrS (i := m) sl34 sz5 (hρ _ _ rfl) (hρ _ _ rfl) (by omega)) rfl rfl rfl (w_n rfl) ?_
      refine TL_opS _ (fun _ _ hρ hm => o_storeScr (i := 0 + m * 1) (v := .int .u8 ((B11 + (1#8)).toNat : Int)) 3 rfl hin9 hB9 (by omega) (hρ _ _ rfl) (hρ _ _ rfl) sz5 rfl rfl ⟨_, rfl⟩ hm) rfl rfl (w_n rfl) ?_
      refine TL_nil ?_
      refine p_blk_n ?_
      refine p_seq ?_
      rw [← hB9]
      refine T_region ?_
      refine TL_q (.int .i64 ((m + 1 : Nat) : Int)) (fun _ _ hρ _ => r_as (r_add (hρ _ _ rfl) (hρ _ _ rfl)) (int_as ((wrap64 (by omega) (by omega)).trans (by omega)))) rfl rfl rfl (w_n rfl) ?_
      refine TL_q (.int .i64 ((m + 1 : Nat) : Int)) (fun _ _ hρ _ => r_move (hρ _ _ rfl)) rfl rfl rfl (w_n rfl) ?_
      refine TL_nil ?_
      exact p_at (m + 1) ⟨by omega, by omega⟩ (sub_cons rfl (sub_cons rfl (sub_cons rfl (sub_cons rfl (sub_cons rfl (sub_cons rfl (sub_cons rfl (sub_cons rfl (sub_cons rfl (sub_cons rfl (sub_cons rfl (sub_cons rfl (sub_cons rfl (sub_cons rfl sub_nil)))))))))))))) (sub_cons rfl (sub_cons rfl (sub_cons rfl (sub_cons rfl (sub_cons rfl (sub_cons rfl (sub_cons rfl (sub_cons rfl sub_nil))))))))
    · replace h2 := of_decide_eq_false h2
      refine T_exit' ?_
      refine p_then_x ?_
      refine p_then_x ?_
      refine p_blk_x ?_
      refine p_blk_n ?_
      refine p_seq ?_
      refine T_region ?_
      refine TL_q (.int .i64 ((k + 1 : Nat) : Int)) (fun _ _ hρ _ => r_as (r_add (hρ _ _ rfl) (hρ _ _ rfl)) (int_as ((wrap64 (by omega) (by omega)).trans (by omega)))) rfl rfl rfl (w_n rfl) ?_
      refine TL_q (.int .i64 ((k + 1 : Nat) : Int)) (fun _ _ hρ _ => r_move (hρ _ _ rfl)) rfl rfl rfl (w_n rfl) ?_
      refine TL_nil ?_
      exact p_at (k + 1) ⟨by omega, by omega⟩ (sub_cons rfl (sub_cons rfl (sub_cons rfl (sub_cons rfl (sub_cons rfl (sub_cons rfl (sub_cons rfl sub_nil))))))) (sub_cons rfl (sub_cons rfl (sub_cons rfl (sub_cons rfl (sub_cons rfl (sub_cons rfl (sub_cons rfl (sub_cons rfl sub_nil))))))))
  · replace h1 := of_decide_eq_false h1
    refine T_exit' ?_
    refine p_then_x ?_
    refine p_then_x ?_
    refine p_blk_x ?_
    refine p_seq ?_
    refine T_seq (T_region ?_)
    refine TL_q (.slice ar2 ((l1).length) cr2) (fun _ _ hρ _ => r_move (hρ _ _ rfl)) rfl rfl rfl (w_n rfl) ?_
    refine TL_call (.tuple #[.int .i64 ((sizeV l1 : Nat) : Int), .int .i64 (whyE l1)]) (fun _ _ hρ _ => r_call (args := [.slice ar2 ((l1).length) cr2]) (enters_of Try.func47 (by kernel_rfl) rfl) (hρ _ _ rfl) ((cons2 (hρ _ _ rfl) rfl)) rfl) (fun w hm => why_c l1 ar2 cr2 w (SliceAt.own byc_len (hm.row 1 rfl) rfl rfl) (row_cap (hm.row 1 rfl)) (by omega)) rfl rfl rfl (w_n rfl) ?_
    refine TL_q (.tuple #[.int .i64 ((sizeV l1 : Nat) : Int), .int .i64 (whyE l1)]) (fun _ _ hρ _ => r_move (hρ _ _ rfl)) rfl rfl rfl (w_n rfl) ?_
    refine TL_q (.int .i64 ((sizeV l1 : Nat) : Int)) (fun _ _ hρ _ => r_extract (hρ _ _ rfl) rfl) rfl rfl rfl (w_n rfl) ?_
    refine TL_q (.int .i64 (whyE l1)) (fun _ _ hρ _ => r_extract (hρ _ _ rfl) rfl) rfl rfl rfl (w_n rfl) ?_
    refine TL_q (.int .i64 ((sizeV l1 : Nat) : Int)) (fun _ _ hρ _ => r_assign (hρ _ _ rfl)) rfl rfl rfl (w_n rfl) ?_
    refine TL_q (.int .i64 (whyE l1)) (fun _ _ hρ _ => r_assign (hρ _ _ rfl)) rfl rfl rfl (w_n rfl) ?_
    refine TL_seq ?_
    refine T_seq (T_region ?_)
    refine TL_q (.int .i64 0) (fun _ _ hρ _ => r_assign (hρ _ _ rfl)) rfl rfl rfl (w_n rfl) ?_
    refine TL_seq ?_
    refine T_seq ?_
    by_cases hss : ((sizeV l1 : Nat) : Int) < (((l1).length : Nat) : Int)
    · skip
      refine T_seq (T_region ?_)
      refine TL_q (.int .i64 ((sizeV l1 : Nat) : Int)) (fun _ _ hρ _ => r_move (hρ _ _ rfl)) rfl rfl rfl (w_n rfl) ?_
      refine TL_q (.slice ar2 ((l1).length) cr2) (fun _ _ hρ _ => r_move (hρ _ _ rfl)) rfl rfl rfl (w_n rfl) ?_
      refine TL_q (.int .i64 (((l1).length : Nat) : Int)) (fun _ _ hρ _ => r_len sl34 (hρ _ _ rfl)) rfl rfl rfl (w_n rfl) ?_
      refine TL_q (.bool true) (fun _ _ hρ _ => r_as (r_lss (hρ _ _ rfl) (hρ _ _ rfl)) (bool_as (decide_eq_true hss))) rfl rfl rfl (w_n rfl) ?_
      refine TL_seq ?_
      refine T_cond_t rfl ?_
      refine T_region ?_
      refine TL_q (.slice ar2 ((l1).length) cr2) (fun _ _ hρ _ => r_move (hρ _ _ rfl)) rfl rfl rfl (w_n rfl) ?_
      refine TL_q (.int .i64 ((sizeV l1 : Nat) : Int)) (fun _ _ hρ _ => r_move (hρ _ _ rfl)) rfl rfl rfl (w_n rfl) ?_
      obtain ⟨l12, hl12, hn12⟩ : ∃ lz, lz = ((l1).drop (sizeV l1)).take ((l1).length - (sizeV l1)) ∧ lz.length = (l1).length - (sizeV l1) := ⟨_, rfl, by rw [List.length_take, List.length_drop]; omega⟩
      obtain ⟨a12, ha12⟩ : ∃ az : Option Addr, az = (if cr2 = sizeV l1 then (ar2 : Option Addr) else Option.map (fun z : Addr => z.add ((sizeV l1) * 1)) (ar2 : Option Addr)) := ⟨_, rfl⟩
      refine TL_q (.slice a12 l12.length (cr2 - (sizeV l1))) (fun ρ _ hρ _ => r_as (r_sliceO sl34 sz5 (hρ _ _ rfl) (bd_none ρ _) (bd_none ρ _) (bd_some (n := sizeV l1) (hρ _ _ rfl)) (by simp) (by omega) (by omega) (by omega)) (by rw [hn12, ha12])) rfl rfl rfl (w_n rfl) ?_
      refine TL_call (.tuple #[.slice none 0 0, .int .i64 (firstE (l1.drop (sizeV l1)))]) (fun _ _ hρ _ => r_call (args := [.slice a12 l12.length (cr2 - (sizeV l1))]) (enters_of Try.func51 (by kernel_rfl) rfl) (hρ _ _ rfl) ((cons2 (hρ _ _ rfl) rfl)) rfl) (fun w hm => rfirst_no (l1.drop (sizeV l1)) l12 (by rw [hl12]; exact List.take_of_length_le (by rw [List.length_drop]; exact Nat.le_refl _)) a12 (cr2 - (sizeV l1)) w (by have hs := SliceAt.part (l := (l1)) (SliceAt.own byc_len (hm.row 1 rfl) rfl rfl) (lo := sizeV l1) (hi := (l1).length) (m := cr2) (by omega) (by omega) (by omega) (by omega); rw [← hl12, ← ha12] at hs; exact hs) (Nat.le_trans (Nat.sub_le _ _) (row_cap (hm.row 1 rfl))) (size_rest l1)) rfl rfl rfl (w_n rfl) ?_
      refine TL_q (.tuple #[.slice none 0 0, .int .i64 (firstE (l1.drop (sizeV l1)))]) (fun _ _ hρ _ => r_move (hρ _ _ rfl)) rfl rfl rfl (w_n rfl) ?_
      refine TL_q (.slice none 0 0) (fun _ _ hρ _ => r_extract (hρ _ _ rfl) rfl) rfl rfl rfl (w_n rfl) ?_
      refine TL_q (.int .i64 (firstE (l1.drop (sizeV l1)))) (fun _ _ hρ _ => r_extract (hρ _ _ rfl) rfl) rfl rfl rfl (w_n rfl) ?_
      refine TL_q (.int .i64 (firstE (l1.drop (sizeV l1)))) (fun _ _ hρ _ => r_assign (hρ _ _ rfl)) rfl rfl rfl (w_n rfl) ?_
      refine TL_nil ?_
      refine p_seq ?_
      by_cases hz : firstE l1 = 0
      · skip
        refine T_seq (T_region ?_)
        refine TL_q (.slice ar2 ((l1).length) cr2) (fun _ _ hρ _ => r_move (hρ _ _ rfl)) rfl rfl rfl (w_n rfl) ?_
        refine TL_callN (fun (_ : Option Addr × Nat) => True) (fun (ar13, cr13) => .tuple #[.slice ar13 ((heldP l1).length) cr13, .int .i64 (((heldP l1).length + 8 : Nat) : Int), .int .i64 0]) (fun (ar13, cr13) => [(6, .row (.slice ar13 ((heldP l1).length) cr13) 5 1 ((heldP l1).length) ((heldP l1).flatMap byc))]) (fun _ _ hρ _ => r_call (args := [.slice ar2 ((l1).length) cr2]) (enters_of Try.func52 (by kernel_rfl) rfl) (hρ _ _ rfl) ((cons2 (hρ _ _ rfl) rfl)) rfl) (fun w hm => (jfirst_c l1 ar2 cr2 w (SliceAt.own byc_len (hm.row 1 rfl) rfl rfl) (row_cap (hm.row 1 rfl)) hz).mono fun e w' ⟨a', cap', he, hb, hr⟩ => ⟨(a', cap'), trivial, he, hb, newOk1 6 hr⟩) rfl rfl rfl (w_n rfl) ?_
        rintro ⟨ar13, cr13⟩ -
        refine TL_q (.tuple #[.slice ar13 ((heldP l1).length) cr13, .int .i64 (((heldP l1).length + 8 : Nat) : Int), .int .i64 0]) (fun _ _ hρ _ => r_move (hρ _ _ rfl)) rfl rfl rfl (w_n rfl) ?_
        refine TL_q (.slice ar13 ((heldP l1).length) cr13) (fun _ _ hρ _ => r_extract (hρ _ _ rfl) rfl) rfl rfl rfl (w_n rfl) ?_
        refine TL_q (.int .i64 (((heldP l1).length + 8 : Nat) : Int)) (fun _ _ hρ _ => r_extract (hρ _ _ rfl) rfl) rfl rfl rfl (w_n rfl) ?_
        refine TL_q (.int .i64 0) (fun _ _ hρ _ => r_extract (hρ _ _ rfl) rfl) rfl rfl rfl (w_n rfl) ?_
        refine TL_q (.slice ar13 ((heldP l1).length) cr13) (fun _ _ hρ _ => r_assign (hρ _ _ rfl)) rfl rfl rfl (w_n rfl) ?_
        refine TL_q (.int .i64 (((heldP l1).length + 8 : Nat) : Int)) (fun _ _ hρ _ => r_assign (hρ _ _ rfl)) rfl rfl rfl (w_n rfl) ?_
        refine TL_q (.int .i64 0) (fun _ _ hρ _ => r_assign (hρ _ _ rfl)) rfl rfl rfl (w_n rfl) ?_
        refine TL_seq ?_
        refine T_sub [(0, .slice a l.length cap), (2, .bool false), (3, .slice ar2 ((l1).length) cr2), (8, .int .i64 ((sizeV l1 : Nat) : Int)), (12, .int .i64 ((sizeV l1 : Nat) : Int)), (13, .int .i64 (whyE l1)), (14, .int .i64 (firstE (l1.drop (sizeV l1)))), (15, .slice ar13 ((heldP l1).length) cr13), (16, .int .i64 (((heldP l1).length + 8 : Nat) : Int)), (17, .int .i64 0)] [(6, .row (.slice ar13 ((heldP l1).length) cr13) 5 1 ((heldP l1).length) ((heldP l1).flatMap byc)), (3, .scr 5 1 isB nl3), (5, .row (.slice ar9 ((l1.take (sizeV l1)).length) cr9) 5 1 ((l1.take (sizeV l1)).length) ((l1.take (sizeV l1)).flatMap byc)), (4, .row (.slice ar8 ((placesV l1).length) cr8) 3 1 ((placesV l1).length) ((placesV l1).flatMap nic)), (963, .row (.slice va4 vl4.length vc4) 34 1 vl4.length (vl4.flatMap RowG.cells)), (964, .rows vl4), (965, .row (.slice ma4 ml4.length mc4) 3 1 ml4.length (ml4.flatMap nic)), (2, .row (.slice na3 nl3.length nc3) 34 1 nl3.length (nl3.flatMap RowG.cells)), (1, .row (.slice ar2 ((l1).length) cr2) 5 1 ((l1).length) ((l1).flatMap byc))] (sub_cons rfl (sub_cons rfl (sub_cons rfl (sub_cons rfl (sub_cons rfl (sub_cons rfl (sub_cons rfl (sub_cons rfl (sub_cons rfl (sub_cons rfl sub_nil)))))))))) (sub_cons rfl (sub_cons rfl (sub_cons rfl (sub_cons rfl (sub_cons rfl (sub_cons rfl (sub_cons rfl (sub_cons rfl (sub_cons rfl sub_nil))))))))) ?_
        have hhl := heldP_len hz
        have c2 := (first_ok hz).2.1
        refine T_seq (T_region ?_)
        refine TL_q (.slice ar2 ((l1).length) cr2) (fun _ _ hρ _ => r_move (hρ _ _ rfl)) rfl rfl rfl (w_n rfl) ?_
        refine TL_callN (fun (_ : Option Addr × Nat) => True) (fun (ag14, cg14) => .tuple #[.slice ag14 ((heldP l1).length) cg14, .int .i64 0]) (fun (ag14, cg14) => [(7, .sl ag14 cg14 (heldP l1))]) (fun _ _ hρ _ => r_call (args := [.slice ar2 ((l1).length) cr2]) (enters_of Try.func51 (by kernel_rfl) rfl) (hρ _ _ rfl) ((cons2 (hρ _ _ rfl) rfl)) rfl) (fun w hm => (rfirst_ok l1 l1 rfl ar2 cr2 w (SliceAt.own byc_len (hm.row 1 rfl) rfl rfl) (row_cap (hm.row 1 rfl)) hz).mono fun e w' ⟨a', cap', he, hb, hr⟩ => ⟨(a', cap'), trivial, he, hb, newOk1 7 hr⟩) rfl rfl rfl (w_n rfl) ?_
        rintro ⟨ag14, cg14⟩ -
        refine TL_q (.tuple #[.slice ag14 ((heldP l1).length) cg14, .int .i64 0]) (fun _ _ hρ _ => r_move (hρ _ _ rfl)) rfl rfl rfl (w_n rfl) ?_
        refine TL_q (.slice ag14 ((heldP l1).length) cg14) (fun _ _ hρ _ => r_extract (hρ _ _ rfl) rfl) rfl rfl rfl (w_n rfl) ?_
        refine TL_q (.int .i64 0) (fun _ _ hρ _ => r_extract (hρ _ _ rfl) rfl) rfl rfl rfl (w_n rfl) ?_
        refine TL_q (.slice ag14 ((heldP l1).length) cg14) (fun _ _ hρ _ => r_assign (hρ _ _ rfl)) rfl rfl rfl (w_n rfl) ?_
        refine TL_q (.int .i64 0) (fun _ _ hρ _ => r_assign (hρ _ _ rfl)) rfl rfl rfl (w_n rfl) ?_
        refine TL_seq ?_
        refine T_seq (T_region ?_)
        refine TL_q (.int .i64 0) (fun _ _ hρ _ => r_assign (hρ _ _ rfl)) rfl rfl rfl (w_n rfl) ?_
        refine TL_seq ?_
        refine T_seq ?_
        refine T_seq (T_region ?_)
        refine TL_q (.int .i64 0) (fun _ _ hρ _ => r_move (hρ _ _ rfl)) rfl rfl rfl (w_n rfl) ?_
        refine TL_q (.bool true) (fun _ _ hρ _ => r_as (r_eql (hρ _ _ rfl) (hρ _ _ rfl)) (by rfl)) rfl rfl rfl (w_n rfl) ?_
        refine TL_seq ?_
        refine T_cond_t rfl ?_
        refine T_region ?_
        refine TL_q (.slice ag14 ((heldP l1).length) cg14) (fun _ _ hρ _ => r_move (hρ _ _ rfl)) rfl rfl rfl (w_n rfl) ?_
        refine TL_q (.int .i64 (((heldP l1).length : Nat) : Int)) (fun _ _ hρ _ => r_len sl34 (hρ _ _ rfl)) rfl rfl rfl (w_n rfl) ?_
        refine TL_q (.int .i64 ((((heldP l1).length) + 8 : Nat) : Int)) (fun _ _ hρ _ => r_as (r_add (hρ _ _ rfl) (hρ _ _ rfl)) (int_as ((wrap64 (by omega) (by omega)).trans (by omega)))) rfl rfl rfl (w_n rfl) ?_
        refine TL_q (.int .i64 ((((heldP l1).length) + 8 : Nat) : Int)) (fun _ _ hρ _ => r_assign (hρ _ _ rfl)) rfl rfl rfl (w_n rfl) ?_
        refine TL_nil ?_
        refine p_seq ?_
        refine T_seq (T_region ?_)
        refine TL_q (.int .i64 ((sizeV l1 : Nat) : Int)) (fun _ _ hρ _ => r_move (hρ _ _ rfl)) rfl rfl rfl (w_n rfl) ?_
        refine TL_q (.int .i64 ((sizeV l1 : Nat) : Int)) (fun _ _ hρ _ => r_move (hρ _ _ rfl)) rfl rfl rfl (w_n rfl) ?_
        refine TL_q (.bool true) (fun _ _ hρ _ => r_as (r_eql (hρ _ _ rfl) (hρ _ _ rfl)) (bool_as (by simp))) rfl rfl rfl (w_n rfl) ?_
        refine TL_q (.bool true) (fun _ _ hρ _ => r_move (hρ _ _ rfl)) rfl rfl rfl (w_n rfl) ?_
        refine TL_q (.int .i64 (whyE l1)) (fun _ _ hρ _ => r_move (hρ _ _ rfl)) rfl rfl rfl (want_y 119 rfl rfl rfl) ?_
        refine TL_q (.int .i64 (firstE (l1.drop (sizeV l1)))) (fun _ _ hρ _ => r_move (hρ _ _ rfl)) rfl rfl rfl (want_y 119 rfl rfl rfl) ?_
        refine TL_q (.bool true) (fun _ _ hρ _ => r_as (r_eql (hρ _ _ rfl) (hρ _ _ rfl)) (bool_as (decide_eq_true (whyE_lt (by omega))))) rfl rfl rfl (want_y 119 rfl rfl rfl) ?_
        refine TL_q (.bool true) (fun _ _ hρ _ => r_pick_t (hρ _ _ rfl) (hρ _ _ rfl)) rfl rfl rfl (w_n rfl) ?_
        refine TL_q (.bool true) (fun _ _ hρ _ => r_move (hρ _ _ rfl)) rfl rfl rfl (w_n rfl) ?_
        refine TL_q (.slice ar13 ((heldP l1).length) cr13) (fun _ _ hρ _ => r_move (hρ _ _ rfl)) rfl rfl rfl (want_y 124 rfl rfl rfl) ?_
        refine TL_q (.slice ag14 ((heldP l1).length) cg14) (fun _ _ hρ _ => r_move (hρ _ _ rfl)) rfl rfl rfl (want_y 124 rfl rfl rfl) ?_
        refine TL_call (.bool true) (fun _ _ hρ _ => r_call (args := [.slice ar13 ((heldP l1).length) cr13, .slice ag14 ((heldP l1).length) cg14]) (enters_of Try.func16 (by kernel_rfl) rfl) (hρ _ _ rfl) ((cons2 (hρ _ _ rfl) (cons2 (hρ _ _ rfl) rfl))) rfl) (fun w hm => (equal_b (heldP l1) (heldP l1) ar13 ag14 cr13 cg14 w (SliceAt.own byc_len (hm.row 6 rfl) rfl rfl) (hm.slAt 7 rfl) (by omega) (by omega)).mono fun _ _ h => ⟨h.1.trans (congrArg Ending.returned (bool_as (decide_eq_true rfl))), h.2⟩) rfl rfl rfl (want_y 124 rfl rfl rfl) ?_
        refine TL_q (.bool true) (fun _ _ hρ _ => r_pick_t (hρ _ _ rfl) (hρ _ _ rfl)) rfl rfl rfl (w_n rfl) ?_
        refine TL_q (.bool true) (fun _ _ hρ _ => r_move (hρ _ _ rfl)) rfl rfl rfl (w_n rfl) ?_
        refine TL_q (.int .i64 (((heldP l1).length + 8 : Nat) : Int)) (fun _ _ hρ _ => r_move (hρ _ _ rfl)) rfl rfl rfl (want_y 129 rfl rfl rfl) ?_
        refine TL_q (.int .i64 ((((heldP l1).length) + 8 : Nat) : Int)) (fun _ _ hρ _ => r_move (hρ _ _ rfl)) rfl rfl rfl (want_y 129 rfl rfl rfl) ?_
        refine TL_q (.bool true) (fun _ _ hρ _ => r_as (r_eql (hρ _ _ rfl) (hρ _ _ rfl)) (bool_as (decide_eq_true rfl))) rfl rfl rfl (want_y 129 rfl rfl rfl) ?_
        refine TL_q (.bool true) (fun _ _ hρ _ => r_pick_t (hρ _ _ rfl) (hρ _ _ rfl)) rfl rfl rfl (w_n rfl) ?_
        refine TL_q (.bool true) (fun _ _ hρ _ => r_move (hρ _ _ rfl)) rfl rfl rfl (w_n rfl) ?_
        refine TL_q (.int .i64 0) (fun _ _ hρ _ => r_move (hρ _ _ rfl)) rfl rfl rfl (want_y 134 rfl rfl rfl) ?_
        refine TL_q (.int .i64 0) (fun _ _ hρ _ => r_move (hρ _ _ rfl)) rfl rfl rfl (want_y 134 rfl rfl rfl) ?_
        refine TL_q (.bool true) (fun _ _ hρ _ => r_as (r_eql (hρ _ _ rfl) (hρ _ _ rfl)) (by rfl)) rfl rfl rfl (want_y 134 rfl rfl rfl) ?_
        refine TL_q (.bool true) (fun _ _ hρ _ => r_pick_t (hρ _ _ rfl) (hρ _ _ rfl)) rfl rfl rfl (w_n rfl) ?_
        refine TL_q (.bool true) (fun _ _ hρ _ => r_move (hρ _ _ rfl)) rfl rfl rfl (w_n rfl) ?_
        refine TL_q (.slice ar2 ((l1).length) cr2) (fun _ _ hρ _ => r_move (hρ _ _ rfl)) rfl rfl rfl (want_y 139 rfl rfl rfl) ?_
        refine TL_q (.slice a l.length cap) (fun _ _ hρ _ => r_move (hρ _ _ rfl)) rfl rfl rfl (want_y 139 rfl rfl rfl) ?_
        refine TL_q (.slice ar2 ((l1).length) cr2) (fun _ _ hρ _ => r_move (hρ _ _ rfl)) rfl rfl rfl (want_y 139 rfl rfl rfl) ?_
        refine TL_q (.int .i64 (((l1).length : Nat) : Int)) (fun _ _ hρ _ => r_len sl34 (hρ _ _ rfl)) rfl rfl rfl (want_y 139 rfl rfl rfl) ?_
        obtain ⟨l15, hl15, hn15⟩ : ∃ lz, lz = l.take ((l1).length) ∧ lz.length = (l1).length := ⟨_, rfl, by rw [List.length_take]; omega⟩
        have hs15 := SliceAt.front hv (n := (l1).length) (m := cap) (by omega) (by omega) (by omega)
        rw [← hl15] at hs15
        refine TL_q (.slice a l15.length cap) (fun ρ _ hρ _ => r_as (r_sliceO sl34 sz5 (hρ _ _ rfl) (bd_none ρ _) (bd_some (n := (l1).length) (hρ _ _ rfl)) (bd_none ρ _) (by simp) (by omega) (by omega) (by omega)) (by rw [hn15]; exact slo_zero _ _ _ _)) rfl rfl rfl (want_y 139 rfl rfl rfl) ?_
        refine TL_call (.bool true) (fun _ _ hρ _ => r_call (args := [.slice ar2 ((l1).length) cr2, .slice a l15.length cap]) (enters_of Try.func16 (by kernel_rfl) rfl) (hρ _ _ rfl) ((cons2 (hρ _ _ rfl) (cons2 (hρ _ _ rfl) rfl))) rfl) (fun w hm => (equal_b l1 l15 ar2 a cr2 cap w (SliceAt.own byc_len (hm.row 1 rfl) rfl rfl) (hs15.keep hm.ext) (by omega) (by omega)).mono fun _ _ h => ⟨h.1.trans (congrArg Ending.returned (bool_as (decide_eq_true (by rw [hl15, hn1, hl1])))), h.2⟩) rfl rfl rfl (want_y 139 rfl rfl rfl) ?_
        refine TL_q (.bool true) (fun _ _ hρ _ => r_pick_t (hρ _ _ rfl) (hρ _ _ rfl)) rfl rfl rfl (w_n rfl) ?_
        refine TL_q (.bool true) (fun _ _ hρ _ => r_assign (hρ _ _ rfl)) rfl rfl rfl (w_n rfl) ?_
        refine TL_seq ?_
        refine T_sub [(2, .bool true)] [(7, .sl ag14 cg14 (heldP l1)), (6, .row (.slice ar13 ((heldP l1).length) cr13) 5 1 ((heldP l1).length) ((heldP l1).flatMap byc)), (3, .scr 5 1 isB nl3), (5, .row (.slice ar9 ((l1.take (sizeV l1)).length) cr9) 5 1 ((l1.take (sizeV l1)).length) ((l1.take (sizeV l1)).flatMap byc)), (4, .row (.slice ar8 ((placesV l1).length) cr8) 3 1 ((placesV l1).length) ((placesV l1).flatMap nic)), (963, .row (.slice va4 vl4.length vc4) 34 1 vl4.length (vl4.flatMap RowG.cells)), (964, .rows vl4), (965, .row (.slice ma4 ml4.length mc4) 3 1 ml4.length (ml4.flatMap nic)), (2, .row (.slice na3 nl3.length nc3) 34 1 nl3.length (nl3.flatMap RowG.cells)), (1, .row (.slice ar2 ((l1).length) cr2) 5 1 ((l1).length) ((l1).flatMap byc))] (sub_cons rfl sub_nil) (sub_cons rfl (sub_cons rfl (sub_cons rfl (sub_cons rfl (sub_cons rfl (sub_cons rfl (sub_cons rfl (sub_cons rfl (sub_cons rfl (sub_cons rfl sub_nil)))))))))) ?_
        refine T_ret' ?_
        refine ret_of rfl (.bool true) (fun tmps w hk hm => res1 rfl (res_tmp (hk 2 _ rfl))) (fun w hm => ?_)
        exact ⟨rfl, hm.ext⟩
      · skip
        refine T_seq (T_region ?_)
        refine TL_q (.slice ar2 ((l1).length) cr2) (fun _ _ hρ _ => r_move (hρ _ _ rfl)) rfl rfl rfl (w_n rfl) ?_
        refine TL_callN (fun (_ : Option Addr × Nat) => True) (fun (ar16, cr16) => .tuple #[.slice ar16 (([] : List By).length) cr16, .int .i64 0, .int .i64 (firstE l1)]) (fun (ar16, cr16) => [(8, .row (.slice ar16 (([] : List By).length) cr16) 5 1 (([] : List By).length) (([] : List By).flatMap byc))]) (fun _ _ hρ _ => r_call (args := [.slice ar2 ((l1).length) cr2]) (enters_of Try.func52 (by kernel_rfl) rfl) (hρ _ _ rfl) ((cons2 (hρ _ _ rfl) rfl)) rfl) (fun w hm => (jfirst_p l1 ar2 cr2 w (SliceAt.own byc_len (hm.row 1 rfl) rfl rfl) (row_cap (hm.row 1 rfl)) hz).mono fun e w' ⟨a', cap', he, hb, hr⟩ => ⟨(a', cap'), trivial, he, hb, newOk1 8 hr⟩) rfl rfl rfl (w_n rfl) ?_
        rintro ⟨ar16, cr16⟩ -
        refine TL_q (.tuple #[.slice ar16 (([] : List By).length) cr16, .int .i64 0, .int .i64 (firstE l1)]) (fun _ _ hρ _ => r_move (hρ _ _ rfl)) rfl rfl rfl (w_n rfl) ?_
        refine TL_q (.slice ar16 (([] : List By).length) cr16) (fun _ _ hρ _ => r_extract (hρ _ _ rfl) rfl) rfl rfl rfl (w_n rfl) ?_
        refine TL_q (.int .i64 0) (fun _ _ hρ _ => r_extract (hρ _ _ rfl) rfl) rfl rfl rfl (w_n rfl) ?_
        refine TL_q (.int .i64 (firstE l1)) (fun _ _ hρ _ => r_extract (hρ _ _ rfl) rfl) rfl rfl rfl (w_n rfl) ?_
        refine TL_q (.slice ar16 (([] : List By).length) cr16) (fun _ _ hρ _ => r_assign (hρ _ _ rfl)) rfl rfl rfl (w_n rfl) ?_
        refine TL_q (.int .i64 0) (fun _ _ hρ _ => r_assign (hρ _ _ rfl)) rfl rfl rfl (w_n rfl) ?_
        refine TL_q (.int .i64 (firstE l1)) (fun _ _ hρ _ => r_assign (hρ _ _ rfl)) rfl rfl rfl (w_n rfl) ?_
        refine TL_seq ?_
        refine T_sub [(0, .slice a l.length cap), (2, .bool false), (3, .slice ar2 ((l1).length) cr2), (8, .int .i64 ((sizeV l1 : Nat) : Int)), (12, .int .i64 ((sizeV l1 : Nat) : Int)), (13, .int .i64 (whyE l1)), (14, .int .i64 (firstE (l1.drop (sizeV l1)))), (15, .slice ar16 (([] : List By).length) cr16), (16, .int .i64 0), (17, .int .i64 (firstE l1))] [(8, .row (.slice ar16 (([] : List By).length) cr16) 5 1 (([] : List By).length) (([] : List By).flatMap byc)), (3, .scr 5 1 isB nl3), (5, .row (.slice ar9 ((l1.take (sizeV l1)).length) cr9) 5 1 ((l1.take (sizeV l1)).length) ((l1.take (sizeV l1)).flatMap byc)), (4, .row (.slice ar8 ((placesV l1).length) cr8) 3 1 ((placesV l1).length) ((placesV l1).flatMap nic)), (963, .row (.slice va4 vl4.length vc4) 34 1 vl4.length (vl4.flatMap RowG.cells)), (964, .rows vl4), (965, .row (.slice ma4 ml4.length mc4) 3 1 ml4.length (ml4.flatMap nic)), (2, .row (.slice na3 nl3.length nc3) 34 1 nl3.length (nl3.flatMap RowG.cells)), (1, .row (.slice ar2 ((l1).length) cr2) 5 1 ((l1).length) ((l1).flatMap byc))] (sub_cons rfl (sub_cons rfl (sub_cons rfl (sub_cons rfl (sub_cons rfl (sub_cons rfl (sub_cons rfl (sub_cons rfl (sub_cons rfl (sub_cons rfl sub_nil)))))))))) (sub_cons rfl (sub_cons rfl (sub_cons rfl (sub_cons rfl (sub_cons rfl (sub_cons rfl (sub_cons rfl (sub_cons rfl (sub_cons rfl sub_nil))))))))) ?_
        refine T_seq (T_region ?_)
        refine TL_q (.slice ar2 ((l1).length) cr2) (fun _ _ hρ _ => r_move (hρ _ _ rfl)) rfl rfl rfl (w_n rfl) ?_
        refine TL_call (.tuple #[.slice none 0 0, .int .i64 (firstE l1)]) (fun _ _ hρ _ => r_call (args := [.slice ar2 ((l1).length) cr2]) (enters_of Try.func51 (by kernel_rfl) rfl) (hρ _ _ rfl) ((cons2 (hρ _ _ rfl) rfl)) rfl) (fun w hm => rfirst_no l1 l1 rfl ar2 cr2 w (SliceAt.own byc_len (hm.row 1 rfl) rfl rfl) (row_cap (hm.row 1 rfl)) hz) rfl rfl rfl (w_n rfl) ?_
        refine TL_q (.tuple #[.slice none 0 0, .int .i64 (firstE l1)]) (fun _ _ hρ _ => r_move (hρ _ _ rfl)) rfl rfl rfl (w_n rfl) ?_
        refine TL_q (.slice none 0 0) (fun _ _ hρ _ => r_extract (hρ _ _ rfl) rfl) rfl rfl rfl (w_n rfl) ?_
        refine TL_q (.int .i64 (firstE l1)) (fun _ _ hρ _ => r_extract (hρ _ _ rfl) rfl) rfl rfl rfl (w_n rfl) ?_
        refine TL_q (.slice none 0 0) (fun _ _ hρ _ => r_assign (hρ _ _ rfl)) rfl rfl rfl (w_n rfl) ?_
        refine TL_q (.int .i64 (firstE l1)) (fun _ _ hρ _ => r_assign (hρ _ _ rfl)) rfl rfl rfl (w_n rfl) ?_
        refine TL_seq ?_
        refine T_seq (T_region ?_)
        refine TL_q (.int .i64 0) (fun _ _ hρ _ => r_assign (hρ _ _ rfl)) rfl rfl rfl (w_n rfl) ?_
        refine TL_seq ?_
        refine T_seq ?_
        refine T_seq (T_region ?_)
        refine TL_q (.int .i64 (firstE l1)) (fun _ _ hρ _ => r_move (hρ _ _ rfl)) rfl rfl rfl (w_n rfl) ?_
        refine TL_q (.bool false) (fun _ _ hρ _ => r_as (r_eql (hρ _ _ rfl) (hρ _ _ rfl)) (bool_as (decide_eq_false hz))) rfl rfl rfl (w_n rfl) ?_
        refine TL_seq ?_
        refine T_cond_f rfl ?_
        refine T_skip' ?_
        refine p_seq ?_
        refine T_seq (T_region ?_)
        refine TL_q (.int .i64 ((sizeV l1 : Nat) : Int)) (fun _ _ hρ _ => r_move (hρ _ _ rfl)) rfl rfl rfl (w_n rfl) ?_
        refine TL_q (.int .i64 ((sizeV l1 : Nat) : Int)) (fun _ _ hρ _ => r_move (hρ _ _ rfl)) rfl rfl rfl (w_n rfl) ?_
        refine TL_q (.bool true) (fun _ _ hρ _ => r_as (r_eql (hρ _ _ rfl) (hρ _ _ rfl)) (bool_as (by simp))) rfl rfl rfl (w_n rfl) ?_
        refine TL_q (.bool true) (fun _ _ hρ _ => r_move (hρ _ _ rfl)) rfl rfl rfl (w_n rfl) ?_
        refine TL_q (.int .i64 (whyE l1)) (fun _ _ hρ _ => r_move (hρ _ _ rfl)) rfl rfl rfl (want_y 119 rfl rfl rfl) ?_
        refine TL_q (.int .i64 (firstE (l1.drop (sizeV l1)))) (fun _ _ hρ _ => r_move (hρ _ _ rfl)) rfl rfl rfl (want_y 119 rfl rfl rfl) ?_
        refine TL_q (.bool true) (fun _ _ hρ _ => r_as (r_eql (hρ _ _ rfl) (hρ _ _ rfl)) (bool_as (decide_eq_true (whyE_lt (by omega))))) rfl rfl rfl (want_y 119 rfl rfl rfl) ?_
        refine TL_q (.bool true) (fun _ _ hρ _ => r_pick_t (hρ _ _ rfl) (hρ _ _ rfl)) rfl rfl rfl (w_n rfl) ?_
        refine TL_q (.bool true) (fun _ _ hρ _ => r_move (hρ _ _ rfl)) rfl rfl rfl (w_n rfl) ?_
        refine TL_q (.slice ar16 (([] : List By).length) cr16) (fun _ _ hρ _ => r_move (hρ _ _ rfl)) rfl rfl rfl (want_y 124 rfl rfl rfl) ?_
        refine TL_q (.slice none 0 0) (fun _ _ hρ _ => r_move (hρ _ _ rfl)) rfl rfl rfl (want_y 124 rfl rfl rfl) ?_
        refine TL_call (.bool true) (fun _ _ hρ _ => r_call (args := [.slice ar16 (([] : List By).length) cr16, .slice none 0 0]) (enters_of Try.func16 (by kernel_rfl) rfl) (hρ _ _ rfl) ((cons2 (hρ _ _ rfl) (cons2 (hρ _ _ rfl) rfl))) rfl) (fun w hm => (equal_b ([] : List By) [] ar16 none cr16 0 w (SliceAt.own byc_len (hm.row 8 rfl) rfl rfl) (sliceNil w) (Nat.le_of_ble_eq_true rfl) (Nat.le_of_ble_eq_true rfl)).mono fun _ _ h => ⟨h.1.trans (congrArg Ending.returned (bool_as (decide_eq_true rfl))), h.2⟩) rfl rfl rfl (want_y 124 rfl rfl rfl) ?_
        refine TL_q (.bool true) (fun _ _ hρ _ => r_pick_t (hρ _ _ rfl) (hρ _ _ rfl)) rfl rfl rfl (w_n rfl) ?_
        refine TL_q (.bool true) (fun _ _ hρ _ => r_move (hρ _ _ rfl)) rfl rfl rfl (w_n rfl) ?_
        refine TL_q (.int .i64 0) (fun _ _ hρ _ => r_move (hρ _ _ rfl)) rfl rfl rfl (want_y 129 rfl rfl rfl) ?_
        refine TL_q (.int .i64 0) (fun _ _ hρ _ => r_move (hρ _ _ rfl)) rfl rfl rfl (want_y 129 rfl rfl rfl) ?_
        refine TL_q (.bool true) (fun _ _ hρ _ => r_as (r_eql (hρ _ _ rfl) (hρ _ _ rfl)) (by rfl)) rfl rfl rfl (want_y 129 rfl rfl rfl) ?_
        refine TL_q (.bool true) (fun _ _ hρ _ => r_pick_t (hρ _ _ rfl) (hρ _ _ rfl)) rfl rfl rfl (w_n rfl) ?_
        refine TL_q (.bool true) (fun _ _ hρ _ => r_move (hρ _ _ rfl)) rfl rfl rfl (w_n rfl) ?_
        refine TL_q (.int .i64 (firstE l1)) (fun _ _ hρ _ => r_move (hρ _ _ rfl)) rfl rfl rfl (want_y 134 rfl rfl rfl) ?_
        refine TL_q (.int .i64 (firstE l1)) (fun _ _ hρ _ => r_move (hρ _ _ rfl)) rfl rfl rfl (want_y 134 rfl rfl rfl) ?_
        refine TL_q (.bool true) (fun _ _ hρ _ => r_as (r_eql (hρ _ _ rfl) (hρ _ _ rfl)) (bool_as (by simp))) rfl rfl rfl (want_y 134 rfl rfl rfl) ?_
        refine TL_q (.bool true) (fun _ _ hρ _ => r_pick_t (hρ _ _ rfl) (hρ _ _ rfl)) rfl rfl rfl (w_n rfl) ?_
        refine TL_q (.bool true) (fun _ _ hρ _ => r_move (hρ _ _ rfl)) rfl rfl rfl (w_n rfl) ?_
        refine TL_q (.slice ar2 ((l1).length) cr2) (fun _ _ hρ _ => r_move (hρ _ _ rfl)) rfl rfl rfl (want_y 139 rfl rfl rfl) ?_
        refine TL_q (.slice a l.length cap) (fun _ _ hρ _ => r_move (hρ _ _ rfl)) rfl rfl rfl (want_y 139 rfl rfl rfl) ?_
        refine TL_q (.slice ar2 ((l1).length) cr2) (fun _ _ hρ _ => r_move (hρ _ _ rfl)) rfl rfl rfl (want_y 139 rfl rfl rfl) ?_
        refine TL_q (.int .i64 (((l1).length : Nat) : Int)) (fun _ _ hρ _ => r_len sl34 (hρ _ _ rfl)) rfl rfl rfl (want_y 139 rfl rfl rfl) ?_
        obtain ⟨l17, hl17, hn17⟩ : ∃ lz, lz = l.take ((l1).length) ∧ lz.length = (l1).length := ⟨_, rfl, by rw [List.length_take]; omega⟩
        have hs17 := SliceAt.front hv (n := (l1).length) (m := cap) (by omega) (by omega) (by omega)
        rw [← hl17] at hs17
        refine TL_q (.slice a l17.length cap) (fun ρ _ hρ _ => r_as (r_sliceO sl34 sz5 (hρ _ _ rfl) (bd_none ρ _) (bd_some (n := (l1).length) (hρ _ _ rfl)) (bd_none ρ _) (by simp) (by omega) (by omega) (by omega)) (by rw [hn17]; exact slo_zero _ _ _ _)) rfl rfl rfl (want_y 139 rfl rfl rfl) ?_
        refine TL_call (.bool true) (fun _ _ hρ _ => r_call (args := [.slice ar2 ((l1).length) cr2, .slice a l17.length cap]) (enters_of Try.func16 (by kernel_rfl) rfl) (hρ _ _ rfl) ((cons2 (hρ _ _ rfl) (cons2 (hρ _ _ rfl) rfl))) rfl) (fun w hm => (equal_b l1 l17 ar2 a cr2 cap w (SliceAt.own byc_len (hm.row 1 rfl) rfl rfl) (hs17.keep hm.ext) (by omega) (by omega)).mono fun _ _ h => ⟨h.1.trans (congrArg Ending.returned (bool_as (decide_eq_true (by rw [hl17, hn1, hl1])))), h.2⟩) rfl rfl rfl (want_y 139 rfl rfl rfl) ?_
        refine TL_q (.bool true) (fun _ _ hρ _ => r_pick_t (hρ _ _ rfl) (hρ _ _ rfl)) rfl rfl rfl (w_n rfl) ?_
        refine TL_q (.bool true) (fun _ _ hρ _ => r_assign (hρ _ _ rfl)) rfl rfl rfl (w_n rfl) ?_
        refine TL_seq ?_
        refine T_sub [(2, .bool true)] [(8, .row (.slice ar16 (([] : List By).length) cr16) 5 1 (([] : List By).length) (([] : List By).flatMap byc)), (3, .scr 5 1 isB nl3), (5, .row (.slice ar9 ((l1.take (sizeV l1)).length) cr9) 5 1 ((l1.take (sizeV l1)).length) ((l1.take (sizeV l1)).flatMap byc)), (4, .row (.slice ar8 ((placesV l1).length) cr8) 3 1 ((placesV l1).length) ((placesV l1).flatMap nic)), (963, .row (.slice va4 vl4.length vc4) 34 1 vl4.length (vl4.flatMap RowG.cells)), (964, .rows vl4), (965, .row (.slice ma4 ml4.length mc4) 3 1 ml4.length (ml4.flatMap nic)), (2, .row (.slice na3 nl3.length nc3) 34 1 nl3.length (nl3.flatMap RowG.cells)), (1, .row (.slice ar2 ((l1).length) cr2) 5 1 ((l1).length) ((l1).flatMap byc))] (sub_cons rfl sub_nil) (sub_cons rfl (sub_cons rfl (sub_cons rfl (sub_cons rfl (sub_cons rfl (sub_cons rfl (sub_cons rfl (sub_cons rfl (sub_cons rfl sub_nil))))))))) ?_
        refine T_ret' ?_
        refine ret_of rfl (.bool true) (fun tmps w hk hm => res1 rfl (res_tmp (hk 2 _ rfl))) (fun w hm => ?_)
        exact ⟨rfl, hm.ext⟩
    · skip
      refine T_seq (T_region ?_)
      refine TL_q (.int .i64 ((sizeV l1 : Nat) : Int)) (fun _ _ hρ _ => r_move (hρ _ _ rfl)) rfl rfl rfl (w_n rfl) ?_
      refine TL_q (.slice ar2 ((l1).length) cr2) (fun _ _ hρ _ => r_move (hρ _ _ rfl)) rfl rfl rfl (w_n rfl) ?_
      refine TL_q (.int .i64 (((l1).length : Nat) : Int)) (fun _ _ hρ _ => r_len sl34 (hρ _ _ rfl)) rfl rfl rfl (w_n rfl) ?_
      refine TL_q (.bool false) (fun _ _ hρ _ => r_as (r_lss (hρ _ _ rfl) (hρ _ _ rfl)) (bool_as (decide_eq_false hss))) rfl rfl rfl (w_n rfl) ?_
      refine TL_seq ?_
      refine T_cond_f rfl ?_
      refine T_skip' ?_
      refine p_seq ?_
      by_cases hz : firstE l1 = 0
      · skip
        refine T_seq (T_region ?_)
        refine TL_q (.slice ar2 ((l1).length) cr2) (fun _ _ hρ _ => r_move (hρ _ _ rfl)) rfl rfl rfl (w_n rfl) ?_
        refine TL_callN (fun (_ : Option Addr × Nat) => True) (fun (ar18, cr18) => .tuple #[.slice ar18 ((heldP l1).length) cr18, .int .i64 (((heldP l1).length + 8 : Nat) : Int), .int .i64 0]) (fun (ar18, cr18) => [(9, .row (.slice ar18 ((heldP l1).length) cr18) 5 1 ((heldP l1).length) ((heldP l1).flatMap byc))]) (fun _ _ hρ _ => r_call (args := [.slice ar2 ((l1).length) cr2]) (enters_of Try.func52 (by kernel_rfl) rfl) (hρ _ _ rfl) ((cons2 (hρ _ _ rfl) rfl)) rfl) (fun w hm => (jfirst_c l1 ar2 cr2 w (SliceAt.own byc_len (hm.row 1 rfl) rfl rfl) (row_cap (hm.row 1 rfl)) hz).mono fun e w' ⟨a', cap', he, hb, hr⟩ => ⟨(a', cap'), trivial, he, hb, newOk1 9 hr⟩) rfl rfl rfl (w_n rfl) ?_
        rintro ⟨ar18, cr18⟩ -
        refine TL_q (.tuple #[.slice ar18 ((heldP l1).length) cr18, .int .i64 (((heldP l1).length + 8 : Nat) : Int), .int .i64 0]) (fun _ _ hρ _ => r_move (hρ _ _ rfl)) rfl rfl rfl (w_n rfl) ?_
        refine TL_q (.slice ar18 ((heldP l1).length) cr18) (fun _ _ hρ _ => r_extract (hρ _ _ rfl) rfl) rfl rfl rfl (w_n rfl) ?_
        refine TL_q (.int .i64 (((heldP l1).length + 8 : Nat) : Int)) (fun _ _ hρ _ => r_extract (hρ _ _ rfl) rfl) rfl rfl rfl (w_n rfl) ?_
        refine TL_q (.int .i64 0) (fun _ _ hρ _ => r_extract (hρ _ _ rfl) rfl) rfl rfl rfl (w_n rfl) ?_
        refine TL_q (.slice ar18 ((heldP l1).length) cr18) (fun _ _ hρ _ => r_assign (hρ _ _ rfl)) rfl rfl rfl (w_n rfl) ?_
        refine TL_q (.int .i64 (((heldP l1).length + 8 : Nat) : Int)) (fun _ _ hρ _ => r_assign (hρ _ _ rfl)) rfl rfl rfl (w_n rfl) ?_
        refine TL_q (.int .i64 0) (fun _ _ hρ _ => r_assign (hρ _ _ rfl)) rfl rfl rfl (w_n rfl) ?_
        refine TL_seq ?_
        have hhl := heldP_len hz
        have c2 := (first_ok hz).2.1
        refine T_seq (T_region ?_)
        refine TL_q (.slice ar2 ((l1).length) cr2) (fun _ _ hρ _ => r_move (hρ _ _ rfl)) rfl rfl rfl (w_n rfl) ?_
        refine TL_callN (fun (_ : Option Addr × Nat) => True) (fun (ag19, cg19) => .tuple #[.slice ag19 ((heldP l1).length) cg19, .int .i64 0]) (fun (ag19, cg19) => [(10, .sl ag19 cg19 (heldP l1))]) (fun _ _ hρ _ => r_call (args := [.slice ar2 ((l1).length) cr2]) (enters_of Try.func51 (by kernel_rfl) rfl) (hρ _ _ rfl) ((cons2 (hρ _ _ rfl) rfl)) rfl) (fun w hm => (rfirst_ok l1 l1 rfl ar2 cr2 w (SliceAt.own byc_len (hm.row 1 rfl) rfl rfl) (row_cap (hm.row 1 rfl)) hz).mono fun e w' ⟨a', cap', he, hb, hr⟩ => ⟨(a', cap'), trivial, he, hb, newOk1 10 hr⟩) rfl rfl rfl (w_n rfl) ?_
        rintro ⟨ag19, cg19⟩ -
        refine TL_q (.tuple #[.slice ag19 ((heldP l1).length) cg19, .int .i64 0]) (fun _ _ hρ _ => r_move (hρ _ _ rfl)) rfl rfl rfl (w_n rfl) ?_
        refine TL_q (.slice ag19 ((heldP l1).length) cg19) (fun _ _ hρ _ => r_extract (hρ _ _ rfl) rfl) rfl rfl rfl (w_n rfl) ?_
        refine TL_q (.int .i64 0) (fun _ _ hρ _ => r_extract (hρ _ _ rfl) rfl) rfl rfl rfl (w_n rfl) ?_
        refine TL_q (.slice ag19 ((heldP l1).length) cg19) (fun _ _ hρ _ => r_assign (hρ _ _ rfl)) rfl rfl rfl (w_n rfl) ?_
        refine TL_q (.int .i64 0) (fun _ _ hρ _ => r_assign (hρ _ _ rfl)) rfl rfl rfl (w_n rfl) ?_
        refine TL_seq ?_
        refine T_seq (T_region ?_)
        refine TL_q (.int .i64 0) (fun _ _ hρ _ => r_assign (hρ _ _ rfl)) rfl rfl rfl (w_n rfl) ?_
        refine TL_seq ?_
        refine T_sub [(0, .slice a l.length cap), (2, .bool false), (3, .slice ar2 ((l1).length) cr2), (8, .int .i64 ((sizeV l1 : Nat) : Int)), (12, .int .i64 ((sizeV l1 : Nat) : Int)), (13, .int .i64 (whyE l1)), (14, .int .i64 0), (15, .slice ar18 ((heldP l1).length) cr18), (16, .int .i64 (((heldP l1).length + 8 : Nat) : Int)), (17, .int .i64 0), (18, .slice ag19 ((heldP l1).length) cg19), (19, .int .i64 0), (20, .int .i64 0)] [(10, .sl ag19 cg19 (heldP l1)), (9, .row (.slice ar18 ((heldP l1).length) cr18) 5 1 ((heldP l1).length) ((heldP l1).flatMap byc)), (3, .scr 5 1 isB nl3), (5, .row (.slice ar9 ((l1.take (sizeV l1)).length) cr9) 5 1 ((l1.take (sizeV l1)).length) ((l1.take (sizeV l1)).flatMap byc)), (4, .row (.slice ar8 ((placesV l1).length) cr8) 3 1 ((placesV l1).length) ((placesV l1).flatMap nic)), (963, .row (.slice va4 vl4.length vc4) 34 1 vl4.length (vl4.flatMap RowG.cells)), (964, .rows vl4), (965, .row (.slice ma4 ml4.length mc4) 3 1 ml4.length (ml4.flatMap nic)), (2, .row (.slice na3 nl3.length nc3) 34 1 nl3.length (nl3.flatMap RowG.cells)), (1, .row (.slice ar2 ((l1).length) cr2) 5 1 ((l1).length) ((l1).flatMap byc))] (sub_cons rfl (sub_cons rfl (sub_cons rfl (sub_cons rfl (sub_cons rfl (sub_cons rfl (sub_cons rfl (sub_cons rfl (sub_cons rfl (sub_cons rfl (sub_cons rfl (sub_cons rfl (sub_cons rfl sub_nil))))))))))))) (sub_cons rfl (sub_cons rfl (sub_cons rfl (sub_cons rfl (sub_cons rfl (sub_cons rfl (sub_cons rfl (sub_cons rfl (sub_cons rfl (sub_cons rfl sub_nil)))))))))) ?_
        refine T_seq ?_
        refine T_seq (T_region ?_)
        refine TL_q (.int .i64 0) (fun _ _ hρ _ => r_move (hρ _ _ rfl)) rfl rfl rfl (w_n rfl) ?_
        refine TL_q (.bool true) (fun _ _ hρ _ => r_as (r_eql (hρ _ _ rfl) (hρ _ _ rfl)) (by rfl)) rfl rfl rfl (w_n rfl) ?_
        refine TL_seq ?_
        refine T_cond_t rfl ?_
        refine T_region ?_
        refine TL_q (.slice ag19 ((heldP l1).length) cg19) (fun _ _ hρ _ => r_move (hρ _ _ rfl)) rfl rfl rfl (w_n rfl) ?_
        refine TL_q (.int .i64 (((heldP l1).length : Nat) : Int)) (fun _ _ hρ _ => r_len sl34 (hρ _ _ rfl)) rfl rfl rfl (w_n rfl) ?_
        refine TL_q (.int .i64 ((((heldP l1).length) + 8 : Nat) : Int)) (fun _ _ hρ _ => r_as (r_add (hρ _ _ rfl) (hρ _ _ rfl)) (int_as ((wrap64 (by omega) (by omega)).trans (by omega)))) rfl rfl rfl (w_n rfl) ?_
        refine TL_q (.int .i64 ((((heldP l1).length) + 8 : Nat) : Int)) (fun _ _ hρ _ => r_assign (hρ _ _ rfl)) rfl rfl rfl (w_n rfl) ?_
        refine TL_nil ?_
        refine p_seq ?_
        refine T_seq (T_region ?_)
        refine TL_q (.int .i64 ((sizeV l1 : Nat) : Int)) (fun _ _ hρ _ => r_move (hρ _ _ rfl)) rfl rfl rfl (w_n rfl) ?_
        refine TL_q (.int .i64 ((sizeV l1 : Nat) : Int)) (fun _ _ hρ _ => r_move (hρ _ _ rfl)) rfl rfl rfl (w_n rfl) ?_
        refine TL_q (.bool true) (fun _ _ hρ _ => r_as (r_eql (hρ _ _ rfl) (hρ _ _ rfl)) (bool_as (by simp))) rfl rfl rfl (w_n rfl) ?_
        refine TL_q (.bool true) (fun _ _ hρ _ => r_move (hρ _ _ rfl)) rfl rfl rfl (w_n rfl) ?_
        refine TL_q (.int .i64 (whyE l1)) (fun _ _ hρ _ => r_move (hρ _ _ rfl)) rfl rfl rfl (want_y 119 rfl rfl rfl) ?_
        refine TL_q (.int .i64 0) (fun _ _ hρ _ => r_move (hρ _ _ rfl)) rfl rfl rfl (want_y 119 rfl rfl rfl) ?_
        refine TL_q (.bool true) (fun _ _ hρ _ => r_as (r_eql (hρ _ _ rfl) (hρ _ _ rfl)) (bool_as (decide_eq_true (whyE_ge (by omega))))) rfl rfl rfl (want_y 119 rfl rfl rfl) ?_
        refine TL_q (.bool true) (fun _ _ hρ _ => r_pick_t (hρ _ _ rfl) (hρ _ _ rfl)) rfl rfl rfl (w_n rfl) ?_
        refine TL_q (.bool true) (fun _ _ hρ _ => r_move (hρ _ _ rfl)) rfl rfl rfl (w_n rfl) ?_
        refine TL_q (.slice ar18 ((heldP l1).length) cr18) (fun _ _ hρ _ => r_move (hρ _ _ rfl)) rfl rfl rfl (want_y 124 rfl rfl rfl) ?_
        refine TL_q (.slice ag19 ((heldP l1).length) cg19) (fun _ _ hρ _ => r_move (hρ _ _ rfl)) rfl rfl rfl (want_y 124 rfl rfl rfl) ?_
        refine TL_call (.bool true) (fun _ _ hρ _ => r_call (args := [.slice ar18 ((heldP l1).length) cr18, .slice ag19 ((heldP l1).length) cg19]) (enters_of Try.func16 (by kernel_rfl) rfl) (hρ _ _ rfl) ((cons2 (hρ _ _ rfl) (cons2 (hρ _ _ rfl) rfl))) rfl) (fun w hm => (equal_b (heldP l1) (heldP l1) ar18 ag19 cr18 cg19 w (SliceAt.own byc_len (hm.row 9 rfl) rfl rfl) (hm.slAt 10 rfl) (by omega) (by omega)).mono fun _ _ h => ⟨h.1.trans (congrArg Ending.returned (bool_as (decide_eq_true rfl))), h.2⟩) rfl rfl rfl (want_y 124 rfl rfl rfl) ?_
        refine TL_q (.bool true) (fun _ _ hρ _ => r_pick_t (hρ _ _ rfl) (hρ _ _ rfl)) rfl rfl rfl (w_n rfl) ?_
        refine TL_q (.bool true) (fun _ _ hρ _ => r_move (hρ _ _ rfl)) rfl rfl rfl (w_n rfl) ?_
        refine TL_q (.int .i64 (((heldP l1).length + 8 : Nat) : Int)) (fun _ _ hρ _ => r_move (hρ _ _ rfl)) rfl rfl rfl (want_y 129 rfl rfl rfl) ?_
        refine TL_q (.int .i64 ((((heldP l1).length) + 8 : Nat) : Int)) (fun _ _ hρ _ => r_move (hρ _ _ rfl)) rfl rfl rfl (want_y 129 rfl rfl rfl) ?_
        refine TL_q (.bool true) (fun _ _ hρ _ => r_as (r_eql (hρ _ _ rfl) (hρ _ _ rfl)) (bool_as (decide_eq_true rfl))) rfl rfl rfl (want_y 129 rfl rfl rfl) ?_
        refine TL_q (.bool true) (fun _ _ hρ _ => r_pick_t (hρ _ _ rfl) (hρ _ _ rfl)) rfl rfl rfl (w_n rfl) ?_
        refine TL_q (.bool true) (fun _ _ hρ _ => r_move (hρ _ _ rfl)) rfl rfl rfl (w_n rfl) ?_
        refine TL_q (.int .i64 0) (fun _ _ hρ _ => r_move (hρ _ _ rfl)) rfl rfl rfl (want_y 134 rfl rfl rfl) ?_
        refine TL_q (.int .i64 0) (fun _ _ hρ _ => r_move (hρ _ _ rfl)) rfl rfl rfl (want_y 134 rfl rfl rfl) ?_
        refine TL_q (.bool true) (fun _ _ hρ _ => r_as (r_eql (hρ _ _ rfl) (hρ _ _ rfl)) (by rfl)) rfl rfl rfl (want_y 134 rfl rfl rfl) ?_
        refine TL_q (.bool true) (fun _ _ hρ _ => r_pick_t (hρ _ _ rfl) (hρ _ _ rfl)) rfl rfl rfl (w_n rfl) ?_
        refine TL_q (.bool true) (fun _ _ hρ _ => r_move (hρ _ _ rfl)) rfl rfl rfl (w_n rfl) ?_
        refine TL_q (.slice ar2 ((l1).length) cr2) (fun _ _ hρ _ => r_move (hρ _ _ rfl)) rfl rfl rfl (want_y 139 rfl rfl rfl) ?_
        refine TL_q (.slice a l.length cap) (fun _ _ hρ _ => r_move (hρ _ _ rfl)) rfl rfl rfl (want_y 139 rfl rfl rfl) ?_
        refine TL_q (.slice ar2 ((l1).length) cr2) (fun _ _ hρ _ => r_move (hρ _ _ rfl)) rfl rfl rfl (want_y 139 rfl rfl rfl) ?_
        refine TL_q (.int .i64 (((l1).length : Nat) : Int)) (fun _ _ hρ _ => r_len sl34 (hρ _ _ rfl)) rfl rfl rfl (want_y 139 rfl rfl rfl) ?_
        obtain ⟨l20, hl20, hn20⟩ : ∃ lz, lz = l.take ((l1).length) ∧ lz.length = (l1).length := ⟨_, rfl, by rw [List.length_take]; omega⟩
        have hs20 := SliceAt.front hv (n := (l1).length) (m := cap) (by omega) (by omega) (by omega)
        rw [← hl20] at hs20
        refine TL_q (.slice a l20.length cap) (fun ρ _ hρ _ => r_as (r_sliceO sl34 sz5 (hρ _ _ rfl) (bd_none ρ _) (bd_some (n := (l1).length) (hρ _ _ rfl)) (bd_none ρ _) (by simp) (by omega) (by omega) (by omega)) (by rw [hn20]; exact slo_zero _ _ _ _)) rfl rfl rfl (want_y 139 rfl rfl rfl) ?_
        refine TL_call (.bool true) (fun _ _ hρ _ => r_call (args := [.slice ar2 ((l1).length) cr2, .slice a l20.length cap]) (enters_of Try.func16 (by kernel_rfl) rfl) (hρ _ _ rfl) ((cons2 (hρ _ _ rfl) (cons2 (hρ _ _ rfl) rfl))) rfl) (fun w hm => (equal_b l1 l20 ar2 a cr2 cap w (SliceAt.own byc_len (hm.row 1 rfl) rfl rfl) (hs20.keep hm.ext) (by omega) (by omega)).mono fun _ _ h => ⟨h.1.trans (congrArg Ending.returned (bool_as (decide_eq_true (by rw [hl20, hn1, hl1])))), h.2⟩) rfl rfl rfl (want_y 139 rfl rfl rfl) ?_
        refine TL_q (.bool true) (fun _ _ hρ _ => r_pick_t (hρ _ _ rfl) (hρ _ _ rfl)) rfl rfl rfl (w_n rfl) ?_
        refine TL_q (.bool true) (fun _ _ hρ _ => r_assign (hρ _ _ rfl)) rfl rfl rfl (w_n rfl) ?_
        refine TL_seq ?_
        refine T_sub [(2, .bool true)] [(10, .sl ag19 cg19 (heldP l1)), (9, .row (.slice ar18 ((heldP l1).length) cr18) 5 1 ((heldP l1).length) ((heldP l1).flatMap byc)), (3, .scr 5 1 isB nl3), (5, .row (.slice ar9 ((l1.take (sizeV l1)).length) cr9) 5 1 ((l1.take (sizeV l1)).length) ((l1.take (sizeV l1)).flatMap byc)), (4, .row (.slice ar8 ((placesV l1).length) cr8) 3 1 ((placesV l1).length) ((placesV l1).flatMap nic)), (963, .row (.slice va4 vl4.length vc4) 34 1 vl4.length (vl4.flatMap RowG.cells)), (964, .rows vl4), (965, .row (.slice ma4 ml4.length mc4) 3 1 ml4.length (ml4.flatMap nic)), (2, .row (.slice na3 nl3.length nc3) 34 1 nl3.length (nl3.flatMap RowG.cells)), (1, .row (.slice ar2 ((l1).length) cr2) 5 1 ((l1).length) ((l1).flatMap byc))] (sub_cons rfl sub_nil) (sub_cons rfl (sub_cons rfl (sub_cons rfl (sub_cons rfl (sub_cons rfl (sub_cons rfl (sub_cons rfl (sub_cons rfl (sub_cons rfl (sub_cons rfl sub_nil)))))))))) ?_
        refine T_ret' ?_
        refine ret_of rfl (.bool true) (fun tmps w hk hm => res1 rfl (res_tmp (hk 2 _ rfl))) (fun w hm => ?_)
        exact ⟨rfl, hm.ext⟩
      · skip
        refine T_seq (T_region ?_)
        refine TL_q (.slice ar2 ((l1).length) cr2) (fun _ _ hρ _ => r_move (hρ _ _ rfl)) rfl rfl rfl (w_n rfl) ?_
        refine TL_callN (fun (_ : Option Addr × Nat) => True) (fun (ar21, cr21) => .tuple #[.slice ar21 (([] : List By).length) cr21, .int .i64 0, .int .i64 (firstE l1)]) (fun (ar21, cr21) => [(11, .row (.slice ar21 (([] : List By).length) cr21) 5 1 (([] : List By).length) (([] : List By).flatMap byc))]) (fun _ _ hρ _ => r_call (args := [.slice ar2 ((l1).length) cr2]) (enters_of Try.func52 (by kernel_rfl) rfl) (hρ _ _ rfl) ((cons2 (hρ _ _ rfl) rfl)) rfl) (fun w hm => (jfirst_p l1 ar2 cr2 w (SliceAt.own byc_len (hm.row 1 rfl) rfl rfl) (row_cap (hm.row 1 rfl)) hz).mono fun e w' ⟨a', cap', he, hb, hr⟩ => ⟨(a', cap'), trivial, he, hb, newOk1 11 hr⟩) rfl rfl rfl (w_n rfl) ?_
        rintro ⟨ar21, cr21⟩ -
        refine TL_q (.tuple #[.slice ar21 (([] : List By).length) cr21, .int .i64 0, .int .i64 (firstE l1)]) (fun _ _ hρ _ => r_move (hρ _ _ rfl)) rfl rfl rfl (w_n rfl) ?_
        refine TL_q (.slice ar21 (([] : List By).length) cr21) (fun _ _ hρ _ => r_extract (hρ _ _ rfl) rfl) rfl rfl rfl (w_n rfl) ?_
        refine TL_q (.int .i64 0) (fun _ _ hρ _ => r_extract (hρ _ _ rfl) rfl) rfl rfl rfl (w_n rfl) ?_
        refine TL_q (.int .i64 (firstE l1)) (fun _ _ hρ _ => r_extract (hρ _ _ rfl) rfl) rfl rfl rfl (w_n rfl) ?_
        refine TL_q (.slice ar21 (([] : List By).length) cr21) (fun _ _ hρ _ => r_assign (hρ _ _ rfl)) rfl rfl rfl (w_n rfl) ?_
        refine TL_q (.int .i64 0) (fun _ _ hρ _ => r_assign (hρ _ _ rfl)) rfl rfl rfl (w_n rfl) ?_
        refine TL_q (.int .i64 (firstE l1)) (fun _ _ hρ _ => r_assign (hρ _ _ rfl)) rfl rfl rfl (w_n rfl) ?_
        refine TL_seq ?_
        refine T_seq (T_region ?_)
        refine TL_q (.slice ar2 ((l1).length) cr2) (fun _ _ hρ _ => r_move (hρ _ _ rfl)) rfl rfl rfl (w_n rfl) ?_
        refine TL_call (.tuple #[.slice none 0 0, .int .i64 (firstE l1)]) (fun _ _ hρ _ => r_call (args := [.slice ar2 ((l1).length) cr2]) (enters_of Try.func51 (by kernel_rfl) rfl) (hρ _ _ rfl) ((cons2 (hρ _ _ rfl) rfl)) rfl) (fun w hm => rfirst_no l1 l1 rfl ar2 cr2 w (SliceAt.own byc_len (hm.row 1 rfl) rfl rfl) (row_cap (hm.row 1 rfl)) hz) rfl rfl rfl (w_n rfl) ?_
        refine TL_q (.tuple #[.slice none 0 0, .int .i64 (firstE l1)]) (fun _ _ hρ _ => r_move (hρ _ _ rfl)) rfl rfl rfl (w_n rfl) ?_
        refine TL_q (.slice none 0 0) (fun _ _ hρ _ => r_extract (hρ _ _ rfl) rfl) rfl rfl rfl (w_n rfl) ?_
        refine TL_q (.int .i64 (firstE l1)) (fun _ _ hρ _ => r_extract (hρ _ _ rfl) rfl) rfl rfl rfl (w_n rfl) ?_
        refine TL_q (.slice none 0 0) (fun _ _ hρ _ => r_assign (hρ _ _ rfl)) rfl rfl rfl (w_n rfl) ?_
        refine TL_q (.int .i64 (firstE l1)) (fun _ _ hρ _ => r_assign (hρ _ _ rfl)) rfl rfl rfl (w_n rfl) ?_
        refine TL_seq ?_
        refine T_seq (T_region ?_)
        refine TL_q (.int .i64 0) (fun _ _ hρ _ => r_assign (hρ _ _ rfl)) rfl rfl rfl (w_n rfl) ?_
        refine TL_seq ?_
        refine T_sub [(0, .slice a l.length cap), (2, .bool false), (3, .slice ar2 ((l1).length) cr2), (8, .int .i64 ((sizeV l1 : Nat) : Int)), (12, .int .i64 ((sizeV l1 : Nat) : Int)), (13, .int .i64 (whyE l1)), (14, .int .i64 0), (15, .slice ar21 (([] : List By).length) cr21), (16, .int .i64 0), (17, .int .i64 (firstE l1)), (18, .slice none 0 0), (19, .int .i64 (firstE l1)), (20, .int .i64 0)] [(11, .row (.slice ar21 (([] : List By).length) cr21) 5 1 (([] : List By).length) (([] : List By).flatMap byc)), (3, .scr 5 1 isB nl3), (5, .row (.slice ar9 ((l1.take (sizeV l1)).length) cr9) 5 1 ((l1.take (sizeV l1)).length) ((l1.take (sizeV l1)).flatMap byc)), (4, .row (.slice ar8 ((placesV l1).length) cr8) 3 1 ((placesV l1).length) ((placesV l1).flatMap nic)), (963, .row (.slice va4 vl4.length vc4) 34 1 vl4.length (vl4.flatMap RowG.cells)), (964, .rows vl4), (965, .row (.slice ma4 ml4.length mc4) 3 1 ml4.length (ml4.flatMap nic)), (2, .row (.slice na3 nl3.length nc3) 34 1 nl3.length (nl3.flatMap RowG.cells)), (1, .row (.slice ar2 ((l1).length) cr2) 5 1 ((l1).length) ((l1).flatMap byc))] (sub_cons rfl (sub_cons rfl (sub_cons rfl (sub_cons rfl (sub_cons rfl (sub_cons rfl (sub_cons rfl (sub_cons rfl (sub_cons rfl (sub_cons rfl (sub_cons rfl (sub_cons rfl (sub_cons rfl sub_nil))))))))))))) (sub_cons rfl (sub_cons rfl (sub_cons rfl (sub_cons rfl (sub_cons rfl (sub_cons rfl (sub_cons rfl (sub_cons rfl (sub_cons rfl sub_nil))))))))) ?_
        refine T_seq ?_
        refine T_seq (T_region ?_)
        refine TL_q (.int .i64 (firstE l1)) (fun _ _ hρ _ => r_move (hρ _ _ rfl)) rfl rfl rfl (w_n rfl) ?_
        refine TL_q (.bool false) (fun _ _ hρ _ => r_as (r_eql (hρ _ _ rfl) (hρ _ _ rfl)) (bool_as (decide_eq_false hz))) rfl rfl rfl (w_n rfl) ?_
        refine TL_seq ?_
        refine T_cond_f rfl ?_
        refine T_skip' ?_
        refine p_seq ?_
        refine T_seq (T_region ?_)
        refine TL_q (.int .i64 ((sizeV l1 : Nat) : Int)) (fun _ _ hρ _ => r_move (hρ _ _ rfl)) rfl rfl rfl (w_n rfl) ?_
        refine TL_q (.int .i64 ((sizeV l1 : Nat) : Int)) (fun _ _ hρ _ => r_move (hρ _ _ rfl)) rfl rfl rfl (w_n rfl) ?_
        refine TL_q (.bool true) (fun _ _ hρ _ => r_as (r_eql (hρ _ _ rfl) (hρ _ _ rfl)) (bool_as (by simp))) rfl rfl rfl (w_n rfl) ?_
        refine TL_q (.bool true) (fun _ _ hρ _ => r_move (hρ _ _ rfl)) rfl rfl rfl (w_n rfl) ?_
        refine TL_q (.int .i64 (whyE l1)) (fun _ _ hρ _ => r_move (hρ _ _ rfl)) rfl rfl rfl (want_y 119 rfl rfl rfl) ?_
        refine TL_q (.int .i64 0) (fun _ _ hρ _ => r_move (hρ _ _ rfl)) rfl rfl rfl (want_y 119 rfl rfl rfl) ?_
        refine TL_q (.bool true) (fun _ _ hρ _ => r_as (r_eql (hρ _ _ rfl) (hρ _ _ rfl)) (bool_as (decide_eq_true (whyE_ge (by omega))))) rfl rfl rfl (want_y 119 rfl rfl rfl) ?_
        refine TL_q (.bool true) (fun _ _ hρ _ => r_pick_t (hρ _ _ rfl) (hρ _ _ rfl)) rfl rfl rfl (w_n rfl) ?_
        refine TL_q (.bool true) (fun _ _ hρ _ => r_move (hρ _ _ rfl)) rfl rfl rfl (w_n rfl) ?_
        refine TL_q (.slice ar21 (([] : List By).length) cr21) (fun _ _ hρ _ => r_move (hρ _ _ rfl)) rfl rfl rfl (want_y 124 rfl rfl rfl) ?_
        refine TL_q (.slice none 0 0) (fun _ _ hρ _ => r_move (hρ _ _ rfl)) rfl rfl rfl (want_y 124 rfl rfl rfl) ?_
        refine TL_call (.bool true) (fun _ _ hρ _ => r_call (args := [.slice ar21 (([] : List By).length) cr21, .slice none 0 0]) (enters_of Try.func16 (by kernel_rfl) rfl) (hρ _ _ rfl) ((cons2 (hρ _ _ rfl) (cons2 (hρ _ _ rfl) rfl))) rfl) (fun w hm => (equal_b ([] : List By) [] ar21 none cr21 0 w (SliceAt.own byc_len (hm.row 11 rfl) rfl rfl) (sliceNil w) (Nat.le_of_ble_eq_true rfl) (Nat.le_of_ble_eq_true rfl)).mono fun _ _ h => ⟨h.1.trans (congrArg Ending.returned (bool_as (decide_eq_true rfl))), h.2⟩) rfl rfl rfl (want_y 124 rfl rfl rfl) ?_
        refine TL_q (.bool true) (fun _ _ hρ _ => r_pick_t (hρ _ _ rfl) (hρ _ _ rfl)) rfl rfl rfl (w_n rfl) ?_
        refine TL_q (.bool true) (fun _ _ hρ _ => r_move (hρ _ _ rfl)) rfl rfl rfl (w_n rfl) ?_
        refine TL_q (.int .i64 0) (fun _ _ hρ _ => r_move (hρ _ _ rfl)) rfl rfl rfl (want_y 129 rfl rfl rfl) ?_
        refine TL_q (.int .i64 0) (fun _ _ hρ _ => r_move (hρ _ _ rfl)) rfl rfl rfl (want_y 129 rfl rfl rfl) ?_
        refine TL_q (.bool true) (fun _ _ hρ _ => r_as (r_eql (hρ _ _ rfl) (hρ _ _ rfl)) (by rfl)) rfl rfl rfl (want_y 129 rfl rfl rfl) ?_
        refine TL_q (.bool true) (fun _ _ hρ _ => r_pick_t (hρ _ _ rfl) (hρ _ _ rfl)) rfl rfl rfl (w_n rfl) ?_
        refine TL_q (.bool true) (fun _ _ hρ _ => r_move (hρ _ _ rfl)) rfl rfl rfl (w_n rfl) ?_
        refine TL_q (.int .i64 (firstE l1)) (fun _ _ hρ _ => r_move (hρ _ _ rfl)) rfl rfl rfl (want_y 134 rfl rfl rfl) ?_
        refine TL_q (.int .i64 (firstE l1)) (fun _ _ hρ _ => r_move (hρ _ _ rfl)) rfl rfl rfl (want_y 134 rfl rfl rfl) ?_
        refine TL_q (.bool true) (fun _ _ hρ _ => r_as (r_eql (hρ _ _ rfl) (hρ _ _ rfl)) (bool_as (by simp))) rfl rfl rfl (want_y 134 rfl rfl rfl) ?_
        refine TL_q (.bool true) (fun _ _ hρ _ => r_pick_t (hρ _ _ rfl) (hρ _ _ rfl)) rfl rfl rfl (w_n rfl) ?_
        refine TL_q (.bool true) (fun _ _ hρ _ => r_move (hρ _ _ rfl)) rfl rfl rfl (w_n rfl) ?_
        refine TL_q (.slice ar2 ((l1).length) cr2) (fun _ _ hρ _ => r_move (hρ _ _ rfl)) rfl rfl rfl (want_y 139 rfl rfl rfl) ?_
        refine TL_q (.slice a l.length cap) (fun _ _ hρ _ => r_move (hρ _ _ rfl)) rfl rfl rfl (want_y 139 rfl rfl rfl) ?_
        refine TL_q (.slice ar2 ((l1).length) cr2) (fun _ _ hρ _ => r_move (hρ _ _ rfl)) rfl rfl rfl (want_y 139 rfl rfl rfl) ?_
        refine TL_q (.int .i64 (((l1).length : Nat) : Int)) (fun _ _ hρ _ => r_len sl34 (hρ _ _ rfl)) rfl rfl rfl (want_y 139 rfl rfl rfl) ?_
        obtain ⟨l22, hl22, hn22⟩ : ∃ lz, lz = l.take ((l1).length) ∧ lz.length = (l1).length := ⟨_, rfl, by rw [List.length_take]; omega⟩
        have hs22 := SliceAt.front hv (n := (l1).length) (m := cap) (by omega) (by omega) (by omega)
        rw [← hl22] at hs22
        refine TL_q (.slice a l22.length cap) (fun ρ _ hρ _ => r_as (r_sliceO sl34 sz5 (hρ _ _ rfl) (bd_none ρ _) (bd_some (n := (l1).length) (hρ _ _ rfl)) (bd_none ρ _) (by simp) (by omega) (by omega) (by omega)) (by rw [hn22]; exact slo_zero _ _ _ _)) rfl rfl rfl (want_y 139 rfl rfl rfl) ?_
        refine TL_call (.bool true) (fun _ _ hρ _ => r_call (args := [.slice ar2 ((l1).length) cr2, .slice a l22.length cap]) (enters_of Try.func16 (by kernel_rfl) rfl) (hρ _ _ rfl) ((cons2 (hρ _ _ rfl) (cons2 (hρ _ _ rfl) rfl))) rfl) (fun w hm => (equal_b l1 l22 ar2 a cr2 cap w (SliceAt.own byc_len (hm.row 1 rfl) rfl rfl) (hs22.keep hm.ext) (by omega) (by omega)).mono fun _ _ h => ⟨h.1.trans (congrArg Ending.returned (bool_as (decide_eq_true (by rw [hl22, hn1, hl1])))), h.2⟩) rfl rfl rfl (want_y 139 rfl rfl rfl) ?_
        refine TL_q (.bool true) (fun _ _ hρ _ => r_pick_t (hρ _ _ rfl) (hρ _ _ rfl)) rfl rfl rfl (w_n rfl) ?_
        refine TL_q (.bool true) (fun _ _ hρ _ => r_assign (hρ _ _ rfl)) rfl rfl rfl (w_n rfl) ?_
        refine TL_seq ?_
        refine T_sub [(2, .bool true)] [(11, .row (.slice ar21 (([] : List By).length) cr21) 5 1 (([] : List By).length) (([] : List By).flatMap byc)), (3, .scr 5 1 isB nl3), (5, .row (.slice ar9 ((l1.take (sizeV l1)).length) cr9) 5 1 ((l1.take (sizeV l1)).length) ((l1.take (sizeV l1)).flatMap byc)), (4, .row (.slice ar8 ((placesV l1).length) cr8) 3 1 ((placesV l1).length) ((placesV l1).flatMap nic)), (963, .row (.slice va4 vl4.length vc4) 34 1 vl4.length (vl4.flatMap RowG.cells)), (964, .rows vl4), (965, .row (.slice ma4 ml4.length mc4) 3 1 ml4.length (ml4.flatMap nic)), (2, .row (.slice na3 nl3.length nc3) 34 1 nl3.length (nl3.flatMap RowG.cells)), (1, .row (.slice ar2 ((l1).length) cr2) 5 1 ((l1).length) ((l1).flatMap byc))] (sub_cons rfl sub_nil) (sub_cons rfl (sub_cons rfl (sub_cons rfl (sub_cons rfl (sub_cons rfl (sub_cons rfl (sub_cons rfl (sub_cons rfl (sub_cons rfl sub_nil))))))))) ?_
        refine T_ret' ?_
        refine ret_of rfl (.bool true) (fun tmps w hk hm => res1 rfl (res_tmp (hk 2 _ rfl))) (fun w hm => ?_)
        exact ⟨rfl, hm.ext⟩
end Go.Proofs.Ytcidgbjgeegepaa
