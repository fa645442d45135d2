/- Texts of this seat, merged: part 4. -/
import Derived.Test.YtcidgbjgeegepaaMg3
/- net and journal: JournalTorn. Printed by a program of this seat's prover. -/
namespace Go.Proofs.Ytcidgbjgeegepaa
open Go Go.RowKit
set_option maxRecDepth 10000
theorem rls_take (l : List (RowG By)) (k : Nat) : (rls l).take k = rls (l.take k) := by
  unfold rls; rw [List.map_take]
theorem rls_all {n : List (RowG By)} {m : Nat} (h : ∀ r ∈ n, r.l.length ≤ m) : ∀ q ∈ rls n, q.length ≤ m := fun q hq => by
  obtain ⟨r, hr, rfl⟩ := List.mem_map.1 hq
  exact h r hr

set_option maxHeartbeats 2000000 in
theorem jtorn_c (xs : List (RowG By)) (a : Option Addr) (cap : Nat) (cut : Int) (w : World) (hv : SliceAt w a cap 1 RowG.cells xs) (hcap : cap ≤ Go.maxLen) (hx : RowsIn w xs) : Calls Try.prog 7 #[.slice a xs.length cap, .int .i64 cut] w fun e w' => e = .returned (.bool true) ∧ Below w.heap.size w w' := by
  have hvl := hv.1
  have hcp := hcap
  unfold Go.maxLen at hcp
  refine calls_of_T (l := [.slice a xs.length cap, .int .i64 cut]) 126 Try.func7 rfl rfl rfl ?_
  show T _ _ _ [(0, .slice a xs.length cap), (1, .int .i64 cut)] []
  refine T_seq (T_region ?_)
  refine TL_q (.bool false) (fun _ _ hρ _ => r_assign (hρ _ _ rfl)) rfl rfl rfl (w_n rfl) ?_
  refine TL_seq ?_
  refine T_seq ?_
  refine T_seq (T_region ?_)
  refine TL_call (.bool true) (fun _ _ hρ _ => r_call (args := []) (enters_of Try.func35 (by kernel_rfl) rfl) (hρ _ _ rfl) (by rfl) rfl) (fun w _ => jwakes_c w) rfl rfl rfl (w_n rfl) ?_
  refine TL_q (.bool false) (fun _ _ hρ _ => r_not (b := true) (hρ _ _ rfl)) rfl rfl rfl (w_n rfl) ?_
  refine TL_seq ?_
  refine T_cond_f rfl ?_
  refine T_skip' ?_
  refine p_seq ?_
  refine T_seq (T_region ?_)
  refine TL_q (.slice a xs.length cap) (fun _ _ hρ _ => r_move (hρ _ _ rfl)) rfl rfl rfl (w_n rfl) ?_
  refine TL_callN (fun ((fa1, fc1, fl1) : Option Addr × Nat × List (RowG By)) => rls fl1 = fewR (rls xs)) (fun (fa1, fc1, fl1) => .slice fa1 fl1.length fc1) (fun (fa1, fc1, fl1) => [(1, .row (.slice fa1 fl1.length fc1) 34 1 fl1.length (fl1.flatMap RowG.cells)), (2, .pool 5 1 byc fl1)]) (fun _ _ hρ _ => r_call (args := [.slice a xs.length cap]) (enters_of Try.func36 (by kernel_rfl) rfl) (hρ _ _ rfl) ((cons2 (hρ _ _ rfl) rfl)) rfl) (fun w hm => (fewr_c xs a cap w (hv.keep hm.ext) hcap (hx.keep hm.ext)).mono fun e w' ⟨n, hf, he, hb, r1, r2, hs⟩ => ⟨(n.a, n.cap, n.l), hf, he, hb, newOk2 1 2 r1 r2 hs⟩) rfl rfl rfl (w_n rfl) ?_
  rintro ⟨fa1, fc1, fl1⟩ hfw1
  refine TL_q (.slice fa1 fl1.length fc1) (fun _ _ hρ _ => r_assign (hρ _ _ rfl)) rfl rfl rfl (w_n rfl) ?_
  refine TL_seq ?_
  have hnl6 : fl1.length ≤ 6 := by have := fewR_len (rls xs); rw [← hfw1, rls_len] at this; exact this
  have hnb : ∀ r ∈ fl1, r.l.length ≤ 65537 := rls_le hfw1 (fewR_le _)
  refine T_rowcap 1 rfl (fun hrcf => ?_)
  by_cases h65 : ∀ r ∈ fl1, r.l.length ≤ 65536
  · skip
    refine T_seq (T_region ?_)
    refine TL_q (.slice fa1 fl1.length fc1) (fun _ _ hρ _ => r_move (hρ _ _ rfl)) rfl rfl rfl (w_n rfl) ?_
    refine TL_callN (fun (_ : Option Addr × Nat) => True) (fun (ar2, cr2) => .tuple #[.slice ar2 ((joinP (rls fl1)).length) cr2, .int .i64 0]) (fun (ar2, cr2) => [(3, .row (.slice ar2 ((joinP (rls fl1)).length) cr2) 5 1 ((joinP (rls fl1)).length) ((joinP (rls fl1)).flatMap byc))]) (fun _ _ hρ _ => r_call (args := [.slice fa1 fl1.length fc1]) (enters_of Try.func38 (by kernel_rfl) rfl) (hρ _ _ rfl) ((cons2 (hρ _ _ rfl) rfl)) rfl) (fun w hm => (join_ok fl1 fa1 fc1 w (SliceAt.own RowG.cells_len (hm.row 1 rfl) rfl rfl) (row_cap (hm.row 1 rfl)) (fun r hr => ⟨poolAt byc_len (hm.pool 2 rfl) hr, poolCap (hm.pool 2 rfl) hr⟩) (by omega) h65).mono fun e w' ⟨a', cap', he, hb, hr⟩ => ⟨(a', cap'), trivial, he, hb, newOk1 3 hr⟩) rfl rfl rfl (w_n rfl) ?_
    rintro ⟨ar2, cr2⟩ -
    refine TL_q (.tuple #[.slice ar2 ((joinP (rls fl1)).length) cr2, .int .i64 0]) (fun _ _ hρ _ => r_move (hρ _ _ rfl)) rfl rfl rfl (w_n rfl) ?_
    refine TL_q (.slice ar2 ((joinP (rls fl1)).length) cr2) (fun _ _ hρ _ => r_extract (hρ _ _ rfl) rfl) rfl rfl rfl (w_n rfl) ?_
    refine TL_q (.int .i64 0) (fun _ _ hρ _ => r_extract (hρ _ _ rfl) rfl) rfl rfl rfl (w_n rfl) ?_
    refine TL_q (.slice ar2 ((joinP (rls fl1)).length) cr2) (fun _ _ hρ _ => r_assign (hρ _ _ rfl)) rfl rfl rfl (w_n rfl) ?_
    refine TL_q (.int .i64 0) (fun _ _ hρ _ => r_assign (hρ _ _ rfl)) rfl rfl rfl (w_n rfl) ?_
    refine TL_seq ?_
    refine T_seq ?_
    refine T_seq (T_region ?_)
    refine TL_q (.int .i64 0) (fun _ _ hρ _ => r_move (hρ _ _ rfl)) rfl rfl rfl (w_n rfl) ?_
    refine TL_q (.bool false) (fun _ _ hρ _ => r_as (r_neq (hρ _ _ rfl) (hρ _ _ rfl)) (by rfl)) rfl rfl rfl (w_n rfl) ?_
    refine TL_seq ?_
    refine T_cond_f rfl ?_
    refine T_skip' ?_
    refine p_seq ?_
    have h65r : ∀ q ∈ rls fl1, q.length ≤ 65536 := rls_all h65
    have hJ := joined h65r
    have hjl : (joinP (rls fl1)).length ≤ 400000 := by have := join_bound (rs := fl1) (k := fl1.length) (by rw [List.take_length]; exact h65); rw [List.take_length, show (rls fl1).take fl1.length = rls fl1 by rw [← List.map_take, List.take_length]] at this; omega
    refine T_rowcap 3 rfl (fun hrcj => ?_)
    refine T_seq (T_region ?_)
    refine TL_q (.slice ar2 ((joinP (rls fl1)).length) cr2) (fun _ _ hρ _ => r_move (hρ _ _ rfl)) rfl rfl rfl (w_n rfl) ?_
    refine TL_callN (fun ((na3, nc3, nl3) : Option Addr × Nat × List (RowG By)) => rls nl3 = heldsV (joinP (rls fl1))) (fun (na3, nc3, nl3) => .tuple #[.slice na3 nl3.length nc3, .int .i64 ((sizeV (joinP (rls fl1)) : Nat) : Int)]) (fun (na3, nc3, nl3) => [(4, .row (.slice na3 nl3.length nc3) 34 1 nl3.length (nl3.flatMap RowG.cells)), (5, .pool 5 1 byc nl3)]) (fun _ _ hρ _ => r_call (args := [.slice ar2 ((joinP (rls fl1)).length) cr2]) (enters_of Try.func46 (by kernel_rfl) rfl) (hρ _ _ rfl) ((cons2 (hρ _ _ rfl) rfl)) rfl) (fun w hm => (scan_c (joinP (rls fl1)) ar2 cr2 w (SliceAt.own byc_len (hm.row 3 rfl) rfl rfl) (row_cap (hm.row 3 rfl)) (by omega)).mono fun e w' ⟨n, hf, he, hb, r1, r2, hs⟩ => ⟨(n.a, n.cap, n.l), hf, he, hb, newOk2 4 5 r1 r2 hs⟩) rfl rfl rfl (w_n rfl) ?_
    rintro ⟨na3, nc3, nl3⟩ hsc3
    refine TL_q (.tuple #[.slice na3 nl3.length nc3, .int .i64 ((sizeV (joinP (rls fl1)) : Nat) : Int)]) (fun _ _ hρ _ => r_move (hρ _ _ rfl)) rfl rfl rfl (w_n rfl) ?_
    refine TL_q (.slice na3 nl3.length nc3) (fun _ _ hρ _ => r_extract (hρ _ _ rfl) rfl) rfl rfl rfl (w_n rfl) ?_
    refine TL_q (.int .i64 ((sizeV (joinP (rls fl1)) : Nat) : Int)) (fun _ _ hρ _ => r_extract (hρ _ _ rfl) rfl) rfl rfl rfl (w_n rfl) ?_
    refine TL_q (.slice na3 nl3.length nc3) (fun _ _ hρ _ => r_assign (hρ _ _ rfl)) rfl rfl rfl (w_n rfl) ?_
    refine TL_q (.int .i64 ((sizeV (joinP (rls fl1)) : Nat) : Int)) (fun _ _ hρ _ => r_assign (hρ _ _ rfl)) rfl rfl rfl (w_n rfl) ?_
    refine TL_seq ?_
    refine T_seq ?_
    refine T_seq (T_region ?_)
    refine TL_q (.slice na3 nl3.length nc3) (fun _ _ hρ _ => r_move (hρ _ _ rfl)) rfl rfl rfl (w_n rfl) ?_
    refine TL_q (.slice fa1 fl1.length fc1) (fun _ _ hρ _ => r_move (hρ _ _ rfl)) rfl rfl rfl (w_n rfl) ?_
    refine TL_call (.bool true) (fun _ _ hρ _ => r_call (args := [.slice na3 nl3.length nc3, .slice fa1 fl1.length fc1]) (enters_of Try.func45 (by kernel_rfl) rfl) (hρ _ _ rfl) ((cons2 (hρ _ _ rfl) (cons2 (hρ _ _ rfl) rfl))) rfl) (fun w hm => (same_c nl3 na3 nc3 fl1 fa1 fc1 w (SliceAt.own RowG.cells_len (hm.row 4 rfl) rfl rfl) (row_cap (hm.row 4 rfl)) (fun r hr => ⟨poolAt byc_len (hm.pool 5 rfl) hr, poolCap (hm.pool 5 rfl) hr⟩) (fun r hr => Nat.le_trans (rls_le hsc3 (held_le _) r hr) (by decide)) (SliceAt.own RowG.cells_len (hm.row 1 rfl) rfl rfl) (row_cap (hm.row 1 rfl)) (fun r hr => ⟨poolAt byc_len (hm.pool 2 rfl) hr, poolCap (hm.pool 2 rfl) hr⟩) (fun r hr => Nat.le_trans (hnb r hr) (by decide))).mono fun _ _ h => ⟨h.1.trans (congrArg Ending.returned (bool_as (decide_eq_true (hsc3.trans hJ.1)))), h.2⟩) rfl rfl rfl (w_n rfl) ?_
    refine TL_q (.bool false) (fun _ _ hρ _ => r_not (b := true) (hρ _ _ rfl)) rfl rfl rfl (w_n rfl) ?_
    refine TL_q (.bool false) (fun _ _ hρ _ => r_move (hρ _ _ rfl)) rfl rfl rfl (w_n rfl) ?_
    refine TL_q (.int .i64 ((sizeV (joinP (rls fl1)) : Nat) : Int)) (fun _ _ hρ _ => r_move (hρ _ _ rfl)) rfl rfl rfl (want_y 46 rfl rfl rfl) ?_
    refine TL_q (.slice ar2 ((joinP (rls fl1)).length) cr2) (fun _ _ hρ _ => r_move (hρ _ _ rfl)) rfl rfl rfl (want_y 46 rfl rfl rfl) ?_
    refine TL_q (.int .i64 (((joinP (rls fl1)).length : Nat) : Int)) (fun _ _ hρ _ => r_len sl34 (hρ _ _ rfl)) rfl rfl rfl (want_y 46 rfl rfl rfl) ?_
    refine TL_q (.bool false) (fun _ _ hρ _ => r_as (r_neq (hρ _ _ rfl) (hρ _ _ rfl)) (bool_as (by rw [decide_eq_true (by rw [hJ.2.1]; rfl)]; rfl))) rfl rfl rfl (want_y 46 rfl rfl rfl) ?_
    refine TL_q (.bool false) (fun _ _ hρ _ => r_pick_f (hρ _ _ rfl) (hρ _ _ rfl)) rfl rfl rfl (w_n rfl) ?_
    refine TL_seq ?_
    refine T_sub [(1, .int .i64 cut), (4, .bool false), (5, .slice fa1 fl1.length fc1), (6, .slice ar2 ((joinP (rls fl1)).length) cr2), (51, .bool false)] [(4, .row (.slice na3 nl3.length nc3) 34 1 nl3.length (nl3.flatMap RowG.cells)), (5, .pool 5 1 byc nl3), (3, .row (.slice ar2 ((joinP (rls fl1)).length) cr2) 5 1 ((joinP (rls fl1)).length) ((joinP (rls fl1)).flatMap byc)), (1, .row (.slice fa1 fl1.length fc1) 34 1 fl1.length (fl1.flatMap RowG.cells)), (2, .pool 5 1 byc fl1)] (sub_cons rfl (sub_cons rfl (sub_cons rfl (sub_cons rfl (sub_cons rfl sub_nil))))) (sub_cons rfl (sub_cons rfl (sub_cons rfl (sub_cons rfl (sub_cons rfl sub_nil))))) ?_
    refine T_cond_f rfl ?_
    refine T_skip' ?_
    refine p_seq ?_
    refine T_seq (T_region ?_)
    refine TL_q (.slice ar2 ((joinP (rls fl1)).length) cr2) (fun _ _ hρ _ => r_move (hρ _ _ rfl)) rfl rfl rfl (w_n rfl) ?_
    refine TL_q (.int .i64 cut) (fun _ _ hρ _ => r_move (hρ _ _ rfl)) rfl rfl rfl (w_n rfl) ?_
    refine TL_q (.int .u64 (IntKind.wrap .u64 cut)) (fun _ _ hρ _ => r_conv un3 io80 (hρ _ _ rfl)) rfl rfl rfl (w_n rfl) ?_
    refine TL_q (.slice ar2 ((joinP (rls fl1)).length) cr2) (fun _ _ hρ _ => r_move (hρ _ _ rfl)) rfl rfl rfl (w_n rfl) ?_
    refine TL_q (.int .i64 (((joinP (rls fl1)).length : Nat) : Int)) (fun _ _ hρ _ => r_len sl34 (hρ _ _ rfl)) rfl rfl rfl (w_n rfl) ?_
    refine TL_q (.int .i64 ((((joinP (rls fl1)).length) + 1 : Nat) : Int)) (fun _ _ hρ _ => r_as (r_add (hρ _ _ rfl) (hρ _ _ rfl)) (int_as ((wrap64 (by omega) (by omega)).trans (by omega)))) rfl rfl rfl (w_n rfl) ?_
    refine TL_q (.int .u64 ((((joinP (rls fl1)).length) + 1 : Nat) : Int)) (fun _ _ hρ _ => r_as (r_conv un3 io80 (hρ _ _ rfl)) (int_as (wrap_u64 (by omega) (by omega)))) rfl rfl rfl (w_n rfl) ?_
    obtain ⟨c9, hc9, hc8⟩ := rest_of cut ((joinP (rls fl1)).length)
    refine TL_q (.int .u64 ((c9 : Nat) : Int)) (fun _ _ hρ _ => r_as (r_rem (hρ _ _ rfl) (hρ _ _ rfl) (by omega)) (int_as hc8)) rfl rfl rfl (w_n rfl) ?_
    refine TL_q (.int .i64 ((c9 : Nat) : Int)) (fun _ _ hρ _ => r_as (r_conv un80 io3 (hρ _ _ rfl)) (int_as (wrap64 (by omega) (by omega)))) rfl rfl rfl (w_n rfl) ?_
    obtain ⟨l4, hl4, hn4⟩ : ∃ lz, lz = (joinP (rls fl1)).take c9 ∧ lz.length = c9 := ⟨_, rfl, by rw [List.length_take]; omega⟩
    refine TL_q (.slice ar2 l4.length cr2) (fun ρ _ hρ _ => r_as (r_sliceO sl34 sz5 (hρ _ _ rfl) (bd_none ρ _) (bd_some (n := c9) (hρ _ _ rfl)) (bd_none ρ _) (by simp) (by omega) (by omega) (by omega)) (by rw [hn4]; exact slo_zero _ _ _ _)) rfl rfl rfl (w_n rfl) ?_
    refine TL_q (.slice ar2 l4.length cr2) (fun _ _ hρ _ => r_assign (hρ _ _ rfl)) rfl rfl rfl (w_n rfl) ?_
    refine TL_seq ?_
    refine T_seq (T_region ?_)
    refine TL_q (.int .i64 0) (fun _ _ hρ _ => r_assign (hρ _ _ rfl)) rfl rfl rfl (w_n rfl) ?_
    refine TL_q (.int .i64 0) (fun _ _ hρ _ => r_assign (hρ _ _ rfl)) rfl rfl rfl (w_n rfl) ?_
    refine TL_seq ?_
    refine T_seq ?_
    refine T_seq (T_region ?_)
    refine TL_q (.slice fa1 fl1.length fc1) (fun _ _ hρ _ => r_move (hρ _ _ rfl)) rfl rfl rfl (w_n rfl) ?_
    refine TL_q (.int .i64 ((fl1.length : Nat) : Int)) (fun _ _ hρ _ => r_len sl63 (hρ _ _ rfl)) rfl rfl rfl (w_n rfl) ?_
    refine TL_q (.int .i64 0) (fun _ _ hρ _ => r_move (hρ _ _ rfl)) rfl rfl rfl (w_n rfl) ?_
    refine TL_seq ?_
    refine T_block ?_
    refine T_loop (ι := Nat) (fun (k : Nat) => k ≤ fl1.length ∧ joinL ((rls fl1).take k) ≤ c9) (fun (k : Nat) => [(4, .bool false), (5, .slice fa1 fl1.length fc1), (10, .slice ar2 l4.length cr2), (62, .slice fa1 fl1.length fc1), (63, .int .i64 ((fl1.length : Nat) : Int)), (64, .int .i64 ((k : Nat) : Int)), (11, .int .i64 ((k : Nat) : Int)), (12, .int .i64 ((joinL ((rls fl1).take k) : Nat) : Int))]) (fun (k : Nat) => [(4, .row (.slice na3 nl3.length nc3) 34 1 nl3.length (nl3.flatMap RowG.cells)), (5, .pool 5 1 byc nl3), (3, .row (.slice ar2 ((joinP (rls fl1)).length) cr2) 5 1 ((joinP (rls fl1)).length) ((joinP (rls fl1)).flatMap byc)), (1, .row (.slice fa1 fl1.length fc1) 34 1 fl1.length (fl1.flatMap RowG.cells)), (2, .pool 5 1 byc fl1)]) (fun (k : Nat) => fl1.length - k) 0 ⟨Nat.zero_le _, Nat.zero_le _⟩ (sub_cons rfl (sub_cons rfl (sub_cons rfl (sub_cons rfl (sub_cons rfl (sub_cons rfl (sub_cons rfl (sub_cons rfl sub_nil)))))))) (sub_cons rfl (sub_cons rfl (sub_cons rfl (sub_cons rfl (sub_cons rfl sub_nil))))) ?_
    rintro k hp
    obtain ⟨hk, hjk⟩ := hp
    show T _ _ _ [(4, .bool false), (5, .slice fa1 fl1.length fc1), (10, .slice ar2 l4.length cr2), (62, .slice fa1 fl1.length fc1), (63, .int .i64 ((fl1.length : Nat) : Int)), (64, .int .i64 ((k : Nat) : Int)), (11, .int .i64 ((k : Nat) : Int)), (12, .int .i64 ((joinL ((rls fl1).take k) : Nat) : Int))] [(4, .row (.slice na3 nl3.length nc3) 34 1 nl3.length (nl3.flatMap RowG.cells)), (5, .pool 5 1 byc nl3), (3, .row (.slice ar2 ((joinP (rls fl1)).length) cr2) 5 1 ((joinP (rls fl1)).length) ((joinP (rls fl1)).flatMap byc)), (1, .row (.slice fa1 fl1.length fc1) 34 1 fl1.length (fl1.flatMap RowG.cells)), (2, .pool 5 1 byc fl1)]
    refine T_seq (T_region ?_)
    refine TL_q (.bool (decide (((k : Nat) : Int) < ((fl1.length : Nat) : Int)))) (fun _ _ hρ _ => r_lss (hρ _ _ rfl) (hρ _ _ rfl)) rfl rfl rfl (w_n rfl) ?_
    refine TL_seq ?_
    refine T_seq ?_
    refine T_cond rfl (fun h1 => ?_) (fun h1 => ?_)
    · replace h1 := of_decide_eq_true h1
      refine T_skip' ?_
      refine p_seq ?_
      refine T_seq ?_
      refine T_block ?_
      obtain ⟨p, hp9⟩ : ∃ x, fl1[k]? = some x := ⟨_, List.getElem?_eq_getElem (by omega)⟩
      have hpr : (rls fl1)[k]? = some p.l := by rw [List.getElem?_map, hp9]; rfl
      have hpb := hnb p (List.mem_of_getElem? hp9)
      refine T_row 1 rfl (by omega) (fun g5 ha5 => ?_)
      subst ha5
      refine T_rowcap 1 rfl (fun hrc5 => ?_)
      refine T_seq (T_region ?_)
      refine TL_q (.pointer (some ⟨g5, 0 + k * 1, none⟩)) (fun _ _ hρ _ => r_indexAddrS (i := k) sl63 sz34 (hρ _ _ rfl) (hρ _ _ rfl) (by omega)) rfl rfl rfl (w_n rfl) ?_
      refine TL_q (.slice p.a p.l.length p.cap) (fun _ _ hρ hm => r_loadOwn1 (f := RowG.cells) (u := p) (l := fl1) ag34 (hρ _ _ rfl) (hm.row 1 rfl) rfl rfl RowG.cells_len hp9 rfl) rfl rfl rfl (w_n rfl) ?_
      refine TL_q (.slice p.a p.l.length p.cap) (fun _ _ hρ _ => r_assign (hρ _ _ rfl)) rfl rfl rfl (w_n rfl) ?_
      refine TL_seq ?_
      refine T_seq (T_region ?_)
      refine TL_q (.int .i64 ((joinL ((rls fl1).take k) : Nat) : Int)) (fun _ _ hρ _ => r_move (hρ _ _ rfl)) rfl rfl rfl (w_n rfl) ?_
      refine TL_q (.slice p.a p.l.length p.cap) (fun _ _ hρ _ => r_move (hρ _ _ rfl)) rfl rfl rfl (w_n rfl) ?_
      refine TL_q (.int .i64 ((p.l.length : Nat) : Int)) (fun _ _ hρ _ => r_len sl34 (hρ _ _ rfl)) rfl rfl rfl (w_n rfl) ?_
      refine TL_q (.int .i64 (((joinL ((rls fl1).take k)) + p.l.length : Nat) : Int)) (fun _ _ hρ _ => r_as (r_add (hρ _ _ rfl) (hρ _ _ rfl)) (int_as ((wrap64 (by omega) (by omega)).trans (by omega)))) rfl rfl rfl (w_n rfl) ?_
      refine TL_q (.int .i64 ((((joinL ((rls fl1).take k)) + p.l.length) + 8 : Nat) : Int)) (fun _ _ hρ _ => r_as (r_add (hρ _ _ rfl) (hρ _ _ rfl)) (int_as ((wrap64 (by omega) (by omega)).trans (by omega)))) rfl rfl rfl (w_n rfl) ?_
      refine TL_q (.slice ar2 l4.length cr2) (fun _ _ hρ _ => r_move (hρ _ _ rfl)) rfl rfl rfl (w_n rfl) ?_
      refine TL_q (.int .i64 ((l4.length : Nat) : Int)) (fun _ _ hρ _ => r_len sl34 (hρ _ _ rfl)) rfl rfl rfl (w_n rfl) ?_
      refine TL_q (.bool (decide (((((joinL ((rls fl1).take k)) + p.l.length) + 8 : Nat) : Int) ≤ ((l4.length : Nat) : Int)))) (fun _ _ hρ _ => r_leq (hρ _ _ rfl) (hρ _ _ rfl)) rfl rfl rfl (w_n rfl) ?_
      refine TL_seq ?_
      refine T_cond rfl (fun h2 => ?_) (fun h2 => ?_)
      · replace h2 := of_decide_eq_true h2
        refine T_seq (T_region ?_)
        refine TL_q (.int .i64 ((joinL ((rls fl1).take k) : Nat) : Int)) (fun _ _ hρ _ => r_move (hρ _ _ rfl)) rfl rfl rfl (w_n rfl) ?_
        refine TL_q (.slice p.a p.l.length p.cap) (fun _ _ hρ _ => r_move (hρ _ _ rfl)) rfl rfl rfl (w_n rfl) ?_
        refine TL_q (.int .i64 ((p.l.length : Nat) : Int)) (fun _ _ hρ _ => r_len sl34 (hρ _ _ rfl)) rfl rfl rfl (w_n rfl) ?_
        refine TL_q (.int .i64 ((p.l.length + 8 : Nat) : Int)) (fun _ _ hρ _ => r_as (r_add (hρ _ _ rfl) (hρ _ _ rfl)) (int_as ((wrap64 (by omega) (by omega)).trans (by omega)))) rfl rfl rfl (w_n rfl) ?_
        refine TL_q (.int .i64 (((joinL ((rls fl1).take k)) + (p.l.length + 8) : Nat) : Int)) (fun _ _ hρ _ => r_as (r_add (hρ _ _ rfl) (hρ _ _ rfl)) (int_as ((wrap64 (by omega) (by omega)).trans (by omega)))) rfl rfl rfl (w_n rfl) ?_
        refine TL_q (.int .i64 (((joinL ((rls fl1).take k)) + (p.l.length + 8) : Nat) : Int)) (fun _ _ hρ _ => r_assign (hρ _ _ rfl)) rfl rfl rfl (w_n rfl) ?_
        refine TL_seq ?_
        refine T_region ?_
        refine TL_q (.int .i64 ((k : Nat) : Int)) (fun _ _ hρ _ => r_move (hρ _ _ rfl)) rfl rfl rfl (w_n rfl) ?_
        refine TL_q (.int .i64 ((k + 1 : Nat) : Int)) (fun _ _ hρ _ => r_as (r_add (hρ _ _ rfl) (hρ _ _ rfl)) (int_as ((wrap64 (by omega) (by omega)).trans (by omega)))) rfl rfl rfl (w_n rfl) ?_
        refine TL_q (.int .i64 ((k + 1 : Nat) : Int)) (fun _ _ hρ _ => r_assign (hρ _ _ rfl)) rfl rfl rfl (w_n rfl) ?_
        refine TL_nil ?_
        refine p_blk_n ?_
        refine p_seq ?_
        refine T_region ?_
        refine TL_q (.int .i64 ((k + 1 : Nat) : Int)) (fun _ _ hρ _ => r_as (r_add (hρ _ _ rfl) (hρ _ _ rfl)) (int_as ((wrap64 (by omega) (by omega)).trans (by omega)))) rfl rfl rfl (w_n rfl) ?_
        refine TL_q (.int .i64 ((k + 1 : Nat) : Int)) (fun _ _ hρ _ => r_move (hρ _ _ rfl)) rfl rfl rfl (w_n rfl) ?_
        refine TL_nil ?_
        have hjs := joinL_step hpr
        rw [← hjs]
        exact p_at (k + 1) ⟨⟨by omega, by omega⟩, by omega⟩ (sub_cons rfl (sub_cons rfl (sub_cons rfl (sub_cons rfl (sub_cons rfl (sub_cons rfl (sub_cons rfl (sub_cons rfl sub_nil)))))))) (sub_cons rfl (sub_cons rfl (sub_cons rfl (sub_cons rfl (sub_cons rfl sub_nil)))))
      · replace h2 := of_decide_eq_false h2
        refine T_exit' ?_
        refine p_blk_o rfl ?_
        refine p_then_x ?_
        refine p_then_x ?_
        refine p_blk_x ?_
        refine p_seq ?_
        have hmany : manyJ (rls fl1) c9 = k := many_is _ _ _ (by rw [rls_len]; omega) hjk (fun q hq => by first | (rw [hpr] at hq; cases hq; omega) | (have := (List.getElem?_eq_some_iff.1 hq).1; rw [rls_len] at this; omega))
        have hT := torn (rows := rls fl1) (c := c9) h65r (show c9 ≤ joinL (rls fl1) from hc9)
        rw [hmany, ← hl4] at hT
        refine T_seq (T_region ?_)
        refine TL_q (.slice ar2 l4.length cr2) (fun _ _ hρ _ => r_move (hρ _ _ rfl)) rfl rfl rfl (w_n rfl) ?_
        refine TL_callN (fun ((na6, nc6, nl6) : Option Addr × Nat × List (RowG By)) => rls nl6 = heldsV l4) (fun (na6, nc6, nl6) => .tuple #[.slice na6 nl6.length nc6, .int .i64 ((sizeV l4 : Nat) : Int)]) (fun (na6, nc6, nl6) => [(6, .row (.slice na6 nl6.length nc6) 34 1 nl6.length (nl6.flatMap RowG.cells)), (7, .pool 5 1 byc nl6)]) (fun _ _ hρ _ => r_call (args := [.slice ar2 l4.length cr2]) (enters_of Try.func46 (by kernel_rfl) rfl) (hρ _ _ rfl) ((cons2 (hρ _ _ rfl) rfl)) rfl) (fun w hm => (scan_c l4 ar2 cr2 w (by have hs := SliceAt.front (l := (joinP (rls fl1))) (SliceAt.own byc_len (hm.row 3 rfl) rfl rfl) (n := c9) (m := cr2) (by omega) (by omega) (by omega); rw [← hl4] at hs; exact hs) (row_cap (hm.row 3 rfl)) (by omega)).mono fun e w' ⟨n, hf, he, hb, r1, r2, hs⟩ => ⟨(n.a, n.cap, n.l), hf, he, hb, newOk2 6 7 r1 r2 hs⟩) rfl rfl rfl (w_n rfl) ?_
        rintro ⟨na6, nc6, nl6⟩ hsc6
        refine TL_q (.tuple #[.slice na6 nl6.length nc6, .int .i64 ((sizeV l4 : Nat) : Int)]) (fun _ _ hρ _ => r_move (hρ _ _ rfl)) rfl rfl rfl (w_n rfl) ?_
        refine TL_q (.slice na6 nl6.length nc6) (fun _ _ hρ _ => r_extract (hρ _ _ rfl) rfl) rfl rfl rfl (w_n rfl) ?_
        refine TL_q (.int .i64 ((sizeV l4 : Nat) : Int)) (fun _ _ hρ _ => r_extract (hρ _ _ rfl) rfl) rfl rfl rfl (w_n rfl) ?_
        refine TL_q (.slice na6 nl6.length nc6) (fun _ _ hρ _ => r_assign (hρ _ _ rfl)) rfl rfl rfl (w_n rfl) ?_
        refine TL_q (.int .i64 ((sizeV l4 : Nat) : Int)) (fun _ _ hρ _ => r_assign (hρ _ _ rfl)) rfl rfl rfl (w_n rfl) ?_
        refine TL_seq ?_
        refine T_seq (T_region ?_)
        refine TL_q (.slice ar2 l4.length cr2) (fun _ _ hρ _ => r_move (hρ _ _ rfl)) rfl rfl rfl (w_n rfl) ?_
        refine TL_call (.tuple #[.int .i64 ((sizeV l4 : Nat) : Int), .int .i64 (whyE l4)]) (fun _ _ hρ _ => r_call (args := [.slice ar2 l4.length cr2]) (enters_of Try.func47 (by kernel_rfl) rfl) (hρ _ _ rfl) ((cons2 (hρ _ _ rfl) rfl)) rfl) (fun w hm => why_c l4 ar2 cr2 w (by have hs := SliceAt.front (l := (joinP (rls fl1))) (SliceAt.own byc_len (hm.row 3 rfl) rfl rfl) (n := c9) (m := cr2) (by omega) (by omega) (by omega); rw [← hl4] at hs; exact hs) (row_cap (hm.row 3 rfl)) (by omega)) rfl rfl rfl (w_n rfl) ?_
        refine TL_q (.tuple #[.int .i64 ((sizeV l4 : Nat) : Int), .int .i64 (whyE l4)]) (fun _ _ hρ _ => r_move (hρ _ _ rfl)) rfl rfl rfl (w_n rfl) ?_
        refine TL_q (.int .i64 ((sizeV l4 : Nat) : Int)) (fun _ _ hρ _ => r_extract (hρ _ _ rfl) rfl) rfl rfl rfl (w_n rfl) ?_
        refine TL_q (.int .i64 (whyE l4)) (fun _ _ hρ _ => r_extract (hρ _ _ rfl) rfl) rfl rfl rfl (w_n rfl) ?_
        refine TL_q (.int .i64 ((sizeV l4 : Nat) : Int)) (fun _ _ hρ _ => r_assign (hρ _ _ rfl)) rfl rfl rfl (w_n rfl) ?_
        refine TL_q (.int .i64 (whyE l4)) (fun _ _ hρ _ => r_assign (hρ _ _ rfl)) rfl rfl rfl (w_n rfl) ?_
        refine TL_seq ?_
        by_cases hjc : joinL ((rls fl1).take k) = c9
        · skip
          refine T_seq (T_region ?_)
          refine TL_q (.slice na6 nl6.length nc6) (fun _ _ hρ _ => r_move (hρ _ _ rfl)) rfl rfl rfl (w_n rfl) ?_
          refine TL_q (.slice (some ⟨g5, 0, none⟩) fl1.length fc1) (fun _ _ hρ _ => r_move (hρ _ _ rfl)) rfl rfl rfl (w_n rfl) ?_
          refine TL_q (.int .i64 ((k : Nat) : Int)) (fun _ _ hρ _ => r_move (hρ _ _ rfl)) rfl rfl rfl (w_n rfl) ?_
          obtain ⟨l7, hl7, hn7⟩ : ∃ lz, lz = fl1.take k ∧ lz.length = k := ⟨_, rfl, by rw [List.length_take]; omega⟩
          refine TL_q (.slice (some ⟨g5, 0, none⟩) l7.length fc1) (fun ρ _ hρ _ => r_as (r_sliceO sl63 sz34 (hρ _ _ rfl) (bd_none ρ _) (bd_some (n := k) (hρ _ _ rfl)) (bd_none ρ _) (by simp) (by omega) (by omega) (by omega)) (by rw [hn7]; exact slo_zero _ _ _ _)) rfl rfl rfl (w_n rfl) ?_
          refine TL_call (.bool true) (fun _ _ hρ _ => r_call (args := [.slice na6 nl6.length nc6, .slice (some ⟨g5, 0, none⟩) l7.length fc1]) (enters_of Try.func45 (by kernel_rfl) rfl) (hρ _ _ rfl) ((cons2 (hρ _ _ rfl) (cons2 (hρ _ _ rfl) rfl))) rfl) (fun w hm => (same_c nl6 na6 nc6 l7 (some ⟨g5, 0, none⟩) fc1 w (SliceAt.own RowG.cells_len (hm.row 6 rfl) rfl rfl) (row_cap (hm.row 6 rfl)) (fun r hr => ⟨poolAt byc_len (hm.pool 7 rfl) hr, poolCap (hm.pool 7 rfl) hr⟩) (fun r hr => Nat.le_trans (rls_le hsc6 (held_le _) r hr) (by decide)) (by have hs := SliceAt.front (l := fl1) (SliceAt.own RowG.cells_len (hm.row 1 rfl) rfl rfl) (n := k) (m := fc1) (by omega) (by omega) (by omega); rw [← hl7] at hs; exact hs) (row_cap (hm.row 1 rfl)) (fun r hr => ⟨poolAt byc_len (hm.pool 2 rfl) (List.mem_of_mem_take (hl7 ▸ hr)), poolCap (hm.pool 2 rfl) (List.mem_of_mem_take (hl7 ▸ hr))⟩) (fun r hr => Nat.le_trans (hnb r (List.mem_of_mem_take (hl7 ▸ hr))) (by decide))).mono fun _ _ h => ⟨h.1.trans (congrArg Ending.returned (bool_as (decide_eq_true (hsc6.trans (hT.1.trans (by rw [hl7]; exact rls_take _ _)))))), h.2⟩) rfl rfl rfl (w_n rfl) ?_
          refine TL_q (.bool true) (fun _ _ hρ _ => r_move (hρ _ _ rfl)) rfl rfl rfl (w_n rfl) ?_
          refine TL_q (.int .i64 ((sizeV l4 : Nat) : Int)) (fun _ _ hρ _ => r_move (hρ _ _ rfl)) rfl rfl rfl (want_y 99 rfl rfl rfl) ?_
          refine TL_q (.int .i64 ((joinL ((rls fl1).take k) : Nat) : Int)) (fun _ _ hρ _ => r_move (hρ _ _ rfl)) rfl rfl rfl (want_y 99 rfl rfl rfl) ?_
          refine TL_q (.bool true) (fun _ _ hρ _ => r_as (r_eql (hρ _ _ rfl) (hρ _ _ rfl)) (bool_as (decide_eq_true (by rw [hT.2.1])))) rfl rfl rfl (want_y 99 rfl rfl rfl) ?_
          refine TL_q (.bool true) (fun _ _ hρ _ => r_pick_t (hρ _ _ rfl) (hρ _ _ rfl)) rfl rfl rfl (w_n rfl) ?_
          refine TL_q (.bool true) (fun _ _ hρ _ => r_move (hρ _ _ rfl)) rfl rfl rfl (w_n rfl) ?_
          refine TL_q (.int .i64 ((sizeV l4 : Nat) : Int)) (fun _ _ hρ _ => r_move (hρ _ _ rfl)) rfl rfl rfl (want_y 104 rfl rfl rfl) ?_
          refine TL_q (.int .i64 ((joinL ((rls fl1).take k) : Nat) : Int)) (fun _ _ hρ _ => r_move (hρ _ _ rfl)) rfl rfl rfl (want_y 104 rfl rfl rfl) ?_
          refine TL_q (.bool true) (fun _ _ hρ _ => r_as (r_eql (hρ _ _ rfl) (hρ _ _ rfl)) (bool_as (decide_eq_true (by rw [hT.2.1])))) rfl rfl rfl (want_y 104 rfl rfl rfl) ?_
          refine TL_q (.bool true) (fun _ _ hρ _ => r_pick_t (hρ _ _ rfl) (hρ _ _ rfl)) rfl rfl rfl (w_n rfl) ?_
          refine TL_q (.bool true) (fun _ _ hρ _ => r_move (hρ _ _ rfl)) rfl rfl rfl (w_n rfl) ?_
          refine TL_q (.int .i64 (whyE l4)) (fun _ _ hρ _ => r_move (hρ _ _ rfl)) rfl rfl rfl (want_y 109 rfl rfl rfl) ?_
          refine TL_q (.bool true) (fun _ _ hρ _ => r_as (r_eql (hρ _ _ rfl) (hρ _ _ rfl)) (bool_as (decide_eq_true (hT.2.2.1.2 hjc)))) rfl rfl rfl (want_y 109 rfl rfl rfl) ?_
          refine TL_q (.int .i64 ((joinL ((rls fl1).take k) : Nat) : Int)) (fun _ _ hρ _ => r_move (hρ _ _ rfl)) rfl rfl rfl (want_y 109 rfl rfl rfl) ?_
          refine TL_q (.slice ar2 l4.length cr2) (fun _ _ hρ _ => r_move (hρ _ _ rfl)) rfl rfl rfl (want_y 109 rfl rfl rfl) ?_
          refine TL_q (.int .i64 ((l4.length : Nat) : Int)) (fun _ _ hρ _ => r_len sl34 (hρ _ _ rfl)) rfl rfl rfl (want_y 109 rfl rfl rfl) ?_
          refine TL_q (.bool true) (fun _ _ hρ _ => r_as (r_eql (hρ _ _ rfl) (hρ _ _ rfl)) (bool_as (decide_eq_true (by omega)))) rfl rfl rfl (want_y 109 rfl rfl rfl) ?_
          refine TL_q (.bool true) (fun _ _ hρ _ => r_as (r_eqlB (by kernel_rfl) (hρ _ _ rfl) (hρ _ _ rfl)) (by rfl)) rfl rfl rfl (want_y 109 rfl rfl rfl) ?_
          refine TL_q (.bool true) (fun _ _ hρ _ => r_pick_t (hρ _ _ rfl) (hρ _ _ rfl)) rfl rfl rfl (w_n rfl) ?_
          refine TL_q (.bool true) (fun _ _ hρ _ => r_move (hρ _ _ rfl)) rfl rfl rfl (w_n rfl) ?_
          refine TL_q (.int .i64 (whyE l4)) (fun _ _ hρ _ => r_move (hρ _ _ rfl)) rfl rfl rfl (want_y 118 rfl rfl rfl) ?_
          refine TL_q (.bool true) (fun _ _ hρ _ => r_as (r_eql (hρ _ _ rfl) (hρ _ _ rfl)) (bool_as (decide_eq_true (hT.2.2.1.2 hjc)))) rfl rfl rfl (want_y 118 rfl rfl rfl) ?_
          refine TL_q (.bool true) (fun _ _ hρ _ => r_move (hρ _ _ rfl)) rfl rfl rfl (want_y 118 rfl rfl rfl) ?_
          refine TL_no rfl rfl (want_n 121 rfl rfl rfl) ?_
          refine TL_no rfl rfl (want_n 121 rfl rfl rfl) ?_
          refine TL_q (.bool true) (fun _ _ hρ _ => r_pick_t (hρ _ _ rfl) (hρ _ _ rfl)) rfl rfl rfl (want_y 118 rfl rfl rfl) ?_
          refine TL_q (.bool true) (fun _ _ hρ _ => r_pick_t (hρ _ _ rfl) (hρ _ _ rfl)) rfl rfl rfl (w_n rfl) ?_
          refine TL_q (.bool true) (fun _ _ hρ _ => r_assign (hρ _ _ rfl)) rfl rfl rfl (w_n rfl) ?_
          refine TL_seq ?_
          refine T_sub [(4, .bool true)] [(6, .row (.slice na6 nl6.length nc6) 34 1 nl6.length (nl6.flatMap RowG.cells)), (7, .pool 5 1 byc nl6), (4, .row (.slice na3 nl3.length nc3) 34 1 nl3.length (nl3.flatMap RowG.cells)), (5, .pool 5 1 byc nl3), (3, .row (.slice ar2 ((joinP (rls fl1)).length) cr2) 5 1 ((joinP (rls fl1)).length) ((joinP (rls fl1)).flatMap byc)), (1, .row (.slice (some ⟨g5, 0, none⟩) fl1.length fc1) 34 1 fl1.length (fl1.flatMap RowG.cells)), (2, .pool 5 1 byc fl1)] (sub_cons rfl sub_nil) (sub_cons rfl (sub_cons rfl (sub_cons rfl (sub_cons rfl (sub_cons rfl (sub_cons rfl (sub_cons rfl sub_nil))))))) ?_
          refine T_ret' ?_
          refine ret_of rfl (.bool true) (fun tmps w hk hm => res1 rfl (res_tmp (hk 4 _ rfl))) (fun w hm => ?_)
          exact ⟨rfl, hm.ext⟩
        · skip
          refine T_seq (T_region ?_)
          refine TL_q (.slice na6 nl6.length nc6) (fun _ _ hρ _ => r_move (hρ _ _ rfl)) rfl rfl rfl (w_n rfl) ?_
          refine TL_q (.slice (some ⟨g5, 0, none⟩) fl1.length fc1) (fun _ _ hρ _ => r_move (hρ _ _ rfl)) rfl rfl rfl (w_n rfl) ?_
          refine TL_q (.int .i64 ((k : Nat) : Int)) (fun _ _ hρ _ => r_move (hρ _ _ rfl)) rfl rfl rfl (w_n rfl) ?_
          obtain ⟨l8, hl8, hn8⟩ : ∃ lz, lz = fl1.take k ∧ lz.length = k := ⟨_, rfl, by rw [List.length_take]; omega⟩
          refine TL_q (.slice (some ⟨g5, 0, none⟩) l8.length fc1) (fun ρ _ hρ _ => r_as (r_sliceO sl63 sz34 (hρ _ _ rfl) (bd_none ρ _) (bd_some (n := k) (hρ _ _ rfl)) (bd_none ρ _) (by simp) (by omega) (by omega) (by omega)) (by rw [hn8]; exact slo_zero _ _ _ _)) rfl rfl rfl (w_n rfl) ?_
          refine TL_call (.bool true) (fun _ _ hρ _ => r_call (args := [.slice na6 nl6.length nc6, .slice (some ⟨g5, 0, none⟩) l8.length fc1]) (enters_of Try.func45 (by kernel_rfl) rfl) (hρ _ _ rfl) ((cons2 (hρ _ _ rfl) (cons2 (hρ _ _ rfl) rfl))) rfl) (fun w hm => (same_c nl6 na6 nc6 l8 (some ⟨g5, 0, none⟩) fc1 w (SliceAt.own RowG.cells_len (hm.row 6 rfl) rfl rfl) (row_cap (hm.row 6 rfl)) (fun r hr => ⟨poolAt byc_len (hm.pool 7 rfl) hr, poolCap (hm.pool 7 rfl) hr⟩) (fun r hr => Nat.le_trans (rls_le hsc6 (held_le _) r hr) (by decide)) (by have hs := SliceAt.front (l := fl1) (SliceAt.own RowG.cells_len (hm.row 1 rfl) rfl rfl) (n := k) (m := fc1) (by omega) (by omega) (by omega); rw [← hl8] at hs; exact hs) (row_cap (hm.row 1 rfl)) (fun r hr => ⟨poolAt byc_len (hm.pool 2 rfl) (List.mem_of_mem_take (hl8 ▸ hr)), poolCap (hm.pool 2 rfl) (List.mem_of_mem_take (hl8 ▸ hr))⟩) (fun r hr => Nat.le_trans (hnb r (List.mem_of_mem_take (hl8 ▸ hr))) (by decide))).mono fun _ _ h => ⟨h.1.trans (congrArg Ending.returned (bool_as (decide_eq_true (hsc6.trans (hT.1.trans (by rw [hl8]; exact rls_take _ _)))))), h.2⟩) rfl rfl rfl (w_n rfl) ?_
          refine TL_q (.bool true) (fun _ _ hρ _ => r_move (hρ _ _ rfl)) rfl rfl rfl (w_n rfl) ?_
          refine TL_q (.int .i64 ((sizeV l4 : Nat) : Int)) (fun _ _ hρ _ => r_move (hρ _ _ rfl)) rfl rfl rfl (want_y 99 rfl rfl rfl) ?_
          refine TL_q (.int .i64 ((joinL ((rls fl1).take k) : Nat) : Int)) (fun _ _ hρ _ => r_move (hρ _ _ rfl)) rfl rfl rfl (want_y 99 rfl rfl rfl) ?_
          refine TL_q (.bool true) (fun _ _ hρ _ => r_as (r_eql (hρ _ _ rfl) (hρ _ _ rfl)) (bool_as (decide_eq_true (by rw [hT.2.1])))) rfl rfl rfl (want_y 99 rfl rfl rfl) ?_
          refine TL_q (.bool true) (fun _ _ hρ _ => r_pick_t (hρ _ _ rfl) (hρ _ _ rfl)) rfl rfl rfl (w_n rfl) ?_
          refine TL_q (.bool true) (fun _ _ hρ _ => r_move (hρ _ _ rfl)) rfl rfl rfl (w_n rfl) ?_
          refine TL_q (.int .i64 ((sizeV l4 : Nat) : Int)) (fun _ _ hρ _ => r_move (hρ _ _ rfl)) rfl rfl rfl (want_y 104 rfl rfl rfl) ?_
          refine TL_q (.int .i64 ((joinL ((rls fl1).take k) : Nat) : Int)) (fun _ _ hρ _ => r_move (hρ _ _ rfl)) rfl rfl rfl (want_y 104 rfl rfl rfl) ?_
          refine TL_q (.bool true) (fun _ _ hρ _ => r_as (r_eql (hρ _ _ rfl) (hρ _ _ rfl)) (bool_as (decide_eq_true (by rw [hT.2.1])))) rfl rfl rfl (want_y 104 rfl rfl rfl) ?_
          refine TL_q (.bool true) (fun _ _ hρ _ => r_pick_t (hρ _ _ rfl) (hρ _ _ rfl)) rfl rfl rfl (w_n rfl) ?_
          refine TL_q (.bool true) (fun _ _ hρ _ => r_move (hρ _ _ rfl)) rfl rfl rfl (w_n rfl) ?_
          refine TL_q (.int .i64 (whyE l4)) (fun _ _ hρ _ => r_move (hρ _ _ rfl)) rfl rfl rfl (want_y 109 rfl rfl rfl) ?_
          refine TL_q (.bool false) (fun _ _ hρ _ => r_as (r_eql (hρ _ _ rfl) (hρ _ _ rfl)) (bool_as (decide_eq_false (fun e => hjc (hT.2.2.1.1 e))))) rfl rfl rfl (want_y 109 rfl rfl rfl) ?_
          refine TL_q (.int .i64 ((joinL ((rls fl1).take k) : Nat) : Int)) (fun _ _ hρ _ => r_move (hρ _ _ rfl)) rfl rfl rfl (want_y 109 rfl rfl rfl) ?_
          refine TL_q (.slice ar2 l4.length cr2) (fun _ _ hρ _ => r_move (hρ _ _ rfl)) rfl rfl rfl (want_y 109 rfl rfl rfl) ?_
          refine TL_q (.int .i64 ((l4.length : Nat) : Int)) (fun _ _ hρ _ => r_len sl34 (hρ _ _ rfl)) rfl rfl rfl (want_y 109 rfl rfl rfl) ?_
          refine TL_q (.bool false) (fun _ _ hρ _ => r_as (r_eql (hρ _ _ rfl) (hρ _ _ rfl)) (bool_as (decide_eq_false (by omega)))) rfl rfl rfl (want_y 109 rfl rfl rfl) ?_
          refine TL_q (.bool true) (fun _ _ hρ _ => r_as (r_eqlB (by kernel_rfl) (hρ _ _ rfl) (hρ _ _ rfl)) (by rfl)) rfl rfl rfl (want_y 109 rfl rfl rfl) ?_
          refine TL_q (.bool true) (fun _ _ hρ _ => r_pick_t (hρ _ _ rfl) (hρ _ _ rfl)) rfl rfl rfl (w_n rfl) ?_
          refine TL_q (.bool true) (fun _ _ hρ _ => r_move (hρ _ _ rfl)) rfl rfl rfl (w_n rfl) ?_
          refine TL_q (.int .i64 (whyE l4)) (fun _ _ hρ _ => r_move (hρ _ _ rfl)) rfl rfl rfl (want_y 118 rfl rfl rfl) ?_
          refine TL_q (.bool false) (fun _ _ hρ _ => r_as (r_eql (hρ _ _ rfl) (hρ _ _ rfl)) (bool_as (decide_eq_false (fun e => hjc (hT.2.2.1.1 e))))) rfl rfl rfl (want_y 118 rfl rfl rfl) ?_
          refine TL_q (.bool false) (fun _ _ hρ _ => r_move (hρ _ _ rfl)) rfl rfl rfl (want_y 118 rfl rfl rfl) ?_
          refine TL_q (.int .i64 (whyE l4)) (fun _ _ hρ _ => r_move (hρ _ _ rfl)) rfl rfl rfl (want_y 121 rfl rfl rfl) ?_
          refine TL_q (.bool true) (fun _ _ hρ _ => r_as (r_eql (hρ _ _ rfl) (hρ _ _ rfl)) (bool_as (decide_eq_true (hT.2.2.2.resolve_left (fun e => hjc (hT.2.2.1.1 e)))))) rfl rfl rfl (want_y 121 rfl rfl rfl) ?_
          refine TL_q (.bool true) (fun _ _ hρ _ => r_pick_f (hρ _ _ rfl) (hρ _ _ rfl)) rfl rfl rfl (want_y 118 rfl rfl rfl) ?_
          refine TL_q (.bool true) (fun _ _ hρ _ => r_pick_t (hρ _ _ rfl) (hρ _ _ rfl)) rfl rfl rfl (w_n rfl) ?_
          refine TL_q (.bool true) (fun _ _ hρ _ => r_assign (hρ _ _ rfl)) rfl rfl rfl (w_n rfl) ?_
          refine TL_seq ?_
          refine T_sub [(4, .bool true)] [(6, .row (.slice na6 nl6.length nc6) 34 1 nl6.length (nl6.flatMap RowG.cells)), (7, .pool 5 1 byc nl6), (4, .row (.slice na3 nl3.length nc3) 34 1 nl3.length (nl3.flatMap RowG.cells)), (5, .pool 5 1 byc nl3), (3, .row (.slice ar2 ((joinP (rls fl1)).length) cr2) 5 1 ((joinP (rls fl1)).length) ((joinP (rls fl1)).flatMap byc)), (1, .row (.slice (some ⟨g5, 0, none⟩) fl1.length fc1) 34 1 fl1.length (fl1.flatMap RowG.cells)), (2, .pool 5 1 byc fl1)] (sub_cons rfl sub_nil) (sub_cons rfl (sub_cons rfl (sub_cons rfl (sub_cons rfl (sub_cons rfl (sub_cons rfl (sub_cons rfl sub_nil))))))) ?_
          refine T_ret' ?_
          refine ret_of rfl (.bool true) (fun tmps w hk hm => res1 rfl (res_tmp (hk 4 _ rfl))) (fun w hm => ?_)
          exact ⟨rfl, hm.ext⟩
    · replace h1 := of_decide_eq_false h1
      refine T_exit' ?_
      refine p_then_x ?_
      refine p_then_x ?_
      refine p_blk_x ?_
      refine p_seq ?_
      have hmany : manyJ (rls fl1) c9 = k := many_is _ _ _ (by rw [rls_len]; omega) hjk (fun q hq => by first | (rw [hpr] at hq; cases hq; omega) | (have := (List.getElem?_eq_some_iff.1 hq).1; rw [rls_len] at this; omega))
      have hT := torn (rows := rls fl1) (c := c9) h65r (show c9 ≤ joinL (rls fl1) from hc9)
      rw [hmany, ← hl4] at hT
      refine T_seq (T_region ?_)
      refine TL_q (.slice ar2 l4.length cr2) (fun _ _ hρ _ => r_move (hρ _ _ rfl)) rfl rfl rfl (w_n rfl) ?_
      refine TL_callN (fun ((na9, nc9, nl9) : Option Addr × Nat × List (RowG By)) => rls nl9 = heldsV l4) (fun (na9, nc9, nl9) => .tuple #[.slice na9 nl9.length nc9, .int .i64 ((sizeV l4 : Nat) : Int)]) (fun (na9, nc9, nl9) => [(8, .row (.slice na9 nl9.length nc9) 34 1 nl9.length (nl9.flatMap RowG.cells)), (9, .pool 5 1 byc nl9)]) (fun _ _ hρ _ => r_call (args := [.slice ar2 l4.length cr2]) (enters_of Try.func46 (by kernel_rfl) rfl) (hρ _ _ rfl) ((cons2 (hρ _ _ rfl) rfl)) rfl) (fun w hm => (scan_c l4 ar2 cr2 w (by have hs := SliceAt.front (l := (joinP (rls fl1))) (SliceAt.own byc_len (hm.row 3 rfl) rfl rfl) (n := c9) (m := cr2) (by omega) (by omega) (by omega); rw [← hl4] at hs; exact hs) (row_cap (hm.row 3 rfl)) (by omega)).mono fun e w' ⟨n, hf, he, hb, r1, r2, hs⟩ => ⟨(n.a, n.cap, n.l), hf, he, hb, newOk2 8 9 r1 r2 hs⟩) rfl rfl rfl (w_n rfl) ?_
      rintro ⟨na9, nc9, nl9⟩ hsc9
      refine TL_q (.tuple #[.slice na9 nl9.length nc9, .int .i64 ((sizeV l4 : Nat) : Int)]) (fun _ _ hρ _ => r_move (hρ _ _ rfl)) rfl rfl rfl (w_n rfl) ?_
      refine TL_q (.slice na9 nl9.length nc9) (fun _ _ hρ _ => r_extract (hρ _ _ rfl) rfl) rfl rfl rfl (w_n rfl) ?_
      refine TL_q (.int .i64 ((sizeV l4 : Nat) : Int)) (fun _ _ hρ _ => r_extract (hρ _ _ rfl) rfl) rfl rfl rfl (w_n rfl) ?_
      refine TL_q (.slice na9 nl9.length nc9) (fun _ _ hρ _ => r_assign (hρ _ _ rfl)) rfl rfl rfl (w_n rfl) ?_
      refine TL_q (.int .i64 ((sizeV l4 : Nat) : Int)) (fun _ _ hρ _ => r_assign (hρ _ _ rfl)) rfl rfl rfl (w_n rfl) ?_
      refine TL_seq ?_
      refine T_seq (T_region ?_)
      refine TL_q (.slice ar2 l4.length cr2) (fun _ _ hρ _ => r_move (hρ _ _ rfl)) rfl rfl rfl (w_n rfl) ?_
      refine TL_call (.tuple #[.int .i64 ((sizeV l4 : Nat) : Int), .int .i64 (whyE l4)]) (fun _ _ hρ _ => r_call (args := [.slice ar2 l4.length cr2]) (enters_of Try.func47 (by kernel_rfl) rfl) (hρ _ _ rfl) ((cons2 (hρ _ _ rfl) rfl)) rfl) (fun w hm => why_c l4 ar2 cr2 w (by have hs := SliceAt.front (l := (joinP (rls fl1))) (SliceAt.own byc_len (hm.row 3 rfl) rfl rfl) (n := c9) (m := cr2) (by omega) (by omega) (by omega); rw [← hl4] at hs; exact hs) (row_cap (hm.row 3 rfl)) (by omega)) rfl rfl rfl (w_n rfl) ?_
      refine TL_q (.tuple #[.int .i64 ((sizeV l4 : Nat) : Int), .int .i64 (whyE l4)]) (fun _ _ hρ _ => r_move (hρ _ _ rfl)) rfl rfl rfl (w_n rfl) ?_
      refine TL_q (.int .i64 ((sizeV l4 : Nat) : Int)) (fun _ _ hρ _ => r_extract (hρ _ _ rfl) rfl) rfl rfl rfl (w_n rfl) ?_
      refine TL_q (.int .i64 (whyE l4)) (fun _ _ hρ _ => r_extract (hρ _ _ rfl) rfl) rfl rfl rfl (w_n rfl) ?_
      refine TL_q (.int .i64 ((sizeV l4 : Nat) : Int)) (fun _ _ hρ _ => r_assign (hρ _ _ rfl)) rfl rfl rfl (w_n rfl) ?_
      refine TL_q (.int .i64 (whyE l4)) (fun _ _ hρ _ => r_assign (hρ _ _ rfl)) rfl rfl rfl (w_n rfl) ?_
      refine TL_seq ?_
      by_cases hjc : joinL ((rls fl1).take k) = c9
      · skip
        refine T_seq (T_region ?_)
        refine TL_q (.slice na9 nl9.length nc9) (fun _ _ hρ _ => r_move (hρ _ _ rfl)) rfl rfl rfl (w_n rfl) ?_
        refine TL_q (.slice fa1 fl1.length fc1) (fun _ _ hρ _ => r_move (hρ _ _ rfl)) rfl rfl rfl (w_n rfl) ?_
        refine TL_q (.int .i64 ((k : Nat) : Int)) (fun _ _ hρ _ => r_move (hρ _ _ rfl)) rfl rfl rfl (w_n rfl) ?_
        obtain ⟨l10, hl10, hn10⟩ : ∃ lz, lz = fl1.take k ∧ lz.length = k := ⟨_, rfl, by rw [List.length_take]; omega⟩
        refine TL_q (.slice fa1 l10.length fc1) (fun ρ _ hρ _ => r_as (r_sliceO sl63 sz34 (hρ _ _ rfl) (bd_none ρ _) (bd_some (n := k) (hρ _ _ rfl)) (bd_none ρ _) (by simp) (by omega) (by omega) (by omega)) (by rw [hn10]; exact slo_zero _ _ _ _)) rfl rfl rfl (w_n rfl) ?_
        refine TL_call (.bool true) (fun _ _ hρ _ => r_call (args := [.slice na9 nl9.length nc9, .slice fa1 l10.length fc1]) (enters_of Try.func45 (by kernel_rfl) rfl) (hρ _ _ rfl) ((cons2 (hρ _ _ rfl) (cons2 (hρ _ _ rfl) rfl))) rfl) (fun w hm => (same_c nl9 na9 nc9 l10 fa1 fc1 w (SliceAt.own RowG.cells_len (hm.row 8 rfl) rfl rfl) (row_cap (hm.row 8 rfl)) (fun r hr => ⟨poolAt byc_len (hm.pool 9 rfl) hr, poolCap (hm.pool 9 rfl) hr⟩) (fun r hr => Nat.le_trans (rls_le hsc9 (held_le _) r hr) (by decide)) (by have hs := SliceAt.front (l := fl1) (SliceAt.own RowG.cells_len (hm.row 1 rfl) rfl rfl) (n := k) (m := fc1) (by omega) (by omega) (by omega); rw [← hl10] at hs; exact hs) (row_cap (hm.row 1 rfl)) (fun r hr => ⟨poolAt byc_len (hm.pool 2 rfl) (List.mem_of_mem_take (hl10 ▸ hr)), poolCap (hm.pool 2 rfl) (List.mem_of_mem_take (hl10 ▸ hr))⟩) (fun r hr => Nat.le_trans (hnb r (List.mem_of_mem_take (hl10 ▸ hr))) (by decide))).mono fun _ _ h => ⟨h.1.trans (congrArg Ending.returned (bool_as (decide_eq_true (hsc9.trans (hT.1.trans (by rw [hl10]; exact rls_take _ _)))))), h.2⟩) rfl rfl rfl (w_n rfl) ?_
        refine TL_q (.bool true) (fun _ _ hρ _ => r_move (hρ _ _ rfl)) rfl rfl rfl (w_n rfl) ?_
        refine TL_q (.int .i64 ((sizeV l4 : Nat) : Int)) (fun _ _ hρ _ => r_move (hρ _ _ rfl)) rfl rfl rfl (want_y 99 rfl rfl rfl) ?_
        refine TL_q (.int .i64 ((joinL ((rls fl1).take k) : Nat) : Int)) (fun _ _ hρ _ => r_move (hρ _ _ rfl)) rfl rfl rfl (want_y 99 rfl rfl rfl) ?_
        refine TL_q (.bool true) (fun _ _ hρ _ => r_as (r_eql (hρ _ _ rfl) (hρ _ _ rfl)) (bool_as (decide_eq_true (by rw [hT.2.1])))) rfl rfl rfl (want_y 99 rfl rfl rfl) ?_
        refine TL_q (.bool true) (fun _ _ hρ _ => r_pick_t (hρ _ _ rfl) (hρ _ _ rfl)) rfl rfl rfl (w_n rfl) ?_
        refine TL_q (.bool true) (fun _ _ hρ _ => r_move (hρ _ _ rfl)) rfl rfl rfl (w_n rfl) ?_
        refine TL_q (.int .i64 ((sizeV l4 : Nat) : Int)) (fun _ _ hρ _ => r_move (hρ _ _ rfl)) rfl rfl rfl (want_y 104 rfl rfl rfl) ?_
        refine TL_q (.int .i64 ((joinL ((rls fl1).take k) : Nat) : Int)) (fun _ _ hρ _ => r_move (hρ _ _ rfl)) rfl rfl rfl (want_y 104 rfl rfl rfl) ?_
        refine TL_q (.bool true) (fun _ _ hρ _ => r_as (r_eql (hρ _ _ rfl) (hρ _ _ rfl)) (bool_as (decide_eq_true (by rw [hT.2.1])))) rfl rfl rfl (want_y 104 rfl rfl rfl) ?_
        refine TL_q (.bool true) (fun _ _ hρ _ => r_pick_t (hρ _ _ rfl) (hρ _ _ rfl)) rfl rfl rfl (w_n rfl) ?_
        refine TL_q (.bool true) (fun _ _ hρ _ => r_move (hρ _ _ rfl)) rfl rfl rfl (w_n rfl) ?_
        refine TL_q (.int .i64 (whyE l4)) (fun _ _ hρ _ => r_move (hρ _ _ rfl)) rfl rfl rfl (want_y 109 rfl rfl rfl) ?_
        refine TL_q (.bool true) (fun _ _ hρ _ => r_as (r_eql (hρ _ _ rfl) (hρ _ _ rfl)) (bool_as (decide_eq_true (hT.2.2.1.2 hjc)))) rfl rfl rfl (want_y 109 rfl rfl rfl) ?_
        refine TL_q (.int .i64 ((joinL ((rls fl1).take k) : Nat) : Int)) (fun _ _ hρ _ => r_move (hρ _ _ rfl)) rfl rfl rfl (want_y 109 rfl rfl rfl) ?_
        refine TL_q (.slice ar2 l4.length cr2) (fun _ _ hρ _ => r_move (hρ _ _ rfl)) rfl rfl rfl (want_y 109 rfl rfl rfl) ?_
        refine TL_q (.int .i64 ((l4.length : Nat) : Int)) (fun _ _ hρ _ => r_len sl34 (hρ _ _ rfl)) rfl rfl rfl (want_y 109 rfl rfl rfl) ?_
        refine TL_q (.bool true) (fun _ _ hρ _ => r_as (r_eql (hρ _ _ rfl) (hρ _ _ rfl)) (bool_as (decide_eq_true (by omega)))) rfl rfl rfl (want_y 109 rfl rfl rfl) ?_
        refine TL_q (.bool true) (fun _ _ hρ _ => r_as (r_eqlB (by kernel_rfl) (hρ _ _ rfl) (hρ _ _ rfl)) (by rfl)) rfl rfl rfl (want_y 109 rfl rfl rfl) ?_
        refine TL_q (.bool true) (fun _ _ hρ _ => r_pick_t (hρ _ _ rfl) (hρ _ _ rfl)) rfl rfl rfl (w_n rfl) ?_
        refine TL_q (.bool true) (fun _ _ hρ _ => r_move (hρ _ _ rfl)) rfl rfl rfl (w_n rfl) ?_
        refine TL_q (.int .i64 (whyE l4)) (fun _ _ hρ _ => r_move (hρ _ _ rfl)) rfl rfl rfl (want_y 118 rfl rfl rfl) ?_
        refine TL_q (.bool true) (fun _ _ hρ _ => r_as (r_eql (hρ _ _ rfl) (hρ _ _ rfl)) (bool_as (decide_eq_true (hT.2.2.1.2 hjc)))) rfl rfl rfl (want_y 118 rfl rfl rfl) ?_
        refine TL_q (.bool true) (fun _ _ hρ _ => r_move (hρ _ _ rfl)) rfl rfl rfl (want_y 118 rfl rfl rfl) ?_
        refine TL_no rfl rfl (want_n 121 rfl rfl rfl) ?_
        refine TL_no rfl rfl (want_n 121 rfl rfl rfl) ?_
        refine TL_q (.bool true) (fun _ _ hρ _ => r_pick_t (hρ _ _ rfl) (hρ _ _ rfl)) rfl rfl rfl (want_y 118 rfl rfl rfl) ?_
        refine TL_q (.bool true) (fun _ _ hρ _ => r_pick_t (hρ _ _ rfl) (hρ _ _ rfl)) rfl rfl rfl (w_n rfl) ?_
        refine TL_q (.bool true) (fun _ _ hρ _ => r_assign (hρ _ _ rfl)) rfl rfl rfl (w_n rfl) ?_
        refine TL_seq ?_
        refine T_sub [(4, .bool true)] [(8, .row (.slice na9 nl9.length nc9) 34 1 nl9.length (nl9.flatMap RowG.cells)), (9, .pool 5 1 byc nl9), (4, .row (.slice na3 nl3.length nc3) 34 1 nl3.length (nl3.flatMap RowG.cells)), (5, .pool 5 1 byc nl3), (3, .row (.slice ar2 ((joinP (rls fl1)).length) cr2) 5 1 ((joinP (rls fl1)).length) ((joinP (rls fl1)).flatMap byc)), (1, .row (.slice fa1 fl1.length fc1) 34 1 fl1.length (fl1.flatMap RowG.cells)), (2, .pool 5 1 byc fl1)] (sub_cons rfl sub_nil) (sub_cons rfl (sub_cons rfl (sub_cons rfl (sub_cons rfl (sub_cons rfl (sub_cons rfl (sub_cons rfl sub_nil))))))) ?_
        refine T_ret' ?_
        refine ret_of rfl (.bool true) (fun tmps w hk hm => res1 rfl (res_tmp (hk 4 _ rfl))) (fun w hm => ?_)
        exact ⟨rfl, hm.ext⟩
      · skip
        refine T_seq (T_region ?_)
        refine TL_q (.slice na9 nl9.length nc9) (fun _ _ hρ _ => r_move (hρ _ _ rfl)) rfl rfl rfl (w_n rfl) ?_
        refine TL_q (.slice fa1 fl1.length fc1) (fun _ _ hρ _ => r_move (hρ _ _ rfl)) rfl rfl rfl (w_n rfl) ?_
        refine TL_q (.int .i64 ((k : Nat) : Int)) (fun _ _ hρ _ => r_move (hρ _ _ rfl)) rfl rfl rfl (w_n rfl) ?_
        obtain ⟨l11, hl11, hn11⟩ : ∃ lz, lz = fl1.take k ∧ lz.length = k := ⟨_, rfl, by rw [List.length_take]; omega⟩
        refine TL_q (.slice fa1 l11.length fc1) (fun ρ _ hρ _ => r_as (r_sliceO sl63 sz34 (hρ _ _ rfl) (bd_none ρ _) (bd_some (n := k) (hρ _ _ rfl)) (bd_none ρ _) (by simp) (by omega) (by omega) (by omega)) (by rw [hn11]; exact slo_zero _ _ _ _)) rfl rfl rfl (w_n rfl) ?_
        refine TL_call (.bool true) (fun _ _ hρ _ => r_call (args := [.slice na9 nl9.length nc9, .slice fa1 l11.length fc1]) (enters_of Try.func45 (by kernel_rfl) rfl) (hρ _ _ rfl) ((cons2 (hρ _ _ rfl) (cons2 (hρ _ _ rfl) rfl))) rfl) (fun w hm => (same_c nl9 na9 nc9 l11 fa1 fc1 w (SliceAt.own RowG.cells_len (hm.row 8 rfl) rfl rfl) (row_cap (hm.row 8 rfl)) (fun r hr => ⟨poolAt byc_len (hm.pool 9 rfl) hr, poolCap (hm.pool 9 rfl) hr⟩) (fun r hr => Nat.le_trans (rls_le hsc9 (held_le _) r hr) (by decide)) (by have hs := SliceAt.front (l := fl1) (SliceAt.own RowG.cells_len (hm.row 1 rfl) rfl rfl) (n := k) (m := fc1) (by omega) (by omega) (by omega); rw [← hl11] at hs; exact hs) (row_cap (hm.row 1 rfl)) (fun r hr => ⟨poolAt byc_len (hm.pool 2 rfl) (List.mem_of_mem_take (hl11 ▸ hr)), poolCap (hm.pool 2 rfl) (List.mem_of_mem_take (hl11 ▸ hr))⟩) (fun r hr => Nat.le_trans (hnb r (List.mem_of_mem_take (hl11 ▸ hr))) (by decide))).mono fun _ _ h => ⟨h.1.trans (congrArg Ending.returned (bool_as (decide_eq_true (hsc9.trans (hT.1.trans (by rw [hl11]; exact rls_take _ _)))))), h.2⟩) rfl rfl rfl (w_n rfl) ?_
        refine TL_q (.bool true) (fun _ _ hρ _ => r_move (hρ _ _ rfl)) rfl rfl rfl (w_n rfl) ?_
        refine TL_q (.int .i64 ((sizeV l4 : Nat) : Int)) (fun _ _ hρ _ => r_move (hρ _ _ rfl)) rfl rfl rfl (want_y 99 rfl rfl rfl) ?_
        refine TL_q (.int .i64 ((joinL ((rls fl1).take k) : Nat) : Int)) (fun _ _ hρ _ => r_move (hρ _ _ rfl)) rfl rfl rfl (want_y 99 rfl rfl rfl) ?_
        refine TL_q (.bool true) (fun _ _ hρ _ => r_as (r_eql (hρ _ _ rfl) (hρ _ _ rfl)) (bool_as (decide_eq_true (by rw [hT.2.1])))) rfl rfl rfl (want_y 99 rfl rfl rfl) ?_
        refine TL_q (.bool true) (fun _ _ hρ _ => r_pick_t (hρ _ _ rfl) (hρ _ _ rfl)) rfl rfl rfl (w_n rfl) ?_
        refine TL_q (.bool true) (fun _ _ hρ _ => r_move (hρ _ _ rfl)) rfl rfl rfl (w_n rfl) ?_
        refine TL_q (.int .i64 ((sizeV l4 : Nat) : Int)) (fun _ _ hρ _ => r_move (hρ _ _ rfl)) rfl rfl rfl (want_y 104 rfl rfl rfl) ?_
        refine TL_q (.int .i64 ((joinL ((rls fl1).take k) : Nat) : Int)) (fun _ _ hρ _ => r_move (hρ _ _ rfl)) rfl rfl rfl (want_y 104 rfl rfl rfl) ?_
        refine TL_q (.bool true) (fun _ _ hρ _ => r_as (r_eql (hρ _ _ rfl) (hρ _ _ rfl)) (bool_as (decide_eq_true (by rw [hT.2.1])))) rfl rfl rfl (want_y 104 rfl rfl rfl) ?_
        refine TL_q (.bool true) (fun _ _ hρ _ => r_pick_t (hρ _ _ rfl) (hρ _ _ rfl)) rfl rfl rfl (w_n rfl) ?_
        refine TL_q (.bool true) (fun _ _ hρ _ => r_move (hρ _ _ rfl)) rfl rfl rfl (w_n rfl) ?_
        refine TL_q (.int .i64 (whyE l4)) (fun _ _ hρ _ => r_move (hρ _ _ rfl)) rfl rfl rfl (want_y 109 rfl rfl rfl) ?_
        refine TL_q (.bool false) (fun _ _ hρ _ => r_as (r_eql (hρ _ _ rfl) (hρ _ _ rfl)) (bool_as (decide_eq_false (fun e => hjc (hT.2.2.1.1 e))))) rfl rfl rfl (want_y 109 rfl rfl rfl) ?_
        refine TL_q (.int .i64 ((joinL ((rls fl1).take k) : Nat) : Int)) (fun _ _ hρ _ => r_move (hρ _ _ rfl)) rfl rfl rfl (want_y 109 rfl rfl rfl) ?_
        refine TL_q (.slice ar2 l4.length cr2) (fun _ _ hρ _ => r_move (hρ _ _ rfl)) rfl rfl rfl (want_y 109 rfl rfl rfl) ?_
        refine TL_q (.int .i64 ((l4.length : Nat) : Int)) (fun _ _ hρ _ => r_len sl34 (hρ _ _ rfl)) rfl rfl rfl (want_y 109 rfl rfl rfl) ?_
        refine TL_q (.bool false) (fun _ _ hρ _ => r_as (r_eql (hρ _ _ rfl) (hρ _ _ rfl)) (bool_as (decide_eq_false (by omega)))) rfl rfl rfl (want_y 109 rfl rfl rfl) ?_
        refine TL_q (.bool true) (fun _ _ hρ _ => r_as (r_eqlB (by kernel_rfl) (hρ _ _ rfl) (hρ _ _ rfl)) (by rfl)) rfl rfl rfl (want_y 109 rfl rfl rfl) ?_
        refine TL_q (.bool true) (fun _ _ hρ _ => r_pick_t (hρ _ _ rfl) (hρ _ _ rfl)) rfl rfl rfl (w_n rfl) ?_
        refine TL_q (.bool true) (fun _ _ hρ _ => r_move (hρ _ _ rfl)) rfl rfl rfl (w_n rfl) ?_
        refine TL_q (.int .i64 (whyE l4)) (fun _ _ hρ _ => r_move (hρ _ _ rfl)) rfl rfl rfl (want_y 118 rfl rfl rfl) ?_
        refine TL_q (.bool false) (fun _ _ hρ _ => r_as (r_eql (hρ _ _ rfl) (hρ _ _ rfl)) (bool_as (decide_eq_false (fun e => hjc (hT.2.2.1.1 e))))) rfl rfl rfl (want_y 118 rfl rfl rfl) ?_
        refine TL_q (.bool false) (fun _ _ hρ _ => r_move (hρ _ _ rfl)) rfl rfl rfl (want_y 118 rfl rfl rfl) ?_
        refine TL_q (.int .i64 (whyE l4)) (fun _ _ hρ _ => r_move (hρ _ _ rfl)) rfl rfl rfl (want_y 121 rfl rfl rfl) ?_
        refine TL_q (.bool true) (fun _ _ hρ _ => r_as (r_eql (hρ _ _ rfl) (hρ _ _ rfl)) (bool_as (decide_eq_true (hT.2.2.2.resolve_left (fun e => hjc (hT.2.2.1.1 e)))))) rfl rfl rfl (want_y 121 rfl rfl rfl) ?_
        refine TL_q (.bool true) (fun _ _ hρ _ => r_pick_f (hρ _ _ rfl) (hρ _ _ rfl)) rfl rfl rfl (want_y 118 rfl rfl rfl) ?_
        refine TL_q (.bool true) (fun _ _ hρ _ => r_pick_t (hρ _ _ rfl) (hρ _ _ rfl)) rfl rfl rfl (w_n rfl) ?_
        refine TL_q (.bool true) (fun _ _ hρ _ => r_assign (hρ _ _ rfl)) rfl rfl rfl (w_n rfl) ?_
        refine TL_seq ?_
        refine T_sub [(4, .bool true)] [(8, .row (.slice na9 nl9.length nc9) 34 1 nl9.length (nl9.flatMap RowG.cells)), (9, .pool 5 1 byc nl9), (4, .row (.slice na3 nl3.length nc3) 34 1 nl3.length (nl3.flatMap RowG.cells)), (5, .pool 5 1 byc nl3), (3, .row (.slice ar2 ((joinP (rls fl1)).length) cr2) 5 1 ((joinP (rls fl1)).length) ((joinP (rls fl1)).flatMap byc)), (1, .row (.slice fa1 fl1.length fc1) 34 1 fl1.length (fl1.flatMap RowG.cells)), (2, .pool 5 1 byc fl1)] (sub_cons rfl sub_nil) (sub_cons rfl (sub_cons rfl (sub_cons rfl (sub_cons rfl (sub_cons rfl (sub_cons rfl (sub_cons rfl sub_nil))))))) ?_
        refine T_ret' ?_
        refine ret_of rfl (.bool true) (fun tmps w hk hm => res1 rfl (res_tmp (hk 4 _ rfl))) (fun w hm => ?_)
        exact ⟨rfl, hm.ext⟩
  · skip
    refine T_seq (T_region ?_)
    refine TL_q (.slice fa1 fl1.length fc1) (fun _ _ hρ _ => r_move (hρ _ _ rfl)) rfl rfl rfl (w_n rfl) ?_
    refine TL_call (.tuple #[.slice none 0 0, .int .i64 3]) (fun _ _ hρ _ => r_call (args := [.slice fa1 fl1.length fc1]) (enters_of Try.func38 (by kernel_rfl) rfl) (hρ _ _ rfl) ((cons2 (hρ _ _ rfl) rfl)) rfl) (fun w hm => join_no fl1 fa1 fc1 w (SliceAt.own RowG.cells_len (hm.row 1 rfl) rfl rfl) (row_cap (hm.row 1 rfl)) (fun r hr => ⟨poolAt byc_len (hm.pool 2 rfl) hr, poolCap (hm.pool 2 rfl) hr⟩) (by omega) h65) rfl rfl rfl (w_n rfl) ?_
    refine TL_q (.tuple #[.slice none 0 0, .int .i64 3]) (fun _ _ hρ _ => r_move (hρ _ _ rfl)) rfl rfl rfl (w_n rfl) ?_
    refine TL_q (.slice none 0 0) (fun _ _ hρ _ => r_extract (hρ _ _ rfl) rfl) rfl rfl rfl (w_n rfl) ?_
    refine TL_q (.int .i64 3) (fun _ _ hρ _ => r_extract (hρ _ _ rfl) rfl) rfl rfl rfl (w_n rfl) ?_
    refine TL_q (.slice none 0 0) (fun _ _ hρ _ => r_assign (hρ _ _ rfl)) rfl rfl rfl (w_n rfl) ?_
    refine TL_q (.int .i64 3) (fun _ _ hρ _ => r_assign (hρ _ _ rfl)) rfl rfl rfl (w_n rfl) ?_
    refine TL_seq ?_
    refine T_seq ?_
    refine T_seq (T_region ?_)
    refine TL_q (.int .i64 3) (fun _ _ hρ _ => r_move (hρ _ _ rfl)) rfl rfl rfl (w_n rfl) ?_
    refine TL_q (.bool true) (fun _ _ hρ _ => r_as (r_neq (hρ _ _ rfl) (hρ _ _ rfl)) (by rfl)) rfl rfl rfl (w_n rfl) ?_
    refine TL_seq ?_
    refine T_cond_t rfl ?_
    refine T_seq (T_region ?_)
    refine TL_q (.int .i64 3) (fun _ _ hρ _ => r_move (hρ _ _ rfl)) rfl rfl rfl (w_n rfl) ?_
    refine TL_q (.bool true) (fun _ _ hρ _ => r_as (r_eql (hρ _ _ rfl) (hρ _ _ rfl)) (by rfl)) rfl rfl rfl (w_n rfl) ?_
    refine TL_q (.bool true) (fun _ _ hρ _ => r_move (hρ _ _ rfl)) rfl rfl rfl (w_n rfl) ?_
    refine TL_q (.slice none 0 0) (fun _ _ hρ _ => r_move (hρ _ _ rfl)) rfl rfl rfl (want_y 32 rfl rfl rfl) ?_
    refine TL_q (.int .i64 0) (fun _ _ hρ _ => r_len sl34 (hρ _ _ rfl)) rfl rfl rfl (want_y 32 rfl rfl rfl) ?_
    refine TL_q (.bool true) (fun _ _ hρ _ => r_as (r_eql (hρ _ _ rfl) (hρ _ _ rfl)) (by rfl)) rfl rfl rfl (want_y 32 rfl rfl rfl) ?_
    refine TL_q (.bool true) (fun _ _ hρ _ => r_pick_t (hρ _ _ rfl) (hρ _ _ rfl)) rfl rfl rfl (w_n rfl) ?_
    refine TL_q (.bool true) (fun _ _ hρ _ => r_assign (hρ _ _ rfl)) rfl rfl rfl (w_n rfl) ?_
    refine TL_seq ?_
    refine T_ret' ?_
    refine p_then_r ?_
    refine ret_of rfl (.bool true) (fun tmps w hk hm => res1 rfl (res_tmp (hk 4 _ rfl))) (fun w hm => ?_)
    exact ⟨rfl, hm.ext⟩
end Go.Proofs.Ytcidgbjgeegepaa
