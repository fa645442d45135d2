/- crc: the walk of CrcSeals. Printed by a program of this seat's prover. -/
import Derived.Test.YtnjcffhpfmnbfaaLawA
namespace Go.Proofs.Ytnjcffhpfmnbfaa
open Go Go.RowKit
set_option maxRecDepth 10000
theorem openB_n {l : List By} (h : openP l = none) : openB l = false := by unfold openB; rw [h]; rfl
theorem openE_n {l : List By} (h : openP l = none) : openE l = 120 := by unfold openE; rw [h]
theorem openB_s {l : List By} (h : ¬ openP l = none) : openB l = true := by
  obtain ⟨q, hq⟩ := Option.ne_none_iff_exists'.1 h
  unfold openB; rw [hq]; rfl
theorem openE_s {l : List By} (h : ¬ openP l = none) : openE l = 0 := by
  obtain ⟨q, hq⟩ := Option.ne_none_iff_exists'.1 h
  unfold openE; rw [hq]
theorem openL_len (l : List By) : (openL l).length ≤ l.length := by
  unfold openL openP
  split
  · show (l.take _).length ≤ _
    rw [List.length_take]; omega
  · exact Nat.zero_le _
theorem someN_f {l : List By} {n : Nat} {mask : Wd} (hn : n < 8 * l.length) (h : spoilP l n mask = none) : someN l n mask 32 = false := by
  cases hs : someN l n mask 32
  · rfl
  · unfold spoilP at h; rw [if_pos ⟨hn, hs⟩] at h; cases h
theorem spoilP_s {l : List By} {n : Nat} {mask : Wd} (h : ¬ spoilP l n mask = none) : spoilP l n mask = some (spoilN l n mask 32) ∧ someN l n mask 32 = true := by
  obtain ⟨q, hq⟩ := Option.ne_none_iff_exists'.1 h
  have := spoil_some hq
  rw [hq, this.2.2]; exact ⟨rfl, this.2.1⟩

set_option maxHeartbeats 4000000 in
theorem seals_any (l : List By) (a : Option Addr) (cap : Nat) (ps : List PW) (ap : Option Addr) (capp : Nat) (w : World) (hv : SliceAt w a cap 1 byc l) (hcap : cap ≤ Go.maxLen) (hps : SliceAt w ap capp 2 PW.cells ps) (hcapp : capp ≤ Go.maxLen) : Calls Try.prog 4 #[.slice a l.length cap, .slice ap ps.length capp] w fun e w' => e = .returned (.bool true) ∧ Below w.heap.size w w' := by
  have hvl := hv.1
  have hvp := hps.1
  unfold Go.maxLen at hcap hcapp
  have hlf : (l.take 400).length ≤ 400 := by rw [List.length_take]; omega
  have hol := openL_len (l.take 400)
  have hql : (sealP (l.take 400)).length = (l.take 400).length + 4 := by unfold sealP; rw [List.length_append]; rfl
  refine calls_of_T (l := [.slice a l.length cap, .slice ap ps.length capp]) 155 Try.func4 rfl rfl rfl ?_
  show T _ _ _ [(0, .slice a l.length cap), (1, .slice ap ps.length capp)] []
  refine T_seq (T_region ?_)
  refine TL_q (.bool false) (fun _ _ hρ _ => r_assign (hρ _ _ rfl)) rfl rfl rfl (w_n rfl) ?_
  refine TL_seq ?_
  refine T_seq ?_
  refine T_seq (T_region ?_)
  refine TL_call (.bool true) (fun _ _ hρ _ => r_call (args := []) (enters_of Try.func9 (by kernel_rfl) rfl) (hρ _ _ rfl) (by rfl) rfl) (fun w _ => wakes_any w) rfl rfl rfl (w_n rfl) ?_
  refine TL_q (.bool false) (fun _ _ hρ _ => r_not (b := true) (hρ _ _ rfl)) rfl rfl rfl (w_n rfl) ?_
  refine TL_seq ?_
  refine T_cond_f rfl ?_
  refine T_skip' ?_
  refine p_seq ?_
  refine T_seq (T_region ?_)
  refine TL_q (.slice a l.length cap) (fun _ _ hρ _ => r_move (hρ _ _ rfl)) rfl rfl rfl (w_n rfl) ?_
  refine TL_callN (fun (_ : Option Addr × Nat) => True) (fun (a1, cap1) => .slice a1 ((l.take 400).length) cap1) (fun (a1, cap1) => [(1, .row (.slice a1 ((l.take 400).length) cap1) 5 1 ((l.take 400).length) ((l.take 400).flatMap byc))]) (fun _ _ hρ _ => r_call (args := [.slice a l.length cap]) (enters_of Try.func13 (by kernel_rfl) rfl) (hρ _ _ rfl) ((cons2 (hρ _ _ rfl) rfl)) rfl) (fun w hm => (few_c l a cap w (hv.keep hm.ext) hcap).mono fun e w' ⟨a', cap', he, hb, hr⟩ => ⟨(a', cap'), trivial, he, hb, newOk1 1 hr⟩) rfl rfl rfl (w_n rfl) ?_
  rintro ⟨a1, cap1⟩ -
  refine TL_q (.slice a1 ((l.take 400).length) cap1) (fun _ _ hρ _ => r_assign (hρ _ _ rfl)) rfl rfl rfl (w_n rfl) ?_
  refine TL_seq ?_
  refine T_seq (T_region ?_)
  refine TL_q (.slice a1 ((l.take 400).length) cap1) (fun _ _ hρ _ => r_move (hρ _ _ rfl)) rfl rfl rfl (w_n rfl) ?_
  refine TL_callN (fun (_ : Option Addr × Nat) => True) (fun (a2, cap2) => .slice a2 ((sealP (l.take 400)).length) cap2) (fun (a2, cap2) => [(2, .row (.slice a2 ((sealP (l.take 400)).length) cap2) 5 1 ((sealP (l.take 400)).length) ((sealP (l.take 400)).flatMap byc))]) (fun _ _ hρ _ => r_call (args := [.slice a1 ((l.take 400).length) cap1]) (enters_of Try.func14 (by kernel_rfl) rfl) (hρ _ _ rfl) ((cons2 (hρ _ _ rfl) rfl)) rfl) (fun w hm => (seal_c (l.take 400) a1 cap1 w (SliceAt.own byc_len (hm.row 1 rfl) rfl rfl) (by omega) (row_cap (hm.row 1 rfl))).mono fun e w' ⟨a', cap', he, hb, hr⟩ => ⟨(a', cap'), trivial, he, hb, newOk1 2 hr⟩) rfl rfl rfl (w_n rfl) ?_
  rintro ⟨a2, cap2⟩ -
  refine TL_q (.slice a2 ((sealP (l.take 400)).length) cap2) (fun _ _ hρ _ => r_assign (hρ _ _ rfl)) rfl rfl rfl (w_n rfl) ?_
  refine TL_seq ?_
  refine T_seq ?_
  refine T_seq (T_region ?_)
  refine TL_q (.slice a2 ((sealP (l.take 400)).length) cap2) (fun _ _ hρ _ => r_move (hρ _ _ rfl)) rfl rfl rfl (w_n rfl) ?_
  refine TL_q (.slice a1 ((l.take 400).length) cap1) (fun _ _ hρ _ => r_move (hρ _ _ rfl)) rfl rfl rfl (w_n rfl) ?_
  refine TL_callN (fun (_ : Option Addr × Nat) => True) (fun (a3, cap3) => .slice a3 ((sealP (l.take 400)).length) cap3) (fun (a3, cap3) => [(3, .row (.slice a3 ((sealP (l.take 400)).length) cap3) 5 1 ((sealP (l.take 400)).length) ((sealP (l.take 400)).flatMap byc))]) (fun _ _ hρ _ => r_call (args := [.slice a1 ((l.take 400).length) cap1]) (enters_of Try.func15 (by kernel_rfl) rfl) (hρ _ _ rfl) ((cons2 (hρ _ _ rfl) rfl)) rfl) (fun w hm => (seal_ref (l.take 400) a1 cap1 w (SliceAt.own byc_len (hm.row 1 rfl) rfl rfl) (by omega)).mono fun e w' ⟨a', cap', he, hb, hr⟩ => ⟨(a', cap'), trivial, he, hb, newOk1 3 hr⟩) rfl rfl rfl (w_n rfl) ?_
  rintro ⟨a3, cap3⟩ -
  refine TL_call (.bool true) (fun _ _ hρ _ => r_call (args := [.slice a2 ((sealP (l.take 400)).length) cap2, .slice a3 ((sealP (l.take 400)).length) cap3]) (enters_of Try.func11 (by kernel_rfl) rfl) (hρ _ _ rfl) ((cons2 (hρ _ _ rfl) (cons2 (hρ _ _ rfl) rfl))) rfl) (fun w hm => (equal_b (sealP (l.take 400)) (sealP (l.take 400)) a2 a3 cap2 cap3 w (SliceAt.own byc_len (hm.row 2 rfl) rfl rfl) (SliceAt.own byc_len (hm.row 3 rfl) rfl rfl) (by omega) (by omega)).mono fun _ _ h => ⟨h.1.trans (congrArg Ending.returned (bool_as (decide_eq_true (rfl)))), h.2⟩) rfl rfl rfl (w_n rfl) ?_
  refine TL_q (.bool false) (fun _ _ hρ _ => r_not (b := true) (hρ _ _ rfl)) rfl rfl rfl (w_n rfl) ?_
  refine TL_seq ?_
  refine T_cond_f rfl ?_
  refine T_skip' ?_
  refine p_seq ?_
  by_cases hO : openP (l.take 400) = none
  · skip
    refine T_seq (T_region ?_)
    refine TL_q (.slice a1 ((l.take 400).length) cap1) (fun _ _ hρ _ => r_move (hρ _ _ rfl)) rfl rfl rfl (w_n rfl) ?_
    refine TL_callN (fun (_ : Option Addr × Nat) => True) (fun (a4, cap4) => .tuple #[.slice a4 ((openL (l.take 400)).length) cap4, .int .i64 120]) (fun (a4, cap4) => [(4, .row (.slice a4 ((openL (l.take 400)).length) cap4) 5 1 ((openL (l.take 400)).length) ((openL (l.take 400)).flatMap byc))]) (fun _ _ hρ _ => r_call (args := [.slice a1 ((l.take 400).length) cap1]) (enters_of Try.func16 (by kernel_rfl) rfl) (hρ _ _ rfl) ((cons2 (hρ _ _ rfl) rfl)) rfl) (fun w hm => (by have hb := open_c (l.take 400) a1 cap1 w (SliceAt.own byc_len (hm.row 1 rfl) rfl rfl) (by omega) (row_cap (hm.row 1 rfl)); rw [openE_n hO] at hb; exact hb.mono fun e w' ⟨a', cap', he, hb, hr⟩ => ⟨(a', cap'), trivial, he, hb, newOk1 4 hr⟩)) rfl rfl rfl (w_n rfl) ?_
    rintro ⟨a4, cap4⟩ -
    refine TL_q (.tuple #[.slice a4 ((openL (l.take 400)).length) cap4, .int .i64 120]) (fun _ _ hρ _ => r_move (hρ _ _ rfl)) rfl rfl rfl (w_n rfl) ?_
    refine TL_q (.slice a4 ((openL (l.take 400)).length) cap4) (fun _ _ hρ _ => r_extract (hρ _ _ rfl) rfl) rfl rfl rfl (w_n rfl) ?_
    refine TL_q (.int .i64 120) (fun _ _ hρ _ => r_extract (hρ _ _ rfl) rfl) rfl rfl rfl (w_n rfl) ?_
    refine TL_q (.slice a4 ((openL (l.take 400)).length) cap4) (fun _ _ hρ _ => r_assign (hρ _ _ rfl)) rfl rfl rfl (w_n rfl) ?_
    refine TL_q (.int .i64 120) (fun _ _ hρ _ => r_assign (hρ _ _ rfl)) rfl rfl rfl (w_n rfl) ?_
    refine TL_seq ?_
    refine T_seq (T_region ?_)
    refine TL_q (.slice a1 ((l.take 400).length) cap1) (fun _ _ hρ _ => r_move (hρ _ _ rfl)) rfl rfl rfl (w_n rfl) ?_
    refine TL_callN (fun (_ : Option Addr × Nat) => True) (fun (a5, cap5) => .tuple #[.slice a5 ((openL (l.take 400)).length) cap5, .bool false]) (fun (a5, cap5) => [(5, .row (.slice a5 ((openL (l.take 400)).length) cap5) 5 1 ((openL (l.take 400)).length) ((openL (l.take 400)).flatMap byc))]) (fun _ _ hρ _ => r_call (args := [.slice a1 ((l.take 400).length) cap1]) (enters_of Try.func17 (by kernel_rfl) rfl) (hρ _ _ rfl) ((cons2 (hρ _ _ rfl) rfl)) rfl) (fun w hm => (by have hb := open_ref (l.take 400) a1 cap1 w (SliceAt.own byc_len (hm.row 1 rfl) rfl rfl) (by omega) (row_cap (hm.row 1 rfl)); rw [openB_n hO] at hb; exact hb.mono fun e w' ⟨a', cap', he, hb, hr⟩ => ⟨(a', cap'), trivial, he, hb, newOk1 5 hr⟩)) rfl rfl rfl (w_n rfl) ?_
    rintro ⟨a5, cap5⟩ -
    refine TL_q (.tuple #[.slice a5 ((openL (l.take 400)).length) cap5, .bool false]) (fun _ _ hρ _ => r_move (hρ _ _ rfl)) rfl rfl rfl (w_n rfl) ?_
    refine TL_q (.slice a5 ((openL (l.take 400)).length) cap5) (fun _ _ hρ _ => r_extract (hρ _ _ rfl) rfl) rfl rfl rfl (w_n rfl) ?_
    refine TL_q (.bool false) (fun _ _ hρ _ => r_extract (hρ _ _ rfl) rfl) rfl rfl rfl (w_n rfl) ?_
    refine TL_q (.slice a5 ((openL (l.take 400)).length) cap5) (fun _ _ hρ _ => r_assign (hρ _ _ rfl)) rfl rfl rfl (w_n rfl) ?_
    refine TL_q (.bool false) (fun _ _ hρ _ => r_assign (hρ _ _ rfl)) rfl rfl rfl (w_n rfl) ?_
    refine TL_seq ?_
    refine T_seq ?_
    refine T_seq (T_region ?_)
    refine TL_q (.int .i64 120) (fun _ _ hρ _ => r_move (hρ _ _ rfl)) rfl rfl rfl (w_n rfl) ?_
    refine TL_q (.bool false) (fun _ _ hρ _ => r_as (r_eql (hρ _ _ rfl) (hρ _ _ rfl)) (by rfl)) rfl rfl rfl (w_n rfl) ?_
    refine TL_q (.bool false) (fun _ _ hρ _ => r_move (hρ _ _ rfl)) rfl rfl rfl (w_n rfl) ?_
    refine TL_q (.bool false) (fun _ _ hρ _ => r_as (r_neqB (by kernel_rfl) (hρ _ _ rfl) (hρ _ _ rfl)) (by rfl)) rfl rfl rfl (w_n rfl) ?_
    refine TL_q (.bool false) (fun _ _ hρ _ => r_move (hρ _ _ rfl)) rfl rfl rfl (w_n rfl) ?_
    refine TL_q (.int .i64 120) (fun _ _ hρ _ => r_move (hρ _ _ rfl)) rfl rfl rfl (want_y 46 rfl rfl rfl) ?_
    refine TL_q (.bool true) (fun _ _ hρ _ => r_as (r_neq (hρ _ _ rfl) (hρ _ _ rfl)) (by rfl)) rfl rfl rfl (want_y 46 rfl rfl rfl) ?_
    refine TL_q (.bool true) (fun _ _ hρ _ => r_move (hρ _ _ rfl)) rfl rfl rfl (want_y 46 rfl rfl rfl) ?_
    refine TL_q (.int .i64 120) (fun _ _ hρ _ => r_move (hρ _ _ rfl)) rfl rfl rfl (want_y 49 rfl rfl rfl) ?_
    refine TL_q (.bool false) (fun _ _ hρ _ => r_as (r_neq (hρ _ _ rfl) (hρ _ _ rfl)) (by rfl)) rfl rfl rfl (want_y 49 rfl rfl rfl) ?_
    refine TL_q (.bool false) (fun _ _ hρ _ => r_pick_t (hρ _ _ rfl) (hρ _ _ rfl)) rfl rfl rfl (want_y 46 rfl rfl rfl) ?_
    refine TL_q (.bool false) (fun _ _ hρ _ => r_pick_f (hρ _ _ rfl) (hρ _ _ rfl)) rfl rfl rfl (w_n rfl) ?_
    refine TL_q (.bool false) (fun _ _ hρ _ => r_move (hρ _ _ rfl)) rfl rfl rfl (w_n rfl) ?_
    refine TL_q (.slice a4 ((openL (l.take 400)).length) cap4) (fun _ _ hρ _ => r_move (hρ _ _ rfl)) rfl rfl rfl (want_y 54 rfl rfl rfl) ?_
    refine TL_q (.slice a5 ((openL (l.take 400)).length) cap5) (fun _ _ hρ _ => r_move (hρ _ _ rfl)) rfl rfl rfl (want_y 54 rfl rfl rfl) ?_
    refine TL_call (.bool true) (fun _ _ hρ _ => r_call (args := [.slice a4 ((openL (l.take 400)).length) cap4, .slice a5 ((openL (l.take 400)).length) cap5]) (enters_of Try.func11 (by kernel_rfl) rfl) (hρ _ _ rfl) ((cons2 (hρ _ _ rfl) (cons2 (hρ _ _ rfl) rfl))) rfl) (fun w hm => (equal_b (openL (l.take 400)) (openL (l.take 400)) a4 a5 cap4 cap5 w (SliceAt.own byc_len (hm.row 4 rfl) rfl rfl) (SliceAt.own byc_len (hm.row 5 rfl) rfl rfl) (by omega) (by omega)).mono fun _ _ h => ⟨h.1.trans (congrArg Ending.returned (bool_as (decide_eq_true (rfl)))), h.2⟩) rfl rfl rfl (want_y 54 rfl rfl rfl) ?_
    refine TL_q (.bool false) (fun _ _ hρ _ => r_not (b := true) (hρ _ _ rfl)) rfl rfl rfl (want_y 54 rfl rfl rfl) ?_
    refine TL_q (.bool false) (fun _ _ hρ _ => r_pick_f (hρ _ _ rfl) (hρ _ _ rfl)) rfl rfl rfl (w_n rfl) ?_
    refine TL_seq ?_
    refine T_sub [(0, .slice a l.length cap), (1, .slice ap ps.length capp), (4, .bool false), (5, .slice a1 ((l.take 400).length) cap1), (6, .slice a2 ((sealP (l.take 400)).length) cap2), (7, .slice a4 ((openL (l.take 400)).length) cap4), (59, .bool false)] [(5, .row (.slice a5 ((openL (l.take 400)).length) cap5) 5 1 ((openL (l.take 400)).length) ((openL (l.take 400)).flatMap byc)), (4, .row (.slice a4 ((openL (l.take 400)).length) cap4) 5 1 ((openL (l.take 400)).length) ((openL (l.take 400)).flatMap byc)), (3, .row (.slice a3 ((sealP (l.take 400)).length) cap3) 5 1 ((sealP (l.take 400)).length) ((sealP (l.take 400)).flatMap byc)), (2, .row (.slice a2 ((sealP (l.take 400)).length) cap2) 5 1 ((sealP (l.take 400)).length) ((sealP (l.take 400)).flatMap byc)), (1, .row (.slice a1 ((l.take 400).length) cap1) 5 1 ((l.take 400).length) ((l.take 400).flatMap byc))] (sub_cons rfl (sub_cons rfl (sub_cons rfl (sub_cons rfl (sub_cons rfl (sub_cons rfl (sub_cons rfl sub_nil))))))) (sub_cons rfl (sub_cons rfl (sub_cons rfl (sub_cons rfl (sub_cons rfl sub_nil))))) ?_
    refine T_cond_f rfl ?_
    refine T_skip' ?_
    refine p_seq ?_
    refine T_seq ?_
    refine T_seq (T_region ?_)
    refine TL_q (.slice ap ps.length capp) (fun _ _ hρ _ => r_move (hρ _ _ rfl)) rfl rfl rfl (w_n rfl) ?_
    refine TL_q (.int .i64 ((ps.length : Nat) : Int)) (fun _ _ hρ _ => r_len sl22 (hρ _ _ rfl)) rfl rfl rfl (w_n rfl) ?_
    refine TL_q (.int .i64 0) (fun _ _ hρ _ => r_move (hρ _ _ rfl)) rfl rfl rfl (w_n rfl) ?_
    refine TL_seq ?_
    refine T_block ?_
    refine T_loop (ι := Nat) (fun (k : Nat) => k ≤ ps.length) (fun (k : Nat) => [(0, .slice a l.length cap), (5, .slice a1 ((l.take 400).length) cap1), (6, .slice a2 ((sealP (l.take 400)).length) cap2), (7, .slice a4 ((openL (l.take 400)).length) cap4), (60, .slice ap ps.length capp), (61, .int .i64 ((ps.length : Nat) : Int)), (62, .int .i64 ((k : Nat) : Int))]) (fun (k : Nat) => [(5, .row (.slice a5 ((openL (l.take 400)).length) cap5) 5 1 ((openL (l.take 400)).length) ((openL (l.take 400)).flatMap byc)), (4, .row (.slice a4 ((openL (l.take 400)).length) cap4) 5 1 ((openL (l.take 400)).length) ((openL (l.take 400)).flatMap byc)), (3, .row (.slice a3 ((sealP (l.take 400)).length) cap3) 5 1 ((sealP (l.take 400)).length) ((sealP (l.take 400)).flatMap byc)), (2, .row (.slice a2 ((sealP (l.take 400)).length) cap2) 5 1 ((sealP (l.take 400)).length) ((sealP (l.take 400)).flatMap byc)), (1, .row (.slice a1 ((l.take 400).length) cap1) 5 1 ((l.take 400).length) ((l.take 400).flatMap byc))]) (fun (k : Nat) => ps.length - k) 0 (Nat.zero_le _) (sub_cons rfl (sub_cons rfl (sub_cons rfl (sub_cons rfl (sub_cons rfl (sub_cons rfl (sub_cons rfl sub_nil))))))) (sub_cons rfl (sub_cons rfl (sub_cons rfl (sub_cons rfl (sub_cons rfl sub_nil))))) ?_
    rintro k hp
    show T _ _ _ [(0, .slice a l.length cap), (5, .slice a1 ((l.take 400).length) cap1), (6, .slice a2 ((sealP (l.take 400)).length) cap2), (7, .slice a4 ((openL (l.take 400)).length) cap4), (60, .slice ap ps.length capp), (61, .int .i64 ((ps.length : Nat) : Int)), (62, .int .i64 ((k : Nat) : Int))] [(5, .row (.slice a5 ((openL (l.take 400)).length) cap5) 5 1 ((openL (l.take 400)).length) ((openL (l.take 400)).flatMap byc)), (4, .row (.slice a4 ((openL (l.take 400)).length) cap4) 5 1 ((openL (l.take 400)).length) ((openL (l.take 400)).flatMap byc)), (3, .row (.slice a3 ((sealP (l.take 400)).length) cap3) 5 1 ((sealP (l.take 400)).length) ((sealP (l.take 400)).flatMap byc)), (2, .row (.slice a2 ((sealP (l.take 400)).length) cap2) 5 1 ((sealP (l.take 400)).length) ((sealP (l.take 400)).flatMap byc)), (1, .row (.slice a1 ((l.take 400).length) cap1) 5 1 ((l.take 400).length) ((l.take 400).flatMap byc))]
    refine T_seq (T_region ?_)
    refine TL_q (.bool (decide (((k : Nat) : Int) < ((ps.length : Nat) : Int)))) (fun _ _ hρ _ => r_lss (hρ _ _ rfl) (hρ _ _ rfl)) rfl rfl rfl (w_n rfl) ?_
    refine TL_seq ?_
    refine T_seq ?_
    refine T_cond rfl (fun h1 => ?_) (fun h1 => ?_)
    · replace h1 := of_decide_eq_true h1
      refine T_skip' ?_
      refine p_seq ?_
      refine T_seq ?_
      refine T_block ?_
      obtain ⟨x, hx⟩ : ∃ x, ps[k]? = some x := ⟨_, List.getElem?_eq_getElem (by omega)⟩
      obtain ⟨b6, of6, cs6, T6, fz6, ha6, hq6, hr6⟩ := hps.open (i := k) (by omega)
      subst ha6
      refine T_seq (T_region ?_)
      refine TL_q (.int .i64 ((k : Nat) : Int)) (fun _ _ hρ _ => r_move (hρ _ _ rfl)) rfl rfl rfl (w_n rfl) ?_
      refine TL_q (.pointer (some ⟨b6, of6 + k * 2, none⟩)) (fun _ _ hρ _ => r_indexAddrS (i := k) sl22 sz25 (hρ _ _ rfl) (hρ _ _ rfl) (by omega)) rfl rfl rfl (w_n rfl) ?_
      refine TL_q (.agg #[.int .u32 ((x.1).toNat : Int), .int .u32 ((x.2).toNat : Int)]) (fun _ _ hρ hm => r_loadRow (f := PW.cells) (u := x) ag25 sz25 (hρ _ _ rfl) (hm.old hq6) hr6 hx) rfl rfl rfl (w_n rfl) ?_
      refine TL_new 6 (.cells #[.int .u32 0, .int .u32 0] 25) (fun B => .pointer (some ⟨B, 0, none⟩)) (fun _ _ _ _ => r_alloc (v := .agg #[.int .u32 0, .int .u32 0]) (by kernel_rfl) rfl) rfl rfl rfl (w_n rfl) ?_
      intro B7
      refine TL_q (.int .i64 ((k : Nat) : Int)) (fun _ _ hρ _ => r_assign (hρ _ _ rfl)) rfl rfl rfl (w_n rfl) ?_
      refine TL_store 6 (.cells #[.int .u32 ((x.1).toNat : Int), .int .u32 ((x.2).toNat : Int)] 25) rfl (fun _ _ hρ hm => r_store sz25 (hρ _ _ rfl) (hρ _ _ rfl) (hm.at 6 rfl) rfl rfl rfl rfl) rfl rfl (w_n rfl) ?_
      refine TL_seq ?_
      refine T_seq ?_
      refine T_seq (T_region ?_)
      refine TL_q (.int .i64 ((k : Nat) : Int)) (fun _ _ hρ _ => r_move (hρ _ _ rfl)) rfl rfl rfl (w_n rfl) ?_
      refine TL_q (.bool (decide (((k : Nat) : Int) = 8))) (fun _ _ hρ _ => r_eql (hρ _ _ rfl) (hρ _ _ rfl)) rfl rfl rfl (w_n rfl) ?_
      refine TL_seq ?_
      refine T_cond rfl (fun h2 => ?_) (fun h2 => ?_)
      · replace h2 := of_decide_eq_true h2
        refine T_exit' ?_
        refine p_then_x ?_
        refine p_blk_o rfl ?_
        refine p_then_x ?_
        refine p_then_x ?_
        refine p_blk_x ?_
        refine p_seq ?_
        refine T_seq ?_
        refine T_seq (T_region ?_)
        refine TL_q (.slice a2 ((sealP (l.take 400)).length) cap2) (fun _ _ hρ _ => r_move (hρ _ _ rfl)) rfl rfl rfl (w_n rfl) ?_
        refine TL_q (.slice a1 ((l.take 400).length) cap1) (fun _ _ hρ _ => r_move (hρ _ _ rfl)) rfl rfl rfl (w_n rfl) ?_
        refine TL_callN (fun (_ : Option Addr × Nat) => True) (fun (a8, cap8) => .slice a8 ((sealP (l.take 400)).length) cap8) (fun (a8, cap8) => [(7, .row (.slice a8 ((sealP (l.take 400)).length) cap8) 5 1 ((sealP (l.take 400)).length) ((sealP (l.take 400)).flatMap byc))]) (fun _ _ hρ _ => r_call (args := [.slice a1 ((l.take 400).length) cap1]) (enters_of Try.func15 (by kernel_rfl) rfl) (hρ _ _ rfl) ((cons2 (hρ _ _ rfl) rfl)) rfl) (fun w hm => (seal_ref (l.take 400) a1 cap1 w (SliceAt.own byc_len (hm.row 1 rfl) rfl rfl) (by omega)).mono fun e w' ⟨a', cap', he, hb, hr⟩ => ⟨(a', cap'), trivial, he, hb, newOk1 7 hr⟩) rfl rfl rfl (w_n rfl) ?_
        rintro ⟨a8, cap8⟩ -
        refine TL_call (.bool true) (fun _ _ hρ _ => r_call (args := [.slice a2 ((sealP (l.take 400)).length) cap2, .slice a8 ((sealP (l.take 400)).length) cap8]) (enters_of Try.func11 (by kernel_rfl) rfl) (hρ _ _ rfl) ((cons2 (hρ _ _ rfl) (cons2 (hρ _ _ rfl) rfl))) rfl) (fun w hm => (equal_b (sealP (l.take 400)) (sealP (l.take 400)) a2 a8 cap2 cap8 w (SliceAt.own byc_len (hm.row 2 rfl) rfl rfl) (SliceAt.own byc_len (hm.row 7 rfl) rfl rfl) (by omega) (by omega)).mono fun _ _ h => ⟨h.1.trans (congrArg Ending.returned (bool_as (decide_eq_true (rfl)))), h.2⟩) rfl rfl rfl (w_n rfl) ?_
        refine TL_q (.bool false) (fun _ _ hρ _ => r_not (b := true) (hρ _ _ rfl)) rfl rfl rfl (w_n rfl) ?_
        refine TL_seq ?_
        refine T_cond_f rfl ?_
        refine T_skip' ?_
        refine p_seq ?_
        refine T_seq ?_
        refine T_seq (T_region ?_)
        refine TL_q (.slice a2 ((sealP (l.take 400)).length) cap2) (fun _ _ hρ _ => r_move (hρ _ _ rfl)) rfl rfl rfl (w_n rfl) ?_
        refine TL_q (.int .i64 (((sealP (l.take 400)).length : Nat) : Int)) (fun _ _ hρ _ => r_len sl29 (hρ _ _ rfl)) rfl rfl rfl (w_n rfl) ?_
        refine TL_q (.int .i64 0) (fun _ _ hρ _ => r_move (hρ _ _ rfl)) rfl rfl rfl (w_n rfl) ?_
        refine TL_seq ?_
        refine T_block ?_
        refine T_row 2 rfl (by omega) (fun g9 ha9 => ?_)
        subst ha9
        refine T_rowcap 2 rfl (fun hrc9 => ?_)
        refine T_loop (ι := Nat × List By) (fun (z : Nat × List By) => match z with | (j, q3) => j ≤ (sealP (l.take 400)).length ∧ q3.length = (sealP (l.take 400)).length) (fun (z : Nat × List By) => match z with | (j, q3) => [(0, .slice a l.length cap), (5, .slice a1 ((l.take 400).length) cap1), (6, .slice (some ⟨g9, 0, none⟩) ((sealP (l.take 400)).length) cap2), (7, .slice a4 ((openL (l.take 400)).length) cap4), (128, .int .i64 (((sealP (l.take 400)).length : Nat) : Int)), (129, .int .i64 ((j : Nat) : Int))]) (fun (z : Nat × List By) => match z with | (j, q3) => [(7, .row (.slice a8 ((sealP (l.take 400)).length) cap8) 5 1 ((sealP (l.take 400)).length) ((sealP (l.take 400)).flatMap byc)), (5, .row (.slice a5 ((openL (l.take 400)).length) cap5) 5 1 ((openL (l.take 400)).length) ((openL (l.take 400)).flatMap byc)), (4, .row (.slice a4 ((openL (l.take 400)).length) cap4) 5 1 ((openL (l.take 400)).length) ((openL (l.take 400)).flatMap byc)), (3, .row (.slice a3 ((sealP (l.take 400)).length) cap3) 5 1 ((sealP (l.take 400)).length) ((sealP (l.take 400)).flatMap byc)), (1, .row (.slice a1 ((l.take 400).length) cap1) 5 1 ((l.take 400).length) ((l.take 400).flatMap byc)), (6, .blk B7 (.cells #[.int .u32 ((x.1).toNat : Int), .int .u32 ((x.2).toNat : Int)] 25)), (2, .row (.slice (some ⟨g9, 0, none⟩) ((sealP (l.take 400)).length) cap2) 5 1 ((sealP (l.take 400)).length) (q3.flatMap byc))]) (fun (z : Nat × List By) => match z with | (j, q3) => (sealP (l.take 400)).length - j) (0, (sealP (l.take 400))) ⟨Nat.zero_le _, rfl⟩ (sub_cons rfl (sub_cons rfl (sub_cons rfl (sub_cons rfl (sub_cons rfl (sub_cons rfl sub_nil)))))) (sub_cons rfl (sub_cons rfl (sub_cons rfl (sub_cons rfl (sub_cons rfl (sub_cons rfl (sub_cons rfl sub_nil))))))) ?_
        rintro ⟨j, q3⟩ hp
        obtain ⟨hj, hq3⟩ := hp
        show T _ _ _ [(0, .slice a l.length cap), (5, .slice a1 ((l.take 400).length) cap1), (6, .slice (some ⟨g9, 0, none⟩) ((sealP (l.take 400)).length) cap2), (7, .slice a4 ((openL (l.take 400)).length) cap4), (128, .int .i64 (((sealP (l.take 400)).length : Nat) : Int)), (129, .int .i64 ((j : Nat) : Int))] [(7, .row (.slice a8 ((sealP (l.take 400)).length) cap8) 5 1 ((sealP (l.take 400)).length) ((sealP (l.take 400)).flatMap byc)), (5, .row (.slice a5 ((openL (l.take 400)).length) cap5) 5 1 ((openL (l.take 400)).length) ((openL (l.take 400)).flatMap byc)), (4, .row (.slice a4 ((openL (l.take 400)).length) cap4) 5 1 ((openL (l.take 400)).length) ((openL (l.take 400)).flatMap byc)), (3, .row (.slice a3 ((sealP (l.take 400)).length) cap3) 5 1 ((sealP (l.take 400)).length) ((sealP (l.take 400)).flatMap byc)), (1, .row (.slice a1 ((l.take 400).length) cap1) 5 1 ((l.take 400).length) ((l.take 400).flatMap byc)), (6, .blk B7 (.cells #[.int .u32 ((x.1).toNat : Int), .int .u32 ((x.2).toNat : Int)] 25)), (2, .row (.slice (some ⟨g9, 0, none⟩) ((sealP (l.take 400)).length) cap2) 5 1 ((sealP (l.take 400)).length) (q3.flatMap byc))]
        refine T_seq (T_region ?_)
        refine TL_q (.bool (decide (((j : Nat) : Int) < (((sealP (l.take 400)).length : Nat) : Int)))) (fun _ _ hρ _ => r_lss (hρ _ _ rfl) (hρ _ _ rfl)) rfl rfl rfl (w_n rfl) ?_
        refine TL_seq ?_
        refine T_seq ?_
        refine T_cond rfl (fun h3 => ?_) (fun h3 => ?_)
        · replace h3 := of_decide_eq_true h3
          refine T_skip' ?_
          refine p_seq ?_
          refine T_seq ?_
          refine T_block ?_
          refine T_seq (T_region ?_)
          refine TL_q (.int .i64 ((j : Nat) : Int)) (fun _ _ hρ _ => r_move (hρ _ _ rfl)) rfl rfl rfl (w_n rfl) ?_
          refine TL_q (.int .i64 ((j : Nat) : Int)) (fun _ _ hρ _ => r_assign (hρ _ _ rfl)) rfl rfl rfl (w_n rfl) ?_
          refine TL_seq ?_
          obtain ⟨y, hy⟩ : ∃ y, q3[j]? = some y := ⟨_, List.getElem?_eq_getElem (by omega)⟩
          refine T_region ?_
          refine TL_q (.slice (some ⟨g9, 0, none⟩) ((sealP (l.take 400)).length) cap2) (fun _ _ hρ _ => r_move (hρ _ _ rfl)) rfl rfl rfl (w_n rfl) ?_
          refine TL_q (.int .i64 ((j : Nat) : Int)) (fun _ _ hρ _ => r_move (hρ _ _ rfl)) rfl rfl rfl (w_n rfl) ?_
          refine TL_q (.pointer (some ⟨g9, 0 + j * 1, none⟩)) (fun _ _ hρ _ => r_indexAddrS (i := j) sl29 sz5 (hρ _ _ rfl) (hρ _ _ rfl) (by omega)) rfl rfl rfl (w_n rfl) ?_
          refine TL_q (.int .u8 ((y).toNat : Int)) (fun _ _ hρ hm => r_loadOwn1 (f := byc) (u := y) (l := q3) ag5 (hρ _ _ rfl) (hm.row 2 rfl) hq3.symm rfl byc_len hy rfl) rfl rfl rfl (w_n rfl) ?_
          refine TL_q (.int .u8 ((y + (1#8)).toNat : Int)) (fun _ _ hρ _ => r_addB (k := .u8) (a := y) (b := (1#8)) rfl (hρ _ _ rfl) (hρ _ _ rfl)) rfl rfl rfl (w_n rfl) ?_
          refine TL_q (.pointer (some ⟨g9, 0 + j * 1, none⟩)) (fun _ _ hρ _ => r_indexAddrS (i := j) sl29 sz5 (hρ _ _ rfl) (hρ _ _ rfl) (by omega)) rfl rfl rfl (w_n rfl) ?_
          refine TL_storeRow (f := byc) (l := q3) (u := y + (1#8)) 2 rfl hq3.symm rfl rfl sz5 byc_len (by omega) rfl rfl (w_n rfl) ?_
          refine TL_nil ?_
          refine p_blk_n ?_
          refine p_seq ?_
          refine T_region ?_
          refine TL_q (.int .i64 ((j + 1 : Nat) : Int)) (fun _ _ hρ _ => r_as (r_add (hρ _ _ rfl) (hρ _ _ rfl)) (int_as ((wrap64 (by omega) (by omega)).trans (by omega)))) rfl rfl rfl (w_n rfl) ?_
          refine TL_q (.int .i64 ((j + 1 : Nat) : Int)) (fun _ _ hρ _ => r_move (hρ _ _ rfl)) rfl rfl rfl (w_n rfl) ?_
          refine TL_nil ?_
          exact p_at (j + 1, q3.set j (y + 1#8)) ⟨⟨by omega, by rw [List.length_set]; exact hq3⟩, by dsimp only; omega⟩ (sub_cons rfl (sub_cons rfl (sub_cons rfl (sub_cons rfl (sub_cons rfl (sub_cons rfl sub_nil)))))) (sub_cons rfl (sub_cons rfl (sub_cons rfl (sub_cons rfl (sub_cons rfl (sub_cons rfl (sub_cons rfl sub_nil)))))))
        · replace h3 := of_decide_eq_false h3
          refine T_exit' ?_
          refine p_then_x ?_
          refine p_then_x ?_
          refine p_blk_x ?_
          refine p_seq ?_
          refine T_seq ?_
          refine T_seq (T_region ?_)
          refine TL_q (.slice a4 ((openL (l.take 400)).length) cap4) (fun _ _ hρ _ => r_move (hρ _ _ rfl)) rfl rfl rfl (w_n rfl) ?_
          refine TL_q (.int .i64 (((openL (l.take 400)).length : Nat) : Int)) (fun _ _ hρ _ => r_len sl29 (hρ _ _ rfl)) rfl rfl rfl (w_n rfl) ?_
          refine TL_q (.int .i64 0) (fun _ _ hρ _ => r_move (hρ _ _ rfl)) rfl rfl rfl (w_n rfl) ?_
          refine TL_seq ?_
          refine T_block ?_
          refine T_loop (ι := Nat × List By) (fun (z : Nat × List By) => match z with | (j, q4) => j ≤ (openL (l.take 400)).length ∧ q4.length = (openL (l.take 400)).length) (fun (z : Nat × List By) => match z with | (j, q4) => [(0, .slice a l.length cap), (5, .slice a1 ((l.take 400).length) cap1), (7, .slice a4 ((openL (l.take 400)).length) cap4), (140, .int .i64 (((openL (l.take 400)).length : Nat) : Int)), (141, .int .i64 ((j : Nat) : Int))]) (fun (z : Nat × List By) => match z with | (j, q4) => [(7, .row (.slice a8 ((sealP (l.take 400)).length) cap8) 5 1 ((sealP (l.take 400)).length) ((sealP (l.take 400)).flatMap byc)), (5, .row (.slice a5 ((openL (l.take 400)).length) cap5) 5 1 ((openL (l.take 400)).length) ((openL (l.take 400)).flatMap byc)), (3, .row (.slice a3 ((sealP (l.take 400)).length) cap3) 5 1 ((sealP (l.take 400)).length) ((sealP (l.take 400)).flatMap byc)), (1, .row (.slice a1 ((l.take 400).length) cap1) 5 1 ((l.take 400).length) ((l.take 400).flatMap byc)), (6, .blk B7 (.cells #[.int .u32 ((x.1).toNat : Int), .int .u32 ((x.2).toNat : Int)] 25)), (2, .row (.slice (some ⟨g9, 0, none⟩) ((sealP (l.take 400)).length) cap2) 5 1 ((sealP (l.take 400)).length) (q3.flatMap byc)), (4, .row (.slice a4 ((openL (l.take 400)).length) cap4) 5 1 ((openL (l.take 400)).length) (q4.flatMap byc))]) (fun (z : Nat × List By) => match z with | (j, q4) => (openL (l.take 400)).length - j) (0, (openL (l.take 400))) ⟨Nat.zero_le _, rfl⟩ (sub_cons rfl (sub_cons rfl (sub_cons rfl (sub_cons rfl (sub_cons rfl sub_nil))))) (sub_cons rfl (sub_cons rfl (sub_cons rfl (sub_cons rfl (sub_cons rfl (sub_cons rfl (sub_cons rfl sub_nil))))))) ?_
          rintro ⟨j, q4⟩ hp
          obtain ⟨hj, hq4⟩ := hp
          show T _ _ _ [(0, .slice a l.length cap), (5, .slice a1 ((l.take 400).length) cap1), (7, .slice a4 ((openL (l.take 400)).length) cap4), (140, .int .i64 (((openL (l.take 400)).length : Nat) : Int)), (141, .int .i64 ((j : Nat) : Int))] [(7, .row (.slice a8 ((sealP (l.take 400)).length) cap8) 5 1 ((sealP (l.take 400)).length) ((sealP (l.take 400)).flatMap byc)), (5, .row (.slice a5 ((openL (l.take 400)).length) cap5) 5 1 ((openL (l.take 400)).length) ((openL (l.take 400)).flatMap byc)), (3, .row (.slice a3 ((sealP (l.take 400)).length) cap3) 5 1 ((sealP (l.take 400)).length) ((sealP (l.take 400)).flatMap byc)), (1, .row (.slice a1 ((l.take 400).length) cap1) 5 1 ((l.take 400).length) ((l.take 400).flatMap byc)), (6, .blk B7 (.cells #[.int .u32 ((x.1).toNat : Int), .int .u32 ((x.2).toNat : Int)] 25)), (2, .row (.slice (some ⟨g9, 0, none⟩) ((sealP (l.take 400)).length) cap2) 5 1 ((sealP (l.take 400)).length) (q3.flatMap byc)), (4, .row (.slice a4 ((openL (l.take 400)).length) cap4) 5 1 ((openL (l.take 400)).length) (q4.flatMap byc))]
          refine T_seq (T_region ?_)
          refine TL_q (.bool (decide (((j : Nat) : Int) < (((openL (l.take 400)).length : Nat) : Int)))) (fun _ _ hρ _ => r_lss (hρ _ _ rfl) (hρ _ _ rfl)) rfl rfl rfl (w_n rfl) ?_
          refine TL_seq ?_
          refine T_seq ?_
          refine T_cond rfl (fun h4 => ?_) (fun h4 => ?_)
          · replace h4 := of_decide_eq_true h4
            refine T_skip' ?_
            refine p_seq ?_
            refine T_seq ?_
            refine T_block ?_
            refine T_seq (T_region ?_)
            refine TL_q (.int .i64 ((j : Nat) : Int)) (fun _ _ hρ _ => r_move (hρ _ _ rfl)) rfl rfl rfl (w_n rfl) ?_
            refine TL_q (.int .i64 ((j : Nat) : Int)) (fun _ _ hρ _ => r_assign (hρ _ _ rfl)) rfl rfl rfl (w_n rfl) ?_
            refine TL_seq ?_
            obtain ⟨y, hy⟩ : ∃ y, q4[j]? = some y := ⟨_, List.getElem?_eq_getElem (by omega)⟩
            refine T_row 4 rfl (by omega) (fun g10 ha10 => ?_)
            subst ha10
            refine T_rowcap 4 rfl (fun hrc10 => ?_)
            refine T_region ?_
            refine TL_q (.slice (some ⟨g10, 0, none⟩) ((openL (l.take 400)).length) cap4) (fun _ _ hρ _ => r_move (hρ _ _ rfl)) rfl rfl rfl (w_n rfl) ?_
            refine TL_q (.int .i64 ((j : Nat) : Int)) (fun _ _ hρ _ => r_move (hρ _ _ rfl)) rfl rfl rfl (w_n rfl) ?_
            refine TL_q (.pointer (some ⟨g10, 0 + j * 1, none⟩)) (fun _ _ hρ _ => r_indexAddrS (i := j) sl29 sz5 (hρ _ _ rfl) (hρ _ _ rfl) (by omega)) rfl rfl rfl (w_n rfl) ?_
            refine TL_q (.int .u8 ((y).toNat : Int)) (fun _ _ hρ hm => r_loadOwn1 (f := byc) (u := y) (l := q4) ag5 (hρ _ _ rfl) (hm.row 4 rfl) hq4.symm rfl byc_len hy rfl) rfl rfl rfl (w_n rfl) ?_
            refine TL_q (.int .u8 ((y + (1#8)).toNat : Int)) (fun _ _ hρ _ => r_addB (k := .u8) (a := y) (b := (1#8)) rfl (hρ _ _ rfl) (hρ _ _ rfl)) rfl rfl rfl (w_n rfl) ?_
            refine TL_q (.pointer (some ⟨g10, 0 + j * 1, none⟩)) (fun _ _ hρ _ => r_indexAddrS (i := j) sl29 sz5 (hρ _ _ rfl) (hρ _ _ rfl) (by omega)) rfl rfl rfl (w_n rfl) ?_
            refine TL_storeRow (f := byc) (l := q4) (u := y + (1#8)) 4 rfl hq4.symm rfl rfl sz5 byc_len (by omega) rfl rfl (w_n rfl) ?_
            refine TL_nil ?_
            refine p_blk_n ?_
            refine p_seq ?_
            refine T_region ?_
            refine TL_q (.int .i64 ((j + 1 : Nat) : Int)) (fun _ _ hρ _ => r_as (r_add (hρ _ _ rfl) (hρ _ _ rfl)) (int_as ((wrap64 (by omega) (by omega)).trans (by omega)))) rfl rfl rfl (w_n rfl) ?_
            refine TL_q (.int .i64 ((j + 1 : Nat) : Int)) (fun _ _ hρ _ => r_move (hρ _ _ rfl)) rfl rfl rfl (w_n rfl) ?_
            refine TL_nil ?_
            exact p_at (j + 1, q4.set j (y + 1#8)) ⟨⟨by omega, by rw [List.length_set]; exact hq4⟩, by dsimp only; omega⟩ (sub_cons rfl (sub_cons rfl (sub_cons rfl (sub_cons rfl (sub_cons rfl sub_nil))))) (sub_cons rfl (sub_cons rfl (sub_cons rfl (sub_cons rfl (sub_cons rfl (sub_cons rfl (sub_cons rfl sub_nil)))))))
          · replace h4 := of_decide_eq_false h4
            refine T_exit' ?_
            refine p_then_x ?_
            refine p_then_x ?_
            refine p_blk_x ?_
            refine p_seq ?_
            refine T_seq (T_region ?_)
            refine TL_q (.slice a1 ((l.take 400).length) cap1) (fun _ _ hρ _ => r_move (hρ _ _ rfl)) rfl rfl rfl (w_n rfl) ?_
            refine TL_q (.slice a l.length cap) (fun _ _ hρ _ => r_move (hρ _ _ rfl)) rfl rfl rfl (w_n rfl) ?_
            refine TL_callN (fun (_ : Option Addr × Nat) => True) (fun (a11, cap11) => .slice a11 ((l.take 400).length) cap11) (fun (a11, cap11) => [(8, .row (.slice a11 ((l.take 400).length) cap11) 5 1 ((l.take 400).length) ((l.take 400).flatMap byc))]) (fun _ _ hρ _ => r_call (args := [.slice a l.length cap]) (enters_of Try.func13 (by kernel_rfl) rfl) (hρ _ _ rfl) ((cons2 (hρ _ _ rfl) rfl)) rfl) (fun w hm => (few_c l a cap w (hv.keep hm.ext) hcap).mono fun e w' ⟨a', cap', he, hb, hr⟩ => ⟨(a', cap'), trivial, he, hb, newOk1 8 hr⟩) rfl rfl rfl (w_n rfl) ?_
            rintro ⟨a11, cap11⟩ -
            refine TL_call (.bool true) (fun _ _ hρ _ => r_call (args := [.slice a1 ((l.take 400).length) cap1, .slice a11 ((l.take 400).length) cap11]) (enters_of Try.func11 (by kernel_rfl) rfl) (hρ _ _ rfl) ((cons2 (hρ _ _ rfl) (cons2 (hρ _ _ rfl) rfl))) rfl) (fun w hm => (equal_b (l.take 400) (l.take 400) a1 a11 cap1 cap11 w (SliceAt.own byc_len (hm.row 1 rfl) rfl rfl) (SliceAt.own byc_len (hm.row 8 rfl) rfl rfl) (by omega) (by omega)).mono fun _ _ h => ⟨h.1.trans (congrArg Ending.returned (bool_as (decide_eq_true (rfl)))), h.2⟩) rfl rfl rfl (w_n rfl) ?_
            refine TL_q (.bool true) (fun _ _ hρ _ => r_assign (hρ _ _ rfl)) rfl rfl rfl (w_n rfl) ?_
            refine TL_seq ?_
            refine T_ret' ?_
            refine ret_of rfl (.bool true) (fun tmps w hk hm => res1 rfl (res_tmp (hk 4 _ rfl))) (fun w hm => ?_)
            exact ⟨rfl, hm.ext⟩
      · replace h2 := of_decide_eq_false h2
        refine T_skip' ?_
        refine p_seq ?_
        have hx1 := x.1.isLt
        by_cases hT : ((x.1).toNat : Int) < 2
        · skip
          refine T_seq (T_region ?_)
          refine TL_q (.pointer (some ⟨B7, 0, none⟩)) (fun _ _ hρ _ => r_indexAddrA (i := 0) ar25 sz24 (hρ _ _ rfl) (hρ _ _ rfl) (by decide)) rfl rfl rfl (w_n rfl) ?_
          refine TL_q (.int .u32 ((x.1).toNat : Int)) (fun _ _ hρ hm => r_load ag24 (hρ _ _ rfl) (hm.at 6 rfl) rfl) rfl rfl rfl (w_n rfl) ?_
          refine TL_q (.int .i64 ((x.1).toNat : Int)) (fun _ _ hρ _ => r_as (r_conv un24 io3 (hρ _ _ rfl)) (int_as (wrap64 (by omega) (by omega)))) rfl rfl rfl (w_n rfl) ?_
          refine TL_q (.int .i64 (((x.1).toNat : Int) - 2)) (fun _ _ hρ _ => r_as (r_sub (hρ _ _ rfl) (hρ _ _ rfl)) (int_as (wrap64 (by omega) (by omega)))) rfl rfl rfl (w_n rfl) ?_
          refine TL_q (.int .i64 (((x.1).toNat : Int) - 2)) (fun _ _ hρ _ => r_assign (hρ _ _ rfl)) rfl rfl rfl (w_n rfl) ?_
          refine TL_seq ?_
          refine T_seq (T_region ?_)
          refine TL_q (.slice a2 ((sealP (l.take 400)).length) cap2) (fun _ _ hρ _ => r_move (hρ _ _ rfl)) rfl rfl rfl (w_n rfl) ?_
          refine TL_q (.int .i64 (((x.1).toNat : Int) - 2)) (fun _ _ hρ _ => r_move (hρ _ _ rfl)) rfl rfl rfl (w_n rfl) ?_
          refine TL_q (.pointer (some ⟨B7, 1, none⟩)) (fun _ _ hρ _ => r_indexAddrA (i := 1) ar25 sz24 (hρ _ _ rfl) (hρ _ _ rfl) (by decide)) rfl rfl rfl (w_n rfl) ?_
          refine TL_q (.int .u32 ((x.2).toNat : Int)) (fun _ _ hρ hm => r_load ag24 (hρ _ _ rfl) (hm.at 6 rfl) rfl) rfl rfl rfl (w_n rfl) ?_
          refine TL_call (.tuple #[.slice none 0 0, .int .i64 2]) (fun _ _ hρ _ => r_call (args := [.slice a2 ((sealP (l.take 400)).length) cap2, .int .i64 (((x.1).toNat : Int) - 2), .int .u32 ((x.2).toNat : Int)]) (enters_of Try.func18 (by kernel_rfl) rfl) (hρ _ _ rfl) ((cons2 (hρ _ _ rfl) (cons2 (hρ _ _ rfl) (cons2 (hρ _ _ rfl) rfl)))) rfl) (fun w hm => spoil_out (((x.1).toNat : Int) - 2) x.2 (sealP (l.take 400)) a2 cap2 w (SliceAt.own byc_len (hm.row 2 rfl) rfl rfl) (by omega) (row_cap (hm.row 2 rfl)) (by omega)) rfl rfl rfl (w_n rfl) ?_
          refine TL_q (.tuple #[.slice none 0 0, .int .i64 2]) (fun _ _ hρ _ => r_move (hρ _ _ rfl)) rfl rfl rfl (w_n rfl) ?_
          refine TL_q (.slice none 0 0) (fun _ _ hρ _ => r_extract (hρ _ _ rfl) rfl) rfl rfl rfl (w_n rfl) ?_
          refine TL_q (.int .i64 2) (fun _ _ hρ _ => r_extract (hρ _ _ rfl) rfl) rfl rfl rfl (w_n rfl) ?_
          refine TL_q (.slice none 0 0) (fun _ _ hρ _ => r_assign (hρ _ _ rfl)) rfl rfl rfl (w_n rfl) ?_
          refine TL_q (.int .i64 2) (fun _ _ hρ _ => r_assign (hρ _ _ rfl)) rfl rfl rfl (w_n rfl) ?_
          refine TL_seq ?_
          refine T_seq (T_region ?_)
          refine TL_q (.slice a2 ((sealP (l.take 400)).length) cap2) (fun _ _ hρ _ => r_move (hρ _ _ rfl)) rfl rfl rfl (w_n rfl) ?_
          refine TL_q (.int .i64 (((x.1).toNat : Int) - 2)) (fun _ _ hρ _ => r_move (hρ _ _ rfl)) rfl rfl rfl (w_n rfl) ?_
          refine TL_q (.pointer (some ⟨B7, 1, none⟩)) (fun _ _ hρ _ => r_indexAddrA (i := 1) ar25 sz24 (hρ _ _ rfl) (hρ _ _ rfl) (by decide)) rfl rfl rfl (w_n rfl) ?_
          refine TL_q (.int .u32 ((x.2).toNat : Int)) (fun _ _ hρ hm => r_load ag24 (hρ _ _ rfl) (hm.at 6 rfl) rfl) rfl rfl rfl (w_n rfl) ?_
          refine TL_call (.tuple #[.slice none 0 0, .bool false]) (fun _ _ hρ _ => r_call (args := [.slice a2 ((sealP (l.take 400)).length) cap2, .int .i64 (((x.1).toNat : Int) - 2), .int .u32 ((x.2).toNat : Int)]) (enters_of Try.func19 (by kernel_rfl) rfl) (hρ _ _ rfl) ((cons2 (hρ _ _ rfl) (cons2 (hρ _ _ rfl) (cons2 (hρ _ _ rfl) rfl)))) rfl) (fun w hm => rspoil_out (((x.1).toNat : Int) - 2) x.2 (sealP (l.take 400)) a2 cap2 w (SliceAt.own byc_len (hm.row 2 rfl) rfl rfl) (by omega) (row_cap (hm.row 2 rfl)) (by omega)) rfl rfl rfl (w_n rfl) ?_
          refine TL_q (.tuple #[.slice none 0 0, .bool false]) (fun _ _ hρ _ => r_move (hρ _ _ rfl)) rfl rfl rfl (w_n rfl) ?_
          refine TL_q (.slice none 0 0) (fun _ _ hρ _ => r_extract (hρ _ _ rfl) rfl) rfl rfl rfl (w_n rfl) ?_
          refine TL_q (.bool false) (fun _ _ hρ _ => r_extract (hρ _ _ rfl) rfl) rfl rfl rfl (w_n rfl) ?_
          refine TL_q (.slice none 0 0) (fun _ _ hρ _ => r_assign (hρ _ _ rfl)) rfl rfl rfl (w_n rfl) ?_
          refine TL_q (.bool false) (fun _ _ hρ _ => r_assign (hρ _ _ rfl)) rfl rfl rfl (w_n rfl) ?_
          refine TL_seq ?_
          refine T_sub [(0, .slice a l.length cap), (5, .slice a1 ((l.take 400).length) cap1), (6, .slice a2 ((sealP (l.take 400)).length) cap2), (7, .slice a4 ((openL (l.take 400)).length) cap4), (60, .slice (some ⟨b6, of6, none⟩) ps.length capp), (61, .int .i64 ((ps.length : Nat) : Int)), (62, .int .i64 ((k : Nat) : Int)), (63, .bool (decide (((k : Nat) : Int) < ((ps.length : Nat) : Int)))), (64, .int .i64 ((k : Nat) : Int)), (65, .pointer (some ⟨b6, of6 + k * 2, none⟩)), (66, .agg #[.int .u32 ((x.1).toNat : Int), .int .u32 ((x.2).toNat : Int)]), (12, .pointer (some ⟨B7, 0, none⟩)), (11, .int .i64 ((k : Nat) : Int)), (67, .int .i64 ((k : Nat) : Int)), (68, .bool (decide (((k : Nat) : Int) = 8))), (69, .pointer (some ⟨B7, 0, none⟩)), (70, .int .u32 ((x.1).toNat : Int)), (71, .int .i64 ((x.1).toNat : Int)), (72, .int .i64 (((x.1).toNat : Int) - 2)), (13, .int .i64 (((x.1).toNat : Int) - 2)), (74, .slice a2 ((sealP (l.take 400)).length) cap2), (75, .int .i64 (((x.1).toNat : Int) - 2)), (76, .pointer (some ⟨B7, 1, none⟩)), (77, .int .u32 ((x.2).toNat : Int)), (78, .tuple #[.slice none 0 0, .int .i64 2]), (73, .tuple #[.slice none 0 0, .int .i64 2]), (79, .slice none 0 0), (80, .int .i64 2), (14, .slice none 0 0), (15, .int .i64 2), (82, .slice a2 ((sealP (l.take 400)).length) cap2), (83, .int .i64 (((x.1).toNat : Int) - 2)), (84, .pointer (some ⟨B7, 1, none⟩)), (85, .int .u32 ((x.2).toNat : Int)), (86, .tuple #[.slice none 0 0, .bool false]), (81, .tuple #[.slice none 0 0, .bool false]), (87, .slice none 0 0), (88, .bool false), (16, .slice none 0 0), (17, .bool false)] [(5, .row (.slice a5 ((openL (l.take 400)).length) cap5) 5 1 ((openL (l.take 400)).length) ((openL (l.take 400)).flatMap byc)), (4, .row (.slice a4 ((openL (l.take 400)).length) cap4) 5 1 ((openL (l.take 400)).length) ((openL (l.take 400)).flatMap byc)), (3, .row (.slice a3 ((sealP (l.take 400)).length) cap3) 5 1 ((sealP (l.take 400)).length) ((sealP (l.take 400)).flatMap byc)), (2, .row (.slice a2 ((sealP (l.take 400)).length) cap2) 5 1 ((sealP (l.take 400)).length) ((sealP (l.take 400)).flatMap byc)), (1, .row (.slice a1 ((l.take 400).length) cap1) 5 1 ((l.take 400).length) ((l.take 400).flatMap byc)), (6, .blk B7 (.cells #[.int .u32 ((x.1).toNat : Int), .int .u32 ((x.2).toNat : Int)] 25))] (sub_cons rfl (sub_cons rfl (sub_cons rfl (sub_cons rfl (sub_cons rfl (sub_cons rfl (sub_cons rfl (sub_cons rfl (sub_cons rfl (sub_cons rfl (sub_cons rfl (sub_cons rfl (sub_cons rfl (sub_cons rfl (sub_cons rfl (sub_cons rfl (sub_cons rfl (sub_cons rfl (sub_cons rfl (sub_cons rfl (sub_cons rfl (sub_cons rfl (sub_cons rfl (sub_cons rfl (sub_cons rfl (sub_cons rfl (sub_cons rfl (sub_cons rfl (sub_cons rfl (sub_cons rfl (sub_cons rfl (sub_cons rfl (sub_cons rfl (sub_cons rfl (sub_cons rfl (sub_cons rfl (sub_cons rfl (sub_cons rfl (sub_cons rfl (sub_cons rfl sub_nil)))))))))))))))))))))))))))))))))))))))) (sub_cons rfl (sub_cons rfl (sub_cons rfl (sub_cons rfl (sub_cons rfl (sub_cons rfl sub_nil)))))) ?_
          refine T_seq ?_
          refine T_seq (T_region ?_)
          refine TL_q (.bool false) (fun _ _ hρ _ => r_move (hρ _ _ rfl)) rfl rfl rfl (w_n rfl) ?_
          refine TL_q (.bool true) (fun _ _ hρ _ => r_not (b := false) (hρ _ _ rfl)) rfl rfl rfl (w_n rfl) ?_
          refine TL_seq ?_
          refine T_cond_t rfl ?_
          refine T_region ?_
          refine TL_q (.slice none 0 0) (fun _ _ hρ _ => r_assign (hρ _ _ rfl)) rfl rfl rfl (w_n rfl) ?_
          refine TL_nil ?_
          refine p_seq ?_
          refine T_seq ?_
          refine T_seq (T_region ?_)
          refine TL_q (.int .i64 2) (fun _ _ hρ _ => r_move (hρ _ _ rfl)) rfl rfl rfl (w_n rfl) ?_
          refine TL_q (.bool false) (fun _ _ hρ _ => r_as (r_eql (hρ _ _ rfl) (hρ _ _ rfl)) (by rfl)) rfl rfl rfl (w_n rfl) ?_
          refine TL_q (.bool false) (fun _ _ hρ _ => r_move (hρ _ _ rfl)) rfl rfl rfl (w_n rfl) ?_
          refine TL_q (.bool false) (fun _ _ hρ _ => r_as (r_neqB (by kernel_rfl) (hρ _ _ rfl) (hρ _ _ rfl)) (by rfl)) rfl rfl rfl (w_n rfl) ?_
          refine TL_q (.bool false) (fun _ _ hρ _ => r_move (hρ _ _ rfl)) rfl rfl rfl (w_n rfl) ?_
          refine TL_q (.int .i64 2) (fun _ _ hρ _ => r_move (hρ _ _ rfl)) rfl rfl rfl (want_y 95 rfl rfl rfl) ?_
          refine TL_q (.bool true) (fun _ _ hρ _ => r_as (r_neq (hρ _ _ rfl) (hρ _ _ rfl)) (by rfl)) rfl rfl rfl (want_y 95 rfl rfl rfl) ?_
          refine TL_q (.bool true) (fun _ _ hρ _ => r_move (hρ _ _ rfl)) rfl rfl rfl (want_y 95 rfl rfl rfl) ?_
          refine TL_q (.int .i64 2) (fun _ _ hρ _ => r_move (hρ _ _ rfl)) rfl rfl rfl (want_y 98 rfl rfl rfl) ?_
          refine TL_q (.bool false) (fun _ _ hρ _ => r_as (r_neq (hρ _ _ rfl) (hρ _ _ rfl)) (by rfl)) rfl rfl rfl (want_y 98 rfl rfl rfl) ?_
          refine TL_q (.bool false) (fun _ _ hρ _ => r_pick_t (hρ _ _ rfl) (hρ _ _ rfl)) rfl rfl rfl (want_y 95 rfl rfl rfl) ?_
          refine TL_q (.bool false) (fun _ _ hρ _ => r_pick_f (hρ _ _ rfl) (hρ _ _ rfl)) rfl rfl rfl (w_n rfl) ?_
          refine TL_q (.bool false) (fun _ _ hρ _ => r_move (hρ _ _ rfl)) rfl rfl rfl (w_n rfl) ?_
          refine TL_q (.slice none 0 0) (fun _ _ hρ _ => r_move (hρ _ _ rfl)) rfl rfl rfl (want_y 103 rfl rfl rfl) ?_
          refine TL_q (.slice none 0 0) (fun _ _ hρ _ => r_move (hρ _ _ rfl)) rfl rfl rfl (want_y 103 rfl rfl rfl) ?_
          refine TL_call (.bool true) (fun _ _ hρ _ => r_call (args := [.slice none 0 0, .slice none 0 0]) (enters_of Try.func11 (by kernel_rfl) rfl) (hρ _ _ rfl) ((cons2 (hρ _ _ rfl) (cons2 (hρ _ _ rfl) rfl))) rfl) (fun w _ => (equal_b [] [] none none 0 0 w (sliceNil w) (sliceNil w) (Nat.le_of_ble_eq_true rfl) (Nat.le_of_ble_eq_true rfl)).mono fun _ _ h => ⟨h.1.trans (congrArg Ending.returned (bool_as (decide_eq_true (rfl)))), h.2⟩) rfl rfl rfl (want_y 103 rfl rfl rfl) ?_
          refine TL_q (.bool false) (fun _ _ hρ _ => r_not (b := true) (hρ _ _ rfl)) rfl rfl rfl (want_y 103 rfl rfl rfl) ?_
          refine TL_q (.bool false) (fun _ _ hρ _ => r_pick_f (hρ _ _ rfl) (hρ _ _ rfl)) rfl rfl rfl (w_n rfl) ?_
          refine TL_seq ?_
          refine T_cond_f rfl ?_
          refine T_skip' ?_
          refine p_seq ?_
          refine T_seq (T_region ?_)
          refine TL_q (.slice none 0 0) (fun _ _ hρ _ => r_move (hρ _ _ rfl)) rfl rfl rfl (w_n rfl) ?_
          refine TL_q (.int .i64 0) (fun _ _ hρ _ => r_len sl29 (hρ _ _ rfl)) rfl rfl rfl (w_n rfl) ?_
          refine TL_q (.int .i64 0) (fun _ _ hρ _ => r_move (hρ _ _ rfl)) rfl rfl rfl (w_n rfl) ?_
          refine TL_seq ?_
          refine T_block ?_
          refine T_rounds 1 ?_
          refine TR_succ ?_
          refine T_seq (T_region ?_)
          refine TL_q (.bool false) (fun _ _ hρ _ => r_as (r_lss (hρ _ _ rfl) (hρ _ _ rfl)) (by rfl)) rfl rfl rfl (w_n rfl) ?_
          refine TL_seq ?_
          refine T_seq ?_
          refine T_cond_f rfl ?_
          refine T_exit' ?_
          refine p_then_x ?_
          refine p_then_x ?_
          refine p_blk_x ?_
          refine p_blk_n ?_
          refine p_seq ?_
          refine T_region ?_
          refine TL_q (.int .i64 ((k + 1 : Nat) : Int)) (fun _ _ hρ _ => r_as (r_add (hρ _ _ rfl) (hρ _ _ rfl)) (int_as ((wrap64 (by omega) (by omega)).trans (by omega)))) rfl rfl rfl (w_n rfl) ?_
          refine TL_q (.int .i64 ((k + 1 : Nat) : Int)) (fun _ _ hρ _ => r_move (hρ _ _ rfl)) rfl rfl rfl (w_n rfl) ?_
          refine TL_nil ?_
          exact p_at (k + 1) ⟨by omega, by omega⟩ (sub_cons rfl (sub_cons rfl (sub_cons rfl (sub_cons rfl (sub_cons rfl (sub_cons rfl (sub_cons rfl sub_nil))))))) (sub_cons rfl (sub_cons rfl (sub_cons rfl (sub_cons rfl (sub_cons rfl sub_nil)))))
        · skip
          by_cases hB : 8 * (sealP (l.take 400)).length ≤ (x.1).toNat - 2
          · skip
            refine T_seq (T_region ?_)
            refine TL_q (.pointer (some ⟨B7, 0, none⟩)) (fun _ _ hρ _ => r_indexAddrA (i := 0) ar25 sz24 (hρ _ _ rfl) (hρ _ _ rfl) (by decide)) rfl rfl rfl (w_n rfl) ?_
            refine TL_q (.int .u32 ((x.1).toNat : Int)) (fun _ _ hρ hm => r_load ag24 (hρ _ _ rfl) (hm.at 6 rfl) rfl) rfl rfl rfl (w_n rfl) ?_
            refine TL_q (.int .i64 ((x.1).toNat : Int)) (fun _ _ hρ _ => r_as (r_conv un24 io3 (hρ _ _ rfl)) (int_as (wrap64 (by omega) (by omega)))) rfl rfl rfl (w_n rfl) ?_
            refine TL_q (.int .i64 ((((x.1).toNat - 2) : Nat) : Int)) (fun _ _ hρ _ => r_as (r_sub (hρ _ _ rfl) (hρ _ _ rfl)) (int_as ((wrap64 (by omega) (by omega)).trans (by omega)))) rfl rfl rfl (w_n rfl) ?_
            refine TL_q (.int .i64 ((((x.1).toNat - 2) : Nat) : Int)) (fun _ _ hρ _ => r_assign (hρ _ _ rfl)) rfl rfl rfl (w_n rfl) ?_
            refine TL_seq ?_
            refine T_seq (T_region ?_)
            refine TL_q (.slice a2 ((sealP (l.take 400)).length) cap2) (fun _ _ hρ _ => r_move (hρ _ _ rfl)) rfl rfl rfl (w_n rfl) ?_
            refine TL_q (.int .i64 ((((x.1).toNat - 2) : Nat) : Int)) (fun _ _ hρ _ => r_move (hρ _ _ rfl)) rfl rfl rfl (w_n rfl) ?_
            refine TL_q (.pointer (some ⟨B7, 1, none⟩)) (fun _ _ hρ _ => r_indexAddrA (i := 1) ar25 sz24 (hρ _ _ rfl) (hρ _ _ rfl) (by decide)) rfl rfl rfl (w_n rfl) ?_
            refine TL_q (.int .u32 ((x.2).toNat : Int)) (fun _ _ hρ hm => r_load ag24 (hρ _ _ rfl) (hm.at 6 rfl) rfl) rfl rfl rfl (w_n rfl) ?_
            refine TL_call (.tuple #[.slice none 0 0, .int .i64 2]) (fun _ _ hρ _ => r_call (args := [.slice a2 ((sealP (l.take 400)).length) cap2, .int .i64 ((((x.1).toNat - 2) : Nat) : Int), .int .u32 ((x.2).toNat : Int)]) (enters_of Try.func18 (by kernel_rfl) rfl) (hρ _ _ rfl) ((cons2 (hρ _ _ rfl) (cons2 (hρ _ _ rfl) (cons2 (hρ _ _ rfl) rfl)))) rfl) (fun w hm => spoil_out ((((x.1).toNat - 2) : Nat) : Int) x.2 (sealP (l.take 400)) a2 cap2 w (SliceAt.own byc_len (hm.row 2 rfl) rfl rfl) (by omega) (row_cap (hm.row 2 rfl)) (by omega)) rfl rfl rfl (w_n rfl) ?_
            refine TL_q (.tuple #[.slice none 0 0, .int .i64 2]) (fun _ _ hρ _ => r_move (hρ _ _ rfl)) rfl rfl rfl (w_n rfl) ?_
            refine TL_q (.slice none 0 0) (fun _ _ hρ _ => r_extract (hρ _ _ rfl) rfl) rfl rfl rfl (w_n rfl) ?_
            refine TL_q (.int .i64 2) (fun _ _ hρ _ => r_extract (hρ _ _ rfl) rfl) rfl rfl rfl (w_n rfl) ?_
            refine TL_q (.slice none 0 0) (fun _ _ hρ _ => r_assign (hρ _ _ rfl)) rfl rfl rfl (w_n rfl) ?_
            refine TL_q (.int .i64 2) (fun _ _ hρ _ => r_assign (hρ _ _ rfl)) rfl rfl rfl (w_n rfl) ?_
            refine TL_seq ?_
            refine T_seq (T_region ?_)
            refine TL_q (.slice a2 ((sealP (l.take 400)).length) cap2) (fun _ _ hρ _ => r_move (hρ _ _ rfl)) rfl rfl rfl (w_n rfl) ?_
            refine TL_q (.int .i64 ((((x.1).toNat - 2) : Nat) : Int)) (fun _ _ hρ _ => r_move (hρ _ _ rfl)) rfl rfl rfl (w_n rfl) ?_
            refine TL_q (.pointer (some ⟨B7, 1, none⟩)) (fun _ _ hρ _ => r_indexAddrA (i := 1) ar25 sz24 (hρ _ _ rfl) (hρ _ _ rfl) (by decide)) rfl rfl rfl (w_n rfl) ?_
            refine TL_q (.int .u32 ((x.2).toNat : Int)) (fun _ _ hρ hm => r_load ag24 (hρ _ _ rfl) (hm.at 6 rfl) rfl) rfl rfl rfl (w_n rfl) ?_
            refine TL_call (.tuple #[.slice none 0 0, .bool false]) (fun _ _ hρ _ => r_call (args := [.slice a2 ((sealP (l.take 400)).length) cap2, .int .i64 ((((x.1).toNat - 2) : Nat) : Int), .int .u32 ((x.2).toNat : Int)]) (enters_of Try.func19 (by kernel_rfl) rfl) (hρ _ _ rfl) ((cons2 (hρ _ _ rfl) (cons2 (hρ _ _ rfl) (cons2 (hρ _ _ rfl) rfl)))) rfl) (fun w hm => rspoil_out ((((x.1).toNat - 2) : Nat) : Int) x.2 (sealP (l.take 400)) a2 cap2 w (SliceAt.own byc_len (hm.row 2 rfl) rfl rfl) (by omega) (row_cap (hm.row 2 rfl)) (by omega)) rfl rfl rfl (w_n rfl) ?_
            refine TL_q (.tuple #[.slice none 0 0, .bool false]) (fun _ _ hρ _ => r_move (hρ _ _ rfl)) rfl rfl rfl (w_n rfl) ?_
            refine TL_q (.slice none 0 0) (fun _ _ hρ _ => r_extract (hρ _ _ rfl) rfl) rfl rfl rfl (w_n rfl) ?_
            refine TL_q (.bool false) (fun _ _ hρ _ => r_extract (hρ _ _ rfl) rfl) rfl rfl rfl (w_n rfl) ?_
            refine TL_q (.slice none 0 0) (fun _ _ hρ _ => r_assign (hρ _ _ rfl)) rfl rfl rfl (w_n rfl) ?_
            refine TL_q (.bool false) (fun _ _ hρ _ => r_assign (hρ _ _ rfl)) rfl rfl rfl (w_n rfl) ?_
            refine TL_seq ?_
            refine T_sub [(0, .slice a l.length cap), (5, .slice a1 ((l.take 400).length) cap1), (6, .slice a2 ((sealP (l.take 400)).length) cap2), (7, .slice a4 ((openL (l.take 400)).length) cap4), (60, .slice (some ⟨b6, of6, none⟩) ps.length capp), (61, .int .i64 ((ps.length : Nat) : Int)), (62, .int .i64 ((k : Nat) : Int)), (63, .bool (decide (((k : Nat) : Int) < ((ps.length : Nat) : Int)))), (64, .int .i64 ((k : Nat) : Int)), (65, .pointer (some ⟨b6, of6 + k * 2, none⟩)), (66, .agg #[.int .u32 ((x.1).toNat : Int), .int .u32 ((x.2).toNat : Int)]), (12, .pointer (some ⟨B7, 0, none⟩)), (11, .int .i64 ((k : Nat) : Int)), (67, .int .i64 ((k : Nat) : Int)), (68, .bool (decide (((k : Nat) : Int) = 8))), (69, .pointer (some ⟨B7, 0, none⟩)), (70, .int .u32 ((x.1).toNat : Int)), (71, .int .i64 ((x.1).toNat : Int)), (72, .int .i64 ((((x.1).toNat - 2) : Nat) : Int)), (13, .int .i64 ((((x.1).toNat - 2) : Nat) : Int)), (74, .slice a2 ((sealP (l.take 400)).length) cap2), (75, .int .i64 ((((x.1).toNat - 2) : Nat) : Int)), (76, .pointer (some ⟨B7, 1, none⟩)), (77, .int .u32 ((x.2).toNat : Int)), (78, .tuple #[.slice none 0 0, .int .i64 2]), (73, .tuple #[.slice none 0 0, .int .i64 2]), (79, .slice none 0 0), (80, .int .i64 2), (14, .slice none 0 0), (15, .int .i64 2), (82, .slice a2 ((sealP (l.take 400)).length) cap2), (83, .int .i64 ((((x.1).toNat - 2) : Nat) : Int)), (84, .pointer (some ⟨B7, 1, none⟩)), (85, .int .u32 ((x.2).toNat : Int)), (86, .tuple #[.slice none 0 0, .bool false]), (81, .tuple #[.slice none 0 0, .bool false]), (87, .slice none 0 0), (88, .bool false), (16, .slice none 0 0), (17, .bool false)] [(5, .row (.slice a5 ((openL (l.take 400)).length) cap5) 5 1 ((openL (l.take 400)).length) ((openL (l.take 400)).flatMap byc)), (4, .row (.slice a4 ((openL (l.take 400)).length) cap4) 5 1 ((openL (l.take 400)).length) ((openL (l.take 400)).flatMap byc)), (3, .row (.slice a3 ((sealP (l.take 400)).length) cap3) 5 1 ((sealP (l.take 400)).length) ((sealP (l.take 400)).flatMap byc)), (2, .row (.slice a2 ((sealP (l.take 400)).length) cap2) 5 1 ((sealP (l.take 400)).length) ((sealP (l.take 400)).flatMap byc)), (1, .row (.slice a1 ((l.take 400).length) cap1) 5 1 ((l.take 400).length) ((l.take 400).flatMap byc)), (6, .blk B7 (.cells #[.int .u32 ((x.1).toNat : Int), .int .u32 ((x.2).toNat : Int)] 25))] (sub_cons rfl (sub_cons rfl (sub_cons rfl (sub_cons rfl (sub_cons rfl (sub_cons rfl (sub_cons rfl (sub_cons rfl (sub_cons rfl (sub_cons rfl (sub_cons rfl (sub_cons rfl (sub_cons rfl (sub_cons rfl (sub_cons rfl (sub_cons rfl (sub_cons rfl (sub_cons rfl (sub_cons rfl (sub_cons rfl (sub_cons rfl (sub_cons rfl (sub_cons rfl (sub_cons rfl (sub_cons rfl (sub_cons rfl (sub_cons rfl (sub_cons rfl (sub_cons rfl (sub_cons rfl (sub_cons rfl (sub_cons rfl (sub_cons rfl (sub_cons rfl (sub_cons rfl (sub_cons rfl (sub_cons rfl (sub_cons rfl (sub_cons rfl (sub_cons rfl sub_nil)))))))))))))))))))))))))))))))))))))))) (sub_cons rfl (sub_cons rfl (sub_cons rfl (sub_cons rfl (sub_cons rfl (sub_cons rfl sub_nil)))))) ?_
            refine T_seq ?_
            refine T_seq (T_region ?_)
            refine TL_q (.bool false) (fun _ _ hρ _ => r_move (hρ _ _ rfl)) rfl rfl rfl (w_n rfl) ?_
            refine TL_q (.bool true) (fun _ _ hρ _ => r_not (b := false) (hρ _ _ rfl)) rfl rfl rfl (w_n rfl) ?_
            refine TL_seq ?_
            refine T_cond_t rfl ?_
            refine T_region ?_
            refine TL_q (.slice none 0 0) (fun _ _ hρ _ => r_assign (hρ _ _ rfl)) rfl rfl rfl (w_n rfl) ?_
            refine TL_nil ?_
            refine p_seq ?_
            refine T_seq ?_
            refine T_seq (T_region ?_)
            refine TL_q (.int .i64 2) (fun _ _ hρ _ => r_move (hρ _ _ rfl)) rfl rfl rfl (w_n rfl) ?_
            refine TL_q (.bool false) (fun _ _ hρ _ => r_as (r_eql (hρ _ _ rfl) (hρ _ _ rfl)) (by rfl)) rfl rfl rfl (w_n rfl) ?_
            refine TL_q (.bool false) (fun _ _ hρ _ => r_move (hρ _ _ rfl)) rfl rfl rfl (w_n rfl) ?_
            refine TL_q (.bool false) (fun _ _ hρ _ => r_as (r_neqB (by kernel_rfl) (hρ _ _ rfl) (hρ _ _ rfl)) (by rfl)) rfl rfl rfl (w_n rfl) ?_
            refine TL_q (.bool false) (fun _ _ hρ _ => r_move (hρ _ _ rfl)) rfl rfl rfl (w_n rfl) ?_
            refine TL_q (.int .i64 2) (fun _ _ hρ _ => r_move (hρ _ _ rfl)) rfl rfl rfl (want_y 95 rfl rfl rfl) ?_
            refine TL_q (.bool true) (fun _ _ hρ _ => r_as (r_neq (hρ _ _ rfl) (hρ _ _ rfl)) (by rfl)) rfl rfl rfl (want_y 95 rfl rfl rfl) ?_
            refine TL_q (.bool true) (fun _ _ hρ _ => r_move (hρ _ _ rfl)) rfl rfl rfl (want_y 95 rfl rfl rfl) ?_
            refine TL_q (.int .i64 2) (fun _ _ hρ _ => r_move (hρ _ _ rfl)) rfl rfl rfl (want_y 98 rfl rfl rfl) ?_
            refine TL_q (.bool false) (fun _ _ hρ _ => r_as (r_neq (hρ _ _ rfl) (hρ _ _ rfl)) (by rfl)) rfl rfl rfl (want_y 98 rfl rfl rfl) ?_
            refine TL_q (.bool false) (fun _ _ hρ _ => r_pick_t (hρ _ _ rfl) (hρ _ _ rfl)) rfl rfl rfl (want_y 95 rfl rfl rfl) ?_
            refine TL_q (.bool false) (fun _ _ hρ _ => r_pick_f (hρ _ _ rfl) (hρ _ _ rfl)) rfl rfl rfl (w_n rfl) ?_
            refine TL_q (.bool false) (fun _ _ hρ _ => r_move (hρ _ _ rfl)) rfl rfl rfl (w_n rfl) ?_
            refine TL_q (.slice none 0 0) (fun _ _ hρ _ => r_move (hρ _ _ rfl)) rfl rfl rfl (want_y 103 rfl rfl rfl) ?_
            refine TL_q (.slice none 0 0) (fun _ _ hρ _ => r_move (hρ _ _ rfl)) rfl rfl rfl (want_y 103 rfl rfl rfl) ?_
            refine TL_call (.bool true) (fun _ _ hρ _ => r_call (args := [.slice none 0 0, .slice none 0 0]) (enters_of Try.func11 (by kernel_rfl) rfl) (hρ _ _ rfl) ((cons2 (hρ _ _ rfl) (cons2 (hρ _ _ rfl) rfl))) rfl) (fun w _ => (equal_b [] [] none none 0 0 w (sliceNil w) (sliceNil w) (Nat.le_of_ble_eq_true rfl) (Nat.le_of_ble_eq_true rfl)).mono fun _ _ h => ⟨h.1.trans (congrArg Ending.returned (bool_as (decide_eq_true (rfl)))), h.2⟩) rfl rfl rfl (want_y 103 rfl rfl rfl) ?_
            refine TL_q (.bool false) (fun _ _ hρ _ => r_not (b := true) (hρ _ _ rfl)) rfl rfl rfl (want_y 103 rfl rfl rfl) ?_
            refine TL_q (.bool false) (fun _ _ hρ _ => r_pick_f (hρ _ _ rfl) (hρ _ _ rfl)) rfl rfl rfl (w_n rfl) ?_
            refine TL_seq ?_
            refine T_cond_f rfl ?_
            refine T_skip' ?_
            refine p_seq ?_
            refine T_seq (T_region ?_)
            refine TL_q (.slice none 0 0) (fun _ _ hρ _ => r_move (hρ _ _ rfl)) rfl rfl rfl (w_n rfl) ?_
            refine TL_q (.int .i64 0) (fun _ _ hρ _ => r_len sl29 (hρ _ _ rfl)) rfl rfl rfl (w_n rfl) ?_
            refine TL_q (.int .i64 0) (fun _ _ hρ _ => r_move (hρ _ _ rfl)) rfl rfl rfl (w_n rfl) ?_
            refine TL_seq ?_
            refine T_block ?_
            refine T_rounds 1 ?_
            refine TR_succ ?_
            refine T_seq (T_region ?_)
            refine TL_q (.bool false) (fun _ _ hρ _ => r_as (r_lss (hρ _ _ rfl) (hρ _ _ rfl)) (by rfl)) rfl rfl rfl (w_n rfl) ?_
            refine TL_seq ?_
            refine T_seq ?_
            refine T_cond_f rfl ?_
            refine T_exit' ?_
            refine p_then_x ?_
            refine p_then_x ?_
            refine p_blk_x ?_
            refine p_blk_n ?_
            refine p_seq ?_
            refine T_region ?_
            refine TL_q (.int .i64 ((k + 1 : Nat) : Int)) (fun _ _ hρ _ => r_as (r_add (hρ _ _ rfl) (hρ _ _ rfl)) (int_as ((wrap64 (by omega) (by omega)).trans (by omega)))) rfl rfl rfl (w_n rfl) ?_
            refine TL_q (.int .i64 ((k + 1 : Nat) : Int)) (fun _ _ hρ _ => r_move (hρ _ _ rfl)) rfl rfl rfl (w_n rfl) ?_
            refine TL_nil ?_
            exact p_at (k + 1) ⟨by omega, by omega⟩ (sub_cons rfl (sub_cons rfl (sub_cons rfl (sub_cons rfl (sub_cons rfl (sub_cons rfl (sub_cons rfl sub_nil))))))) (sub_cons rfl (sub_cons rfl (sub_cons rfl (sub_cons rfl (sub_cons rfl sub_nil)))))
          · skip
            by_cases hS : spoilP (sealP (l.take 400)) ((x.1).toNat - 2) x.2 = none
            · skip
              have hsm := someN_f (by omega) hS
              refine T_seq (T_region ?_)
              refine TL_q (.pointer (some ⟨B7, 0, none⟩)) (fun _ _ hρ _ => r_indexAddrA (i := 0) ar25 sz24 (hρ _ _ rfl) (hρ _ _ rfl) (by decide)) rfl rfl rfl (w_n rfl) ?_
              refine TL_q (.int .u32 ((x.1).toNat : Int)) (fun _ _ hρ hm => r_load ag24 (hρ _ _ rfl) (hm.at 6 rfl) rfl) rfl rfl rfl (w_n rfl) ?_
              refine TL_q (.int .i64 ((x.1).toNat : Int)) (fun _ _ hρ _ => r_as (r_conv un24 io3 (hρ _ _ rfl)) (int_as (wrap64 (by omega) (by omega)))) rfl rfl rfl (w_n rfl) ?_
              refine TL_q (.int .i64 ((((x.1).toNat - 2) : Nat) : Int)) (fun _ _ hρ _ => r_as (r_sub (hρ _ _ rfl) (hρ _ _ rfl)) (int_as ((wrap64 (by omega) (by omega)).trans (by omega)))) rfl rfl rfl (w_n rfl) ?_
              refine TL_q (.int .i64 ((((x.1).toNat - 2) : Nat) : Int)) (fun _ _ hρ _ => r_assign (hρ _ _ rfl)) rfl rfl rfl (w_n rfl) ?_
              refine TL_seq ?_
              refine T_seq (T_region ?_)
              refine TL_q (.slice a2 ((sealP (l.take 400)).length) cap2) (fun _ _ hρ _ => r_move (hρ _ _ rfl)) rfl rfl rfl (w_n rfl) ?_
              refine TL_q (.int .i64 ((((x.1).toNat - 2) : Nat) : Int)) (fun _ _ hρ _ => r_move (hρ _ _ rfl)) rfl rfl rfl (w_n rfl) ?_
              refine TL_q (.pointer (some ⟨B7, 1, none⟩)) (fun _ _ hρ _ => r_indexAddrA (i := 1) ar25 sz24 (hρ _ _ rfl) (hρ _ _ rfl) (by decide)) rfl rfl rfl (w_n rfl) ?_
              refine TL_q (.int .u32 ((x.2).toNat : Int)) (fun _ _ hρ hm => r_load ag24 (hρ _ _ rfl) (hm.at 6 rfl) rfl) rfl rfl rfl (w_n rfl) ?_
              refine TL_callN (fun (_ : Option Addr × Nat) => True) (fun (a16, cap16) => .tuple #[.slice a16 0 cap16, .int .i64 2]) (fun (a16, cap16) => [(13, .row (.slice a16 0 cap16) 5 1 0 [])]) (fun _ _ hρ _ => r_call (args := [.slice a2 ((sealP (l.take 400)).length) cap2, .int .i64 ((((x.1).toNat - 2) : Nat) : Int), .int .u32 ((x.2).toNat : Int)]) (enters_of Try.func18 (by kernel_rfl) rfl) (hρ _ _ rfl) ((cons2 (hρ _ _ rfl) (cons2 (hρ _ _ rfl) (cons2 (hρ _ _ rfl) rfl)))) rfl) (fun w hm => (by have hb := spoil_in ((x.1).toNat - 2) x.2 (sealP (l.take 400)) a2 cap2 w (SliceAt.own byc_len (hm.row 2 rfl) rfl rfl) (by omega) (row_cap (hm.row 2 rfl)) (by omega); rw [hS] at hb; exact hb.mono fun e w' ⟨a', cap', he, hb, hr⟩ => ⟨(a', cap'), trivial, he, hb, newOk1 13 hr⟩)) rfl rfl rfl (w_n rfl) ?_
              rintro ⟨a16, cap16⟩ -
              refine TL_q (.tuple #[.slice a16 0 cap16, .int .i64 2]) (fun _ _ hρ _ => r_move (hρ _ _ rfl)) rfl rfl rfl (w_n rfl) ?_
              refine TL_q (.slice a16 0 cap16) (fun _ _ hρ _ => r_extract (hρ _ _ rfl) rfl) rfl rfl rfl (w_n rfl) ?_
              refine TL_q (.int .i64 2) (fun _ _ hρ _ => r_extract (hρ _ _ rfl) rfl) rfl rfl rfl (w_n rfl) ?_
              refine TL_q (.slice a16 0 cap16) (fun _ _ hρ _ => r_assign (hρ _ _ rfl)) rfl rfl rfl (w_n rfl) ?_
              refine TL_q (.int .i64 2) (fun _ _ hρ _ => r_assign (hρ _ _ rfl)) rfl rfl rfl (w_n rfl) ?_
              refine TL_seq ?_
              refine T_seq (T_region ?_)
              refine TL_q (.slice a2 ((sealP (l.take 400)).length) cap2) (fun _ _ hρ _ => r_move (hρ _ _ rfl)) rfl rfl rfl (w_n rfl) ?_
              refine TL_q (.int .i64 ((((x.1).toNat - 2) : Nat) : Int)) (fun _ _ hρ _ => r_move (hρ _ _ rfl)) rfl rfl rfl (w_n rfl) ?_
              refine TL_q (.pointer (some ⟨B7, 1, none⟩)) (fun _ _ hρ _ => r_indexAddrA (i := 1) ar25 sz24 (hρ _ _ rfl) (hρ _ _ rfl) (by decide)) rfl rfl rfl (w_n rfl) ?_
              refine TL_q (.int .u32 ((x.2).toNat : Int)) (fun _ _ hρ hm => r_load ag24 (hρ _ _ rfl) (hm.at 6 rfl) rfl) rfl rfl rfl (w_n rfl) ?_
              refine TL_callN (fun (_ : Option Addr × Nat) => True) (fun (a17, cap17) => .tuple #[.slice a17 ((spoilN (sealP (l.take 400)) ((x.1).toNat - 2) x.2 32).length) cap17, .bool false]) (fun (a17, cap17) => [(14, .row (.slice a17 ((spoilN (sealP (l.take 400)) ((x.1).toNat - 2) x.2 32).length) cap17) 5 1 ((spoilN (sealP (l.take 400)) ((x.1).toNat - 2) x.2 32).length) ((spoilN (sealP (l.take 400)) ((x.1).toNat - 2) x.2 32).flatMap byc))]) (fun _ _ hρ _ => r_call (args := [.slice a2 ((sealP (l.take 400)).length) cap2, .int .i64 ((((x.1).toNat - 2) : Nat) : Int), .int .u32 ((x.2).toNat : Int)]) (enters_of Try.func19 (by kernel_rfl) rfl) (hρ _ _ rfl) ((cons2 (hρ _ _ rfl) (cons2 (hρ _ _ rfl) (cons2 (hρ _ _ rfl) rfl)))) rfl) (fun w hm => (by have hb := rspoil_in ((x.1).toNat - 2) x.2 (sealP (l.take 400)) a2 cap2 w (SliceAt.own byc_len (hm.row 2 rfl) rfl rfl) (by omega) (row_cap (hm.row 2 rfl)) (by omega); rw [hsm] at hb; exact hb.mono fun e w' ⟨a', cap', he, hb, hr⟩ => ⟨(a', cap'), trivial, he, hb, newOk1 14 hr⟩)) rfl rfl rfl (w_n rfl) ?_
              rintro ⟨a17, cap17⟩ -
              refine TL_q (.tuple #[.slice a17 ((spoilN (sealP (l.take 400)) ((x.1).toNat - 2) x.2 32).length) cap17, .bool false]) (fun _ _ hρ _ => r_move (hρ _ _ rfl)) rfl rfl rfl (w_n rfl) ?_
              refine TL_q (.slice a17 ((spoilN (sealP (l.take 400)) ((x.1).toNat - 2) x.2 32).length) cap17) (fun _ _ hρ _ => r_extract (hρ _ _ rfl) rfl) rfl rfl rfl (w_n rfl) ?_
              refine TL_q (.bool false) (fun _ _ hρ _ => r_extract (hρ _ _ rfl) rfl) rfl rfl rfl (w_n rfl) ?_
              refine TL_q (.slice a17 ((spoilN (sealP (l.take 400)) ((x.1).toNat - 2) x.2 32).length) cap17) (fun _ _ hρ _ => r_assign (hρ _ _ rfl)) rfl rfl rfl (w_n rfl) ?_
              refine TL_q (.bool false) (fun _ _ hρ _ => r_assign (hρ _ _ rfl)) rfl rfl rfl (w_n rfl) ?_
              refine TL_seq ?_
              refine T_sub [(0, .slice a l.length cap), (5, .slice a1 ((l.take 400).length) cap1), (6, .slice a2 ((sealP (l.take 400)).length) cap2), (7, .slice a4 ((openL (l.take 400)).length) cap4), (60, .slice (some ⟨b6, of6, none⟩) ps.length capp), (61, .int .i64 ((ps.length : Nat) : Int)), (62, .int .i64 ((k : Nat) : Int)), (63, .bool (decide (((k : Nat) : Int) < ((ps.length : Nat) : Int)))), (64, .int .i64 ((k : Nat) : Int)), (65, .pointer (some ⟨b6, of6 + k * 2, none⟩)), (66, .agg #[.int .u32 ((x.1).toNat : Int), .int .u32 ((x.2).toNat : Int)]), (12, .pointer (some ⟨B7, 0, none⟩)), (11, .int .i64 ((k : Nat) : Int)), (67, .int .i64 ((k : Nat) : Int)), (68, .bool (decide (((k : Nat) : Int) = 8))), (69, .pointer (some ⟨B7, 0, none⟩)), (70, .int .u32 ((x.1).toNat : Int)), (71, .int .i64 ((x.1).toNat : Int)), (72, .int .i64 ((((x.1).toNat - 2) : Nat) : Int)), (13, .int .i64 ((((x.1).toNat - 2) : Nat) : Int)), (74, .slice a2 ((sealP (l.take 400)).length) cap2), (75, .int .i64 ((((x.1).toNat - 2) : Nat) : Int)), (76, .pointer (some ⟨B7, 1, none⟩)), (77, .int .u32 ((x.2).toNat : Int)), (78, .tuple #[.slice a16 0 cap16, .int .i64 2]), (73, .tuple #[.slice a16 0 cap16, .int .i64 2]), (79, .slice a16 0 cap16), (80, .int .i64 2), (14, .slice a16 0 cap16), (15, .int .i64 2), (82, .slice a2 ((sealP (l.take 400)).length) cap2), (83, .int .i64 ((((x.1).toNat - 2) : Nat) : Int)), (84, .pointer (some ⟨B7, 1, none⟩)), (85, .int .u32 ((x.2).toNat : Int)), (86, .tuple #[.slice a17 ((spoilN (sealP (l.take 400)) ((x.1).toNat - 2) x.2 32).length) cap17, .bool false]), (81, .tuple #[.slice a17 ((spoilN (sealP (l.take 400)) ((x.1).toNat - 2) x.2 32).length) cap17, .bool false]), (87, .slice a17 ((spoilN (sealP (l.take 400)) ((x.1).toNat - 2) x.2 32).length) cap17), (88, .bool false), (16, .slice a17 ((spoilN (sealP (l.take 400)) ((x.1).toNat - 2) x.2 32).length) cap17), (17, .bool false)] [(14, .row (.slice a17 ((spoilN (sealP (l.take 400)) ((x.1).toNat - 2) x.2 32).length) cap17) 5 1 ((spoilN (sealP (l.take 400)) ((x.1).toNat - 2) x.2 32).length) ((spoilN (sealP (l.take 400)) ((x.1).toNat - 2) x.2 32).flatMap byc)), (13, .row (.slice a16 0 cap16) 5 1 0 []), (5, .row (.slice a5 ((openL (l.take 400)).length) cap5) 5 1 ((openL (l.take 400)).length) ((openL (l.take 400)).flatMap byc)), (4, .row (.slice a4 ((openL (l.take 400)).length) cap4) 5 1 ((openL (l.take 400)).length) ((openL (l.take 400)).flatMap byc)), (3, .row (.slice a3 ((sealP (l.take 400)).length) cap3) 5 1 ((sealP (l.take 400)).length) ((sealP (l.take 400)).flatMap byc)), (2, .row (.slice a2 ((sealP (l.take 400)).length) cap2) 5 1 ((sealP (l.take 400)).length) ((sealP (l.take 400)).flatMap byc)), (1, .row (.slice a1 ((l.take 400).length) cap1) 5 1 ((l.take 400).length) ((l.take 400).flatMap byc)), (6, .blk B7 (.cells #[.int .u32 ((x.1).toNat : Int), .int .u32 ((x.2).toNat : Int)] 25))] (sub_cons rfl (sub_cons rfl (sub_cons rfl (sub_cons rfl (sub_cons rfl (sub_cons rfl (sub_cons rfl (sub_cons rfl (sub_cons rfl (sub_cons rfl (sub_cons rfl (sub_cons rfl (sub_cons rfl (sub_cons rfl (sub_cons rfl (sub_cons rfl (sub_cons rfl (sub_cons rfl (sub_cons rfl (sub_cons rfl (sub_cons rfl (sub_cons rfl (sub_cons rfl (sub_cons rfl (sub_cons rfl (sub_cons rfl (sub_cons rfl (sub_cons rfl (sub_cons rfl (sub_cons rfl (sub_cons rfl (sub_cons rfl (sub_cons rfl (sub_cons rfl (sub_cons rfl (sub_cons rfl (sub_cons rfl (sub_cons rfl (sub_cons rfl (sub_cons rfl sub_nil)))))))))))))))))))))))))))))))))))))))) (sub_cons rfl (sub_cons rfl (sub_cons rfl (sub_cons rfl (sub_cons rfl (sub_cons rfl (sub_cons rfl (sub_cons rfl sub_nil)))))))) ?_
              refine T_seq ?_
              refine T_seq (T_region ?_)
              refine TL_q (.bool false) (fun _ _ hρ _ => r_move (hρ _ _ rfl)) rfl rfl rfl (w_n rfl) ?_
              refine TL_q (.bool true) (fun _ _ hρ _ => r_not (b := false) (hρ _ _ rfl)) rfl rfl rfl (w_n rfl) ?_
              refine TL_seq ?_
              refine T_cond_t rfl ?_
              refine T_region ?_
              refine TL_q (.slice none 0 0) (fun _ _ hρ _ => r_assign (hρ _ _ rfl)) rfl rfl rfl (w_n rfl) ?_
              refine TL_nil ?_
              refine p_seq ?_
              refine T_seq ?_
              refine T_seq (T_region ?_)
              refine TL_q (.int .i64 2) (fun _ _ hρ _ => r_move (hρ _ _ rfl)) rfl rfl rfl (w_n rfl) ?_
              refine TL_q (.bool false) (fun _ _ hρ _ => r_as (r_eql (hρ _ _ rfl) (hρ _ _ rfl)) (by rfl)) rfl rfl rfl (w_n rfl) ?_
              refine TL_q (.bool false) (fun _ _ hρ _ => r_move (hρ _ _ rfl)) rfl rfl rfl (w_n rfl) ?_
              refine TL_q (.bool false) (fun _ _ hρ _ => r_as (r_neqB (by kernel_rfl) (hρ _ _ rfl) (hρ _ _ rfl)) (by rfl)) rfl rfl rfl (w_n rfl) ?_
              refine TL_q (.bool false) (fun _ _ hρ _ => r_move (hρ _ _ rfl)) rfl rfl rfl (w_n rfl) ?_
              refine TL_q (.int .i64 2) (fun _ _ hρ _ => r_move (hρ _ _ rfl)) rfl rfl rfl (want_y 95 rfl rfl rfl) ?_
              refine TL_q (.bool true) (fun _ _ hρ _ => r_as (r_neq (hρ _ _ rfl) (hρ _ _ rfl)) (by rfl)) rfl rfl rfl (want_y 95 rfl rfl rfl) ?_
              refine TL_q (.bool true) (fun _ _ hρ _ => r_move (hρ _ _ rfl)) rfl rfl rfl (want_y 95 rfl rfl rfl) ?_
              refine TL_q (.int .i64 2) (fun _ _ hρ _ => r_move (hρ _ _ rfl)) rfl rfl rfl (want_y 98 rfl rfl rfl) ?_
              refine TL_q (.bool false) (fun _ _ hρ _ => r_as (r_neq (hρ _ _ rfl) (hρ _ _ rfl)) (by rfl)) rfl rfl rfl (want_y 98 rfl rfl rfl) ?_
              refine TL_q (.bool false) (fun _ _ hρ _ => r_pick_t (hρ _ _ rfl) (hρ _ _ rfl)) rfl rfl rfl (want_y 95 rfl rfl rfl) ?_
              refine TL_q (.bool false) (fun _ _ hρ _ => r_pick_f (hρ _ _ rfl) (hρ _ _ rfl)) rfl rfl rfl (w_n rfl) ?_
              refine TL_q (.bool false) (fun _ _ hρ _ => r_move (hρ _ _ rfl)) rfl rfl rfl (w_n rfl) ?_
              refine TL_q (.slice a16 0 cap16) (fun _ _ hρ _ => r_move (hρ _ _ rfl)) rfl rfl rfl (want_y 103 rfl rfl rfl) ?_
              refine TL_q (.slice none 0 0) (fun _ _ hρ _ => r_move (hρ _ _ rfl)) rfl rfl rfl (want_y 103 rfl rfl rfl) ?_
              refine TL_call (.bool true) (fun _ _ hρ _ => r_call (args := [.slice a16 0 cap16, .slice none 0 0]) (enters_of Try.func11 (by kernel_rfl) rfl) (hρ _ _ rfl) ((cons2 (hρ _ _ rfl) (cons2 (hρ _ _ rfl) rfl))) rfl) (fun w hm => (equal_b [] [] a16 none cap16 0 w (SliceAt.own byc_len (hm.row 13 rfl) rfl rfl) (sliceNil w) (Nat.le_of_ble_eq_true rfl) (Nat.le_of_ble_eq_true rfl)).mono fun _ _ h => ⟨h.1.trans (congrArg Ending.returned (bool_as (decide_eq_true (rfl)))), h.2⟩) rfl rfl rfl (want_y 103 rfl rfl rfl) ?_
              refine TL_q (.bool false) (fun _ _ hρ _ => r_not (b := true) (hρ _ _ rfl)) rfl rfl rfl (want_y 103 rfl rfl rfl) ?_
              refine TL_q (.bool false) (fun _ _ hρ _ => r_pick_f (hρ _ _ rfl) (hρ _ _ rfl)) rfl rfl rfl (w_n rfl) ?_
              refine TL_seq ?_
              refine T_cond_f rfl ?_
              refine T_skip' ?_
              refine p_seq ?_
              refine T_seq (T_region ?_)
              refine TL_q (.slice a16 0 cap16) (fun _ _ hρ _ => r_move (hρ _ _ rfl)) rfl rfl rfl (w_n rfl) ?_
              refine TL_q (.int .i64 0) (fun _ _ hρ _ => r_len sl29 (hρ _ _ rfl)) rfl rfl rfl (w_n rfl) ?_
              refine TL_q (.int .i64 0) (fun _ _ hρ _ => r_move (hρ _ _ rfl)) rfl rfl rfl (w_n rfl) ?_
              refine TL_seq ?_
              refine T_block ?_
              refine T_rounds 1 ?_
              refine TR_succ ?_
              refine T_seq (T_region ?_)
              refine TL_q (.bool false) (fun _ _ hρ _ => r_as (r_lss (hρ _ _ rfl) (hρ _ _ rfl)) (by rfl)) rfl rfl rfl (w_n rfl) ?_
              refine TL_seq ?_
              refine T_seq ?_
              refine T_cond_f rfl ?_
              refine T_exit' ?_
              refine p_then_x ?_
              refine p_then_x ?_
              refine p_blk_x ?_
              refine p_blk_n ?_
              refine p_seq ?_
              refine T_region ?_
              refine TL_q (.int .i64 ((k + 1 : Nat) : Int)) (fun _ _ hρ _ => r_as (r_add (hρ _ _ rfl) (hρ _ _ rfl)) (int_as ((wrap64 (by omega) (by omega)).trans (by omega)))) rfl rfl rfl (w_n rfl) ?_
              refine TL_q (.int .i64 ((k + 1 : Nat) : Int)) (fun _ _ hρ _ => r_move (hρ _ _ rfl)) rfl rfl rfl (w_n rfl) ?_
              refine TL_nil ?_
              exact p_at (k + 1) ⟨by omega, by omega⟩ (sub_cons rfl (sub_cons rfl (sub_cons rfl (sub_cons rfl (sub_cons rfl (sub_cons rfl (sub_cons rfl sub_nil))))))) (sub_cons rfl (sub_cons rfl (sub_cons rfl (sub_cons rfl (sub_cons rfl sub_nil)))))
            · skip
              have hS1 := (spoilP_s hS).1
              have hsm := (spoilP_s hS).2
              have hql2 : (spoilN (sealP (l.take 400)) ((x.1).toNat - 2) x.2 32).length = (sealP (l.take 400)).length := spoilN_len _ _ _ _
              refine T_seq (T_region ?_)
              refine TL_q (.pointer (some ⟨B7, 0, none⟩)) (fun _ _ hρ _ => r_indexAddrA (i := 0) ar25 sz24 (hρ _ _ rfl) (hρ _ _ rfl) (by decide)) rfl rfl rfl (w_n rfl) ?_
              refine TL_q (.int .u32 ((x.1).toNat : Int)) (fun _ _ hρ hm => r_load ag24 (hρ _ _ rfl) (hm.at 6 rfl) rfl) rfl rfl rfl (w_n rfl) ?_
              refine TL_q (.int .i64 ((x.1).toNat : Int)) (fun _ _ hρ _ => r_as (r_conv un24 io3 (hρ _ _ rfl)) (int_as (wrap64 (by omega) (by omega)))) rfl rfl rfl (w_n rfl) ?_
              refine TL_q (.int .i64 ((((x.1).toNat - 2) : Nat) : Int)) (fun _ _ hρ _ => r_as (r_sub (hρ _ _ rfl) (hρ _ _ rfl)) (int_as ((wrap64 (by omega) (by omega)).trans (by omega)))) rfl rfl rfl (w_n rfl) ?_
              refine TL_q (.int .i64 ((((x.1).toNat - 2) : Nat) : Int)) (fun _ _ hρ _ => r_assign (hρ _ _ rfl)) rfl rfl rfl (w_n rfl) ?_
              refine TL_seq ?_
              refine T_seq (T_region ?_)
              refine TL_q (.slice a2 ((sealP (l.take 400)).length) cap2) (fun _ _ hρ _ => r_move (hρ _ _ rfl)) rfl rfl rfl (w_n rfl) ?_
              refine TL_q (.int .i64 ((((x.1).toNat - 2) : Nat) : Int)) (fun _ _ hρ _ => r_move (hρ _ _ rfl)) rfl rfl rfl (w_n rfl) ?_
              refine TL_q (.pointer (some ⟨B7, 1, none⟩)) (fun _ _ hρ _ => r_indexAddrA (i := 1) ar25 sz24 (hρ _ _ rfl) (hρ _ _ rfl) (by decide)) rfl rfl rfl (w_n rfl) ?_
              refine TL_q (.int .u32 ((x.2).toNat : Int)) (fun _ _ hρ hm => r_load ag24 (hρ _ _ rfl) (hm.at 6 rfl) rfl) rfl rfl rfl (w_n rfl) ?_
              refine TL_callN (fun (_ : Option Addr × Nat) => True) (fun (a18, cap18) => .tuple #[.slice a18 ((spoilN (sealP (l.take 400)) ((x.1).toNat - 2) x.2 32).length) cap18, .int .i64 0]) (fun (a18, cap18) => [(15, .row (.slice a18 ((spoilN (sealP (l.take 400)) ((x.1).toNat - 2) x.2 32).length) cap18) 5 1 ((spoilN (sealP (l.take 400)) ((x.1).toNat - 2) x.2 32).length) ((spoilN (sealP (l.take 400)) ((x.1).toNat - 2) x.2 32).flatMap byc))]) (fun _ _ hρ _ => r_call (args := [.slice a2 ((sealP (l.take 400)).length) cap2, .int .i64 ((((x.1).toNat - 2) : Nat) : Int), .int .u32 ((x.2).toNat : Int)]) (enters_of Try.func18 (by kernel_rfl) rfl) (hρ _ _ rfl) ((cons2 (hρ _ _ rfl) (cons2 (hρ _ _ rfl) (cons2 (hρ _ _ rfl) rfl)))) rfl) (fun w hm => (by have hb := spoil_in ((x.1).toNat - 2) x.2 (sealP (l.take 400)) a2 cap2 w (SliceAt.own byc_len (hm.row 2 rfl) rfl rfl) (by omega) (row_cap (hm.row 2 rfl)) (by omega); rw [hS1] at hb; exact hb.mono fun e w' ⟨a', cap', he, hb, hr⟩ => ⟨(a', cap'), trivial, he, hb, newOk1 15 hr⟩)) rfl rfl rfl (w_n rfl) ?_
              rintro ⟨a18, cap18⟩ -
              refine TL_q (.tuple #[.slice a18 ((spoilN (sealP (l.take 400)) ((x.1).toNat - 2) x.2 32).length) cap18, .int .i64 0]) (fun _ _ hρ _ => r_move (hρ _ _ rfl)) rfl rfl rfl (w_n rfl) ?_
              refine TL_q (.slice a18 ((spoilN (sealP (l.take 400)) ((x.1).toNat - 2) x.2 32).length) cap18) (fun _ _ hρ _ => r_extract (hρ _ _ rfl) rfl) rfl rfl rfl (w_n rfl) ?_
              refine TL_q (.int .i64 0) (fun _ _ hρ _ => r_extract (hρ _ _ rfl) rfl) rfl rfl rfl (w_n rfl) ?_
              refine TL_q (.slice a18 ((spoilN (sealP (l.take 400)) ((x.1).toNat - 2) x.2 32).length) cap18) (fun _ _ hρ _ => r_assign (hρ _ _ rfl)) rfl rfl rfl (w_n rfl) ?_
              refine TL_q (.int .i64 0) (fun _ _ hρ _ => r_assign (hρ _ _ rfl)) rfl rfl rfl (w_n rfl) ?_
              refine TL_seq ?_
              refine T_seq (T_region ?_)
              refine TL_q (.slice a2 ((sealP (l.take 400)).length) cap2) (fun _ _ hρ _ => r_move (hρ _ _ rfl)) rfl rfl rfl (w_n rfl) ?_
              refine TL_q (.int .i64 ((((x.1).toNat - 2) : Nat) : Int)) (fun _ _ hρ _ => r_move (hρ _ _ rfl)) rfl rfl rfl (w_n rfl) ?_
              refine TL_q (.pointer (some ⟨B7, 1, none⟩)) (fun _ _ hρ _ => r_indexAddrA (i := 1) ar25 sz24 (hρ _ _ rfl) (hρ _ _ rfl) (by decide)) rfl rfl rfl (w_n rfl) ?_
              refine TL_q (.int .u32 ((x.2).toNat : Int)) (fun _ _ hρ hm => r_load ag24 (hρ _ _ rfl) (hm.at 6 rfl) rfl) rfl rfl rfl (w_n rfl) ?_
              refine TL_callN (fun (_ : Option Addr × Nat) => True) (fun (a19, cap19) => .tuple #[.slice a19 ((spoilN (sealP (l.take 400)) ((x.1).toNat - 2) x.2 32).length) cap19, .bool true]) (fun (a19, cap19) => [(16, .row (.slice a19 ((spoilN (sealP (l.take 400)) ((x.1).toNat - 2) x.2 32).length) cap19) 5 1 ((spoilN (sealP (l.take 400)) ((x.1).toNat - 2) x.2 32).length) ((spoilN (sealP (l.take 400)) ((x.1).toNat - 2) x.2 32).flatMap byc))]) (fun _ _ hρ _ => r_call (args := [.slice a2 ((sealP (l.take 400)).length) cap2, .int .i64 ((((x.1).toNat - 2) : Nat) : Int), .int .u32 ((x.2).toNat : Int)]) (enters_of Try.func19 (by kernel_rfl) rfl) (hρ _ _ rfl) ((cons2 (hρ _ _ rfl) (cons2 (hρ _ _ rfl) (cons2 (hρ _ _ rfl) rfl)))) rfl) (fun w hm => (by have hb := rspoil_in ((x.1).toNat - 2) x.2 (sealP (l.take 400)) a2 cap2 w (SliceAt.own byc_len (hm.row 2 rfl) rfl rfl) (by omega) (row_cap (hm.row 2 rfl)) (by omega); rw [hsm] at hb; exact hb.mono fun e w' ⟨a', cap', he, hb, hr⟩ => ⟨(a', cap'), trivial, he, hb, newOk1 16 hr⟩)) rfl rfl rfl (w_n rfl) ?_
              rintro ⟨a19, cap19⟩ -
              refine TL_q (.tuple #[.slice a19 ((spoilN (sealP (l.take 400)) ((x.1).toNat - 2) x.2 32).length) cap19, .bool true]) (fun _ _ hρ _ => r_move (hρ _ _ rfl)) rfl rfl rfl (w_n rfl) ?_
              refine TL_q (.slice a19 ((spoilN (sealP (l.take 400)) ((x.1).toNat - 2) x.2 32).length) cap19) (fun _ _ hρ _ => r_extract (hρ _ _ rfl) rfl) rfl rfl rfl (w_n rfl) ?_
              refine TL_q (.bool true) (fun _ _ hρ _ => r_extract (hρ _ _ rfl) rfl) rfl rfl rfl (w_n rfl) ?_
              refine TL_q (.slice a19 ((spoilN (sealP (l.take 400)) ((x.1).toNat - 2) x.2 32).length) cap19) (fun _ _ hρ _ => r_assign (hρ _ _ rfl)) rfl rfl rfl (w_n rfl) ?_
              refine TL_q (.bool true) (fun _ _ hρ _ => r_assign (hρ _ _ rfl)) rfl rfl rfl (w_n rfl) ?_
              refine TL_seq ?_
              refine T_sub [(0, .slice a l.length cap), (5, .slice a1 ((l.take 400).length) cap1), (6, .slice a2 ((sealP (l.take 400)).length) cap2), (7, .slice a4 ((openL (l.take 400)).length) cap4), (60, .slice (some ⟨b6, of6, none⟩) ps.length capp), (61, .int .i64 ((ps.length : Nat) : Int)), (62, .int .i64 ((k : Nat) : Int)), (63, .bool (decide (((k : Nat) : Int) < ((ps.length : Nat) : Int)))), (64, .int .i64 ((k : Nat) : Int)), (65, .pointer (some ⟨b6, of6 + k * 2, none⟩)), (66, .agg #[.int .u32 ((x.1).toNat : Int), .int .u32 ((x.2).toNat : Int)]), (12, .pointer (some ⟨B7, 0, none⟩)), (11, .int .i64 ((k : Nat) : Int)), (67, .int .i64 ((k : Nat) : Int)), (68, .bool (decide (((k : Nat) : Int) = 8))), (69, .pointer (some ⟨B7, 0, none⟩)), (70, .int .u32 ((x.1).toNat : Int)), (71, .int .i64 ((x.1).toNat : Int)), (72, .int .i64 ((((x.1).toNat - 2) : Nat) : Int)), (13, .int .i64 ((((x.1).toNat - 2) : Nat) : Int)), (74, .slice a2 ((sealP (l.take 400)).length) cap2), (75, .int .i64 ((((x.1).toNat - 2) : Nat) : Int)), (76, .pointer (some ⟨B7, 1, none⟩)), (77, .int .u32 ((x.2).toNat : Int)), (78, .tuple #[.slice a18 ((spoilN (sealP (l.take 400)) ((x.1).toNat - 2) x.2 32).length) cap18, .int .i64 0]), (73, .tuple #[.slice a18 ((spoilN (sealP (l.take 400)) ((x.1).toNat - 2) x.2 32).length) cap18, .int .i64 0]), (79, .slice a18 ((spoilN (sealP (l.take 400)) ((x.1).toNat - 2) x.2 32).length) cap18), (80, .int .i64 0), (14, .slice a18 ((spoilN (sealP (l.take 400)) ((x.1).toNat - 2) x.2 32).length) cap18), (15, .int .i64 0), (82, .slice a2 ((sealP (l.take 400)).length) cap2), (83, .int .i64 ((((x.1).toNat - 2) : Nat) : Int)), (84, .pointer (some ⟨B7, 1, none⟩)), (85, .int .u32 ((x.2).toNat : Int)), (86, .tuple #[.slice a19 ((spoilN (sealP (l.take 400)) ((x.1).toNat - 2) x.2 32).length) cap19, .bool true]), (81, .tuple #[.slice a19 ((spoilN (sealP (l.take 400)) ((x.1).toNat - 2) x.2 32).length) cap19, .bool true]), (87, .slice a19 ((spoilN (sealP (l.take 400)) ((x.1).toNat - 2) x.2 32).length) cap19), (88, .bool true), (16, .slice a19 ((spoilN (sealP (l.take 400)) ((x.1).toNat - 2) x.2 32).length) cap19), (17, .bool true)] [(16, .row (.slice a19 ((spoilN (sealP (l.take 400)) ((x.1).toNat - 2) x.2 32).length) cap19) 5 1 ((spoilN (sealP (l.take 400)) ((x.1).toNat - 2) x.2 32).length) ((spoilN (sealP (l.take 400)) ((x.1).toNat - 2) x.2 32).flatMap byc)), (15, .row (.slice a18 ((spoilN (sealP (l.take 400)) ((x.1).toNat - 2) x.2 32).length) cap18) 5 1 ((spoilN (sealP (l.take 400)) ((x.1).toNat - 2) x.2 32).length) ((spoilN (sealP (l.take 400)) ((x.1).toNat - 2) x.2 32).flatMap byc)), (5, .row (.slice a5 ((openL (l.take 400)).length) cap5) 5 1 ((openL (l.take 400)).length) ((openL (l.take 400)).flatMap byc)), (4, .row (.slice a4 ((openL (l.take 400)).length) cap4) 5 1 ((openL (l.take 400)).length) ((openL (l.take 400)).flatMap byc)), (3, .row (.slice a3 ((sealP (l.take 400)).length) cap3) 5 1 ((sealP (l.take 400)).length) ((sealP (l.take 400)).flatMap byc)), (2, .row (.slice a2 ((sealP (l.take 400)).length) cap2) 5 1 ((sealP (l.take 400)).length) ((sealP (l.take 400)).flatMap byc)), (1, .row (.slice a1 ((l.take 400).length) cap1) 5 1 ((l.take 400).length) ((l.take 400).flatMap byc)), (6, .blk B7 (.cells #[.int .u32 ((x.1).toNat : Int), .int .u32 ((x.2).toNat : Int)] 25))] (sub_cons rfl (sub_cons rfl (sub_cons rfl (sub_cons rfl (sub_cons rfl (sub_cons rfl (sub_cons rfl (sub_cons rfl (sub_cons rfl (sub_cons rfl (sub_cons rfl (sub_cons rfl (sub_cons rfl (sub_cons rfl (sub_cons rfl (sub_cons rfl (sub_cons rfl (sub_cons rfl (sub_cons rfl (sub_cons rfl (sub_cons rfl (sub_cons rfl (sub_cons rfl (sub_cons rfl (sub_cons rfl (sub_cons rfl (sub_cons rfl (sub_cons rfl (sub_cons rfl (sub_cons rfl (sub_cons rfl (sub_cons rfl (sub_cons rfl (sub_cons rfl (sub_cons rfl (sub_cons rfl (sub_cons rfl (sub_cons rfl (sub_cons rfl (sub_cons rfl sub_nil)))))))))))))))))))))))))))))))))))))))) (sub_cons rfl (sub_cons rfl (sub_cons rfl (sub_cons rfl (sub_cons rfl (sub_cons rfl (sub_cons rfl (sub_cons rfl sub_nil)))))))) ?_
              refine T_seq ?_
              refine T_seq (T_region ?_)
              refine TL_q (.bool true) (fun _ _ hρ _ => r_move (hρ _ _ rfl)) rfl rfl rfl (w_n rfl) ?_
              refine TL_q (.bool false) (fun _ _ hρ _ => r_not (b := true) (hρ _ _ rfl)) rfl rfl rfl (w_n rfl) ?_
              refine TL_seq ?_
              refine T_cond_f rfl ?_
              refine T_skip' ?_
              refine p_seq ?_
              refine T_seq ?_
              refine T_seq (T_region ?_)
              refine TL_q (.int .i64 0) (fun _ _ hρ _ => r_move (hρ _ _ rfl)) rfl rfl rfl (w_n rfl) ?_
              refine TL_q (.bool true) (fun _ _ hρ _ => r_as (r_eql (hρ _ _ rfl) (hρ _ _ rfl)) (by rfl)) rfl rfl rfl (w_n rfl) ?_
              refine TL_q (.bool true) (fun _ _ hρ _ => r_move (hρ _ _ rfl)) rfl rfl rfl (w_n rfl) ?_
              refine TL_q (.bool false) (fun _ _ hρ _ => r_as (r_neqB (by kernel_rfl) (hρ _ _ rfl) (hρ _ _ rfl)) (by rfl)) rfl rfl rfl (w_n rfl) ?_
              refine TL_q (.bool false) (fun _ _ hρ _ => r_move (hρ _ _ rfl)) rfl rfl rfl (w_n rfl) ?_
              refine TL_q (.int .i64 0) (fun _ _ hρ _ => r_move (hρ _ _ rfl)) rfl rfl rfl (want_y 95 rfl rfl rfl) ?_
              refine TL_q (.bool false) (fun _ _ hρ _ => r_as (r_neq (hρ _ _ rfl) (hρ _ _ rfl)) (by rfl)) rfl rfl rfl (want_y 95 rfl rfl rfl) ?_
              refine TL_q (.bool false) (fun _ _ hρ _ => r_move (hρ _ _ rfl)) rfl rfl rfl (want_y 95 rfl rfl rfl) ?_
              refine TL_no rfl rfl (want_n 98 rfl rfl rfl) ?_
              refine TL_no rfl rfl (want_n 98 rfl rfl rfl) ?_
              refine TL_q (.bool false) (fun _ _ hρ _ => r_pick_f (hρ _ _ rfl) (hρ _ _ rfl)) rfl rfl rfl (want_y 95 rfl rfl rfl) ?_
              refine TL_q (.bool false) (fun _ _ hρ _ => r_pick_f (hρ _ _ rfl) (hρ _ _ rfl)) rfl rfl rfl (w_n rfl) ?_
              refine TL_q (.bool false) (fun _ _ hρ _ => r_move (hρ _ _ rfl)) rfl rfl rfl (w_n rfl) ?_
              refine TL_q (.slice a18 ((spoilN (sealP (l.take 400)) ((x.1).toNat - 2) x.2 32).length) cap18) (fun _ _ hρ _ => r_move (hρ _ _ rfl)) rfl rfl rfl (want_y 103 rfl rfl rfl) ?_
              refine TL_q (.slice a19 ((spoilN (sealP (l.take 400)) ((x.1).toNat - 2) x.2 32).length) cap19) (fun _ _ hρ _ => r_move (hρ _ _ rfl)) rfl rfl rfl (want_y 103 rfl rfl rfl) ?_
              refine TL_call (.bool true) (fun _ _ hρ _ => r_call (args := [.slice a18 ((spoilN (sealP (l.take 400)) ((x.1).toNat - 2) x.2 32).length) cap18, .slice a19 ((spoilN (sealP (l.take 400)) ((x.1).toNat - 2) x.2 32).length) cap19]) (enters_of Try.func11 (by kernel_rfl) rfl) (hρ _ _ rfl) ((cons2 (hρ _ _ rfl) (cons2 (hρ _ _ rfl) rfl))) rfl) (fun w hm => (equal_b (spoilN (sealP (l.take 400)) ((x.1).toNat - 2) x.2 32) (spoilN (sealP (l.take 400)) ((x.1).toNat - 2) x.2 32) a18 a19 cap18 cap19 w (SliceAt.own byc_len (hm.row 15 rfl) rfl rfl) (SliceAt.own byc_len (hm.row 16 rfl) rfl rfl) (by omega) (by omega)).mono fun _ _ h => ⟨h.1.trans (congrArg Ending.returned (bool_as (decide_eq_true (rfl)))), h.2⟩) rfl rfl rfl (want_y 103 rfl rfl rfl) ?_
              refine TL_q (.bool false) (fun _ _ hρ _ => r_not (b := true) (hρ _ _ rfl)) rfl rfl rfl (want_y 103 rfl rfl rfl) ?_
              refine TL_q (.bool false) (fun _ _ hρ _ => r_pick_f (hρ _ _ rfl) (hρ _ _ rfl)) rfl rfl rfl (w_n rfl) ?_
              refine TL_seq ?_
              refine T_cond_f rfl ?_
              refine T_skip' ?_
              refine p_seq ?_
              refine T_seq (T_region ?_)
              refine TL_q (.slice a18 ((spoilN (sealP (l.take 400)) ((x.1).toNat - 2) x.2 32).length) cap18) (fun _ _ hρ _ => r_move (hρ _ _ rfl)) rfl rfl rfl (w_n rfl) ?_
              refine TL_q (.int .i64 (((spoilN (sealP (l.take 400)) ((x.1).toNat - 2) x.2 32).length : Nat) : Int)) (fun _ _ hρ _ => r_len sl29 (hρ _ _ rfl)) rfl rfl rfl (w_n rfl) ?_
              refine TL_q (.int .i64 0) (fun _ _ hρ _ => r_move (hρ _ _ rfl)) rfl rfl rfl (w_n rfl) ?_
              refine TL_seq ?_
              refine T_block ?_
              refine T_row 15 rfl (by omega) (fun g20 ha20 => ?_)
              subst ha20
              refine T_rowcap 15 rfl (fun hrc20 => ?_)
              refine T_loop (ι := Nat × List By) (fun (z : Nat × List By) => match z with | (j, q2) => j ≤ (spoilN (sealP (l.take 400)) ((x.1).toNat - 2) x.2 32).length ∧ q2.length = (spoilN (sealP (l.take 400)) ((x.1).toNat - 2) x.2 32).length) (fun (z : Nat × List By) => match z with | (j, q2) => [(0, .slice a l.length cap), (5, .slice a1 ((l.take 400).length) cap1), (6, .slice a2 ((sealP (l.take 400)).length) cap2), (7, .slice a4 ((openL (l.take 400)).length) cap4), (60, .slice (some ⟨b6, of6, none⟩) ps.length capp), (61, .int .i64 ((ps.length : Nat) : Int)), (62, .int .i64 ((k : Nat) : Int)), (63, .bool (decide (((k : Nat) : Int) < ((ps.length : Nat) : Int)))), (64, .int .i64 ((k : Nat) : Int)), (65, .pointer (some ⟨b6, of6 + k * 2, none⟩)), (66, .agg #[.int .u32 ((x.1).toNat : Int), .int .u32 ((x.2).toNat : Int)]), (12, .pointer (some ⟨B7, 0, none⟩)), (11, .int .i64 ((k : Nat) : Int)), (67, .int .i64 ((k : Nat) : Int)), (68, .bool (decide (((k : Nat) : Int) = 8))), (69, .pointer (some ⟨B7, 0, none⟩)), (70, .int .u32 ((x.1).toNat : Int)), (71, .int .i64 ((x.1).toNat : Int)), (72, .int .i64 ((((x.1).toNat - 2) : Nat) : Int)), (13, .int .i64 ((((x.1).toNat - 2) : Nat) : Int)), (74, .slice a2 ((sealP (l.take 400)).length) cap2), (75, .int .i64 ((((x.1).toNat - 2) : Nat) : Int)), (76, .pointer (some ⟨B7, 1, none⟩)), (77, .int .u32 ((x.2).toNat : Int)), (78, .tuple #[.slice (some ⟨g20, 0, none⟩) ((spoilN (sealP (l.take 400)) ((x.1).toNat - 2) x.2 32).length) cap18, .int .i64 0]), (73, .tuple #[.slice (some ⟨g20, 0, none⟩) ((spoilN (sealP (l.take 400)) ((x.1).toNat - 2) x.2 32).length) cap18, .int .i64 0]), (79, .slice (some ⟨g20, 0, none⟩) ((spoilN (sealP (l.take 400)) ((x.1).toNat - 2) x.2 32).length) cap18), (80, .int .i64 0), (14, .slice (some ⟨g20, 0, none⟩) ((spoilN (sealP (l.take 400)) ((x.1).toNat - 2) x.2 32).length) cap18), (15, .int .i64 0), (82, .slice a2 ((sealP (l.take 400)).length) cap2), (83, .int .i64 ((((x.1).toNat - 2) : Nat) : Int)), (84, .pointer (some ⟨B7, 1, none⟩)), (85, .int .u32 ((x.2).toNat : Int)), (86, .tuple #[.slice a19 ((spoilN (sealP (l.take 400)) ((x.1).toNat - 2) x.2 32).length) cap19, .bool true]), (81, .tuple #[.slice a19 ((spoilN (sealP (l.take 400)) ((x.1).toNat - 2) x.2 32).length) cap19, .bool true]), (87, .slice a19 ((spoilN (sealP (l.take 400)) ((x.1).toNat - 2) x.2 32).length) cap19), (88, .bool true), (16, .slice a19 ((spoilN (sealP (l.take 400)) ((x.1).toNat - 2) x.2 32).length) cap19), (17, .bool true), (89, .bool true), (90, .bool false), (91, .int .i64 0), (92, .bool true), (93, .bool true), (94, .bool false), (95, .bool false), (96, .int .i64 0), (97, .bool false), (98, .bool false), (99, undef), (100, undef), (101, .bool false), (102, .bool false), (103, .bool false), (104, .slice (some ⟨g20, 0, none⟩) ((spoilN (sealP (l.take 400)) ((x.1).toNat - 2) x.2 32).length) cap18), (105, .slice a19 ((spoilN (sealP (l.take 400)) ((x.1).toNat - 2) x.2 32).length) cap19), (106, .bool true), (107, .bool false), (108, .bool false), (109, .slice (some ⟨g20, 0, none⟩) ((spoilN (sealP (l.take 400)) ((x.1).toNat - 2) x.2 32).length) cap18), (110, .int .i64 (((spoilN (sealP (l.take 400)) ((x.1).toNat - 2) x.2 32).length : Nat) : Int)), (111, .int .i64 ((j : Nat) : Int))]) (fun (z : Nat × List By) => match z with | (j, q2) => [(16, .row (.slice a19 ((spoilN (sealP (l.take 400)) ((x.1).toNat - 2) x.2 32).length) cap19) 5 1 ((spoilN (sealP (l.take 400)) ((x.1).toNat - 2) x.2 32).length) ((spoilN (sealP (l.take 400)) ((x.1).toNat - 2) x.2 32).flatMap byc)), (5, .row (.slice a5 ((openL (l.take 400)).length) cap5) 5 1 ((openL (l.take 400)).length) ((openL (l.take 400)).flatMap byc)), (4, .row (.slice a4 ((openL (l.take 400)).length) cap4) 5 1 ((openL (l.take 400)).length) ((openL (l.take 400)).flatMap byc)), (3, .row (.slice a3 ((sealP (l.take 400)).length) cap3) 5 1 ((sealP (l.take 400)).length) ((sealP (l.take 400)).flatMap byc)), (2, .row (.slice a2 ((sealP (l.take 400)).length) cap2) 5 1 ((sealP (l.take 400)).length) ((sealP (l.take 400)).flatMap byc)), (1, .row (.slice a1 ((l.take 400).length) cap1) 5 1 ((l.take 400).length) ((l.take 400).flatMap byc)), (6, .blk B7 (.cells #[.int .u32 ((x.1).toNat : Int), .int .u32 ((x.2).toNat : Int)] 25)), (15, .row (.slice (some ⟨g20, 0, none⟩) ((spoilN (sealP (l.take 400)) ((x.1).toNat - 2) x.2 32).length) cap18) 5 1 ((spoilN (sealP (l.take 400)) ((x.1).toNat - 2) x.2 32).length) (q2.flatMap byc))]) (fun (z : Nat × List By) => match z with | (j, q2) => (spoilN (sealP (l.take 400)) ((x.1).toNat - 2) x.2 32).length - j) (0, (spoilN (sealP (l.take 400)) ((x.1).toNat - 2) x.2 32)) ⟨Nat.zero_le _, rfl⟩ (sub_cons rfl (sub_cons rfl (sub_cons rfl (sub_cons rfl (sub_cons rfl (sub_cons rfl (sub_cons rfl (sub_cons rfl (sub_cons rfl (sub_cons rfl (sub_cons rfl (sub_cons rfl (sub_cons rfl (sub_cons rfl (sub_cons rfl (sub_cons rfl (sub_cons rfl (sub_cons rfl (sub_cons rfl (sub_cons rfl (sub_cons rfl (sub_cons rfl (sub_cons rfl (sub_cons rfl (sub_cons rfl (sub_cons rfl (sub_cons rfl (sub_cons rfl (sub_cons rfl (sub_cons rfl (sub_cons rfl (sub_cons rfl (sub_cons rfl (sub_cons rfl (sub_cons rfl (sub_cons rfl (sub_cons rfl (sub_cons rfl (sub_cons rfl (sub_cons rfl (sub_cons rfl (sub_cons rfl (sub_cons rfl (sub_cons rfl (sub_cons rfl (sub_cons rfl (sub_cons rfl (sub_cons rfl (sub_cons rfl (sub_cons rfl (sub_cons rfl (sub_cons rfl (sub_cons rfl (sub_cons rfl (sub_cons rfl (sub_cons rfl (sub_cons rfl (sub_cons rfl (sub_cons rfl (sub_cons rfl (sub_cons rfl (sub_cons rfl (sub_cons rfl sub_nil))))))))))))))))))))))))))))))))))))))))))))))))))))))))))))))) (sub_cons rfl (sub_cons rfl (sub_cons rfl (sub_cons rfl (sub_cons rfl (sub_cons rfl (sub_cons rfl (sub_cons rfl sub_nil)))))))) ?_
              rintro ⟨j, q2⟩ hp
              obtain ⟨hj, hq2⟩ := hp
              show T _ _ _ [(0, .slice a l.length cap), (5, .slice a1 ((l.take 400).length) cap1), (6, .slice a2 ((sealP (l.take 400)).length) cap2), (7, .slice a4 ((openL (l.take 400)).length) cap4), (60, .slice (some ⟨b6, of6, none⟩) ps.length capp), (61, .int .i64 ((ps.length : Nat) : Int)), (62, .int .i64 ((k : Nat) : Int)), (63, .bool (decide (((k : Nat) : Int) < ((ps.length : Nat) : Int)))), (64, .int .i64 ((k : Nat) : Int)), (65, .pointer (some ⟨b6, of6 + k * 2, none⟩)), (66, .agg #[.int .u32 ((x.1).toNat : Int), .int .u32 ((x.2).toNat : Int)]), (12, .pointer (some ⟨B7, 0, none⟩)), (11, .int .i64 ((k : Nat) : Int)), (67, .int .i64 ((k : Nat) : Int)), (68, .bool (decide (((k : Nat) : Int) = 8))), (69, .pointer (some ⟨B7, 0, none⟩)), (70, .int .u32 ((x.1).toNat : Int)), (71, .int .i64 ((x.1).toNat : Int)), (72, .int .i64 ((((x.1).toNat - 2) : Nat) : Int)), (13, .int .i64 ((((x.1).toNat - 2) : Nat) : Int)), (74, .slice a2 ((sealP (l.take 400)).length) cap2), (75, .int .i64 ((((x.1).toNat - 2) : Nat) : Int)), (76, .pointer (some ⟨B7, 1, none⟩)), (77, .int .u32 ((x.2).toNat : Int)), (78, .tuple #[.slice (some ⟨g20, 0, none⟩) ((spoilN (sealP (l.take 400)) ((x.1).toNat - 2) x.2 32).length) cap18, .int .i64 0]), (73, .tuple #[.slice (some ⟨g20, 0, none⟩) ((spoilN (sealP (l.take 400)) ((x.1).toNat - 2) x.2 32).length) cap18, .int .i64 0]), (79, .slice (some ⟨g20, 0, none⟩) ((spoilN (sealP (l.take 400)) ((x.1).toNat - 2) x.2 32).length) cap18), (80, .int .i64 0), (14, .slice (some ⟨g20, 0, none⟩) ((spoilN (sealP (l.take 400)) ((x.1).toNat - 2) x.2 32).length) cap18), (15, .int .i64 0), (82, .slice a2 ((sealP (l.take 400)).length) cap2), (83, .int .i64 ((((x.1).toNat - 2) : Nat) : Int)), (84, .pointer (some ⟨B7, 1, none⟩)), (85, .int .u32 ((x.2).toNat : Int)), (86, .tuple #[.slice a19 ((spoilN (sealP (l.take 400)) ((x.1).toNat - 2) x.2 32).length) cap19, .bool true]), (81, .tuple #[.slice a19 ((spoilN (sealP (l.take 400)) ((x.1).toNat - 2) x.2 32).length) cap19, .bool true]), (87, .slice a19 ((spoilN (sealP (l.take 400)) ((x.1).toNat - 2) x.2 32).length) cap19), (88, .bool true), (16, .slice a19 ((spoilN (sealP (l.take 400)) ((x.1).toNat - 2) x.2 32).length) cap19), (17, .bool true), (89, .bool true), (90, .bool false), (91, .int .i64 0), (92, .bool true), (93, .bool true), (94, .bool false), (95, .bool false), (96, .int .i64 0), (97, .bool false), (98, .bool false), (99, undef), (100, undef), (101, .bool false), (102, .bool false), (103, .bool false), (104, .slice (some ⟨g20, 0, none⟩) ((spoilN (sealP (l.take 400)) ((x.1).toNat - 2) x.2 32).length) cap18), (105, .slice a19 ((spoilN (sealP (l.take 400)) ((x.1).toNat - 2) x.2 32).length) cap19), (106, .bool true), (107, .bool false), (108, .bool false), (109, .slice (some ⟨g20, 0, none⟩) ((spoilN (sealP (l.take 400)) ((x.1).toNat - 2) x.2 32).length) cap18), (110, .int .i64 (((spoilN (sealP (l.take 400)) ((x.1).toNat - 2) x.2 32).length : Nat) : Int)), (111, .int .i64 ((j : Nat) : Int))] [(16, .row (.slice a19 ((spoilN (sealP (l.take 400)) ((x.1).toNat - 2) x.2 32).length) cap19) 5 1 ((spoilN (sealP (l.take 400)) ((x.1).toNat - 2) x.2 32).length) ((spoilN (sealP (l.take 400)) ((x.1).toNat - 2) x.2 32).flatMap byc)), (5, .row (.slice a5 ((openL (l.take 400)).length) cap5) 5 1 ((openL (l.take 400)).length) ((openL (l.take 400)).flatMap byc)), (4, .row (.slice a4 ((openL (l.take 400)).length) cap4) 5 1 ((openL (l.take 400)).length) ((openL (l.take 400)).flatMap byc)), (3, .row (.slice a3 ((sealP (l.take 400)).length) cap3) 5 1 ((sealP (l.take 400)).length) ((sealP (l.take 400)).flatMap byc)), (2, .row (.slice a2 ((sealP (l.take 400)).length) cap2) 5 1 ((sealP (l.take 400)).length) ((sealP (l.take 400)).flatMap byc)), (1, .row (.slice a1 ((l.take 400).length) cap1) 5 1 ((l.take 400).length) ((l.take 400).flatMap byc)), (6, .blk B7 (.cells #[.int .u32 ((x.1).toNat : Int), .int .u32 ((x.2).toNat : Int)] 25)), (15, .row (.slice (some ⟨g20, 0, none⟩) ((spoilN (sealP (l.take 400)) ((x.1).toNat - 2) x.2 32).length) cap18) 5 1 ((spoilN (sealP (l.take 400)) ((x.1).toNat - 2) x.2 32).length) (q2.flatMap byc))]
              refine T_seq (T_region ?_)
              refine TL_q (.bool (decide (((j : Nat) : Int) < (((spoilN (sealP (l.take 400)) ((x.1).toNat - 2) x.2 32).length : Nat) : Int)))) (fun _ _ hρ _ => r_lss (hρ _ _ rfl) (hρ _ _ rfl)) rfl rfl rfl (w_n rfl) ?_
              refine TL_seq ?_
              refine T_seq ?_
              refine T_cond rfl (fun h5 => ?_) (fun h5 => ?_)
              · replace h5 := of_decide_eq_true h5
                refine T_skip' ?_
                refine p_seq ?_
                refine T_seq ?_
                refine T_block ?_
                refine T_seq (T_region ?_)
                refine TL_q (.int .i64 ((j : Nat) : Int)) (fun _ _ hρ _ => r_move (hρ _ _ rfl)) rfl rfl rfl (w_n rfl) ?_
                refine TL_q (.int .i64 ((j : Nat) : Int)) (fun _ _ hρ _ => r_assign (hρ _ _ rfl)) rfl rfl rfl (w_n rfl) ?_
                refine TL_seq ?_
                obtain ⟨y, hy⟩ : ∃ y, q2[j]? = some y := ⟨_, List.getElem?_eq_getElem (by omega)⟩
                refine T_region ?_
                refine TL_q (.slice (some ⟨g20, 0, none⟩) ((spoilN (sealP (l.take 400)) ((x.1).toNat - 2) x.2 32).length) cap18) (fun _ _ hρ _ => r_move (hρ _ _ rfl)) rfl rfl rfl (w_n rfl) ?_
                refine TL_q (.int .i64 ((j : Nat) : Int)) (fun _ _ hρ _ => r_move (hρ _ _ rfl)) rfl rfl rfl (w_n rfl) ?_
                refine TL_q (.pointer (some ⟨g20, 0 + j * 1, none⟩)) (fun _ _ hρ _ => r_indexAddrS (i := j) sl29 sz5 (hρ _ _ rfl) (hρ _ _ rfl) (by omega)) rfl rfl rfl (w_n rfl) ?_
                refine TL_q (.int .u8 ((y).toNat : Int)) (fun _ _ hρ hm => r_loadOwn1 (f := byc) (u := y) (l := q2) ag5 (hρ _ _ rfl) (hm.row 15 rfl) hq2.symm rfl byc_len hy rfl) rfl rfl rfl (w_n rfl) ?_
                refine TL_q (.int .u8 ((y + (1#8)).toNat : Int)) (fun _ _ hρ _ => r_addB (k := .u8) (a := y) (b := (1#8)) rfl (hρ _ _ rfl) (hρ _ _ rfl)) rfl rfl rfl (w_n rfl) ?_
                refine TL_q (.pointer (some ⟨g20, 0 + j * 1, none⟩)) (fun _ _ hρ _ => r_indexAddrS (i := j) sl29 sz5 (hρ _ _ rfl) (hρ _ _ rfl) (by omega)) rfl rfl rfl (w_n rfl) ?_
                refine TL_storeRow (f := byc) (l := q2) (u := y + (1#8)) 15 rfl hq2.symm rfl rfl sz5 byc_len (by omega) rfl rfl (w_n rfl) ?_
                refine TL_nil ?_
                refine p_blk_n ?_
                refine p_seq ?_
                refine T_region ?_
                refine TL_q (.int .i64 ((j + 1 : Nat) : Int)) (fun _ _ hρ _ => r_as (r_add (hρ _ _ rfl) (hρ _ _ rfl)) (int_as ((wrap64 (by omega) (by omega)).trans (by omega)))) rfl rfl rfl (w_n rfl) ?_
                refine TL_q (.int .i64 ((j + 1 : Nat) : Int)) (fun _ _ hρ _ => r_move (hρ _ _ rfl)) rfl rfl rfl (w_n rfl) ?_
                refine TL_nil ?_
                exact p_at (j + 1, q2.set j (y + 1#8)) ⟨⟨by omega, by rw [List.length_set]; exact hq2⟩, by dsimp only; omega⟩ (sub_cons rfl (sub_cons rfl (sub_cons rfl (sub_cons rfl (sub_cons rfl (sub_cons rfl (sub_cons rfl (sub_cons rfl (sub_cons rfl (sub_cons rfl (sub_cons rfl (sub_cons rfl (sub_cons rfl (sub_cons rfl (sub_cons rfl (sub_cons rfl (sub_cons rfl (sub_cons rfl (sub_cons rfl (sub_cons rfl (sub_cons rfl (sub_cons rfl (sub_cons rfl (sub_cons rfl (sub_cons rfl (sub_cons rfl (sub_cons rfl (sub_cons rfl (sub_cons rfl (sub_cons rfl (sub_cons rfl (sub_cons rfl (sub_cons rfl (sub_cons rfl (sub_cons rfl (sub_cons rfl (sub_cons rfl (sub_cons rfl (sub_cons rfl (sub_cons rfl (sub_cons rfl (sub_cons rfl (sub_cons rfl (sub_cons rfl (sub_cons rfl (sub_cons rfl (sub_cons rfl (sub_cons rfl (sub_cons rfl (sub_cons rfl (sub_cons rfl (sub_cons rfl (sub_cons rfl (sub_cons rfl (sub_cons rfl (sub_cons rfl (sub_cons rfl (sub_cons rfl (sub_cons rfl (sub_cons rfl (sub_cons rfl (sub_cons rfl (sub_cons rfl sub_nil))))))))))))))))))))))))))))))))))))))))))))))))))))))))))))))) (sub_cons rfl (sub_cons rfl (sub_cons rfl (sub_cons rfl (sub_cons rfl (sub_cons rfl (sub_cons rfl (sub_cons rfl sub_nil))))))))
              · replace h5 := of_decide_eq_false h5
                refine T_exit' ?_
                refine p_then_x ?_
                refine p_then_x ?_
                refine p_blk_x ?_
                refine p_blk_n ?_
                refine p_seq ?_
                refine T_region ?_
                refine TL_q (.int .i64 ((k + 1 : Nat) : Int)) (fun _ _ hρ _ => r_as (r_add (hρ _ _ rfl) (hρ _ _ rfl)) (int_as ((wrap64 (by omega) (by omega)).trans (by omega)))) rfl rfl rfl (w_n rfl) ?_
                refine TL_q (.int .i64 ((k + 1 : Nat) : Int)) (fun _ _ hρ _ => r_move (hρ _ _ rfl)) rfl rfl rfl (w_n rfl) ?_
                refine TL_nil ?_
                exact p_at (k + 1) ⟨by omega, by omega⟩ (sub_cons rfl (sub_cons rfl (sub_cons rfl (sub_cons rfl (sub_cons rfl (sub_cons rfl (sub_cons rfl sub_nil))))))) (sub_cons rfl (sub_cons rfl (sub_cons rfl (sub_cons rfl (sub_cons rfl sub_nil)))))
    · replace h1 := of_decide_eq_false h1
      refine T_exit' ?_
      refine p_then_x ?_
      refine p_then_x ?_
      refine p_blk_x ?_
      refine p_seq ?_
      refine T_seq ?_
      refine T_seq (T_region ?_)
      refine TL_q (.slice a2 ((sealP (l.take 400)).length) cap2) (fun _ _ hρ _ => r_move (hρ _ _ rfl)) rfl rfl rfl (w_n rfl) ?_
      refine TL_q (.slice a1 ((l.take 400).length) cap1) (fun _ _ hρ _ => r_move (hρ _ _ rfl)) rfl rfl rfl (w_n rfl) ?_
      refine TL_callN (fun (_ : Option Addr × Nat) => True) (fun (a21, cap21) => .slice a21 ((sealP (l.take 400)).length) cap21) (fun (a21, cap21) => [(17, .row (.slice a21 ((sealP (l.take 400)).length) cap21) 5 1 ((sealP (l.take 400)).length) ((sealP (l.take 400)).flatMap byc))]) (fun _ _ hρ _ => r_call (args := [.slice a1 ((l.take 400).length) cap1]) (enters_of Try.func15 (by kernel_rfl) rfl) (hρ _ _ rfl) ((cons2 (hρ _ _ rfl) rfl)) rfl) (fun w hm => (seal_ref (l.take 400) a1 cap1 w (SliceAt.own byc_len (hm.row 1 rfl) rfl rfl) (by omega)).mono fun e w' ⟨a', cap', he, hb, hr⟩ => ⟨(a', cap'), trivial, he, hb, newOk1 17 hr⟩) rfl rfl rfl (w_n rfl) ?_
      rintro ⟨a21, cap21⟩ -
      refine TL_call (.bool true) (fun _ _ hρ _ => r_call (args := [.slice a2 ((sealP (l.take 400)).length) cap2, .slice a21 ((sealP (l.take 400)).length) cap21]) (enters_of Try.func11 (by kernel_rfl) rfl) (hρ _ _ rfl) ((cons2 (hρ _ _ rfl) (cons2 (hρ _ _ rfl) rfl))) rfl) (fun w hm => (equal_b (sealP (l.take 400)) (sealP (l.take 400)) a2 a21 cap2 cap21 w (SliceAt.own byc_len (hm.row 2 rfl) rfl rfl) (SliceAt.own byc_len (hm.row 17 rfl) rfl rfl) (by omega) (by omega)).mono fun _ _ h => ⟨h.1.trans (congrArg Ending.returned (bool_as (decide_eq_true (rfl)))), h.2⟩) rfl rfl rfl (w_n rfl) ?_
      refine TL_q (.bool false) (fun _ _ hρ _ => r_not (b := true) (hρ _ _ rfl)) rfl rfl rfl (w_n rfl) ?_
      refine TL_seq ?_
      refine T_cond_f rfl ?_
      refine T_skip' ?_
      refine p_seq ?_
      refine T_seq ?_
      refine T_seq (T_region ?_)
      refine TL_q (.slice a2 ((sealP (l.take 400)).length) cap2) (fun _ _ hρ _ => r_move (hρ _ _ rfl)) rfl rfl rfl (w_n rfl) ?_
      refine TL_q (.int .i64 (((sealP (l.take 400)).length : Nat) : Int)) (fun _ _ hρ _ => r_len sl29 (hρ _ _ rfl)) rfl rfl rfl (w_n rfl) ?_
      refine TL_q (.int .i64 0) (fun _ _ hρ _ => r_move (hρ _ _ rfl)) rfl rfl rfl (w_n rfl) ?_
      refine TL_seq ?_
      refine T_block ?_
      refine T_row 2 rfl (by omega) (fun g22 ha22 => ?_)
      subst ha22
      refine T_rowcap 2 rfl (fun hrc22 => ?_)
      refine T_loop (ι := Nat × List By) (fun (z : Nat × List By) => match z with | (j, q3) => j ≤ (sealP (l.take 400)).length ∧ q3.length = (sealP (l.take 400)).length) (fun (z : Nat × List By) => match z with | (j, q3) => [(0, .slice a l.length cap), (5, .slice a1 ((l.take 400).length) cap1), (6, .slice (some ⟨g22, 0, none⟩) ((sealP (l.take 400)).length) cap2), (7, .slice a4 ((openL (l.take 400)).length) cap4), (128, .int .i64 (((sealP (l.take 400)).length : Nat) : Int)), (129, .int .i64 ((j : Nat) : Int))]) (fun (z : Nat × List By) => match z with | (j, q3) => [(17, .row (.slice a21 ((sealP (l.take 400)).length) cap21) 5 1 ((sealP (l.take 400)).length) ((sealP (l.take 400)).flatMap byc)), (5, .row (.slice a5 ((openL (l.take 400)).length) cap5) 5 1 ((openL (l.take 400)).length) ((openL (l.take 400)).flatMap byc)), (4, .row (.slice a4 ((openL (l.take 400)).length) cap4) 5 1 ((openL (l.take 400)).length) ((openL (l.take 400)).flatMap byc)), (3, .row (.slice a3 ((sealP (l.take 400)).length) cap3) 5 1 ((sealP (l.take 400)).length) ((sealP (l.take 400)).flatMap byc)), (1, .row (.slice a1 ((l.take 400).length) cap1) 5 1 ((l.take 400).length) ((l.take 400).flatMap byc)), (2, .row (.slice (some ⟨g22, 0, none⟩) ((sealP (l.take 400)).length) cap2) 5 1 ((sealP (l.take 400)).length) (q3.flatMap byc))]) (fun (z : Nat × List By) => match z with | (j, q3) => (sealP (l.take 400)).length - j) (0, (sealP (l.take 400))) ⟨Nat.zero_le _, rfl⟩ (sub_cons rfl (sub_cons rfl (sub_cons rfl (sub_cons rfl (sub_cons rfl (sub_cons rfl sub_nil)))))) (sub_cons rfl (sub_cons rfl (sub_cons rfl (sub_cons rfl (sub_cons rfl (sub_cons rfl sub_nil)))))) ?_
      rintro ⟨j, q3⟩ hp
      obtain ⟨hj, hq3⟩ := hp
      show T _ _ _ [(0, .slice a l.length cap), (5, .slice a1 ((l.take 400).length) cap1), (6, .slice (some ⟨g22, 0, none⟩) ((sealP (l.take 400)).length) cap2), (7, .slice a4 ((openL (l.take 400)).length) cap4), (128, .int .i64 (((sealP (l.take 400)).length : Nat) : Int)), (129, .int .i64 ((j : Nat) : Int))] [(17, .row (.slice a21 ((sealP (l.take 400)).length) cap21) 5 1 ((sealP (l.take 400)).length) ((sealP (l.take 400)).flatMap byc)), (5, .row (.slice a5 ((openL (l.take 400)).length) cap5) 5 1 ((openL (l.take 400)).length) ((openL (l.take 400)).flatMap byc)), (4, .row (.slice a4 ((openL (l.take 400)).length) cap4) 5 1 ((openL (l.take 400)).length) ((openL (l.take 400)).flatMap byc)), (3, .row (.slice a3 ((sealP (l.take 400)).length) cap3) 5 1 ((sealP (l.take 400)).length) ((sealP (l.take 400)).flatMap byc)), (1, .row (.slice a1 ((l.take 400).length) cap1) 5 1 ((l.take 400).length) ((l.take 400).flatMap byc)), (2, .row (.slice (some ⟨g22, 0, none⟩) ((sealP (l.take 400)).length) cap2) 5 1 ((sealP (l.take 400)).length) (q3.flatMap byc))]
      refine T_seq (T_region ?_)
      refine TL_q (.bool (decide (((j : Nat) : Int) < (((sealP (l.take 400)).length : Nat) : Int)))) (fun _ _ hρ _ => r_lss (hρ _ _ rfl) (hρ _ _ rfl)) rfl rfl rfl (w_n rfl) ?_
      refine TL_seq ?_
      refine T_seq ?_
      refine T_cond rfl (fun h6 => ?_) (fun h6 => ?_)
      · replace h6 := of_decide_eq_true h6
        refine T_skip' ?_
        refine p_seq ?_
        refine T_seq ?_
        refine T_block ?_
        refine T_seq (T_region ?_)
        refine TL_q (.int .i64 ((j : Nat) : Int)) (fun _ _ hρ _ => r_move (hρ _ _ rfl)) rfl rfl rfl (w_n rfl) ?_
        refine TL_q (.int .i64 ((j : Nat) : Int)) (fun _ _ hρ _ => r_assign (hρ _ _ rfl)) rfl rfl rfl (w_n rfl) ?_
        refine TL_seq ?_
        obtain ⟨y, hy⟩ : ∃ y, q3[j]? = some y := ⟨_, List.getElem?_eq_getElem (by omega)⟩
        refine T_region ?_
        refine TL_q (.slice (some ⟨g22, 0, none⟩) ((sealP (l.take 400)).length) cap2) (fun _ _ hρ _ => r_move (hρ _ _ rfl)) rfl rfl rfl (w_n rfl) ?_
        refine TL_q (.int .i64 ((j : Nat) : Int)) (fun _ _ hρ _ => r_move (hρ _ _ rfl)) rfl rfl rfl (w_n rfl) ?_
        refine TL_q (.pointer (some ⟨g22, 0 + j * 1, none⟩)) (fun _ _ hρ _ => r_indexAddrS (i := j) sl29 sz5 (hρ _ _ rfl) (hρ _ _ rfl) (by omega)) rfl rfl rfl (w_n rfl) ?_
        refine TL_q (.int .u8 ((y).toNat : Int)) (fun _ _ hρ hm => r_loadOwn1 (f := byc) (u := y) (l := q3) ag5 (hρ _ _ rfl) (hm.row 2 rfl) hq3.symm rfl byc_len hy rfl) rfl rfl rfl (w_n rfl) ?_
        refine TL_q (.int .u8 ((y + (1#8)).toNat : Int)) (fun _ _ hρ _ => r_addB (k := .u8) (a := y) (b := (1#8)) rfl (hρ _ _ rfl) (hρ _ _ rfl)) rfl rfl rfl (w_n rfl) ?_
        refine TL_q (.pointer (some ⟨g22, 0 + j * 1, none⟩)) (fun _ _ hρ _ => r_indexAddrS (i := j) sl29 sz5 (hρ _ _ rfl) (hρ _ _ rfl) (by omega)) rfl rfl rfl (w_n rfl) ?_
        refine TL_storeRow (f := byc) (l := q3) (u := y + (1#8)) 2 rfl hq3.symm rfl rfl sz5 byc_len (by omega) rfl rfl (w_n rfl) ?_
        refine TL_nil ?_
        refine p_blk_n ?_
        refine p_seq ?_
        refine T_region ?_
        refine TL_q (.int .i64 ((j + 1 : Nat) : Int)) (fun _ _ hρ _ => r_as (r_add (hρ _ _ rfl) (hρ _ _ rfl)) (int_as ((wrap64 (by omega) (by omega)).trans (by omega)))) rfl rfl rfl (w_n rfl) ?_
        refine TL_q (.int .i64 ((j + 1 : Nat) : Int)) (fun _ _ hρ _ => r_move (hρ _ _ rfl)) rfl rfl rfl (w_n rfl) ?_
        refine TL_nil ?_
        exact p_at (j + 1, q3.set j (y + 1#8)) ⟨⟨by omega, by rw [List.length_set]; exact hq3⟩, by dsimp only; omega⟩ (sub_cons rfl (sub_cons rfl (sub_cons rfl (sub_cons rfl (sub_cons rfl (sub_cons rfl sub_nil)))))) (sub_cons rfl (sub_cons rfl (sub_cons rfl (sub_cons rfl (sub_cons rfl (sub_cons rfl sub_nil))))))
      · replace h6 := of_decide_eq_false h6
        refine T_exit' ?_
        refine p_then_x ?_
        refine p_then_x ?_
        refine p_blk_x ?_
        refine p_seq ?_
        refine T_seq ?_
        refine T_seq (T_region ?_)
        refine TL_q (.slice a4 ((openL (l.take 400)).length) cap4) (fun _ _ hρ _ => r_move (hρ _ _ rfl)) rfl rfl rfl (w_n rfl) ?_
        refine TL_q (.int .i64 (((openL (l.take 400)).length : Nat) : Int)) (fun _ _ hρ _ => r_len sl29 (hρ _ _ rfl)) rfl rfl rfl (w_n rfl) ?_
        refine TL_q (.int .i64 0) (fun _ _ hρ _ => r_move (hρ _ _ rfl)) rfl rfl rfl (w_n rfl) ?_
        refine TL_seq ?_
        refine T_block ?_
        refine T_loop (ι := Nat × List By) (fun (z : Nat × List By) => match z with | (j, q4) => j ≤ (openL (l.take 400)).length ∧ q4.length = (openL (l.take 400)).length) (fun (z : Nat × List By) => match z with | (j, q4) => [(0, .slice a l.length cap), (5, .slice a1 ((l.take 400).length) cap1), (7, .slice a4 ((openL (l.take 400)).length) cap4), (140, .int .i64 (((openL (l.take 400)).length : Nat) : Int)), (141, .int .i64 ((j : Nat) : Int))]) (fun (z : Nat × List By) => match z with | (j, q4) => [(17, .row (.slice a21 ((sealP (l.take 400)).length) cap21) 5 1 ((sealP (l.take 400)).length) ((sealP (l.take 400)).flatMap byc)), (5, .row (.slice a5 ((openL (l.take 400)).length) cap5) 5 1 ((openL (l.take 400)).length) ((openL (l.take 400)).flatMap byc)), (3, .row (.slice a3 ((sealP (l.take 400)).length) cap3) 5 1 ((sealP (l.take 400)).length) ((sealP (l.take 400)).flatMap byc)), (1, .row (.slice a1 ((l.take 400).length) cap1) 5 1 ((l.take 400).length) ((l.take 400).flatMap byc)), (2, .row (.slice (some ⟨g22, 0, none⟩) ((sealP (l.take 400)).length) cap2) 5 1 ((sealP (l.take 400)).length) (q3.flatMap byc)), (4, .row (.slice a4 ((openL (l.take 400)).length) cap4) 5 1 ((openL (l.take 400)).length) (q4.flatMap byc))]) (fun (z : Nat × List By) => match z with | (j, q4) => (openL (l.take 400)).length - j) (0, (openL (l.take 400))) ⟨Nat.zero_le _, rfl⟩ (sub_cons rfl (sub_cons rfl (sub_cons rfl (sub_cons rfl (sub_cons rfl sub_nil))))) (sub_cons rfl (sub_cons rfl (sub_cons rfl (sub_cons rfl (sub_cons rfl (sub_cons rfl sub_nil)))))) ?_
        rintro ⟨j, q4⟩ hp
        obtain ⟨hj, hq4⟩ := hp
        show T _ _ _ [(0, .slice a l.length cap), (5, .slice a1 ((l.take 400).length) cap1), (7, .slice a4 ((openL (l.take 400)).length) cap4), (140, .int .i64 (((openL (l.take 400)).length : Nat) : Int)), (141, .int .i64 ((j : Nat) : Int))] [(17, .row (.slice a21 ((sealP (l.take 400)).length) cap21) 5 1 ((sealP (l.take 400)).length) ((sealP (l.take 400)).flatMap byc)), (5, .row (.slice a5 ((openL (l.take 400)).length) cap5) 5 1 ((openL (l.take 400)).length) ((openL (l.take 400)).flatMap byc)), (3, .row (.slice a3 ((sealP (l.take 400)).length) cap3) 5 1 ((sealP (l.take 400)).length) ((sealP (l.take 400)).flatMap byc)), (1, .row (.slice a1 ((l.take 400).length) cap1) 5 1 ((l.take 400).length) ((l.take 400).flatMap byc)), (2, .row (.slice (some ⟨g22, 0, none⟩) ((sealP (l.take 400)).length) cap2) 5 1 ((sealP (l.take 400)).length) (q3.flatMap byc)), (4, .row (.slice a4 ((openL (l.take 400)).length) cap4) 5 1 ((openL (l.take 400)).length) (q4.flatMap byc))]
        refine T_seq (T_region ?_)
        refine TL_q (.bool (decide (((j : Nat) : Int) < (((openL (l.take 400)).length : Nat) : Int)))) (fun _ _ hρ _ => r_lss (hρ _ _ rfl) (hρ _ _ rfl)) rfl rfl rfl (w_n rfl) ?_
        refine TL_seq ?_
        refine T_seq ?_
        refine T_cond rfl (fun h7 => ?_) (fun h7 => ?_)
        · replace h7 := of_decide_eq_true h7
          refine T_skip' ?_
          refine p_seq ?_
          refine T_seq ?_
          refine T_block ?_
          refine T_seq (T_region ?_)
          refine TL_q (.int .i64 ((j : Nat) : Int)) (fun _ _ hρ _ => r_move (hρ _ _ rfl)) rfl rfl rfl (w_n rfl) ?_
          refine TL_q (.int .i64 ((j : Nat) : Int)) (fun _ _ hρ _ => r_assign (hρ _ _ rfl)) rfl rfl rfl (w_n rfl) ?_
          refine TL_seq ?_
          obtain ⟨y, hy⟩ : ∃ y, q4[j]? = some y := ⟨_, List.getElem?_eq_getElem (by omega)⟩
          refine T_row 4 rfl (by omega) (fun g23 ha23 => ?_)
          subst ha23
          refine T_rowcap 4 rfl (fun hrc23 => ?_)
          refine T_region ?_
          refine TL_q (.slice (some ⟨g23, 0, none⟩) ((openL (l.take 400)).length) cap4) (fun _ _ hρ _ => r_move (hρ _ _ rfl)) rfl rfl rfl (w_n rfl) ?_
          refine TL_q (.int .i64 ((j : Nat) : Int)) (fun _ _ hρ _ => r_move (hρ _ _ rfl)) rfl rfl rfl (w_n rfl) ?_
          refine TL_q (.pointer (some ⟨g23, 0 + j * 1, none⟩)) (fun _ _ hρ _ => r_indexAddrS (i := j) sl29 sz5 (hρ _ _ rfl) (hρ _ _ rfl) (by omega)) rfl rfl rfl (w_n rfl) ?_
          refine TL_q (.int .u8 ((y).toNat : Int)) (fun _ _ hρ hm => r_loadOwn1 (f := byc) (u := y) (l := q4) ag5 (hρ _ _ rfl) (hm.row 4 rfl) hq4.symm rfl byc_len hy rfl) rfl rfl rfl (w_n rfl) ?_
          refine TL_q (.int .u8 ((y + (1#8)).toNat : Int)) (fun _ _ hρ _ => r_addB (k := .u8) (a := y) (b := (1#8)) rfl (hρ _ _ rfl) (hρ _ _ rfl)) rfl rfl rfl (w_n rfl) ?_
          refine TL_q (.pointer (some ⟨g23, 0 + j * 1, none⟩)) (fun _ _ hρ _ => r_indexAddrS (i := j) sl29 sz5 (hρ _ _ rfl) (hρ _ _ rfl) (by omega)) rfl rfl rfl (w_n rfl) ?_
          refine TL_storeRow (f := byc) (l := q4) (u := y + (1#8)) 4 rfl hq4.symm rfl rfl sz5 byc_len (by omega) rfl rfl (w_n rfl) ?_
          refine TL_nil ?_
          refine p_blk_n ?_
          refine p_seq ?_
          refine T_region ?_
          refine TL_q (.int .i64 ((j + 1 : Nat) : Int)) (fun _ _ hρ _ => r_as (r_add (hρ _ _ rfl) (hρ _ _ rfl)) (int_as ((wrap64 (by omega) (by omega)).trans (by omega)))) rfl rfl rfl (w_n rfl) ?_
          refine TL_q (.int .i64 ((j + 1 : Nat) : Int)) (fun _ _ hρ _ => r_move (hρ _ _ rfl)) rfl rfl rfl (w_n rfl) ?_
          refine TL_nil ?_
          exact p_at (j + 1, q4.set j (y + 1#8)) ⟨⟨by omega, by rw [List.length_set]; exact hq4⟩, by dsimp only; omega⟩ (sub_cons rfl (sub_cons rfl (sub_cons rfl (sub_cons rfl (sub_cons rfl sub_nil))))) (sub_cons rfl (sub_cons rfl (sub_cons rfl (sub_cons rfl (sub_cons rfl (sub_cons rfl sub_nil))))))
        · replace h7 := of_decide_eq_false h7
          refine T_exit' ?_
          refine p_then_x ?_
          refine p_then_x ?_
          refine p_blk_x ?_
          refine p_seq ?_
          refine T_seq (T_region ?_)
          refine TL_q (.slice a1 ((l.take 400).length) cap1) (fun _ _ hρ _ => r_move (hρ _ _ rfl)) rfl rfl rfl (w_n rfl) ?_
          refine TL_q (.slice a l.length cap) (fun _ _ hρ _ => r_move (hρ _ _ rfl)) rfl rfl rfl (w_n rfl) ?_
          refine TL_callN (fun (_ : Option Addr × Nat) => True) (fun (a24, cap24) => .slice a24 ((l.take 400).length) cap24) (fun (a24, cap24) => [(18, .row (.slice a24 ((l.take 400).length) cap24) 5 1 ((l.take 400).length) ((l.take 400).flatMap byc))]) (fun _ _ hρ _ => r_call (args := [.slice a l.length cap]) (enters_of Try.func13 (by kernel_rfl) rfl) (hρ _ _ rfl) ((cons2 (hρ _ _ rfl) rfl)) rfl) (fun w hm => (few_c l a cap w (hv.keep hm.ext) hcap).mono fun e w' ⟨a', cap', he, hb, hr⟩ => ⟨(a', cap'), trivial, he, hb, newOk1 18 hr⟩) rfl rfl rfl (w_n rfl) ?_
          rintro ⟨a24, cap24⟩ -
          refine TL_call (.bool true) (fun _ _ hρ _ => r_call (args := [.slice a1 ((l.take 400).length) cap1, .slice a24 ((l.take 400).length) cap24]) (enters_of Try.func11 (by kernel_rfl) rfl) (hρ _ _ rfl) ((cons2 (hρ _ _ rfl) (cons2 (hρ _ _ rfl) rfl))) rfl) (fun w hm => (equal_b (l.take 400) (l.take 400) a1 a24 cap1 cap24 w (SliceAt.own byc_len (hm.row 1 rfl) rfl rfl) (SliceAt.own byc_len (hm.row 18 rfl) rfl rfl) (by omega) (by omega)).mono fun _ _ h => ⟨h.1.trans (congrArg Ending.returned (bool_as (decide_eq_true (rfl)))), h.2⟩) rfl rfl rfl (w_n rfl) ?_
          refine TL_q (.bool true) (fun _ _ hρ _ => r_assign (hρ _ _ rfl)) rfl rfl rfl (w_n rfl) ?_
          refine TL_seq ?_
          refine T_ret' ?_
          refine ret_of rfl (.bool true) (fun tmps w hk hm => res1 rfl (res_tmp (hk 4 _ rfl))) (fun w hm => ?_)
          exact ⟨rfl, hm.ext⟩
  · skip
    refine T_seq (T_region ?_)
    refine TL_q (.slice a1 ((l.take 400).length) cap1) (fun _ _ hρ _ => r_move (hρ _ _ rfl)) rfl rfl rfl (w_n rfl) ?_
    refine TL_callN (fun (_ : Option Addr × Nat) => True) (fun (a25, cap25) => .tuple #[.slice a25 ((openL (l.take 400)).length) cap25, .int .i64 0]) (fun (a25, cap25) => [(19, .row (.slice a25 ((openL (l.take 400)).length) cap25) 5 1 ((openL (l.take 400)).length) ((openL (l.take 400)).flatMap byc))]) (fun _ _ hρ _ => r_call (args := [.slice a1 ((l.take 400).length) cap1]) (enters_of Try.func16 (by kernel_rfl) rfl) (hρ _ _ rfl) ((cons2 (hρ _ _ rfl) rfl)) rfl) (fun w hm => (by have hb := open_c (l.take 400) a1 cap1 w (SliceAt.own byc_len (hm.row 1 rfl) rfl rfl) (by omega) (row_cap (hm.row 1 rfl)); rw [openE_s hO] at hb; exact hb.mono fun e w' ⟨a', cap', he, hb, hr⟩ => ⟨(a', cap'), trivial, he, hb, newOk1 19 hr⟩)) rfl rfl rfl (w_n rfl) ?_
    rintro ⟨a25, cap25⟩ -
    refine TL_q (.tuple #[.slice a25 ((openL (l.take 400)).length) cap25, .int .i64 0]) (fun _ _ hρ _ => r_move (hρ _ _ rfl)) rfl rfl rfl (w_n rfl) ?_
    refine TL_q (.slice a25 ((openL (l.take 400)).length) cap25) (fun _ _ hρ _ => r_extract (hρ _ _ rfl) rfl) rfl rfl rfl (w_n rfl) ?_
    refine TL_q (.int .i64 0) (fun _ _ hρ _ => r_extract (hρ _ _ rfl) rfl) rfl rfl rfl (w_n rfl) ?_
    refine TL_q (.slice a25 ((openL (l.take 400)).length) cap25) (fun _ _ hρ _ => r_assign (hρ _ _ rfl)) rfl rfl rfl (w_n rfl) ?_
    refine TL_q (.int .i64 0) (fun _ _ hρ _ => r_assign (hρ _ _ rfl)) rfl rfl rfl (w_n rfl) ?_
    refine TL_seq ?_
    refine T_seq (T_region ?_)
    refine TL_q (.slice a1 ((l.take 400).length) cap1) (fun _ _ hρ _ => r_move (hρ _ _ rfl)) rfl rfl rfl (w_n rfl) ?_
    refine TL_callN (fun (_ : Option Addr × Nat) => True) (fun (a26, cap26) => .tuple #[.slice a26 ((openL (l.take 400)).length) cap26, .bool true]) (fun (a26, cap26) => [(20, .row (.slice a26 ((openL (l.take 400)).length) cap26) 5 1 ((openL (l.take 400)).length) ((openL (l.take 400)).flatMap byc))]) (fun _ _ hρ _ => r_call (args := [.slice a1 ((l.take 400).length) cap1]) (enters_of Try.func17 (by kernel_rfl) rfl) (hρ _ _ rfl) ((cons2 (hρ _ _ rfl) rfl)) rfl) (fun w hm => (by have hb := open_ref (l.take 400) a1 cap1 w (SliceAt.own byc_len (hm.row 1 rfl) rfl rfl) (by omega) (row_cap (hm.row 1 rfl)); rw [openB_s hO] at hb; exact hb.mono fun e w' ⟨a', cap', he, hb, hr⟩ => ⟨(a', cap'), trivial, he, hb, newOk1 20 hr⟩)) rfl rfl rfl (w_n rfl) ?_
    rintro ⟨a26, cap26⟩ -
    refine TL_q (.tuple #[.slice a26 ((openL (l.take 400)).length) cap26, .bool true]) (fun _ _ hρ _ => r_move (hρ _ _ rfl)) rfl rfl rfl (w_n rfl) ?_
    refine TL_q (.slice a26 ((openL (l.take 400)).length) cap26) (fun _ _ hρ _ => r_extract (hρ _ _ rfl) rfl) rfl rfl rfl (w_n rfl) ?_
    refine TL_q (.bool true) (fun _ _ hρ _ => r_extract (hρ _ _ rfl) rfl) rfl rfl rfl (w_n rfl) ?_
    refine TL_q (.slice a26 ((openL (l.take 400)).length) cap26) (fun _ _ hρ _ => r_assign (hρ _ _ rfl)) rfl rfl rfl (w_n rfl) ?_
    refine TL_q (.bool true) (fun _ _ hρ _ => r_assign (hρ _ _ rfl)) rfl rfl rfl (w_n rfl) ?_
    refine TL_seq ?_
    refine T_seq ?_
    refine T_seq (T_region ?_)
    refine TL_q (.int .i64 0) (fun _ _ hρ _ => r_move (hρ _ _ rfl)) rfl rfl rfl (w_n rfl) ?_
    refine TL_q (.bool true) (fun _ _ hρ _ => r_as (r_eql (hρ _ _ rfl) (hρ _ _ rfl)) (by rfl)) rfl rfl rfl (w_n rfl) ?_
    refine TL_q (.bool true) (fun _ _ hρ _ => r_move (hρ _ _ rfl)) rfl rfl rfl (w_n rfl) ?_
    refine TL_q (.bool false) (fun _ _ hρ _ => r_as (r_neqB (by kernel_rfl) (hρ _ _ rfl) (hρ _ _ rfl)) (by rfl)) rfl rfl rfl (w_n rfl) ?_
    refine TL_q (.bool false) (fun _ _ hρ _ => r_move (hρ _ _ rfl)) rfl rfl rfl (w_n rfl) ?_
    refine TL_q (.int .i64 0) (fun _ _ hρ _ => r_move (hρ _ _ rfl)) rfl rfl rfl (want_y 46 rfl rfl rfl) ?_
    refine TL_q (.bool false) (fun _ _ hρ _ => r_as (r_neq (hρ _ _ rfl) (hρ _ _ rfl)) (by rfl)) rfl rfl rfl (want_y 46 rfl rfl rfl) ?_
    refine TL_q (.bool false) (fun _ _ hρ _ => r_move (hρ _ _ rfl)) rfl rfl rfl (want_y 46 rfl rfl rfl) ?_
    refine TL_no rfl rfl (want_n 49 rfl rfl rfl) ?_
    refine TL_no rfl rfl (want_n 49 rfl rfl rfl) ?_
    refine TL_q (.bool false) (fun _ _ hρ _ => r_pick_f (hρ _ _ rfl) (hρ _ _ rfl)) rfl rfl rfl (want_y 46 rfl rfl rfl) ?_
    refine TL_q (.bool false) (fun _ _ hρ _ => r_pick_f (hρ _ _ rfl) (hρ _ _ rfl)) rfl rfl rfl (w_n rfl) ?_
    refine TL_q (.bool false) (fun _ _ hρ _ => r_move (hρ _ _ rfl)) rfl rfl rfl (w_n rfl) ?_
    refine TL_q (.slice a25 ((openL (l.take 400)).length) cap25) (fun _ _ hρ _ => r_move (hρ _ _ rfl)) rfl rfl rfl (want_y 54 rfl rfl rfl) ?_
    refine TL_q (.slice a26 ((openL (l.take 400)).length) cap26) (fun _ _ hρ _ => r_move (hρ _ _ rfl)) rfl rfl rfl (want_y 54 rfl rfl rfl) ?_
    refine TL_call (.bool true) (fun _ _ hρ _ => r_call (args := [.slice a25 ((openL (l.take 400)).length) cap25, .slice a26 ((openL (l.take 400)).length) cap26]) (enters_of Try.func11 (by kernel_rfl) rfl) (hρ _ _ rfl) ((cons2 (hρ _ _ rfl) (cons2 (hρ _ _ rfl) rfl))) rfl) (fun w hm => (equal_b (openL (l.take 400)) (openL (l.take 400)) a25 a26 cap25 cap26 w (SliceAt.own byc_len (hm.row 19 rfl) rfl rfl) (SliceAt.own byc_len (hm.row 20 rfl) rfl rfl) (by omega) (by omega)).mono fun _ _ h => ⟨h.1.trans (congrArg Ending.returned (bool_as (decide_eq_true (rfl)))), h.2⟩) rfl rfl rfl (want_y 54 rfl rfl rfl) ?_
    refine TL_q (.bool false) (fun _ _ hρ _ => r_not (b := true) (hρ _ _ rfl)) rfl rfl rfl (want_y 54 rfl rfl rfl) ?_
    refine TL_q (.bool false) (fun _ _ hρ _ => r_pick_f (hρ _ _ rfl) (hρ _ _ rfl)) rfl rfl rfl (w_n rfl) ?_
    refine TL_seq ?_
    refine T_sub [(0, .slice a l.length cap), (1, .slice ap ps.length capp), (4, .bool false), (5, .slice a1 ((l.take 400).length) cap1), (6, .slice a2 ((sealP (l.take 400)).length) cap2), (7, .slice a25 ((openL (l.take 400)).length) cap25), (59, .bool false)] [(20, .row (.slice a26 ((openL (l.take 400)).length) cap26) 5 1 ((openL (l.take 400)).length) ((openL (l.take 400)).flatMap byc)), (19, .row (.slice a25 ((openL (l.take 400)).length) cap25) 5 1 ((openL (l.take 400)).length) ((openL (l.take 400)).flatMap byc)), (3, .row (.slice a3 ((sealP (l.take 400)).length) cap3) 5 1 ((sealP (l.take 400)).length) ((sealP (l.take 400)).flatMap byc)), (2, .row (.slice a2 ((sealP (l.take 400)).length) cap2) 5 1 ((sealP (l.take 400)).length) ((sealP (l.take 400)).flatMap byc)), (1, .row (.slice a1 ((l.take 400).length) cap1) 5 1 ((l.take 400).length) ((l.take 400).flatMap byc))] (sub_cons rfl (sub_cons rfl (sub_cons rfl (sub_cons rfl (sub_cons rfl (sub_cons rfl (sub_cons rfl sub_nil))))))) (sub_cons rfl (sub_cons rfl (sub_cons rfl (sub_cons rfl (sub_cons rfl sub_nil))))) ?_
    refine T_cond_f rfl ?_
    refine T_skip' ?_
    refine p_seq ?_
    refine T_seq ?_
    refine T_seq (T_region ?_)
    refine TL_q (.slice ap ps.length capp) (fun _ _ hρ _ => r_move (hρ _ _ rfl)) rfl rfl rfl (w_n rfl) ?_
    refine TL_q (.int .i64 ((ps.length : Nat) : Int)) (fun _ _ hρ _ => r_len sl22 (hρ _ _ rfl)) rfl rfl rfl (w_n rfl) ?_
    refine TL_q (.int .i64 0) (fun _ _ hρ _ => r_move (hρ _ _ rfl)) rfl rfl rfl (w_n rfl) ?_
    refine TL_seq ?_
    refine T_block ?_
    refine T_loop (ι := Nat) (fun (k : Nat) => k ≤ ps.length) (fun (k : Nat) => [(0, .slice a l.length cap), (5, .slice a1 ((l.take 400).length) cap1), (6, .slice a2 ((sealP (l.take 400)).length) cap2), (7, .slice a25 ((openL (l.take 400)).length) cap25), (60, .slice ap ps.length capp), (61, .int .i64 ((ps.length : Nat) : Int)), (62, .int .i64 ((k : Nat) : Int))]) (fun (k : Nat) => [(20, .row (.slice a26 ((openL (l.take 400)).length) cap26) 5 1 ((openL (l.take 400)).length) ((openL (l.take 400)).flatMap byc)), (19, .row (.slice a25 ((openL (l.take 400)).length) cap25) 5 1 ((openL (l.take 400)).length) ((openL (l.take 400)).flatMap byc)), (3, .row (.slice a3 ((sealP (l.take 400)).length) cap3) 5 1 ((sealP (l.take 400)).length) ((sealP (l.take 400)).flatMap byc)), (2, .row (.slice a2 ((sealP (l.take 400)).length) cap2) 5 1 ((sealP (l.take 400)).length) ((sealP (l.take 400)).flatMap byc)), (1, .row (.slice a1 ((l.take 400).length) cap1) 5 1 ((l.take 400).length) ((l.take 400).flatMap byc))]) (fun (k : Nat) => ps.length - k) 0 (Nat.zero_le _) (sub_cons rfl (sub_cons rfl (sub_cons rfl (sub_cons rfl (sub_cons rfl (sub_cons rfl (sub_cons rfl sub_nil))))))) (sub_cons rfl (sub_cons rfl (sub_cons rfl (sub_cons rfl (sub_cons rfl sub_nil))))) ?_
    rintro k hp
    show T _ _ _ [(0, .slice a l.length cap), (5, .slice a1 ((l.take 400).length) cap1), (6, .slice a2 ((sealP (l.take 400)).length) cap2), (7, .slice a25 ((openL (l.take 400)).length) cap25), (60, .slice ap ps.length capp), (61, .int .i64 ((ps.length : Nat) : Int)), (62, .int .i64 ((k : Nat) : Int))] [(20, .row (.slice a26 ((openL (l.take 400)).length) cap26) 5 1 ((openL (l.take 400)).length) ((openL (l.take 400)).flatMap byc)), (19, .row (.slice a25 ((openL (l.take 400)).length) cap25) 5 1 ((openL (l.take 400)).length) ((openL (l.take 400)).flatMap byc)), (3, .row (.slice a3 ((sealP (l.take 400)).length) cap3) 5 1 ((sealP (l.take 400)).length) ((sealP (l.take 400)).flatMap byc)), (2, .row (.slice a2 ((sealP (l.take 400)).length) cap2) 5 1 ((sealP (l.take 400)).length) ((sealP (l.take 400)).flatMap byc)), (1, .row (.slice a1 ((l.take 400).length) cap1) 5 1 ((l.take 400).length) ((l.take 400).flatMap byc))]
    refine T_seq (T_region ?_)
    refine TL_q (.bool (decide (((k : Nat) : Int) < ((ps.length : Nat) : Int)))) (fun _ _ hρ _ => r_lss (hρ _ _ rfl) (hρ _ _ rfl)) rfl rfl rfl (w_n rfl) ?_
    refine TL_seq ?_
    refine T_seq ?_
    refine T_cond rfl (fun h8 => ?_) (fun h8 => ?_)
    · replace h8 := of_decide_eq_true h8
      refine T_skip' ?_
      refine p_seq ?_
      refine T_seq ?_
      refine T_block ?_
      obtain ⟨x, hx⟩ : ∃ x, ps[k]? = some x := ⟨_, List.getElem?_eq_getElem (by omega)⟩
      obtain ⟨b27, of27, cs27, T27, fz27, ha27, hq27, hr27⟩ := hps.open (i := k) (by omega)
      subst ha27
      refine T_seq (T_region ?_)
      refine TL_q (.int .i64 ((k : Nat) : Int)) (fun _ _ hρ _ => r_move (hρ _ _ rfl)) rfl rfl rfl (w_n rfl) ?_
      refine TL_q (.pointer (some ⟨b27, of27 + k * 2, none⟩)) (fun _ _ hρ _ => r_indexAddrS (i := k) sl22 sz25 (hρ _ _ rfl) (hρ _ _ rfl) (by omega)) rfl rfl rfl (w_n rfl) ?_
      refine TL_q (.agg #[.int .u32 ((x.1).toNat : Int), .int .u32 ((x.2).toNat : Int)]) (fun _ _ hρ hm => r_loadRow (f := PW.cells) (u := x) ag25 sz25 (hρ _ _ rfl) (hm.old hq27) hr27 hx) rfl rfl rfl (w_n rfl) ?_
      refine TL_new 21 (.cells #[.int .u32 0, .int .u32 0] 25) (fun B => .pointer (some ⟨B, 0, none⟩)) (fun _ _ _ _ => r_alloc (v := .agg #[.int .u32 0, .int .u32 0]) (by kernel_rfl) rfl) rfl rfl rfl (w_n rfl) ?_
      intro B28
      refine TL_q (.int .i64 ((k : Nat) : Int)) (fun _ _ hρ _ => r_assign (hρ _ _ rfl)) rfl rfl rfl (w_n rfl) ?_
      refine TL_store 21 (.cells #[.int .u32 ((x.1).toNat : Int), .int .u32 ((x.2).toNat : Int)] 25) rfl (fun _ _ hρ hm => r_store sz25 (hρ _ _ rfl) (hρ _ _ rfl) (hm.at 21 rfl) rfl rfl rfl rfl) rfl rfl (w_n rfl) ?_
      refine TL_seq ?_
      refine T_seq ?_
      refine T_seq (T_region ?_)
      refine TL_q (.int .i64 ((k : Nat) : Int)) (fun _ _ hρ _ => r_move (hρ _ _ rfl)) rfl rfl rfl (w_n rfl) ?_
      refine TL_q (.bool (decide (((k : Nat) : Int) = 8))) (fun _ _ hρ _ => r_eql (hρ _ _ rfl) (hρ _ _ rfl)) rfl rfl rfl (w_n rfl) ?_
      refine TL_seq ?_
      refine T_cond rfl (fun h9 => ?_) (fun h9 => ?_)
      · replace h9 := of_decide_eq_true h9
        refine T_exit' ?_
        refine p_then_x ?_
        refine p_blk_o rfl ?_
        refine p_then_x ?_
        refine p_then_x ?_
        refine p_blk_x ?_
        refine p_seq ?_
        refine T_seq ?_
        refine T_seq (T_region ?_)
        refine TL_q (.slice a2 ((sealP (l.take 400)).length) cap2) (fun _ _ hρ _ => r_move (hρ _ _ rfl)) rfl rfl rfl (w_n rfl) ?_
        refine TL_q (.slice a1 ((l.take 400).length) cap1) (fun _ _ hρ _ => r_move (hρ _ _ rfl)) rfl rfl rfl (w_n rfl) ?_
        refine TL_callN (fun (_ : Option Addr × Nat) => True) (fun (a29, cap29) => .slice a29 ((sealP (l.take 400)).length) cap29) (fun (a29, cap29) => [(22, .row (.slice a29 ((sealP (l.take 400)).length) cap29) 5 1 ((sealP (l.take 400)).length) ((sealP (l.take 400)).flatMap byc))]) (fun _ _ hρ _ => r_call (args := [.slice a1 ((l.take 400).length) cap1]) (enters_of Try.func15 (by kernel_rfl) rfl) (hρ _ _ rfl) ((cons2 (hρ _ _ rfl) rfl)) rfl) (fun w hm => (seal_ref (l.take 400) a1 cap1 w (SliceAt.own byc_len (hm.row 1 rfl) rfl rfl) (by omega)).mono fun e w' ⟨a', cap', he, hb, hr⟩ => ⟨(a', cap'), trivial, he, hb, newOk1 22 hr⟩) rfl rfl rfl (w_n rfl) ?_
        rintro ⟨a29, cap29⟩ -
        refine TL_call (.bool true) (fun _ _ hρ _ => r_call (args := [.slice a2 ((sealP (l.take 400)).length) cap2, .slice a29 ((sealP (l.take 400)).length) cap29]) (enters_of Try.func11 (by kernel_rfl) rfl) (hρ _ _ rfl) ((cons2 (hρ _ _ rfl) (cons2 (hρ _ _ rfl) rfl))) rfl) (fun w hm => (equal_b (sealP (l.take 400)) (sealP (l.take 400)) a2 a29 cap2 cap29 w (SliceAt.own byc_len (hm.row 2 rfl) rfl rfl) (SliceAt.own byc_len (hm.row 22 rfl) rfl rfl) (by omega) (by omega)).mono fun _ _ h => ⟨h.1.trans (congrArg Ending.returned (bool_as (decide_eq_true (rfl)))), h.2⟩) rfl rfl rfl (w_n rfl) ?_
        refine TL_q (.bool false) (fun _ _ hρ _ => r_not (b := true) (hρ _ _ rfl)) rfl rfl rfl (w_n rfl) ?_
        refine TL_seq ?_
        refine T_cond_f rfl ?_
        refine T_skip' ?_
        refine p_seq ?_
        refine T_seq ?_
        refine T_seq (T_region ?_)
        refine TL_q (.slice a2 ((sealP (l.take 400)).length) cap2) (fun _ _ hρ _ => r_move (hρ _ _ rfl)) rfl rfl rfl (w_n rfl) ?_
        refine TL_q (.int .i64 (((sealP (l.take 400)).length : Nat) : Int)) (fun _ _ hρ _ => r_len sl29 (hρ _ _ rfl)) rfl rfl rfl (w_n rfl) ?_
        refine TL_q (.int .i64 0) (fun _ _ hρ _ => r_move (hρ _ _ rfl)) rfl rfl rfl (w_n rfl) ?_
        refine TL_seq ?_
        refine T_block ?_
        refine T_row 2 rfl (by omega) (fun g30 ha30 => ?_)
        subst ha30
        refine T_rowcap 2 rfl (fun hrc30 => ?_)
        refine T_loop (ι := Nat × List By) (fun (z : Nat × List By) => match z with | (j, q3) => j ≤ (sealP (l.take 400)).length ∧ q3.length = (sealP (l.take 400)).length) (fun (z : Nat × List By) => match z with | (j, q3) => [(0, .slice a l.length cap), (5, .slice a1 ((l.take 400).length) cap1), (6, .slice (some ⟨g30, 0, none⟩) ((sealP (l.take 400)).length) cap2), (7, .slice a25 ((openL (l.take 400)).length) cap25), (128, .int .i64 (((sealP (l.take 400)).length : Nat) : Int)), (129, .int .i64 ((j : Nat) : Int))]) (fun (z : Nat × List By) => match z with | (j, q3) => [(22, .row (.slice a29 ((sealP (l.take 400)).length) cap29) 5 1 ((sealP (l.take 400)).length) ((sealP (l.take 400)).flatMap byc)), (20, .row (.slice a26 ((openL (l.take 400)).length) cap26) 5 1 ((openL (l.take 400)).length) ((openL (l.take 400)).flatMap byc)), (19, .row (.slice a25 ((openL (l.take 400)).length) cap25) 5 1 ((openL (l.take 400)).length) ((openL (l.take 400)).flatMap byc)), (3, .row (.slice a3 ((sealP (l.take 400)).length) cap3) 5 1 ((sealP (l.take 400)).length) ((sealP (l.take 400)).flatMap byc)), (1, .row (.slice a1 ((l.take 400).length) cap1) 5 1 ((l.take 400).length) ((l.take 400).flatMap byc)), (21, .blk B28 (.cells #[.int .u32 ((x.1).toNat : Int), .int .u32 ((x.2).toNat : Int)] 25)), (2, .row (.slice (some ⟨g30, 0, none⟩) ((sealP (l.take 400)).length) cap2) 5 1 ((sealP (l.take 400)).length) (q3.flatMap byc))]) (fun (z : Nat × List By) => match z with | (j, q3) => (sealP (l.take 400)).length - j) (0, (sealP (l.take 400))) ⟨Nat.zero_le _, rfl⟩ (sub_cons rfl (sub_cons rfl (sub_cons rfl (sub_cons rfl (sub_cons rfl (sub_cons rfl sub_nil)))))) (sub_cons rfl (sub_cons rfl (sub_cons rfl (sub_cons rfl (sub_cons rfl (sub_cons rfl (sub_cons rfl sub_nil))))))) ?_
        rintro ⟨j, q3⟩ hp
        obtain ⟨hj, hq3⟩ := hp
        show T _ _ _ [(0, .slice a l.length cap), (5, .slice a1 ((l.take 400).length) cap1), (6, .slice (some ⟨g30, 0, none⟩) ((sealP (l.take 400)).length) cap2), (7, .slice a25 ((openL (l.take 400)).length) cap25), (128, .int .i64 (((sealP (l.take 400)).length : Nat) : Int)), (129, .int .i64 ((j : Nat) : Int))] [(22, .row (.slice a29 ((sealP (l.take 400)).length) cap29) 5 1 ((sealP (l.take 400)).length) ((sealP (l.take 400)).flatMap byc)), (20, .row (.slice a26 ((openL (l.take 400)).length) cap26) 5 1 ((openL (l.take 400)).length) ((openL (l.take 400)).flatMap byc)), (19, .row (.slice a25 ((openL (l.take 400)).length) cap25) 5 1 ((openL (l.take 400)).length) ((openL (l.take 400)).flatMap byc)), (3, .row (.slice a3 ((sealP (l.take 400)).length) cap3) 5 1 ((sealP (l.take 400)).length) ((sealP (l.take 400)).flatMap byc)), (1, .row (.slice a1 ((l.take 400).length) cap1) 5 1 ((l.take 400).length) ((l.take 400).flatMap byc)), (21, .blk B28 (.cells #[.int .u32 ((x.1).toNat : Int), .int .u32 ((x.2).toNat : Int)] 25)), (2, .row (.slice (some ⟨g30, 0, none⟩) ((sealP (l.take 400)).length) cap2) 5 1 ((sealP (l.take 400)).length) (q3.flatMap byc))]
        refine T_seq (T_region ?_)
        refine TL_q (.bool (decide (((j : Nat) : Int) < (((sealP (l.take 400)).length : Nat) : Int)))) (fun _ _ hρ _ => r_lss (hρ _ _ rfl) (hρ _ _ rfl)) rfl rfl rfl (w_n rfl) ?_
        refine TL_seq ?_
        refine T_seq ?_
        refine T_cond rfl (fun h10 => ?_) (fun h10 => ?_)
        · replace h10 := of_decide_eq_true h10
          refine T_skip' ?_
          refine p_seq ?_
          refine T_seq ?_
          refine T_block ?_
          refine T_seq (T_region ?_)
          refine TL_q (.int .i64 ((j : Nat) : Int)) (fun _ _ hρ _ => r_move (hρ _ _ rfl)) rfl rfl rfl (w_n rfl) ?_
          refine TL_q (.int .i64 ((j : Nat) : Int)) (fun _ _ hρ _ => r_assign (hρ _ _ rfl)) rfl rfl rfl (w_n rfl) ?_
          refine TL_seq ?_
          obtain ⟨y, hy⟩ : ∃ y, q3[j]? = some y := ⟨_, List.getElem?_eq_getElem (by omega)⟩
          refine T_region ?_
          refine TL_q (.slice (some ⟨g30, 0, none⟩) ((sealP (l.take 400)).length) cap2) (fun _ _ hρ _ => r_move (hρ _ _ rfl)) rfl rfl rfl (w_n rfl) ?_
          refine TL_q (.int .i64 ((j : Nat) : Int)) (fun _ _ hρ _ => r_move (hρ _ _ rfl)) rfl rfl rfl (w_n rfl) ?_
          refine TL_q (.pointer (some ⟨g30, 0 + j * 1, none⟩)) (fun _ _ hρ _ => r_indexAddrS (i := j) sl29 sz5 (hρ _ _ rfl) (hρ _ _ rfl) (by omega)) rfl rfl rfl (w_n rfl) ?_
          refine TL_q (.int .u8 ((y).toNat : Int)) (fun _ _ hρ hm => r_loadOwn1 (f := byc) (u := y) (l := q3) ag5 (hρ _ _ rfl) (hm.row 2 rfl) hq3.symm rfl byc_len hy rfl) rfl rfl rfl (w_n rfl) ?_
          refine TL_q (.int .u8 ((y + (1#8)).toNat : Int)) (fun _ _ hρ _ => r_addB (k := .u8) (a := y) (b := (1#8)) rfl (hρ _ _ rfl) (hρ _ _ rfl)) rfl rfl rfl (w_n rfl) ?_
          refine TL_q (.pointer (some ⟨g30, 0 + j * 1, none⟩)) (fun _ _ hρ _ => r_indexAddrS (i := j) sl29 sz5 (hρ _ _ rfl) (hρ _ _ rfl) (by omega)) rfl rfl rfl (w_n rfl) ?_
          refine TL_storeRow (f := byc) (l := q3) (u := y + (1#8)) 2 rfl hq3.symm rfl rfl sz5 byc_len (by omega) rfl rfl (w_n rfl) ?_
          refine TL_nil ?_
          refine p_blk_n ?_
          refine p_seq ?_
          refine T_region ?_
          refine TL_q (.int .i64 ((j + 1 : Nat) : Int)) (fun _ _ hρ _ => r_as (r_add (hρ _ _ rfl) (hρ _ _ rfl)) (int_as ((wrap64 (by omega) (by omega)).trans (by omega)))) rfl rfl rfl (w_n rfl) ?_
          refine TL_q (.int .i64 ((j + 1 : Nat) : Int)) (fun _ _ hρ _ => r_move (hρ _ _ rfl)) rfl rfl rfl (w_n rfl) ?_
          refine TL_nil ?_
          exact p_at (j + 1, q3.set j (y + 1#8)) ⟨⟨by omega, by rw [List.length_set]; exact hq3⟩, by dsimp only; omega⟩ (sub_cons rfl (sub_cons rfl (sub_cons rfl (sub_cons rfl (sub_cons rfl (sub_cons rfl sub_nil)))))) (sub_cons rfl (sub_cons rfl (sub_cons rfl (sub_cons rfl (sub_cons rfl (sub_cons rfl (sub_cons rfl sub_nil)))))))
        · replace h10 := of_decide_eq_false h10
          refine T_exit' ?_
          refine p_then_x ?_
          refine p_then_x ?_
          refine p_blk_x ?_
          refine p_seq ?_
          refine T_seq ?_
          refine T_seq (T_region ?_)
          refine TL_q (.slice a25 ((openL (l.take 400)).length) cap25) (fun _ _ hρ _ => r_move (hρ _ _ rfl)) rfl rfl rfl (w_n rfl) ?_
          refine TL_q (.int .i64 (((openL (l.take 400)).length : Nat) : Int)) (fun _ _ hρ _ => r_len sl29 (hρ _ _ rfl)) rfl rfl rfl (w_n rfl) ?_
          refine TL_q (.int .i64 0) (fun _ _ hρ _ => r_move (hρ _ _ rfl)) rfl rfl rfl (w_n rfl) ?_
          refine TL_seq ?_
          refine T_block ?_
          refine T_loop (ι := Nat × List By) (fun (z : Nat × List By) => match z with | (j, q4) => j ≤ (openL (l.take 400)).length ∧ q4.length = (openL (l.take 400)).length) (fun (z : Nat × List By) => match z with | (j, q4) => [(0, .slice a l.length cap), (5, .slice a1 ((l.take 400).length) cap1), (7, .slice a25 ((openL (l.take 400)).length) cap25), (140, .int .i64 (((openL (l.take 400)).length : Nat) : Int)), (141, .int .i64 ((j : Nat) : Int))]) (fun (z : Nat × List By) => match z with | (j, q4) => [(22, .row (.slice a29 ((sealP (l.take 400)).length) cap29) 5 1 ((sealP (l.take 400)).length) ((sealP (l.take 400)).flatMap byc)), (20, .row (.slice a26 ((openL (l.take 400)).length) cap26) 5 1 ((openL (l.take 400)).length) ((openL (l.take 400)).flatMap byc)), (3, .row (.slice a3 ((sealP (l.take 400)).length) cap3) 5 1 ((sealP (l.take 400)).length) ((sealP (l.take 400)).flatMap byc)), (1, .row (.slice a1 ((l.take 400).length) cap1) 5 1 ((l.take 400).length) ((l.take 400).flatMap byc)), (21, .blk B28 (.cells #[.int .u32 ((x.1).toNat : Int), .int .u32 ((x.2).toNat : Int)] 25)), (2, .row (.slice (some ⟨g30, 0, none⟩) ((sealP (l.take 400)).length) cap2) 5 1 ((sealP (l.take 400)).length) (q3.flatMap byc)), (19, .row (.slice a25 ((openL (l.take 400)).length) cap25) 5 1 ((openL (l.take 400)).length) (q4.flatMap byc))]) (fun (z : Nat × List By) => match z with | (j, q4) => (openL (l.take 400)).length - j) (0, (openL (l.take 400))) ⟨Nat.zero_le _, rfl⟩ (sub_cons rfl (sub_cons rfl (sub_cons rfl (sub_cons rfl (sub_cons rfl sub_nil))))) (sub_cons rfl (sub_cons rfl (sub_cons rfl (sub_cons rfl (sub_cons rfl (sub_cons rfl (sub_cons rfl sub_nil))))))) ?_
          rintro ⟨j, q4⟩ hp
          obtain ⟨hj, hq4⟩ := hp
          show T _ _ _ [(0, .slice a l.length cap), (5, .slice a1 ((l.take 400).length) cap1), (7, .slice a25 ((openL (l.take 400)).length) cap25), (140, .int .i64 (((openL (l.take 400)).length : Nat) : Int)), (141, .int .i64 ((j : Nat) : Int))] [(22, .row (.slice a29 ((sealP (l.take 400)).length) cap29) 5 1 ((sealP (l.take 400)).length) ((sealP (l.take 400)).flatMap byc)), (20, .row (.slice a26 ((openL (l.take 400)).length) cap26) 5 1 ((openL (l.take 400)).length) ((openL (l.take 400)).flatMap byc)), (3, .row (.slice a3 ((sealP (l.take 400)).length) cap3) 5 1 ((sealP (l.take 400)).length) ((sealP (l.take 400)).flatMap byc)), (1, .row (.slice a1 ((l.take 400).length) cap1) 5 1 ((l.take 400).length) ((l.take 400).flatMap byc)), (21, .blk B28 (.cells #[.int .u32 ((x.1).toNat : Int), .int .u32 ((x.2).toNat : Int)] 25)), (2, .row (.slice (some ⟨g30, 0, none⟩) ((sealP (l.take 400)).length) cap2) 5 1 ((sealP (l.take 400)).length) (q3.flatMap byc)), (19, .row (.slice a25 ((openL (l.take 400)).length) cap25) 5 1 ((openL (l.take 400)).length) (q4.flatMap byc))]
          refine T_seq (T_region ?_)
          refine TL_q (.bool (decide (((j : Nat) : Int) < (((openL (l.take 400)).length : Nat) : Int)))) (fun _ _ hρ _ => r_lss (hρ _ _ rfl) (hρ _ _ rfl)) rfl rfl rfl (w_n rfl) ?_
          refine TL_seq ?_
          refine T_seq ?_
          refine T_cond rfl (fun h11 => ?_) (fun h11 => ?_)
          · replace h11 := of_decide_eq_true h11
            refine T_skip' ?_
            refine p_seq ?_
            refine T_seq ?_
            refine T_block ?_
            refine T_seq (T_region ?_)
            refine TL_q (.int .i64 ((j : Nat) : Int)) (fun _ _ hρ _ => r_move (hρ _ _ rfl)) rfl rfl rfl (w_n rfl) ?_
            refine TL_q (.int .i64 ((j : Nat) : Int)) (fun _ _ hρ _ => r_assign (hρ _ _ rfl)) rfl rfl rfl (w_n rfl) ?_
            refine TL_seq ?_
            obtain ⟨y, hy⟩ : ∃ y, q4[j]? = some y := ⟨_, List.getElem?_eq_getElem (by omega)⟩
            refine T_row 19 rfl (by omega) (fun g31 ha31 => ?_)
            subst ha31
            refine T_rowcap 19 rfl (fun hrc31 => ?_)
            refine T_region ?_
            refine TL_q (.slice (some ⟨g31, 0, none⟩) ((openL (l.take 400)).length) cap25) (fun _ _ hρ _ => r_move (hρ _ _ rfl)) rfl rfl rfl (w_n rfl) ?_
            refine TL_q (.int .i64 ((j : Nat) : Int)) (fun _ _ hρ _ => r_move (hρ _ _ rfl)) rfl rfl rfl (w_n rfl) ?_
            refine TL_q (.pointer (some ⟨g31, 0 + j * 1, none⟩)) (fun _ _ hρ _ => r_indexAddrS (i := j) sl29 sz5 (hρ _ _ rfl) (hρ _ _ rfl) (by omega)) rfl rfl rfl (w_n rfl) ?_
            refine TL_q (.int .u8 ((y).toNat : Int)) (fun _ _ hρ hm => r_loadOwn1 (f := byc) (u := y) (l := q4) ag5 (hρ _ _ rfl) (hm.row 19 rfl) hq4.symm rfl byc_len hy rfl) rfl rfl rfl (w_n rfl) ?_
            refine TL_q (.int .u8 ((y + (1#8)).toNat : Int)) (fun _ _ hρ _ => r_addB (k := .u8) (a := y) (b := (1#8)) rfl (hρ _ _ rfl) (hρ _ _ rfl)) rfl rfl rfl (w_n rfl) ?_
            refine TL_q (.pointer (some ⟨g31, 0 + j * 1, none⟩)) (fun _ _ hρ _ => r_indexAddrS (i := j) sl29 sz5 (hρ _ _ rfl) (hρ _ _ rfl) (by omega)) rfl rfl rfl (w_n rfl) ?_
            refine TL_storeRow (f := byc) (l := q4) (u := y + (1#8)) 19 rfl hq4.symm rfl rfl sz5 byc_len (by omega) rfl rfl (w_n rfl) ?_
            refine TL_nil ?_
            refine p_blk_n ?_
            refine p_seq ?_
            refine T_region ?_
            refine TL_q (.int .i64 ((j + 1 : Nat) : Int)) (fun _ _ hρ _ => r_as (r_add (hρ _ _ rfl) (hρ _ _ rfl)) (int_as ((wrap64 (by omega) (by omega)).trans (by omega)))) rfl rfl rfl (w_n rfl) ?_
            refine TL_q (.int .i64 ((j + 1 : Nat) : Int)) (fun _ _ hρ _ => r_move (hρ _ _ rfl)) rfl rfl rfl (w_n rfl) ?_
            refine TL_nil ?_
            exact p_at (j + 1, q4.set j (y + 1#8)) ⟨⟨by omega, by rw [List.length_set]; exact hq4⟩, by dsimp only; omega⟩ (sub_cons rfl (sub_cons rfl (sub_cons rfl (sub_cons rfl (sub_cons rfl sub_nil))))) (sub_cons rfl (sub_cons rfl (sub_cons rfl (sub_cons rfl (sub_cons rfl (sub_cons rfl (sub_cons rfl sub_nil)))))))
          · replace h11 := of_decide_eq_false h11
            refine T_exit' ?_
            refine p_then_x ?_
            refine p_then_x ?_
            refine p_blk_x ?_
            refine p_seq ?_
            refine T_seq (T_region ?_)
            refine TL_q (.slice a1 ((l.take 400).length) cap1) (fun _ _ hρ _ => r_move (hρ _ _ rfl)) rfl rfl rfl (w_n rfl) ?_
            refine TL_q (.slice a l.length cap) (fun _ _ hρ _ => r_move (hρ _ _ rfl)) rfl rfl rfl (w_n rfl) ?_
            refine TL_callN (fun (_ : Option Addr × Nat) => True) (fun (a32, cap32) => .slice a32 ((l.take 400).length) cap32) (fun (a32, cap32) => [(23, .row (.slice a32 ((l.take 400).length) cap32) 5 1 ((l.take 400).length) ((l.take 400).flatMap byc))]) (fun _ _ hρ _ => r_call (args := [.slice a l.length cap]) (enters_of Try.func13 (by kernel_rfl) rfl) (hρ _ _ rfl) ((cons2 (hρ _ _ rfl) rfl)) rfl) (fun w hm => (few_c l a cap w (hv.keep hm.ext) hcap).mono fun e w' ⟨a', cap', he, hb, hr⟩ => ⟨(a', cap'), trivial, he, hb, newOk1 23 hr⟩) rfl rfl rfl (w_n rfl) ?_
            rintro ⟨a32, cap32⟩ -
            refine TL_call (.bool true) (fun _ _ hρ _ => r_call (args := [.slice a1 ((l.take 400).length) cap1, .slice a32 ((l.take 400).length) cap32]) (enters_of Try.func11 (by kernel_rfl) rfl) (hρ _ _ rfl) ((cons2 (hρ _ _ rfl) (cons2 (hρ _ _ rfl) rfl))) rfl) (fun w hm => (equal_b (l.take 400) (l.take 400) a1 a32 cap1 cap32 w (SliceAt.own byc_len (hm.row 1 rfl) rfl rfl) (SliceAt.own byc_len (hm.row 23 rfl) rfl rfl) (by omega) (by omega)).mono fun _ _ h => ⟨h.1.trans (congrArg Ending.returned (bool_as (decide_eq_true (rfl)))), h.2⟩) rfl rfl rfl (w_n rfl) ?_
            refine TL_q (.bool true) (fun _ _ hρ _ => r_assign (hρ _ _ rfl)) rfl rfl rfl (w_n rfl) ?_
            refine TL_seq ?_
            refine T_ret' ?_
            refine ret_of rfl (.bool true) (fun tmps w hk hm => res1 rfl (res_tmp (hk 4 _ rfl))) (fun w hm => ?_)
            exact ⟨rfl, hm.ext⟩
      · replace h9 := of_decide_eq_false h9
        refine T_skip' ?_
        refine p_seq ?_
        have hx1 := x.1.isLt
        by_cases hT : ((x.1).toNat : Int) < 2
        · skip
          refine T_seq (T_region ?_)
          refine TL_q (.pointer (some ⟨B28, 0, none⟩)) (fun _ _ hρ _ => r_indexAddrA (i := 0) ar25 sz24 (hρ _ _ rfl) (hρ _ _ rfl) (by decide)) rfl rfl rfl (w_n rfl) ?_
          refine TL_q (.int .u32 ((x.1).toNat : Int)) (fun _ _ hρ hm => r_load ag24 (hρ _ _ rfl) (hm.at 21 rfl) rfl) rfl rfl rfl (w_n rfl) ?_
          refine TL_q (.int .i64 ((x.1).toNat : Int)) (fun _ _ hρ _ => r_as (r_conv un24 io3 (hρ _ _ rfl)) (int_as (wrap64 (by omega) (by omega)))) rfl rfl rfl (w_n rfl) ?_
          refine TL_q (.int .i64 (((x.1).toNat : Int) - 2)) (fun _ _ hρ _ => r_as (r_sub (hρ _ _ rfl) (hρ _ _ rfl)) (int_as (wrap64 (by omega) (by omega)))) rfl rfl rfl (w_n rfl) ?_
          refine TL_q (.int .i64 (((x.1).toNat : Int) - 2)) (fun _ _ hρ _ => r_assign (hρ _ _ rfl)) rfl rfl rfl (w_n rfl) ?_
          refine TL_seq ?_
          refine T_seq (T_region ?_)
          refine TL_q (.slice a2 ((sealP (l.take 400)).length) cap2) (fun _ _ hρ _ => r_move (hρ _ _ rfl)) rfl rfl rfl (w_n rfl) ?_
          refine TL_q (.int .i64 (((x.1).toNat : Int) - 2)) (fun _ _ hρ _ => r_move (hρ _ _ rfl)) rfl rfl rfl (w_n rfl) ?_
          refine TL_q (.pointer (some ⟨B28, 1, none⟩)) (fun _ _ hρ _ => r_indexAddrA (i := 1) ar25 sz24 (hρ _ _ rfl) (hρ _ _ rfl) (by decide)) rfl rfl rfl (w_n rfl) ?_
          refine TL_q (.int .u32 ((x.2).toNat : Int)) (fun _ _ hρ hm => r_load ag24 (hρ _ _ rfl) (hm.at 21 rfl) rfl) rfl rfl rfl (w_n rfl) ?_
          refine TL_call (.tuple #[.slice none 0 0, .int .i64 2]) (fun _ _ hρ _ => r_call (args := [.slice a2 ((sealP (l.take 400)).length) cap2, .int .i64 (((x.1).toNat : Int) - 2), .int .u32 ((x.2).toNat : Int)]) (enters_of Try.func18 (by kernel_rfl) rfl) (hρ _ _ rfl) ((cons2 (hρ _ _ rfl) (cons2 (hρ _ _ rfl) (cons2 (hρ _ _ rfl) rfl)))) rfl) (fun w hm => spoil_out (((x.1).toNat : Int) - 2) x.2 (sealP (l.take 400)) a2 cap2 w (SliceAt.own byc_len (hm.row 2 rfl) rfl rfl) (by omega) (row_cap (hm.row 2 rfl)) (by omega)) rfl rfl rfl (w_n rfl) ?_
          refine TL_q (.tuple #[.slice none 0 0, .int .i64 2]) (fun _ _ hρ _ => r_move (hρ _ _ rfl)) rfl rfl rfl (w_n rfl) ?_
          refine TL_q (.slice none 0 0) (fun _ _ hρ _ => r_extract (hρ _ _ rfl) rfl) rfl rfl rfl (w_n rfl) ?_
          refine TL_q (.int .i64 2) (fun _ _ hρ _ => r_extract (hρ _ _ rfl) rfl) rfl rfl rfl (w_n rfl) ?_
          refine TL_q (.slice none 0 0) (fun _ _ hρ _ => r_assign (hρ _ _ rfl)) rfl rfl rfl (w_n rfl) ?_
          refine TL_q (.int .i64 2) (fun _ _ hρ _ => r_assign (hρ _ _ rfl)) rfl rfl rfl (w_n rfl) ?_
          refine TL_seq ?_
          refine T_seq (T_region ?_)
          refine TL_q (.slice a2 ((sealP (l.take 400)).length) cap2) (fun _ _ hρ _ => r_move (hρ _ _ rfl)) rfl rfl rfl (w_n rfl) ?_
          refine TL_q (.int .i64 (((x.1).toNat : Int) - 2)) (fun _ _ hρ _ => r_move (hρ _ _ rfl)) rfl rfl rfl (w_n rfl) ?_
          refine TL_q (.pointer (some ⟨B28, 1, none⟩)) (fun _ _ hρ _ => r_indexAddrA (i := 1) ar25 sz24 (hρ _ _ rfl) (hρ _ _ rfl) (by decide)) rfl rfl rfl (w_n rfl) ?_
          refine TL_q (.int .u32 ((x.2).toNat : Int)) (fun _ _ hρ hm => r_load ag24 (hρ _ _ rfl) (hm.at 21 rfl) rfl) rfl rfl rfl (w_n rfl) ?_
          refine TL_call (.tuple #[.slice none 0 0, .bool false]) (fun _ _ hρ _ => r_call (args := [.slice a2 ((sealP (l.take 400)).length) cap2, .int .i64 (((x.1).toNat : Int) - 2), .int .u32 ((x.2).toNat : Int)]) (enters_of Try.func19 (by kernel_rfl) rfl) (hρ _ _ rfl) ((cons2 (hρ _ _ rfl) (cons2 (hρ _ _ rfl) (cons2 (hρ _ _ rfl) rfl)))) rfl) (fun w hm => rspoil_out (((x.1).toNat : Int) - 2) x.2 (sealP (l.take 400)) a2 cap2 w (SliceAt.own byc_len (hm.row 2 rfl) rfl rfl) (by omega) (row_cap (hm.row 2 rfl)) (by omega)) rfl rfl rfl (w_n rfl) ?_
          refine TL_q (.tuple #[.slice none 0 0, .bool false]) (fun _ _ hρ _ => r_move (hρ _ _ rfl)) rfl rfl rfl (w_n rfl) ?_
          refine TL_q (.slice none 0 0) (fun _ _ hρ _ => r_extract (hρ _ _ rfl) rfl) rfl rfl rfl (w_n rfl) ?_
          refine TL_q (.bool false) (fun _ _ hρ _ => r_extract (hρ _ _ rfl) rfl) rfl rfl rfl (w_n rfl) ?_
          refine TL_q (.slice none 0 0) (fun _ _ hρ _ => r_assign (hρ _ _ rfl)) rfl rfl rfl (w_n rfl) ?_
          refine TL_q (.bool false) (fun _ _ hρ _ => r_assign (hρ _ _ rfl)) rfl rfl rfl (w_n rfl) ?_
          refine TL_seq ?_
          refine T_sub [(0, .slice a l.length cap), (5, .slice a1 ((l.take 400).length) cap1), (6, .slice a2 ((sealP (l.take 400)).length) cap2), (7, .slice a25 ((openL (l.take 400)).length) cap25), (60, .slice (some ⟨b27, of27, none⟩) ps.length capp), (61, .int .i64 ((ps.length : Nat) : Int)), (62, .int .i64 ((k : Nat) : Int)), (63, .bool (decide (((k : Nat) : Int) < ((ps.length : Nat) : Int)))), (64, .int .i64 ((k : Nat) : Int)), (65, .pointer (some ⟨b27, of27 + k * 2, none⟩)), (66, .agg #[.int .u32 ((x.1).toNat : Int), .int .u32 ((x.2).toNat : Int)]), (12, .pointer (some ⟨B28, 0, none⟩)), (11, .int .i64 ((k : Nat) : Int)), (67, .int .i64 ((k : Nat) : Int)), (68, .bool (decide (((k : Nat) : Int) = 8))), (69, .pointer (some ⟨B28, 0, none⟩)), (70, .int .u32 ((x.1).toNat : Int)), (71, .int .i64 ((x.1).toNat : Int)), (72, .int .i64 (((x.1).toNat : Int) - 2)), (13, .int .i64 (((x.1).toNat : Int) - 2)), (74, .slice a2 ((sealP (l.take 400)).length) cap2), (75, .int .i64 (((x.1).toNat : Int) - 2)), (76, .pointer (some ⟨B28, 1, none⟩)), (77, .int .u32 ((x.2).toNat : Int)), (78, .tuple #[.slice none 0 0, .int .i64 2]), (73, .tuple #[.slice none 0 0, .int .i64 2]), (79, .slice none 0 0), (80, .int .i64 2), (14, .slice none 0 0), (15, .int .i64 2), (82, .slice a2 ((sealP (l.take 400)).length) cap2), (83, .int .i64 (((x.1).toNat : Int) - 2)), (84, .pointer (some ⟨B28, 1, none⟩)), (85, .int .u32 ((x.2).toNat : Int)), (86, .tuple #[.slice none 0 0, .bool false]), (81, .tuple #[.slice none 0 0, .bool false]), (87, .slice none 0 0), (88, .bool false), (16, .slice none 0 0), (17, .bool false)] [(20, .row (.slice a26 ((openL (l.take 400)).length) cap26) 5 1 ((openL (l.take 400)).length) ((openL (l.take 400)).flatMap byc)), (19, .row (.slice a25 ((openL (l.take 400)).length) cap25) 5 1 ((openL (l.take 400)).length) ((openL (l.take 400)).flatMap byc)), (3, .row (.slice a3 ((sealP (l.take 400)).length) cap3) 5 1 ((sealP (l.take 400)).length) ((sealP (l.take 400)).flatMap byc)), (2, .row (.slice a2 ((sealP (l.take 400)).length) cap2) 5 1 ((sealP (l.take 400)).length) ((sealP (l.take 400)).flatMap byc)), (1, .row (.slice a1 ((l.take 400).length) cap1) 5 1 ((l.take 400).length) ((l.take 400).flatMap byc)), (21, .blk B28 (.cells #[.int .u32 ((x.1).toNat : Int), .int .u32 ((x.2).toNat : Int)] 25))] (sub_cons rfl (sub_cons rfl (sub_cons rfl (sub_cons rfl (sub_cons rfl (sub_cons rfl (sub_cons rfl (sub_cons rfl (sub_cons rfl (sub_cons rfl (sub_cons rfl (sub_cons rfl (sub_cons rfl (sub_cons rfl (sub_cons rfl (sub_cons rfl (sub_cons rfl (sub_cons rfl (sub_cons rfl (sub_cons rfl (sub_cons rfl (sub_cons rfl (sub_cons rfl (sub_cons rfl (sub_cons rfl (sub_cons rfl (sub_cons rfl (sub_cons rfl (sub_cons rfl (sub_cons rfl (sub_cons rfl (sub_cons rfl (sub_cons rfl (sub_cons rfl (sub_cons rfl (sub_cons rfl (sub_cons rfl (sub_cons rfl (sub_cons rfl (sub_cons rfl sub_nil)))))))))))))))))))))))))))))))))))))))) (sub_cons rfl (sub_cons rfl (sub_cons rfl (sub_cons rfl (sub_cons rfl (sub_cons rfl sub_nil)))))) ?_
          refine T_seq ?_
          refine T_seq (T_region ?_)
          refine TL_q (.bool false) (fun _ _ hρ _ => r_move (hρ _ _ rfl)) rfl rfl rfl (w_n rfl) ?_
          refine TL_q (.bool true) (fun _ _ hρ _ => r_not (b := false) (hρ _ _ rfl)) rfl rfl rfl (w_n rfl) ?_
          refine TL_seq ?_
          refine T_cond_t rfl ?_
          refine T_region ?_
          refine TL_q (.slice none 0 0) (fun _ _ hρ _ => r_assign (hρ _ _ rfl)) rfl rfl rfl (w_n rfl) ?_
          refine TL_nil ?_
          refine p_seq ?_
          refine T_seq ?_
          refine T_seq (T_region ?_)
          refine TL_q (.int .i64 2) (fun _ _ hρ _ => r_move (hρ _ _ rfl)) rfl rfl rfl (w_n rfl) ?_
          refine TL_q (.bool false) (fun _ _ hρ _ => r_as (r_eql (hρ _ _ rfl) (hρ _ _ rfl)) (by rfl)) rfl rfl rfl (w_n rfl) ?_
          refine TL_q (.bool false) (fun _ _ hρ _ => r_move (hρ _ _ rfl)) rfl rfl rfl (w_n rfl) ?_
          refine TL_q (.bool false) (fun _ _ hρ _ => r_as (r_neqB (by kernel_rfl) (hρ _ _ rfl) (hρ _ _ rfl)) (by rfl)) rfl rfl rfl (w_n rfl) ?_
          refine TL_q (.bool false) (fun _ _ hρ _ => r_move (hρ _ _ rfl)) rfl rfl rfl (w_n rfl) ?_
          refine TL_q (.int .i64 2) (fun _ _ hρ _ => r_move (hρ _ _ rfl)) rfl rfl rfl (want_y 95 rfl rfl rfl) ?_
          refine TL_q (.bool true) (fun _ _ hρ _ => r_as (r_neq (hρ _ _ rfl) (hρ _ _ rfl)) (by rfl)) rfl rfl rfl (want_y 95 rfl rfl rfl) ?_
          refine TL_q (.bool true) (fun _ _ hρ _ => r_move (hρ _ _ rfl)) rfl rfl rfl (want_y 95 rfl rfl rfl) ?_
          refine TL_q (.int .i64 2) (fun _ _ hρ _ => r_move (hρ _ _ rfl)) rfl rfl rfl (want_y 98 rfl rfl rfl) ?_
          refine TL_q (.bool false) (fun _ _ hρ _ => r_as (r_neq (hρ _ _ rfl) (hρ _ _ rfl)) (by rfl)) rfl rfl rfl (want_y 98 rfl rfl rfl) ?_
          refine TL_q (.bool false) (fun _ _ hρ _ => r_pick_t (hρ _ _ rfl) (hρ _ _ rfl)) rfl rfl rfl (want_y 95 rfl rfl rfl) ?_
          refine TL_q (.bool false) (fun _ _ hρ _ => r_pick_f (hρ _ _ rfl) (hρ _ _ rfl)) rfl rfl rfl (w_n rfl) ?_
          refine TL_q (.bool false) (fun _ _ hρ _ => r_move (hρ _ _ rfl)) rfl rfl rfl (w_n rfl) ?_
          refine TL_q (.slice none 0 0) (fun _ _ hρ _ => r_move (hρ _ _ rfl)) rfl rfl rfl (want_y 103 rfl rfl rfl) ?_
          refine TL_q (.slice none 0 0) (fun _ _ hρ _ => r_move (hρ _ _ rfl)) rfl rfl rfl (want_y 103 rfl rfl rfl) ?_
          refine TL_call (.bool true) (fun _ _ hρ _ => r_call (args := [.slice none 0 0, .slice none 0 0]) (enters_of Try.func11 (by kernel_rfl) rfl) (hρ _ _ rfl) ((cons2 (hρ _ _ rfl) (cons2 (hρ _ _ rfl) rfl))) rfl) (fun w _ => (equal_b [] [] none none 0 0 w (sliceNil w) (sliceNil w) (Nat.le_of_ble_eq_true rfl) (Nat.le_of_ble_eq_true rfl)).mono fun _ _ h => ⟨h.1.trans (congrArg Ending.returned (bool_as (decide_eq_true (rfl)))), h.2⟩) rfl rfl rfl (want_y 103 rfl rfl rfl) ?_
          refine TL_q (.bool false) (fun _ _ hρ _ => r_not (b := true) (hρ _ _ rfl)) rfl rfl rfl (want_y 103 rfl rfl rfl) ?_
          refine TL_q (.bool false) (fun _ _ hρ _ => r_pick_f (hρ _ _ rfl) (hρ _ _ rfl)) rfl rfl rfl (w_n rfl) ?_
          refine TL_seq ?_
          refine T_cond_f rfl ?_
          refine T_skip' ?_
          refine p_seq ?_
          refine T_seq (T_region ?_)
          refine TL_q (.slice none 0 0) (fun _ _ hρ _ => r_move (hρ _ _ rfl)) rfl rfl rfl (w_n rfl) ?_
          refine TL_q (.int .i64 0) (fun _ _ hρ _ => r_len sl29 (hρ _ _ rfl)) rfl rfl rfl (w_n rfl) ?_
          refine TL_q (.int .i64 0) (fun _ _ hρ _ => r_move (hρ _ _ rfl)) rfl rfl rfl (w_n rfl) ?_
          refine TL_seq ?_
          refine T_block ?_
          refine T_rounds 1 ?_
          refine TR_succ ?_
          refine T_seq (T_region ?_)
          refine TL_q (.bool false) (fun _ _ hρ _ => r_as (r_lss (hρ _ _ rfl) (hρ _ _ rfl)) (by rfl)) rfl rfl rfl (w_n rfl) ?_
          refine TL_seq ?_
          refine T_seq ?_
          refine T_cond_f rfl ?_
          refine T_exit' ?_
          refine p_then_x ?_
          refine p_then_x ?_
          refine p_blk_x ?_
          refine p_blk_n ?_
          refine p_seq ?_
          refine T_region ?_
          refine TL_q (.int .i64 ((k + 1 : Nat) : Int)) (fun _ _ hρ _ => r_as (r_add (hρ _ _ rfl) (hρ _ _ rfl)) (int_as ((wrap64 (by omega) (by omega)).trans (by omega)))) rfl rfl rfl (w_n rfl) ?_
          refine TL_q (.int .i64 ((k + 1 : Nat) : Int)) (fun _ _ hρ _ => r_move (hρ _ _ rfl)) rfl rfl rfl (w_n rfl) ?_
          refine TL_nil ?_
          exact p_at (k + 1) ⟨by omega, by omega⟩ (sub_cons rfl (sub_cons rfl (sub_cons rfl (sub_cons rfl (sub_cons rfl (sub_cons rfl (sub_cons rfl sub_nil))))))) (sub_cons rfl (sub_cons rfl (sub_cons rfl (sub_cons rfl (sub_cons rfl sub_nil)))))
        · skip
          by_cases hB : 8 * (sealP (l.take 400)).length ≤ (x.1).toNat - 2
          · skip
            refine T_seq (T_region ?_)
            refine TL_q (.pointer (some ⟨B28, 0, none⟩)) (fun _ _ hρ _ => r_indexAddrA (i := 0) ar25 sz24 (hρ _ _ rfl) (hρ _ _ rfl) (by decide)) rfl rfl rfl (w_n rfl) ?_
            refine TL_q (.int .u32 ((x.1).toNat : Int)) (fun _ _ hρ hm => r_load ag24 (hρ _ _ rfl) (hm.at 21 rfl) rfl) rfl rfl rfl (w_n rfl) ?_
            refine TL_q (.int .i64 ((x.1).toNat : Int)) (fun _ _ hρ _ => r_as (r_conv un24 io3 (hρ _ _ rfl)) (int_as (wrap64 (by omega) (by omega)))) rfl rfl rfl (w_n rfl) ?_
            refine TL_q (.int .i64 ((((x.1).toNat - 2) : Nat) : Int)) (fun _ _ hρ _ => r_as (r_sub (hρ _ _ rfl) (hρ _ _ rfl)) (int_as ((wrap64 (by omega) (by omega)).trans (by omega)))) rfl rfl rfl (w_n rfl) ?_
            refine TL_q (.int .i64 ((((x.1).toNat - 2) : Nat) : Int)) (fun _ _ hρ _ => r_assign (hρ _ _ rfl)) rfl rfl rfl (w_n rfl) ?_
            refine TL_seq ?_
            refine T_seq (T_region ?_)
            refine TL_q (.slice a2 ((sealP (l.take 400)).length) cap2) (fun _ _ hρ _ => r_move (hρ _ _ rfl)) rfl rfl rfl (w_n rfl) ?_
            refine TL_q (.int .i64 ((((x.1).toNat - 2) : Nat) : Int)) (fun _ _ hρ _ => r_move (hρ _ _ rfl)) rfl rfl rfl (w_n rfl) ?_
            refine TL_q (.pointer (some ⟨B28, 1, none⟩)) (fun _ _ hρ _ => r_indexAddrA (i := 1) ar25 sz24 (hρ _ _ rfl) (hρ _ _ rfl) (by decide)) rfl rfl rfl (w_n rfl) ?_
            refine TL_q (.int .u32 ((x.2).toNat : Int)) (fun _ _ hρ hm => r_load ag24 (hρ _ _ rfl) (hm.at 21 rfl) rfl) rfl rfl rfl (w_n rfl) ?_
            refine TL_call (.tuple #[.slice none 0 0, .int .i64 2]) (fun _ _ hρ _ => r_call (args := [.slice a2 ((sealP (l.take 400)).length) cap2, .int .i64 ((((x.1).toNat - 2) : Nat) : Int), .int .u32 ((x.2).toNat : Int)]) (enters_of Try.func18 (by kernel_rfl) rfl) (hρ _ _ rfl) ((cons2 (hρ _ _ rfl) (cons2 (hρ _ _ rfl) (cons2 (hρ _ _ rfl) rfl)))) rfl) (fun w hm => spoil_out ((((x.1).toNat - 2) : Nat) : Int) x.2 (sealP (l.take 400)) a2 cap2 w (SliceAt.own byc_len (hm.row 2 rfl) rfl rfl) (by omega) (row_cap (hm.row 2 rfl)) (by omega)) rfl rfl rfl (w_n rfl) ?_
            refine TL_q (.tuple #[.slice none 0 0, .int .i64 2]) (fun _ _ hρ _ => r_move (hρ _ _ rfl)) rfl rfl rfl (w_n rfl) ?_
            refine TL_q (.slice none 0 0) (fun _ _ hρ _ => r_extract (hρ _ _ rfl) rfl) rfl rfl rfl (w_n rfl) ?_
            refine TL_q (.int .i64 2) (fun _ _ hρ _ => r_extract (hρ _ _ rfl) rfl) rfl rfl rfl (w_n rfl) ?_
            refine TL_q (.slice none 0 0) (fun _ _ hρ _ => r_assign (hρ _ _ rfl)) rfl rfl rfl (w_n rfl) ?_
            refine TL_q (.int .i64 2) (fun _ _ hρ _ => r_assign (hρ _ _ rfl)) rfl rfl rfl (w_n rfl) ?_
            refine TL_seq ?_
            refine T_seq (T_region ?_)
            refine TL_q (.slice a2 ((sealP (l.take 400)).length) cap2) (fun _ _ hρ _ => r_move (hρ _ _ rfl)) rfl rfl rfl (w_n rfl) ?_
            refine TL_q (.int .i64 ((((x.1).toNat - 2) : Nat) : Int)) (fun _ _ hρ _ => r_move (hρ _ _ rfl)) rfl rfl rfl (w_n rfl) ?_
            refine TL_q (.pointer (some ⟨B28, 1, none⟩)) (fun _ _ hρ _ => r_indexAddrA (i := 1) ar25 sz24 (hρ _ _ rfl) (hρ _ _ rfl) (by decide)) rfl rfl rfl (w_n rfl) ?_
            refine TL_q (.int .u32 ((x.2).toNat : Int)) (fun _ _ hρ hm => r_load ag24 (hρ _ _ rfl) (hm.at 21 rfl) rfl) rfl rfl rfl (w_n rfl) ?_
            refine TL_call (.tuple #[.slice none 0 0, .bool false]) (fun _ _ hρ _ => r_call (args := [.slice a2 ((sealP (l.take 400)).length) cap2, .int .i64 ((((x.1).toNat - 2) : Nat) : Int), .int .u32 ((x.2).toNat : Int)]) (enters_of Try.func19 (by kernel_rfl) rfl) (hρ _ _ rfl) ((cons2 (hρ _ _ rfl) (cons2 (hρ _ _ rfl) (cons2 (hρ _ _ rfl) rfl)))) rfl) (fun w hm => rspoil_out ((((x.1).toNat - 2) : Nat) : Int) x.2 (sealP (l.take 400)) a2 cap2 w (SliceAt.own byc_len (hm.row 2 rfl) rfl rfl) (by omega) (row_cap (hm.row 2 rfl)) (by omega)) rfl rfl rfl (w_n rfl) ?_
            refine TL_q (.tuple #[.slice none 0 0, .bool false]) (fun _ _ hρ _ => r_move (hρ _ _ rfl)) rfl rfl rfl (w_n rfl) ?_
            refine TL_q (.slice none 0 0) (fun _ _ hρ _ => r_extract (hρ _ _ rfl) rfl) rfl rfl rfl (w_n rfl) ?_
            refine TL_q (.bool false) (fun _ _ hρ _ => r_extract (hρ _ _ rfl) rfl) rfl rfl rfl (w_n rfl) ?_
            refine TL_q (.slice none 0 0) (fun _ _ hρ _ => r_assign (hρ _ _ rfl)) rfl rfl rfl (w_n rfl) ?_
            refine TL_q (.bool false) (fun _ _ hρ _ => r_assign (hρ _ _ rfl)) rfl rfl rfl (w_n rfl) ?_
            refine TL_seq ?_
            refine T_sub [(0, .slice a l.length cap), (5, .slice a1 ((l.take 400).length) cap1), (6, .slice a2 ((sealP (l.take 400)).length) cap2), (7, .slice a25 ((openL (l.take 400)).length) cap25), (60, .slice (some ⟨b27, of27, none⟩) ps.length capp), (61, .int .i64 ((ps.length : Nat) : Int)), (62, .int .i64 ((k : Nat) : Int)), (63, .bool (decide (((k : Nat) : Int) < ((ps.length : Nat) : Int)))), (64, .int .i64 ((k : Nat) : Int)), (65, .pointer (some ⟨b27, of27 + k * 2, none⟩)), (66, .agg #[.int .u32 ((x.1).toNat : Int), .int .u32 ((x.2).toNat : Int)]), (12, .pointer (some ⟨B28, 0, none⟩)), (11, .int .i64 ((k : Nat) : Int)), (67, .int .i64 ((k : Nat) : Int)), (68, .bool (decide (((k : Nat) : Int) = 8))), (69, .pointer (some ⟨B28, 0, none⟩)), (70, .int .u32 ((x.1).toNat : Int)), (71, .int .i64 ((x.1).toNat : Int)), (72, .int .i64 ((((x.1).toNat - 2) : Nat) : Int)), (13, .int .i64 ((((x.1).toNat - 2) : Nat) : Int)), (74, .slice a2 ((sealP (l.take 400)).length) cap2), (75, .int .i64 ((((x.1).toNat - 2) : Nat) : Int)), (76, .pointer (some ⟨B28, 1, none⟩)), (77, .int .u32 ((x.2).toNat : Int)), (78, .tuple #[.slice none 0 0, .int .i64 2]), (73, .tuple #[.slice none 0 0, .int .i64 2]), (79, .slice none 0 0), (80, .int .i64 2), (14, .slice none 0 0), (15, .int .i64 2), (82, .slice a2 ((sealP (l.take 400)).length) cap2), (83, .int .i64 ((((x.1).toNat - 2) : Nat) : Int)), (84, .pointer (some ⟨B28, 1, none⟩)), (85, .int .u32 ((x.2).toNat : Int)), (86, .tuple #[.slice none 0 0, .bool false]), (81, .tuple #[.slice none 0 0, .bool false]), (87, .slice none 0 0), (88, .bool false), (16, .slice none 0 0), (17, .bool false)] [(20, .row (.slice a26 ((openL (l.take 400)).length) cap26) 5 1 ((openL (l.take 400)).length) ((openL (l.take 400)).flatMap byc)), (19, .row (.slice a25 ((openL (l.take 400)).length) cap25) 5 1 ((openL (l.take 400)).length) ((openL (l.take 400)).flatMap byc)), (3, .row (.slice a3 ((sealP (l.take 400)).length) cap3) 5 1 ((sealP (l.take 400)).length) ((sealP (l.take 400)).flatMap byc)), (2, .row (.slice a2 ((sealP (l.take 400)).length) cap2) 5 1 ((sealP (l.take 400)).length) ((sealP (l.take 400)).flatMap byc)), (1, .row (.slice a1 ((l.take 400).length) cap1) 5 1 ((l.take 400).length) ((l.take 400).flatMap byc)), (21, .blk B28 (.cells #[.int .u32 ((x.1).toNat : Int), .int .u32 ((x.2).toNat : Int)] 25))] (sub_cons rfl (sub_cons rfl (sub_cons rfl (sub_cons rfl (sub_cons rfl (sub_cons rfl (sub_cons rfl (sub_cons rfl (sub_cons rfl (sub_cons rfl (sub_cons rfl (sub_cons rfl (sub_cons rfl (sub_cons rfl (sub_cons rfl (sub_cons rfl (sub_cons rfl (sub_cons rfl (sub_cons rfl (sub_cons rfl (sub_cons rfl (sub_cons rfl (sub_cons rfl (sub_cons rfl (sub_cons rfl (sub_cons rfl (sub_cons rfl (sub_cons rfl (sub_cons rfl (sub_cons rfl (sub_cons rfl (sub_cons rfl (sub_cons rfl (sub_cons rfl (sub_cons rfl (sub_cons rfl (sub_cons rfl (sub_cons rfl (sub_cons rfl (sub_cons rfl sub_nil)))))))))))))))))))))))))))))))))))))))) (sub_cons rfl (sub_cons rfl (sub_cons rfl (sub_cons rfl (sub_cons rfl (sub_cons rfl sub_nil)))))) ?_
            refine T_seq ?_
            refine T_seq (T_region ?_)
            refine TL_q (.bool false) (fun _ _ hρ _ => r_move (hρ _ _ rfl)) rfl rfl rfl (w_n rfl) ?_
            refine TL_q (.bool true) (fun _ _ hρ _ => r_not (b := false) (hρ _ _ rfl)) rfl rfl rfl (w_n rfl) ?_
            refine TL_seq ?_
            refine T_cond_t rfl ?_
            refine T_region ?_
            refine TL_q (.slice none 0 0) (fun _ _ hρ _ => r_assign (hρ _ _ rfl)) rfl rfl rfl (w_n rfl) ?_
            refine TL_nil ?_
            refine p_seq ?_
            refine T_seq ?_
            refine T_seq (T_region ?_)
            refine TL_q (.int .i64 2) (fun _ _ hρ _ => r_move (hρ _ _ rfl)) rfl rfl rfl (w_n rfl) ?_
            refine TL_q (.bool false) (fun _ _ hρ _ => r_as (r_eql (hρ _ _ rfl) (hρ _ _ rfl)) (by rfl)) rfl rfl rfl (w_n rfl) ?_
            refine TL_q (.bool false) (fun _ _ hρ _ => r_move (hρ _ _ rfl)) rfl rfl rfl (w_n rfl) ?_
            refine TL_q (.bool false) (fun _ _ hρ _ => r_as (r_neqB (by kernel_rfl) (hρ _ _ rfl) (hρ _ _ rfl)) (by rfl)) rfl rfl rfl (w_n rfl) ?_
            refine TL_q (.bool false) (fun _ _ hρ _ => r_move (hρ _ _ rfl)) rfl rfl rfl (w_n rfl) ?_
            refine TL_q (.int .i64 2) (fun _ _ hρ _ => r_move (hρ _ _ rfl)) rfl rfl rfl (want_y 95 rfl rfl rfl) ?_
            refine TL_q (.bool true) (fun _ _ hρ _ => r_as (r_neq (hρ _ _ rfl) (hρ _ _ rfl)) (by rfl)) rfl rfl rfl (want_y 95 rfl rfl rfl) ?_
            refine TL_q (.bool true) (fun _ _ hρ _ => r_move (hρ _ _ rfl)) rfl rfl rfl (want_y 95 rfl rfl rfl) ?_
            refine TL_q (.int .i64 2) (fun _ _ hρ _ => r_move (hρ _ _ rfl)) rfl rfl rfl (want_y 98 rfl rfl rfl) ?_
            refine TL_q (.bool false) (fun _ _ hρ _ => r_as (r_neq (hρ _ _ rfl) (hρ _ _ rfl)) (by rfl)) rfl rfl rfl (want_y 98 rfl rfl rfl) ?_
            refine TL_q (.bool false) (fun _ _ hρ _ => r_pick_t (hρ _ _ rfl) (hρ _ _ rfl)) rfl rfl rfl (want_y 95 rfl rfl rfl) ?_
            refine TL_q (.bool false) (fun _ _ hρ _ => r_pick_f (hρ _ _ rfl) (hρ _ _ rfl)) rfl rfl rfl (w_n rfl) ?_
            refine TL_q (.bool false) (fun _ _ hρ _ => r_move (hρ _ _ rfl)) rfl rfl rfl (w_n rfl) ?_
            refine TL_q (.slice none 0 0) (fun _ _ hρ _ => r_move (hρ _ _ rfl)) rfl rfl rfl (want_y 103 rfl rfl rfl) ?_
            refine TL_q (.slice none 0 0) (fun _ _ hρ _ => r_move (hρ _ _ rfl)) rfl rfl rfl (want_y 103 rfl rfl rfl) ?_
            refine TL_call (.bool true) (fun _ _ hρ _ => r_call (args := [.slice none 0 0, .slice none 0 0]) (enters_of Try.func11 (by kernel_rfl) rfl) (hρ _ _ rfl) ((cons2 (hρ _ _ rfl) (cons2 (hρ _ _ rfl) rfl))) rfl) (fun w _ => (equal_b [] [] none none 0 0 w (sliceNil w) (sliceNil w) (Nat.le_of_ble_eq_true rfl) (Nat.le_of_ble_eq_true rfl)).mono fun _ _ h => ⟨h.1.trans (congrArg Ending.returned (bool_as (decide_eq_true (rfl)))), h.2⟩) rfl rfl rfl (want_y 103 rfl rfl rfl) ?_
            refine TL_q (.bool false) (fun _ _ hρ _ => r_not (b := true) (hρ _ _ rfl)) rfl rfl rfl (want_y 103 rfl rfl rfl) ?_
            refine TL_q (.bool false) (fun _ _ hρ _ => r_pick_f (hρ _ _ rfl) (hρ _ _ rfl)) rfl rfl rfl (w_n rfl) ?_
            refine TL_seq ?_
            refine T_cond_f rfl ?_
            refine T_skip' ?_
            refine p_seq ?_
            refine T_seq (T_region ?_)
            refine TL_q (.slice none 0 0) (fun _ _ hρ _ => r_move (hρ _ _ rfl)) rfl rfl rfl (w_n rfl) ?_
            refine TL_q (.int .i64 0) (fun _ _ hρ _ => r_len sl29 (hρ _ _ rfl)) rfl rfl rfl (w_n rfl) ?_
            refine TL_q (.int .i64 0) (fun _ _ hρ _ => r_move (hρ _ _ rfl)) rfl rfl rfl (w_n rfl) ?_
            refine TL_seq ?_
            refine T_block ?_
            refine T_rounds 1 ?_
            refine TR_succ ?_
            refine T_seq (T_region ?_)
            refine TL_q (.bool false) (fun _ _ hρ _ => r_as (r_lss (hρ _ _ rfl) (hρ _ _ rfl)) (by rfl)) rfl rfl rfl (w_n rfl) ?_
            refine TL_seq ?_
            refine T_seq ?_
            refine T_cond_f rfl ?_
            refine T_exit' ?_
            refine p_then_x ?_
            refine p_then_x ?_
            refine p_blk_x ?_
            refine p_blk_n ?_
            refine p_seq ?_
            refine T_region ?_
            refine TL_q (.int .i64 ((k + 1 : Nat) : Int)) (fun _ _ hρ _ => r_as (r_add (hρ _ _ rfl) (hρ _ _ rfl)) (int_as ((wrap64 (by omega) (by omega)).trans (by omega)))) rfl rfl rfl (w_n rfl) ?_
            refine TL_q (.int .i64 ((k + 1 : Nat) : Int)) (fun _ _ hρ _ => r_move (hρ _ _ rfl)) rfl rfl rfl (w_n rfl) ?_
            refine TL_nil ?_
            exact p_at (k + 1) ⟨by omega, by omega⟩ (sub_cons rfl (sub_cons rfl (sub_cons rfl (sub_cons rfl (sub_cons rfl (sub_cons rfl (sub_cons rfl sub_nil))))))) (sub_cons rfl (sub_cons rfl (sub_cons rfl (sub_cons rfl (sub_cons rfl sub_nil)))))
          · skip
            by_cases hS : spoilP (sealP (l.take 400)) ((x.1).toNat - 2) x.2 = none
            · skip
              have hsm := someN_f (by omega) hS
              refine T_seq (T_region ?_)
              refine TL_q (.pointer (some ⟨B28, 0, none⟩)) (fun _ _ hρ _ => r_indexAddrA (i := 0) ar25 sz24 (hρ _ _ rfl) (hρ _ _ rfl) (by decide)) rfl rfl rfl (w_n rfl) ?_
              refine TL_q (.int .u32 ((x.1).toNat : Int)) (fun _ _ hρ hm => r_load ag24 (hρ _ _ rfl) (hm.at 21 rfl) rfl) rfl rfl rfl (w_n rfl) ?_
              refine TL_q (.int .i64 ((x.1).toNat : Int)) (fun _ _ hρ _ => r_as (r_conv un24 io3 (hρ _ _ rfl)) (int_as (wrap64 (by omega) (by omega)))) rfl rfl rfl (w_n rfl) ?_
              refine TL_q (.int .i64 ((((x.1).toNat - 2) : Nat) : Int)) (fun _ _ hρ _ => r_as (r_sub (hρ _ _ rfl) (hρ _ _ rfl)) (int_as ((wrap64 (by omega) (by omega)).trans (by omega)))) rfl rfl rfl (w_n rfl) ?_
              refine TL_q (.int .i64 ((((x.1).toNat - 2) : Nat) : Int)) (fun _ _ hρ _ => r_assign (hρ _ _ rfl)) rfl rfl rfl (w_n rfl) ?_
              refine TL_seq ?_
              refine T_seq (T_region ?_)
              refine TL_q (.slice a2 ((sealP (l.take 400)).length) cap2) (fun _ _ hρ _ => r_move (hρ _ _ rfl)) rfl rfl rfl (w_n rfl) ?_
              refine TL_q (.int .i64 ((((x.1).toNat - 2) : Nat) : Int)) (fun _ _ hρ _ => r_move (hρ _ _ rfl)) rfl rfl rfl (w_n rfl) ?_
              refine TL_q (.pointer (some ⟨B28, 1, none⟩)) (fun _ _ hρ _ => r_indexAddrA (i := 1) ar25 sz24 (hρ _ _ rfl) (hρ _ _ rfl) (by decide)) rfl rfl rfl (w_n rfl) ?_
              refine TL_q (.int .u32 ((x.2).toNat : Int)) (fun _ _ hρ hm => r_load ag24 (hρ _ _ rfl) (hm.at 21 rfl) rfl) rfl rfl rfl (w_n rfl) ?_
              refine TL_callN (fun (_ : Option Addr × Nat) => True) (fun (a37, cap37) => .tuple #[.slice a37 0 cap37, .int .i64 2]) (fun (a37, cap37) => [(28, .row (.slice a37 0 cap37) 5 1 0 [])]) (fun _ _ hρ _ => r_call (args := [.slice a2 ((sealP (l.take 400)).length) cap2, .int .i64 ((((x.1).toNat - 2) : Nat) : Int), .int .u32 ((x.2).toNat : Int)]) (enters_of Try.func18 (by kernel_rfl) rfl) (hρ _ _ rfl) ((cons2 (hρ _ _ rfl) (cons2 (hρ _ _ rfl) (cons2 (hρ _ _ rfl) rfl)))) rfl) (fun w hm => (by have hb := spoil_in ((x.1).toNat - 2) x.2 (sealP (l.take 400)) a2 cap2 w (SliceAt.own byc_len (hm.row 2 rfl) rfl rfl) (by omega) (row_cap (hm.row 2 rfl)) (by omega); rw [hS] at hb; exact hb.mono fun e w' ⟨a', cap', he, hb, hr⟩ => ⟨(a', cap'), trivial, he, hb, newOk1 28 hr⟩)) rfl rfl rfl (w_n rfl) ?_
              rintro ⟨a37, cap37⟩ -
              refine TL_q (.tuple #[.slice a37 0 cap37, .int .i64 2]) (fun _ _ hρ _ => r_move (hρ _ _ rfl)) rfl rfl rfl (w_n rfl) ?_
              refine TL_q (.slice a37 0 cap37) (fun _ _ hρ _ => r_extract (hρ _ _ rfl) rfl) rfl rfl rfl (w_n rfl) ?_
              refine TL_q (.int .i64 2) (fun _ _ hρ _ => r_extract (hρ _ _ rfl) rfl) rfl rfl rfl (w_n rfl) ?_
              refine TL_q (.slice a37 0 cap37) (fun _ _ hρ _ => r_assign (hρ _ _ rfl)) rfl rfl rfl (w_n rfl) ?_
              refine TL_q (.int .i64 2) (fun _ _ hρ _ => r_assign (hρ _ _ rfl)) rfl rfl rfl (w_n rfl) ?_
              refine TL_seq ?_
              refine T_seq (T_region ?_)
              refine TL_q (.slice a2 ((sealP (l.take 400)).length) cap2) (fun _ _ hρ _ => r_move (hρ _ _ rfl)) rfl rfl rfl (w_n rfl) ?_
              refine TL_q (.int .i64 ((((x.1).toNat - 2) : Nat) : Int)) (fun _ _ hρ _ => r_move (hρ _ _ rfl)) rfl rfl rfl (w_n rfl) ?_
              refine TL_q (.pointer (some ⟨B28, 1, none⟩)) (fun _ _ hρ _ => r_indexAddrA (i := 1) ar25 sz24 (hρ _ _ rfl) (hρ _ _ rfl) (by decide)) rfl rfl rfl (w_n rfl) ?_
              refine TL_q (.int .u32 ((x.2).toNat : Int)) (fun _ _ hρ hm => r_load ag24 (hρ _ _ rfl) (hm.at 21 rfl) rfl) rfl rfl rfl (w_n rfl) ?_
              refine TL_callN (fun (_ : Option Addr × Nat) => True) (fun (a38, cap38) => .tuple #[.slice a38 ((spoilN (sealP (l.take 400)) ((x.1).toNat - 2) x.2 32).length) cap38, .bool false]) (fun (a38, cap38) => [(29, .row (.slice a38 ((spoilN (sealP (l.take 400)) ((x.1).toNat - 2) x.2 32).length) cap38) 5 1 ((spoilN (sealP (l.take 400)) ((x.1).toNat - 2) x.2 32).length) ((spoilN (sealP (l.take 400)) ((x.1).toNat - 2) x.2 32).flatMap byc))]) (fun _ _ hρ _ => r_call (args := [.slice a2 ((sealP (l.take 400)).length) cap2, .int .i64 ((((x.1).toNat - 2) : Nat) : Int), .int .u32 ((x.2).toNat : Int)]) (enters_of Try.func19 (by kernel_rfl) rfl) (hρ _ _ rfl) ((cons2 (hρ _ _ rfl) (cons2 (hρ _ _ rfl) (cons2 (hρ _ _ rfl) rfl)))) rfl) (fun w hm => (by have hb := rspoil_in ((x.1).toNat - 2) x.2 (sealP (l.take 400)) a2 cap2 w (SliceAt.own byc_len (hm.row 2 rfl) rfl rfl) (by omega) (row_cap (hm.row 2 rfl)) (by omega); rw [hsm] at hb; exact hb.mono fun e w' ⟨a', cap', he, hb, hr⟩ => ⟨(a', cap'), trivial, he, hb, newOk1 29 hr⟩)) rfl rfl rfl (w_n rfl) ?_
              rintro ⟨a38, cap38⟩ -
              refine TL_q (.tuple #[.slice a38 ((spoilN (sealP (l.take 400)) ((x.1).toNat - 2) x.2 32).length) cap38, .bool false]) (fun _ _ hρ _ => r_move (hρ _ _ rfl)) rfl rfl rfl (w_n rfl) ?_
              refine TL_q (.slice a38 ((spoilN (sealP (l.take 400)) ((x.1).toNat - 2) x.2 32).length) cap38) (fun _ _ hρ _ => r_extract (hρ _ _ rfl) rfl) rfl rfl rfl (w_n rfl) ?_
              refine TL_q (.bool false) (fun _ _ hρ _ => r_extract (hρ _ _ rfl) rfl) rfl rfl rfl (w_n rfl) ?_
              refine TL_q (.slice a38 ((spoilN (sealP (l.take 400)) ((x.1).toNat - 2) x.2 32).length) cap38) (fun _ _ hρ _ => r_assign (hρ _ _ rfl)) rfl rfl rfl (w_n rfl) ?_
              refine TL_q (.bool false) (fun _ _ hρ _ => r_assign (hρ _ _ rfl)) rfl rfl rfl (w_n rfl) ?_
              refine TL_seq ?_
              refine T_sub [(0, .slice a l.length cap), (5, .slice a1 ((l.take 400).length) cap1), (6, .slice a2 ((sealP (l.take 400)).length) cap2), (7, .slice a25 ((openL (l.take 400)).length) cap25), (60, .slice (some ⟨b27, of27, none⟩) ps.length capp), (61, .int .i64 ((ps.length : Nat) : Int)), (62, .int .i64 ((k : Nat) : Int)), (63, .bool (decide (((k : Nat) : Int) < ((ps.length : Nat) : Int)))), (64, .int .i64 ((k : Nat) : Int)), (65, .pointer (some ⟨b27, of27 + k * 2, none⟩)), (66, .agg #[.int .u32 ((x.1).toNat : Int), .int .u32 ((x.2).toNat : Int)]), (12, .pointer (some ⟨B28, 0, none⟩)), (11, .int .i64 ((k : Nat) : Int)), (67, .int .i64 ((k : Nat) : Int)), (68, .bool (decide (((k : Nat) : Int) = 8))), (69, .pointer (some ⟨B28, 0, none⟩)), (70, .int .u32 ((x.1).toNat : Int)), (71, .int .i64 ((x.1).toNat : Int)), (72, .int .i64 ((((x.1).toNat - 2) : Nat) : Int)), (13, .int .i64 ((((x.1).toNat - 2) : Nat) : Int)), (74, .slice a2 ((sealP (l.take 400)).length) cap2), (75, .int .i64 ((((x.1).toNat - 2) : Nat) : Int)), (76, .pointer (some ⟨B28, 1, none⟩)), (77, .int .u32 ((x.2).toNat : Int)), (78, .tuple #[.slice a37 0 cap37, .int .i64 2]), (73, .tuple #[.slice a37 0 cap37, .int .i64 2]), (79, .slice a37 0 cap37), (80, .int .i64 2), (14, .slice a37 0 cap37), (15, .int .i64 2), (82, .slice a2 ((sealP (l.take 400)).length) cap2), (83, .int .i64 ((((x.1).toNat - 2) : Nat) : Int)), (84, .pointer (some ⟨B28, 1, none⟩)), (85, .int .u32 ((x.2).toNat : Int)), (86, .tuple #[.slice a38 ((spoilN (sealP (l.take 400)) ((x.1).toNat - 2) x.2 32).length) cap38, .bool false]), (81, .tuple #[.slice a38 ((spoilN (sealP (l.take 400)) ((x.1).toNat - 2) x.2 32).length) cap38, .bool false]), (87, .slice a38 ((spoilN (sealP (l.take 400)) ((x.1).toNat - 2) x.2 32).length) cap38), (88, .bool false), (16, .slice a38 ((spoilN (sealP (l.take 400)) ((x.1).toNat - 2) x.2 32).length) cap38), (17, .bool false)] [(29, .row (.slice a38 ((spoilN (sealP (l.take 400)) ((x.1).toNat - 2) x.2 32).length) cap38) 5 1 ((spoilN (sealP (l.take 400)) ((x.1).toNat - 2) x.2 32).length) ((spoilN (sealP (l.take 400)) ((x.1).toNat - 2) x.2 32).flatMap byc)), (28, .row (.slice a37 0 cap37) 5 1 0 []), (20, .row (.slice a26 ((openL (l.take 400)).length) cap26) 5 1 ((openL (l.take 400)).length) ((openL (l.take 400)).flatMap byc)), (19, .row (.slice a25 ((openL (l.take 400)).length) cap25) 5 1 ((openL (l.take 400)).length) ((openL (l.take 400)).flatMap byc)), (3, .row (.slice a3 ((sealP (l.take 400)).length) cap3) 5 1 ((sealP (l.take 400)).length) ((sealP (l.take 400)).flatMap byc)), (2, .row (.slice a2 ((sealP (l.take 400)).length) cap2) 5 1 ((sealP (l.take 400)).length) ((sealP (l.take 400)).flatMap byc)), (1, .row (.slice a1 ((l.take 400).length) cap1) 5 1 ((l.take 400).length) ((l.take 400).flatMap byc)), (21, .blk B28 (.cells #[.int .u32 ((x.1).toNat : Int), .int .u32 ((x.2).toNat : Int)] 25))] (sub_cons rfl (sub_cons rfl (sub_cons rfl (sub_cons rfl (sub_cons rfl (sub_cons rfl (sub_cons rfl (sub_cons rfl (sub_cons rfl (sub_cons rfl (sub_cons rfl (sub_cons rfl (sub_cons rfl (sub_cons rfl (sub_cons rfl (sub_cons rfl (sub_cons rfl (sub_cons rfl (sub_cons rfl (sub_cons rfl (sub_cons rfl (sub_cons rfl (sub_cons rfl (sub_cons rfl (sub_cons rfl (sub_cons rfl (sub_cons rfl (sub_cons rfl (sub_cons rfl (sub_cons rfl (sub_cons rfl (sub_cons rfl (sub_cons rfl (sub_cons rfl (sub_cons rfl (sub_cons rfl (sub_cons rfl (sub_cons rfl (sub_cons rfl (sub_cons rfl sub_nil)))))))))))))))))))))))))))))))))))))))) (sub_cons rfl (sub_cons rfl (sub_cons rfl (sub_cons rfl (sub_cons rfl (sub_cons rfl (sub_cons rfl (sub_cons rfl sub_nil)))))))) ?_
              refine T_seq ?_
              refine T_seq (T_region ?_)
              refine TL_q (.bool false) (fun _ _ hρ _ => r_move (hρ _ _ rfl)) rfl rfl rfl (w_n rfl) ?_
              refine TL_q (.bool true) (fun _ _ hρ _ => r_not (b := false) (hρ _ _ rfl)) rfl rfl rfl (w_n rfl) ?_
              refine TL_seq ?_
              refine T_cond_t rfl ?_
              refine T_region ?_
              refine TL_q (.slice none 0 0) (fun _ _ hρ _ => r_assign (hρ _ _ rfl)) rfl rfl rfl (w_n rfl) ?_
              refine TL_nil ?_
              refine p_seq ?_
              refine T_seq ?_
              refine T_seq (T_region ?_)
              refine TL_q (.int .i64 2) (fun _ _ hρ _ => r_move (hρ _ _ rfl)) rfl rfl rfl (w_n rfl) ?_
              refine TL_q (.bool false) (fun _ _ hρ _ => r_as (r_eql (hρ _ _ rfl) (hρ _ _ rfl)) (by rfl)) rfl rfl rfl (w_n rfl) ?_
              refine TL_q (.bool false) (fun _ _ hρ _ => r_move (hρ _ _ rfl)) rfl rfl rfl (w_n rfl) ?_
              refine TL_q (.bool false) (fun _ _ hρ _ => r_as (r_neqB (by kernel_rfl) (hρ _ _ rfl) (hρ _ _ rfl)) (by rfl)) rfl rfl rfl (w_n rfl) ?_
              refine TL_q (.bool false) (fun _ _ hρ _ => r_move (hρ _ _ rfl)) rfl rfl rfl (w_n rfl) ?_
              refine TL_q (.int .i64 2) (fun _ _ hρ _ => r_move (hρ _ _ rfl)) rfl rfl rfl (want_y 95 rfl rfl rfl) ?_
              refine TL_q (.bool true) (fun _ _ hρ _ => r_as (r_neq (hρ _ _ rfl) (hρ _ _ rfl)) (by rfl)) rfl rfl rfl (want_y 95 rfl rfl rfl) ?_
              refine TL_q (.bool true) (fun _ _ hρ _ => r_move (hρ _ _ rfl)) rfl rfl rfl (want_y 95 rfl rfl rfl) ?_
              refine TL_q (.int .i64 2) (fun _ _ hρ _ => r_move (hρ _ _ rfl)) rfl rfl rfl (want_y 98 rfl rfl rfl) ?_
              refine TL_q (.bool false) (fun _ _ hρ _ => r_as (r_neq (hρ _ _ rfl) (hρ _ _ rfl)) (by rfl)) rfl rfl rfl (want_y 98 rfl rfl rfl) ?_
              refine TL_q (.bool false) (fun _ _ hρ _ => r_pick_t (hρ _ _ rfl) (hρ _ _ rfl)) rfl rfl rfl (want_y 95 rfl rfl rfl) ?_
              refine TL_q (.bool false) (fun _ _ hρ _ => r_pick_f (hρ _ _ rfl) (hρ _ _ rfl)) rfl rfl rfl (w_n rfl) ?_
              refine TL_q (.bool false) (fun _ _ hρ _ => r_move (hρ _ _ rfl)) rfl rfl rfl (w_n rfl) ?_
              refine TL_q (.slice a37 0 cap37) (fun _ _ hρ _ => r_move (hρ _ _ rfl)) rfl rfl rfl (want_y 103 rfl rfl rfl) ?_
              refine TL_q (.slice none 0 0) (fun _ _ hρ _ => r_move (hρ _ _ rfl)) rfl rfl rfl (want_y 103 rfl rfl rfl) ?_
              refine TL_call (.bool true) (fun _ _ hρ _ => r_call (args := [.slice a37 0 cap37, .slice none 0 0]) (enters_of Try.func11 (by kernel_rfl) rfl) (hρ _ _ rfl) ((cons2 (hρ _ _ rfl) (cons2 (hρ _ _ rfl) rfl))) rfl) (fun w hm => (equal_b [] [] a37 none cap37 0 w (SliceAt.own byc_len (hm.row 28 rfl) rfl rfl) (sliceNil w) (Nat.le_of_ble_eq_true rfl) (Nat.le_of_ble_eq_true rfl)).mono fun _ _ h => ⟨h.1.trans (congrArg Ending.returned (bool_as (decide_eq_true (rfl)))), h.2⟩) rfl rfl rfl (want_y 103 rfl rfl rfl) ?_
              refine TL_q (.bool false) (fun _ _ hρ _ => r_not (b := true) (hρ _ _ rfl)) rfl rfl rfl (want_y 103 rfl rfl rfl) ?_
              refine TL_q (.bool false) (fun _ _ hρ _ => r_pick_f (hρ _ _ rfl) (hρ _ _ rfl)) rfl rfl rfl (w_n rfl) ?_
              refine TL_seq ?_
              refine T_cond_f rfl ?_
              refine T_skip' ?_
              refine p_seq ?_
              refine T_seq (T_region ?_)
              refine TL_q (.slice a37 0 cap37) (fun _ _ hρ _ => r_move (hρ _ _ rfl)) rfl rfl rfl (w_n rfl) ?_
              refine TL_q (.int .i64 0) (fun _ _ hρ _ => r_len sl29 (hρ _ _ rfl)) rfl rfl rfl (w_n rfl) ?_
              refine TL_q (.int .i64 0) (fun _ _ hρ _ => r_move (hρ _ _ rfl)) rfl rfl rfl (w_n rfl) ?_
              refine TL_seq ?_
              refine T_block ?_
              refine T_rounds 1 ?_
              refine TR_succ ?_
              refine T_seq (T_region ?_)
              refine TL_q (.bool false) (fun _ _ hρ _ => r_as (r_lss (hρ _ _ rfl) (hρ _ _ rfl)) (by rfl)) rfl rfl rfl (w_n rfl) ?_
              refine TL_seq ?_
              refine T_seq ?_
              refine T_cond_f rfl ?_
              refine T_exit' ?_
              refine p_then_x ?_
              refine p_then_x ?_
              refine p_blk_x ?_
              refine p_blk_n ?_
              refine p_seq ?_
              refine T_region ?_
              refine TL_q (.int .i64 ((k + 1 : Nat) : Int)) (fun _ _ hρ _ => r_as (r_add (hρ _ _ rfl) (hρ _ _ rfl)) (int_as ((wrap64 (by omega) (by omega)).trans (by omega)))) rfl rfl rfl (w_n rfl) ?_
              refine TL_q (.int .i64 ((k + 1 : Nat) : Int)) (fun _ _ hρ _ => r_move (hρ _ _ rfl)) rfl rfl rfl (w_n rfl) ?_
              refine TL_nil ?_
              exact p_at (k + 1) ⟨by omega, by omega⟩ (sub_cons rfl (sub_cons rfl (sub_cons rfl (sub_cons rfl (sub_cons rfl (sub_cons rfl (sub_cons rfl sub_nil))))))) (sub_cons rfl (sub_cons rfl (sub_cons rfl (sub_cons rfl (sub_cons rfl sub_nil)))))
            · skip
              have hS1 := (spoilP_s hS).1
              have hsm := (spoilP_s hS).2
              have hql2 : (spoilN (sealP (l.take 400)) ((x.1).toNat - 2) x.2 32).length = (sealP (l.take 400)).length := spoilN_len _ _ _ _
              refine T_seq (T_region ?_)
              refine TL_q (.pointer (some ⟨B28, 0, none⟩)) (fun _ _ hρ _ => r_indexAddrA (i := 0) ar25 sz24 (hρ _ _ rfl) (hρ _ _ rfl) (by decide)) rfl rfl rfl (w_n rfl) ?_
              refine TL_q (.int .u32 ((x.1).toNat : Int)) (fun _ _ hρ hm => r_load ag24 (hρ _ _ rfl) (hm.at 21 rfl) rfl) rfl rfl rfl (w_n rfl) ?_
              refine TL_q (.int .i64 ((x.1).toNat : Int)) (fun _ _ hρ _ => r_as (r_conv un24 io3 (hρ _ _ rfl)) (int_as (wrap64 (by omega) (by omega)))) rfl rfl rfl (w_n rfl) ?_
              refine TL_q (.int .i64 ((((x.1).toNat - 2) : Nat) : Int)) (fun _ _ hρ _ => r_as (r_sub (hρ _ _ rfl) (hρ _ _ rfl)) (int_as ((wrap64 (by omega) (by omega)).trans (by omega)))) rfl rfl rfl (w_n rfl) ?_
              refine TL_q (.int .i64 ((((x.1).toNat - 2) : Nat) : Int)) (fun _ _ hρ _ => r_assign (hρ _ _ rfl)) rfl rfl rfl (w_n rfl) ?_
              refine TL_seq ?_
              refine T_seq (T_region ?_)
              refine TL_q (.slice a2 ((sealP (l.take 400)).length) cap2) (fun _ _ hρ _ => r_move (hρ _ _ rfl)) rfl rfl rfl (w_n rfl) ?_
              refine TL_q (.int .i64 ((((x.1).toNat - 2) : Nat) : Int)) (fun _ _ hρ _ => r_move (hρ _ _ rfl)) rfl rfl rfl (w_n rfl) ?_
              refine TL_q (.pointer (some ⟨B28, 1, none⟩)) (fun _ _ hρ _ => r_indexAddrA (i := 1) ar25 sz24 (hρ _ _ rfl) (hρ _ _ rfl) (by decide)) rfl rfl rfl (w_n rfl) ?_
              refine TL_q (.int .u32 ((x.2).toNat : Int)) (fun _ _ hρ hm => r_load ag24 (hρ _ _ rfl) (hm.at 21 rfl) rfl) rfl rfl rfl (w_n rfl) ?_
              refine TL_callN (fun (_ : Option Addr × Nat) => True) (fun (a39, cap39) => .tuple #[.slice a39 ((spoilN (sealP (l.take 400)) ((x.1).toNat - 2) x.2 32).length) cap39, .int .i64 0]) (fun (a39, cap39) => [(30, .row (.slice a39 ((spoilN (sealP (l.take 400)) ((x.1).toNat - 2) x.2 32).length) cap39) 5 1 ((spoilN (sealP (l.take 400)) ((x.1).toNat - 2) x.2 32).length) ((spoilN (sealP (l.take 400)) ((x.1).toNat - 2) x.2 32).flatMap byc))]) (fun _ _ hρ _ => r_call (args := [.slice a2 ((sealP (l.take 400)).length) cap2, .int .i64 ((((x.1).toNat - 2) : Nat) : Int), .int .u32 ((x.2).toNat : Int)]) (enters_of Try.func18 (by kernel_rfl) rfl) (hρ _ _ rfl) ((cons2 (hρ _ _ rfl) (cons2 (hρ _ _ rfl) (cons2 (hρ _ _ rfl) rfl)))) rfl) (fun w hm => (by have hb := spoil_in ((x.1).toNat - 2) x.2 (sealP (l.take 400)) a2 cap2 w (SliceAt.own byc_len (hm.row 2 rfl) rfl rfl) (by omega) (row_cap (hm.row 2 rfl)) (by omega); rw [hS1] at hb; exact hb.mono fun e w' ⟨a', cap', he, hb, hr⟩ => ⟨(a', cap'), trivial, he, hb, newOk1 30 hr⟩)) rfl rfl rfl (w_n rfl) ?_
              rintro ⟨a39, cap39⟩ -
              refine TL_q (.tuple #[.slice a39 ((spoilN (sealP (l.take 400)) ((x.1).toNat - 2) x.2 32).length) cap39, .int .i64 0]) (fun _ _ hρ _ => r_move (hρ _ _ rfl)) rfl rfl rfl (w_n rfl) ?_
              refine TL_q (.slice a39 ((spoilN (sealP (l.take 400)) ((x.1).toNat - 2) x.2 32).length) cap39) (fun _ _ hρ _ => r_extract (hρ _ _ rfl) rfl) rfl rfl rfl (w_n rfl) ?_
              refine TL_q (.int .i64 0) (fun _ _ hρ _ => r_extract (hρ _ _ rfl) rfl) rfl rfl rfl (w_n rfl) ?_
              refine TL_q (.slice a39 ((spoilN (sealP (l.take 400)) ((x.1).toNat - 2) x.2 32).length) cap39) (fun _ _ hρ _ => r_assign (hρ _ _ rfl)) rfl rfl rfl (w_n rfl) ?_
              refine TL_q (.int .i64 0) (fun _ _ hρ _ => r_assign (hρ _ _ rfl)) rfl rfl rfl (w_n rfl) ?_
              refine TL_seq ?_
              refine T_seq (T_region ?_)
              refine TL_q (.slice a2 ((sealP (l.take 400)).length) cap2) (fun _ _ hρ _ => r_move (hρ _ _ rfl)) rfl rfl rfl (w_n rfl) ?_
              refine TL_q (.int .i64 ((((x.1).toNat - 2) : Nat) : Int)) (fun _ _ hρ _ => r_move (hρ _ _ rfl)) rfl rfl rfl (w_n rfl) ?_
              refine TL_q (.pointer (some ⟨B28, 1, none⟩)) (fun _ _ hρ _ => r_indexAddrA (i := 1) ar25 sz24 (hρ _ _ rfl) (hρ _ _ rfl) (by decide)) rfl rfl rfl (w_n rfl) ?_
              refine TL_q (.int .u32 ((x.2).toNat : Int)) (fun _ _ hρ hm => r_load ag24 (hρ _ _ rfl) (hm.at 21 rfl) rfl) rfl rfl rfl (w_n rfl) ?_
              refine TL_callN (fun (_ : Option Addr × Nat) => True) (fun (a40, cap40) => .tuple #[.slice a40 ((spoilN (sealP (l.take 400)) ((x.1).toNat - 2) x.2 32).length) cap40, .bool true]) (fun (a40, cap40) => [(31, .row (.slice a40 ((spoilN (sealP (l.take 400)) ((x.1).toNat - 2) x.2 32).length) cap40) 5 1 ((spoilN (sealP (l.take 400)) ((x.1).toNat - 2) x.2 32).length) ((spoilN (sealP (l.take 400)) ((x.1).toNat - 2) x.2 32).flatMap byc))]) (fun _ _ hρ _ => r_call (args := [.slice a2 ((sealP (l.take 400)).length) cap2, .int .i64 ((((x.1).toNat - 2) : Nat) : Int), .int .u32 ((x.2).toNat : Int)]) (enters_of Try.func19 (by kernel_rfl) rfl) (hρ _ _ rfl) ((cons2 (hρ _ _ rfl) (cons2 (hρ _ _ rfl) (cons2 (hρ _ _ rfl) rfl)))) rfl) (fun w hm => (by have hb := rspoil_in ((x.1).toNat - 2) x.2 (sealP (l.take 400)) a2 cap2 w (SliceAt.own byc_len (hm.row 2 rfl) rfl rfl) (by omega) (row_cap (hm.row 2 rfl)) (by omega); rw [hsm] at hb; exact hb.mono fun e w' ⟨a', cap', he, hb, hr⟩ => ⟨(a', cap'), trivial, he, hb, newOk1 31 hr⟩)) rfl rfl rfl (w_n rfl) ?_
              rintro ⟨a40, cap40⟩ -
              refine TL_q (.tuple #[.slice a40 ((spoilN (sealP (l.take 400)) ((x.1).toNat - 2) x.2 32).length) cap40, .bool true]) (fun _ _ hρ _ => r_move (hρ _ _ rfl)) rfl rfl rfl (w_n rfl) ?_
              refine TL_q (.slice a40 ((spoilN (sealP (l.take 400)) ((x.1).toNat - 2) x.2 32).length) cap40) (fun _ _ hρ _ => r_extract (hρ _ _ rfl) rfl) rfl rfl rfl (w_n rfl) ?_
              refine TL_q (.bool true) (fun _ _ hρ _ => r_extract (hρ _ _ rfl) rfl) rfl rfl rfl (w_n rfl) ?_
              refine TL_q (.slice a40 ((spoilN (sealP (l.take 400)) ((x.1).toNat - 2) x.2 32).length) cap40) (fun _ _ hρ _ => r_assign (hρ _ _ rfl)) rfl rfl rfl (w_n rfl) ?_
              refine TL_q (.bool true) (fun _ _ hρ _ => r_assign (hρ _ _ rfl)) rfl rfl rfl (w_n rfl) ?_
              refine TL_seq ?_
              refine T_sub [(0, .slice a l.length cap), (5, .slice a1 ((l.take 400).length) cap1), (6, .slice a2 ((sealP (l.take 400)).length) cap2), (7, .slice a25 ((openL (l.take 400)).length) cap25), (60, .slice (some ⟨b27, of27, none⟩) ps.length capp), (61, .int .i64 ((ps.length : Nat) : Int)), (62, .int .i64 ((k : Nat) : Int)), (63, .bool (decide (((k : Nat) : Int) < ((ps.length : Nat) : Int)))), (64, .int .i64 ((k : Nat) : Int)), (65, .pointer (some ⟨b27, of27 + k * 2, none⟩)), (66, .agg #[.int .u32 ((x.1).toNat : Int), .int .u32 ((x.2).toNat : Int)]), (12, .pointer (some ⟨B28, 0, none⟩)), (11, .int .i64 ((k : Nat) : Int)), (67, .int .i64 ((k : Nat) : Int)), (68, .bool (decide (((k : Nat) : Int) = 8))), (69, .pointer (some ⟨B28, 0, none⟩)), (70, .int .u32 ((x.1).toNat : Int)), (71, .int .i64 ((x.1).toNat : Int)), (72, .int .i64 ((((x.1).toNat - 2) : Nat) : Int)), (13, .int .i64 ((((x.1).toNat - 2) : Nat) : Int)), (74, .slice a2 ((sealP (l.take 400)).length) cap2), (75, .int .i64 ((((x.1).toNat - 2) : Nat) : Int)), (76, .pointer (some ⟨B28, 1, none⟩)), (77, .int .u32 ((x.2).toNat : Int)), (78, .tuple #[.slice a39 ((spoilN (sealP (l.take 400)) ((x.1).toNat - 2) x.2 32).length) cap39, .int .i64 0]), (73, .tuple #[.slice a39 ((spoilN (sealP (l.take 400)) ((x.1).toNat - 2) x.2 32).length) cap39, .int .i64 0]), (79, .slice a39 ((spoilN (sealP (l.take 400)) ((x.1).toNat - 2) x.2 32).length) cap39), (80, .int .i64 0), (14, .slice a39 ((spoilN (sealP (l.take 400)) ((x.1).toNat - 2) x.2 32).length) cap39), (15, .int .i64 0), (82, .slice a2 ((sealP (l.take 400)).length) cap2), (83, .int .i64 ((((x.1).toNat - 2) : Nat) : Int)), (84, .pointer (some ⟨B28, 1, none⟩)), (85, .int .u32 ((x.2).toNat : Int)), (86, .tuple #[.slice a40 ((spoilN (sealP (l.take 400)) ((x.1).toNat - 2) x.2 32).length) cap40, .bool true]), (81, .tuple #[.slice a40 ((spoilN (sealP (l.take 400)) ((x.1).toNat - 2) x.2 32).length) cap40, .bool true]), (87, .slice a40 ((spoilN (sealP (l.take 400)) ((x.1).toNat - 2) x.2 32).length) cap40), (88, .bool true), (16, .slice a40 ((spoilN (sealP (l.take 400)) ((x.1).toNat - 2) x.2 32).length) cap40), (17, .bool true)] [(31, .row (.slice a40 ((spoilN (sealP (l.take 400)) ((x.1).toNat - 2) x.2 32).length) cap40) 5 1 ((spoilN (sealP (l.take 400)) ((x.1).toNat - 2) x.2 32).length) ((spoilN (sealP (l.take 400)) ((x.1).toNat - 2) x.2 32).flatMap byc)), (30, .row (.slice a39 ((spoilN (sealP (l.take 400)) ((x.1).toNat - 2) x.2 32).length) cap39) 5 1 ((spoilN (sealP (l.take 400)) ((x.1).toNat - 2) x.2 32).length) ((spoilN (sealP (l.take 400)) ((x.1).toNat - 2) x.2 32).flatMap byc)), (20, .row (.slice a26 ((openL (l.take 400)).length) cap26) 5 1 ((openL (l.take 400)).length) ((openL (l.take 400)).flatMap byc)), (19, .row (.slice a25 ((openL (l.take 400)).length) cap25) 5 1 ((openL (l.take 400)).length) ((openL (l.take 400)).flatMap byc)), (3, .row (.slice a3 ((sealP (l.take 400)).length) cap3) 5 1 ((sealP (l.take 400)).length) ((sealP (l.take 400)).flatMap byc)), (2, .row (.slice a2 ((sealP (l.take 400)).length) cap2) 5 1 ((sealP (l.take 400)).length) ((sealP (l.take 400)).flatMap byc)), (1, .row (.slice a1 ((l.take 400).length) cap1) 5 1 ((l.take 400).length) ((l.take 400).flatMap byc)), (21, .blk B28 (.cells #[.int .u32 ((x.1).toNat : Int), .int .u32 ((x.2).toNat : Int)] 25))] (sub_cons rfl (sub_cons rfl (sub_cons rfl (sub_cons rfl (sub_cons rfl (sub_cons rfl (sub_cons rfl (sub_cons rfl (sub_cons rfl (sub_cons rfl (sub_cons rfl (sub_cons rfl (sub_cons rfl (sub_cons rfl (sub_cons rfl (sub_cons rfl (sub_cons rfl (sub_cons rfl (sub_cons rfl (sub_cons rfl (sub_cons rfl (sub_cons rfl (sub_cons rfl (sub_cons rfl (sub_cons rfl (sub_cons rfl (sub_cons rfl (sub_cons rfl (sub_cons rfl (sub_cons rfl (sub_cons rfl (sub_cons rfl (sub_cons rfl (sub_cons rfl (sub_cons rfl (sub_cons rfl (sub_cons rfl (sub_cons rfl (sub_cons rfl (sub_cons rfl sub_nil)))))))))))))))))))))))))))))))))))))))) (sub_cons rfl (sub_cons rfl (sub_cons rfl (sub_cons rfl (sub_cons rfl (sub_cons rfl (sub_cons rfl (sub_cons rfl sub_nil)))))))) ?_
              refine T_seq ?_
              refine T_seq (T_region ?_)
              refine TL_q (.bool true) (fun _ _ hρ _ => r_move (hρ _ _ rfl)) rfl rfl rfl (w_n rfl) ?_
              refine TL_q (.bool false) (fun _ _ hρ _ => r_not (b := true) (hρ _ _ rfl)) rfl rfl rfl (w_n rfl) ?_
              refine TL_seq ?_
              refine T_cond_f rfl ?_
              refine T_skip' ?_
              refine p_seq ?_
              refine T_seq ?_
              refine T_seq (T_region ?_)
              refine TL_q (.int .i64 0) (fun _ _ hρ _ => r_move (hρ _ _ rfl)) rfl rfl rfl (w_n rfl) ?_
              refine TL_q (.bool true) (fun _ _ hρ _ => r_as (r_eql (hρ _ _ rfl) (hρ _ _ rfl)) (by rfl)) rfl rfl rfl (w_n rfl) ?_
              refine TL_q (.bool true) (fun _ _ hρ _ => r_move (hρ _ _ rfl)) rfl rfl rfl (w_n rfl) ?_
              refine TL_q (.bool false) (fun _ _ hρ _ => r_as (r_neqB (by kernel_rfl) (hρ _ _ rfl) (hρ _ _ rfl)) (by rfl)) rfl rfl rfl (w_n rfl) ?_
              refine TL_q (.bool false) (fun _ _ hρ _ => r_move (hρ _ _ rfl)) rfl rfl rfl (w_n rfl) ?_
              refine TL_q (.int .i64 0) (fun _ _ hρ _ => r_move (hρ _ _ rfl)) rfl rfl rfl (want_y 95 rfl rfl rfl) ?_
              refine TL_q (.bool false) (fun _ _ hρ _ => r_as (r_neq (hρ _ _ rfl) (hρ _ _ rfl)) (by rfl)) rfl rfl rfl (want_y 95 rfl rfl rfl) ?_
              refine TL_q (.bool false) (fun _ _ hρ _ => r_move (hρ _ _ rfl)) rfl rfl rfl (want_y 95 rfl rfl rfl) ?_
              refine TL_no rfl rfl (want_n 98 rfl rfl rfl) ?_
              refine TL_no rfl rfl (want_n 98 rfl rfl rfl) ?_
              refine TL_q (.bool false) (fun _ _ hρ _ => r_pick_f (hρ _ _ rfl) (hρ _ _ rfl)) rfl rfl rfl (want_y 95 rfl rfl rfl) ?_
              refine TL_q (.bool false) (fun _ _ hρ _ => r_pick_f (hρ _ _ rfl) (hρ _ _ rfl)) rfl rfl rfl (w_n rfl) ?_
              refine TL_q (.bool false) (fun _ _ hρ _ => r_move (hρ _ _ rfl)) rfl rfl rfl (w_n rfl) ?_
              refine TL_q (.slice a39 ((spoilN (sealP (l.take 400)) ((x.1).toNat - 2) x.2 32).length) cap39) (fun _ _ hρ _ => r_move (hρ _ _ rfl)) rfl rfl rfl (want_y 103 rfl rfl rfl) ?_
              refine TL_q (.slice a40 ((spoilN (sealP (l.take 400)) ((x.1).toNat - 2) x.2 32).length) cap40) (fun _ _ hρ _ => r_move (hρ _ _ rfl)) rfl rfl rfl (want_y 103 rfl rfl rfl) ?_
              refine TL_call (.bool true) (fun _ _ hρ _ => r_call (args := [.slice a39 ((spoilN (sealP (l.take 400)) ((x.1).toNat - 2) x.2 32).length) cap39, .slice a40 ((spoilN (sealP (l.take 400)) ((x.1).toNat - 2) x.2 32).length) cap40]) (enters_of Try.func11 (by kernel_rfl) rfl) (hρ _ _ rfl) ((cons2 (hρ _ _ rfl) (cons2 (hρ _ _ rfl) rfl))) rfl) (fun w hm => (equal_b (spoilN (sealP (l.take 400)) ((x.1).toNat - 2) x.2 32) (spoilN (sealP (l.take 400)) ((x.1).toNat - 2) x.2 32) a39 a40 cap39 cap40 w (SliceAt.own byc_len (hm.row 30 rfl) rfl rfl) (SliceAt.own byc_len (hm.row 31 rfl) rfl rfl) (by omega) (by omega)).mono fun _ _ h => ⟨h.1.trans (congrArg Ending.returned (bool_as (decide_eq_true (rfl)))), h.2⟩) rfl rfl rfl (want_y 103 rfl rfl rfl) ?_
              refine TL_q (.bool false) (fun _ _ hρ _ => r_not (b := true) (hρ _ _ rfl)) rfl rfl rfl (want_y 103 rfl rfl rfl) ?_
              refine TL_q (.bool false) (fun _ _ hρ _ => r_pick_f (hρ _ _ rfl) (hρ _ _ rfl)) rfl rfl rfl (w_n rfl) ?_
              refine TL_seq ?_
              refine T_cond_f rfl ?_
              refine T_skip' ?_
              refine p_seq ?_
              refine T_seq (T_region ?_)
              refine TL_q (.slice a39 ((spoilN (sealP (l.take 400)) ((x.1).toNat - 2) x.2 32).length) cap39) (fun _ _ hρ _ => r_move (hρ _ _ rfl)) rfl rfl rfl (w_n rfl) ?_
              refine TL_q (.int .i64 (((spoilN (sealP (l.take 400)) ((x.1).toNat - 2) x.2 32).length : Nat) : Int)) (fun _ _ hρ _ => r_len sl29 (hρ _ _ rfl)) rfl rfl rfl (w_n rfl) ?_
              refine TL_q (.int .i64 0) (fun _ _ hρ _ => r_move (hρ _ _ rfl)) rfl rfl rfl (w_n rfl) ?_
              refine TL_seq ?_
              refine T_block ?_
              refine T_row 30 rfl (by omega) (fun g41 ha41 => ?_)
              subst ha41
              refine T_rowcap 30 rfl (fun hrc41 => ?_)
              refine T_loop (ι := Nat × List By) (fun (z : Nat × List By) => match z with | (j, q2) => j ≤ (spoilN (sealP (l.take 400)) ((x.1).toNat - 2) x.2 32).length ∧ q2.length = (spoilN (sealP (l.take 400)) ((x.1).toNat - 2) x.2 32).length) (fun (z : Nat × List By) => match z with | (j, q2) => [(0, .slice a l.length cap), (5, .slice a1 ((l.take 400).length) cap1), (6, .slice a2 ((sealP (l.take 400)).length) cap2), (7, .slice a25 ((openL (l.take 400)).length) cap25), (60, .slice (some ⟨b27, of27, none⟩) ps.length capp), (61, .int .i64 ((ps.length : Nat) : Int)), (62, .int .i64 ((k : Nat) : Int)), (63, .bool (decide (((k : Nat) : Int) < ((ps.length : Nat) : Int)))), (64, .int .i64 ((k : Nat) : Int)), (65, .pointer (some ⟨b27, of27 + k * 2, none⟩)), (66, .agg #[.int .u32 ((x.1).toNat : Int), .int .u32 ((x.2).toNat : Int)]), (12, .pointer (some ⟨B28, 0, none⟩)), (11, .int .i64 ((k : Nat) : Int)), (67, .int .i64 ((k : Nat) : Int)), (68, .bool (decide (((k : Nat) : Int) = 8))), (69, .pointer (some ⟨B28, 0, none⟩)), (70, .int .u32 ((x.1).toNat : Int)), (71, .int .i64 ((x.1).toNat : Int)), (72, .int .i64 ((((x.1).toNat - 2) : Nat) : Int)), (13, .int .i64 ((((x.1).toNat - 2) : Nat) : Int)), (74, .slice a2 ((sealP (l.take 400)).length) cap2), (75, .int .i64 ((((x.1).toNat - 2) : Nat) : Int)), (76, .pointer (some ⟨B28, 1, none⟩)), (77, .int .u32 ((x.2).toNat : Int)), (78, .tuple #[.slice (some ⟨g41, 0, none⟩) ((spoilN (sealP (l.take 400)) ((x.1).toNat - 2) x.2 32).length) cap39, .int .i64 0]), (73, .tuple #[.slice (some ⟨g41, 0, none⟩) ((spoilN (sealP (l.take 400)) ((x.1).toNat - 2) x.2 32).length) cap39, .int .i64 0]), (79, .slice (some ⟨g41, 0, none⟩) ((spoilN (sealP (l.take 400)) ((x.1).toNat - 2) x.2 32).length) cap39), (80, .int .i64 0), (14, .slice (some ⟨g41, 0, none⟩) ((spoilN (sealP (l.take 400)) ((x.1).toNat - 2) x.2 32).length) cap39), (15, .int .i64 0), (82, .slice a2 ((sealP (l.take 400)).length) cap2), (83, .int .i64 ((((x.1).toNat - 2) : Nat) : Int)), (84, .pointer (some ⟨B28, 1, none⟩)), (85, .int .u32 ((x.2).toNat : Int)), (86, .tuple #[.slice a40 ((spoilN (sealP (l.take 400)) ((x.1).toNat - 2) x.2 32).length) cap40, .bool true]), (81, .tuple #[.slice a40 ((spoilN (sealP (l.take 400)) ((x.1).toNat - 2) x.2 32).length) cap40, .bool true]), (87, .slice a40 ((spoilN (sealP (l.take 400)) ((x.1).toNat - 2) x.2 32).length) cap40), (88, .bool true), (16, .slice a40 ((spoilN (sealP (l.take 400)) ((x.1).toNat - 2) x.2 32).length) cap40), (17, .bool true), (89, .bool true), (90, .bool false), (91, .int .i64 0), (92, .bool true), (93, .bool true), (94, .bool false), (95, .bool false), (96, .int .i64 0), (97, .bool false), (98, .bool false), (99, undef), (100, undef), (101, .bool false), (102, .bool false), (103, .bool false), (104, .slice (some ⟨g41, 0, none⟩) ((spoilN (sealP (l.take 400)) ((x.1).toNat - 2) x.2 32).length) cap39), (105, .slice a40 ((spoilN (sealP (l.take 400)) ((x.1).toNat - 2) x.2 32).length) cap40), (106, .bool true), (107, .bool false), (108, .bool false), (109, .slice (some ⟨g41, 0, none⟩) ((spoilN (sealP (l.take 400)) ((x.1).toNat - 2) x.2 32).length) cap39), (110, .int .i64 (((spoilN (sealP (l.take 400)) ((x.1).toNat - 2) x.2 32).length : Nat) : Int)), (111, .int .i64 ((j : Nat) : Int))]) (fun (z : Nat × List By) => match z with | (j, q2) => [(31, .row (.slice a40 ((spoilN (sealP (l.take 400)) ((x.1).toNat - 2) x.2 32).length) cap40) 5 1 ((spoilN (sealP (l.take 400)) ((x.1).toNat - 2) x.2 32).length) ((spoilN (sealP (l.take 400)) ((x.1).toNat - 2) x.2 32).flatMap byc)), (20, .row (.slice a26 ((openL (l.take 400)).length) cap26) 5 1 ((openL (l.take 400)).length) ((openL (l.take 400)).flatMap byc)), (19, .row (.slice a25 ((openL (l.take 400)).length) cap25) 5 1 ((openL (l.take 400)).length) ((openL (l.take 400)).flatMap byc)), (3, .row (.slice a3 ((sealP (l.take 400)).length) cap3) 5 1 ((sealP (l.take 400)).length) ((sealP (l.take 400)).flatMap byc)), (2, .row (.slice a2 ((sealP (l.take 400)).length) cap2) 5 1 ((sealP (l.take 400)).length) ((sealP (l.take 400)).flatMap byc)), (1, .row (.slice a1 ((l.take 400).length) cap1) 5 1 ((l.take 400).length) ((l.take 400).flatMap byc)), (21, .blk B28 (.cells #[.int .u32 ((x.1).toNat : Int), .int .u32 ((x.2).toNat : Int)] 25)), (30, .row (.slice (some ⟨g41, 0, none⟩) ((spoilN (sealP (l.take 400)) ((x.1).toNat - 2) x.2 32).length) cap39) 5 1 ((spoilN (sealP (l.take 400)) ((x.1).toNat - 2) x.2 32).length) (q2.flatMap byc))]) (fun (z : Nat × List By) => match z with | (j, q2) => (spoilN (sealP (l.take 400)) ((x.1).toNat - 2) x.2 32).length - j) (0, (spoilN (sealP (l.take 400)) ((x.1).toNat - 2) x.2 32)) ⟨Nat.zero_le _, rfl⟩ (sub_cons rfl (sub_cons rfl (sub_cons rfl (sub_cons rfl (sub_cons rfl (sub_cons rfl (sub_cons rfl (sub_cons rfl (sub_cons rfl (sub_cons rfl (sub_cons rfl (sub_cons rfl (sub_cons rfl (sub_cons rfl (sub_cons rfl (sub_cons rfl (sub_cons rfl (sub_cons rfl (sub_cons rfl (sub_cons rfl (sub_cons rfl (sub_cons rfl (sub_cons rfl (sub_cons rfl (sub_cons rfl (sub_cons rfl (sub_cons rfl (sub_cons rfl (sub_cons rfl (sub_cons rfl (sub_cons rfl (sub_cons rfl (sub_cons rfl (sub_cons rfl (sub_cons rfl (sub_cons rfl (sub_cons rfl (sub_cons rfl (sub_cons rfl (sub_cons rfl (sub_cons rfl (sub_cons rfl (sub_cons rfl (sub_cons rfl (sub_cons rfl (sub_cons rfl (sub_cons rfl (sub_cons rfl (sub_cons rfl (sub_cons rfl (sub_cons rfl (sub_cons rfl (sub_cons rfl (sub_cons rfl (sub_cons rfl (sub_cons rfl (sub_cons rfl (sub_cons rfl (sub_cons rfl (sub_cons rfl (sub_cons rfl (sub_cons rfl (sub_cons rfl sub_nil))))))))))))))))))))))))))))))))))))))))))))))))))))))))))))))) (sub_cons rfl (sub_cons rfl (sub_cons rfl (sub_cons rfl (sub_cons rfl (sub_cons rfl (sub_cons rfl (sub_cons rfl sub_nil)))))))) ?_
              rintro ⟨j, q2⟩ hp
              obtain ⟨hj, hq2⟩ := hp
              show T _ _ _ [(0, .slice a l.length cap), (5, .slice a1 ((l.take 400).length) cap1), (6, .slice a2 ((sealP (l.take 400)).length) cap2), (7, .slice a25 ((openL (l.take 400)).length) cap25), (60, .slice (some ⟨b27, of27, none⟩) ps.length capp), (61, .int .i64 ((ps.length : Nat) : Int)), (62, .int .i64 ((k : Nat) : Int)), (63, .bool (decide (((k : Nat) : Int) < ((ps.length : Nat) : Int)))), (64, .int .i64 ((k : Nat) : Int)), (65, .pointer (some ⟨b27, of27 + k * 2, none⟩)), (66, .agg #[.int .u32 ((x.1).toNat : Int), .int .u32 ((x.2).toNat : Int)]), (12, .pointer (some ⟨B28, 0, none⟩)), (11, .int .i64 ((k : Nat) : Int)), (67, .int .i64 ((k : Nat) : Int)), (68, .bool (decide (((k : Nat) : Int) = 8))), (69, .pointer (some ⟨B28, 0, none⟩)), (70, .int .u32 ((x.1).toNat : Int)), (71, .int .i64 ((x.1).toNat : Int)), (72, .int .i64 ((((x.1).toNat - 2) : Nat) : Int)), (13, .int .i64 ((((x.1).toNat - 2) : Nat) : Int)), (74, .slice a2 ((sealP (l.take 400)).length) cap2), (75, .int .i64 ((((x.1).toNat - 2) : Nat) : Int)), (76, .pointer (some ⟨B28, 1, none⟩)), (77, .int .u32 ((x.2).toNat : Int)), (78, .tuple #[.slice (some ⟨g41, 0, none⟩) ((spoilN (sealP (l.take 400)) ((x.1).toNat - 2) x.2 32).length) cap39, .int .i64 0]), (73, .tuple #[.slice (some ⟨g41, 0, none⟩) ((spoilN (sealP (l.take 400)) ((x.1).toNat - 2) x.2 32).length) cap39, .int .i64 0]), (79, .slice (some ⟨g41, 0, none⟩) ((spoilN (sealP (l.take 400)) ((x.1).toNat - 2) x.2 32).length) cap39), (80, .int .i64 0), (14, .slice (some ⟨g41, 0, none⟩) ((spoilN (sealP (l.take 400)) ((x.1).toNat - 2) x.2 32).length) cap39), (15, .int .i64 0), (82, .slice a2 ((sealP (l.take 400)).length) cap2), (83, .int .i64 ((((x.1).toNat - 2) : Nat) : Int)), (84, .pointer (some ⟨B28, 1, none⟩)), (85, .int .u32 ((x.2).toNat : Int)), (86, .tuple #[.slice a40 ((spoilN (sealP (l.take 400)) ((x.1).toNat - 2) x.2 32).length) cap40, .bool true]), (81, .tuple #[.slice a40 ((spoilN (sealP (l.take 400)) ((x.1).toNat - 2) x.2 32).length) cap40, .bool true]), (87, .slice a40 ((spoilN (sealP (l.take 400)) ((x.1).toNat - 2) x.2 32).length) cap40), (88, .bool true), (16, .slice a40 ((spoilN (sealP (l.take 400)) ((x.1).toNat - 2) x.2 32).length) cap40), (17, .bool true), (89, .bool true), (90, .bool false), (91, .int .i64 0), (92, .bool true), (93, .bool true), (94, .bool false), (95, .bool false), (96, .int .i64 0), (97, .bool false), (98, .bool false), (99, undef), (100, undef), (101, .bool false), (102, .bool false), (103, .bool false), (104, .slice (some ⟨g41, 0, none⟩) ((spoilN (sealP (l.take 400)) ((x.1).toNat - 2) x.2 32).length) cap39), (105, .slice a40 ((spoilN (sealP (l.take 400)) ((x.1).toNat - 2) x.2 32).length) cap40), (106, .bool true), (107, .bool false), (108, .bool false), (109, .slice (some ⟨g41, 0, none⟩) ((spoilN (sealP (l.take 400)) ((x.1).toNat - 2) x.2 32).length) cap39), (110, .int .i64 (((spoilN (sealP (l.take 400)) ((x.1).toNat - 2) x.2 32).length : Nat) : Int)), (111, .int .i64 ((j : Nat) : Int))] [(31, .row (.slice a40 ((spoilN (sealP (l.take 400)) ((x.1).toNat - 2) x.2 32).length) cap40) 5 1 ((spoilN (sealP (l.take 400)) ((x.1).toNat - 2) x.2 32).length) ((spoilN (sealP (l.take 400)) ((x.1).toNat - 2) x.2 32).flatMap byc)), (20, .row (.slice a26 ((openL (l.take 400)).length) cap26) 5 1 ((openL (l.take 400)).length) ((openL (l.take 400)).flatMap byc)), (19, .row (.slice a25 ((openL (l.take 400)).length) cap25) 5 1 ((openL (l.take 400)).length) ((openL (l.take 400)).flatMap byc)), (3, .row (.slice a3 ((sealP (l.take 400)).length) cap3) 5 1 ((sealP (l.take 400)).length) ((sealP (l.take 400)).flatMap byc)), (2, .row (.slice a2 ((sealP (l.take 400)).length) cap2) 5 1 ((sealP (l.take 400)).length) ((sealP (l.take 400)).flatMap byc)), (1, .row (.slice a1 ((l.take 400).length) cap1) 5 1 ((l.take 400).length) ((l.take 400).flatMap byc)), (21, .blk B28 (.cells #[.int .u32 ((x.1).toNat : Int), .int .u32 ((x.2).toNat : Int)] 25)), (30, .row (.slice (some ⟨g41, 0, none⟩) ((spoilN (sealP (l.take 400)) ((x.1).toNat - 2) x.2 32).length) cap39) 5 1 ((spoilN (sealP (l.take 400)) ((x.1).toNat - 2) x.2 32).length) (q2.flatMap byc))]
              refine T_seq (T_region ?_)
              refine TL_q (.bool (decide (((j : Nat) : Int) < (((spoilN (sealP (l.take 400)) ((x.1).toNat - 2) x.2 32).length : Nat) : Int)))) (fun _ _ hρ _ => r_lss (hρ _ _ rfl) (hρ _ _ rfl)) rfl rfl rfl (w_n rfl) ?_
              refine TL_seq ?_
              refine T_seq ?_
              refine T_cond rfl (fun h12 => ?_) (fun h12 => ?_)
              · replace h12 := of_decide_eq_true h12
                refine T_skip' ?_
                refine p_seq ?_
                refine T_seq ?_
                refine T_block ?_
                refine T_seq (T_region ?_)
                refine TL_q (.int .i64 ((j : Nat) : Int)) (fun _ _ hρ _ => r_move (hρ _ _ rfl)) rfl rfl rfl (w_n rfl) ?_
                refine TL_q (.int .i64 ((j : Nat) : Int)) (fun _ _ hρ _ => r_assign (hρ _ _ rfl)) rfl rfl rfl (w_n rfl) ?_
                refine TL_seq ?_
                obtain ⟨y, hy⟩ : ∃ y, q2[j]? = some y := ⟨_, List.getElem?_eq_getElem (by omega)⟩
                refine T_region ?_
                refine TL_q (.slice (some ⟨g41, 0, none⟩) ((spoilN (sealP (l.take 400)) ((x.1).toNat - 2) x.2 32).length) cap39) (fun _ _ hρ _ => r_move (hρ _ _ rfl)) rfl rfl rfl (w_n rfl) ?_
                refine TL_q (.int .i64 ((j : Nat) : Int)) (fun _ _ hρ _ => r_move (hρ _ _ rfl)) rfl rfl rfl (w_n rfl) ?_
                refine TL_q (.pointer (some ⟨g41, 0 + j * 1, none⟩)) (fun _ _ hρ _ => r_indexAddrS (i := j) sl29 sz5 (hρ _ _ rfl) (hρ _ _ rfl) (by omega)) rfl rfl rfl (w_n rfl) ?_
                refine TL_q (.int .u8 ((y).toNat : Int)) (fun _ _ hρ hm => r_loadOwn1 (f := byc) (u := y) (l := q2) ag5 (hρ _ _ rfl) (hm.row 30 rfl) hq2.symm rfl byc_len hy rfl) rfl rfl rfl (w_n rfl) ?_
                refine TL_q (.int .u8 ((y + (1#8)).toNat : Int)) (fun _ _ hρ _ => r_addB (k := .u8) (a := y) (b := (1#8)) rfl (hρ _ _ rfl) (hρ _ _ rfl)) rfl rfl rfl (w_n rfl) ?_
                refine TL_q (.pointer (some ⟨g41, 0 + j * 1, none⟩)) (fun _ _ hρ _ => r_indexAddrS (i := j) sl29 sz5 (hρ _ _ rfl) (hρ _ _ rfl) (by omega)) rfl rfl rfl (w_n rfl) ?_
                refine TL_storeRow (f := byc) (l := q2) (u := y + (1#8)) 30 rfl hq2.symm rfl rfl sz5 byc_len (by omega) rfl rfl (w_n rfl) ?_
                refine TL_nil ?_
                refine p_blk_n ?_
                refine p_seq ?_
                refine T_region ?_
                refine TL_q (.int .i64 ((j + 1 : Nat) : Int)) (fun _ _ hρ _ => r_as (r_add (hρ _ _ rfl) (hρ _ _ rfl)) (int_as ((wrap64 (by omega) (by omega)).trans (by omega)))) rfl rfl rfl (w_n rfl) ?_
                refine TL_q (.int .i64 ((j + 1 : Nat) : Int)) (fun _ _ hρ _ => r_move (hρ _ _ rfl)) rfl rfl rfl (w_n rfl) ?_
                refine TL_nil ?_
                exact p_at (j + 1, q2.set j (y + 1#8)) ⟨⟨by omega, by rw [List.length_set]; exact hq2⟩, by dsimp only; omega⟩ (sub_cons rfl (sub_cons rfl (sub_cons rfl (sub_cons rfl (sub_cons rfl (sub_cons rfl (sub_cons rfl (sub_cons rfl (sub_cons rfl (sub_cons rfl (sub_cons rfl (sub_cons rfl (sub_cons rfl (sub_cons rfl (sub_cons rfl (sub_cons rfl (sub_cons rfl (sub_cons rfl (sub_cons rfl (sub_cons rfl (sub_cons rfl (sub_cons rfl (sub_cons rfl (sub_cons rfl (sub_cons rfl (sub_cons rfl (sub_cons rfl (sub_cons rfl (sub_cons rfl (sub_cons rfl (sub_cons rfl (sub_cons rfl (sub_cons rfl (sub_cons rfl (sub_cons rfl (sub_cons rfl (sub_cons rfl (sub_cons rfl (sub_cons rfl (sub_cons rfl (sub_cons rfl (sub_cons rfl (sub_cons rfl (sub_cons rfl (sub_cons rfl (sub_cons rfl (sub_cons rfl (sub_cons rfl (sub_cons rfl (sub_cons rfl (sub_cons rfl (sub_cons rfl (sub_cons rfl (sub_cons rfl (sub_cons rfl (sub_cons rfl (sub_cons rfl (sub_cons rfl (sub_cons rfl (sub_cons rfl (sub_cons rfl (sub_cons rfl (sub_cons rfl sub_nil))))))))))))))))))))))))))))))))))))))))))))))))))))))))))))))) (sub_cons rfl (sub_cons rfl (sub_cons rfl (sub_cons rfl (sub_cons rfl (sub_cons rfl (sub_cons rfl (sub_cons rfl sub_nil))))))))
              · replace h12 := of_decide_eq_false h12
                refine T_exit' ?_
                refine p_then_x ?_
                refine p_then_x ?_
                refine p_blk_x ?_
                refine p_blk_n ?_
                refine p_seq ?_
                refine T_region ?_
                refine TL_q (.int .i64 ((k + 1 : Nat) : Int)) (fun _ _ hρ _ => r_as (r_add (hρ _ _ rfl) (hρ _ _ rfl)) (int_as ((wrap64 (by omega) (by omega)).trans (by omega)))) rfl rfl rfl (w_n rfl) ?_
                refine TL_q (.int .i64 ((k + 1 : Nat) : Int)) (fun _ _ hρ _ => r_move (hρ _ _ rfl)) rfl rfl rfl (w_n rfl) ?_
                refine TL_nil ?_
                exact p_at (k + 1) ⟨by omega, by omega⟩ (sub_cons rfl (sub_cons rfl (sub_cons rfl (sub_cons rfl (sub_cons rfl (sub_cons rfl (sub_cons rfl sub_nil))))))) (sub_cons rfl (sub_cons rfl (sub_cons rfl (sub_cons rfl (sub_cons rfl sub_nil)))))
    · replace h8 := of_decide_eq_false h8
      refine T_exit' ?_
      refine p_then_x ?_
      refine p_then_x ?_
      refine p_blk_x ?_
      refine p_seq ?_
      refine T_seq ?_
      refine T_seq (T_region ?_)
      refine TL_q (.slice a2 ((sealP (l.take 400)).length) cap2) (fun _ _ hρ _ => r_move (hρ _ _ rfl)) rfl rfl rfl (w_n rfl) ?_
      refine TL_q (.slice a1 ((l.take 400).length) cap1) (fun _ _ hρ _ => r_move (hρ _ _ rfl)) rfl rfl rfl (w_n rfl) ?_
      refine TL_callN (fun (_ : Option Addr × Nat) => True) (fun (a42, cap42) => .slice a42 ((sealP (l.take 400)).length) cap42) (fun (a42, cap42) => [(32, .row (.slice a42 ((sealP (l.take 400)).length) cap42) 5 1 ((sealP (l.take 400)).length) ((sealP (l.take 400)).flatMap byc))]) (fun _ _ hρ _ => r_call (args := [.slice a1 ((l.take 400).length) cap1]) (enters_of Try.func15 (by kernel_rfl) rfl) (hρ _ _ rfl) ((cons2 (hρ _ _ rfl) rfl)) rfl) (fun w hm => (seal_ref (l.take 400) a1 cap1 w (SliceAt.own byc_len (hm.row 1 rfl) rfl rfl) (by omega)).mono fun e w' ⟨a', cap', he, hb, hr⟩ => ⟨(a', cap'), trivial, he, hb, newOk1 32 hr⟩) rfl rfl rfl (w_n rfl) ?_
      rintro ⟨a42, cap42⟩ -
      refine TL_call (.bool true) (fun _ _ hρ _ => r_call (args := [.slice a2 ((sealP (l.take 400)).length) cap2, .slice a42 ((sealP (l.take 400)).length) cap42]) (enters_of Try.func11 (by kernel_rfl) rfl) (hρ _ _ rfl) ((cons2 (hρ _ _ rfl) (cons2 (hρ _ _ rfl) rfl))) rfl) (fun w hm => (equal_b (sealP (l.take 400)) (sealP (l.take 400)) a2 a42 cap2 cap42 w (SliceAt.own byc_len (hm.row 2 rfl) rfl rfl) (SliceAt.own byc_len (hm.row 32 rfl) rfl rfl) (by omega) (by omega)).mono fun _ _ h => ⟨h.1.trans (congrArg Ending.returned (bool_as (decide_eq_true (rfl)))), h.2⟩) rfl rfl rfl (w_n rfl) ?_
      refine TL_q (.bool false) (fun _ _ hρ _ => r_not (b := true) (hρ _ _ rfl)) rfl rfl rfl (w_n rfl) ?_
      refine TL_seq ?_
      refine T_cond_f rfl ?_
      refine T_skip' ?_
      refine p_seq ?_
      refine T_seq ?_
      refine T_seq (T_region ?_)
      refine TL_q (.slice a2 ((sealP (l.take 400)).length) cap2) (fun _ _ hρ _ => r_move (hρ _ _ rfl)) rfl rfl rfl (w_n rfl) ?_
      refine TL_q (.int .i64 (((sealP (l.take 400)).length : Nat) : Int)) (fun _ _ hρ _ => r_len sl29 (hρ _ _ rfl)) rfl rfl rfl (w_n rfl) ?_
      refine TL_q (.int .i64 0) (fun _ _ hρ _ => r_move (hρ _ _ rfl)) rfl rfl rfl (w_n rfl) ?_
      refine TL_seq ?_
      refine T_block ?_
      refine T_row 2 rfl (by omega) (fun g43 ha43 => ?_)
      subst ha43
      refine T_rowcap 2 rfl (fun hrc43 => ?_)
      refine T_loop (ι := Nat × List By) (fun (z : Nat × List By) => match z with | (j, q3) => j ≤ (sealP (l.take 400)).length ∧ q3.length = (sealP (l.take 400)).length) (fun (z : Nat × List By) => match z with | (j, q3) => [(0, .slice a l.length cap), (5, .slice a1 ((l.take 400).length) cap1), (6, .slice (some ⟨g43, 0, none⟩) ((sealP (l.take 400)).length) cap2), (7, .slice a25 ((openL (l.take 400)).length) cap25), (128, .int .i64 (((sealP (l.take 400)).length : Nat) : Int)), (129, .int .i64 ((j : Nat) : Int))]) (fun (z : Nat × List By) => match z with | (j, q3) => [(32, .row (.slice a42 ((sealP (l.take 400)).length) cap42) 5 1 ((sealP (l.take 400)).length) ((sealP (l.take 400)).flatMap byc)), (20, .row (.slice a26 ((openL (l.take 400)).length) cap26) 5 1 ((openL (l.take 400)).length) ((openL (l.take 400)).flatMap byc)), (19, .row (.slice a25 ((openL (l.take 400)).length) cap25) 5 1 ((openL (l.take 400)).length) ((openL (l.take 400)).flatMap byc)), (3, .row (.slice a3 ((sealP (l.take 400)).length) cap3) 5 1 ((sealP (l.take 400)).length) ((sealP (l.take 400)).flatMap byc)), (1, .row (.slice a1 ((l.take 400).length) cap1) 5 1 ((l.take 400).length) ((l.take 400).flatMap byc)), (2, .row (.slice (some ⟨g43, 0, none⟩) ((sealP (l.take 400)).length) cap2) 5 1 ((sealP (l.take 400)).length) (q3.flatMap byc))]) (fun (z : Nat × List By) => match z with | (j, q3) => (sealP (l.take 400)).length - j) (0, (sealP (l.take 400))) ⟨Nat.zero_le _, rfl⟩ (sub_cons rfl (sub_cons rfl (sub_cons rfl (sub_cons rfl (sub_cons rfl (sub_cons rfl sub_nil)))))) (sub_cons rfl (sub_cons rfl (sub_cons rfl (sub_cons rfl (sub_cons rfl (sub_cons rfl sub_nil)))))) ?_
      rintro ⟨j, q3⟩ hp
      obtain ⟨hj, hq3⟩ := hp
      show T _ _ _ [(0, .slice a l.length cap), (5, .slice a1 ((l.take 400).length) cap1), (6, .slice (some ⟨g43, 0, none⟩) ((sealP (l.take 400)).length) cap2), (7, .slice a25 ((openL (l.take 400)).length) cap25), (128, .int .i64 (((sealP (l.take 400)).length : Nat) : Int)), (129, .int .i64 ((j : Nat) : Int))] [(32, .row (.slice a42 ((sealP (l.take 400)).length) cap42) 5 1 ((sealP (l.take 400)).length) ((sealP (l.take 400)).flatMap byc)), (20, .row (.slice a26 ((openL (l.take 400)).length) cap26) 5 1 ((openL (l.take 400)).length) ((openL (l.take 400)).flatMap byc)), (19, .row (.slice a25 ((openL (l.take 400)).length) cap25) 5 1 ((openL (l.take 400)).length) ((openL (l.take 400)).flatMap byc)), (3, .row (.slice a3 ((sealP (l.take 400)).length) cap3) 5 1 ((sealP (l.take 400)).length) ((sealP (l.take 400)).flatMap byc)), (1, .row (.slice a1 ((l.take 400).length) cap1) 5 1 ((l.take 400).length) ((l.take 400).flatMap byc)), (2, .row (.slice (some ⟨g43, 0, none⟩) ((sealP (l.take 400)).length) cap2) 5 1 ((sealP (l.take 400)).length) (q3.flatMap byc))]
      refine T_seq (T_region ?_)
      refine TL_q (.bool (decide (((j : Nat) : Int) < (((sealP (l.take 400)).length : Nat) : Int)))) (fun _ _ hρ _ => r_lss (hρ _ _ rfl) (hρ _ _ rfl)) rfl rfl rfl (w_n rfl) ?_
      refine TL_seq ?_
      refine T_seq ?_
      refine T_cond rfl (fun h13 => ?_) (fun h13 => ?_)
      · replace h13 := of_decide_eq_true h13
        refine T_skip' ?_
        refine p_seq ?_
        refine T_seq ?_
        refine T_block ?_
        refine T_seq (T_region ?_)
        refine TL_q (.int .i64 ((j : Nat) : Int)) (fun _ _ hρ _ => r_move (hρ _ _ rfl)) rfl rfl rfl (w_n rfl) ?_
        refine TL_q (.int .i64 ((j : Nat) : Int)) (fun _ _ hρ _ => r_assign (hρ _ _ rfl)) rfl rfl rfl (w_n rfl) ?_
        refine TL_seq ?_
        obtain ⟨y, hy⟩ : ∃ y, q3[j]? = some y := ⟨_, List.getElem?_eq_getElem (by omega)⟩
        refine T_region ?_
        refine TL_q (.slice (some ⟨g43, 0, none⟩) ((sealP (l.take 400)).length) cap2) (fun _ _ hρ _ => r_move (hρ _ _ rfl)) rfl rfl rfl (w_n rfl) ?_
        refine TL_q (.int .i64 ((j : Nat) : Int)) (fun _ _ hρ _ => r_move (hρ _ _ rfl)) rfl rfl rfl (w_n rfl) ?_
        refine TL_q (.pointer (some ⟨g43, 0 + j * 1, none⟩)) (fun _ _ hρ _ => r_indexAddrS (i := j) sl29 sz5 (hρ _ _ rfl) (hρ _ _ rfl) (by omega)) rfl rfl rfl (w_n rfl) ?_
        refine TL_q (.int .u8 ((y).toNat : Int)) (fun _ _ hρ hm => r_loadOwn1 (f := byc) (u := y) (l := q3) ag5 (hρ _ _ rfl) (hm.row 2 rfl) hq3.symm rfl byc_len hy rfl) rfl rfl rfl (w_n rfl) ?_
        refine TL_q (.int .u8 ((y + (1#8)).toNat : Int)) (fun _ _ hρ _ => r_addB (k := .u8) (a := y) (b := (1#8)) rfl (hρ _ _ rfl) (hρ _ _ rfl)) rfl rfl rfl (w_n rfl) ?_
        refine TL_q (.pointer (some ⟨g43, 0 + j * 1, none⟩)) (fun _ _ hρ _ => r_indexAddrS (i := j) sl29 sz5 (hρ _ _ rfl) (hρ _ _ rfl) (by omega)) rfl rfl rfl (w_n rfl) ?_
        refine TL_storeRow (f := byc) (l := q3) (u := y + (1#8)) 2 rfl hq3.symm rfl rfl sz5 byc_len (by omega) rfl rfl (w_n rfl) ?_
        refine TL_nil ?_
        refine p_blk_n ?_
        refine p_seq ?_
        refine T_region ?_
        refine TL_q (.int .i64 ((j + 1 : Nat) : Int)) (fun _ _ hρ _ => r_as (r_add (hρ _ _ rfl) (hρ _ _ rfl)) (int_as ((wrap64 (by omega) (by omega)).trans (by omega)))) rfl rfl rfl (w_n rfl) ?_
        refine TL_q (.int .i64 ((j + 1 : Nat) : Int)) (fun _ _ hρ _ => r_move (hρ _ _ rfl)) rfl rfl rfl (w_n rfl) ?_
        refine TL_nil ?_
        exact p_at (j + 1, q3.set j (y + 1#8)) ⟨⟨by omega, by rw [List.length_set]; exact hq3⟩, by dsimp only; omega⟩ (sub_cons rfl (sub_cons rfl (sub_cons rfl (sub_cons rfl (sub_cons rfl (sub_cons rfl sub_nil)))))) (sub_cons rfl (sub_cons rfl (sub_cons rfl (sub_cons rfl (sub_cons rfl (sub_cons rfl sub_nil))))))
      · replace h13 := of_decide_eq_false h13
        refine T_exit' ?_
        refine p_then_x ?_
        refine p_then_x ?_
        refine p_blk_x ?_
        refine p_seq ?_
        refine T_seq ?_
        refine T_seq (T_region ?_)
        refine TL_q (.slice a25 ((openL (l.take 400)).length) cap25) (fun _ _ hρ _ => r_move (hρ _ _ rfl)) rfl rfl rfl (w_n rfl) ?_
        refine TL_q (.int .i64 (((openL (l.take 400)).length : Nat) : Int)) (fun _ _ hρ _ => r_len sl29 (hρ _ _ rfl)) rfl rfl rfl (w_n rfl) ?_
        refine TL_q (.int .i64 0) (fun _ _ hρ _ => r_move (hρ _ _ rfl)) rfl rfl rfl (w_n rfl) ?_
        refine TL_seq ?_
        refine T_block ?_
        refine T_loop (ι := Nat × List By) (fun (z : Nat × List By) => match z with | (j, q4) => j ≤ (openL (l.take 400)).length ∧ q4.length = (openL (l.take 400)).length) (fun (z : Nat × List By) => match z with | (j, q4) => [(0, .slice a l.length cap), (5, .slice a1 ((l.take 400).length) cap1), (7, .slice a25 ((openL (l.take 400)).length) cap25), (140, .int .i64 (((openL (l.take 400)).length : Nat) : Int)), (141, .int .i64 ((j : Nat) : Int))]) (fun (z : Nat × List By) => match z with | (j, q4) => [(32, .row (.slice a42 ((sealP (l.take 400)).length) cap42) 5 1 ((sealP (l.take 400)).length) ((sealP (l.take 400)).flatMap byc)), (20, .row (.slice a26 ((openL (l.take 400)).length) cap26) 5 1 ((openL (l.take 400)).length) ((openL (l.take 400)).flatMap byc)), (3, .row (.slice a3 ((sealP (l.take 400)).length) cap3) 5 1 ((sealP (l.take 400)).length) ((sealP (l.take 400)).flatMap byc)), (1, .row (.slice a1 ((l.take 400).length) cap1) 5 1 ((l.take 400).length) ((l.take 400).flatMap byc)), (2, .row (.slice (some ⟨g43, 0, none⟩) ((sealP (l.take 400)).length) cap2) 5 1 ((sealP (l.take 400)).length) (q3.flatMap byc)), (19, .row (.slice a25 ((openL (l.take 400)).length) cap25) 5 1 ((openL (l.take 400)).length) (q4.flatMap byc))]) (fun (z : Nat × List By) => match z with | (j, q4) => (openL (l.take 400)).length - j) (0, (openL (l.take 400))) ⟨Nat.zero_le _, rfl⟩ (sub_cons rfl (sub_cons rfl (sub_cons rfl (sub_cons rfl (sub_cons rfl sub_nil))))) (sub_cons rfl (sub_cons rfl (sub_cons rfl (sub_cons rfl (sub_cons rfl (sub_cons rfl sub_nil)))))) ?_
        rintro ⟨j, q4⟩ hp
        obtain ⟨hj, hq4⟩ := hp
        show T _ _ _ [(0, .slice a l.length cap), (5, .slice a1 ((l.take 400).length) cap1), (7, .slice a25 ((openL (l.take 400)).length) cap25), (140, .int .i64 (((openL (l.take 400)).length : Nat) : Int)), (141, .int .i64 ((j : Nat) : Int))] [(32, .row (.slice a42 ((sealP (l.take 400)).length) cap42) 5 1 ((sealP (l.take 400)).length) ((sealP (l.take 400)).flatMap byc)), (20, .row (.slice a26 ((openL (l.take 400)).length) cap26) 5 1 ((openL (l.take 400)).length) ((openL (l.take 400)).flatMap byc)), (3, .row (.slice a3 ((sealP (l.take 400)).length) cap3) 5 1 ((sealP (l.take 400)).length) ((sealP (l.take 400)).flatMap byc)), (1, .row (.slice a1 ((l.take 400).length) cap1) 5 1 ((l.take 400).length) ((l.take 400).flatMap byc)), (2, .row (.slice (some ⟨g43, 0, none⟩) ((sealP (l.take 400)).length) cap2) 5 1 ((sealP (l.take 400)).length) (q3.flatMap byc)), (19, .row (.slice a25 ((openL (l.take 400)).length) cap25) 5 1 ((openL (l.take 400)).length) (q4.flatMap byc))]
        refine T_seq (T_region ?_)
        refine TL_q (.bool (decide (((j : Nat) : Int) < (((openL (l.take 400)).length : Nat) : Int)))) (fun _ _ hρ _ => r_lss (hρ _ _ rfl) (hρ _ _ rfl)) rfl rfl rfl (w_n rfl) ?_
        refine TL_seq ?_
        refine T_seq ?_
        refine T_cond rfl (fun h14 => ?_) (fun h14 => ?_)
        · replace h14 := of_decide_eq_true h14
          refine T_skip' ?_
          refine p_seq ?_
          refine T_seq ?_
          refine T_block ?_
          refine T_seq (T_region ?_)
          refine TL_q (.int .i64 ((j : Nat) : Int)) (fun _ _ hρ _ => r_move (hρ _ _ rfl)) rfl rfl rfl (w_n rfl) ?_
          refine TL_q (.int .i64 ((j : Nat) : Int)) (fun _ _ hρ _ => r_assign (hρ _ _ rfl)) rfl rfl rfl (w_n rfl) ?_
          refine TL_seq ?_
          obtain ⟨y, hy⟩ : ∃ y, q4[j]? = some y := ⟨_, List.getElem?_eq_getElem (by omega)⟩
          refine T_row 19 rfl (by omega) (fun g44 ha44 => ?_)
          subst ha44
          refine T_rowcap 19 rfl (fun hrc44 => ?_)
          refine T_region ?_
          refine TL_q (.slice (some ⟨g44, 0, none⟩) ((openL (l.take 400)).length) cap25) (fun _ _ hρ _ => r_move (hρ _ _ rfl)) rfl rfl rfl (w_n rfl) ?_
          refine TL_q (.int .i64 ((j : Nat) : Int)) (fun _ _ hρ _ => r_move (hρ _ _ rfl)) rfl rfl rfl (w_n rfl) ?_
          refine TL_q (.pointer (some ⟨g44, 0 + j * 1, none⟩)) (fun _ _ hρ _ => r_indexAddrS (i := j) sl29 sz5 (hρ _ _ rfl) (hρ _ _ rfl) (by omega)) rfl rfl rfl (w_n rfl) ?_
          refine TL_q (.int .u8 ((y).toNat : Int)) (fun _ _ hρ hm => r_loadOwn1 (f := byc) (u := y) (l := q4) ag5 (hρ _ _ rfl) (hm.row 19 rfl) hq4.symm rfl byc_len hy rfl) rfl rfl rfl (w_n rfl) ?_
          refine TL_q (.int .u8 ((y + (1#8)).toNat : Int)) (fun _ _ hρ _ => r_addB (k := .u8) (a := y) (b := (1#8)) rfl (hρ _ _ rfl) (hρ _ _ rfl)) rfl rfl rfl (w_n rfl) ?_
          refine TL_q (.pointer (some ⟨g44, 0 + j * 1, none⟩)) (fun _ _ hρ _ => r_indexAddrS (i := j) sl29 sz5 (hρ _ _ rfl) (hρ _ _ rfl) (by omega)) rfl rfl rfl (w_n rfl) ?_
          refine TL_storeRow (f := byc) (l := q4) (u := y + (1#8)) 19 rfl hq4.symm rfl rfl sz5 byc_len (by omega) rfl rfl (w_n rfl) ?_
          refine TL_nil ?_
          refine p_blk_n ?_
          refine p_seq ?_
          refine T_region ?_
          refine TL_q (.int .i64 ((j + 1 : Nat) : Int)) (fun _ _ hρ _ => r_as (r_add (hρ _ _ rfl) (hρ _ _ rfl)) (int_as ((wrap64 (by omega) (by omega)).trans (by omega)))) rfl rfl rfl (w_n rfl) ?_
          refine TL_q (.int .i64 ((j + 1 : Nat) : Int)) (fun _ _ hρ _ => r_move (hρ _ _ rfl)) rfl rfl rfl (w_n rfl) ?_
          refine TL_nil ?_
          exact p_at (j + 1, q4.set j (y + 1#8)) ⟨⟨by omega, by rw [List.length_set]; exact hq4⟩, by dsimp only; omega⟩ (sub_cons rfl (sub_cons rfl (sub_cons rfl (sub_cons rfl (sub_cons rfl sub_nil))))) (sub_cons rfl (sub_cons rfl (sub_cons rfl (sub_cons rfl (sub_cons rfl (sub_cons rfl sub_nil))))))
        · replace h14 := of_decide_eq_false h14
          refine T_exit' ?_
          refine p_then_x ?_
          refine p_then_x ?_
          refine p_blk_x ?_
          refine p_seq ?_
          refine T_seq (T_region ?_)
          refine TL_q (.slice a1 ((l.take 400).length) cap1) (fun _ _ hρ _ => r_move (hρ _ _ rfl)) rfl rfl rfl (w_n rfl) ?_
          refine TL_q (.slice a l.length cap) (fun _ _ hρ _ => r_move (hρ _ _ rfl)) rfl rfl rfl (w_n rfl) ?_
          refine TL_callN (fun (_ : Option Addr × Nat) => True) (fun (a45, cap45) => .slice a45 ((l.take 400).length) cap45) (fun (a45, cap45) => [(33, .row (.slice a45 ((l.take 400).length) cap45) 5 1 ((l.take 400).length) ((l.take 400).flatMap byc))]) (fun _ _ hρ _ => r_call (args := [.slice a l.length cap]) (enters_of Try.func13 (by kernel_rfl) rfl) (hρ _ _ rfl) ((cons2 (hρ _ _ rfl) rfl)) rfl) (fun w hm => (few_c l a cap w (hv.keep hm.ext) hcap).mono fun e w' ⟨a', cap', he, hb, hr⟩ => ⟨(a', cap'), trivial, he, hb, newOk1 33 hr⟩) rfl rfl rfl (w_n rfl) ?_
          rintro ⟨a45, cap45⟩ -
          refine TL_call (.bool true) (fun _ _ hρ _ => r_call (args := [.slice a1 ((l.take 400).length) cap1, .slice a45 ((l.take 400).length) cap45]) (enters_of Try.func11 (by kernel_rfl) rfl) (hρ _ _ rfl) ((cons2 (hρ _ _ rfl) (cons2 (hρ _ _ rfl) rfl))) rfl) (fun w hm => (equal_b (l.take 400) (l.take 400) a1 a45 cap1 cap45 w (SliceAt.own byc_len (hm.row 1 rfl) rfl rfl) (SliceAt.own byc_len (hm.row 33 rfl) rfl rfl) (by omega) (by omega)).mono fun _ _ h => ⟨h.1.trans (congrArg Ending.returned (bool_as (decide_eq_true (rfl)))), h.2⟩) rfl rfl rfl (w_n rfl) ?_
          refine TL_q (.bool true) (fun _ _ hρ _ => r_assign (hρ _ _ rfl)) rfl rfl rfl (w_n rfl) ?_
          refine TL_seq ?_
          refine T_ret' ?_
          refine ret_of rfl (.bool true) (fun tmps w hk hm => res1 rfl (res_tmp (hk 4 _ rfl))) (fun w hm => ?_)
          exact ⟨rfl, hm.ext⟩
end Go.Proofs.Ytnjcffhpfmnbfaa
