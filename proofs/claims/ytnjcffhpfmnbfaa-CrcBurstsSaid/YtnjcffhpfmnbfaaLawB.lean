/- crc: the walks of CrcParts, CrcBursts. Printed by a program of this seat's prover. -/
import Derived.Test.YtnjcffhpfmnbfaaLawA
namespace Go.Proofs.Ytnjcffhpfmnbfaa
open Go Go.RowKit
set_option maxRecDepth 10000
theorem wrapu_nn (z : Int) : 0 ≤ IntKind.u64.wrap z := by
  show 0 ≤ z % 18446744073709551616
  omega
theorem sum_nil {l : List By} (s : Wd) (h : ((l.length : Nat) : Int) = 0) : sumC s l = s := by
  have : l = [] := List.eq_nil_of_length_eq_zero (by omega)
  subst this
  show ~~~ ~~~ s = s
  simp

theorem parts_any (l : List By) (a : Option Addr) (cap : Nat) (pz : Int) (b : By) (w : World) (hv : SliceAt w a cap 1 byc l) (hcap : cap ≤ Go.maxLen) : Calls Try.prog 7 #[.slice a l.length cap, .int .i64 pz, .int .u8 (b.toNat : Int)] w fun e w' => e = .returned (.bool true) ∧ Below w.heap.size w w' := by
  have hvl := hv.1
  unfold Go.maxLen at hcap
  have hlf : (l.take 400).length ≤ 400 := by rw [List.length_take]; omega
  refine calls_of_T (l := [.slice a l.length cap, .int .i64 pz, .int .u8 ((b).toNat : Int)]) 76 Try.func7 rfl rfl rfl ?_
  show T _ _ _ [(0, .slice a l.length cap), (1, .int .i64 pz), (2, .int .u8 ((b).toNat : Int))] []
  refine T_seq (T_region ?_)
  refine TL_q (.bool false) (fun _ _ hρ _ => r_assign (hρ _ _ rfl)) rfl rfl rfl (w_n rfl) ?_
  refine TL_seq ?_
  refine T_seq ?_
  refine T_seq (T_region ?_)
  refine TL_call (.bool true) (fun _ _ hρ _ => r_call (args := []) (enters_of Try.func9 (by kernel_rfl) rfl) (hρ _ _ rfl) (by rfl) rfl) (fun w _ => wakes_any w) rfl rfl rfl (w_n rfl) ?_
  refine TL_q (.bool false) (fun _ _ hρ _ => r_not (b := true) (hρ _ _ rfl)) rfl rfl rfl (w_n rfl) ?_
  refine TL_seq ?_
  refine T_cond_f rfl ?_
  refine T_skip' ?_
  refine p_seq ?_
  refine T_seq (T_region ?_)
  refine TL_q (.slice a l.length cap) (fun _ _ hρ _ => r_move (hρ _ _ rfl)) rfl rfl rfl (w_n rfl) ?_
  refine TL_callN (fun (_ : Option Addr × Nat) => True) (fun (a1, cap1) => .slice a1 ((l.take 400).length) cap1) (fun (a1, cap1) => [(1, .row (.slice a1 ((l.take 400).length) cap1) 5 1 ((l.take 400).length) ((l.take 400).flatMap byc))]) (fun _ _ hρ _ => r_call (args := [.slice a l.length cap]) (enters_of Try.func13 (by kernel_rfl) rfl) (hρ _ _ rfl) ((cons2 (hρ _ _ rfl) rfl)) rfl) (fun w hm => (few_c l a cap w (hv.keep hm.ext) hcap).mono fun e w' ⟨a', cap', he, hb, hr⟩ => ⟨(a', cap'), trivial, he, hb, newOk1 1 hr⟩) rfl rfl rfl (w_n rfl) ?_
  rintro ⟨a1, cap1⟩ -
  refine TL_q (.slice a1 ((l.take 400).length) cap1) (fun _ _ hρ _ => r_assign (hρ _ _ rfl)) rfl rfl rfl (w_n rfl) ?_
  refine TL_seq ?_
  refine T_seq ?_
  refine T_seq (T_region ?_)
  refine TL_q (.slice a1 ((l.take 400).length) cap1) (fun _ _ hρ _ => r_move (hρ _ _ rfl)) rfl rfl rfl (w_n rfl) ?_
  refine TL_q (.int .i64 (((l.take 400).length : Nat) : Int)) (fun _ _ hρ _ => r_len sl29 (hρ _ _ rfl)) rfl rfl rfl (w_n rfl) ?_
  refine TL_q (.bool (decide ((((l.take 400).length : Nat) : Int) = 0))) (fun _ _ hρ _ => r_eql (hρ _ _ rfl) (hρ _ _ rfl)) rfl rfl rfl (w_n rfl) ?_
  refine TL_seq ?_
  refine T_cond rfl (fun h1 => ?_) (fun h1 => ?_)
  · replace h1 := of_decide_eq_true h1
    have hs0 : (sumC 0#32 (l.take 400)) = (0#32) := sum_nil 0#32 h1
    have hs7 : (sumC (7#32) (l.take 400)) = (7#32) := sum_nil 7#32 h1
    refine T_seq (T_region ?_)
    refine TL_q (.slice a1 ((l.take 400).length) cap1) (fun _ _ hρ _ => r_move (hρ _ _ rfl)) rfl rfl rfl (w_n rfl) ?_
    refine TL_new 2 (.cells #[.slice a1 ((l.take 400).length) cap1] 29) (fun B => .slice (some ⟨B, 0, none⟩) 1 1) (fun _ _ hρ _ => r_buildSlice (vs := [(0, .slice a1 ((l.take 400).length) cap1)]) (by kernel_rfl) (cons2 (pair2 (hρ _ _ rfl)) rfl)) rfl rfl rfl (w_n rfl) ?_
    intro B2
    refine TL_call (.int .u32 ((sumC 0#32 (l.take 400)).toNat : Int)) (fun _ _ hρ _ => r_call (args := [.slice (some ⟨B2, 0, none⟩) 1 1]) (enters_of Try.func20 (by kernel_rfl) rfl) (hρ _ _ rfl) ((cons2 (hρ _ _ rfl) rfl)) rfl) (fun w hm => (sum_c [(⟨a1, cap1, (l.take 400)⟩ : RowV)] (some ⟨B2, 0, none⟩) 1 w ⟨by simp, (fun e => by cases e), .inr ⟨_, 0, _, _, _, rfl, (hm.at 2 rfl), row_of_take (fun _ => rfl) rfl⟩⟩ (List.forall_mem_cons.2 ⟨(SliceAt.own byc_len (hm.row 1 rfl) rfl rfl), (fun _ h => nomatch h)⟩) (List.forall_mem_cons.2 ⟨(row_cap (hm.row 1 rfl)), (fun _ h => nomatch h)⟩) (by decide)).mono fun _ _ h => ⟨h.1.trans (congrArg (fun x : List By => Ending.returned (.int .u32 ((sumC 0#32 x).toNat : Int))) (by first | rfl | simp only [List.flatMap_cons, List.flatMap_nil, List.append_nil])), h.2⟩) rfl rfl rfl (w_n rfl) ?_
    refine TL_q (.bool true) (fun _ _ hρ _ => r_as (r_as (r_eql (hρ _ _ rfl) (hρ _ _ rfl)) (bool_as (bv_dec (sumC 0#32 (l.take 400)) (0#32)))) (bool_as (decide_eq_true hs0))) rfl rfl rfl (w_n rfl) ?_
    refine TL_q (.bool true) (fun _ _ hρ _ => r_move (hρ _ _ rfl)) rfl rfl rfl (w_n rfl) ?_
    refine TL_q (.slice a1 ((l.take 400).length) cap1) (fun _ _ hρ _ => r_move (hρ _ _ rfl)) rfl rfl rfl (want_y 21 rfl rfl rfl) ?_
    refine TL_call (.int .u32 ((sumC (7#32) (l.take 400)).toNat : Int)) (fun _ _ hρ _ => r_call (args := [.int .u32 7, .slice a1 ((l.take 400).length) cap1]) (enters_of Try.func22 (by kernel_rfl) rfl) (hρ _ _ rfl) ((cons2 (hρ _ _ rfl) (cons2 (hρ _ _ rfl) rfl))) rfl) (fun w hm => moreB_c (7#32) (l.take 400) a1 cap1 w (SliceAt.own byc_len (hm.row 1 rfl) rfl rfl) (row_cap (hm.row 1 rfl))) rfl rfl rfl (want_y 21 rfl rfl rfl) ?_
    refine TL_q (.bool true) (fun _ _ hρ _ => r_as (r_as (r_eql (hρ _ _ rfl) (hρ _ _ rfl)) (bool_as (bv_dec (sumC (7#32) (l.take 400)) (7#32)))) (bool_as (decide_eq_true hs7))) rfl rfl rfl (want_y 21 rfl rfl rfl) ?_
    refine TL_q (.bool true) (fun _ _ hρ _ => r_pick_t (hρ _ _ rfl) (hρ _ _ rfl)) rfl rfl rfl (w_n rfl) ?_
    refine TL_q (.bool true) (fun _ _ hρ _ => r_assign (hρ _ _ rfl)) rfl rfl rfl (w_n rfl) ?_
    refine TL_seq ?_
    refine T_ret' ?_
    refine p_then_r ?_
    refine ret_of rfl (.bool true) (fun tmps w hk hm => res1 rfl (res_tmp (hk 6 _ rfl))) (fun w hm => ?_)
    exact ⟨rfl, hm.ext⟩
  · replace h1 := of_decide_eq_false h1
    refine T_skip' ?_
    refine p_seq ?_
    have hne := h1
    obtain ⟨u, hu⟩ : ∃ u : Nat, (u : Int) = IntKind.u64.wrap pz := ⟨_, Int.toNat_of_nonneg (wrapu_nn pz)⟩
    obtain ⟨p, hp⟩ : ∃ p, p = u % ((l.take 400).length) := ⟨_, rfl⟩
    have hpl : p < (l.take 400).length := by rw [hp]; exact Nat.mod_lt _ (by omega)
    refine T_seq (T_region ?_)
    refine TL_q (.int .i64 pz) (fun _ _ hρ _ => r_move (hρ _ _ rfl)) rfl rfl rfl (w_n rfl) ?_
    refine TL_q (.int .u64 ((u : Nat) : Int)) (fun _ _ hρ _ => r_as (r_conv un3 io41 (hρ _ _ rfl)) (int_as hu.symm)) rfl rfl rfl (w_n rfl) ?_
    refine TL_q (.slice a1 ((l.take 400).length) cap1) (fun _ _ hρ _ => r_move (hρ _ _ rfl)) rfl rfl rfl (w_n rfl) ?_
    refine TL_q (.int .i64 (((l.take 400).length : Nat) : Int)) (fun _ _ hρ _ => r_len sl29 (hρ _ _ rfl)) rfl rfl rfl (w_n rfl) ?_
    refine TL_q (.int .u64 (((l.take 400).length : Nat) : Int)) (fun _ _ hρ _ => r_as (r_conv un3 io41 (hρ _ _ rfl)) (int_as (wrap_u64 (by omega) (by omega)))) rfl rfl rfl (w_n rfl) ?_
    refine TL_q (.int .u64 ((u % ((l.take 400).length) : Nat) : Int)) (fun _ _ hρ _ => r_as (r_rem (hρ _ _ rfl) (hρ _ _ rfl) (by omega)) (int_as ((Int.tmod_eq_emod_of_nonneg (by omega)).trans (Int.natCast_emod _ _).symm))) rfl rfl rfl (w_n rfl) ?_
    refine TL_q (.int .i64 ((p : Nat) : Int)) (fun _ _ hρ _ => r_as (r_conv un41 io3 (hρ _ _ rfl)) (int_as (hp ▸ wrap64 (by omega) (by omega)))) rfl rfl rfl (w_n rfl) ?_
    refine TL_q (.int .i64 ((p : Nat) : Int)) (fun _ _ hρ _ => r_assign (hρ _ _ rfl)) rfl rfl rfl (w_n rfl) ?_
    refine TL_seq ?_
    refine T_seq (T_region ?_)
    refine TL_q (.slice a1 ((l.take 400).length) cap1) (fun _ _ hρ _ => r_move (hρ _ _ rfl)) rfl rfl rfl (w_n rfl) ?_
    refine TL_new 3 (.cells #[.slice a1 ((l.take 400).length) cap1] 29) (fun B => .slice (some ⟨B, 0, none⟩) 1 1) (fun _ _ hρ _ => r_buildSlice (vs := [(0, .slice a1 ((l.take 400).length) cap1)]) (by kernel_rfl) (cons2 (pair2 (hρ _ _ rfl)) rfl)) rfl rfl rfl (w_n rfl) ?_
    intro B3
    refine TL_call (.int .u32 ((sumC 0#32 (l.take 400)).toNat : Int)) (fun _ _ hρ _ => r_call (args := [.slice (some ⟨B3, 0, none⟩) 1 1]) (enters_of Try.func20 (by kernel_rfl) rfl) (hρ _ _ rfl) ((cons2 (hρ _ _ rfl) rfl)) rfl) (fun w hm => (sum_c [(⟨a1, cap1, (l.take 400)⟩ : RowV)] (some ⟨B3, 0, none⟩) 1 w ⟨by simp, (fun e => by cases e), .inr ⟨_, 0, _, _, _, rfl, (hm.at 3 rfl), row_of_take (fun _ => rfl) rfl⟩⟩ (List.forall_mem_cons.2 ⟨(SliceAt.own byc_len (hm.row 1 rfl) rfl rfl), (fun _ h => nomatch h)⟩) (List.forall_mem_cons.2 ⟨(row_cap (hm.row 1 rfl)), (fun _ h => nomatch h)⟩) (by decide)).mono fun _ _ h => ⟨h.1.trans (congrArg (fun x : List By => Ending.returned (.int .u32 ((sumC 0#32 x).toNat : Int))) (by first | rfl | simp only [List.flatMap_cons, List.flatMap_nil, List.append_nil])), h.2⟩) rfl rfl rfl (w_n rfl) ?_
    refine TL_q (.int .u32 ((sumC 0#32 (l.take 400)).toNat : Int)) (fun _ _ hρ _ => r_assign (hρ _ _ rfl)) rfl rfl rfl (w_n rfl) ?_
    refine TL_seq ?_
    refine T_seq ?_
    have hp400 : p < (l.take 400).length := hpl
    obtain ⟨x, hx⟩ : ∃ x, (l.take 400)[p]? = some x := ⟨_, List.getElem?_eq_getElem hpl⟩
    refine T_row 1 rfl (by omega) (fun g4 ha4 => ?_)
    subst ha4
    refine T_rowcap 1 rfl (fun hrc4 => ?_)
    obtain ⟨l5, hl5, hn5⟩ : ∃ lz, lz = (l.take 400).take p ∧ lz.length = p := ⟨_, rfl, by rw [List.length_take]; omega⟩
    obtain ⟨l6, hl6, hn6⟩ : ∃ lz, lz = ((l.take 400).drop p).take ((l.take 400).length - p) ∧ lz.length = (l.take 400).length - p := ⟨_, rfl, by rw [List.length_take, List.length_drop]; omega⟩
    obtain ⟨a6, ha6⟩ : ∃ az : Option Addr, az = (if cap1 = p then ((some ⟨g4, 0, none⟩) : Option Addr) else Option.map (fun z : Addr => z.add (p * 1)) ((some ⟨g4, 0, none⟩) : Option Addr)) := ⟨_, rfl⟩
    obtain ⟨l7, hl7, hn7⟩ : ∃ lz, lz = (l.take 400).take p ∧ lz.length = p := ⟨_, rfl, by rw [List.length_take]; omega⟩
    obtain ⟨l8, hl8, hn8⟩ : ∃ lz, lz = ((l.take 400).drop p).take ((l.take 400).length - p) ∧ lz.length = (l.take 400).length - p := ⟨_, rfl, by rw [List.length_take, List.length_drop]; omega⟩
    obtain ⟨a8, ha8⟩ : ∃ az : Option Addr, az = (if cap1 = p then ((some ⟨g4, 0, none⟩) : Option Addr) else Option.map (fun z : Addr => z.add (p * 1)) ((some ⟨g4, 0, none⟩) : Option Addr)) := ⟨_, rfl⟩
    refine T_seq (T_draw (V := [(0, .slice (some ⟨g4, 0, none⟩) ((l.take 400).length) cap1), (1, .int .i64 ((p : Nat) : Int)), (2, .slice (some ⟨g4, 0, none⟩) l5.length cap1), (5, .slice (some ⟨g4, 0, none⟩) ((l.take 400).length) cap1), (6, .int .i64 ((p : Nat) : Int)), (7, .slice a6 l6.length (cap1 - p)), (9, .int .u32 ((sumC 0#32 (l.take 400)).toNat : Int))]) [0, 0, 3, 7, 15, 0, 0, 96, 255, 0, 1023, 2047, 4095, 4095, 16383, 4095, 4095, 102399, 262143, 524287, 4095, 2097151, 4194303] [[(7, none)], [(1, none)], [(36, some 0), (37, some 1)], [(38, some 2)], [(39, some 3)], [(7, none)], [(1, none)], [(41, some 5), (42, some 6)], [(40, some 4), (43, some 7)], [(8, none)], [(44, some 8), (45, some 9)], [(46, some 10)], [(7, none)], [(1, none)], [(48, some 12), (49, some 13)], [(7, none)], [(1, none)], [(51, some 15), (52, some 16)], [(50, some 14), (53, some 17)], [(54, some 18)], [(8, none)], [(55, some 19), (56, some 20)], [(57, some 21), (47, some 11)]] 786712 mixed (by kernel_rfl) ?_)
    refine G_step [0, 1, 2, 5, 6, 7, 9] 3 [] (by kernel_rfl) (allM (all_cons (q_run (.slice (some ⟨g4, 0, none⟩) ((l.take 400).length) cap1) rfl rfl (wv_n rfl) rfl (fun _ _ hρ _ => r_move (hρ _ _ rfl))) (all_cons (q_run (.int .i64 ((p : Nat) : Int)) rfl rfl (wv_n rfl) rfl (fun _ _ hρ _ => r_move (hρ _ _ rfl))) (all_cons (q_run (.slice (some ⟨g4, 0, none⟩) l5.length cap1) rfl rfl (wv_n rfl) rfl (fun ρ _ hρ _ => r_as (r_sliceO sl29 sz5 (hρ _ _ rfl) (bd_none ρ _) (bd_some (n := p) (hρ _ _ rfl)) (bd_none ρ _) (by simp) (by omega) (by omega) (by omega)) (by rw [hn5]; exact slo_zero _ _ _ _))) (all_cons (q_run (.slice (some ⟨g4, 0, none⟩) ((l.take 400).length) cap1) rfl rfl (wv_n rfl) rfl (fun _ _ hρ _ => r_move (hρ _ _ rfl))) (all_cons (q_run (.int .i64 ((p : Nat) : Int)) rfl rfl (wv_n rfl) rfl (fun _ _ hρ _ => r_move (hρ _ _ rfl))) (all_cons (q_run (.slice a6 l6.length (cap1 - p)) rfl rfl (wv_n rfl) rfl (fun ρ _ hρ _ => r_as (r_sliceO sl29 sz5 (hρ _ _ rfl) (bd_none ρ _) (bd_none ρ _) (bd_some (n := p) (hρ _ _ rfl)) (by simp) (by omega) (by omega) (by omega)) (by rw [hn6, ha6]))) (all_cons (q_run (.int .u32 ((sumC 0#32 (l.take 400)).toNat : Int)) rfl rfl (wv_n rfl) rfl (fun _ _ hρ _ => r_move (hρ _ _ rfl))) all_nil)))))))) (allM (all_cons ?_ all_nil))
    refine LOb_new 4 (.cells #[.slice (some ⟨g4, 0, none⟩) l5.length cap1] 29) (fun B => .slice (some ⟨B, 0, none⟩) 1 1) (fun B => []) rfl (wv_n rfl) rfl rfl (fun _ _ hρ _ => r_buildSlice (vs := [(0, .slice (some ⟨g4, 0, none⟩) l5.length cap1)]) (by kernel_rfl) (cons2 (pair2 (hρ _ _ rfl)) rfl)) (fun B => by kernel_rfl) ?_
    intro B9
    refine G_step [5, 6, 7, 9] 4 [] (by kernel_rfl) (allM (all_cons (q_run (.slice (some ⟨g4, 0, none⟩) ((l.take 400).length) cap1) rfl rfl (wv_n rfl) rfl (fun _ _ hρ _ => r_move (hρ _ _ rfl))) (all_cons (q_run (.int .i64 ((p : Nat) : Int)) rfl rfl (wv_n rfl) rfl (fun _ _ hρ _ => r_move (hρ _ _ rfl))) (all_cons (q_run (.slice a6 l6.length (cap1 - p)) rfl rfl (wv_n rfl) rfl (fun ρ _ hρ _ => r_as (r_sliceO sl29 sz5 (hρ _ _ rfl) (bd_none ρ _) (bd_none ρ _) (bd_some (n := p) (hρ _ _ rfl)) (by simp) (by omega) (by omega) (by omega)) (by rw [hn6, ha6]))) (all_cons (q_run (.int .u32 ((sumC 0#32 (l.take 400)).toNat : Int)) rfl rfl (wv_n rfl) rfl (fun _ _ hρ _ => r_move (hρ _ _ rfl))) all_nil))))) (allM (all_cons ?_ all_nil))
    refine LOb_call (.int .u32 ((sumC 0#32 l5).toNat : Int)) [] rfl (wv_n rfl) rfl rfl (fun _ _ hρ _ => r_call (args := [.slice (some ⟨B9, 0, none⟩) 1 1]) (enters_of Try.func20 (by kernel_rfl) rfl) (hρ _ _ rfl) ((cons2 (hρ _ _ rfl) rfl)) rfl) (fun w hm => (sum_c [(⟨(some ⟨g4, 0, none⟩), cap1, l5⟩ : RowV)] (some ⟨B9, 0, none⟩) 1 w ⟨by simp, (fun e => by cases e), .inr ⟨_, 0, _, _, _, rfl, (hm.at 4 rfl), row_of_take (fun _ => rfl) rfl⟩⟩ (List.forall_mem_cons.2 ⟨(by have hs := SliceAt.front (l := (l.take 400)) (SliceAt.own byc_len (hm.row 1 rfl) rfl rfl) (n := p) (m := cap1) (by omega) (by omega) (by omega); rw [← hl5] at hs; exact hs), (fun _ h => nomatch h)⟩) (List.forall_mem_cons.2 ⟨(row_cap (hm.row 1 rfl)), (fun _ h => nomatch h)⟩) (by decide)).mono fun _ _ h => ⟨h.1.trans (congrArg (fun x : List By => Ending.returned (.int .u32 ((sumC 0#32 x).toNat : Int))) (by first | rfl | simp only [List.flatMap_cons, List.flatMap_nil, List.append_nil])), h.2⟩) (by kernel_rfl) ?_
    refine G_step [5, 6, 7, 9] 8 [] (by kernel_rfl) (allM (all_cons (q_run (.slice (some ⟨g4, 0, none⟩) ((l.take 400).length) cap1) rfl rfl (wv_n rfl) rfl (fun _ _ hρ _ => r_move (hρ _ _ rfl))) (all_cons (q_run (.int .i64 ((p : Nat) : Int)) rfl rfl (wv_n rfl) rfl (fun _ _ hρ _ => r_move (hρ _ _ rfl))) (all_cons (q_run (.slice a6 l6.length (cap1 - p)) rfl rfl (wv_n rfl) rfl (fun ρ _ hρ _ => r_as (r_sliceO sl29 sz5 (hρ _ _ rfl) (bd_none ρ _) (bd_none ρ _) (bd_some (n := p) (hρ _ _ rfl)) (by simp) (by omega) (by omega) (by omega)) (by rw [hn6, ha6]))) (all_cons (q_run (.int .u32 ((sumC 0#32 (l.take 400)).toNat : Int)) rfl rfl (wv_n rfl) rfl (fun _ _ hρ _ => r_move (hρ _ _ rfl))) all_nil))))) (allM (all_cons ?_ all_nil))
    refine LOb_call (.int .u32 ((sumC 0#32 (l.take 400)).toNat : Int)) [(10, .bool false), (11, .bool false), (12, .slice (some ⟨g4, 0, none⟩) ((l.take 400).length) cap1), (13, .int .i64 ((p : Nat) : Int)), (14, .slice (some ⟨g4, 0, none⟩) l7.length cap1), (15, .slice (some ⟨g4, 0, none⟩) ((l.take 400).length) cap1), (16, .int .i64 ((p : Nat) : Int)), (17, .slice a8 l8.length (cap1 - p)), (20, .int .u32 ((sumC 0#32 (l.take 400)).toNat : Int))] rfl (wv_n rfl) rfl rfl (fun _ _ hρ _ => r_call (args := [.int .u32 ((sumC 0#32 l5).toNat : Int), .slice a6 l6.length (cap1 - p)]) (enters_of Try.func22 (by kernel_rfl) rfl) (hρ _ _ rfl) ((cons2 (hρ _ _ rfl) (cons2 (hρ _ _ rfl) rfl))) rfl) (fun w hm => (moreB_c (sumC 0#32 l5) l6 a6 (cap1 - p) w (by have hs := SliceAt.part (l := (l.take 400)) (SliceAt.own byc_len (hm.row 1 rfl) rfl rfl) (lo := p) (hi := (l.take 400).length) (m := cap1) (by omega) (by omega) (by omega) (by omega); rw [← hl6, ← ha6] at hs; exact hs) (Nat.le_trans (Nat.sub_le _ _) (row_cap (hm.row 1 rfl)))).mono fun _ _ h => ⟨h.1.trans (congrArg Ending.returned (sumCV (parts_more hl5 hl6 rfl))), h.2⟩) (by kernel_rfl) ?_
    refine G_step [9, 10, 11, 12, 13, 14, 15, 16, 17, 20] 18 [] (by kernel_rfl) (allM (all_cons (q_run (.int .u32 ((sumC 0#32 (l.take 400)).toNat : Int)) rfl rfl (wv_n rfl) rfl (fun _ _ hρ _ => r_move (hρ _ _ rfl))) (all_cons (q_run (.bool false) rfl rfl (wv_n rfl) rfl (fun _ _ hρ _ => r_as (r_neq (hρ _ _ rfl) (hρ _ _ rfl)) (bool_as (by simp)))) (all_cons (q_run (.bool false) rfl rfl (wv_n rfl) rfl (fun _ _ hρ _ => r_move (hρ _ _ rfl))) (all_cons (q_run (.slice (some ⟨g4, 0, none⟩) ((l.take 400).length) cap1) rfl rfl (wv_y rfl rfl) rfl (fun _ _ hρ _ => r_move (hρ _ _ rfl))) (all_cons (q_run (.int .i64 ((p : Nat) : Int)) rfl rfl (wv_y rfl rfl) rfl (fun _ _ hρ _ => r_move (hρ _ _ rfl))) (all_cons (q_run (.slice (some ⟨g4, 0, none⟩) l7.length cap1) rfl rfl (wv_y rfl rfl) rfl (fun ρ _ hρ _ => r_as (r_sliceO sl29 sz5 (hρ _ _ rfl) (bd_none ρ _) (bd_some (n := p) (hρ _ _ rfl)) (bd_none ρ _) (by simp) (by omega) (by omega) (by omega)) (by rw [hn7]; exact slo_zero _ _ _ _))) (all_cons (q_run (.slice (some ⟨g4, 0, none⟩) ((l.take 400).length) cap1) rfl rfl (wv_y rfl rfl) rfl (fun _ _ hρ _ => r_move (hρ _ _ rfl))) (all_cons (q_run (.int .i64 ((p : Nat) : Int)) rfl rfl (wv_y rfl rfl) rfl (fun _ _ hρ _ => r_move (hρ _ _ rfl))) (all_cons (q_run (.slice a8 l8.length (cap1 - p)) rfl rfl (wv_y rfl rfl) rfl (fun ρ _ hρ _ => r_as (r_sliceO sl29 sz5 (hρ _ _ rfl) (bd_none ρ _) (bd_none ρ _) (bd_some (n := p) (hρ _ _ rfl)) (by simp) (by omega) (by omega) (by omega)) (by rw [hn8, ha8]))) (all_cons (q_run (.int .u32 ((sumC 0#32 (l.take 400)).toNat : Int)) rfl rfl (wv_y rfl rfl) rfl (fun _ _ hρ _ => r_move (hρ _ _ rfl))) all_nil))))))))))) (allM (all_cons ?_ all_nil))
    refine LOb_new 5 (.cells #[.slice (some ⟨g4, 0, none⟩) l7.length cap1, .slice a8 l8.length (cap1 - p)] 29) (fun B => .slice (some ⟨B, 0, none⟩) 2 2) (fun B => []) rfl (wv_y rfl rfl) rfl rfl (fun _ _ hρ _ => r_buildSlice (vs := [(0, .slice (some ⟨g4, 0, none⟩) l7.length cap1), (1, .slice a8 l8.length (cap1 - p))]) (by kernel_rfl) (cons2 (pair2 (hρ _ _ rfl)) (cons2 (pair2 (hρ _ _ rfl)) rfl))) (fun B => by kernel_rfl) ?_
    intro B10
    refine G_step [20] 19 [] (by kernel_rfl) (allM (all_cons (q_run (.int .u32 ((sumC 0#32 (l.take 400)).toNat : Int)) rfl rfl (wv_y rfl rfl) rfl (fun _ _ hρ _ => r_move (hρ _ _ rfl))) all_nil)) (allM (all_cons ?_ all_nil))
    refine LOb_call (.int .u32 ((sumC 0#32 (l.take 400)).toNat : Int)) [(21, .bool false), (22, .bool false)] rfl (wv_y rfl rfl) rfl rfl (fun _ _ hρ _ => r_call (args := [.slice (some ⟨B10, 0, none⟩) 2 2]) (enters_of Try.func20 (by kernel_rfl) rfl) (hρ _ _ rfl) ((cons2 (hρ _ _ rfl) rfl)) rfl) (fun w hm => (sum_c [(⟨(some ⟨g4, 0, none⟩), cap1, l7⟩ : RowV), (⟨a8, (cap1 - p), l8⟩ : RowV)] (some ⟨B10, 0, none⟩) 2 w ⟨by simp, (fun e => by cases e), .inr ⟨_, 0, _, _, _, rfl, (hm.at 5 rfl), row_of_take (fun _ => rfl) rfl⟩⟩ (List.forall_mem_cons.2 ⟨(by have hs := SliceAt.front (l := (l.take 400)) (SliceAt.own byc_len (hm.row 1 rfl) rfl rfl) (n := p) (m := cap1) (by omega) (by omega) (by omega); rw [← hl7] at hs; exact hs), (List.forall_mem_cons.2 ⟨(by have hs := SliceAt.part (l := (l.take 400)) (SliceAt.own byc_len (hm.row 1 rfl) rfl rfl) (lo := p) (hi := (l.take 400).length) (m := cap1) (by omega) (by omega) (by omega) (by omega); rw [← hl8, ← ha8] at hs; exact hs), (fun _ h => nomatch h)⟩)⟩) (List.forall_mem_cons.2 ⟨(row_cap (hm.row 1 rfl)), (List.forall_mem_cons.2 ⟨(Nat.le_trans (Nat.sub_le _ _) (row_cap (hm.row 1 rfl))), (fun _ h => nomatch h)⟩)⟩) (by decide)).mono fun _ _ h => ⟨h.1.trans (congrArg Ending.returned (sumCV ((congrArg (sumC 0#32) (by first | rfl | simp only [List.flatMap_cons, List.flatMap_nil, List.append_nil])).trans (parts_sum hl7 hl8 rfl)))), h.2⟩) (by kernel_rfl) ?_
    refine G_last [20, 21, 22] [(2, .int .u8 ((b).toNat : Int)), (6, .bool false), (7, .slice (some ⟨g4, 0, none⟩) ((l.take 400).length) cap1), (1, .int .i64 ((p : Nat) : Int)), (8, .int .u32 ((sumC 0#32 (l.take 400)).toNat : Int)), (58, .bool false)] (by kernel_rfl) (allM (all_cons (q_run (.int .u32 ((sumC 0#32 (l.take 400)).toNat : Int)) rfl rfl (wv_y rfl rfl) rfl (fun _ _ hρ _ => r_move (hρ _ _ rfl))) (all_cons (q_run (.bool false) rfl rfl (wv_y rfl rfl) rfl (fun _ _ hρ _ => r_as (r_neq (hρ _ _ rfl) (hρ _ _ rfl)) (bool_as (by simp)))) (all_cons (q_run (.bool false) rfl rfl (wv_n rfl) rfl (fun _ _ hρ _ => r_pick_f (hρ _ _ rfl) (hρ _ _ rfl))) all_nil)))) (end_old rfl rfl (end_old rfl rfl (end_old rfl rfl (end_old rfl rfl (end_old rfl rfl (end_new 22 rfl rfl end_nil)))))) ?_
    refine T_cond_f rfl ?_
    refine T_skip' ?_
    refine p_seq ?_
    refine T_seq (T_region ?_)
    refine TL_q (.slice (some ⟨g4, 0, none⟩) ((l.take 400).length) cap1) (fun _ _ hρ _ => r_move (hρ _ _ rfl)) rfl rfl rfl (w_n rfl) ?_
    refine TL_q (.int .i64 ((p : Nat) : Int)) (fun _ _ hρ _ => r_move (hρ _ _ rfl)) rfl rfl rfl (w_n rfl) ?_
    refine TL_q (.pointer (some ⟨g4, 0 + p * 1, none⟩)) (fun _ _ hρ _ => r_indexAddrS (i := p) sl29 sz5 (hρ _ _ rfl) (hρ _ _ rfl) (by omega)) rfl rfl rfl (w_n rfl) ?_
    refine TL_q (.int .u8 ((x).toNat : Int)) (fun _ _ hρ hm => r_loadOwn1 (f := byc) (u := x) (l := (l.take 400)) ag5 (hρ _ _ rfl) (hm.row 1 rfl) rfl rfl byc_len hx rfl) rfl rfl rfl (w_n rfl) ?_
    refine TL_q (.int .u8 ((x).toNat : Int)) (fun _ _ hρ _ => r_assign (hρ _ _ rfl)) rfl rfl rfl (w_n rfl) ?_
    refine TL_seq ?_
    refine T_seq (T_region ?_)
    refine TL_q (.slice (some ⟨g4, 0, none⟩) ((l.take 400).length) cap1) (fun _ _ hρ _ => r_move (hρ _ _ rfl)) rfl rfl rfl (w_n rfl) ?_
    refine TL_q (.int .i64 ((p : Nat) : Int)) (fun _ _ hρ _ => r_move (hρ _ _ rfl)) rfl rfl rfl (w_n rfl) ?_
    refine TL_q (.int .u8 ((b).toNat : Int)) (fun _ _ hρ _ => r_move (hρ _ _ rfl)) rfl rfl rfl (w_n rfl) ?_
    refine TL_q (.pointer (some ⟨g4, 0 + p * 1, none⟩)) (fun _ _ hρ _ => r_indexAddrS (i := p) sl29 sz5 (hρ _ _ rfl) (hρ _ _ rfl) (by omega)) rfl rfl rfl (w_n rfl) ?_
    refine TL_storeRow (f := byc) (l := (l.take 400)) (u := b) 1 rfl rfl rfl rfl sz5 byc_len (by omega) rfl rfl (w_n rfl) ?_
    refine TL_seq ?_
    refine T_sub [(2, .int .u8 ((b).toNat : Int)), (7, .slice (some ⟨g4, 0, none⟩) ((l.take 400).length) cap1), (8, .int .u32 ((sumC 0#32 (l.take 400)).toNat : Int)), (9, .int .u8 ((x).toNat : Int))] [(1, .row (.slice (some ⟨g4, 0, none⟩) ((l.take 400).length) cap1) 5 1 ((l.take 400).length) (((l.take 400).set p b).flatMap byc))] (sub_cons rfl (sub_cons rfl (sub_cons rfl (sub_cons rfl sub_nil)))) (sub_cons rfl sub_nil) ?_
    rw [show (l.take 400).length = ((l.take 400).set p b).length from List.length_set.symm]
    by_cases hB : b = x
    · skip
      have hxe : (l.take 400)[p] = x := (List.getElem?_eq_some_iff.1 hx).2
      have hS : (sumC 0#32 ((l.take 400).set p b)) = (sumC 0#32 (l.take 400)) := (one_byte _ p hpl b).2 (hB.trans hxe.symm)
      refine T_seq (T_region ?_)
      refine TL_q (.slice (some ⟨g4, 0, none⟩) (((l.take 400).set p b).length) cap1) (fun _ _ hρ _ => r_move (hρ _ _ rfl)) rfl rfl rfl (w_n rfl) ?_
      refine TL_new 6 (.cells #[.slice (some ⟨g4, 0, none⟩) (((l.take 400).set p b).length) cap1] 29) (fun B => .slice (some ⟨B, 0, none⟩) 1 1) (fun _ _ hρ _ => r_buildSlice (vs := [(0, .slice (some ⟨g4, 0, none⟩) (((l.take 400).set p b).length) cap1)]) (by kernel_rfl) (cons2 (pair2 (hρ _ _ rfl)) rfl)) rfl rfl rfl (w_n rfl) ?_
      intro B11
      refine TL_call (.int .u32 ((sumC 0#32 ((l.take 400).set p b)).toNat : Int)) (fun _ _ hρ _ => r_call (args := [.slice (some ⟨B11, 0, none⟩) 1 1]) (enters_of Try.func20 (by kernel_rfl) rfl) (hρ _ _ rfl) ((cons2 (hρ _ _ rfl) rfl)) rfl) (fun w hm => (sum_c [(⟨(some ⟨g4, 0, none⟩), cap1, ((l.take 400).set p b)⟩ : RowV)] (some ⟨B11, 0, none⟩) 1 w ⟨by simp, (fun e => by cases e), .inr ⟨_, 0, _, _, _, rfl, (hm.at 6 rfl), row_of_take (fun _ => rfl) rfl⟩⟩ (List.forall_mem_cons.2 ⟨(SliceAt.own byc_len (hm.row 1 rfl) rfl rfl), (fun _ h => nomatch h)⟩) (List.forall_mem_cons.2 ⟨(row_cap (hm.row 1 rfl)), (fun _ h => nomatch h)⟩) (by decide)).mono fun _ _ h => ⟨h.1.trans (congrArg (fun x : List By => Ending.returned (.int .u32 ((sumC 0#32 x).toNat : Int))) (by first | rfl | simp only [List.flatMap_cons, List.flatMap_nil, List.append_nil])), h.2⟩) rfl rfl rfl (w_n rfl) ?_
      refine TL_q (.int .u32 ((sumC 0#32 (l.take 400)).toNat : Int)) (fun _ _ hρ _ => r_move (hρ _ _ rfl)) rfl rfl rfl (w_n rfl) ?_
      refine TL_q (.bool true) (fun _ _ hρ _ => r_as (r_as (r_eql (hρ _ _ rfl) (hρ _ _ rfl)) (bool_as (bv_dec (sumC 0#32 ((l.take 400).set p b)) (sumC 0#32 (l.take 400))))) (bool_as (decide_eq_true hS))) rfl rfl rfl (w_n rfl) ?_
      refine TL_q (.int .u8 ((b).toNat : Int)) (fun _ _ hρ _ => r_move (hρ _ _ rfl)) rfl rfl rfl (w_n rfl) ?_
      refine TL_q (.int .u8 ((x).toNat : Int)) (fun _ _ hρ _ => r_move (hρ _ _ rfl)) rfl rfl rfl (w_n rfl) ?_
      refine TL_q (.bool true) (fun _ _ hρ _ => r_as (r_as (r_eql (hρ _ _ rfl) (hρ _ _ rfl)) (bool_as (bv_dec b x))) (bool_as (decide_eq_true hB))) rfl rfl rfl (w_n rfl) ?_
      refine TL_q (.bool true) (fun _ _ hρ _ => r_as (r_eqlB (by kernel_rfl) (hρ _ _ rfl) (hρ _ _ rfl)) (by rfl)) rfl rfl rfl (w_n rfl) ?_
      refine TL_q (.bool true) (fun _ _ hρ _ => r_assign (hρ _ _ rfl)) rfl rfl rfl (w_n rfl) ?_
      refine TL_seq ?_
      refine T_ret' ?_
      refine ret_of rfl (.bool true) (fun tmps w hk hm => res1 rfl (res_tmp (hk 6 _ rfl))) (fun w hm => ?_)
      exact ⟨rfl, hm.ext⟩
    · skip
      have hxe : (l.take 400)[p] = x := (List.getElem?_eq_some_iff.1 hx).2
      have hS : ¬ ((sumC 0#32 ((l.take 400).set p b)) = (sumC 0#32 (l.take 400))) := fun e => hB (((one_byte _ p hpl b).1 e).trans hxe)
      refine T_seq (T_region ?_)
      refine TL_q (.slice (some ⟨g4, 0, none⟩) (((l.take 400).set p b).length) cap1) (fun _ _ hρ _ => r_move (hρ _ _ rfl)) rfl rfl rfl (w_n rfl) ?_
      refine TL_new 7 (.cells #[.slice (some ⟨g4, 0, none⟩) (((l.take 400).set p b).length) cap1] 29) (fun B => .slice (some ⟨B, 0, none⟩) 1 1) (fun _ _ hρ _ => r_buildSlice (vs := [(0, .slice (some ⟨g4, 0, none⟩) (((l.take 400).set p b).length) cap1)]) (by kernel_rfl) (cons2 (pair2 (hρ _ _ rfl)) rfl)) rfl rfl rfl (w_n rfl) ?_
      intro B12
      refine TL_call (.int .u32 ((sumC 0#32 ((l.take 400).set p b)).toNat : Int)) (fun _ _ hρ _ => r_call (args := [.slice (some ⟨B12, 0, none⟩) 1 1]) (enters_of Try.func20 (by kernel_rfl) rfl) (hρ _ _ rfl) ((cons2 (hρ _ _ rfl) rfl)) rfl) (fun w hm => (sum_c [(⟨(some ⟨g4, 0, none⟩), cap1, ((l.take 400).set p b)⟩ : RowV)] (some ⟨B12, 0, none⟩) 1 w ⟨by simp, (fun e => by cases e), .inr ⟨_, 0, _, _, _, rfl, (hm.at 7 rfl), row_of_take (fun _ => rfl) rfl⟩⟩ (List.forall_mem_cons.2 ⟨(SliceAt.own byc_len (hm.row 1 rfl) rfl rfl), (fun _ h => nomatch h)⟩) (List.forall_mem_cons.2 ⟨(row_cap (hm.row 1 rfl)), (fun _ h => nomatch h)⟩) (by decide)).mono fun _ _ h => ⟨h.1.trans (congrArg (fun x : List By => Ending.returned (.int .u32 ((sumC 0#32 x).toNat : Int))) (by first | rfl | simp only [List.flatMap_cons, List.flatMap_nil, List.append_nil])), h.2⟩) rfl rfl rfl (w_n rfl) ?_
      refine TL_q (.int .u32 ((sumC 0#32 (l.take 400)).toNat : Int)) (fun _ _ hρ _ => r_move (hρ _ _ rfl)) rfl rfl rfl (w_n rfl) ?_
      refine TL_q (.bool false) (fun _ _ hρ _ => r_as (r_as (r_eql (hρ _ _ rfl) (hρ _ _ rfl)) (bool_as (bv_dec (sumC 0#32 ((l.take 400).set p b)) (sumC 0#32 (l.take 400))))) (bool_as (decide_eq_false hS))) rfl rfl rfl (w_n rfl) ?_
      refine TL_q (.int .u8 ((b).toNat : Int)) (fun _ _ hρ _ => r_move (hρ _ _ rfl)) rfl rfl rfl (w_n rfl) ?_
      refine TL_q (.int .u8 ((x).toNat : Int)) (fun _ _ hρ _ => r_move (hρ _ _ rfl)) rfl rfl rfl (w_n rfl) ?_
      refine TL_q (.bool false) (fun _ _ hρ _ => r_as (r_as (r_eql (hρ _ _ rfl) (hρ _ _ rfl)) (bool_as (bv_dec b x))) (bool_as (decide_eq_false hB))) rfl rfl rfl (w_n rfl) ?_
      refine TL_q (.bool true) (fun _ _ hρ _ => r_as (r_eqlB (by kernel_rfl) (hρ _ _ rfl) (hρ _ _ rfl)) (by rfl)) rfl rfl rfl (w_n rfl) ?_
      refine TL_q (.bool true) (fun _ _ hρ _ => r_assign (hρ _ _ rfl)) rfl rfl rfl (w_n rfl) ?_
      refine TL_seq ?_
      refine T_ret' ?_
      refine ret_of rfl (.bool true) (fun tmps w hk hm => res1 rfl (res_tmp (hk 6 _ rfl))) (fun w hm => ?_)
      exact ⟨rfl, hm.ext⟩

theorem bursts_any (l : List By) (a : Option Addr) (cap : Nat) (pz : Int) (mask : Wd) (w : World) (hv : SliceAt w a cap 1 byc l) (hcap : cap ≤ Go.maxLen) : Calls Try.prog 5 #[.slice a l.length cap, .int .i64 pz, .int .u32 (mask.toNat : Int)] w fun e w' => e = .returned (.bool true) ∧ Below w.heap.size w w' := by
  have hvl := hv.1
  unfold Go.maxLen at hcap
  have hlf : (l.take 400).length ≤ 400 := by rw [List.length_take]; omega
  have hql : (sealP (l.take 400)).length = (l.take 400).length + 4 := by unfold sealP; rw [List.length_append]; rfl
  refine calls_of_T (l := [.slice a l.length cap, .int .i64 pz, .int .u32 ((mask).toNat : Int)]) 106 Try.func5 rfl rfl rfl ?_
  show T _ _ _ [(0, .slice a l.length cap), (1, .int .i64 pz), (2, .int .u32 ((mask).toNat : Int))] []
  refine T_seq (T_region ?_)
  refine TL_q (.bool false) (fun _ _ hρ _ => r_assign (hρ _ _ rfl)) rfl rfl rfl (w_n rfl) ?_
  refine TL_seq ?_
  refine T_seq ?_
  refine T_seq (T_region ?_)
  refine TL_call (.bool true) (fun _ _ hρ _ => r_call (args := []) (enters_of Try.func9 (by kernel_rfl) rfl) (hρ _ _ rfl) (by rfl) rfl) (fun w _ => wakes_any w) rfl rfl rfl (w_n rfl) ?_
  refine TL_q (.bool false) (fun _ _ hρ _ => r_not (b := true) (hρ _ _ rfl)) rfl rfl rfl (w_n rfl) ?_
  refine TL_seq ?_
  refine T_cond_f rfl ?_
  refine T_skip' ?_
  refine p_seq ?_
  refine T_seq (T_region ?_)
  refine TL_q (.slice a l.length cap) (fun _ _ hρ _ => r_move (hρ _ _ rfl)) rfl rfl rfl (w_n rfl) ?_
  refine TL_callN (fun (_ : Option Addr × Nat) => True) (fun (a1, cap1) => .slice a1 ((l.take 400).length) cap1) (fun (a1, cap1) => [(1, .row (.slice a1 ((l.take 400).length) cap1) 5 1 ((l.take 400).length) ((l.take 400).flatMap byc))]) (fun _ _ hρ _ => r_call (args := [.slice a l.length cap]) (enters_of Try.func13 (by kernel_rfl) rfl) (hρ _ _ rfl) ((cons2 (hρ _ _ rfl) rfl)) rfl) (fun w hm => (few_c l a cap w (hv.keep hm.ext) hcap).mono fun e w' ⟨a', cap', he, hb, hr⟩ => ⟨(a', cap'), trivial, he, hb, newOk1 1 hr⟩) rfl rfl rfl (w_n rfl) ?_
  rintro ⟨a1, cap1⟩ -
  refine TL_callN (fun (_ : Option Addr × Nat) => True) (fun (a2, cap2) => .slice a2 ((sealP (l.take 400)).length) cap2) (fun (a2, cap2) => [(2, .row (.slice a2 ((sealP (l.take 400)).length) cap2) 5 1 ((sealP (l.take 400)).length) ((sealP (l.take 400)).flatMap byc))]) (fun _ _ hρ _ => r_call (args := [.slice a1 ((l.take 400).length) cap1]) (enters_of Try.func14 (by kernel_rfl) rfl) (hρ _ _ rfl) ((cons2 (hρ _ _ rfl) rfl)) rfl) (fun w hm => (seal_c (l.take 400) a1 cap1 w (SliceAt.own byc_len (hm.row 1 rfl) rfl rfl) (by omega) (row_cap (hm.row 1 rfl))).mono fun e w' ⟨a', cap', he, hb, hr⟩ => ⟨(a', cap'), trivial, he, hb, newOk1 2 hr⟩) rfl rfl rfl (w_n rfl) ?_
  rintro ⟨a2, cap2⟩ -
  refine TL_q (.slice a2 ((sealP (l.take 400)).length) cap2) (fun _ _ hρ _ => r_assign (hρ _ _ rfl)) rfl rfl rfl (w_n rfl) ?_
  refine TL_seq ?_
  obtain ⟨u, hu⟩ : ∃ u : Nat, (u : Int) = IntKind.u64.wrap pz := ⟨_, Int.toNat_of_nonneg (wrapu_nn pz)⟩
  obtain ⟨p, hp⟩ : ∃ p, p = u % (8 * (sealP (l.take 400)).length) := ⟨_, rfl⟩
  have hpl : p < 8 * (sealP (l.take 400)).length := by rw [hp]; exact Nat.mod_lt _ (by omega)
  refine T_seq (T_region ?_)
  refine TL_q (.int .i64 pz) (fun _ _ hρ _ => r_move (hρ _ _ rfl)) rfl rfl rfl (w_n rfl) ?_
  refine TL_q (.int .u64 ((u : Nat) : Int)) (fun _ _ hρ _ => r_as (r_conv un3 io41 (hρ _ _ rfl)) (int_as hu.symm)) rfl rfl rfl (w_n rfl) ?_
  refine TL_q (.slice a2 ((sealP (l.take 400)).length) cap2) (fun _ _ hρ _ => r_move (hρ _ _ rfl)) rfl rfl rfl (w_n rfl) ?_
  refine TL_q (.int .i64 (((sealP (l.take 400)).length : Nat) : Int)) (fun _ _ hρ _ => r_len sl29 (hρ _ _ rfl)) rfl rfl rfl (w_n rfl) ?_
  refine TL_q (.int .i64 ((8 * ((sealP (l.take 400)).length) : Nat) : Int)) (fun _ _ hρ _ => r_as (r_mul (hρ _ _ rfl) (hρ _ _ rfl)) (int_as ((wrap64 (by omega) (by omega)).trans (by omega)))) rfl rfl rfl (w_n rfl) ?_
  refine TL_q (.int .u64 ((8 * (sealP (l.take 400)).length : Nat) : Int)) (fun _ _ hρ _ => r_as (r_conv un3 io41 (hρ _ _ rfl)) (int_as (wrap_u64 (by omega) (by omega)))) rfl rfl rfl (w_n rfl) ?_
  refine TL_q (.int .u64 ((u % (8 * (sealP (l.take 400)).length) : Nat) : Int)) (fun _ _ hρ _ => r_as (r_rem (hρ _ _ rfl) (hρ _ _ rfl) (by omega)) (int_as ((Int.tmod_eq_emod_of_nonneg (by omega)).trans (Int.natCast_emod _ _).symm))) rfl rfl rfl (w_n rfl) ?_
  refine TL_q (.int .i64 ((p : Nat) : Int)) (fun _ _ hρ _ => r_as (r_conv un41 io3 (hρ _ _ rfl)) (int_as (hp ▸ wrap64 (by omega) (by omega)))) rfl rfl rfl (w_n rfl) ?_
  refine TL_q (.int .i64 ((p : Nat) : Int)) (fun _ _ hρ _ => r_assign (hρ _ _ rfl)) rfl rfl rfl (w_n rfl) ?_
  refine TL_seq ?_
  by_cases hS : spoilP (sealP (l.take 400)) p mask = none
  · skip
    have hor := spoil_none hpl hS
    refine T_seq (T_region ?_)
    refine TL_q (.slice a2 ((sealP (l.take 400)).length) cap2) (fun _ _ hρ _ => r_move (hρ _ _ rfl)) rfl rfl rfl (w_n rfl) ?_
    refine TL_q (.int .i64 ((p : Nat) : Int)) (fun _ _ hρ _ => r_move (hρ _ _ rfl)) rfl rfl rfl (w_n rfl) ?_
    refine TL_q (.int .u32 ((mask).toNat : Int)) (fun _ _ hρ _ => r_move (hρ _ _ rfl)) rfl rfl rfl (w_n rfl) ?_
    refine TL_callN (fun (_ : Option Addr × Nat) => True) (fun (a3, cap3) => .tuple #[.slice a3 0 cap3, .int .i64 2]) (fun (a3, cap3) => [(3, .row (.slice a3 0 cap3) 5 1 0 [])]) (fun _ _ hρ _ => r_call (args := [.slice a2 ((sealP (l.take 400)).length) cap2, .int .i64 ((p : Nat) : Int), .int .u32 ((mask).toNat : Int)]) (enters_of Try.func18 (by kernel_rfl) rfl) (hρ _ _ rfl) ((cons2 (hρ _ _ rfl) (cons2 (hρ _ _ rfl) (cons2 (hρ _ _ rfl) rfl)))) rfl) (fun w hm => (by have hb := spoil_in p mask (sealP (l.take 400)) a2 cap2 w (SliceAt.own byc_len (hm.row 2 rfl) rfl rfl) (by omega) (row_cap (hm.row 2 rfl)) (by omega); rw [hS] at hb; exact hb.mono fun e w' ⟨a', cap', he, hb, hr⟩ => ⟨(a', cap'), trivial, he, hb, newOk1 3 hr⟩)) rfl rfl rfl (w_n rfl) ?_
    rintro ⟨a3, cap3⟩ -
    refine TL_q (.tuple #[.slice a3 0 cap3, .int .i64 2]) (fun _ _ hρ _ => r_move (hρ _ _ rfl)) rfl rfl rfl (w_n rfl) ?_
    refine TL_q (.slice a3 0 cap3) (fun _ _ hρ _ => r_extract (hρ _ _ rfl) rfl) rfl rfl rfl (w_n rfl) ?_
    refine TL_q (.int .i64 2) (fun _ _ hρ _ => r_extract (hρ _ _ rfl) rfl) rfl rfl rfl (w_n rfl) ?_
    refine TL_q (.slice a3 0 cap3) (fun _ _ hρ _ => r_assign (hρ _ _ rfl)) rfl rfl rfl (w_n rfl) ?_
    refine TL_q (.int .i64 2) (fun _ _ hρ _ => r_assign (hρ _ _ rfl)) rfl rfl rfl (w_n rfl) ?_
    refine TL_seq ?_
    refine T_seq ?_
    refine T_seq (T_region ?_)
    refine TL_q (.int .i64 2) (fun _ _ hρ _ => r_move (hρ _ _ rfl)) rfl rfl rfl (w_n rfl) ?_
    refine TL_q (.bool true) (fun _ _ hρ _ => r_as (r_neq (hρ _ _ rfl) (hρ _ _ rfl)) (by rfl)) rfl rfl rfl (w_n rfl) ?_
    refine TL_seq ?_
    refine T_cond_t rfl ?_
    by_cases hm0 : mask = (0#32)
    · skip
      refine T_seq (T_region ?_)
      refine TL_q (.int .i64 2) (fun _ _ hρ _ => r_move (hρ _ _ rfl)) rfl rfl rfl (w_n rfl) ?_
      refine TL_q (.bool true) (fun _ _ hρ _ => r_as (r_eql (hρ _ _ rfl) (hρ _ _ rfl)) (by rfl)) rfl rfl rfl (w_n rfl) ?_
      refine TL_q (.bool true) (fun _ _ hρ _ => r_move (hρ _ _ rfl)) rfl rfl rfl (w_n rfl) ?_
      refine TL_q (.slice a3 0 cap3) (fun _ _ hρ _ => r_move (hρ _ _ rfl)) rfl rfl rfl (want_y 40 rfl rfl rfl) ?_
      refine TL_q (.int .i64 0) (fun _ _ hρ _ => r_len sl29 (hρ _ _ rfl)) rfl rfl rfl (want_y 40 rfl rfl rfl) ?_
      refine TL_q (.bool true) (fun _ _ hρ _ => r_as (r_eql (hρ _ _ rfl) (hρ _ _ rfl)) (by rfl)) rfl rfl rfl (want_y 40 rfl rfl rfl) ?_
      refine TL_q (.bool true) (fun _ _ hρ _ => r_pick_t (hρ _ _ rfl) (hρ _ _ rfl)) rfl rfl rfl (w_n rfl) ?_
      refine TL_q (.bool true) (fun _ _ hρ _ => r_move (hρ _ _ rfl)) rfl rfl rfl (w_n rfl) ?_
      refine TL_q (.int .u32 ((mask).toNat : Int)) (fun _ _ hρ _ => r_move (hρ _ _ rfl)) rfl rfl rfl (want_y 45 rfl rfl rfl) ?_
      refine TL_q (.bool true) (fun _ _ hρ _ => r_as (r_as (r_eql (hρ _ _ rfl) (hρ _ _ rfl)) (bool_as (bv_dec mask (0#32)))) (bool_as (decide_eq_true hm0))) rfl rfl rfl (want_y 45 rfl rfl rfl) ?_
      refine TL_q (.bool true) (fun _ _ hρ _ => r_move (hρ _ _ rfl)) rfl rfl rfl (want_y 45 rfl rfl rfl) ?_
      refine TL_no rfl rfl (want_n 48 rfl rfl rfl) ?_
      refine TL_no rfl rfl (want_n 48 rfl rfl rfl) ?_
      refine TL_no rfl rfl (want_n 48 rfl rfl rfl) ?_
      refine TL_no rfl rfl (want_n 48 rfl rfl rfl) ?_
      refine TL_no rfl rfl (want_n 48 rfl rfl rfl) ?_
      refine TL_no rfl rfl (want_n 48 rfl rfl rfl) ?_
      refine TL_q (.bool true) (fun _ _ hρ _ => r_pick_t (hρ _ _ rfl) (hρ _ _ rfl)) rfl rfl rfl (want_y 45 rfl rfl rfl) ?_
      refine TL_q (.bool true) (fun _ _ hρ _ => r_pick_t (hρ _ _ rfl) (hρ _ _ rfl)) rfl rfl rfl (w_n rfl) ?_
      refine TL_q (.bool true) (fun _ _ hρ _ => r_assign (hρ _ _ rfl)) rfl rfl rfl (w_n rfl) ?_
      refine TL_seq ?_
      refine T_sub [(0, .slice a l.length cap), (2, .int .u32 ((mask).toNat : Int)), (7, .slice a2 ((sealP (l.take 400)).length) cap2), (1, .int .i64 ((p : Nat) : Int)), (8, .slice a3 0 cap3), (6, .bool true)] [(3, .row (.slice a3 0 cap3) 5 1 0 []), (2, .row (.slice a2 ((sealP (l.take 400)).length) cap2) 5 1 ((sealP (l.take 400)).length) ((sealP (l.take 400)).flatMap byc)), (1, .row (.slice a1 ((l.take 400).length) cap1) 5 1 ((l.take 400).length) ((l.take 400).flatMap byc))] (sub_cons rfl (sub_cons rfl (sub_cons rfl (sub_cons rfl (sub_cons rfl (sub_cons rfl sub_nil)))))) (sub_cons rfl (sub_cons rfl (sub_cons rfl sub_nil))) ?_
      refine T_ret' ?_
      refine p_then_r ?_
      refine ret_of rfl (.bool true) (fun tmps w hk hm => res1 rfl (res_tmp (hk 6 _ rfl))) (fun w hm => ?_)
      exact ⟨rfl, hm.ext⟩
    · skip
      have hgt : ((8 * ((sealP (l.take 400)).length) : Nat) : Int) < ((p + 32 : Nat) : Int) := by have h := hor.resolve_left hm0; omega
      refine T_seq (T_region ?_)
      refine TL_q (.int .i64 2) (fun _ _ hρ _ => r_move (hρ _ _ rfl)) rfl rfl rfl (w_n rfl) ?_
      refine TL_q (.bool true) (fun _ _ hρ _ => r_as (r_eql (hρ _ _ rfl) (hρ _ _ rfl)) (by rfl)) rfl rfl rfl (w_n rfl) ?_
      refine TL_q (.bool true) (fun _ _ hρ _ => r_move (hρ _ _ rfl)) rfl rfl rfl (w_n rfl) ?_
      refine TL_q (.slice a3 0 cap3) (fun _ _ hρ _ => r_move (hρ _ _ rfl)) rfl rfl rfl (want_y 40 rfl rfl rfl) ?_
      refine TL_q (.int .i64 0) (fun _ _ hρ _ => r_len sl29 (hρ _ _ rfl)) rfl rfl rfl (want_y 40 rfl rfl rfl) ?_
      refine TL_q (.bool true) (fun _ _ hρ _ => r_as (r_eql (hρ _ _ rfl) (hρ _ _ rfl)) (by rfl)) rfl rfl rfl (want_y 40 rfl rfl rfl) ?_
      refine TL_q (.bool true) (fun _ _ hρ _ => r_pick_t (hρ _ _ rfl) (hρ _ _ rfl)) rfl rfl rfl (w_n rfl) ?_
      refine TL_q (.bool true) (fun _ _ hρ _ => r_move (hρ _ _ rfl)) rfl rfl rfl (w_n rfl) ?_
      refine TL_q (.int .u32 ((mask).toNat : Int)) (fun _ _ hρ _ => r_move (hρ _ _ rfl)) rfl rfl rfl (want_y 45 rfl rfl rfl) ?_
      refine TL_q (.bool false) (fun _ _ hρ _ => r_as (r_as (r_eql (hρ _ _ rfl) (hρ _ _ rfl)) (bool_as (bv_dec mask (0#32)))) (bool_as (decide_eq_false hm0))) rfl rfl rfl (want_y 45 rfl rfl rfl) ?_
      refine TL_q (.bool false) (fun _ _ hρ _ => r_move (hρ _ _ rfl)) rfl rfl rfl (want_y 45 rfl rfl rfl) ?_
      refine TL_q (.int .i64 ((p : Nat) : Int)) (fun _ _ hρ _ => r_move (hρ _ _ rfl)) rfl rfl rfl (want_y 48 rfl rfl rfl) ?_
      refine TL_q (.int .i64 ((p + 32 : Nat) : Int)) (fun _ _ hρ _ => r_as (r_add (hρ _ _ rfl) (hρ _ _ rfl)) (int_as ((wrap64 (by omega) (by omega)).trans (by omega)))) rfl rfl rfl (want_y 48 rfl rfl rfl) ?_
      refine TL_q (.slice a2 ((sealP (l.take 400)).length) cap2) (fun _ _ hρ _ => r_move (hρ _ _ rfl)) rfl rfl rfl (want_y 48 rfl rfl rfl) ?_
      refine TL_q (.int .i64 (((sealP (l.take 400)).length : Nat) : Int)) (fun _ _ hρ _ => r_len sl29 (hρ _ _ rfl)) rfl rfl rfl (want_y 48 rfl rfl rfl) ?_
      refine TL_q (.int .i64 ((8 * ((sealP (l.take 400)).length) : Nat) : Int)) (fun _ _ hρ _ => r_as (r_mul (hρ _ _ rfl) (hρ _ _ rfl)) (int_as ((wrap64 (by omega) (by omega)).trans (by omega)))) rfl rfl rfl (want_y 48 rfl rfl rfl) ?_
      refine TL_q (.bool true) (fun _ _ hρ _ => r_as (r_gtr (hρ _ _ rfl) (hρ _ _ rfl)) (bool_as (decide_eq_true hgt))) rfl rfl rfl (want_y 48 rfl rfl rfl) ?_
      refine TL_q (.bool true) (fun _ _ hρ _ => r_pick_f (hρ _ _ rfl) (hρ _ _ rfl)) rfl rfl rfl (want_y 45 rfl rfl rfl) ?_
      refine TL_q (.bool true) (fun _ _ hρ _ => r_pick_t (hρ _ _ rfl) (hρ _ _ rfl)) rfl rfl rfl (w_n rfl) ?_
      refine TL_q (.bool true) (fun _ _ hρ _ => r_assign (hρ _ _ rfl)) rfl rfl rfl (w_n rfl) ?_
      refine TL_seq ?_
      refine T_sub [(0, .slice a l.length cap), (2, .int .u32 ((mask).toNat : Int)), (7, .slice a2 ((sealP (l.take 400)).length) cap2), (1, .int .i64 ((p : Nat) : Int)), (8, .slice a3 0 cap3), (6, .bool true)] [(3, .row (.slice a3 0 cap3) 5 1 0 []), (2, .row (.slice a2 ((sealP (l.take 400)).length) cap2) 5 1 ((sealP (l.take 400)).length) ((sealP (l.take 400)).flatMap byc)), (1, .row (.slice a1 ((l.take 400).length) cap1) 5 1 ((l.take 400).length) ((l.take 400).flatMap byc))] (sub_cons rfl (sub_cons rfl (sub_cons rfl (sub_cons rfl (sub_cons rfl (sub_cons rfl sub_nil)))))) (sub_cons rfl (sub_cons rfl (sub_cons rfl sub_nil))) ?_
      refine T_ret' ?_
      refine p_then_r ?_
      refine ret_of rfl (.bool true) (fun tmps w hk hm => res1 rfl (res_tmp (hk 6 _ rfl))) (fun w hm => ?_)
      exact ⟨rfl, hm.ext⟩
  · skip
    obtain ⟨n, hn⟩ : ∃ n, spoilP (sealP (l.take 400)) p mask = some n := Option.ne_none_iff_exists'.1 hS
    have hnl : n.length = (sealP (l.take 400)).length := by rw [(spoil_some hn).2.2]; exact spoilN_len _ _ _ _
    have hbl := burst_law _ hn
    have hnone := hbl.1
    refine T_seq (T_region ?_)
    refine TL_q (.slice a2 ((sealP (l.take 400)).length) cap2) (fun _ _ hρ _ => r_move (hρ _ _ rfl)) rfl rfl rfl (w_n rfl) ?_
    refine TL_q (.int .i64 ((p : Nat) : Int)) (fun _ _ hρ _ => r_move (hρ _ _ rfl)) rfl rfl rfl (w_n rfl) ?_
    refine TL_q (.int .u32 ((mask).toNat : Int)) (fun _ _ hρ _ => r_move (hρ _ _ rfl)) rfl rfl rfl (w_n rfl) ?_
    refine TL_callN (fun (_ : Option Addr × Nat) => True) (fun (a4, cap4) => .tuple #[.slice a4 n.length cap4, .int .i64 0]) (fun (a4, cap4) => [(4, .row (.slice a4 n.length cap4) 5 1 n.length (n.flatMap byc))]) (fun _ _ hρ _ => r_call (args := [.slice a2 ((sealP (l.take 400)).length) cap2, .int .i64 ((p : Nat) : Int), .int .u32 ((mask).toNat : Int)]) (enters_of Try.func18 (by kernel_rfl) rfl) (hρ _ _ rfl) ((cons2 (hρ _ _ rfl) (cons2 (hρ _ _ rfl) (cons2 (hρ _ _ rfl) rfl)))) rfl) (fun w hm => (by have hb := spoil_in p mask (sealP (l.take 400)) a2 cap2 w (SliceAt.own byc_len (hm.row 2 rfl) rfl rfl) (by omega) (row_cap (hm.row 2 rfl)) (by omega); rw [hn] at hb; exact hb.mono fun e w' ⟨a', cap', he, hb, hr⟩ => ⟨(a', cap'), trivial, he, hb, newOk1 4 hr⟩)) rfl rfl rfl (w_n rfl) ?_
    rintro ⟨a4, cap4⟩ -
    refine TL_q (.tuple #[.slice a4 n.length cap4, .int .i64 0]) (fun _ _ hρ _ => r_move (hρ _ _ rfl)) rfl rfl rfl (w_n rfl) ?_
    refine TL_q (.slice a4 n.length cap4) (fun _ _ hρ _ => r_extract (hρ _ _ rfl) rfl) rfl rfl rfl (w_n rfl) ?_
    refine TL_q (.int .i64 0) (fun _ _ hρ _ => r_extract (hρ _ _ rfl) rfl) rfl rfl rfl (w_n rfl) ?_
    refine TL_q (.slice a4 n.length cap4) (fun _ _ hρ _ => r_assign (hρ _ _ rfl)) rfl rfl rfl (w_n rfl) ?_
    refine TL_q (.int .i64 0) (fun _ _ hρ _ => r_assign (hρ _ _ rfl)) rfl rfl rfl (w_n rfl) ?_
    refine TL_seq ?_
    refine T_seq ?_
    refine T_seq (T_region ?_)
    refine TL_q (.int .i64 0) (fun _ _ hρ _ => r_move (hρ _ _ rfl)) rfl rfl rfl (w_n rfl) ?_
    refine TL_q (.bool false) (fun _ _ hρ _ => r_as (r_neq (hρ _ _ rfl) (hρ _ _ rfl)) (by rfl)) rfl rfl rfl (w_n rfl) ?_
    refine TL_seq ?_
    refine T_cond_f rfl ?_
    refine T_skip' ?_
    refine p_seq ?_
    refine T_seq (T_region ?_)
    refine TL_q (.slice a4 n.length cap4) (fun _ _ hρ _ => r_move (hρ _ _ rfl)) rfl rfl rfl (w_n rfl) ?_
    refine TL_callN (fun (_ : Option Addr × Nat) => True) (fun (a5, cap5) => .tuple #[.slice a5 0 cap5, .int .i64 120]) (fun (a5, cap5) => [(5, .row (.slice a5 0 cap5) 5 1 0 [])]) (fun _ _ hρ _ => r_call (args := [.slice a4 n.length cap4]) (enters_of Try.func16 (by kernel_rfl) rfl) (hρ _ _ rfl) ((cons2 (hρ _ _ rfl) rfl)) rfl) (fun w hm => (by have hb := open_c n a4 cap4 w (SliceAt.own byc_len (hm.row 4 rfl) rfl rfl) (by omega) (row_cap (hm.row 4 rfl)); rw [show openL n = [] from by unfold openL; rw [hnone]; rfl, show openE n = 120 from by unfold openE; rw [hnone]] at hb; exact hb.mono fun e w' ⟨a', cap', he, hb, hr⟩ => ⟨(a', cap'), trivial, he, hb, newOk1 5 hr⟩)) rfl rfl rfl (w_n rfl) ?_
    rintro ⟨a5, cap5⟩ -
    refine TL_q (.tuple #[.slice a5 0 cap5, .int .i64 120]) (fun _ _ hρ _ => r_move (hρ _ _ rfl)) rfl rfl rfl (w_n rfl) ?_
    refine TL_q (.slice a5 0 cap5) (fun _ _ hρ _ => r_extract (hρ _ _ rfl) rfl) rfl rfl rfl (w_n rfl) ?_
    refine TL_q (.int .i64 120) (fun _ _ hρ _ => r_extract (hρ _ _ rfl) rfl) rfl rfl rfl (w_n rfl) ?_
    refine TL_q (.slice a5 0 cap5) (fun _ _ hρ _ => r_assign (hρ _ _ rfl)) rfl rfl rfl (w_n rfl) ?_
    refine TL_q (.int .i64 120) (fun _ _ hρ _ => r_assign (hρ _ _ rfl)) rfl rfl rfl (w_n rfl) ?_
    refine TL_seq ?_
    refine T_sub [(0, .slice a l.length cap), (2, .int .u32 ((mask).toNat : Int)), (6, .bool false), (7, .slice a2 ((sealP (l.take 400)).length) cap2), (1, .int .i64 ((p : Nat) : Int)), (8, .slice a4 n.length cap4), (10, .slice a5 0 cap5), (11, .int .i64 120)] [(5, .row (.slice a5 0 cap5) 5 1 0 []), (4, .row (.slice a4 n.length cap4) 5 1 n.length (n.flatMap byc)), (2, .row (.slice a2 ((sealP (l.take 400)).length) cap2) 5 1 ((sealP (l.take 400)).length) ((sealP (l.take 400)).flatMap byc)), (1, .row (.slice a1 ((l.take 400).length) cap1) 5 1 ((l.take 400).length) ((l.take 400).flatMap byc))] (sub_cons rfl (sub_cons rfl (sub_cons rfl (sub_cons rfl (sub_cons rfl (sub_cons rfl (sub_cons rfl (sub_cons rfl sub_nil)))))))) (sub_cons rfl (sub_cons rfl (sub_cons rfl (sub_cons rfl sub_nil)))) ?_
    refine T_seq (T_region ?_)
    refine TL_q (.slice a4 n.length cap4) (fun _ _ hρ _ => r_move (hρ _ _ rfl)) rfl rfl rfl (w_n rfl) ?_
    refine TL_q (.int .i64 ((p : Nat) : Int)) (fun _ _ hρ _ => r_move (hρ _ _ rfl)) rfl rfl rfl (w_n rfl) ?_
    refine TL_q (.int .u32 ((mask).toNat : Int)) (fun _ _ hρ _ => r_move (hρ _ _ rfl)) rfl rfl rfl (w_n rfl) ?_
    refine TL_callN (fun (_ : Option Addr × Nat) => True) (fun (a6, cap6) => .tuple #[.slice a6 ((sealP (l.take 400)).length) cap6, .int .i64 0]) (fun (a6, cap6) => [(6, .row (.slice a6 ((sealP (l.take 400)).length) cap6) 5 1 ((sealP (l.take 400)).length) ((sealP (l.take 400)).flatMap byc))]) (fun _ _ hρ _ => r_call (args := [.slice a4 n.length cap4, .int .i64 ((p : Nat) : Int), .int .u32 ((mask).toNat : Int)]) (enters_of Try.func18 (by kernel_rfl) rfl) (hρ _ _ rfl) ((cons2 (hρ _ _ rfl) (cons2 (hρ _ _ rfl) (cons2 (hρ _ _ rfl) rfl)))) rfl) (fun w hm => (by have hb := spoil_in p mask n a4 cap4 w (SliceAt.own byc_len (hm.row 4 rfl) rfl rfl) (by omega) (row_cap (hm.row 4 rfl)) (by omega); rw [(spoil_back hn)] at hb; exact hb.mono fun e w' ⟨a', cap', he, hb, hr⟩ => ⟨(a', cap'), trivial, he, hb, newOk1 6 hr⟩)) rfl rfl rfl (w_n rfl) ?_
    rintro ⟨a6, cap6⟩ -
    refine TL_q (.tuple #[.slice a6 ((sealP (l.take 400)).length) cap6, .int .i64 0]) (fun _ _ hρ _ => r_move (hρ _ _ rfl)) rfl rfl rfl (w_n rfl) ?_
    refine TL_q (.slice a6 ((sealP (l.take 400)).length) cap6) (fun _ _ hρ _ => r_extract (hρ _ _ rfl) rfl) rfl rfl rfl (w_n rfl) ?_
    refine TL_q (.int .i64 0) (fun _ _ hρ _ => r_extract (hρ _ _ rfl) rfl) rfl rfl rfl (w_n rfl) ?_
    refine TL_q (.slice a6 ((sealP (l.take 400)).length) cap6) (fun _ _ hρ _ => r_assign (hρ _ _ rfl)) rfl rfl rfl (w_n rfl) ?_
    refine TL_q (.int .i64 0) (fun _ _ hρ _ => r_assign (hρ _ _ rfl)) rfl rfl rfl (w_n rfl) ?_
    refine TL_seq ?_
    refine T_seq (T_region ?_)
    refine TL_q (.slice a6 ((sealP (l.take 400)).length) cap6) (fun _ _ hρ _ => r_move (hρ _ _ rfl)) rfl rfl rfl (w_n rfl) ?_
    refine TL_callN (fun (_ : Option Addr × Nat) => True) (fun (a7, cap7) => .tuple #[.slice a7 ((l.take 400).length) cap7, .int .i64 0]) (fun (a7, cap7) => [(7, .row (.slice a7 ((l.take 400).length) cap7) 5 1 ((l.take 400).length) ((l.take 400).flatMap byc))]) (fun _ _ hρ _ => r_call (args := [.slice a6 ((sealP (l.take 400)).length) cap6]) (enters_of Try.func16 (by kernel_rfl) rfl) (hρ _ _ rfl) ((cons2 (hρ _ _ rfl) rfl)) rfl) (fun w hm => (by have hb := open_c (sealP (l.take 400)) a6 cap6 w (SliceAt.own byc_len (hm.row 6 rfl) rfl rfl) (by omega) (row_cap (hm.row 6 rfl)); rw [show openL (sealP (l.take 400)) = l.take 400 from by unfold openL; rw [open_seal]; rfl, show openE (sealP (l.take 400)) = 0 from by unfold openE; rw [open_seal]] at hb; exact hb.mono fun e w' ⟨a', cap', he, hb, hr⟩ => ⟨(a', cap'), trivial, he, hb, newOk1 7 hr⟩)) rfl rfl rfl (w_n rfl) ?_
    rintro ⟨a7, cap7⟩ -
    refine TL_q (.tuple #[.slice a7 ((l.take 400).length) cap7, .int .i64 0]) (fun _ _ hρ _ => r_move (hρ _ _ rfl)) rfl rfl rfl (w_n rfl) ?_
    refine TL_q (.slice a7 ((l.take 400).length) cap7) (fun _ _ hρ _ => r_extract (hρ _ _ rfl) rfl) rfl rfl rfl (w_n rfl) ?_
    refine TL_q (.int .i64 0) (fun _ _ hρ _ => r_extract (hρ _ _ rfl) rfl) rfl rfl rfl (w_n rfl) ?_
    refine TL_q (.slice a7 ((l.take 400).length) cap7) (fun _ _ hρ _ => r_assign (hρ _ _ rfl)) rfl rfl rfl (w_n rfl) ?_
    refine TL_q (.int .i64 0) (fun _ _ hρ _ => r_assign (hρ _ _ rfl)) rfl rfl rfl (w_n rfl) ?_
    refine TL_seq ?_
    refine T_seq (T_region ?_)
    refine TL_q (.int .i64 120) (fun _ _ hρ _ => r_move (hρ _ _ rfl)) rfl rfl rfl (w_n rfl) ?_
    refine TL_q (.bool true) (fun _ _ hρ _ => r_as (r_eql (hρ _ _ rfl) (hρ _ _ rfl)) (by rfl)) rfl rfl rfl (w_n rfl) ?_
    refine TL_q (.bool true) (fun _ _ hρ _ => r_move (hρ _ _ rfl)) rfl rfl rfl (w_n rfl) ?_
    refine TL_q (.slice a5 0 cap5) (fun _ _ hρ _ => r_move (hρ _ _ rfl)) rfl rfl rfl (want_y 76 rfl rfl rfl) ?_
    refine TL_q (.int .i64 0) (fun _ _ hρ _ => r_len sl29 (hρ _ _ rfl)) rfl rfl rfl (want_y 76 rfl rfl rfl) ?_
    refine TL_q (.bool true) (fun _ _ hρ _ => r_as (r_eql (hρ _ _ rfl) (hρ _ _ rfl)) (by rfl)) rfl rfl rfl (want_y 76 rfl rfl rfl) ?_
    refine TL_q (.bool true) (fun _ _ hρ _ => r_pick_t (hρ _ _ rfl) (hρ _ _ rfl)) rfl rfl rfl (w_n rfl) ?_
    refine TL_q (.bool true) (fun _ _ hρ _ => r_move (hρ _ _ rfl)) rfl rfl rfl (w_n rfl) ?_
    refine TL_q (.slice a4 n.length cap4) (fun _ _ hρ _ => r_move (hρ _ _ rfl)) rfl rfl rfl (want_y 81 rfl rfl rfl) ?_
    refine TL_q (.slice a2 ((sealP (l.take 400)).length) cap2) (fun _ _ hρ _ => r_move (hρ _ _ rfl)) rfl rfl rfl (want_y 81 rfl rfl rfl) ?_
    refine TL_call (.bool false) (fun _ _ hρ _ => r_call (args := [.slice a4 n.length cap4, .slice a2 ((sealP (l.take 400)).length) cap2]) (enters_of Try.func11 (by kernel_rfl) rfl) (hρ _ _ rfl) ((cons2 (hρ _ _ rfl) (cons2 (hρ _ _ rfl) rfl))) rfl) (fun w hm => (equal_b n (sealP (l.take 400)) a4 a2 cap4 cap2 w (SliceAt.own byc_len (hm.row 4 rfl) rfl rfl) (SliceAt.own byc_len (hm.row 2 rfl) rfl rfl) (by omega) (by omega)).mono fun _ _ h => ⟨h.1.trans (congrArg Ending.returned (bool_as (decide_eq_false (hbl.2)))), h.2⟩) rfl rfl rfl (want_y 81 rfl rfl rfl) ?_
    refine TL_q (.bool true) (fun _ _ hρ _ => r_not (b := false) (hρ _ _ rfl)) rfl rfl rfl (want_y 81 rfl rfl rfl) ?_
    refine TL_q (.bool true) (fun _ _ hρ _ => r_pick_t (hρ _ _ rfl) (hρ _ _ rfl)) rfl rfl rfl (w_n rfl) ?_
    refine TL_q (.bool true) (fun _ _ hρ _ => r_move (hρ _ _ rfl)) rfl rfl rfl (w_n rfl) ?_
    refine TL_q (.int .i64 0) (fun _ _ hρ _ => r_move (hρ _ _ rfl)) rfl rfl rfl (want_y 87 rfl rfl rfl) ?_
    refine TL_q (.bool true) (fun _ _ hρ _ => r_as (r_eql (hρ _ _ rfl) (hρ _ _ rfl)) (by rfl)) rfl rfl rfl (want_y 87 rfl rfl rfl) ?_
    refine TL_q (.bool true) (fun _ _ hρ _ => r_pick_t (hρ _ _ rfl) (hρ _ _ rfl)) rfl rfl rfl (w_n rfl) ?_
    refine TL_q (.bool true) (fun _ _ hρ _ => r_move (hρ _ _ rfl)) rfl rfl rfl (w_n rfl) ?_
    refine TL_q (.slice a6 ((sealP (l.take 400)).length) cap6) (fun _ _ hρ _ => r_move (hρ _ _ rfl)) rfl rfl rfl (want_y 91 rfl rfl rfl) ?_
    refine TL_q (.slice a2 ((sealP (l.take 400)).length) cap2) (fun _ _ hρ _ => r_move (hρ _ _ rfl)) rfl rfl rfl (want_y 91 rfl rfl rfl) ?_
    refine TL_call (.bool true) (fun _ _ hρ _ => r_call (args := [.slice a6 ((sealP (l.take 400)).length) cap6, .slice a2 ((sealP (l.take 400)).length) cap2]) (enters_of Try.func11 (by kernel_rfl) rfl) (hρ _ _ rfl) ((cons2 (hρ _ _ rfl) (cons2 (hρ _ _ rfl) rfl))) rfl) (fun w hm => (equal_b (sealP (l.take 400)) (sealP (l.take 400)) a6 a2 cap6 cap2 w (SliceAt.own byc_len (hm.row 6 rfl) rfl rfl) (SliceAt.own byc_len (hm.row 2 rfl) rfl rfl) (by omega) (by omega)).mono fun _ _ h => ⟨h.1.trans (congrArg Ending.returned (bool_as (decide_eq_true (rfl)))), h.2⟩) rfl rfl rfl (want_y 91 rfl rfl rfl) ?_
    refine TL_q (.bool true) (fun _ _ hρ _ => r_pick_t (hρ _ _ rfl) (hρ _ _ rfl)) rfl rfl rfl (w_n rfl) ?_
    refine TL_q (.bool true) (fun _ _ hρ _ => r_move (hρ _ _ rfl)) rfl rfl rfl (w_n rfl) ?_
    refine TL_q (.int .i64 0) (fun _ _ hρ _ => r_move (hρ _ _ rfl)) rfl rfl rfl (want_y 96 rfl rfl rfl) ?_
    refine TL_q (.bool true) (fun _ _ hρ _ => r_as (r_eql (hρ _ _ rfl) (hρ _ _ rfl)) (by rfl)) rfl rfl rfl (want_y 96 rfl rfl rfl) ?_
    refine TL_q (.bool true) (fun _ _ hρ _ => r_pick_t (hρ _ _ rfl) (hρ _ _ rfl)) rfl rfl rfl (w_n rfl) ?_
    refine TL_q (.bool true) (fun _ _ hρ _ => r_move (hρ _ _ rfl)) rfl rfl rfl (w_n rfl) ?_
    refine TL_q (.slice a7 ((l.take 400).length) cap7) (fun _ _ hρ _ => r_move (hρ _ _ rfl)) rfl rfl rfl (want_y 100 rfl rfl rfl) ?_
    refine TL_q (.slice a l.length cap) (fun _ _ hρ _ => r_move (hρ _ _ rfl)) rfl rfl rfl (want_y 100 rfl rfl rfl) ?_
    refine TL_callN (fun (_ : Option Addr × Nat) => True) (fun (a8, cap8) => .slice a8 ((l.take 400).length) cap8) (fun (a8, cap8) => [(8, .row (.slice a8 ((l.take 400).length) cap8) 5 1 ((l.take 400).length) ((l.take 400).flatMap byc))]) (fun _ _ hρ _ => r_call (args := [.slice a l.length cap]) (enters_of Try.func13 (by kernel_rfl) rfl) (hρ _ _ rfl) ((cons2 (hρ _ _ rfl) rfl)) rfl) (fun w hm => (few_c l a cap w (hv.keep hm.ext) hcap).mono fun e w' ⟨a', cap', he, hb, hr⟩ => ⟨(a', cap'), trivial, he, hb, newOk1 8 hr⟩) rfl rfl rfl (want_y 100 rfl rfl rfl) ?_
    rintro ⟨a8, cap8⟩ -
    refine TL_call (.bool true) (fun _ _ hρ _ => r_call (args := [.slice a7 ((l.take 400).length) cap7, .slice a8 ((l.take 400).length) cap8]) (enters_of Try.func11 (by kernel_rfl) rfl) (hρ _ _ rfl) ((cons2 (hρ _ _ rfl) (cons2 (hρ _ _ rfl) rfl))) rfl) (fun w hm => (equal_b (l.take 400) (l.take 400) a7 a8 cap7 cap8 w (SliceAt.own byc_len (hm.row 7 rfl) rfl rfl) (SliceAt.own byc_len (hm.row 8 rfl) rfl rfl) (by omega) (by omega)).mono fun _ _ h => ⟨h.1.trans (congrArg Ending.returned (bool_as (decide_eq_true (rfl)))), h.2⟩) rfl rfl rfl (want_y 100 rfl rfl rfl) ?_
    refine TL_q (.bool true) (fun _ _ hρ _ => r_pick_t (hρ _ _ rfl) (hρ _ _ rfl)) rfl rfl rfl (w_n rfl) ?_
    refine TL_q (.bool true) (fun _ _ hρ _ => r_assign (hρ _ _ rfl)) rfl rfl rfl (w_n rfl) ?_
    refine TL_seq ?_
    refine T_sub [(6, .bool true)] [(8, .row (.slice a8 ((l.take 400).length) cap8) 5 1 ((l.take 400).length) ((l.take 400).flatMap byc)), (7, .row (.slice a7 ((l.take 400).length) cap7) 5 1 ((l.take 400).length) ((l.take 400).flatMap byc)), (6, .row (.slice a6 ((sealP (l.take 400)).length) cap6) 5 1 ((sealP (l.take 400)).length) ((sealP (l.take 400)).flatMap byc)), (5, .row (.slice a5 0 cap5) 5 1 0 []), (4, .row (.slice a4 n.length cap4) 5 1 n.length (n.flatMap byc)), (2, .row (.slice a2 ((sealP (l.take 400)).length) cap2) 5 1 ((sealP (l.take 400)).length) ((sealP (l.take 400)).flatMap byc)), (1, .row (.slice a1 ((l.take 400).length) cap1) 5 1 ((l.take 400).length) ((l.take 400).flatMap byc))] (sub_cons rfl sub_nil) (sub_cons rfl (sub_cons rfl (sub_cons rfl (sub_cons rfl (sub_cons rfl (sub_cons rfl (sub_cons rfl sub_nil))))))) ?_
    refine T_ret' ?_
    refine ret_of rfl (.bool true) (fun tmps w hk hm => res1 rfl (res_tmp (hk 6 _ rfl))) (fun w hm => ?_)
    exact ⟨rfl, hm.ext⟩
end Go.Proofs.Ytnjcffhpfmnbfaa
