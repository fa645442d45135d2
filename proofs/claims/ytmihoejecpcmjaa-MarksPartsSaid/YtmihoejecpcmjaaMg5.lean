/- Texts of this seat, merged: part 5. -/
import Derived.Test.YtmihoejecpcmjaaMg4
/- net and journal: Shares. Printed by a program of this seat's prover. -/
namespace Go.Proofs.Ytmihoejecpcmjaa
open Go Go.RowKit
set_option maxRecDepth 10000
theorem msame2_c (l : List Mk) (m : List Mk) (heq : l = m) (a : Option Addr) (cap : Nat) (b : Option Addr) (capb : Nat) (w : World) (hv : SliceAt w a cap 4 Mk.cells l) (hcap : cap ≤ Go.maxLen) (hu : SliceAt w b capb 4 Mk.cells m) (hcapb : capb ≤ Go.maxLen) (hc : ∀ x ∈ l, ∃ c, x.c = some c ∧ CvAt w c) :
    Calls Try.prog 35 #[.slice a l.length cap, .slice b m.length capb] w fun e w' => e = .returned (.bool true) ∧ Below w.heap.size w w' := by
  subst heq
  exact msame_c l a cap b capb w hv hcap hu hcapb hc

theorem shares_ok (ms : List Mk) (a : Option Addr) (cap : Nat) (w : World) (hv : SliceAt w a cap 4 Mk.cells ms) (hcap : cap ≤ Go.maxLen) (hmk : marksB ms = true) (hcv : Cvs2 w ms) : Calls Try.prog 37 #[.slice a ms.length cap] w fun e w' => e = .returned (.int .i64 ((sumS ms ms.length : Nat) : Int)) ∧ Below w.heap.size w w' := by
  have hvl := hv.1
  unfold Go.maxLen at hcap
  have hm6 := (marksB_iff.1 hmk).2.2
  refine calls_of_T (l := [.slice a ms.length cap]) 32 Try.func37 rfl rfl rfl ?_
  show T _ _ _ [(0, .slice a ms.length cap)] []
  refine T_seq (T_region ?_)
  refine TL_q (.int .i64 0) (fun _ _ hρ _ => r_assign (hρ _ _ rfl)) rfl rfl rfl (w_n rfl) ?_
  refine TL_seq ?_
  refine T_seq ?_
  refine T_seq (T_region ?_)
  refine TL_q (.slice a ms.length cap) (fun _ _ hρ _ => r_move (hρ _ _ rfl)) rfl rfl rfl (w_n rfl) ?_
  refine TL_call (.int .i64 0) (fun _ _ hρ _ => r_call (args := [.slice a ms.length cap]) (enters_of Try.func14 (by kernel_rfl) rfl) (hρ _ _ rfl) ((cons2 (hρ _ _ rfl) rfl)) rfl) (fun w hm => (check_c ms a cap w (hv.keep hm.ext) hcap).mono fun _ _ h => ⟨h.1.trans (congrArg Ending.returned (int_as (if_pos hmk))), h.2⟩) rfl rfl rfl (w_n rfl) ?_
  refine TL_q (.bool false) (fun _ _ hρ _ => r_as (r_neq (hρ _ _ rfl) (hρ _ _ rfl)) (by rfl)) rfl rfl rfl (w_n rfl) ?_
  refine TL_seq ?_
  refine T_cond_f rfl ?_
  refine T_skip' ?_
  refine p_seq ?_
  refine T_seq (T_region ?_)
  refine TL_q (.int .i64 0) (fun _ _ hρ _ => r_assign (hρ _ _ rfl)) rfl rfl rfl (w_n rfl) ?_
  refine TL_seq ?_
  refine T_seq ?_
  refine T_seq (T_region ?_)
  refine TL_q (.slice a ms.length cap) (fun _ _ hρ _ => r_move (hρ _ _ rfl)) rfl rfl rfl (w_n rfl) ?_
  refine TL_q (.int .i64 ((ms.length : Nat) : Int)) (fun _ _ hρ _ => r_len sl25 (hρ _ _ rfl)) rfl rfl rfl (w_n rfl) ?_
  refine TL_q (.int .i64 0) (fun _ _ hρ _ => r_move (hρ _ _ rfl)) rfl rfl rfl (w_n rfl) ?_
  refine TL_seq ?_
  refine T_block ?_
  refine T_loop (ι := Nat × Nat) (fun (z : Nat × Nat) => match z with | (k, c) => k ≤ ms.length ∧ c = sumS ms k) (fun (z : Nat × Nat) => match z with | (k, c) => [(0, .slice a ms.length cap), (2, .int .i64 0), (9, .slice a ms.length cap), (10, .int .i64 ((ms.length : Nat) : Int)), (11, .int .i64 ((k : Nat) : Int)), (3, .int .i64 ((c : Nat) : Int))]) (fun (z : Nat × Nat) => match z with | (k, c) => []) (fun (z : Nat × Nat) => match z with | (k, c) => ms.length - k) (0, 0) ⟨Nat.zero_le _, rfl⟩ (sub_cons rfl (sub_cons rfl (sub_cons rfl (sub_cons rfl (sub_cons rfl (sub_cons rfl sub_nil)))))) sub_nil ?_
  rintro ⟨k, c⟩ hp
  obtain ⟨hk, hc⟩ := hp
  have hck : c ≤ 12 := by rw [hc]; exact Nat.le_trans (sumS_le hcv k) (by omega)
  show T _ _ _ [(0, .slice a ms.length cap), (2, .int .i64 0), (9, .slice a ms.length cap), (10, .int .i64 ((ms.length : Nat) : Int)), (11, .int .i64 ((k : Nat) : Int)), (3, .int .i64 ((c : Nat) : Int))] []
  refine T_seq (T_region ?_)
  refine TL_q (.bool (decide (((k : Nat) : Int) < ((ms.length : Nat) : Int)))) (fun _ _ hρ _ => r_lss (hρ _ _ rfl) (hρ _ _ rfl)) rfl rfl rfl (w_n rfl) ?_
  refine TL_seq ?_
  refine T_seq ?_
  refine T_cond rfl (fun h1 => ?_) (fun h1 => ?_)
  · replace h1 := of_decide_eq_true h1
    refine T_skip' ?_
    refine p_seq ?_
    refine T_seq ?_
    refine T_block ?_
    obtain ⟨m9, hm9⟩ : ∃ x, ms[k]? = some x := ⟨_, List.getElem?_eq_getElem (by omega)⟩
    obtain ⟨x9, hx9⟩ : ∃ x, ms[k - 1]? = some x := ⟨_, List.getElem?_eq_getElem (by omega)⟩
    obtain ⟨cm, hcm1, hcm2, hcm3, hcm4⟩ := hcv m9 (List.mem_of_getElem? hm9)
    obtain ⟨cx, hcx1, hcx2, hcx3, hcx4⟩ := hcv x9 (List.mem_of_getElem? hx9)
    have hsm9 := shM_le (y := m9) hcx1 hcx2 hcx3 hcx4
    obtain ⟨b1, of1, cs1, T1, fz1, ha1, hq1, hr1⟩ := hv.open (i := k) (by omega)
    subst ha1
    refine T_seq (T_region ?_)
    refine TL_q (.int .i64 ((k : Nat) : Int)) (fun _ _ hρ _ => r_move (hρ _ _ rfl)) rfl rfl rfl (w_n rfl) ?_
    refine TL_q (.pointer (some ⟨b1, of1 + k * 4, none⟩)) (fun _ _ hρ _ => r_indexAddrS (i := k) sl25 sz36 (hρ _ _ rfl) (hρ _ _ rfl) (by omega)) rfl rfl rfl (w_n rfl) ?_
    refine TL_q (.agg #[.int .u64 m9.i.t, .int .i64 m9.i.s, .int .u64 m9.i.q, .pointer m9.ptr]) (fun _ _ hρ hm => r_loadRow (f := Mk.cells) (u := m9) ag36 sz36 (hρ _ _ rfl) (hm.old hq1) hr1 hm9) rfl rfl rfl (w_n rfl) ?_
    refine TL_new 1 (.cells #[.int .u64 0, .int .i64 0, .int .u64 0, .pointer none] 36) (fun B => .pointer (some ⟨B, 0, none⟩)) (fun _ _ _ _ => r_alloc (v := .agg #[.int .u64 0, .int .i64 0, .int .u64 0, .pointer none]) (by kernel_rfl) rfl) rfl rfl rfl (w_n rfl) ?_
    intro B2
    refine TL_q (.int .i64 ((k : Nat) : Int)) (fun _ _ hρ _ => r_assign (hρ _ _ rfl)) rfl rfl rfl (w_n rfl) ?_
    refine TL_store 1 (.cells #[.int .u64 m9.i.t, .int .i64 m9.i.s, .int .u64 m9.i.q, .pointer m9.ptr] 36) rfl (fun _ _ hρ hm => r_store sz36 (hρ _ _ rfl) (hρ _ _ rfl) (hm.at 1 rfl) rfl rfl rfl rfl) rfl rfl (w_n rfl) ?_
    refine TL_seq ?_
    refine T_seq (T_draw (V := [(0, .int .i64 ((c : Nat) : Int)), (1, .slice (some ⟨b1, of1, none⟩) ms.length cap), (2, .int .i64 ((k : Nat) : Int)), (3, .int .i64 (((k : Nat) : Int) - 1)), (4, .int .i64 ((k - 1 : Nat) : Int)), (5, .pointer (some ⟨b1, of1 + (k - 1) * 4, none⟩)), (6, .pointer (some ⟨b1, of1 + (k - 1) * 4 + 3, none⟩)), (7, .pointer x9.ptr), (8, .pointer (some ⟨B2, 3, none⟩)), (9, .pointer m9.ptr)]) [0, 0, 0, 4, 12, 30, 62, 126, 0, 256, 1022, 2047, 4095] [[(3, none)], [(0, none)], [(4, none)], [(18, some 2)], [(19, some 3)], [(17, some 1), (20, some 4)], [(21, some 5)], [(22, some 6)], [(5, none)], [(24, some 8)], [(23, some 7), (25, some 9)], [(16, some 0), (26, some 10)], [(27, some 11)]] 1024 mixed (by kernel_rfl) ?_)
    refine G_step [0, 1, 2, 3, 4, 5, 6, 7, 8, 9] 10 [] (by kernel_rfl) (allM (all_cons (q_run (.int .i64 ((c : Nat) : Int)) rfl rfl (wv_n rfl) rfl (fun _ _ hρ _ => r_move (hρ _ _ rfl))) (all_cons (q_run (.slice (some ⟨b1, of1, none⟩) ms.length cap) rfl rfl (wv_n rfl) rfl (fun _ _ hρ _ => r_move (hρ _ _ rfl))) (all_cons (q_run (.int .i64 ((k : Nat) : Int)) rfl rfl (wv_n rfl) rfl (fun _ _ hρ _ => r_move (hρ _ _ rfl))) (all_cons (q_run (.int .i64 (((k : Nat) : Int) - 1)) rfl rfl (wv_n rfl) rfl (fun _ _ hρ _ => r_as (r_sub (hρ _ _ rfl) (hρ _ _ rfl)) (int_as (wrap64 (by omega) (by omega))))) (all_cons (q_run (.int .i64 ((k - 1 : Nat) : Int)) rfl rfl (wv_n rfl) rfl (fun _ _ hρ _ => r_as (r_max (hρ _ _ rfl) (hρ _ _ rfl)) (int_as (maxV k)))) (all_cons (q_run (.pointer (some ⟨b1, of1 + (k - 1) * 4, none⟩)) rfl rfl (wv_n rfl) rfl (fun _ _ hρ _ => r_indexAddrS (i := k - 1) sl25 sz36 (hρ _ _ rfl) (hρ _ _ rfl) (by omega))) (all_cons (q_run (.pointer (some ⟨b1, of1 + (k - 1) * 4 + 3, none⟩)) rfl rfl (wv_n rfl) rfl (fun _ _ hρ _ => r_fieldAddr fl36_1 sz34 (hρ _ _ rfl))) (all_cons (q_run (.pointer x9.ptr) rfl rfl (wv_n rfl) rfl (fun _ _ hρ hm => r_loadRowJ (f := Mk.cells) (u := x9) 3 ag34 (hρ _ _ rfl) (hm.old hq1) hr1 hx9 rfl)) (all_cons (q_run (.pointer (some ⟨B2, 3, none⟩)) rfl rfl (wv_n rfl) rfl (fun _ _ hρ _ => r_fieldAddr fl36_1 sz34 (hρ _ _ rfl))) (all_cons (q_run (.pointer m9.ptr) rfl rfl (wv_n rfl) rfl (fun _ _ hρ hm => r_load ag34 (hρ _ _ rfl) (hm.at 1 rfl) rfl)) all_nil))))))))))) (allM (all_cons ?_ all_nil))
    refine LOb_call (.int .i64 ((shM x9 m9 : Nat) : Int)) [(11, .int .i64 ((c + shM x9 m9 : Nat) : Int)), (12, .int .i64 ((c + shM x9 m9 : Nat) : Int))] rfl (wv_n rfl) rfl rfl (fun _ _ hρ _ => r_call (args := [.pointer x9.ptr, .pointer m9.ptr]) (enters_of Try.func38 (by kernel_rfl) rfl) (hρ _ _ rfl) ((cons2 (hρ _ _ rfl) (cons2 (hρ _ _ rfl) rfl))) rfl) (fun w hm => (by rw [ptr_some hcx1, ptr_some hcm1]; exact (shared_eq cx cm w (hcx2.below hm.ext) (hcm2.below hm.ext) (hcx3.trans hcm3.symm) (hcx4.trans hcm4.symm)).mono fun _ _ h => ⟨h.1.trans (congrArg Ending.returned (int_as (congrArg Int.ofNat (shM_eq hcx1 hcm1).symm))), h.2⟩)) (by kernel_rfl) ?_
    refine G_last [0, 11, 12] [(0, .slice (some ⟨b1, of1, none⟩) ms.length cap), (2, .int .i64 0), (9, .slice (some ⟨b1, of1, none⟩) ms.length cap), (10, .int .i64 ((ms.length : Nat) : Int)), (11, .int .i64 ((k : Nat) : Int)), (12, .bool (decide (((k : Nat) : Int) < ((ms.length : Nat) : Int)))), (13, .int .i64 ((k : Nat) : Int)), (14, .pointer (some ⟨b1, of1 + k * 4, none⟩)), (15, .agg #[.int .u64 m9.i.t, .int .i64 m9.i.s, .int .u64 m9.i.q, .pointer m9.ptr]), (5, .pointer (some ⟨B2, 0, none⟩)), (4, .int .i64 ((k : Nat) : Int)), (16, .int .i64 ((c : Nat) : Int)), (17, .slice (some ⟨b1, of1, none⟩) ms.length cap), (18, .int .i64 ((k : Nat) : Int)), (19, .int .i64 (((k : Nat) : Int) - 1)), (20, .int .i64 ((k - 1 : Nat) : Int)), (21, .pointer (some ⟨b1, of1 + (k - 1) * 4, none⟩)), (22, .pointer (some ⟨b1, of1 + (k - 1) * 4 + 3, none⟩)), (23, .pointer x9.ptr), (24, .pointer (some ⟨B2, 3, none⟩)), (25, .pointer m9.ptr), (26, .int .i64 ((shM x9 m9 : Nat) : Int)), (27, .int .i64 ((c + shM x9 m9 : Nat) : Int)), (3, .int .i64 ((c + shM x9 m9 : Nat) : Int))] (by kernel_rfl) (allM (all_cons (q_run (.int .i64 ((c : Nat) : Int)) rfl rfl (wv_n rfl) rfl (fun _ _ hρ _ => r_move (hρ _ _ rfl))) (all_cons (q_run (.int .i64 ((c + shM x9 m9 : Nat) : Int)) rfl rfl (wv_n rfl) rfl (fun _ _ hρ _ => r_as (r_add (hρ _ _ rfl) (hρ _ _ rfl)) (int_as ((wrap64 (by omega) (by omega)).trans (by omega))))) (all_cons (q_run (.int .i64 ((c + shM x9 m9 : Nat) : Int)) rfl rfl (wv_n rfl) rfl (fun _ _ hρ _ => r_assign (hρ _ _ rfl))) all_nil)))) (end_old rfl rfl (end_old rfl rfl (end_old rfl rfl (end_old rfl rfl (end_old rfl rfl (end_old rfl rfl (end_old rfl rfl (end_old rfl rfl (end_old rfl rfl (end_old rfl rfl (end_old rfl rfl (end_new 0 rfl rfl (end_new 1 rfl rfl (end_new 2 rfl rfl (end_new 3 rfl rfl (end_new 4 rfl rfl (end_new 5 rfl rfl (end_new 6 rfl rfl (end_new 7 rfl rfl (end_new 8 rfl rfl (end_new 9 rfl rfl (end_new 10 rfl rfl (end_new 11 rfl rfl (end_new 12 rfl rfl end_nil)))))))))))))))))))))))) ?_
    by_cases hk0 : ((k : Nat) : Int) = 0
    · skip
      refine T_seq (T_region ?_)
      refine TL_q (.int .i64 ((k : Nat) : Int)) (fun _ _ hρ _ => r_move (hρ _ _ rfl)) rfl rfl rfl (w_n rfl) ?_
      refine TL_q (.bool true) (fun _ _ hρ _ => r_as (r_eql (hρ _ _ rfl) (hρ _ _ rfl)) (bool_as (decide_eq_true hk0))) rfl rfl rfl (w_n rfl) ?_
      refine TL_seq ?_
      refine T_cond_t rfl ?_
      refine T_region ?_
      refine TL_q (.int .i64 0) (fun _ _ hρ _ => r_assign (hρ _ _ rfl)) rfl rfl rfl (w_n rfl) ?_
      refine TL_nil ?_
      refine p_blk_n ?_
      refine p_seq ?_
      refine T_region ?_
      refine TL_q (.int .i64 ((k + 1 : Nat) : Int)) (fun _ _ hρ _ => r_as (r_add (hρ _ _ rfl) (hρ _ _ rfl)) (int_as ((wrap64 (by omega) (by omega)).trans (by omega)))) rfl rfl rfl (w_n rfl) ?_
      refine TL_q (.int .i64 ((k + 1 : Nat) : Int)) (fun _ _ hρ _ => r_move (hρ _ _ rfl)) rfl rfl rfl (w_n rfl) ?_
      refine TL_nil ?_
      exact p_at (k + 1, 0) ⟨⟨by omega, by rw [show k = 0 by omega]; rfl⟩, by dsimp only; omega⟩ (sub_cons rfl (sub_cons rfl (sub_cons rfl (sub_cons rfl (sub_cons rfl (sub_cons rfl sub_nil)))))) sub_nil
    · skip
      refine T_seq (T_region ?_)
      refine TL_q (.int .i64 ((k : Nat) : Int)) (fun _ _ hρ _ => r_move (hρ _ _ rfl)) rfl rfl rfl (w_n rfl) ?_
      refine TL_q (.bool false) (fun _ _ hρ _ => r_as (r_eql (hρ _ _ rfl) (hρ _ _ rfl)) (bool_as (decide_eq_false hk0))) rfl rfl rfl (w_n rfl) ?_
      refine TL_seq ?_
      refine T_cond_f rfl ?_
      refine T_skip' ?_
      refine p_blk_n ?_
      refine p_seq ?_
      refine T_region ?_
      refine TL_q (.int .i64 ((k + 1 : Nat) : Int)) (fun _ _ hρ _ => r_as (r_add (hρ _ _ rfl) (hρ _ _ rfl)) (int_as ((wrap64 (by omega) (by omega)).trans (by omega)))) rfl rfl rfl (w_n rfl) ?_
      refine TL_q (.int .i64 ((k + 1 : Nat) : Int)) (fun _ _ hρ _ => r_move (hρ _ _ rfl)) rfl rfl rfl (w_n rfl) ?_
      refine TL_nil ?_
      exact p_at (k + 1, c + shM x9 m9) ⟨⟨by omega, by rw [sumS_step (fun e => hk0 (by omega)) hx9 hm9, ← hc]⟩, by dsimp only; omega⟩ (sub_cons rfl (sub_cons rfl (sub_cons rfl (sub_cons rfl (sub_cons rfl (sub_cons rfl sub_nil)))))) sub_nil
  · replace h1 := of_decide_eq_false h1
    refine T_exit' ?_
    refine p_then_x ?_
    refine p_then_x ?_
    refine p_blk_x ?_
    refine p_seq ?_
    refine T_seq (T_region ?_)
    refine TL_q (.int .i64 ((c : Nat) : Int)) (fun _ _ hρ _ => r_move (hρ _ _ rfl)) rfl rfl rfl (w_n rfl) ?_
    refine TL_q (.int .i64 ((c : Nat) : Int)) (fun _ _ hρ _ => r_assign (hρ _ _ rfl)) rfl rfl rfl (w_n rfl) ?_
    refine TL_seq ?_
    refine T_ret' ?_
    refine ret_of rfl (.int .i64 ((c : Nat) : Int)) (fun tmps w hk hm => res1 rfl (res_tmp (hk 2 _ rfl))) (fun w hm => ?_)
    have hke : k = ms.length := by omega
    subst hke
    exact ⟨by rw [hc], hm.ext⟩

theorem shares_no (ms : List Mk) (a : Option Addr) (cap : Nat) (w : World) (hv : SliceAt w a cap 4 Mk.cells ms) (hcap : cap ≤ Go.maxLen) (hmk : ¬ marksB ms = true) : Calls Try.prog 37 #[.slice a ms.length cap] w fun e w' => e = .returned (.int .i64 0) ∧ Below w.heap.size w w' := by
  have hvl := hv.1
  unfold Go.maxLen at hcap
  refine calls_of_T (l := [.slice a ms.length cap]) 32 Try.func37 rfl rfl rfl ?_
  show T _ _ _ [(0, .slice a ms.length cap)] []
  refine T_seq (T_region ?_)
  refine TL_q (.int .i64 0) (fun _ _ hρ _ => r_assign (hρ _ _ rfl)) rfl rfl rfl (w_n rfl) ?_
  refine TL_seq ?_
  refine T_seq ?_
  refine T_seq (T_region ?_)
  refine TL_q (.slice a ms.length cap) (fun _ _ hρ _ => r_move (hρ _ _ rfl)) rfl rfl rfl (w_n rfl) ?_
  refine TL_call (.int .i64 260) (fun _ _ hρ _ => r_call (args := [.slice a ms.length cap]) (enters_of Try.func14 (by kernel_rfl) rfl) (hρ _ _ rfl) ((cons2 (hρ _ _ rfl) rfl)) rfl) (fun w hm => (check_c ms a cap w (hv.keep hm.ext) hcap).mono fun _ _ h => ⟨h.1.trans (congrArg Ending.returned (int_as (if_neg hmk))), h.2⟩) rfl rfl rfl (w_n rfl) ?_
  refine TL_q (.bool true) (fun _ _ hρ _ => r_as (r_neq (hρ _ _ rfl) (hρ _ _ rfl)) (by rfl)) rfl rfl rfl (w_n rfl) ?_
  refine TL_seq ?_
  refine T_cond_t rfl ?_
  refine T_seq (T_region ?_)
  refine TL_q (.int .i64 0) (fun _ _ hρ _ => r_assign (hρ _ _ rfl)) rfl rfl rfl (w_n rfl) ?_
  refine TL_seq ?_
  refine T_ret' ?_
  refine p_then_r ?_
  refine ret_of rfl (.int .i64 0) (fun tmps w hk hm => res1 rfl (res_tmp (hk 2 _ rfl))) (fun w hm => ?_)
  exact ⟨rfl, hm.ext⟩
end Go.Proofs.Ytmihoejecpcmjaa
/- net and journal: MarksParts. Printed by a program of this seat's prover. -/
namespace Go.Proofs.Ytmihoejecpcmjaa
open Go Go.RowKit
set_option maxRecDepth 10000
theorem T_pure {C : Cx} {c : Code} {Q : Post} {K : List (Nat × Value)} {L : Heap} {p : Prop} (h : ∀ w, MemOk C.w₀ L w → p) (hc : p → T C c Q K L) : T C c Q K L := fun a w hf hm => hc (h w hm) a w hf hm

set_option maxHeartbeats 40000000 in
theorem mparts_c (x : List Tid) (a : Option Addr) (capa : Nat) (e9 : Tid) (w : World) (hv : SliceAt w a capa 3 Tid.cells x) (hcapa : capa ≤ Go.maxLen) : Calls Try.prog 7 #[.slice a x.length capa, e9.v] w fun e w' => e = .returned (.bool true) ∧ Below w.heap.size w w' := by
  have hvl := hv.1
  unfold Go.maxLen at hcapa
  refine calls_of_T (l := [.slice a x.length capa, .agg #[.int .u64 e9.t, .int .i64 e9.s, .int .u64 e9.q]]) 155 Try.func7 rfl rfl rfl ?_
  show T _ _ _ [(0, .slice a x.length capa), (1, .agg #[.int .u64 e9.t, .int .i64 e9.s, .int .u64 e9.q])] []
  refine T_seq (T_region ?_)
  refine TL_new 1 (.cells #[.int .u64 e9.t, .int .i64 e9.s, .int .u64 e9.q] 32) (fun B => .pointer (some ⟨B, 0, none⟩)) (fun _ _ hρ _ => r_box (hρ _ _ rfl) rfl) rfl rfl rfl (w_n rfl) ?_
  intro B1
  refine TL_q (.bool false) (fun _ _ hρ _ => r_assign (hρ _ _ rfl)) rfl rfl rfl (w_n rfl) ?_
  refine TL_seq ?_
  refine T_seq ?_
  refine T_seq (T_region ?_)
  refine TL_call (.bool true) (fun _ _ hρ _ => r_call (args := []) (enters_of Try.func8 (by kernel_rfl) rfl) (hρ _ _ rfl) (by rfl) rfl) (fun w _ => wakes_c w) rfl rfl rfl (w_n rfl) ?_
  refine TL_q (.bool false) (fun _ _ hρ _ => r_not (b := true) (hρ _ _ rfl)) rfl rfl rfl (w_n rfl) ?_
  refine TL_seq ?_
  refine T_cond_f rfl ?_
  refine T_skip' ?_
  refine p_seq ?_
  refine T_seq (T_region ?_)
  refine TL_q (.slice a x.length capa) (fun _ _ hρ _ => r_move (hρ _ _ rfl)) rfl rfl rfl (w_n rfl) ?_
  refine TL_callN (fun (_ : Option Addr × Nat) => True) (fun (ar2, cr2) => .slice ar2 ((x.take 6).length) cr2) (fun (ar2, cr2) => [(951, .row (.slice ar2 ((x.take 6).length) cr2) 32 3 ((x.take 6).length) ((x.take 6).flatMap Tid.cells))]) (fun _ _ hρ _ => r_call (args := [.slice a x.length capa, .int .i64 6]) (enters_of Try.func10 (by kernel_rfl) rfl) (hρ _ _ rfl) ((cons2 (hρ _ _ rfl) (cons2 (hρ _ _ rfl) rfl))) rfl) (fun w hm => (few_c x a capa 6 w (hv.keep hm.ext) hcapa (by omega)).mono fun e w' ⟨a', cap', he, hb, hr⟩ => ⟨(a', cap'), trivial, he, hb, newOk1 951 hr⟩) rfl rfl rfl (w_n rfl) ?_
  rintro ⟨ar2, cr2⟩ -
  refine TL_callN (fun ((mr3, cs3, ar3, cr3) : List Mk × List Cv × Option Addr × Nat) => idsM mr3 = x.take 6 ∧ PaintOk mr3 cs3 0) (fun (mr3, cs3, ar3, cr3) => .slice ar3 mr3.length cr3) (fun (mr3, cs3, ar3, cr3) => [(952, .row (.slice ar3 mr3.length cr3) 36 4 mr3.length (mr3.flatMap Mk.cells)), (962, .cvs cs3)]) (fun _ _ hρ _ => r_call (args := [.slice ar2 ((x.take 6).length) cr2, .int .i64 0]) (enters_of Try.func9 (by kernel_rfl) rfl) (hρ _ _ rfl) ((cons2 (hρ _ _ rfl) (cons2 (hρ _ _ rfl) rfl))) rfl) (fun w hm => (row_c (x.take 6) ar2 cr2 0 w (SliceAt.own Tid.cells_len (hm.row 951 rfl) rfl rfl) (row_cap (hm.row 951 rfl)) (by omega) (by rw [List.length_take]; omega)).mono fun e w' ⟨m, c, a', cap', he, hb, hn, h1, h2⟩ => ⟨(m, c, a', cap'), ⟨h1, h2⟩, he, hb, newOk_at 952 962 (by decide) hn⟩) rfl rfl rfl (w_n rfl) ?_
  rintro ⟨mr3, cs3, ar3, cr3⟩ hr3
  refine TL_q (.slice ar3 mr3.length cr3) (fun _ _ hρ _ => r_assign (hρ _ _ rfl)) rfl rfl rfl (w_n rfl) ?_
  refine TL_seq ?_
  have hM6 : mr3.length ≤ 6 := by rw [← ids_len, hr3.1, List.length_take]; omega
  by_cases hmk : marksB mr3 = true
  · skip
    by_cases hsm : 0 < (mr3.take (aheadL (idsM mr3) e9)).length
    · skip
      refine T_seq (T_region ?_)
      refine TL_q (.slice ar3 mr3.length cr3) (fun _ _ hρ _ => r_move (hρ _ _ rfl)) rfl rfl rfl (w_n rfl) ?_
      refine TL_q (.agg #[.int .u64 e9.t, .int .i64 e9.s, .int .u64 e9.q]) (fun _ _ hρ hm => r_loadA ag32 sz32 (hρ _ _ rfl) (hm.at 1 rfl) rfl rfl) rfl rfl rfl (w_n rfl) ?_
      refine TL_call (.tuple #[.agg #[.int .u64 ((belM mr3 e9).i.t), .int .i64 ((belM mr3 e9).i.s), .int .u64 ((belM mr3 e9).i.q), .pointer (belM mr3 e9).ptr], .bool true]) (fun _ _ hρ _ => r_call (args := [.slice ar3 mr3.length cr3, .agg #[.int .u64 e9.t, .int .i64 e9.s, .int .u64 e9.q]]) (enters_of Try.func26 (by kernel_rfl) rfl) (hρ _ _ rfl) ((cons2 (hρ _ _ rfl) (cons2 (hρ _ _ rfl) rfl))) rfl) (fun w hm => (below_ok mr3 ar3 cr3 e9 w (SliceAt.own Mk.cells_len (hm.row 952 rfl) rfl rfl) (row_cap (hm.row 952 rfl)) hmk).mono fun _ _ h => ⟨h.1.trans (congrArg Ending.returned (congrArg (fun z => Value.tuple #[(belM mr3 e9).v, .bool z]) (decide_eq_true hsm))), h.2⟩) rfl rfl rfl (w_n rfl) ?_
      refine TL_q (.tuple #[.agg #[.int .u64 ((belM mr3 e9).i.t), .int .i64 ((belM mr3 e9).i.s), .int .u64 ((belM mr3 e9).i.q), .pointer (belM mr3 e9).ptr], .bool true]) (fun _ _ hρ _ => r_move (hρ _ _ rfl)) rfl rfl rfl (w_n rfl) ?_
      refine TL_q (.agg #[.int .u64 ((belM mr3 e9).i.t), .int .i64 ((belM mr3 e9).i.s), .int .u64 ((belM mr3 e9).i.q), .pointer (belM mr3 e9).ptr]) (fun _ _ hρ _ => r_extract (hρ _ _ rfl) rfl) rfl rfl rfl (w_n rfl) ?_
      refine TL_q (.bool true) (fun _ _ hρ _ => r_extract (hρ _ _ rfl) rfl) rfl rfl rfl (w_n rfl) ?_
      refine TL_new 2 (.cells #[.int .u64 0, .int .i64 0, .int .u64 0, .pointer none] 36) (fun B => .pointer (some ⟨B, 0, none⟩)) (fun _ _ _ _ => r_alloc (v := .agg #[.int .u64 0, .int .i64 0, .int .u64 0, .pointer none]) (by kernel_rfl) rfl) rfl rfl rfl (w_n rfl) ?_
      intro B4
      refine TL_store 2 (.cells #[.int .u64 ((belM mr3 e9).i.t), .int .i64 ((belM mr3 e9).i.s), .int .u64 ((belM mr3 e9).i.q), .pointer (belM mr3 e9).ptr] 36) rfl (fun _ _ hρ hm => r_store sz36 (hρ _ _ rfl) (hρ _ _ rfl) (hm.at 2 rfl) rfl rfl rfl rfl) rfl rfl (w_n rfl) ?_
      refine TL_q (.bool true) (fun _ _ hρ _ => r_assign (hρ _ _ rfl)) rfl rfl rfl (w_n rfl) ?_
      refine TL_seq ?_
      obtain ⟨n9, hnz⟩ : ∃ z, z = aheadL (idsM mr3) e9 := ⟨_, rfl⟩
      have hnl : n9 ≤ mr3.length := by rw [hnz, ← ids_len mr3]; exact ahead_le _ _
      rw [← hnz, List.length_take] at hsm
      have hnp : 1 ≤ n9 := by omega
      obtain ⟨y9, hy9⟩ : ∃ x, mr3[n9 - 1]? = some x := ⟨_, List.getElem?_eq_getElem (by omega)⟩
      have hby : belM mr3 e9 = y9 := bel_at hnz hnp hnl hy9
      rw [hby]
      refine T_seq (T_draw (V := [(0, .slice ar3 mr3.length cr3), (1, .agg #[.int .u64 e9.t, .int .i64 e9.s, .int .u64 e9.q]), (3, .slice ar3 mr3.length cr3), (4, .pointer (some ⟨B1, 0, none⟩)), (5, .int .u64 e9.t)]) [0, 0, 3, 0, 0, 16, 63, 127, 255] [[(5, none)], [(3, none)], [(26, some 0), (27, some 1)], [(5, none)], [(3, none)], [(30, some 4)], [(29, some 3), (31, some 5)], [(28, some 2)], [(32, some 6)]] 68 mixed (by kernel_rfl) ?_)
      refine G_step [0, 1, 3, 4, 5] 2 [] (by kernel_rfl) (allM (all_cons (q_run (.slice ar3 mr3.length cr3) rfl rfl (wv_n rfl) rfl (fun _ _ hρ _ => r_move (hρ _ _ rfl))) (all_cons (q_run (.agg #[.int .u64 e9.t, .int .i64 e9.s, .int .u64 e9.q]) rfl rfl (wv_n rfl) rfl (fun _ _ hρ hm => r_loadA ag32 sz32 (hρ _ _ rfl) (hm.at 1 rfl) rfl rfl)) (all_cons (q_run (.slice ar3 mr3.length cr3) rfl rfl (wv_n rfl) rfl (fun _ _ hρ _ => r_move (hρ _ _ rfl))) (all_cons (q_run (.pointer (some ⟨B1, 0, none⟩)) rfl rfl (wv_n rfl) rfl (fun _ _ hρ _ => r_fieldAddr fl32_0 sz30 (hρ _ _ rfl))) (all_cons (q_run (.int .u64 e9.t) rfl rfl (wv_n rfl) rfl (fun _ _ hρ hm => r_load ag30 (hρ _ _ rfl) (hm.at 1 rfl) rfl)) all_nil)))))) (allM (all_cons ?_ all_nil))
      refine LOb_callN (fun (_ : Option Addr × Nat) => True) (fun (ar7, cr7) => .slice ar7 ((mr3.take (aheadL (idsM mr3) e9)).length) cr7) (fun (ar7, cr7) => [(956, .row (.slice ar7 ((mr3.take (aheadL (idsM mr3) e9)).length) cr7) 36 4 ((mr3.take (aheadL (idsM mr3) e9)).length) ((mr3.take (aheadL (idsM mr3) e9)).flatMap Mk.cells))]) (fun (ar7, cr7) => []) rfl (wv_n rfl) rfl rfl (fun _ _ hρ _ => r_call (args := [.slice ar3 mr3.length cr3, .agg #[.int .u64 e9.t, .int .i64 e9.s, .int .u64 e9.q]]) (enters_of Try.func27 (by kernel_rfl) rfl) (hρ _ _ rfl) ((cons2 (hρ _ _ rfl) (cons2 (hρ _ _ rfl) rfl))) rfl) (fun w hm => (drop_ok mr3 ar3 cr3 e9 w (SliceAt.own Mk.cells_len (hm.row 952 rfl) rfl rfl) (row_cap (hm.row 952 rfl)) hmk).mono fun e w' ⟨a', cap', he, hb, hr⟩ => ⟨(a', cap'), trivial, he, hb, newOk1 956 hr⟩) (fun (ar7, cr7) => by kernel_rfl) ?_
      rintro ⟨ar7, cr7⟩ -
      refine G_step [3, 4, 5] 6 [] (by kernel_rfl) (allM (all_cons (q_run (.slice ar3 mr3.length cr3) rfl rfl (wv_n rfl) rfl (fun _ _ hρ _ => r_move (hρ _ _ rfl))) (all_cons (q_run (.pointer (some ⟨B1, 0, none⟩)) rfl rfl (wv_n rfl) rfl (fun _ _ hρ _ => r_fieldAddr fl32_0 sz30 (hρ _ _ rfl))) (all_cons (q_run (.int .u64 e9.t) rfl rfl (wv_n rfl) rfl (fun _ _ hρ hm => r_load ag30 (hρ _ _ rfl) (hm.at 1 rfl) rfl)) all_nil)))) (allM (all_cons ?_ all_nil))
      refine LOb_callN (fun (_ : Option Addr × Nat) => True) (fun (ar8, cr8) => .slice ar8 ((mr3.filter (fun x : Mk => decide (e9.t < x.i.t))).length) cr8) (fun (ar8, cr8) => [(957, .row (.slice ar8 ((mr3.filter (fun x : Mk => decide (e9.t < x.i.t))).length) cr8) 36 4 ((mr3.filter (fun x : Mk => decide (e9.t < x.i.t))).length) ((mr3.filter (fun x : Mk => decide (e9.t < x.i.t))).flatMap Mk.cells))]) (fun (ar8, cr8) => [(7, .slice ar7 ((mr3.take (aheadL (idsM mr3) e9)).length) cr7), (8, .slice ar8 ((mr3.filter (fun x : Mk => decide (e9.t < x.i.t))).length) cr8)]) rfl (wv_n rfl) rfl rfl (fun _ _ hρ _ => r_call (args := [.slice ar3 mr3.length cr3, .int .u64 e9.t]) (enters_of Try.func28 (by kernel_rfl) rfl) (hρ _ _ rfl) ((cons2 (hρ _ _ rfl) (cons2 (hρ _ _ rfl) rfl))) rfl) (fun w hm => (fold_ok mr3 ar3 cr3 e9.t w (SliceAt.own Mk.cells_len (hm.row 952 rfl) rfl rfl) (row_cap (hm.row 952 rfl)) hmk).mono fun e w' ⟨a', cap', he, hb, hr⟩ => ⟨(a', cap'), trivial, he, hb, newOk1 957 hr⟩) (fun (ar8, cr8) => by kernel_rfl) ?_
      rintro ⟨ar8, cr8⟩ -
      refine G_last [7, 8] [(3, .pointer (some ⟨B1, 0, none⟩)), (4, .bool false), (5, .slice ar3 mr3.length cr3), (6, .pointer (some ⟨B4, 0, none⟩)), (7, .bool true), (8, .slice ar7 ((mr3.take (aheadL (idsM mr3) e9)).length) cr7), (9, .slice ar8 ((mr3.filter (fun x : Mk => decide (e9.t < x.i.t))).length) cr8)] (by kernel_rfl) (allM (all_cons (q_run (.slice ar7 ((mr3.take (aheadL (idsM mr3) e9)).length) cr7) rfl rfl (wv_n rfl) rfl (fun _ _ hρ _ => r_assign (hρ _ _ rfl))) (all_cons (q_run (.slice ar8 ((mr3.filter (fun x : Mk => decide (e9.t < x.i.t))).length) cr8) rfl rfl (wv_n rfl) rfl (fun _ _ hρ _ => r_assign (hρ _ _ rfl))) all_nil))) (end_old rfl rfl (end_old rfl rfl (end_old rfl rfl (end_old rfl rfl (end_old rfl rfl (end_new 7 rfl rfl (end_new 8 rfl rfl end_nil))))))) ?_
      refine T_seq ?_
      rw [← hnz]
      obtain ⟨f9, hf9⟩ : ∃ z, z = foldN (idsM mr3) e9.t := ⟨_, rfl⟩
      have hf9l : f9 ≤ mr3.length := by rw [hf9, ← ids_len mr3]; exact fold_le _ _
      have hfd : mr3.filter (fun x : Mk => decide (e9.t < x.i.t)) = mr3.drop f9 := by rw [hf9]; exact fold_marks hmk
      rw [hfd]
      have htl : (mr3.take n9).length = n9 := by rw [List.length_take]; omega
      have hdl : (mr3.drop f9).length = mr3.length - f9 := List.length_drop
      refine T_seq (T_region ?_)
      refine TL_q (.slice ar3 mr3.length cr3) (fun _ _ hρ _ => r_move (hρ _ _ rfl)) rfl rfl rfl (w_n rfl) ?_
      refine TL_call (.int .i64 0) (fun _ _ hρ _ => r_call (args := [.slice ar3 mr3.length cr3]) (enters_of Try.func14 (by kernel_rfl) rfl) (hρ _ _ rfl) ((cons2 (hρ _ _ rfl) rfl)) rfl) (fun w hm => (check_c mr3 ar3 cr3 w (SliceAt.own Mk.cells_len (hm.row 952 rfl) rfl rfl) (row_cap (hm.row 952 rfl))).mono fun _ _ h => ⟨h.1.trans (congrArg Ending.returned (int_as (if_pos hmk))), h.2⟩) rfl rfl rfl (w_n rfl) ?_
      refine TL_q (.bool false) (fun _ _ hρ _ => r_as (r_neq (hρ _ _ rfl) (hρ _ _ rfl)) (by rfl)) rfl rfl rfl (w_n rfl) ?_
      refine TL_seq ?_
      refine T_cond_f rfl ?_
      refine T_skip' ?_
      refine p_seq ?_
      refine T_seq ?_
      refine T_rowcap 956 rfl (fun hrc6 => ?_)
      refine T_rowcap 952 rfl (fun hrc2 => ?_)
      obtain ⟨l9, hl9, hn9⟩ : ∃ lz, lz = ((mr3.take n9).drop (((mr3.take n9).length) - 1)).take ((mr3.take n9).length - (((mr3.take n9).length) - 1)) ∧ lz.length = (mr3.take n9).length - (((mr3.take n9).length) - 1) := ⟨_, rfl, by rw [List.length_take, List.length_drop]; omega⟩
      obtain ⟨a9, ha9⟩ : ∃ az : Option Addr, az = (if cr7 = ((mr3.take n9).length) - 1 then (ar7 : Option Addr) else Option.map (fun z : Addr => z.add ((((mr3.take n9).length) - 1) * 4)) (ar7 : Option Addr)) := ⟨_, rfl⟩
      refine T_seq (T_draw (V := [(0, .bool true), (1, .slice ar7 ((mr3.take n9).length) cr7), (2, .int .i64 (((mr3.take n9).length : Nat) : Int)), (3, .bool true), (4, .bool false), (5, .bool false), (6, .bool true), (7, .bool true), (8, .slice ar7 ((mr3.take n9).length) cr7), (9, .slice ar7 ((mr3.take n9).length) cr7), (10, .int .i64 (((mr3.take n9).length : Nat) : Int)), (11, .int .i64 ((((mr3.take n9).length) - 1 : Nat) : Int)), (12, .slice a9 l9.length (cr7 - (((mr3.take n9).length) - 1))), (13, .agg #[.int .u64 y9.i.t, .int .i64 y9.i.s, .int .u64 y9.i.q, .pointer y9.ptr])]) [0, 0, 2, 6, 15, 31, 63, 127, 255, 255, 767, 1791, 4095, 255, 8447, 32767, 65535, 131071, 262143, 524287, 1048575, 2097151, 4194303, 8388607, 16777215, 33554431, 67108863, 134217727, 268435455] [[(7, none)], [(8, none)], [(56, some 1)], [(57, some 2)], [(55, some 0), (58, some 3)], [(59, some 4)], [(7, none)], [(61, some 6)], [(8, none)], [(8, none)], [(64, some 9)], [(65, some 10)], [(63, some 8), (66, some 11)], [(6, none)], [(68, some 13)], [(67, some 12), (69, some 14)], [(70, some 15)], [(71, some 16), (62, some 7)], [(72, some 17), (60, some 5)], [(73, some 18)], [(8, none)], [(75, some 20)], [(76, some 21)], [(77, some 22), (74, some 19)], [(78, some 23)], [(9, none)], [(80, some 25)], [(81, some 26)], [(82, some 27), (79, some 24)]] 69255168 mixed (by kernel_rfl) ?_)
      refine G_step [0, 1, 2, 3, 4, 5, 6, 7, 8, 9, 10, 11, 12, 13] 14 [] (by kernel_rfl) (allM (all_cons (q_run (.bool true) rfl rfl (wv_n rfl) rfl (fun _ _ hρ _ => r_move (hρ _ _ rfl))) (all_cons (q_run (.slice ar7 ((mr3.take n9).length) cr7) rfl rfl (wv_n rfl) rfl (fun _ _ hρ _ => r_move (hρ _ _ rfl))) (all_cons (q_run (.int .i64 (((mr3.take n9).length : Nat) : Int)) rfl rfl (wv_n rfl) rfl (fun _ _ hρ _ => r_len sl25 (hρ _ _ rfl))) (all_cons (q_run (.bool true) rfl rfl (wv_n rfl) rfl (fun _ _ hρ _ => r_as (r_gtr (hρ _ _ rfl) (hρ _ _ rfl)) (bool_as (decide_eq_true (by rw [htl]; omega))))) (all_cons (q_run (.bool false) rfl rfl (wv_n rfl) rfl (fun _ _ hρ _ => r_as (r_neqB (by kernel_rfl) (hρ _ _ rfl) (hρ _ _ rfl)) (by rfl))) (all_cons (q_run (.bool false) rfl rfl (wv_n rfl) rfl (fun _ _ hρ _ => r_move (hρ _ _ rfl))) (all_cons (q_run (.bool true) rfl rfl (wv_y rfl rfl) rfl (fun _ _ hρ _ => r_move (hρ _ _ rfl))) (all_cons (q_run (.bool true) rfl rfl (wv_y rfl rfl) rfl (fun _ _ hρ _ => r_move (hρ _ _ rfl))) (all_cons (q_run (.slice ar7 ((mr3.take n9).length) cr7) rfl rfl (wv_y rfl rfl) rfl (fun _ _ hρ _ => r_move (hρ _ _ rfl))) (all_cons (q_run (.slice ar7 ((mr3.take n9).length) cr7) rfl rfl (wv_y rfl rfl) rfl (fun _ _ hρ _ => r_move (hρ _ _ rfl))) (all_cons (q_run (.int .i64 (((mr3.take n9).length : Nat) : Int)) rfl rfl (wv_y rfl rfl) rfl (fun _ _ hρ _ => r_len sl25 (hρ _ _ rfl))) (all_cons (q_run (.int .i64 ((((mr3.take n9).length) - 1 : Nat) : Int)) rfl rfl (wv_y rfl rfl) rfl (fun _ _ hρ _ => r_as (r_sub (hρ _ _ rfl) (hρ _ _ rfl)) (int_as ((wrap64 (by omega) (by omega)).trans (by omega))))) (all_cons (q_run (.slice a9 l9.length (cr7 - (((mr3.take n9).length) - 1))) rfl rfl (wv_y rfl rfl) rfl (fun ρ _ hρ _ => r_as (r_sliceO sl25 sz36 (hρ _ _ rfl) (bd_none ρ _) (bd_none ρ _) (bd_some (n := ((mr3.take n9).length) - 1) (hρ _ _ rfl)) (by simp) (by omega) (by omega) (by omega)) (by rw [hn9, ha9]))) (all_cons (q_run (.agg #[.int .u64 y9.i.t, .int .i64 y9.i.s, .int .u64 y9.i.q, .pointer y9.ptr]) rfl rfl (wv_y rfl rfl) rfl (fun _ _ hρ hm => r_loadA ag36 sz36 (hρ _ _ rfl) (hm.at 2 rfl) rfl rfl)) all_nil))))))))))))))) (allM (all_cons ?_ all_nil))
      refine LOb_new 3 (.cells #[.int .u64 y9.i.t, .int .i64 y9.i.s, .int .u64 y9.i.q, .pointer y9.ptr] 36) (fun B => .slice (some ⟨B, 0, none⟩) 1 1) (fun B => []) rfl (wv_y rfl rfl) rfl rfl (fun _ _ hρ _ => r_buildSlice (vs := [(0, .agg #[.int .u64 y9.i.t, .int .i64 y9.i.s, .int .u64 y9.i.q, .pointer y9.ptr])]) (by kernel_rfl) (cons2 (pair2 (hρ _ _ rfl)) rfl)) (fun B => by kernel_rfl) ?_
      intro B10
      refine G_step [8, 9, 10, 11, 12] 15 [] (by kernel_rfl) (allM (all_cons (q_run (.slice ar7 ((mr3.take n9).length) cr7) rfl rfl (wv_y rfl rfl) rfl (fun _ _ hρ _ => r_move (hρ _ _ rfl))) (all_cons (q_run (.slice ar7 ((mr3.take n9).length) cr7) rfl rfl (wv_y rfl rfl) rfl (fun _ _ hρ _ => r_move (hρ _ _ rfl))) (all_cons (q_run (.int .i64 (((mr3.take n9).length : Nat) : Int)) rfl rfl (wv_y rfl rfl) rfl (fun _ _ hρ _ => r_len sl25 (hρ _ _ rfl))) (all_cons (q_run (.int .i64 ((((mr3.take n9).length) - 1 : Nat) : Int)) rfl rfl (wv_y rfl rfl) rfl (fun _ _ hρ _ => r_as (r_sub (hρ _ _ rfl) (hρ _ _ rfl)) (int_as ((wrap64 (by omega) (by omega)).trans (by omega))))) (all_cons (q_run (.slice a9 l9.length (cr7 - (((mr3.take n9).length) - 1))) rfl rfl (wv_y rfl rfl) rfl (fun ρ _ hρ _ => r_as (r_sliceO sl25 sz36 (hρ _ _ rfl) (bd_none ρ _) (bd_none ρ _) (bd_some (n := ((mr3.take n9).length) - 1) (hρ _ _ rfl)) (by simp) (by omega) (by omega) (by omega)) (by rw [hn9, ha9]))) all_nil)))))) (allM (all_cons ?_ all_nil))
      refine LOb_call (.bool true) [(16, .bool false), (17, .bool false), (18, .bool false), (19, .bool false), (20, .slice ar7 ((mr3.take n9).length) cr7)] rfl (wv_y rfl rfl) rfl rfl (fun _ _ hρ _ => r_call (args := [.slice a9 l9.length (cr7 - (((mr3.take n9).length) - 1)), .slice (some ⟨B10, 0, none⟩) 1 1]) (enters_of Try.func35 (by kernel_rfl) rfl) (hρ _ _ rfl) ((cons2 (hρ _ _ rfl) (cons2 (hρ _ _ rfl) rfl))) rfl) (fun w hm => msame2_c l9 [y9] (by rw [hl9]; exact last_one hnp hnl hy9) a9 (cr7 - (((mr3.take n9).length) - 1)) (some ⟨B10, 0, none⟩) 1 w (by have hs := SliceAt.part (l := (mr3.take n9)) (SliceAt.own Mk.cells_len (hm.row 956 rfl) rfl rfl) (lo := ((mr3.take n9).length) - 1) (hi := (mr3.take n9).length) (m := cr7) (by omega) (by omega) (by omega) (by omega); rw [← hl9, ← ha9] at hs; exact hs) (Nat.le_trans (Nat.sub_le _ _) (row_cap (hm.row 956 rfl))) ⟨Nat.le_of_ble_eq_true rfl, (fun e => by cases e), .inr ⟨_, 0, _, _, _, rfl, (hm.at 3 rfl), row_of_take (fun _ => rfl) rfl⟩⟩ (Nat.le_of_ble_eq_true rfl) (cvs2_sub (cvs2_row (fun c hc => hm.cv 962 rfl hc) hr3.2) (fun z hz => by rw [hl9] at hz; exact List.mem_of_mem_take (List.mem_of_mem_drop (List.mem_of_mem_take hz))))) (by kernel_rfl) ?_
      refine G_step [16, 17, 18, 19, 20] 21 [] (by kernel_rfl) (allM (all_cons (q_run (.bool false) rfl rfl (wv_y rfl rfl) rfl (fun _ _ hρ _ => r_not (b := true) (hρ _ _ rfl))) (all_cons (q_run (.bool false) rfl rfl (wv_y rfl rfl) rfl (fun _ _ hρ _ => r_pick_t (hρ _ _ rfl) (hρ _ _ rfl))) (all_cons (q_run (.bool false) rfl rfl (wv_n rfl) rfl (fun _ _ hρ _ => r_pick_f (hρ _ _ rfl) (hρ _ _ rfl))) (all_cons (q_run (.bool false) rfl rfl (wv_n rfl) rfl (fun _ _ hρ _ => r_move (hρ _ _ rfl))) (all_cons (q_run (.slice ar7 ((mr3.take n9).length) cr7) rfl rfl (wv_y rfl rfl) rfl (fun _ _ hρ _ => r_move (hρ _ _ rfl))) all_nil)))))) (allM (all_cons ?_ all_nil))
      refine LOb_call (.int .i64 0) [(22, .bool false), (23, .bool false), (24, .bool false), (25, .slice ar8 ((mr3.drop f9).length) cr8)] rfl (wv_y rfl rfl) rfl rfl (fun _ _ hρ _ => r_call (args := [.slice ar7 ((mr3.take n9).length) cr7]) (enters_of Try.func14 (by kernel_rfl) rfl) (hρ _ _ rfl) ((cons2 (hρ _ _ rfl) rfl)) rfl) (fun w hm => (check_c (mr3.take n9) ar7 cr7 w (SliceAt.own Mk.cells_len (hm.row 956 rfl) rfl rfl) (row_cap (hm.row 956 rfl))).mono fun _ _ h => ⟨h.1.trans (congrArg Ending.returned (int_as (if_pos (mk_take hmk rfl)))), h.2⟩) (by kernel_rfl) ?_
      refine G_step [22, 23, 24, 25] 26 [] (by kernel_rfl) (allM (all_cons (q_run (.bool false) rfl rfl (wv_y rfl rfl) rfl (fun _ _ hρ _ => r_as (r_neq (hρ _ _ rfl) (hρ _ _ rfl)) (by rfl))) (all_cons (q_run (.bool false) rfl rfl (wv_n rfl) rfl (fun _ _ hρ _ => r_pick_f (hρ _ _ rfl) (hρ _ _ rfl))) (all_cons (q_run (.bool false) rfl rfl (wv_n rfl) rfl (fun _ _ hρ _ => r_move (hρ _ _ rfl))) (all_cons (q_run (.slice ar8 ((mr3.drop f9).length) cr8) rfl rfl (wv_y rfl rfl) rfl (fun _ _ hρ _ => r_move (hρ _ _ rfl))) all_nil))))) (allM (all_cons ?_ all_nil))
      refine LOb_call (.int .i64 0) [(27, .bool false), (28, .bool false)] rfl (wv_y rfl rfl) rfl rfl (fun _ _ hρ _ => r_call (args := [.slice ar8 ((mr3.drop f9).length) cr8]) (enters_of Try.func14 (by kernel_rfl) rfl) (hρ _ _ rfl) ((cons2 (hρ _ _ rfl) rfl)) rfl) (fun w hm => (check_c (mr3.drop f9) ar8 cr8 w (SliceAt.own Mk.cells_len (hm.row 957 rfl) rfl rfl) (row_cap (hm.row 957 rfl))).mono fun _ _ h => ⟨h.1.trans (congrArg Ending.returned (int_as (if_pos (marks_sub hmk (List.drop_sublist _ _))))), h.2⟩) (by kernel_rfl) ?_
      refine G_last [27, 28] [(3, .pointer (some ⟨B1, 0, none⟩)), (4, .bool false), (5, .slice ar3 mr3.length cr3), (8, .slice ar7 ((mr3.take n9).length) cr7), (9, .slice ar8 ((mr3.drop f9).length) cr8), (83, .bool false)] (by kernel_rfl) (allM (all_cons (q_run (.bool false) rfl rfl (wv_y rfl rfl) rfl (fun _ _ hρ _ => r_as (r_neq (hρ _ _ rfl) (hρ _ _ rfl)) (by rfl))) (all_cons (q_run (.bool false) rfl rfl (wv_n rfl) rfl (fun _ _ hρ _ => r_pick_f (hρ _ _ rfl) (hρ _ _ rfl))) all_nil))) (end_old rfl rfl (end_old rfl rfl (end_old rfl rfl (end_old rfl rfl (end_old rfl rfl (end_new 28 rfl rfl end_nil)))))) ?_
      refine T_cond_f rfl ?_
      refine T_skip' ?_
      refine p_seq ?_
      refine T_seq (T_region ?_)
      refine TL_q (.int .i64 0) (fun _ _ hρ _ => r_assign (hρ _ _ rfl)) rfl rfl rfl (w_n rfl) ?_
      refine TL_seq ?_
      refine T_seq ?_
      refine T_seq (T_region ?_)
      refine TL_q (.slice ar3 mr3.length cr3) (fun _ _ hρ _ => r_move (hρ _ _ rfl)) rfl rfl rfl (w_n rfl) ?_
      refine TL_q (.int .i64 ((mr3.length : Nat) : Int)) (fun _ _ hρ _ => r_len sl25 (hρ _ _ rfl)) rfl rfl rfl (w_n rfl) ?_
      refine TL_q (.int .i64 0) (fun _ _ hρ _ => r_move (hρ _ _ rfl)) rfl rfl rfl (w_n rfl) ?_
      refine TL_seq ?_
      refine T_block ?_
      refine T_loop (ι := Nat × Nat) (fun (z : Nat × Nat) => match z with | (k, c) => k ≤ mr3.length ∧ c = foldN ((idsM mr3).take k) e9.t) (fun (z : Nat × Nat) => match z with | (k, c) => [(3, .pointer (some ⟨B1, 0, none⟩)), (4, .bool false), (5, .slice ar3 mr3.length cr3), (8, .slice ar7 ((mr3.take n9).length) cr7), (9, .slice ar8 ((mr3.drop f9).length) cr8), (84, .slice ar3 mr3.length cr3), (85, .int .i64 ((mr3.length : Nat) : Int)), (86, .int .i64 ((k : Nat) : Int)), (10, .int .i64 ((c : Nat) : Int))]) (fun (z : Nat × Nat) => match z with | (k, c) => [(957, .row (.slice ar8 ((mr3.drop f9).length) cr8) 36 4 ((mr3.drop f9).length) ((mr3.drop f9).flatMap Mk.cells)), (956, .row (.slice ar7 ((mr3.take n9).length) cr7) 36 4 ((mr3.take n9).length) ((mr3.take n9).flatMap Mk.cells)), (952, .row (.slice ar3 mr3.length cr3) 36 4 mr3.length (mr3.flatMap Mk.cells)), (962, .cvs cs3), (951, .row (.slice ar2 ((x.take 6).length) cr2) 32 3 ((x.take 6).length) ((x.take 6).flatMap Tid.cells)), (1, .blk B1 (.cells #[.int .u64 e9.t, .int .i64 e9.s, .int .u64 e9.q] 32)), (2, .blk B4 (.cells #[.int .u64 y9.i.t, .int .i64 y9.i.s, .int .u64 y9.i.q, .pointer y9.ptr] 36)), (3, .blk B10 (.cells #[.int .u64 y9.i.t, .int .i64 y9.i.s, .int .u64 y9.i.q, .pointer y9.ptr] 36))]) (fun (z : Nat × Nat) => match z with | (k, c) => mr3.length - k) (0, 0) ⟨Nat.zero_le _, rfl⟩ (sub_cons rfl (sub_cons rfl (sub_cons rfl (sub_cons rfl (sub_cons rfl (sub_cons rfl (sub_cons rfl (sub_cons rfl (sub_cons rfl sub_nil))))))))) (sub_cons rfl (sub_cons rfl (sub_cons rfl (sub_cons rfl (sub_cons rfl (sub_cons rfl (sub_cons rfl (sub_cons rfl sub_nil)))))))) ?_
      rintro ⟨k, c⟩ hp
      obtain ⟨hk, hc⟩ := hp
      have hck : c ≤ k := by rw [hc]; exact Nat.le_trans (fold_le _ _) (by rw [List.length_take]; omega)
      show T _ _ _ [(3, .pointer (some ⟨B1, 0, none⟩)), (4, .bool false), (5, .slice ar3 mr3.length cr3), (8, .slice ar7 ((mr3.take n9).length) cr7), (9, .slice ar8 ((mr3.drop f9).length) cr8), (84, .slice ar3 mr3.length cr3), (85, .int .i64 ((mr3.length : Nat) : Int)), (86, .int .i64 ((k : Nat) : Int)), (10, .int .i64 ((c : Nat) : Int))] [(957, .row (.slice ar8 ((mr3.drop f9).length) cr8) 36 4 ((mr3.drop f9).length) ((mr3.drop f9).flatMap Mk.cells)), (956, .row (.slice ar7 ((mr3.take n9).length) cr7) 36 4 ((mr3.take n9).length) ((mr3.take n9).flatMap Mk.cells)), (952, .row (.slice ar3 mr3.length cr3) 36 4 mr3.length (mr3.flatMap Mk.cells)), (962, .cvs cs3), (951, .row (.slice ar2 ((x.take 6).length) cr2) 32 3 ((x.take 6).length) ((x.take 6).flatMap Tid.cells)), (1, .blk B1 (.cells #[.int .u64 e9.t, .int .i64 e9.s, .int .u64 e9.q] 32)), (2, .blk B4 (.cells #[.int .u64 y9.i.t, .int .i64 y9.i.s, .int .u64 y9.i.q, .pointer y9.ptr] 36)), (3, .blk B10 (.cells #[.int .u64 y9.i.t, .int .i64 y9.i.s, .int .u64 y9.i.q, .pointer y9.ptr] 36))]
      refine T_seq (T_region ?_)
      refine TL_q (.bool (decide (((k : Nat) : Int) < ((mr3.length : Nat) : Int)))) (fun _ _ hρ _ => r_lss (hρ _ _ rfl) (hρ _ _ rfl)) rfl rfl rfl (w_n rfl) ?_
      refine TL_seq ?_
      refine T_seq ?_
      refine T_cond rfl (fun h1 => ?_) (fun h1 => ?_)
      · replace h1 := of_decide_eq_true h1
        refine T_skip' ?_
        refine p_seq ?_
        refine T_seq ?_
        refine T_block ?_
        obtain ⟨p9, hp9⟩ : ∃ x, mr3[k]? = some x := ⟨_, List.getElem?_eq_getElem (by omega)⟩
        refine T_row 952 rfl (by omega) (fun g11 ha11 => ?_)
        subst ha11
        refine T_rowcap 952 rfl (fun hrc11 => ?_)
        refine T_seq (T_region ?_)
        refine TL_q (.pointer (some ⟨g11, 0 + k * 4, none⟩)) (fun _ _ hρ _ => r_indexAddrS (i := k) sl25 sz36 (hρ _ _ rfl) (hρ _ _ rfl) (by omega)) rfl rfl rfl (w_n rfl) ?_
        refine TL_q (.agg #[.int .u64 p9.i.t, .int .i64 p9.i.s, .int .u64 p9.i.q, .pointer p9.ptr]) (fun _ _ hρ hm => r_loadOwn (f := Mk.cells) (u := p9) (l := mr3) ag36 sz36 (hρ _ _ rfl) (hm.row 952 rfl) rfl rfl Mk.cells_len hp9) rfl rfl rfl (w_n rfl) ?_
        refine TL_new 4 (.cells #[.int .u64 0, .int .i64 0, .int .u64 0, .pointer none] 36) (fun B => .pointer (some ⟨B, 0, none⟩)) (fun _ _ _ _ => r_alloc (v := .agg #[.int .u64 0, .int .i64 0, .int .u64 0, .pointer none]) (by kernel_rfl) rfl) rfl rfl rfl (w_n rfl) ?_
        intro B12
        refine TL_store 4 (.cells #[.int .u64 p9.i.t, .int .i64 p9.i.s, .int .u64 p9.i.q, .pointer p9.ptr] 36) rfl (fun _ _ hρ hm => r_store sz36 (hρ _ _ rfl) (hρ _ _ rfl) (hm.at 4 rfl) rfl rfl rfl rfl) rfl rfl (w_n rfl) ?_
        refine TL_seq ?_
        by_cases hle : p9.i.t ≤ e9.t
        · skip
          refine T_seq (T_region ?_)
          refine TL_q (.pointer (some ⟨B12, 0, none⟩)) (fun _ _ hρ _ => r_fieldAddr fl36_0 sz32 (hρ _ _ rfl)) rfl rfl rfl (w_n rfl) ?_
          refine TL_q (.pointer (some ⟨B12, 0, none⟩)) (fun _ _ hρ _ => r_fieldAddr fl32_0 sz30 (hρ _ _ rfl)) rfl rfl rfl (w_n rfl) ?_
          refine TL_q (.int .u64 p9.i.t) (fun _ _ hρ hm => r_load ag30 (hρ _ _ rfl) (hm.at 4 rfl) rfl) rfl rfl rfl (w_n rfl) ?_
          refine TL_q (.pointer (some ⟨B1, 0, none⟩)) (fun _ _ hρ _ => r_fieldAddr fl32_0 sz30 (hρ _ _ rfl)) rfl rfl rfl (w_n rfl) ?_
          refine TL_q (.int .u64 e9.t) (fun _ _ hρ hm => r_load ag30 (hρ _ _ rfl) (hm.at 1 rfl) rfl) rfl rfl rfl (w_n rfl) ?_
          refine TL_q (.bool true) (fun _ _ hρ _ => r_as (r_leq (hρ _ _ rfl) (hρ _ _ rfl)) (bool_as (decide_eq_true hle))) rfl rfl rfl (w_n rfl) ?_
          refine TL_seq ?_
          refine T_cond_t rfl ?_
          refine T_region ?_
          refine TL_q (.int .i64 ((c : Nat) : Int)) (fun _ _ hρ _ => r_move (hρ _ _ rfl)) rfl rfl rfl (w_n rfl) ?_
          refine TL_q (.int .i64 ((c + 1 : Nat) : Int)) (fun _ _ hρ _ => r_as (r_add (hρ _ _ rfl) (hρ _ _ rfl)) (int_as ((wrap64 (by omega) (by omega)).trans (by omega)))) rfl rfl rfl (w_n rfl) ?_
          refine TL_q (.int .i64 ((c + 1 : Nat) : Int)) (fun _ _ hρ _ => r_assign (hρ _ _ rfl)) rfl rfl rfl (w_n rfl) ?_
          refine TL_nil ?_
          refine p_blk_n ?_
          refine p_seq ?_
          refine T_region ?_
          refine TL_q (.int .i64 ((k + 1 : Nat) : Int)) (fun _ _ hρ _ => r_as (r_add (hρ _ _ rfl) (hρ _ _ rfl)) (int_as ((wrap64 (by omega) (by omega)).trans (by omega)))) rfl rfl rfl (w_n rfl) ?_
          refine TL_q (.int .i64 ((k + 1 : Nat) : Int)) (fun _ _ hρ _ => r_move (hρ _ _ rfl)) rfl rfl rfl (w_n rfl) ?_
          refine TL_nil ?_
          exact p_at (k + 1, c + 1) ⟨⟨by omega, by rw [fold_step (ids_at hp9), if_pos hle, ← hc]⟩, by dsimp only; omega⟩ (sub_cons rfl (sub_cons rfl (sub_cons rfl (sub_cons rfl (sub_cons rfl (sub_cons rfl (sub_cons rfl (sub_cons rfl (sub_cons rfl sub_nil))))))))) (sub_cons rfl (sub_cons rfl (sub_cons rfl (sub_cons rfl (sub_cons rfl (sub_cons rfl (sub_cons rfl (sub_cons rfl sub_nil))))))))
        · skip
          refine T_seq (T_region ?_)
          refine TL_q (.pointer (some ⟨B12, 0, none⟩)) (fun _ _ hρ _ => r_fieldAddr fl36_0 sz32 (hρ _ _ rfl)) rfl rfl rfl (w_n rfl) ?_
          refine TL_q (.pointer (some ⟨B12, 0, none⟩)) (fun _ _ hρ _ => r_fieldAddr fl32_0 sz30 (hρ _ _ rfl)) rfl rfl rfl (w_n rfl) ?_
          refine TL_q (.int .u64 p9.i.t) (fun _ _ hρ hm => r_load ag30 (hρ _ _ rfl) (hm.at 4 rfl) rfl) rfl rfl rfl (w_n rfl) ?_
          refine TL_q (.pointer (some ⟨B1, 0, none⟩)) (fun _ _ hρ _ => r_fieldAddr fl32_0 sz30 (hρ _ _ rfl)) rfl rfl rfl (w_n rfl) ?_
          refine TL_q (.int .u64 e9.t) (fun _ _ hρ hm => r_load ag30 (hρ _ _ rfl) (hm.at 1 rfl) rfl) rfl rfl rfl (w_n rfl) ?_
          refine TL_q (.bool false) (fun _ _ hρ _ => r_as (r_leq (hρ _ _ rfl) (hρ _ _ rfl)) (bool_as (decide_eq_false hle))) rfl rfl rfl (w_n rfl) ?_
          refine TL_seq ?_
          refine T_cond_f rfl ?_
          refine T_skip' ?_
          refine p_blk_n ?_
          refine p_seq ?_
          refine T_region ?_
          refine TL_q (.int .i64 ((k + 1 : Nat) : Int)) (fun _ _ hρ _ => r_as (r_add (hρ _ _ rfl) (hρ _ _ rfl)) (int_as ((wrap64 (by omega) (by omega)).trans (by omega)))) rfl rfl rfl (w_n rfl) ?_
          refine TL_q (.int .i64 ((k + 1 : Nat) : Int)) (fun _ _ hρ _ => r_move (hρ _ _ rfl)) rfl rfl rfl (w_n rfl) ?_
          refine TL_nil ?_
          exact p_at (k + 1, c) ⟨⟨by omega, by rw [fold_step (ids_at hp9), if_neg hle, Nat.add_zero, ← hc]⟩, by dsimp only; omega⟩ (sub_cons rfl (sub_cons rfl (sub_cons rfl (sub_cons rfl (sub_cons rfl (sub_cons rfl (sub_cons rfl (sub_cons rfl (sub_cons rfl sub_nil))))))))) (sub_cons rfl (sub_cons rfl (sub_cons rfl (sub_cons rfl (sub_cons rfl (sub_cons rfl (sub_cons rfl (sub_cons rfl sub_nil))))))))
      · replace h1 := of_decide_eq_false h1
        refine T_exit' ?_
        refine p_then_x ?_
        refine p_then_x ?_
        refine p_blk_x ?_
        refine p_seq ?_
        refine T_seq ?_
        have hcf : c = f9 := by rw [hc, show k = mr3.length by omega, ← ids_len mr3, List.take_length, hf9]
        refine T_seq (T_region ?_)
        refine TL_q (.slice ar8 ((mr3.drop f9).length) cr8) (fun _ _ hρ _ => r_move (hρ _ _ rfl)) rfl rfl rfl (w_n rfl) ?_
        refine TL_q (.int .i64 (((mr3.drop f9).length : Nat) : Int)) (fun _ _ hρ _ => r_len sl25 (hρ _ _ rfl)) rfl rfl rfl (w_n rfl) ?_
        refine TL_q (.slice ar3 mr3.length cr3) (fun _ _ hρ _ => r_move (hρ _ _ rfl)) rfl rfl rfl (w_n rfl) ?_
        refine TL_q (.int .i64 ((mr3.length : Nat) : Int)) (fun _ _ hρ _ => r_len sl25 (hρ _ _ rfl)) rfl rfl rfl (w_n rfl) ?_
        refine TL_q (.int .i64 ((c : Nat) : Int)) (fun _ _ hρ _ => r_move (hρ _ _ rfl)) rfl rfl rfl (w_n rfl) ?_
        refine TL_q (.int .i64 ((mr3.length - c : Nat) : Int)) (fun _ _ hρ _ => r_as (r_sub (hρ _ _ rfl) (hρ _ _ rfl)) (int_as ((wrap64 (by omega) (by omega)).trans (by omega)))) rfl rfl rfl (w_n rfl) ?_
        refine TL_q (.bool false) (fun _ _ hρ _ => r_as (r_neq (hρ _ _ rfl) (hρ _ _ rfl)) (bool_as (by rw [hdl, hcf]; simp))) rfl rfl rfl (w_n rfl) ?_
        refine TL_q (.bool false) (fun _ _ hρ _ => r_move (hρ _ _ rfl)) rfl rfl rfl (w_n rfl) ?_
        refine TL_q (.slice ar8 ((mr3.drop f9).length) cr8) (fun _ _ hρ _ => r_move (hρ _ _ rfl)) rfl rfl rfl (want_y 106 rfl rfl rfl) ?_
        refine TL_q (.slice ar3 mr3.length cr3) (fun _ _ hρ _ => r_move (hρ _ _ rfl)) rfl rfl rfl (want_y 106 rfl rfl rfl) ?_
        refine TL_q (.int .i64 ((c : Nat) : Int)) (fun _ _ hρ _ => r_move (hρ _ _ rfl)) rfl rfl rfl (want_y 106 rfl rfl rfl) ?_
        obtain ⟨l13, hl13, hn13⟩ : ∃ lz, lz = (mr3.drop c).take (mr3.length - c) ∧ lz.length = mr3.length - c := ⟨_, rfl, by rw [List.length_take, List.length_drop]; omega⟩
        obtain ⟨a13, ha13⟩ : ∃ az : Option Addr, az = (if cr3 = c then (ar3 : Option Addr) else Option.map (fun z : Addr => z.add (c * 4)) (ar3 : Option Addr)) := ⟨_, rfl⟩
        refine TL_q (.slice a13 l13.length (cr3 - c)) (fun ρ _ hρ _ => r_as (r_sliceO sl25 sz36 (hρ _ _ rfl) (bd_none ρ _) (bd_none ρ _) (bd_some (n := c) (hρ _ _ rfl)) (by simp) (by omega) (by omega) (by omega)) (by rw [hn13, ha13])) rfl rfl rfl (want_y 106 rfl rfl rfl) ?_
        refine TL_call (.bool true) (fun _ _ hρ _ => r_call (args := [.slice ar8 ((mr3.drop f9).length) cr8, .slice a13 l13.length (cr3 - c)]) (enters_of Try.func35 (by kernel_rfl) rfl) (hρ _ _ rfl) ((cons2 (hρ _ _ rfl) (cons2 (hρ _ _ rfl) rfl))) rfl) (fun w hm => msame2_c (mr3.drop f9) l13 (by rw [hl13, hcf, List.take_of_length_le (by rw [List.length_drop]; exact Nat.le_refl _)]) ar8 cr8 a13 (cr3 - c) w (SliceAt.own Mk.cells_len (hm.row 957 rfl) rfl rfl) (row_cap (hm.row 957 rfl)) (by have hs := SliceAt.part (l := mr3) (SliceAt.own Mk.cells_len (hm.row 952 rfl) rfl rfl) (lo := c) (hi := mr3.length) (m := cr3) (by omega) (by omega) (by omega) (by omega); rw [← hl13, ← ha13] at hs; exact hs) (Nat.le_trans (Nat.sub_le _ _) (row_cap (hm.row 952 rfl))) (cvs2_sub (cvs2_row (fun c hc => hm.cv 962 rfl hc) hr3.2) (fun z hz => List.mem_of_mem_drop hz))) rfl rfl rfl (want_y 106 rfl rfl rfl) ?_
        refine TL_q (.bool false) (fun _ _ hρ _ => r_not (b := true) (hρ _ _ rfl)) rfl rfl rfl (want_y 106 rfl rfl rfl) ?_
        refine TL_q (.bool false) (fun _ _ hρ _ => r_pick_f (hρ _ _ rfl) (hρ _ _ rfl)) rfl rfl rfl (w_n rfl) ?_
        refine TL_seq ?_
        refine T_cond_f rfl ?_
        refine T_skip' ?_
        refine p_seq ?_
        refine T_seq (T_region ?_)
        refine TL_q (.int .i64 0) (fun _ _ hρ _ => r_assign (hρ _ _ rfl)) rfl rfl rfl (w_n rfl) ?_
        refine TL_seq ?_
        refine T_seq ?_
        refine T_seq (T_region ?_)
        refine TL_q (.int .i64 1) (fun _ _ hρ _ => r_assign (hρ _ _ rfl)) rfl rfl rfl (w_n rfl) ?_
        refine TL_seq ?_
        refine T_block ?_
        refine T_loop (ι := Nat × Nat) (fun (z : Nat × Nat) => match z with | (k2, c2) => 1 ≤ k2 ∧ (k2 ≤ mr3.length ∨ k2 = 1) ∧ c2 = sumS mr3 k2 ∧ c2 ≤ 2 * k2) (fun (z : Nat × Nat) => match z with | (k2, c2) => [(3, .pointer (some ⟨B1, 0, none⟩)), (4, .bool false), (5, .slice ar3 mr3.length cr3), (8, .slice ar7 ((mr3.take n9).length) cr7), (14, .int .i64 ((k2 : Nat) : Int)), (13, .int .i64 ((c2 : Nat) : Int))]) (fun (z : Nat × Nat) => match z with | (k2, c2) => [(957, .row (.slice ar8 ((mr3.drop f9).length) cr8) 36 4 ((mr3.drop f9).length) ((mr3.drop f9).flatMap Mk.cells)), (956, .row (.slice ar7 ((mr3.take n9).length) cr7) 36 4 ((mr3.take n9).length) ((mr3.take n9).flatMap Mk.cells)), (952, .row (.slice ar3 mr3.length cr3) 36 4 mr3.length (mr3.flatMap Mk.cells)), (962, .cvs cs3), (951, .row (.slice ar2 ((x.take 6).length) cr2) 32 3 ((x.take 6).length) ((x.take 6).flatMap Tid.cells)), (1, .blk B1 (.cells #[.int .u64 e9.t, .int .i64 e9.s, .int .u64 e9.q] 32)), (2, .blk B4 (.cells #[.int .u64 y9.i.t, .int .i64 y9.i.s, .int .u64 y9.i.q, .pointer y9.ptr] 36)), (3, .blk B10 (.cells #[.int .u64 y9.i.t, .int .i64 y9.i.s, .int .u64 y9.i.q, .pointer y9.ptr] 36))]) (fun (z : Nat × Nat) => match z with | (k2, c2) => mr3.length - k2) (1, 0) ⟨Nat.le_refl _, .inr rfl, rfl, by decide⟩ (sub_cons rfl (sub_cons rfl (sub_cons rfl (sub_cons rfl (sub_cons rfl (sub_cons rfl sub_nil)))))) (sub_cons rfl (sub_cons rfl (sub_cons rfl (sub_cons rfl (sub_cons rfl (sub_cons rfl (sub_cons rfl (sub_cons rfl sub_nil)))))))) ?_
        rintro ⟨k2, c2⟩ hp
        obtain ⟨hk2, hk3, hc2, hc3⟩ := hp
        show T _ _ _ [(3, .pointer (some ⟨B1, 0, none⟩)), (4, .bool false), (5, .slice ar3 mr3.length cr3), (8, .slice ar7 ((mr3.take n9).length) cr7), (14, .int .i64 ((k2 : Nat) : Int)), (13, .int .i64 ((c2 : Nat) : Int))] [(957, .row (.slice ar8 ((mr3.drop f9).length) cr8) 36 4 ((mr3.drop f9).length) ((mr3.drop f9).flatMap Mk.cells)), (956, .row (.slice ar7 ((mr3.take n9).length) cr7) 36 4 ((mr3.take n9).length) ((mr3.take n9).flatMap Mk.cells)), (952, .row (.slice ar3 mr3.length cr3) 36 4 mr3.length (mr3.flatMap Mk.cells)), (962, .cvs cs3), (951, .row (.slice ar2 ((x.take 6).length) cr2) 32 3 ((x.take 6).length) ((x.take 6).flatMap Tid.cells)), (1, .blk B1 (.cells #[.int .u64 e9.t, .int .i64 e9.s, .int .u64 e9.q] 32)), (2, .blk B4 (.cells #[.int .u64 y9.i.t, .int .i64 y9.i.s, .int .u64 y9.i.q, .pointer y9.ptr] 36)), (3, .blk B10 (.cells #[.int .u64 y9.i.t, .int .i64 y9.i.s, .int .u64 y9.i.q, .pointer y9.ptr] 36))]
        refine T_seq ?_
        refine T_seq (T_region ?_)
        refine TL_q (.int .i64 ((k2 : Nat) : Int)) (fun _ _ hρ _ => r_move (hρ _ _ rfl)) rfl rfl rfl (w_n rfl) ?_
        refine TL_q (.slice ar3 mr3.length cr3) (fun _ _ hρ _ => r_move (hρ _ _ rfl)) rfl rfl rfl (w_n rfl) ?_
        refine TL_q (.int .i64 ((mr3.length : Nat) : Int)) (fun _ _ hρ _ => r_len sl25 (hρ _ _ rfl)) rfl rfl rfl (w_n rfl) ?_
        refine TL_q (.bool (decide (((k2 : Nat) : Int) < ((mr3.length : Nat) : Int)))) (fun _ _ hρ _ => r_lss (hρ _ _ rfl) (hρ _ _ rfl)) rfl rfl rfl (w_n rfl) ?_
        refine TL_seq ?_
        refine T_cond rfl (fun h2 => ?_) (fun h2 => ?_)
        · replace h2 := of_decide_eq_true h2
          refine T_skip' ?_
          refine p_seq ?_
          refine T_seq ?_
          refine T_block ?_
          obtain ⟨m9, hm9⟩ : ∃ x, mr3[k2]? = some x := ⟨_, List.getElem?_eq_getElem (by omega)⟩
          obtain ⟨x9, hx9⟩ : ∃ x, mr3[k2 - 1]? = some x := ⟨_, List.getElem?_eq_getElem (by omega)⟩
          obtain ⟨cm, hcm0, hcm1, hcm3, hcm4, _⟩ := hr3.2 k2 m9 hm9
          obtain ⟨cx, hcx0, hcx1, hcx3, hcx4, _⟩ := hr3.2 (k2 - 1) x9 hx9
          refine T_row 952 rfl (by omega) (fun g14 ha14 => ?_)
          subst ha14
          refine T_rowcap 952 rfl (fun hrc14 => ?_)
          refine T_pure (fun _ hm => shM_le (y := m9) hcx1 (hm.cv 962 rfl hcx0) hcx3 hcx4) (fun hsm9 => ?_)
          refine T_draw (V := [(0, .int .i64 ((c2 : Nat) : Int)), (1, .slice (some ⟨g14, 0, none⟩) mr3.length cr3), (2, .int .i64 ((k2 : Nat) : Int)), (3, .int .i64 ((k2 - 1 : Nat) : Int)), (4, .pointer (some ⟨g14, 0 + (k2 - 1) * 4, none⟩)), (5, .pointer (some ⟨g14, 0 + (k2 - 1) * 4 + 3, none⟩)), (6, .pointer x9.ptr), (7, .slice (some ⟨g14, 0, none⟩) mr3.length cr3), (8, .int .i64 ((k2 : Nat) : Int)), (9, .pointer (some ⟨g14, 0 + k2 * 4, none⟩)), (10, .pointer (some ⟨g14, 0 + k2 * 4 + 3, none⟩)), (11, .pointer m9.ptr)]) [0, 0, 0, 4, 14, 30, 62, 0, 0, 384, 896, 1920, 4094, 8191, 16383] [[(13, none)], [(5, none)], [(14, none)], [(122, some 2)], [(121, some 1), (123, some 3)], [(124, some 4)], [(125, some 5)], [(5, none)], [(14, none)], [(127, some 7), (128, some 8)], [(129, some 9)], [(130, some 10)], [(126, some 6), (131, some 11)], [(120, some 0), (132, some 12)], [(133, some 13)]] 4096 mixed (by kernel_rfl) ?_
          refine G_step [0, 1, 2, 3, 4, 5, 6, 7, 8, 9, 10, 11] 12 [] (by kernel_rfl) (allM (all_cons (q_run (.int .i64 ((c2 : Nat) : Int)) rfl rfl (wv_n rfl) rfl (fun _ _ hρ _ => r_move (hρ _ _ rfl))) (all_cons (q_run (.slice (some ⟨g14, 0, none⟩) mr3.length cr3) rfl rfl (wv_n rfl) rfl (fun _ _ hρ _ => r_move (hρ _ _ rfl))) (all_cons (q_run (.int .i64 ((k2 : Nat) : Int)) rfl rfl (wv_n rfl) rfl (fun _ _ hρ _ => r_move (hρ _ _ rfl))) (all_cons (q_run (.int .i64 ((k2 - 1 : Nat) : Int)) rfl rfl (wv_n rfl) rfl (fun _ _ hρ _ => r_as (r_sub (hρ _ _ rfl) (hρ _ _ rfl)) (int_as ((wrap64 (by omega) (by omega)).trans (by omega))))) (all_cons (q_run (.pointer (some ⟨g14, 0 + (k2 - 1) * 4, none⟩)) rfl rfl (wv_n rfl) rfl (fun _ _ hρ _ => r_indexAddrS (i := k2 - 1) sl25 sz36 (hρ _ _ rfl) (hρ _ _ rfl) (by omega))) (all_cons (q_run (.pointer (some ⟨g14, 0 + (k2 - 1) * 4 + 3, none⟩)) rfl rfl (wv_n rfl) rfl (fun _ _ hρ _ => r_fieldAddr fl36_1 sz34 (hρ _ _ rfl))) (all_cons (q_run (.pointer x9.ptr) rfl rfl (wv_n rfl) rfl (fun _ _ hρ hm => r_loadOwnJ (f := Mk.cells) (u := x9) (l := mr3) 3 ag34 (hρ _ _ rfl) (hm.row 952 rfl) rfl rfl Mk.cells_len hx9 rfl)) (all_cons (q_run (.slice (some ⟨g14, 0, none⟩) mr3.length cr3) rfl rfl (wv_n rfl) rfl (fun _ _ hρ _ => r_move (hρ _ _ rfl))) (all_cons (q_run (.int .i64 ((k2 : Nat) : Int)) rfl rfl (wv_n rfl) rfl (fun _ _ hρ _ => r_move (hρ _ _ rfl))) (all_cons (q_run (.pointer (some ⟨g14, 0 + k2 * 4, none⟩)) rfl rfl (wv_n rfl) rfl (fun _ _ hρ _ => r_indexAddrS (i := k2) sl25 sz36 (hρ _ _ rfl) (hρ _ _ rfl) (by omega))) (all_cons (q_run (.pointer (some ⟨g14, 0 + k2 * 4 + 3, none⟩)) rfl rfl (wv_n rfl) rfl (fun _ _ hρ _ => r_fieldAddr fl36_1 sz34 (hρ _ _ rfl))) (all_cons (q_run (.pointer m9.ptr) rfl rfl (wv_n rfl) rfl (fun _ _ hρ hm => r_loadOwnJ (f := Mk.cells) (u := m9) (l := mr3) 3 ag34 (hρ _ _ rfl) (hm.row 952 rfl) rfl rfl Mk.cells_len hm9 rfl)) all_nil))))))))))))) (allM (all_cons ?_ all_nil))
          refine LOb_call (.int .i64 ((shM x9 m9 : Nat) : Int)) [(13, .int .i64 ((c2 + shM x9 m9 : Nat) : Int)), (14, .int .i64 ((c2 + shM x9 m9 : Nat) : Int))] rfl (wv_n rfl) rfl rfl (fun _ _ hρ _ => r_call (args := [.pointer x9.ptr, .pointer m9.ptr]) (enters_of Try.func38 (by kernel_rfl) rfl) (hρ _ _ rfl) ((cons2 (hρ _ _ rfl) (cons2 (hρ _ _ rfl) rfl))) rfl) (fun w hm => (by rw [ptr_some hcx1, ptr_some hcm1]; exact (shared_eq cx cm w (hm.cv 962 rfl hcx0) (hm.cv 962 rfl hcm0) (hcx3.trans hcm3.symm) (hcx4.trans hcm4.symm)).mono fun _ _ h => ⟨h.1.trans (congrArg Ending.returned (int_as (congrArg Int.ofNat (shM_eq hcx1 hcm1).symm))), h.2⟩)) (by kernel_rfl) ?_
          refine G_lastQ [0, 13, 14] [(3, .pointer (some ⟨B1, 0, none⟩)), (4, .bool false), (5, .slice (some ⟨g14, 0, none⟩) mr3.length cr3), (8, .slice ar7 ((mr3.take n9).length) cr7), (14, .int .i64 ((k2 : Nat) : Int)), (114, .int .i64 ((k2 : Nat) : Int)), (115, .slice (some ⟨g14, 0, none⟩) mr3.length cr3), (116, .int .i64 ((mr3.length : Nat) : Int)), (117, .bool (decide (((k2 : Nat) : Int) < ((mr3.length : Nat) : Int)))), (120, .int .i64 ((c2 : Nat) : Int)), (121, .slice (some ⟨g14, 0, none⟩) mr3.length cr3), (122, .int .i64 ((k2 : Nat) : Int)), (123, .int .i64 ((k2 - 1 : Nat) : Int)), (124, .pointer (some ⟨g14, 0 + (k2 - 1) * 4, none⟩)), (125, .pointer (some ⟨g14, 0 + (k2 - 1) * 4 + 3, none⟩)), (126, .pointer x9.ptr), (127, .slice (some ⟨g14, 0, none⟩) mr3.length cr3), (128, .int .i64 ((k2 : Nat) : Int)), (129, .pointer (some ⟨g14, 0 + k2 * 4, none⟩)), (130, .pointer (some ⟨g14, 0 + k2 * 4 + 3, none⟩)), (131, .pointer m9.ptr), (132, .int .i64 ((shM x9 m9 : Nat) : Int)), (133, .int .i64 ((c2 + shM x9 m9 : Nat) : Int)), (13, .int .i64 ((c2 + shM x9 m9 : Nat) : Int))] (by kernel_rfl) (allM (all_cons (q_run (.int .i64 ((c2 : Nat) : Int)) rfl rfl (wv_n rfl) rfl (fun _ _ hρ _ => r_move (hρ _ _ rfl))) (all_cons (q_run (.int .i64 ((c2 + shM x9 m9 : Nat) : Int)) rfl rfl (wv_n rfl) rfl (fun _ _ hρ _ => r_as (r_add (hρ _ _ rfl) (hρ _ _ rfl)) (int_as ((wrap64 (by omega) (by omega)).trans (by omega))))) (all_cons (q_run (.int .i64 ((c2 + shM x9 m9 : Nat) : Int)) rfl rfl (wv_n rfl) rfl (fun _ _ hρ _ => r_assign (hρ _ _ rfl))) all_nil)))) (end_old rfl rfl (end_old rfl rfl (end_old rfl rfl (end_old rfl rfl (end_old rfl rfl (end_old rfl rfl (end_old rfl rfl (end_old rfl rfl (end_old rfl rfl (end_new 0 rfl rfl (end_new 1 rfl rfl (end_new 2 rfl rfl (end_new 3 rfl rfl (end_new 4 rfl rfl (end_new 5 rfl rfl (end_new 6 rfl rfl (end_new 7 rfl rfl (end_new 8 rfl rfl (end_new 9 rfl rfl (end_new 10 rfl rfl (end_new 11 rfl rfl (end_new 12 rfl rfl (end_new 13 rfl rfl (end_new 14 rfl rfl end_nil)))))))))))))))))))))))) ?_
          refine p_blk_n ?_
          refine p_seq ?_
          refine T_region ?_
          refine TL_q (.int .i64 ((k2 : Nat) : Int)) (fun _ _ hρ _ => r_move (hρ _ _ rfl)) rfl rfl rfl (w_n rfl) ?_
          refine TL_q (.int .i64 ((k2 + 1 : Nat) : Int)) (fun _ _ hρ _ => r_as (r_add (hρ _ _ rfl) (hρ _ _ rfl)) (int_as ((wrap64 (by omega) (by omega)).trans (by omega)))) rfl rfl rfl (w_n rfl) ?_
          refine TL_q (.int .i64 ((k2 + 1 : Nat) : Int)) (fun _ _ hρ _ => r_assign (hρ _ _ rfl)) rfl rfl rfl (w_n rfl) ?_
          refine TL_nil ?_
          exact p_at (k2 + 1, c2 + shM x9 m9) ⟨⟨by omega, .inl (by omega), by rw [sumS_step (by omega) hx9 hm9, ← hc2], by omega⟩, by dsimp only; omega⟩ (sub_cons rfl (sub_cons rfl (sub_cons rfl (sub_cons rfl (sub_cons rfl (sub_cons rfl sub_nil)))))) (sub_cons rfl (sub_cons rfl (sub_cons rfl (sub_cons rfl (sub_cons rfl (sub_cons rfl (sub_cons rfl (sub_cons rfl sub_nil))))))))
        · replace h2 := of_decide_eq_false h2
          refine T_exit' ?_
          refine p_then_x ?_
          refine p_then_x ?_
          refine p_blk_x ?_
          refine p_seq ?_
          have htl9 : (mr3.take (aheadL (idsM mr3) e9)).length ≤ 6 := by rw [List.length_take]; omega
          have hce : c2 = sumS mr3 mr3.length := by
            by_cases e : mr3.length = 0
            · rw [hc2, e, show k2 = 1 by omega]; rfl
            · rw [hc2, show k2 = mr3.length by omega]
          obtain ⟨l16, hl16, hn16⟩ : ∃ lz, lz = (mr3.drop ((mr3.take n9).length)).take (mr3.length - ((mr3.take n9).length)) ∧ lz.length = mr3.length - ((mr3.take n9).length) := ⟨_, rfl, by rw [List.length_take, List.length_drop]; omega⟩
          obtain ⟨a16, ha16⟩ : ∃ az : Option Addr, az = (if cr3 = (mr3.take n9).length then (ar3 : Option Addr) else Option.map (fun z : Addr => z.add (((mr3.take n9).length) * 4)) (ar3 : Option Addr)) := ⟨_, rfl⟩
          refine T_seq (T_draw (V := [(0, .slice ar3 mr3.length cr3), (2, .int .i64 ((c2 : Nat) : Int))]) [0, 1, 0, 7, 15, 31, 31, 127, 255, 511, 1023, 1023, 4095, 1023, 1023, 17407, 58367, 131071, 1023, 524287, 1048575, 2097151] [[(5, none)], [(134, some 0)], [(13, none)], [(135, some 1), (136, some 2)], [(137, some 3)], [(5, none)], [(5, none)], [(139, some 5), (140, some 6)], [(141, some 7), (138, some 4)], [(142, some 8)], [(5, none)], [(3, none)], [(144, some 10), (145, some 11)], [(5, none)], [(8, none)], [(148, some 14)], [(147, some 13), (149, some 15)], [(146, some 12), (150, some 16)], [(5, none)], [(151, some 17), (152, some 18)], [(153, some 19), (143, some 9)], [(154, some 20)]] 659586 mixed (by kernel_rfl) ?_)
          refine G_step [0, 2] 1 [] (by kernel_rfl) (allM (all_cons (q_run (.slice ar3 mr3.length cr3) rfl rfl (wv_n rfl) rfl (fun _ _ hρ _ => r_move (hρ _ _ rfl))) (all_cons (q_run (.int .i64 ((c2 : Nat) : Int)) rfl rfl (wv_n rfl) rfl (fun _ _ hρ _ => r_move (hρ _ _ rfl))) all_nil))) (allM (all_cons ?_ all_nil))
          refine LOb_call (.int .i64 ((sumS mr3 mr3.length : Nat) : Int)) [(3, .bool true), (4, .bool true), (5, .slice ar3 mr3.length cr3), (6, .slice ar3 mr3.length cr3)] rfl (wv_n rfl) rfl rfl (fun _ _ hρ _ => r_call (args := [.slice ar3 mr3.length cr3]) (enters_of Try.func37 (by kernel_rfl) rfl) (hρ _ _ rfl) ((cons2 (hρ _ _ rfl) rfl)) rfl) (fun w hm => shares_ok mr3 ar3 cr3 w (SliceAt.own Mk.cells_len (hm.row 952 rfl) rfl rfl) (row_cap (hm.row 952 rfl)) hmk (cvs2_row (fun c hc => hm.cv 962 rfl hc) hr3.2)) (by kernel_rfl) ?_
          refine G_step [2, 3, 4, 5, 6] 7 [] (by kernel_rfl) (allM (all_cons (q_run (.int .i64 ((c2 : Nat) : Int)) rfl rfl (wv_n rfl) rfl (fun _ _ hρ _ => r_move (hρ _ _ rfl))) (all_cons (q_run (.bool true) rfl rfl (wv_n rfl) rfl (fun _ _ hρ _ => r_as (r_eql (hρ _ _ rfl) (hρ _ _ rfl)) (bool_as (decide_eq_true (by rw [hce]))))) (all_cons (q_run (.bool true) rfl rfl (wv_n rfl) rfl (fun _ _ hρ _ => r_move (hρ _ _ rfl))) (all_cons (q_run (.slice ar3 mr3.length cr3) rfl rfl (wv_y rfl rfl) rfl (fun _ _ hρ _ => r_move (hρ _ _ rfl))) (all_cons (q_run (.slice ar3 mr3.length cr3) rfl rfl (wv_y rfl rfl) rfl (fun _ _ hρ _ => r_move (hρ _ _ rfl))) all_nil)))))) (allM (all_cons ?_ all_nil))
          refine LOb_call (.bool true) [(8, .bool true), (9, .bool true), (10, .slice ar3 mr3.length cr3), (11, .agg #[.int .u64 e9.t, .int .i64 e9.s, .int .u64 e9.q]), (13, .slice ar3 mr3.length cr3), (14, .slice ar7 ((mr3.take n9).length) cr7), (15, .int .i64 (((mr3.take n9).length : Nat) : Int)), (16, .slice a16 l16.length (cr3 - ((mr3.take n9).length))), (18, .slice ar3 mr3.length cr3)] rfl (wv_y rfl rfl) rfl rfl (fun _ _ hρ _ => r_call (args := [.slice ar3 mr3.length cr3, .slice ar3 mr3.length cr3]) (enters_of Try.func35 (by kernel_rfl) rfl) (hρ _ _ rfl) ((cons2 (hρ _ _ rfl) (cons2 (hρ _ _ rfl) rfl))) rfl) (fun w hm => msame2_c mr3 mr3 rfl ar3 cr3 ar3 cr3 w (SliceAt.own Mk.cells_len (hm.row 952 rfl) rfl rfl) (row_cap (hm.row 952 rfl)) (SliceAt.own Mk.cells_len (hm.row 952 rfl) rfl rfl) (row_cap (hm.row 952 rfl)) (cvs2_sub (cvs2_row (fun c hc => hm.cv 962 rfl hc) hr3.2) (fun z hz => hz))) (by kernel_rfl) ?_
          refine G_step [8, 9, 10, 11, 13, 14, 15, 16, 18] 12 [] (by kernel_rfl) (allM (all_cons (q_run (.bool true) rfl rfl (wv_n rfl) rfl (fun _ _ hρ _ => r_pick_t (hρ _ _ rfl) (hρ _ _ rfl))) (all_cons (q_run (.bool true) rfl rfl (wv_n rfl) rfl (fun _ _ hρ _ => r_move (hρ _ _ rfl))) (all_cons (q_run (.slice ar3 mr3.length cr3) rfl rfl (wv_y rfl rfl) rfl (fun _ _ hρ _ => r_move (hρ _ _ rfl))) (all_cons (q_run (.agg #[.int .u64 e9.t, .int .i64 e9.s, .int .u64 e9.q]) rfl rfl (wv_y rfl rfl) rfl (fun _ _ hρ hm => r_loadA ag32 sz32 (hρ _ _ rfl) (hm.at 1 rfl) rfl rfl)) (all_cons (q_run (.slice ar3 mr3.length cr3) rfl rfl (wv_y rfl rfl) rfl (fun _ _ hρ _ => r_move (hρ _ _ rfl))) (all_cons (q_run (.slice ar7 ((mr3.take n9).length) cr7) rfl rfl (wv_y rfl rfl) rfl (fun _ _ hρ _ => r_move (hρ _ _ rfl))) (all_cons (q_run (.int .i64 (((mr3.take n9).length : Nat) : Int)) rfl rfl (wv_y rfl rfl) rfl (fun _ _ hρ _ => r_len sl25 (hρ _ _ rfl))) (all_cons (q_run (.slice a16 l16.length (cr3 - ((mr3.take n9).length))) rfl rfl (wv_y rfl rfl) rfl (fun ρ _ hρ _ => r_as (r_sliceO sl25 sz36 (hρ _ _ rfl) (bd_none ρ _) (bd_none ρ _) (bd_some (n := (mr3.take n9).length) (hρ _ _ rfl)) (by simp) (by omega) (by omega) (by omega)) (by rw [hn16, ha16]))) (all_cons (q_run (.slice ar3 mr3.length cr3) rfl rfl (wv_y rfl rfl) rfl (fun _ _ hρ _ => r_move (hρ _ _ rfl))) all_nil)))))))))) (allM (all_cons ?_ all_nil))
          refine LOb_callN (fun (_ : Option Addr × Nat) => True) (fun (ar17, cr17) => .slice ar17 ((mr3.take (aheadL (idsM mr3) e9)).length) cr17) (fun (ar17, cr17) => [(958, .row (.slice ar17 ((mr3.take (aheadL (idsM mr3) e9)).length) cr17) 36 4 ((mr3.take (aheadL (idsM mr3) e9)).length) ((mr3.take (aheadL (idsM mr3) e9)).flatMap Mk.cells))]) (fun (ar17, cr17) => []) rfl (wv_y rfl rfl) rfl rfl (fun _ _ hρ _ => r_call (args := [.slice ar3 mr3.length cr3, .agg #[.int .u64 e9.t, .int .i64 e9.s, .int .u64 e9.q]]) (enters_of Try.func27 (by kernel_rfl) rfl) (hρ _ _ rfl) ((cons2 (hρ _ _ rfl) (cons2 (hρ _ _ rfl) rfl))) rfl) (fun w hm => (drop_ok mr3 ar3 cr3 e9 w (SliceAt.own Mk.cells_len (hm.row 952 rfl) rfl rfl) (row_cap (hm.row 952 rfl)) hmk).mono fun e w' ⟨a', cap', he, hb, hr⟩ => ⟨(a', cap'), trivial, he, hb, newOk1 958 hr⟩) (fun (ar17, cr17) => by kernel_rfl) ?_
          rintro ⟨ar17, cr17⟩ -
          refine G_step [13, 14, 15, 16, 18] 17 [] (by kernel_rfl) (allM (all_cons (q_run (.slice ar3 mr3.length cr3) rfl rfl (wv_y rfl rfl) rfl (fun _ _ hρ _ => r_move (hρ _ _ rfl))) (all_cons (q_run (.slice ar7 ((mr3.take n9).length) cr7) rfl rfl (wv_y rfl rfl) rfl (fun _ _ hρ _ => r_move (hρ _ _ rfl))) (all_cons (q_run (.int .i64 (((mr3.take n9).length : Nat) : Int)) rfl rfl (wv_y rfl rfl) rfl (fun _ _ hρ _ => r_len sl25 (hρ _ _ rfl))) (all_cons (q_run (.slice a16 l16.length (cr3 - ((mr3.take n9).length))) rfl rfl (wv_y rfl rfl) rfl (fun ρ _ hρ _ => r_as (r_sliceO sl25 sz36 (hρ _ _ rfl) (bd_none ρ _) (bd_none ρ _) (bd_some (n := (mr3.take n9).length) (hρ _ _ rfl)) (by simp) (by omega) (by omega) (by omega)) (by rw [hn16, ha16]))) (all_cons (q_run (.slice ar3 mr3.length cr3) rfl rfl (wv_y rfl rfl) rfl (fun _ _ hρ _ => r_move (hρ _ _ rfl))) all_nil)))))) (allM (all_cons ?_ all_nil))
          refine LOb_append (n := (mr3.take (aheadL (idsM mr3) e9)).length) (m := l16.length) (xs := ((mr3.take (aheadL (idsM mr3) e9)).flatMap Mk.cells)) (news := (l16.flatMap Mk.cells)) (z := .agg #[.int .u64 0, .int .i64 0, .int .u64 0, .pointer none]) 958 (fun a cap => []) rfl (wv_y rfl rfl) rfl rfl rfl sl25 sz36 by36 (by kernel_rfl) rfl rfl (.inl rfl) (fun _ hm => src_of Mk.cells_len (by have hs := SliceAt.part (l := mr3) (SliceAt.own Mk.cells_len (hm.row 952 rfl) rfl rfl) (lo := (mr3.take n9).length) (hi := mr3.length) (m := cr3) (by omega) (by omega) (by omega) (by omega); rw [← hl16, ← ha16] at hs; exact hs)) mk_ones (by omega) (by omega) (fun a cap => by kernel_rfl) ?_
          intro a18 cap18
          refine G_step [18] 19 [] (by kernel_rfl) (allM (all_cons (q_run (.slice ar3 mr3.length cr3) rfl rfl (wv_y rfl rfl) rfl (fun _ _ hρ _ => r_move (hρ _ _ rfl))) all_nil)) (allM (all_cons ?_ all_nil))
          refine LOb_call (.bool true) [(20, .bool true), (21, .bool true)] rfl (wv_y rfl rfl) rfl rfl (fun _ _ hρ _ => r_call (args := [.slice a18 ((mr3.take (aheadL (idsM mr3) e9)).length + l16.length) cap18, .slice ar3 mr3.length cr3]) (enters_of Try.func35 (by kernel_rfl) rfl) (hρ _ _ rfl) ((cons2 (hρ _ _ rfl) (cons2 (hρ _ _ rfl) rfl))) rfl) (fun w hm => (by rw [← List.length_append]; exact msame2_c ((mr3.take (aheadL (idsM mr3) e9)) ++ l16) mr3 (by rw [← hnz, hl16, htl, List.take_of_length_le (l := mr3.drop n9) (by rw [List.length_drop]; exact Nat.le_refl _), List.take_append_drop]) a18 cap18 ar3 cr3 w (SliceAt.own Mk.cells_len (hm.row 958 rfl) (List.length_append).symm (List.flatMap_append).symm) (row_cap (hm.row 958 rfl)) (SliceAt.own Mk.cells_len (hm.row 952 rfl) rfl rfl) (row_cap (hm.row 952 rfl)) (cvs2_sub (cvs2_row (fun c hc => hm.cv 962 rfl hc) hr3.2) (fun z hz => by rw [hl16] at hz; exact (List.mem_append.1 hz).elim (fun h => List.mem_of_mem_take h) (fun h => List.mem_of_mem_drop (List.mem_of_mem_take h)))))) (by kernel_rfl) ?_
          refine G_last [20, 21] [(4, .bool true)] (by kernel_rfl) (allM (all_cons (q_run (.bool true) rfl rfl (wv_n rfl) rfl (fun _ _ hρ _ => r_pick_t (hρ _ _ rfl) (hρ _ _ rfl))) (all_cons (q_run (.bool true) rfl rfl (wv_n rfl) rfl (fun _ _ hρ _ => r_assign (hρ _ _ rfl))) all_nil))) (end_new 21 rfl rfl end_nil) ?_
          refine T_ret' ?_
          refine ret_of rfl (.bool true) (fun tmps w hk hm => res1 rfl (res_tmp (hk 4 _ rfl))) (fun w hm => ?_)
          exact ⟨rfl, hm.ext⟩
    · skip
      refine T_seq (T_region ?_)
      refine TL_q (.slice ar3 mr3.length cr3) (fun _ _ hρ _ => r_move (hρ _ _ rfl)) rfl rfl rfl (w_n rfl) ?_
      refine TL_q (.agg #[.int .u64 e9.t, .int .i64 e9.s, .int .u64 e9.q]) (fun _ _ hρ hm => r_loadA ag32 sz32 (hρ _ _ rfl) (hm.at 1 rfl) rfl rfl) rfl rfl rfl (w_n rfl) ?_
      refine TL_call (.tuple #[.agg #[.int .u64 ((belM mr3 e9).i.t), .int .i64 ((belM mr3 e9).i.s), .int .u64 ((belM mr3 e9).i.q), .pointer (belM mr3 e9).ptr], .bool false]) (fun _ _ hρ _ => r_call (args := [.slice ar3 mr3.length cr3, .agg #[.int .u64 e9.t, .int .i64 e9.s, .int .u64 e9.q]]) (enters_of Try.func26 (by kernel_rfl) rfl) (hρ _ _ rfl) ((cons2 (hρ _ _ rfl) (cons2 (hρ _ _ rfl) rfl))) rfl) (fun w hm => (below_ok mr3 ar3 cr3 e9 w (SliceAt.own Mk.cells_len (hm.row 952 rfl) rfl rfl) (row_cap (hm.row 952 rfl)) hmk).mono fun _ _ h => ⟨h.1.trans (congrArg Ending.returned (congrArg (fun z => Value.tuple #[(belM mr3 e9).v, .bool z]) (decide_eq_false hsm))), h.2⟩) rfl rfl rfl (w_n rfl) ?_
      refine TL_q (.tuple #[.agg #[.int .u64 ((belM mr3 e9).i.t), .int .i64 ((belM mr3 e9).i.s), .int .u64 ((belM mr3 e9).i.q), .pointer (belM mr3 e9).ptr], .bool false]) (fun _ _ hρ _ => r_move (hρ _ _ rfl)) rfl rfl rfl (w_n rfl) ?_
      refine TL_q (.agg #[.int .u64 ((belM mr3 e9).i.t), .int .i64 ((belM mr3 e9).i.s), .int .u64 ((belM mr3 e9).i.q), .pointer (belM mr3 e9).ptr]) (fun _ _ hρ _ => r_extract (hρ _ _ rfl) rfl) rfl rfl rfl (w_n rfl) ?_
      refine TL_q (.bool false) (fun _ _ hρ _ => r_extract (hρ _ _ rfl) rfl) rfl rfl rfl (w_n rfl) ?_
      refine TL_new 5 (.cells #[.int .u64 0, .int .i64 0, .int .u64 0, .pointer none] 36) (fun B => .pointer (some ⟨B, 0, none⟩)) (fun _ _ _ _ => r_alloc (v := .agg #[.int .u64 0, .int .i64 0, .int .u64 0, .pointer none]) (by kernel_rfl) rfl) rfl rfl rfl (w_n rfl) ?_
      intro B19
      refine TL_store 5 (.cells #[.int .u64 ((belM mr3 e9).i.t), .int .i64 ((belM mr3 e9).i.s), .int .u64 ((belM mr3 e9).i.q), .pointer (belM mr3 e9).ptr] 36) rfl (fun _ _ hρ hm => r_store sz36 (hρ _ _ rfl) (hρ _ _ rfl) (hm.at 5 rfl) rfl rfl rfl rfl) rfl rfl (w_n rfl) ?_
      refine TL_q (.bool false) (fun _ _ hρ _ => r_assign (hρ _ _ rfl)) rfl rfl rfl (w_n rfl) ?_
      refine TL_seq ?_
      obtain ⟨n9, hnz⟩ : ∃ z, z = aheadL (idsM mr3) e9 := ⟨_, rfl⟩
      have hnl : n9 ≤ mr3.length := by rw [hnz, ← ids_len mr3]; exact ahead_le _ _
      rw [← hnz, List.length_take] at hsm
      have hno : n9 = 0 := by omega
      have hby : belM mr3 e9 = mk0 := bel_zero (by rw [← hnz, hno]; rfl)
      rw [hby]
      refine T_seq (T_draw (V := [(0, .slice ar3 mr3.length cr3), (1, .agg #[.int .u64 e9.t, .int .i64 e9.s, .int .u64 e9.q]), (3, .slice ar3 mr3.length cr3), (4, .pointer (some ⟨B1, 0, none⟩)), (5, .int .u64 e9.t)]) [0, 0, 3, 0, 0, 16, 63, 127, 255] [[(5, none)], [(3, none)], [(26, some 0), (27, some 1)], [(5, none)], [(3, none)], [(30, some 4)], [(29, some 3), (31, some 5)], [(28, some 2)], [(32, some 6)]] 68 mixed (by kernel_rfl) ?_)
      refine G_step [0, 1, 3, 4, 5] 2 [] (by kernel_rfl) (allM (all_cons (q_run (.slice ar3 mr3.length cr3) rfl rfl (wv_n rfl) rfl (fun _ _ hρ _ => r_move (hρ _ _ rfl))) (all_cons (q_run (.agg #[.int .u64 e9.t, .int .i64 e9.s, .int .u64 e9.q]) rfl rfl (wv_n rfl) rfl (fun _ _ hρ hm => r_loadA ag32 sz32 (hρ _ _ rfl) (hm.at 1 rfl) rfl rfl)) (all_cons (q_run (.slice ar3 mr3.length cr3) rfl rfl (wv_n rfl) rfl (fun _ _ hρ _ => r_move (hρ _ _ rfl))) (all_cons (q_run (.pointer (some ⟨B1, 0, none⟩)) rfl rfl (wv_n rfl) rfl (fun _ _ hρ _ => r_fieldAddr fl32_0 sz30 (hρ _ _ rfl))) (all_cons (q_run (.int .u64 e9.t) rfl rfl (wv_n rfl) rfl (fun _ _ hρ hm => r_load ag30 (hρ _ _ rfl) (hm.at 1 rfl) rfl)) all_nil)))))) (allM (all_cons ?_ all_nil))
      refine LOb_callN (fun (_ : Option Addr × Nat) => True) (fun (ar22, cr22) => .slice ar22 ((mr3.take (aheadL (idsM mr3) e9)).length) cr22) (fun (ar22, cr22) => [(956, .row (.slice ar22 ((mr3.take (aheadL (idsM mr3) e9)).length) cr22) 36 4 ((mr3.take (aheadL (idsM mr3) e9)).length) ((mr3.take (aheadL (idsM mr3) e9)).flatMap Mk.cells))]) (fun (ar22, cr22) => []) rfl (wv_n rfl) rfl rfl (fun _ _ hρ _ => r_call (args := [.slice ar3 mr3.length cr3, .agg #[.int .u64 e9.t, .int .i64 e9.s, .int .u64 e9.q]]) (enters_of Try.func27 (by kernel_rfl) rfl) (hρ _ _ rfl) ((cons2 (hρ _ _ rfl) (cons2 (hρ _ _ rfl) rfl))) rfl) (fun w hm => (drop_ok mr3 ar3 cr3 e9 w (SliceAt.own Mk.cells_len (hm.row 952 rfl) rfl rfl) (row_cap (hm.row 952 rfl)) hmk).mono fun e w' ⟨a', cap', he, hb, hr⟩ => ⟨(a', cap'), trivial, he, hb, newOk1 956 hr⟩) (fun (ar22, cr22) => by kernel_rfl) ?_
      rintro ⟨ar22, cr22⟩ -
      refine G_step [3, 4, 5] 6 [] (by kernel_rfl) (allM (all_cons (q_run (.slice ar3 mr3.length cr3) rfl rfl (wv_n rfl) rfl (fun _ _ hρ _ => r_move (hρ _ _ rfl))) (all_cons (q_run (.pointer (some ⟨B1, 0, none⟩)) rfl rfl (wv_n rfl) rfl (fun _ _ hρ _ => r_fieldAddr fl32_0 sz30 (hρ _ _ rfl))) (all_cons (q_run (.int .u64 e9.t) rfl rfl (wv_n rfl) rfl (fun _ _ hρ hm => r_load ag30 (hρ _ _ rfl) (hm.at 1 rfl) rfl)) all_nil)))) (allM (all_cons ?_ all_nil))
      refine LOb_callN (fun (_ : Option Addr × Nat) => True) (fun (ar23, cr23) => .slice ar23 ((mr3.filter (fun x : Mk => decide (e9.t < x.i.t))).length) cr23) (fun (ar23, cr23) => [(957, .row (.slice ar23 ((mr3.filter (fun x : Mk => decide (e9.t < x.i.t))).length) cr23) 36 4 ((mr3.filter (fun x : Mk => decide (e9.t < x.i.t))).length) ((mr3.filter (fun x : Mk => decide (e9.t < x.i.t))).flatMap Mk.cells))]) (fun (ar23, cr23) => [(7, .slice ar22 ((mr3.take (aheadL (idsM mr3) e9)).length) cr22), (8, .slice ar23 ((mr3.filter (fun x : Mk => decide (e9.t < x.i.t))).length) cr23)]) rfl (wv_n rfl) rfl rfl (fun _ _ hρ _ => r_call (args := [.slice ar3 mr3.length cr3, .int .u64 e9.t]) (enters_of Try.func28 (by kernel_rfl) rfl) (hρ _ _ rfl) ((cons2 (hρ _ _ rfl) (cons2 (hρ _ _ rfl) rfl))) rfl) (fun w hm => (fold_ok mr3 ar3 cr3 e9.t w (SliceAt.own Mk.cells_len (hm.row 952 rfl) rfl rfl) (row_cap (hm.row 952 rfl)) hmk).mono fun e w' ⟨a', cap', he, hb, hr⟩ => ⟨(a', cap'), trivial, he, hb, newOk1 957 hr⟩) (fun (ar23, cr23) => by kernel_rfl) ?_
      rintro ⟨ar23, cr23⟩ -
      refine G_last [7, 8] [(3, .pointer (some ⟨B1, 0, none⟩)), (4, .bool false), (5, .slice ar3 mr3.length cr3), (6, .pointer (some ⟨B19, 0, none⟩)), (7, .bool false), (8, .slice ar22 ((mr3.take (aheadL (idsM mr3) e9)).length) cr22), (9, .slice ar23 ((mr3.filter (fun x : Mk => decide (e9.t < x.i.t))).length) cr23)] (by kernel_rfl) (allM (all_cons (q_run (.slice ar22 ((mr3.take (aheadL (idsM mr3) e9)).length) cr22) rfl rfl (wv_n rfl) rfl (fun _ _ hρ _ => r_assign (hρ _ _ rfl))) (all_cons (q_run (.slice ar23 ((mr3.filter (fun x : Mk => decide (e9.t < x.i.t))).length) cr23) rfl rfl (wv_n rfl) rfl (fun _ _ hρ _ => r_assign (hρ _ _ rfl))) all_nil))) (end_old rfl rfl (end_old rfl rfl (end_old rfl rfl (end_old rfl rfl (end_old rfl rfl (end_new 7 rfl rfl (end_new 8 rfl rfl end_nil))))))) ?_
      refine T_seq ?_
      rw [← hnz]
      obtain ⟨f9, hf9⟩ : ∃ z, z = foldN (idsM mr3) e9.t := ⟨_, rfl⟩
      have hf9l : f9 ≤ mr3.length := by rw [hf9, ← ids_len mr3]; exact fold_le _ _
      have hfd : mr3.filter (fun x : Mk => decide (e9.t < x.i.t)) = mr3.drop f9 := by rw [hf9]; exact fold_marks hmk
      rw [hfd]
      have htl : (mr3.take n9).length = n9 := by rw [List.length_take]; omega
      have hdl : (mr3.drop f9).length = mr3.length - f9 := List.length_drop
      refine T_seq (T_region ?_)
      refine TL_q (.slice ar3 mr3.length cr3) (fun _ _ hρ _ => r_move (hρ _ _ rfl)) rfl rfl rfl (w_n rfl) ?_
      refine TL_call (.int .i64 0) (fun _ _ hρ _ => r_call (args := [.slice ar3 mr3.length cr3]) (enters_of Try.func14 (by kernel_rfl) rfl) (hρ _ _ rfl) ((cons2 (hρ _ _ rfl) rfl)) rfl) (fun w hm => (check_c mr3 ar3 cr3 w (SliceAt.own Mk.cells_len (hm.row 952 rfl) rfl rfl) (row_cap (hm.row 952 rfl))).mono fun _ _ h => ⟨h.1.trans (congrArg Ending.returned (int_as (if_pos hmk))), h.2⟩) rfl rfl rfl (w_n rfl) ?_
      refine TL_q (.bool false) (fun _ _ hρ _ => r_as (r_neq (hρ _ _ rfl) (hρ _ _ rfl)) (by rfl)) rfl rfl rfl (w_n rfl) ?_
      refine TL_seq ?_
      refine T_cond_f rfl ?_
      refine T_skip' ?_
      refine p_seq ?_
      refine T_seq ?_
      refine T_rowcap 956 rfl (fun hrc6 => ?_)
      refine T_rowcap 952 rfl (fun hrc2 => ?_)
      refine T_seq (T_draw (V := [(0, .bool false), (1, .slice ar22 ((mr3.take n9).length) cr22), (2, .int .i64 (((mr3.take n9).length : Nat) : Int)), (3, .bool false), (4, .bool false), (5, .bool false), (6, .bool false), (7, .bool false), (8, undef), (9, undef), (10, undef), (11, undef), (12, undef), (13, undef), (14, undef), (15, undef), (16, undef), (17, .bool false), (18, .bool false), (19, .bool false), (20, .slice ar22 ((mr3.take n9).length) cr22)]) [0, 0, 2, 6, 15, 31, 63, 127, 255, 255, 767, 1791, 4095, 255, 8447, 32767, 65535, 131071, 262143, 524287, 1048575, 2097151, 4194303, 8388607, 16777215, 33554431, 67108863, 134217727, 268435455] [[(7, none)], [(8, none)], [(56, some 1)], [(57, some 2)], [(55, some 0), (58, some 3)], [(59, some 4)], [(7, none)], [(61, some 6)], [(8, none)], [(8, none)], [(64, some 9)], [(65, some 10)], [(63, some 8), (66, some 11)], [(6, none)], [(68, some 13)], [(67, some 12), (69, some 14)], [(70, some 15)], [(71, some 16), (62, some 7)], [(72, some 17), (60, some 5)], [(73, some 18)], [(8, none)], [(75, some 20)], [(76, some 21)], [(77, some 22), (74, some 19)], [(78, some 23)], [(9, none)], [(80, some 25)], [(81, some 26)], [(82, some 27), (79, some 24)]] 69206016 mixed (by kernel_rfl) ?_)
      refine G_step [0, 1, 2, 3, 4, 5, 6, 7, 8, 9, 10, 11, 12, 13, 14, 15, 16, 17, 18, 19, 20] 21 [] (by kernel_rfl) (allM (all_cons (q_run (.bool false) rfl rfl (wv_n rfl) rfl (fun _ _ hρ _ => r_move (hρ _ _ rfl))) (all_cons (q_run (.slice ar22 ((mr3.take n9).length) cr22) rfl rfl (wv_n rfl) rfl (fun _ _ hρ _ => r_move (hρ _ _ rfl))) (all_cons (q_run (.int .i64 (((mr3.take n9).length : Nat) : Int)) rfl rfl (wv_n rfl) rfl (fun _ _ hρ _ => r_len sl25 (hρ _ _ rfl))) (all_cons (q_run (.bool false) rfl rfl (wv_n rfl) rfl (fun _ _ hρ _ => r_as (r_gtr (hρ _ _ rfl) (hρ _ _ rfl)) (bool_as (decide_eq_false (by rw [htl]; omega))))) (all_cons (q_run (.bool false) rfl rfl (wv_n rfl) rfl (fun _ _ hρ _ => r_as (r_neqB (by kernel_rfl) (hρ _ _ rfl) (hρ _ _ rfl)) (by rfl))) (all_cons (q_run (.bool false) rfl rfl (wv_n rfl) rfl (fun _ _ hρ _ => r_move (hρ _ _ rfl))) (all_cons (q_run (.bool false) rfl rfl (wv_y rfl rfl) rfl (fun _ _ hρ _ => r_move (hρ _ _ rfl))) (all_cons (q_run (.bool false) rfl rfl (wv_y rfl rfl) rfl (fun _ _ hρ _ => r_move (hρ _ _ rfl))) (all_cons (q_no rfl rfl (wv_no rfl rfl)) (all_cons (q_no rfl rfl (wv_no rfl rfl)) (all_cons (q_no rfl rfl (wv_no rfl rfl)) (all_cons (q_no rfl rfl (wv_no rfl rfl)) (all_cons (q_no rfl rfl (wv_no rfl rfl)) (all_cons (q_no rfl rfl (wv_no rfl rfl)) (all_cons (q_no rfl rfl (wv_no rfl rfl)) (all_cons (q_no rfl rfl (wv_no rfl rfl)) (all_cons (q_no rfl rfl (wv_no rfl rfl)) (all_cons (q_run (.bool false) rfl rfl (wv_y rfl rfl) rfl (fun _ _ hρ _ => r_pick_f (hρ _ _ rfl) (hρ _ _ rfl))) (all_cons (q_run (.bool false) rfl rfl (wv_n rfl) rfl (fun _ _ hρ _ => r_pick_f (hρ _ _ rfl) (hρ _ _ rfl))) (all_cons (q_run (.bool false) rfl rfl (wv_n rfl) rfl (fun _ _ hρ _ => r_move (hρ _ _ rfl))) (all_cons (q_run (.slice ar22 ((mr3.take n9).length) cr22) rfl rfl (wv_y rfl rfl) rfl (fun _ _ hρ _ => r_move (hρ _ _ rfl))) all_nil)))))))))))))))))))))) (allM (all_cons ?_ all_nil))
      refine LOb_call (.int .i64 0) [(22, .bool false), (23, .bool false), (24, .bool false), (25, .slice ar23 ((mr3.drop f9).length) cr23)] rfl (wv_y rfl rfl) rfl rfl (fun _ _ hρ _ => r_call (args := [.slice ar22 ((mr3.take n9).length) cr22]) (enters_of Try.func14 (by kernel_rfl) rfl) (hρ _ _ rfl) ((cons2 (hρ _ _ rfl) rfl)) rfl) (fun w hm => (check_c (mr3.take n9) ar22 cr22 w (SliceAt.own Mk.cells_len (hm.row 956 rfl) rfl rfl) (row_cap (hm.row 956 rfl))).mono fun _ _ h => ⟨h.1.trans (congrArg Ending.returned (int_as (if_pos (mk_take hmk rfl)))), h.2⟩) (by kernel_rfl) ?_
      refine G_step [22, 23, 24, 25] 26 [] (by kernel_rfl) (allM (all_cons (q_run (.bool false) rfl rfl (wv_y rfl rfl) rfl (fun _ _ hρ _ => r_as (r_neq (hρ _ _ rfl) (hρ _ _ rfl)) (by rfl))) (all_cons (q_run (.bool false) rfl rfl (wv_n rfl) rfl (fun _ _ hρ _ => r_pick_f (hρ _ _ rfl) (hρ _ _ rfl))) (all_cons (q_run (.bool false) rfl rfl (wv_n rfl) rfl (fun _ _ hρ _ => r_move (hρ _ _ rfl))) (all_cons (q_run (.slice ar23 ((mr3.drop f9).length) cr23) rfl rfl (wv_y rfl rfl) rfl (fun _ _ hρ _ => r_move (hρ _ _ rfl))) all_nil))))) (allM (all_cons ?_ all_nil))
      refine LOb_call (.int .i64 0) [(27, .bool false), (28, .bool false)] rfl (wv_y rfl rfl) rfl rfl (fun _ _ hρ _ => r_call (args := [.slice ar23 ((mr3.drop f9).length) cr23]) (enters_of Try.func14 (by kernel_rfl) rfl) (hρ _ _ rfl) ((cons2 (hρ _ _ rfl) rfl)) rfl) (fun w hm => (check_c (mr3.drop f9) ar23 cr23 w (SliceAt.own Mk.cells_len (hm.row 957 rfl) rfl rfl) (row_cap (hm.row 957 rfl))).mono fun _ _ h => ⟨h.1.trans (congrArg Ending.returned (int_as (if_pos (marks_sub hmk (List.drop_sublist _ _))))), h.2⟩) (by kernel_rfl) ?_
      refine G_last [27, 28] [(3, .pointer (some ⟨B1, 0, none⟩)), (4, .bool false), (5, .slice ar3 mr3.length cr3), (8, .slice ar22 ((mr3.take n9).length) cr22), (9, .slice ar23 ((mr3.drop f9).length) cr23), (83, .bool false)] (by kernel_rfl) (allM (all_cons (q_run (.bool false) rfl rfl (wv_y rfl rfl) rfl (fun _ _ hρ _ => r_as (r_neq (hρ _ _ rfl) (hρ _ _ rfl)) (by rfl))) (all_cons (q_run (.bool false) rfl rfl (wv_n rfl) rfl (fun _ _ hρ _ => r_pick_f (hρ _ _ rfl) (hρ _ _ rfl))) all_nil))) (end_old rfl rfl (end_old rfl rfl (end_old rfl rfl (end_old rfl rfl (end_old rfl rfl (end_new 28 rfl rfl end_nil)))))) ?_
      refine T_cond_f rfl ?_
      refine T_skip' ?_
      refine p_seq ?_
      refine T_seq (T_region ?_)
      refine TL_q (.int .i64 0) (fun _ _ hρ _ => r_assign (hρ _ _ rfl)) rfl rfl rfl (w_n rfl) ?_
      refine TL_seq ?_
      refine T_seq ?_
      refine T_seq (T_region ?_)
      refine TL_q (.slice ar3 mr3.length cr3) (fun _ _ hρ _ => r_move (hρ _ _ rfl)) rfl rfl rfl (w_n rfl) ?_
      refine TL_q (.int .i64 ((mr3.length : Nat) : Int)) (fun _ _ hρ _ => r_len sl25 (hρ _ _ rfl)) rfl rfl rfl (w_n rfl) ?_
      refine TL_q (.int .i64 0) (fun _ _ hρ _ => r_move (hρ _ _ rfl)) rfl rfl rfl (w_n rfl) ?_
      refine TL_seq ?_
      refine T_block ?_
      refine T_loop (ι := Nat × Nat) (fun (z : Nat × Nat) => match z with | (k, c) => k ≤ mr3.length ∧ c = foldN ((idsM mr3).take k) e9.t) (fun (z : Nat × Nat) => match z with | (k, c) => [(3, .pointer (some ⟨B1, 0, none⟩)), (4, .bool false), (5, .slice ar3 mr3.length cr3), (8, .slice ar22 ((mr3.take n9).length) cr22), (9, .slice ar23 ((mr3.drop f9).length) cr23), (84, .slice ar3 mr3.length cr3), (85, .int .i64 ((mr3.length : Nat) : Int)), (86, .int .i64 ((k : Nat) : Int)), (10, .int .i64 ((c : Nat) : Int))]) (fun (z : Nat × Nat) => match z with | (k, c) => [(957, .row (.slice ar23 ((mr3.drop f9).length) cr23) 36 4 ((mr3.drop f9).length) ((mr3.drop f9).flatMap Mk.cells)), (956, .row (.slice ar22 ((mr3.take n9).length) cr22) 36 4 ((mr3.take n9).length) ((mr3.take n9).flatMap Mk.cells)), (952, .row (.slice ar3 mr3.length cr3) 36 4 mr3.length (mr3.flatMap Mk.cells)), (962, .cvs cs3), (951, .row (.slice ar2 ((x.take 6).length) cr2) 32 3 ((x.take 6).length) ((x.take 6).flatMap Tid.cells)), (1, .blk B1 (.cells #[.int .u64 e9.t, .int .i64 e9.s, .int .u64 e9.q] 32)), (5, .blk B19 (.cells #[.int .u64 mk0.i.t, .int .i64 mk0.i.s, .int .u64 mk0.i.q, .pointer mk0.ptr] 36))]) (fun (z : Nat × Nat) => match z with | (k, c) => mr3.length - k) (0, 0) ⟨Nat.zero_le _, rfl⟩ (sub_cons rfl (sub_cons rfl (sub_cons rfl (sub_cons rfl (sub_cons rfl (sub_cons rfl (sub_cons rfl (sub_cons rfl (sub_cons rfl sub_nil))))))))) (sub_cons rfl (sub_cons rfl (sub_cons rfl (sub_cons rfl (sub_cons rfl (sub_cons rfl (sub_cons rfl sub_nil))))))) ?_
      rintro ⟨k, c⟩ hp
      obtain ⟨hk, hc⟩ := hp
      have hck : c ≤ k := by rw [hc]; exact Nat.le_trans (fold_le _ _) (by rw [List.length_take]; omega)
      show T _ _ _ [(3, .pointer (some ⟨B1, 0, none⟩)), (4, .bool false), (5, .slice ar3 mr3.length cr3), (8, .slice ar22 ((mr3.take n9).length) cr22), (9, .slice ar23 ((mr3.drop f9).length) cr23), (84, .slice ar3 mr3.length cr3), (85, .int .i64 ((mr3.length : Nat) : Int)), (86, .int .i64 ((k : Nat) : Int)), (10, .int .i64 ((c : Nat) : Int))] [(957, .row (.slice ar23 ((mr3.drop f9).length) cr23) 36 4 ((mr3.drop f9).length) ((mr3.drop f9).flatMap Mk.cells)), (956, .row (.slice ar22 ((mr3.take n9).length) cr22) 36 4 ((mr3.take n9).length) ((mr3.take n9).flatMap Mk.cells)), (952, .row (.slice ar3 mr3.length cr3) 36 4 mr3.length (mr3.flatMap Mk.cells)), (962, .cvs cs3), (951, .row (.slice ar2 ((x.take 6).length) cr2) 32 3 ((x.take 6).length) ((x.take 6).flatMap Tid.cells)), (1, .blk B1 (.cells #[.int .u64 e9.t, .int .i64 e9.s, .int .u64 e9.q] 32)), (5, .blk B19 (.cells #[.int .u64 mk0.i.t, .int .i64 mk0.i.s, .int .u64 mk0.i.q, .pointer mk0.ptr] 36))]
      refine T_seq (T_region ?_)
      refine TL_q (.bool (decide (((k : Nat) : Int) < ((mr3.length : Nat) : Int)))) (fun _ _ hρ _ => r_lss (hρ _ _ rfl) (hρ _ _ rfl)) rfl rfl rfl (w_n rfl) ?_
      refine TL_seq ?_
      refine T_seq ?_
      refine T_cond rfl (fun h3 => ?_) (fun h3 => ?_)
      · replace h3 := of_decide_eq_true h3
        refine T_skip' ?_
        refine p_seq ?_
        refine T_seq ?_
        refine T_block ?_
        obtain ⟨p9, hp9⟩ : ∃ x, mr3[k]? = some x := ⟨_, List.getElem?_eq_getElem (by omega)⟩
        refine T_row 952 rfl (by omega) (fun g24 ha24 => ?_)
        subst ha24
        refine T_rowcap 952 rfl (fun hrc24 => ?_)
        refine T_seq (T_region ?_)
        refine TL_q (.pointer (some ⟨g24, 0 + k * 4, none⟩)) (fun _ _ hρ _ => r_indexAddrS (i := k) sl25 sz36 (hρ _ _ rfl) (hρ _ _ rfl) (by omega)) rfl rfl rfl (w_n rfl) ?_
        refine TL_q (.agg #[.int .u64 p9.i.t, .int .i64 p9.i.s, .int .u64 p9.i.q, .pointer p9.ptr]) (fun _ _ hρ hm => r_loadOwn (f := Mk.cells) (u := p9) (l := mr3) ag36 sz36 (hρ _ _ rfl) (hm.row 952 rfl) rfl rfl Mk.cells_len hp9) rfl rfl rfl (w_n rfl) ?_
        refine TL_new 6 (.cells #[.int .u64 0, .int .i64 0, .int .u64 0, .pointer none] 36) (fun B => .pointer (some ⟨B, 0, none⟩)) (fun _ _ _ _ => r_alloc (v := .agg #[.int .u64 0, .int .i64 0, .int .u64 0, .pointer none]) (by kernel_rfl) rfl) rfl rfl rfl (w_n rfl) ?_
        intro B25
        refine TL_store 6 (.cells #[.int .u64 p9.i.t, .int .i64 p9.i.s, .int .u64 p9.i.q, .pointer p9.ptr] 36) rfl (fun _ _ hρ hm => r_store sz36 (hρ _ _ rfl) (hρ _ _ rfl) (hm.at 6 rfl) rfl rfl rfl rfl) rfl rfl (w_n rfl) ?_
        refine TL_seq ?_
        by_cases hle : p9.i.t ≤ e9.t
        · skip
          refine T_seq (T_region ?_)
          refine TL_q (.pointer (some ⟨B25, 0, none⟩)) (fun _ _ hρ _ => r_fieldAddr fl36_0 sz32 (hρ _ _ rfl)) rfl rfl rfl (w_n rfl) ?_
          refine TL_q (.pointer (some ⟨B25, 0, none⟩)) (fun _ _ hρ _ => r_fieldAddr fl32_0 sz30 (hρ _ _ rfl)) rfl rfl rfl (w_n rfl) ?_
          refine TL_q (.int .u64 p9.i.t) (fun _ _ hρ hm => r_load ag30 (hρ _ _ rfl) (hm.at 6 rfl) rfl) rfl rfl rfl (w_n rfl) ?_
          refine TL_q (.pointer (some ⟨B1, 0, none⟩)) (fun _ _ hρ _ => r_fieldAddr fl32_0 sz30 (hρ _ _ rfl)) rfl rfl rfl (w_n rfl) ?_
          refine TL_q (.int .u64 e9.t) (fun _ _ hρ hm => r_load ag30 (hρ _ _ rfl) (hm.at 1 rfl) rfl) rfl rfl rfl (w_n rfl) ?_
          refine TL_q (.bool true) (fun _ _ hρ _ => r_as (r_leq (hρ _ _ rfl) (hρ _ _ rfl)) (bool_as (decide_eq_true hle))) rfl rfl rfl (w_n rfl) ?_
          refine TL_seq ?_
          refine T_cond_t rfl ?_
          refine T_region ?_
          refine TL_q (.int .i64 ((c : Nat) : Int)) (fun _ _ hρ _ => r_move (hρ _ _ rfl)) rfl rfl rfl (w_n rfl) ?_
          refine TL_q (.int .i64 ((c + 1 : Nat) : Int)) (fun _ _ hρ _ => r_as (r_add (hρ _ _ rfl) (hρ _ _ rfl)) (int_as ((wrap64 (by omega) (by omega)).trans (by omega)))) rfl rfl rfl (w_n rfl) ?_
          refine TL_q (.int .i64 ((c + 1 : Nat) : Int)) (fun _ _ hρ _ => r_assign (hρ _ _ rfl)) rfl rfl rfl (w_n rfl) ?_
          refine TL_nil ?_
          refine p_blk_n ?_
          refine p_seq ?_
          refine T_region ?_
          refine TL_q (.int .i64 ((k + 1 : Nat) : Int)) (fun _ _ hρ _ => r_as (r_add (hρ _ _ rfl) (hρ _ _ rfl)) (int_as ((wrap64 (by omega) (by omega)).trans (by omega)))) rfl rfl rfl (w_n rfl) ?_
          refine TL_q (.int .i64 ((k + 1 : Nat) : Int)) (fun _ _ hρ _ => r_move (hρ _ _ rfl)) rfl rfl rfl (w_n rfl) ?_
          refine TL_nil ?_
          exact p_at (k + 1, c + 1) ⟨⟨by omega, by rw [fold_step (ids_at hp9), if_pos hle, ← hc]⟩, by dsimp only; omega⟩ (sub_cons rfl (sub_cons rfl (sub_cons rfl (sub_cons rfl (sub_cons rfl (sub_cons rfl (sub_cons rfl (sub_cons rfl (sub_cons rfl sub_nil))))))))) (sub_cons rfl (sub_cons rfl (sub_cons rfl (sub_cons rfl (sub_cons rfl (sub_cons rfl (sub_cons rfl sub_nil)))))))
        · skip
          refine T_seq (T_region ?_)
          refine TL_q (.pointer (some ⟨B25, 0, none⟩)) (fun _ _ hρ _ => r_fieldAddr fl36_0 sz32 (hρ _ _ rfl)) rfl rfl rfl (w_n rfl) ?_
          refine TL_q (.pointer (some ⟨B25, 0, none⟩)) (fun _ _ hρ _ => r_fieldAddr fl32_0 sz30 (hρ _ _ rfl)) rfl rfl rfl (w_n rfl) ?_
          refine TL_q (.int .u64 p9.i.t) (fun _ _ hρ hm => r_load ag30 (hρ _ _ rfl) (hm.at 6 rfl) rfl) rfl rfl rfl (w_n rfl) ?_
          refine TL_q (.pointer (some ⟨B1, 0, none⟩)) (fun _ _ hρ _ => r_fieldAddr fl32_0 sz30 (hρ _ _ rfl)) rfl rfl rfl (w_n rfl) ?_
          refine TL_q (.int .u64 e9.t) (fun _ _ hρ hm => r_load ag30 (hρ _ _ rfl) (hm.at 1 rfl) rfl) rfl rfl rfl (w_n rfl) ?_
          refine TL_q (.bool false) (fun _ _ hρ _ => r_as (r_leq (hρ _ _ rfl) (hρ _ _ rfl)) (bool_as (decide_eq_false hle))) rfl rfl rfl (w_n rfl) ?_
          refine TL_seq ?_
          refine T_cond_f rfl ?_
          refine T_skip' ?_
          refine p_blk_n ?_
          refine p_seq ?_
          refine T_region ?_
          refine TL_q (.int .i64 ((k + 1 : Nat) : Int)) (fun _ _ hρ _ => r_as (r_add (hρ _ _ rfl) (hρ _ _ rfl)) (int_as ((wrap64 (by omega) (by omega)).trans (by omega)))) rfl rfl rfl (w_n rfl) ?_
          refine TL_q (.int .i64 ((k + 1 : Nat) : Int)) (fun _ _ hρ _ => r_move (hρ _ _ rfl)) rfl rfl rfl (w_n rfl) ?_
          refine TL_nil ?_
          exact p_at (k + 1, c) ⟨⟨by omega, by rw [fold_step (ids_at hp9), if_neg hle, Nat.add_zero, ← hc]⟩, by dsimp only; omega⟩ (sub_cons rfl (sub_cons rfl (sub_cons rfl (sub_cons rfl (sub_cons rfl (sub_cons rfl (sub_cons rfl (sub_cons rfl (sub_cons rfl sub_nil))))))))) (sub_cons rfl (sub_cons rfl (sub_cons rfl (sub_cons rfl (sub_cons rfl (sub_cons rfl (sub_cons rfl sub_nil)))))))
      · replace h3 := of_decide_eq_false h3
        refine T_exit' ?_
        refine p_then_x ?_
        refine p_then_x ?_
        refine p_blk_x ?_
        refine p_seq ?_
        refine T_seq ?_
        have hcf : c = f9 := by rw [hc, show k = mr3.length by omega, ← ids_len mr3, List.take_length, hf9]
        refine T_seq (T_region ?_)
        refine TL_q (.slice ar23 ((mr3.drop f9).length) cr23) (fun _ _ hρ _ => r_move (hρ _ _ rfl)) rfl rfl rfl (w_n rfl) ?_
        refine TL_q (.int .i64 (((mr3.drop f9).length : Nat) : Int)) (fun _ _ hρ _ => r_len sl25 (hρ _ _ rfl)) rfl rfl rfl (w_n rfl) ?_
        refine TL_q (.slice ar3 mr3.length cr3) (fun _ _ hρ _ => r_move (hρ _ _ rfl)) rfl rfl rfl (w_n rfl) ?_
        refine TL_q (.int .i64 ((mr3.length : Nat) : Int)) (fun _ _ hρ _ => r_len sl25 (hρ _ _ rfl)) rfl rfl rfl (w_n rfl) ?_
        refine TL_q (.int .i64 ((c : Nat) : Int)) (fun _ _ hρ _ => r_move (hρ _ _ rfl)) rfl rfl rfl (w_n rfl) ?_
        refine TL_q (.int .i64 ((mr3.length - c : Nat) : Int)) (fun _ _ hρ _ => r_as (r_sub (hρ _ _ rfl) (hρ _ _ rfl)) (int_as ((wrap64 (by omega) (by omega)).trans (by omega)))) rfl rfl rfl (w_n rfl) ?_
        refine TL_q (.bool false) (fun _ _ hρ _ => r_as (r_neq (hρ _ _ rfl) (hρ _ _ rfl)) (bool_as (by rw [hdl, hcf]; simp))) rfl rfl rfl (w_n rfl) ?_
        refine TL_q (.bool false) (fun _ _ hρ _ => r_move (hρ _ _ rfl)) rfl rfl rfl (w_n rfl) ?_
        refine TL_q (.slice ar23 ((mr3.drop f9).length) cr23) (fun _ _ hρ _ => r_move (hρ _ _ rfl)) rfl rfl rfl (want_y 106 rfl rfl rfl) ?_
        refine TL_q (.slice ar3 mr3.length cr3) (fun _ _ hρ _ => r_move (hρ _ _ rfl)) rfl rfl rfl (want_y 106 rfl rfl rfl) ?_
        refine TL_q (.int .i64 ((c : Nat) : Int)) (fun _ _ hρ _ => r_move (hρ _ _ rfl)) rfl rfl rfl (want_y 106 rfl rfl rfl) ?_
        obtain ⟨l26, hl26, hn26⟩ : ∃ lz, lz = (mr3.drop c).take (mr3.length - c) ∧ lz.length = mr3.length - c := ⟨_, rfl, by rw [List.length_take, List.length_drop]; omega⟩
        obtain ⟨a26, ha26⟩ : ∃ az : Option Addr, az = (if cr3 = c then (ar3 : Option Addr) else Option.map (fun z : Addr => z.add (c * 4)) (ar3 : Option Addr)) := ⟨_, rfl⟩
        refine TL_q (.slice a26 l26.length (cr3 - c)) (fun ρ _ hρ _ => r_as (r_sliceO sl25 sz36 (hρ _ _ rfl) (bd_none ρ _) (bd_none ρ _) (bd_some (n := c) (hρ _ _ rfl)) (by simp) (by omega) (by omega) (by omega)) (by rw [hn26, ha26])) rfl rfl rfl (want_y 106 rfl rfl rfl) ?_
        refine TL_call (.bool true) (fun _ _ hρ _ => r_call (args := [.slice ar23 ((mr3.drop f9).length) cr23, .slice a26 l26.length (cr3 - c)]) (enters_of Try.func35 (by kernel_rfl) rfl) (hρ _ _ rfl) ((cons2 (hρ _ _ rfl) (cons2 (hρ _ _ rfl) rfl))) rfl) (fun w hm => msame2_c (mr3.drop f9) l26 (by rw [hl26, hcf, List.take_of_length_le (by rw [List.length_drop]; exact Nat.le_refl _)]) ar23 cr23 a26 (cr3 - c) w (SliceAt.own Mk.cells_len (hm.row 957 rfl) rfl rfl) (row_cap (hm.row 957 rfl)) (by have hs := SliceAt.part (l := mr3) (SliceAt.own Mk.cells_len (hm.row 952 rfl) rfl rfl) (lo := c) (hi := mr3.length) (m := cr3) (by omega) (by omega) (by omega) (by omega); rw [← hl26, ← ha26] at hs; exact hs) (Nat.le_trans (Nat.sub_le _ _) (row_cap (hm.row 952 rfl))) (cvs2_sub (cvs2_row (fun c hc => hm.cv 962 rfl hc) hr3.2) (fun z hz => List.mem_of_mem_drop hz))) rfl rfl rfl (want_y 106 rfl rfl rfl) ?_
        refine TL_q (.bool false) (fun _ _ hρ _ => r_not (b := true) (hρ _ _ rfl)) rfl rfl rfl (want_y 106 rfl rfl rfl) ?_
        refine TL_q (.bool false) (fun _ _ hρ _ => r_pick_f (hρ _ _ rfl) (hρ _ _ rfl)) rfl rfl rfl (w_n rfl) ?_
        refine TL_seq ?_
        refine T_cond_f rfl ?_
        refine T_skip' ?_
        refine p_seq ?_
        refine T_seq (T_region ?_)
        refine TL_q (.int .i64 0) (fun _ _ hρ _ => r_assign (hρ _ _ rfl)) rfl rfl rfl (w_n rfl) ?_
        refine TL_seq ?_
        refine T_seq ?_
        refine T_seq (T_region ?_)
        refine TL_q (.int .i64 1) (fun _ _ hρ _ => r_assign (hρ _ _ rfl)) rfl rfl rfl (w_n rfl) ?_
        refine TL_seq ?_
        refine T_block ?_
        refine T_loop (ι := Nat × Nat) (fun (z : Nat × Nat) => match z with | (k2, c2) => 1 ≤ k2 ∧ (k2 ≤ mr3.length ∨ k2 = 1) ∧ c2 = sumS mr3 k2 ∧ c2 ≤ 2 * k2) (fun (z : Nat × Nat) => match z with | (k2, c2) => [(3, .pointer (some ⟨B1, 0, none⟩)), (4, .bool false), (5, .slice ar3 mr3.length cr3), (8, .slice ar22 ((mr3.take n9).length) cr22), (14, .int .i64 ((k2 : Nat) : Int)), (13, .int .i64 ((c2 : Nat) : Int))]) (fun (z : Nat × Nat) => match z with | (k2, c2) => [(957, .row (.slice ar23 ((mr3.drop f9).length) cr23) 36 4 ((mr3.drop f9).length) ((mr3.drop f9).flatMap Mk.cells)), (956, .row (.slice ar22 ((mr3.take n9).length) cr22) 36 4 ((mr3.take n9).length) ((mr3.take n9).flatMap Mk.cells)), (952, .row (.slice ar3 mr3.length cr3) 36 4 mr3.length (mr3.flatMap Mk.cells)), (962, .cvs cs3), (951, .row (.slice ar2 ((x.take 6).length) cr2) 32 3 ((x.take 6).length) ((x.take 6).flatMap Tid.cells)), (1, .blk B1 (.cells #[.int .u64 e9.t, .int .i64 e9.s, .int .u64 e9.q] 32)), (5, .blk B19 (.cells #[.int .u64 mk0.i.t, .int .i64 mk0.i.s, .int .u64 mk0.i.q, .pointer mk0.ptr] 36))]) (fun (z : Nat × Nat) => match z with | (k2, c2) => mr3.length - k2) (1, 0) ⟨Nat.le_refl _, .inr rfl, rfl, by decide⟩ (sub_cons rfl (sub_cons rfl (sub_cons rfl (sub_cons rfl (sub_cons rfl (sub_cons rfl sub_nil)))))) (sub_cons rfl (sub_cons rfl (sub_cons rfl (sub_cons rfl (sub_cons rfl (sub_cons rfl (sub_cons rfl sub_nil))))))) ?_
        rintro ⟨k2, c2⟩ hp
        obtain ⟨hk2, hk3, hc2, hc3⟩ := hp
        show T _ _ _ [(3, .pointer (some ⟨B1, 0, none⟩)), (4, .bool false), (5, .slice ar3 mr3.length cr3), (8, .slice ar22 ((mr3.take n9).length) cr22), (14, .int .i64 ((k2 : Nat) : Int)), (13, .int .i64 ((c2 : Nat) : Int))] [(957, .row (.slice ar23 ((mr3.drop f9).length) cr23) 36 4 ((mr3.drop f9).length) ((mr3.drop f9).flatMap Mk.cells)), (956, .row (.slice ar22 ((mr3.take n9).length) cr22) 36 4 ((mr3.take n9).length) ((mr3.take n9).flatMap Mk.cells)), (952, .row (.slice ar3 mr3.length cr3) 36 4 mr3.length (mr3.flatMap Mk.cells)), (962, .cvs cs3), (951, .row (.slice ar2 ((x.take 6).length) cr2) 32 3 ((x.take 6).length) ((x.take 6).flatMap Tid.cells)), (1, .blk B1 (.cells #[.int .u64 e9.t, .int .i64 e9.s, .int .u64 e9.q] 32)), (5, .blk B19 (.cells #[.int .u64 mk0.i.t, .int .i64 mk0.i.s, .int .u64 mk0.i.q, .pointer mk0.ptr] 36))]
        refine T_seq ?_
        refine T_seq (T_region ?_)
        refine TL_q (.int .i64 ((k2 : Nat) : Int)) (fun _ _ hρ _ => r_move (hρ _ _ rfl)) rfl rfl rfl (w_n rfl) ?_
        refine TL_q (.slice ar3 mr3.length cr3) (fun _ _ hρ _ => r_move (hρ _ _ rfl)) rfl rfl rfl (w_n rfl) ?_
        refine TL_q (.int .i64 ((mr3.length : Nat) : Int)) (fun _ _ hρ _ => r_len sl25 (hρ _ _ rfl)) rfl rfl rfl (w_n rfl) ?_
        refine TL_q (.bool (decide (((k2 : Nat) : Int) < ((mr3.length : Nat) : Int)))) (fun _ _ hρ _ => r_lss (hρ _ _ rfl) (hρ _ _ rfl)) rfl rfl rfl (w_n rfl) ?_
        refine TL_seq ?_
        refine T_cond rfl (fun h4 => ?_) (fun h4 => ?_)
        · replace h4 := of_decide_eq_true h4
          refine T_skip' ?_
          refine p_seq ?_
          refine T_seq ?_
          refine T_block ?_
          obtain ⟨m9, hm9⟩ : ∃ x, mr3[k2]? = some x := ⟨_, List.getElem?_eq_getElem (by omega)⟩
          obtain ⟨x9, hx9⟩ : ∃ x, mr3[k2 - 1]? = some x := ⟨_, List.getElem?_eq_getElem (by omega)⟩
          obtain ⟨cm, hcm0, hcm1, hcm3, hcm4, _⟩ := hr3.2 k2 m9 hm9
          obtain ⟨cx, hcx0, hcx1, hcx3, hcx4, _⟩ := hr3.2 (k2 - 1) x9 hx9
          refine T_row 952 rfl (by omega) (fun g27 ha27 => ?_)
          subst ha27
          refine T_rowcap 952 rfl (fun hrc27 => ?_)
          refine T_pure (fun _ hm => shM_le (y := m9) hcx1 (hm.cv 962 rfl hcx0) hcx3 hcx4) (fun hsm9 => ?_)
          refine T_draw (V := [(0, .int .i64 ((c2 : Nat) : Int)), (1, .slice (some ⟨g27, 0, none⟩) mr3.length cr3), (2, .int .i64 ((k2 : Nat) : Int)), (3, .int .i64 ((k2 - 1 : Nat) : Int)), (4, .pointer (some ⟨g27, 0 + (k2 - 1) * 4, none⟩)), (5, .pointer (some ⟨g27, 0 + (k2 - 1) * 4 + 3, none⟩)), (6, .pointer x9.ptr), (7, .slice (some ⟨g27, 0, none⟩) mr3.length cr3), (8, .int .i64 ((k2 : Nat) : Int)), (9, .pointer (some ⟨g27, 0 + k2 * 4, none⟩)), (10, .pointer (some ⟨g27, 0 + k2 * 4 + 3, none⟩)), (11, .pointer m9.ptr)]) [0, 0, 0, 4, 14, 30, 62, 0, 0, 384, 896, 1920, 4094, 8191, 16383] [[(13, none)], [(5, none)], [(14, none)], [(122, some 2)], [(121, some 1), (123, some 3)], [(124, some 4)], [(125, some 5)], [(5, none)], [(14, none)], [(127, some 7), (128, some 8)], [(129, some 9)], [(130, some 10)], [(126, some 6), (131, some 11)], [(120, some 0), (132, some 12)], [(133, some 13)]] 4096 mixed (by kernel_rfl) ?_
          refine G_step [0, 1, 2, 3, 4, 5, 6, 7, 8, 9, 10, 11] 12 [] (by kernel_rfl) (allM (all_cons (q_run (.int .i64 ((c2 : Nat) : Int)) rfl rfl (wv_n rfl) rfl (fun _ _ hρ _ => r_move (hρ _ _ rfl))) (all_cons (q_run (.slice (some ⟨g27, 0, none⟩) mr3.length cr3) rfl rfl (wv_n rfl) rfl (fun _ _ hρ _ => r_move (hρ _ _ rfl))) (all_cons (q_run (.int .i64 ((k2 : Nat) : Int)) rfl rfl (wv_n rfl) rfl (fun _ _ hρ _ => r_move (hρ _ _ rfl))) (all_cons (q_run (.int .i64 ((k2 - 1 : Nat) : Int)) rfl rfl (wv_n rfl) rfl (fun _ _ hρ _ => r_as (r_sub (hρ _ _ rfl) (hρ _ _ rfl)) (int_as ((wrap64 (by omega) (by omega)).trans (by omega))))) (all_cons (q_run (.pointer (some ⟨g27, 0 + (k2 - 1) * 4, none⟩)) rfl rfl (wv_n rfl) rfl (fun _ _ hρ _ => r_indexAddrS (i := k2 - 1) sl25 sz36 (hρ _ _ rfl) (hρ _ _ rfl) (by omega))) (all_cons (q_run (.pointer (some ⟨g27, 0 + (k2 - 1) * 4 + 3, none⟩)) rfl rfl (wv_n rfl) rfl (fun _ _ hρ _ => r_fieldAddr fl36_1 sz34 (hρ _ _ rfl))) (all_cons (q_run (.pointer x9.ptr) rfl rfl (wv_n rfl) rfl (fun _ _ hρ hm => r_loadOwnJ (f := Mk.cells) (u := x9) (l := mr3) 3 ag34 (hρ _ _ rfl) (hm.row 952 rfl) rfl rfl Mk.cells_len hx9 rfl)) (all_cons (q_run (.slice (some ⟨g27, 0, none⟩) mr3.length cr3) rfl rfl (wv_n rfl) rfl (fun _ _ hρ _ => r_move (hρ _ _ rfl))) (all_cons (q_run (.int .i64 ((k2 : Nat) : Int)) rfl rfl (wv_n rfl) rfl (fun _ _ hρ _ => r_move (hρ _ _ rfl))) (all_cons (q_run (.pointer (some ⟨g27, 0 + k2 * 4, none⟩)) rfl rfl (wv_n rfl) rfl (fun _ _ hρ _ => r_indexAddrS (i := k2) sl25 sz36 (hρ _ _ rfl) (hρ _ _ rfl) (by omega))) (all_cons (q_run (.pointer (some ⟨g27, 0 + k2 * 4 + 3, none⟩)) rfl rfl (wv_n rfl) rfl (fun _ _ hρ _ => r_fieldAddr fl36_1 sz34 (hρ _ _ rfl))) (all_cons (q_run (.pointer m9.ptr) rfl rfl (wv_n rfl) rfl (fun _ _ hρ hm => r_loadOwnJ (f := Mk.cells) (u := m9) (l := mr3) 3 ag34 (hρ _ _ rfl) (hm.row 952 rfl) rfl rfl Mk.cells_len hm9 rfl)) all_nil))))))))))))) (allM (all_cons ?_ all_nil))
          refine LOb_call (.int .i64 ((shM x9 m9 : Nat) : Int)) [(13, .int .i64 ((c2 + shM x9 m9 : Nat) : Int)), (14, .int .i64 ((c2 + shM x9 m9 : Nat) : Int))] rfl (wv_n rfl) rfl rfl (fun _ _ hρ _ => r_call (args := [.pointer x9.ptr, .pointer m9.ptr]) (enters_of Try.func38 (by kernel_rfl) rfl) (hρ _ _ rfl) ((cons2 (hρ _ _ rfl) (cons2 (hρ _ _ rfl) rfl))) rfl) (fun w hm => (by rw [ptr_some hcx1, ptr_some hcm1]; exact (shared_eq cx cm w (hm.cv 962 rfl hcx0) (hm.cv 962 rfl hcm0) (hcx3.trans hcm3.symm) (hcx4.trans hcm4.symm)).mono fun _ _ h => ⟨h.1.trans (congrArg Ending.returned (int_as (congrArg Int.ofNat (shM_eq hcx1 hcm1).symm))), h.2⟩)) (by kernel_rfl) ?_
          refine G_lastQ [0, 13, 14] [(3, .pointer (some ⟨B1, 0, none⟩)), (4, .bool false), (5, .slice (some ⟨g27, 0, none⟩) mr3.length cr3), (8, .slice ar22 ((mr3.take n9).length) cr22), (14, .int .i64 ((k2 : Nat) : Int)), (114, .int .i64 ((k2 : Nat) : Int)), (115, .slice (some ⟨g27, 0, none⟩) mr3.length cr3), (116, .int .i64 ((mr3.length : Nat) : Int)), (117, .bool (decide (((k2 : Nat) : Int) < ((mr3.length : Nat) : Int)))), (120, .int .i64 ((c2 : Nat) : Int)), (121, .slice (some ⟨g27, 0, none⟩) mr3.length cr3), (122, .int .i64 ((k2 : Nat) : Int)), (123, .int .i64 ((k2 - 1 : Nat) : Int)), (124, .pointer (some ⟨g27, 0 + (k2 - 1) * 4, none⟩)), (125, .pointer (some ⟨g27, 0 + (k2 - 1) * 4 + 3, none⟩)), (126, .pointer x9.ptr), (127, .slice (some ⟨g27, 0, none⟩) mr3.length cr3), (128, .int .i64 ((k2 : Nat) : Int)), (129, .pointer (some ⟨g27, 0 + k2 * 4, none⟩)), (130, .pointer (some ⟨g27, 0 + k2 * 4 + 3, none⟩)), (131, .pointer m9.ptr), (132, .int .i64 ((shM x9 m9 : Nat) : Int)), (133, .int .i64 ((c2 + shM x9 m9 : Nat) : Int)), (13, .int .i64 ((c2 + shM x9 m9 : Nat) : Int))] (by kernel_rfl) (allM (all_cons (q_run (.int .i64 ((c2 : Nat) : Int)) rfl rfl (wv_n rfl) rfl (fun _ _ hρ _ => r_move (hρ _ _ rfl))) (all_cons (q_run (.int .i64 ((c2 + shM x9 m9 : Nat) : Int)) rfl rfl (wv_n rfl) rfl (fun _ _ hρ _ => r_as (r_add (hρ _ _ rfl) (hρ _ _ rfl)) (int_as ((wrap64 (by omega) (by omega)).trans (by omega))))) (all_cons (q_run (.int .i64 ((c2 + shM x9 m9 : Nat) : Int)) rfl rfl (wv_n rfl) rfl (fun _ _ hρ _ => r_assign (hρ _ _ rfl))) all_nil)))) (end_old rfl rfl (end_old rfl rfl (end_old rfl rfl (end_old rfl rfl (end_old rfl rfl (end_old rfl rfl (end_old rfl rfl (end_old rfl rfl (end_old rfl rfl (end_new 0 rfl rfl (end_new 1 rfl rfl (end_new 2 rfl rfl (end_new 3 rfl rfl (end_new 4 rfl rfl (end_new 5 rfl rfl (end_new 6 rfl rfl (end_new 7 rfl rfl (end_new 8 rfl rfl (end_new 9 rfl rfl (end_new 10 rfl rfl (end_new 11 rfl rfl (end_new 12 rfl rfl (end_new 13 rfl rfl (end_new 14 rfl rfl end_nil)))))))))))))))))))))))) ?_
          refine p_blk_n ?_
          refine p_seq ?_
          refine T_region ?_
          refine TL_q (.int .i64 ((k2 : Nat) : Int)) (fun _ _ hρ _ => r_move (hρ _ _ rfl)) rfl rfl rfl (w_n rfl) ?_
          refine TL_q (.int .i64 ((k2 + 1 : Nat) : Int)) (fun _ _ hρ _ => r_as (r_add (hρ _ _ rfl) (hρ _ _ rfl)) (int_as ((wrap64 (by omega) (by omega)).trans (by omega)))) rfl rfl rfl (w_n rfl) ?_
          refine TL_q (.int .i64 ((k2 + 1 : Nat) : Int)) (fun _ _ hρ _ => r_assign (hρ _ _ rfl)) rfl rfl rfl (w_n rfl) ?_
          refine TL_nil ?_
          exact p_at (k2 + 1, c2 + shM x9 m9) ⟨⟨by omega, .inl (by omega), by rw [sumS_step (by omega) hx9 hm9, ← hc2], by omega⟩, by dsimp only; omega⟩ (sub_cons rfl (sub_cons rfl (sub_cons rfl (sub_cons rfl (sub_cons rfl (sub_cons rfl sub_nil)))))) (sub_cons rfl (sub_cons rfl (sub_cons rfl (sub_cons rfl (sub_cons rfl (sub_cons rfl (sub_cons rfl sub_nil)))))))
        · replace h4 := of_decide_eq_false h4
          refine T_exit' ?_
          refine p_then_x ?_
          refine p_then_x ?_
          refine p_blk_x ?_
          refine p_seq ?_
          have htl9 : (mr3.take (aheadL (idsM mr3) e9)).length ≤ 6 := by rw [List.length_take]; omega
          have hce : c2 = sumS mr3 mr3.length := by
            by_cases e : mr3.length = 0
            · rw [hc2, e, show k2 = 1 by omega]; rfl
            · rw [hc2, show k2 = mr3.length by omega]
          obtain ⟨l29, hl29, hn29⟩ : ∃ lz, lz = (mr3.drop ((mr3.take n9).length)).take (mr3.length - ((mr3.take n9).length)) ∧ lz.length = mr3.length - ((mr3.take n9).length) := ⟨_, rfl, by rw [List.length_take, List.length_drop]; omega⟩
          obtain ⟨a29, ha29⟩ : ∃ az : Option Addr, az = (if cr3 = (mr3.take n9).length then (ar3 : Option Addr) else Option.map (fun z : Addr => z.add (((mr3.take n9).length) * 4)) (ar3 : Option Addr)) := ⟨_, rfl⟩
          refine T_seq (T_draw (V := [(0, .slice ar3 mr3.length cr3), (2, .int .i64 ((c2 : Nat) : Int))]) [0, 1, 0, 7, 15, 31, 31, 127, 255, 511, 1023, 1023, 4095, 1023, 1023, 17407, 58367, 131071, 1023, 524287, 1048575, 2097151] [[(5, none)], [(134, some 0)], [(13, none)], [(135, some 1), (136, some 2)], [(137, some 3)], [(5, none)], [(5, none)], [(139, some 5), (140, some 6)], [(141, some 7), (138, some 4)], [(142, some 8)], [(5, none)], [(3, none)], [(144, some 10), (145, some 11)], [(5, none)], [(8, none)], [(148, some 14)], [(147, some 13), (149, some 15)], [(146, some 12), (150, some 16)], [(5, none)], [(151, some 17), (152, some 18)], [(153, some 19), (143, some 9)], [(154, some 20)]] 659586 mixed (by kernel_rfl) ?_)
          refine G_step [0, 2] 1 [] (by kernel_rfl) (allM (all_cons (q_run (.slice ar3 mr3.length cr3) rfl rfl (wv_n rfl) rfl (fun _ _ hρ _ => r_move (hρ _ _ rfl))) (all_cons (q_run (.int .i64 ((c2 : Nat) : Int)) rfl rfl (wv_n rfl) rfl (fun _ _ hρ _ => r_move (hρ _ _ rfl))) all_nil))) (allM (all_cons ?_ all_nil))
          refine LOb_call (.int .i64 ((sumS mr3 mr3.length : Nat) : Int)) [(3, .bool true), (4, .bool true), (5, .slice ar3 mr3.length cr3), (6, .slice ar3 mr3.length cr3)] rfl (wv_n rfl) rfl rfl (fun _ _ hρ _ => r_call (args := [.slice ar3 mr3.length cr3]) (enters_of Try.func37 (by kernel_rfl) rfl) (hρ _ _ rfl) ((cons2 (hρ _ _ rfl) rfl)) rfl) (fun w hm => shares_ok mr3 ar3 cr3 w (SliceAt.own Mk.cells_len (hm.row 952 rfl) rfl rfl) (row_cap (hm.row 952 rfl)) hmk (cvs2_row (fun c hc => hm.cv 962 rfl hc) hr3.2)) (by kernel_rfl) ?_
          refine G_step [2, 3, 4, 5, 6] 7 [] (by kernel_rfl) (allM (all_cons (q_run (.int .i64 ((c2 : Nat) : Int)) rfl rfl (wv_n rfl) rfl (fun _ _ hρ _ => r_move (hρ _ _ rfl))) (all_cons (q_run (.bool true) rfl rfl (wv_n rfl) rfl (fun _ _ hρ _ => r_as (r_eql (hρ _ _ rfl) (hρ _ _ rfl)) (bool_as (decide_eq_true (by rw [hce]))))) (all_cons (q_run (.bool true) rfl rfl (wv_n rfl) rfl (fun _ _ hρ _ => r_move (hρ _ _ rfl))) (all_cons (q_run (.slice ar3 mr3.length cr3) rfl rfl (wv_y rfl rfl) rfl (fun _ _ hρ _ => r_move (hρ _ _ rfl))) (all_cons (q_run (.slice ar3 mr3.length cr3) rfl rfl (wv_y rfl rfl) rfl (fun _ _ hρ _ => r_move (hρ _ _ rfl))) all_nil)))))) (allM (all_cons ?_ all_nil))
          refine LOb_call (.bool true) [(8, .bool true), (9, .bool true), (10, .slice ar3 mr3.length cr3), (11, .agg #[.int .u64 e9.t, .int .i64 e9.s, .int .u64 e9.q]), (13, .slice ar3 mr3.length cr3), (14, .slice ar22 ((mr3.take n9).length) cr22), (15, .int .i64 (((mr3.take n9).length : Nat) : Int)), (16, .slice a29 l29.length (cr3 - ((mr3.take n9).length))), (18, .slice ar3 mr3.length cr3)] rfl (wv_y rfl rfl) rfl rfl (fun _ _ hρ _ => r_call (args := [.slice ar3 mr3.length cr3, .slice ar3 mr3.length cr3]) (enters_of Try.func35 (by kernel_rfl) rfl) (hρ _ _ rfl) ((cons2 (hρ _ _ rfl) (cons2 (hρ _ _ rfl) rfl))) rfl) (fun w hm => msame2_c mr3 mr3 rfl ar3 cr3 ar3 cr3 w (SliceAt.own Mk.cells_len (hm.row 952 rfl) rfl rfl) (row_cap (hm.row 952 rfl)) (SliceAt.own Mk.cells_len (hm.row 952 rfl) rfl rfl) (row_cap (hm.row 952 rfl)) (cvs2_sub (cvs2_row (fun c hc => hm.cv 962 rfl hc) hr3.2) (fun z hz => hz))) (by kernel_rfl) ?_
          refine G_step [8, 9, 10, 11, 13, 14, 15, 16, 18] 12 [] (by kernel_rfl) (allM (all_cons (q_run (.bool true) rfl rfl (wv_n rfl) rfl (fun _ _ hρ _ => r_pick_t (hρ _ _ rfl) (hρ _ _ rfl))) (all_cons (q_run (.bool true) rfl rfl (wv_n rfl) rfl (fun _ _ hρ _ => r_move (hρ _ _ rfl))) (all_cons (q_run (.slice ar3 mr3.length cr3) rfl rfl (wv_y rfl rfl) rfl (fun _ _ hρ _ => r_move (hρ _ _ rfl))) (all_cons (q_run (.agg #[.int .u64 e9.t, .int .i64 e9.s, .int .u64 e9.q]) rfl rfl (wv_y rfl rfl) rfl (fun _ _ hρ hm => r_loadA ag32 sz32 (hρ _ _ rfl) (hm.at 1 rfl) rfl rfl)) (all_cons (q_run (.slice ar3 mr3.length cr3) rfl rfl (wv_y rfl rfl) rfl (fun _ _ hρ _ => r_move (hρ _ _ rfl))) (all_cons (q_run (.slice ar22 ((mr3.take n9).length) cr22) rfl rfl (wv_y rfl rfl) rfl (fun _ _ hρ _ => r_move (hρ _ _ rfl))) (all_cons (q_run (.int .i64 (((mr3.take n9).length : Nat) : Int)) rfl rfl (wv_y rfl rfl) rfl (fun _ _ hρ _ => r_len sl25 (hρ _ _ rfl))) (all_cons (q_run (.slice a29 l29.length (cr3 - ((mr3.take n9).length))) rfl rfl (wv_y rfl rfl) rfl (fun ρ _ hρ _ => r_as (r_sliceO sl25 sz36 (hρ _ _ rfl) (bd_none ρ _) (bd_none ρ _) (bd_some (n := (mr3.take n9).length) (hρ _ _ rfl)) (by simp) (by omega) (by omega) (by omega)) (by rw [hn29, ha29]))) (all_cons (q_run (.slice ar3 mr3.length cr3) rfl rfl (wv_y rfl rfl) rfl (fun _ _ hρ _ => r_move (hρ _ _ rfl))) all_nil)))))))))) (allM (all_cons ?_ all_nil))
          refine LOb_callN (fun (_ : Option Addr × Nat) => True) (fun (ar30, cr30) => .slice ar30 ((mr3.take (aheadL (idsM mr3) e9)).length) cr30) (fun (ar30, cr30) => [(958, .row (.slice ar30 ((mr3.take (aheadL (idsM mr3) e9)).length) cr30) 36 4 ((mr3.take (aheadL (idsM mr3) e9)).length) ((mr3.take (aheadL (idsM mr3) e9)).flatMap Mk.cells))]) (fun (ar30, cr30) => []) rfl (wv_y rfl rfl) rfl rfl (fun _ _ hρ _ => r_call (args := [.slice ar3 mr3.length cr3, .agg #[.int .u64 e9.t, .int .i64 e9.s, .int .u64 e9.q]]) (enters_of Try.func27 (by kernel_rfl) rfl) (hρ _ _ rfl) ((cons2 (hρ _ _ rfl) (cons2 (hρ _ _ rfl) rfl))) rfl) (fun w hm => (drop_ok mr3 ar3 cr3 e9 w (SliceAt.own Mk.cells_len (hm.row 952 rfl) rfl rfl) (row_cap (hm.row 952 rfl)) hmk).mono fun e w' ⟨a', cap', he, hb, hr⟩ => ⟨(a', cap'), trivial, he, hb, newOk1 958 hr⟩) (fun (ar30, cr30) => by kernel_rfl) ?_
          rintro ⟨ar30, cr30⟩ -
          refine G_step [13, 14, 15, 16, 18] 17 [] (by kernel_rfl) (allM (all_cons (q_run (.slice ar3 mr3.length cr3) rfl rfl (wv_y rfl rfl) rfl (fun _ _ hρ _ => r_move (hρ _ _ rfl))) (all_cons (q_run (.slice ar22 ((mr3.take n9).length) cr22) rfl rfl (wv_y rfl rfl) rfl (fun _ _ hρ _ => r_move (hρ _ _ rfl))) (all_cons (q_run (.int .i64 (((mr3.take n9).length : Nat) : Int)) rfl rfl (wv_y rfl rfl) rfl (fun _ _ hρ _ => r_len sl25 (hρ _ _ rfl))) (all_cons (q_run (.slice a29 l29.length (cr3 - ((mr3.take n9).length))) rfl rfl (wv_y rfl rfl) rfl (fun ρ _ hρ _ => r_as (r_sliceO sl25 sz36 (hρ _ _ rfl) (bd_none ρ _) (bd_none ρ _) (bd_some (n := (mr3.take n9).length) (hρ _ _ rfl)) (by simp) (by omega) (by omega) (by omega)) (by rw [hn29, ha29]))) (all_cons (q_run (.slice ar3 mr3.length cr3) rfl rfl (wv_y rfl rfl) rfl (fun _ _ hρ _ => r_move (hρ _ _ rfl))) all_nil)))))) (allM (all_cons ?_ all_nil))
          refine LOb_append (n := (mr3.take (aheadL (idsM mr3) e9)).length) (m := l29.length) (xs := ((mr3.take (aheadL (idsM mr3) e9)).flatMap Mk.cells)) (news := (l29.flatMap Mk.cells)) (z := .agg #[.int .u64 0, .int .i64 0, .int .u64 0, .pointer none]) 958 (fun a cap => []) rfl (wv_y rfl rfl) rfl rfl rfl sl25 sz36 by36 (by kernel_rfl) rfl rfl (.inl rfl) (fun _ hm => src_of Mk.cells_len (by have hs := SliceAt.part (l := mr3) (SliceAt.own Mk.cells_len (hm.row 952 rfl) rfl rfl) (lo := (mr3.take n9).length) (hi := mr3.length) (m := cr3) (by omega) (by omega) (by omega) (by omega); rw [← hl29, ← ha29] at hs; exact hs)) mk_ones (by omega) (by omega) (fun a cap => by kernel_rfl) ?_
          intro a31 cap31
          refine G_step [18] 19 [] (by kernel_rfl) (allM (all_cons (q_run (.slice ar3 mr3.length cr3) rfl rfl (wv_y rfl rfl) rfl (fun _ _ hρ _ => r_move (hρ _ _ rfl))) all_nil)) (allM (all_cons ?_ all_nil))
          refine LOb_call (.bool true) [(20, .bool true), (21, .bool true)] rfl (wv_y rfl rfl) rfl rfl (fun _ _ hρ _ => r_call (args := [.slice a31 ((mr3.take (aheadL (idsM mr3) e9)).length + l29.length) cap31, .slice ar3 mr3.length cr3]) (enters_of Try.func35 (by kernel_rfl) rfl) (hρ _ _ rfl) ((cons2 (hρ _ _ rfl) (cons2 (hρ _ _ rfl) rfl))) rfl) (fun w hm => (by rw [← List.length_append]; exact msame2_c ((mr3.take (aheadL (idsM mr3) e9)) ++ l29) mr3 (by rw [← hnz, hl29, htl, List.take_of_length_le (l := mr3.drop n9) (by rw [List.length_drop]; exact Nat.le_refl _), List.take_append_drop]) a31 cap31 ar3 cr3 w (SliceAt.own Mk.cells_len (hm.row 958 rfl) (List.length_append).symm (List.flatMap_append).symm) (row_cap (hm.row 958 rfl)) (SliceAt.own Mk.cells_len (hm.row 952 rfl) rfl rfl) (row_cap (hm.row 952 rfl)) (cvs2_sub (cvs2_row (fun c hc => hm.cv 962 rfl hc) hr3.2) (fun z hz => by rw [hl29] at hz; exact (List.mem_append.1 hz).elim (fun h => List.mem_of_mem_take h) (fun h => List.mem_of_mem_drop (List.mem_of_mem_take h)))))) (by kernel_rfl) ?_
          refine G_last [20, 21] [(4, .bool true)] (by kernel_rfl) (allM (all_cons (q_run (.bool true) rfl rfl (wv_n rfl) rfl (fun _ _ hρ _ => r_pick_t (hρ _ _ rfl) (hρ _ _ rfl))) (all_cons (q_run (.bool true) rfl rfl (wv_n rfl) rfl (fun _ _ hρ _ => r_assign (hρ _ _ rfl))) all_nil))) (end_new 21 rfl rfl end_nil) ?_
          refine T_ret' ?_
          refine ret_of rfl (.bool true) (fun tmps w hk hm => res1 rfl (res_tmp (hk 4 _ rfl))) (fun w hm => ?_)
          exact ⟨rfl, hm.ext⟩
  · skip
    refine T_seq (T_region ?_)
    refine TL_q (.slice ar3 mr3.length cr3) (fun _ _ hρ _ => r_move (hρ _ _ rfl)) rfl rfl rfl (w_n rfl) ?_
    refine TL_q (.agg #[.int .u64 e9.t, .int .i64 e9.s, .int .u64 e9.q]) (fun _ _ hρ hm => r_loadA ag32 sz32 (hρ _ _ rfl) (hm.at 1 rfl) rfl rfl) rfl rfl rfl (w_n rfl) ?_
    refine TL_call (.tuple #[.agg #[.int .u64 mk0.i.t, .int .i64 mk0.i.s, .int .u64 mk0.i.q, .pointer mk0.ptr], .bool false]) (fun _ _ hρ _ => r_call (args := [.slice ar3 mr3.length cr3, .agg #[.int .u64 e9.t, .int .i64 e9.s, .int .u64 e9.q]]) (enters_of Try.func26 (by kernel_rfl) rfl) (hρ _ _ rfl) ((cons2 (hρ _ _ rfl) (cons2 (hρ _ _ rfl) rfl))) rfl) (fun w hm => below_no mr3 ar3 cr3 e9 w (SliceAt.own Mk.cells_len (hm.row 952 rfl) rfl rfl) (row_cap (hm.row 952 rfl)) hmk) rfl rfl rfl (w_n rfl) ?_
    refine TL_q (.tuple #[.agg #[.int .u64 mk0.i.t, .int .i64 mk0.i.s, .int .u64 mk0.i.q, .pointer mk0.ptr], .bool false]) (fun _ _ hρ _ => r_move (hρ _ _ rfl)) rfl rfl rfl (w_n rfl) ?_
    refine TL_q (.agg #[.int .u64 mk0.i.t, .int .i64 mk0.i.s, .int .u64 mk0.i.q, .pointer mk0.ptr]) (fun _ _ hρ _ => r_extract (hρ _ _ rfl) rfl) rfl rfl rfl (w_n rfl) ?_
    refine TL_q (.bool false) (fun _ _ hρ _ => r_extract (hρ _ _ rfl) rfl) rfl rfl rfl (w_n rfl) ?_
    refine TL_new 7 (.cells #[.int .u64 0, .int .i64 0, .int .u64 0, .pointer none] 36) (fun B => .pointer (some ⟨B, 0, none⟩)) (fun _ _ _ _ => r_alloc (v := .agg #[.int .u64 0, .int .i64 0, .int .u64 0, .pointer none]) (by kernel_rfl) rfl) rfl rfl rfl (w_n rfl) ?_
    intro B32
    refine TL_store 7 (.cells #[.int .u64 mk0.i.t, .int .i64 mk0.i.s, .int .u64 mk0.i.q, .pointer mk0.ptr] 36) rfl (fun _ _ hρ hm => r_store sz36 (hρ _ _ rfl) (hρ _ _ rfl) (hm.at 7 rfl) rfl rfl rfl rfl) rfl rfl (w_n rfl) ?_
    refine TL_q (.bool false) (fun _ _ hρ _ => r_assign (hρ _ _ rfl)) rfl rfl rfl (w_n rfl) ?_
    refine TL_seq ?_
    refine T_seq (T_draw (V := [(0, .slice ar3 mr3.length cr3), (1, .agg #[.int .u64 e9.t, .int .i64 e9.s, .int .u64 e9.q]), (3, .slice ar3 mr3.length cr3), (4, .pointer (some ⟨B1, 0, none⟩)), (5, .int .u64 e9.t)]) [0, 0, 3, 0, 0, 16, 63, 127, 255] [[(5, none)], [(3, none)], [(26, some 0), (27, some 1)], [(5, none)], [(3, none)], [(30, some 4)], [(29, some 3), (31, some 5)], [(28, some 2)], [(32, some 6)]] 68 mixed (by kernel_rfl) ?_)
    refine G_step [0, 1, 3, 4, 5] 2 [] (by kernel_rfl) (allM (all_cons (q_run (.slice ar3 mr3.length cr3) rfl rfl (wv_n rfl) rfl (fun _ _ hρ _ => r_move (hρ _ _ rfl))) (all_cons (q_run (.agg #[.int .u64 e9.t, .int .i64 e9.s, .int .u64 e9.q]) rfl rfl (wv_n rfl) rfl (fun _ _ hρ hm => r_loadA ag32 sz32 (hρ _ _ rfl) (hm.at 1 rfl) rfl rfl)) (all_cons (q_run (.slice ar3 mr3.length cr3) rfl rfl (wv_n rfl) rfl (fun _ _ hρ _ => r_move (hρ _ _ rfl))) (all_cons (q_run (.pointer (some ⟨B1, 0, none⟩)) rfl rfl (wv_n rfl) rfl (fun _ _ hρ _ => r_fieldAddr fl32_0 sz30 (hρ _ _ rfl))) (all_cons (q_run (.int .u64 e9.t) rfl rfl (wv_n rfl) rfl (fun _ _ hρ hm => r_load ag30 (hρ _ _ rfl) (hm.at 1 rfl) rfl)) all_nil)))))) (allM (all_cons ?_ all_nil))
    refine LOb_call (.slice none 0 0) [] rfl (wv_n rfl) rfl rfl (fun _ _ hρ _ => r_call (args := [.slice ar3 mr3.length cr3, .agg #[.int .u64 e9.t, .int .i64 e9.s, .int .u64 e9.q]]) (enters_of Try.func27 (by kernel_rfl) rfl) (hρ _ _ rfl) ((cons2 (hρ _ _ rfl) (cons2 (hρ _ _ rfl) rfl))) rfl) (fun w hm => drop_no mr3 ar3 cr3 e9 w (SliceAt.own Mk.cells_len (hm.row 952 rfl) rfl rfl) (row_cap (hm.row 952 rfl)) hmk) (by kernel_rfl) ?_
    refine G_step [3, 4, 5] 6 [] (by kernel_rfl) (allM (all_cons (q_run (.slice ar3 mr3.length cr3) rfl rfl (wv_n rfl) rfl (fun _ _ hρ _ => r_move (hρ _ _ rfl))) (all_cons (q_run (.pointer (some ⟨B1, 0, none⟩)) rfl rfl (wv_n rfl) rfl (fun _ _ hρ _ => r_fieldAddr fl32_0 sz30 (hρ _ _ rfl))) (all_cons (q_run (.int .u64 e9.t) rfl rfl (wv_n rfl) rfl (fun _ _ hρ hm => r_load ag30 (hρ _ _ rfl) (hm.at 1 rfl) rfl)) all_nil)))) (allM (all_cons ?_ all_nil))
    refine LOb_call (.slice none 0 0) [(7, .slice none 0 0), (8, .slice none 0 0)] rfl (wv_n rfl) rfl rfl (fun _ _ hρ _ => r_call (args := [.slice ar3 mr3.length cr3, .int .u64 e9.t]) (enters_of Try.func28 (by kernel_rfl) rfl) (hρ _ _ rfl) ((cons2 (hρ _ _ rfl) (cons2 (hρ _ _ rfl) rfl))) rfl) (fun w hm => fold_no mr3 ar3 cr3 e9.t w (SliceAt.own Mk.cells_len (hm.row 952 rfl) rfl rfl) (row_cap (hm.row 952 rfl)) hmk) (by kernel_rfl) ?_
    refine G_last [7, 8] [(3, .pointer (some ⟨B1, 0, none⟩)), (4, .bool false), (5, .slice ar3 mr3.length cr3), (6, .pointer (some ⟨B32, 0, none⟩)), (7, .bool false), (8, .slice none 0 0), (9, .slice none 0 0)] (by kernel_rfl) (allM (all_cons (q_run (.slice none 0 0) rfl rfl (wv_n rfl) rfl (fun _ _ hρ _ => r_assign (hρ _ _ rfl))) (all_cons (q_run (.slice none 0 0) rfl rfl (wv_n rfl) rfl (fun _ _ hρ _ => r_assign (hρ _ _ rfl))) all_nil))) (end_old rfl rfl (end_old rfl rfl (end_old rfl rfl (end_old rfl rfl (end_old rfl rfl (end_new 7 rfl rfl (end_new 8 rfl rfl end_nil))))))) ?_
    refine T_seq ?_
    refine T_seq (T_region ?_)
    refine TL_q (.slice ar3 mr3.length cr3) (fun _ _ hρ _ => r_move (hρ _ _ rfl)) rfl rfl rfl (w_n rfl) ?_
    refine TL_call (.int .i64 260) (fun _ _ hρ _ => r_call (args := [.slice ar3 mr3.length cr3]) (enters_of Try.func14 (by kernel_rfl) rfl) (hρ _ _ rfl) ((cons2 (hρ _ _ rfl) rfl)) rfl) (fun w hm => (check_c mr3 ar3 cr3 w (SliceAt.own Mk.cells_len (hm.row 952 rfl) rfl rfl) (row_cap (hm.row 952 rfl))).mono fun _ _ h => ⟨h.1.trans (congrArg Ending.returned (int_as (if_neg hmk))), h.2⟩) rfl rfl rfl (w_n rfl) ?_
    refine TL_q (.bool true) (fun _ _ hρ _ => r_as (r_neq (hρ _ _ rfl) (hρ _ _ rfl)) (by rfl)) rfl rfl rfl (w_n rfl) ?_
    refine TL_seq ?_
    refine T_cond_t rfl ?_
    refine T_seq (T_region ?_)
    refine TL_q (.bool false) (fun _ _ hρ _ => r_move (hρ _ _ rfl)) rfl rfl rfl (w_n rfl) ?_
    refine TL_q (.bool true) (fun _ _ hρ _ => r_not (b := false) (hρ _ _ rfl)) rfl rfl rfl (w_n rfl) ?_
    refine TL_q (.bool true) (fun _ _ hρ _ => r_move (hρ _ _ rfl)) rfl rfl rfl (w_n rfl) ?_
    refine TL_q (.slice none 0 0) (fun _ _ hρ _ => r_move (hρ _ _ rfl)) rfl rfl rfl (want_y 38 rfl rfl rfl) ?_
    refine TL_q (.int .i64 0) (fun _ _ hρ _ => r_len sl25 (hρ _ _ rfl)) rfl rfl rfl (want_y 38 rfl rfl rfl) ?_
    refine TL_q (.slice none 0 0) (fun _ _ hρ _ => r_move (hρ _ _ rfl)) rfl rfl rfl (want_y 38 rfl rfl rfl) ?_
    refine TL_q (.int .i64 0) (fun _ _ hρ _ => r_len sl25 (hρ _ _ rfl)) rfl rfl rfl (want_y 38 rfl rfl rfl) ?_
    refine TL_q (.int .i64 0) (fun _ _ hρ _ => r_as (r_add (hρ _ _ rfl) (hρ _ _ rfl)) (by rfl)) rfl rfl rfl (want_y 38 rfl rfl rfl) ?_
    refine TL_q (.slice ar3 mr3.length cr3) (fun _ _ hρ _ => r_move (hρ _ _ rfl)) rfl rfl rfl (want_y 38 rfl rfl rfl) ?_
    refine TL_call (.slice none 0 0) (fun _ _ hρ _ => r_call (args := [.slice ar3 mr3.length cr3]) (enters_of Try.func34 (by kernel_rfl) rfl) (hρ _ _ rfl) ((cons2 (hρ _ _ rfl) rfl)) rfl) (fun w hm => ids_no mr3 ar3 cr3 w (SliceAt.own Mk.cells_len (hm.row 952 rfl) rfl rfl) (row_cap (hm.row 952 rfl)) hmk) rfl rfl rfl (want_y 38 rfl rfl rfl) ?_
    refine TL_q (.int .i64 0) (fun _ _ hρ _ => r_len sl22 (hρ _ _ rfl)) rfl rfl rfl (want_y 38 rfl rfl rfl) ?_
    refine TL_q (.int .i64 0) (fun _ _ hρ _ => r_as (r_add (hρ _ _ rfl) (hρ _ _ rfl)) (by rfl)) rfl rfl rfl (want_y 38 rfl rfl rfl) ?_
    refine TL_q (.bool true) (fun _ _ hρ _ => r_as (r_eql (hρ _ _ rfl) (hρ _ _ rfl)) (by rfl)) rfl rfl rfl (want_y 38 rfl rfl rfl) ?_
    refine TL_q (.bool true) (fun _ _ hρ _ => r_pick_t (hρ _ _ rfl) (hρ _ _ rfl)) rfl rfl rfl (w_n rfl) ?_
    refine TL_q (.bool true) (fun _ _ hρ _ => r_move (hρ _ _ rfl)) rfl rfl rfl (w_n rfl) ?_
    refine TL_q (.slice ar3 mr3.length cr3) (fun _ _ hρ _ => r_move (hρ _ _ rfl)) rfl rfl rfl (want_y 50 rfl rfl rfl) ?_
    refine TL_call (.int .i64 0) (fun _ _ hρ _ => r_call (args := [.slice ar3 mr3.length cr3]) (enters_of Try.func37 (by kernel_rfl) rfl) (hρ _ _ rfl) ((cons2 (hρ _ _ rfl) rfl)) rfl) (fun w hm => shares_no mr3 ar3 cr3 w (SliceAt.own Mk.cells_len (hm.row 952 rfl) rfl rfl) (row_cap (hm.row 952 rfl)) hmk) rfl rfl rfl (want_y 50 rfl rfl rfl) ?_
    refine TL_q (.bool true) (fun _ _ hρ _ => r_as (r_eql (hρ _ _ rfl) (hρ _ _ rfl)) (by rfl)) rfl rfl rfl (want_y 50 rfl rfl rfl) ?_
    refine TL_q (.bool true) (fun _ _ hρ _ => r_pick_t (hρ _ _ rfl) (hρ _ _ rfl)) rfl rfl rfl (w_n rfl) ?_
    refine TL_q (.bool true) (fun _ _ hρ _ => r_assign (hρ _ _ rfl)) rfl rfl rfl (w_n rfl) ?_
    refine TL_seq ?_
    refine T_ret' ?_
    refine p_then_r ?_
    refine ret_of rfl (.bool true) (fun tmps w hk hm => res1 rfl (res_tmp (hk 4 _ rfl))) (fun w hm => ?_)
    exact ⟨rfl, hm.ext⟩
end Go.Proofs.Ytmihoejecpcmjaa
