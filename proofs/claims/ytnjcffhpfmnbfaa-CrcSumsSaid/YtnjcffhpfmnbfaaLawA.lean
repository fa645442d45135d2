/- crc: the walks of CrcTails, CrcWants. Printed by a program of this seat's prover. -/
import Derived.Test.YtnjcffhpfmnbfaaWake
namespace Go.Proofs.Ytnjcffhpfmnbfaa
open Go Go.RowKit
set_option maxRecDepth 10000
theorem four_back (s : Wd) (o0 o1 o2 o3 : By) : fourV (tailW s (sumC s [o0, o1, o2, o3])) = .agg #[.int .u8 (o0.toNat : Int), .int .u8 (o1.toNat : Int), .int .u8 (o2.toNat : Int), .int .u8 (o3.toNat : Int)] := by
  have h : four (wordOf [o0, o1, o2, o3]) = [o0, o1, o2, o3] := four_word rfl
  have e : ∀ x, fourV x = .agg ((four x).flatMap byc).toArray := fun _ => rfl
  rw [← h, more_tail, e, h]; rfl
theorem bytes4 {a0 a1 a2 a3 b0 b1 b2 b3 : By} : decide (([(a0.toNat : Int), (a1.toNat : Int), (a2.toNat : Int), (a3.toNat : Int)] : List Int) = [(b0.toNat : Int), (b1.toNat : Int), (b2.toNat : Int), (b3.toNat : Int)]) = decide ([a0, a1, a2, a3] = [b0, b1, b2, b3]) := by
  refine decide_eq_decide.2 ⟨fun h => ?_, fun h => ?_⟩
  · injection h with h0 h; injection h with h1 h; injection h with h2 h; injection h with h3 h
    rw [BitVec.eq_of_toNat_eq (Int.ofNat.inj h0), BitVec.eq_of_toNat_eq (Int.ofNat.inj h1), BitVec.eq_of_toNat_eq (Int.ofNat.inj h2), BitVec.eq_of_toNat_eq (Int.ofNat.inj h3)]
  · injection h with h0 h; injection h with h1 h; injection h with h2 h; injection h with h3 h
    rw [h0, h1, h2, h3]
theorem wants_iff {s t : Wd} {o0 o1 o2 o3 : By} : sumC s [o0, o1, o2, o3] = t ↔ [o0, o1, o2, o3] = four (tailW s t) := by
  have h : four (wordOf [o0, o1, o2, o3]) = [o0, o1, o2, o3] := four_word rfl
  rw [← h, more_four]
  exact ⟨fun e => by rw [e], fun e => four_inj e⟩
theorem parts_more {K l1 l2 : List By} {p m : Nat} (h1 : l1 = K.take p) (h2 : l2 = (K.drop p).take (m - p)) (hm : m = K.length) : sumC (sumC 0#32 l1) l2 = sumC 0#32 K := by
  subst h1 h2 hm
  rw [List.take_of_length_le (l := K.drop p) (by rw [List.length_drop]; exact Nat.le_refl _), sumC_app, List.take_append_drop]
theorem parts_sum {K l1 l2 : List By} {p m : Nat} (h1 : l1 = K.take p) (h2 : l2 = (K.drop p).take (m - p)) (hm : m = K.length) : sumC 0#32 (l1 ++ l2) = sumC 0#32 K := by
  rw [← sumC_app]; exact parts_more h1 h2 hm
abbrev PW := Wd × Wd
abbrev PW.cells (p : PW) : List Value := [.int .u32 (p.1.toNat : Int), .int .u32 (p.2.toNat : Int)]
theorem PW.cells_len (p : PW) : (PW.cells p).length = 2 := rfl
theorem sumCV {a b : Wd} (h : a = b) : Value.int .u32 (a.toNat : Int) = .int .u32 (b.toNat : Int) := by rw [h]

theorem tails_any (ps : List PW) (a : Option Addr) (cap : Nat) (w : World) (hv : SliceAt w a cap 2 PW.cells ps) (hcap : cap ≤ Go.maxLen) : Calls Try.prog 3 #[.slice a ps.length cap] w fun e w' => e = .returned (.bool true) ∧ Below w.heap.size w w' := by
  have hvl := hv.1
  unfold Go.maxLen at hcap
  refine calls_of_T (l := [.slice a ps.length cap]) 31 Try.func3 rfl rfl rfl ?_
  show T _ _ _ [(0, .slice a ps.length cap)] []
  refine T_seq (T_region ?_)
  refine TL_q (.bool false) (fun _ _ hρ _ => r_assign (hρ _ _ rfl)) rfl rfl rfl (w_n rfl) ?_
  refine TL_seq ?_
  refine T_seq ?_
  refine T_seq (T_region ?_)
  refine TL_call (.bool true) (fun _ _ hρ _ => r_call (args := []) (enters_of Try.func9 (by kernel_rfl) rfl) (hρ _ _ rfl) (by rfl) rfl) (fun w _ => wakes_any w) rfl rfl rfl (w_n rfl) ?_
  refine TL_q (.bool false) (fun _ _ hρ _ => r_not (b := true) (hρ _ _ rfl)) rfl rfl rfl (w_n rfl) ?_
  refine TL_seq ?_
  refine T_cond_f rfl ?_
  refine T_skip' ?_
  refine p_seq ?_
  refine T_seq ?_
  refine T_seq (T_region ?_)
  refine TL_q (.slice a ps.length cap) (fun _ _ hρ _ => r_move (hρ _ _ rfl)) rfl rfl rfl (w_n rfl) ?_
  refine TL_q (.int .i64 ((ps.length : Nat) : Int)) (fun _ _ hρ _ => r_len sl22 (hρ _ _ rfl)) rfl rfl rfl (w_n rfl) ?_
  refine TL_q (.int .i64 0) (fun _ _ hρ _ => r_move (hρ _ _ rfl)) rfl rfl rfl (w_n rfl) ?_
  refine TL_seq ?_
  refine T_block ?_
  refine T_loop (ι := Nat) (fun (k : Nat) => k ≤ ps.length) (fun (k : Nat) => [(8, .slice a ps.length cap), (9, .int .i64 ((ps.length : Nat) : Int)), (10, .int .i64 ((k : Nat) : Int))]) (fun (k : Nat) => []) (fun (k : Nat) => ps.length - k) 0 (Nat.zero_le _) (sub_cons rfl (sub_cons rfl (sub_cons rfl sub_nil))) sub_nil ?_
  rintro k hp
  show T _ _ _ [(8, .slice a ps.length cap), (9, .int .i64 ((ps.length : Nat) : Int)), (10, .int .i64 ((k : Nat) : Int))] []
  refine T_seq (T_region ?_)
  refine TL_q (.bool (decide (((k : Nat) : Int) < ((ps.length : Nat) : Int)))) (fun _ _ hρ _ => r_lss (hρ _ _ rfl) (hρ _ _ rfl)) rfl rfl rfl (w_n rfl) ?_
  refine TL_seq ?_
  refine T_seq ?_
  refine T_cond rfl (fun h1 => ?_) (fun h1 => ?_)
  · replace h1 := of_decide_eq_true h1
    refine T_skip' ?_
    refine p_seq ?_
    refine T_seq ?_
    refine T_block ?_
    obtain ⟨x, hx⟩ : ∃ x, ps[k]? = some x := ⟨_, List.getElem?_eq_getElem (by omega)⟩
    obtain ⟨b1, of1, cs1, T1, fz1, ha1, hq1, hr1⟩ := hv.open (i := k) (by omega)
    subst ha1
    refine T_seq (T_region ?_)
    refine TL_q (.int .i64 ((k : Nat) : Int)) (fun _ _ hρ _ => r_move (hρ _ _ rfl)) rfl rfl rfl (w_n rfl) ?_
    refine TL_q (.pointer (some ⟨b1, of1 + k * 2, none⟩)) (fun _ _ hρ _ => r_indexAddrS (i := k) sl22 sz25 (hρ _ _ rfl) (hρ _ _ rfl) (by omega)) rfl rfl rfl (w_n rfl) ?_
    refine TL_q (.agg #[.int .u32 ((x.1).toNat : Int), .int .u32 ((x.2).toNat : Int)]) (fun _ _ hρ hm => r_loadRow (f := PW.cells) (u := x) ag25 sz25 (hρ _ _ rfl) (hm.old hq1) hr1 hx) rfl rfl rfl (w_n rfl) ?_
    refine TL_new 1 (.cells #[.int .u32 0, .int .u32 0] 25) (fun B => .pointer (some ⟨B, 0, none⟩)) (fun _ _ _ _ => r_alloc (v := .agg #[.int .u32 0, .int .u32 0]) (by kernel_rfl) rfl) rfl rfl rfl (w_n rfl) ?_
    intro B2
    refine TL_q (.int .i64 ((k : Nat) : Int)) (fun _ _ hρ _ => r_assign (hρ _ _ rfl)) rfl rfl rfl (w_n rfl) ?_
    refine TL_store 1 (.cells #[.int .u32 ((x.1).toNat : Int), .int .u32 ((x.2).toNat : Int)] 25) rfl (fun _ _ hρ hm => r_store sz25 (hρ _ _ rfl) (hρ _ _ rfl) (hm.at 1 rfl) rfl rfl rfl rfl) rfl rfl (w_n rfl) ?_
    refine TL_seq ?_
    refine T_seq ?_
    refine T_seq (T_region ?_)
    refine TL_q (.int .i64 ((k : Nat) : Int)) (fun _ _ hρ _ => r_move (hρ _ _ rfl)) rfl rfl rfl (w_n rfl) ?_
    refine TL_q (.bool (decide (((k : Nat) : Int) = 8))) (fun _ _ hρ _ => r_eql (hρ _ _ rfl) (hρ _ _ rfl)) rfl rfl rfl (w_n rfl) ?_
    refine TL_seq ?_
    refine T_cond rfl (fun h2 => ?_) (fun h2 => ?_)
    · replace h2 := of_decide_eq_true h2
      refine T_exit' ?_
      refine p_then_x ?_
      refine p_blk_o rfl ?_
      refine p_then_x ?_
      refine p_then_x ?_
      refine p_blk_x ?_
      refine p_seq ?_
      refine T_seq (T_region ?_)
      refine TL_q (.bool true) (fun _ _ hρ _ => r_assign (hρ _ _ rfl)) rfl rfl rfl (w_n rfl) ?_
      refine TL_seq ?_
      refine T_ret' ?_
      refine ret_of rfl (.bool true) (fun tmps w hk hm => res1 rfl (res_tmp (hk 2 _ rfl))) (fun w hm => ?_)
      exact ⟨rfl, hm.ext⟩
    · replace h2 := of_decide_eq_false h2
      refine T_skip' ?_
      refine p_seq ?_
      refine T_seq (T_region ?_)
      refine TL_q (.pointer (some ⟨B2, 0, none⟩)) (fun _ _ hρ _ => r_indexAddrA (i := 0) ar25 sz24 (hρ _ _ rfl) (hρ _ _ rfl) (by decide)) rfl rfl rfl (w_n rfl) ?_
      refine TL_q (.int .u32 ((x.1).toNat : Int)) (fun _ _ hρ hm => r_load ag24 (hρ _ _ rfl) (hm.at 1 rfl) rfl) rfl rfl rfl (w_n rfl) ?_
      refine TL_q (.pointer (some ⟨B2, 1, none⟩)) (fun _ _ hρ _ => r_indexAddrA (i := 1) ar25 sz24 (hρ _ _ rfl) (hρ _ _ rfl) (by decide)) rfl rfl rfl (w_n rfl) ?_
      refine TL_q (.int .u32 ((x.2).toNat : Int)) (fun _ _ hρ hm => r_load ag24 (hρ _ _ rfl) (hm.at 1 rfl) rfl) rfl rfl rfl (w_n rfl) ?_
      refine TL_call (.agg #[.int .u8 ((((tailW x.1 x.2)).setWidth 8).toNat : Int), .int .u8 ((((tailW x.1 x.2) >>> 8).setWidth 8).toNat : Int), .int .u8 ((((tailW x.1 x.2) >>> 16).setWidth 8).toNat : Int), .int .u8 ((((tailW x.1 x.2) >>> 24).setWidth 8).toNat : Int)]) (fun _ _ hρ _ => r_call (args := [.int .u32 ((x.1).toNat : Int), .int .u32 ((x.2).toNat : Int)]) (enters_of Try.func10 (by kernel_rfl) rfl) (hρ _ _ rfl) ((cons2 (hρ _ _ rfl) (cons2 (hρ _ _ rfl) rfl))) rfl) (fun w _ => tail_c x.1 x.2 w) rfl rfl rfl (w_n rfl) ?_
      refine TL_new 2 (.cells #[.int .u8 0, .int .u8 0, .int .u8 0, .int .u8 0] 26) (fun B => .pointer (some ⟨B, 0, none⟩)) (fun _ _ _ _ => r_alloc (v := .agg #[.int .u8 0, .int .u8 0, .int .u8 0, .int .u8 0]) (by kernel_rfl) rfl) rfl rfl rfl (w_n rfl) ?_
      intro B3
      refine TL_store 2 (.cells #[.int .u8 ((((tailW x.1 x.2)).setWidth 8).toNat : Int), .int .u8 ((((tailW x.1 x.2) >>> 8).setWidth 8).toNat : Int), .int .u8 ((((tailW x.1 x.2) >>> 16).setWidth 8).toNat : Int), .int .u8 ((((tailW x.1 x.2) >>> 24).setWidth 8).toNat : Int)] 26) rfl (fun _ _ hρ hm => r_store sz26 (hρ _ _ rfl) (hρ _ _ rfl) (hm.at 2 rfl) rfl rfl rfl rfl) rfl rfl (w_n rfl) ?_
      refine TL_seq ?_
      refine T_seq (T_draw (V := [(0, .slice (some ⟨B3, 0, none⟩) 4 4), (1, .pointer (some ⟨B2, 0, none⟩)), (2, .int .u32 ((x.1).toNat : Int)), (3, .pointer (some ⟨B2, 1, none⟩)), (4, .int .u32 ((x.2).toNat : Int))]) [0, 0, 2, 0, 8, 30, 63, 127] [[(5, none)], [(4, none)], [(23, some 1)], [(4, none)], [(25, some 3)], [(24, some 2), (26, some 4)], [(22, some 0), (27, some 5)], [(28, some 6)]] 96 mixed (by kernel_rfl) ?_)
      refine G_step [0, 1, 2, 3, 4] 5 [] (by kernel_rfl) (allM (all_cons (q_run (.slice (some ⟨B3, 0, none⟩) 4 4) rfl rfl (wv_n rfl) rfl (fun _ _ hρ _ => r_sliceA ar26 sz5 (by decide) (hρ _ _ rfl))) (all_cons (q_run (.pointer (some ⟨B2, 0, none⟩)) rfl rfl (wv_n rfl) rfl (fun _ _ hρ _ => r_indexAddrA (i := 0) ar25 sz24 (hρ _ _ rfl) (hρ _ _ rfl) (by decide))) (all_cons (q_run (.int .u32 ((x.1).toNat : Int)) rfl rfl (wv_n rfl) rfl (fun _ _ hρ hm => r_load ag24 (hρ _ _ rfl) (hm.at 1 rfl) rfl)) (all_cons (q_run (.pointer (some ⟨B2, 1, none⟩)) rfl rfl (wv_n rfl) rfl (fun _ _ hρ _ => r_indexAddrA (i := 1) ar25 sz24 (hρ _ _ rfl) (hρ _ _ rfl) (by decide))) (all_cons (q_run (.int .u32 ((x.2).toNat : Int)) rfl rfl (wv_n rfl) rfl (fun _ _ hρ hm => r_load ag24 (hρ _ _ rfl) (hm.at 1 rfl) rfl)) all_nil)))))) (allM (all_cons ?_ all_nil))
      refine LOb_callN (fun (_ : Nat) => True) (fun F5 => .slice (some ⟨F5, 0, none⟩) 4 4) (fun F5 => [(3, .blk F5 (.cells (((four (tailW x.1 x.2)).flatMap byc).toArray) 5))]) (fun F5 => []) rfl (wv_n rfl) rfl rfl (fun _ _ hρ _ => r_call (args := [.int .u32 ((x.1).toNat : Int), .int .u32 ((x.2).toNat : Int)]) (enters_of Try.func12 (by kernel_rfl) rfl) (hρ _ _ rfl) ((cons2 (hρ _ _ rfl) (cons2 (hρ _ _ rfl) rfl))) rfl) (fun w _ => (tail_ref x.1 x.2 w).mono fun e w' ⟨z, h1, h2, h3, h4⟩ => ⟨z, h1, h2, h3, newOk_at 3 h4⟩) (fun F5 => by kernel_rfl) ?_
      rintro F5 -
      refine G_step [0] 6 [] (by kernel_rfl) (allM (all_cons (q_run (.slice (some ⟨B3, 0, none⟩) 4 4) rfl rfl (wv_n rfl) rfl (fun _ _ hρ _ => r_sliceA ar26 sz5 (by decide) (hρ _ _ rfl))) all_nil)) (allM (all_cons ?_ all_nil))
      refine LOb_call (.bool true) [(7, .bool false)] rfl (wv_n rfl) rfl rfl (fun _ _ hρ _ => r_call (args := [.slice (some ⟨B3, 0, none⟩) 4 4, .slice (some ⟨F5, 0, none⟩) 4 4]) (enters_of Try.func11 (by kernel_rfl) rfl) (hρ _ _ rfl) ((cons2 (hρ _ _ rfl) (cons2 (hρ _ _ rfl) rfl))) rfl) (fun w hm => (equal_b [((tailW x.1 x.2)).setWidth 8, ((tailW x.1 x.2) >>> 8).setWidth 8, ((tailW x.1 x.2) >>> 16).setWidth 8, ((tailW x.1 x.2) >>> 24).setWidth 8] (four (tailW x.1 x.2)) (some ⟨B3, 0, none⟩) (some ⟨F5, 0, none⟩) 4 4 w ⟨Nat.le_of_ble_eq_true rfl, (fun e => by cases e), .inr ⟨_, 0, _, _, _, rfl, (hm.at 2 rfl), row_of_take (fun _ => rfl) rfl⟩⟩ ⟨Nat.le_of_ble_eq_true rfl, (fun e => by cases e), .inr ⟨_, 0, _, _, _, rfl, (hm.at 3 rfl), row_of_take (fun _ => rfl) rfl⟩⟩ (Nat.le_of_ble_eq_true rfl) (Nat.le_of_ble_eq_true rfl)).mono fun _ _ h => ⟨h.1.trans (congrArg Ending.returned (bool_as (decide_eq_true (rfl)))), h.2⟩) (by kernel_rfl) ?_
      refine G_last [7] [(8, .slice (some ⟨b1, of1, none⟩) ps.length cap), (9, .int .i64 ((ps.length : Nat) : Int)), (10, .int .i64 ((k : Nat) : Int)), (11, .bool (decide (((k : Nat) : Int) < ((ps.length : Nat) : Int)))), (12, .int .i64 ((k : Nat) : Int)), (13, .pointer (some ⟨b1, of1 + k * 2, none⟩)), (14, .agg #[.int .u32 ((x.1).toNat : Int), .int .u32 ((x.2).toNat : Int)]), (4, .pointer (some ⟨B2, 0, none⟩)), (3, .int .i64 ((k : Nat) : Int)), (15, .int .i64 ((k : Nat) : Int)), (16, .bool (decide (((k : Nat) : Int) = 8))), (17, .pointer (some ⟨B2, 0, none⟩)), (18, .int .u32 ((x.1).toNat : Int)), (19, .pointer (some ⟨B2, 1, none⟩)), (20, .int .u32 ((x.2).toNat : Int)), (21, .agg #[.int .u8 ((((tailW x.1 x.2)).setWidth 8).toNat : Int), .int .u8 ((((tailW x.1 x.2) >>> 8).setWidth 8).toNat : Int), .int .u8 ((((tailW x.1 x.2) >>> 16).setWidth 8).toNat : Int), .int .u8 ((((tailW x.1 x.2) >>> 24).setWidth 8).toNat : Int)]), (5, .pointer (some ⟨B3, 0, none⟩)), (22, .slice (some ⟨B3, 0, none⟩) 4 4), (23, .pointer (some ⟨B2, 0, none⟩)), (24, .int .u32 ((x.1).toNat : Int)), (25, .pointer (some ⟨B2, 1, none⟩)), (26, .int .u32 ((x.2).toNat : Int)), (27, .slice (some ⟨F5, 0, none⟩) 4 4), (28, .bool true), (29, .bool false)] (by kernel_rfl) (allM (all_cons (q_run (.bool false) rfl rfl (wv_n rfl) rfl (fun _ _ hρ _ => r_not (b := true) (hρ _ _ rfl))) all_nil)) (end_old rfl rfl (end_old rfl rfl (end_old rfl rfl (end_old rfl rfl (end_old rfl rfl (end_old rfl rfl (end_old rfl rfl (end_old rfl rfl (end_old rfl rfl (end_old rfl rfl (end_old rfl rfl (end_old rfl rfl (end_old rfl rfl (end_old rfl rfl (end_old rfl rfl (end_old rfl rfl (end_old rfl rfl (end_new 0 rfl rfl (end_new 1 rfl rfl (end_new 2 rfl rfl (end_new 3 rfl rfl (end_new 4 rfl rfl (end_new 5 rfl rfl (end_new 6 rfl rfl (end_new 7 rfl rfl end_nil))))))))))))))))))))))))) ?_
      refine T_cond_f rfl ?_
      refine T_skip' ?_
      refine p_blk_n ?_
      refine p_seq ?_
      refine T_region ?_
      refine TL_q (.int .i64 ((k + 1 : Nat) : Int)) (fun _ _ hρ _ => r_as (r_add (hρ _ _ rfl) (hρ _ _ rfl)) (int_as ((wrap64 (by omega) (by omega)).trans (by omega)))) rfl rfl rfl (w_n rfl) ?_
      refine TL_q (.int .i64 ((k + 1 : Nat) : Int)) (fun _ _ hρ _ => r_move (hρ _ _ rfl)) rfl rfl rfl (w_n rfl) ?_
      refine TL_nil ?_
      exact p_at (k + 1) ⟨by omega, by omega⟩ (sub_cons rfl (sub_cons rfl (sub_cons rfl sub_nil))) sub_nil
  · replace h1 := of_decide_eq_false h1
    refine T_exit' ?_
    refine p_then_x ?_
    refine p_then_x ?_
    refine p_blk_x ?_
    refine p_seq ?_
    refine T_seq (T_region ?_)
    refine TL_q (.bool true) (fun _ _ hρ _ => r_assign (hρ _ _ rfl)) rfl rfl rfl (w_n rfl) ?_
    refine TL_seq ?_
    refine T_ret' ?_
    refine ret_of rfl (.bool true) (fun tmps w hk hm => res1 rfl (res_tmp (hk 2 _ rfl))) (fun w hm => ?_)
    exact ⟨rfl, hm.ext⟩

theorem wants_any (l : List By) (a : Option Addr) (cap : Nat) (want : Wd) (o0 o1 o2 o3 : By) (w : World) (hv : SliceAt w a cap 1 byc l) (hcap : cap ≤ Go.maxLen) : Calls Try.prog 8 #[.slice a l.length cap, .int .u32 (want.toNat : Int), .agg #[.int .u8 (o0.toNat : Int), .int .u8 (o1.toNat : Int), .int .u8 (o2.toNat : Int), .int .u8 (o3.toNat : Int)]] w fun e w' => e = .returned (.bool true) ∧ Below w.heap.size w w' := by
  have hvl := hv.1
  unfold Go.maxLen at hcap
  refine calls_of_T (l := [.slice a l.length cap, .int .u32 ((want).toNat : Int), .agg #[.int .u8 ((o0).toNat : Int), .int .u8 ((o1).toNat : Int), .int .u8 ((o2).toNat : Int), .int .u8 ((o3).toNat : Int)]]) 41 Try.func8 rfl rfl rfl ?_
  show T _ _ _ [(0, .slice a l.length cap), (1, .int .u32 ((want).toNat : Int)), (2, .agg #[.int .u8 ((o0).toNat : Int), .int .u8 ((o1).toNat : Int), .int .u8 ((o2).toNat : Int), .int .u8 ((o3).toNat : Int)])] []
  refine T_seq (T_region ?_)
  refine TL_new 1 (.cells #[.int .u8 ((o0).toNat : Int), .int .u8 ((o1).toNat : Int), .int .u8 ((o2).toNat : Int), .int .u8 ((o3).toNat : Int)] 26) (fun B => .pointer (some ⟨B, 0, none⟩)) (fun _ _ hρ _ => r_box (hρ _ _ rfl) rfl) rfl rfl rfl (w_n rfl) ?_
  intro B1
  refine TL_q (.bool false) (fun _ _ hρ _ => r_assign (hρ _ _ rfl)) rfl rfl rfl (w_n rfl) ?_
  refine TL_seq ?_
  refine T_seq ?_
  refine T_seq (T_region ?_)
  refine TL_call (.bool true) (fun _ _ hρ _ => r_call (args := []) (enters_of Try.func9 (by kernel_rfl) rfl) (hρ _ _ rfl) (by rfl) rfl) (fun w _ => wakes_any w) rfl rfl rfl (w_n rfl) ?_
  refine TL_q (.bool false) (fun _ _ hρ _ => r_not (b := true) (hρ _ _ rfl)) rfl rfl rfl (w_n rfl) ?_
  refine TL_seq ?_
  refine T_cond_f rfl ?_
  refine T_skip' ?_
  refine p_seq ?_
  refine T_seq (T_region ?_)
  refine TL_q (.slice a l.length cap) (fun _ _ hρ _ => r_move (hρ _ _ rfl)) rfl rfl rfl (w_n rfl) ?_
  refine TL_callN (fun (_ : Option Addr × Nat) => True) (fun (a2, cap2) => .slice a2 ((l.take 400).length) cap2) (fun (a2, cap2) => [(2, .row (.slice a2 ((l.take 400).length) cap2) 5 1 ((l.take 400).length) ((l.take 400).flatMap byc))]) (fun _ _ hρ _ => r_call (args := [.slice a l.length cap]) (enters_of Try.func13 (by kernel_rfl) rfl) (hρ _ _ rfl) ((cons2 (hρ _ _ rfl) rfl)) rfl) (fun w hm => (few_c l a cap w (hv.keep hm.ext) hcap).mono fun e w' ⟨a', cap', he, hb, hr⟩ => ⟨(a', cap'), trivial, he, hb, newOk1 2 hr⟩) rfl rfl rfl (w_n rfl) ?_
  rintro ⟨a2, cap2⟩ -
  refine TL_new 3 (.cells #[.slice a2 ((l.take 400).length) cap2] 29) (fun B => .slice (some ⟨B, 0, none⟩) 1 1) (fun _ _ hρ _ => r_buildSlice (vs := [(0, .slice a2 ((l.take 400).length) cap2)]) (by kernel_rfl) (cons2 (pair2 (hρ _ _ rfl)) rfl)) rfl rfl rfl (w_n rfl) ?_
  intro B3
  refine TL_call (.int .u32 ((sumC 0#32 (l.take 400)).toNat : Int)) (fun _ _ hρ _ => r_call (args := [.slice (some ⟨B3, 0, none⟩) 1 1]) (enters_of Try.func20 (by kernel_rfl) rfl) (hρ _ _ rfl) ((cons2 (hρ _ _ rfl) rfl)) rfl) (fun w hm => (sum_c [(⟨a2, cap2, (l.take 400)⟩ : RowV)] (some ⟨B3, 0, none⟩) 1 w ⟨by simp, (fun e => by cases e), .inr ⟨_, 0, _, _, _, rfl, (hm.at 3 rfl), row_of_take (fun _ => rfl) rfl⟩⟩ (List.forall_mem_cons.2 ⟨(SliceAt.own byc_len (hm.row 2 rfl) rfl rfl), (fun _ h => nomatch h)⟩) (List.forall_mem_cons.2 ⟨(row_cap (hm.row 2 rfl)), (fun _ h => nomatch h)⟩) (by decide)).mono fun _ _ h => ⟨h.1.trans (congrArg (fun x : List By => Ending.returned (.int .u32 ((sumC 0#32 x).toNat : Int))) (by first | rfl | simp only [List.flatMap_cons, List.flatMap_nil, List.append_nil])), h.2⟩) rfl rfl rfl (w_n rfl) ?_
  refine TL_q (.int .u32 ((sumC 0#32 (l.take 400)).toNat : Int)) (fun _ _ hρ _ => r_assign (hρ _ _ rfl)) rfl rfl rfl (w_n rfl) ?_
  refine TL_seq ?_
  refine T_seq (T_region ?_)
  refine TL_q (.int .u32 ((sumC 0#32 (l.take 400)).toNat : Int)) (fun _ _ hρ _ => r_move (hρ _ _ rfl)) rfl rfl rfl (w_n rfl) ?_
  refine TL_q (.int .u32 ((want).toNat : Int)) (fun _ _ hρ _ => r_move (hρ _ _ rfl)) rfl rfl rfl (w_n rfl) ?_
  refine TL_call (.agg #[.int .u8 ((((tailW (sumC 0#32 (l.take 400)) want)).setWidth 8).toNat : Int), .int .u8 ((((tailW (sumC 0#32 (l.take 400)) want) >>> 8).setWidth 8).toNat : Int), .int .u8 ((((tailW (sumC 0#32 (l.take 400)) want) >>> 16).setWidth 8).toNat : Int), .int .u8 ((((tailW (sumC 0#32 (l.take 400)) want) >>> 24).setWidth 8).toNat : Int)]) (fun _ _ hρ _ => r_call (args := [.int .u32 ((sumC 0#32 (l.take 400)).toNat : Int), .int .u32 ((want).toNat : Int)]) (enters_of Try.func10 (by kernel_rfl) rfl) (hρ _ _ rfl) ((cons2 (hρ _ _ rfl) (cons2 (hρ _ _ rfl) rfl))) rfl) (fun w _ => tail_c (sumC 0#32 (l.take 400)) want w) rfl rfl rfl (w_n rfl) ?_
  refine TL_new 4 (.cells #[.int .u8 0, .int .u8 0, .int .u8 0, .int .u8 0] 26) (fun B => .pointer (some ⟨B, 0, none⟩)) (fun _ _ _ _ => r_alloc (v := .agg #[.int .u8 0, .int .u8 0, .int .u8 0, .int .u8 0]) (by kernel_rfl) rfl) rfl rfl rfl (w_n rfl) ?_
  intro B4
  refine TL_store 4 (.cells #[.int .u8 ((((tailW (sumC 0#32 (l.take 400)) want)).setWidth 8).toNat : Int), .int .u8 ((((tailW (sumC 0#32 (l.take 400)) want) >>> 8).setWidth 8).toNat : Int), .int .u8 ((((tailW (sumC 0#32 (l.take 400)) want) >>> 16).setWidth 8).toNat : Int), .int .u8 ((((tailW (sumC 0#32 (l.take 400)) want) >>> 24).setWidth 8).toNat : Int)] 26) rfl (fun _ _ hρ hm => r_store sz26 (hρ _ _ rfl) (hρ _ _ rfl) (hm.at 4 rfl) rfl rfl rfl rfl) rfl rfl (w_n rfl) ?_
  refine TL_seq ?_
  refine T_seq ?_
  refine T_seq (T_draw (V := [(0, .int .u32 ((sumC 0#32 (l.take 400)).toNat : Int)), (1, .slice (some ⟨B4, 0, none⟩) 4 4), (3, .int .u32 ((want).toNat : Int))]) [0, 0, 3, 0, 15, 31, 63, 63, 63, 447, 1023, 63, 4095, 8191] [[(7, none)], [(8, none)], [(18, some 0), (19, some 1)], [(1, none)], [(20, some 2), (21, some 3)], [(22, some 4)], [(7, none)], [(7, none)], [(5, none)], [(25, some 7), (26, some 8)], [(24, some 6), (27, some 9)], [(5, none)], [(28, some 10), (29, some 11)], [(30, some 12), (23, some 5)]] 1540 mixed (by kernel_rfl) ?_)
  refine G_step [0, 1, 3] 2 [] (by kernel_rfl) (allM (all_cons (q_run (.int .u32 ((sumC 0#32 (l.take 400)).toNat : Int)) rfl rfl (wv_n rfl) rfl (fun _ _ hρ _ => r_move (hρ _ _ rfl))) (all_cons (q_run (.slice (some ⟨B4, 0, none⟩) 4 4) rfl rfl (wv_n rfl) rfl (fun _ _ hρ _ => r_sliceA ar26 sz5 (by decide) (hρ _ _ rfl))) (all_cons (q_run (.int .u32 ((want).toNat : Int)) rfl rfl (wv_n rfl) rfl (fun _ _ hρ _ => r_move (hρ _ _ rfl))) all_nil)))) (allM (all_cons ?_ all_nil))
  refine LOb_call (.int .u32 ((want).toNat : Int)) [(4, .bool false), (5, .bool false), (6, .int .u32 ((sumC 0#32 (l.take 400)).toNat : Int)), (7, .int .u32 ((sumC 0#32 (l.take 400)).toNat : Int)), (8, .slice (some ⟨B1, 0, none⟩) 4 4), (11, .agg #[.int .u8 ((o0).toNat : Int), .int .u8 ((o1).toNat : Int), .int .u8 ((o2).toNat : Int), .int .u8 ((o3).toNat : Int)])] rfl (wv_n rfl) rfl rfl (fun _ _ hρ _ => r_call (args := [.int .u32 ((sumC 0#32 (l.take 400)).toNat : Int), .slice (some ⟨B4, 0, none⟩) 4 4]) (enters_of Try.func22 (by kernel_rfl) rfl) (hρ _ _ rfl) ((cons2 (hρ _ _ rfl) (cons2 (hρ _ _ rfl) rfl))) rfl) (fun w hm => (moreB_c (sumC 0#32 (l.take 400)) [((tailW (sumC 0#32 (l.take 400)) want)).setWidth 8, ((tailW (sumC 0#32 (l.take 400)) want) >>> 8).setWidth 8, ((tailW (sumC 0#32 (l.take 400)) want) >>> 16).setWidth 8, ((tailW (sumC 0#32 (l.take 400)) want) >>> 24).setWidth 8] (some ⟨B4, 0, none⟩) 4 w ⟨Nat.le_of_ble_eq_true rfl, (fun e => by cases e), .inr ⟨_, 0, _, _, _, rfl, (hm.at 4 rfl), row_of_take (fun _ => rfl) rfl⟩⟩ (Nat.le_of_ble_eq_true rfl)).mono fun _ _ h => ⟨h.1.trans (congrArg Ending.returned (sumCV (tail_more (sumC 0#32 (l.take 400)) want))), h.2⟩) (by kernel_rfl) ?_
  refine G_step [3, 4, 5, 6, 7, 8, 11] 9 [] (by kernel_rfl) (allM (all_cons (q_run (.int .u32 ((want).toNat : Int)) rfl rfl (wv_n rfl) rfl (fun _ _ hρ _ => r_move (hρ _ _ rfl))) (all_cons (q_run (.bool false) rfl rfl (wv_n rfl) rfl (fun _ _ hρ _ => r_as (r_neq (hρ _ _ rfl) (hρ _ _ rfl)) (bool_as (by simp)))) (all_cons (q_run (.bool false) rfl rfl (wv_n rfl) rfl (fun _ _ hρ _ => r_move (hρ _ _ rfl))) (all_cons (q_run (.int .u32 ((sumC 0#32 (l.take 400)).toNat : Int)) rfl rfl (wv_y rfl rfl) rfl (fun _ _ hρ _ => r_move (hρ _ _ rfl))) (all_cons (q_run (.int .u32 ((sumC 0#32 (l.take 400)).toNat : Int)) rfl rfl (wv_y rfl rfl) rfl (fun _ _ hρ _ => r_move (hρ _ _ rfl))) (all_cons (q_run (.slice (some ⟨B1, 0, none⟩) 4 4) rfl rfl (wv_y rfl rfl) rfl (fun _ _ hρ _ => r_sliceA ar26 sz5 (by decide) (hρ _ _ rfl))) (all_cons (q_run (.agg #[.int .u8 ((o0).toNat : Int), .int .u8 ((o1).toNat : Int), .int .u8 ((o2).toNat : Int), .int .u8 ((o3).toNat : Int)]) rfl rfl (wv_y rfl rfl) rfl (fun _ _ hρ hm => r_loadA ag26 sz26 (hρ _ _ rfl) (hm.at 1 rfl) rfl rfl)) all_nil)))))))) (allM (all_cons ?_ all_nil))
  refine LOb_call (.int .u32 ((sumC (sumC 0#32 (l.take 400)) [o0, o1, o2, o3]).toNat : Int)) [] rfl (wv_y rfl rfl) rfl rfl (fun _ _ hρ _ => r_call (args := [.int .u32 ((sumC 0#32 (l.take 400)).toNat : Int), .slice (some ⟨B1, 0, none⟩) 4 4]) (enters_of Try.func22 (by kernel_rfl) rfl) (hρ _ _ rfl) ((cons2 (hρ _ _ rfl) (cons2 (hρ _ _ rfl) rfl))) rfl) (fun w hm => moreB_c (sumC 0#32 (l.take 400)) [o0, o1, o2, o3] (some ⟨B1, 0, none⟩) 4 w ⟨Nat.le_of_ble_eq_true rfl, (fun e => by cases e), .inr ⟨_, 0, _, _, _, rfl, (hm.at 1 rfl), row_of_take (fun _ => rfl) rfl⟩⟩ (Nat.le_of_ble_eq_true rfl)) (by kernel_rfl) ?_
  refine G_step [6, 11] 10 [] (by kernel_rfl) (allM (all_cons (q_run (.int .u32 ((sumC 0#32 (l.take 400)).toNat : Int)) rfl rfl (wv_y rfl rfl) rfl (fun _ _ hρ _ => r_move (hρ _ _ rfl))) (all_cons (q_run (.agg #[.int .u8 ((o0).toNat : Int), .int .u8 ((o1).toNat : Int), .int .u8 ((o2).toNat : Int), .int .u8 ((o3).toNat : Int)]) rfl rfl (wv_y rfl rfl) rfl (fun _ _ hρ hm => r_loadA ag26 sz26 (hρ _ _ rfl) (hm.at 1 rfl) rfl rfl)) all_nil))) (allM (all_cons ?_ all_nil))
  refine LOb_call (.agg #[.int .u8 ((o0).toNat : Int), .int .u8 ((o1).toNat : Int), .int .u8 ((o2).toNat : Int), .int .u8 ((o3).toNat : Int)]) [(12, .bool false), (13, .bool false)] rfl (wv_y rfl rfl) rfl rfl (fun _ _ hρ _ => r_call (args := [.int .u32 ((sumC 0#32 (l.take 400)).toNat : Int), .int .u32 ((sumC (sumC 0#32 (l.take 400)) [o0, o1, o2, o3]).toNat : Int)]) (enters_of Try.func10 (by kernel_rfl) rfl) (hρ _ _ rfl) ((cons2 (hρ _ _ rfl) (cons2 (hρ _ _ rfl) rfl))) rfl) (fun w _ => (tail_c (sumC 0#32 (l.take 400)) (sumC (sumC 0#32 (l.take 400)) [o0, o1, o2, o3]) w).mono fun _ _ h => ⟨h.1.trans (congrArg Ending.returned (four_back (sumC 0#32 (l.take 400)) o0 o1 o2 o3)), h.2⟩) (by kernel_rfl) ?_
  refine G_last [11, 12, 13] [(1, .int .u32 ((want).toNat : Int)), (5, .pointer (some ⟨B1, 0, none⟩)), (6, .bool false), (7, .int .u32 ((sumC 0#32 (l.take 400)).toNat : Int)), (8, .pointer (some ⟨B4, 0, none⟩)), (31, .bool false)] (by kernel_rfl) (allM (all_cons (q_run (.agg #[.int .u8 ((o0).toNat : Int), .int .u8 ((o1).toNat : Int), .int .u8 ((o2).toNat : Int), .int .u8 ((o3).toNat : Int)]) rfl rfl (wv_y rfl rfl) rfl (fun _ _ hρ hm => r_loadA ag26 sz26 (hρ _ _ rfl) (hm.at 1 rfl) rfl rfl)) (all_cons (q_run (.bool false) rfl rfl (wv_y rfl rfl) rfl (fun _ _ hρ _ => r_as (r_neqA (by kernel_rfl) (hρ _ _ rfl) (hρ _ _ rfl) (run_equalArr (l := ([((o0).toNat : Int), ((o1).toNat : Int), ((o2).toNat : Int), ((o3).toNat : Int)] : List Int)) (m := ([((o0).toNat : Int), ((o1).toNat : Int), ((o2).toNat : Int), ((o3).toNat : Int)] : List Int)) ar26 io5 sz5 rfl rfl)) (bool_as (by rw [decide_eq_true rfl]; rfl)))) (all_cons (q_run (.bool false) rfl rfl (wv_n rfl) rfl (fun _ _ hρ _ => r_pick_f (hρ _ _ rfl) (hρ _ _ rfl))) all_nil)))) (end_old rfl rfl (end_old rfl rfl (end_old rfl rfl (end_old rfl rfl (end_old rfl rfl (end_new 13 rfl rfl end_nil)))))) ?_
  refine T_cond_f rfl ?_
  refine T_skip' ?_
  refine p_seq ?_
  by_cases hP : (sumC (sumC 0#32 (l.take 400)) [o0, o1, o2, o3]) = want
  · skip
    have hQ : [o0, o1, o2, o3] = four (tailW (sumC 0#32 (l.take 400)) want) := wants_iff.1 hP
    refine T_seq (T_draw (V := [(0, .int .u32 ((sumC 0#32 (l.take 400)).toNat : Int)), (1, .slice (some ⟨B1, 0, none⟩) 4 4), (3, .int .u32 ((want).toNat : Int)), (5, .agg #[.int .u8 ((o0).toNat : Int), .int .u8 ((o1).toNat : Int), .int .u8 ((o2).toNat : Int), .int .u8 ((o3).toNat : Int)]), (6, .agg #[.int .u8 ((((tailW (sumC 0#32 (l.take 400)) want)).setWidth 8).toNat : Int), .int .u8 ((((tailW (sumC 0#32 (l.take 400)) want) >>> 8).setWidth 8).toNat : Int), .int .u8 ((((tailW (sumC 0#32 (l.take 400)) want) >>> 16).setWidth 8).toNat : Int), .int .u8 ((((tailW (sumC 0#32 (l.take 400)) want) >>> 24).setWidth 8).toNat : Int)]), (7, .bool true)]) [0, 0, 3, 0, 15, 0, 0, 96, 255, 511] [[(7, none)], [(5, none)], [(32, some 0), (33, some 1)], [(1, none)], [(34, some 2), (35, some 3)], [(5, none)], [(8, none)], [(37, some 5), (38, some 6)], [(36, some 4), (39, some 7)], [(40, some 8)]] 4 mixed (by kernel_rfl) ?_)
    refine G_step [0, 1, 3, 5, 6, 7] 2 [] (by kernel_rfl) (allM (all_cons (q_run (.int .u32 ((sumC 0#32 (l.take 400)).toNat : Int)) rfl rfl (wv_n rfl) rfl (fun _ _ hρ _ => r_move (hρ _ _ rfl))) (all_cons (q_run (.slice (some ⟨B1, 0, none⟩) 4 4) rfl rfl (wv_n rfl) rfl (fun _ _ hρ _ => r_sliceA ar26 sz5 (by decide) (hρ _ _ rfl))) (all_cons (q_run (.int .u32 ((want).toNat : Int)) rfl rfl (wv_n rfl) rfl (fun _ _ hρ _ => r_move (hρ _ _ rfl))) (all_cons (q_run (.agg #[.int .u8 ((o0).toNat : Int), .int .u8 ((o1).toNat : Int), .int .u8 ((o2).toNat : Int), .int .u8 ((o3).toNat : Int)]) rfl rfl (wv_n rfl) rfl (fun _ _ hρ hm => r_loadA ag26 sz26 (hρ _ _ rfl) (hm.at 1 rfl) rfl rfl)) (all_cons (q_run (.agg #[.int .u8 ((((tailW (sumC 0#32 (l.take 400)) want)).setWidth 8).toNat : Int), .int .u8 ((((tailW (sumC 0#32 (l.take 400)) want) >>> 8).setWidth 8).toNat : Int), .int .u8 ((((tailW (sumC 0#32 (l.take 400)) want) >>> 16).setWidth 8).toNat : Int), .int .u8 ((((tailW (sumC 0#32 (l.take 400)) want) >>> 24).setWidth 8).toNat : Int)]) rfl rfl (wv_n rfl) rfl (fun _ _ hρ hm => r_loadA ag26 sz26 (hρ _ _ rfl) (hm.at 4 rfl) rfl rfl)) (all_cons (q_run (.bool true) rfl rfl (wv_n rfl) rfl (fun _ _ hρ _ => r_as (r_as (r_eqlA (by kernel_rfl) (hρ _ _ rfl) (hρ _ _ rfl) (run_equalArr (l := ([((o0).toNat : Int), ((o1).toNat : Int), ((o2).toNat : Int), ((o3).toNat : Int)] : List Int)) (m := ([((((tailW (sumC 0#32 (l.take 400)) want)).setWidth 8).toNat : Int), ((((tailW (sumC 0#32 (l.take 400)) want) >>> 8).setWidth 8).toNat : Int), ((((tailW (sumC 0#32 (l.take 400)) want) >>> 16).setWidth 8).toNat : Int), ((((tailW (sumC 0#32 (l.take 400)) want) >>> 24).setWidth 8).toNat : Int)] : List Int)) ar26 io5 sz5 rfl rfl)) (bool_as (bytes4))) (bool_as (decide_eq_true hQ)))) all_nil))))))) (allM (all_cons ?_ all_nil))
    refine LOb_call (.int .u32 ((sumC (sumC 0#32 (l.take 400)) [o0, o1, o2, o3]).toNat : Int)) [(4, .bool true), (8, .bool true), (9, .bool true)] rfl (wv_n rfl) rfl rfl (fun _ _ hρ _ => r_call (args := [.int .u32 ((sumC 0#32 (l.take 400)).toNat : Int), .slice (some ⟨B1, 0, none⟩) 4 4]) (enters_of Try.func22 (by kernel_rfl) rfl) (hρ _ _ rfl) ((cons2 (hρ _ _ rfl) (cons2 (hρ _ _ rfl) rfl))) rfl) (fun w hm => moreB_c (sumC 0#32 (l.take 400)) [o0, o1, o2, o3] (some ⟨B1, 0, none⟩) 4 w ⟨Nat.le_of_ble_eq_true rfl, (fun e => by cases e), .inr ⟨_, 0, _, _, _, rfl, (hm.at 1 rfl), row_of_take (fun _ => rfl) rfl⟩⟩ (Nat.le_of_ble_eq_true rfl)) (by kernel_rfl) ?_
    refine G_last [3, 4, 5, 6, 7, 8, 9] [(6, .bool true)] (by kernel_rfl) (allM (all_cons (q_run (.int .u32 ((want).toNat : Int)) rfl rfl (wv_n rfl) rfl (fun _ _ hρ _ => r_move (hρ _ _ rfl))) (all_cons (q_run (.bool true) rfl rfl (wv_n rfl) rfl (fun _ _ hρ _ => r_as (r_as (r_eql (hρ _ _ rfl) (hρ _ _ rfl)) (bool_as (bv_dec (sumC (sumC 0#32 (l.take 400)) [o0, o1, o2, o3]) want))) (bool_as (decide_eq_true hP)))) (all_cons (q_run (.agg #[.int .u8 ((o0).toNat : Int), .int .u8 ((o1).toNat : Int), .int .u8 ((o2).toNat : Int), .int .u8 ((o3).toNat : Int)]) rfl rfl (wv_n rfl) rfl (fun _ _ hρ hm => r_loadA ag26 sz26 (hρ _ _ rfl) (hm.at 1 rfl) rfl rfl)) (all_cons (q_run (.agg #[.int .u8 ((((tailW (sumC 0#32 (l.take 400)) want)).setWidth 8).toNat : Int), .int .u8 ((((tailW (sumC 0#32 (l.take 400)) want) >>> 8).setWidth 8).toNat : Int), .int .u8 ((((tailW (sumC 0#32 (l.take 400)) want) >>> 16).setWidth 8).toNat : Int), .int .u8 ((((tailW (sumC 0#32 (l.take 400)) want) >>> 24).setWidth 8).toNat : Int)]) rfl rfl (wv_n rfl) rfl (fun _ _ hρ hm => r_loadA ag26 sz26 (hρ _ _ rfl) (hm.at 4 rfl) rfl rfl)) (all_cons (q_run (.bool true) rfl rfl (wv_n rfl) rfl (fun _ _ hρ _ => r_as (r_as (r_eqlA (by kernel_rfl) (hρ _ _ rfl) (hρ _ _ rfl) (run_equalArr (l := ([((o0).toNat : Int), ((o1).toNat : Int), ((o2).toNat : Int), ((o3).toNat : Int)] : List Int)) (m := ([((((tailW (sumC 0#32 (l.take 400)) want)).setWidth 8).toNat : Int), ((((tailW (sumC 0#32 (l.take 400)) want) >>> 8).setWidth 8).toNat : Int), ((((tailW (sumC 0#32 (l.take 400)) want) >>> 16).setWidth 8).toNat : Int), ((((tailW (sumC 0#32 (l.take 400)) want) >>> 24).setWidth 8).toNat : Int)] : List Int)) ar26 io5 sz5 rfl rfl)) (bool_as (bytes4))) (bool_as (decide_eq_true hQ)))) (all_cons (q_run (.bool true) rfl rfl (wv_n rfl) rfl (fun _ _ hρ _ => r_as (r_eqlB (by kernel_rfl) (hρ _ _ rfl) (hρ _ _ rfl)) (by rfl))) (all_cons (q_run (.bool true) rfl rfl (wv_n rfl) rfl (fun _ _ hρ _ => r_assign (hρ _ _ rfl))) all_nil)))))))) (end_new 9 rfl rfl end_nil) ?_
    refine T_ret' ?_
    refine ret_of rfl (.bool true) (fun tmps w hk hm => res1 rfl (res_tmp (hk 6 _ rfl))) (fun w hm => ?_)
    exact ⟨rfl, hm.ext⟩
  · skip
    have hQ : ¬ ([o0, o1, o2, o3] = four (tailW (sumC 0#32 (l.take 400)) want)) := fun e => hP (wants_iff.2 e)
    refine T_seq (T_draw (V := [(0, .int .u32 ((sumC 0#32 (l.take 400)).toNat : Int)), (1, .slice (some ⟨B1, 0, none⟩) 4 4), (3, .int .u32 ((want).toNat : Int)), (5, .agg #[.int .u8 ((o0).toNat : Int), .int .u8 ((o1).toNat : Int), .int .u8 ((o2).toNat : Int), .int .u8 ((o3).toNat : Int)]), (6, .agg #[.int .u8 ((((tailW (sumC 0#32 (l.take 400)) want)).setWidth 8).toNat : Int), .int .u8 ((((tailW (sumC 0#32 (l.take 400)) want) >>> 8).setWidth 8).toNat : Int), .int .u8 ((((tailW (sumC 0#32 (l.take 400)) want) >>> 16).setWidth 8).toNat : Int), .int .u8 ((((tailW (sumC 0#32 (l.take 400)) want) >>> 24).setWidth 8).toNat : Int)]), (7, .bool false)]) [0, 0, 3, 0, 15, 0, 0, 96, 255, 511] [[(7, none)], [(5, none)], [(32, some 0), (33, some 1)], [(1, none)], [(34, some 2), (35, some 3)], [(5, none)], [(8, none)], [(37, some 5), (38, some 6)], [(36, some 4), (39, some 7)], [(40, some 8)]] 4 mixed (by kernel_rfl) ?_)
    refine G_step [0, 1, 3, 5, 6, 7] 2 [] (by kernel_rfl) (allM (all_cons (q_run (.int .u32 ((sumC 0#32 (l.take 400)).toNat : Int)) rfl rfl (wv_n rfl) rfl (fun _ _ hρ _ => r_move (hρ _ _ rfl))) (all_cons (q_run (.slice (some ⟨B1, 0, none⟩) 4 4) rfl rfl (wv_n rfl) rfl (fun _ _ hρ _ => r_sliceA ar26 sz5 (by decide) (hρ _ _ rfl))) (all_cons (q_run (.int .u32 ((want).toNat : Int)) rfl rfl (wv_n rfl) rfl (fun _ _ hρ _ => r_move (hρ _ _ rfl))) (all_cons (q_run (.agg #[.int .u8 ((o0).toNat : Int), .int .u8 ((o1).toNat : Int), .int .u8 ((o2).toNat : Int), .int .u8 ((o3).toNat : Int)]) rfl rfl (wv_n rfl) rfl (fun _ _ hρ hm => r_loadA ag26 sz26 (hρ _ _ rfl) (hm.at 1 rfl) rfl rfl)) (all_cons (q_run (.agg #[.int .u8 ((((tailW (sumC 0#32 (l.take 400)) want)).setWidth 8).toNat : Int), .int .u8 ((((tailW (sumC 0#32 (l.take 400)) want) >>> 8).setWidth 8).toNat : Int), .int .u8 ((((tailW (sumC 0#32 (l.take 400)) want) >>> 16).setWidth 8).toNat : Int), .int .u8 ((((tailW (sumC 0#32 (l.take 400)) want) >>> 24).setWidth 8).toNat : Int)]) rfl rfl (wv_n rfl) rfl (fun _ _ hρ hm => r_loadA ag26 sz26 (hρ _ _ rfl) (hm.at 4 rfl) rfl rfl)) (all_cons (q_run (.bool false) rfl rfl (wv_n rfl) rfl (fun _ _ hρ _ => r_as (r_as (r_eqlA (by kernel_rfl) (hρ _ _ rfl) (hρ _ _ rfl) (run_equalArr (l := ([((o0).toNat : Int), ((o1).toNat : Int), ((o2).toNat : Int), ((o3).toNat : Int)] : List Int)) (m := ([((((tailW (sumC 0#32 (l.take 400)) want)).setWidth 8).toNat : Int), ((((tailW (sumC 0#32 (l.take 400)) want) >>> 8).setWidth 8).toNat : Int), ((((tailW (sumC 0#32 (l.take 400)) want) >>> 16).setWidth 8).toNat : Int), ((((tailW (sumC 0#32 (l.take 400)) want) >>> 24).setWidth 8).toNat : Int)] : List Int)) ar26 io5 sz5 rfl rfl)) (bool_as (bytes4))) (bool_as (decide_eq_false hQ)))) all_nil))))))) (allM (all_cons ?_ all_nil))
    refine LOb_call (.int .u32 ((sumC (sumC 0#32 (l.take 400)) [o0, o1, o2, o3]).toNat : Int)) [(4, .bool false), (8, .bool true), (9, .bool true)] rfl (wv_n rfl) rfl rfl (fun _ _ hρ _ => r_call (args := [.int .u32 ((sumC 0#32 (l.take 400)).toNat : Int), .slice (some ⟨B1, 0, none⟩) 4 4]) (enters_of Try.func22 (by kernel_rfl) rfl) (hρ _ _ rfl) ((cons2 (hρ _ _ rfl) (cons2 (hρ _ _ rfl) rfl))) rfl) (fun w hm => moreB_c (sumC 0#32 (l.take 400)) [o0, o1, o2, o3] (some ⟨B1, 0, none⟩) 4 w ⟨Nat.le_of_ble_eq_true rfl, (fun e => by cases e), .inr ⟨_, 0, _, _, _, rfl, (hm.at 1 rfl), row_of_take (fun _ => rfl) rfl⟩⟩ (Nat.le_of_ble_eq_true rfl)) (by kernel_rfl) ?_
    refine G_last [3, 4, 5, 6, 7, 8, 9] [(6, .bool true)] (by kernel_rfl) (allM (all_cons (q_run (.int .u32 ((want).toNat : Int)) rfl rfl (wv_n rfl) rfl (fun _ _ hρ _ => r_move (hρ _ _ rfl))) (all_cons (q_run (.bool false) rfl rfl (wv_n rfl) rfl (fun _ _ hρ _ => r_as (r_as (r_eql (hρ _ _ rfl) (hρ _ _ rfl)) (bool_as (bv_dec (sumC (sumC 0#32 (l.take 400)) [o0, o1, o2, o3]) want))) (bool_as (decide_eq_false hP)))) (all_cons (q_run (.agg #[.int .u8 ((o0).toNat : Int), .int .u8 ((o1).toNat : Int), .int .u8 ((o2).toNat : Int), .int .u8 ((o3).toNat : Int)]) rfl rfl (wv_n rfl) rfl (fun _ _ hρ hm => r_loadA ag26 sz26 (hρ _ _ rfl) (hm.at 1 rfl) rfl rfl)) (all_cons (q_run (.agg #[.int .u8 ((((tailW (sumC 0#32 (l.take 400)) want)).setWidth 8).toNat : Int), .int .u8 ((((tailW (sumC 0#32 (l.take 400)) want) >>> 8).setWidth 8).toNat : Int), .int .u8 ((((tailW (sumC 0#32 (l.take 400)) want) >>> 16).setWidth 8).toNat : Int), .int .u8 ((((tailW (sumC 0#32 (l.take 400)) want) >>> 24).setWidth 8).toNat : Int)]) rfl rfl (wv_n rfl) rfl (fun _ _ hρ hm => r_loadA ag26 sz26 (hρ _ _ rfl) (hm.at 4 rfl) rfl rfl)) (all_cons (q_run (.bool false) rfl rfl (wv_n rfl) rfl (fun _ _ hρ _ => r_as (r_as (r_eqlA (by kernel_rfl) (hρ _ _ rfl) (hρ _ _ rfl) (run_equalArr (l := ([((o0).toNat : Int), ((o1).toNat : Int), ((o2).toNat : Int), ((o3).toNat : Int)] : List Int)) (m := ([((((tailW (sumC 0#32 (l.take 400)) want)).setWidth 8).toNat : Int), ((((tailW (sumC 0#32 (l.take 400)) want) >>> 8).setWidth 8).toNat : Int), ((((tailW (sumC 0#32 (l.take 400)) want) >>> 16).setWidth 8).toNat : Int), ((((tailW (sumC 0#32 (l.take 400)) want) >>> 24).setWidth 8).toNat : Int)] : List Int)) ar26 io5 sz5 rfl rfl)) (bool_as (bytes4))) (bool_as (decide_eq_false hQ)))) (all_cons (q_run (.bool true) rfl rfl (wv_n rfl) rfl (fun _ _ hρ _ => r_as (r_eqlB (by kernel_rfl) (hρ _ _ rfl) (hρ _ _ rfl)) (by rfl))) (all_cons (q_run (.bool true) rfl rfl (wv_n rfl) rfl (fun _ _ hρ _ => r_assign (hρ _ _ rfl))) all_nil)))))))) (end_new 9 rfl rfl end_nil) ?_
    refine T_ret' ?_
    refine ret_of rfl (.bool true) (fun tmps w hk hm => res1 rfl (res_tmp (hk 6 _ rfl))) (fun w hm => ?_)
    exact ⟨rfl, hm.ext⟩
end Go.Proofs.Ytnjcffhpfmnbfaa
