/- Texts of this seat, merged: part 6. -/
import Derived.Test.YtbiapeaghbndoaaMg5
/- canvas: the walk of StampMakes. Printed by a program of this seat's prover. -/
namespace Go.Proofs.Ytbiapeaghbndoaa
open Go Go.RowKit
set_option maxRecDepth 10000
theorem srsame_n (x y : Int) (px : List C4) (a : Option Addr) (cap : Nat) (w : World) (hv : SliceAt w a cap 4 C4.cells px) (hcap : cap ≤ Go.maxLen) (x2 y2 : Int) (qx : List C4) (b : Option Addr) (capb : Nat) (hu : SliceAt w b capb 4 C4.cells qx) (hcapb : capb ≤ Go.maxLen) (hpl : px.length ≤ 4611686018427387904) (hql : qx.length ≤ 4611686018427387904) (n : Nat) (hn : px.length = n) (m : Nat) (hm : qx.length = m) : Calls Try.prog 43 #[.agg #[.int .i64 x, .int .i64 y, .slice a n cap], .agg #[.int .i64 x2, .int .i64 y2, .slice b m capb]] w fun e w' => e = .returned (.bool (decide (x = x2 ∧ y = y2 ∧ px = qx))) ∧ Below w.heap.size w w' := by
  subst hn hm
  exact srsame_c x y px a cap w hv hcap x2 y2 qx b capb hu hcapb hpl hql

set_option maxHeartbeats 4000000 in
theorem makes_any (l : List Pt) (al : Option Addr) (cl : Nat) (c : C4) (x : List C4) (ax : Option Addr) (cx : Nat) (w : World) (hvl0 : SliceAt w al cl 2 Pt.cells l) (hcl : cl ≤ Go.maxLen) (hlb : ∀ u ∈ l, inI u.x ∧ inI u.y) (hvx : SliceAt w ax cx 4 C4.cells x) (hcx : cx ≤ Go.maxLen) : Calls Try.prog 8 #[.slice al l.length cl, c.v, .slice ax x.length cx] w fun e w' => e = .returned (.bool true) ∧ Below w.heap.size w w' := by
  have hvl := hvl0.1
  have hxl := hvx.1
  unfold Go.maxLen at hcl hcx
  refine calls_of_T (l := [.slice al l.length cl, .agg #[.int .u8 c.r, .int .u8 c.g, .int .u8 c.b, .int .u8 c.a], .slice ax x.length cx]) 145 Try.func8 rfl rfl rfl ?_
  show T _ _ _ [(0, .slice al l.length cl), (1, .agg #[.int .u8 c.r, .int .u8 c.g, .int .u8 c.b, .int .u8 c.a]), (2, .slice ax x.length cx)] []
  refine T_seq (T_region ?_)
  refine TL_new 1 (.cells #[.int .u8 c.r, .int .u8 c.g, .int .u8 c.b, .int .u8 c.a] 37) (fun B => .pointer (some ⟨B, 0, none⟩)) (fun _ _ hρ _ => r_box (hρ _ _ rfl) rfl) rfl rfl rfl (w_n rfl) ?_
  intro B1
  refine TL_q (.bool false) (fun _ _ hρ _ => r_assign (hρ _ _ rfl)) rfl rfl rfl (w_n rfl) ?_
  refine TL_seq ?_
  refine T_seq ?_
  refine T_seq (T_region ?_)
  refine TL_call (.bool true) (fun _ _ hρ _ => r_call (args := []) (enters_of Try.func39 (by kernel_rfl) rfl) (hρ _ _ rfl) (by rfl) rfl) (fun w _ => swakes_c w) rfl rfl rfl (w_n rfl) ?_
  refine TL_q (.bool false) (fun _ _ hρ _ => r_not (b := true) (hρ _ _ rfl)) rfl rfl rfl (w_n rfl) ?_
  refine TL_seq ?_
  refine T_cond_f rfl ?_
  refine T_skip' ?_
  refine p_seq ?_
  refine T_seq (T_region ?_)
  refine TL_q (.slice ax x.length cx) (fun _ _ hρ _ => r_move (hρ _ _ rfl)) rfl rfl rfl (w_n rfl) ?_
  refine TL_q (.slice ax x.length cx) (fun _ _ hρ _ => r_move (hρ _ _ rfl)) rfl rfl rfl (w_n rfl) ?_
  refine TL_q (.int .i64 ((x.length : Nat) : Int)) (fun _ _ hρ _ => r_len sl71 (hρ _ _ rfl)) rfl rfl rfl (w_n rfl) ?_
  refine TL_q (.int .i64 ((min x.length 66 : Nat) : Int)) (fun _ _ hρ _ => r_as (r_min (hρ _ _ rfl) (hρ _ _ rfl)) (int_as (minI _ 66))) rfl rfl rfl (w_n rfl) ?_
  obtain ⟨l2, hl2, hn2⟩ : ∃ lz, lz = x.take (min x.length 66) ∧ lz.length = min x.length 66 := ⟨_, rfl, by rw [List.length_take]; omega⟩
  have hs2 := SliceAt.front hvx (n := min x.length 66) (m := cx) (by omega) (by omega) (by omega)
  rw [← hl2] at hs2
  refine TL_q (.slice ax l2.length cx) (fun ρ _ hρ _ => r_as (r_sliceO sl71 sz37 (hρ _ _ rfl) (bd_none ρ _) (bd_some (n := min x.length 66) (hρ _ _ rfl)) (bd_none ρ _) (by simp) (by omega) (by omega) (by omega)) (by rw [hn2]; exact slo_zero _ _ _ _)) rfl rfl rfl (w_n rfl) ?_
  refine TL_callN (fun (_ : Option Addr × Nat) => True) (fun (ar3, cr3) => .slice ar3 ((l2).length) cr3) (fun (ar3, cr3) => [(2, .row (.slice ar3 ((l2).length) cr3) 37 4 ((l2).length) ((l2).flatMap C4.cells))]) (fun _ _ hρ _ => r_call (args := [.slice ax l2.length cx]) (enters_of Try.func40 (by kernel_rfl) rfl) (hρ _ _ rfl) ((cons2 (hρ _ _ rfl) rfl)) rfl) (fun w hm => (clone_c4 C4.cells C4.cells_len C4.cells_one l2 ax cx w (hs2.keep hm.ext) (by omega)).mono fun e w' ⟨a', cap', he, hb, hr⟩ => ⟨(a', cap'), trivial, he, hb, newOk1 2 hr⟩) rfl rfl rfl (w_n rfl) ?_
  rintro ⟨ar3, cr3⟩ -
  refine TL_q (.slice ar3 ((l2).length) cr3) (fun _ _ hρ _ => r_assign (hρ _ _ rfl)) rfl rfl rfl (w_n rfl) ?_
  refine TL_seq ?_
  refine T_seq ?_
  have hpx : l2 = x.take 66 := by rw [hl2]; exact take_min x 66
  have hpl : l2.length ≤ 66 ∧ l2.length ≤ x.length := by omega
  clear hn2 hl2
  refine T_seq (T_region ?_)
  refine TL_q (.slice al l.length cl) (fun _ _ hρ _ => r_move (hρ _ _ rfl)) rfl rfl rfl (w_n rfl) ?_
  refine TL_q (.int .i64 ((l.length : Nat) : Int)) (fun _ _ hρ _ => r_len sl70 (hρ _ _ rfl)) rfl rfl rfl (w_n rfl) ?_
  refine TL_q (.int .i64 0) (fun _ _ hρ _ => r_move (hρ _ _ rfl)) rfl rfl rfl (w_n rfl) ?_
  refine TL_seq ?_
  refine T_block ?_
  refine T_loop (ι := Nat) (fun (k : Nat) => k ≤ l.length) (fun (k : Nat) => [(2, .slice ax x.length cx), (4, .pointer (some ⟨B1, 0, none⟩)), (7, .slice ar3 ((l2).length) cr3), (26, .slice al l.length cl), (27, .int .i64 ((l.length : Nat) : Int)), (28, .int .i64 ((k : Nat) : Int))]) (fun (k : Nat) => [(2, .row (.slice ar3 ((l2).length) cr3) 37 4 ((l2).length) ((l2).flatMap C4.cells)), (1, .blk B1 (.cells #[.int .u8 c.r, .int .u8 c.g, .int .u8 c.b, .int .u8 c.a] 37))]) (fun (k : Nat) => l.length - k) 0 (Nat.zero_le _) (sub_cons rfl (sub_cons rfl (sub_cons rfl (sub_cons rfl (sub_cons rfl (sub_cons rfl sub_nil)))))) (sub_cons rfl (sub_cons rfl sub_nil)) ?_
  rintro k hp
  have hk := hp
  show T _ _ _ [(2, .slice ax x.length cx), (4, .pointer (some ⟨B1, 0, none⟩)), (7, .slice ar3 ((l2).length) cr3), (26, .slice al l.length cl), (27, .int .i64 ((l.length : Nat) : Int)), (28, .int .i64 ((k : Nat) : Int))] [(2, .row (.slice ar3 ((l2).length) cr3) 37 4 ((l2).length) ((l2).flatMap C4.cells)), (1, .blk B1 (.cells #[.int .u8 c.r, .int .u8 c.g, .int .u8 c.b, .int .u8 c.a] 37))]
  refine T_seq (T_region ?_)
  refine TL_q (.bool (decide (((k : Nat) : Int) < ((l.length : Nat) : Int)))) (fun _ _ hρ _ => r_lss (hρ _ _ rfl) (hρ _ _ rfl)) rfl rfl rfl (w_n rfl) ?_
  refine TL_seq ?_
  refine T_seq ?_
  refine T_cond rfl (fun h1 => ?_) (fun h1 => ?_)
  · replace h1 := of_decide_eq_true h1
    refine T_skip' ?_
    refine p_seq ?_
    refine T_seq ?_
    refine T_block ?_
    obtain ⟨⟨ux, uy⟩, hu⟩ : ∃ x, l[k]? = some x := ⟨_, List.getElem?_eq_getElem (by omega)⟩
    have hb := hlb ⟨ux, uy⟩ (List.mem_of_getElem? hu)
    dsimp only at hb
    obtain ⟨⟨hb1, hb2⟩, ⟨hb3, hb4⟩⟩ := hb
    obtain ⟨b4, of4, cs4, T4, fz4, ha4, hq4, hr4⟩ := hvl0.open (i := k) (by omega)
    subst ha4
    refine T_seq (T_region ?_)
    refine TL_q (.int .i64 ((k : Nat) : Int)) (fun _ _ hρ _ => r_move (hρ _ _ rfl)) rfl rfl rfl (w_n rfl) ?_
    refine TL_q (.pointer (some ⟨b4, of4 + k * 2, none⟩)) (fun _ _ hρ _ => r_indexAddrS (i := k) sl70 sz73 (hρ _ _ rfl) (hρ _ _ rfl) (by omega)) rfl rfl rfl (w_n rfl) ?_
    refine TL_q (.agg #[.int .i64 ux, .int .i64 uy]) (fun _ _ hρ hm => r_loadRow (f := Pt.cells) (u := (⟨ux, uy⟩ : Pt)) ag73 sz73 (hρ _ _ rfl) (hm.old hq4) hr4 hu) rfl rfl rfl (w_n rfl) ?_
    refine TL_new 3 (.cells #[.int .i64 0, .int .i64 0] 73) (fun B => .pointer (some ⟨B, 0, none⟩)) (fun _ _ _ _ => r_alloc (v := .agg #[.int .i64 0, .int .i64 0]) (by kernel_rfl) rfl) rfl rfl rfl (w_n rfl) ?_
    intro B5
    refine TL_q (.int .i64 ((k : Nat) : Int)) (fun _ _ hρ _ => r_assign (hρ _ _ rfl)) rfl rfl rfl (w_n rfl) ?_
    refine TL_store 3 (.cells #[.int .i64 ux, .int .i64 uy] 73) rfl (fun _ _ hρ hm => r_store sz73 (hρ _ _ rfl) (hρ _ _ rfl) (hm.at 3 rfl) rfl rfl rfl rfl) rfl rfl (w_n rfl) ?_
    refine TL_seq ?_
    refine T_seq ?_
    refine T_seq (T_region ?_)
    refine TL_q (.int .i64 ((k : Nat) : Int)) (fun _ _ hρ _ => r_move (hρ _ _ rfl)) rfl rfl rfl (w_n rfl) ?_
    refine TL_q (.bool (decide (((k : Nat) : Int) = 10))) (fun _ _ hρ _ => r_eql (hρ _ _ rfl) (hρ _ _ rfl)) rfl rfl rfl (w_n rfl) ?_
    refine TL_seq ?_
    refine T_cond rfl (fun h2 => ?_) (fun h2 => ?_)
    · replace h2 := of_decide_eq_true h2
      refine T_exit' ?_
      refine p_then_x ?_
      refine p_blk_o rfl ?_
      refine p_then_x ?_
      refine p_then_x ?_
      refine p_blk_x ?_
      refine p_seq ?_
      refine T_seq (T_region ?_)
      refine TL_q (.bool true) (fun _ _ hρ _ => r_assign (hρ _ _ rfl)) rfl rfl rfl (w_n rfl) ?_
      refine TL_seq ?_
      refine T_ret' ?_
      refine ret_of rfl (.bool true) (fun tmps w hk hm => res1 rfl (res_tmp (hk 6 _ rfl))) (fun w hm => ?_)
      exact ⟨rfl, hm.ext⟩
    · replace h2 := of_decide_eq_false h2
      refine T_skip' ?_
      refine p_seq ?_
      by_cases s1 : sideI ux = true
      · skip
        obtain ⟨p, rfl, hp8⟩ := sideI_nat s1
        by_cases s2 : sideI uy = true
        · skip
          obtain ⟨q, rfl, hq8⟩ := sideI_nat s2
          have h64p := size8 hp8 hq8
          refine T_seq (T_region ?_)
          refine TL_q (.pointer (some ⟨B5, 0, none⟩)) (fun _ _ hρ _ => r_indexAddrA (i := 0) ar73 sz3 (hρ _ _ rfl) (hρ _ _ rfl) (by decide)) rfl rfl rfl (w_n rfl) ?_
          refine TL_q (.int .i64 ((p : Nat) : Int)) (fun _ _ hρ hm => r_load ag3 (hρ _ _ rfl) (hm.at 3 rfl) rfl) rfl rfl rfl (w_n rfl) ?_
          refine TL_q (.pointer (some ⟨B5, 1, none⟩)) (fun _ _ hρ _ => r_indexAddrA (i := 1) ar73 sz3 (hρ _ _ rfl) (hρ _ _ rfl) (by decide)) rfl rfl rfl (w_n rfl) ?_
          refine TL_q (.int .i64 ((q : Nat) : Int)) (fun _ _ hρ hm => r_load ag3 (hρ _ _ rfl) (hm.at 3 rfl) rfl) rfl rfl rfl (w_n rfl) ?_
          refine TL_q (.agg #[.int .u8 c.r, .int .u8 c.g, .int .u8 c.b, .int .u8 c.a]) (fun _ _ hρ hm => r_loadA ag37 sz37 (hρ _ _ rfl) (hm.at 1 rfl) rfl rfl) rfl rfl rfl (w_n rfl) ?_
          refine TL_callN (fun (_ : Option Addr × Nat) => True) (fun (ar6, cr6) => .tuple #[.agg #[.int .i64 ((p : Nat) : Int), .int .i64 ((q : Nat) : Int), .slice ar6 ((List.replicate (p * q) c).length) cr6], .int .i64 0]) (fun (ar6, cr6) => [(4, .row (.slice ar6 ((List.replicate (p * q) c).length) cr6) 37 4 ((List.replicate (p * q) c).length) ((List.replicate (p * q) c).flatMap C4.cells))]) (fun _ _ hρ _ => r_call (args := [.int .i64 ((p : Nat) : Int), .int .i64 ((q : Nat) : Int), .agg #[.int .u8 c.r, .int .u8 c.g, .int .u8 c.b, .int .u8 c.a]]) (enters_of Try.func41 (by kernel_rfl) rfl) (hρ _ _ rfl) ((cons2 (hρ _ _ rfl) (cons2 (hρ _ _ rfl) (cons2 (hρ _ _ rfl) rfl)))) rfl) (fun w _ => (snew_ok p q c w hp8 hq8).mono fun e w' ⟨a', cap', he, hb, hr⟩ => ⟨(a', cap'), trivial, he, hb, newOk1 4 hr⟩) rfl rfl rfl (w_n rfl) ?_
          rintro ⟨ar6, cr6⟩ -
          refine TL_q (.tuple #[.agg #[.int .i64 ((p : Nat) : Int), .int .i64 ((q : Nat) : Int), .slice ar6 ((List.replicate (p * q) c).length) cr6], .int .i64 0]) (fun _ _ hρ _ => r_move (hρ _ _ rfl)) rfl rfl rfl (w_n rfl) ?_
          refine TL_q (.agg #[.int .i64 ((p : Nat) : Int), .int .i64 ((q : Nat) : Int), .slice ar6 ((List.replicate (p * q) c).length) cr6]) (fun _ _ hρ _ => r_extract (hρ _ _ rfl) rfl) rfl rfl rfl (w_n rfl) ?_
          refine TL_q (.int .i64 0) (fun _ _ hρ _ => r_extract (hρ _ _ rfl) rfl) rfl rfl rfl (w_n rfl) ?_
          refine TL_new 5 (.cells #[.int .i64 0, .int .i64 0, .slice none 0 0] 75) (fun B => .pointer (some ⟨B, 0, none⟩)) (fun _ _ _ _ => r_alloc (v := .agg #[.int .i64 0, .int .i64 0, .slice none 0 0]) (by kernel_rfl) rfl) rfl rfl rfl (w_n rfl) ?_
          intro B7
          refine TL_store 5 (.cells #[.int .i64 ((p : Nat) : Int), .int .i64 ((q : Nat) : Int), .slice ar6 ((List.replicate (p * q) c).length) cr6] 75) rfl (fun _ _ hρ hm => r_store sz75 (hρ _ _ rfl) (hρ _ _ rfl) (hm.at 5 rfl) rfl rfl rfl rfl) rfl rfl (w_n rfl) ?_
          refine TL_q (.int .i64 0) (fun _ _ hρ _ => r_assign (hρ _ _ rfl)) rfl rfl rfl (w_n rfl) ?_
          refine TL_seq ?_
          refine T_seq (T_region ?_)
          refine TL_q (.agg #[.int .i64 0, .int .i64 0, .slice none 0 0]) (fun _ _ _ _ => r_build (vs := []) (by kernel_rfl) rfl) rfl rfl rfl (w_n rfl) ?_
          refine TL_new 6 (.cells #[.int .i64 0, .int .i64 0, .slice none 0 0] 75) (fun B => .pointer (some ⟨B, 0, none⟩)) (fun _ _ _ _ => r_alloc (v := .agg #[.int .i64 0, .int .i64 0, .slice none 0 0]) (by kernel_rfl) rfl) rfl rfl rfl (w_n rfl) ?_
          intro B8
          refine TL_store 6 (.cells #[.int .i64 0, .int .i64 0, .slice none 0 0] 75) rfl (fun _ _ hρ hm => r_store sz75 (hρ _ _ rfl) (hρ _ _ rfl) (hm.at 6 rfl) rfl rfl rfl rfl) rfl rfl (w_n rfl) ?_
          refine TL_q (.int .i64 2) (fun _ _ hρ _ => r_assign (hρ _ _ rfl)) rfl rfl rfl (w_n rfl) ?_
          refine TL_seq ?_
          refine T_seq ?_
          refine T_seq (T_region ?_)
          refine TL_q (.pointer (some ⟨B5, 0, none⟩)) (fun _ _ hρ _ => r_indexAddrA (i := 0) ar73 sz3 (hρ _ _ rfl) (hρ _ _ rfl) (by decide)) rfl rfl rfl (w_n rfl) ?_
          refine TL_q (.int .i64 ((p : Nat) : Int)) (fun _ _ hρ hm => r_load ag3 (hρ _ _ rfl) (hm.at 3 rfl) rfl) rfl rfl rfl (w_n rfl) ?_
          refine TL_q (.pointer (some ⟨B5, 1, none⟩)) (fun _ _ hρ _ => r_indexAddrA (i := 1) ar73 sz3 (hρ _ _ rfl) (hρ _ _ rfl) (by decide)) rfl rfl rfl (w_n rfl) ?_
          refine TL_q (.int .i64 ((q : Nat) : Int)) (fun _ _ hρ hm => r_load ag3 (hρ _ _ rfl) (hm.at 3 rfl) rfl) rfl rfl rfl (w_n rfl) ?_
          refine TL_call (.bool true) (fun _ _ hρ _ => r_call (args := [.int .i64 ((p : Nat) : Int), .int .i64 ((q : Nat) : Int)]) (enters_of Try.func42 (by kernel_rfl) rfl) (hρ _ _ rfl) ((cons2 (hρ _ _ rfl) (cons2 (hρ _ _ rfl) rfl))) rfl) (fun w _ => (rsides_c ((p : Nat) : Int) ((q : Nat) : Int) w).mono fun _ _ h => ⟨h.1.trans (congrArg Ending.returned (bool_as (by rw [(sideI_of hp8), (sideI_of hq8)]; rfl))), h.2⟩) rfl rfl rfl (w_n rfl) ?_
          refine TL_seq ?_
          refine T_cond_t rfl ?_
          refine T_seq (T_draw (V := [(0, .pointer (some ⟨B5, 0, none⟩)), (1, .int .i64 ((p : Nat) : Int)), (2, .pointer (some ⟨B5, 1, none⟩)), (3, .int .i64 ((q : Nat) : Int)), (4, .pointer (some ⟨B5, 0, none⟩)), (5, .int .i64 ((p : Nat) : Int)), (6, .pointer (some ⟨B5, 1, none⟩)), (7, .int .i64 ((q : Nat) : Int)), (8, .int .i64 ((p * q : Nat) : Int))]) [0, 1, 0, 4, 0, 16, 0, 64, 240, 496, 1023, 2047, 4095] [[(9, none)], [(50, some 0)], [(9, none)], [(52, some 2)], [(9, none)], [(54, some 4)], [(9, none)], [(56, some 6)], [(55, some 5), (57, some 7)], [(58, some 8)], [(51, some 1), (53, some 3), (59, some 9)], [(12, none), (60, some 10)], []] 2560 mixed (by kernel_rfl) ?_)
          refine G_step [0, 1, 2, 3, 4, 5, 6, 7, 8] 9 [] (by kernel_rfl) (allM (all_cons (q_run (.pointer (some ⟨B5, 0, none⟩)) rfl rfl (wv_n rfl) rfl (fun _ _ hρ _ => r_indexAddrA (i := 0) ar73 sz3 (hρ _ _ rfl) (hρ _ _ rfl) (by decide))) (all_cons (q_run (.int .i64 ((p : Nat) : Int)) rfl rfl (wv_n rfl) rfl (fun _ _ hρ hm => r_load ag3 (hρ _ _ rfl) (hm.at 3 rfl) rfl)) (all_cons (q_run (.pointer (some ⟨B5, 1, none⟩)) rfl rfl (wv_n rfl) rfl (fun _ _ hρ _ => r_indexAddrA (i := 1) ar73 sz3 (hρ _ _ rfl) (hρ _ _ rfl) (by decide))) (all_cons (q_run (.int .i64 ((q : Nat) : Int)) rfl rfl (wv_n rfl) rfl (fun _ _ hρ hm => r_load ag3 (hρ _ _ rfl) (hm.at 3 rfl) rfl)) (all_cons (q_run (.pointer (some ⟨B5, 0, none⟩)) rfl rfl (wv_n rfl) rfl (fun _ _ hρ _ => r_indexAddrA (i := 0) ar73 sz3 (hρ _ _ rfl) (hρ _ _ rfl) (by decide))) (all_cons (q_run (.int .i64 ((p : Nat) : Int)) rfl rfl (wv_n rfl) rfl (fun _ _ hρ hm => r_load ag3 (hρ _ _ rfl) (hm.at 3 rfl) rfl)) (all_cons (q_run (.pointer (some ⟨B5, 1, none⟩)) rfl rfl (wv_n rfl) rfl (fun _ _ hρ _ => r_indexAddrA (i := 1) ar73 sz3 (hρ _ _ rfl) (hρ _ _ rfl) (by decide))) (all_cons (q_run (.int .i64 ((q : Nat) : Int)) rfl rfl (wv_n rfl) rfl (fun _ _ hρ hm => r_load ag3 (hρ _ _ rfl) (hm.at 3 rfl) rfl)) (all_cons (q_run (.int .i64 ((p * q : Nat) : Int)) rfl rfl (wv_n rfl) rfl (fun _ _ hρ _ => r_as (r_mul (hρ _ _ rfl) (hρ _ _ rfl)) (int_as ((wrap64 (by omega) (by omega)).trans (by omega))))) all_nil)))))))))) (allM (all_cons ?_ all_nil))
          refine LOb_op (ι := Nat) (fun B => .slice (some ⟨B, 0, none⟩) (p * q) (p * q)) _ (fun B => [(10, .agg #[.int .i64 ((p : Nat) : Int), .int .i64 ((q : Nat) : Int), .slice (some ⟨B, 0, none⟩) (p * q) (p * q)])]) rfl (wv_n rfl) rfl rfl (fun _ _ hρ hm => o_make (n := p * q) (cap := p * q) (z := .agg #[.int .u8 0, .int .u8 0, .int .u8 0, .int .u8 0]) (f := C4.cells) (u := zeroC) 941 rfl (hρ _ _ rfl) (hρ _ _ rfl) sl71 by37 sz37 rfl (by kernel_rfl) rfl C4.cells_len (by omega) (by omega) (by omega) hm) (fun B => by kernel_rfl) ?_
          intro B9
          refine G_step [0, 1, 2, 3, 10] 11 [] (by kernel_rfl) (allM (all_cons (q_run (.pointer (some ⟨B5, 0, none⟩)) rfl rfl (wv_n rfl) rfl (fun _ _ hρ _ => r_indexAddrA (i := 0) ar73 sz3 (hρ _ _ rfl) (hρ _ _ rfl) (by decide))) (all_cons (q_run (.int .i64 ((p : Nat) : Int)) rfl rfl (wv_n rfl) rfl (fun _ _ hρ hm => r_load ag3 (hρ _ _ rfl) (hm.at 3 rfl) rfl)) (all_cons (q_run (.pointer (some ⟨B5, 1, none⟩)) rfl rfl (wv_n rfl) rfl (fun _ _ hρ _ => r_indexAddrA (i := 1) ar73 sz3 (hρ _ _ rfl) (hρ _ _ rfl) (by decide))) (all_cons (q_run (.int .i64 ((q : Nat) : Int)) rfl rfl (wv_n rfl) rfl (fun _ _ hρ hm => r_load ag3 (hρ _ _ rfl) (hm.at 3 rfl) rfl)) (all_cons (q_run (.agg #[.int .i64 ((p : Nat) : Int), .int .i64 ((q : Nat) : Int), .slice (some ⟨B9, 0, none⟩) (p * q) (p * q)]) rfl rfl (wv_n rfl) rfl (fun _ _ hρ _ => r_build (vs := [(0, .int .i64 ((p : Nat) : Int)), (1, .int .i64 ((q : Nat) : Int)), (2, .slice (some ⟨B9, 0, none⟩) (p * q) (p * q))]) (by kernel_rfl) (cons2 (pair2 (hρ _ _ rfl)) (cons2 (pair2 (hρ _ _ rfl)) (cons2 (pair2 (hρ _ _ rfl)) rfl))))) all_nil)))))) (allM (all_cons ?_ all_nil))
          refine LOb_store 6 (.cells #[.int .i64 ((p : Nat) : Int), .int .i64 ((q : Nat) : Int), .slice (some ⟨B9, 0, none⟩) (p * q) (p * q)] 75) [(12, .int .i64 0)] rfl (wv_n rfl) rfl rfl rfl (fun _ _ hρ hm => r_store sz75 (hρ _ _ rfl) (hρ _ _ rfl) (hm.at 6 rfl) rfl rfl rfl rfl) (by kernel_rfl) ?_
          refine G_last [12] [(2, .slice ax x.length cx), (4, .pointer (some ⟨B1, 0, none⟩)), (7, .slice ar3 ((l2).length) cr3), (26, .slice (some ⟨b4, of4, none⟩) l.length cl), (27, .int .i64 ((l.length : Nat) : Int)), (28, .int .i64 ((k : Nat) : Int)), (29, .bool (decide (((k : Nat) : Int) < ((l.length : Nat) : Int)))), (30, .int .i64 ((k : Nat) : Int)), (31, .pointer (some ⟨b4, of4 + k * 2, none⟩)), (32, .agg #[.int .i64 ((p : Nat) : Int), .int .i64 ((q : Nat) : Int)]), (9, .pointer (some ⟨B5, 0, none⟩)), (8, .int .i64 ((k : Nat) : Int)), (33, .int .i64 ((k : Nat) : Int)), (34, .bool (decide (((k : Nat) : Int) = 10))), (36, .pointer (some ⟨B5, 0, none⟩)), (37, .int .i64 ((p : Nat) : Int)), (38, .pointer (some ⟨B5, 1, none⟩)), (39, .int .i64 ((q : Nat) : Int)), (40, .agg #[.int .u8 c.r, .int .u8 c.g, .int .u8 c.b, .int .u8 c.a]), (41, .tuple #[.agg #[.int .i64 ((p : Nat) : Int), .int .i64 ((q : Nat) : Int), .slice ar6 ((List.replicate (p * q) c).length) cr6], .int .i64 0]), (35, .tuple #[.agg #[.int .i64 ((p : Nat) : Int), .int .i64 ((q : Nat) : Int), .slice ar6 ((List.replicate (p * q) c).length) cr6], .int .i64 0]), (42, .agg #[.int .i64 ((p : Nat) : Int), .int .i64 ((q : Nat) : Int), .slice ar6 ((List.replicate (p * q) c).length) cr6]), (43, .int .i64 0), (10, .pointer (some ⟨B7, 0, none⟩)), (11, .int .i64 0), (44, .agg #[.int .i64 0, .int .i64 0, .slice none 0 0]), (12, .pointer (some ⟨B8, 0, none⟩)), (45, .pointer (some ⟨B5, 0, none⟩)), (46, .int .i64 ((p : Nat) : Int)), (47, .pointer (some ⟨B5, 1, none⟩)), (48, .int .i64 ((q : Nat) : Int)), (49, .bool true), (50, .pointer (some ⟨B5, 0, none⟩)), (51, .int .i64 ((p : Nat) : Int)), (52, .pointer (some ⟨B5, 1, none⟩)), (53, .int .i64 ((q : Nat) : Int)), (54, .pointer (some ⟨B5, 0, none⟩)), (55, .int .i64 ((p : Nat) : Int)), (56, .pointer (some ⟨B5, 1, none⟩)), (57, .int .i64 ((q : Nat) : Int)), (58, .int .i64 ((p * q : Nat) : Int)), (59, .slice (some ⟨B9, 0, none⟩) (p * q) (p * q)), (60, .agg #[.int .i64 ((p : Nat) : Int), .int .i64 ((q : Nat) : Int), .slice (some ⟨B9, 0, none⟩) (p * q) (p * q)]), (13, .int .i64 0)] (by kernel_rfl) (allM (all_cons (q_run (.int .i64 0) rfl rfl (wv_n rfl) rfl (fun _ _ hρ _ => r_assign (hρ _ _ rfl))) all_nil)) (end_old rfl rfl (end_old rfl rfl (end_old rfl rfl (end_old rfl rfl (end_old rfl rfl (end_old rfl rfl (end_old rfl rfl (end_old rfl rfl (end_old rfl rfl (end_old rfl rfl (end_old rfl rfl (end_old rfl rfl (end_old rfl rfl (end_old rfl rfl (end_old rfl rfl (end_old rfl rfl (end_old rfl rfl (end_old rfl rfl (end_old rfl rfl (end_old rfl rfl (end_old rfl rfl (end_old rfl rfl (end_old rfl rfl (end_old rfl rfl (end_old rfl rfl (end_old rfl rfl (end_old rfl rfl (end_old rfl rfl (end_old rfl rfl (end_old rfl rfl (end_old rfl rfl (end_old rfl rfl (end_new 0 rfl rfl (end_new 1 rfl rfl (end_new 2 rfl rfl (end_new 3 rfl rfl (end_new 4 rfl rfl (end_new 5 rfl rfl (end_new 6 rfl rfl (end_new 7 rfl rfl (end_new 8 rfl rfl (end_new 9 rfl rfl (end_new 10 rfl rfl (end_new 12 rfl rfl end_nil)))))))))))))))))))))))))))))))))))))))))))) ?_
          refine T_seq (T_region ?_)
          refine TL_q (.pointer (some ⟨B8, 2, none⟩)) (fun _ _ hρ _ => r_fieldAddr fl75_2 sz71 (hρ _ _ rfl)) rfl rfl rfl (w_n rfl) ?_
          refine TL_q (.slice (some ⟨B9, 0, none⟩) (p * q) (p * q)) (fun _ _ hρ hm => r_load ag71 (hρ _ _ rfl) (hm.at 6 rfl) rfl) rfl rfl rfl (w_n rfl) ?_
          refine TL_q (.int .i64 ((p * q : Nat) : Int)) (fun _ _ hρ _ => r_len sl71 (hρ _ _ rfl)) rfl rfl rfl (w_n rfl) ?_
          refine TL_q (.int .i64 0) (fun _ _ hρ _ => r_move (hρ _ _ rfl)) rfl rfl rfl (w_n rfl) ?_
          refine TL_seq ?_
          refine T_block ?_
          refine T_loop (ι := Nat) (fun (j : Nat) => j ≤ p * q) (fun (j : Nat) => [(2, .slice ax x.length cx), (4, .pointer (some ⟨B1, 0, none⟩)), (7, .slice ar3 ((l2).length) cr3), (26, .slice (some ⟨b4, of4, none⟩) l.length cl), (27, .int .i64 ((l.length : Nat) : Int)), (28, .int .i64 ((k : Nat) : Int)), (29, .bool (decide (((k : Nat) : Int) < ((l.length : Nat) : Int)))), (30, .int .i64 ((k : Nat) : Int)), (31, .pointer (some ⟨b4, of4 + k * 2, none⟩)), (32, .agg #[.int .i64 ((p : Nat) : Int), .int .i64 ((q : Nat) : Int)]), (9, .pointer (some ⟨B5, 0, none⟩)), (8, .int .i64 ((k : Nat) : Int)), (33, .int .i64 ((k : Nat) : Int)), (34, .bool (decide (((k : Nat) : Int) = 10))), (36, .pointer (some ⟨B5, 0, none⟩)), (37, .int .i64 ((p : Nat) : Int)), (38, .pointer (some ⟨B5, 1, none⟩)), (39, .int .i64 ((q : Nat) : Int)), (40, .agg #[.int .u8 c.r, .int .u8 c.g, .int .u8 c.b, .int .u8 c.a]), (41, .tuple #[.agg #[.int .i64 ((p : Nat) : Int), .int .i64 ((q : Nat) : Int), .slice ar6 ((List.replicate (p * q) c).length) cr6], .int .i64 0]), (35, .tuple #[.agg #[.int .i64 ((p : Nat) : Int), .int .i64 ((q : Nat) : Int), .slice ar6 ((List.replicate (p * q) c).length) cr6], .int .i64 0]), (42, .agg #[.int .i64 ((p : Nat) : Int), .int .i64 ((q : Nat) : Int), .slice ar6 ((List.replicate (p * q) c).length) cr6]), (43, .int .i64 0), (10, .pointer (some ⟨B7, 0, none⟩)), (11, .int .i64 0), (44, .agg #[.int .i64 0, .int .i64 0, .slice none 0 0]), (12, .pointer (some ⟨B8, 0, none⟩)), (45, .pointer (some ⟨B5, 0, none⟩)), (46, .int .i64 ((p : Nat) : Int)), (47, .pointer (some ⟨B5, 1, none⟩)), (48, .int .i64 ((q : Nat) : Int)), (49, .bool true), (50, .pointer (some ⟨B5, 0, none⟩)), (51, .int .i64 ((p : Nat) : Int)), (52, .pointer (some ⟨B5, 1, none⟩)), (53, .int .i64 ((q : Nat) : Int)), (54, .pointer (some ⟨B5, 0, none⟩)), (55, .int .i64 ((p : Nat) : Int)), (56, .pointer (some ⟨B5, 1, none⟩)), (57, .int .i64 ((q : Nat) : Int)), (58, .int .i64 ((p * q : Nat) : Int)), (59, .slice (some ⟨B9, 0, none⟩) (p * q) (p * q)), (60, .agg #[.int .i64 ((p : Nat) : Int), .int .i64 ((q : Nat) : Int), .slice (some ⟨B9, 0, none⟩) (p * q) (p * q)]), (13, .int .i64 0), (61, .pointer (some ⟨B8, 2, none⟩)), (62, .slice (some ⟨B9, 0, none⟩) (p * q) (p * q)), (63, .int .i64 ((p * q : Nat) : Int)), (64, .int .i64 ((j : Nat) : Int))]) (fun (j : Nat) => [(4, .row (.slice ar6 ((List.replicate (p * q) c).length) cr6) 37 4 ((List.replicate (p * q) c).length) ((List.replicate (p * q) c).flatMap C4.cells)), (2, .row (.slice ar3 ((l2).length) cr3) 37 4 ((l2).length) ((l2).flatMap C4.cells)), (1, .blk B1 (.cells #[.int .u8 c.r, .int .u8 c.g, .int .u8 c.b, .int .u8 c.a] 37)), (3, .blk B5 (.cells #[.int .i64 ((p : Nat) : Int), .int .i64 ((q : Nat) : Int)] 73)), (5, .blk B7 (.cells #[.int .i64 ((p : Nat) : Int), .int .i64 ((q : Nat) : Int), .slice ar6 ((List.replicate (p * q) c).length) cr6] 75)), (6, .blk B8 (.cells #[.int .i64 ((p : Nat) : Int), .int .i64 ((q : Nat) : Int), .slice (some ⟨B9, 0, none⟩) (p * q) (p * q)] 75)), (941, .row (.slice (some ⟨B9, 0, none⟩) (p * q) (p * q)) 37 4 (p * q) ((repG zeroC c j (p * q)).flatMap C4.cells))]) (fun (j : Nat) => p * q - j) 0 (Nat.zero_le _) (sub_cons rfl (sub_cons rfl (sub_cons rfl (sub_cons rfl (sub_cons rfl (sub_cons rfl (sub_cons rfl (sub_cons rfl (sub_cons rfl (sub_cons rfl (sub_cons rfl (sub_cons rfl (sub_cons rfl (sub_cons rfl (sub_cons rfl (sub_cons rfl (sub_cons rfl (sub_cons rfl (sub_cons rfl (sub_cons rfl (sub_cons rfl (sub_cons rfl (sub_cons rfl (sub_cons rfl (sub_cons rfl (sub_cons rfl (sub_cons rfl (sub_cons rfl (sub_cons rfl (sub_cons rfl (sub_cons rfl (sub_cons rfl (sub_cons rfl (sub_cons rfl (sub_cons rfl (sub_cons rfl (sub_cons rfl (sub_cons rfl (sub_cons rfl (sub_cons rfl (sub_cons rfl (sub_cons rfl (sub_cons rfl (sub_cons rfl (sub_cons rfl (sub_cons rfl (sub_cons rfl (sub_cons rfl sub_nil)))))))))))))))))))))))))))))))))))))))))))))))) (sub_cons rfl (sub_cons rfl (sub_cons rfl (sub_cons rfl (sub_cons rfl (sub_cons rfl (sub_cons rfl sub_nil))))))) ?_
          rintro j hp
          have hj := hp
          show T _ _ _ [(2, .slice ax x.length cx), (4, .pointer (some ⟨B1, 0, none⟩)), (7, .slice ar3 ((l2).length) cr3), (26, .slice (some ⟨b4, of4, none⟩) l.length cl), (27, .int .i64 ((l.length : Nat) : Int)), (28, .int .i64 ((k : Nat) : Int)), (29, .bool (decide (((k : Nat) : Int) < ((l.length : Nat) : Int)))), (30, .int .i64 ((k : Nat) : Int)), (31, .pointer (some ⟨b4, of4 + k * 2, none⟩)), (32, .agg #[.int .i64 ((p : Nat) : Int), .int .i64 ((q : Nat) : Int)]), (9, .pointer (some ⟨B5, 0, none⟩)), (8, .int .i64 ((k : Nat) : Int)), (33, .int .i64 ((k : Nat) : Int)), (34, .bool (decide (((k : Nat) : Int) = 10))), (36, .pointer (some ⟨B5, 0, none⟩)), (37, .int .i64 ((p : Nat) : Int)), (38, .pointer (some ⟨B5, 1, none⟩)), (39, .int .i64 ((q : Nat) : Int)), (40, .agg #[.int .u8 c.r, .int .u8 c.g, .int .u8 c.b, .int .u8 c.a]), (41, .tuple #[.agg #[.int .i64 ((p : Nat) : Int), .int .i64 ((q : Nat) : Int), .slice ar6 ((List.replicate (p * q) c).length) cr6], .int .i64 0]), (35, .tuple #[.agg #[.int .i64 ((p : Nat) : Int), .int .i64 ((q : Nat) : Int), .slice ar6 ((List.replicate (p * q) c).length) cr6], .int .i64 0]), (42, .agg #[.int .i64 ((p : Nat) : Int), .int .i64 ((q : Nat) : Int), .slice ar6 ((List.replicate (p * q) c).length) cr6]), (43, .int .i64 0), (10, .pointer (some ⟨B7, 0, none⟩)), (11, .int .i64 0), (44, .agg #[.int .i64 0, .int .i64 0, .slice none 0 0]), (12, .pointer (some ⟨B8, 0, none⟩)), (45, .pointer (some ⟨B5, 0, none⟩)), (46, .int .i64 ((p : Nat) : Int)), (47, .pointer (some ⟨B5, 1, none⟩)), (48, .int .i64 ((q : Nat) : Int)), (49, .bool true), (50, .pointer (some ⟨B5, 0, none⟩)), (51, .int .i64 ((p : Nat) : Int)), (52, .pointer (some ⟨B5, 1, none⟩)), (53, .int .i64 ((q : Nat) : Int)), (54, .pointer (some ⟨B5, 0, none⟩)), (55, .int .i64 ((p : Nat) : Int)), (56, .pointer (some ⟨B5, 1, none⟩)), (57, .int .i64 ((q : Nat) : Int)), (58, .int .i64 ((p * q : Nat) : Int)), (59, .slice (some ⟨B9, 0, none⟩) (p * q) (p * q)), (60, .agg #[.int .i64 ((p : Nat) : Int), .int .i64 ((q : Nat) : Int), .slice (some ⟨B9, 0, none⟩) (p * q) (p * q)]), (13, .int .i64 0), (61, .pointer (some ⟨B8, 2, none⟩)), (62, .slice (some ⟨B9, 0, none⟩) (p * q) (p * q)), (63, .int .i64 ((p * q : Nat) : Int)), (64, .int .i64 ((j : Nat) : Int))] [(4, .row (.slice ar6 ((List.replicate (p * q) c).length) cr6) 37 4 ((List.replicate (p * q) c).length) ((List.replicate (p * q) c).flatMap C4.cells)), (2, .row (.slice ar3 ((l2).length) cr3) 37 4 ((l2).length) ((l2).flatMap C4.cells)), (1, .blk B1 (.cells #[.int .u8 c.r, .int .u8 c.g, .int .u8 c.b, .int .u8 c.a] 37)), (3, .blk B5 (.cells #[.int .i64 ((p : Nat) : Int), .int .i64 ((q : Nat) : Int)] 73)), (5, .blk B7 (.cells #[.int .i64 ((p : Nat) : Int), .int .i64 ((q : Nat) : Int), .slice ar6 ((List.replicate (p * q) c).length) cr6] 75)), (6, .blk B8 (.cells #[.int .i64 ((p : Nat) : Int), .int .i64 ((q : Nat) : Int), .slice (some ⟨B9, 0, none⟩) (p * q) (p * q)] 75)), (941, .row (.slice (some ⟨B9, 0, none⟩) (p * q) (p * q)) 37 4 (p * q) ((repG zeroC c j (p * q)).flatMap C4.cells))]
          refine T_seq (T_region ?_)
          refine TL_q (.bool (decide (((j : Nat) : Int) < ((p * q : Nat) : Int)))) (fun _ _ hρ _ => r_lss (hρ _ _ rfl) (hρ _ _ rfl)) rfl rfl rfl (w_n rfl) ?_
          refine TL_seq ?_
          refine T_seq ?_
          refine T_cond rfl (fun h3 => ?_) (fun h3 => ?_)
          · replace h3 := of_decide_eq_true h3
            refine T_skip' ?_
            refine p_seq ?_
            refine T_seq ?_
            refine T_block ?_
            refine T_seq (T_region ?_)
            refine TL_q (.int .i64 ((j : Nat) : Int)) (fun _ _ hρ _ => r_move (hρ _ _ rfl)) rfl rfl rfl (w_n rfl) ?_
            refine TL_q (.int .i64 ((j : Nat) : Int)) (fun _ _ hρ _ => r_assign (hρ _ _ rfl)) rfl rfl rfl (w_n rfl) ?_
            refine TL_seq ?_
            refine T_region ?_
            refine TL_q (.pointer (some ⟨B8, 2, none⟩)) (fun _ _ hρ _ => r_fieldAddr fl75_2 sz71 (hρ _ _ rfl)) rfl rfl rfl (w_n rfl) ?_
            refine TL_q (.slice (some ⟨B9, 0, none⟩) (p * q) (p * q)) (fun _ _ hρ hm => r_load ag71 (hρ _ _ rfl) (hm.at 6 rfl) rfl) rfl rfl rfl (w_n rfl) ?_
            refine TL_q (.int .i64 ((j : Nat) : Int)) (fun _ _ hρ _ => r_move (hρ _ _ rfl)) rfl rfl rfl (w_n rfl) ?_
            refine TL_q (.agg #[.int .u8 c.r, .int .u8 c.g, .int .u8 c.b, .int .u8 c.a]) (fun _ _ hρ hm => r_loadA ag37 sz37 (hρ _ _ rfl) (hm.at 1 rfl) rfl rfl) rfl rfl rfl (w_n rfl) ?_
            refine TL_q (.pointer (some ⟨B9, 0 + j * 4, none⟩)) (fun _ _ hρ _ => r_indexAddrS (i := j) sl71 sz37 (hρ _ _ rfl) (hρ _ _ rfl) (by omega)) rfl rfl rfl (w_n rfl) ?_
            refine TL_storeRow (f := C4.cells) (l := (repG zeroC c j (p * q))) (u := c) 941 rfl (rep_lenG _ _ hj).symm rfl rfl sz37 C4.cells_len (by rw [rep_lenG _ _ hj]; omega) rfl rfl (w_n rfl) ?_
            refine TL_nil ?_
            refine p_blk_n ?_
            refine p_seq ?_
            refine T_region ?_
            refine TL_q (.int .i64 ((j + 1 : Nat) : Int)) (fun _ _ hρ _ => r_as (r_add (hρ _ _ rfl) (hρ _ _ rfl)) (int_as ((wrap64 (by omega) (by omega)).trans (by omega)))) rfl rfl rfl (w_n rfl) ?_
            refine TL_q (.int .i64 ((j + 1 : Nat) : Int)) (fun _ _ hρ _ => r_move (hρ _ _ rfl)) rfl rfl rfl (w_n rfl) ?_
            refine TL_nil ?_
            rw [repG_set zeroC c (show j < p * q by omega)]
            exact p_at (j + 1) ⟨by omega, by omega⟩ (sub_cons rfl (sub_cons rfl (sub_cons rfl (sub_cons rfl (sub_cons rfl (sub_cons rfl (sub_cons rfl (sub_cons rfl (sub_cons rfl (sub_cons rfl (sub_cons rfl (sub_cons rfl (sub_cons rfl (sub_cons rfl (sub_cons rfl (sub_cons rfl (sub_cons rfl (sub_cons rfl (sub_cons rfl (sub_cons rfl (sub_cons rfl (sub_cons rfl (sub_cons rfl (sub_cons rfl (sub_cons rfl (sub_cons rfl (sub_cons rfl (sub_cons rfl (sub_cons rfl (sub_cons rfl (sub_cons rfl (sub_cons rfl (sub_cons rfl (sub_cons rfl (sub_cons rfl (sub_cons rfl (sub_cons rfl (sub_cons rfl (sub_cons rfl (sub_cons rfl (sub_cons rfl (sub_cons rfl (sub_cons rfl (sub_cons rfl (sub_cons rfl (sub_cons rfl (sub_cons rfl (sub_cons rfl sub_nil)))))))))))))))))))))))))))))))))))))))))))))))) (sub_cons rfl (sub_cons rfl (sub_cons rfl (sub_cons rfl (sub_cons rfl (sub_cons rfl (sub_cons rfl sub_nil)))))))
          · replace h3 := of_decide_eq_false h3
            refine T_exit' ?_
            refine p_then_x ?_
            refine p_then_x ?_
            refine p_blk_x ?_
            refine p_seq ?_
            refine T_seq ?_
            have hjj : j = p * q := by omega
            subst hjj
            rw [repG_all]
            refine T_seq (T_region ?_)
            refine TL_q (.int .i64 0) (fun _ _ hρ _ => r_move (hρ _ _ rfl)) rfl rfl rfl (w_n rfl) ?_
            refine TL_q (.int .i64 0) (fun _ _ hρ _ => r_move (hρ _ _ rfl)) rfl rfl rfl (w_n rfl) ?_
            refine TL_q (.bool false) (fun _ _ hρ _ => r_as (r_neq (hρ _ _ rfl) (hρ _ _ rfl)) (by rfl)) rfl rfl rfl (w_n rfl) ?_
            refine TL_q (.bool false) (fun _ _ hρ _ => r_move (hρ _ _ rfl)) rfl rfl rfl (w_n rfl) ?_
            refine TL_q (.agg #[.int .i64 ((p : Nat) : Int), .int .i64 ((q : Nat) : Int), .slice ar6 ((List.replicate (p * q) c).length) cr6]) (fun _ _ hρ hm => r_loadA ag75 sz75 (hρ _ _ rfl) (hm.at 5 rfl) rfl rfl) rfl rfl rfl (want_y 76 rfl rfl rfl) ?_
            refine TL_q (.agg #[.int .i64 ((p : Nat) : Int), .int .i64 ((q : Nat) : Int), .slice (some ⟨B9, 0, none⟩) (p * q) (p * q)]) (fun _ _ hρ hm => r_loadA ag75 sz75 (hρ _ _ rfl) (hm.at 6 rfl) rfl rfl) rfl rfl rfl (want_y 76 rfl rfl rfl) ?_
            refine TL_call (.bool true) (fun _ _ hρ _ => r_call (args := [.agg #[.int .i64 ((p : Nat) : Int), .int .i64 ((q : Nat) : Int), .slice ar6 ((List.replicate (p * q) c).length) cr6], .agg #[.int .i64 ((p : Nat) : Int), .int .i64 ((q : Nat) : Int), .slice (some ⟨B9, 0, none⟩) (p * q) (p * q)]]) (enters_of Try.func43 (by kernel_rfl) rfl) (hρ _ _ rfl) ((cons2 (hρ _ _ rfl) (cons2 (hρ _ _ rfl) rfl))) rfl) (fun w hm => (srsame_n ((p : Nat) : Int) ((q : Nat) : Int) (List.replicate (p * q) c) ar6 cr6 w (SliceAt.own C4.cells_len (hm.row 4 rfl) rfl rfl) (row_cap (hm.row 4 rfl)) ((p : Nat) : Int) ((q : Nat) : Int) (List.replicate (p * q) c) (some ⟨B9, 0, none⟩) (p * q) (SliceAt.own C4.cells_len (hm.row 941 rfl) (by rw [List.length_replicate]) rfl) (row_cap (hm.row 941 rfl)) (by first | omega | (simp; done) | (simp; omega)) (by first | omega | (simp; done) | (simp; omega)) ((List.replicate (p * q) c).length) rfl (p * q) List.length_replicate).mono fun _ _ h => ⟨h.1.trans (congrArg Ending.returned (bool_as (decide_eq_true ⟨rfl, rfl, rfl⟩))), h.2⟩) rfl rfl rfl (want_y 76 rfl rfl rfl) ?_
            refine TL_q (.bool false) (fun _ _ hρ _ => r_not (b := true) (hρ _ _ rfl)) rfl rfl rfl (want_y 76 rfl rfl rfl) ?_
            refine TL_q (.bool false) (fun _ _ hρ _ => r_pick_f (hρ _ _ rfl) (hρ _ _ rfl)) rfl rfl rfl (w_n rfl) ?_
            refine TL_seq ?_
            refine T_cond_f rfl ?_
            refine T_skip' ?_
            refine p_seq ?_
            by_cases s3 : ((l2.length : Nat) : Int) % ((p : Nat) : Int) = 0
            · skip
              by_cases s4 : sideI ((l2.length / p : Nat) : Int) = true
              · skip
                have hq3 : 1 ≤ l2.length / p ∧ l2.length / p ≤ 8 := by have := of_decide_eq_true s4; omega
                have hlen := of_len s3
                have h64q := size8 hp8 hq3
                have hqn := quo_nat (n := l2.length) (p := p) hp8.1 (by omega)
                refine T_seq (T_region ?_)
                refine TL_q (.pointer (some ⟨B5, 0, none⟩)) (fun _ _ hρ _ => r_indexAddrA (i := 0) ar73 sz3 (hρ _ _ rfl) (hρ _ _ rfl) (by decide)) rfl rfl rfl (w_n rfl) ?_
                refine TL_q (.int .i64 ((p : Nat) : Int)) (fun _ _ hρ hm => r_load ag3 (hρ _ _ rfl) (hm.at 3 rfl) rfl) rfl rfl rfl (w_n rfl) ?_
                refine TL_q (.slice ar3 ((l2).length) cr3) (fun _ _ hρ _ => r_move (hρ _ _ rfl)) rfl rfl rfl (w_n rfl) ?_
                refine TL_callN (fun (_ : Option Addr × Nat) => True) (fun (ar10, cr10) => .tuple #[.agg #[.int .i64 ((p : Nat) : Int), .int .i64 (((l2.length / p) : Nat) : Int), .slice ar10 (((l2)).length) cr10], .int .i64 0]) (fun (ar10, cr10) => [(7, .row (.slice ar10 (((l2)).length) cr10) 37 4 (((l2)).length) (((l2)).flatMap C4.cells))]) (fun _ _ hρ _ => r_call (args := [.int .i64 ((p : Nat) : Int), .slice ar3 ((l2).length) cr3]) (enters_of Try.func44 (by kernel_rfl) rfl) (hρ _ _ rfl) ((cons2 (hρ _ _ rfl) (cons2 (hρ _ _ rfl) rfl))) rfl) (fun w hm => (sof_ok p (l2.length / p) (l2) ar3 cr3 w (SliceAt.own C4.cells_len (hm.row 2 rfl) rfl rfl) (row_cap (hm.row 2 rfl)) hp8 hq3 hlen).mono fun e w' ⟨a', cap', he, hb, hr⟩ => ⟨(a', cap'), trivial, he, hb, newOk1 7 hr⟩) rfl rfl rfl (w_n rfl) ?_
                rintro ⟨ar10, cr10⟩ -
                refine TL_q (.tuple #[.agg #[.int .i64 ((p : Nat) : Int), .int .i64 (((l2.length / p) : Nat) : Int), .slice ar10 (((l2)).length) cr10], .int .i64 0]) (fun _ _ hρ _ => r_move (hρ _ _ rfl)) rfl rfl rfl (w_n rfl) ?_
                refine TL_q (.agg #[.int .i64 ((p : Nat) : Int), .int .i64 (((l2.length / p) : Nat) : Int), .slice ar10 (((l2)).length) cr10]) (fun _ _ hρ _ => r_extract (hρ _ _ rfl) rfl) rfl rfl rfl (w_n rfl) ?_
                refine TL_q (.int .i64 0) (fun _ _ hρ _ => r_extract (hρ _ _ rfl) rfl) rfl rfl rfl (w_n rfl) ?_
                refine TL_new 8 (.cells #[.int .i64 0, .int .i64 0, .slice none 0 0] 75) (fun B => .pointer (some ⟨B, 0, none⟩)) (fun _ _ _ _ => r_alloc (v := .agg #[.int .i64 0, .int .i64 0, .slice none 0 0]) (by kernel_rfl) rfl) rfl rfl rfl (w_n rfl) ?_
                intro B11
                refine TL_store 8 (.cells #[.int .i64 ((p : Nat) : Int), .int .i64 (((l2.length / p) : Nat) : Int), .slice ar10 (((l2)).length) cr10] 75) rfl (fun _ _ hρ hm => r_store sz75 (hρ _ _ rfl) (hρ _ _ rfl) (hm.at 8 rfl) rfl rfl rfl rfl) rfl rfl (w_n rfl) ?_
                refine TL_q (.int .i64 0) (fun _ _ hρ _ => r_assign (hρ _ _ rfl)) rfl rfl rfl (w_n rfl) ?_
                refine TL_seq ?_
                refine T_seq (T_region ?_)
                refine TL_q (.pointer (some ⟨B5, 0, none⟩)) (fun _ _ hρ _ => r_indexAddrA (i := 0) ar73 sz3 (hρ _ _ rfl) (hρ _ _ rfl) (by decide)) rfl rfl rfl (w_n rfl) ?_
                refine TL_q (.int .i64 ((p : Nat) : Int)) (fun _ _ hρ hm => r_load ag3 (hρ _ _ rfl) (hm.at 3 rfl) rfl) rfl rfl rfl (w_n rfl) ?_
                refine TL_q (.slice ar3 ((l2).length) cr3) (fun _ _ hρ _ => r_move (hρ _ _ rfl)) rfl rfl rfl (w_n rfl) ?_
                refine TL_q (.agg #[.int .i64 ((p : Nat) : Int), .int .i64 0, .slice ar3 ((l2).length) cr3]) (fun _ _ hρ _ => r_build (vs := [(0, .int .i64 ((p : Nat) : Int)), (2, .slice ar3 ((l2).length) cr3)]) (by kernel_rfl) (cons2 (pair2 (hρ _ _ rfl)) (cons2 (pair2 (hρ _ _ rfl)) rfl))) rfl rfl rfl (w_n rfl) ?_
                refine TL_new 9 (.cells #[.int .i64 0, .int .i64 0, .slice none 0 0] 75) (fun B => .pointer (some ⟨B, 0, none⟩)) (fun _ _ _ _ => r_alloc (v := .agg #[.int .i64 0, .int .i64 0, .slice none 0 0]) (by kernel_rfl) rfl) rfl rfl rfl (w_n rfl) ?_
                intro B12
                refine TL_store 9 (.cells #[.int .i64 ((p : Nat) : Int), .int .i64 0, .slice ar3 ((l2).length) cr3] 75) rfl (fun _ _ hρ hm => r_store sz75 (hρ _ _ rfl) (hρ _ _ rfl) (hm.at 9 rfl) rfl rfl rfl rfl) rfl rfl (w_n rfl) ?_
                refine TL_seq ?_
                refine T_seq ?_
                refine T_seq (T_region ?_)
                refine TL_q (.pointer (some ⟨B5, 0, none⟩)) (fun _ _ hρ _ => r_indexAddrA (i := 0) ar73 sz3 (hρ _ _ rfl) (hρ _ _ rfl) (by decide)) rfl rfl rfl (w_n rfl) ?_
                refine TL_q (.int .i64 ((p : Nat) : Int)) (fun _ _ hρ hm => r_load ag3 (hρ _ _ rfl) (hm.at 3 rfl) rfl) rfl rfl rfl (w_n rfl) ?_
                refine TL_q (.bool true) (fun _ _ hρ _ => r_as (r_gtr (hρ _ _ rfl) (hρ _ _ rfl)) (bool_as (decide_eq_true (by omega)))) rfl rfl rfl (w_n rfl) ?_
                refine TL_seq ?_
                refine T_cond_t rfl ?_
                refine T_region ?_
                refine TL_q (.slice ar3 ((l2).length) cr3) (fun _ _ hρ _ => r_move (hρ _ _ rfl)) rfl rfl rfl (w_n rfl) ?_
                refine TL_q (.int .i64 (((l2).length : Nat) : Int)) (fun _ _ hρ _ => r_len sl71 (hρ _ _ rfl)) rfl rfl rfl (w_n rfl) ?_
                refine TL_q (.pointer (some ⟨B5, 0, none⟩)) (fun _ _ hρ _ => r_indexAddrA (i := 0) ar73 sz3 (hρ _ _ rfl) (hρ _ _ rfl) (by decide)) rfl rfl rfl (w_n rfl) ?_
                refine TL_q (.int .i64 ((p : Nat) : Int)) (fun _ _ hρ hm => r_load ag3 (hρ _ _ rfl) (hm.at 3 rfl) rfl) rfl rfl rfl (w_n rfl) ?_
                refine TL_q (.int .i64 (((l2.length / p) : Nat) : Int)) (fun _ _ hρ _ => r_as (r_quo (hρ _ _ rfl) (hρ _ _ rfl) (by omega)) (int_as hqn)) rfl rfl rfl (w_n rfl) ?_
                refine TL_q (.pointer (some ⟨B12, 1, none⟩)) (fun _ _ hρ _ => r_fieldAddr fl75_1 sz3 (hρ _ _ rfl)) rfl rfl rfl (w_n rfl) ?_
                refine TL_store 9 (.cells #[.int .i64 ((p : Nat) : Int), .int .i64 (((l2.length / p) : Nat) : Int), .slice ar3 ((l2).length) cr3] 75) rfl (fun _ _ hρ hm => r_store sz3 (hρ _ _ rfl) (hρ _ _ rfl) (hm.at 9 rfl) rfl rfl rfl rfl) rfl rfl (w_n rfl) ?_
                refine TL_nil ?_
                refine p_seq ?_
                refine T_seq ?_
                refine T_seq (T_region ?_)
                refine TL_q (.agg #[.int .i64 ((p : Nat) : Int), .int .i64 (((l2.length / p) : Nat) : Int), .slice ar3 ((l2).length) cr3]) (fun _ _ hρ hm => r_loadA ag75 sz75 (hρ _ _ rfl) (hm.at 9 rfl) rfl rfl) rfl rfl rfl (w_n rfl) ?_
                refine TL_call (.bool true) (fun _ _ hρ _ => r_call (args := [.agg #[.int .i64 ((p : Nat) : Int), .int .i64 (((l2.length / p) : Nat) : Int), .slice ar3 ((l2).length) cr3]]) (enters_of Try.func45 (by kernel_rfl) rfl) (hρ _ _ rfl) ((cons2 (hρ _ _ rfl) rfl)) rfl) (fun w _ => (rright_c ((p : Nat) : Int) (((l2.length / p) : Nat) : Int) ar3 ((l2).length) cr3 w).mono fun _ _ h => ⟨h.1.trans (congrArg Ending.returned (bool_as (rightS_of hp8 hq3 hlen))), h.2⟩) rfl rfl rfl (w_n rfl) ?_
                refine TL_q (.bool false) (fun _ _ hρ _ => r_not (b := true) (hρ _ _ rfl)) rfl rfl rfl (w_n rfl) ?_
                refine TL_seq ?_
                refine T_sub [(2, .slice ax x.length cx), (4, .pointer (some ⟨B1, 0, none⟩)), (7, .slice ar3 ((l2).length) cr3), (26, .slice (some ⟨b4, of4, none⟩) l.length cl), (27, .int .i64 ((l.length : Nat) : Int)), (28, .int .i64 ((k : Nat) : Int)), (29, .bool (decide (((k : Nat) : Int) < ((l.length : Nat) : Int)))), (30, .int .i64 ((k : Nat) : Int)), (31, .pointer (some ⟨b4, of4 + k * 2, none⟩)), (32, .agg #[.int .i64 ((p : Nat) : Int), .int .i64 ((q : Nat) : Int)]), (9, .pointer (some ⟨B5, 0, none⟩)), (8, .int .i64 ((k : Nat) : Int)), (33, .int .i64 ((k : Nat) : Int)), (34, .bool (decide (((k : Nat) : Int) = 10))), (36, .pointer (some ⟨B5, 0, none⟩)), (37, .int .i64 ((p : Nat) : Int)), (38, .pointer (some ⟨B5, 1, none⟩)), (39, .int .i64 ((q : Nat) : Int)), (40, .agg #[.int .u8 c.r, .int .u8 c.g, .int .u8 c.b, .int .u8 c.a]), (41, .tuple #[.agg #[.int .i64 ((p : Nat) : Int), .int .i64 ((q : Nat) : Int), .slice ar6 ((List.replicate (p * q) c).length) cr6], .int .i64 0]), (35, .tuple #[.agg #[.int .i64 ((p : Nat) : Int), .int .i64 ((q : Nat) : Int), .slice ar6 ((List.replicate (p * q) c).length) cr6], .int .i64 0]), (42, .agg #[.int .i64 ((p : Nat) : Int), .int .i64 ((q : Nat) : Int), .slice ar6 ((List.replicate (p * q) c).length) cr6]), (43, .int .i64 0), (10, .pointer (some ⟨B7, 0, none⟩)), (44, .agg #[.int .i64 0, .int .i64 0, .slice none 0 0]), (12, .pointer (some ⟨B8, 0, none⟩)), (45, .pointer (some ⟨B5, 0, none⟩)), (46, .int .i64 ((p : Nat) : Int)), (47, .pointer (some ⟨B5, 1, none⟩)), (48, .int .i64 ((q : Nat) : Int)), (49, .bool true), (50, .pointer (some ⟨B5, 0, none⟩)), (51, .int .i64 ((p : Nat) : Int)), (52, .pointer (some ⟨B5, 1, none⟩)), (53, .int .i64 ((q : Nat) : Int)), (54, .pointer (some ⟨B5, 0, none⟩)), (55, .int .i64 ((p : Nat) : Int)), (56, .pointer (some ⟨B5, 1, none⟩)), (57, .int .i64 ((q : Nat) : Int)), (58, .int .i64 ((p * q : Nat) : Int)), (59, .slice (some ⟨B9, 0, none⟩) (p * q) (p * q)), (60, .agg #[.int .i64 ((p : Nat) : Int), .int .i64 ((q : Nat) : Int), .slice (some ⟨B9, 0, none⟩) (p * q) (p * q)]), (13, .int .i64 0), (61, .pointer (some ⟨B8, 2, none⟩)), (62, .slice (some ⟨B9, 0, none⟩) (p * q) (p * q)), (63, .int .i64 ((p * q : Nat) : Int)), (64, .int .i64 (((p * q) : Nat) : Int)), (65, .bool (decide ((((p * q) : Nat) : Int) < ((p * q : Nat) : Int)))), (73, .int .i64 0), (74, .int .i64 0), (75, .bool false), (76, .bool false), (77, .agg #[.int .i64 ((p : Nat) : Int), .int .i64 ((q : Nat) : Int), .slice ar6 ((List.replicate (p * q) c).length) cr6]), (78, .agg #[.int .i64 ((p : Nat) : Int), .int .i64 ((q : Nat) : Int), .slice (some ⟨B9, 0, none⟩) (p * q) (p * q)]), (79, .bool true), (80, .bool false), (81, .bool false), (83, .pointer (some ⟨B5, 0, none⟩)), (84, .int .i64 ((p : Nat) : Int)), (85, .slice ar3 ((l2).length) cr3), (86, .tuple #[.agg #[.int .i64 ((p : Nat) : Int), .int .i64 (((l2.length / p) : Nat) : Int), .slice ar10 (((l2)).length) cr10], .int .i64 0]), (82, .tuple #[.agg #[.int .i64 ((p : Nat) : Int), .int .i64 (((l2.length / p) : Nat) : Int), .slice ar10 (((l2)).length) cr10], .int .i64 0]), (87, .agg #[.int .i64 ((p : Nat) : Int), .int .i64 (((l2.length / p) : Nat) : Int), .slice ar10 (((l2)).length) cr10]), (88, .int .i64 0), (15, .pointer (some ⟨B11, 0, none⟩)), (11, .int .i64 0), (89, .pointer (some ⟨B5, 0, none⟩)), (90, .int .i64 ((p : Nat) : Int)), (91, .slice ar3 ((l2).length) cr3), (92, .agg #[.int .i64 ((p : Nat) : Int), .int .i64 0, .slice ar3 ((l2).length) cr3]), (16, .pointer (some ⟨B12, 0, none⟩)), (93, .pointer (some ⟨B5, 0, none⟩)), (94, .int .i64 ((p : Nat) : Int)), (95, .bool true), (96, .slice ar3 ((l2).length) cr3), (97, .int .i64 (((l2).length : Nat) : Int)), (98, .pointer (some ⟨B5, 0, none⟩)), (99, .int .i64 ((p : Nat) : Int)), (100, .int .i64 (((l2.length / p) : Nat) : Int)), (101, .pointer (some ⟨B12, 1, none⟩)), (102, .agg #[.int .i64 ((p : Nat) : Int), .int .i64 (((l2.length / p) : Nat) : Int), .slice ar3 ((l2).length) cr3]), (103, .bool true), (104, .bool false)] [(7, .row (.slice ar10 (((l2)).length) cr10) 37 4 (((l2)).length) (((l2)).flatMap C4.cells)), (4, .row (.slice ar6 ((List.replicate (p * q) c).length) cr6) 37 4 ((List.replicate (p * q) c).length) ((List.replicate (p * q) c).flatMap C4.cells)), (2, .row (.slice ar3 ((l2).length) cr3) 37 4 ((l2).length) ((l2).flatMap C4.cells)), (1, .blk B1 (.cells #[.int .u8 c.r, .int .u8 c.g, .int .u8 c.b, .int .u8 c.a] 37)), (3, .blk B5 (.cells #[.int .i64 ((p : Nat) : Int), .int .i64 ((q : Nat) : Int)] 73)), (5, .blk B7 (.cells #[.int .i64 ((p : Nat) : Int), .int .i64 ((q : Nat) : Int), .slice ar6 ((List.replicate (p * q) c).length) cr6] 75)), (6, .blk B8 (.cells #[.int .i64 ((p : Nat) : Int), .int .i64 ((q : Nat) : Int), .slice (some ⟨B9, 0, none⟩) (p * q) (p * q)] 75)), (941, .row (.slice (some ⟨B9, 0, none⟩) (p * q) (p * q)) 37 4 (p * q) ((List.replicate (p * q) c).flatMap C4.cells)), (8, .blk B11 (.cells #[.int .i64 ((p : Nat) : Int), .int .i64 (((l2.length / p) : Nat) : Int), .slice ar10 (((l2)).length) cr10] 75)), (9, .blk B12 (.cells #[.int .i64 ((p : Nat) : Int), .int .i64 (((l2.length / p) : Nat) : Int), .slice ar3 ((l2).length) cr3] 75))] (sub_cons rfl (sub_cons rfl (sub_cons rfl (sub_cons rfl (sub_cons rfl (sub_cons rfl (sub_cons rfl (sub_cons rfl (sub_cons rfl (sub_cons rfl (sub_cons rfl (sub_cons rfl (sub_cons rfl (sub_cons rfl (sub_cons rfl (sub_cons rfl (sub_cons rfl (sub_cons rfl (sub_cons rfl (sub_cons rfl (sub_cons rfl (sub_cons rfl (sub_cons rfl (sub_cons rfl (sub_cons rfl (sub_cons rfl (sub_cons rfl (sub_cons rfl (sub_cons rfl (sub_cons rfl (sub_cons rfl (sub_cons rfl (sub_cons rfl (sub_cons rfl (sub_cons rfl (sub_cons rfl (sub_cons rfl (sub_cons rfl (sub_cons rfl (sub_cons rfl (sub_cons rfl (sub_cons rfl (sub_cons rfl (sub_cons rfl (sub_cons rfl (sub_cons rfl (sub_cons rfl (sub_cons rfl (sub_cons rfl (sub_cons rfl (sub_cons rfl (sub_cons rfl (sub_cons rfl (sub_cons rfl (sub_cons rfl (sub_cons rfl (sub_cons rfl (sub_cons rfl (sub_cons rfl (sub_cons rfl (sub_cons rfl (sub_cons rfl (sub_cons rfl (sub_cons rfl (sub_cons rfl (sub_cons rfl (sub_cons rfl (sub_cons rfl (sub_cons rfl (sub_cons rfl (sub_cons rfl (sub_cons rfl (sub_cons rfl (sub_cons rfl (sub_cons rfl (sub_cons rfl (sub_cons rfl (sub_cons rfl (sub_cons rfl (sub_cons rfl (sub_cons rfl (sub_cons rfl (sub_cons rfl sub_nil))))))))))))))))))))))))))))))))))))))))))))))))))))))))))))))))))))))))))))))))))) (sub_cons rfl (sub_cons rfl (sub_cons rfl (sub_cons rfl (sub_cons rfl (sub_cons rfl (sub_cons rfl (sub_cons rfl (sub_cons rfl (sub_cons rfl sub_nil)))))))))) ?_
                refine T_cond_f rfl ?_
                refine T_skip' ?_
                refine p_seq ?_
                refine T_seq ?_
                refine T_seq (T_region ?_)
                refine TL_q (.int .i64 0) (fun _ _ hρ _ => r_move (hρ _ _ rfl)) rfl rfl rfl (w_n rfl) ?_
                refine TL_q (.bool false) (fun _ _ hρ _ => r_as (r_neq (hρ _ _ rfl) (hρ _ _ rfl)) (by rfl)) rfl rfl rfl (w_n rfl) ?_
                refine TL_q (.bool false) (fun _ _ hρ _ => r_move (hρ _ _ rfl)) rfl rfl rfl (w_n rfl) ?_
                refine TL_q (.agg #[.int .i64 ((p : Nat) : Int), .int .i64 (((l2.length / p) : Nat) : Int), .slice ar10 (((l2)).length) cr10]) (fun _ _ hρ hm => r_loadA ag75 sz75 (hρ _ _ rfl) (hm.at 8 rfl) rfl rfl) rfl rfl rfl (want_y 115 rfl rfl rfl) ?_
                refine TL_q (.agg #[.int .i64 ((p : Nat) : Int), .int .i64 (((l2.length / p) : Nat) : Int), .slice ar3 ((l2).length) cr3]) (fun _ _ hρ hm => r_loadA ag75 sz75 (hρ _ _ rfl) (hm.at 9 rfl) rfl rfl) rfl rfl rfl (want_y 115 rfl rfl rfl) ?_
                refine TL_call (.bool true) (fun _ _ hρ _ => r_call (args := [.agg #[.int .i64 ((p : Nat) : Int), .int .i64 (((l2.length / p) : Nat) : Int), .slice ar10 (((l2)).length) cr10], .agg #[.int .i64 ((p : Nat) : Int), .int .i64 (((l2.length / p) : Nat) : Int), .slice ar3 ((l2).length) cr3]]) (enters_of Try.func43 (by kernel_rfl) rfl) (hρ _ _ rfl) ((cons2 (hρ _ _ rfl) (cons2 (hρ _ _ rfl) rfl))) rfl) (fun w hm => (srsame_n ((p : Nat) : Int) (((l2.length / p) : Nat) : Int) l2 ar10 cr10 w (SliceAt.own C4.cells_len (hm.row 7 rfl) rfl rfl) (row_cap (hm.row 7 rfl)) ((p : Nat) : Int) (((l2.length / p) : Nat) : Int) l2 ar3 cr3 (SliceAt.own C4.cells_len (hm.row 2 rfl) rfl rfl) (row_cap (hm.row 2 rfl)) (by first | omega | (simp; done) | (simp; omega)) (by first | omega | (simp; done) | (simp; omega)) (((l2)).length) rfl ((l2).length) rfl).mono fun _ _ h => ⟨h.1.trans (congrArg Ending.returned (bool_as (decide_eq_true ⟨rfl, rfl, rfl⟩))), h.2⟩) rfl rfl rfl (want_y 115 rfl rfl rfl) ?_
                refine TL_q (.bool false) (fun _ _ hρ _ => r_not (b := true) (hρ _ _ rfl)) rfl rfl rfl (want_y 115 rfl rfl rfl) ?_
                refine TL_q (.bool false) (fun _ _ hρ _ => r_pick_f (hρ _ _ rfl) (hρ _ _ rfl)) rfl rfl rfl (w_n rfl) ?_
                refine TL_seq ?_
                refine T_cond_f rfl ?_
                refine T_skip' ?_
                refine p_seq ?_
                refine T_seq ?_
                refine T_seq (T_region ?_)
                refine TL_q (.pointer (some ⟨B11, 2, none⟩)) (fun _ _ hρ _ => r_fieldAddr fl75_2 sz71 (hρ _ _ rfl)) rfl rfl rfl (w_n rfl) ?_
                refine TL_q (.slice ar10 (((l2)).length) cr10) (fun _ _ hρ hm => r_load ag71 (hρ _ _ rfl) (hm.at 8 rfl) rfl) rfl rfl rfl (w_n rfl) ?_
                refine TL_q (.int .i64 ((((l2)).length : Nat) : Int)) (fun _ _ hρ _ => r_len sl71 (hρ _ _ rfl)) rfl rfl rfl (w_n rfl) ?_
                refine TL_q (.int .i64 0) (fun _ _ hρ _ => r_move (hρ _ _ rfl)) rfl rfl rfl (w_n rfl) ?_
                refine TL_seq ?_
                refine T_block ?_
                refine T_loop (ι := Nat × List C4) (fun (z : Nat × List C4) => match z with | (k9, l9) => k9 ≤ ((l2)).length ∧ l9.length = ((l2)).length) (fun (z : Nat × List C4) => match z with | (k9, l9) => [(2, .slice ax x.length cx), (4, .pointer (some ⟨B1, 0, none⟩)), (7, .slice ar3 ((l2).length) cr3), (26, .slice (some ⟨b4, of4, none⟩) l.length cl), (27, .int .i64 ((l.length : Nat) : Int)), (28, .int .i64 ((k : Nat) : Int)), (29, .bool (decide (((k : Nat) : Int) < ((l.length : Nat) : Int)))), (30, .int .i64 ((k : Nat) : Int)), (31, .pointer (some ⟨b4, of4 + k * 2, none⟩)), (32, .agg #[.int .i64 ((p : Nat) : Int), .int .i64 ((q : Nat) : Int)]), (9, .pointer (some ⟨B5, 0, none⟩)), (8, .int .i64 ((k : Nat) : Int)), (33, .int .i64 ((k : Nat) : Int)), (34, .bool (decide (((k : Nat) : Int) = 10))), (36, .pointer (some ⟨B5, 0, none⟩)), (37, .int .i64 ((p : Nat) : Int)), (38, .pointer (some ⟨B5, 1, none⟩)), (39, .int .i64 ((q : Nat) : Int)), (40, .agg #[.int .u8 c.r, .int .u8 c.g, .int .u8 c.b, .int .u8 c.a]), (41, .tuple #[.agg #[.int .i64 ((p : Nat) : Int), .int .i64 ((q : Nat) : Int), .slice ar6 ((List.replicate (p * q) c).length) cr6], .int .i64 0]), (35, .tuple #[.agg #[.int .i64 ((p : Nat) : Int), .int .i64 ((q : Nat) : Int), .slice ar6 ((List.replicate (p * q) c).length) cr6], .int .i64 0]), (42, .agg #[.int .i64 ((p : Nat) : Int), .int .i64 ((q : Nat) : Int), .slice ar6 ((List.replicate (p * q) c).length) cr6]), (43, .int .i64 0), (10, .pointer (some ⟨B7, 0, none⟩)), (44, .agg #[.int .i64 0, .int .i64 0, .slice none 0 0]), (12, .pointer (some ⟨B8, 0, none⟩)), (45, .pointer (some ⟨B5, 0, none⟩)), (46, .int .i64 ((p : Nat) : Int)), (47, .pointer (some ⟨B5, 1, none⟩)), (48, .int .i64 ((q : Nat) : Int)), (49, .bool true), (50, .pointer (some ⟨B5, 0, none⟩)), (51, .int .i64 ((p : Nat) : Int)), (52, .pointer (some ⟨B5, 1, none⟩)), (53, .int .i64 ((q : Nat) : Int)), (54, .pointer (some ⟨B5, 0, none⟩)), (55, .int .i64 ((p : Nat) : Int)), (56, .pointer (some ⟨B5, 1, none⟩)), (57, .int .i64 ((q : Nat) : Int)), (58, .int .i64 ((p * q : Nat) : Int)), (59, .slice (some ⟨B9, 0, none⟩) (p * q) (p * q)), (60, .agg #[.int .i64 ((p : Nat) : Int), .int .i64 ((q : Nat) : Int), .slice (some ⟨B9, 0, none⟩) (p * q) (p * q)]), (13, .int .i64 0), (61, .pointer (some ⟨B8, 2, none⟩)), (62, .slice (some ⟨B9, 0, none⟩) (p * q) (p * q)), (63, .int .i64 ((p * q : Nat) : Int)), (64, .int .i64 (((p * q) : Nat) : Int)), (65, .bool (decide ((((p * q) : Nat) : Int) < ((p * q : Nat) : Int)))), (73, .int .i64 0), (74, .int .i64 0), (75, .bool false), (76, .bool false), (77, .agg #[.int .i64 ((p : Nat) : Int), .int .i64 ((q : Nat) : Int), .slice ar6 ((List.replicate (p * q) c).length) cr6]), (78, .agg #[.int .i64 ((p : Nat) : Int), .int .i64 ((q : Nat) : Int), .slice (some ⟨B9, 0, none⟩) (p * q) (p * q)]), (79, .bool true), (80, .bool false), (81, .bool false), (83, .pointer (some ⟨B5, 0, none⟩)), (84, .int .i64 ((p : Nat) : Int)), (85, .slice ar3 ((l2).length) cr3), (86, .tuple #[.agg #[.int .i64 ((p : Nat) : Int), .int .i64 (((l2.length / p) : Nat) : Int), .slice ar10 (((l2)).length) cr10], .int .i64 0]), (82, .tuple #[.agg #[.int .i64 ((p : Nat) : Int), .int .i64 (((l2.length / p) : Nat) : Int), .slice ar10 (((l2)).length) cr10], .int .i64 0]), (87, .agg #[.int .i64 ((p : Nat) : Int), .int .i64 (((l2.length / p) : Nat) : Int), .slice ar10 (((l2)).length) cr10]), (88, .int .i64 0), (15, .pointer (some ⟨B11, 0, none⟩)), (11, .int .i64 0), (89, .pointer (some ⟨B5, 0, none⟩)), (90, .int .i64 ((p : Nat) : Int)), (91, .slice ar3 ((l2).length) cr3), (92, .agg #[.int .i64 ((p : Nat) : Int), .int .i64 0, .slice ar3 ((l2).length) cr3]), (16, .pointer (some ⟨B12, 0, none⟩)), (93, .pointer (some ⟨B5, 0, none⟩)), (94, .int .i64 ((p : Nat) : Int)), (95, .bool true), (96, .slice ar3 ((l2).length) cr3), (97, .int .i64 (((l2).length : Nat) : Int)), (98, .pointer (some ⟨B5, 0, none⟩)), (99, .int .i64 ((p : Nat) : Int)), (100, .int .i64 (((l2.length / p) : Nat) : Int)), (101, .pointer (some ⟨B12, 1, none⟩)), (102, .agg #[.int .i64 ((p : Nat) : Int), .int .i64 (((l2.length / p) : Nat) : Int), .slice ar3 ((l2).length) cr3]), (103, .bool true), (104, .bool false), (113, .int .i64 0), (114, .bool false), (115, .bool false), (116, .agg #[.int .i64 ((p : Nat) : Int), .int .i64 (((l2.length / p) : Nat) : Int), .slice ar10 (((l2)).length) cr10]), (117, .agg #[.int .i64 ((p : Nat) : Int), .int .i64 (((l2.length / p) : Nat) : Int), .slice ar3 ((l2).length) cr3]), (118, .bool true), (119, .bool false), (120, .bool false), (121, .pointer (some ⟨B11, 2, none⟩)), (122, .slice ar10 (((l2)).length) cr10), (123, .int .i64 ((((l2)).length : Nat) : Int)), (124, .int .i64 ((k9 : Nat) : Int))]) (fun (z : Nat × List C4) => match z with | (k9, l9) => [(4, .row (.slice ar6 ((List.replicate (p * q) c).length) cr6) 37 4 ((List.replicate (p * q) c).length) ((List.replicate (p * q) c).flatMap C4.cells)), (2, .row (.slice ar3 ((l2).length) cr3) 37 4 ((l2).length) ((l2).flatMap C4.cells)), (1, .blk B1 (.cells #[.int .u8 c.r, .int .u8 c.g, .int .u8 c.b, .int .u8 c.a] 37)), (3, .blk B5 (.cells #[.int .i64 ((p : Nat) : Int), .int .i64 ((q : Nat) : Int)] 73)), (5, .blk B7 (.cells #[.int .i64 ((p : Nat) : Int), .int .i64 ((q : Nat) : Int), .slice ar6 ((List.replicate (p * q) c).length) cr6] 75)), (6, .blk B8 (.cells #[.int .i64 ((p : Nat) : Int), .int .i64 ((q : Nat) : Int), .slice (some ⟨B9, 0, none⟩) (p * q) (p * q)] 75)), (941, .row (.slice (some ⟨B9, 0, none⟩) (p * q) (p * q)) 37 4 (p * q) ((List.replicate (p * q) c).flatMap C4.cells)), (8, .blk B11 (.cells #[.int .i64 ((p : Nat) : Int), .int .i64 (((l2.length / p) : Nat) : Int), .slice ar10 (((l2)).length) cr10] 75)), (9, .blk B12 (.cells #[.int .i64 ((p : Nat) : Int), .int .i64 (((l2.length / p) : Nat) : Int), .slice ar3 ((l2).length) cr3] 75)), (7, .row (.slice ar10 (((l2)).length) cr10) 37 4 (((l2)).length) (l9.flatMap C4.cells))]) (fun (z : Nat × List C4) => match z with | (k9, l9) => ((l2)).length - k9) (0, ((l2))) ⟨Nat.zero_le _, rfl⟩ (sub_cons rfl (sub_cons rfl (sub_cons rfl (sub_cons rfl (sub_cons rfl (sub_cons rfl (sub_cons rfl (sub_cons rfl (sub_cons rfl (sub_cons rfl (sub_cons rfl (sub_cons rfl (sub_cons rfl (sub_cons rfl (sub_cons rfl (sub_cons rfl (sub_cons rfl (sub_cons rfl (sub_cons rfl (sub_cons rfl (sub_cons rfl (sub_cons rfl (sub_cons rfl (sub_cons rfl (sub_cons rfl (sub_cons rfl (sub_cons rfl (sub_cons rfl (sub_cons rfl (sub_cons rfl (sub_cons rfl (sub_cons rfl (sub_cons rfl (sub_cons rfl (sub_cons rfl (sub_cons rfl (sub_cons rfl (sub_cons rfl (sub_cons rfl (sub_cons rfl (sub_cons rfl (sub_cons rfl (sub_cons rfl (sub_cons rfl (sub_cons rfl (sub_cons rfl (sub_cons rfl (sub_cons rfl (sub_cons rfl (sub_cons rfl (sub_cons rfl (sub_cons rfl (sub_cons rfl (sub_cons rfl (sub_cons rfl (sub_cons rfl (sub_cons rfl (sub_cons rfl (sub_cons rfl (sub_cons rfl (sub_cons rfl (sub_cons rfl (sub_cons rfl (sub_cons rfl (sub_cons rfl (sub_cons rfl (sub_cons rfl (sub_cons rfl (sub_cons rfl (sub_cons rfl (sub_cons rfl (sub_cons rfl (sub_cons rfl (sub_cons rfl (sub_cons rfl (sub_cons rfl (sub_cons rfl (sub_cons rfl (sub_cons rfl (sub_cons rfl (sub_cons rfl (sub_cons rfl (sub_cons rfl (sub_cons rfl (sub_cons rfl (sub_cons rfl (sub_cons rfl (sub_cons rfl (sub_cons rfl (sub_cons rfl (sub_cons rfl (sub_cons rfl (sub_cons rfl (sub_cons rfl (sub_cons rfl sub_nil))))))))))))))))))))))))))))))))))))))))))))))))))))))))))))))))))))))))))))))))))))))))))))))) (sub_cons rfl (sub_cons rfl (sub_cons rfl (sub_cons rfl (sub_cons rfl (sub_cons rfl (sub_cons rfl (sub_cons rfl (sub_cons rfl (sub_cons rfl sub_nil)))))))))) ?_
                rintro ⟨k9, l9⟩ hp
                obtain ⟨hk9, hl9⟩ := hp
                show T _ _ _ [(2, .slice ax x.length cx), (4, .pointer (some ⟨B1, 0, none⟩)), (7, .slice ar3 ((l2).length) cr3), (26, .slice (some ⟨b4, of4, none⟩) l.length cl), (27, .int .i64 ((l.length : Nat) : Int)), (28, .int .i64 ((k : Nat) : Int)), (29, .bool (decide (((k : Nat) : Int) < ((l.length : Nat) : Int)))), (30, .int .i64 ((k : Nat) : Int)), (31, .pointer (some ⟨b4, of4 + k * 2, none⟩)), (32, .agg #[.int .i64 ((p : Nat) : Int), .int .i64 ((q : Nat) : Int)]), (9, .pointer (some ⟨B5, 0, none⟩)), (8, .int .i64 ((k : Nat) : Int)), (33, .int .i64 ((k : Nat) : Int)), (34, .bool (decide (((k : Nat) : Int) = 10))), (36, .pointer (some ⟨B5, 0, none⟩)), (37, .int .i64 ((p : Nat) : Int)), (38, .pointer (some ⟨B5, 1, none⟩)), (39, .int .i64 ((q : Nat) : Int)), (40, .agg #[.int .u8 c.r, .int .u8 c.g, .int .u8 c.b, .int .u8 c.a]), (41, .tuple #[.agg #[.int .i64 ((p : Nat) : Int), .int .i64 ((q : Nat) : Int), .slice ar6 ((List.replicate (p * q) c).length) cr6], .int .i64 0]), (35, .tuple #[.agg #[.int .i64 ((p : Nat) : Int), .int .i64 ((q : Nat) : Int), .slice ar6 ((List.replicate (p * q) c).length) cr6], .int .i64 0]), (42, .agg #[.int .i64 ((p : Nat) : Int), .int .i64 ((q : Nat) : Int), .slice ar6 ((List.replicate (p * q) c).length) cr6]), (43, .int .i64 0), (10, .pointer (some ⟨B7, 0, none⟩)), (44, .agg #[.int .i64 0, .int .i64 0, .slice none 0 0]), (12, .pointer (some ⟨B8, 0, none⟩)), (45, .pointer (some ⟨B5, 0, none⟩)), (46, .int .i64 ((p : Nat) : Int)), (47, .pointer (some ⟨B5, 1, none⟩)), (48, .int .i64 ((q : Nat) : Int)), (49, .bool true), (50, .pointer (some ⟨B5, 0, none⟩)), (51, .int .i64 ((p : Nat) : Int)), (52, .pointer (some ⟨B5, 1, none⟩)), (53, .int .i64 ((q : Nat) : Int)), (54, .pointer (some ⟨B5, 0, none⟩)), (55, .int .i64 ((p : Nat) : Int)), (56, .pointer (some ⟨B5, 1, none⟩)), (57, .int .i64 ((q : Nat) : Int)), (58, .int .i64 ((p * q : Nat) : Int)), (59, .slice (some ⟨B9, 0, none⟩) (p * q) (p * q)), (60, .agg #[.int .i64 ((p : Nat) : Int), .int .i64 ((q : Nat) : Int), .slice (some ⟨B9, 0, none⟩) (p * q) (p * q)]), (13, .int .i64 0), (61, .pointer (some ⟨B8, 2, none⟩)), (62, .slice (some ⟨B9, 0, none⟩) (p * q) (p * q)), (63, .int .i64 ((p * q : Nat) : Int)), (64, .int .i64 (((p * q) : Nat) : Int)), (65, .bool (decide ((((p * q) : Nat) : Int) < ((p * q : Nat) : Int)))), (73, .int .i64 0), (74, .int .i64 0), (75, .bool false), (76, .bool false), (77, .agg #[.int .i64 ((p : Nat) : Int), .int .i64 ((q : Nat) : Int), .slice ar6 ((List.replicate (p * q) c).length) cr6]), (78, .agg #[.int .i64 ((p : Nat) : Int), .int .i64 ((q : Nat) : Int), .slice (some ⟨B9, 0, none⟩) (p * q) (p * q)]), (79, .bool true), (80, .bool false), (81, .bool false), (83, .pointer (some ⟨B5, 0, none⟩)), (84, .int .i64 ((p : Nat) : Int)), (85, .slice ar3 ((l2).length) cr3), (86, .tuple #[.agg #[.int .i64 ((p : Nat) : Int), .int .i64 (((l2.length / p) : Nat) : Int), .slice ar10 (((l2)).length) cr10], .int .i64 0]), (82, .tuple #[.agg #[.int .i64 ((p : Nat) : Int), .int .i64 (((l2.length / p) : Nat) : Int), .slice ar10 (((l2)).length) cr10], .int .i64 0]), (87, .agg #[.int .i64 ((p : Nat) : Int), .int .i64 (((l2.length / p) : Nat) : Int), .slice ar10 (((l2)).length) cr10]), (88, .int .i64 0), (15, .pointer (some ⟨B11, 0, none⟩)), (11, .int .i64 0), (89, .pointer (some ⟨B5, 0, none⟩)), (90, .int .i64 ((p : Nat) : Int)), (91, .slice ar3 ((l2).length) cr3), (92, .agg #[.int .i64 ((p : Nat) : Int), .int .i64 0, .slice ar3 ((l2).length) cr3]), (16, .pointer (some ⟨B12, 0, none⟩)), (93, .pointer (some ⟨B5, 0, none⟩)), (94, .int .i64 ((p : Nat) : Int)), (95, .bool true), (96, .slice ar3 ((l2).length) cr3), (97, .int .i64 (((l2).length : Nat) : Int)), (98, .pointer (some ⟨B5, 0, none⟩)), (99, .int .i64 ((p : Nat) : Int)), (100, .int .i64 (((l2.length / p) : Nat) : Int)), (101, .pointer (some ⟨B12, 1, none⟩)), (102, .agg #[.int .i64 ((p : Nat) : Int), .int .i64 (((l2.length / p) : Nat) : Int), .slice ar3 ((l2).length) cr3]), (103, .bool true), (104, .bool false), (113, .int .i64 0), (114, .bool false), (115, .bool false), (116, .agg #[.int .i64 ((p : Nat) : Int), .int .i64 (((l2.length / p) : Nat) : Int), .slice ar10 (((l2)).length) cr10]), (117, .agg #[.int .i64 ((p : Nat) : Int), .int .i64 (((l2.length / p) : Nat) : Int), .slice ar3 ((l2).length) cr3]), (118, .bool true), (119, .bool false), (120, .bool false), (121, .pointer (some ⟨B11, 2, none⟩)), (122, .slice ar10 (((l2)).length) cr10), (123, .int .i64 ((((l2)).length : Nat) : Int)), (124, .int .i64 ((k9 : Nat) : Int))] [(4, .row (.slice ar6 ((List.replicate (p * q) c).length) cr6) 37 4 ((List.replicate (p * q) c).length) ((List.replicate (p * q) c).flatMap C4.cells)), (2, .row (.slice ar3 ((l2).length) cr3) 37 4 ((l2).length) ((l2).flatMap C4.cells)), (1, .blk B1 (.cells #[.int .u8 c.r, .int .u8 c.g, .int .u8 c.b, .int .u8 c.a] 37)), (3, .blk B5 (.cells #[.int .i64 ((p : Nat) : Int), .int .i64 ((q : Nat) : Int)] 73)), (5, .blk B7 (.cells #[.int .i64 ((p : Nat) : Int), .int .i64 ((q : Nat) : Int), .slice ar6 ((List.replicate (p * q) c).length) cr6] 75)), (6, .blk B8 (.cells #[.int .i64 ((p : Nat) : Int), .int .i64 ((q : Nat) : Int), .slice (some ⟨B9, 0, none⟩) (p * q) (p * q)] 75)), (941, .row (.slice (some ⟨B9, 0, none⟩) (p * q) (p * q)) 37 4 (p * q) ((List.replicate (p * q) c).flatMap C4.cells)), (8, .blk B11 (.cells #[.int .i64 ((p : Nat) : Int), .int .i64 (((l2.length / p) : Nat) : Int), .slice ar10 (((l2)).length) cr10] 75)), (9, .blk B12 (.cells #[.int .i64 ((p : Nat) : Int), .int .i64 (((l2.length / p) : Nat) : Int), .slice ar3 ((l2).length) cr3] 75)), (7, .row (.slice ar10 (((l2)).length) cr10) 37 4 (((l2)).length) (l9.flatMap C4.cells))]
                refine T_seq (T_region ?_)
                refine TL_q (.bool (decide (((k9 : Nat) : Int) < ((((l2)).length : Nat) : Int)))) (fun _ _ hρ _ => r_lss (hρ _ _ rfl) (hρ _ _ rfl)) rfl rfl rfl (w_n rfl) ?_
                refine TL_seq ?_
                refine T_seq ?_
                refine T_cond rfl (fun h4 => ?_) (fun h4 => ?_)
                · replace h4 := of_decide_eq_true h4
                  refine T_skip' ?_
                  refine p_seq ?_
                  refine T_seq ?_
                  refine T_block ?_
                  refine T_seq (T_region ?_)
                  refine TL_q (.int .i64 ((k9 : Nat) : Int)) (fun _ _ hρ _ => r_move (hρ _ _ rfl)) rfl rfl rfl (w_n rfl) ?_
                  refine TL_q (.int .i64 ((k9 : Nat) : Int)) (fun _ _ hρ _ => r_assign (hρ _ _ rfl)) rfl rfl rfl (w_n rfl) ?_
                  refine TL_seq ?_
                  refine T_row 7 rfl (by omega) (fun g13 ha13 => ?_)
                  subst ha13
                  refine T_rowcap 7 rfl (fun hrc13 => ?_)
                  obtain ⟨c9, hc9⟩ : ∃ x, l9[k9]? = some x := ⟨_, List.getElem?_eq_getElem (by omega)⟩
                  refine T_region ?_
                  refine TL_q (.pointer (some ⟨B11, 2, none⟩)) (fun _ _ hρ _ => r_fieldAddr fl75_2 sz71 (hρ _ _ rfl)) rfl rfl rfl (w_n rfl) ?_
                  refine TL_q (.slice (some ⟨g13, 0, none⟩) (((l2)).length) cr10) (fun _ _ hρ hm => r_load ag71 (hρ _ _ rfl) (hm.at 8 rfl) rfl) rfl rfl rfl (w_n rfl) ?_
                  refine TL_q (.int .i64 ((k9 : Nat) : Int)) (fun _ _ hρ _ => r_move (hρ _ _ rfl)) rfl rfl rfl (w_n rfl) ?_
                  refine TL_q (.pointer (some ⟨g13, 0 + k9 * 4, none⟩)) (fun _ _ hρ _ => r_indexAddrS (i := k9) sl71 sz37 (hρ _ _ rfl) (hρ _ _ rfl) (by omega)) rfl rfl rfl (w_n rfl) ?_
                  refine TL_q (.pointer (some ⟨g13, 0 + k9 * 4, none⟩)) (fun _ _ hρ _ => r_fieldAddr (off := 0 + k9 * 4) fl37_0 sz5 (hρ _ _ rfl)) rfl rfl rfl (w_n rfl) ?_
                  refine TL_q (.int .u8 c9.r) (fun _ _ hρ hm => r_loadOwn1 (f := C4.cells) (u := c9) (l := l9) ag5 (hρ _ _ rfl) (hm.row 7 rfl) hl9.symm rfl C4.cells_len hc9 rfl) rfl rfl rfl (w_n rfl) ?_
                  refine TL_q (.int .u8 (IntKind.u8.wrap (c9.r + 1))) (fun _ _ hρ _ => r_add (hρ _ _ rfl) (hρ _ _ rfl)) rfl rfl rfl (w_n rfl) ?_
                  refine TL_q (.pointer (some ⟨g13, 0 + k9 * 4, none⟩)) (fun _ _ hρ _ => r_indexAddrS (i := k9) sl71 sz37 (hρ _ _ rfl) (hρ _ _ rfl) (by omega)) rfl rfl rfl (w_n rfl) ?_
                  refine TL_q (.pointer (some ⟨g13, 0 + k9 * 4, none⟩)) (fun _ _ hρ _ => r_fieldAddr (off := 0 + k9 * 4) fl37_0 sz5 (hρ _ _ rfl)) rfl rfl rfl (w_n rfl) ?_
                  refine TL_opS _ (fun _ _ hρ hm => o_storeC (xs' := (l9.set k9 (⟨(IntKind.u8.wrap (c9.r + 1)), c9.g, c9.b, c9.a⟩ : C4)).flatMap C4.cells) 7 rfl (hρ _ _ rfl) (hρ _ _ rfl) sz5 rfl rfl (by omega) (by rw [flat_len C4.cells_len, List.length_set]; omega) (fun post => wr_col (q := 0) (pre := []) (mid := [.int .u8 c9.r]) (suf := [.int .u8 c9.g, .int .u8 c9.b, .int .u8 c9.a]) (vs := [.int .u8 (IntKind.u8.wrap (c9.r + 1))]) (c' := (⟨(IntKind.u8.wrap (c9.r + 1)), c9.g, c9.b, c9.a⟩ : C4)) hc9 rfl rfl rfl rfl post) hm) rfl rfl (w_n rfl) ?_
                  refine TL_nil ?_
                  refine p_blk_n ?_
                  refine p_seq ?_
                  refine T_region ?_
                  refine TL_q (.int .i64 ((k9 + 1 : Nat) : Int)) (fun _ _ hρ _ => r_as (r_add (hρ _ _ rfl) (hρ _ _ rfl)) (int_as ((wrap64 (by omega) (by omega)).trans (by omega)))) rfl rfl rfl (w_n rfl) ?_
                  refine TL_q (.int .i64 ((k9 + 1 : Nat) : Int)) (fun _ _ hρ _ => r_move (hρ _ _ rfl)) rfl rfl rfl (w_n rfl) ?_
                  refine TL_nil ?_
                  exact p_at (k9 + 1, (l9.set k9 (⟨(IntKind.u8.wrap (c9.r + 1)), c9.g, c9.b, c9.a⟩ : C4))) ⟨⟨by omega, by rw [List.length_set]; exact hl9⟩, by dsimp only; omega⟩ (sub_cons rfl (sub_cons rfl (sub_cons rfl (sub_cons rfl (sub_cons rfl (sub_cons rfl (sub_cons rfl (sub_cons rfl (sub_cons rfl (sub_cons rfl (sub_cons rfl (sub_cons rfl (sub_cons rfl (sub_cons rfl (sub_cons rfl (sub_cons rfl (sub_cons rfl (sub_cons rfl (sub_cons rfl (sub_cons rfl (sub_cons rfl (sub_cons rfl (sub_cons rfl (sub_cons rfl (sub_cons rfl (sub_cons rfl (sub_cons rfl (sub_cons rfl (sub_cons rfl (sub_cons rfl (sub_cons rfl (sub_cons rfl (sub_cons rfl (sub_cons rfl (sub_cons rfl (sub_cons rfl (sub_cons rfl (sub_cons rfl (sub_cons rfl (sub_cons rfl (sub_cons rfl (sub_cons rfl (sub_cons rfl (sub_cons rfl (sub_cons rfl (sub_cons rfl (sub_cons rfl (sub_cons rfl (sub_cons rfl (sub_cons rfl (sub_cons rfl (sub_cons rfl (sub_cons rfl (sub_cons rfl (sub_cons rfl (sub_cons rfl (sub_cons rfl (sub_cons rfl (sub_cons rfl (sub_cons rfl (sub_cons rfl (sub_cons rfl (sub_cons rfl (sub_cons rfl (sub_cons rfl (sub_cons rfl (sub_cons rfl (sub_cons rfl (sub_cons rfl (sub_cons rfl (sub_cons rfl (sub_cons rfl (sub_cons rfl (sub_cons rfl (sub_cons rfl (sub_cons rfl (sub_cons rfl (sub_cons rfl (sub_cons rfl (sub_cons rfl (sub_cons rfl (sub_cons rfl (sub_cons rfl (sub_cons rfl (sub_cons rfl (sub_cons rfl (sub_cons rfl (sub_cons rfl (sub_cons rfl (sub_cons rfl (sub_cons rfl (sub_cons rfl (sub_cons rfl (sub_cons rfl (sub_cons rfl sub_nil))))))))))))))))))))))))))))))))))))))))))))))))))))))))))))))))))))))))))))))))))))))))))))))) (sub_cons rfl (sub_cons rfl (sub_cons rfl (sub_cons rfl (sub_cons rfl (sub_cons rfl (sub_cons rfl (sub_cons rfl (sub_cons rfl (sub_cons rfl sub_nil))))))))))
                · replace h4 := of_decide_eq_false h4
                  refine T_exit' ?_
                  refine p_then_x ?_
                  refine p_then_x ?_
                  refine p_blk_x ?_
                  refine p_seq ?_
                  refine T_seq (T_region ?_)
                  refine TL_q (.slice ar3 ((l2).length) cr3) (fun _ _ hρ _ => r_move (hρ _ _ rfl)) rfl rfl rfl (w_n rfl) ?_
                  refine TL_q (.slice ax x.length cx) (fun _ _ hρ _ => r_move (hρ _ _ rfl)) rfl rfl rfl (w_n rfl) ?_
                  refine TL_q (.slice ar3 ((l2).length) cr3) (fun _ _ hρ _ => r_move (hρ _ _ rfl)) rfl rfl rfl (w_n rfl) ?_
                  refine TL_q (.int .i64 (((l2).length : Nat) : Int)) (fun _ _ hρ _ => r_len sl71 (hρ _ _ rfl)) rfl rfl rfl (w_n rfl) ?_
                  obtain ⟨l14, hl14, hn14⟩ : ∃ lz, lz = x.take ((l2).length) ∧ lz.length = (l2).length := ⟨_, rfl, by rw [List.length_take]; omega⟩
                  have hs14 := SliceAt.front hvx (n := (l2).length) (m := cx) (by omega) (by omega) (by omega)
                  rw [← hl14] at hs14
                  refine TL_q (.slice ax l14.length cx) (fun ρ _ hρ _ => r_as (r_sliceO sl71 sz37 (hρ _ _ rfl) (bd_none ρ _) (bd_some (n := (l2).length) (hρ _ _ rfl)) (bd_none ρ _) (by simp) (by omega) (by omega) (by omega)) (by rw [hn14]; exact slo_zero _ _ _ _)) rfl rfl rfl (w_n rfl) ?_
                  refine TL_call (.bool true) (fun _ _ hρ _ => r_call (args := [.slice ar3 ((l2).length) cr3, .slice ax l14.length cx]) (enters_of Try.func46 (by kernel_rfl) rfl) (hρ _ _ rfl) ((cons2 (hρ _ _ rfl) (cons2 (hρ _ _ rfl) rfl))) rfl) (fun w hm => (equal_c4 (l2) l14 ar3 ax cr3 cx w (SliceAt.own C4.cells_len (hm.row 2 rfl) rfl rfl) (hs14.keep hm.ext) (by omega) (by omega)).mono fun _ _ h => ⟨h.1.trans (congrArg Ending.returned (bool_as (decide_eq_true (hl14.trans (take_take_len hpx)).symm))), h.2⟩) rfl rfl rfl (w_n rfl) ?_
                  refine TL_q (.bool false) (fun _ _ hρ _ => r_not (b := true) (hρ _ _ rfl)) rfl rfl rfl (w_n rfl) ?_
                  refine TL_seq ?_
                  refine T_cond_f rfl ?_
                  refine T_skip' ?_
                  refine p_blk_n ?_
                  refine p_seq ?_
                  refine T_region ?_
                  refine TL_q (.int .i64 ((k + 1 : Nat) : Int)) (fun _ _ hρ _ => r_as (r_add (hρ _ _ rfl) (hρ _ _ rfl)) (int_as ((wrap64 (by omega) (by omega)).trans (by omega)))) rfl rfl rfl (w_n rfl) ?_
                  refine TL_q (.int .i64 ((k + 1 : Nat) : Int)) (fun _ _ hρ _ => r_move (hρ _ _ rfl)) rfl rfl rfl (w_n rfl) ?_
                  refine TL_nil ?_
                  exact p_at (k + 1) ⟨by omega, by omega⟩ (sub_cons rfl (sub_cons rfl (sub_cons rfl (sub_cons rfl (sub_cons rfl (sub_cons rfl sub_nil)))))) (sub_cons rfl (sub_cons rfl sub_nil))
              · skip
                have hqn := quo_nat (n := l2.length) (p := p) hp8.1 (by omega)
                refine T_seq (T_region ?_)
                refine TL_q (.pointer (some ⟨B5, 0, none⟩)) (fun _ _ hρ _ => r_indexAddrA (i := 0) ar73 sz3 (hρ _ _ rfl) (hρ _ _ rfl) (by decide)) rfl rfl rfl (w_n rfl) ?_
                refine TL_q (.int .i64 ((p : Nat) : Int)) (fun _ _ hρ hm => r_load ag3 (hρ _ _ rfl) (hm.at 3 rfl) rfl) rfl rfl rfl (w_n rfl) ?_
                refine TL_q (.slice ar3 ((l2).length) cr3) (fun _ _ hρ _ => r_move (hρ _ _ rfl)) rfl rfl rfl (w_n rfl) ?_
                refine TL_call (.tuple #[.agg #[.int .i64 0, .int .i64 0, .slice none 0 0], .int .i64 2]) (fun _ _ hρ _ => r_call (args := [.int .i64 ((p : Nat) : Int), .slice ar3 ((l2).length) cr3]) (enters_of Try.func44 (by kernel_rfl) rfl) (hρ _ _ rfl) ((cons2 (hρ _ _ rfl) (cons2 (hρ _ _ rfl) rfl))) rfl) (fun w _ => sof_q p (l2.length / p) ar3 ((l2).length) cr3 w hp8 s3 hqn (eq_false_of_ne_true s4)) rfl rfl rfl (w_n rfl) ?_
                refine TL_q (.tuple #[.agg #[.int .i64 0, .int .i64 0, .slice none 0 0], .int .i64 2]) (fun _ _ hρ _ => r_move (hρ _ _ rfl)) rfl rfl rfl (w_n rfl) ?_
                refine TL_q (.agg #[.int .i64 0, .int .i64 0, .slice none 0 0]) (fun _ _ hρ _ => r_extract (hρ _ _ rfl) rfl) rfl rfl rfl (w_n rfl) ?_
                refine TL_q (.int .i64 2) (fun _ _ hρ _ => r_extract (hρ _ _ rfl) rfl) rfl rfl rfl (w_n rfl) ?_
                refine TL_new 10 (.cells #[.int .i64 0, .int .i64 0, .slice none 0 0] 75) (fun B => .pointer (some ⟨B, 0, none⟩)) (fun _ _ _ _ => r_alloc (v := .agg #[.int .i64 0, .int .i64 0, .slice none 0 0]) (by kernel_rfl) rfl) rfl rfl rfl (w_n rfl) ?_
                intro B15
                refine TL_store 10 (.cells #[.int .i64 0, .int .i64 0, .slice none 0 0] 75) rfl (fun _ _ hρ hm => r_store sz75 (hρ _ _ rfl) (hρ _ _ rfl) (hm.at 10 rfl) rfl rfl rfl rfl) rfl rfl (w_n rfl) ?_
                refine TL_q (.int .i64 2) (fun _ _ hρ _ => r_assign (hρ _ _ rfl)) rfl rfl rfl (w_n rfl) ?_
                refine TL_seq ?_
                refine T_seq (T_region ?_)
                refine TL_q (.pointer (some ⟨B5, 0, none⟩)) (fun _ _ hρ _ => r_indexAddrA (i := 0) ar73 sz3 (hρ _ _ rfl) (hρ _ _ rfl) (by decide)) rfl rfl rfl (w_n rfl) ?_
                refine TL_q (.int .i64 ((p : Nat) : Int)) (fun _ _ hρ hm => r_load ag3 (hρ _ _ rfl) (hm.at 3 rfl) rfl) rfl rfl rfl (w_n rfl) ?_
                refine TL_q (.slice ar3 ((l2).length) cr3) (fun _ _ hρ _ => r_move (hρ _ _ rfl)) rfl rfl rfl (w_n rfl) ?_
                refine TL_q (.agg #[.int .i64 ((p : Nat) : Int), .int .i64 0, .slice ar3 ((l2).length) cr3]) (fun _ _ hρ _ => r_build (vs := [(0, .int .i64 ((p : Nat) : Int)), (2, .slice ar3 ((l2).length) cr3)]) (by kernel_rfl) (cons2 (pair2 (hρ _ _ rfl)) (cons2 (pair2 (hρ _ _ rfl)) rfl))) rfl rfl rfl (w_n rfl) ?_
                refine TL_new 11 (.cells #[.int .i64 0, .int .i64 0, .slice none 0 0] 75) (fun B => .pointer (some ⟨B, 0, none⟩)) (fun _ _ _ _ => r_alloc (v := .agg #[.int .i64 0, .int .i64 0, .slice none 0 0]) (by kernel_rfl) rfl) rfl rfl rfl (w_n rfl) ?_
                intro B16
                refine TL_store 11 (.cells #[.int .i64 ((p : Nat) : Int), .int .i64 0, .slice ar3 ((l2).length) cr3] 75) rfl (fun _ _ hρ hm => r_store sz75 (hρ _ _ rfl) (hρ _ _ rfl) (hm.at 11 rfl) rfl rfl rfl rfl) rfl rfl (w_n rfl) ?_
                refine TL_seq ?_
                refine T_seq ?_
                refine T_seq (T_region ?_)
                refine TL_q (.pointer (some ⟨B5, 0, none⟩)) (fun _ _ hρ _ => r_indexAddrA (i := 0) ar73 sz3 (hρ _ _ rfl) (hρ _ _ rfl) (by decide)) rfl rfl rfl (w_n rfl) ?_
                refine TL_q (.int .i64 ((p : Nat) : Int)) (fun _ _ hρ hm => r_load ag3 (hρ _ _ rfl) (hm.at 3 rfl) rfl) rfl rfl rfl (w_n rfl) ?_
                refine TL_q (.bool true) (fun _ _ hρ _ => r_as (r_gtr (hρ _ _ rfl) (hρ _ _ rfl)) (bool_as (decide_eq_true (by omega)))) rfl rfl rfl (w_n rfl) ?_
                refine TL_seq ?_
                refine T_cond_t rfl ?_
                refine T_region ?_
                refine TL_q (.slice ar3 ((l2).length) cr3) (fun _ _ hρ _ => r_move (hρ _ _ rfl)) rfl rfl rfl (w_n rfl) ?_
                refine TL_q (.int .i64 (((l2).length : Nat) : Int)) (fun _ _ hρ _ => r_len sl71 (hρ _ _ rfl)) rfl rfl rfl (w_n rfl) ?_
                refine TL_q (.pointer (some ⟨B5, 0, none⟩)) (fun _ _ hρ _ => r_indexAddrA (i := 0) ar73 sz3 (hρ _ _ rfl) (hρ _ _ rfl) (by decide)) rfl rfl rfl (w_n rfl) ?_
                refine TL_q (.int .i64 ((p : Nat) : Int)) (fun _ _ hρ hm => r_load ag3 (hρ _ _ rfl) (hm.at 3 rfl) rfl) rfl rfl rfl (w_n rfl) ?_
                refine TL_q (.int .i64 (((l2.length / p) : Nat) : Int)) (fun _ _ hρ _ => r_as (r_quo (hρ _ _ rfl) (hρ _ _ rfl) (by omega)) (int_as hqn)) rfl rfl rfl (w_n rfl) ?_
                refine TL_q (.pointer (some ⟨B16, 1, none⟩)) (fun _ _ hρ _ => r_fieldAddr fl75_1 sz3 (hρ _ _ rfl)) rfl rfl rfl (w_n rfl) ?_
                refine TL_store 11 (.cells #[.int .i64 ((p : Nat) : Int), .int .i64 (((l2.length / p) : Nat) : Int), .slice ar3 ((l2).length) cr3] 75) rfl (fun _ _ hρ hm => r_store sz3 (hρ _ _ rfl) (hρ _ _ rfl) (hm.at 11 rfl) rfl rfl rfl rfl) rfl rfl (w_n rfl) ?_
                refine TL_nil ?_
                refine p_seq ?_
                refine T_seq ?_
                refine T_seq (T_region ?_)
                refine TL_q (.agg #[.int .i64 ((p : Nat) : Int), .int .i64 (((l2.length / p) : Nat) : Int), .slice ar3 ((l2).length) cr3]) (fun _ _ hρ hm => r_loadA ag75 sz75 (hρ _ _ rfl) (hm.at 11 rfl) rfl rfl) rfl rfl rfl (w_n rfl) ?_
                refine TL_call (.bool false) (fun _ _ hρ _ => r_call (args := [.agg #[.int .i64 ((p : Nat) : Int), .int .i64 (((l2.length / p) : Nat) : Int), .slice ar3 ((l2).length) cr3]]) (enters_of Try.func45 (by kernel_rfl) rfl) (hρ _ _ rfl) ((cons2 (hρ _ _ rfl) rfl)) rfl) (fun w _ => (rright_c ((p : Nat) : Int) (((l2.length / p) : Nat) : Int) ar3 ((l2).length) cr3 w).mono fun _ _ h => ⟨h.1.trans (congrArg Ending.returned (bool_as (eq_false_of_ne_true (right_y (eq_false_of_ne_true s4))))), h.2⟩) rfl rfl rfl (w_n rfl) ?_
                refine TL_q (.bool true) (fun _ _ hρ _ => r_not (b := false) (hρ _ _ rfl)) rfl rfl rfl (w_n rfl) ?_
                refine TL_seq ?_
                refine T_sub [(2, .slice ax x.length cx), (4, .pointer (some ⟨B1, 0, none⟩)), (7, .slice ar3 ((l2).length) cr3), (26, .slice (some ⟨b4, of4, none⟩) l.length cl), (27, .int .i64 ((l.length : Nat) : Int)), (28, .int .i64 ((k : Nat) : Int)), (29, .bool (decide (((k : Nat) : Int) < ((l.length : Nat) : Int)))), (30, .int .i64 ((k : Nat) : Int)), (31, .pointer (some ⟨b4, of4 + k * 2, none⟩)), (32, .agg #[.int .i64 ((p : Nat) : Int), .int .i64 ((q : Nat) : Int)]), (9, .pointer (some ⟨B5, 0, none⟩)), (8, .int .i64 ((k : Nat) : Int)), (33, .int .i64 ((k : Nat) : Int)), (34, .bool (decide (((k : Nat) : Int) = 10))), (36, .pointer (some ⟨B5, 0, none⟩)), (37, .int .i64 ((p : Nat) : Int)), (38, .pointer (some ⟨B5, 1, none⟩)), (39, .int .i64 ((q : Nat) : Int)), (40, .agg #[.int .u8 c.r, .int .u8 c.g, .int .u8 c.b, .int .u8 c.a]), (41, .tuple #[.agg #[.int .i64 ((p : Nat) : Int), .int .i64 ((q : Nat) : Int), .slice ar6 ((List.replicate (p * q) c).length) cr6], .int .i64 0]), (35, .tuple #[.agg #[.int .i64 ((p : Nat) : Int), .int .i64 ((q : Nat) : Int), .slice ar6 ((List.replicate (p * q) c).length) cr6], .int .i64 0]), (42, .agg #[.int .i64 ((p : Nat) : Int), .int .i64 ((q : Nat) : Int), .slice ar6 ((List.replicate (p * q) c).length) cr6]), (43, .int .i64 0), (10, .pointer (some ⟨B7, 0, none⟩)), (44, .agg #[.int .i64 0, .int .i64 0, .slice none 0 0]), (12, .pointer (some ⟨B8, 0, none⟩)), (45, .pointer (some ⟨B5, 0, none⟩)), (46, .int .i64 ((p : Nat) : Int)), (47, .pointer (some ⟨B5, 1, none⟩)), (48, .int .i64 ((q : Nat) : Int)), (49, .bool true), (50, .pointer (some ⟨B5, 0, none⟩)), (51, .int .i64 ((p : Nat) : Int)), (52, .pointer (some ⟨B5, 1, none⟩)), (53, .int .i64 ((q : Nat) : Int)), (54, .pointer (some ⟨B5, 0, none⟩)), (55, .int .i64 ((p : Nat) : Int)), (56, .pointer (some ⟨B5, 1, none⟩)), (57, .int .i64 ((q : Nat) : Int)), (58, .int .i64 ((p * q : Nat) : Int)), (59, .slice (some ⟨B9, 0, none⟩) (p * q) (p * q)), (60, .agg #[.int .i64 ((p : Nat) : Int), .int .i64 ((q : Nat) : Int), .slice (some ⟨B9, 0, none⟩) (p * q) (p * q)]), (13, .int .i64 0), (61, .pointer (some ⟨B8, 2, none⟩)), (62, .slice (some ⟨B9, 0, none⟩) (p * q) (p * q)), (63, .int .i64 ((p * q : Nat) : Int)), (64, .int .i64 (((p * q) : Nat) : Int)), (65, .bool (decide ((((p * q) : Nat) : Int) < ((p * q : Nat) : Int)))), (73, .int .i64 0), (74, .int .i64 0), (75, .bool false), (76, .bool false), (77, .agg #[.int .i64 ((p : Nat) : Int), .int .i64 ((q : Nat) : Int), .slice ar6 ((List.replicate (p * q) c).length) cr6]), (78, .agg #[.int .i64 ((p : Nat) : Int), .int .i64 ((q : Nat) : Int), .slice (some ⟨B9, 0, none⟩) (p * q) (p * q)]), (79, .bool true), (80, .bool false), (81, .bool false), (83, .pointer (some ⟨B5, 0, none⟩)), (84, .int .i64 ((p : Nat) : Int)), (85, .slice ar3 ((l2).length) cr3), (86, .tuple #[.agg #[.int .i64 0, .int .i64 0, .slice none 0 0], .int .i64 2]), (82, .tuple #[.agg #[.int .i64 0, .int .i64 0, .slice none 0 0], .int .i64 2]), (87, .agg #[.int .i64 0, .int .i64 0, .slice none 0 0]), (88, .int .i64 2), (15, .pointer (some ⟨B15, 0, none⟩)), (11, .int .i64 2), (89, .pointer (some ⟨B5, 0, none⟩)), (90, .int .i64 ((p : Nat) : Int)), (91, .slice ar3 ((l2).length) cr3), (92, .agg #[.int .i64 ((p : Nat) : Int), .int .i64 0, .slice ar3 ((l2).length) cr3]), (16, .pointer (some ⟨B16, 0, none⟩)), (93, .pointer (some ⟨B5, 0, none⟩)), (94, .int .i64 ((p : Nat) : Int)), (95, .bool true), (96, .slice ar3 ((l2).length) cr3), (97, .int .i64 (((l2).length : Nat) : Int)), (98, .pointer (some ⟨B5, 0, none⟩)), (99, .int .i64 ((p : Nat) : Int)), (100, .int .i64 (((l2.length / p) : Nat) : Int)), (101, .pointer (some ⟨B16, 1, none⟩)), (102, .agg #[.int .i64 ((p : Nat) : Int), .int .i64 (((l2.length / p) : Nat) : Int), .slice ar3 ((l2).length) cr3]), (103, .bool false), (104, .bool true)] [(4, .row (.slice ar6 ((List.replicate (p * q) c).length) cr6) 37 4 ((List.replicate (p * q) c).length) ((List.replicate (p * q) c).flatMap C4.cells)), (2, .row (.slice ar3 ((l2).length) cr3) 37 4 ((l2).length) ((l2).flatMap C4.cells)), (1, .blk B1 (.cells #[.int .u8 c.r, .int .u8 c.g, .int .u8 c.b, .int .u8 c.a] 37)), (3, .blk B5 (.cells #[.int .i64 ((p : Nat) : Int), .int .i64 ((q : Nat) : Int)] 73)), (5, .blk B7 (.cells #[.int .i64 ((p : Nat) : Int), .int .i64 ((q : Nat) : Int), .slice ar6 ((List.replicate (p * q) c).length) cr6] 75)), (6, .blk B8 (.cells #[.int .i64 ((p : Nat) : Int), .int .i64 ((q : Nat) : Int), .slice (some ⟨B9, 0, none⟩) (p * q) (p * q)] 75)), (941, .row (.slice (some ⟨B9, 0, none⟩) (p * q) (p * q)) 37 4 (p * q) ((List.replicate (p * q) c).flatMap C4.cells)), (10, .blk B15 (.cells #[.int .i64 0, .int .i64 0, .slice none 0 0] 75)), (11, .blk B16 (.cells #[.int .i64 ((p : Nat) : Int), .int .i64 (((l2.length / p) : Nat) : Int), .slice ar3 ((l2).length) cr3] 75))] (sub_cons rfl (sub_cons rfl (sub_cons rfl (sub_cons rfl (sub_cons rfl (sub_cons rfl (sub_cons rfl (sub_cons rfl (sub_cons rfl (sub_cons rfl (sub_cons rfl (sub_cons rfl (sub_cons rfl (sub_cons rfl (sub_cons rfl (sub_cons rfl (sub_cons rfl (sub_cons rfl (sub_cons rfl (sub_cons rfl (sub_cons rfl (sub_cons rfl (sub_cons rfl (sub_cons rfl (sub_cons rfl (sub_cons rfl (sub_cons rfl (sub_cons rfl (sub_cons rfl (sub_cons rfl (sub_cons rfl (sub_cons rfl (sub_cons rfl (sub_cons rfl (sub_cons rfl (sub_cons rfl (sub_cons rfl (sub_cons rfl (sub_cons rfl (sub_cons rfl (sub_cons rfl (sub_cons rfl (sub_cons rfl (sub_cons rfl (sub_cons rfl (sub_cons rfl (sub_cons rfl (sub_cons rfl (sub_cons rfl (sub_cons rfl (sub_cons rfl (sub_cons rfl (sub_cons rfl (sub_cons rfl (sub_cons rfl (sub_cons rfl (sub_cons rfl (sub_cons rfl (sub_cons rfl (sub_cons rfl (sub_cons rfl (sub_cons rfl (sub_cons rfl (sub_cons rfl (sub_cons rfl (sub_cons rfl (sub_cons rfl (sub_cons rfl (sub_cons rfl (sub_cons rfl (sub_cons rfl (sub_cons rfl (sub_cons rfl (sub_cons rfl (sub_cons rfl (sub_cons rfl (sub_cons rfl (sub_cons rfl (sub_cons rfl (sub_cons rfl (sub_cons rfl (sub_cons rfl (sub_cons rfl sub_nil))))))))))))))))))))))))))))))))))))))))))))))))))))))))))))))))))))))))))))))))))) (sub_cons rfl (sub_cons rfl (sub_cons rfl (sub_cons rfl (sub_cons rfl (sub_cons rfl (sub_cons rfl (sub_cons rfl (sub_cons rfl sub_nil))))))))) ?_
                refine T_cond_t rfl ?_
                refine T_seq ?_
                refine T_seq (T_region ?_)
                refine TL_q (.int .i64 2) (fun _ _ hρ _ => r_move (hρ _ _ rfl)) rfl rfl rfl (w_n rfl) ?_
                refine TL_q (.bool false) (fun _ _ hρ _ => r_as (r_neq (hρ _ _ rfl) (hρ _ _ rfl)) (by rfl)) rfl rfl rfl (w_n rfl) ?_
                refine TL_q (.bool false) (fun _ _ hρ _ => r_move (hρ _ _ rfl)) rfl rfl rfl (w_n rfl) ?_
                refine TL_q (.agg #[.int .i64 0, .int .i64 0, .slice none 0 0]) (fun _ _ hρ hm => r_loadA ag75 sz75 (hρ _ _ rfl) (hm.at 10 rfl) rfl rfl) rfl rfl rfl (want_y 107 rfl rfl rfl) ?_
                refine TL_q (.agg #[.int .i64 0, .int .i64 0, .slice none 0 0]) (fun _ _ _ _ => r_build (vs := []) (by kernel_rfl) rfl) rfl rfl rfl (want_y 107 rfl rfl rfl) ?_
                refine TL_call (.bool true) (fun _ _ hρ _ => r_call (args := [.agg #[.int .i64 0, .int .i64 0, .slice none 0 0], .agg #[.int .i64 0, .int .i64 0, .slice none 0 0]]) (enters_of Try.func43 (by kernel_rfl) rfl) (hρ _ _ rfl) ((cons2 (hρ _ _ rfl) (cons2 (hρ _ _ rfl) rfl))) rfl) (fun w _ => (srsame_n (0 : Int) (0 : Int) [] none 0 w (sliceNil w) (by decide) (0 : Int) (0 : Int) [] none 0 (sliceNil w) (by decide) (by first | omega | (simp; done) | (simp; omega)) (by first | omega | (simp; done) | (simp; omega)) 0 rfl 0 rfl).mono fun _ _ h => ⟨h.1.trans (congrArg Ending.returned (bool_as (decide_eq_true ⟨rfl, rfl, rfl⟩))), h.2⟩) rfl rfl rfl (want_y 107 rfl rfl rfl) ?_
                refine TL_q (.bool false) (fun _ _ hρ _ => r_not (b := true) (hρ _ _ rfl)) rfl rfl rfl (want_y 107 rfl rfl rfl) ?_
                refine TL_q (.bool false) (fun _ _ hρ _ => r_pick_f (hρ _ _ rfl) (hρ _ _ rfl)) rfl rfl rfl (w_n rfl) ?_
                refine TL_seq ?_
                refine T_cond_f rfl ?_
                refine T_skip' ?_
                refine p_seq ?_
                refine T_exit' ?_
                refine p_then_x ?_
                refine p_blk_x ?_
                refine p_seq ?_
                refine T_region ?_
                refine TL_q (.int .i64 ((k + 1 : Nat) : Int)) (fun _ _ hρ _ => r_as (r_add (hρ _ _ rfl) (hρ _ _ rfl)) (int_as ((wrap64 (by omega) (by omega)).trans (by omega)))) rfl rfl rfl (w_n rfl) ?_
                refine TL_q (.int .i64 ((k + 1 : Nat) : Int)) (fun _ _ hρ _ => r_move (hρ _ _ rfl)) rfl rfl rfl (w_n rfl) ?_
                refine TL_nil ?_
                exact p_at (k + 1) ⟨by omega, by omega⟩ (sub_cons rfl (sub_cons rfl (sub_cons rfl (sub_cons rfl (sub_cons rfl (sub_cons rfl sub_nil)))))) (sub_cons rfl (sub_cons rfl sub_nil))
            · skip
              have hqn := quo_nat (n := l2.length) (p := p) hp8.1 (by omega)
              refine T_seq (T_region ?_)
              refine TL_q (.pointer (some ⟨B5, 0, none⟩)) (fun _ _ hρ _ => r_indexAddrA (i := 0) ar73 sz3 (hρ _ _ rfl) (hρ _ _ rfl) (by decide)) rfl rfl rfl (w_n rfl) ?_
              refine TL_q (.int .i64 ((p : Nat) : Int)) (fun _ _ hρ hm => r_load ag3 (hρ _ _ rfl) (hm.at 3 rfl) rfl) rfl rfl rfl (w_n rfl) ?_
              refine TL_q (.slice ar3 ((l2).length) cr3) (fun _ _ hρ _ => r_move (hρ _ _ rfl)) rfl rfl rfl (w_n rfl) ?_
              refine TL_call (.tuple #[.agg #[.int .i64 0, .int .i64 0, .slice none 0 0], .int .i64 2]) (fun _ _ hρ _ => r_call (args := [.int .i64 ((p : Nat) : Int), .slice ar3 ((l2).length) cr3]) (enters_of Try.func44 (by kernel_rfl) rfl) (hρ _ _ rfl) ((cons2 (hρ _ _ rfl) (cons2 (hρ _ _ rfl) rfl))) rfl) (fun w _ => sof_r p ar3 ((l2).length) cr3 w hp8 s3) rfl rfl rfl (w_n rfl) ?_
              refine TL_q (.tuple #[.agg #[.int .i64 0, .int .i64 0, .slice none 0 0], .int .i64 2]) (fun _ _ hρ _ => r_move (hρ _ _ rfl)) rfl rfl rfl (w_n rfl) ?_
              refine TL_q (.agg #[.int .i64 0, .int .i64 0, .slice none 0 0]) (fun _ _ hρ _ => r_extract (hρ _ _ rfl) rfl) rfl rfl rfl (w_n rfl) ?_
              refine TL_q (.int .i64 2) (fun _ _ hρ _ => r_extract (hρ _ _ rfl) rfl) rfl rfl rfl (w_n rfl) ?_
              refine TL_new 12 (.cells #[.int .i64 0, .int .i64 0, .slice none 0 0] 75) (fun B => .pointer (some ⟨B, 0, none⟩)) (fun _ _ _ _ => r_alloc (v := .agg #[.int .i64 0, .int .i64 0, .slice none 0 0]) (by kernel_rfl) rfl) rfl rfl rfl (w_n rfl) ?_
              intro B17
              refine TL_store 12 (.cells #[.int .i64 0, .int .i64 0, .slice none 0 0] 75) rfl (fun _ _ hρ hm => r_store sz75 (hρ _ _ rfl) (hρ _ _ rfl) (hm.at 12 rfl) rfl rfl rfl rfl) rfl rfl (w_n rfl) ?_
              refine TL_q (.int .i64 2) (fun _ _ hρ _ => r_assign (hρ _ _ rfl)) rfl rfl rfl (w_n rfl) ?_
              refine TL_seq ?_
              refine T_seq (T_region ?_)
              refine TL_q (.pointer (some ⟨B5, 0, none⟩)) (fun _ _ hρ _ => r_indexAddrA (i := 0) ar73 sz3 (hρ _ _ rfl) (hρ _ _ rfl) (by decide)) rfl rfl rfl (w_n rfl) ?_
              refine TL_q (.int .i64 ((p : Nat) : Int)) (fun _ _ hρ hm => r_load ag3 (hρ _ _ rfl) (hm.at 3 rfl) rfl) rfl rfl rfl (w_n rfl) ?_
              refine TL_q (.slice ar3 ((l2).length) cr3) (fun _ _ hρ _ => r_move (hρ _ _ rfl)) rfl rfl rfl (w_n rfl) ?_
              refine TL_q (.agg #[.int .i64 ((p : Nat) : Int), .int .i64 0, .slice ar3 ((l2).length) cr3]) (fun _ _ hρ _ => r_build (vs := [(0, .int .i64 ((p : Nat) : Int)), (2, .slice ar3 ((l2).length) cr3)]) (by kernel_rfl) (cons2 (pair2 (hρ _ _ rfl)) (cons2 (pair2 (hρ _ _ rfl)) rfl))) rfl rfl rfl (w_n rfl) ?_
              refine TL_new 13 (.cells #[.int .i64 0, .int .i64 0, .slice none 0 0] 75) (fun B => .pointer (some ⟨B, 0, none⟩)) (fun _ _ _ _ => r_alloc (v := .agg #[.int .i64 0, .int .i64 0, .slice none 0 0]) (by kernel_rfl) rfl) rfl rfl rfl (w_n rfl) ?_
              intro B18
              refine TL_store 13 (.cells #[.int .i64 ((p : Nat) : Int), .int .i64 0, .slice ar3 ((l2).length) cr3] 75) rfl (fun _ _ hρ hm => r_store sz75 (hρ _ _ rfl) (hρ _ _ rfl) (hm.at 13 rfl) rfl rfl rfl rfl) rfl rfl (w_n rfl) ?_
              refine TL_seq ?_
              refine T_seq ?_
              refine T_seq (T_region ?_)
              refine TL_q (.pointer (some ⟨B5, 0, none⟩)) (fun _ _ hρ _ => r_indexAddrA (i := 0) ar73 sz3 (hρ _ _ rfl) (hρ _ _ rfl) (by decide)) rfl rfl rfl (w_n rfl) ?_
              refine TL_q (.int .i64 ((p : Nat) : Int)) (fun _ _ hρ hm => r_load ag3 (hρ _ _ rfl) (hm.at 3 rfl) rfl) rfl rfl rfl (w_n rfl) ?_
              refine TL_q (.bool true) (fun _ _ hρ _ => r_as (r_gtr (hρ _ _ rfl) (hρ _ _ rfl)) (bool_as (decide_eq_true (by omega)))) rfl rfl rfl (w_n rfl) ?_
              refine TL_seq ?_
              refine T_cond_t rfl ?_
              refine T_region ?_
              refine TL_q (.slice ar3 ((l2).length) cr3) (fun _ _ hρ _ => r_move (hρ _ _ rfl)) rfl rfl rfl (w_n rfl) ?_
              refine TL_q (.int .i64 (((l2).length : Nat) : Int)) (fun _ _ hρ _ => r_len sl71 (hρ _ _ rfl)) rfl rfl rfl (w_n rfl) ?_
              refine TL_q (.pointer (some ⟨B5, 0, none⟩)) (fun _ _ hρ _ => r_indexAddrA (i := 0) ar73 sz3 (hρ _ _ rfl) (hρ _ _ rfl) (by decide)) rfl rfl rfl (w_n rfl) ?_
              refine TL_q (.int .i64 ((p : Nat) : Int)) (fun _ _ hρ hm => r_load ag3 (hρ _ _ rfl) (hm.at 3 rfl) rfl) rfl rfl rfl (w_n rfl) ?_
              refine TL_q (.int .i64 (((l2.length / p) : Nat) : Int)) (fun _ _ hρ _ => r_as (r_quo (hρ _ _ rfl) (hρ _ _ rfl) (by omega)) (int_as hqn)) rfl rfl rfl (w_n rfl) ?_
              refine TL_q (.pointer (some ⟨B18, 1, none⟩)) (fun _ _ hρ _ => r_fieldAddr fl75_1 sz3 (hρ _ _ rfl)) rfl rfl rfl (w_n rfl) ?_
              refine TL_store 13 (.cells #[.int .i64 ((p : Nat) : Int), .int .i64 (((l2.length / p) : Nat) : Int), .slice ar3 ((l2).length) cr3] 75) rfl (fun _ _ hρ hm => r_store sz3 (hρ _ _ rfl) (hρ _ _ rfl) (hm.at 13 rfl) rfl rfl rfl rfl) rfl rfl (w_n rfl) ?_
              refine TL_nil ?_
              refine p_seq ?_
              refine T_seq ?_
              refine T_seq (T_region ?_)
              refine TL_q (.agg #[.int .i64 ((p : Nat) : Int), .int .i64 (((l2.length / p) : Nat) : Int), .slice ar3 ((l2).length) cr3]) (fun _ _ hρ hm => r_loadA ag75 sz75 (hρ _ _ rfl) (hm.at 13 rfl) rfl rfl) rfl rfl rfl (w_n rfl) ?_
              refine TL_call (.bool false) (fun _ _ hρ _ => r_call (args := [.agg #[.int .i64 ((p : Nat) : Int), .int .i64 (((l2.length / p) : Nat) : Int), .slice ar3 ((l2).length) cr3]]) (enters_of Try.func45 (by kernel_rfl) rfl) (hρ _ _ rfl) ((cons2 (hρ _ _ rfl) rfl)) rfl) (fun w _ => (rright_c ((p : Nat) : Int) (((l2.length / p) : Nat) : Int) ar3 ((l2).length) cr3 w).mono fun _ _ h => ⟨h.1.trans (congrArg Ending.returned (bool_as (eq_false_of_ne_true (right_rem s3)))), h.2⟩) rfl rfl rfl (w_n rfl) ?_
              refine TL_q (.bool true) (fun _ _ hρ _ => r_not (b := false) (hρ _ _ rfl)) rfl rfl rfl (w_n rfl) ?_
              refine TL_seq ?_
              refine T_sub [(2, .slice ax x.length cx), (4, .pointer (some ⟨B1, 0, none⟩)), (7, .slice ar3 ((l2).length) cr3), (26, .slice (some ⟨b4, of4, none⟩) l.length cl), (27, .int .i64 ((l.length : Nat) : Int)), (28, .int .i64 ((k : Nat) : Int)), (29, .bool (decide (((k : Nat) : Int) < ((l.length : Nat) : Int)))), (30, .int .i64 ((k : Nat) : Int)), (31, .pointer (some ⟨b4, of4 + k * 2, none⟩)), (32, .agg #[.int .i64 ((p : Nat) : Int), .int .i64 ((q : Nat) : Int)]), (9, .pointer (some ⟨B5, 0, none⟩)), (8, .int .i64 ((k : Nat) : Int)), (33, .int .i64 ((k : Nat) : Int)), (34, .bool (decide (((k : Nat) : Int) = 10))), (36, .pointer (some ⟨B5, 0, none⟩)), (37, .int .i64 ((p : Nat) : Int)), (38, .pointer (some ⟨B5, 1, none⟩)), (39, .int .i64 ((q : Nat) : Int)), (40, .agg #[.int .u8 c.r, .int .u8 c.g, .int .u8 c.b, .int .u8 c.a]), (41, .tuple #[.agg #[.int .i64 ((p : Nat) : Int), .int .i64 ((q : Nat) : Int), .slice ar6 ((List.replicate (p * q) c).length) cr6], .int .i64 0]), (35, .tuple #[.agg #[.int .i64 ((p : Nat) : Int), .int .i64 ((q : Nat) : Int), .slice ar6 ((List.replicate (p * q) c).length) cr6], .int .i64 0]), (42, .agg #[.int .i64 ((p : Nat) : Int), .int .i64 ((q : Nat) : Int), .slice ar6 ((List.replicate (p * q) c).length) cr6]), (43, .int .i64 0), (10, .pointer (some ⟨B7, 0, none⟩)), (44, .agg #[.int .i64 0, .int .i64 0, .slice none 0 0]), (12, .pointer (some ⟨B8, 0, none⟩)), (45, .pointer (some ⟨B5, 0, none⟩)), (46, .int .i64 ((p : Nat) : Int)), (47, .pointer (some ⟨B5, 1, none⟩)), (48, .int .i64 ((q : Nat) : Int)), (49, .bool true), (50, .pointer (some ⟨B5, 0, none⟩)), (51, .int .i64 ((p : Nat) : Int)), (52, .pointer (some ⟨B5, 1, none⟩)), (53, .int .i64 ((q : Nat) : Int)), (54, .pointer (some ⟨B5, 0, none⟩)), (55, .int .i64 ((p : Nat) : Int)), (56, .pointer (some ⟨B5, 1, none⟩)), (57, .int .i64 ((q : Nat) : Int)), (58, .int .i64 ((p * q : Nat) : Int)), (59, .slice (some ⟨B9, 0, none⟩) (p * q) (p * q)), (60, .agg #[.int .i64 ((p : Nat) : Int), .int .i64 ((q : Nat) : Int), .slice (some ⟨B9, 0, none⟩) (p * q) (p * q)]), (13, .int .i64 0), (61, .pointer (some ⟨B8, 2, none⟩)), (62, .slice (some ⟨B9, 0, none⟩) (p * q) (p * q)), (63, .int .i64 ((p * q : Nat) : Int)), (64, .int .i64 (((p * q) : Nat) : Int)), (65, .bool (decide ((((p * q) : Nat) : Int) < ((p * q : Nat) : Int)))), (73, .int .i64 0), (74, .int .i64 0), (75, .bool false), (76, .bool false), (77, .agg #[.int .i64 ((p : Nat) : Int), .int .i64 ((q : Nat) : Int), .slice ar6 ((List.replicate (p * q) c).length) cr6]), (78, .agg #[.int .i64 ((p : Nat) : Int), .int .i64 ((q : Nat) : Int), .slice (some ⟨B9, 0, none⟩) (p * q) (p * q)]), (79, .bool true), (80, .bool false), (81, .bool false), (83, .pointer (some ⟨B5, 0, none⟩)), (84, .int .i64 ((p : Nat) : Int)), (85, .slice ar3 ((l2).length) cr3), (86, .tuple #[.agg #[.int .i64 0, .int .i64 0, .slice none 0 0], .int .i64 2]), (82, .tuple #[.agg #[.int .i64 0, .int .i64 0, .slice none 0 0], .int .i64 2]), (87, .agg #[.int .i64 0, .int .i64 0, .slice none 0 0]), (88, .int .i64 2), (15, .pointer (some ⟨B17, 0, none⟩)), (11, .int .i64 2), (89, .pointer (some ⟨B5, 0, none⟩)), (90, .int .i64 ((p : Nat) : Int)), (91, .slice ar3 ((l2).length) cr3), (92, .agg #[.int .i64 ((p : Nat) : Int), .int .i64 0, .slice ar3 ((l2).length) cr3]), (16, .pointer (some ⟨B18, 0, none⟩)), (93, .pointer (some ⟨B5, 0, none⟩)), (94, .int .i64 ((p : Nat) : Int)), (95, .bool true), (96, .slice ar3 ((l2).length) cr3), (97, .int .i64 (((l2).length : Nat) : Int)), (98, .pointer (some ⟨B5, 0, none⟩)), (99, .int .i64 ((p : Nat) : Int)), (100, .int .i64 (((l2.length / p) : Nat) : Int)), (101, .pointer (some ⟨B18, 1, none⟩)), (102, .agg #[.int .i64 ((p : Nat) : Int), .int .i64 (((l2.length / p) : Nat) : Int), .slice ar3 ((l2).length) cr3]), (103, .bool false), (104, .bool true)] [(4, .row (.slice ar6 ((List.replicate (p * q) c).length) cr6) 37 4 ((List.replicate (p * q) c).length) ((List.replicate (p * q) c).flatMap C4.cells)), (2, .row (.slice ar3 ((l2).length) cr3) 37 4 ((l2).length) ((l2).flatMap C4.cells)), (1, .blk B1 (.cells #[.int .u8 c.r, .int .u8 c.g, .int .u8 c.b, .int .u8 c.a] 37)), (3, .blk B5 (.cells #[.int .i64 ((p : Nat) : Int), .int .i64 ((q : Nat) : Int)] 73)), (5, .blk B7 (.cells #[.int .i64 ((p : Nat) : Int), .int .i64 ((q : Nat) : Int), .slice ar6 ((List.replicate (p * q) c).length) cr6] 75)), (6, .blk B8 (.cells #[.int .i64 ((p : Nat) : Int), .int .i64 ((q : Nat) : Int), .slice (some ⟨B9, 0, none⟩) (p * q) (p * q)] 75)), (941, .row (.slice (some ⟨B9, 0, none⟩) (p * q) (p * q)) 37 4 (p * q) ((List.replicate (p * q) c).flatMap C4.cells)), (12, .blk B17 (.cells #[.int .i64 0, .int .i64 0, .slice none 0 0] 75)), (13, .blk B18 (.cells #[.int .i64 ((p : Nat) : Int), .int .i64 (((l2.length / p) : Nat) : Int), .slice ar3 ((l2).length) cr3] 75))] (sub_cons rfl (sub_cons rfl (sub_cons rfl (sub_cons rfl (sub_cons rfl (sub_cons rfl (sub_cons rfl (sub_cons rfl (sub_cons rfl (sub_cons rfl (sub_cons rfl (sub_cons rfl (sub_cons rfl (sub_cons rfl (sub_cons rfl (sub_cons rfl (sub_cons rfl (sub_cons rfl (sub_cons rfl (sub_cons rfl (sub_cons rfl (sub_cons rfl (sub_cons rfl (sub_cons rfl (sub_cons rfl (sub_cons rfl (sub_cons rfl (sub_cons rfl (sub_cons rfl (sub_cons rfl (sub_cons rfl (sub_cons rfl (sub_cons rfl (sub_cons rfl (sub_cons rfl (sub_cons rfl (sub_cons rfl (sub_cons rfl (sub_cons rfl (sub_cons rfl (sub_cons rfl (sub_cons rfl (sub_cons rfl (sub_cons rfl (sub_cons rfl (sub_cons rfl (sub_cons rfl (sub_cons rfl (sub_cons rfl (sub_cons rfl (sub_cons rfl (sub_cons rfl (sub_cons rfl (sub_cons rfl (sub_cons rfl (sub_cons rfl (sub_cons rfl (sub_cons rfl (sub_cons rfl (sub_cons rfl (sub_cons rfl (sub_cons rfl (sub_cons rfl (sub_cons rfl (sub_cons rfl (sub_cons rfl (sub_cons rfl (sub_cons rfl (sub_cons rfl (sub_cons rfl (sub_cons rfl (sub_cons rfl (sub_cons rfl (sub_cons rfl (sub_cons rfl (sub_cons rfl (sub_cons rfl (sub_cons rfl (sub_cons rfl (sub_cons rfl (sub_cons rfl (sub_cons rfl (sub_cons rfl sub_nil))))))))))))))))))))))))))))))))))))))))))))))))))))))))))))))))))))))))))))))))))) (sub_cons rfl (sub_cons rfl (sub_cons rfl (sub_cons rfl (sub_cons rfl (sub_cons rfl (sub_cons rfl (sub_cons rfl (sub_cons rfl sub_nil))))))))) ?_
              refine T_cond_t rfl ?_
              refine T_seq ?_
              refine T_seq (T_region ?_)
              refine TL_q (.int .i64 2) (fun _ _ hρ _ => r_move (hρ _ _ rfl)) rfl rfl rfl (w_n rfl) ?_
              refine TL_q (.bool false) (fun _ _ hρ _ => r_as (r_neq (hρ _ _ rfl) (hρ _ _ rfl)) (by rfl)) rfl rfl rfl (w_n rfl) ?_
              refine TL_q (.bool false) (fun _ _ hρ _ => r_move (hρ _ _ rfl)) rfl rfl rfl (w_n rfl) ?_
              refine TL_q (.agg #[.int .i64 0, .int .i64 0, .slice none 0 0]) (fun _ _ hρ hm => r_loadA ag75 sz75 (hρ _ _ rfl) (hm.at 12 rfl) rfl rfl) rfl rfl rfl (want_y 107 rfl rfl rfl) ?_
              refine TL_q (.agg #[.int .i64 0, .int .i64 0, .slice none 0 0]) (fun _ _ _ _ => r_build (vs := []) (by kernel_rfl) rfl) rfl rfl rfl (want_y 107 rfl rfl rfl) ?_
              refine TL_call (.bool true) (fun _ _ hρ _ => r_call (args := [.agg #[.int .i64 0, .int .i64 0, .slice none 0 0], .agg #[.int .i64 0, .int .i64 0, .slice none 0 0]]) (enters_of Try.func43 (by kernel_rfl) rfl) (hρ _ _ rfl) ((cons2 (hρ _ _ rfl) (cons2 (hρ _ _ rfl) rfl))) rfl) (fun w _ => (srsame_n (0 : Int) (0 : Int) [] none 0 w (sliceNil w) (by decide) (0 : Int) (0 : Int) [] none 0 (sliceNil w) (by decide) (by first | omega | (simp; done) | (simp; omega)) (by first | omega | (simp; done) | (simp; omega)) 0 rfl 0 rfl).mono fun _ _ h => ⟨h.1.trans (congrArg Ending.returned (bool_as (decide_eq_true ⟨rfl, rfl, rfl⟩))), h.2⟩) rfl rfl rfl (want_y 107 rfl rfl rfl) ?_
              refine TL_q (.bool false) (fun _ _ hρ _ => r_not (b := true) (hρ _ _ rfl)) rfl rfl rfl (want_y 107 rfl rfl rfl) ?_
              refine TL_q (.bool false) (fun _ _ hρ _ => r_pick_f (hρ _ _ rfl) (hρ _ _ rfl)) rfl rfl rfl (w_n rfl) ?_
              refine TL_seq ?_
              refine T_cond_f rfl ?_
              refine T_skip' ?_
              refine p_seq ?_
              refine T_exit' ?_
              refine p_then_x ?_
              refine p_blk_x ?_
              refine p_seq ?_
              refine T_region ?_
              refine TL_q (.int .i64 ((k + 1 : Nat) : Int)) (fun _ _ hρ _ => r_as (r_add (hρ _ _ rfl) (hρ _ _ rfl)) (int_as ((wrap64 (by omega) (by omega)).trans (by omega)))) rfl rfl rfl (w_n rfl) ?_
              refine TL_q (.int .i64 ((k + 1 : Nat) : Int)) (fun _ _ hρ _ => r_move (hρ _ _ rfl)) rfl rfl rfl (w_n rfl) ?_
              refine TL_nil ?_
              exact p_at (k + 1) ⟨by omega, by omega⟩ (sub_cons rfl (sub_cons rfl (sub_cons rfl (sub_cons rfl (sub_cons rfl (sub_cons rfl sub_nil)))))) (sub_cons rfl (sub_cons rfl sub_nil))
        · skip
          refine T_seq (T_region ?_)
          refine TL_q (.pointer (some ⟨B5, 0, none⟩)) (fun _ _ hρ _ => r_indexAddrA (i := 0) ar73 sz3 (hρ _ _ rfl) (hρ _ _ rfl) (by decide)) rfl rfl rfl (w_n rfl) ?_
          refine TL_q (.int .i64 ((p : Nat) : Int)) (fun _ _ hρ hm => r_load ag3 (hρ _ _ rfl) (hm.at 3 rfl) rfl) rfl rfl rfl (w_n rfl) ?_
          refine TL_q (.pointer (some ⟨B5, 1, none⟩)) (fun _ _ hρ _ => r_indexAddrA (i := 1) ar73 sz3 (hρ _ _ rfl) (hρ _ _ rfl) (by decide)) rfl rfl rfl (w_n rfl) ?_
          refine TL_q (.int .i64 uy) (fun _ _ hρ hm => r_load ag3 (hρ _ _ rfl) (hm.at 3 rfl) rfl) rfl rfl rfl (w_n rfl) ?_
          refine TL_q (.agg #[.int .u8 c.r, .int .u8 c.g, .int .u8 c.b, .int .u8 c.a]) (fun _ _ hρ hm => r_loadA ag37 sz37 (hρ _ _ rfl) (hm.at 1 rfl) rfl rfl) rfl rfl rfl (w_n rfl) ?_
          refine TL_call (.tuple #[.agg #[.int .i64 0, .int .i64 0, .slice none 0 0], .int .i64 2]) (fun _ _ hρ _ => r_call (args := [.int .i64 ((p : Nat) : Int), .int .i64 uy, .agg #[.int .u8 c.r, .int .u8 c.g, .int .u8 c.b, .int .u8 c.a]]) (enters_of Try.func41 (by kernel_rfl) rfl) (hρ _ _ rfl) ((cons2 (hρ _ _ rfl) (cons2 (hρ _ _ rfl) (cons2 (hρ _ _ rfl) rfl)))) rfl) (fun w _ => snew_no ((p : Nat) : Int) uy c w (by rw [eq_false_of_ne_true s2]; simp)) rfl rfl rfl (w_n rfl) ?_
          refine TL_q (.tuple #[.agg #[.int .i64 0, .int .i64 0, .slice none 0 0], .int .i64 2]) (fun _ _ hρ _ => r_move (hρ _ _ rfl)) rfl rfl rfl (w_n rfl) ?_
          refine TL_q (.agg #[.int .i64 0, .int .i64 0, .slice none 0 0]) (fun _ _ hρ _ => r_extract (hρ _ _ rfl) rfl) rfl rfl rfl (w_n rfl) ?_
          refine TL_q (.int .i64 2) (fun _ _ hρ _ => r_extract (hρ _ _ rfl) rfl) rfl rfl rfl (w_n rfl) ?_
          refine TL_new 14 (.cells #[.int .i64 0, .int .i64 0, .slice none 0 0] 75) (fun B => .pointer (some ⟨B, 0, none⟩)) (fun _ _ _ _ => r_alloc (v := .agg #[.int .i64 0, .int .i64 0, .slice none 0 0]) (by kernel_rfl) rfl) rfl rfl rfl (w_n rfl) ?_
          intro B19
          refine TL_store 14 (.cells #[.int .i64 0, .int .i64 0, .slice none 0 0] 75) rfl (fun _ _ hρ hm => r_store sz75 (hρ _ _ rfl) (hρ _ _ rfl) (hm.at 14 rfl) rfl rfl rfl rfl) rfl rfl (w_n rfl) ?_
          refine TL_q (.int .i64 2) (fun _ _ hρ _ => r_assign (hρ _ _ rfl)) rfl rfl rfl (w_n rfl) ?_
          refine TL_seq ?_
          refine T_seq (T_region ?_)
          refine TL_q (.agg #[.int .i64 0, .int .i64 0, .slice none 0 0]) (fun _ _ _ _ => r_build (vs := []) (by kernel_rfl) rfl) rfl rfl rfl (w_n rfl) ?_
          refine TL_new 15 (.cells #[.int .i64 0, .int .i64 0, .slice none 0 0] 75) (fun B => .pointer (some ⟨B, 0, none⟩)) (fun _ _ _ _ => r_alloc (v := .agg #[.int .i64 0, .int .i64 0, .slice none 0 0]) (by kernel_rfl) rfl) rfl rfl rfl (w_n rfl) ?_
          intro B20
          refine TL_store 15 (.cells #[.int .i64 0, .int .i64 0, .slice none 0 0] 75) rfl (fun _ _ hρ hm => r_store sz75 (hρ _ _ rfl) (hρ _ _ rfl) (hm.at 15 rfl) rfl rfl rfl rfl) rfl rfl (w_n rfl) ?_
          refine TL_q (.int .i64 2) (fun _ _ hρ _ => r_assign (hρ _ _ rfl)) rfl rfl rfl (w_n rfl) ?_
          refine TL_seq ?_
          refine T_seq ?_
          refine T_seq (T_region ?_)
          refine TL_q (.pointer (some ⟨B5, 0, none⟩)) (fun _ _ hρ _ => r_indexAddrA (i := 0) ar73 sz3 (hρ _ _ rfl) (hρ _ _ rfl) (by decide)) rfl rfl rfl (w_n rfl) ?_
          refine TL_q (.int .i64 ((p : Nat) : Int)) (fun _ _ hρ hm => r_load ag3 (hρ _ _ rfl) (hm.at 3 rfl) rfl) rfl rfl rfl (w_n rfl) ?_
          refine TL_q (.pointer (some ⟨B5, 1, none⟩)) (fun _ _ hρ _ => r_indexAddrA (i := 1) ar73 sz3 (hρ _ _ rfl) (hρ _ _ rfl) (by decide)) rfl rfl rfl (w_n rfl) ?_
          refine TL_q (.int .i64 uy) (fun _ _ hρ hm => r_load ag3 (hρ _ _ rfl) (hm.at 3 rfl) rfl) rfl rfl rfl (w_n rfl) ?_
          refine TL_call (.bool false) (fun _ _ hρ _ => r_call (args := [.int .i64 ((p : Nat) : Int), .int .i64 uy]) (enters_of Try.func42 (by kernel_rfl) rfl) (hρ _ _ rfl) ((cons2 (hρ _ _ rfl) (cons2 (hρ _ _ rfl) rfl))) rfl) (fun w _ => (rsides_c ((p : Nat) : Int) uy w).mono fun _ _ h => ⟨h.1.trans (congrArg Ending.returned (bool_as (by rw [(eq_false_of_ne_true s2)]; simp))), h.2⟩) rfl rfl rfl (w_n rfl) ?_
          refine TL_seq ?_
          refine T_cond_f rfl ?_
          refine T_skip' ?_
          refine p_seq ?_
          refine T_seq ?_
          refine T_seq (T_region ?_)
          refine TL_q (.int .i64 2) (fun _ _ hρ _ => r_move (hρ _ _ rfl)) rfl rfl rfl (w_n rfl) ?_
          refine TL_q (.int .i64 2) (fun _ _ hρ _ => r_move (hρ _ _ rfl)) rfl rfl rfl (w_n rfl) ?_
          refine TL_q (.bool false) (fun _ _ hρ _ => r_as (r_neq (hρ _ _ rfl) (hρ _ _ rfl)) (by rfl)) rfl rfl rfl (w_n rfl) ?_
          refine TL_q (.bool false) (fun _ _ hρ _ => r_move (hρ _ _ rfl)) rfl rfl rfl (w_n rfl) ?_
          refine TL_q (.agg #[.int .i64 0, .int .i64 0, .slice none 0 0]) (fun _ _ hρ hm => r_loadA ag75 sz75 (hρ _ _ rfl) (hm.at 14 rfl) rfl rfl) rfl rfl rfl (want_y 76 rfl rfl rfl) ?_
          refine TL_q (.agg #[.int .i64 0, .int .i64 0, .slice none 0 0]) (fun _ _ hρ hm => r_loadA ag75 sz75 (hρ _ _ rfl) (hm.at 15 rfl) rfl rfl) rfl rfl rfl (want_y 76 rfl rfl rfl) ?_
          refine TL_call (.bool true) (fun _ _ hρ _ => r_call (args := [.agg #[.int .i64 0, .int .i64 0, .slice none 0 0], .agg #[.int .i64 0, .int .i64 0, .slice none 0 0]]) (enters_of Try.func43 (by kernel_rfl) rfl) (hρ _ _ rfl) ((cons2 (hρ _ _ rfl) (cons2 (hρ _ _ rfl) rfl))) rfl) (fun w _ => (srsame_n (0 : Int) (0 : Int) [] none 0 w (sliceNil w) (by decide) (0 : Int) (0 : Int) [] none 0 (sliceNil w) (by decide) (by first | omega | (simp; done) | (simp; omega)) (by first | omega | (simp; done) | (simp; omega)) 0 rfl 0 rfl).mono fun _ _ h => ⟨h.1.trans (congrArg Ending.returned (bool_as (decide_eq_true ⟨rfl, rfl, rfl⟩))), h.2⟩) rfl rfl rfl (want_y 76 rfl rfl rfl) ?_
          refine TL_q (.bool false) (fun _ _ hρ _ => r_not (b := true) (hρ _ _ rfl)) rfl rfl rfl (want_y 76 rfl rfl rfl) ?_
          refine TL_q (.bool false) (fun _ _ hρ _ => r_pick_f (hρ _ _ rfl) (hρ _ _ rfl)) rfl rfl rfl (w_n rfl) ?_
          refine TL_seq ?_
          refine T_sub [(2, .slice ax x.length cx), (4, .pointer (some ⟨B1, 0, none⟩)), (7, .slice ar3 ((l2).length) cr3), (26, .slice (some ⟨b4, of4, none⟩) l.length cl), (27, .int .i64 ((l.length : Nat) : Int)), (28, .int .i64 ((k : Nat) : Int)), (29, .bool (decide (((k : Nat) : Int) < ((l.length : Nat) : Int)))), (30, .int .i64 ((k : Nat) : Int)), (31, .pointer (some ⟨b4, of4 + k * 2, none⟩)), (32, .agg #[.int .i64 ((p : Nat) : Int), .int .i64 uy]), (9, .pointer (some ⟨B5, 0, none⟩)), (8, .int .i64 ((k : Nat) : Int)), (33, .int .i64 ((k : Nat) : Int)), (34, .bool (decide (((k : Nat) : Int) = 10))), (36, .pointer (some ⟨B5, 0, none⟩)), (37, .int .i64 ((p : Nat) : Int)), (38, .pointer (some ⟨B5, 1, none⟩)), (39, .int .i64 uy), (40, .agg #[.int .u8 c.r, .int .u8 c.g, .int .u8 c.b, .int .u8 c.a]), (41, .tuple #[.agg #[.int .i64 0, .int .i64 0, .slice none 0 0], .int .i64 2]), (35, .tuple #[.agg #[.int .i64 0, .int .i64 0, .slice none 0 0], .int .i64 2]), (42, .agg #[.int .i64 0, .int .i64 0, .slice none 0 0]), (43, .int .i64 2), (10, .pointer (some ⟨B19, 0, none⟩)), (11, .int .i64 2), (44, .agg #[.int .i64 0, .int .i64 0, .slice none 0 0]), (12, .pointer (some ⟨B20, 0, none⟩)), (13, .int .i64 2), (45, .pointer (some ⟨B5, 0, none⟩)), (46, .int .i64 ((p : Nat) : Int)), (47, .pointer (some ⟨B5, 1, none⟩)), (48, .int .i64 uy), (49, .bool false), (73, .int .i64 2), (74, .int .i64 2), (75, .bool false), (76, .bool false), (77, .agg #[.int .i64 0, .int .i64 0, .slice none 0 0]), (78, .agg #[.int .i64 0, .int .i64 0, .slice none 0 0]), (79, .bool true), (80, .bool false), (81, .bool false)] [(2, .row (.slice ar3 ((l2).length) cr3) 37 4 ((l2).length) ((l2).flatMap C4.cells)), (1, .blk B1 (.cells #[.int .u8 c.r, .int .u8 c.g, .int .u8 c.b, .int .u8 c.a] 37)), (3, .blk B5 (.cells #[.int .i64 ((p : Nat) : Int), .int .i64 uy] 73)), (14, .blk B19 (.cells #[.int .i64 0, .int .i64 0, .slice none 0 0] 75)), (15, .blk B20 (.cells #[.int .i64 0, .int .i64 0, .slice none 0 0] 75))] (sub_cons rfl (sub_cons rfl (sub_cons rfl (sub_cons rfl (sub_cons rfl (sub_cons rfl (sub_cons rfl (sub_cons rfl (sub_cons rfl (sub_cons rfl (sub_cons rfl (sub_cons rfl (sub_cons rfl (sub_cons rfl (sub_cons rfl (sub_cons rfl (sub_cons rfl (sub_cons rfl (sub_cons rfl (sub_cons rfl (sub_cons rfl (sub_cons rfl (sub_cons rfl (sub_cons rfl (sub_cons rfl (sub_cons rfl (sub_cons rfl (sub_cons rfl (sub_cons rfl (sub_cons rfl (sub_cons rfl (sub_cons rfl (sub_cons rfl (sub_cons rfl (sub_cons rfl (sub_cons rfl (sub_cons rfl (sub_cons rfl (sub_cons rfl (sub_cons rfl (sub_cons rfl (sub_cons rfl sub_nil)))))))))))))))))))))))))))))))))))))))))) (sub_cons rfl (sub_cons rfl (sub_cons rfl (sub_cons rfl (sub_cons rfl sub_nil))))) ?_
          refine T_cond_f rfl ?_
          refine T_skip' ?_
          refine p_seq ?_
          by_cases s3 : ((l2.length : Nat) : Int) % ((p : Nat) : Int) = 0
          · skip
            by_cases s4 : sideI ((l2.length / p : Nat) : Int) = true
            · skip
              have hq3 : 1 ≤ l2.length / p ∧ l2.length / p ≤ 8 := by have := of_decide_eq_true s4; omega
              have hlen := of_len s3
              have h64q := size8 hp8 hq3
              have hqn := quo_nat (n := l2.length) (p := p) hp8.1 (by omega)
              refine T_seq (T_region ?_)
              refine TL_q (.pointer (some ⟨B5, 0, none⟩)) (fun _ _ hρ _ => r_indexAddrA (i := 0) ar73 sz3 (hρ _ _ rfl) (hρ _ _ rfl) (by decide)) rfl rfl rfl (w_n rfl) ?_
              refine TL_q (.int .i64 ((p : Nat) : Int)) (fun _ _ hρ hm => r_load ag3 (hρ _ _ rfl) (hm.at 3 rfl) rfl) rfl rfl rfl (w_n rfl) ?_
              refine TL_q (.slice ar3 ((l2).length) cr3) (fun _ _ hρ _ => r_move (hρ _ _ rfl)) rfl rfl rfl (w_n rfl) ?_
              refine TL_callN (fun (_ : Option Addr × Nat) => True) (fun (ar21, cr21) => .tuple #[.agg #[.int .i64 ((p : Nat) : Int), .int .i64 (((l2.length / p) : Nat) : Int), .slice ar21 (((l2)).length) cr21], .int .i64 0]) (fun (ar21, cr21) => [(16, .row (.slice ar21 (((l2)).length) cr21) 37 4 (((l2)).length) (((l2)).flatMap C4.cells))]) (fun _ _ hρ _ => r_call (args := [.int .i64 ((p : Nat) : Int), .slice ar3 ((l2).length) cr3]) (enters_of Try.func44 (by kernel_rfl) rfl) (hρ _ _ rfl) ((cons2 (hρ _ _ rfl) (cons2 (hρ _ _ rfl) rfl))) rfl) (fun w hm => (sof_ok p (l2.length / p) (l2) ar3 cr3 w (SliceAt.own C4.cells_len (hm.row 2 rfl) rfl rfl) (row_cap (hm.row 2 rfl)) hp8 hq3 hlen).mono fun e w' ⟨a', cap', he, hb, hr⟩ => ⟨(a', cap'), trivial, he, hb, newOk1 16 hr⟩) rfl rfl rfl (w_n rfl) ?_
              rintro ⟨ar21, cr21⟩ -
              refine TL_q (.tuple #[.agg #[.int .i64 ((p : Nat) : Int), .int .i64 (((l2.length / p) : Nat) : Int), .slice ar21 (((l2)).length) cr21], .int .i64 0]) (fun _ _ hρ _ => r_move (hρ _ _ rfl)) rfl rfl rfl (w_n rfl) ?_
              refine TL_q (.agg #[.int .i64 ((p : Nat) : Int), .int .i64 (((l2.length / p) : Nat) : Int), .slice ar21 (((l2)).length) cr21]) (fun _ _ hρ _ => r_extract (hρ _ _ rfl) rfl) rfl rfl rfl (w_n rfl) ?_
              refine TL_q (.int .i64 0) (fun _ _ hρ _ => r_extract (hρ _ _ rfl) rfl) rfl rfl rfl (w_n rfl) ?_
              refine TL_new 17 (.cells #[.int .i64 0, .int .i64 0, .slice none 0 0] 75) (fun B => .pointer (some ⟨B, 0, none⟩)) (fun _ _ _ _ => r_alloc (v := .agg #[.int .i64 0, .int .i64 0, .slice none 0 0]) (by kernel_rfl) rfl) rfl rfl rfl (w_n rfl) ?_
              intro B22
              refine TL_store 17 (.cells #[.int .i64 ((p : Nat) : Int), .int .i64 (((l2.length / p) : Nat) : Int), .slice ar21 (((l2)).length) cr21] 75) rfl (fun _ _ hρ hm => r_store sz75 (hρ _ _ rfl) (hρ _ _ rfl) (hm.at 17 rfl) rfl rfl rfl rfl) rfl rfl (w_n rfl) ?_
              refine TL_q (.int .i64 0) (fun _ _ hρ _ => r_assign (hρ _ _ rfl)) rfl rfl rfl (w_n rfl) ?_
              refine TL_seq ?_
              refine T_seq (T_region ?_)
              refine TL_q (.pointer (some ⟨B5, 0, none⟩)) (fun _ _ hρ _ => r_indexAddrA (i := 0) ar73 sz3 (hρ _ _ rfl) (hρ _ _ rfl) (by decide)) rfl rfl rfl (w_n rfl) ?_
              refine TL_q (.int .i64 ((p : Nat) : Int)) (fun _ _ hρ hm => r_load ag3 (hρ _ _ rfl) (hm.at 3 rfl) rfl) rfl rfl rfl (w_n rfl) ?_
              refine TL_q (.slice ar3 ((l2).length) cr3) (fun _ _ hρ _ => r_move (hρ _ _ rfl)) rfl rfl rfl (w_n rfl) ?_
              refine TL_q (.agg #[.int .i64 ((p : Nat) : Int), .int .i64 0, .slice ar3 ((l2).length) cr3]) (fun _ _ hρ _ => r_build (vs := [(0, .int .i64 ((p : Nat) : Int)), (2, .slice ar3 ((l2).length) cr3)]) (by kernel_rfl) (cons2 (pair2 (hρ _ _ rfl)) (cons2 (pair2 (hρ _ _ rfl)) rfl))) rfl rfl rfl (w_n rfl) ?_
              refine TL_new 18 (.cells #[.int .i64 0, .int .i64 0, .slice none 0 0] 75) (fun B => .pointer (some ⟨B, 0, none⟩)) (fun _ _ _ _ => r_alloc (v := .agg #[.int .i64 0, .int .i64 0, .slice none 0 0]) (by kernel_rfl) rfl) rfl rfl rfl (w_n rfl) ?_
              intro B23
              refine TL_store 18 (.cells #[.int .i64 ((p : Nat) : Int), .int .i64 0, .slice ar3 ((l2).length) cr3] 75) rfl (fun _ _ hρ hm => r_store sz75 (hρ _ _ rfl) (hρ _ _ rfl) (hm.at 18 rfl) rfl rfl rfl rfl) rfl rfl (w_n rfl) ?_
              refine TL_seq ?_
              refine T_seq ?_
              refine T_seq (T_region ?_)
              refine TL_q (.pointer (some ⟨B5, 0, none⟩)) (fun _ _ hρ _ => r_indexAddrA (i := 0) ar73 sz3 (hρ _ _ rfl) (hρ _ _ rfl) (by decide)) rfl rfl rfl (w_n rfl) ?_
              refine TL_q (.int .i64 ((p : Nat) : Int)) (fun _ _ hρ hm => r_load ag3 (hρ _ _ rfl) (hm.at 3 rfl) rfl) rfl rfl rfl (w_n rfl) ?_
              refine TL_q (.bool true) (fun _ _ hρ _ => r_as (r_gtr (hρ _ _ rfl) (hρ _ _ rfl)) (bool_as (decide_eq_true (by omega)))) rfl rfl rfl (w_n rfl) ?_
              refine TL_seq ?_
              refine T_cond_t rfl ?_
              refine T_region ?_
              refine TL_q (.slice ar3 ((l2).length) cr3) (fun _ _ hρ _ => r_move (hρ _ _ rfl)) rfl rfl rfl (w_n rfl) ?_
              refine TL_q (.int .i64 (((l2).length : Nat) : Int)) (fun _ _ hρ _ => r_len sl71 (hρ _ _ rfl)) rfl rfl rfl (w_n rfl) ?_
              refine TL_q (.pointer (some ⟨B5, 0, none⟩)) (fun _ _ hρ _ => r_indexAddrA (i := 0) ar73 sz3 (hρ _ _ rfl) (hρ _ _ rfl) (by decide)) rfl rfl rfl (w_n rfl) ?_
              refine TL_q (.int .i64 ((p : Nat) : Int)) (fun _ _ hρ hm => r_load ag3 (hρ _ _ rfl) (hm.at 3 rfl) rfl) rfl rfl rfl (w_n rfl) ?_
              refine TL_q (.int .i64 (((l2.length / p) : Nat) : Int)) (fun _ _ hρ _ => r_as (r_quo (hρ _ _ rfl) (hρ _ _ rfl) (by omega)) (int_as hqn)) rfl rfl rfl (w_n rfl) ?_
              refine TL_q (.pointer (some ⟨B23, 1, none⟩)) (fun _ _ hρ _ => r_fieldAddr fl75_1 sz3 (hρ _ _ rfl)) rfl rfl rfl (w_n rfl) ?_
              refine TL_store 18 (.cells #[.int .i64 ((p : Nat) : Int), .int .i64 (((l2.length / p) : Nat) : Int), .slice ar3 ((l2).length) cr3] 75) rfl (fun _ _ hρ hm => r_store sz3 (hρ _ _ rfl) (hρ _ _ rfl) (hm.at 18 rfl) rfl rfl rfl rfl) rfl rfl (w_n rfl) ?_
              refine TL_nil ?_
              refine p_seq ?_
              refine T_seq ?_
              refine T_seq (T_region ?_)
              refine TL_q (.agg #[.int .i64 ((p : Nat) : Int), .int .i64 (((l2.length / p) : Nat) : Int), .slice ar3 ((l2).length) cr3]) (fun _ _ hρ hm => r_loadA ag75 sz75 (hρ _ _ rfl) (hm.at 18 rfl) rfl rfl) rfl rfl rfl (w_n rfl) ?_
              refine TL_call (.bool true) (fun _ _ hρ _ => r_call (args := [.agg #[.int .i64 ((p : Nat) : Int), .int .i64 (((l2.length / p) : Nat) : Int), .slice ar3 ((l2).length) cr3]]) (enters_of Try.func45 (by kernel_rfl) rfl) (hρ _ _ rfl) ((cons2 (hρ _ _ rfl) rfl)) rfl) (fun w _ => (rright_c ((p : Nat) : Int) (((l2.length / p) : Nat) : Int) ar3 ((l2).length) cr3 w).mono fun _ _ h => ⟨h.1.trans (congrArg Ending.returned (bool_as (rightS_of hp8 hq3 hlen))), h.2⟩) rfl rfl rfl (w_n rfl) ?_
              refine TL_q (.bool false) (fun _ _ hρ _ => r_not (b := true) (hρ _ _ rfl)) rfl rfl rfl (w_n rfl) ?_
              refine TL_seq ?_
              refine T_cond_f rfl ?_
              refine T_skip' ?_
              refine p_seq ?_
              refine T_seq ?_
              refine T_seq (T_region ?_)
              refine TL_q (.int .i64 0) (fun _ _ hρ _ => r_move (hρ _ _ rfl)) rfl rfl rfl (w_n rfl) ?_
              refine TL_q (.bool false) (fun _ _ hρ _ => r_as (r_neq (hρ _ _ rfl) (hρ _ _ rfl)) (by rfl)) rfl rfl rfl (w_n rfl) ?_
              refine TL_q (.bool false) (fun _ _ hρ _ => r_move (hρ _ _ rfl)) rfl rfl rfl (w_n rfl) ?_
              refine TL_q (.agg #[.int .i64 ((p : Nat) : Int), .int .i64 (((l2.length / p) : Nat) : Int), .slice ar21 (((l2)).length) cr21]) (fun _ _ hρ hm => r_loadA ag75 sz75 (hρ _ _ rfl) (hm.at 17 rfl) rfl rfl) rfl rfl rfl (want_y 115 rfl rfl rfl) ?_
              refine TL_q (.agg #[.int .i64 ((p : Nat) : Int), .int .i64 (((l2.length / p) : Nat) : Int), .slice ar3 ((l2).length) cr3]) (fun _ _ hρ hm => r_loadA ag75 sz75 (hρ _ _ rfl) (hm.at 18 rfl) rfl rfl) rfl rfl rfl (want_y 115 rfl rfl rfl) ?_
              refine TL_call (.bool true) (fun _ _ hρ _ => r_call (args := [.agg #[.int .i64 ((p : Nat) : Int), .int .i64 (((l2.length / p) : Nat) : Int), .slice ar21 (((l2)).length) cr21], .agg #[.int .i64 ((p : Nat) : Int), .int .i64 (((l2.length / p) : Nat) : Int), .slice ar3 ((l2).length) cr3]]) (enters_of Try.func43 (by kernel_rfl) rfl) (hρ _ _ rfl) ((cons2 (hρ _ _ rfl) (cons2 (hρ _ _ rfl) rfl))) rfl) (fun w hm => (srsame_n ((p : Nat) : Int) (((l2.length / p) : Nat) : Int) l2 ar21 cr21 w (SliceAt.own C4.cells_len (hm.row 16 rfl) rfl rfl) (row_cap (hm.row 16 rfl)) ((p : Nat) : Int) (((l2.length / p) : Nat) : Int) l2 ar3 cr3 (SliceAt.own C4.cells_len (hm.row 2 rfl) rfl rfl) (row_cap (hm.row 2 rfl)) (by first | omega | (simp; done) | (simp; omega)) (by first | omega | (simp; done) | (simp; omega)) (((l2)).length) rfl ((l2).length) rfl).mono fun _ _ h => ⟨h.1.trans (congrArg Ending.returned (bool_as (decide_eq_true ⟨rfl, rfl, rfl⟩))), h.2⟩) rfl rfl rfl (want_y 115 rfl rfl rfl) ?_
              refine TL_q (.bool false) (fun _ _ hρ _ => r_not (b := true) (hρ _ _ rfl)) rfl rfl rfl (want_y 115 rfl rfl rfl) ?_
              refine TL_q (.bool false) (fun _ _ hρ _ => r_pick_f (hρ _ _ rfl) (hρ _ _ rfl)) rfl rfl rfl (w_n rfl) ?_
              refine TL_seq ?_
              refine T_sub [(2, .slice ax x.length cx), (4, .pointer (some ⟨B1, 0, none⟩)), (7, .slice ar3 ((l2).length) cr3), (26, .slice (some ⟨b4, of4, none⟩) l.length cl), (27, .int .i64 ((l.length : Nat) : Int)), (28, .int .i64 ((k : Nat) : Int)), (29, .bool (decide (((k : Nat) : Int) < ((l.length : Nat) : Int)))), (30, .int .i64 ((k : Nat) : Int)), (31, .pointer (some ⟨b4, of4 + k * 2, none⟩)), (32, .agg #[.int .i64 ((p : Nat) : Int), .int .i64 uy]), (9, .pointer (some ⟨B5, 0, none⟩)), (8, .int .i64 ((k : Nat) : Int)), (33, .int .i64 ((k : Nat) : Int)), (34, .bool (decide (((k : Nat) : Int) = 10))), (36, .pointer (some ⟨B5, 0, none⟩)), (37, .int .i64 ((p : Nat) : Int)), (38, .pointer (some ⟨B5, 1, none⟩)), (39, .int .i64 uy), (40, .agg #[.int .u8 c.r, .int .u8 c.g, .int .u8 c.b, .int .u8 c.a]), (41, .tuple #[.agg #[.int .i64 0, .int .i64 0, .slice none 0 0], .int .i64 2]), (35, .tuple #[.agg #[.int .i64 0, .int .i64 0, .slice none 0 0], .int .i64 2]), (42, .agg #[.int .i64 0, .int .i64 0, .slice none 0 0]), (43, .int .i64 2), (10, .pointer (some ⟨B19, 0, none⟩)), (44, .agg #[.int .i64 0, .int .i64 0, .slice none 0 0]), (12, .pointer (some ⟨B20, 0, none⟩)), (13, .int .i64 2), (45, .pointer (some ⟨B5, 0, none⟩)), (46, .int .i64 ((p : Nat) : Int)), (47, .pointer (some ⟨B5, 1, none⟩)), (48, .int .i64 uy), (49, .bool false), (73, .int .i64 2), (74, .int .i64 2), (75, .bool false), (76, .bool false), (77, .agg #[.int .i64 0, .int .i64 0, .slice none 0 0]), (78, .agg #[.int .i64 0, .int .i64 0, .slice none 0 0]), (79, .bool true), (80, .bool false), (81, .bool false), (83, .pointer (some ⟨B5, 0, none⟩)), (84, .int .i64 ((p : Nat) : Int)), (85, .slice ar3 ((l2).length) cr3), (86, .tuple #[.agg #[.int .i64 ((p : Nat) : Int), .int .i64 (((l2.length / p) : Nat) : Int), .slice ar21 (((l2)).length) cr21], .int .i64 0]), (82, .tuple #[.agg #[.int .i64 ((p : Nat) : Int), .int .i64 (((l2.length / p) : Nat) : Int), .slice ar21 (((l2)).length) cr21], .int .i64 0]), (87, .agg #[.int .i64 ((p : Nat) : Int), .int .i64 (((l2.length / p) : Nat) : Int), .slice ar21 (((l2)).length) cr21]), (88, .int .i64 0), (15, .pointer (some ⟨B22, 0, none⟩)), (11, .int .i64 0), (89, .pointer (some ⟨B5, 0, none⟩)), (90, .int .i64 ((p : Nat) : Int)), (91, .slice ar3 ((l2).length) cr3), (92, .agg #[.int .i64 ((p : Nat) : Int), .int .i64 0, .slice ar3 ((l2).length) cr3]), (16, .pointer (some ⟨B23, 0, none⟩)), (93, .pointer (some ⟨B5, 0, none⟩)), (94, .int .i64 ((p : Nat) : Int)), (95, .bool true), (96, .slice ar3 ((l2).length) cr3), (97, .int .i64 (((l2).length : Nat) : Int)), (98, .pointer (some ⟨B5, 0, none⟩)), (99, .int .i64 ((p : Nat) : Int)), (100, .int .i64 (((l2.length / p) : Nat) : Int)), (101, .pointer (some ⟨B23, 1, none⟩)), (102, .agg #[.int .i64 ((p : Nat) : Int), .int .i64 (((l2.length / p) : Nat) : Int), .slice ar3 ((l2).length) cr3]), (103, .bool true), (104, .bool false), (113, .int .i64 0), (114, .bool false), (115, .bool false), (116, .agg #[.int .i64 ((p : Nat) : Int), .int .i64 (((l2.length / p) : Nat) : Int), .slice ar21 (((l2)).length) cr21]), (117, .agg #[.int .i64 ((p : Nat) : Int), .int .i64 (((l2.length / p) : Nat) : Int), .slice ar3 ((l2).length) cr3]), (118, .bool true), (119, .bool false), (120, .bool false)] [(16, .row (.slice ar21 (((l2)).length) cr21) 37 4 (((l2)).length) (((l2)).flatMap C4.cells)), (2, .row (.slice ar3 ((l2).length) cr3) 37 4 ((l2).length) ((l2).flatMap C4.cells)), (1, .blk B1 (.cells #[.int .u8 c.r, .int .u8 c.g, .int .u8 c.b, .int .u8 c.a] 37)), (3, .blk B5 (.cells #[.int .i64 ((p : Nat) : Int), .int .i64 uy] 73)), (14, .blk B19 (.cells #[.int .i64 0, .int .i64 0, .slice none 0 0] 75)), (15, .blk B20 (.cells #[.int .i64 0, .int .i64 0, .slice none 0 0] 75)), (17, .blk B22 (.cells #[.int .i64 ((p : Nat) : Int), .int .i64 (((l2.length / p) : Nat) : Int), .slice ar21 (((l2)).length) cr21] 75)), (18, .blk B23 (.cells #[.int .i64 ((p : Nat) : Int), .int .i64 (((l2.length / p) : Nat) : Int), .slice ar3 ((l2).length) cr3] 75))] (sub_cons rfl (sub_cons rfl (sub_cons rfl (sub_cons rfl (sub_cons rfl (sub_cons rfl (sub_cons rfl (sub_cons rfl (sub_cons rfl (sub_cons rfl (sub_cons rfl (sub_cons rfl (sub_cons rfl (sub_cons rfl (sub_cons rfl (sub_cons rfl (sub_cons rfl (sub_cons rfl (sub_cons rfl (sub_cons rfl (sub_cons rfl (sub_cons rfl (sub_cons rfl (sub_cons rfl (sub_cons rfl (sub_cons rfl (sub_cons rfl (sub_cons rfl (sub_cons rfl (sub_cons rfl (sub_cons rfl (sub_cons rfl (sub_cons rfl (sub_cons rfl (sub_cons rfl (sub_cons rfl (sub_cons rfl (sub_cons rfl (sub_cons rfl (sub_cons rfl (sub_cons rfl (sub_cons rfl (sub_cons rfl (sub_cons rfl (sub_cons rfl (sub_cons rfl (sub_cons rfl (sub_cons rfl (sub_cons rfl (sub_cons rfl (sub_cons rfl (sub_cons rfl (sub_cons rfl (sub_cons rfl (sub_cons rfl (sub_cons rfl (sub_cons rfl (sub_cons rfl (sub_cons rfl (sub_cons rfl (sub_cons rfl (sub_cons rfl (sub_cons rfl (sub_cons rfl (sub_cons rfl (sub_cons rfl (sub_cons rfl (sub_cons rfl (sub_cons rfl (sub_cons rfl (sub_cons rfl (sub_cons rfl (sub_cons rfl (sub_cons rfl (sub_cons rfl sub_nil))))))))))))))))))))))))))))))))))))))))))))))))))))))))))))))))))))))))))) (sub_cons rfl (sub_cons rfl (sub_cons rfl (sub_cons rfl (sub_cons rfl (sub_cons rfl (sub_cons rfl (sub_cons rfl sub_nil)))))))) ?_
              refine T_cond_f rfl ?_
              refine T_skip' ?_
              refine p_seq ?_
              refine T_seq ?_
              refine T_seq (T_region ?_)
              refine TL_q (.pointer (some ⟨B22, 2, none⟩)) (fun _ _ hρ _ => r_fieldAddr fl75_2 sz71 (hρ _ _ rfl)) rfl rfl rfl (w_n rfl) ?_
              refine TL_q (.slice ar21 (((l2)).length) cr21) (fun _ _ hρ hm => r_load ag71 (hρ _ _ rfl) (hm.at 17 rfl) rfl) rfl rfl rfl (w_n rfl) ?_
              refine TL_q (.int .i64 ((((l2)).length : Nat) : Int)) (fun _ _ hρ _ => r_len sl71 (hρ _ _ rfl)) rfl rfl rfl (w_n rfl) ?_
              refine TL_q (.int .i64 0) (fun _ _ hρ _ => r_move (hρ _ _ rfl)) rfl rfl rfl (w_n rfl) ?_
              refine TL_seq ?_
              refine T_block ?_
              refine T_loop (ι := Nat × List C4) (fun (z : Nat × List C4) => match z with | (k9, l9) => k9 ≤ ((l2)).length ∧ l9.length = ((l2)).length) (fun (z : Nat × List C4) => match z with | (k9, l9) => [(2, .slice ax x.length cx), (4, .pointer (some ⟨B1, 0, none⟩)), (7, .slice ar3 ((l2).length) cr3), (26, .slice (some ⟨b4, of4, none⟩) l.length cl), (27, .int .i64 ((l.length : Nat) : Int)), (28, .int .i64 ((k : Nat) : Int)), (29, .bool (decide (((k : Nat) : Int) < ((l.length : Nat) : Int)))), (30, .int .i64 ((k : Nat) : Int)), (31, .pointer (some ⟨b4, of4 + k * 2, none⟩)), (32, .agg #[.int .i64 ((p : Nat) : Int), .int .i64 uy]), (9, .pointer (some ⟨B5, 0, none⟩)), (8, .int .i64 ((k : Nat) : Int)), (33, .int .i64 ((k : Nat) : Int)), (34, .bool (decide (((k : Nat) : Int) = 10))), (36, .pointer (some ⟨B5, 0, none⟩)), (37, .int .i64 ((p : Nat) : Int)), (38, .pointer (some ⟨B5, 1, none⟩)), (39, .int .i64 uy), (40, .agg #[.int .u8 c.r, .int .u8 c.g, .int .u8 c.b, .int .u8 c.a]), (41, .tuple #[.agg #[.int .i64 0, .int .i64 0, .slice none 0 0], .int .i64 2]), (35, .tuple #[.agg #[.int .i64 0, .int .i64 0, .slice none 0 0], .int .i64 2]), (42, .agg #[.int .i64 0, .int .i64 0, .slice none 0 0]), (43, .int .i64 2), (10, .pointer (some ⟨B19, 0, none⟩)), (44, .agg #[.int .i64 0, .int .i64 0, .slice none 0 0]), (12, .pointer (some ⟨B20, 0, none⟩)), (13, .int .i64 2), (45, .pointer (some ⟨B5, 0, none⟩)), (46, .int .i64 ((p : Nat) : Int)), (47, .pointer (some ⟨B5, 1, none⟩)), (48, .int .i64 uy), (49, .bool false), (73, .int .i64 2), (74, .int .i64 2), (75, .bool false), (76, .bool false), (77, .agg #[.int .i64 0, .int .i64 0, .slice none 0 0]), (78, .agg #[.int .i64 0, .int .i64 0, .slice none 0 0]), (79, .bool true), (80, .bool false), (81, .bool false), (83, .pointer (some ⟨B5, 0, none⟩)), (84, .int .i64 ((p : Nat) : Int)), (85, .slice ar3 ((l2).length) cr3), (86, .tuple #[.agg #[.int .i64 ((p : Nat) : Int), .int .i64 (((l2.length / p) : Nat) : Int), .slice ar21 (((l2)).length) cr21], .int .i64 0]), (82, .tuple #[.agg #[.int .i64 ((p : Nat) : Int), .int .i64 (((l2.length / p) : Nat) : Int), .slice ar21 (((l2)).length) cr21], .int .i64 0]), (87, .agg #[.int .i64 ((p : Nat) : Int), .int .i64 (((l2.length / p) : Nat) : Int), .slice ar21 (((l2)).length) cr21]), (88, .int .i64 0), (15, .pointer (some ⟨B22, 0, none⟩)), (11, .int .i64 0), (89, .pointer (some ⟨B5, 0, none⟩)), (90, .int .i64 ((p : Nat) : Int)), (91, .slice ar3 ((l2).length) cr3), (92, .agg #[.int .i64 ((p : Nat) : Int), .int .i64 0, .slice ar3 ((l2).length) cr3]), (16, .pointer (some ⟨B23, 0, none⟩)), (93, .pointer (some ⟨B5, 0, none⟩)), (94, .int .i64 ((p : Nat) : Int)), (95, .bool true), (96, .slice ar3 ((l2).length) cr3), (97, .int .i64 (((l2).length : Nat) : Int)), (98, .pointer (some ⟨B5, 0, none⟩)), (99, .int .i64 ((p : Nat) : Int)), (100, .int .i64 (((l2.length / p) : Nat) : Int)), (101, .pointer (some ⟨B23, 1, none⟩)), (102, .agg #[.int .i64 ((p : Nat) : Int), .int .i64 (((l2.length / p) : Nat) : Int), .slice ar3 ((l2).length) cr3]), (103, .bool true), (104, .bool false), (113, .int .i64 0), (114, .bool false), (115, .bool false), (116, .agg #[.int .i64 ((p : Nat) : Int), .int .i64 (((l2.length / p) : Nat) : Int), .slice ar21 (((l2)).length) cr21]), (117, .agg #[.int .i64 ((p : Nat) : Int), .int .i64 (((l2.length / p) : Nat) : Int), .slice ar3 ((l2).length) cr3]), (118, .bool true), (119, .bool false), (120, .bool false), (121, .pointer (some ⟨B22, 2, none⟩)), (122, .slice ar21 (((l2)).length) cr21), (123, .int .i64 ((((l2)).length : Nat) : Int)), (124, .int .i64 ((k9 : Nat) : Int))]) (fun (z : Nat × List C4) => match z with | (k9, l9) => [(2, .row (.slice ar3 ((l2).length) cr3) 37 4 ((l2).length) ((l2).flatMap C4.cells)), (1, .blk B1 (.cells #[.int .u8 c.r, .int .u8 c.g, .int .u8 c.b, .int .u8 c.a] 37)), (3, .blk B5 (.cells #[.int .i64 ((p : Nat) : Int), .int .i64 uy] 73)), (14, .blk B19 (.cells #[.int .i64 0, .int .i64 0, .slice none 0 0] 75)), (15, .blk B20 (.cells #[.int .i64 0, .int .i64 0, .slice none 0 0] 75)), (17, .blk B22 (.cells #[.int .i64 ((p : Nat) : Int), .int .i64 (((l2.length / p) : Nat) : Int), .slice ar21 (((l2)).length) cr21] 75)), (18, .blk B23 (.cells #[.int .i64 ((p : Nat) : Int), .int .i64 (((l2.length / p) : Nat) : Int), .slice ar3 ((l2).length) cr3] 75)), (16, .row (.slice ar21 (((l2)).length) cr21) 37 4 (((l2)).length) (l9.flatMap C4.cells))]) (fun (z : Nat × List C4) => match z with | (k9, l9) => ((l2)).length - k9) (0, ((l2))) ⟨Nat.zero_le _, rfl⟩ (sub_cons rfl (sub_cons rfl (sub_cons rfl (sub_cons rfl (sub_cons rfl (sub_cons rfl (sub_cons rfl (sub_cons rfl (sub_cons rfl (sub_cons rfl (sub_cons rfl (sub_cons rfl (sub_cons rfl (sub_cons rfl (sub_cons rfl (sub_cons rfl (sub_cons rfl (sub_cons rfl (sub_cons rfl (sub_cons rfl (sub_cons rfl (sub_cons rfl (sub_cons rfl (sub_cons rfl (sub_cons rfl (sub_cons rfl (sub_cons rfl (sub_cons rfl (sub_cons rfl (sub_cons rfl (sub_cons rfl (sub_cons rfl (sub_cons rfl (sub_cons rfl (sub_cons rfl (sub_cons rfl (sub_cons rfl (sub_cons rfl (sub_cons rfl (sub_cons rfl (sub_cons rfl (sub_cons rfl (sub_cons rfl (sub_cons rfl (sub_cons rfl (sub_cons rfl (sub_cons rfl (sub_cons rfl (sub_cons rfl (sub_cons rfl (sub_cons rfl (sub_cons rfl (sub_cons rfl (sub_cons rfl (sub_cons rfl (sub_cons rfl (sub_cons rfl (sub_cons rfl (sub_cons rfl (sub_cons rfl (sub_cons rfl (sub_cons rfl (sub_cons rfl (sub_cons rfl (sub_cons rfl (sub_cons rfl (sub_cons rfl (sub_cons rfl (sub_cons rfl (sub_cons rfl (sub_cons rfl (sub_cons rfl (sub_cons rfl (sub_cons rfl (sub_cons rfl (sub_cons rfl (sub_cons rfl (sub_cons rfl (sub_cons rfl sub_nil))))))))))))))))))))))))))))))))))))))))))))))))))))))))))))))))))))))))))))))) (sub_cons rfl (sub_cons rfl (sub_cons rfl (sub_cons rfl (sub_cons rfl (sub_cons rfl (sub_cons rfl (sub_cons rfl sub_nil)))))))) ?_
              rintro ⟨k9, l9⟩ hp
              obtain ⟨hk9, hl9⟩ := hp
              show T _ _ _ [(2, .slice ax x.length cx), (4, .pointer (some ⟨B1, 0, none⟩)), (7, .slice ar3 ((l2).length) cr3), (26, .slice (some ⟨b4, of4, none⟩) l.length cl), (27, .int .i64 ((l.length : Nat) : Int)), (28, .int .i64 ((k : Nat) : Int)), (29, .bool (decide (((k : Nat) : Int) < ((l.length : Nat) : Int)))), (30, .int .i64 ((k : Nat) : Int)), (31, .pointer (some ⟨b4, of4 + k * 2, none⟩)), (32, .agg #[.int .i64 ((p : Nat) : Int), .int .i64 uy]), (9, .pointer (some ⟨B5, 0, none⟩)), (8, .int .i64 ((k : Nat) : Int)), (33, .int .i64 ((k : Nat) : Int)), (34, .bool (decide (((k : Nat) : Int) = 10))), (36, .pointer (some ⟨B5, 0, none⟩)), (37, .int .i64 ((p : Nat) : Int)), (38, .pointer (some ⟨B5, 1, none⟩)), (39, .int .i64 uy), (40, .agg #[.int .u8 c.r, .int .u8 c.g, .int .u8 c.b, .int .u8 c.a]), (41, .tuple #[.agg #[.int .i64 0, .int .i64 0, .slice none 0 0], .int .i64 2]), (35, .tuple #[.agg #[.int .i64 0, .int .i64 0, .slice none 0 0], .int .i64 2]), (42, .agg #[.int .i64 0, .int .i64 0, .slice none 0 0]), (43, .int .i64 2), (10, .pointer (some ⟨B19, 0, none⟩)), (44, .agg #[.int .i64 0, .int .i64 0, .slice none 0 0]), (12, .pointer (some ⟨B20, 0, none⟩)), (13, .int .i64 2), (45, .pointer (some ⟨B5, 0, none⟩)), (46, .int .i64 ((p : Nat) : Int)), (47, .pointer (some ⟨B5, 1, none⟩)), (48, .int .i64 uy), (49, .bool false), (73, .int .i64 2), (74, .int .i64 2), (75, .bool false), (76, .bool false), (77, .agg #[.int .i64 0, .int .i64 0, .slice none 0 0]), (78, .agg #[.int .i64 0, .int .i64 0, .slice none 0 0]), (79, .bool true), (80, .bool false), (81, .bool false), (83, .pointer (some ⟨B5, 0, none⟩)), (84, .int .i64 ((p : Nat) : Int)), (85, .slice ar3 ((l2).length) cr3), (86, .tuple #[.agg #[.int .i64 ((p : Nat) : Int), .int .i64 (((l2.length / p) : Nat) : Int), .slice ar21 (((l2)).length) cr21], .int .i64 0]), (82, .tuple #[.agg #[.int .i64 ((p : Nat) : Int), .int .i64 (((l2.length / p) : Nat) : Int), .slice ar21 (((l2)).length) cr21], .int .i64 0]), (87, .agg #[.int .i64 ((p : Nat) : Int), .int .i64 (((l2.length / p) : Nat) : Int), .slice ar21 (((l2)).length) cr21]), (88, .int .i64 0), (15, .pointer (some ⟨B22, 0, none⟩)), (11, .int .i64 0), (89, .pointer (some ⟨B5, 0, none⟩)), (90, .int .i64 ((p : Nat) : Int)), (91, .slice ar3 ((l2).length) cr3), (92, .agg #[.int .i64 ((p : Nat) : Int), .int .i64 0, .slice ar3 ((l2).length) cr3]), (16, .pointer (some ⟨B23, 0, none⟩)), (93, .pointer (some ⟨B5, 0, none⟩)), (94, .int .i64 ((p : Nat) : Int)), (95, .bool true), (96, .slice ar3 ((l2).length) cr3), (97, .int .i64 (((l2).length : Nat) : Int)), (98, .pointer (some ⟨B5, 0, none⟩)), (99, .int .i64 ((p : Nat) : Int)), (100, .int .i64 (((l2.length / p) : Nat) : Int)), (101, .pointer (some ⟨B23, 1, none⟩)), (102, .agg #[.int .i64 ((p : Nat) : Int), .int .i64 (((l2.length / p) : Nat) : Int), .slice ar3 ((l2).length) cr3]), (103, .bool true), (104, .bool false), (113, .int .i64 0), (114, .bool false), (115, .bool false), (116, .agg #[.int .i64 ((p : Nat) : Int), .int .i64 (((l2.length / p) : Nat) : Int), .slice ar21 (((l2)).length) cr21]), (117, .agg #[.int .i64 ((p : Nat) : Int), .int .i64 (((l2.length / p) : Nat) : Int), .slice ar3 ((l2).length) cr3]), (118, .bool true), (119, .bool false), (120, .bool false), (121, .pointer (some ⟨B22, 2, none⟩)), (122, .slice ar21 (((l2)).length) cr21), (123, .int .i64 ((((l2)).length : Nat) : Int)), (124, .int .i64 ((k9 : Nat) : Int))] [(2, .row (.slice ar3 ((l2).length) cr3) 37 4 ((l2).length) ((l2).flatMap C4.cells)), (1, .blk B1 (.cells #[.int .u8 c.r, .int .u8 c.g, .int .u8 c.b, .int .u8 c.a] 37)), (3, .blk B5 (.cells #[.int .i64 ((p : Nat) : Int), .int .i64 uy] 73)), (14, .blk B19 (.cells #[.int .i64 0, .int .i64 0, .slice none 0 0] 75)), (15, .blk B20 (.cells #[.int .i64 0, .int .i64 0, .slice none 0 0] 75)), (17, .blk B22 (.cells #[.int .i64 ((p : Nat) : Int), .int .i64 (((l2.length / p) : Nat) : Int), .slice ar21 (((l2)).length) cr21] 75)), (18, .blk B23 (.cells #[.int .i64 ((p : Nat) : Int), .int .i64 (((l2.length / p) : Nat) : Int), .slice ar3 ((l2).length) cr3] 75)), (16, .row (.slice ar21 (((l2)).length) cr21) 37 4 (((l2)).length) (l9.flatMap C4.cells))]
              refine T_seq (T_region ?_)
              refine TL_q (.bool (decide (((k9 : Nat) : Int) < ((((l2)).length : Nat) : Int)))) (fun _ _ hρ _ => r_lss (hρ _ _ rfl) (hρ _ _ rfl)) rfl rfl rfl (w_n rfl) ?_
              refine TL_seq ?_
              refine T_seq ?_
              refine T_cond rfl (fun h5 => ?_) (fun h5 => ?_)
              · replace h5 := of_decide_eq_true h5
                refine T_skip' ?_
                refine p_seq ?_
                refine T_seq ?_
                refine T_block ?_
                refine T_seq (T_region ?_)
                refine TL_q (.int .i64 ((k9 : Nat) : Int)) (fun _ _ hρ _ => r_move (hρ _ _ rfl)) rfl rfl rfl (w_n rfl) ?_
                refine TL_q (.int .i64 ((k9 : Nat) : Int)) (fun _ _ hρ _ => r_assign (hρ _ _ rfl)) rfl rfl rfl (w_n rfl) ?_
                refine TL_seq ?_
                refine T_row 16 rfl (by omega) (fun g24 ha24 => ?_)
                subst ha24
                refine T_rowcap 16 rfl (fun hrc24 => ?_)
                obtain ⟨c9, hc9⟩ : ∃ x, l9[k9]? = some x := ⟨_, List.getElem?_eq_getElem (by omega)⟩
                refine T_region ?_
                refine TL_q (.pointer (some ⟨B22, 2, none⟩)) (fun _ _ hρ _ => r_fieldAddr fl75_2 sz71 (hρ _ _ rfl)) rfl rfl rfl (w_n rfl) ?_
                refine TL_q (.slice (some ⟨g24, 0, none⟩) (((l2)).length) cr21) (fun _ _ hρ hm => r_load ag71 (hρ _ _ rfl) (hm.at 17 rfl) rfl) rfl rfl rfl (w_n rfl) ?_
                refine TL_q (.int .i64 ((k9 : Nat) : Int)) (fun _ _ hρ _ => r_move (hρ _ _ rfl)) rfl rfl rfl (w_n rfl) ?_
                refine TL_q (.pointer (some ⟨g24, 0 + k9 * 4, none⟩)) (fun _ _ hρ _ => r_indexAddrS (i := k9) sl71 sz37 (hρ _ _ rfl) (hρ _ _ rfl) (by omega)) rfl rfl rfl (w_n rfl) ?_
                refine TL_q (.pointer (some ⟨g24, 0 + k9 * 4, none⟩)) (fun _ _ hρ _ => r_fieldAddr (off := 0 + k9 * 4) fl37_0 sz5 (hρ _ _ rfl)) rfl rfl rfl (w_n rfl) ?_
                refine TL_q (.int .u8 c9.r) (fun _ _ hρ hm => r_loadOwn1 (f := C4.cells) (u := c9) (l := l9) ag5 (hρ _ _ rfl) (hm.row 16 rfl) hl9.symm rfl C4.cells_len hc9 rfl) rfl rfl rfl (w_n rfl) ?_
                refine TL_q (.int .u8 (IntKind.u8.wrap (c9.r + 1))) (fun _ _ hρ _ => r_add (hρ _ _ rfl) (hρ _ _ rfl)) rfl rfl rfl (w_n rfl) ?_
                refine TL_q (.pointer (some ⟨g24, 0 + k9 * 4, none⟩)) (fun _ _ hρ _ => r_indexAddrS (i := k9) sl71 sz37 (hρ _ _ rfl) (hρ _ _ rfl) (by omega)) rfl rfl rfl (w_n rfl) ?_
                refine TL_q (.pointer (some ⟨g24, 0 + k9 * 4, none⟩)) (fun _ _ hρ _ => r_fieldAddr (off := 0 + k9 * 4) fl37_0 sz5 (hρ _ _ rfl)) rfl rfl rfl (w_n rfl) ?_
                refine TL_opS _ (fun _ _ hρ hm => o_storeC (xs' := (l9.set k9 (⟨(IntKind.u8.wrap (c9.r + 1)), c9.g, c9.b, c9.a⟩ : C4)).flatMap C4.cells) 16 rfl (hρ _ _ rfl) (hρ _ _ rfl) sz5 rfl rfl (by omega) (by rw [flat_len C4.cells_len, List.length_set]; omega) (fun post => wr_col (q := 0) (pre := []) (mid := [.int .u8 c9.r]) (suf := [.int .u8 c9.g, .int .u8 c9.b, .int .u8 c9.a]) (vs := [.int .u8 (IntKind.u8.wrap (c9.r + 1))]) (c' := (⟨(IntKind.u8.wrap (c9.r + 1)), c9.g, c9.b, c9.a⟩ : C4)) hc9 rfl rfl rfl rfl post) hm) rfl rfl (w_n rfl) ?_
                refine TL_nil ?_
                refine p_blk_n ?_
                refine p_seq ?_
                refine T_region ?_
                refine TL_q (.int .i64 ((k9 + 1 : Nat) : Int)) (fun _ _ hρ _ => r_as (r_add (hρ _ _ rfl) (hρ _ _ rfl)) (int_as ((wrap64 (by omega) (by omega)).trans (by omega)))) rfl rfl rfl (w_n rfl) ?_
                refine TL_q (.int .i64 ((k9 + 1 : Nat) : Int)) (fun _ _ hρ _ => r_move (hρ _ _ rfl)) rfl rfl rfl (w_n rfl) ?_
                refine TL_nil ?_
                exact p_at (k9 + 1, (l9.set k9 (⟨(IntKind.u8.wrap (c9.r + 1)), c9.g, c9.b, c9.a⟩ : C4))) ⟨⟨by omega, by rw [List.length_set]; exact hl9⟩, by dsimp only; omega⟩ (sub_cons rfl (sub_cons rfl (sub_cons rfl (sub_cons rfl (sub_cons rfl (sub_cons rfl (sub_cons rfl (sub_cons rfl (sub_cons rfl (sub_cons rfl (sub_cons rfl (sub_cons rfl (sub_cons rfl (sub_cons rfl (sub_cons rfl (sub_cons rfl (sub_cons rfl (sub_cons rfl (sub_cons rfl (sub_cons rfl (sub_cons rfl (sub_cons rfl (sub_cons rfl (sub_cons rfl (sub_cons rfl (sub_cons rfl (sub_cons rfl (sub_cons rfl (sub_cons rfl (sub_cons rfl (sub_cons rfl (sub_cons rfl (sub_cons rfl (sub_cons rfl (sub_cons rfl (sub_cons rfl (sub_cons rfl (sub_cons rfl (sub_cons rfl (sub_cons rfl (sub_cons rfl (sub_cons rfl (sub_cons rfl (sub_cons rfl (sub_cons rfl (sub_cons rfl (sub_cons rfl (sub_cons rfl (sub_cons rfl (sub_cons rfl (sub_cons rfl (sub_cons rfl (sub_cons rfl (sub_cons rfl (sub_cons rfl (sub_cons rfl (sub_cons rfl (sub_cons rfl (sub_cons rfl (sub_cons rfl (sub_cons rfl (sub_cons rfl (sub_cons rfl (sub_cons rfl (sub_cons rfl (sub_cons rfl (sub_cons rfl (sub_cons rfl (sub_cons rfl (sub_cons rfl (sub_cons rfl (sub_cons rfl (sub_cons rfl (sub_cons rfl (sub_cons rfl (sub_cons rfl (sub_cons rfl (sub_cons rfl (sub_cons rfl sub_nil))))))))))))))))))))))))))))))))))))))))))))))))))))))))))))))))))))))))))))))) (sub_cons rfl (sub_cons rfl (sub_cons rfl (sub_cons rfl (sub_cons rfl (sub_cons rfl (sub_cons rfl (sub_cons rfl sub_nil))))))))
              · replace h5 := of_decide_eq_false h5
                refine T_exit' ?_
                refine p_then_x ?_
                refine p_then_x ?_
                refine p_blk_x ?_
                refine p_seq ?_
                refine T_seq (T_region ?_)
                refine TL_q (.slice ar3 ((l2).length) cr3) (fun _ _ hρ _ => r_move (hρ _ _ rfl)) rfl rfl rfl (w_n rfl) ?_
                refine TL_q (.slice ax x.length cx) (fun _ _ hρ _ => r_move (hρ _ _ rfl)) rfl rfl rfl (w_n rfl) ?_
                refine TL_q (.slice ar3 ((l2).length) cr3) (fun _ _ hρ _ => r_move (hρ _ _ rfl)) rfl rfl rfl (w_n rfl) ?_
                refine TL_q (.int .i64 (((l2).length : Nat) : Int)) (fun _ _ hρ _ => r_len sl71 (hρ _ _ rfl)) rfl rfl rfl (w_n rfl) ?_
                obtain ⟨l25, hl25, hn25⟩ : ∃ lz, lz = x.take ((l2).length) ∧ lz.length = (l2).length := ⟨_, rfl, by rw [List.length_take]; omega⟩
                have hs25 := SliceAt.front hvx (n := (l2).length) (m := cx) (by omega) (by omega) (by omega)
                rw [← hl25] at hs25
                refine TL_q (.slice ax l25.length cx) (fun ρ _ hρ _ => r_as (r_sliceO sl71 sz37 (hρ _ _ rfl) (bd_none ρ _) (bd_some (n := (l2).length) (hρ _ _ rfl)) (bd_none ρ _) (by simp) (by omega) (by omega) (by omega)) (by rw [hn25]; exact slo_zero _ _ _ _)) rfl rfl rfl (w_n rfl) ?_
                refine TL_call (.bool true) (fun _ _ hρ _ => r_call (args := [.slice ar3 ((l2).length) cr3, .slice ax l25.length cx]) (enters_of Try.func46 (by kernel_rfl) rfl) (hρ _ _ rfl) ((cons2 (hρ _ _ rfl) (cons2 (hρ _ _ rfl) rfl))) rfl) (fun w hm => (equal_c4 (l2) l25 ar3 ax cr3 cx w (SliceAt.own C4.cells_len (hm.row 2 rfl) rfl rfl) (hs25.keep hm.ext) (by omega) (by omega)).mono fun _ _ h => ⟨h.1.trans (congrArg Ending.returned (bool_as (decide_eq_true (hl25.trans (take_take_len hpx)).symm))), h.2⟩) rfl rfl rfl (w_n rfl) ?_
                refine TL_q (.bool false) (fun _ _ hρ _ => r_not (b := true) (hρ _ _ rfl)) rfl rfl rfl (w_n rfl) ?_
                refine TL_seq ?_
                refine T_cond_f rfl ?_
                refine T_skip' ?_
                refine p_blk_n ?_
                refine p_seq ?_
                refine T_region ?_
                refine TL_q (.int .i64 ((k + 1 : Nat) : Int)) (fun _ _ hρ _ => r_as (r_add (hρ _ _ rfl) (hρ _ _ rfl)) (int_as ((wrap64 (by omega) (by omega)).trans (by omega)))) rfl rfl rfl (w_n rfl) ?_
                refine TL_q (.int .i64 ((k + 1 : Nat) : Int)) (fun _ _ hρ _ => r_move (hρ _ _ rfl)) rfl rfl rfl (w_n rfl) ?_
                refine TL_nil ?_
                exact p_at (k + 1) ⟨by omega, by omega⟩ (sub_cons rfl (sub_cons rfl (sub_cons rfl (sub_cons rfl (sub_cons rfl (sub_cons rfl sub_nil)))))) (sub_cons rfl (sub_cons rfl sub_nil))
            · skip
              have hqn := quo_nat (n := l2.length) (p := p) hp8.1 (by omega)
              refine T_seq (T_region ?_)
              refine TL_q (.pointer (some ⟨B5, 0, none⟩)) (fun _ _ hρ _ => r_indexAddrA (i := 0) ar73 sz3 (hρ _ _ rfl) (hρ _ _ rfl) (by decide)) rfl rfl rfl (w_n rfl) ?_
              refine TL_q (.int .i64 ((p : Nat) : Int)) (fun _ _ hρ hm => r_load ag3 (hρ _ _ rfl) (hm.at 3 rfl) rfl) rfl rfl rfl (w_n rfl) ?_
              refine TL_q (.slice ar3 ((l2).length) cr3) (fun _ _ hρ _ => r_move (hρ _ _ rfl)) rfl rfl rfl (w_n rfl) ?_
              refine TL_call (.tuple #[.agg #[.int .i64 0, .int .i64 0, .slice none 0 0], .int .i64 2]) (fun _ _ hρ _ => r_call (args := [.int .i64 ((p : Nat) : Int), .slice ar3 ((l2).length) cr3]) (enters_of Try.func44 (by kernel_rfl) rfl) (hρ _ _ rfl) ((cons2 (hρ _ _ rfl) (cons2 (hρ _ _ rfl) rfl))) rfl) (fun w _ => sof_q p (l2.length / p) ar3 ((l2).length) cr3 w hp8 s3 hqn (eq_false_of_ne_true s4)) rfl rfl rfl (w_n rfl) ?_
              refine TL_q (.tuple #[.agg #[.int .i64 0, .int .i64 0, .slice none 0 0], .int .i64 2]) (fun _ _ hρ _ => r_move (hρ _ _ rfl)) rfl rfl rfl (w_n rfl) ?_
              refine TL_q (.agg #[.int .i64 0, .int .i64 0, .slice none 0 0]) (fun _ _ hρ _ => r_extract (hρ _ _ rfl) rfl) rfl rfl rfl (w_n rfl) ?_
              refine TL_q (.int .i64 2) (fun _ _ hρ _ => r_extract (hρ _ _ rfl) rfl) rfl rfl rfl (w_n rfl) ?_
              refine TL_new 19 (.cells #[.int .i64 0, .int .i64 0, .slice none 0 0] 75) (fun B => .pointer (some ⟨B, 0, none⟩)) (fun _ _ _ _ => r_alloc (v := .agg #[.int .i64 0, .int .i64 0, .slice none 0 0]) (by kernel_rfl) rfl) rfl rfl rfl (w_n rfl) ?_
              intro B26
              refine TL_store 19 (.cells #[.int .i64 0, .int .i64 0, .slice none 0 0] 75) rfl (fun _ _ hρ hm => r_store sz75 (hρ _ _ rfl) (hρ _ _ rfl) (hm.at 19 rfl) rfl rfl rfl rfl) rfl rfl (w_n rfl) ?_
              refine TL_q (.int .i64 2) (fun _ _ hρ _ => r_assign (hρ _ _ rfl)) rfl rfl rfl (w_n rfl) ?_
              refine TL_seq ?_
              refine T_seq (T_region ?_)
              refine TL_q (.pointer (some ⟨B5, 0, none⟩)) (fun _ _ hρ _ => r_indexAddrA (i := 0) ar73 sz3 (hρ _ _ rfl) (hρ _ _ rfl) (by decide)) rfl rfl rfl (w_n rfl) ?_
              refine TL_q (.int .i64 ((p : Nat) : Int)) (fun _ _ hρ hm => r_load ag3 (hρ _ _ rfl) (hm.at 3 rfl) rfl) rfl rfl rfl (w_n rfl) ?_
              refine TL_q (.slice ar3 ((l2).length) cr3) (fun _ _ hρ _ => r_move (hρ _ _ rfl)) rfl rfl rfl (w_n rfl) ?_
              refine TL_q (.agg #[.int .i64 ((p : Nat) : Int), .int .i64 0, .slice ar3 ((l2).length) cr3]) (fun _ _ hρ _ => r_build (vs := [(0, .int .i64 ((p : Nat) : Int)), (2, .slice ar3 ((l2).length) cr3)]) (by kernel_rfl) (cons2 (pair2 (hρ _ _ rfl)) (cons2 (pair2 (hρ _ _ rfl)) rfl))) rfl rfl rfl (w_n rfl) ?_
              refine TL_new 20 (.cells #[.int .i64 0, .int .i64 0, .slice none 0 0] 75) (fun B => .pointer (some ⟨B, 0, none⟩)) (fun _ _ _ _ => r_alloc (v := .agg #[.int .i64 0, .int .i64 0, .slice none 0 0]) (by kernel_rfl) rfl) rfl rfl rfl (w_n rfl) ?_
              intro B27
              refine TL_store 20 (.cells #[.int .i64 ((p : Nat) : Int), .int .i64 0, .slice ar3 ((l2).length) cr3] 75) rfl (fun _ _ hρ hm => r_store sz75 (hρ _ _ rfl) (hρ _ _ rfl) (hm.at 20 rfl) rfl rfl rfl rfl) rfl rfl (w_n rfl) ?_
              refine TL_seq ?_
              refine T_seq ?_
              refine T_seq (T_region ?_)
              refine TL_q (.pointer (some ⟨B5, 0, none⟩)) (fun _ _ hρ _ => r_indexAddrA (i := 0) ar73 sz3 (hρ _ _ rfl) (hρ _ _ rfl) (by decide)) rfl rfl rfl (w_n rfl) ?_
              refine TL_q (.int .i64 ((p : Nat) : Int)) (fun _ _ hρ hm => r_load ag3 (hρ _ _ rfl) (hm.at 3 rfl) rfl) rfl rfl rfl (w_n rfl) ?_
              refine TL_q (.bool true) (fun _ _ hρ _ => r_as (r_gtr (hρ _ _ rfl) (hρ _ _ rfl)) (bool_as (decide_eq_true (by omega)))) rfl rfl rfl (w_n rfl) ?_
              refine TL_seq ?_
              refine T_cond_t rfl ?_
              refine T_region ?_
              refine TL_q (.slice ar3 ((l2).length) cr3) (fun _ _ hρ _ => r_move (hρ _ _ rfl)) rfl rfl rfl (w_n rfl) ?_
              refine TL_q (.int .i64 (((l2).length : Nat) : Int)) (fun _ _ hρ _ => r_len sl71 (hρ _ _ rfl)) rfl rfl rfl (w_n rfl) ?_
              refine TL_q (.pointer (some ⟨B5, 0, none⟩)) (fun _ _ hρ _ => r_indexAddrA (i := 0) ar73 sz3 (hρ _ _ rfl) (hρ _ _ rfl) (by decide)) rfl rfl rfl (w_n rfl) ?_
              refine TL_q (.int .i64 ((p : Nat) : Int)) (fun _ _ hρ hm => r_load ag3 (hρ _ _ rfl) (hm.at 3 rfl) rfl) rfl rfl rfl (w_n rfl) ?_
              refine TL_q (.int .i64 (((l2.length / p) : Nat) : Int)) (fun _ _ hρ _ => r_as (r_quo (hρ _ _ rfl) (hρ _ _ rfl) (by omega)) (int_as hqn)) rfl rfl rfl (w_n rfl) ?_
              refine TL_q (.pointer (some ⟨B27, 1, none⟩)) (fun _ _ hρ _ => r_fieldAddr fl75_1 sz3 (hρ _ _ rfl)) rfl rfl rfl (w_n rfl) ?_
              refine TL_store 20 (.cells #[.int .i64 ((p : Nat) : Int), .int .i64 (((l2.length / p) : Nat) : Int), .slice ar3 ((l2).length) cr3] 75) rfl (fun _ _ hρ hm => r_store sz3 (hρ _ _ rfl) (hρ _ _ rfl) (hm.at 20 rfl) rfl rfl rfl rfl) rfl rfl (w_n rfl) ?_
              refine TL_nil ?_
              refine p_seq ?_
              refine T_seq ?_
              refine T_seq (T_region ?_)
              refine TL_q (.agg #[.int .i64 ((p : Nat) : Int), .int .i64 (((l2.length / p) : Nat) : Int), .slice ar3 ((l2).length) cr3]) (fun _ _ hρ hm => r_loadA ag75 sz75 (hρ _ _ rfl) (hm.at 20 rfl) rfl rfl) rfl rfl rfl (w_n rfl) ?_
              refine TL_call (.bool false) (fun _ _ hρ _ => r_call (args := [.agg #[.int .i64 ((p : Nat) : Int), .int .i64 (((l2.length / p) : Nat) : Int), .slice ar3 ((l2).length) cr3]]) (enters_of Try.func45 (by kernel_rfl) rfl) (hρ _ _ rfl) ((cons2 (hρ _ _ rfl) rfl)) rfl) (fun w _ => (rright_c ((p : Nat) : Int) (((l2.length / p) : Nat) : Int) ar3 ((l2).length) cr3 w).mono fun _ _ h => ⟨h.1.trans (congrArg Ending.returned (bool_as (eq_false_of_ne_true (right_y (eq_false_of_ne_true s4))))), h.2⟩) rfl rfl rfl (w_n rfl) ?_
              refine TL_q (.bool true) (fun _ _ hρ _ => r_not (b := false) (hρ _ _ rfl)) rfl rfl rfl (w_n rfl) ?_
              refine TL_seq ?_
              refine T_cond_t rfl ?_
              refine T_seq ?_
              refine T_seq (T_region ?_)
              refine TL_q (.int .i64 2) (fun _ _ hρ _ => r_move (hρ _ _ rfl)) rfl rfl rfl (w_n rfl) ?_
              refine TL_q (.bool false) (fun _ _ hρ _ => r_as (r_neq (hρ _ _ rfl) (hρ _ _ rfl)) (by rfl)) rfl rfl rfl (w_n rfl) ?_
              refine TL_q (.bool false) (fun _ _ hρ _ => r_move (hρ _ _ rfl)) rfl rfl rfl (w_n rfl) ?_
              refine TL_q (.agg #[.int .i64 0, .int .i64 0, .slice none 0 0]) (fun _ _ hρ hm => r_loadA ag75 sz75 (hρ _ _ rfl) (hm.at 19 rfl) rfl rfl) rfl rfl rfl (want_y 107 rfl rfl rfl) ?_
              refine TL_q (.agg #[.int .i64 0, .int .i64 0, .slice none 0 0]) (fun _ _ _ _ => r_build (vs := []) (by kernel_rfl) rfl) rfl rfl rfl (want_y 107 rfl rfl rfl) ?_
              refine TL_call (.bool true) (fun _ _ hρ _ => r_call (args := [.agg #[.int .i64 0, .int .i64 0, .slice none 0 0], .agg #[.int .i64 0, .int .i64 0, .slice none 0 0]]) (enters_of Try.func43 (by kernel_rfl) rfl) (hρ _ _ rfl) ((cons2 (hρ _ _ rfl) (cons2 (hρ _ _ rfl) rfl))) rfl) (fun w _ => (srsame_n (0 : Int) (0 : Int) [] none 0 w (sliceNil w) (by decide) (0 : Int) (0 : Int) [] none 0 (sliceNil w) (by decide) (by first | omega | (simp; done) | (simp; omega)) (by first | omega | (simp; done) | (simp; omega)) 0 rfl 0 rfl).mono fun _ _ h => ⟨h.1.trans (congrArg Ending.returned (bool_as (decide_eq_true ⟨rfl, rfl, rfl⟩))), h.2⟩) rfl rfl rfl (want_y 107 rfl rfl rfl) ?_
              refine TL_q (.bool false) (fun _ _ hρ _ => r_not (b := true) (hρ _ _ rfl)) rfl rfl rfl (want_y 107 rfl rfl rfl) ?_
              refine TL_q (.bool false) (fun _ _ hρ _ => r_pick_f (hρ _ _ rfl) (hρ _ _ rfl)) rfl rfl rfl (w_n rfl) ?_
              refine TL_seq ?_
              refine T_sub [(2, .slice ax x.length cx), (4, .pointer (some ⟨B1, 0, none⟩)), (7, .slice ar3 ((l2).length) cr3), (26, .slice (some ⟨b4, of4, none⟩) l.length cl), (27, .int .i64 ((l.length : Nat) : Int)), (28, .int .i64 ((k : Nat) : Int)), (29, .bool (decide (((k : Nat) : Int) < ((l.length : Nat) : Int)))), (30, .int .i64 ((k : Nat) : Int)), (31, .pointer (some ⟨b4, of4 + k * 2, none⟩)), (32, .agg #[.int .i64 ((p : Nat) : Int), .int .i64 uy]), (9, .pointer (some ⟨B5, 0, none⟩)), (8, .int .i64 ((k : Nat) : Int)), (33, .int .i64 ((k : Nat) : Int)), (34, .bool (decide (((k : Nat) : Int) = 10))), (36, .pointer (some ⟨B5, 0, none⟩)), (37, .int .i64 ((p : Nat) : Int)), (38, .pointer (some ⟨B5, 1, none⟩)), (39, .int .i64 uy), (40, .agg #[.int .u8 c.r, .int .u8 c.g, .int .u8 c.b, .int .u8 c.a]), (41, .tuple #[.agg #[.int .i64 0, .int .i64 0, .slice none 0 0], .int .i64 2]), (35, .tuple #[.agg #[.int .i64 0, .int .i64 0, .slice none 0 0], .int .i64 2]), (42, .agg #[.int .i64 0, .int .i64 0, .slice none 0 0]), (43, .int .i64 2), (10, .pointer (some ⟨B19, 0, none⟩)), (44, .agg #[.int .i64 0, .int .i64 0, .slice none 0 0]), (12, .pointer (some ⟨B20, 0, none⟩)), (13, .int .i64 2), (45, .pointer (some ⟨B5, 0, none⟩)), (46, .int .i64 ((p : Nat) : Int)), (47, .pointer (some ⟨B5, 1, none⟩)), (48, .int .i64 uy), (49, .bool false), (73, .int .i64 2), (74, .int .i64 2), (75, .bool false), (76, .bool false), (77, .agg #[.int .i64 0, .int .i64 0, .slice none 0 0]), (78, .agg #[.int .i64 0, .int .i64 0, .slice none 0 0]), (79, .bool true), (80, .bool false), (81, .bool false), (83, .pointer (some ⟨B5, 0, none⟩)), (84, .int .i64 ((p : Nat) : Int)), (85, .slice ar3 ((l2).length) cr3), (86, .tuple #[.agg #[.int .i64 0, .int .i64 0, .slice none 0 0], .int .i64 2]), (82, .tuple #[.agg #[.int .i64 0, .int .i64 0, .slice none 0 0], .int .i64 2]), (87, .agg #[.int .i64 0, .int .i64 0, .slice none 0 0]), (88, .int .i64 2), (15, .pointer (some ⟨B26, 0, none⟩)), (11, .int .i64 2), (89, .pointer (some ⟨B5, 0, none⟩)), (90, .int .i64 ((p : Nat) : Int)), (91, .slice ar3 ((l2).length) cr3), (92, .agg #[.int .i64 ((p : Nat) : Int), .int .i64 0, .slice ar3 ((l2).length) cr3]), (16, .pointer (some ⟨B27, 0, none⟩)), (93, .pointer (some ⟨B5, 0, none⟩)), (94, .int .i64 ((p : Nat) : Int)), (95, .bool true), (96, .slice ar3 ((l2).length) cr3), (97, .int .i64 (((l2).length : Nat) : Int)), (98, .pointer (some ⟨B5, 0, none⟩)), (99, .int .i64 ((p : Nat) : Int)), (100, .int .i64 (((l2.length / p) : Nat) : Int)), (101, .pointer (some ⟨B27, 1, none⟩)), (102, .agg #[.int .i64 ((p : Nat) : Int), .int .i64 (((l2.length / p) : Nat) : Int), .slice ar3 ((l2).length) cr3]), (103, .bool false), (104, .bool true), (105, .int .i64 2), (106, .bool false), (107, .bool false), (108, .agg #[.int .i64 0, .int .i64 0, .slice none 0 0]), (109, .agg #[.int .i64 0, .int .i64 0, .slice none 0 0]), (110, .bool true), (111, .bool false), (112, .bool false)] [(2, .row (.slice ar3 ((l2).length) cr3) 37 4 ((l2).length) ((l2).flatMap C4.cells)), (1, .blk B1 (.cells #[.int .u8 c.r, .int .u8 c.g, .int .u8 c.b, .int .u8 c.a] 37)), (3, .blk B5 (.cells #[.int .i64 ((p : Nat) : Int), .int .i64 uy] 73)), (14, .blk B19 (.cells #[.int .i64 0, .int .i64 0, .slice none 0 0] 75)), (15, .blk B20 (.cells #[.int .i64 0, .int .i64 0, .slice none 0 0] 75)), (19, .blk B26 (.cells #[.int .i64 0, .int .i64 0, .slice none 0 0] 75)), (20, .blk B27 (.cells #[.int .i64 ((p : Nat) : Int), .int .i64 (((l2.length / p) : Nat) : Int), .slice ar3 ((l2).length) cr3] 75))] (sub_cons rfl (sub_cons rfl (sub_cons rfl (sub_cons rfl (sub_cons rfl (sub_cons rfl (sub_cons rfl (sub_cons rfl (sub_cons rfl (sub_cons rfl (sub_cons rfl (sub_cons rfl (sub_cons rfl (sub_cons rfl (sub_cons rfl (sub_cons rfl (sub_cons rfl (sub_cons rfl (sub_cons rfl (sub_cons rfl (sub_cons rfl (sub_cons rfl (sub_cons rfl (sub_cons rfl (sub_cons rfl (sub_cons rfl (sub_cons rfl (sub_cons rfl (sub_cons rfl (sub_cons rfl (sub_cons rfl (sub_cons rfl (sub_cons rfl (sub_cons rfl (sub_cons rfl (sub_cons rfl (sub_cons rfl (sub_cons rfl (sub_cons rfl (sub_cons rfl (sub_cons rfl (sub_cons rfl (sub_cons rfl (sub_cons rfl (sub_cons rfl (sub_cons rfl (sub_cons rfl (sub_cons rfl (sub_cons rfl (sub_cons rfl (sub_cons rfl (sub_cons rfl (sub_cons rfl (sub_cons rfl (sub_cons rfl (sub_cons rfl (sub_cons rfl (sub_cons rfl (sub_cons rfl (sub_cons rfl (sub_cons rfl (sub_cons rfl (sub_cons rfl (sub_cons rfl (sub_cons rfl (sub_cons rfl (sub_cons rfl (sub_cons rfl (sub_cons rfl (sub_cons rfl (sub_cons rfl (sub_cons rfl (sub_cons rfl (sub_cons rfl (sub_cons rfl sub_nil))))))))))))))))))))))))))))))))))))))))))))))))))))))))))))))))))))))))))) (sub_cons rfl (sub_cons rfl (sub_cons rfl (sub_cons rfl (sub_cons rfl (sub_cons rfl (sub_cons rfl sub_nil))))))) ?_
              refine T_cond_f rfl ?_
              refine T_skip' ?_
              refine p_seq ?_
              refine T_exit' ?_
              refine p_then_x ?_
              refine p_blk_x ?_
              refine p_seq ?_
              refine T_region ?_
              refine TL_q (.int .i64 ((k + 1 : Nat) : Int)) (fun _ _ hρ _ => r_as (r_add (hρ _ _ rfl) (hρ _ _ rfl)) (int_as ((wrap64 (by omega) (by omega)).trans (by omega)))) rfl rfl rfl (w_n rfl) ?_
              refine TL_q (.int .i64 ((k + 1 : Nat) : Int)) (fun _ _ hρ _ => r_move (hρ _ _ rfl)) rfl rfl rfl (w_n rfl) ?_
              refine TL_nil ?_
              exact p_at (k + 1) ⟨by omega, by omega⟩ (sub_cons rfl (sub_cons rfl (sub_cons rfl (sub_cons rfl (sub_cons rfl (sub_cons rfl sub_nil)))))) (sub_cons rfl (sub_cons rfl sub_nil))
          · skip
            have hqn := quo_nat (n := l2.length) (p := p) hp8.1 (by omega)
            refine T_seq (T_region ?_)
            refine TL_q (.pointer (some ⟨B5, 0, none⟩)) (fun _ _ hρ _ => r_indexAddrA (i := 0) ar73 sz3 (hρ _ _ rfl) (hρ _ _ rfl) (by decide)) rfl rfl rfl (w_n rfl) ?_
            refine TL_q (.int .i64 ((p : Nat) : Int)) (fun _ _ hρ hm => r_load ag3 (hρ _ _ rfl) (hm.at 3 rfl) rfl) rfl rfl rfl (w_n rfl) ?_
            refine TL_q (.slice ar3 ((l2).length) cr3) (fun _ _ hρ _ => r_move (hρ _ _ rfl)) rfl rfl rfl (w_n rfl) ?_
            refine TL_call (.tuple #[.agg #[.int .i64 0, .int .i64 0, .slice none 0 0], .int .i64 2]) (fun _ _ hρ _ => r_call (args := [.int .i64 ((p : Nat) : Int), .slice ar3 ((l2).length) cr3]) (enters_of Try.func44 (by kernel_rfl) rfl) (hρ _ _ rfl) ((cons2 (hρ _ _ rfl) (cons2 (hρ _ _ rfl) rfl))) rfl) (fun w _ => sof_r p ar3 ((l2).length) cr3 w hp8 s3) rfl rfl rfl (w_n rfl) ?_
            refine TL_q (.tuple #[.agg #[.int .i64 0, .int .i64 0, .slice none 0 0], .int .i64 2]) (fun _ _ hρ _ => r_move (hρ _ _ rfl)) rfl rfl rfl (w_n rfl) ?_
            refine TL_q (.agg #[.int .i64 0, .int .i64 0, .slice none 0 0]) (fun _ _ hρ _ => r_extract (hρ _ _ rfl) rfl) rfl rfl rfl (w_n rfl) ?_
            refine TL_q (.int .i64 2) (fun _ _ hρ _ => r_extract (hρ _ _ rfl) rfl) rfl rfl rfl (w_n rfl) ?_
            refine TL_new 21 (.cells #[.int .i64 0, .int .i64 0, .slice none 0 0] 75) (fun B => .pointer (some ⟨B, 0, none⟩)) (fun _ _ _ _ => r_alloc (v := .agg #[.int .i64 0, .int .i64 0, .slice none 0 0]) (by kernel_rfl) rfl) rfl rfl rfl (w_n rfl) ?_
            intro B28
            refine TL_store 21 (.cells #[.int .i64 0, .int .i64 0, .slice none 0 0] 75) rfl (fun _ _ hρ hm => r_store sz75 (hρ _ _ rfl) (hρ _ _ rfl) (hm.at 21 rfl) rfl rfl rfl rfl) rfl rfl (w_n rfl) ?_
            refine TL_q (.int .i64 2) (fun _ _ hρ _ => r_assign (hρ _ _ rfl)) rfl rfl rfl (w_n rfl) ?_
            refine TL_seq ?_
            refine T_seq (T_region ?_)
            refine TL_q (.pointer (some ⟨B5, 0, none⟩)) (fun _ _ hρ _ => r_indexAddrA (i := 0) ar73 sz3 (hρ _ _ rfl) (hρ _ _ rfl) (by decide)) rfl rfl rfl (w_n rfl) ?_
            refine TL_q (.int .i64 ((p : Nat) : Int)) (fun _ _ hρ hm => r_load ag3 (hρ _ _ rfl) (hm.at 3 rfl) rfl) rfl rfl rfl (w_n rfl) ?_
            refine TL_q (.slice ar3 ((l2).length) cr3) (fun _ _ hρ _ => r_move (hρ _ _ rfl)) rfl rfl rfl (w_n rfl) ?_
            refine TL_q (.agg #[.int .i64 ((p : Nat) : Int), .int .i64 0, .slice ar3 ((l2).length) cr3]) (fun _ _ hρ _ => r_build (vs := [(0, .int .i64 ((p : Nat) : Int)), (2, .slice ar3 ((l2).length) cr3)]) (by kernel_rfl) (cons2 (pair2 (hρ _ _ rfl)) (cons2 (pair2 (hρ _ _ rfl)) rfl))) rfl rfl rfl (w_n rfl) ?_
            refine TL_new 22 (.cells #[.int .i64 0, .int .i64 0, .slice none 0 0] 75) (fun B => .pointer (some ⟨B, 0, none⟩)) (fun _ _ _ _ => r_alloc (v := .agg #[.int .i64 0, .int .i64 0, .slice none 0 0]) (by kernel_rfl) rfl) rfl rfl rfl (w_n rfl) ?_
            intro B29
            refine TL_store 22 (.cells #[.int .i64 ((p : Nat) : Int), .int .i64 0, .slice ar3 ((l2).length) cr3] 75) rfl (fun _ _ hρ hm => r_store sz75 (hρ _ _ rfl) (hρ _ _ rfl) (hm.at 22 rfl) rfl rfl rfl rfl) rfl rfl (w_n rfl) ?_
            refine TL_seq ?_
            refine T_seq ?_
            refine T_seq (T_region ?_)
            refine TL_q (.pointer (some ⟨B5, 0, none⟩)) (fun _ _ hρ _ => r_indexAddrA (i := 0) ar73 sz3 (hρ _ _ rfl) (hρ _ _ rfl) (by decide)) rfl rfl rfl (w_n rfl) ?_
            refine TL_q (.int .i64 ((p : Nat) : Int)) (fun _ _ hρ hm => r_load ag3 (hρ _ _ rfl) (hm.at 3 rfl) rfl) rfl rfl rfl (w_n rfl) ?_
            refine TL_q (.bool true) (fun _ _ hρ _ => r_as (r_gtr (hρ _ _ rfl) (hρ _ _ rfl)) (bool_as (decide_eq_true (by omega)))) rfl rfl rfl (w_n rfl) ?_
            refine TL_seq ?_
            refine T_cond_t rfl ?_
            refine T_region ?_
            refine TL_q (.slice ar3 ((l2).length) cr3) (fun _ _ hρ _ => r_move (hρ _ _ rfl)) rfl rfl rfl (w_n rfl) ?_
            refine TL_q (.int .i64 (((l2).length : Nat) : Int)) (fun _ _ hρ _ => r_len sl71 (hρ _ _ rfl)) rfl rfl rfl (w_n rfl) ?_
            refine TL_q (.pointer (some ⟨B5, 0, none⟩)) (fun _ _ hρ _ => r_indexAddrA (i := 0) ar73 sz3 (hρ _ _ rfl) (hρ _ _ rfl) (by decide)) rfl rfl rfl (w_n rfl) ?_
            refine TL_q (.int .i64 ((p : Nat) : Int)) (fun _ _ hρ hm => r_load ag3 (hρ _ _ rfl) (hm.at 3 rfl) rfl) rfl rfl rfl (w_n rfl) ?_
            refine TL_q (.int .i64 (((l2.length / p) : Nat) : Int)) (fun _ _ hρ _ => r_as (r_quo (hρ _ _ rfl) (hρ _ _ rfl) (by omega)) (int_as hqn)) rfl rfl rfl (w_n rfl) ?_
            refine TL_q (.pointer (some ⟨B29, 1, none⟩)) (fun _ _ hρ _ => r_fieldAddr fl75_1 sz3 (hρ _ _ rfl)) rfl rfl rfl (w_n rfl) ?_
            refine TL_store 22 (.cells #[.int .i64 ((p : Nat) : Int), .int .i64 (((l2.length / p) : Nat) : Int), .slice ar3 ((l2).length) cr3] 75) rfl (fun _ _ hρ hm => r_store sz3 (hρ _ _ rfl) (hρ _ _ rfl) (hm.at 22 rfl) rfl rfl rfl rfl) rfl rfl (w_n rfl) ?_
            refine TL_nil ?_
            refine p_seq ?_
            refine T_seq ?_
            refine T_seq (T_region ?_)
            refine TL_q (.agg #[.int .i64 ((p : Nat) : Int), .int .i64 (((l2.length / p) : Nat) : Int), .slice ar3 ((l2).length) cr3]) (fun _ _ hρ hm => r_loadA ag75 sz75 (hρ _ _ rfl) (hm.at 22 rfl) rfl rfl) rfl rfl rfl (w_n rfl) ?_
            refine TL_call (.bool false) (fun _ _ hρ _ => r_call (args := [.agg #[.int .i64 ((p : Nat) : Int), .int .i64 (((l2.length / p) : Nat) : Int), .slice ar3 ((l2).length) cr3]]) (enters_of Try.func45 (by kernel_rfl) rfl) (hρ _ _ rfl) ((cons2 (hρ _ _ rfl) rfl)) rfl) (fun w _ => (rright_c ((p : Nat) : Int) (((l2.length / p) : Nat) : Int) ar3 ((l2).length) cr3 w).mono fun _ _ h => ⟨h.1.trans (congrArg Ending.returned (bool_as (eq_false_of_ne_true (right_rem s3)))), h.2⟩) rfl rfl rfl (w_n rfl) ?_
            refine TL_q (.bool true) (fun _ _ hρ _ => r_not (b := false) (hρ _ _ rfl)) rfl rfl rfl (w_n rfl) ?_
            refine TL_seq ?_
            refine T_cond_t rfl ?_
            refine T_seq ?_
            refine T_seq (T_region ?_)
            refine TL_q (.int .i64 2) (fun _ _ hρ _ => r_move (hρ _ _ rfl)) rfl rfl rfl (w_n rfl) ?_
            refine TL_q (.bool false) (fun _ _ hρ _ => r_as (r_neq (hρ _ _ rfl) (hρ _ _ rfl)) (by rfl)) rfl rfl rfl (w_n rfl) ?_
            refine TL_q (.bool false) (fun _ _ hρ _ => r_move (hρ _ _ rfl)) rfl rfl rfl (w_n rfl) ?_
            refine TL_q (.agg #[.int .i64 0, .int .i64 0, .slice none 0 0]) (fun _ _ hρ hm => r_loadA ag75 sz75 (hρ _ _ rfl) (hm.at 21 rfl) rfl rfl) rfl rfl rfl (want_y 107 rfl rfl rfl) ?_
            refine TL_q (.agg #[.int .i64 0, .int .i64 0, .slice none 0 0]) (fun _ _ _ _ => r_build (vs := []) (by kernel_rfl) rfl) rfl rfl rfl (want_y 107 rfl rfl rfl) ?_
            refine TL_call (.bool true) (fun _ _ hρ _ => r_call (args := [.agg #[.int .i64 0, .int .i64 0, .slice none 0 0], .agg #[.int .i64 0, .int .i64 0, .slice none 0 0]]) (enters_of Try.func43 (by kernel_rfl) rfl) (hρ _ _ rfl) ((cons2 (hρ _ _ rfl) (cons2 (hρ _ _ rfl) rfl))) rfl) (fun w _ => (srsame_n (0 : Int) (0 : Int) [] none 0 w (sliceNil w) (by decide) (0 : Int) (0 : Int) [] none 0 (sliceNil w) (by decide) (by first | omega | (simp; done) | (simp; omega)) (by first | omega | (simp; done) | (simp; omega)) 0 rfl 0 rfl).mono fun _ _ h => ⟨h.1.trans (congrArg Ending.returned (bool_as (decide_eq_true ⟨rfl, rfl, rfl⟩))), h.2⟩) rfl rfl rfl (want_y 107 rfl rfl rfl) ?_
            refine TL_q (.bool false) (fun _ _ hρ _ => r_not (b := true) (hρ _ _ rfl)) rfl rfl rfl (want_y 107 rfl rfl rfl) ?_
            refine TL_q (.bool false) (fun _ _ hρ _ => r_pick_f (hρ _ _ rfl) (hρ _ _ rfl)) rfl rfl rfl (w_n rfl) ?_
            refine TL_seq ?_
            refine T_sub [(2, .slice ax x.length cx), (4, .pointer (some ⟨B1, 0, none⟩)), (7, .slice ar3 ((l2).length) cr3), (26, .slice (some ⟨b4, of4, none⟩) l.length cl), (27, .int .i64 ((l.length : Nat) : Int)), (28, .int .i64 ((k : Nat) : Int)), (29, .bool (decide (((k : Nat) : Int) < ((l.length : Nat) : Int)))), (30, .int .i64 ((k : Nat) : Int)), (31, .pointer (some ⟨b4, of4 + k * 2, none⟩)), (32, .agg #[.int .i64 ((p : Nat) : Int), .int .i64 uy]), (9, .pointer (some ⟨B5, 0, none⟩)), (8, .int .i64 ((k : Nat) : Int)), (33, .int .i64 ((k : Nat) : Int)), (34, .bool (decide (((k : Nat) : Int) = 10))), (36, .pointer (some ⟨B5, 0, none⟩)), (37, .int .i64 ((p : Nat) : Int)), (38, .pointer (some ⟨B5, 1, none⟩)), (39, .int .i64 uy), (40, .agg #[.int .u8 c.r, .int .u8 c.g, .int .u8 c.b, .int .u8 c.a]), (41, .tuple #[.agg #[.int .i64 0, .int .i64 0, .slice none 0 0], .int .i64 2]), (35, .tuple #[.agg #[.int .i64 0, .int .i64 0, .slice none 0 0], .int .i64 2]), (42, .agg #[.int .i64 0, .int .i64 0, .slice none 0 0]), (43, .int .i64 2), (10, .pointer (some ⟨B19, 0, none⟩)), (44, .agg #[.int .i64 0, .int .i64 0, .slice none 0 0]), (12, .pointer (some ⟨B20, 0, none⟩)), (13, .int .i64 2), (45, .pointer (some ⟨B5, 0, none⟩)), (46, .int .i64 ((p : Nat) : Int)), (47, .pointer (some ⟨B5, 1, none⟩)), (48, .int .i64 uy), (49, .bool false), (73, .int .i64 2), (74, .int .i64 2), (75, .bool false), (76, .bool false), (77, .agg #[.int .i64 0, .int .i64 0, .slice none 0 0]), (78, .agg #[.int .i64 0, .int .i64 0, .slice none 0 0]), (79, .bool true), (80, .bool false), (81, .bool false), (83, .pointer (some ⟨B5, 0, none⟩)), (84, .int .i64 ((p : Nat) : Int)), (85, .slice ar3 ((l2).length) cr3), (86, .tuple #[.agg #[.int .i64 0, .int .i64 0, .slice none 0 0], .int .i64 2]), (82, .tuple #[.agg #[.int .i64 0, .int .i64 0, .slice none 0 0], .int .i64 2]), (87, .agg #[.int .i64 0, .int .i64 0, .slice none 0 0]), (88, .int .i64 2), (15, .pointer (some ⟨B28, 0, none⟩)), (11, .int .i64 2), (89, .pointer (some ⟨B5, 0, none⟩)), (90, .int .i64 ((p : Nat) : Int)), (91, .slice ar3 ((l2).length) cr3), (92, .agg #[.int .i64 ((p : Nat) : Int), .int .i64 0, .slice ar3 ((l2).length) cr3]), (16, .pointer (some ⟨B29, 0, none⟩)), (93, .pointer (some ⟨B5, 0, none⟩)), (94, .int .i64 ((p : Nat) : Int)), (95, .bool true), (96, .slice ar3 ((l2).length) cr3), (97, .int .i64 (((l2).length : Nat) : Int)), (98, .pointer (some ⟨B5, 0, none⟩)), (99, .int .i64 ((p : Nat) : Int)), (100, .int .i64 (((l2.length / p) : Nat) : Int)), (101, .pointer (some ⟨B29, 1, none⟩)), (102, .agg #[.int .i64 ((p : Nat) : Int), .int .i64 (((l2.length / p) : Nat) : Int), .slice ar3 ((l2).length) cr3]), (103, .bool false), (104, .bool true), (105, .int .i64 2), (106, .bool false), (107, .bool false), (108, .agg #[.int .i64 0, .int .i64 0, .slice none 0 0]), (109, .agg #[.int .i64 0, .int .i64 0, .slice none 0 0]), (110, .bool true), (111, .bool false), (112, .bool false)] [(2, .row (.slice ar3 ((l2).length) cr3) 37 4 ((l2).length) ((l2).flatMap C4.cells)), (1, .blk B1 (.cells #[.int .u8 c.r, .int .u8 c.g, .int .u8 c.b, .int .u8 c.a] 37)), (3, .blk B5 (.cells #[.int .i64 ((p : Nat) : Int), .int .i64 uy] 73)), (14, .blk B19 (.cells #[.int .i64 0, .int .i64 0, .slice none 0 0] 75)), (15, .blk B20 (.cells #[.int .i64 0, .int .i64 0, .slice none 0 0] 75)), (21, .blk B28 (.cells #[.int .i64 0, .int .i64 0, .slice none 0 0] 75)), (22, .blk B29 (.cells #[.int .i64 ((p : Nat) : Int), .int .i64 (((l2.length / p) : Nat) : Int), .slice ar3 ((l2).length) cr3] 75))] (sub_cons rfl (sub_cons rfl (sub_cons rfl (sub_cons rfl (sub_cons rfl (sub_cons rfl (sub_cons rfl (sub_cons rfl (sub_cons rfl (sub_cons rfl (sub_cons rfl (sub_cons rfl (sub_cons rfl (sub_cons rfl (sub_cons rfl (sub_cons rfl (sub_cons rfl (sub_cons rfl (sub_cons rfl (sub_cons rfl (sub_cons rfl (sub_cons rfl (sub_cons rfl (sub_cons rfl (sub_cons rfl (sub_cons rfl (sub_cons rfl (sub_cons rfl (sub_cons rfl (sub_cons rfl (sub_cons rfl (sub_cons rfl (sub_cons rfl (sub_cons rfl (sub_cons rfl (sub_cons rfl (sub_cons rfl (sub_cons rfl (sub_cons rfl (sub_cons rfl (sub_cons rfl (sub_cons rfl (sub_cons rfl (sub_cons rfl (sub_cons rfl (sub_cons rfl (sub_cons rfl (sub_cons rfl (sub_cons rfl (sub_cons rfl (sub_cons rfl (sub_cons rfl (sub_cons rfl (sub_cons rfl (sub_cons rfl (sub_cons rfl (sub_cons rfl (sub_cons rfl (sub_cons rfl (sub_cons rfl (sub_cons rfl (sub_cons rfl (sub_cons rfl (sub_cons rfl (sub_cons rfl (sub_cons rfl (sub_cons rfl (sub_cons rfl (sub_cons rfl (sub_cons rfl (sub_cons rfl (sub_cons rfl (sub_cons rfl (sub_cons rfl (sub_cons rfl sub_nil))))))))))))))))))))))))))))))))))))))))))))))))))))))))))))))))))))))))))) (sub_cons rfl (sub_cons rfl (sub_cons rfl (sub_cons rfl (sub_cons rfl (sub_cons rfl (sub_cons rfl sub_nil))))))) ?_
            refine T_cond_f rfl ?_
            refine T_skip' ?_
            refine p_seq ?_
            refine T_exit' ?_
            refine p_then_x ?_
            refine p_blk_x ?_
            refine p_seq ?_
            refine T_region ?_
            refine TL_q (.int .i64 ((k + 1 : Nat) : Int)) (fun _ _ hρ _ => r_as (r_add (hρ _ _ rfl) (hρ _ _ rfl)) (int_as ((wrap64 (by omega) (by omega)).trans (by omega)))) rfl rfl rfl (w_n rfl) ?_
            refine TL_q (.int .i64 ((k + 1 : Nat) : Int)) (fun _ _ hρ _ => r_move (hρ _ _ rfl)) rfl rfl rfl (w_n rfl) ?_
            refine TL_nil ?_
            exact p_at (k + 1) ⟨by omega, by omega⟩ (sub_cons rfl (sub_cons rfl (sub_cons rfl (sub_cons rfl (sub_cons rfl (sub_cons rfl sub_nil)))))) (sub_cons rfl (sub_cons rfl sub_nil))
      · skip
        by_cases s2 : sideI uy = true
        · skip
          obtain ⟨q, rfl, hq8⟩ := sideI_nat s2
          refine T_seq (T_region ?_)
          refine TL_q (.pointer (some ⟨B5, 0, none⟩)) (fun _ _ hρ _ => r_indexAddrA (i := 0) ar73 sz3 (hρ _ _ rfl) (hρ _ _ rfl) (by decide)) rfl rfl rfl (w_n rfl) ?_
          refine TL_q (.int .i64 ux) (fun _ _ hρ hm => r_load ag3 (hρ _ _ rfl) (hm.at 3 rfl) rfl) rfl rfl rfl (w_n rfl) ?_
          refine TL_q (.pointer (some ⟨B5, 1, none⟩)) (fun _ _ hρ _ => r_indexAddrA (i := 1) ar73 sz3 (hρ _ _ rfl) (hρ _ _ rfl) (by decide)) rfl rfl rfl (w_n rfl) ?_
          refine TL_q (.int .i64 ((q : Nat) : Int)) (fun _ _ hρ hm => r_load ag3 (hρ _ _ rfl) (hm.at 3 rfl) rfl) rfl rfl rfl (w_n rfl) ?_
          refine TL_q (.agg #[.int .u8 c.r, .int .u8 c.g, .int .u8 c.b, .int .u8 c.a]) (fun _ _ hρ hm => r_loadA ag37 sz37 (hρ _ _ rfl) (hm.at 1 rfl) rfl rfl) rfl rfl rfl (w_n rfl) ?_
          refine TL_call (.tuple #[.agg #[.int .i64 0, .int .i64 0, .slice none 0 0], .int .i64 2]) (fun _ _ hρ _ => r_call (args := [.int .i64 ux, .int .i64 ((q : Nat) : Int), .agg #[.int .u8 c.r, .int .u8 c.g, .int .u8 c.b, .int .u8 c.a]]) (enters_of Try.func41 (by kernel_rfl) rfl) (hρ _ _ rfl) ((cons2 (hρ _ _ rfl) (cons2 (hρ _ _ rfl) (cons2 (hρ _ _ rfl) rfl)))) rfl) (fun w _ => snew_no ux ((q : Nat) : Int) c w (by rw [eq_false_of_ne_true s1]; simp)) rfl rfl rfl (w_n rfl) ?_
          refine TL_q (.tuple #[.agg #[.int .i64 0, .int .i64 0, .slice none 0 0], .int .i64 2]) (fun _ _ hρ _ => r_move (hρ _ _ rfl)) rfl rfl rfl (w_n rfl) ?_
          refine TL_q (.agg #[.int .i64 0, .int .i64 0, .slice none 0 0]) (fun _ _ hρ _ => r_extract (hρ _ _ rfl) rfl) rfl rfl rfl (w_n rfl) ?_
          refine TL_q (.int .i64 2) (fun _ _ hρ _ => r_extract (hρ _ _ rfl) rfl) rfl rfl rfl (w_n rfl) ?_
          refine TL_new 23 (.cells #[.int .i64 0, .int .i64 0, .slice none 0 0] 75) (fun B => .pointer (some ⟨B, 0, none⟩)) (fun _ _ _ _ => r_alloc (v := .agg #[.int .i64 0, .int .i64 0, .slice none 0 0]) (by kernel_rfl) rfl) rfl rfl rfl (w_n rfl) ?_
          intro B30
          refine TL_store 23 (.cells #[.int .i64 0, .int .i64 0, .slice none 0 0] 75) rfl (fun _ _ hρ hm => r_store sz75 (hρ _ _ rfl) (hρ _ _ rfl) (hm.at 23 rfl) rfl rfl rfl rfl) rfl rfl (w_n rfl) ?_
          refine TL_q (.int .i64 2) (fun _ _ hρ _ => r_assign (hρ _ _ rfl)) rfl rfl rfl (w_n rfl) ?_
          refine TL_seq ?_
          refine T_seq (T_region ?_)
          refine TL_q (.agg #[.int .i64 0, .int .i64 0, .slice none 0 0]) (fun _ _ _ _ => r_build (vs := []) (by kernel_rfl) rfl) rfl rfl rfl (w_n rfl) ?_
          refine TL_new 24 (.cells #[.int .i64 0, .int .i64 0, .slice none 0 0] 75) (fun B => .pointer (some ⟨B, 0, none⟩)) (fun _ _ _ _ => r_alloc (v := .agg #[.int .i64 0, .int .i64 0, .slice none 0 0]) (by kernel_rfl) rfl) rfl rfl rfl (w_n rfl) ?_
          intro B31
          refine TL_store 24 (.cells #[.int .i64 0, .int .i64 0, .slice none 0 0] 75) rfl (fun _ _ hρ hm => r_store sz75 (hρ _ _ rfl) (hρ _ _ rfl) (hm.at 24 rfl) rfl rfl rfl rfl) rfl rfl (w_n rfl) ?_
          refine TL_q (.int .i64 2) (fun _ _ hρ _ => r_assign (hρ _ _ rfl)) rfl rfl rfl (w_n rfl) ?_
          refine TL_seq ?_
          refine T_seq ?_
          refine T_seq (T_region ?_)
          refine TL_q (.pointer (some ⟨B5, 0, none⟩)) (fun _ _ hρ _ => r_indexAddrA (i := 0) ar73 sz3 (hρ _ _ rfl) (hρ _ _ rfl) (by decide)) rfl rfl rfl (w_n rfl) ?_
          refine TL_q (.int .i64 ux) (fun _ _ hρ hm => r_load ag3 (hρ _ _ rfl) (hm.at 3 rfl) rfl) rfl rfl rfl (w_n rfl) ?_
          refine TL_q (.pointer (some ⟨B5, 1, none⟩)) (fun _ _ hρ _ => r_indexAddrA (i := 1) ar73 sz3 (hρ _ _ rfl) (hρ _ _ rfl) (by decide)) rfl rfl rfl (w_n rfl) ?_
          refine TL_q (.int .i64 ((q : Nat) : Int)) (fun _ _ hρ hm => r_load ag3 (hρ _ _ rfl) (hm.at 3 rfl) rfl) rfl rfl rfl (w_n rfl) ?_
          refine TL_call (.bool false) (fun _ _ hρ _ => r_call (args := [.int .i64 ux, .int .i64 ((q : Nat) : Int)]) (enters_of Try.func42 (by kernel_rfl) rfl) (hρ _ _ rfl) ((cons2 (hρ _ _ rfl) (cons2 (hρ _ _ rfl) rfl))) rfl) (fun w _ => (rsides_c ux ((q : Nat) : Int) w).mono fun _ _ h => ⟨h.1.trans (congrArg Ending.returned (bool_as (by rw [(eq_false_of_ne_true s1)]; rfl))), h.2⟩) rfl rfl rfl (w_n rfl) ?_
          refine TL_seq ?_
          refine T_cond_f rfl ?_
          refine T_skip' ?_
          refine p_seq ?_
          refine T_seq ?_
          refine T_seq (T_region ?_)
          refine TL_q (.int .i64 2) (fun _ _ hρ _ => r_move (hρ _ _ rfl)) rfl rfl rfl (w_n rfl) ?_
          refine TL_q (.int .i64 2) (fun _ _ hρ _ => r_move (hρ _ _ rfl)) rfl rfl rfl (w_n rfl) ?_
          refine TL_q (.bool false) (fun _ _ hρ _ => r_as (r_neq (hρ _ _ rfl) (hρ _ _ rfl)) (by rfl)) rfl rfl rfl (w_n rfl) ?_
          refine TL_q (.bool false) (fun _ _ hρ _ => r_move (hρ _ _ rfl)) rfl rfl rfl (w_n rfl) ?_
          refine TL_q (.agg #[.int .i64 0, .int .i64 0, .slice none 0 0]) (fun _ _ hρ hm => r_loadA ag75 sz75 (hρ _ _ rfl) (hm.at 23 rfl) rfl rfl) rfl rfl rfl (want_y 76 rfl rfl rfl) ?_
          refine TL_q (.agg #[.int .i64 0, .int .i64 0, .slice none 0 0]) (fun _ _ hρ hm => r_loadA ag75 sz75 (hρ _ _ rfl) (hm.at 24 rfl) rfl rfl) rfl rfl rfl (want_y 76 rfl rfl rfl) ?_
          refine TL_call (.bool true) (fun _ _ hρ _ => r_call (args := [.agg #[.int .i64 0, .int .i64 0, .slice none 0 0], .agg #[.int .i64 0, .int .i64 0, .slice none 0 0]]) (enters_of Try.func43 (by kernel_rfl) rfl) (hρ _ _ rfl) ((cons2 (hρ _ _ rfl) (cons2 (hρ _ _ rfl) rfl))) rfl) (fun w _ => (srsame_n (0 : Int) (0 : Int) [] none 0 w (sliceNil w) (by decide) (0 : Int) (0 : Int) [] none 0 (sliceNil w) (by decide) (by first | omega | (simp; done) | (simp; omega)) (by first | omega | (simp; done) | (simp; omega)) 0 rfl 0 rfl).mono fun _ _ h => ⟨h.1.trans (congrArg Ending.returned (bool_as (decide_eq_true ⟨rfl, rfl, rfl⟩))), h.2⟩) rfl rfl rfl (want_y 76 rfl rfl rfl) ?_
          refine TL_q (.bool false) (fun _ _ hρ _ => r_not (b := true) (hρ _ _ rfl)) rfl rfl rfl (want_y 76 rfl rfl rfl) ?_
          refine TL_q (.bool false) (fun _ _ hρ _ => r_pick_f (hρ _ _ rfl) (hρ _ _ rfl)) rfl rfl rfl (w_n rfl) ?_
          refine TL_seq ?_
          refine T_sub [(2, .slice ax x.length cx), (4, .pointer (some ⟨B1, 0, none⟩)), (7, .slice ar3 ((l2).length) cr3), (26, .slice (some ⟨b4, of4, none⟩) l.length cl), (27, .int .i64 ((l.length : Nat) : Int)), (28, .int .i64 ((k : Nat) : Int)), (29, .bool (decide (((k : Nat) : Int) < ((l.length : Nat) : Int)))), (30, .int .i64 ((k : Nat) : Int)), (31, .pointer (some ⟨b4, of4 + k * 2, none⟩)), (32, .agg #[.int .i64 ux, .int .i64 ((q : Nat) : Int)]), (9, .pointer (some ⟨B5, 0, none⟩)), (8, .int .i64 ((k : Nat) : Int)), (33, .int .i64 ((k : Nat) : Int)), (34, .bool (decide (((k : Nat) : Int) = 10))), (36, .pointer (some ⟨B5, 0, none⟩)), (37, .int .i64 ux), (38, .pointer (some ⟨B5, 1, none⟩)), (39, .int .i64 ((q : Nat) : Int)), (40, .agg #[.int .u8 c.r, .int .u8 c.g, .int .u8 c.b, .int .u8 c.a]), (41, .tuple #[.agg #[.int .i64 0, .int .i64 0, .slice none 0 0], .int .i64 2]), (35, .tuple #[.agg #[.int .i64 0, .int .i64 0, .slice none 0 0], .int .i64 2]), (42, .agg #[.int .i64 0, .int .i64 0, .slice none 0 0]), (43, .int .i64 2), (10, .pointer (some ⟨B30, 0, none⟩)), (11, .int .i64 2), (44, .agg #[.int .i64 0, .int .i64 0, .slice none 0 0]), (12, .pointer (some ⟨B31, 0, none⟩)), (13, .int .i64 2), (45, .pointer (some ⟨B5, 0, none⟩)), (46, .int .i64 ux), (47, .pointer (some ⟨B5, 1, none⟩)), (48, .int .i64 ((q : Nat) : Int)), (49, .bool false), (73, .int .i64 2), (74, .int .i64 2), (75, .bool false), (76, .bool false), (77, .agg #[.int .i64 0, .int .i64 0, .slice none 0 0]), (78, .agg #[.int .i64 0, .int .i64 0, .slice none 0 0]), (79, .bool true), (80, .bool false), (81, .bool false)] [(2, .row (.slice ar3 ((l2).length) cr3) 37 4 ((l2).length) ((l2).flatMap C4.cells)), (1, .blk B1 (.cells #[.int .u8 c.r, .int .u8 c.g, .int .u8 c.b, .int .u8 c.a] 37)), (3, .blk B5 (.cells #[.int .i64 ux, .int .i64 ((q : Nat) : Int)] 73)), (23, .blk B30 (.cells #[.int .i64 0, .int .i64 0, .slice none 0 0] 75)), (24, .blk B31 (.cells #[.int .i64 0, .int .i64 0, .slice none 0 0] 75))] (sub_cons rfl (sub_cons rfl (sub_cons rfl (sub_cons rfl (sub_cons rfl (sub_cons rfl (sub_cons rfl (sub_cons rfl (sub_cons rfl (sub_cons rfl (sub_cons rfl (sub_cons rfl (sub_cons rfl (sub_cons rfl (sub_cons rfl (sub_cons rfl (sub_cons rfl (sub_cons rfl (sub_cons rfl (sub_cons rfl (sub_cons rfl (sub_cons rfl (sub_cons rfl (sub_cons rfl (sub_cons rfl (sub_cons rfl (sub_cons rfl (sub_cons rfl (sub_cons rfl (sub_cons rfl (sub_cons rfl (sub_cons rfl (sub_cons rfl (sub_cons rfl (sub_cons rfl (sub_cons rfl (sub_cons rfl (sub_cons rfl (sub_cons rfl (sub_cons rfl (sub_cons rfl (sub_cons rfl sub_nil)))))))))))))))))))))))))))))))))))))))))) (sub_cons rfl (sub_cons rfl (sub_cons rfl (sub_cons rfl (sub_cons rfl sub_nil))))) ?_
          refine T_cond_f rfl ?_
          refine T_skip' ?_
          refine p_seq ?_
          refine T_seq (T_region ?_)
          refine TL_q (.pointer (some ⟨B5, 0, none⟩)) (fun _ _ hρ _ => r_indexAddrA (i := 0) ar73 sz3 (hρ _ _ rfl) (hρ _ _ rfl) (by decide)) rfl rfl rfl (w_n rfl) ?_
          refine TL_q (.int .i64 ux) (fun _ _ hρ hm => r_load ag3 (hρ _ _ rfl) (hm.at 3 rfl) rfl) rfl rfl rfl (w_n rfl) ?_
          refine TL_q (.slice ar3 ((l2).length) cr3) (fun _ _ hρ _ => r_move (hρ _ _ rfl)) rfl rfl rfl (w_n rfl) ?_
          refine TL_call (.tuple #[.agg #[.int .i64 0, .int .i64 0, .slice none 0 0], .int .i64 2]) (fun _ _ hρ _ => r_call (args := [.int .i64 ux, .slice ar3 ((l2).length) cr3]) (enters_of Try.func44 (by kernel_rfl) rfl) (hρ _ _ rfl) ((cons2 (hρ _ _ rfl) (cons2 (hρ _ _ rfl) rfl))) rfl) (fun w _ => sof_x ux ar3 ((l2).length) cr3 w (eq_false_of_ne_true s1)) rfl rfl rfl (w_n rfl) ?_
          refine TL_q (.tuple #[.agg #[.int .i64 0, .int .i64 0, .slice none 0 0], .int .i64 2]) (fun _ _ hρ _ => r_move (hρ _ _ rfl)) rfl rfl rfl (w_n rfl) ?_
          refine TL_q (.agg #[.int .i64 0, .int .i64 0, .slice none 0 0]) (fun _ _ hρ _ => r_extract (hρ _ _ rfl) rfl) rfl rfl rfl (w_n rfl) ?_
          refine TL_q (.int .i64 2) (fun _ _ hρ _ => r_extract (hρ _ _ rfl) rfl) rfl rfl rfl (w_n rfl) ?_
          refine TL_new 25 (.cells #[.int .i64 0, .int .i64 0, .slice none 0 0] 75) (fun B => .pointer (some ⟨B, 0, none⟩)) (fun _ _ _ _ => r_alloc (v := .agg #[.int .i64 0, .int .i64 0, .slice none 0 0]) (by kernel_rfl) rfl) rfl rfl rfl (w_n rfl) ?_
          intro B32
          refine TL_store 25 (.cells #[.int .i64 0, .int .i64 0, .slice none 0 0] 75) rfl (fun _ _ hρ hm => r_store sz75 (hρ _ _ rfl) (hρ _ _ rfl) (hm.at 25 rfl) rfl rfl rfl rfl) rfl rfl (w_n rfl) ?_
          refine TL_q (.int .i64 2) (fun _ _ hρ _ => r_assign (hρ _ _ rfl)) rfl rfl rfl (w_n rfl) ?_
          refine TL_seq ?_
          refine T_seq (T_region ?_)
          refine TL_q (.pointer (some ⟨B5, 0, none⟩)) (fun _ _ hρ _ => r_indexAddrA (i := 0) ar73 sz3 (hρ _ _ rfl) (hρ _ _ rfl) (by decide)) rfl rfl rfl (w_n rfl) ?_
          refine TL_q (.int .i64 ux) (fun _ _ hρ hm => r_load ag3 (hρ _ _ rfl) (hm.at 3 rfl) rfl) rfl rfl rfl (w_n rfl) ?_
          refine TL_q (.slice ar3 ((l2).length) cr3) (fun _ _ hρ _ => r_move (hρ _ _ rfl)) rfl rfl rfl (w_n rfl) ?_
          refine TL_q (.agg #[.int .i64 ux, .int .i64 0, .slice ar3 ((l2).length) cr3]) (fun _ _ hρ _ => r_build (vs := [(0, .int .i64 ux), (2, .slice ar3 ((l2).length) cr3)]) (by kernel_rfl) (cons2 (pair2 (hρ _ _ rfl)) (cons2 (pair2 (hρ _ _ rfl)) rfl))) rfl rfl rfl (w_n rfl) ?_
          refine TL_new 26 (.cells #[.int .i64 0, .int .i64 0, .slice none 0 0] 75) (fun B => .pointer (some ⟨B, 0, none⟩)) (fun _ _ _ _ => r_alloc (v := .agg #[.int .i64 0, .int .i64 0, .slice none 0 0]) (by kernel_rfl) rfl) rfl rfl rfl (w_n rfl) ?_
          intro B33
          refine TL_store 26 (.cells #[.int .i64 ux, .int .i64 0, .slice ar3 ((l2).length) cr3] 75) rfl (fun _ _ hρ hm => r_store sz75 (hρ _ _ rfl) (hρ _ _ rfl) (hm.at 26 rfl) rfl rfl rfl rfl) rfl rfl (w_n rfl) ?_
          refine TL_seq ?_
          refine T_seq ?_
          refine T_seq (T_region ?_)
          refine TL_q (.pointer (some ⟨B5, 0, none⟩)) (fun _ _ hρ _ => r_indexAddrA (i := 0) ar73 sz3 (hρ _ _ rfl) (hρ _ _ rfl) (by decide)) rfl rfl rfl (w_n rfl) ?_
          refine TL_q (.int .i64 ux) (fun _ _ hρ hm => r_load ag3 (hρ _ _ rfl) (hm.at 3 rfl) rfl) rfl rfl rfl (w_n rfl) ?_
          refine TL_q (.bool (decide ((0 : Int) < ux))) (fun _ _ hρ _ => r_gtr (hρ _ _ rfl) (hρ _ _ rfl)) rfl rfl rfl (w_n rfl) ?_
          refine TL_seq ?_
          refine T_cond rfl (fun h6 => ?_) (fun h6 => ?_)
          · replace h6 := of_decide_eq_true h6
            obtain ⟨hi, hhi⟩ : ∃ z, IntKind.i64.wrap (Int.tdiv ((l2.length : Nat) : Int) ux) = z := ⟨_, rfl⟩
            refine T_region ?_
            refine TL_q (.slice ar3 ((l2).length) cr3) (fun _ _ hρ _ => r_move (hρ _ _ rfl)) rfl rfl rfl (w_n rfl) ?_
            refine TL_q (.int .i64 (((l2).length : Nat) : Int)) (fun _ _ hρ _ => r_len sl71 (hρ _ _ rfl)) rfl rfl rfl (w_n rfl) ?_
            refine TL_q (.pointer (some ⟨B5, 0, none⟩)) (fun _ _ hρ _ => r_indexAddrA (i := 0) ar73 sz3 (hρ _ _ rfl) (hρ _ _ rfl) (by decide)) rfl rfl rfl (w_n rfl) ?_
            refine TL_q (.int .i64 ux) (fun _ _ hρ hm => r_load ag3 (hρ _ _ rfl) (hm.at 3 rfl) rfl) rfl rfl rfl (w_n rfl) ?_
            refine TL_q (.int .i64 hi) (fun _ _ hρ _ => r_as (r_quo (hρ _ _ rfl) (hρ _ _ rfl) (by omega)) (int_as hhi)) rfl rfl rfl (w_n rfl) ?_
            refine TL_q (.pointer (some ⟨B33, 1, none⟩)) (fun _ _ hρ _ => r_fieldAddr fl75_1 sz3 (hρ _ _ rfl)) rfl rfl rfl (w_n rfl) ?_
            refine TL_store 26 (.cells #[.int .i64 ux, .int .i64 hi, .slice ar3 ((l2).length) cr3] 75) rfl (fun _ _ hρ hm => r_store sz3 (hρ _ _ rfl) (hρ _ _ rfl) (hm.at 26 rfl) rfl rfl rfl rfl) rfl rfl (w_n rfl) ?_
            refine TL_nil ?_
            refine p_seq ?_
            refine T_seq ?_
            refine T_seq (T_region ?_)
            refine TL_q (.agg #[.int .i64 ux, .int .i64 hi, .slice ar3 ((l2).length) cr3]) (fun _ _ hρ hm => r_loadA ag75 sz75 (hρ _ _ rfl) (hm.at 26 rfl) rfl rfl) rfl rfl rfl (w_n rfl) ?_
            refine TL_call (.bool false) (fun _ _ hρ _ => r_call (args := [.agg #[.int .i64 ux, .int .i64 hi, .slice ar3 ((l2).length) cr3]]) (enters_of Try.func45 (by kernel_rfl) rfl) (hρ _ _ rfl) ((cons2 (hρ _ _ rfl) rfl)) rfl) (fun w _ => (rright_c ux hi ar3 ((l2).length) cr3 w).mono fun _ _ h => ⟨h.1.trans (congrArg Ending.returned (bool_as (eq_false_of_ne_true (right_x (eq_false_of_ne_true s1))))), h.2⟩) rfl rfl rfl (w_n rfl) ?_
            refine TL_q (.bool true) (fun _ _ hρ _ => r_not (b := false) (hρ _ _ rfl)) rfl rfl rfl (w_n rfl) ?_
            refine TL_seq ?_
            refine T_cond_t rfl ?_
            refine T_seq ?_
            refine T_seq (T_region ?_)
            refine TL_q (.int .i64 2) (fun _ _ hρ _ => r_move (hρ _ _ rfl)) rfl rfl rfl (w_n rfl) ?_
            refine TL_q (.bool false) (fun _ _ hρ _ => r_as (r_neq (hρ _ _ rfl) (hρ _ _ rfl)) (by rfl)) rfl rfl rfl (w_n rfl) ?_
            refine TL_q (.bool false) (fun _ _ hρ _ => r_move (hρ _ _ rfl)) rfl rfl rfl (w_n rfl) ?_
            refine TL_q (.agg #[.int .i64 0, .int .i64 0, .slice none 0 0]) (fun _ _ hρ hm => r_loadA ag75 sz75 (hρ _ _ rfl) (hm.at 25 rfl) rfl rfl) rfl rfl rfl (want_y 107 rfl rfl rfl) ?_
            refine TL_q (.agg #[.int .i64 0, .int .i64 0, .slice none 0 0]) (fun _ _ _ _ => r_build (vs := []) (by kernel_rfl) rfl) rfl rfl rfl (want_y 107 rfl rfl rfl) ?_
            refine TL_call (.bool true) (fun _ _ hρ _ => r_call (args := [.agg #[.int .i64 0, .int .i64 0, .slice none 0 0], .agg #[.int .i64 0, .int .i64 0, .slice none 0 0]]) (enters_of Try.func43 (by kernel_rfl) rfl) (hρ _ _ rfl) ((cons2 (hρ _ _ rfl) (cons2 (hρ _ _ rfl) rfl))) rfl) (fun w _ => (srsame_n (0 : Int) (0 : Int) [] none 0 w (sliceNil w) (by decide) (0 : Int) (0 : Int) [] none 0 (sliceNil w) (by decide) (by first | omega | (simp; done) | (simp; omega)) (by first | omega | (simp; done) | (simp; omega)) 0 rfl 0 rfl).mono fun _ _ h => ⟨h.1.trans (congrArg Ending.returned (bool_as (decide_eq_true ⟨rfl, rfl, rfl⟩))), h.2⟩) rfl rfl rfl (want_y 107 rfl rfl rfl) ?_
            refine TL_q (.bool false) (fun _ _ hρ _ => r_not (b := true) (hρ _ _ rfl)) rfl rfl rfl (want_y 107 rfl rfl rfl) ?_
            refine TL_q (.bool false) (fun _ _ hρ _ => r_pick_f (hρ _ _ rfl) (hρ _ _ rfl)) rfl rfl rfl (w_n rfl) ?_
            refine TL_seq ?_
            refine T_sub [(2, .slice ax x.length cx), (4, .pointer (some ⟨B1, 0, none⟩)), (7, .slice ar3 ((l2).length) cr3), (26, .slice (some ⟨b4, of4, none⟩) l.length cl), (27, .int .i64 ((l.length : Nat) : Int)), (28, .int .i64 ((k : Nat) : Int)), (29, .bool (decide (((k : Nat) : Int) < ((l.length : Nat) : Int)))), (30, .int .i64 ((k : Nat) : Int)), (31, .pointer (some ⟨b4, of4 + k * 2, none⟩)), (32, .agg #[.int .i64 ux, .int .i64 ((q : Nat) : Int)]), (9, .pointer (some ⟨B5, 0, none⟩)), (8, .int .i64 ((k : Nat) : Int)), (33, .int .i64 ((k : Nat) : Int)), (34, .bool (decide (((k : Nat) : Int) = 10))), (36, .pointer (some ⟨B5, 0, none⟩)), (37, .int .i64 ux), (38, .pointer (some ⟨B5, 1, none⟩)), (39, .int .i64 ((q : Nat) : Int)), (40, .agg #[.int .u8 c.r, .int .u8 c.g, .int .u8 c.b, .int .u8 c.a]), (41, .tuple #[.agg #[.int .i64 0, .int .i64 0, .slice none 0 0], .int .i64 2]), (35, .tuple #[.agg #[.int .i64 0, .int .i64 0, .slice none 0 0], .int .i64 2]), (42, .agg #[.int .i64 0, .int .i64 0, .slice none 0 0]), (43, .int .i64 2), (10, .pointer (some ⟨B30, 0, none⟩)), (44, .agg #[.int .i64 0, .int .i64 0, .slice none 0 0]), (12, .pointer (some ⟨B31, 0, none⟩)), (13, .int .i64 2), (45, .pointer (some ⟨B5, 0, none⟩)), (46, .int .i64 ux), (47, .pointer (some ⟨B5, 1, none⟩)), (48, .int .i64 ((q : Nat) : Int)), (49, .bool false), (73, .int .i64 2), (74, .int .i64 2), (75, .bool false), (76, .bool false), (77, .agg #[.int .i64 0, .int .i64 0, .slice none 0 0]), (78, .agg #[.int .i64 0, .int .i64 0, .slice none 0 0]), (79, .bool true), (80, .bool false), (81, .bool false), (83, .pointer (some ⟨B5, 0, none⟩)), (84, .int .i64 ux), (85, .slice ar3 ((l2).length) cr3), (86, .tuple #[.agg #[.int .i64 0, .int .i64 0, .slice none 0 0], .int .i64 2]), (82, .tuple #[.agg #[.int .i64 0, .int .i64 0, .slice none 0 0], .int .i64 2]), (87, .agg #[.int .i64 0, .int .i64 0, .slice none 0 0]), (88, .int .i64 2), (15, .pointer (some ⟨B32, 0, none⟩)), (11, .int .i64 2), (89, .pointer (some ⟨B5, 0, none⟩)), (90, .int .i64 ux), (91, .slice ar3 ((l2).length) cr3), (92, .agg #[.int .i64 ux, .int .i64 0, .slice ar3 ((l2).length) cr3]), (16, .pointer (some ⟨B33, 0, none⟩)), (93, .pointer (some ⟨B5, 0, none⟩)), (94, .int .i64 ux), (95, .bool (decide ((0 : Int) < ux))), (96, .slice ar3 ((l2).length) cr3), (97, .int .i64 (((l2).length : Nat) : Int)), (98, .pointer (some ⟨B5, 0, none⟩)), (99, .int .i64 ux), (100, .int .i64 hi), (101, .pointer (some ⟨B33, 1, none⟩)), (102, .agg #[.int .i64 ux, .int .i64 hi, .slice ar3 ((l2).length) cr3]), (103, .bool false), (104, .bool true), (105, .int .i64 2), (106, .bool false), (107, .bool false), (108, .agg #[.int .i64 0, .int .i64 0, .slice none 0 0]), (109, .agg #[.int .i64 0, .int .i64 0, .slice none 0 0]), (110, .bool true), (111, .bool false), (112, .bool false)] [(2, .row (.slice ar3 ((l2).length) cr3) 37 4 ((l2).length) ((l2).flatMap C4.cells)), (1, .blk B1 (.cells #[.int .u8 c.r, .int .u8 c.g, .int .u8 c.b, .int .u8 c.a] 37)), (3, .blk B5 (.cells #[.int .i64 ux, .int .i64 ((q : Nat) : Int)] 73)), (23, .blk B30 (.cells #[.int .i64 0, .int .i64 0, .slice none 0 0] 75)), (24, .blk B31 (.cells #[.int .i64 0, .int .i64 0, .slice none 0 0] 75)), (25, .blk B32 (.cells #[.int .i64 0, .int .i64 0, .slice none 0 0] 75)), (26, .blk B33 (.cells #[.int .i64 ux, .int .i64 hi, .slice ar3 ((l2).length) cr3] 75))] (sub_cons rfl (sub_cons rfl (sub_cons rfl (sub_cons rfl (sub_cons rfl (sub_cons rfl (sub_cons rfl (sub_cons rfl (sub_cons rfl (sub_cons rfl (sub_cons rfl (sub_cons rfl (sub_cons rfl (sub_cons rfl (sub_cons rfl (sub_cons rfl (sub_cons rfl (sub_cons rfl (sub_cons rfl (sub_cons rfl (sub_cons rfl (sub_cons rfl (sub_cons rfl (sub_cons rfl (sub_cons rfl (sub_cons rfl (sub_cons rfl (sub_cons rfl (sub_cons rfl (sub_cons rfl (sub_cons rfl (sub_cons rfl (sub_cons rfl (sub_cons rfl (sub_cons rfl (sub_cons rfl (sub_cons rfl (sub_cons rfl (sub_cons rfl (sub_cons rfl (sub_cons rfl (sub_cons rfl (sub_cons rfl (sub_cons rfl (sub_cons rfl (sub_cons rfl (sub_cons rfl (sub_cons rfl (sub_cons rfl (sub_cons rfl (sub_cons rfl (sub_cons rfl (sub_cons rfl (sub_cons rfl (sub_cons rfl (sub_cons rfl (sub_cons rfl (sub_cons rfl (sub_cons rfl (sub_cons rfl (sub_cons rfl (sub_cons rfl (sub_cons rfl (sub_cons rfl (sub_cons rfl (sub_cons rfl (sub_cons rfl (sub_cons rfl (sub_cons rfl (sub_cons rfl (sub_cons rfl (sub_cons rfl (sub_cons rfl (sub_cons rfl (sub_cons rfl sub_nil))))))))))))))))))))))))))))))))))))))))))))))))))))))))))))))))))))))))))) (sub_cons rfl (sub_cons rfl (sub_cons rfl (sub_cons rfl (sub_cons rfl (sub_cons rfl (sub_cons rfl sub_nil))))))) ?_
            refine T_cond_f rfl ?_
            refine T_skip' ?_
            refine p_seq ?_
            refine T_exit' ?_
            refine p_then_x ?_
            refine p_blk_x ?_
            refine p_seq ?_
            refine T_region ?_
            refine TL_q (.int .i64 ((k + 1 : Nat) : Int)) (fun _ _ hρ _ => r_as (r_add (hρ _ _ rfl) (hρ _ _ rfl)) (int_as ((wrap64 (by omega) (by omega)).trans (by omega)))) rfl rfl rfl (w_n rfl) ?_
            refine TL_q (.int .i64 ((k + 1 : Nat) : Int)) (fun _ _ hρ _ => r_move (hρ _ _ rfl)) rfl rfl rfl (w_n rfl) ?_
            refine TL_nil ?_
            exact p_at (k + 1) ⟨by omega, by omega⟩ (sub_cons rfl (sub_cons rfl (sub_cons rfl (sub_cons rfl (sub_cons rfl (sub_cons rfl sub_nil)))))) (sub_cons rfl (sub_cons rfl sub_nil))
          · replace h6 := of_decide_eq_false h6
            refine T_skip' ?_
            refine p_seq ?_
            refine T_seq ?_
            refine T_seq (T_region ?_)
            refine TL_q (.agg #[.int .i64 ux, .int .i64 0, .slice ar3 ((l2).length) cr3]) (fun _ _ hρ hm => r_loadA ag75 sz75 (hρ _ _ rfl) (hm.at 26 rfl) rfl rfl) rfl rfl rfl (w_n rfl) ?_
            refine TL_call (.bool false) (fun _ _ hρ _ => r_call (args := [.agg #[.int .i64 ux, .int .i64 0, .slice ar3 ((l2).length) cr3]]) (enters_of Try.func45 (by kernel_rfl) rfl) (hρ _ _ rfl) ((cons2 (hρ _ _ rfl) rfl)) rfl) (fun w _ => (rright_c ux 0 ar3 ((l2).length) cr3 w).mono fun _ _ h => ⟨h.1.trans (congrArg Ending.returned (bool_as (eq_false_of_ne_true (right_x (eq_false_of_ne_true s1))))), h.2⟩) rfl rfl rfl (w_n rfl) ?_
            refine TL_q (.bool true) (fun _ _ hρ _ => r_not (b := false) (hρ _ _ rfl)) rfl rfl rfl (w_n rfl) ?_
            refine TL_seq ?_
            refine T_cond_t rfl ?_
            refine T_seq ?_
            refine T_seq (T_region ?_)
            refine TL_q (.int .i64 2) (fun _ _ hρ _ => r_move (hρ _ _ rfl)) rfl rfl rfl (w_n rfl) ?_
            refine TL_q (.bool false) (fun _ _ hρ _ => r_as (r_neq (hρ _ _ rfl) (hρ _ _ rfl)) (by rfl)) rfl rfl rfl (w_n rfl) ?_
            refine TL_q (.bool false) (fun _ _ hρ _ => r_move (hρ _ _ rfl)) rfl rfl rfl (w_n rfl) ?_
            refine TL_q (.agg #[.int .i64 0, .int .i64 0, .slice none 0 0]) (fun _ _ hρ hm => r_loadA ag75 sz75 (hρ _ _ rfl) (hm.at 25 rfl) rfl rfl) rfl rfl rfl (want_y 107 rfl rfl rfl) ?_
            refine TL_q (.agg #[.int .i64 0, .int .i64 0, .slice none 0 0]) (fun _ _ _ _ => r_build (vs := []) (by kernel_rfl) rfl) rfl rfl rfl (want_y 107 rfl rfl rfl) ?_
            refine TL_call (.bool true) (fun _ _ hρ _ => r_call (args := [.agg #[.int .i64 0, .int .i64 0, .slice none 0 0], .agg #[.int .i64 0, .int .i64 0, .slice none 0 0]]) (enters_of Try.func43 (by kernel_rfl) rfl) (hρ _ _ rfl) ((cons2 (hρ _ _ rfl) (cons2 (hρ _ _ rfl) rfl))) rfl) (fun w _ => (srsame_n (0 : Int) (0 : Int) [] none 0 w (sliceNil w) (by decide) (0 : Int) (0 : Int) [] none 0 (sliceNil w) (by decide) (by first | omega | (simp; done) | (simp; omega)) (by first | omega | (simp; done) | (simp; omega)) 0 rfl 0 rfl).mono fun _ _ h => ⟨h.1.trans (congrArg Ending.returned (bool_as (decide_eq_true ⟨rfl, rfl, rfl⟩))), h.2⟩) rfl rfl rfl (want_y 107 rfl rfl rfl) ?_
            refine TL_q (.bool false) (fun _ _ hρ _ => r_not (b := true) (hρ _ _ rfl)) rfl rfl rfl (want_y 107 rfl rfl rfl) ?_
            refine TL_q (.bool false) (fun _ _ hρ _ => r_pick_f (hρ _ _ rfl) (hρ _ _ rfl)) rfl rfl rfl (w_n rfl) ?_
            refine TL_seq ?_
            refine T_cond_f rfl ?_
            refine T_skip' ?_
            refine p_seq ?_
            refine T_exit' ?_
            refine p_then_x ?_
            refine p_blk_x ?_
            refine p_seq ?_
            refine T_region ?_
            refine TL_q (.int .i64 ((k + 1 : Nat) : Int)) (fun _ _ hρ _ => r_as (r_add (hρ _ _ rfl) (hρ _ _ rfl)) (int_as ((wrap64 (by omega) (by omega)).trans (by omega)))) rfl rfl rfl (w_n rfl) ?_
            refine TL_q (.int .i64 ((k + 1 : Nat) : Int)) (fun _ _ hρ _ => r_move (hρ _ _ rfl)) rfl rfl rfl (w_n rfl) ?_
            refine TL_nil ?_
            exact p_at (k + 1) ⟨by omega, by omega⟩ (sub_cons rfl (sub_cons rfl (sub_cons rfl (sub_cons rfl (sub_cons rfl (sub_cons rfl sub_nil)))))) (sub_cons rfl (sub_cons rfl sub_nil))
        · skip
          refine T_seq (T_region ?_)
          refine TL_q (.pointer (some ⟨B5, 0, none⟩)) (fun _ _ hρ _ => r_indexAddrA (i := 0) ar73 sz3 (hρ _ _ rfl) (hρ _ _ rfl) (by decide)) rfl rfl rfl (w_n rfl) ?_
          refine TL_q (.int .i64 ux) (fun _ _ hρ hm => r_load ag3 (hρ _ _ rfl) (hm.at 3 rfl) rfl) rfl rfl rfl (w_n rfl) ?_
          refine TL_q (.pointer (some ⟨B5, 1, none⟩)) (fun _ _ hρ _ => r_indexAddrA (i := 1) ar73 sz3 (hρ _ _ rfl) (hρ _ _ rfl) (by decide)) rfl rfl rfl (w_n rfl) ?_
          refine TL_q (.int .i64 uy) (fun _ _ hρ hm => r_load ag3 (hρ _ _ rfl) (hm.at 3 rfl) rfl) rfl rfl rfl (w_n rfl) ?_
          refine TL_q (.agg #[.int .u8 c.r, .int .u8 c.g, .int .u8 c.b, .int .u8 c.a]) (fun _ _ hρ hm => r_loadA ag37 sz37 (hρ _ _ rfl) (hm.at 1 rfl) rfl rfl) rfl rfl rfl (w_n rfl) ?_
          refine TL_call (.tuple #[.agg #[.int .i64 0, .int .i64 0, .slice none 0 0], .int .i64 2]) (fun _ _ hρ _ => r_call (args := [.int .i64 ux, .int .i64 uy, .agg #[.int .u8 c.r, .int .u8 c.g, .int .u8 c.b, .int .u8 c.a]]) (enters_of Try.func41 (by kernel_rfl) rfl) (hρ _ _ rfl) ((cons2 (hρ _ _ rfl) (cons2 (hρ _ _ rfl) (cons2 (hρ _ _ rfl) rfl)))) rfl) (fun w _ => snew_no ux uy c w (by rw [eq_false_of_ne_true s1]; simp)) rfl rfl rfl (w_n rfl) ?_
          refine TL_q (.tuple #[.agg #[.int .i64 0, .int .i64 0, .slice none 0 0], .int .i64 2]) (fun _ _ hρ _ => r_move (hρ _ _ rfl)) rfl rfl rfl (w_n rfl) ?_
          refine TL_q (.agg #[.int .i64 0, .int .i64 0, .slice none 0 0]) (fun _ _ hρ _ => r_extract (hρ _ _ rfl) rfl) rfl rfl rfl (w_n rfl) ?_
          refine TL_q (.int .i64 2) (fun _ _ hρ _ => r_extract (hρ _ _ rfl) rfl) rfl rfl rfl (w_n rfl) ?_
          refine TL_new 27 (.cells #[.int .i64 0, .int .i64 0, .slice none 0 0] 75) (fun B => .pointer (some ⟨B, 0, none⟩)) (fun _ _ _ _ => r_alloc (v := .agg #[.int .i64 0, .int .i64 0, .slice none 0 0]) (by kernel_rfl) rfl) rfl rfl rfl (w_n rfl) ?_
          intro B34
          refine TL_store 27 (.cells #[.int .i64 0, .int .i64 0, .slice none 0 0] 75) rfl (fun _ _ hρ hm => r_store sz75 (hρ _ _ rfl) (hρ _ _ rfl) (hm.at 27 rfl) rfl rfl rfl rfl) rfl rfl (w_n rfl) ?_
          refine TL_q (.int .i64 2) (fun _ _ hρ _ => r_assign (hρ _ _ rfl)) rfl rfl rfl (w_n rfl) ?_
          refine TL_seq ?_
          refine T_seq (T_region ?_)
          refine TL_q (.agg #[.int .i64 0, .int .i64 0, .slice none 0 0]) (fun _ _ _ _ => r_build (vs := []) (by kernel_rfl) rfl) rfl rfl rfl (w_n rfl) ?_
          refine TL_new 28 (.cells #[.int .i64 0, .int .i64 0, .slice none 0 0] 75) (fun B => .pointer (some ⟨B, 0, none⟩)) (fun _ _ _ _ => r_alloc (v := .agg #[.int .i64 0, .int .i64 0, .slice none 0 0]) (by kernel_rfl) rfl) rfl rfl rfl (w_n rfl) ?_
          intro B35
          refine TL_store 28 (.cells #[.int .i64 0, .int .i64 0, .slice none 0 0] 75) rfl (fun _ _ hρ hm => r_store sz75 (hρ _ _ rfl) (hρ _ _ rfl) (hm.at 28 rfl) rfl rfl rfl rfl) rfl rfl (w_n rfl) ?_
          refine TL_q (.int .i64 2) (fun _ _ hρ _ => r_assign (hρ _ _ rfl)) rfl rfl rfl (w_n rfl) ?_
          refine TL_seq ?_
          refine T_seq ?_
          refine T_seq (T_region ?_)
          refine TL_q (.pointer (some ⟨B5, 0, none⟩)) (fun _ _ hρ _ => r_indexAddrA (i := 0) ar73 sz3 (hρ _ _ rfl) (hρ _ _ rfl) (by decide)) rfl rfl rfl (w_n rfl) ?_
          refine TL_q (.int .i64 ux) (fun _ _ hρ hm => r_load ag3 (hρ _ _ rfl) (hm.at 3 rfl) rfl) rfl rfl rfl (w_n rfl) ?_
          refine TL_q (.pointer (some ⟨B5, 1, none⟩)) (fun _ _ hρ _ => r_indexAddrA (i := 1) ar73 sz3 (hρ _ _ rfl) (hρ _ _ rfl) (by decide)) rfl rfl rfl (w_n rfl) ?_
          refine TL_q (.int .i64 uy) (fun _ _ hρ hm => r_load ag3 (hρ _ _ rfl) (hm.at 3 rfl) rfl) rfl rfl rfl (w_n rfl) ?_
          refine TL_call (.bool false) (fun _ _ hρ _ => r_call (args := [.int .i64 ux, .int .i64 uy]) (enters_of Try.func42 (by kernel_rfl) rfl) (hρ _ _ rfl) ((cons2 (hρ _ _ rfl) (cons2 (hρ _ _ rfl) rfl))) rfl) (fun w _ => (rsides_c ux uy w).mono fun _ _ h => ⟨h.1.trans (congrArg Ending.returned (bool_as (by rw [(eq_false_of_ne_true s1)]; rfl))), h.2⟩) rfl rfl rfl (w_n rfl) ?_
          refine TL_seq ?_
          refine T_cond_f rfl ?_
          refine T_skip' ?_
          refine p_seq ?_
          refine T_seq ?_
          refine T_seq (T_region ?_)
          refine TL_q (.int .i64 2) (fun _ _ hρ _ => r_move (hρ _ _ rfl)) rfl rfl rfl (w_n rfl) ?_
          refine TL_q (.int .i64 2) (fun _ _ hρ _ => r_move (hρ _ _ rfl)) rfl rfl rfl (w_n rfl) ?_
          refine TL_q (.bool false) (fun _ _ hρ _ => r_as (r_neq (hρ _ _ rfl) (hρ _ _ rfl)) (by rfl)) rfl rfl rfl (w_n rfl) ?_
          refine TL_q (.bool false) (fun _ _ hρ _ => r_move (hρ _ _ rfl)) rfl rfl rfl (w_n rfl) ?_
          refine TL_q (.agg #[.int .i64 0, .int .i64 0, .slice none 0 0]) (fun _ _ hρ hm => r_loadA ag75 sz75 (hρ _ _ rfl) (hm.at 27 rfl) rfl rfl) rfl rfl rfl (want_y 76 rfl rfl rfl) ?_
          refine TL_q (.agg #[.int .i64 0, .int .i64 0, .slice none 0 0]) (fun _ _ hρ hm => r_loadA ag75 sz75 (hρ _ _ rfl) (hm.at 28 rfl) rfl rfl) rfl rfl rfl (want_y 76 rfl rfl rfl) ?_
          refine TL_call (.bool true) (fun _ _ hρ _ => r_call (args := [.agg #[.int .i64 0, .int .i64 0, .slice none 0 0], .agg #[.int .i64 0, .int .i64 0, .slice none 0 0]]) (enters_of Try.func43 (by kernel_rfl) rfl) (hρ _ _ rfl) ((cons2 (hρ _ _ rfl) (cons2 (hρ _ _ rfl) rfl))) rfl) (fun w _ => (srsame_n (0 : Int) (0 : Int) [] none 0 w (sliceNil w) (by decide) (0 : Int) (0 : Int) [] none 0 (sliceNil w) (by decide) (by first | omega | (simp; done) | (simp; omega)) (by first | omega | (simp; done) | (simp; omega)) 0 rfl 0 rfl).mono fun _ _ h => ⟨h.1.trans (congrArg Ending.returned (bool_as (decide_eq_true ⟨rfl, rfl, rfl⟩))), h.2⟩) rfl rfl rfl (want_y 76 rfl rfl rfl) ?_
          refine TL_q (.bool false) (fun _ _ hρ _ => r_not (b := true) (hρ _ _ rfl)) rfl rfl rfl (want_y 76 rfl rfl rfl) ?_
          refine TL_q (.bool false) (fun _ _ hρ _ => r_pick_f (hρ _ _ rfl) (hρ _ _ rfl)) rfl rfl rfl (w_n rfl) ?_
          refine TL_seq ?_
          refine T_sub [(2, .slice ax x.length cx), (4, .pointer (some ⟨B1, 0, none⟩)), (7, .slice ar3 ((l2).length) cr3), (26, .slice (some ⟨b4, of4, none⟩) l.length cl), (27, .int .i64 ((l.length : Nat) : Int)), (28, .int .i64 ((k : Nat) : Int)), (29, .bool (decide (((k : Nat) : Int) < ((l.length : Nat) : Int)))), (30, .int .i64 ((k : Nat) : Int)), (31, .pointer (some ⟨b4, of4 + k * 2, none⟩)), (32, .agg #[.int .i64 ux, .int .i64 uy]), (9, .pointer (some ⟨B5, 0, none⟩)), (8, .int .i64 ((k : Nat) : Int)), (33, .int .i64 ((k : Nat) : Int)), (34, .bool (decide (((k : Nat) : Int) = 10))), (36, .pointer (some ⟨B5, 0, none⟩)), (37, .int .i64 ux), (38, .pointer (some ⟨B5, 1, none⟩)), (39, .int .i64 uy), (40, .agg #[.int .u8 c.r, .int .u8 c.g, .int .u8 c.b, .int .u8 c.a]), (41, .tuple #[.agg #[.int .i64 0, .int .i64 0, .slice none 0 0], .int .i64 2]), (35, .tuple #[.agg #[.int .i64 0, .int .i64 0, .slice none 0 0], .int .i64 2]), (42, .agg #[.int .i64 0, .int .i64 0, .slice none 0 0]), (43, .int .i64 2), (10, .pointer (some ⟨B34, 0, none⟩)), (11, .int .i64 2), (44, .agg #[.int .i64 0, .int .i64 0, .slice none 0 0]), (12, .pointer (some ⟨B35, 0, none⟩)), (13, .int .i64 2), (45, .pointer (some ⟨B5, 0, none⟩)), (46, .int .i64 ux), (47, .pointer (some ⟨B5, 1, none⟩)), (48, .int .i64 uy), (49, .bool false), (73, .int .i64 2), (74, .int .i64 2), (75, .bool false), (76, .bool false), (77, .agg #[.int .i64 0, .int .i64 0, .slice none 0 0]), (78, .agg #[.int .i64 0, .int .i64 0, .slice none 0 0]), (79, .bool true), (80, .bool false), (81, .bool false)] [(2, .row (.slice ar3 ((l2).length) cr3) 37 4 ((l2).length) ((l2).flatMap C4.cells)), (1, .blk B1 (.cells #[.int .u8 c.r, .int .u8 c.g, .int .u8 c.b, .int .u8 c.a] 37)), (3, .blk B5 (.cells #[.int .i64 ux, .int .i64 uy] 73)), (27, .blk B34 (.cells #[.int .i64 0, .int .i64 0, .slice none 0 0] 75)), (28, .blk B35 (.cells #[.int .i64 0, .int .i64 0, .slice none 0 0] 75))] (sub_cons rfl (sub_cons rfl (sub_cons rfl (sub_cons rfl (sub_cons rfl (sub_cons rfl (sub_cons rfl (sub_cons rfl (sub_cons rfl (sub_cons rfl (sub_cons rfl (sub_cons rfl (sub_cons rfl (sub_cons rfl (sub_cons rfl (sub_cons rfl (sub_cons rfl (sub_cons rfl (sub_cons rfl (sub_cons rfl (sub_cons rfl (sub_cons rfl (sub_cons rfl (sub_cons rfl (sub_cons rfl (sub_cons rfl (sub_cons rfl (sub_cons rfl (sub_cons rfl (sub_cons rfl (sub_cons rfl (sub_cons rfl (sub_cons rfl (sub_cons rfl (sub_cons rfl (sub_cons rfl (sub_cons rfl (sub_cons rfl (sub_cons rfl (sub_cons rfl (sub_cons rfl (sub_cons rfl sub_nil)))))))))))))))))))))))))))))))))))))))))) (sub_cons rfl (sub_cons rfl (sub_cons rfl (sub_cons rfl (sub_cons rfl sub_nil))))) ?_
          refine T_cond_f rfl ?_
          refine T_skip' ?_
          refine p_seq ?_
          refine T_seq (T_region ?_)
          refine TL_q (.pointer (some ⟨B5, 0, none⟩)) (fun _ _ hρ _ => r_indexAddrA (i := 0) ar73 sz3 (hρ _ _ rfl) (hρ _ _ rfl) (by decide)) rfl rfl rfl (w_n rfl) ?_
          refine TL_q (.int .i64 ux) (fun _ _ hρ hm => r_load ag3 (hρ _ _ rfl) (hm.at 3 rfl) rfl) rfl rfl rfl (w_n rfl) ?_
          refine TL_q (.slice ar3 ((l2).length) cr3) (fun _ _ hρ _ => r_move (hρ _ _ rfl)) rfl rfl rfl (w_n rfl) ?_
          refine TL_call (.tuple #[.agg #[.int .i64 0, .int .i64 0, .slice none 0 0], .int .i64 2]) (fun _ _ hρ _ => r_call (args := [.int .i64 ux, .slice ar3 ((l2).length) cr3]) (enters_of Try.func44 (by kernel_rfl) rfl) (hρ _ _ rfl) ((cons2 (hρ _ _ rfl) (cons2 (hρ _ _ rfl) rfl))) rfl) (fun w _ => sof_x ux ar3 ((l2).length) cr3 w (eq_false_of_ne_true s1)) rfl rfl rfl (w_n rfl) ?_
          refine TL_q (.tuple #[.agg #[.int .i64 0, .int .i64 0, .slice none 0 0], .int .i64 2]) (fun _ _ hρ _ => r_move (hρ _ _ rfl)) rfl rfl rfl (w_n rfl) ?_
          refine TL_q (.agg #[.int .i64 0, .int .i64 0, .slice none 0 0]) (fun _ _ hρ _ => r_extract (hρ _ _ rfl) rfl) rfl rfl rfl (w_n rfl) ?_
          refine TL_q (.int .i64 2) (fun _ _ hρ _ => r_extract (hρ _ _ rfl) rfl) rfl rfl rfl (w_n rfl) ?_
          refine TL_new 29 (.cells #[.int .i64 0, .int .i64 0, .slice none 0 0] 75) (fun B => .pointer (some ⟨B, 0, none⟩)) (fun _ _ _ _ => r_alloc (v := .agg #[.int .i64 0, .int .i64 0, .slice none 0 0]) (by kernel_rfl) rfl) rfl rfl rfl (w_n rfl) ?_
          intro B36
          refine TL_store 29 (.cells #[.int .i64 0, .int .i64 0, .slice none 0 0] 75) rfl (fun _ _ hρ hm => r_store sz75 (hρ _ _ rfl) (hρ _ _ rfl) (hm.at 29 rfl) rfl rfl rfl rfl) rfl rfl (w_n rfl) ?_
          refine TL_q (.int .i64 2) (fun _ _ hρ _ => r_assign (hρ _ _ rfl)) rfl rfl rfl (w_n rfl) ?_
          refine TL_seq ?_
          refine T_seq (T_region ?_)
          refine TL_q (.pointer (some ⟨B5, 0, none⟩)) (fun _ _ hρ _ => r_indexAddrA (i := 0) ar73 sz3 (hρ _ _ rfl) (hρ _ _ rfl) (by decide)) rfl rfl rfl (w_n rfl) ?_
          refine TL_q (.int .i64 ux) (fun _ _ hρ hm => r_load ag3 (hρ _ _ rfl) (hm.at 3 rfl) rfl) rfl rfl rfl (w_n rfl) ?_
          refine TL_q (.slice ar3 ((l2).length) cr3) (fun _ _ hρ _ => r_move (hρ _ _ rfl)) rfl rfl rfl (w_n rfl) ?_
          refine TL_q (.agg #[.int .i64 ux, .int .i64 0, .slice ar3 ((l2).length) cr3]) (fun _ _ hρ _ => r_build (vs := [(0, .int .i64 ux), (2, .slice ar3 ((l2).length) cr3)]) (by kernel_rfl) (cons2 (pair2 (hρ _ _ rfl)) (cons2 (pair2 (hρ _ _ rfl)) rfl))) rfl rfl rfl (w_n rfl) ?_
          refine TL_new 30 (.cells #[.int .i64 0, .int .i64 0, .slice none 0 0] 75) (fun B => .pointer (some ⟨B, 0, none⟩)) (fun _ _ _ _ => r_alloc (v := .agg #[.int .i64 0, .int .i64 0, .slice none 0 0]) (by kernel_rfl) rfl) rfl rfl rfl (w_n rfl) ?_
          intro B37
          refine TL_store 30 (.cells #[.int .i64 ux, .int .i64 0, .slice ar3 ((l2).length) cr3] 75) rfl (fun _ _ hρ hm => r_store sz75 (hρ _ _ rfl) (hρ _ _ rfl) (hm.at 30 rfl) rfl rfl rfl rfl) rfl rfl (w_n rfl) ?_
          refine TL_seq ?_
          refine T_seq ?_
          refine T_seq (T_region ?_)
          refine TL_q (.pointer (some ⟨B5, 0, none⟩)) (fun _ _ hρ _ => r_indexAddrA (i := 0) ar73 sz3 (hρ _ _ rfl) (hρ _ _ rfl) (by decide)) rfl rfl rfl (w_n rfl) ?_
          refine TL_q (.int .i64 ux) (fun _ _ hρ hm => r_load ag3 (hρ _ _ rfl) (hm.at 3 rfl) rfl) rfl rfl rfl (w_n rfl) ?_
          refine TL_q (.bool (decide ((0 : Int) < ux))) (fun _ _ hρ _ => r_gtr (hρ _ _ rfl) (hρ _ _ rfl)) rfl rfl rfl (w_n rfl) ?_
          refine TL_seq ?_
          refine T_cond rfl (fun h7 => ?_) (fun h7 => ?_)
          · replace h7 := of_decide_eq_true h7
            obtain ⟨hi, hhi⟩ : ∃ z, IntKind.i64.wrap (Int.tdiv ((l2.length : Nat) : Int) ux) = z := ⟨_, rfl⟩
            refine T_region ?_
            refine TL_q (.slice ar3 ((l2).length) cr3) (fun _ _ hρ _ => r_move (hρ _ _ rfl)) rfl rfl rfl (w_n rfl) ?_
            refine TL_q (.int .i64 (((l2).length : Nat) : Int)) (fun _ _ hρ _ => r_len sl71 (hρ _ _ rfl)) rfl rfl rfl (w_n rfl) ?_
            refine TL_q (.pointer (some ⟨B5, 0, none⟩)) (fun _ _ hρ _ => r_indexAddrA (i := 0) ar73 sz3 (hρ _ _ rfl) (hρ _ _ rfl) (by decide)) rfl rfl rfl (w_n rfl) ?_
            refine TL_q (.int .i64 ux) (fun _ _ hρ hm => r_load ag3 (hρ _ _ rfl) (hm.at 3 rfl) rfl) rfl rfl rfl (w_n rfl) ?_
            refine TL_q (.int .i64 hi) (fun _ _ hρ _ => r_as (r_quo (hρ _ _ rfl) (hρ _ _ rfl) (by omega)) (int_as hhi)) rfl rfl rfl (w_n rfl) ?_
            refine TL_q (.pointer (some ⟨B37, 1, none⟩)) (fun _ _ hρ _ => r_fieldAddr fl75_1 sz3 (hρ _ _ rfl)) rfl rfl rfl (w_n rfl) ?_
            refine TL_store 30 (.cells #[.int .i64 ux, .int .i64 hi, .slice ar3 ((l2).length) cr3] 75) rfl (fun _ _ hρ hm => r_store sz3 (hρ _ _ rfl) (hρ _ _ rfl) (hm.at 30 rfl) rfl rfl rfl rfl) rfl rfl (w_n rfl) ?_
            refine TL_nil ?_
            refine p_seq ?_
            refine T_seq ?_
            refine T_seq (T_region ?_)
            refine TL_q (.agg #[.int .i64 ux, .int .i64 hi, .slice ar3 ((l2).length) cr3]) (fun _ _ hρ hm => r_loadA ag75 sz75 (hρ _ _ rfl) (hm.at 30 rfl) rfl rfl) rfl rfl rfl (w_n rfl) ?_
            refine TL_call (.bool false) (fun _ _ hρ _ => r_call (args := [.agg #[.int .i64 ux, .int .i64 hi, .slice ar3 ((l2).length) cr3]]) (enters_of Try.func45 (by kernel_rfl) rfl) (hρ _ _ rfl) ((cons2 (hρ _ _ rfl) rfl)) rfl) (fun w _ => (rright_c ux hi ar3 ((l2).length) cr3 w).mono fun _ _ h => ⟨h.1.trans (congrArg Ending.returned (bool_as (eq_false_of_ne_true (right_x (eq_false_of_ne_true s1))))), h.2⟩) rfl rfl rfl (w_n rfl) ?_
            refine TL_q (.bool true) (fun _ _ hρ _ => r_not (b := false) (hρ _ _ rfl)) rfl rfl rfl (w_n rfl) ?_
            refine TL_seq ?_
            refine T_cond_t rfl ?_
            refine T_seq ?_
            refine T_seq (T_region ?_)
            refine TL_q (.int .i64 2) (fun _ _ hρ _ => r_move (hρ _ _ rfl)) rfl rfl rfl (w_n rfl) ?_
            refine TL_q (.bool false) (fun _ _ hρ _ => r_as (r_neq (hρ _ _ rfl) (hρ _ _ rfl)) (by rfl)) rfl rfl rfl (w_n rfl) ?_
            refine TL_q (.bool false) (fun _ _ hρ _ => r_move (hρ _ _ rfl)) rfl rfl rfl (w_n rfl) ?_
            refine TL_q (.agg #[.int .i64 0, .int .i64 0, .slice none 0 0]) (fun _ _ hρ hm => r_loadA ag75 sz75 (hρ _ _ rfl) (hm.at 29 rfl) rfl rfl) rfl rfl rfl (want_y 107 rfl rfl rfl) ?_
            refine TL_q (.agg #[.int .i64 0, .int .i64 0, .slice none 0 0]) (fun _ _ _ _ => r_build (vs := []) (by kernel_rfl) rfl) rfl rfl rfl (want_y 107 rfl rfl rfl) ?_
            refine TL_call (.bool true) (fun _ _ hρ _ => r_call (args := [.agg #[.int .i64 0, .int .i64 0, .slice none 0 0], .agg #[.int .i64 0, .int .i64 0, .slice none 0 0]]) (enters_of Try.func43 (by kernel_rfl) rfl) (hρ _ _ rfl) ((cons2 (hρ _ _ rfl) (cons2 (hρ _ _ rfl) rfl))) rfl) (fun w _ => (srsame_n (0 : Int) (0 : Int) [] none 0 w (sliceNil w) (by decide) (0 : Int) (0 : Int) [] none 0 (sliceNil w) (by decide) (by first | omega | (simp; done) | (simp; omega)) (by first | omega | (simp; done) | (simp; omega)) 0 rfl 0 rfl).mono fun _ _ h => ⟨h.1.trans (congrArg Ending.returned (bool_as (decide_eq_true ⟨rfl, rfl, rfl⟩))), h.2⟩) rfl rfl rfl (want_y 107 rfl rfl rfl) ?_
            refine TL_q (.bool false) (fun _ _ hρ _ => r_not (b := true) (hρ _ _ rfl)) rfl rfl rfl (want_y 107 rfl rfl rfl) ?_
            refine TL_q (.bool false) (fun _ _ hρ _ => r_pick_f (hρ _ _ rfl) (hρ _ _ rfl)) rfl rfl rfl (w_n rfl) ?_
            refine TL_seq ?_
            refine T_sub [(2, .slice ax x.length cx), (4, .pointer (some ⟨B1, 0, none⟩)), (7, .slice ar3 ((l2).length) cr3), (26, .slice (some ⟨b4, of4, none⟩) l.length cl), (27, .int .i64 ((l.length : Nat) : Int)), (28, .int .i64 ((k : Nat) : Int)), (29, .bool (decide (((k : Nat) : Int) < ((l.length : Nat) : Int)))), (30, .int .i64 ((k : Nat) : Int)), (31, .pointer (some ⟨b4, of4 + k * 2, none⟩)), (32, .agg #[.int .i64 ux, .int .i64 uy]), (9, .pointer (some ⟨B5, 0, none⟩)), (8, .int .i64 ((k : Nat) : Int)), (33, .int .i64 ((k : Nat) : Int)), (34, .bool (decide (((k : Nat) : Int) = 10))), (36, .pointer (some ⟨B5, 0, none⟩)), (37, .int .i64 ux), (38, .pointer (some ⟨B5, 1, none⟩)), (39, .int .i64 uy), (40, .agg #[.int .u8 c.r, .int .u8 c.g, .int .u8 c.b, .int .u8 c.a]), (41, .tuple #[.agg #[.int .i64 0, .int .i64 0, .slice none 0 0], .int .i64 2]), (35, .tuple #[.agg #[.int .i64 0, .int .i64 0, .slice none 0 0], .int .i64 2]), (42, .agg #[.int .i64 0, .int .i64 0, .slice none 0 0]), (43, .int .i64 2), (10, .pointer (some ⟨B34, 0, none⟩)), (44, .agg #[.int .i64 0, .int .i64 0, .slice none 0 0]), (12, .pointer (some ⟨B35, 0, none⟩)), (13, .int .i64 2), (45, .pointer (some ⟨B5, 0, none⟩)), (46, .int .i64 ux), (47, .pointer (some ⟨B5, 1, none⟩)), (48, .int .i64 uy), (49, .bool false), (73, .int .i64 2), (74, .int .i64 2), (75, .bool false), (76, .bool false), (77, .agg #[.int .i64 0, .int .i64 0, .slice none 0 0]), (78, .agg #[.int .i64 0, .int .i64 0, .slice none 0 0]), (79, .bool true), (80, .bool false), (81, .bool false), (83, .pointer (some ⟨B5, 0, none⟩)), (84, .int .i64 ux), (85, .slice ar3 ((l2).length) cr3), (86, .tuple #[.agg #[.int .i64 0, .int .i64 0, .slice none 0 0], .int .i64 2]), (82, .tuple #[.agg #[.int .i64 0, .int .i64 0, .slice none 0 0], .int .i64 2]), (87, .agg #[.int .i64 0, .int .i64 0, .slice none 0 0]), (88, .int .i64 2), (15, .pointer (some ⟨B36, 0, none⟩)), (11, .int .i64 2), (89, .pointer (some ⟨B5, 0, none⟩)), (90, .int .i64 ux), (91, .slice ar3 ((l2).length) cr3), (92, .agg #[.int .i64 ux, .int .i64 0, .slice ar3 ((l2).length) cr3]), (16, .pointer (some ⟨B37, 0, none⟩)), (93, .pointer (some ⟨B5, 0, none⟩)), (94, .int .i64 ux), (95, .bool (decide ((0 : Int) < ux))), (96, .slice ar3 ((l2).length) cr3), (97, .int .i64 (((l2).length : Nat) : Int)), (98, .pointer (some ⟨B5, 0, none⟩)), (99, .int .i64 ux), (100, .int .i64 hi), (101, .pointer (some ⟨B37, 1, none⟩)), (102, .agg #[.int .i64 ux, .int .i64 hi, .slice ar3 ((l2).length) cr3]), (103, .bool false), (104, .bool true), (105, .int .i64 2), (106, .bool false), (107, .bool false), (108, .agg #[.int .i64 0, .int .i64 0, .slice none 0 0]), (109, .agg #[.int .i64 0, .int .i64 0, .slice none 0 0]), (110, .bool true), (111, .bool false), (112, .bool false)] [(2, .row (.slice ar3 ((l2).length) cr3) 37 4 ((l2).length) ((l2).flatMap C4.cells)), (1, .blk B1 (.cells #[.int .u8 c.r, .int .u8 c.g, .int .u8 c.b, .int .u8 c.a] 37)), (3, .blk B5 (.cells #[.int .i64 ux, .int .i64 uy] 73)), (27, .blk B34 (.cells #[.int .i64 0, .int .i64 0, .slice none 0 0] 75)), (28, .blk B35 (.cells #[.int .i64 0, .int .i64 0, .slice none 0 0] 75)), (29, .blk B36 (.cells #[.int .i64 0, .int .i64 0, .slice none 0 0] 75)), (30, .blk B37 (.cells #[.int .i64 ux, .int .i64 hi, .slice ar3 ((l2).length) cr3] 75))] (sub_cons rfl (sub_cons rfl (sub_cons rfl (sub_cons rfl (sub_cons rfl (sub_cons rfl (sub_cons rfl (sub_cons rfl (sub_cons rfl (sub_cons rfl (sub_cons rfl (sub_cons rfl (sub_cons rfl (sub_cons rfl (sub_cons rfl (sub_cons rfl (sub_cons rfl (sub_cons rfl (sub_cons rfl (sub_cons rfl (sub_cons rfl (sub_cons rfl (sub_cons rfl (sub_cons rfl (sub_cons rfl (sub_cons rfl (sub_cons rfl (sub_cons rfl (sub_cons rfl (sub_cons rfl (sub_cons rfl (sub_cons rfl (sub_cons rfl (sub_cons rfl (sub_cons rfl (sub_cons rfl (sub_cons rfl (sub_cons rfl (sub_cons rfl (sub_cons rfl (sub_cons rfl (sub_cons rfl (sub_cons rfl (sub_cons rfl (sub_cons rfl (sub_cons rfl (sub_cons rfl (sub_cons rfl (sub_cons rfl (sub_cons rfl (sub_cons rfl (sub_cons rfl (sub_cons rfl (sub_cons rfl (sub_cons rfl (sub_cons rfl (sub_cons rfl (sub_cons rfl (sub_cons rfl (sub_cons rfl (sub_cons rfl (sub_cons rfl (sub_cons rfl (sub_cons rfl (sub_cons rfl (sub_cons rfl (sub_cons rfl (sub_cons rfl (sub_cons rfl (sub_cons rfl (sub_cons rfl (sub_cons rfl (sub_cons rfl (sub_cons rfl (sub_cons rfl sub_nil))))))))))))))))))))))))))))))))))))))))))))))))))))))))))))))))))))))))))) (sub_cons rfl (sub_cons rfl (sub_cons rfl (sub_cons rfl (sub_cons rfl (sub_cons rfl (sub_cons rfl sub_nil))))))) ?_
            refine T_cond_f rfl ?_
            refine T_skip' ?_
            refine p_seq ?_
            refine T_exit' ?_
            refine p_then_x ?_
            refine p_blk_x ?_
            refine p_seq ?_
            refine T_region ?_
            refine TL_q (.int .i64 ((k + 1 : Nat) : Int)) (fun _ _ hρ _ => r_as (r_add (hρ _ _ rfl) (hρ _ _ rfl)) (int_as ((wrap64 (by omega) (by omega)).trans (by omega)))) rfl rfl rfl (w_n rfl) ?_
            refine TL_q (.int .i64 ((k + 1 : Nat) : Int)) (fun _ _ hρ _ => r_move (hρ _ _ rfl)) rfl rfl rfl (w_n rfl) ?_
            refine TL_nil ?_
            exact p_at (k + 1) ⟨by omega, by omega⟩ (sub_cons rfl (sub_cons rfl (sub_cons rfl (sub_cons rfl (sub_cons rfl (sub_cons rfl sub_nil)))))) (sub_cons rfl (sub_cons rfl sub_nil))
          · replace h7 := of_decide_eq_false h7
            refine T_skip' ?_
            refine p_seq ?_
            refine T_seq ?_
            refine T_seq (T_region ?_)
            refine TL_q (.agg #[.int .i64 ux, .int .i64 0, .slice ar3 ((l2).length) cr3]) (fun _ _ hρ hm => r_loadA ag75 sz75 (hρ _ _ rfl) (hm.at 30 rfl) rfl rfl) rfl rfl rfl (w_n rfl) ?_
            refine TL_call (.bool false) (fun _ _ hρ _ => r_call (args := [.agg #[.int .i64 ux, .int .i64 0, .slice ar3 ((l2).length) cr3]]) (enters_of Try.func45 (by kernel_rfl) rfl) (hρ _ _ rfl) ((cons2 (hρ _ _ rfl) rfl)) rfl) (fun w _ => (rright_c ux 0 ar3 ((l2).length) cr3 w).mono fun _ _ h => ⟨h.1.trans (congrArg Ending.returned (bool_as (eq_false_of_ne_true (right_x (eq_false_of_ne_true s1))))), h.2⟩) rfl rfl rfl (w_n rfl) ?_
            refine TL_q (.bool true) (fun _ _ hρ _ => r_not (b := false) (hρ _ _ rfl)) rfl rfl rfl (w_n rfl) ?_
            refine TL_seq ?_
            refine T_cond_t rfl ?_
            refine T_seq ?_
            refine T_seq (T_region ?_)
            refine TL_q (.int .i64 2) (fun _ _ hρ _ => r_move (hρ _ _ rfl)) rfl rfl rfl (w_n rfl) ?_
            refine TL_q (.bool false) (fun _ _ hρ _ => r_as (r_neq (hρ _ _ rfl) (hρ _ _ rfl)) (by rfl)) rfl rfl rfl (w_n rfl) ?_
            refine TL_q (.bool false) (fun _ _ hρ _ => r_move (hρ _ _ rfl)) rfl rfl rfl (w_n rfl) ?_
            refine TL_q (.agg #[.int .i64 0, .int .i64 0, .slice none 0 0]) (fun _ _ hρ hm => r_loadA ag75 sz75 (hρ _ _ rfl) (hm.at 29 rfl) rfl rfl) rfl rfl rfl (want_y 107 rfl rfl rfl) ?_
            refine TL_q (.agg #[.int .i64 0, .int .i64 0, .slice none 0 0]) (fun _ _ _ _ => r_build (vs := []) (by kernel_rfl) rfl) rfl rfl rfl (want_y 107 rfl rfl rfl) ?_
            refine TL_call (.bool true) (fun _ _ hρ _ => r_call (args := [.agg #[.int .i64 0, .int .i64 0, .slice none 0 0], .agg #[.int .i64 0, .int .i64 0, .slice none 0 0]]) (enters_of Try.func43 (by kernel_rfl) rfl) (hρ _ _ rfl) ((cons2 (hρ _ _ rfl) (cons2 (hρ _ _ rfl) rfl))) rfl) (fun w _ => (srsame_n (0 : Int) (0 : Int) [] none 0 w (sliceNil w) (by decide) (0 : Int) (0 : Int) [] none 0 (sliceNil w) (by decide) (by first | omega | (simp; done) | (simp; omega)) (by first | omega | (simp; done) | (simp; omega)) 0 rfl 0 rfl).mono fun _ _ h => ⟨h.1.trans (congrArg Ending.returned (bool_as (decide_eq_true ⟨rfl, rfl, rfl⟩))), h.2⟩) rfl rfl rfl (want_y 107 rfl rfl rfl) ?_
            refine TL_q (.bool false) (fun _ _ hρ _ => r_not (b := true) (hρ _ _ rfl)) rfl rfl rfl (want_y 107 rfl rfl rfl) ?_
            refine TL_q (.bool false) (fun _ _ hρ _ => r_pick_f (hρ _ _ rfl) (hρ _ _ rfl)) rfl rfl rfl (w_n rfl) ?_
            refine TL_seq ?_
            refine T_cond_f rfl ?_
            refine T_skip' ?_
            refine p_seq ?_
            refine T_exit' ?_
            refine p_then_x ?_
            refine p_blk_x ?_
            refine p_seq ?_
            refine T_region ?_
            refine TL_q (.int .i64 ((k + 1 : Nat) : Int)) (fun _ _ hρ _ => r_as (r_add (hρ _ _ rfl) (hρ _ _ rfl)) (int_as ((wrap64 (by omega) (by omega)).trans (by omega)))) rfl rfl rfl (w_n rfl) ?_
            refine TL_q (.int .i64 ((k + 1 : Nat) : Int)) (fun _ _ hρ _ => r_move (hρ _ _ rfl)) rfl rfl rfl (w_n rfl) ?_
            refine TL_nil ?_
            exact p_at (k + 1) ⟨by omega, by omega⟩ (sub_cons rfl (sub_cons rfl (sub_cons rfl (sub_cons rfl (sub_cons rfl (sub_cons rfl sub_nil)))))) (sub_cons rfl (sub_cons rfl sub_nil))
  · replace h1 := of_decide_eq_false h1
    refine T_exit' ?_
    refine p_then_x ?_
    refine p_then_x ?_
    refine p_blk_x ?_
    refine p_seq ?_
    refine T_seq (T_region ?_)
    refine TL_q (.bool true) (fun _ _ hρ _ => r_assign (hρ _ _ rfl)) rfl rfl rfl (w_n rfl) ?_
    refine TL_seq ?_
    refine T_ret' ?_
    refine ret_of rfl (.bool true) (fun tmps w hk hm => res1 rfl (res_tmp (hk 6 _ rfl))) (fun w hm => ?_)
    exact ⟨rfl, hm.ext⟩
end Go.Proofs.Ytbiapeaghbndoaa
/- stamp: arguments of the laws, read. -/
namespace Go.Proofs.Ytbiapeaghbndoaa
open Go Go.RowKit Go.ChangeShapes Go.WideShapes
theorem rds_colb : Rds Try.prog 37 C4.cells C4.ok :=
  Rds.map (rds4 fl37_0 fl37_1 fl37_2 fl37_3 sz5 sz5 sz5 sz5 sz37 (rds_int io5) (rds_int io5) (rds_int io5) (rds_int io5)) (fun p => ⟨p.1, p.2.1, p.2.2.1, p.2.2.2⟩) (fun _ => rfl) (fun _ h => ⟨wf_u8 h.1, wf_u8 h.2.1, wf_u8 h.2.2.1, wf_u8 h.2.2.2⟩)
theorem rds_pr (w : World) : RdsAt Try.prog w 73 Pt.cells (fun p => inI p.x ∧ inI p.y) :=
  RdsAt.mapIf ((rds_arr ar73 sz3 sz73 (fun _ => rfl) (rds_int io3)).at w) (fun l => ⟨l.getD 0 0, l.getD 1 0⟩) (fun l h => by
    obtain ⟨h1, _⟩ := h
    match l, h1 with
    | [a, b], _ => rfl) (fun l h => by
    obtain ⟨h1, h2⟩ := h
    match l, h1, h2 with
    | [a, b], _, h2 => exact ⟨wf_i64 (h2 a (by simp)), wf_i64 (h2 b (by simp))⟩)
/-- A stamp that is handed in. -/
structure Stm where
  x : Int
  y : Int
  r : RowG C4
abbrev Stm.cells (p : Stm) : List Value := [.int .i64 p.x, .int .i64 p.y, .slice p.r.a p.r.l.length p.r.cap]
def Stm.ok (w : World) (p : Stm) : Prop := inI p.x ∧ inI p.y ∧ p.r.ok 4 C4.cells w ∧ p.r.cap ≤ Go.maxLen ∧ ∀ c ∈ p.r.l, c.ok
/-- A rectangle with places. -/
structure Rct where
  x : Int
  y : Int
  wi : Int
  hi : Int
  r : RowG Pt
abbrev Rct.cells (p : Rct) : List Value := [.int .i64 p.x, .int .i64 p.y, .int .i64 p.wi, .int .i64 p.hi, .slice p.r.a p.r.l.length p.r.cap]
def Rct.ok (w : World) (p : Rct) : Prop := inI p.x ∧ inI p.y ∧ inI p.wi ∧ inI p.hi ∧ p.r.ok 2 Pt.cells w ∧ p.r.cap ≤ Go.maxLen ∧ ∀ u ∈ p.r.l, inI u.x ∧ inI u.y
end Go.Proofs.Ytbiapeaghbndoaa
