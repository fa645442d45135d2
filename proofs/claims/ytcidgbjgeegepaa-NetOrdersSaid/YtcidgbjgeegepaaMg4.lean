/- Texts of this seat, merged: part 4. -/
import Derived.Test.YtcidgbjgeegepaaMg3
/- net and journal: wakes. Printed by a program of this seat's prover. -/
namespace Go.Proofs.Ytcidgbjgeegepaa
open Go Go.RowKit
set_option maxRecDepth 10000
/-- The nets of wakes. -/
def wk0 : NV := ([⟨0, [1#8, 2#8], false⟩, ⟨4, [3#8], false⟩], 0)
def wk1 : NV := (doV wk0 ⟨4, 0, 0, 1#32⟩).2.1
def wk2 : NV := (doV wk1 ⟨3, 0, 0, 0#32⟩).2.1
def wk3 : NV := (doV wk2 ⟨1, 2, 0, 0#32⟩).2.1
theorem chk_of {x : Hd × List (RowG By)} {n : NV} (h : x.1.nv = n) (hc : checkV n.1 n.2 = true) : checkV (pvs x.1.n.l) x.1.lost = true := by subst h; exact hc
theorem doe_of {x : Hd × List (RowG By)} {n : NV} {t : Trk} {e : Int} (h : x.1.nv = n) (hc : (doV n t).1 = e) : (doV (pvs x.1.n.l, x.1.lost) t).1 = e := by subst h; exact hc
theorem netis_of {x y : Hd × List (RowG By)} {n : NV} {t : Trk} (h : x.1.nv = n) (hk : NetIs (doV (pvs x.1.n.l, x.1.lost) t).2.1 y) : NetIs (doV n t).2.1 y := by subst h; exact hk
theorem told_of {x : Hd × List (RowG By)} {n : NV} {t : Trk} {q : Pcl} (h : x.1.nv = n) (hk : q.pv = toldV (doV (pvs x.1.n.l, x.1.lost) t).2.2) : q.pv = toldV (doV n t).2.2 := by subst h; exact hk
theorem net_len {x : Hd × List (RowG By)} {n : NV} {k : Nat} (h : x.1.nv = n) (hc : n.1.length = k) : x.1.n.l.length = k := by subst h; rw [← hc]; exact (pvs_len _).symm
theorem told_at {w : World} {bs : List (RowG By)} {q : Pcl} (h : poolH 5 1 byc bs w) (hq : q.r ∈ bs ∧ q.r.l.length ≤ 10000 ∨ q.r = ⟨none, 0, []⟩) : SliceAt w q.r.a q.r.cap 1 byc q.r.l :=
  hq.elim (fun h1 => poolAt byc_len h h1.1) fun e => by rw [e]; exact sliceNil w
theorem toV_eq (ps : List Pcl) (to : Int) : toV ps to = (List.range (pvs ps).length).filter fun i => decide (((pvs ps)[i]?).map PV.to = some to) := by
  unfold toV phiT
  rw [pvs_len]
  congr 1
  funext i
  unfold pvs
  rw [List.getElem?_map]
  cases ps[i]? <;> rfl
theorem toV_of {x : Hd × List (RowG By)} {n : NV} {to : Int} {k : Nat} (h : x.1.nv = n) (hc : ((List.range n.1.length).filter fun i => decide ((n.1[i]?).map PV.to = some to))[0]? = some k) : (toV x.1.n.l to)[0]? = some k := by
  subst h; rw [toV_eq]; exact hc
theorem first_of {l : List Nat} {k : Nat} (h : l[0]? = some k) : Value.tuple #[.int .i64 ((l[0]?.getD 0 : Nat) : Int), .bool (l[0]?).isSome] = .tuple #[.int .i64 (k : Int), .bool true] := by rw [h]; rfl

set_option maxHeartbeats 1000000 in
theorem nwakes_c (w : World) : Calls Try.prog 11 #[] w fun e w' => e = .returned (.bool true) ∧ Below w.heap.size w w' := by
  refine calls_of_T (l := []) 137 Try.func11 rfl rfl rfl ?_
  show T _ _ _ [] []
  refine T_seq (T_region ?_)
  refine TL_q (.bool false) (fun _ _ hρ _ => r_assign (hρ _ _ rfl)) rfl rfl rfl (w_n rfl) ?_
  refine TL_seq ?_
  refine T_seq (T_region ?_)
  refine TL_call (.agg #[.slice none 0 0, .int .u64 0]) (fun _ _ hρ _ => r_call (args := []) (enters_of Try.func14 (by kernel_rfl) rfl) (hρ _ _ rfl) (by rfl) rfl) (fun w _ => nnew_c w) rfl rfl rfl (w_n rfl) ?_
  refine TL_new 1 (.cells #[.int .u8 1, .int .u8 2] 5) (fun B => .slice (some ⟨B, 0, none⟩) 2 2) (fun _ _ hρ _ => r_buildSlice (vs := [(0, .int .u8 1), (1, .int .u8 2)]) (by kernel_rfl) (cons2 (pair2 (hρ _ _ rfl)) (cons2 (pair2 (hρ _ _ rfl)) rfl))) rfl rfl rfl (w_n rfl) ?_
  intro B1
  refine TL_q (.agg #[.int .i64 0, .slice (some ⟨B1, 0, none⟩) 2 2, .bool false]) (fun _ _ hρ _ => r_build (vs := [(1, .slice (some ⟨B1, 0, none⟩) 2 2)]) (by kernel_rfl) (cons2 (pair2 (hρ _ _ rfl)) rfl)) rfl rfl rfl (w_n rfl) ?_
  refine TL_new 2 (.cells #[.int .u8 3] 5) (fun B => .slice (some ⟨B, 0, none⟩) 1 1) (fun _ _ hρ _ => r_buildSlice (vs := [(0, .int .u8 3)]) (by kernel_rfl) (cons2 (pair2 (hρ _ _ rfl)) rfl)) rfl rfl rfl (w_n rfl) ?_
  intro B2
  refine TL_q (.agg #[.int .i64 4, .slice (some ⟨B2, 0, none⟩) 1 1, .bool false]) (fun _ _ hρ _ => r_build (vs := [(0, .int .i64 4), (1, .slice (some ⟨B2, 0, none⟩) 1 1)]) (by kernel_rfl) (cons2 (pair2 (hρ _ _ rfl)) (cons2 (pair2 (hρ _ _ rfl)) rfl))) rfl rfl rfl (w_n rfl) ?_
  refine TL_new 3 (.cells #[.int .i64 0, .slice (some ⟨B1, 0, none⟩) 2 2, .bool false, .int .i64 4, .slice (some ⟨B2, 0, none⟩) 1 1, .bool false] 36) (fun B => .slice (some ⟨B, 0, none⟩) 2 2) (fun _ _ hρ _ => r_buildSlice (vs := [(0, .agg #[.int .i64 0, .slice (some ⟨B1, 0, none⟩) 2 2, .bool false]), (1, .agg #[.int .i64 4, .slice (some ⟨B2, 0, none⟩) 1 1, .bool false])]) (by kernel_rfl) (cons2 (pair2 (hρ _ _ rfl)) (cons2 (pair2 (hρ _ _ rfl)) rfl))) rfl rfl rfl (w_n rfl) ?_
  intro B3
  refine TL_callN (fun x : Hd × List (RowG By) => NetIs wk0 x) (fun (h4, bs4) => .tuple #[.agg #[.slice h4.n.a h4.n.l.length h4.n.cap, .int .u64 h4.lost], .int .i64 0]) (fun (h4, bs4) => [(4, .row (.slice h4.n.a h4.n.l.length h4.n.cap) 36 3 h4.n.l.length (h4.n.l.flatMap Pcl.cells)), (5, .pool 5 1 byc bs4)]) (fun _ _ hρ _ => r_call (args := [.agg #[.slice none 0 0, .int .u64 0], .slice (some ⟨B3, 0, none⟩) 2 2]) (enters_of Try.func13 (by kernel_rfl) rfl) (hρ _ _ rfl) ((cons2 (hρ _ _ rfl) (cons2 (hρ _ _ rfl) rfl))) rfl) (fun w hm => (send_ok [] none 0 0 ([⟨0, ⟨(some ⟨B1, 0, none⟩), 2, [1#8, 2#8]⟩, false⟩, ⟨4, ⟨(some ⟨B2, 0, none⟩), 1, [3#8]⟩, false⟩] : List Pcl) (some ⟨B3, 0, none⟩) 2 w (sliceNil w) (by decide) (pcsNil w) ⟨Nat.le_of_ble_eq_true rfl, (fun e => by cases e), .inr ⟨_, 0, _, _, _, rfl, (hm.at 3 rfl), row_of_take (fun _ => rfl) rfl⟩⟩ (Nat.le_of_ble_eq_true rfl) (List.forall_mem_cons.2 ⟨⟨⟨Nat.le_of_ble_eq_true rfl, (fun e => by cases e), .inr ⟨_, 0, _, _, _, rfl, (hm.at 1 rfl), row_of_take (fun _ => rfl) rfl⟩⟩, (Nat.le_of_ble_eq_true rfl), Nat.le_of_ble_eq_true rfl⟩, (List.forall_mem_cons.2 ⟨⟨⟨Nat.le_of_ble_eq_true rfl, (fun e => by cases e), .inr ⟨_, 0, _, _, _, rfl, (hm.at 2 rfl), row_of_take (fun _ => rfl) rfl⟩⟩, (Nat.le_of_ble_eq_true rfl), Nat.le_of_ble_eq_true rfl⟩, (fun _ h => nomatch h)⟩)⟩) (Int.le_refl _) rfl rfl).mono fun e w' ⟨⟨h, bs⟩, hk, he, hb, hn⟩ => ⟨(h, bs), hk, he, hb, newOk2 4 5 hn.row hn.pool hn.sep⟩) rfl rfl rfl (w_n rfl) ?_
  rintro ⟨h4, bs4⟩ hk4
  refine TL_q (.tuple #[.agg #[.slice h4.n.a h4.n.l.length h4.n.cap, .int .u64 h4.lost], .int .i64 0]) (fun _ _ hρ _ => r_move (hρ _ _ rfl)) rfl rfl rfl (w_n rfl) ?_
  refine TL_q (.agg #[.slice h4.n.a h4.n.l.length h4.n.cap, .int .u64 h4.lost]) (fun _ _ hρ _ => r_extract (hρ _ _ rfl) rfl) rfl rfl rfl (w_n rfl) ?_
  refine TL_q (.int .i64 0) (fun _ _ hρ _ => r_extract (hρ _ _ rfl) rfl) rfl rfl rfl (w_n rfl) ?_
  refine TL_new 6 (.cells #[.slice none 0 0, .int .u64 0] 27) (fun B => .pointer (some ⟨B, 0, none⟩)) (fun _ _ _ _ => r_alloc (v := .agg #[.slice none 0 0, .int .u64 0]) (by kernel_rfl) rfl) rfl rfl rfl (w_n rfl) ?_
  intro B5
  refine TL_store 6 (.cells #[.slice h4.n.a h4.n.l.length h4.n.cap, .int .u64 h4.lost] 27) rfl (fun _ _ hρ hm => r_store sz27 (hρ _ _ rfl) (hρ _ _ rfl) (hm.at 6 rfl) rfl rfl rfl rfl) rfl rfl (w_n rfl) ?_
  refine TL_q (.int .i64 0) (fun _ _ hρ _ => r_assign (hρ _ _ rfl)) rfl rfl rfl (w_n rfl) ?_
  refine TL_seq ?_
  refine T_seq (T_region ?_)
  refine TL_q (.agg #[.slice h4.n.a h4.n.l.length h4.n.cap, .int .u64 h4.lost]) (fun _ _ hρ hm => r_loadA ag27 sz27 (hρ _ _ rfl) (hm.at 6 rfl) rfl rfl) rfl rfl rfl (w_n rfl) ?_
  refine TL_call (.tuple #[.int .i64 1, .bool true]) (fun _ _ hρ _ => r_call (args := [.agg #[.slice h4.n.a h4.n.l.length h4.n.cap, .int .u64 h4.lost], .int .i64 4]) (enters_of Try.func17 (by kernel_rfl) rfl) (hρ _ _ rfl) ((cons2 (hρ _ _ rfl) (cons2 (hρ _ _ rfl) rfl))) rfl) (fun w hm => (first_ok h4.n.l h4.n.a h4.n.cap h4.lost 4 w (SliceAt.own Pcl.cells_len (hm.row 4 rfl) rfl rfl) (row_cap (hm.row 4 rfl)) (pcs_pool (hm.pool 5 rfl) hk4.ok.inN) (chk_of hk4.nv (by decide +kernel))).mono fun _ _ h => ⟨h.1.trans (congrArg Ending.returned (first_of (toV_of hk4.nv (by decide +kernel)))), h.2⟩) rfl rfl rfl (w_n rfl) ?_
  refine TL_q (.tuple #[.int .i64 1, .bool true]) (fun _ _ hρ _ => r_move (hρ _ _ rfl)) rfl rfl rfl (w_n rfl) ?_
  refine TL_q (.int .i64 1) (fun _ _ hρ _ => r_extract (hρ _ _ rfl) rfl) rfl rfl rfl (w_n rfl) ?_
  refine TL_q (.bool true) (fun _ _ hρ _ => r_extract (hρ _ _ rfl) rfl) rfl rfl rfl (w_n rfl) ?_
  refine TL_q (.int .i64 1) (fun _ _ hρ _ => r_assign (hρ _ _ rfl)) rfl rfl rfl (w_n rfl) ?_
  refine TL_q (.bool true) (fun _ _ hρ _ => r_assign (hρ _ _ rfl)) rfl rfl rfl (w_n rfl) ?_
  refine TL_seq ?_
  refine T_seq (T_region ?_)
  refine TL_q (.agg #[.slice h4.n.a h4.n.l.length h4.n.cap, .int .u64 h4.lost]) (fun _ _ hρ hm => r_loadA ag27 sz27 (hρ _ _ rfl) (hm.at 6 rfl) rfl rfl) rfl rfl rfl (w_n rfl) ?_
  refine TL_q (.agg #[.int .i64 4, .int .i64 0, .int .i64 0, .int .u32 1]) (fun _ _ hρ _ => r_build (vs := [(0, .int .i64 4), (3, .int .u32 1)]) (by kernel_rfl) (cons2 (pair2 (hρ _ _ rfl)) (cons2 (pair2 (hρ _ _ rfl)) rfl))) rfl rfl rfl (w_n rfl) ?_
  refine TL_callN (fun x : Hd × List (RowG By) × Pcl => NetIs wk1 (x.1, x.2.1) ∧ x.2.2.pv = toldV (doV wk0 ⟨4, 0, 0, 1#32⟩).2.2 ∧ (x.2.2.r ∈ x.2.1 ∧ x.2.2.r.l.length ≤ 10000 ∨ x.2.2.r = ⟨none, 0, []⟩)) (fun (h6, bs6, q6) => .tuple #[.agg #[.slice h6.n.a h6.n.l.length h6.n.cap, .int .u64 h6.lost], .agg #[.int .i64 q6.to, .slice q6.r.a q6.r.l.length q6.r.cap, .bool q6.sp], .int .i64 0]) (fun (h6, bs6, q6) => [(7, .row (.slice h6.n.a h6.n.l.length h6.n.cap) 36 3 h6.n.l.length (h6.n.l.flatMap Pcl.cells)), (8, .pool 5 1 byc bs6)]) (fun _ _ hρ _ => r_call (args := [.agg #[.slice h4.n.a h4.n.l.length h4.n.cap, .int .u64 h4.lost], .agg #[.int .i64 4, .int .i64 0, .int .i64 0, .int .u32 1]]) (enters_of Try.func23 (by kernel_rfl) rfl) (hρ _ _ rfl) ((cons2 (hρ _ _ rfl) (cons2 (hρ _ _ rfl) rfl))) rfl) (fun w hm => (do_ok h4.n.l h4.n.a h4.n.cap h4.lost 4 0 0 (1#32) w (SliceAt.own Pcl.cells_len (hm.row 4 rfl) rfl rfl) (row_cap (hm.row 4 rfl)) (pcs_pool (hm.pool 5 rfl) hk4.ok.inN) hk4.ok.lost0 (chk_of hk4.nv (by decide +kernel)) (doe_of hk4.nv (by decide +kernel))).mono fun e w' ⟨⟨h, bs⟩, q, hk, ht, hi, he, hb, hn⟩ => ⟨(h, bs, q), ⟨netis_of hk4.nv hk, told_of hk4.nv ht, hi⟩, he, hb, newOk2 7 8 hn.row hn.pool hn.sep⟩) rfl rfl rfl (w_n rfl) ?_
  rintro ⟨h6, bs6, q6⟩ ⟨hk6, hq6, hi6⟩
  refine TL_q (.tuple #[.agg #[.slice h6.n.a h6.n.l.length h6.n.cap, .int .u64 h6.lost], .agg #[.int .i64 q6.to, .slice q6.r.a q6.r.l.length q6.r.cap, .bool q6.sp], .int .i64 0]) (fun _ _ hρ _ => r_move (hρ _ _ rfl)) rfl rfl rfl (w_n rfl) ?_
  refine TL_q (.agg #[.slice h6.n.a h6.n.l.length h6.n.cap, .int .u64 h6.lost]) (fun _ _ hρ _ => r_extract (hρ _ _ rfl) rfl) rfl rfl rfl (w_n rfl) ?_
  refine TL_q (.agg #[.int .i64 q6.to, .slice q6.r.a q6.r.l.length q6.r.cap, .bool q6.sp]) (fun _ _ hρ _ => r_extract (hρ _ _ rfl) rfl) rfl rfl rfl (w_n rfl) ?_
  refine TL_q (.int .i64 0) (fun _ _ hρ _ => r_extract (hρ _ _ rfl) rfl) rfl rfl rfl (w_n rfl) ?_
  refine TL_new 9 (.cells #[.int .i64 0, .slice none 0 0, .bool false] 36) (fun B => .pointer (some ⟨B, 0, none⟩)) (fun _ _ _ _ => r_alloc (v := .agg #[.int .i64 0, .slice none 0 0, .bool false]) (by kernel_rfl) rfl) rfl rfl rfl (w_n rfl) ?_
  intro B7
  refine TL_store 6 (.cells #[.slice h6.n.a h6.n.l.length h6.n.cap, .int .u64 h6.lost] 27) rfl (fun _ _ hρ hm => r_store sz27 (hρ _ _ rfl) (hρ _ _ rfl) (hm.at 6 rfl) rfl rfl rfl rfl) rfl rfl (w_n rfl) ?_
  refine TL_store 9 (.cells #[.int .i64 q6.to, .slice q6.r.a q6.r.l.length q6.r.cap, .bool q6.sp] 36) rfl (fun _ _ hρ hm => r_store sz36 (hρ _ _ rfl) (hρ _ _ rfl) (hm.at 9 rfl) rfl rfl rfl rfl) rfl rfl (w_n rfl) ?_
  refine TL_q (.int .i64 0) (fun _ _ hρ _ => r_assign (hρ _ _ rfl)) rfl rfl rfl (w_n rfl) ?_
  refine TL_seq ?_
  refine T_seq (T_region ?_)
  refine TL_q (.agg #[.slice h6.n.a h6.n.l.length h6.n.cap, .int .u64 h6.lost]) (fun _ _ hρ hm => r_loadA ag27 sz27 (hρ _ _ rfl) (hm.at 6 rfl) rfl rfl) rfl rfl rfl (w_n rfl) ?_
  refine TL_q (.agg #[.int .i64 4, .int .i64 0, .int .i64 0, .int .u32 1]) (fun _ _ hρ _ => r_build (vs := [(0, .int .i64 4), (3, .int .u32 1)]) (by kernel_rfl) (cons2 (pair2 (hρ _ _ rfl)) (cons2 (pair2 (hρ _ _ rfl)) rfl))) rfl rfl rfl (w_n rfl) ?_
  refine TL_call (.tuple #[.agg #[.slice none 0 0, .int .u64 0], .agg #[.int .i64 0, .slice none 0 0, .bool false], .int .i64 5]) (fun _ _ hρ _ => r_call (args := [.agg #[.slice h6.n.a h6.n.l.length h6.n.cap, .int .u64 h6.lost], .agg #[.int .i64 4, .int .i64 0, .int .i64 0, .int .u32 1]]) (enters_of Try.func23 (by kernel_rfl) rfl) (hρ _ _ rfl) ((cons2 (hρ _ _ rfl) (cons2 (hρ _ _ rfl) rfl))) rfl) (fun w hm => do_err h6.n.l h6.n.a h6.n.cap h6.lost 4 0 0 (1#32) w (SliceAt.own Pcl.cells_len (hm.row 7 rfl) rfl rfl) (row_cap (hm.row 7 rfl)) (pcs_pool (hm.pool 8 rfl) hk6.ok.inN) 5 hk6.ok.lost0 (chk_of hk6.nv (by decide +kernel)) (doe_of hk6.nv (by decide +kernel)) (by decide)) rfl rfl rfl (w_n rfl) ?_
  refine TL_q (.tuple #[.agg #[.slice none 0 0, .int .u64 0], .agg #[.int .i64 0, .slice none 0 0, .bool false], .int .i64 5]) (fun _ _ hρ _ => r_move (hρ _ _ rfl)) rfl rfl rfl (w_n rfl) ?_
  refine TL_q (.agg #[.slice none 0 0, .int .u64 0]) (fun _ _ hρ _ => r_extract (hρ _ _ rfl) rfl) rfl rfl rfl (w_n rfl) ?_
  refine TL_q (.agg #[.int .i64 0, .slice none 0 0, .bool false]) (fun _ _ hρ _ => r_extract (hρ _ _ rfl) rfl) rfl rfl rfl (w_n rfl) ?_
  refine TL_q (.int .i64 5) (fun _ _ hρ _ => r_extract (hρ _ _ rfl) rfl) rfl rfl rfl (w_n rfl) ?_
  refine TL_new 10 (.cells #[.slice none 0 0, .int .u64 0] 27) (fun B => .pointer (some ⟨B, 0, none⟩)) (fun _ _ _ _ => r_alloc (v := .agg #[.slice none 0 0, .int .u64 0]) (by kernel_rfl) rfl) rfl rfl rfl (w_n rfl) ?_
  intro B8
  refine TL_new 11 (.cells #[.int .i64 0, .slice none 0 0, .bool false] 36) (fun B => .pointer (some ⟨B, 0, none⟩)) (fun _ _ _ _ => r_alloc (v := .agg #[.int .i64 0, .slice none 0 0, .bool false]) (by kernel_rfl) rfl) rfl rfl rfl (w_n rfl) ?_
  intro B9
  refine TL_store 10 (.cells #[.slice none 0 0, .int .u64 0] 27) rfl (fun _ _ hρ hm => r_store sz27 (hρ _ _ rfl) (hρ _ _ rfl) (hm.at 10 rfl) rfl rfl rfl rfl) rfl rfl (w_n rfl) ?_
  refine TL_store 11 (.cells #[.int .i64 0, .slice none 0 0, .bool false] 36) rfl (fun _ _ hρ hm => r_store sz36 (hρ _ _ rfl) (hρ _ _ rfl) (hm.at 11 rfl) rfl rfl rfl rfl) rfl rfl (w_n rfl) ?_
  refine TL_q (.int .i64 5) (fun _ _ hρ _ => r_assign (hρ _ _ rfl)) rfl rfl rfl (w_n rfl) ?_
  refine TL_seq ?_
  refine T_sub [(0, .bool false), (1, .pointer (some ⟨B5, 0, none⟩)), (2, .int .i64 0), (3, .int .i64 1), (4, .bool true), (6, .int .i64 0), (9, .int .i64 5)] [(7, .row (.slice h6.n.a h6.n.l.length h6.n.cap) 36 3 h6.n.l.length (h6.n.l.flatMap Pcl.cells)), (8, .pool 5 1 byc bs6), (4, .row (.slice h4.n.a h4.n.l.length h4.n.cap) 36 3 h4.n.l.length (h4.n.l.flatMap Pcl.cells)), (5, .pool 5 1 byc bs4), (1, .blk B1 (.cells #[.int .u8 1, .int .u8 2] 5)), (2, .blk B2 (.cells #[.int .u8 3] 5)), (3, .blk B3 (.cells #[.int .i64 0, .slice (some ⟨B1, 0, none⟩) 2 2, .bool false, .int .i64 4, .slice (some ⟨B2, 0, none⟩) 1 1, .bool false] 36)), (6, .blk B5 (.cells #[.slice h6.n.a h6.n.l.length h6.n.cap, .int .u64 h6.lost] 27)), (9, .blk B7 (.cells #[.int .i64 q6.to, .slice q6.r.a q6.r.l.length q6.r.cap, .bool q6.sp] 36)), (10, .blk B8 (.cells #[.slice none 0 0, .int .u64 0] 27)), (11, .blk B9 (.cells #[.int .i64 0, .slice none 0 0, .bool false] 36))] (sub_cons rfl (sub_cons rfl (sub_cons rfl (sub_cons rfl (sub_cons rfl (sub_cons rfl (sub_cons rfl sub_nil))))))) (sub_cons rfl (sub_cons rfl (sub_cons rfl (sub_cons rfl (sub_cons rfl (sub_cons rfl (sub_cons rfl (sub_cons rfl (sub_cons rfl (sub_cons rfl (sub_cons rfl sub_nil))))))))))) ?_
  refine T_seq (T_region ?_)
  refine TL_q (.agg #[.slice h6.n.a h6.n.l.length h6.n.cap, .int .u64 h6.lost]) (fun _ _ hρ hm => r_loadA ag27 sz27 (hρ _ _ rfl) (hm.at 6 rfl) rfl rfl) rfl rfl rfl (w_n rfl) ?_
  refine TL_q (.agg #[.int .i64 3, .int .i64 0, .int .i64 0, .int .u32 0]) (fun _ _ hρ _ => r_build (vs := [(0, .int .i64 3)]) (by kernel_rfl) (cons2 (pair2 (hρ _ _ rfl)) rfl)) rfl rfl rfl (w_n rfl) ?_
  refine TL_callN (fun x : Hd × List (RowG By) × Pcl => NetIs wk2 (x.1, x.2.1) ∧ x.2.2.pv = toldV (doV wk1 ⟨3, 0, 0, 0#32⟩).2.2 ∧ (x.2.2.r ∈ x.2.1 ∧ x.2.2.r.l.length ≤ 10000 ∨ x.2.2.r = ⟨none, 0, []⟩)) (fun (h10, bs10, q10) => .tuple #[.agg #[.slice h10.n.a h10.n.l.length h10.n.cap, .int .u64 h10.lost], .agg #[.int .i64 q10.to, .slice q10.r.a q10.r.l.length q10.r.cap, .bool q10.sp], .int .i64 0]) (fun (h10, bs10, q10) => [(12, .row (.slice h10.n.a h10.n.l.length h10.n.cap) 36 3 h10.n.l.length (h10.n.l.flatMap Pcl.cells)), (13, .pool 5 1 byc bs10)]) (fun _ _ hρ _ => r_call (args := [.agg #[.slice h6.n.a h6.n.l.length h6.n.cap, .int .u64 h6.lost], .agg #[.int .i64 3, .int .i64 0, .int .i64 0, .int .u32 0]]) (enters_of Try.func23 (by kernel_rfl) rfl) (hρ _ _ rfl) ((cons2 (hρ _ _ rfl) (cons2 (hρ _ _ rfl) rfl))) rfl) (fun w hm => (do_ok h6.n.l h6.n.a h6.n.cap h6.lost 3 0 0 (0#32) w (SliceAt.own Pcl.cells_len (hm.row 7 rfl) rfl rfl) (row_cap (hm.row 7 rfl)) (pcs_pool (hm.pool 8 rfl) hk6.ok.inN) hk6.ok.lost0 (chk_of hk6.nv (by decide +kernel)) (doe_of hk6.nv (by decide +kernel))).mono fun e w' ⟨⟨h, bs⟩, q, hk, ht, hi, he, hb, hn⟩ => ⟨(h, bs, q), ⟨netis_of hk6.nv hk, told_of hk6.nv ht, hi⟩, he, hb, newOk2 12 13 hn.row hn.pool hn.sep⟩) rfl rfl rfl (w_n rfl) ?_
  rintro ⟨h10, bs10, q10⟩ ⟨hk10, hq10, hi10⟩
  refine TL_q (.tuple #[.agg #[.slice h10.n.a h10.n.l.length h10.n.cap, .int .u64 h10.lost], .agg #[.int .i64 q10.to, .slice q10.r.a q10.r.l.length q10.r.cap, .bool q10.sp], .int .i64 0]) (fun _ _ hρ _ => r_move (hρ _ _ rfl)) rfl rfl rfl (w_n rfl) ?_
  refine TL_q (.agg #[.slice h10.n.a h10.n.l.length h10.n.cap, .int .u64 h10.lost]) (fun _ _ hρ _ => r_extract (hρ _ _ rfl) rfl) rfl rfl rfl (w_n rfl) ?_
  refine TL_q (.agg #[.int .i64 q10.to, .slice q10.r.a q10.r.l.length q10.r.cap, .bool q10.sp]) (fun _ _ hρ _ => r_extract (hρ _ _ rfl) rfl) rfl rfl rfl (w_n rfl) ?_
  refine TL_q (.int .i64 0) (fun _ _ hρ _ => r_extract (hρ _ _ rfl) rfl) rfl rfl rfl (w_n rfl) ?_
  refine TL_new 14 (.cells #[.int .i64 0, .slice none 0 0, .bool false] 36) (fun B => .pointer (some ⟨B, 0, none⟩)) (fun _ _ _ _ => r_alloc (v := .agg #[.int .i64 0, .slice none 0 0, .bool false]) (by kernel_rfl) rfl) rfl rfl rfl (w_n rfl) ?_
  intro B11
  refine TL_store 6 (.cells #[.slice h10.n.a h10.n.l.length h10.n.cap, .int .u64 h10.lost] 27) rfl (fun _ _ hρ hm => r_store sz27 (hρ _ _ rfl) (hρ _ _ rfl) (hm.at 6 rfl) rfl rfl rfl rfl) rfl rfl (w_n rfl) ?_
  refine TL_store 14 (.cells #[.int .i64 q10.to, .slice q10.r.a q10.r.l.length q10.r.cap, .bool q10.sp] 36) rfl (fun _ _ hρ hm => r_store sz36 (hρ _ _ rfl) (hρ _ _ rfl) (hm.at 14 rfl) rfl rfl rfl rfl) rfl rfl (w_n rfl) ?_
  refine TL_q (.int .i64 0) (fun _ _ hρ _ => r_assign (hρ _ _ rfl)) rfl rfl rfl (w_n rfl) ?_
  refine TL_seq ?_
  refine T_seq (T_region ?_)
  refine TL_q (.agg #[.slice h10.n.a h10.n.l.length h10.n.cap, .int .u64 h10.lost]) (fun _ _ hρ hm => r_loadA ag27 sz27 (hρ _ _ rfl) (hm.at 6 rfl) rfl rfl) rfl rfl rfl (w_n rfl) ?_
  refine TL_q (.agg #[.int .i64 1, .int .i64 2, .int .i64 0, .int .u32 0]) (fun _ _ hρ _ => r_build (vs := [(0, .int .i64 1), (1, .int .i64 2)]) (by kernel_rfl) (cons2 (pair2 (hρ _ _ rfl)) (cons2 (pair2 (hρ _ _ rfl)) rfl))) rfl rfl rfl (w_n rfl) ?_
  refine TL_callN (fun x : Hd × List (RowG By) × Pcl => NetIs wk3 (x.1, x.2.1) ∧ x.2.2.pv = toldV (doV wk2 ⟨1, 2, 0, 0#32⟩).2.2 ∧ (x.2.2.r ∈ x.2.1 ∧ x.2.2.r.l.length ≤ 10000 ∨ x.2.2.r = ⟨none, 0, []⟩)) (fun (h12, bs12, q12) => .tuple #[.agg #[.slice h12.n.a h12.n.l.length h12.n.cap, .int .u64 h12.lost], .agg #[.int .i64 q12.to, .slice q12.r.a q12.r.l.length q12.r.cap, .bool q12.sp], .int .i64 0]) (fun (h12, bs12, q12) => [(15, .row (.slice h12.n.a h12.n.l.length h12.n.cap) 36 3 h12.n.l.length (h12.n.l.flatMap Pcl.cells)), (16, .pool 5 1 byc bs12)]) (fun _ _ hρ _ => r_call (args := [.agg #[.slice h10.n.a h10.n.l.length h10.n.cap, .int .u64 h10.lost], .agg #[.int .i64 1, .int .i64 2, .int .i64 0, .int .u32 0]]) (enters_of Try.func23 (by kernel_rfl) rfl) (hρ _ _ rfl) ((cons2 (hρ _ _ rfl) (cons2 (hρ _ _ rfl) rfl))) rfl) (fun w hm => (do_ok h10.n.l h10.n.a h10.n.cap h10.lost 1 2 0 (0#32) w (SliceAt.own Pcl.cells_len (hm.row 12 rfl) rfl rfl) (row_cap (hm.row 12 rfl)) (pcs_pool (hm.pool 13 rfl) hk10.ok.inN) hk10.ok.lost0 (chk_of hk10.nv (by decide +kernel)) (doe_of hk10.nv (by decide +kernel))).mono fun e w' ⟨⟨h, bs⟩, q, hk, ht, hi, he, hb, hn⟩ => ⟨(h, bs, q), ⟨netis_of hk10.nv hk, told_of hk10.nv ht, hi⟩, he, hb, newOk2 15 16 hn.row hn.pool hn.sep⟩) rfl rfl rfl (w_n rfl) ?_
  rintro ⟨h12, bs12, q12⟩ ⟨hk12, hq12, hi12⟩
  refine TL_q (.tuple #[.agg #[.slice h12.n.a h12.n.l.length h12.n.cap, .int .u64 h12.lost], .agg #[.int .i64 q12.to, .slice q12.r.a q12.r.l.length q12.r.cap, .bool q12.sp], .int .i64 0]) (fun _ _ hρ _ => r_move (hρ _ _ rfl)) rfl rfl rfl (w_n rfl) ?_
  refine TL_q (.agg #[.slice h12.n.a h12.n.l.length h12.n.cap, .int .u64 h12.lost]) (fun _ _ hρ _ => r_extract (hρ _ _ rfl) rfl) rfl rfl rfl (w_n rfl) ?_
  refine TL_q (.agg #[.int .i64 q12.to, .slice q12.r.a q12.r.l.length q12.r.cap, .bool q12.sp]) (fun _ _ hρ _ => r_extract (hρ _ _ rfl) rfl) rfl rfl rfl (w_n rfl) ?_
  refine TL_q (.int .i64 0) (fun _ _ hρ _ => r_extract (hρ _ _ rfl) rfl) rfl rfl rfl (w_n rfl) ?_
  refine TL_new 17 (.cells #[.slice none 0 0, .int .u64 0] 27) (fun B => .pointer (some ⟨B, 0, none⟩)) (fun _ _ _ _ => r_alloc (v := .agg #[.slice none 0 0, .int .u64 0]) (by kernel_rfl) rfl) rfl rfl rfl (w_n rfl) ?_
  intro B13
  refine TL_new 18 (.cells #[.int .i64 0, .slice none 0 0, .bool false] 36) (fun B => .pointer (some ⟨B, 0, none⟩)) (fun _ _ _ _ => r_alloc (v := .agg #[.int .i64 0, .slice none 0 0, .bool false]) (by kernel_rfl) rfl) rfl rfl rfl (w_n rfl) ?_
  intro B14
  refine TL_store 17 (.cells #[.slice h12.n.a h12.n.l.length h12.n.cap, .int .u64 h12.lost] 27) rfl (fun _ _ hρ hm => r_store sz27 (hρ _ _ rfl) (hρ _ _ rfl) (hm.at 17 rfl) rfl rfl rfl rfl) rfl rfl (w_n rfl) ?_
  refine TL_store 18 (.cells #[.int .i64 q12.to, .slice q12.r.a q12.r.l.length q12.r.cap, .bool q12.sp] 36) rfl (fun _ _ hρ hm => r_store sz36 (hρ _ _ rfl) (hρ _ _ rfl) (hm.at 18 rfl) rfl rfl rfl rfl) rfl rfl (w_n rfl) ?_
  refine TL_q (.int .i64 0) (fun _ _ hρ _ => r_assign (hρ _ _ rfl)) rfl rfl rfl (w_n rfl) ?_
  refine TL_seq ?_
  refine T_seq (T_region ?_)
  refine TL_q (.agg #[.slice h10.n.a h10.n.l.length h10.n.cap, .int .u64 h10.lost]) (fun _ _ hρ hm => r_loadA ag27 sz27 (hρ _ _ rfl) (hm.at 6 rfl) rfl rfl) rfl rfl rfl (w_n rfl) ?_
  refine TL_q (.agg #[.int .i64 2, .int .i64 9, .int .i64 0, .int .u32 0]) (fun _ _ hρ _ => r_build (vs := [(0, .int .i64 2), (1, .int .i64 9)]) (by kernel_rfl) (cons2 (pair2 (hρ _ _ rfl)) (cons2 (pair2 (hρ _ _ rfl)) rfl))) rfl rfl rfl (w_n rfl) ?_
  refine TL_call (.tuple #[.agg #[.slice none 0 0, .int .u64 0], .agg #[.int .i64 0, .slice none 0 0, .bool false], .int .i64 4]) (fun _ _ hρ _ => r_call (args := [.agg #[.slice h10.n.a h10.n.l.length h10.n.cap, .int .u64 h10.lost], .agg #[.int .i64 2, .int .i64 9, .int .i64 0, .int .u32 0]]) (enters_of Try.func23 (by kernel_rfl) rfl) (hρ _ _ rfl) ((cons2 (hρ _ _ rfl) (cons2 (hρ _ _ rfl) rfl))) rfl) (fun w hm => do_err h10.n.l h10.n.a h10.n.cap h10.lost 2 9 0 (0#32) w (SliceAt.own Pcl.cells_len (hm.row 12 rfl) rfl rfl) (row_cap (hm.row 12 rfl)) (pcs_pool (hm.pool 13 rfl) hk10.ok.inN) 4 hk10.ok.lost0 (chk_of hk10.nv (by decide +kernel)) (doe_of hk10.nv (by decide +kernel)) (by decide)) rfl rfl rfl (w_n rfl) ?_
  refine TL_q (.tuple #[.agg #[.slice none 0 0, .int .u64 0], .agg #[.int .i64 0, .slice none 0 0, .bool false], .int .i64 4]) (fun _ _ hρ _ => r_move (hρ _ _ rfl)) rfl rfl rfl (w_n rfl) ?_
  refine TL_q (.agg #[.slice none 0 0, .int .u64 0]) (fun _ _ hρ _ => r_extract (hρ _ _ rfl) rfl) rfl rfl rfl (w_n rfl) ?_
  refine TL_q (.agg #[.int .i64 0, .slice none 0 0, .bool false]) (fun _ _ hρ _ => r_extract (hρ _ _ rfl) rfl) rfl rfl rfl (w_n rfl) ?_
  refine TL_q (.int .i64 4) (fun _ _ hρ _ => r_extract (hρ _ _ rfl) rfl) rfl rfl rfl (w_n rfl) ?_
  refine TL_new 19 (.cells #[.slice none 0 0, .int .u64 0] 27) (fun B => .pointer (some ⟨B, 0, none⟩)) (fun _ _ _ _ => r_alloc (v := .agg #[.slice none 0 0, .int .u64 0]) (by kernel_rfl) rfl) rfl rfl rfl (w_n rfl) ?_
  intro B15
  refine TL_new 20 (.cells #[.int .i64 0, .slice none 0 0, .bool false] 36) (fun B => .pointer (some ⟨B, 0, none⟩)) (fun _ _ _ _ => r_alloc (v := .agg #[.int .i64 0, .slice none 0 0, .bool false]) (by kernel_rfl) rfl) rfl rfl rfl (w_n rfl) ?_
  intro B16
  refine TL_store 19 (.cells #[.slice none 0 0, .int .u64 0] 27) rfl (fun _ _ hρ hm => r_store sz27 (hρ _ _ rfl) (hρ _ _ rfl) (hm.at 19 rfl) rfl rfl rfl rfl) rfl rfl (w_n rfl) ?_
  refine TL_store 20 (.cells #[.int .i64 0, .slice none 0 0, .bool false] 36) rfl (fun _ _ hρ hm => r_store sz36 (hρ _ _ rfl) (hρ _ _ rfl) (hm.at 20 rfl) rfl rfl rfl rfl) rfl rfl (w_n rfl) ?_
  refine TL_q (.int .i64 4) (fun _ _ hρ _ => r_assign (hρ _ _ rfl)) rfl rfl rfl (w_n rfl) ?_
  refine TL_seq ?_
  refine T_seq (T_region ?_)
  refine TL_q (.agg #[.slice h10.n.a h10.n.l.length h10.n.cap, .int .u64 h10.lost]) (fun _ _ hρ hm => r_loadA ag27 sz27 (hρ _ _ rfl) (hm.at 6 rfl) rfl rfl) rfl rfl rfl (w_n rfl) ?_
  refine TL_callN (fun x : Hd × List (RowG By) => Emptied h10.n.l h10.lost x) (fun (h17, bs17) => .tuple #[.agg #[.slice h17.n.a h17.n.l.length h17.n.cap, .int .u64 h17.lost], .slice h17.t.a h17.t.l.length h17.t.cap, .int .i64 0]) (fun (h17, bs17) => [(21, .row (.slice h17.n.a h17.n.l.length h17.n.cap) 36 3 h17.n.l.length (h17.n.l.flatMap Pcl.cells)), (22, .row (.slice h17.t.a h17.t.l.length h17.t.cap) 36 3 h17.t.l.length (h17.t.l.flatMap Pcl.cells)), (23, .pool 5 1 byc bs17)]) (fun _ _ hρ _ => r_call (args := [.agg #[.slice h10.n.a h10.n.l.length h10.n.cap, .int .u64 h10.lost]]) (enters_of Try.func15 (by kernel_rfl) rfl) (hρ _ _ rfl) ((cons2 (hρ _ _ rfl) rfl)) rfl) (fun w hm => (empty_ok h10.n.l h10.n.a h10.n.cap h10.lost w (SliceAt.own Pcl.cells_len (hm.row 12 rfl) rfl rfl) (row_cap (hm.row 12 rfl)) (pcs_pool (hm.pool 13 rfl) hk10.ok.inN) hk10.ok.lost0 (chk_of hk10.nv (by decide +kernel))).mono fun e w' ⟨x, hx, he, hb, r1, r2, r3, s1, s2, s3⟩ => ⟨x, hx, he, hb, newOk3 21 22 23 r1 r2 r3 s1 s2 s3⟩) rfl rfl rfl (w_n rfl) ?_
  rintro ⟨h17, bs17⟩ hem17
  refine TL_q (.tuple #[.agg #[.slice h17.n.a h17.n.l.length h17.n.cap, .int .u64 h17.lost], .slice h17.t.a h17.t.l.length h17.t.cap, .int .i64 0]) (fun _ _ hρ _ => r_move (hρ _ _ rfl)) rfl rfl rfl (w_n rfl) ?_
  refine TL_q (.agg #[.slice h17.n.a h17.n.l.length h17.n.cap, .int .u64 h17.lost]) (fun _ _ hρ _ => r_extract (hρ _ _ rfl) rfl) rfl rfl rfl (w_n rfl) ?_
  refine TL_q (.slice h17.t.a h17.t.l.length h17.t.cap) (fun _ _ hρ _ => r_extract (hρ _ _ rfl) rfl) rfl rfl rfl (w_n rfl) ?_
  refine TL_q (.int .i64 0) (fun _ _ hρ _ => r_extract (hρ _ _ rfl) rfl) rfl rfl rfl (w_n rfl) ?_
  refine TL_new 24 (.cells #[.slice none 0 0, .int .u64 0] 27) (fun B => .pointer (some ⟨B, 0, none⟩)) (fun _ _ _ _ => r_alloc (v := .agg #[.slice none 0 0, .int .u64 0]) (by kernel_rfl) rfl) rfl rfl rfl (w_n rfl) ?_
  intro B18
  refine TL_store 24 (.cells #[.slice h17.n.a h17.n.l.length h17.n.cap, .int .u64 h17.lost] 27) rfl (fun _ _ hρ hm => r_store sz27 (hρ _ _ rfl) (hρ _ _ rfl) (hm.at 24 rfl) rfl rfl rfl rfl) rfl rfl (w_n rfl) ?_
  refine TL_q (.slice h17.t.a h17.t.l.length h17.t.cap) (fun _ _ hρ _ => r_assign (hρ _ _ rfl)) rfl rfl rfl (w_n rfl) ?_
  refine TL_q (.int .i64 0) (fun _ _ hρ _ => r_assign (hρ _ _ rfl)) rfl rfl rfl (w_n rfl) ?_
  refine TL_seq ?_
  refine T_sub [(0, .bool false), (1, .pointer (some ⟨B5, 0, none⟩)), (2, .int .i64 0), (3, .int .i64 1), (4, .bool true), (6, .int .i64 0), (9, .int .i64 5), (11, .int .i64 0), (12, .pointer (some ⟨B13, 0, none⟩)), (13, .pointer (some ⟨B14, 0, none⟩)), (14, .int .i64 0), (17, .int .i64 4), (19, .slice h17.t.a h17.t.l.length h17.t.cap), (20, .int .i64 0)] [(21, .row (.slice h17.n.a h17.n.l.length h17.n.cap) 36 3 h17.n.l.length (h17.n.l.flatMap Pcl.cells)), (22, .row (.slice h17.t.a h17.t.l.length h17.t.cap) 36 3 h17.t.l.length (h17.t.l.flatMap Pcl.cells)), (23, .pool 5 1 byc bs17), (15, .row (.slice h12.n.a h12.n.l.length h12.n.cap) 36 3 h12.n.l.length (h12.n.l.flatMap Pcl.cells)), (16, .pool 5 1 byc bs12), (12, .row (.slice h10.n.a h10.n.l.length h10.n.cap) 36 3 h10.n.l.length (h10.n.l.flatMap Pcl.cells)), (13, .pool 5 1 byc bs10), (7, .row (.slice h6.n.a h6.n.l.length h6.n.cap) 36 3 h6.n.l.length (h6.n.l.flatMap Pcl.cells)), (8, .pool 5 1 byc bs6), (4, .row (.slice h4.n.a h4.n.l.length h4.n.cap) 36 3 h4.n.l.length (h4.n.l.flatMap Pcl.cells)), (5, .pool 5 1 byc bs4), (1, .blk B1 (.cells #[.int .u8 1, .int .u8 2] 5)), (2, .blk B2 (.cells #[.int .u8 3] 5)), (3, .blk B3 (.cells #[.int .i64 0, .slice (some ⟨B1, 0, none⟩) 2 2, .bool false, .int .i64 4, .slice (some ⟨B2, 0, none⟩) 1 1, .bool false] 36)), (9, .blk B7 (.cells #[.int .i64 q6.to, .slice q6.r.a q6.r.l.length q6.r.cap, .bool q6.sp] 36)), (10, .blk B8 (.cells #[.slice none 0 0, .int .u64 0] 27)), (11, .blk B9 (.cells #[.int .i64 0, .slice none 0 0, .bool false] 36)), (6, .blk B5 (.cells #[.slice h10.n.a h10.n.l.length h10.n.cap, .int .u64 h10.lost] 27)), (14, .blk B11 (.cells #[.int .i64 q10.to, .slice q10.r.a q10.r.l.length q10.r.cap, .bool q10.sp] 36)), (17, .blk B13 (.cells #[.slice h12.n.a h12.n.l.length h12.n.cap, .int .u64 h12.lost] 27)), (18, .blk B14 (.cells #[.int .i64 q12.to, .slice q12.r.a q12.r.l.length q12.r.cap, .bool q12.sp] 36)), (19, .blk B15 (.cells #[.slice none 0 0, .int .u64 0] 27)), (20, .blk B16 (.cells #[.int .i64 0, .slice none 0 0, .bool false] 36)), (24, .blk B18 (.cells #[.slice h17.n.a h17.n.l.length h17.n.cap, .int .u64 h17.lost] 27))] (sub_cons rfl (sub_cons rfl (sub_cons rfl (sub_cons rfl (sub_cons rfl (sub_cons rfl (sub_cons rfl (sub_cons rfl (sub_cons rfl (sub_cons rfl (sub_cons rfl (sub_cons rfl (sub_cons rfl (sub_cons rfl sub_nil)))))))))))))) (sub_cons rfl (sub_cons rfl (sub_cons rfl (sub_cons rfl (sub_cons rfl (sub_cons rfl (sub_cons rfl (sub_cons rfl (sub_cons rfl (sub_cons rfl (sub_cons rfl (sub_cons rfl (sub_cons rfl (sub_cons rfl (sub_cons rfl (sub_cons rfl (sub_cons rfl (sub_cons rfl (sub_cons rfl (sub_cons rfl (sub_cons rfl (sub_cons rfl (sub_cons rfl (sub_cons rfl sub_nil)))))))))))))))))))))))) ?_
  have hl3 : h10.n.l.length = 3 := net_len hk10.nv (show wk2.1.length = 3 from by decide +kernel)
  have hl2 : h12.n.l.length = 2 := net_len hk12.nv (show wk3.1.length = 2 from by decide +kernel)
  have hle : h17.t.l.length = 3 := by rw [← pvs_len, hem17.told, pvs_len]; exact hl3
  have hqv : q12.pv = ⟨0, [0#8, 2#8], true⟩ := hq12.trans (by decide +kernel)
  have hqs : q12.sp = true := congrArg PV.sp hqv
  have hqb : q12.r.l = [0#8, 2#8] := congrArg PV.l hqv
  have hqn : q12.r.l.length = 2 := by rw [hqb]; rfl
  refine T_seq (T_region ?_)
  refine TL_q (.int .i64 0) (fun _ _ hρ _ => r_move (hρ _ _ rfl)) rfl rfl rfl (w_n rfl) ?_
  refine TL_q (.bool true) (fun _ _ hρ _ => r_as (r_eql (hρ _ _ rfl) (hρ _ _ rfl)) (by rfl)) rfl rfl rfl (w_n rfl) ?_
  refine TL_q (.bool true) (fun _ _ hρ _ => r_move (hρ _ _ rfl)) rfl rfl rfl (w_n rfl) ?_
  refine TL_q (.int .i64 0) (fun _ _ hρ _ => r_move (hρ _ _ rfl)) rfl rfl rfl (want_y 79 rfl rfl rfl) ?_
  refine TL_q (.bool true) (fun _ _ hρ _ => r_as (r_eql (hρ _ _ rfl) (hρ _ _ rfl)) (by rfl)) rfl rfl rfl (want_y 79 rfl rfl rfl) ?_
  refine TL_q (.bool true) (fun _ _ hρ _ => r_pick_t (hρ _ _ rfl) (hρ _ _ rfl)) rfl rfl rfl (w_n rfl) ?_
  refine TL_q (.bool true) (fun _ _ hρ _ => r_move (hρ _ _ rfl)) rfl rfl rfl (w_n rfl) ?_
  refine TL_q (.int .i64 0) (fun _ _ hρ _ => r_move (hρ _ _ rfl)) rfl rfl rfl (want_y 83 rfl rfl rfl) ?_
  refine TL_q (.bool true) (fun _ _ hρ _ => r_as (r_eql (hρ _ _ rfl) (hρ _ _ rfl)) (by rfl)) rfl rfl rfl (want_y 83 rfl rfl rfl) ?_
  refine TL_q (.bool true) (fun _ _ hρ _ => r_pick_t (hρ _ _ rfl) (hρ _ _ rfl)) rfl rfl rfl (w_n rfl) ?_
  refine TL_q (.bool true) (fun _ _ hρ _ => r_move (hρ _ _ rfl)) rfl rfl rfl (w_n rfl) ?_
  refine TL_q (.int .i64 0) (fun _ _ hρ _ => r_move (hρ _ _ rfl)) rfl rfl rfl (want_y 87 rfl rfl rfl) ?_
  refine TL_q (.bool true) (fun _ _ hρ _ => r_as (r_eql (hρ _ _ rfl) (hρ _ _ rfl)) (by rfl)) rfl rfl rfl (want_y 87 rfl rfl rfl) ?_
  refine TL_q (.bool true) (fun _ _ hρ _ => r_pick_t (hρ _ _ rfl) (hρ _ _ rfl)) rfl rfl rfl (w_n rfl) ?_
  refine TL_q (.bool true) (fun _ _ hρ _ => r_move (hρ _ _ rfl)) rfl rfl rfl (w_n rfl) ?_
  refine TL_q (.int .i64 0) (fun _ _ hρ _ => r_move (hρ _ _ rfl)) rfl rfl rfl (want_y 91 rfl rfl rfl) ?_
  refine TL_q (.bool true) (fun _ _ hρ _ => r_as (r_eql (hρ _ _ rfl) (hρ _ _ rfl)) (by rfl)) rfl rfl rfl (want_y 91 rfl rfl rfl) ?_
  refine TL_q (.bool true) (fun _ _ hρ _ => r_pick_t (hρ _ _ rfl) (hρ _ _ rfl)) rfl rfl rfl (w_n rfl) ?_
  refine TL_q (.bool true) (fun _ _ hρ _ => r_move (hρ _ _ rfl)) rfl rfl rfl (w_n rfl) ?_
  refine TL_q (.int .i64 5) (fun _ _ hρ _ => r_move (hρ _ _ rfl)) rfl rfl rfl (want_y 95 rfl rfl rfl) ?_
  refine TL_q (.bool true) (fun _ _ hρ _ => r_as (r_eql (hρ _ _ rfl) (hρ _ _ rfl)) (by rfl)) rfl rfl rfl (want_y 95 rfl rfl rfl) ?_
  refine TL_q (.bool true) (fun _ _ hρ _ => r_pick_t (hρ _ _ rfl) (hρ _ _ rfl)) rfl rfl rfl (w_n rfl) ?_
  refine TL_q (.bool true) (fun _ _ hρ _ => r_move (hρ _ _ rfl)) rfl rfl rfl (w_n rfl) ?_
  refine TL_q (.int .i64 4) (fun _ _ hρ _ => r_move (hρ _ _ rfl)) rfl rfl rfl (want_y 99 rfl rfl rfl) ?_
  refine TL_q (.bool true) (fun _ _ hρ _ => r_as (r_eql (hρ _ _ rfl) (hρ _ _ rfl)) (by rfl)) rfl rfl rfl (want_y 99 rfl rfl rfl) ?_
  refine TL_q (.bool true) (fun _ _ hρ _ => r_pick_t (hρ _ _ rfl) (hρ _ _ rfl)) rfl rfl rfl (w_n rfl) ?_
  refine TL_q (.bool true) (fun _ _ hρ _ => r_move (hρ _ _ rfl)) rfl rfl rfl (w_n rfl) ?_
  refine TL_q (.int .i64 1) (fun _ _ hρ _ => r_move (hρ _ _ rfl)) rfl rfl rfl (want_y 103 rfl rfl rfl) ?_
  refine TL_q (.bool true) (fun _ _ hρ _ => r_as (r_eql (hρ _ _ rfl) (hρ _ _ rfl)) (by rfl)) rfl rfl rfl (want_y 103 rfl rfl rfl) ?_
  refine TL_q (.bool true) (fun _ _ hρ _ => r_pick_t (hρ _ _ rfl) (hρ _ _ rfl)) rfl rfl rfl (w_n rfl) ?_
  refine TL_q (.bool true) (fun _ _ hρ _ => r_move (hρ _ _ rfl)) rfl rfl rfl (w_n rfl) ?_
  refine TL_q (.bool true) (fun _ _ hρ _ => r_move (hρ _ _ rfl)) rfl rfl rfl (want_y 107 rfl rfl rfl) ?_
  refine TL_q (.bool true) (fun _ _ hρ _ => r_pick_t (hρ _ _ rfl) (hρ _ _ rfl)) rfl rfl rfl (w_n rfl) ?_
  refine TL_q (.bool true) (fun _ _ hρ _ => r_move (hρ _ _ rfl)) rfl rfl rfl (w_n rfl) ?_
  refine TL_q (.pointer (some ⟨B5, 0, none⟩)) (fun _ _ hρ _ => r_fieldAddr fl27_0 sz22 (hρ _ _ rfl)) rfl rfl rfl (want_y 110 rfl rfl rfl) ?_
  refine TL_q (.slice h10.n.a h10.n.l.length h10.n.cap) (fun _ _ hρ hm => r_load ag22 (hρ _ _ rfl) (hm.at 6 rfl) rfl) rfl rfl rfl (want_y 110 rfl rfl rfl) ?_
  refine TL_q (.int .i64 ((h10.n.l.length : Nat) : Int)) (fun _ _ hρ _ => r_len sl22 (hρ _ _ rfl)) rfl rfl rfl (want_y 110 rfl rfl rfl) ?_
  refine TL_q (.bool true) (fun _ _ hρ _ => r_as (r_eql (hρ _ _ rfl) (hρ _ _ rfl)) (bool_as (decide_eq_true (by omega)))) rfl rfl rfl (want_y 110 rfl rfl rfl) ?_
  refine TL_q (.bool true) (fun _ _ hρ _ => r_pick_t (hρ _ _ rfl) (hρ _ _ rfl)) rfl rfl rfl (w_n rfl) ?_
  refine TL_q (.bool true) (fun _ _ hρ _ => r_move (hρ _ _ rfl)) rfl rfl rfl (w_n rfl) ?_
  refine TL_q (.pointer (some ⟨B13, 0, none⟩)) (fun _ _ hρ _ => r_fieldAddr fl27_0 sz22 (hρ _ _ rfl)) rfl rfl rfl (want_y 116 rfl rfl rfl) ?_
  refine TL_q (.slice h12.n.a h12.n.l.length h12.n.cap) (fun _ _ hρ hm => r_load ag22 (hρ _ _ rfl) (hm.at 17 rfl) rfl) rfl rfl rfl (want_y 116 rfl rfl rfl) ?_
  refine TL_q (.int .i64 ((h12.n.l.length : Nat) : Int)) (fun _ _ hρ _ => r_len sl22 (hρ _ _ rfl)) rfl rfl rfl (want_y 116 rfl rfl rfl) ?_
  refine TL_q (.bool true) (fun _ _ hρ _ => r_as (r_eql (hρ _ _ rfl) (hρ _ _ rfl)) (bool_as (decide_eq_true (by omega)))) rfl rfl rfl (want_y 116 rfl rfl rfl) ?_
  refine TL_q (.bool true) (fun _ _ hρ _ => r_pick_t (hρ _ _ rfl) (hρ _ _ rfl)) rfl rfl rfl (w_n rfl) ?_
  refine TL_q (.bool true) (fun _ _ hρ _ => r_move (hρ _ _ rfl)) rfl rfl rfl (w_n rfl) ?_
  refine TL_q (.pointer (some ⟨B14, 2, none⟩)) (fun _ _ hρ _ => r_fieldAddr fl36_2 sz4 (hρ _ _ rfl)) rfl rfl rfl (want_y 122 rfl rfl rfl) ?_
  refine TL_q (.bool true) (fun _ _ hρ hm => r_as (r_load ag4 (hρ _ _ rfl) (hm.at 18 rfl) rfl) (bool_as hqs)) rfl rfl rfl (want_y 122 rfl rfl rfl) ?_
  refine TL_q (.bool true) (fun _ _ hρ _ => r_pick_t (hρ _ _ rfl) (hρ _ _ rfl)) rfl rfl rfl (w_n rfl) ?_
  refine TL_q (.bool true) (fun _ _ hρ _ => r_move (hρ _ _ rfl)) rfl rfl rfl (w_n rfl) ?_
  refine TL_q (.pointer (some ⟨B14, 1, none⟩)) (fun _ _ hρ _ => r_fieldAddr fl36_1 sz34 (hρ _ _ rfl)) rfl rfl rfl (want_y 126 rfl rfl rfl) ?_
  refine TL_q (.slice q12.r.a q12.r.l.length q12.r.cap) (fun _ _ hρ hm => r_load ag34 (hρ _ _ rfl) (hm.at 18 rfl) rfl) rfl rfl rfl (want_y 126 rfl rfl rfl) ?_
  refine TL_new 25 (.cells #[.int .u8 0, .int .u8 2] 5) (fun B => .slice (some ⟨B, 0, none⟩) 2 2) (fun _ _ hρ _ => r_buildSlice (vs := [(0, .int .u8 0), (1, .int .u8 2)]) (by kernel_rfl) (cons2 (pair2 (hρ _ _ rfl)) (cons2 (pair2 (hρ _ _ rfl)) rfl))) rfl rfl rfl (want_y 126 rfl rfl rfl) ?_
  intro B19
  refine TL_call (.bool true) (fun _ _ hρ _ => r_call (args := [.slice q12.r.a q12.r.l.length q12.r.cap, .slice (some ⟨B19, 0, none⟩) 2 2]) (enters_of Try.func16 (by kernel_rfl) rfl) (hρ _ _ rfl) ((cons2 (hρ _ _ rfl) (cons2 (hρ _ _ rfl) rfl))) rfl) (fun w hm => (equal_b q12.r.l [0#8, 2#8] q12.r.a (some ⟨B19, 0, none⟩) q12.r.cap 2 w (told_at (hm.pool 16 rfl) hi12) ⟨Nat.le_of_ble_eq_true rfl, (fun e => by cases e), .inr ⟨_, 0, _, _, _, rfl, (hm.at 25 rfl), row_of_take (fun _ => rfl) rfl⟩⟩ (by omega) (Nat.le_of_ble_eq_true rfl)).mono fun _ _ h => ⟨h.1.trans (congrArg Ending.returned (bool_as (decide_eq_true hqb))), h.2⟩) rfl rfl rfl (want_y 126 rfl rfl rfl) ?_
  refine TL_q (.bool true) (fun _ _ hρ _ => r_pick_t (hρ _ _ rfl) (hρ _ _ rfl)) rfl rfl rfl (w_n rfl) ?_
  refine TL_q (.bool true) (fun _ _ hρ _ => r_move (hρ _ _ rfl)) rfl rfl rfl (w_n rfl) ?_
  refine TL_q (.slice h17.t.a h17.t.l.length h17.t.cap) (fun _ _ hρ _ => r_move (hρ _ _ rfl)) rfl rfl rfl (want_y 132 rfl rfl rfl) ?_
  refine TL_q (.int .i64 ((h17.t.l.length : Nat) : Int)) (fun _ _ hρ _ => r_len sl22 (hρ _ _ rfl)) rfl rfl rfl (want_y 132 rfl rfl rfl) ?_
  refine TL_q (.bool true) (fun _ _ hρ _ => r_as (r_eql (hρ _ _ rfl) (hρ _ _ rfl)) (bool_as (decide_eq_true (by omega)))) rfl rfl rfl (want_y 132 rfl rfl rfl) ?_
  refine TL_q (.bool true) (fun _ _ hρ _ => r_pick_t (hρ _ _ rfl) (hρ _ _ rfl)) rfl rfl rfl (w_n rfl) ?_
  refine TL_q (.bool true) (fun _ _ hρ _ => r_assign (hρ _ _ rfl)) rfl rfl rfl (w_n rfl) ?_
  refine TL_seq ?_
  refine T_sub [(0, .bool true)] [(21, .row (.slice h17.n.a h17.n.l.length h17.n.cap) 36 3 h17.n.l.length (h17.n.l.flatMap Pcl.cells)), (22, .row (.slice h17.t.a h17.t.l.length h17.t.cap) 36 3 h17.t.l.length (h17.t.l.flatMap Pcl.cells)), (23, .pool 5 1 byc bs17), (15, .row (.slice h12.n.a h12.n.l.length h12.n.cap) 36 3 h12.n.l.length (h12.n.l.flatMap Pcl.cells)), (16, .pool 5 1 byc bs12), (12, .row (.slice h10.n.a h10.n.l.length h10.n.cap) 36 3 h10.n.l.length (h10.n.l.flatMap Pcl.cells)), (13, .pool 5 1 byc bs10), (7, .row (.slice h6.n.a h6.n.l.length h6.n.cap) 36 3 h6.n.l.length (h6.n.l.flatMap Pcl.cells)), (8, .pool 5 1 byc bs6), (4, .row (.slice h4.n.a h4.n.l.length h4.n.cap) 36 3 h4.n.l.length (h4.n.l.flatMap Pcl.cells)), (5, .pool 5 1 byc bs4), (1, .blk B1 (.cells #[.int .u8 1, .int .u8 2] 5)), (2, .blk B2 (.cells #[.int .u8 3] 5)), (3, .blk B3 (.cells #[.int .i64 0, .slice (some ⟨B1, 0, none⟩) 2 2, .bool false, .int .i64 4, .slice (some ⟨B2, 0, none⟩) 1 1, .bool false] 36)), (9, .blk B7 (.cells #[.int .i64 q6.to, .slice q6.r.a q6.r.l.length q6.r.cap, .bool q6.sp] 36)), (10, .blk B8 (.cells #[.slice none 0 0, .int .u64 0] 27)), (11, .blk B9 (.cells #[.int .i64 0, .slice none 0 0, .bool false] 36)), (6, .blk B5 (.cells #[.slice h10.n.a h10.n.l.length h10.n.cap, .int .u64 h10.lost] 27)), (14, .blk B11 (.cells #[.int .i64 q10.to, .slice q10.r.a q10.r.l.length q10.r.cap, .bool q10.sp] 36)), (17, .blk B13 (.cells #[.slice h12.n.a h12.n.l.length h12.n.cap, .int .u64 h12.lost] 27)), (18, .blk B14 (.cells #[.int .i64 q12.to, .slice q12.r.a q12.r.l.length q12.r.cap, .bool q12.sp] 36)), (19, .blk B15 (.cells #[.slice none 0 0, .int .u64 0] 27)), (20, .blk B16 (.cells #[.int .i64 0, .slice none 0 0, .bool false] 36)), (24, .blk B18 (.cells #[.slice h17.n.a h17.n.l.length h17.n.cap, .int .u64 h17.lost] 27)), (25, .blk B19 (.cells #[.int .u8 0, .int .u8 2] 5))] (sub_cons rfl sub_nil) (sub_cons rfl (sub_cons rfl (sub_cons rfl (sub_cons rfl (sub_cons rfl (sub_cons rfl (sub_cons rfl (sub_cons rfl (sub_cons rfl (sub_cons rfl (sub_cons rfl (sub_cons rfl (sub_cons rfl (sub_cons rfl (sub_cons rfl (sub_cons rfl (sub_cons rfl (sub_cons rfl (sub_cons rfl (sub_cons rfl (sub_cons rfl (sub_cons rfl (sub_cons rfl (sub_cons rfl (sub_cons rfl sub_nil))))))))))))))))))))))))) ?_
  refine T_ret' ?_
  refine ret_of rfl (.bool true) (fun tmps w hk hm => res1 rfl (res_tmp (hk 0 _ rfl))) (fun w hm => ?_)
  exact ⟨rfl, hm.ext⟩
end Go.Proofs.Ytcidgbjgeegepaa
/- net: what is sent into a net of nothing; the first place of a parcel to there. -/
namespace Go.Proofs.Ytcidgbjgeegepaa
open Go Go.RowKit
theorem puts_take (l : List PV) (h : l.length ≤ 1000) : ∀ k, k ≤ l.length → putsV ([], 0) (l.take k) = (l.take (min k 64), ((k - 64 : Nat) : Int)) := by
  intro k
  induction k with
  | zero => intro _; rfl
  | succ k ih =>
    intro hk
    obtain ⟨p, hp⟩ : ∃ p, l[k]? = some p := ⟨_, List.getElem?_eq_getElem (by omega)⟩
    rw [putsV_step hp, ih (by omega)]
    unfold putV
    dsimp only
    rw [List.length_take]
    by_cases h64 : k < 64
    · rw [if_pos (by omega), Nat.min_eq_left (by omega), Nat.min_eq_left (by omega), List.take_add_one, hp, show k - 64 = 0 by omega, show k + 1 - 64 = 0 by omega]
      rfl
    · rw [if_neg (by omega), if_pos (by unfold MT; omega), Nat.min_eq_right (by omega), Nat.min_eq_right (by omega)]
      congr 1
      omega
theorem puts_all (l : List PV) (h : l.length ≤ 1000) : putsV ([], 0) l = (l.take (min l.length 64), ((l.length - 64 : Nat) : Int)) := by
  have := puts_take l h l.length (Nat.le_refl _)
  rwa [List.take_length] at this
theorem toV_cons (p : Pcl) (ps : List Pcl) (to : Int) : toV (p :: ps) to = (if p.to = to then [0] else []) ++ (toV ps to).map (· + 1) := by
  unfold toV
  rw [List.length_cons, List.range_succ_eq_map, List.filter_cons, List.filter_map]
  have e : phiT (p :: ps) to ∘ Nat.succ = phiT ps to := by funext i; rfl
  rw [e]
  by_cases h : p.to = to
  · rw [if_pos (show phiT (p :: ps) to 0 = true from decide_eq_true (by rw [← h]; rfl)), if_pos h]; rfl
  · rw [if_neg (show ¬ phiT (p :: ps) to 0 = true from fun e => h (Option.some.inj (of_decide_eq_true (p := ((p :: ps)[0]?).map Pcl.to = some to) e))), if_neg h]; rfl
theorem toV_first (ps : List Pcl) (to : Int) : (toV ps to)[0]? = ps.findIdx? fun p => decide (p.to = to) := by
  induction ps with
  | nil => rfl
  | cons p ps ih =>
    rw [toV_cons, List.findIdx?_cons]
    by_cases h : p.to = to
    · rw [if_pos h, if_pos (decide_eq_true h)]; rfl
    · rw [if_neg h, if_neg (by simpa using h), List.nil_append, List.getElem?_map, ih]
theorem find_pvs {ps qs : List Pcl} (h : pvs ps = pvs qs) (to : Int) : (ps.findIdx? fun p => decide (p.to = to)) = qs.findIdx? fun p => decide (p.to = to) := by
  have key : ∀ l : List Pcl, (l.findIdx? fun p => decide (p.to = to)) = (pvs l).findIdx? fun p => decide (p.to = to) := fun l => by
    unfold pvs; rw [List.findIdx?_map]; rfl
  rw [key, key, h]
end Go.Proofs.Ytcidgbjgeegepaa
/- Slices that are read, wherever they lie. Over any program. -/
namespace Go.Proofs.Ytcidgbjgeegepaa
open Go Go.RowKit
section
variable {C : Cx} {Q : Post} {K : List (Nat × Value)} {L : Heap} {α : Type} {s : Nat} {f : α → List Value} {l : List α} {a : Option Addr} {cap : Nat}
theorem T_open {c : Code} (hs : ∀ w, MemOk C.w₀ L w → SliceAt w a cap s f l) (hl : 0 < l.length) (h : ∀ b off, a = some ⟨b, off, none⟩ → T C c Q K L) : T C c Q K L := by
  intro ac w hf hm
  obtain ⟨b, off, cs, T', fz, h1, _, _⟩ := (hs w hm).open (i := 0) hl
  exact h b off h1 ac w hf hm
end
section
variable {P : Program} {w : World} {ρ : Operand → Value} {d : Option Tmp} {ty : TypeId} {ps : String} {af : Array Edge} {g : Option (Nat × Bool)} {x : Operand} {α : Type} {s : Nat} {f : α → List Value} {l : List α} {b off cap i : Nat} {u : α} {t : TypeId}
theorem slice_in (h : SliceAt w (some ⟨b, off, none⟩) cap s f l) (hu : l[i]? = some u) : ∃ cs T fz, hp w b = some (.cells cs T fz) ∧ Row s f cs off l := by
  obtain ⟨b', off', cs, T, fz, h1, h2, h3⟩ := h.open (i := i) (List.getElem?_eq_some_iff.1 hu).1
  cases h1
  exact ⟨cs, T, fz, h2, h3⟩
theorem r_loadS (ha : aggOf P t = some true) (hs : szOf P t = some s) (hx : ρ x = .pointer (some ⟨b, off + i * s, none⟩)) (h : SliceAt w (some ⟨b, off, none⟩) cap s f l) (hu : l[i]? = some u) : (execOp ρ (mk d (.load t x) ty ps af g)).run P w = .ok (.value (.agg (f u).toArray)) w := by
  obtain ⟨cs, T, fz, h1, h2⟩ := slice_in h hu
  exact r_loadRow ha hs hx h1 h2 hu
theorem r_loadSJ {v : Value} (j : Nat) (ha : aggOf P t = some false) (hx : ρ x = .pointer (some ⟨b, off + i * s + j, none⟩)) (h : SliceAt w (some ⟨b, off, none⟩) cap s f l) (hu : l[i]? = some u) (hv : (f u)[j]? = some v) : (execOp ρ (mk d (.load t x) ty ps af g)).run P w = .ok (.value v) w := by
  obtain ⟨cs, T, fz, h1, h2⟩ := slice_in h hu
  exact r_loadRowJ j ha hx h1 h2 hu hv
theorem r_loadS1 {v : Value} (ha : aggOf P t = some false) (hx : ρ x = .pointer (some ⟨b, off + i * s, none⟩)) (h : SliceAt w (some ⟨b, off, none⟩) cap s f l) (hu : l[i]? = some u) (hv : (f u)[0]? = some v) : (execOp ρ (mk d (.load t x) ty ps af g)).run P w = .ok (.value v) w := by
  obtain ⟨cs, T, fz, h1, h2⟩ := slice_in h hu
  exact r_loadRow1 ha hx h1 h2 hu hv
end
end Go.Proofs.Ytcidgbjgeegepaa
/- net and journal: NetOrders. Printed by a program of this seat's prover. -/
namespace Go.Proofs.Ytcidgbjgeegepaa
open Go Go.RowKit
set_option maxRecDepth 10000
theorem ordf_c (p : Pcl) (C : Nat) (to : Int) (w : World) (hC : hp w C = some (.cells #[.int .i64 to] 3)) : Calls Try.prog 19 #[p.v, .pointer (some ⟨C, 0, none⟩)] w fun e w' => e = .returned (.bool (decide (p.to = to))) ∧ Below w.heap.size w w' := by
  refine calls_of_T (l := [.agg #[.int .i64 p.to, .slice p.r.a p.r.l.length p.r.cap, .bool p.sp], .pointer (some ⟨C, 0, none⟩)]) 8 Try.func19 rfl rfl rfl ?_
  show T _ _ _ [(0, .agg #[.int .i64 p.to, .slice p.r.a p.r.l.length p.r.cap, .bool p.sp]), (1, .pointer (some ⟨C, 0, none⟩))] []
  refine T_seq (T_region ?_)
  refine TL_new 1 (.cells #[.int .i64 p.to, .slice p.r.a p.r.l.length p.r.cap, .bool p.sp] 36) (fun B => .pointer (some ⟨B, 0, none⟩)) (fun _ _ hρ _ => r_box (hρ _ _ rfl) rfl) rfl rfl rfl (w_n rfl) ?_
  intro B1
  refine TL_q (.bool false) (fun _ _ hρ _ => r_assign (hρ _ _ rfl)) rfl rfl rfl (w_n rfl) ?_
  refine TL_seq ?_
  refine T_seq (T_region ?_)
  refine TL_q (.pointer (some ⟨B1, 0, none⟩)) (fun _ _ hρ _ => r_fieldAddr fl36_0 sz3 (hρ _ _ rfl)) rfl rfl rfl (w_n rfl) ?_
  refine TL_q (.int .i64 p.to) (fun _ _ hρ hm => r_load ag3 (hρ _ _ rfl) (hm.at 1 rfl) rfl) rfl rfl rfl (w_n rfl) ?_
  refine TL_q (.int .i64 to) (fun _ _ hρ hm => r_load ag3 (hρ _ _ rfl) (hm.old hC) rfl) rfl rfl rfl (w_n rfl) ?_
  refine TL_q (.bool (decide (p.to = to))) (fun _ _ hρ _ => r_eql (hρ _ _ rfl) (hρ _ _ rfl)) rfl rfl rfl (w_n rfl) ?_
  refine TL_q (.bool (decide (p.to = to))) (fun _ _ hρ _ => r_assign (hρ _ _ rfl)) rfl rfl rfl (w_n rfl) ?_
  refine TL_seq ?_
  refine T_ret' ?_
  refine ret_of rfl (.bool (decide (p.to = to))) (fun tmps w hk hm => res1 rfl (res_tmp (hk 3 _ rfl))) (fun w hm => ?_)
  exact ⟨rfl, hm.ext⟩

theorem ord_k {hs l l3 : List Pcl} {to : Int} (hp : pvs hs = (pvs l).take (min l.length 64)) (hl : l3 = l.take (min l.length 64)) : idxI (fun p => decide (p.to = to)) l3 = ((toV hs to)[0]?).elim (-1 : Int) (fun i : Nat => (i : Int)) := by
  have e : pvs hs = pvs l3 := by rw [hp, hl]; unfold pvs; rw [List.map_take]
  rw [toV_first, find_pvs e]
  unfold idxI
  cases l3.findIdx? (fun p => decide (p.to = to)) <;> rfl
theorem few_le {ls xs : List Pcl} (h : pvs ls = fewV (pvs xs)) : ls.length ≤ 66 := by
  have := congrArg List.length h
  rw [pvs_len] at this
  unfold fewV at this
  rw [List.length_map, List.length_take] at this
  omega
theorem ord_pvs {h : Hd} {l : List Pcl} (hk : h.nv = putsV (pvs [], 0) (pvs l)) (hn : l.length ≤ 66) : pvs h.n.l = (pvs l).take (min l.length 64) := by
  have := congrArg (·.1) (hk.trans (puts_all (pvs l) (by rw [pvs_len]; omega)))
  rw [pvs_len] at this
  exact this
theorem ord_len {h : Hd} {l : List Pcl} (hp : pvs h.n.l = (pvs l).take (min l.length 64)) : h.n.l.length = min l.length 64 := by
  have := congrArg List.length hp
  rw [pvs_len, List.length_take, pvs_len] at this
  omega
theorem ord_lost {h : Hd} {l : List Pcl} (hk : h.nv = putsV (pvs [], 0) (pvs l)) (hn : l.length ≤ 66) : h.lost = ((l.length - 64 : Nat) : Int) := by
  have := congrArg (·.2) (hk.trans (puts_all (pvs l) (by rw [pvs_len]; omega)))
  rw [pvs_len] at this
  exact this
theorem ord_same {ls ps : List Pcl} {m k : Nat} {q p : Pcl} (h : pvs ls = (pvs ps).take m) (hq : ls[k]? = some q) (hp : ps[k]? = some p) : q.pv = p.pv := by
  have h1 := pvs_get hq
  rw [h, List.getElem?_take] at h1
  split at h1
  · rw [pvs_get hp] at h1; exact (Option.some.inj h1).symm
  · cases h1
theorem ord_sp {l : List Pcl} {k : Nat} {p : Pcl} (hall : l.all (fun p => mayV p.pv && !p.sp) = true) (hp : l[k]? = some p) : p.sp = false := by
  have := List.all_eq_true.1 hall p (List.mem_of_getElem? hp)
  rw [Bool.and_eq_true] at this
  simpa using this.2
theorem ord_check {l : List Pcl} (hall : l.all (fun p => mayV p.pv && !p.sp) = true) (hn : l.length ≤ 66) : checkV (putsV (pvs [], 0) (pvs l)).1 (putsV (pvs [], 0) (pvs l)).2 = true := by
  rw [show pvs [] = [] from rfl, puts_all (pvs l) (by rw [pvs_len]; omega)]
  unfold checkV
  rw [Bool.and_eq_true]
  refine ⟨decide_eq_true ⟨by dsimp only; rw [List.length_take]; omega, by dsimp only; rw [pvs_len]; unfold MT; omega⟩, List.all_eq_true.2 fun x hx => ?_⟩
  obtain ⟨p, hp, rfl⟩ := List.mem_map.1 (List.mem_of_mem_take hx)
  exact (Bool.and_eq_true _ _ ▸ List.all_eq_true.1 hall p hp).1

set_option maxHeartbeats 1000000 in
theorem nord_c (xs : List Pcl) (a : Option Addr) (cap : Nat) (to : Int) (w : World) (hv : SliceAt w a cap 3 Pcl.cells xs) (hcap : cap ≤ Go.maxLen) (hx : PcsIn w xs) : Calls Try.prog 3 #[.slice a xs.length cap, .int .i64 to] w fun e w' => e = .returned (.bool true) ∧ Below w.heap.size w w' := by
  have hvl := hv.1
  have hcap9 := hcap
  unfold Go.maxLen at hcap9
  refine calls_of_T (l := [.slice a xs.length cap, .int .i64 to]) 127 Try.func3 rfl rfl rfl ?_
  show T _ _ _ [(0, .slice a xs.length cap), (1, .int .i64 to)] []
  refine T_seq (T_region ?_)
  refine TL_new 1 (.cells #[.int .i64 to] 3) (fun B => .pointer (some ⟨B, 0, none⟩)) (fun _ _ hρ _ => r_box (hρ _ _ rfl) rfl) rfl rfl rfl (w_n rfl) ?_
  intro B1
  refine TL_q (.bool false) (fun _ _ hρ _ => r_assign (hρ _ _ rfl)) rfl rfl rfl (w_n rfl) ?_
  refine TL_seq ?_
  refine T_seq ?_
  refine T_seq (T_region ?_)
  refine TL_call (.bool true) (fun _ _ hρ _ => r_call (args := []) (enters_of Try.func11 (by kernel_rfl) rfl) (hρ _ _ rfl) (by rfl) rfl) (fun w _ => nwakes_c w) rfl rfl rfl (w_n rfl) ?_
  refine TL_q (.bool false) (fun _ _ hρ _ => r_not (b := true) (hρ _ _ rfl)) rfl rfl rfl (w_n rfl) ?_
  refine TL_seq ?_
  refine T_cond_f rfl ?_
  refine T_skip' ?_
  refine p_seq ?_
  refine T_seq (T_region ?_)
  refine TL_q (.slice a xs.length cap) (fun _ _ hρ _ => r_move (hρ _ _ rfl)) rfl rfl rfl (w_n rfl) ?_
  refine TL_q (.slice a xs.length cap) (fun _ _ hρ _ => r_move (hρ _ _ rfl)) rfl rfl rfl (w_n rfl) ?_
  refine TL_q (.int .i64 ((xs.length : Nat) : Int)) (fun _ _ hρ _ => r_len sl22 (hρ _ _ rfl)) rfl rfl rfl (w_n rfl) ?_
  refine TL_q (.int .i64 ((min xs.length 70 : Nat) : Int)) (fun _ _ hρ _ => r_as (r_min (hρ _ _ rfl) (hρ _ _ rfl)) (int_as (minI _ 70))) rfl rfl rfl (w_n rfl) ?_
  obtain ⟨l2, hl2, hn2⟩ : ∃ lz, lz = xs.take (min xs.length 70) ∧ lz.length = min xs.length 70 := ⟨_, rfl, by rw [List.length_take]; omega⟩
  have hs2 := SliceAt.front hv (n := min xs.length 70) (m := cap) (by omega) (by omega) (by omega)
  rw [← hl2] at hs2
  refine TL_q (.slice a l2.length cap) (fun ρ _ hρ _ => r_as (r_sliceO sl22 sz36 (hρ _ _ rfl) (bd_none ρ _) (bd_some (n := min xs.length 70) (hρ _ _ rfl)) (bd_none ρ _) (by simp) (by omega) (by omega) (by omega)) (by rw [hn2]; exact slo_zero _ _ _ _)) rfl rfl rfl (w_n rfl) ?_
  refine TL_callN (fun x : NetR × List (RowG By) => pvs x.1.l = fewV (pvs l2) ∧ InB x.2 x.1.l) (fun (n9, b9) => .slice n9.a n9.l.length n9.cap) (fun (n9, b9) => [(960, .row (.slice n9.a n9.l.length n9.cap) 36 3 n9.l.length (n9.l.flatMap Pcl.cells)), (961, .pool 5 1 byc b9)]) (fun _ _ hρ _ => r_call (args := [.slice a l2.length cap]) (enters_of Try.func12 (by kernel_rfl) rfl) (hρ _ _ rfl) ((cons2 (hρ _ _ rfl) rfl)) rfl) (fun w hm => (few_c l2 a cap w (hs2.keep hm.ext) (by omega) (fun p hp => (fun h9 => ⟨(hx p h9).1.keep hm.ext, (hx p h9).2⟩) (by rw [hl2] at hp; exact List.mem_of_mem_take hp))).mono fun e w' ⟨n, bs, hf, hi, he, hb, r1, r2, hs⟩ => ⟨(n, bs), ⟨hf, hi⟩, he, hb, newOk2 960 961 r1 r2 hs⟩) rfl rfl rfl (w_n rfl) ?_
  rintro ⟨n9, b9⟩ hf9
  have hn66 : n9.l.length ≤ 66 := few_le hf9.1
  refine TL_q (.slice n9.a n9.l.length n9.cap) (fun _ _ hρ _ => r_assign (hρ _ _ rfl)) rfl rfl rfl (w_n rfl) ?_
  refine TL_seq ?_
  by_cases hall : n9.l.all (fun p => mayV p.pv && !p.sp) = true
  · skip
    refine T_seq (T_region ?_)
    refine TL_call (.agg #[.slice none 0 0, .int .u64 0]) (fun _ _ hρ _ => r_call (args := []) (enters_of Try.func14 (by kernel_rfl) rfl) (hρ _ _ rfl) (by rfl) rfl) (fun w _ => nnew_c w) rfl rfl rfl (w_n rfl) ?_
    refine TL_q (.slice n9.a n9.l.length n9.cap) (fun _ _ hρ _ => r_move (hρ _ _ rfl)) rfl rfl rfl (w_n rfl) ?_
    refine TL_callN (fun x : Hd × List (RowG By) => NetIs (putsV (pvs [], 0) (pvs n9.l)) x) (fun (h8, b8) => .tuple #[.agg #[.slice h8.n.a h8.n.l.length h8.n.cap, .int .u64 h8.lost], .int .i64 0]) (fun (h8, b8) => [(962, .row (.slice h8.n.a h8.n.l.length h8.n.cap) 36 3 h8.n.l.length (h8.n.l.flatMap Pcl.cells)), (963, .pool 5 1 byc b8)]) (fun _ _ hρ _ => r_call (args := [.agg #[.slice none 0 0, .int .u64 0], .slice n9.a n9.l.length n9.cap]) (enters_of Try.func13 (by kernel_rfl) rfl) (hρ _ _ rfl) ((cons2 (hρ _ _ rfl) (cons2 (hρ _ _ rfl) rfl))) rfl) (fun w hm => (send_ok [] none 0 0 n9.l n9.a n9.cap w (sliceNil w) (by decide) (pcsNil w) (SliceAt.own Pcl.cells_len (hm.row 960 rfl) rfl rfl) (row_cap (hm.row 960 rfl)) (pcs_pool (hm.pool 961 rfl) hf9.2) (Int.le_refl _) rfl hall).mono fun e w' ⟨⟨h, bs⟩, hk, he, hb, hn⟩ => ⟨(h, bs), hk, he, hb, newOk2 962 963 hn.row hn.pool hn.sep⟩) rfl rfl rfl (w_n rfl) ?_
    rintro ⟨h8, b8⟩ hk8
    have hp8 : pvs h8.n.l = (pvs n9.l).take (min n9.l.length 64) := ord_pvs hk8.nv hn66
    have hl8 : h8.n.l.length = min n9.l.length 64 := ord_len hp8
    have ho8 : h8.lost = ((n9.l.length - 64 : Nat) : Int) := ord_lost hk8.nv hn66
    refine TL_q (.tuple #[.agg #[.slice h8.n.a h8.n.l.length h8.n.cap, .int .u64 h8.lost], .int .i64 0]) (fun _ _ hρ _ => r_move (hρ _ _ rfl)) rfl rfl rfl (w_n rfl) ?_
    refine TL_q (.agg #[.slice h8.n.a h8.n.l.length h8.n.cap, .int .u64 h8.lost]) (fun _ _ hρ _ => r_extract (hρ _ _ rfl) rfl) rfl rfl rfl (w_n rfl) ?_
    refine TL_q (.int .i64 0) (fun _ _ hρ _ => r_extract (hρ _ _ rfl) rfl) rfl rfl rfl (w_n rfl) ?_
    refine TL_new 2 (.cells #[.slice none 0 0, .int .u64 0] 27) (fun B => .pointer (some ⟨B, 0, none⟩)) (fun _ _ _ _ => r_alloc (v := .agg #[.slice none 0 0, .int .u64 0]) (by kernel_rfl) rfl) rfl rfl rfl (w_n rfl) ?_
    intro B3
    refine TL_store 2 (.cells #[.slice h8.n.a h8.n.l.length h8.n.cap, .int .u64 h8.lost] 27) rfl (fun _ _ hρ hm => r_store sz27 (hρ _ _ rfl) (hρ _ _ rfl) (hm.at 2 rfl) rfl rfl rfl rfl) rfl rfl (w_n rfl) ?_
    refine TL_q (.int .i64 0) (fun _ _ hρ _ => r_assign (hρ _ _ rfl)) rfl rfl rfl (w_n rfl) ?_
    refine TL_seq ?_
    refine T_seq ?_
    refine T_seq (T_region ?_)
    refine TL_q (.int .i64 0) (fun _ _ hρ _ => r_move (hρ _ _ rfl)) rfl rfl rfl (w_n rfl) ?_
    refine TL_q (.bool false) (fun _ _ hρ _ => r_as (r_neq (hρ _ _ rfl) (hρ _ _ rfl)) (by rfl)) rfl rfl rfl (w_n rfl) ?_
    refine TL_seq ?_
    refine T_cond_f rfl ?_
    refine T_skip' ?_
    refine p_seq ?_
    refine T_seq (T_region ?_)
    refine TL_q (.slice n9.a n9.l.length n9.cap) (fun _ _ hρ _ => r_move (hρ _ _ rfl)) rfl rfl rfl (w_n rfl) ?_
    refine TL_q (.int .i64 ((n9.l.length : Nat) : Int)) (fun _ _ hρ _ => r_len sl22 (hρ _ _ rfl)) rfl rfl rfl (w_n rfl) ?_
    refine TL_q (.int .i64 ((min n9.l.length 64 : Nat) : Int)) (fun _ _ hρ _ => r_as (r_min (hρ _ _ rfl) (hρ _ _ rfl)) (int_as (minI _ 64))) rfl rfl rfl (w_n rfl) ?_
    refine TL_q (.int .i64 ((min n9.l.length 64 : Nat) : Int)) (fun _ _ hρ _ => r_assign (hρ _ _ rfl)) rfl rfl rfl (w_n rfl) ?_
    refine TL_seq ?_
    refine T_seq (T_region ?_)
    refine TL_q (.agg #[.slice h8.n.a h8.n.l.length h8.n.cap, .int .u64 h8.lost]) (fun _ _ hρ hm => r_loadA ag27 sz27 (hρ _ _ rfl) (hm.at 2 rfl) rfl rfl) rfl rfl rfl (w_n rfl) ?_
    refine TL_callN (fun x : Hd × List (RowG By) => Emptied h8.n.l h8.lost x) (fun (h4, bs4) => .tuple #[.agg #[.slice h4.n.a h4.n.l.length h4.n.cap, .int .u64 h4.lost], .slice h4.t.a h4.t.l.length h4.t.cap, .int .i64 0]) (fun (h4, bs4) => [(3, .row (.slice h4.n.a h4.n.l.length h4.n.cap) 36 3 h4.n.l.length (h4.n.l.flatMap Pcl.cells)), (4, .row (.slice h4.t.a h4.t.l.length h4.t.cap) 36 3 h4.t.l.length (h4.t.l.flatMap Pcl.cells)), (5, .pool 5 1 byc bs4)]) (fun _ _ hρ _ => r_call (args := [.agg #[.slice h8.n.a h8.n.l.length h8.n.cap, .int .u64 h8.lost]]) (enters_of Try.func15 (by kernel_rfl) rfl) (hρ _ _ rfl) ((cons2 (hρ _ _ rfl) rfl)) rfl) (fun w hm => (empty_ok h8.n.l h8.n.a h8.n.cap h8.lost w (SliceAt.own Pcl.cells_len (hm.row 962 rfl) rfl rfl) (row_cap (hm.row 962 rfl)) (pcs_pool (hm.pool 963 rfl) hk8.ok.inN) hk8.ok.lost0 (chk_of hk8.nv (ord_check hall hn66))).mono fun e w' ⟨x, hx, he, hb, r1, r2, r3, s1, s2, s3⟩ => ⟨x, hx, he, hb, newOk3 3 4 5 r1 r2 r3 s1 s2 s3⟩) rfl rfl rfl (w_n rfl) ?_
    rintro ⟨h4, bs4⟩ hem4
    refine TL_q (.tuple #[.agg #[.slice h4.n.a h4.n.l.length h4.n.cap, .int .u64 h4.lost], .slice h4.t.a h4.t.l.length h4.t.cap, .int .i64 0]) (fun _ _ hρ _ => r_move (hρ _ _ rfl)) rfl rfl rfl (w_n rfl) ?_
    refine TL_q (.agg #[.slice h4.n.a h4.n.l.length h4.n.cap, .int .u64 h4.lost]) (fun _ _ hρ _ => r_extract (hρ _ _ rfl) rfl) rfl rfl rfl (w_n rfl) ?_
    refine TL_q (.slice h4.t.a h4.t.l.length h4.t.cap) (fun _ _ hρ _ => r_extract (hρ _ _ rfl) rfl) rfl rfl rfl (w_n rfl) ?_
    refine TL_q (.int .i64 0) (fun _ _ hρ _ => r_extract (hρ _ _ rfl) rfl) rfl rfl rfl (w_n rfl) ?_
    refine TL_new 6 (.cells #[.slice none 0 0, .int .u64 0] 27) (fun B => .pointer (some ⟨B, 0, none⟩)) (fun _ _ _ _ => r_alloc (v := .agg #[.slice none 0 0, .int .u64 0]) (by kernel_rfl) rfl) rfl rfl rfl (w_n rfl) ?_
    intro B5
    refine TL_store 6 (.cells #[.slice h4.n.a h4.n.l.length h4.n.cap, .int .u64 h4.lost] 27) rfl (fun _ _ hρ hm => r_store sz27 (hρ _ _ rfl) (hρ _ _ rfl) (hm.at 6 rfl) rfl rfl rfl rfl) rfl rfl (w_n rfl) ?_
    refine TL_q (.slice h4.t.a h4.t.l.length h4.t.cap) (fun _ _ hρ _ => r_assign (hρ _ _ rfl)) rfl rfl rfl (w_n rfl) ?_
    refine TL_q (.int .i64 0) (fun _ _ hρ _ => r_assign (hρ _ _ rfl)) rfl rfl rfl (w_n rfl) ?_
    refine TL_seq ?_
    refine T_sub [(3, .pointer (some ⟨B1, 0, none⟩)), (4, .bool false), (0, .slice n9.a n9.l.length n9.cap), (5, .pointer (some ⟨B3, 0, none⟩)), (7, .int .i64 ((min n9.l.length 64 : Nat) : Int)), (8, .pointer (some ⟨B5, 0, none⟩)), (9, .slice h4.t.a h4.t.l.length h4.t.cap), (6, .int .i64 0)] [(3, .row (.slice h4.n.a h4.n.l.length h4.n.cap) 36 3 h4.n.l.length (h4.n.l.flatMap Pcl.cells)), (4, .row (.slice h4.t.a h4.t.l.length h4.t.cap) 36 3 h4.t.l.length (h4.t.l.flatMap Pcl.cells)), (5, .pool 5 1 byc bs4), (962, .row (.slice h8.n.a h8.n.l.length h8.n.cap) 36 3 h8.n.l.length (h8.n.l.flatMap Pcl.cells)), (963, .pool 5 1 byc b8), (960, .row (.slice n9.a n9.l.length n9.cap) 36 3 n9.l.length (n9.l.flatMap Pcl.cells)), (961, .pool 5 1 byc b9), (1, .blk B1 (.cells #[.int .i64 to] 3)), (2, .blk B3 (.cells #[.slice h8.n.a h8.n.l.length h8.n.cap, .int .u64 h8.lost] 27)), (6, .blk B5 (.cells #[.slice h4.n.a h4.n.l.length h4.n.cap, .int .u64 h4.lost] 27))] (sub_cons rfl (sub_cons rfl (sub_cons rfl (sub_cons rfl (sub_cons rfl (sub_cons rfl (sub_cons rfl (sub_cons rfl sub_nil)))))))) (sub_cons rfl (sub_cons rfl (sub_cons rfl (sub_cons rfl (sub_cons rfl (sub_cons rfl (sub_cons rfl (sub_cons rfl (sub_cons rfl (sub_cons rfl sub_nil)))))))))) ?_
    refine T_seq ?_
    have hl7 : h4.n.l.length = 0 := net_len hem4.nv rfl
    have ht7 : h4.t.l.length = min n9.l.length 64 := by rw [← pvs_len, hem4.told, pvs_len]; exact hl8
    refine T_seq (T_region ?_)
    refine TL_q (.int .i64 0) (fun _ _ hρ _ => r_move (hρ _ _ rfl)) rfl rfl rfl (w_n rfl) ?_
    refine TL_q (.bool false) (fun _ _ hρ _ => r_as (r_neq (hρ _ _ rfl) (hρ _ _ rfl)) (by rfl)) rfl rfl rfl (w_n rfl) ?_
    refine TL_q (.bool false) (fun _ _ hρ _ => r_move (hρ _ _ rfl)) rfl rfl rfl (w_n rfl) ?_
    refine TL_q (.slice h4.t.a h4.t.l.length h4.t.cap) (fun _ _ hρ _ => r_move (hρ _ _ rfl)) rfl rfl rfl (want_y 50 rfl rfl rfl) ?_
    refine TL_q (.int .i64 ((h4.t.l.length : Nat) : Int)) (fun _ _ hρ _ => r_len sl22 (hρ _ _ rfl)) rfl rfl rfl (want_y 50 rfl rfl rfl) ?_
    refine TL_q (.int .i64 ((min n9.l.length 64 : Nat) : Int)) (fun _ _ hρ _ => r_move (hρ _ _ rfl)) rfl rfl rfl (want_y 50 rfl rfl rfl) ?_
    refine TL_q (.bool false) (fun _ _ hρ _ => r_as (r_neq (hρ _ _ rfl) (hρ _ _ rfl)) (bool_as (by rw [decide_eq_true (by omega)]; rfl))) rfl rfl rfl (want_y 50 rfl rfl rfl) ?_
    refine TL_q (.bool false) (fun _ _ hρ _ => r_pick_f (hρ _ _ rfl) (hρ _ _ rfl)) rfl rfl rfl (w_n rfl) ?_
    refine TL_q (.bool false) (fun _ _ hρ _ => r_move (hρ _ _ rfl)) rfl rfl rfl (w_n rfl) ?_
    refine TL_q (.pointer (some ⟨B5, 0, none⟩)) (fun _ _ hρ _ => r_fieldAddr fl27_0 sz22 (hρ _ _ rfl)) rfl rfl rfl (want_y 56 rfl rfl rfl) ?_
    refine TL_q (.slice h4.n.a h4.n.l.length h4.n.cap) (fun _ _ hρ hm => r_load ag22 (hρ _ _ rfl) (hm.at 6 rfl) rfl) rfl rfl rfl (want_y 56 rfl rfl rfl) ?_
    refine TL_q (.int .i64 ((h4.n.l.length : Nat) : Int)) (fun _ _ hρ _ => r_len sl22 (hρ _ _ rfl)) rfl rfl rfl (want_y 56 rfl rfl rfl) ?_
    refine TL_q (.bool false) (fun _ _ hρ _ => r_as (r_gtr (hρ _ _ rfl) (hρ _ _ rfl)) (bool_as (decide_eq_false (by omega)))) rfl rfl rfl (want_y 56 rfl rfl rfl) ?_
    refine TL_q (.bool false) (fun _ _ hρ _ => r_pick_f (hρ _ _ rfl) (hρ _ _ rfl)) rfl rfl rfl (w_n rfl) ?_
    refine TL_q (.bool false) (fun _ _ hρ _ => r_move (hρ _ _ rfl)) rfl rfl rfl (w_n rfl) ?_
    refine TL_q (.pointer (some ⟨B3, 1, none⟩)) (fun _ _ hρ _ => r_fieldAddr fl27_1 sz25 (hρ _ _ rfl)) rfl rfl rfl (want_y 62 rfl rfl rfl) ?_
    refine TL_q (.int .u64 h8.lost) (fun _ _ hρ hm => r_load ag25 (hρ _ _ rfl) (hm.at 2 rfl) rfl) rfl rfl rfl (want_y 62 rfl rfl rfl) ?_
    refine TL_q (.int .i64 h8.lost) (fun _ _ hρ _ => r_as (r_conv un25 io3 (hρ _ _ rfl)) (int_as (wrap64 (by omega) (by omega)))) rfl rfl rfl (want_y 62 rfl rfl rfl) ?_
    refine TL_q (.slice n9.a n9.l.length n9.cap) (fun _ _ hρ _ => r_move (hρ _ _ rfl)) rfl rfl rfl (want_y 62 rfl rfl rfl) ?_
    refine TL_q (.int .i64 ((n9.l.length : Nat) : Int)) (fun _ _ hρ _ => r_len sl22 (hρ _ _ rfl)) rfl rfl rfl (want_y 62 rfl rfl rfl) ?_
    refine TL_q (.int .i64 ((min n9.l.length 64 : Nat) : Int)) (fun _ _ hρ _ => r_move (hρ _ _ rfl)) rfl rfl rfl (want_y 62 rfl rfl rfl) ?_
    refine TL_q (.int .i64 ((n9.l.length - (min n9.l.length 64) : Nat) : Int)) (fun _ _ hρ _ => r_as (r_sub (hρ _ _ rfl) (hρ _ _ rfl)) (int_as ((wrap64 (by omega) (by omega)).trans (by omega)))) rfl rfl rfl (want_y 62 rfl rfl rfl) ?_
    refine TL_q (.bool (!decide (h8.lost = ((n9.l.length - (min n9.l.length 64) : Nat) : Int)))) (fun _ _ hρ _ => r_neq (hρ _ _ rfl) (hρ _ _ rfl)) rfl rfl rfl (want_y 62 rfl rfl rfl) ?_
    refine TL_q (.bool (!decide (h8.lost = ((n9.l.length - (min n9.l.length 64) : Nat) : Int)))) (fun _ _ hρ _ => r_pick_f (hρ _ _ rfl) (hρ _ _ rfl)) rfl rfl rfl (w_n rfl) ?_
    refine TL_seq ?_
    refine T_cond rfl (fun h1 => ?_) (fun h1 => ?_)
    · replace h1 := of_decide_eq_false (bnot_t h1)
      refine T_seq (T_region ?_)
      refine TL_q (.bool false) (fun _ _ hρ _ => r_assign (hρ _ _ rfl)) rfl rfl rfl (w_n rfl) ?_
      refine TL_seq ?_
      refine T_ret' ?_
      refine p_then_r ?_
      refine ret_of rfl (.bool false) (fun tmps w hk hm => res1 rfl (res_tmp (hk 4 _ rfl))) (fun w hm => ?_)
      exfalso
      omega
    · replace h1 := of_decide_eq_true (bnot_f h1)
      refine T_skip' ?_
      refine p_seq ?_
      refine T_seq ?_
      refine T_seq (T_region ?_)
      refine TL_q (.slice h4.t.a h4.t.l.length h4.t.cap) (fun _ _ hρ _ => r_move (hρ _ _ rfl)) rfl rfl rfl (w_n rfl) ?_
      refine TL_q (.int .i64 ((h4.t.l.length : Nat) : Int)) (fun _ _ hρ _ => r_len sl22 (hρ _ _ rfl)) rfl rfl rfl (w_n rfl) ?_
      refine TL_q (.int .i64 0) (fun _ _ hρ _ => r_move (hρ _ _ rfl)) rfl rfl rfl (w_n rfl) ?_
      refine TL_seq ?_
      refine T_block ?_
      refine T_loop (ι := Nat) (fun (k : Nat) => k ≤ h4.t.l.length) (fun (k : Nat) => [(3, .pointer (some ⟨B1, 0, none⟩)), (0, .slice n9.a n9.l.length n9.cap), (5, .pointer (some ⟨B3, 0, none⟩)), (7, .int .i64 ((min n9.l.length 64 : Nat) : Int)), (72, .slice h4.t.a h4.t.l.length h4.t.cap), (73, .int .i64 ((h4.t.l.length : Nat) : Int)), (74, .int .i64 ((k : Nat) : Int))]) (fun (k : Nat) => [(3, .row (.slice h4.n.a h4.n.l.length h4.n.cap) 36 3 h4.n.l.length (h4.n.l.flatMap Pcl.cells)), (4, .row (.slice h4.t.a h4.t.l.length h4.t.cap) 36 3 h4.t.l.length (h4.t.l.flatMap Pcl.cells)), (5, .pool 5 1 byc bs4), (962, .row (.slice h8.n.a h8.n.l.length h8.n.cap) 36 3 h8.n.l.length (h8.n.l.flatMap Pcl.cells)), (963, .pool 5 1 byc b8), (960, .row (.slice n9.a n9.l.length n9.cap) 36 3 n9.l.length (n9.l.flatMap Pcl.cells)), (961, .pool 5 1 byc b9), (1, .blk B1 (.cells #[.int .i64 to] 3)), (2, .blk B3 (.cells #[.slice h8.n.a h8.n.l.length h8.n.cap, .int .u64 h8.lost] 27)), (6, .blk B5 (.cells #[.slice h4.n.a h4.n.l.length h4.n.cap, .int .u64 h4.lost] 27))]) (fun (k : Nat) => h4.t.l.length - k) 0 (Nat.zero_le _) (sub_cons rfl (sub_cons rfl (sub_cons rfl (sub_cons rfl (sub_cons rfl (sub_cons rfl (sub_cons rfl sub_nil))))))) (sub_cons rfl (sub_cons rfl (sub_cons rfl (sub_cons rfl (sub_cons rfl (sub_cons rfl (sub_cons rfl (sub_cons rfl (sub_cons rfl (sub_cons rfl sub_nil)))))))))) ?_
      rintro k hp
      have hk := hp
      show T _ _ _ [(3, .pointer (some ⟨B1, 0, none⟩)), (0, .slice n9.a n9.l.length n9.cap), (5, .pointer (some ⟨B3, 0, none⟩)), (7, .int .i64 ((min n9.l.length 64 : Nat) : Int)), (72, .slice h4.t.a h4.t.l.length h4.t.cap), (73, .int .i64 ((h4.t.l.length : Nat) : Int)), (74, .int .i64 ((k : Nat) : Int))] [(3, .row (.slice h4.n.a h4.n.l.length h4.n.cap) 36 3 h4.n.l.length (h4.n.l.flatMap Pcl.cells)), (4, .row (.slice h4.t.a h4.t.l.length h4.t.cap) 36 3 h4.t.l.length (h4.t.l.flatMap Pcl.cells)), (5, .pool 5 1 byc bs4), (962, .row (.slice h8.n.a h8.n.l.length h8.n.cap) 36 3 h8.n.l.length (h8.n.l.flatMap Pcl.cells)), (963, .pool 5 1 byc b8), (960, .row (.slice n9.a n9.l.length n9.cap) 36 3 n9.l.length (n9.l.flatMap Pcl.cells)), (961, .pool 5 1 byc b9), (1, .blk B1 (.cells #[.int .i64 to] 3)), (2, .blk B3 (.cells #[.slice h8.n.a h8.n.l.length h8.n.cap, .int .u64 h8.lost] 27)), (6, .blk B5 (.cells #[.slice h4.n.a h4.n.l.length h4.n.cap, .int .u64 h4.lost] 27))]
      refine T_seq (T_region ?_)
      refine TL_q (.bool (decide (((k : Nat) : Int) < ((h4.t.l.length : Nat) : Int)))) (fun _ _ hρ _ => r_lss (hρ _ _ rfl) (hρ _ _ rfl)) rfl rfl rfl (w_n rfl) ?_
      refine TL_seq ?_
      refine T_seq ?_
      refine T_cond rfl (fun h2 => ?_) (fun h2 => ?_)
      · replace h2 := of_decide_eq_true h2
        refine T_skip' ?_
        refine p_seq ?_
        refine T_seq ?_
        refine T_block ?_
        obtain ⟨q, hq⟩ : ∃ x, h4.t.l[k]? = some x := ⟨_, List.getElem?_eq_getElem (by omega)⟩
        obtain ⟨p, hp⟩ : ∃ x, n9.l[k]? = some x := ⟨_, List.getElem?_eq_getElem (by omega)⟩
        have hqp : q.pv = p.pv := ord_same (hem4.told.trans hp8) hq hp
        have hsp : p.sp = false := ord_sp hall hp
        have hqs : q.sp = false := (congrArg PV.sp hqp).trans hsp
        have hqto : q.to = p.to := congrArg PV.to hqp
        have hqb : q.r.l = p.r.l := congrArg PV.l hqp
        have hpn := (hf9.2 p (List.mem_of_getElem? hp)).2
        have hqn := (hem4.ok.inT q (List.mem_of_getElem? hq)).2
        refine T_open (fun _ hm => (SliceAt.own Pcl.cells_len (hm.row 4 rfl) rfl rfl)) (by omega) (fun b6 of6 ha6 => ?_)
        rw [ha6] at *
        refine T_open (fun _ hm => (SliceAt.own Pcl.cells_len (hm.row 960 rfl) rfl rfl)) (by omega) (fun b7 of7 ha7 => ?_)
        rw [ha7] at *
        refine T_seq (T_region ?_)
        refine TL_q (.int .i64 ((k : Nat) : Int)) (fun _ _ hρ _ => r_move (hρ _ _ rfl)) rfl rfl rfl (w_n rfl) ?_
        refine TL_q (.pointer (some ⟨b6, of6 + k * 3, none⟩)) (fun _ _ hρ _ => r_indexAddrS (i := k) sl22 sz36 (hρ _ _ rfl) (hρ _ _ rfl) (by omega)) rfl rfl rfl (w_n rfl) ?_
        refine TL_q (.agg #[.int .i64 q.to, .slice q.r.a q.r.l.length q.r.cap, .bool q.sp]) (fun _ _ hρ hm => r_loadS (f := Pcl.cells) (u := q) (l := h4.t.l) (i := k) ag36 sz36 (hρ _ _ rfl) (SliceAt.own Pcl.cells_len (hm.row 4 rfl) rfl rfl) hq) rfl rfl rfl (w_n rfl) ?_
        refine TL_new 7 (.cells #[.int .i64 0, .slice none 0 0, .bool false] 36) (fun B => .pointer (some ⟨B, 0, none⟩)) (fun _ _ _ _ => r_alloc (v := .agg #[.int .i64 0, .slice none 0 0, .bool false]) (by kernel_rfl) rfl) rfl rfl rfl (w_n rfl) ?_
        intro B8
        refine TL_q (.int .i64 ((k : Nat) : Int)) (fun _ _ hρ _ => r_assign (hρ _ _ rfl)) rfl rfl rfl (w_n rfl) ?_
        refine TL_store 7 (.cells #[.int .i64 q.to, .slice q.r.a q.r.l.length q.r.cap, .bool q.sp] 36) rfl (fun _ _ hρ hm => r_store sz36 (hρ _ _ rfl) (hρ _ _ rfl) (hm.at 7 rfl) rfl rfl rfl rfl) rfl rfl (w_n rfl) ?_
        refine TL_seq ?_
        refine T_seq (T_draw (V := [(0, .pointer (some ⟨B8, 0, none⟩)), (1, .int .i64 q.to), (2, .slice (some ⟨b7, of7, none⟩) n9.l.length n9.cap), (3, .int .i64 ((k : Nat) : Int)), (4, .pointer (some ⟨b7, of7 + k * 3, none⟩)), (5, .pointer (some ⟨b7, of7 + k * 3, none⟩)), (6, .int .i64 p.to), (7, .bool false), (8, .bool false), (9, .pointer (some ⟨B8, 2, none⟩)), (10, .bool false), (11, .bool false), (12, .bool false), (13, .pointer (some ⟨B8, 1, none⟩)), (14, .slice q.r.a q.r.l.length q.r.cap), (15, .slice (some ⟨b7, of7, none⟩) n9.l.length n9.cap), (16, .int .i64 ((k : Nat) : Int)), (17, .pointer (some ⟨b7, of7 + k * 3, none⟩)), (18, .pointer (some ⟨b7, of7 + k * 3 + 1, none⟩)), (19, .slice p.r.a p.r.l.length p.r.cap)]) [0, 1, 0, 0, 12, 28, 60, 127, 255, 511, 1023, 2047, 4095, 8191, 16383, 8191, 8191, 106495, 237567, 499711, 1048575, 2097151, 4194303] [[(11, none)], [(79, some 0)], [(0, none)], [(10, none)], [(81, some 2), (82, some 3)], [(83, some 4)], [(84, some 5)], [(80, some 1), (85, some 6)], [(86, some 7)], [(11, none)], [(88, some 9)], [(89, some 10), (87, some 8)], [(90, some 11)], [(11, none)], [(92, some 13)], [(0, none)], [(10, none)], [(94, some 15), (95, some 16)], [(96, some 17)], [(97, some 18)], [(93, some 14), (98, some 19)], [(99, some 20)], [(100, some 21), (91, some 12)]] 1048576 mixed (by kernel_rfl) ?_)
        refine G_step [0, 1, 2, 3, 4, 5, 6, 7, 8, 9, 10, 11, 12, 13, 14, 15, 16, 17, 18, 19] 20 [] (by kernel_rfl) (allM (all_cons (q_run (.pointer (some ⟨B8, 0, none⟩)) rfl rfl (wv_n rfl) rfl (fun _ _ hρ _ => r_fieldAddr fl36_0 sz3 (hρ _ _ rfl))) (all_cons (q_run (.int .i64 q.to) rfl rfl (wv_n rfl) rfl (fun _ _ hρ hm => r_load ag3 (hρ _ _ rfl) (hm.at 7 rfl) rfl)) (all_cons (q_run (.slice (some ⟨b7, of7, none⟩) n9.l.length n9.cap) rfl rfl (wv_n rfl) rfl (fun _ _ hρ _ => r_move (hρ _ _ rfl))) (all_cons (q_run (.int .i64 ((k : Nat) : Int)) rfl rfl (wv_n rfl) rfl (fun _ _ hρ _ => r_move (hρ _ _ rfl))) (all_cons (q_run (.pointer (some ⟨b7, of7 + k * 3, none⟩)) rfl rfl (wv_n rfl) rfl (fun _ _ hρ _ => r_indexAddrS (i := k) sl22 sz36 (hρ _ _ rfl) (hρ _ _ rfl) (by omega))) (all_cons (q_run (.pointer (some ⟨b7, of7 + k * 3, none⟩)) rfl rfl (wv_n rfl) rfl (fun _ _ hρ _ => r_fieldAddr (off := of7 + k * 3) fl36_0 sz3 (hρ _ _ rfl))) (all_cons (q_run (.int .i64 p.to) rfl rfl (wv_n rfl) rfl (fun _ _ hρ hm => r_loadS1 (f := Pcl.cells) (u := p) (l := n9.l) (i := k) ag3 (hρ _ _ rfl) (SliceAt.own Pcl.cells_len (hm.row 960 rfl) rfl rfl) hp rfl)) (all_cons (q_run (.bool false) rfl rfl (wv_n rfl) rfl (fun _ _ hρ _ => r_as (r_neq (hρ _ _ rfl) (hρ _ _ rfl)) (bool_as (by rw [decide_eq_true hqto]; rfl)))) (all_cons (q_run (.bool false) rfl rfl (wv_n rfl) rfl (fun _ _ hρ _ => r_move (hρ _ _ rfl))) (all_cons (q_run (.pointer (some ⟨B8, 2, none⟩)) rfl rfl (wv_y rfl rfl) rfl (fun _ _ hρ _ => r_fieldAddr fl36_2 sz4 (hρ _ _ rfl))) (all_cons (q_run (.bool false) rfl rfl (wv_y rfl rfl) rfl (fun _ _ hρ hm => r_as (r_load ag4 (hρ _ _ rfl) (hm.at 7 rfl) rfl) (bool_as hqs))) (all_cons (q_run (.bool false) rfl rfl (wv_n rfl) rfl (fun _ _ hρ _ => r_pick_f (hρ _ _ rfl) (hρ _ _ rfl))) (all_cons (q_run (.bool false) rfl rfl (wv_n rfl) rfl (fun _ _ hρ _ => r_move (hρ _ _ rfl))) (all_cons (q_run (.pointer (some ⟨B8, 1, none⟩)) rfl rfl (wv_y rfl rfl) rfl (fun _ _ hρ _ => r_fieldAddr fl36_1 sz34 (hρ _ _ rfl))) (all_cons (q_run (.slice q.r.a q.r.l.length q.r.cap) rfl rfl (wv_y rfl rfl) rfl (fun _ _ hρ hm => r_load ag34 (hρ _ _ rfl) (hm.at 7 rfl) rfl)) (all_cons (q_run (.slice (some ⟨b7, of7, none⟩) n9.l.length n9.cap) rfl rfl (wv_y rfl rfl) rfl (fun _ _ hρ _ => r_move (hρ _ _ rfl))) (all_cons (q_run (.int .i64 ((k : Nat) : Int)) rfl rfl (wv_y rfl rfl) rfl (fun _ _ hρ _ => r_move (hρ _ _ rfl))) (all_cons (q_run (.pointer (some ⟨b7, of7 + k * 3, none⟩)) rfl rfl (wv_y rfl rfl) rfl (fun _ _ hρ _ => r_indexAddrS (i := k) sl22 sz36 (hρ _ _ rfl) (hρ _ _ rfl) (by omega))) (all_cons (q_run (.pointer (some ⟨b7, of7 + k * 3 + 1, none⟩)) rfl rfl (wv_y rfl rfl) rfl (fun _ _ hρ _ => r_fieldAddr fl36_1 sz34 (hρ _ _ rfl))) (all_cons (q_run (.slice p.r.a p.r.l.length p.r.cap) rfl rfl (wv_y rfl rfl) rfl (fun _ _ hρ hm => r_loadSJ (f := Pcl.cells) (u := p) (l := n9.l) (i := k) 1 ag34 (hρ _ _ rfl) (SliceAt.own Pcl.cells_len (hm.row 960 rfl) rfl rfl) hp rfl)) all_nil))))))))))))))))))))) (allM (all_cons ?_ all_nil))
        refine LOb_call (.bool true) [(21, .bool false), (22, .bool false)] rfl (wv_y rfl rfl) rfl rfl (fun _ _ hρ _ => r_call (args := [.slice q.r.a q.r.l.length q.r.cap, .slice p.r.a p.r.l.length p.r.cap]) (enters_of Try.func16 (by kernel_rfl) rfl) (hρ _ _ rfl) ((cons2 (hρ _ _ rfl) (cons2 (hρ _ _ rfl) rfl))) rfl) (fun w hm => (equal_b q.r.l p.r.l q.r.a p.r.a q.r.cap p.r.cap w ((pcs_pool (hm.pool 5 rfl) hem4.ok.inT) q (List.mem_of_getElem? hq)).1 ((pcs_pool (hm.pool 961 rfl) hf9.2) p (List.mem_of_getElem? hp)).1 (by omega) (by omega)).mono fun _ _ h => ⟨h.1.trans (congrArg Ending.returned (bool_as (decide_eq_true hqb))), h.2⟩) (by kernel_rfl) ?_
        refine G_last [21, 22] [(3, .pointer (some ⟨B1, 0, none⟩)), (0, .slice (some ⟨b7, of7, none⟩) n9.l.length n9.cap), (5, .pointer (some ⟨B3, 0, none⟩)), (7, .int .i64 ((min n9.l.length 64 : Nat) : Int)), (72, .slice (some ⟨b6, of6, none⟩) h4.t.l.length h4.t.cap), (73, .int .i64 ((h4.t.l.length : Nat) : Int)), (74, .int .i64 ((k : Nat) : Int)), (75, .bool (decide (((k : Nat) : Int) < ((h4.t.l.length : Nat) : Int)))), (76, .int .i64 ((k : Nat) : Int)), (77, .pointer (some ⟨b6, of6 + k * 3, none⟩)), (78, .agg #[.int .i64 q.to, .slice q.r.a q.r.l.length q.r.cap, .bool q.sp]), (11, .pointer (some ⟨B8, 0, none⟩)), (10, .int .i64 ((k : Nat) : Int)), (79, .pointer (some ⟨B8, 0, none⟩)), (80, .int .i64 q.to), (81, .slice (some ⟨b7, of7, none⟩) n9.l.length n9.cap), (82, .int .i64 ((k : Nat) : Int)), (83, .pointer (some ⟨b7, of7 + k * 3, none⟩)), (84, .pointer (some ⟨b7, of7 + k * 3, none⟩)), (85, .int .i64 p.to), (86, .bool false), (87, .bool false), (88, .pointer (some ⟨B8, 2, none⟩)), (89, .bool false), (90, .bool false), (91, .bool false), (92, .pointer (some ⟨B8, 1, none⟩)), (93, .slice q.r.a q.r.l.length q.r.cap), (94, .slice (some ⟨b7, of7, none⟩) n9.l.length n9.cap), (95, .int .i64 ((k : Nat) : Int)), (96, .pointer (some ⟨b7, of7 + k * 3, none⟩)), (97, .pointer (some ⟨b7, of7 + k * 3 + 1, none⟩)), (98, .slice p.r.a p.r.l.length p.r.cap), (99, .bool true), (100, .bool false), (101, .bool false)] (by kernel_rfl) (allM (all_cons (q_run (.bool false) rfl rfl (wv_y rfl rfl) rfl (fun _ _ hρ _ => r_not (b := true) (hρ _ _ rfl))) (all_cons (q_run (.bool false) rfl rfl (wv_n rfl) rfl (fun _ _ hρ _ => r_pick_f (hρ _ _ rfl) (hρ _ _ rfl))) all_nil))) (end_old rfl rfl (end_old rfl rfl (end_old rfl rfl (end_old rfl rfl (end_old rfl rfl (end_old rfl rfl (end_old rfl rfl (end_old rfl rfl (end_old rfl rfl (end_old rfl rfl (end_old rfl rfl (end_old rfl rfl (end_old rfl rfl (end_new 0 rfl rfl (end_new 1 rfl rfl (end_new 2 rfl rfl (end_new 3 rfl rfl (end_new 4 rfl rfl (end_new 5 rfl rfl (end_new 6 rfl rfl (end_new 7 rfl rfl (end_new 8 rfl rfl (end_new 9 rfl rfl (end_new 10 rfl rfl (end_new 11 rfl rfl (end_new 12 rfl rfl (end_new 13 rfl rfl (end_new 14 rfl rfl (end_new 15 rfl rfl (end_new 16 rfl rfl (end_new 17 rfl rfl (end_new 18 rfl rfl (end_new 19 rfl rfl (end_new 20 rfl rfl (end_new 21 rfl rfl (end_new 22 rfl rfl end_nil)))))))))))))))))))))))))))))))))))) ?_
        refine T_cond_f rfl ?_
        refine T_skip' ?_
        refine p_blk_n ?_
        refine p_seq ?_
        refine T_region ?_
        refine TL_q (.int .i64 ((k + 1 : Nat) : Int)) (fun _ _ hρ _ => r_as (r_add (hρ _ _ rfl) (hρ _ _ rfl)) (int_as ((wrap64 (by omega) (by omega)).trans (by omega)))) rfl rfl rfl (w_n rfl) ?_
        refine TL_q (.int .i64 ((k + 1 : Nat) : Int)) (fun _ _ hρ _ => r_move (hρ _ _ rfl)) rfl rfl rfl (w_n rfl) ?_
        refine TL_nil ?_
        exact p_at (k + 1) ⟨by omega, by omega⟩ (sub_cons rfl (sub_cons rfl (sub_cons rfl (sub_cons rfl (sub_cons rfl (sub_cons rfl (sub_cons rfl sub_nil))))))) (sub_cons rfl (sub_cons rfl (sub_cons rfl (sub_cons rfl (sub_cons rfl (sub_cons rfl (sub_cons rfl (sub_cons rfl (sub_cons rfl (sub_cons rfl sub_nil))))))))))
      · replace h2 := of_decide_eq_false h2
        refine T_exit' ?_
        refine p_then_x ?_
        refine p_then_x ?_
        refine p_blk_x ?_
        refine p_seq ?_
        by_cases hno : (toV h8.n.l to)[0]? = none
        · skip
          refine T_seq (T_region ?_)
          refine TL_q (.agg #[.slice h8.n.a h8.n.l.length h8.n.cap, .int .u64 h8.lost]) (fun _ _ hρ hm => r_loadA ag27 sz27 (hρ _ _ rfl) (hm.at 2 rfl) rfl rfl) rfl rfl rfl (w_n rfl) ?_
          refine TL_q (.int .i64 to) (fun _ _ hρ hm => r_load ag3 (hρ _ _ rfl) (hm.at 1 rfl) rfl) rfl rfl rfl (w_n rfl) ?_
          refine TL_call (.tuple #[.int .i64 0, .bool false]) (fun _ _ hρ _ => r_call (args := [.agg #[.slice h8.n.a h8.n.l.length h8.n.cap, .int .u64 h8.lost], .int .i64 to]) (enters_of Try.func17 (by kernel_rfl) rfl) (hρ _ _ rfl) ((cons2 (hρ _ _ rfl) (cons2 (hρ _ _ rfl) rfl))) rfl) (fun w hm => (first_ok h8.n.l h8.n.a h8.n.cap h8.lost to w (SliceAt.own Pcl.cells_len (hm.row 962 rfl) rfl rfl) (row_cap (hm.row 962 rfl)) (pcs_pool (hm.pool 963 rfl) hk8.ok.inN) (chk_of hk8.nv (ord_check hall hn66))).mono fun _ _ h => ⟨h.1.trans (congrArg Ending.returned (by rw [hno]; rfl)), h.2⟩) rfl rfl rfl (w_n rfl) ?_
          refine TL_q (.tuple #[.int .i64 0, .bool false]) (fun _ _ hρ _ => r_move (hρ _ _ rfl)) rfl rfl rfl (w_n rfl) ?_
          refine TL_q (.int .i64 0) (fun _ _ hρ _ => r_extract (hρ _ _ rfl) rfl) rfl rfl rfl (w_n rfl) ?_
          refine TL_q (.bool false) (fun _ _ hρ _ => r_extract (hρ _ _ rfl) rfl) rfl rfl rfl (w_n rfl) ?_
          refine TL_q (.int .i64 0) (fun _ _ hρ _ => r_assign (hρ _ _ rfl)) rfl rfl rfl (w_n rfl) ?_
          refine TL_q (.bool false) (fun _ _ hρ _ => r_assign (hρ _ _ rfl)) rfl rfl rfl (w_n rfl) ?_
          refine TL_seq ?_
          refine T_rowcap 960 rfl (fun hrc9 => ?_)
          refine T_seq (T_region ?_)
          refine TL_q (.slice n9.a n9.l.length n9.cap) (fun _ _ hρ _ => r_move (hρ _ _ rfl)) rfl rfl rfl (w_n rfl) ?_
          refine TL_q (.int .i64 ((min n9.l.length 64 : Nat) : Int)) (fun _ _ hρ _ => r_move (hρ _ _ rfl)) rfl rfl rfl (w_n rfl) ?_
          obtain ⟨l9, hl9, hn9⟩ : ∃ lz, lz = n9.l.take (min n9.l.length 64) ∧ lz.length = min n9.l.length 64 := ⟨_, rfl, by rw [List.length_take]; omega⟩
          refine TL_q (.slice n9.a l9.length n9.cap) (fun ρ _ hρ _ => r_as (r_sliceO sl22 sz36 (hρ _ _ rfl) (bd_none ρ _) (bd_some (n := min n9.l.length 64) (hρ _ _ rfl)) (bd_none ρ _) (by simp) (by omega) (by omega) (by omega)) (by rw [hn9]; exact slo_zero _ _ _ _)) rfl rfl rfl (w_n rfl) ?_
          refine TL_q (.func (.func 19) #[] #[.pointer (some ⟨B1, 0, none⟩)]) (fun _ _ hρ _ => r_makeFunc (by simp) (map_arr (cons2 (hρ _ _ rfl) rfl))) rfl rfl rfl (w_n rfl) ?_
          refine TL_call (.int .i64 (-1)) (fun _ _ hρ _ => r_call (args := [.slice n9.a l9.length n9.cap, .func (.func 19) #[] #[.pointer (some ⟨B1, 0, none⟩)]]) (enters_of Try.func18 (by kernel_rfl) rfl) (hρ _ _ rfl) ((cons2 (hρ _ _ rfl) (cons2 (hρ _ _ rfl) rfl))) rfl) (fun w hm => (pidx_c l9 n9.a n9.cap w (by have hs := SliceAt.front (l := n9.l) (SliceAt.own Pcl.cells_len (hm.row 960 rfl) rfl rfl) (n := min n9.l.length 64) (m := n9.cap) (by omega) (by omega) (by omega); rw [← hl9] at hs; exact hs) (row_cap (hm.row 960 rfl)) (PcsAt.sub (pcs_pool (hm.pool 961 rfl) hf9.2) (fun p hp => by rw [hl9] at hp; exact List.mem_of_mem_take hp)) 19 #[.pointer (some ⟨B1, 0, none⟩)] (enters_of Try.func19 (by kernel_rfl) rfl) (fun p => decide (p.to = to)) (fun w2 hb2 x hx => ordf_c x B1 to w2 (kept hb2 (hm.at 1 rfl)))).mono fun _ _ h => ⟨h.1.trans (congrArg Ending.returned (int_as ((ord_k hp8 hl9).trans (by rw [hno]; rfl)))), h.2⟩) rfl rfl rfl (w_n rfl) ?_
          refine TL_q (.int .i64 (-1)) (fun _ _ hρ _ => r_assign (hρ _ _ rfl)) rfl rfl rfl (w_n rfl) ?_
          refine TL_seq ?_
          refine T_seq (T_region ?_)
          refine TL_q (.bool false) (fun _ _ hρ _ => r_move (hρ _ _ rfl)) rfl rfl rfl (w_n rfl) ?_
          refine TL_q (.int .i64 (-1)) (fun _ _ hρ _ => r_move (hρ _ _ rfl)) rfl rfl rfl (w_n rfl) ?_
          refine TL_q (.bool false) (fun _ _ hρ _ => r_as (r_geq (hρ _ _ rfl) (hρ _ _ rfl)) (by rfl)) rfl rfl rfl (w_n rfl) ?_
          refine TL_q (.bool true) (fun _ _ hρ _ => r_as (r_eqlB (by kernel_rfl) (hρ _ _ rfl) (hρ _ _ rfl)) (by rfl)) rfl rfl rfl (w_n rfl) ?_
          refine TL_q (.bool true) (fun _ _ hρ _ => r_move (hρ _ _ rfl)) rfl rfl rfl (w_n rfl) ?_
          refine TL_q (.bool false) (fun _ _ hρ _ => r_move (hρ _ _ rfl)) rfl rfl rfl (want_y 118 rfl rfl rfl) ?_
          refine TL_q (.bool true) (fun _ _ hρ _ => r_not (b := false) (hρ _ _ rfl)) rfl rfl rfl (want_y 118 rfl rfl rfl) ?_
          refine TL_q (.bool true) (fun _ _ hρ _ => r_move (hρ _ _ rfl)) rfl rfl rfl (want_y 118 rfl rfl rfl) ?_
          refine TL_no rfl rfl (want_n 121 rfl rfl rfl) ?_
          refine TL_no rfl rfl (want_n 121 rfl rfl rfl) ?_
          refine TL_no rfl rfl (want_n 121 rfl rfl rfl) ?_
          refine TL_q (.bool true) (fun _ _ hρ _ => r_pick_t (hρ _ _ rfl) (hρ _ _ rfl)) rfl rfl rfl (want_y 118 rfl rfl rfl) ?_
          refine TL_q (.bool true) (fun _ _ hρ _ => r_pick_t (hρ _ _ rfl) (hρ _ _ rfl)) rfl rfl rfl (w_n rfl) ?_
          refine TL_q (.bool true) (fun _ _ hρ _ => r_assign (hρ _ _ rfl)) rfl rfl rfl (w_n rfl) ?_
          refine TL_seq ?_
          refine T_ret' ?_
          refine ret_of rfl (.bool true) (fun tmps w hk hm => res1 rfl (res_tmp (hk 4 _ rfl))) (fun w hm => ?_)
          exact ⟨rfl, hm.ext⟩
        · skip
          refine T_seq (T_region ?_)
          refine TL_q (.agg #[.slice h8.n.a h8.n.l.length h8.n.cap, .int .u64 h8.lost]) (fun _ _ hρ hm => r_loadA ag27 sz27 (hρ _ _ rfl) (hm.at 2 rfl) rfl rfl) rfl rfl rfl (w_n rfl) ?_
          refine TL_q (.int .i64 to) (fun _ _ hρ hm => r_load ag3 (hρ _ _ rfl) (hm.at 1 rfl) rfl) rfl rfl rfl (w_n rfl) ?_
          obtain ⟨i9, hi9⟩ := Option.ne_none_iff_exists'.1 hno
          refine TL_call (.tuple #[.int .i64 ((i9 : Nat) : Int), .bool true]) (fun _ _ hρ _ => r_call (args := [.agg #[.slice h8.n.a h8.n.l.length h8.n.cap, .int .u64 h8.lost], .int .i64 to]) (enters_of Try.func17 (by kernel_rfl) rfl) (hρ _ _ rfl) ((cons2 (hρ _ _ rfl) (cons2 (hρ _ _ rfl) rfl))) rfl) (fun w hm => (first_ok h8.n.l h8.n.a h8.n.cap h8.lost to w (SliceAt.own Pcl.cells_len (hm.row 962 rfl) rfl rfl) (row_cap (hm.row 962 rfl)) (pcs_pool (hm.pool 963 rfl) hk8.ok.inN) (chk_of hk8.nv (ord_check hall hn66))).mono fun _ _ h => ⟨h.1.trans (congrArg Ending.returned (by rw [hi9]; rfl)), h.2⟩) rfl rfl rfl (w_n rfl) ?_
          refine TL_q (.tuple #[.int .i64 ((i9 : Nat) : Int), .bool true]) (fun _ _ hρ _ => r_move (hρ _ _ rfl)) rfl rfl rfl (w_n rfl) ?_
          refine TL_q (.int .i64 ((i9 : Nat) : Int)) (fun _ _ hρ _ => r_extract (hρ _ _ rfl) rfl) rfl rfl rfl (w_n rfl) ?_
          refine TL_q (.bool true) (fun _ _ hρ _ => r_extract (hρ _ _ rfl) rfl) rfl rfl rfl (w_n rfl) ?_
          refine TL_q (.int .i64 ((i9 : Nat) : Int)) (fun _ _ hρ _ => r_assign (hρ _ _ rfl)) rfl rfl rfl (w_n rfl) ?_
          refine TL_q (.bool true) (fun _ _ hρ _ => r_assign (hρ _ _ rfl)) rfl rfl rfl (w_n rfl) ?_
          refine TL_seq ?_
          refine T_rowcap 960 rfl (fun hrc9 => ?_)
          refine T_seq (T_region ?_)
          refine TL_q (.slice n9.a n9.l.length n9.cap) (fun _ _ hρ _ => r_move (hρ _ _ rfl)) rfl rfl rfl (w_n rfl) ?_
          refine TL_q (.int .i64 ((min n9.l.length 64 : Nat) : Int)) (fun _ _ hρ _ => r_move (hρ _ _ rfl)) rfl rfl rfl (w_n rfl) ?_
          obtain ⟨l10, hl10, hn10⟩ : ∃ lz, lz = n9.l.take (min n9.l.length 64) ∧ lz.length = min n9.l.length 64 := ⟨_, rfl, by rw [List.length_take]; omega⟩
          refine TL_q (.slice n9.a l10.length n9.cap) (fun ρ _ hρ _ => r_as (r_sliceO sl22 sz36 (hρ _ _ rfl) (bd_none ρ _) (bd_some (n := min n9.l.length 64) (hρ _ _ rfl)) (bd_none ρ _) (by simp) (by omega) (by omega) (by omega)) (by rw [hn10]; exact slo_zero _ _ _ _)) rfl rfl rfl (w_n rfl) ?_
          refine TL_q (.func (.func 19) #[] #[.pointer (some ⟨B1, 0, none⟩)]) (fun _ _ hρ _ => r_makeFunc (by simp) (map_arr (cons2 (hρ _ _ rfl) rfl))) rfl rfl rfl (w_n rfl) ?_
          refine TL_call (.int .i64 ((i9 : Nat) : Int)) (fun _ _ hρ _ => r_call (args := [.slice n9.a l10.length n9.cap, .func (.func 19) #[] #[.pointer (some ⟨B1, 0, none⟩)]]) (enters_of Try.func18 (by kernel_rfl) rfl) (hρ _ _ rfl) ((cons2 (hρ _ _ rfl) (cons2 (hρ _ _ rfl) rfl))) rfl) (fun w hm => (pidx_c l10 n9.a n9.cap w (by have hs := SliceAt.front (l := n9.l) (SliceAt.own Pcl.cells_len (hm.row 960 rfl) rfl rfl) (n := min n9.l.length 64) (m := n9.cap) (by omega) (by omega) (by omega); rw [← hl10] at hs; exact hs) (row_cap (hm.row 960 rfl)) (PcsAt.sub (pcs_pool (hm.pool 961 rfl) hf9.2) (fun p hp => by rw [hl10] at hp; exact List.mem_of_mem_take hp)) 19 #[.pointer (some ⟨B1, 0, none⟩)] (enters_of Try.func19 (by kernel_rfl) rfl) (fun p => decide (p.to = to)) (fun w2 hb2 x hx => ordf_c x B1 to w2 (kept hb2 (hm.at 1 rfl)))).mono fun _ _ h => ⟨h.1.trans (congrArg Ending.returned (int_as ((ord_k hp8 hl10).trans (by rw [hi9]; rfl)))), h.2⟩) rfl rfl rfl (w_n rfl) ?_
          refine TL_q (.int .i64 ((i9 : Nat) : Int)) (fun _ _ hρ _ => r_assign (hρ _ _ rfl)) rfl rfl rfl (w_n rfl) ?_
          refine TL_seq ?_
          refine T_seq (T_region ?_)
          refine TL_q (.bool true) (fun _ _ hρ _ => r_move (hρ _ _ rfl)) rfl rfl rfl (w_n rfl) ?_
          refine TL_q (.int .i64 ((i9 : Nat) : Int)) (fun _ _ hρ _ => r_move (hρ _ _ rfl)) rfl rfl rfl (w_n rfl) ?_
          refine TL_q (.bool true) (fun _ _ hρ _ => r_as (r_geq (hρ _ _ rfl) (hρ _ _ rfl)) (bool_as (decide_eq_true (by omega)))) rfl rfl rfl (w_n rfl) ?_
          refine TL_q (.bool true) (fun _ _ hρ _ => r_as (r_eqlB (by kernel_rfl) (hρ _ _ rfl) (hρ _ _ rfl)) (by rfl)) rfl rfl rfl (w_n rfl) ?_
          refine TL_q (.bool true) (fun _ _ hρ _ => r_move (hρ _ _ rfl)) rfl rfl rfl (w_n rfl) ?_
          refine TL_q (.bool true) (fun _ _ hρ _ => r_move (hρ _ _ rfl)) rfl rfl rfl (want_y 118 rfl rfl rfl) ?_
          refine TL_q (.bool false) (fun _ _ hρ _ => r_not (b := true) (hρ _ _ rfl)) rfl rfl rfl (want_y 118 rfl rfl rfl) ?_
          refine TL_q (.bool false) (fun _ _ hρ _ => r_move (hρ _ _ rfl)) rfl rfl rfl (want_y 118 rfl rfl rfl) ?_
          refine TL_q (.int .i64 ((i9 : Nat) : Int)) (fun _ _ hρ _ => r_move (hρ _ _ rfl)) rfl rfl rfl (want_y 121 rfl rfl rfl) ?_
          refine TL_q (.int .i64 ((i9 : Nat) : Int)) (fun _ _ hρ _ => r_move (hρ _ _ rfl)) rfl rfl rfl (want_y 121 rfl rfl rfl) ?_
          refine TL_q (.bool true) (fun _ _ hρ _ => r_as (r_eql (hρ _ _ rfl) (hρ _ _ rfl)) (bool_as (by simp))) rfl rfl rfl (want_y 121 rfl rfl rfl) ?_
          refine TL_q (.bool true) (fun _ _ hρ _ => r_pick_f (hρ _ _ rfl) (hρ _ _ rfl)) rfl rfl rfl (want_y 118 rfl rfl rfl) ?_
          refine TL_q (.bool true) (fun _ _ hρ _ => r_pick_t (hρ _ _ rfl) (hρ _ _ rfl)) rfl rfl rfl (w_n rfl) ?_
          refine TL_q (.bool true) (fun _ _ hρ _ => r_assign (hρ _ _ rfl)) rfl rfl rfl (w_n rfl) ?_
          refine TL_seq ?_
          refine T_ret' ?_
          refine ret_of rfl (.bool true) (fun tmps w hk hm => res1 rfl (res_tmp (hk 4 _ rfl))) (fun w hm => ?_)
          exact ⟨rfl, hm.ext⟩
  · skip
    refine T_seq (T_region ?_)
    refine TL_call (.agg #[.slice none 0 0, .int .u64 0]) (fun _ _ hρ _ => r_call (args := []) (enters_of Try.func14 (by kernel_rfl) rfl) (hρ _ _ rfl) (by rfl) rfl) (fun w _ => nnew_c w) rfl rfl rfl (w_n rfl) ?_
    refine TL_q (.slice n9.a n9.l.length n9.cap) (fun _ _ hρ _ => r_move (hρ _ _ rfl)) rfl rfl rfl (w_n rfl) ?_
    refine TL_call (.tuple #[.agg #[.slice none 0 0, .int .u64 0], .int .i64 2]) (fun _ _ hρ _ => r_call (args := [.agg #[.slice none 0 0, .int .u64 0], .slice n9.a n9.l.length n9.cap]) (enters_of Try.func13 (by kernel_rfl) rfl) (hρ _ _ rfl) ((cons2 (hρ _ _ rfl) (cons2 (hρ _ _ rfl) rfl))) rfl) (fun w hm => send_arg [] none 0 0 n9.l n9.a n9.cap w (sliceNil w) (by decide) (pcsNil w) (SliceAt.own Pcl.cells_len (hm.row 960 rfl) rfl rfl) (row_cap (hm.row 960 rfl)) (pcs_pool (hm.pool 961 rfl) hf9.2) (Int.le_refl _) rfl hall) rfl rfl rfl (w_n rfl) ?_
    refine TL_q (.tuple #[.agg #[.slice none 0 0, .int .u64 0], .int .i64 2]) (fun _ _ hρ _ => r_move (hρ _ _ rfl)) rfl rfl rfl (w_n rfl) ?_
    refine TL_q (.agg #[.slice none 0 0, .int .u64 0]) (fun _ _ hρ _ => r_extract (hρ _ _ rfl) rfl) rfl rfl rfl (w_n rfl) ?_
    refine TL_q (.int .i64 2) (fun _ _ hρ _ => r_extract (hρ _ _ rfl) rfl) rfl rfl rfl (w_n rfl) ?_
    refine TL_new 8 (.cells #[.slice none 0 0, .int .u64 0] 27) (fun B => .pointer (some ⟨B, 0, none⟩)) (fun _ _ _ _ => r_alloc (v := .agg #[.slice none 0 0, .int .u64 0]) (by kernel_rfl) rfl) rfl rfl rfl (w_n rfl) ?_
    intro B11
    refine TL_store 8 (.cells #[.slice none 0 0, .int .u64 0] 27) rfl (fun _ _ hρ hm => r_store sz27 (hρ _ _ rfl) (hρ _ _ rfl) (hm.at 8 rfl) rfl rfl rfl rfl) rfl rfl (w_n rfl) ?_
    refine TL_q (.int .i64 2) (fun _ _ hρ _ => r_assign (hρ _ _ rfl)) rfl rfl rfl (w_n rfl) ?_
    refine TL_seq ?_
    refine T_seq ?_
    refine T_seq (T_region ?_)
    refine TL_q (.int .i64 2) (fun _ _ hρ _ => r_move (hρ _ _ rfl)) rfl rfl rfl (w_n rfl) ?_
    refine TL_q (.bool true) (fun _ _ hρ _ => r_as (r_neq (hρ _ _ rfl) (hρ _ _ rfl)) (by rfl)) rfl rfl rfl (w_n rfl) ?_
    refine TL_seq ?_
    refine T_cond_t rfl ?_
    refine T_seq (T_region ?_)
    refine TL_q (.int .i64 2) (fun _ _ hρ _ => r_move (hρ _ _ rfl)) rfl rfl rfl (w_n rfl) ?_
    refine TL_q (.bool true) (fun _ _ hρ _ => r_as (r_eql (hρ _ _ rfl) (hρ _ _ rfl)) (by rfl)) rfl rfl rfl (w_n rfl) ?_
    refine TL_q (.bool true) (fun _ _ hρ _ => r_move (hρ _ _ rfl)) rfl rfl rfl (w_n rfl) ?_
    refine TL_q (.pointer (some ⟨B11, 0, none⟩)) (fun _ _ hρ _ => r_fieldAddr fl27_0 sz22 (hρ _ _ rfl)) rfl rfl rfl (want_y 33 rfl rfl rfl) ?_
    refine TL_q (.slice none 0 0) (fun _ _ hρ hm => r_load ag22 (hρ _ _ rfl) (hm.at 8 rfl) rfl) rfl rfl rfl (want_y 33 rfl rfl rfl) ?_
    refine TL_q (.int .i64 0) (fun _ _ hρ _ => r_len sl22 (hρ _ _ rfl)) rfl rfl rfl (want_y 33 rfl rfl rfl) ?_
    refine TL_q (.bool true) (fun _ _ hρ _ => r_as (r_eql (hρ _ _ rfl) (hρ _ _ rfl)) (by rfl)) rfl rfl rfl (want_y 33 rfl rfl rfl) ?_
    refine TL_q (.bool true) (fun _ _ hρ _ => r_pick_t (hρ _ _ rfl) (hρ _ _ rfl)) rfl rfl rfl (w_n rfl) ?_
    refine TL_q (.bool true) (fun _ _ hρ _ => r_assign (hρ _ _ rfl)) rfl rfl rfl (w_n rfl) ?_
    refine TL_seq ?_
    refine T_sub [(3, .pointer (some ⟨B1, 0, none⟩)), (0, .slice n9.a n9.l.length n9.cap), (5, .pointer (some ⟨B11, 0, none⟩)), (6, .int .i64 2), (4, .bool true)] [(960, .row (.slice n9.a n9.l.length n9.cap) 36 3 n9.l.length (n9.l.flatMap Pcl.cells)), (961, .pool 5 1 byc b9), (1, .blk B1 (.cells #[.int .i64 to] 3)), (8, .blk B11 (.cells #[.slice none 0 0, .int .u64 0] 27))] (sub_cons rfl (sub_cons rfl (sub_cons rfl (sub_cons rfl (sub_cons rfl sub_nil))))) (sub_cons rfl (sub_cons rfl (sub_cons rfl (sub_cons rfl sub_nil)))) ?_
    refine T_ret' ?_
    refine p_then_r ?_
    refine ret_of rfl (.bool true) (fun tmps w hk hm => res1 rfl (res_tmp (hk 4 _ rfl))) (fun w hm => ?_)
    exact ⟨rfl, hm.ext⟩
end Go.Proofs.Ytcidgbjgeegepaa
/- Arguments that are slices of what lies in memory (slices of slices ..), read. Over any program. -/
namespace Go.Proofs.Ytcidgbjgeegepaa
open Go Go.RowKit Go.ChangeShapes Go.WideShapes Go.Deep
/-- Cells that are read at this type, in this memory, are those of some x. -/
def RdsAt (P : Program) (w : World) (t : TypeId) {α : Type} (f : α → List Value) (ok : α → Prop) : Prop :=
  ∀ (H : Type) (enc : TypeId × Value → H) (base : Nat) (spare : Nat → Bool) (held : Bool) (fuel : Nat) (cs : List Value) (x : DataW H × List MemPlace), DataW.trod enc P w base spare held fuel t cs = some x → ∃ a, cs = f a ∧ ok a
theorem Rds.at {P : Program} {t : TypeId} {α : Type} {f : α → List Value} {ok : α → Prop} (h : Rds P t f ok) (w : World) : RdsAt P w t f ok := fun H enc base spare held fuel cs x hx => h H enc w base spare held fuel cs x hx
theorem RdsAt.mapIf {P : Program} {w : World} {t : TypeId} {α β : Type} {f : α → List Value} {ok : α → Prop} (h : RdsAt P w t f ok) (g : α → β) {f' : β → List Value} {ok' : β → Prop} (hf : ∀ a, ok a → f a = f' (g a)) (ho : ∀ a, ok a → ok' (g a)) : RdsAt P w t f' ok' := by
  intro H enc base spare held fuel cs x hx
  obtain ⟨a, h1, h2⟩ := h H enc base spare held fuel cs x hx
  exact ⟨g a, by rw [h1, hf a h2], ho a h2⟩
/-- A slice that came in. -/
theorem read_sliceW {P : Program} {t e : TypeId} {s : Nat} {α : Type} {f : α → List Value} {ok : α → Prop} (ht : sliOf P t = some e) (hs : szOf P e = some s) (hf : ∀ x, (f x).length = s) (hsp : 0 < s) {w : World} (h : RdsAt P w e f ok)
    {H : Type} {enc : TypeId × Value → H} {base : Nat} {spare : Nat → Bool} {held : Bool} {fuel : Nat} {cs : List Value} {x : DataW H × List MemPlace} (hx : DataW.trod enc P w base spare held fuel t cs = some x) :
    ∃ (l : List α) (a : Option Addr) (cap : Nat), cs = [.slice a l.length cap] ∧ SliceAt w a cap s f l ∧ (∀ x ∈ l, ok x) ∧ cap ≤ Go.maxLen := by
  rcases open_slice (und_sli ht) hx with ⟨rfl, _⟩ | ⟨a, len, cap, m, n, D, Pl, rfl, hb, hl, hm, hmm, _, hi⟩
  · exact ⟨[], none, 0, rfl, sliceNil w, (fun x hx => by cases hx), by unfold Go.maxLen; omega⟩
  · have hlm : len ≤ m := by rw [hmm]; split <;> omega
    rw [cellsOf_sz hs] at hi
    by_cases h0 : len = 0
    · subst h0
      exact ⟨[], some a, cap, rfl, ⟨by simp, (fun e => by cases e), .inl rfl⟩, (fun x hx => by cases hx), hm⟩
    · obtain ⟨l, h1, h2⟩ := list_of (p := fun i y => (∀ j, j < s → w.cell? ((a.add (i * s)).add j) = (f y)[j]?) ∧ ok y) len (fun i hil => by
        obtain ⟨cs', hc, ht'⟩ := hi i (by omega)
        obtain ⟨y, hy, oy⟩ := h _ enc base spare held n _ _ ht'
        obtain ⟨_, _, hcell⟩ := World.cells?_some hc
        exact ⟨y, fun j hj => by rw [hcell j hj, hy], oy⟩)
      have hl0 : l[0]? = some (l[0]'(by omega)) := List.getElem?_eq_getElem (by omega)
      have hc0 := (h2 0 _ hl0).1 0 hsp
      rw [List.getElem?_eq_getElem (by rw [hf]; exact hsp)] at hc0
      simp only [Nat.zero_mul, Addr.add, if_true] at hc0
      obtain ⟨b, off, sp⟩ := a
      unfold World.cell? at hc0
      split at hc0
      · rename_i c T fz hheap
        split at hc0
        · cases hc0
        · rename_i hspot
          have hsp0 : sp = none := by simpa using hspot
          subst hsp0
          subst h1
          refine ⟨l, some ⟨b, off, none⟩, cap, rfl, ⟨hl, (fun e => by cases e), .inr ⟨b, off, c, T, fz, rfl, hheap, ?_⟩⟩, fun x hx => by obtain ⟨i, hi⟩ := List.getElem?_of_mem hx; exact (h2 i x hi).2, hm⟩
          intro i y hy
          have hcells : ∀ j, j < s → c[off + i * s + j]? = (f y)[j]? := fun j hj => by
            have := (h2 i y hy).1 j hj
            rw [addr_add, addr_add] at this
            simpa [World.cell?, hheap] using this
          have hsz : off + i * s + s ≤ c.size := by
            have := hcells (s - 1) (by omega)
            rw [List.getElem?_eq_getElem (by rw [hf]; omega)] at this
            have := (Array.getElem?_eq_some_iff.1 this).1
            omega
          refine ⟨hsz, ?_⟩
          apply Array.ext_getElem?
          intro j
          rw [Array.getElem?_extract]
          by_cases hj : j < s
          · rw [if_pos (by omega), hcells j hj]; simp
          · rw [if_neg (by omega)]
            rw [Array.getElem?_eq_none]
            simp [hf]; omega
      · cases hc0
theorem rds_slice {P : Program} {w : World} {t e : TypeId} {s : Nat} {α : Type} {f : α → List Value} {ok : α → Prop} (ht : sliOf P t = some e) (hs : szOf P e = some s) (hf : ∀ x, (f x).length = s) (hsp : 0 < s) (h : RdsAt P w e f ok) :
    RdsAt P w t (RowG.cells (α := α)) (fun r => r.ok s f w ∧ (∀ x ∈ r.l, ok x) ∧ r.cap ≤ Go.maxLen) := by
  intro H enc base spare held fuel cs x hx
  obtain ⟨l, a, cap, h1, h2, h3, h4⟩ := read_sliceW ht hs hf hsp h hx
  exact ⟨⟨a, cap, l⟩, h1, h2, h3, h4⟩
section
variable {P : Program} {w : World} {r : Reach} {b0 : Nat} {t : TypeId} {v : Value} {H : Type} {enc : TypeId × Value → H} {base : Nat} {spare : Nat → Bool} {held : Bool} {d : DataW H} {ps : List MemPlace}
theorem param_sliceW {e : TypeId} {s : Nat} {α : Type} {f : α → List Value} {ok : α → Prop} (ht : sliOf P t = some e) (hs : szOf P e = some s) (hf : ∀ x, (f x).length = s) (hsp : 0 < s) (hr : RdsAt P w e f ok) (hv : Value.okWide P w r b0 t v) (h : DataW.Trod enc P w base spare held t v d ps) :
    ∃ (l : List α) (a : Option Addr) (cap : Nat), v = .slice a l.length cap ∧ SliceAt w a cap s f l ∧ (∀ x ∈ l, ok x) ∧ cap ≤ Go.maxLen := by
  obtain ⟨fuel, hf'⟩ := h
  obtain ⟨l, a, cap, h1, h2, h3, h4⟩ := read_sliceW ht hs hf hsp hr hf'
  refine ⟨l, a, cap, ?_, h2, h3, h4⟩
  unfold Value.okWide at hv
  rw [und_sli ht] at hv
  cases v with
  | agg cs => simp [Cell.okWide, und_sli ht, Cell.ok] at hv
  | _ => simp [Value.cells] at h1 <;> simp [h1]
end
end Go.Proofs.Ytcidgbjgeegepaa
/- Arguments that are structs whose parts lie in memory, read. Over any program. -/
namespace Go.Proofs.Ytcidgbjgeegepaa
open Go Go.RowKit Go.ChangeShapes Go.WideShapes Go.Deep
section
variable {P : Program} {w : World} {t : TypeId}
theorem rdsA_field {i off n : Nat} {ft : TypeId} {α : Type} {f : α → List Value} {ok : α → Prop} (hfl : fldOf P t i = some (ft, off)) (hs : szOf P ft = some n) (h : RdsAt P w ft f ok)
    {H : Type} {enc : TypeId × Value → H} {base : Nat} {spare : Nat → Bool} {held : Bool} {fuel : Nat} {cs : List Value} {x : DataW H × List MemPlace} (hx : DataW.trod enc P w base spare held fuel t cs = some x) :
    ∃ a, (cs.drop off).take n = f a ∧ ok a := by
  obtain ⟨fs, hu, fl, hfi, rfl, rfl⟩ := und_fld hfl
  obtain ⟨xs, m, _, _, _, hlen, hg⟩ := DataW.trod_struct hu hx
  have hi := hg i fl hfi
  have hil : i < fs.size := (Array.getElem?_eq_some_iff.1 hfi).1
  rw [cellsOf_sz hs, List.getElem?_eq_getElem (by omega)] at hi
  exact h _ enc base spare held m _ _ hi
theorem cut1 {α : Type} {cs : List α} {a b : Nat} (h : cs.length = a + b) : cs = cs.take a ++ (cs.drop a).take b := by
  rw [List.take_of_length_le (l := cs.drop a) (by rw [List.length_drop]; omega), List.take_append_drop]
theorem rdsA3 {t0 t1 t2 : TypeId} {s0 s1 s2 : Nat} {α β γ : Type} {f0 : α → List Value} {f1 : β → List Value} {f2 : γ → List Value} {o0 : α → Prop} {o1 : β → Prop} {o2 : γ → Prop} (h0 : fldOf P t 0 = some (t0, 0)) (h1 : fldOf P t 1 = some (t1, s0)) (h2 : fldOf P t 2 = some (t2, s0 + s1)) (z0 : szOf P t0 = some s0) (z1 : szOf P t1 = some s1) (z2 : szOf P t2 = some s2)
    (z : szOf P t = some (s0 + s1 + s2)) (r0 : RdsAt P w t0 f0 o0) (r1 : RdsAt P w t1 f1 o1) (r2 : RdsAt P w t2 f2 o2) : RdsAt P w t (fun p : α × β × γ => f0 p.1 ++ (f1 p.2.1 ++ f2 p.2.2)) (fun p => o0 p.1 ∧ o1 p.2.1 ∧ o2 p.2.2) := by
  intro H enc base spare held fuel cs x hx
  obtain ⟨a, ha, oa⟩ := rdsA_field h0 z0 r0 hx
  obtain ⟨b, hb, ob⟩ := rdsA_field h1 z1 r1 hx
  obtain ⟨c, hc, oc⟩ := rdsA_field h2 z2 r2 hx
  have hl := rds_len h0 z hx
  refine ⟨(a, b, c), ?_, oa, ob, oc⟩
  show cs = f0 a ++ (f1 b ++ f2 c)
  rw [← ha, ← hb, ← hc, List.drop_zero, ← List.drop_drop]
  rw [← cut1 (cs := cs.drop s0) (by rw [List.length_drop]; omega), List.take_append_drop]
end
end Go.Proofs.Ytcidgbjgeegepaa
/- net: arguments of the laws, read. -/
namespace Go.Proofs.Ytcidgbjgeegepaa
open Go Go.RowKit Go.ChangeShapes Go.WideShapes
set_option maxRecDepth 10000
theorem Rds.mapIf {P : Program} {t : TypeId} {α β : Type} {f : α → List Value} {ok : α → Prop} (h : Rds P t f ok) (g : α → β) {f' : β → List Value} (hf : ∀ a, ok a → f a = f' (g a)) : Rds P t f' (fun _ => True) := by
  intro H enc w base spare held fuel cs x hx
  obtain ⟨a, h1, h2⟩ := h H enc w base spare held fuel cs x hx
  exact ⟨g a, by rw [h1, hf a h2], trivial⟩
theorem byte_back {n : Int} (h : (Lit.int .u8 n).wf = true) : ((BitVec.ofNat 8 n.toNat).toNat : Int) = n := by
  have := wf_u8 h
  rw [BitVec.toNat_ofNat]; omega
theorem rds_byte : Rds Try.prog 5 byc (fun _ => True) := (rds_int io5).mapIf (fun n => BitVec.ofNat 8 n.toNat) (fun n h => by show [Value.int .u8 n] = [Value.int .u8 _]; rw [byte_back h])
theorem rds_pcl (w : World) : RdsAt Try.prog w 36 Pcl.cells (fun p => p.r.ok 1 byc w ∧ p.r.cap ≤ Go.maxLen) :=
  RdsAt.mapIf (rdsA3 fl36_0 fl36_1 fl36_2 sz3 sz34 sz4 sz36 ((rds_int io3).at w) (rds_slice sl34 sz5 byc_len (by decide) (rds_byte.at w)) ((rds_bool (by kernel_rfl)).at w)) (fun p => ⟨p.1, p.2.1, p.2.2⟩) (fun _ _ => rfl)
    (fun _ h => ⟨h.2.1.1, h.2.1.2.2⟩)
theorem nord_any (xs : List Pcl) (a : Option Addr) (cap : Nat) (to : Int) (w : World) (hv : SliceAt w a cap 3 Pcl.cells xs) (hcap : cap ≤ Go.maxLen) (hx : ∀ p ∈ xs, p.r.ok 1 byc w ∧ p.r.cap ≤ Go.maxLen) : Calls Try.prog 3 #[.slice a xs.length cap, .int .i64 to] w fun e w' => e = .returned (.bool true) ∧ Below w.heap.size w w' := nord_c xs a cap to w hv hcap hx
end Go.Proofs.Ytcidgbjgeegepaa
